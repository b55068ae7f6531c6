/- Lemmas: W47, W48, W49, X10, X11, X12, X13, X02, Y01, Z14, Z15, Z16, Z17, Z07, Z08, Z18, Z01, Z02, Z03, Z04, Z19, Z20, Z21, Z22, Z23, Z24, Z25, Z26, Z27, Z28, Z29, Z30, Z31, Z32, Z41, Z42, Z43, Z44, Z45, Z46, Z47, Z49, Z50, EvA, EvB, EvC, EvD. -/
import Derived.Test.YtimmfiofbjpjbaaGreatDoorT04
set_option maxHeartbeats 16000000
set_option maxRecDepth 100000
set_option linter.all false
open List renaming length->I
open Option renaming some -> sO, none -> nO
open Inhabited renaming default -> dE
open Decidable renaming decide -> dC
open Go.Proofs.Tryz
open Array renaming getD_eq_getD_getElem? -> ZIh
open Bool renaming and_eq_true -> ZHG, false_and -> ZH8, false_eq_true -> ZH5, or_eq_true -> ZHT, true_and -> ZHX
open Go.DL.D.Le renaming refl -> ZHx
open Go.DL.St renaming single -> ZH1, sub_refl -> ZHw, sub_upd -> ZHV, upd_ne -> ZHD, upd_same -> ZHB, upd_upd -> ZHO
open Go.DL.Val renaming cells_eq -> ZHZ
open Go.Proofs.Tryz renaming prog -> ZHv
open Int renaming reduceEq -> ZId, reduceToNat -> ZHC
open List renaming append_assoc -> ZHY, append_nil -> ZH3, getD -> ZHL, getElem?_append_left -> ZHW, getElem?_append_right -> ZIf, getElem?_eq_getElem -> ZH6, getElem?_eq_none -> ZIi, getElem?_take -> ZIb, getElem_of_mem -> ZHR, length_append -> ZHF, length_cons -> ZHN, length_drop -> ZH9, length_map -> ZHS, length_take -> ZHQ, map_cons -> ZHM, map_nil -> ZH2, mem_cons -> ZIa, range -> ZHJ, take_length -> ZH0
open Nat renaming add_mul -> ZHU, le_refl -> ZHK, le_trans -> ZIg, mul_le_mul_right -> ZHP, reduceAdd -> ZHE, reduceEqDiff -> ZHz, reduceLeDiff -> ZHA
open Option renaming getD_some -> ZIc, map_eq_some_iff -> ZHI, map_some -> ZH4
open Option.some renaming injEq -> ZHu
namespace Go.DL
open Go Go.Proofs
variable {kp:Option (List Nat)}{L:Loc}{H:Env}{s:St}{w:World}{os:List DOp}{ds:List D}{B:List (Nat × Rd)}{dst:Option Nat}{tmps:Array Value}{g:G}{Φ:Res->St->Prop}{Z:Nat->Nat}{xs:List Opd}{side:Prop}{row:Nat->List D}
def Zkw{z st}:JY ZHv 63 [.ptr z 0] nO st λ_ S=>S=st:=by
 refine Zb5 (cR 63 f63) rfl ψ λF i=>?_;refine rg ?_;refine Zgp i rfl rfl ?_;refine gR0 ?_;refine rg ?_;refine cd (λh=>?_) (λh=>?_);simp at h;refine ZI ?_;exact i.fin ZHw rfl
def Zkx{z st c}(hc:I c=2)(q no)(hn:inR .i64 no)(hq:I q<=big)(hz:st z=sO (.cells c)):
  JY ZHv 63 [.ptr z 0] (sO (mfD q no)) st λb S=>b=true/\S=st.upd z (.cells [.str q,.int .i64 no]):=by
 obtain⟨t,u,rfl⟩:∃t u,c=[t,u]:=by
  match c,hc with
  | [t,u],_=>exact⟨t,u,rfl⟩
 refine Zb5 (cR 63 f63) rfl (by rintro d ⟨⟩;exact⟨hq,hn,trivial⟩) λF hF=>?_;refine rg ?_;refine Znm hF rfl rfl λF2 i=>?_;refine gR0 ?_;refine rx @mfD.eq_1 ?_;refine cd (λh=>?_) (λh=>?_);refine rx @mfD.eq_1 ?_;refine rg ?_;refine cd (λh5=>?_) (λh5=>?_);simp at h5;refine rx @hz ?_;exact i.fin ZHw ⟨rfl,rfl⟩;simp[mfD]at h
def Zs5(r:Str×Int):D:=.agg [.str (if r.2=0 then [] else r.1),.int .i64 r.2]
def ZpP(d:Dfn)(m:Msg)(v:Val)(R st)(hfit:∀S,Za ZHv 64 [.agg d.cells,.agg m.cells,.agg v.cells,.str []] S (ZG R S)):
  Za ZHv 34 [.agg d.cells,.agg m.cells,.agg v.cells] st λr S=>S=st/\r=.ret (Zs5 R):=by
 refine Zb (cR 34 f34) λF hF=>?_;rw[ZHZ]at hfit⊢;have i:=Zs5.eq_1 R;generalize Zs5 R=W at *;refine rx (nd2 @eQ2 @eQ3) ?_;refine Zc ?_;refine xP 6 λz hz=>?_;refine rg ?_;refine Zmq (by obtain⟨_,_,_,_,_,_,rfl⟩:=hF;rfl) rfl rfl rfl rfl rfl rfl trivial trivial ?_ ?_ ?_;trivial;exact⟨rfl,trivial⟩;have t:=hF.defer 63 [] [.ptr z 0];clear hF;refine gR0 ?_;generalize F.defer 63 [] [.ptr z 0]=F at t⊢;refine rg ?_;refine cV (hfit _) ?_ ?_;refine mfK λh0=>?_;rw[if_pos h0,h0]at i;refine gR0 ?_;refine rx (nd2 @ZHB @ZHO) ?_;refine t.retU ⟨trivial,⟨rfl,trivial⟩,Zbp Zkw ?_⟩;rintro b S3 rfl;rw[ite_self];have g3:=ZHB st z (.cells [.str [],.int .i64 0]);refine⟨_,[.agg [.str [],.int .i64 0]],_,st,by simp only[Eqs,reduceCtorEq,ZHC,reduceIte,ZHz,ZHE,ZHA,YC,Kn,g3];rfl,φ,ZHx _,ZHV _ hz,rfl,by rw[i];rfl⟩;refine mfP λh0=>?_;rw[if_neg h0]at i;refine Zqi λhw=>?_;have u:=DWf.agg_inv (DWf.iface_inv hw);have h1:inR .i64 R.2:=(u _ ψ).int_inv;have h2:=(u (.str R.1) ψ).str_inv;refine t.panU ⟨trivial,⟨rfl,trivial⟩,Zbp (Zkx rfl R.1 R.2 h1 h2 (ZHB _ _ _)) ?_⟩;rintro b S2 ⟨rfl,rfl⟩;have g3:=ZHB (st.upd z (.cells [.str [],.int .i64 0])) z (.cells [.str R.1,.int .i64 R.2]);refine⟨_,[.agg [.str R.1,.int .i64 R.2]],_,st,by simp only[Eqs,reduceCtorEq,ZHC,reduceIte,ZHz,ZHE,ZHA,YC,Kn,g3];rfl,φ,ZHx _,?_,rfl,by rw[i];rfl⟩;rw[ZHO];exact ZHV _ hz
def YV(d:Dfn)(s:Str)(v:Val):(Str×Int)×Int:=if Wi d&&Qo v then (if Zq d s (I d.msgs)<0 then (([],0),9) else ((if (Z7 d 51 (Zl d s) v []).2=0 then [] else (Z7 d 51 (Zl d s) v []).1,(Z7 d 51 (Zl d s) v []).2),(Z7 d 51 (Zl d s) v []).2)) else (([],0),2)
def Zgk{v}(h:Qo v=true)(t:Y2 v=true->wtN v<=5100/\ZZ v<=51):VOk v/\ZZ v<=51:=by
 have i:Y2 v=true:=by unfold Qo at h;simp only[ZHG]at h;simp_all
 exact⟨⟨i,(t i).1⟩,(t i).2⟩
def Zrs(hI:Jd)(d s v)(hs:Y2 v=true->wtN v<=5100/\ZZ v<=51):
  Zf ZHv 21 [.agg d.cells,.str s,.agg v.cells] (.tup [.agg [.str (YV d s v).1.1,.int .i64 (YV d s v).1.2],.int .i64 (YV d s v).2]):=by
 refine Zi (cR 21 f21) λF st i=>?_;have hA:=Zur d s v;have u:=YV.eq_1 d s v;have hT:=atR.eq_1 d s v;generalize YV d s v=W at *;generalize atR d s v=X at *;cases ha:Wi d&&Qo v with
 |false =>rw[ha,if_neg ψ]at u hT;subst u;subst hT;rw[ZHZ]at *;refine rx @eQ2 ?_;refine rg ?_;refine cl (hA) ?_;refine rg ?_;refine i1 ?_;refine rg ?_;refine rt i ?_;rfl
 |true =>
  rw[ha,if_pos rfl]at u hT;by_cases hf:Zq d s (I d.msgs)<0;rw[if_pos hf]at u hT;subst u;subst hT;rw[ZHZ]at *;refine rx @eQ2 ?_;refine rg ?_;refine cl (hA) ?_;refine rg ?_;refine i1 ?_;refine rg ?_;refine rt i ?_;rfl;rw[if_neg hf]at u hT;subst hT;simp only[ZHG]at ha;have t:=QR (d:=d) (s:=s) ω;obtain⟨hv,hh⟩:=Zgk ha.2 hs;have hF:Zf ZHv 34 [.agg d.cells,.agg (Zl d s).cells,.agg v.cells] (Zs5 (Z7 d 51 (Zl d s) v [])):=λst =>
   (ZpP d (Zl d s) v (Z7 d 51 (Zl d s) v []) st λS=>Zky hI (Zab ha.1) 51 (ixS d s) v [] S t.2 hv hh ψ).mono λr S ⟨h1,h2⟩=>⟨h2,h1⟩
  generalize Z7 d 51 (Zl d s) v []=R at *;unfold Zs5 at hF;generalize (if R.2=0 then [] else R.1)=q at *;subst u;generalize Zl d s=m at *;rw[ZHZ]at *;refine rx @eQ2 ?_;refine rg ?_;refine cX @eQ3 (hA) ?_;refine rg ?_;refine iG ?_;refine cl (hF) ?_;refine rg ?_;refine rt i ?_;rfl
def ZbV{d s v}(h:(YV d s v).2=0):QM d/\Qo v=true/\0<=Zq d s (I d.msgs)/\(Z7 d 51 (Zl d s) v []).2=0:=by
 unfold YV at h;split at h;rename_i i;rw[ZHG]at i;split at h;simp at h;exact⟨Zab i.1,i.2,ω,h⟩;simp at h
def Zwl(d:Dfn)(s:Str)(v:Val):Int:=if (YV d s v).2=0 then lenS d 51 (Zl d s) v else 0
def ZjY{r1 r2}:∀{l b},(∀y∈l,r1 y=r2 y)->YM r1 l b=YM r2 l b
 | [],_,_=>rfl
 |y::l,b,h=>by simp only[YM];rw[h y ψ];exact ZjY λz i=>h z (by simp[i])
def Zgt{r1 r2}:∀{i ps b},(∀x∈ps,∀y∈x.parts,r1 y=r2 y)->Wv r1 i ps b=Wv r2 i ps b
 | [],_,_,_=>rfl
 |f::i,ps,b,h=>by
  simp only[Wv];split
  .have u:∀y∈(ps.getD 0 dE).parts,r1 y=r2 y:=λy t=>by
    cases ps with
    |nil=>simp[show(dE:Val).parts=[] from rfl,ZHL]at t
    |cons x r=>exact h x ψ y (by simpa[ZHL]using t)
   rw[ZjY u];exact Zgt λx hx=>h x (List.mem_of_mem_drop hx)
  exact Zgt h
def Zwg{l x}(h:x∈l):ZZ x<=heightL l:=by
 induction l with
 |nil=>simp at h
 |cons v r ih =>simp only[heightL];rcases List.mem_cons.1 h with rfl|h;omega;have:=ih h;omega
def Jw{v x}(h:x∈v.parts):ZZ x+1<=ZZ v:=by
 have:=Zwg h;rw[KQ v];omega
def ZlZ{g l q}(h:((WQ g l).getD (q,0)).2=0):∀i∈l,(g i).2=0:=by
 cases t:WQ g l with
 |none=>exact Zgz t
 |some r=>rw[t]at h;exact absurd h (ZgB t)
section
variable {mis:Msg->Val->Str->Str × Int} {len:Msg->Val->Int} {d:Dfn} {f:Fld} {x:Val} {q:Str} {l:List (Str × Int)}
def ZCQ(h:f.kind=8):K8 mis len d f x q l=Q7 mis d f.of x q:=by
 unfold K8;rw[if_neg ω,if_neg ω,if_neg ω,if_neg ω,if_neg ω,if_pos h]
def ZBD(h:f.kind=12):K8 mis len d f x q l=if (Q7 mis d f.of x q).2=0 then (q,Kx (len (Zl d f.of) (x.parts.getD 0 dE)) (Zev f.size l)) else Q7 mis d f.of x q:=by
 unfold K8;rw[if_neg ω,if_neg ω,if_neg ω,if_neg ω,if_neg ω,if_neg ω,if_neg ω,if_pos h]
end
mutual
def ZCR:Val->Val
 |.mk n _ b h p=>.mk n 0 b h (plainL p)
def plainL:List Val->List Val
 | []=>[]
 |v::r=>ZCR v::plainL r
end
section
variable {d:Dfn} {m:Msg} {rec:Msg->Val->Val} (hrec:∀ s y,ZCR (rec (Zl d s) y)=ZCR y)
include hrec
end
def ZDI(m:Msg):Prop:=∀f∈vfs m.fields,YE f=true->0<=f.low/\f.high<34359738368
section
variable {d:Dfn} {m:Msg} {rec:Msg->Val->Val} (hrec:∀ s y,Y2 y=true->Y2 (rec (Zl d s) y)=true) (hm:ZDI m)
include hrec
end
section
variable {T A S:St} {v:Val} {l:List Fld} {P:List Val} {c:List D} {fp:List Nat} {x cap:Nat} {row row':Nat->List D} {f:Nat->List Nat} {X:List D} {z5 z6 z7:Nat}
end
def ZDn{f args i T Ln d}(u:∀b∈Ln,∃ds,T b=sO (.cells ds))(hl:LdC T Ln args i)(hc:Zf ZHv f i d)(hd:SC (λb=>((λ_=>nO:St) b).isSome=true) d):Za ZHv f args T λr S=>r=.ret d/\S=T:=by
 have h:=Za.lend u hl (hc λ_=>nO) (λr S t=>by
  obtain⟨rfl,rfl⟩:=t;exact⟨hd,λb o h=>by simp at h⟩)
 refine h.mono λr S hS=>?_;obtain⟨S',⟨t,rfl⟩,_,rfl⟩:=hS;exact⟨t,ZgP T⟩
section
variable {T A S:St} {v:Val} {l:List Fld} {P:List Val} {c:List D} {fp:List Nat} {x cap:Nat} {row row':Nat->List D} {f:Nat->List Nat} {X:List D} {z5 z6 z7:Nat}
end
def ZC8(b):(ZHJ (I b)).map (λi=>ZaV (u8C (b.getD i dE)))=b:=by
 refine List.ext_getElem ψ λi h1 t=>?_;have:=b[i].toNat_lt;simp[ZHL,t,u8C,ZaV]
def ZtT{L s}(b):qv L s (.conv .b2s) [.d (Zh b)]=sO (∀i,i<I b->ZgF (u8C (b.getD i dE)),.d (.str b)):=by
 have:qv L s (.conv .b2s) [.d (Zh b)]=sO (∀i,i<I b->ZgF (u8C (b.getD i dE)),.d (.str ((ZHJ (I b)).map λi=>ZaV (u8C (b.getD i dE))))):=rfl;rw[this,ZC8]
def Zvx(b:Str):∀i,i<I b->ZgF (u8C (b.getD i dE)):=λi _=>⟨_,rfl⟩
def Zs4{g w t Ln}(hs:Ya g t w)(hL:∀b∈Ln,∃ds,t b=sO (.cells ds)):Ya (Ky g t Ln) (t.delL Ln) w:=by
 have hx:=Ju hs hL;have u:∀c,c∉Ln->(Ky g t Ln).prot c=g.prot c:=λc hc=>by simp only[Ky,if_neg hc]
 refine⟨λc x i=>?_,λc x i=>?_,λc hc=>?_,λn cs hc=>(hs.tabs n cs hc).mono hx⟩;simp only[St.delL]at i;by_cases hc:c∈Ln;simp[hc]at i;simp only[hc,if_false]at i;exact(hs.obj c x i).mono hx rfl (u c hc);simp only[St.delL]at i;by_cases hc:c∈Ln;simp[hc]at i;simp only[hc,if_false]at i;exact hs.kept c x i;have h1:=hs.fresh c hc;refine⟨(u c λh=>?_).trans h1.1,h1.2⟩;obtain⟨ds,hd⟩:=hL c h;have:=(hs.obj c _ hd).lt;omega
def Za.freeze{f args T Φ Ψ}(h:Za ZHv f args T Φ)(hΦ:∀r S,Φ r S->∃Ln d i,r=.ret d/\(∀b∈Ln,∃ds,S b=sO (.cells ds))/\ZV S Ln d i/\Ψ (.ret i) (S.delL Ln)):Za ZHv f args T Ψ :=
 ⟨h.1,λg w vs hs ha=>(h.2 g w vs hs ha).mono λe w' ⟨g',S',r,he,u,hr,hq⟩=>by
  obtain⟨Ln,d,i,rfl,t,hl,hΨ⟩:=hΦ _ _ hq;have hx:=Ju u t;refine⟨Ky g' S' Ln,S'.delL Ln,.ret i,he.trans hx,Zs4 u t,?_,hΨ⟩;cases e<;>simp only[Znr]at hr⊢;exact hl _ w' _ (ZeG u t) (Rep.mono hr hx)⟩
def ZV.mslO{t:St}{Ln:List Nat}{b off n cap sz:Nat}(hb:b∈Ln)(ht:t b=sO (.cells ds))(hlen:off+n*sz<=I ds)(hrow:∀i,i<n->LdC t Ln ((ds.drop (off+i*sz)).take sz) (row i)):ZV t Ln (.msl b off n cap sz) (.sl .none n sz row):=by
 intro g w v hf hr;obtain⟨vs,T,hh,hsz,hc,one,hp⟩:=hf b hb ds ht;cases hr with
 |mslx a _ _ _=>exact .sl0 _ _ _ _ ψ
 |msl _ _ _ _ _ hcap hbig =>
 have ab:∀i j,i<n->j<sz->off+i*sz+j<I ds:=λi j hi hj=>by have:(i+1)*sz<=n*sz:=ZHP _ hi;rw[ZHU,Nat.one_mul]at this;omega
 have u:∀i j,i<n->j<sz->vs[off+i*sz+j]?=sO (vs.getD (off+i*sz+j) undef):=λi j hi hj=>by have h1:=ab i j hi hj;simp only[ZIh,Array.getElem?_eq_getElem (show off+i*sz+j<vs.size by omega),ZIc]
 have ac:∀i j,i<n->j<sz->vs.getD (off+i*sz+j) undef∈vs:=λi j hi hj=>by have h1:=ab i j hi hj;simp only[ZIh,Array.getElem?_eq_getElem (show off+i*sz+j<vs.size by omega),ZIc];exact Array.getElem_mem _
 have ad:∀i,i<n->(row i).length=sz:=λi hi=>by rw[<-(hrow i hi).len,ZHQ,ZH9];have:(i+1)*sz<=n*sz:=ZHP _ hi;rw[ZHU,Nat.one_mul]at this;omega
 refine .sl b off n cap sz row .none (λi j=>vs.getD (off+i*sz+j) undef) ad (λi j hi hj=>?_) (λi j hi hj=>?_) (λi j d hi hd=>?_) (λi j hi hj=>one _ (ac i j hi hj)) trivial hcap hbig;rw[KX hh];exact u i j hi hj;have:=ab i j hi hj;omega;have hj:j<sz:=by rw[<-ad i hi];exact(List.getElem?_eq_some_iff.1 hd).1
 obtain⟨x,hx,ae⟩:=(hrow i hi).get hd;rw[ZIb,if_pos hj,List.getElem?_drop]at hx;exact ae g w _ hf (hc _ _ x (u i j hi hj) hx)
def ZwX{l:List UInt8}{x n c off:Nat}{X:List D}{Ln:List Nat}(u:x∈Ln)(h:s x=sO (.cells ((l.map u8C).flatten++X)))(t:n=(l.drop off).length)(ho:off<=I l):ZV s Ln (.msl x off n c 1) (Zh (l.drop off)):=by
 subst t;rw[ZeL]at h;refine ZV.mslO u h (by rw[ZHF,ZHS,ZH9];omega) λj i=>?_;rw[ZH9]at i;rw[Nat.mul_one];have:(((l.map λc=>D.int .u8 c.toNat)++X).drop (off+j)).take 1=u8C ((l.drop off).getD j dE):=by rw[List.drop_append_of_le_length (by rw[ZHS];omega),<-List.map_drop,Wp ω,ZHM,List.cons_append,List.take_succ_cons,List.take_zero];simp[u8C,ZHL,List.getElem?_drop]
 rw[this];exact LdC.refl _
def Zqg{P}{F:Fr P}{dk:List WW}{s T:St}{l:List UInt8}{D1 ob t}(hB:Buf s 1 (l.map u8C) D1 ob)(u:T.sub s)(hob:∀x,ob=sO x->T x=nO)(k:Zw F dk [(t,.d (Zh l))] [] T):Zw F dk [(t,.d D1)] [] s:=by
 cases hB with
 |nil h =>have hl:l=[]:=List.map_eq_nil_iff.1 h;subst hl;exact KF u (ZuM (.cons (.d (YL λb h=>by cases h)) .nil) .nil k)
 |obj x cap X h hX hc =>
  have i:(l.map u8C).length=I l:=by rw[ZHS]
  refine Zi3 (H':=[(t,.d (Zh l))]) (L':=[]) [x] (λb hb=>by simp only[List.mem_singleton]at hb;subst hb;exact⟨_,h⟩) ?_ ?_ (KF (λy o hy=>?_) k);refine .cons ?_ .nil;rw[i];exact ZwX (off:=0) ψ h rfl (Nat.zero_le _);exact .nil;have:=hob x rfl;simp only[St.delL,List.mem_singleton];rw[if_neg λe=>by rw[e,this]at hy;cases hy];exact u y o hy
def ZBm{f args}{T:St}{n c sz:Nat}(h:Za ZHv f args T λr S=>∃z,T z=nO/\r=.ret (.msl z 0 n c sz)/\S=T.upd z (.cells ds))(hl:n*sz<=I ds)(hr:∀j,j<n->(ds.drop (j*sz)).take sz=row j):
  Za ZHv f args T λr S=>r=.ret (.sl .none n sz row)/\S=T:=Za.freeze h λr S ⟨z,hz,i,t⟩=>by
 subst t;refine⟨[z],_,_,i,λb u=>?_,ZV.msl (List.mem_singleton.2 rfl) (ZHB _ _ _) hl λj hj=>?_,rfl,?_⟩;rw[List.mem_singleton.1 u];exact⟨_,ZHB _ _ _⟩;rw[hr j hj];exact LdC.refl _;funext y;simp only[St.delL,List.mem_singleton];by_cases h:y=z;rw[if_pos h,h,hz];rw[if_neg h,ZHD _ _ h]
def Znc(k:Int):Zf ZHv 155 [Qw [k],.int .i64 8] (Qw (List.replicate 8 k)):=λT=>by
 refine ZBm (n:=8) (c:=8) (sz:=1) (row:=λi=>itC ((List.replicate 8 k).getD i dE)) (ZlS k T) (by rw[List.length_replicate];omega) λj hj=>?_;rcases(by omega:j=0\/j=1\/j=2\/j=3\/j=4\/j=5\/j=6\/j=7) with rfl|rfl|rfl|rfl|rfl|rfl|rfl|rfl<;>rfl
def Zkb:Nat->List Nat->List Nat
 |0,s=>s
 |n+1,s=>Zkb n (Zgv 8 0 s)
def Zys(s):Zkb 0 s=s:=rfl
def Zyr(n s):Zkb (n+1) s=Zkb n (Zgv 8 0 s):=rfl
def S16.rnd:∀{n s},S16 s->S16 (Zkb n s)
 |0,_,h=>h
 |n+1,s,h=>S16.rnd (n:=n) h.dbl
def leW(v:Nat):List UInt8:=[UInt8.ofNat v,UInt8.ofNat (v / 256),UInt8.ofNat (v / 65536),UInt8.ofNat (v / 16777216)]
def Zin(R s:List Nat):Nat->List UInt8
 |0=>[]
 |i+1=>Zin R s i++leW ((R.getD i 0+s.getD i 0) % 4294967296)
def ZmY{R s}:∀{n},(Zin R s n).length=4*n
 |0=>rfl
 |n+1=>by rw[Zin,ZHF,ZmY];simp only[leW,ZHN,List.length_nil];omega
def ZhN(s:List Nat):List UInt8:=Zin (Zkb 10 s) s 16
def ZrT(v:Nat)(k:Nat):IntKind.u8.wrap ((v / k:Nat):Int)=((UInt8.ofNat (v / k)).toNat:Int):=by
 rw[UInt8.toNat_ofNat'];have i:∀n:Nat,IntKind.u8.wrap (n:Int)=(n:Int) % 256:=λn=>rfl;rw[i];omega
def ZpU(v:Nat){k:Nat}(i:k<=32):QE .u32 (v:Int) (k:Int)=((v / 2 ^ k:Nat):Int):=by
 unfold QE;rw[Int.toNat_natCast,show Nat.min k IntKind.u32.bits=k from Nat.min_eq_left i,Int.fdiv_eq_ediv_of_nonneg _ (by exact_mod_cast Nat.zero_le _)]
 push_cast
 rfl
def ZnB{s:List Nat}(hs:S16 s):Zf ZHv 200 [.agg (s.map w32)] (Zh (ZhN s)):=by
 refine Zi (cR 200 f200) λF st ae=>?_;obtain⟨R,hR⟩:∃R,Zkb 10 s=R:=⟨_,rfl⟩;have hB:ZhN s=Zin R s 16:=by unfold ZhN;rw[hR]
 have hRS:S16 R:=by rw[<-hR];exact hs.rnd
 rw[hB]at ae;have hL:(List.map w32 s).length=16:=by rw[ZHS];exact hs.1
 have hT:List.take 16 (List.map w32 s)=List.map w32 s:=List.take_of_length_le ω;refine rg ?_;refine xA (nd2 @hL @hT) ?_;refine Zc (Zc ?_);refine xP 3 λz hz=>?_;refine rg ?_;refine Zd (fr (10) (λi Q=>∀s1,S16 s1->Zkb (10-i) s1=R->i<=10->Q [(1,.loc 1 0),(3,.d (.ptr z 0)),(8,.d (.int .i64 i))] [(1,s.map w32)] (st.upd z (.cells (s1.map w32)))) (λn ad=>?_) λax=>?_)
 .intro i hn2 s1 ac hp hi;refine rg ?_;refine Zc (Zn rfl trivial (λhd=>?_) (λhd=>?_));simp only[decide_eq_true_eq]at hd;rw[show 10-i=(10-(i+1))+1 by omega,Zyr]at hp;refine rg ?_;refine cV (ZmE ac (ZHB _ _ _)) ?_ ?_;rintro d S ⟨hr,hS⟩;rw[ZHO]at hS;subst hS;cases hr;refine gR0 ?_;refine gA ?_;refine Ze ?_;exact ad ((10)-(i+1)) ω (i+1) rfl _ ac.dbl hp ω;rintro d S ⟨hr,_⟩;cases hr;simp only[decide_eq_false_iff_not]at hd;obtain rfl:i=10:=ω;rw[Nat.sub_self,Zys]at hp;subst hp;refine rg ?_;refine⟨ω,ω,ω,by unfold big;omega,λx hx=>?_⟩;obtain⟨av,aj⟩:=Zo hx;have ap:(List.map w32 s1).length=16:=by rw[ZHS];exact ac.1
  have aq:List.take 16 (List.map w32 s1)=List.map w32 s1:=List.take_of_length_le ω;have aw:∀o,((st.upd z (.cells (s1.map w32))).upd x o) z=sO (.cells (s1.map w32)):=λo=>by rw[ZHD _ _ av.symm,ZHB]
  have ao:Buf ((st.upd z (.cells (s1.map w32))).upd x (.cells (W0 [D.int .u8 0] 64))) 1 ((Zin s1 s 0).map u8C) (.msl x 0 0 64 1) (sO x):=.obj x 64 (W0 [D.int .u8 0] 64) (ZHB _ _ _) rfl (Nat.zero_le _);refine xA (nd2 @aw (nd2 @ap @aq)) ?_;refine Zd (fr (16) (λj Q=>∀D1 ob S1,Buf S1 1 ((Zin s1 s j).map u8C) D1 ob->st.sub S1->(∀y,ob=sO y->st y=nO)->j<=16->Q [(1,.loc 1 0),(4,.d D1),(13,.d (.agg (s1.map w32))),(14,.d (.int .i64 j))] [(1,s.map w32)] S1) (λn u=>?_) λak=>?_)
  .intro j hn3 D1 ob S1 ab t ai hj;refine rg ?_;refine Zc (Zn rfl trivial (λaf=>?_) (λaf=>?_))
   .simp only[decide_eq_true_eq]at af;have hRl:=ac.1;have hsl:=hs.1;have r1:=ZhA (s:=s1) (q:=j) ω;have r2:=ZhA (s:=s) (q:=j) ω;have au:Zin s1 s (j+1)=Zin s1 s j++leW ((s1.getD j 0+s.getD j 0) % 4294967296):=rfl;have hol:=ZmY (R:=s1) (s:=s) (n:=j);refine xA @r1 ?_;have wv:IntKind.u32.wrap ((s1.getD j 0:Nat)+(s.getD j 0:Nat):Int)=(((s1.getD j 0+s.getD j 0) % 4294967296:Nat):Int):=by rw[<-ZbP];push_cast;rfl
    have lv:(s1.getD j 0+s.getD j 0) % 4294967296<4294967296:=Nat.mod_lt _ (by decide);refine rh ?_;refine WH ?_;simp only[Eqs,reduceCtorEq,ZHC,reduceIte,ZHz,ZHE,ZHA,WY,Ku,r2,hL];refine aa ?_;refine ZbS rfl rfl rfl φ (WH ?_);simp only[Eqs,reduceCtorEq,ZHC,reduceIte,ZHz,ZHE,ZHA,WY,Ku,wv];generalize (s1.getD j 0+s.getD j 0) % 4294967296=v at *;have h8:QE .u32 (v:Int) 8=((v / 256:Nat):Int):=ZpU v (k:=8) (by decide);have al:QE .u32 (v:Int) 16=((v / 65536:Nat):Int):=ZpU v (k:=16) (by decide);have am:QE .u32 (v:Int) 24=((v / 16777216:Nat):Int):=ZpU v (k:=24) (by decide);have c0:IntKind.u8.wrap (v:Int)=((UInt8.ofNat v).toNat:Int):=by have:=ZrT v 1;rwa [Nat.div_one]at this
    have c1:=ZrT v 256;have c2:=ZrT v 65536;have c3:=ZrT v 16777216;refine xA (nd2 @h8 (nd2 @al (nd2 @am (nd2 @c0 (nd2 @c1 (nd2 @c2 @c3)))))) ?_;refine ZkU rfl rfl (ab) (by exact ZeK) rfl rfl φ φ (.elems rfl) (by rw[ZHS];omega) (by rw[ZHS];unfold big;omega) (by (show _=(leW v).map u8C;rfl)) (by exact ZeK) λs1 D1 ay ab ag=>?_;refine gR0 ?_;refine gA ?_;have ah:∀y o,st y=sO o->ob≠sO y:=λy o hy e=>by rw[ai y e]at hy;cases hy
    refine Ze ?_;exact u ((16)-(j+1)) ω (j+1) rfl D1 ay s1 (by rw[au,List.map_append];exact ab) (λy o hy=>(ag y o (t y o hy) (ah y o hy)).1) (λy e=>by
     cases hy:st y with
     |none=>rfl
     |some o=>exact absurd e (ag y o (t y o hy) (ah y o hy)).2) ω
   simp only[decide_eq_false_iff_not]at af;obtain rfl:j=16:=ω;refine rg ?_;refine Zqg ab t ai ?_;exact ae rfl φ (ZHx _) ZHw
  have ar:st.sub ((st.upd z (.cells (s1.map w32))).upd x (.cells (W0 [D.int .u8 0] 64))):=λy o hy=>by
   have e1:y≠x:=λe=>by rw[e,aj]at hy;cases hy
   have e2:y≠z:=λe=>by rw[e,hz]at hy;cases hy
   rw[ZHD _ _ e1,ZHD _ _ e2];exact hy
  exact ak _ 0 rfl _ _ _ ao ar (λy e=>by cases e;exact aj) ω
 exact ax _ 0 rfl s hs hR ω
def ZeB(v:Int):Bool:=dC (0<=v)&&dC (v<=4294967295)
def Zhb(v:Int):Zf ZHv 154 [.int .i64 v] (.bool (ZeB v)):=by
 refine Zi (cR 154 f154) λF st i=>?_;refine gG ?_;refine rb i ?_;unfold ZeB;cases dC (0<=v)<;>rfl
def Zlv{v:Int}:Zf ZHv 199 [.int .i64 v] (.bool (!ZeB v)):=by
 refine Zi (cR 199 f199) λF st i=>?_;refine gG ?_;refine cl (Zhb v) ?_;refine rb i ?_;rfl
def ZgJ(k c:Nat):List Nat:=[1634760805,857760878,2036477234,1797285236,k,k,k,k,k,k,k,k,c,0,0,0]
def ZjM(k c:Nat):List Int:=[1634760805,857760878,2036477234,1797285236,k,k,k,k,k,k,k,k,c,0,0,0]
def ZBt{k c}(hk:k<4294967296)(hc:c<4294967296):S16 (ZgJ k c):=⟨rfl,λx i=>by
 simp only[ZgJ,ZIa,List.not_mem_nil,or_false]at i;omega⟩
def ZBs{k c}(u:k<4294967296)(t:c<4294967296)(i:Nat)(hi:i<16):IntKind.u32.wrap ((ZjM k c).getD i dE)=((ZgJ k c).getD i 0:Nat):=by
 have h:∀n:Nat,n<4294967296->IntKind.u32.wrap (n:Int)=(n:Int):=λn hn=>by rw[ZbP,Nat.mod_eq_of_lt hn]
 rcases(by omega:i=0\/i=1\/i=2\/i=3\/i=4\/i=5\/i=6\/i=7\/i=8\/i=9\/i=10\/i=11\/i=12\/i=13\/i=14\/i=15) with rfl|rfl|rfl|rfl|rfl|rfl|rfl|rfl|rfl|rfl|rfl|rfl|rfl|rfl|rfl|rfl;all_goals first|exact h k u|exact h c t|rfl
def ZDp(a b c d:Int):(D.sl .full 4 1 (ZR [.int .i64 0] ([0,1,2,3].zip [.int .i64 a,.int .i64 b,.int .i64 c,.int .i64 d]))).Le (Qw [a,b,c,d]):=Zee rfl λi hi=>by
 rcases(by omega:i=0\/i=1\/i=2\/i=3) with rfl|rfl|rfl|rfl<;>rfl
def ZAC(a:Int):(D.sl .full 1 1 (ZR [.int .i64 0] ([0].zip [.int .i64 a]))).Le (Qw [a]):=Zee rfl λi hi=>by
 obtain rfl:i=0:=ω;rfl
def ZDq{t1 t2 t3 t4:Tok}{n1 n2 n3 n4:Nat}{r1 r2 r3 r4:Nat->List D}{t u l3 l4:List Int}(h1:(D.sl t1 n1 1 r1).Le (Qw t))(h2:(D.sl t2 n2 1 r2).Le (Qw u))(h3:(D.sl t3 n3 1 r3).Le (Qw l3))(h4:(D.sl t4 n4 1 r4).Le (Qw l4)):
  (D.sl .full 4 1 (ZR [.nilsl] ([0,1,2,3].zip [.sl t1 n1 1 r1,.sl t2 n2 1 r2,.sl t3 n3 1 r3,.sl t4 n4 1 r4]))).Le (slD 1 liC [t,u,l3,l4]) :=
 ZkY.trans (Znn λi hi=>by
  rcases(by omega:i=0\/i=1\/i=2\/i=3) with rfl|rfl|rfl|rfl;exact LeC.one h1;exact LeC.one h2;exact LeC.one h3;exact LeC.one h4)
def Zel(K:List Nat)(i:Nat):List D:=(K.take i).map w32++List.replicate (16-i) (.int .u32 0)
def ZxO{K:List Nat}(h:K.length=16){i}(hi:i<=16):(Zel K i).length=16:=by
 unfold Zel;rw[ZHF,ZHS,ZHQ,List.length_replicate];omega
def ZxP{K:List Nat}(h:K.length=16){i}(hi:i<16):(Zel K i).take i++[.int .u32 (K.getD i 0:Nat)]++(Zel K i).drop (i+1)=Zel K (i+1):=by
 have t:((K.take i).map w32).length=i:=by rw[ZHS,ZHQ];omega
 have u:K.take (i+1)=K.take i++[K.getD i 0]:=by rw[List.take_succ,ZH6 ω];simp[ZHL,show i<K.length by omega]
 unfold Zel;rw[List.take_left' t,show 16-i=1+(16-(i+1)) by omega,<-List.replicate_append_replicate,<-ZHY ((K.take i).map w32),List.drop_left' (by rw[ZHF,t];rfl),u,List.map_append];rfl
def ZnA{k c:Nat}(hk:k<4294967296)(hc:c<4294967296):Zf ZHv 156 [Qw (List.replicate 8 (k:Int)),Qw [0,0,0],.int .i64 c] (.tup [Zh (ZhN (ZgJ k c)),.int .i64 0]):=by
 refine Zi (cR 156 f156) λF st af=>?_;have ap:=ZDq (ZDp 1634760805 857760878 2036477234 1797285236) (ZHx (Qw (List.replicate 8 (k:Int)))) (ZAC (c:Int)) (ZHx (Qw [0,0,0]));have ah:([[1634760805,857760878,2036477234,1797285236],List.replicate 8 (k:Int),[(c:Int)],[0,0,0]]:List (List Int)).flatten=ZjM k c:=rfl;have u:=Za.leA (LeC.one ap) (Ziz [[1634760805,857760878,2036477234,1797285236],List.replicate 8 (k:Int),[(c:Int)],[0,0,0]] (Nat.le_of_ble_eq_true rfl) (Nat.le_of_ble_eq_true rfl) st);rw[ah]at u;have ac:((ZjM k c).any λv=>!ZeB v)=false:=by simp only[ZjM,List.any_cons,List.any_nil,ZeB];simp;omega
 have ai:Zf ZHv 198 [Qw (ZjM k c),.fn (.func 199) [] []] (.bool false):=λst=>by have:=Zd7 (ZjM k c) (.fn (.func 199) [] []) (λv=>!ZeB v) (λ_=>st) λi _=> Zlv.VT (first:=[]) (caps:=[]) st;rw[ac]at this;exact this
 have ao:(ZjM k c).length=16:=rfl;have al:=ZBs hk hc;have hS:=ZBt hk hc;generalize ZjM k c=KI at *;generalize ZgJ k c=KS at *;refine gG ?_;refine⟨rfl,?_⟩;refine cV (u) ?_ ?_;rintro d S ⟨hr,ag⟩;obtain rfl:=ag.symm;cases hr;refine gR0 ?_;have hlk:((List.replicate 8 (k:Int)).length:Int)=8:=rfl;have hl0:(([0,0,0]:List Int).length:Int)=3:=rfl;refine rx (nd2 @Qw.eq_1 @eQ1) ?_;refine cG (ai) ?_;refine iG ?_;refine rg ?_;rw[ao];have ab:=hS.1;refine Zd (fr (16) (λi Q=>i<=16->Q [(9,.loc 9 0),(31,.d (.sl .none 16 1 λi=>itC (KI.getD i dE))),(32,.d (.int .i64 (16:Nat))),(33,.d (.int .i64 i))] [(9,Zel KS i)] st) (λn t=>?_) λau=>?_);intro i hn2 hi;refine rg ?_;refine Zc (Zn rfl trivial (λhd=>?_) (λhd=>?_));simp only[decide_eq_true_eq]at hd;have ad:i<16:=ω;have aj:=ZxO ab hi;have ak:=ZxP ab ad;have am:=al i ad;refine xA @itC.eq_1 ?_;refine xA (nd2 @am (nd2 @aj (nd2 @ak @Nat.mul_one))) ?_;refine gA ?_;refine Ze ?_;exact t ((16)-(i+1)) ω (i+1) rfl ω;simp only[decide_eq_false_iff_not]at hd;obtain rfl:i=16:=ω;have ae:Zel KS 16=KS.map w32:=by unfold Zel;rw[List.take_of_length_le ω,Nat.sub_self];simp
 rw[ae];have aq:(KS.map w32).length=16:=by rw[ZHS];exact ab
 have ar:List.take 16 (KS.map w32)=KS.map w32:=List.take_of_length_le ω;refine xA (nd2 @aq @ar) ?_;refine cl (ZnB hS) ?_;refine rt af ?_;rfl;exact au _ 0 rfl ω;rintro d S ⟨hr,_⟩;cases hr
def Zlo(k i:Nat):UInt8:=(ZhN (ZgJ k (i / 64))).getD (i % 64) dE
def Zbd(k:Nat):Nat->List UInt8->List UInt8
 |_,[]=>[]
 |i,x::r=>(x ^^^ Zlo k i)::Zbd k (i+1) r
def Qg(k:Nat)(b:List UInt8):List UInt8:=if k=0 then b else Zbd k 0 b
def Zdj{k}:∀{b i},(Zbd k i b).length=I b
 | [],_=>rfl
 |x::r,i=>by rw[Zbd,ZHN,Zdj,ZHN]
def Zq8{k}:∀{b i x},Zbd k i (b++[x])=Zbd k i b++[x ^^^ Zlo k (i+I b)]
 | [],i,x=>rfl
 |y::r,i,x=>by rw[List.cons_append,Zbd,Zq8,Zbd,ZHN,show i+1+I r=i+(I r+1) by omega];rfl
def Zzn{k b}:(Qg k b).length=I b:=by
 unfold Qg;split;rfl;exact Zdj
def ZaN(k:Nat)(b:List UInt8)(n:Nat):List UInt8:=Zbd k 0 (b.take n)++b.drop n
def ZzY{k b n}:(ZaN k b n).length=I b:=by
 unfold ZaN;rw[ZHF,Zdj,<-ZHF,List.take_append_drop]
def ZBA{k b n}(h:n<I b):(ZaN k b n).getD n dE=b.getD n dE:=by
 unfold ZaN;have i:(Zbd k 0 (b.take n)).length=n:=by rw[Zdj,ZHQ];omega
 rw[Wp h];simp only[ZHL];rw[ZIf ω,i,Nat.sub_self];rfl
def ZzZ{k b n}(h:n<I b):(ZaN k b n).set n (b.getD n dE ^^^ Zlo k n)=ZaN k b (n+1):=by
 have u:(Zbd k 0 (b.take n)).length=n:=by rw[Zdj,ZHQ];omega
 have i:(b.take n).length=n:=by rw[ZHQ];omega
 have t:ZaN k b (n+1)=Zbd k 0 (b.take n)++[b.getD n dE ^^^ Zlo k n]++b.drop (n+1):=by unfold ZaN;rw[Yi h,Zq8,i,Nat.zero_add]
 rw[t];unfold ZaN;rw[Wp h,List.set_append_right _ _ ω,u,Nat.sub_self];simp
def ZDc(x y:UInt8):Qf .xor .u8 (x.toNat:Int) (y.toNat:Int)=((x ^^^ y).toNat:Int):=by
 have hx:=x.toNat_lt;have hy:=y.toNat_lt;unfold Qf;simp only;have i:(BitVec.ofInt 8 (x.toNat:Int)).toNat=x.toNat:=by rw[BitVec.toNat_ofInt];omega
 have t:(BitVec.ofInt 8 (y.toNat:Int)).toNat=y.toNat:=by rw[BitVec.toNat_ofInt];omega
 show IntKind.u8.wrap ((BitVec.ofInt 8 (x.toNat:Int) ^^^ BitVec.ofInt 8 (y.toNat:Int)).toNat:Int)=_;rw[BitVec.toNat_xor,i,t,UInt8.toNat_xor];have h:=Nat.xor_lt_two_pow (n:=8) hx hy;have u:IntKind.u8.wrap ((x.toNat ^^^ y.toNat:Nat):Int)=((x.toNat ^^^ y.toNat:Nat):Int) % 256:=rfl;rw[u];omega
def ZnC{k n:Int}(t:ZeB k=true)(hn:0<=n/\n<=274877906944):Zf ZHv 106 [.agg [.int .i64 k,.int .i64 0],.int .i64 n] (.int .i64 0):=by
 refine Zi (cR 106 f106) λF st i=>?_;refine gG ?_;refine cX @t (Zhb k) ?_;refine i0 ?_;refine gA ?_;refine Zn rfl trivial (λh=>by simp at h;omega) (λ_=>?_);refine rg ?_;refine ri i ?_;rfl
def Za.giveL{f args u}{t:St}{Ln Φ}(hL:∀b∈Ln,∃ds,t b=sO (.cells ds))(hl:LdC t Ln args u)(h:Za ZHv f u (t.delL Ln) Φ):Za ZHv f args t Φ :=
 ⟨h.1,λg w vs hs ha=>by
  have hx:=Ju hs hL;have i:=ZH.ldC (ZeG hs hL) (ha.imp λ_ _ h=>Rep.mono h hx) hl;exact(h.2 (Ky g t Ln) w vs (Zs4 hs hL) i).mono λe w' ⟨g',S',r,he,hS,hr,hq⟩=>⟨g',S',r,hx.trans he,hS,hr,hq⟩⟩
def Zzp{S:St}{y o}(h:S y=nO):(S.upd y o).delL [y]=S:=by
 funext x;simp only[St.delL,List.mem_singleton];by_cases e:x=y;rw[if_pos e,e,h];rw[if_neg e,ZHD _ _ e]
def ZkD(l:List UInt8)(i:0<I l)(hl:I l<=1000000000)(T):Za ZHv 15 [Zh l] T λr S=>∃z c X,T z=nO/\r=.ret (.msl z 0 (I l) c 1)/\S=T.upd z (.cells ((l.map u8C).flatten++X))/\X.length=(c-I l)*1/\I l<=c:=by
 refine Zb (cR 15 f15) λF t=>?_;refine rx (nd2 @Zh.eq_1 @eQ1) ?_;refine gA ?_;refine iG ?_;refine Zmo rfl rfl rfl rfl rfl (.elems rfl) φ φ i ω (by unfold big;omega) λz c hz u=>?_;rw[List.flatMap_def,Zc7];refine gR0 ?_;exact t.ret _ _ rfl φ (ZHx _) ZHw ⟨z,c,_,hz,rfl,rfl,List.length_replicate,u⟩
def Zrh{k:Nat}(hk:k<4294967296)(b:List UInt8)(hb:I b<=1000000000):Zf ZHv 107 [.agg [.int .i64 k,.int .i64 0],Zh b] (Zh (Qg k b)):=by
 refine Zi (cR 107 f107) λF st u=>?_;have af:Zf ZHv 155 [D.sl .full 1 1 (ZR [.int .i64 0] ([0].zip [.int .i64 (k:Int)])),.int .i64 8] (Qw (List.replicate 8 (k:Int))):=λT=>Za.leA (.cons (ZAC (k:Int)) (.cons (ZHx _) .nil)) (Znc (k:Int) T);by_cases hq:k=0\/I b=0;have aq:Zf ZHv 15 [Zh b] (Zh b):=WM b hb;have aj:Qg k b=b:=by unfold Qg;split;rfl;rename_i h;have:b=[]:=List.eq_nil_of_length_eq_zero (hq.resolve_left h);subst this;rfl
 rw[aj]at u;refine gG ?_;refine cl (aq) ?_;refine rg ?_;by_cases ab:k=0;subst ab;refine i1 ?_;refine rg ?_;refine ro u ?_;rfl;have ah:b=[]:=List.eq_nil_of_length_eq_zero (hq.resolve_left ab);subst ah;refine Zn rfl trivial (λh=>by simp at h;exact absurd h ab) (λ_=>?_);refine rg ?_;refine cl (af) ?_;refine rg ?_;refine Zd (ZaA ?_);refine rx (nd2 @Zh.eq_1 @eQ1) ?_;refine iG ?_;refine ro u ?_;rfl;have ab:¬k=0:=λe=>hq (.inl e);have ah:0<I b:=ω;have aj:Qg k b=Zbd k 0 b:=by unfold Qg;rw[if_neg ab]
 rw[aj]at u;refine gG ?_;refine cV (ZkD b ah hb st) ?_ ?_;rintro d S ⟨z,c,X,hz,hr,hS,hX,a0⟩;subst hS;cases hr;refine gR0 ?_;refine rg ?_;refine Zn rfl trivial (λh=>by simp at h;exact absurd h ab) (λ_=>?_);refine rg ?_;refine cl (af) ?_;refine rg ?_;obtain⟨N,hN⟩:∃N,(I b+63) / 64=N:=⟨_,rfl⟩;refine Zd (fr (N) (λm Q=>∀dn S1,dn=min (64*m) (I b)->S1=st.upd z (.cells (((ZaN k b dn).map u8C).flatten++X))->m<=N->Q [(2,.loc 2 0),(5,.d (.msl z 0 (I b) c 1)),(6,.d (Qw (List.replicate 8 (k:Int)))),(7,.d (.int .i64 (dn:Nat)))] [(2,[.int .i64 k,.int .i64 0])] S1) (λn ae=>?_) λbb=>?_);intro m hn2 dn S1 hdn ad hm;refine rg ?_;refine cd (λhd=>?_) (λhd=>?_);simp only[decide_eq_true_eq]at hd;have hdm:dn=64*m:=ω;have ar:(0+(dn:Int)).tmod 64=0:=by rw[Int.zero_add,Int.tmod_eq_emod_of_nonneg ω];omega
 have av:(0+(dn:Int)).tdiv 64=(m:Int):=by rw[Int.zero_add,Int.tdiv_eq_ediv_of_nonneg ω];omega
 refine xA @ar ?_;refine rx @av ?_;refine⟨ω,ω,ω,ω,ω,ω,ω,ω,by unfold big;omega,λy hy=>?_⟩;have a4:Za ZHv 156 [Qw (List.replicate 8 (k:Int)),.msl y 0 3 3 1,.int .i64 m] (S1.upd y (.cells (W0 [D.int .i64 0] 3))) λr S=>r=.ret (.tup [Zh (ZhN (ZgJ k m)),.int .i64 0])/\S=S1:=by
  have h1:=Za.giveL (t:=S1.upd y (.cells (W0 [D.int .i64 0] 3))) (Ln:=[y]) (λb hb=>by obtain rfl:=List.mem_singleton.1 hb;exact⟨_,ZHB _ _ _⟩) (.cons (ZV.refl _) (.cons (ZV.msl (cap:=3) (row:=λi=>itC (([0,0,0]:List Int).getD i dE)) (List.mem_singleton.2 rfl) (ZHB _ _ _) (Nat.le_of_ble_eq_true rfl) λj hj=>by
   have hj:j<3:=hj;rcases(by omega:j=0\/j=1\/j=2) with rfl|rfl|rfl<;>exact LdC.refl _) (.cons (ZV.refl _) .nil))) (ZnA (k:=k) (c:=m) hk ω _)
  rw[Zzp hy]at h1;exact h1
 refine cVD (a4) ?_ ?_;rintro d S ⟨hr,hS⟩;obtain rfl:=hS.symm;cases hr;refine kF ?_;refine gR0 ?_;have hbl:(ZhN (ZgJ k m)).length=64:=ZmY;obtain⟨L,hL⟩:∃L,min 64 (I b-dn)=L:=⟨_,rfl⟩;have a7:min (64:Int) (0+(I b:Int)-dn)=(L:Int):=ω;refine xA (nd2 @Zh.eq_1 (nd2 @eQ1 @a7)) ?_;refine rg ?_;generalize (if (64:Int) = ↑L then Tok.full else Tok.none)=tk;have a8:∀n,(ZaN k b n).length=I b:=λn=>ZzY;have ap:∀i,i<L->Zlo k (dn+i)=(ZhN (ZgJ k m)).getD i dE:=λi hi=>by unfold Zlo;rw[show(dn+i) / 64=m by omega,show(dn+i) % 64=i by omega]
 generalize ZhN (ZgJ k m)=bk at *;refine Zd (fr (L) (λi Q=>∀S2,S2=st.upd z (.cells (((ZaN k b (dn+i)).map u8C).flatten++X))->i<=L->Q [(2,.loc 2 0),(5,.d (.msl z 0 (I b) c 1)),(6,.d (Qw (List.replicate 8 (k:Int)))),(7,.d (.int .i64 (dn:Nat))),(11,.d (.sl tk L 1 λi=>u8C (bk.getD i dE))),(54,.d (.sl tk L 1 λi=>u8C (bk.getD i dE))),(55,.d (.int .i64 L)),(56,.d (.int .i64 i))] [(2,[.int .i64 k,.int .i64 0])] S2) (λn ac=>?_) λay=>?_);intro i hn3 S2 ag hi;refine rg ?_;refine Zc (Zn rfl trivial (λak=>?_) (λak=>?_));simp only[decide_eq_true_eq]at ak;have a5:i<L:=ω;have au:dn+i<I b:=ω;have ax:=ZzZ (k:=k) au;have az:=ZBA (k:=k) au;rw[ap i a5]at ax;have hml:=a8 (dn+i);have am:S2 z=sO (.cells (((ZaN k b (dn+i)).map u8C).flatten++X)):=by rw[ag,ZHB]
 have a9:∀o,S2.upd z o=st.upd z o:=λo=>by rw[ag,ZHO]
 generalize ZaN k b (dn+i)=mx at *;have ao:(dn:Int)+(i:Int)=((dn+i:Nat):Int):=ω;have ai:=ZAE (b:=mx) (X:=X) (q:=dn+i) ω;rw[az]at ai;have aw:=ZyM (b:=mx) (X:=X) (b.getD (dn+i) dE ^^^ bk.getD i dE) (q:=dn+i) ω;rw[ax]at aw;have ba:=ZDc (b.getD (dn+i) dE) (bk.getD i dE);have aq:(dn+i)+1<=((mx.map u8C).flatten++X).length:=by rw[ZHF,ZeL,ZHS];omega
 refine xA @u8C.eq_1 ?_;generalize ((mx.map u8C).flatten++X)=cs at *;rw[Nat.mul_one]at ai;refine xA (nd2 @ao (nd2 @am (nd2 @Nat.mul_one (nd2 @ai (nd2 @ba @a9))))) ?_;rw[aw];refine gA ?_;refine Ze ?_;exact ac ((L)-(i+1)) ω (i+1) rfl _ rfl ω;simp only[decide_eq_false_iff_not]at ak;obtain rfl:i=L:=ω;refine gA ?_;rw[show(dn:Int)+(i:Int)=((dn+i:Nat):Int) by omega];refine Zs (Ze ?_);exact ae ((N)-(m+1)) ω (m+1) rfl (dn+i) S2 ω ag ω;exact ay _ 0 rfl S1 ad ω;rintro d S ⟨hr,_⟩;cases hr;simp only[decide_eq_false_iff_not]at hd;have a3:dn=I b:=ω;refine rg ?_;have a6:ZaN k b dn=Zbd k 0 b:=by unfold ZaN;rw[a3,ZH0,List.drop_length,ZH3]
 rw[a6]at ad;have al:((Zbd k 0 b).map u8C).length=I b:=by rw[ZHS,Zdj]
 have hB:=Buf.obj (S:=S1) (sz:=1) (rows:=(Zbd k 0 b).map u8C) z c X (by rw[ad,ZHB]) (by rw[al];exact hX) (by rw[al];exact a0);rw[al]at hB;refine Zqg (T:=st) hB (λy o hy=>by rw[ad,ZHD _ _ λe=>by rw[e,hz]at hy;cases hy];exact hy) (λy e=>by cases e;exact hz) ?_;refine ro u ?_;rfl;exact bb _ 0 rfl 0 _ ω (by unfold ZaN;rw[List.take_zero,List.drop_zero];rfl) ω;rintro d S ⟨_,_,_,_,hr,_⟩;cases hr
def Zrg{k:Nat}(hk:k<4294967296)(b:List UInt8)(u:I b<=1000000000):Zf ZHv 77 [.int .i64 k,.int .i64 0,Zh b] (.tup [Zh (Qg k b),.int .i64 0]):=by
 refine Zi (cR 77 f77) λF st i=>?_;have hw:ZeB (k:Int)=true:=by unfold ZeB;simp;omega
 have t:=ZnC (n:=(I b:Int)) hw ⟨ω,ω⟩;refine gG ?_;refine rx @Zwk ?_;refine cl (t) ?_;refine rg ?_;refine iG ?_;refine cl (Zrh hk b u) ?_;refine rt i ?_;rfl
def ZuG(v)(hv:VOk v):Zf ZHv 79 [.agg v.cells] (.agg v.cells):=λT=>by
 refine Za.freeze (ZrA v hv T) λr S ⟨c,fp,hr,hm,t,u⟩=>⟨fp,_,_,hr,λb i=>hm.live b i,ZV.agg (hm.ld λy h=>h),rfl,?_⟩;funext y;simp only[St.delL];by_cases e:y∈fp;rw[if_pos e,t y e];rw[if_neg e,u y e]
def Ze3(nm:Str)(l:List Val):Nat:=(l.filter λx=>dC (x.name=nm)).length
def Zey(l:List Val)(f)(p:Val->Bool)(sts:Nat->St)(hw:I l<=1000000)(hf:∀i,i<I l->VT ZHv f [.agg (l.getD i dE).cells] (sts i) (.bool (p (l.getD i dE))) (sts (i+1))):
  ZL ZHv 108 [ZY l,f] (sts 0) (.int .i64 (Zj p l)) (sts (KB p l)):=by
 refine ZE (cR 108 f108) λaf F t=>?_;clear af;refine rg ?_;refine rx @Zc6 ?_;refine Zd (fr (I l) (λi Q=>i<=I l->(∀j,j<i->p (l.getD j dE)=false)->Q [(0,.d (ZY l)),(1,.d f),(7,.d (.int .i64 (I l))),(8,.d (.int .i64 i))] [] (sts i)) (λn ab=>?_) λag=>?_);intro i hn hi u;refine rg ?_;refine Zc (Zn rfl trivial (λh1=>?_) (λh1=>?_));simp at h1;have ae:=QX (l:=l) (i:=i) h1;have ad:=hf i h1;rw[ZHZ]at ad;refine rg ?_;refine xA (nd2 @atV @ae) ?_;refine cW (ad) ?_;refine cd (λh2=>?_) (λh2=>?_);have e1:=WZ h1 h2 u;have e2:=ZaR h1 h2 u;rw[e1,e2]at t;refine rg ?_;exact t rfl φ (ZHx _) ZHw;refine gA ?_;refine Ze ?_;exact ab ((I l)-(i+1)) ω (i+1) rfl ω (Yb (q:=λj=>p (l.getD j dE)=false) u h2);simp at h1;obtain rfl:i=I l:=ω;have ac:∀x∈l,p x=false:=λx hx=>by obtain⟨j,hj,rfl⟩:=ZHR hx;have:=u j hj;simpa[ZHL,hj]using this
 rw[Wc ac,Jk ac]at t;refine rg ?_;exact t rfl φ (ZHx _) ZHw;exact ag _ 0 rfl ω (by intro j hj;omega)
def Zo0(x:Val){T:St}{zs zn:Nat}{nm:Str}{n0 c:Int}(hs:T zs=sO (.cells [.str nm,.int .i64 n0]))(hn:T zn=sO (.cells [.int .i64 c]))(hc:-1000000<=c/\c<=0):
  ZL ZHv 109 [.agg x.cells,.ptr zs 0,.ptr zn 0] T (.bool (dC (x.name=nm))) (if x.name=nm then T.upd zn (.cells [.int .i64 (c-1)]) else T):=by
 refine ZE (cR 109 f109) λab F i=>?_;clear ab;rw[x.cells_eq];refine rg ?_;refine rx @hs ?_;refine cd (λhq=>?_) (λhq=>?_);have t:¬x.name=nm:=by simpa using hq
 rw[if_neg t,decide_eq_false t]at i;refine rg ?_;exact i rfl φ (ZHx _) ZHw;have he:x.name=nm:=by simpa using hq
 rw[if_pos he,decide_eq_true he]at i;refine xA @hn ?_;refine rx @ZHB ?_;have u:dC (c-1<0)=true:=by simp;omega
 rw[u];exact i rfl φ (ZHx _) ZHw
def Zqn{nm:Str}{l:List Val}{i}(h:i<I l):Ze3 nm (l.take (i+1))=Ze3 nm (l.take i)+if (l.getD i dE).name=nm then 1 else 0:=by
 unfold Ze3;rw[Yi h,List.filter_append,ZHF]
 congr 1
 generalize l.getD i dE=x;by_cases e:x.name=nm;rw[List.filter_cons,if_pos (by simpa using e),if_pos e];rfl;rw[List.filter_cons,if_neg (by simpa using e),if_neg e];rfl
def ZA9{nm:Str}{l:List Val}:Ze3 nm l<=I l:=List.length_filter_le _ _
def ZrC(v:Val)(nm:Str)(hl:I v.parts<=1000000):Zf ZHv 78 [.agg v.cells,.agg [.str nm,.int .i64 0]] (.int .i64 (Zj (λx=>dC (x.name=nm)) v.parts)):=by
 refine Zi (cR 78 f78) λF st ab=>?_;rw[v.cells_eq];refine gG ?_;refine Zc ?_;refine xP 3 λzs aj=>?_;refine xP 5 λzn ai=>?_;obtain⟨ah,ac⟩:=Zo ai;obtain⟨t,u⟩:∃t:Nat->St,t=λi=>((st.upd zs (.cells [.str nm,.int .i64 0])).upd zn (.cells [.int .i64 (-(Ze3 nm (v.parts.take i):Int))])):=⟨_,rfl⟩;have h0:((st.upd zs (.cells [.str nm,.int .i64 0])).upd zn (.cells [.int .i64 0]))=t 0:=by rw[u];simp[Ze3]
 have ad:∀i,i<I v.parts->ZL ZHv 109 [.agg (v.parts.getD i dE).cells,.ptr zs 0,.ptr zn 0] (t i) (.bool (dC ((v.parts.getD i dE).name=nm))) (t (i+1)):=λi hi=>by
  have ae:=Zqn (nm:=nm) hi;have ag:=ZA9 (nm:=nm) (l:=v.parts.take i);rw[ZHQ]at ag;have h1:=Zo0 (v.parts.getD i dE) (T:=t i) (zs:=zs) (zn:=zn) (nm:=nm) (n0:=0) (c:=-(Ze3 nm (v.parts.take i):Int)) (by rw[u];simp only;rw[ZHD _ _ ah.symm,ZHB]) (by rw[u];simp only;rw[ZHB]) ⟨ω,ω⟩;have h2:(if (v.parts.getD i dE).name=nm then (t i).upd zn (.cells [.int .i64 (-(Ze3 nm (v.parts.take i):Int)-1)]) else t i)=t (i+1):=by rw[u];simp only;rw[ae];split;rw[ZHO];congr 3;push_cast;congr 1;omega;simp
  rw[h2]at h1;exact h1
 have af:=Zey v.parts (.fn (.func 109) [] [.ptr zs 0,.ptr zn 0]) (λx=>dC (x.name=nm)) t ω λi hi=>(ad i hi).VT (first:=[]) (args:=[_]) (caps:=[_,_]);rw[h0];refine rg ?_;refine ct (af) ?_;refine ab rfl φ (ZHx _) ?_;rw[u];exact λy o hy=>by
  have e1:y≠zn:=λe=>by rw[e,ac]at hy;cases hy
  have e2:y≠zs:=λe=>by rw[e,aj]at hy;cases hy
  simp only;rw[ZHD _ _ e1,ZHD _ _ e2];exact hy
def Zon(v:Val)(nm:Str):Val:=if Zj (λx:Val=>dC (x.name=nm)) v.parts<0 then dE else v.parts.getD (Zj (λx:Val=>dC (x.name=nm)) v.parts).toNat dE
def ZrB(v:Val)(nm:Str)(hv:VOk v):∃is,Zf ZHv 47 [.agg v.cells,.str nm] (.tup [.agg (Zon v nm).cells,.bool is]):=by
 have hl:I v.parts<=1000000:=by have:=hv.sm.p;omega
 have u:=ZrC v nm hl;have ab:=Zon.eq_1 v nm;have hlt:=WC (λx:Val=>dC (x.name=nm)) v.parts;generalize Zj (λx:Val=>dC (x.name=nm)) v.parts=q at *;by_cases h0:q<0;rw[if_pos h0]at ab;refine⟨false,Zi (cR 47 f47) λF st t=>?_⟩;rw[ab]at t;rw[v.cells_eq]at u⊢;refine gG ?_;refine cl (u) ?_;refine rg ?_;refine Zn rfl trivial (λ_=>?_) (λh=>by simp at h;omega);refine rg ?_;exact t rfl φ (ZuN (.cons (Zr9 (.cons (ZHx _) (.cons (ZHx _) (.cons (YL λb h=>by cases h) (.cons (YL λb h=>by cases h) (.cons (YL λb h=>by cases h) .nil)))))) (.cons (ZHx _) .nil))) ZHw;rw[if_neg h0]at ab;refine⟨true,Zi (cR 47 f47) λF st t=>?_⟩;have hqn:(q.toNat:Int)=q:=ω;have ad:q.toNat<I v.parts:=ω;have ae:=QX (l:=v.parts) (i:=q.toNat) ad;have ac:=ZuG (v.parts.getD q.toNat dE) (hv.part (ZD ad));rw[ab]at t;rw[ZHZ]at ac t;rw[v.cells_eq]at u⊢;generalize v.parts.getD q.toNat dE=x at *;refine gG ?_;refine cl (u) ?_;refine rg ?_;refine Zn rfl trivial (λh=>by simp at h;omega) (λ_=>?_);refine xA (nd2 @atV @ae) ?_;refine cl (ac) ?_;refine rt t ?_;rfl
def ZfU{S z ob b n rest dl}(l:List UInt8)(i:dl.Le (Zh l))(t:Wb S z ob b n rest)(u:(n:Int)+8*(I b+I l)<=100000000000):Za ZHv 67 [.ptr z 0,dl] S (WbP S z ob (b++l) (n+8*I l) rest) :=
 Za.leA (.cons (ZHx _) (.cons i .nil)) (Kp l t u)
def Zvb(y:UInt8):(D.sl .full 1 1 (ZR [.int .u8 0] ([0].zip [.int .u8 (y.toNat:Int)]))).Le (Zh [y]):=Zee rfl λi hi=>by
 obtain rfl:i=0:=ω;rfl
def WbP.bad{S z ob b n rest r S'}(h:WbP S z ob b n rest (.panic r) S'):False:=by cases h.1
def ZpE(l:Bool)(v k:Nat)(b:List UInt8)(n:Nat):List UInt8:=if l then b++leS v ((k+7) / 8) else Zbc v k b n
def ZjU(l:Bool)(k n:Nat):Nat:=if l then n+8*((k+7) / 8) else n+k
def Zva:∀{k v},(leS v k).length=k
 |0,_=>rfl
 |k+1,v=>by rw[leS,ZHN,Zva]
def ZzR(v k):leS v (k+1)=UInt8.ofNat v::leS (v / 256) k:=rfl
def ZzS(v):leS v 0=[]:=rfl
def ZC9{v:Nat}(hv:v<4611686018427387904)(j:Nat):IntKind.u8.wrap ((v / 2 ^ j:Nat):Int)=((UInt8.ofNat (v / 2 ^ j)).toNat:Int):=by
 rw[UInt8.toNat_ofNat'];have i:∀n:Nat,IntKind.u8.wrap (n:Int)=(n:Int) % 256:=λn=>rfl;rw[i];omega
def Ze7{S z ob b n rest}(f:Fld)(x:Val){v k:Nat}(hb:Wb S z ob b n rest)(hbo:BOk b n)(hx:x.int=v)(hv:v<4611686018427387904)(hk:f.bits=k)(hk2:k<=600)(hn:n<=10000000000):
  Za ZHv 37 [.ptr z 0,.agg f.cells,.agg x.cells] S (WbP S z ob (ZpE f.little v k b n) (ZjU f.little k n) rest):=by
 refine Zb (cR 37 f37) λF hF=>?_;have aj:=hbo;unfold BOk at aj;rw[x.cells_eq];refine rg ?_;refine rx @eQ0 ?_;refine cd (λhl=>?_) (λhl=>?_);have ac:f.little=false:=by simpa using hl
 rw[ac]at hF;refine rx @eQ0 ?_;rw[hx,hk];have c9:=ZiN v k hv ω hb hbo ω;refine cV0 (c9) ?_ ?_;rintro d S1 ⟨hr,h1⟩;cases hr;refine gR0 ?_;exact hF.ret (.tup []) S1 rfl φ (ZHx _) ZHw ⟨rfl,h1⟩;exact λd S1 h=>(WbP.bad h).elim;have ac:f.little=true:=by simpa using hl
 rw[ac]at hF;refine rg ?_;obtain⟨k8,af⟩:∃k8,(k+7) / 8=k8:=⟨_,rfl⟩;have hR:ZpE true v k b n=b++leS v k8:=by unfold ZpE;rw[if_pos rfl,af]
 have hN:ZjU true k n=n+8*k8:=by unfold ZjU;rw[if_pos rfl,af]
 rw[hR,hN]at hF;refine Zd (fr (k8) (λi Q=>∀b1 n1 u S1,Wb S1 z u b1 n1 rest->WbF z S ob S1 u->BOk b1 n1->n1=n+8*i->b1++leS (v / 2 ^ (8*i)) (k8-i)=b++leS v k8->i<=k8->Q [(0,.d (.ptr z 0)),(4,.loc 4 0),(5,.loc 5 0),(6,.d (.int .i64 ((8*i:Nat):Int)))] [(4,[.str f.name,.int .i64 f.kind,.int .i64 f.bits,.bool f.little,.bool f.loose,.int .i64 f.low,.int .i64 f.high,.int .i64 f.size.base,Yj f.size.terms,.str f.of,.str f.tag,.str f.from_,WP f.cases,.int .i64 f.check,.int .i64 f.key]),(5,[.str x.name,.int .i64 x.int,Zh x.bytes,Yc x.hdrs,ZY x.parts])] S1) (λn t=>?_) λap=>?_);intro i hn2 b1 n1 u S1 ah ae ab al hp hi;refine rg ?_;refine cd (λhd=>?_) (λhd=>?_);simp only[decide_eq_true_eq]at hd;have hi2:i<k8:=ω;have am:=ZC9 hv (8*i);have ag:=Zvs hv (8*i);have hle:v / 2 ^ (8*i)<=v:=Nat.div_le_self _ _;rw[show k8-i=(k8-(i+1))+1 by omega,ZzR,Nat.div_div_eq_div_mul,show 2 ^ (8*i)*256=2 ^ (8*(i+1)) by rw[Nat.mul_add,Nat.pow_add]]at hp;have ad:=ab;unfold BOk at ad;rw[<-hx]at ag;generalize v / 2 ^ (8*i)=vi at *;have ai:=ZfU [UInt8.ofNat vi] (Zvb _) ah (by simp only[ZHN,List.length_nil];omega);refine xA (nd2 @ag @am) ?_;refine cV0 (ai) ?_ ?_;rintro d S2 ⟨hr,aq,ao,ak⟩;cases hr;refine gR0 ?_;refine gA ?_;rw[show((8*i:Nat):Int)+8=((8*(i+1):Nat):Int) by omega];refine Ze ?_;exact t ((k8)-(i+1)) ω (i+1) rfl (b1++[UInt8.ofNat vi]) (n1+8) aq S2 ao (ae.trans ak) (ab.bytes _) ω (by rw[ZHY];exact hp) ω;exact λd S1 h=>(WbP.bad h).elim;simp only[decide_eq_false_iff_not]at hd;obtain rfl:i=k8:=ω;rw[Nat.sub_self,ZzS,ZH3]at hp;refine ZS rfl ?_;exact hF.fin (.tup []) _ rfl trivial (ZHx _) ZHw ⟨rfl,u,by rw[<-hp,<-al];exact ah,ae⟩;exact ap _ 0 rfl b n ob S hb .refl hbo rfl ψ ω
section
variable {S:St} {z:Nat} {ob:Option Nat} {b:List UInt8} {n:Nat} {rest:List D} (f:Fld) (x:Val)
def Zjv{v k:Nat}(hb:Wb S z ob b n rest)(u:BOk b n)(hx:f.low=v)(hv:v<4611686018427387904)(hk:f.bits=k)(hk2:k<=600)(hn:n<=10000000000):
  Za ZHv 38 [.ptr z 0,.agg f.cells,.agg x.cells] S (WbP S z ob (ZpE f.little v k b n) (ZjU f.little k n) rest):=by
 refine Zb (cR 38 f38) λF hF=>?_;rw[x.cells_eq];have hc:=Ze7 f (⟨[],f.low,[],[],[]⟩:Val) hb u hx hv hk hk2 hn;have t:(D.agg [.str [],.int .i64 f.low,.nilsl,.nilsl,.nilsl]).Le (.agg (⟨[],f.low,[],[],[]⟩:Val).cells):=by rw[ZHZ];exact Zr9 (.cons (ZHx _) (.cons (ZHx _) (.cons (YL λb h=>by cases h) (.cons (YL λb h=>by cases h) (.cons (YL λb h=>by cases h) .nil)))))
 have i:=Za.leA (.cons (ZHx _) (.cons (ZHx _) (.cons t .nil))) hc;refine rg ?_;refine rx @eQ0 ?_;refine cV (i) ?_ ?_;rintro d S1 ⟨hr,h1⟩;cases hr;refine gR0 ?_;exact hF.fin (.tup []) _ rfl trivial (ZHx _) ZHw ⟨rfl,h1⟩;exact λd S1 h=>(WbP.bad h).elim
def Zjw{v:Nat}(hb:Wb S z ob b n rest)(u:BOk b n)(hx:x.int=v)(hv:v<34359738368)(hn:n<=10000000000):
  Za ZHv 39 [.ptr z 0,.agg f.cells,.agg x.cells] S (WbP S z ob (b++Kb v (Yd v)) (n+8*(Kb v (Yd v)).length) rest):=by
 refine Zb (cR 39 f39) λF hF=>?_;have i:=u;unfold BOk at i;have hg:=Zu6 v;have hfl:(Kb v (Yd v)).length=Yd v+1:=by unfold Kb;rw[ZHF,ZbI];rfl
 rw[x.cells_eq];refine gG ?_;rw[hx];refine cV (ZfF hv S) ?_ ?_;rintro d S1 ⟨t,rfl⟩;cases t;refine gR0 ?_;refine rg ?_;have c9:=Kp (Kb v (Yd v)) hb ω;refine cV (c9) ?_ ?_;rintro d S1 ⟨t,h1⟩;cases t;refine gR0 ?_;exact hF.fin (.tup []) _ rfl trivial (ZHx _) ZHw ⟨rfl,h1⟩;exact λd S1 h=>(WbP.bad h).elim;rintro d S1 ⟨t,_⟩;cases t
def ZnN(hb:Wb S z ob b n rest)(t:BOk b n)(hl:I x.bytes<=1048576)(hn:n<=10000000000):
  Za ZHv 40 [.ptr z 0,.agg f.cells,.agg x.cells] S (WbP S z ob (b++x.bytes) (n+8*I x.bytes) rest):=by
 refine Zb (cR 40 f40) λF hF=>?_;have i:=t;unfold BOk at i;rw[x.cells_eq];refine gG ?_;have u:=Kp x.bytes hb ω;refine cV0 (u) ?_ ?_;rintro d S1 ⟨hr,h1⟩;cases hr;refine gR0 ?_;exact hF.fin (.tup []) _ rfl trivial (ZHx _) ZHw ⟨rfl,h1⟩;exact λd S1 h=>(WbP.bad h).elim
def ZnO{c:UInt8}(hb:Wb S z ob b n rest)(hbo:BOk b n)(hl:I x.bytes<=1048576)(hc:f.low=c.toNat)(hn:n<=10000000000):
  Za ZHv 41 [.ptr z 0,.agg f.cells,.agg x.cells] S (WbP S z ob (b++(x.bytes++[c])) (n+8*(x.bytes++[c]).length) rest):=by
 refine Zb (cR 41 f41) λF hF=>?_;have i:=hbo;unfold BOk at i;have hcl:=c.toNat_lt;have ae:IntKind.u8.wrap f.low=(c.toNat:Int):=by rw[hc];exact Zp1 ω
 have ab:(x.bytes++[c]).length=I x.bytes+1:=by rw[ZHF];rfl
 rw[x.cells_eq];refine gG ?_;have c9:=Kp x.bytes hb ω;refine cV0 (c9) ?_ ?_;rintro d S1 ⟨hr,ob1,ac,t⟩;cases hr;refine gR0 ?_;have hbo1:=hbo.bytes x.bytes;refine xA (nd2 @eQ0 @ae) ?_;have c9:=ZfU [c] (Zvb c) ac (by rw[ZHF];simp only[ZHN,List.length_nil];omega);refine cV0 (c9) ?_ ?_;rintro d S2 ⟨hr,af,ad,u⟩;cases hr;refine gR0 ?_;exact hF.fin (.tup []) _ rfl trivial (ZHx _) ZHw ⟨rfl,af,by rw[<-ZHY,ab,Nat.mul_add,<-Nat.add_assoc];exact ad,t.trans u⟩;exact λd S1 h=>(WbP.bad h).elim;exact λd S1 h=>(WbP.bad h).elim
def Zly(hb:Wb S z ob b n rest)(u:BOk b n)(hh:KC x.hdrs=true)(ht:ZcP x.hdrs)(hl:(Qp x.hdrs).length<=1048576)(hn:n<=10000000000):
  Za ZHv 42 [.ptr z 0,.agg f.cells,.agg x.cells] S (WbP S z ob (b++Qp x.hdrs) (n+8*(Qp x.hdrs).length) rest):=by
 refine Zb (cR 42 f42) λF hF=>?_;have t:=u;unfold BOk at t;have i:=ZdZ ht;unfold ZhE at i;rw[if_pos hh]at i;rw[x.cells_eq];refine gG ?_;refine cl (i) ?_;refine rg ?_;have c9:=Kp (Qp x.hdrs) hb ω;refine cV (c9) ?_ ?_;rintro d S1 ⟨hr,h1⟩;cases hr;refine gR0 ?_;exact hF.fin (.tup []) _ rfl trivial (ZHx _) ZHw ⟨rfl,h1⟩;exact λd S1 h=>(WbP.bad h).elim
def Zri(hb:Wb S z ob b n rest)(hbo:BOk b n)(hp:Zbu f.bits=true)(hn:n<=110000000):
  Za ZHv 44 [.ptr z 0,.agg f.cells,.agg x.cells] S (WbP S z ob (Zbc 0 (upS n f.bits-n).toNat b n) (upS n f.bits).toNat rest):=by
 refine Zb (cR 44 f44) λF hF=>?_;have u:=hbo;unfold BOk at u;have hpd:=Zda hp;have hup:=Zb4 (v:=(n:Int)) (of:=f.bits) ω ω;obtain⟨bD,hz,hB,hne⟩:=id hb;have ab:=ZeS (v:=(n:Int)) hp ⟨ω,ω⟩;obtain⟨p,i⟩:∃p:Nat,upS n f.bits-n=p:=⟨(upS n f.bits-n).toNat,ω⟩;have t:(upS n f.bits).toNat=n+p:=ω;rw[i,Int.toNat_natCast,t]at hF;refine rg ?_;refine rx (nd2 @eQ0 @hz) ?_;refine cl0 (ab) ?_;rw[i];refine rg ?_;have c9:=ZiN 0 p (by decide) ω hb hbo ω;refine cV (c9) ?_ ?_;rintro d S1 ⟨hr,h1⟩;cases hr;refine gR0 ?_;exact hF.fin (.tup []) _ rfl trivial (ZHx _) ZHw ⟨rfl,h1⟩;exact λd S1 h=>(WbP.bad h).elim
end
def Zcl(p s:Str)(hp:I p<=110000000)(hs:I s<=110000000):Zf ZHv 75 [.str p,.str s] (.str (ZM p s)):=by
 refine Zi (cR 75 f75) λF st i=>?_;have t:=ZM.eq_1 p s;refine gG ?_;refine cd (λh=>?_) (λh=>?_);rw[if_pos (by simpa using h)]at t;rw[t]at i;refine rg ?_;refine ro i ?_;rfl;rw[if_neg (by simpa using h)]at t;rw[t]at i;refine rg ?_;refine⟨by unfold big;omega,by simp only[ZHF,ZHN,List.length_nil];unfold big;omega,?_⟩;refine ro i ?_;rfl
def ZB6{d:Nat}(h:d<10):(Utf8.encode ((48+d:Nat):Int)).data.toList=[UInt8.ofNat (48+d)]:=by
 rcases(by omega:d=0\/d=1\/d=2\/d=3\/d=4\/d=5\/d=6\/d=7\/d=8\/d=9) with rfl|rfl|rfl|rfl|rfl|rfl|rfl|rfl|rfl|rfl<;>rfl
def Zpr(n:Nat):Str:=if n=0 then [] else ZaI n
def Zxt{n}(h:n≠0):Zpr n=Zpr (n / 10)++[UInt8.ofNat (48+n % 10)]:=by
 unfold Zpr;rw[if_neg h];by_cases i:n<10;rw[KN i,if_pos ω,Nat.mod_eq_of_lt i];rfl;rw[ZhU i,if_neg ω,KN (n:=n % 10) ω]
def ZmG{n:Nat}(h0:n≠0)(hn:n<1000000):Zf ZHv 100 [.int .i64 n] (.str (ZaI n)):=by
 refine Zi (cR 100 f100) λF st u=>?_;have hR:Zpr n=ZaI n:=by unfold Zpr;rw[if_neg h0]
 have hl0:=ZhV n;generalize ZaI n=R at *;refine rg ?_;refine Zc (Zd ?_);refine lpU (λQ=>∀(k:Nat) (m:Nat) s,m<k->m<1000000->Zpr m++s=R->Q F [(0,.d (.int .i64 m)),(2,.d (.str s))] [] st) ?_ λaf=>?_
 .intro k;induction k with
  |zero=>intro m s h;omega
  |succ k ih =>
  intro m s hk hm hs;refine rg ?_;refine cd (λhd=>?_) (λhd=>?_);simp only[decide_eq_true_eq]at hd;have ac:m≠0:=ω;rw[Zxt ac,ZHY]at hs;have t:(m:Int).tmod 10=((m % 10:Nat):Int):=by rw[Int.tmod_eq_emod_of_nonneg ω];omega
  have i:(m:Int).tdiv 10=((m / 10:Nat):Int):=by rw[Int.tdiv_eq_ediv_of_nonneg ω];omega
  have ab:(48:Int)+((m % 10:Nat):Int)=((48+m % 10:Nat):Int):=ω;have hw:IntKind.i32.wrap ((48+m % 10:Nat):Int)=((48+m % 10:Nat):Int):=Zaj .i32 _ (by have h1:IntKind.i32.min=-2147483648:=rfl;have h2:IntKind.i32.max=2147483647:=rfl;unfold inR;omega);have hu:=ZB6 (d:=m % 10) (Nat.mod_lt _ (by decide));have ae:=congrArg List.length hs;simp only[ZHF,ZHN,List.length_nil]at ae;have hsn:I s<=R.length:=ω;have hc:[UInt8.ofNat (48+m % 10)]++s=UInt8.ofNat (48+m % 10)::s:=rfl;refine rx (nd2 @t (nd2 @ab (nd2 @hw @hu))) ?_;refine⟨by decide,ω,ω,ω,ω,by unfold big;omega,by unfold big;omega,?_⟩;refine xA @i ?_;refine Ze ?_;exact ih (m / 10) (UInt8.ofNat (48+m % 10)::s) ω ω hs;simp only[decide_eq_false_iff_not]at hd;obtain rfl:m=0:=ω;have ad:s=R:=by rw[<-hs];rfl
  subst ad;refine rg ?_;refine ro u ?_;rfl
 exact af (n+1) n [] ω hn (by rw[ZH3];exact hR)
def JQ(a i:Int):List UInt8->Int
 | []=>a
 |x::r=>JQ ((a+(if i % 2=0 then (x.toNat:Int)*256 else x.toNat)) % 65536+(a+(if i % 2=0 then (x.toNat:Int)*256 else x.toNat)) / 65536) (i+1) r
def ZiK:∀{l:List UInt8} {a i:Int},0<=a/\a<65536->0<=JQ a i l/\JQ a i l<65536
 | [],_,_,h=>h
 |x::r,a,i,h=>by unfold JQ;refine ZiK ?_;have:=x.toNat_lt;split<;>omega
def ZhS(l:List UInt8){T:St}{z:Nat}{a b c k:Int}(hz:T z=sO (.cells [.int .i64 a,.int .i64 b,.int .i64 c,.int .i64 k]))(ha:0<=a/\a<65536)(hc:0<=c)(hl:c+I l<=4611686018427387904):
  Za ZHv 190 [.ptr z 0,Zh l] T λr S=>r=.ret (.tup [])/\S=T.upd z (.cells [.int .i64 (JQ a c l),.int .i64 b,.int .i64 (c+I l),.int .i64 k]):=by
 refine Zb (cR 190 f190) λF hF=>?_;refine rx @QA ?_;refine Zd (fr (I l) (λi Q=>∀e S,S=T.upd z (.cells [.int .i64 e,.int .i64 b,.int .i64 c,.int .i64 k])->JQ e (c+i) (l.drop i)=JQ a c l->(0<=e/\e<65536)->i<=I l->Q [(0,.d (.ptr z 0)),(1,.d (Zh l)),(7,.d (Zh l)),(8,.d (.int .i64 (I l))),(9,.d (.int .i64 i))] [] S) (λn t=>?_) λae=>?_);intro i hn2 e S hS hw he hi;have u:S z=sO (.cells [.int .i64 e,.int .i64 b,.int .i64 c,.int .i64 k]):=by rw[hS];exact ZHB _ _ _
 have ac:∀o,S.upd z o=T.upd z o:=λo=>by rw[hS,ZHO]
 refine rg ?_;refine Zc (Zn rfl trivial (λhd=>?_) (λhd=>?_));simp only[decide_eq_true_eq]at hd;have hx:=(l.getD i dE).toNat_lt;rw[Wp (show i<I l by omega),JQ]at hw;refine xA (nd2 @ZvQ @u8C.eq_1) ?_;refine rg ?_;rw[Ks ω];generalize (l.getD i dE).toNat=x at *;refine rx @u ?_;rw[Int.tmod_eq_emod_of_nonneg (show 0<=c+(i:Int) by omega)];refine aa ?_;refine jU [0] (λQ=>∀y:Int,0<=y->y<=65280->JQ ((e+y) % 65536+(e+y) / 65536) (c+i+1) (l.drop (i+1))=JQ a c l->Q F [(0,.d (.ptr z 0)),(1,.d (Zh l)),(6,.d (.int .i64 y)),(7,.d (Zh l)),(8,.d (.int .i64 (I l))),(9,.d (.int .i64 i))] [] S) ?_ λj1=>?_;intro y hy0 hy1 ad;refine xA @u ?_;refine rx (nd2 @ZHB @ac) ?_;rw[Int.tmod_eq_emod_of_nonneg (show 0<=e+y by omega),Int.tdiv_eq_ediv_of_nonneg (show 0<=e+y by omega)];refine aa ?_;refine gA ?_;refine Ze ?_;exact t ((I l)-(i+1)) ω (i+1) rfl _ _ (by rw[ZHO]) (by rw[<-ad];congr 1;omega) ω ω;refine cd (λh2=>?_) (λh2=>?_);simp only[decide_eq_true_eq]at h2;rw[if_pos h2]at hw;have ab:J8 .i64 (x:Int) 8=x*256:=rfl;refine rx @ab ?_;refine⟨ω,ω,ω,?_⟩;exact j1 _ ω ω hw;simp only[decide_eq_false_iff_not]at h2;rw[if_neg h2]at hw;refine ZI ?_;refine kE [0,1,6,7,8,9] ?_;exact j1 _ ω ω hw;simp only[decide_eq_false_iff_not]at hd;obtain rfl:i=I l:=ω;rw[List.drop_length,JQ]at hw;refine xA (nd2 @u @QA) ?_;exact hF.fin (.tup []) _ rfl trivial (ZHx _) ZHw ⟨rfl,by rw[hS,ZHO,hw]⟩;exact ae _ 0 rfl a T (St.upd_self hz).symm ψ ha ω
def QN(a b:Int):List UInt8->Int×Int
 | []=>(a,b)
 |x::r=>QN ((a+x.toNat) % 65521) ((b+(a+x.toNat) % 65521) % 65521) r
def ZhL:∀{l:List UInt8} {a b:Int},(0<=a/\a<65521)->(0<=b/\b<65521)->(0<=(QN a b l).1/\(QN a b l).1<65521)/\0<=(QN a b l).2/\(QN a b l).2<65521
 | [],_,_,h,h'=>⟨h,h'⟩
 |x::r,a,b,h,h'=>by unfold QN;exact ZhL ω ω
def ZhR(l:List UInt8){T:St}{z:Nat}{a b c k:Int}(hz:T z=sO (.cells [.int .i64 a,.int .i64 b,.int .i64 c,.int .i64 k]))(ha:0<=a/\a<65521)(hb:0<=b/\b<65521)(hc:0<=c)(hl:c+I l<=4611686018427387904):
  Za ZHv 194 [.ptr z 0,Zh l] T λr S=>r=.ret (.tup [])/\S=T.upd z (.cells [.int .i64 (QN a b l).1,.int .i64 (QN a b l).2,.int .i64 (c+I l),.int .i64 k]):=by
 refine Zb (cR 194 f194) λF hF=>?_;refine rx @QA ?_;refine Zd (fr (I l) (λi Q=>∀e g S,S=T.upd z (.cells [.int .i64 e,.int .i64 g,.int .i64 c,.int .i64 k])->QN e g (l.drop i)=QN a b l->(0<=e/\e<65521)->(0<=g/\g<65521)->i<=I l->Q [(0,.d (.ptr z 0)),(1,.d (Zh l)),(6,.d (Zh l)),(7,.d (.int .i64 (I l))),(8,.d (.int .i64 i))] [] S) (λn t=>?_) λad=>?_);intro i hn2 e g S hS hw he hg hi;have u:S z=sO (.cells [.int .i64 e,.int .i64 g,.int .i64 c,.int .i64 k]):=by rw[hS];exact ZHB _ _ _
 have ab:∀o,S.upd z o=T.upd z o:=λo=>by rw[hS,ZHO]
 refine rg ?_;refine Zc (Zn rfl trivial (λhd=>?_) (λhd=>?_));simp only[decide_eq_true_eq]at hd;have hx:=(l.getD i dE).toNat_lt;rw[Wp (show i<I l by omega),QN]at hw;have ac:IntKind.i64.wrap ((l.getD i dE).toNat:Int)=(l.getD i dE).toNat:=Ks ω;refine xA (nd2 @ZvQ @u8C.eq_1) ?_;generalize (l.getD i dE).toNat=x at *;refine rx (nd2 @u @ac) ?_;rw[Int.tmod_eq_emod_of_nonneg (show 0<=e+(x:Int) by omega)];refine aa ?_;generalize he2:(e+(x:Int)) % 65521=e2 at *;refine rx (nd2 @ab (nd2 @ZHB @ZHO)) ?_;rw[Int.tmod_eq_emod_of_nonneg (show 0<=g+e2 by omega)];refine aa ?_;refine gA ?_;refine Ze ?_;exact t ((I l)-(i+1)) ω (i+1) rfl _ _ _ rfl hw ω ω ω;simp only[decide_eq_false_iff_not]at hd;obtain rfl:i=I l:=ω;rw[List.drop_length,QN]at hw;refine xA (nd2 @u @QA) ?_;exact hF.fin (.tup []) _ rfl trivial (ZHx _) ZHw ⟨rfl,by rw[hS,ZHO,<-hw]⟩;exact ad _ 0 rfl a b T (St.upd_self hz).symm ψ ha hb ω
def Zji{a b c:Int}(ha:0<=a/\a<65536):Zf ZHv 191 [.agg [.int .i64 a,.int .i64 b,.int .i64 c]] (.int .i64 (65535-a)):=by
 refine Zi (cR 191 f191) λF st i=>?_;refine rg ?_;refine gA ?_;refine ri i ?_;rfl
def Zjj{a b c:Int}:Zf ZHv 193 [.agg [.int .i64 a,.int .i64 b,.int .i64 c]] (.int .i64 a):=by
 refine Zi (cR 193 f193) λF st i=>?_;refine gG ?_;refine ri i ?_;rfl
def Zjk{a b c:Int}(ha:0<=a/\a<65521)(hb:0<=b/\b<65521):Zf ZHv 195 [.agg [.int .i64 a,.int .i64 b,.int .i64 c]] (.int .i64 (b*65536+a)):=by
 refine Zi (cR 195 f195) λF st i=>?_;refine rg ?_;refine gA ?_;refine ri i ?_;rfl
def ZvA{n m:Nat}(u:n<4611686018427387904)(hm:m<4611686018427387904):Qf .xor .i64 (n:Int) (m:Int)=((n ^^^ m:Nat):Int):=by
 have h1:n ^^^ m<2 ^ 62:=Nat.xor_lt_two_pow u hm;unfold Qf;simp only;have i:(BitVec.ofInt 64 (n:Int)).toNat=n:=by rw[BitVec.toNat_ofInt];omega
 have t:(BitVec.ofInt 64 (m:Int)).toNat=m:=by rw[BitVec.toNat_ofInt];omega
 show IntKind.i64.wrap ((BitVec.ofInt 64 (n:Int) ^^^ BitVec.ofInt 64 (m:Int)).toNat:Int)=_;rw[BitVec.toNat_xor,i,t];exact Ks ω
def ZhW(c:Nat):Nat:=if 65536<=c*2 then c*2 % 65536 ^^^ 4129 else c*2
def ZhX:Nat->Nat->Nat
 |0,c=>c
 |n+1,c=>ZhX n (ZhW c)
def Zgx(n a:Nat):List UInt8->Nat
 | []=>a
 |x::r=>Zgx n (ZhX n (a ^^^ x.toNat*256)) r
def Zzr(n a:Nat):Zgx n a []=a:=rfl
def Zqp(n a:Nat)(x:UInt8)(r:List UInt8):Zgx n a (x::r)=Zgx n (ZhX n (a ^^^ x.toNat*256)) r:=rfl
def Zxv(n c:Nat):ZhX (n+1) c=ZhX n (ZhW c):=rfl
def Zxw(c:Nat):ZhX 0 c=c:=rfl
def ZuX{c:Nat}(h:c<65536):ZhW c<65536:=by
 unfold ZhW;split;exact Nat.xor_lt_two_pow (n:=16) (Nat.mod_lt _ (by decide)) (by decide);omega
def ZuY:∀{n c:Nat},c<65536->ZhX n c<65536
 |0,_,h=>h
 |n+1,c,h=>ZuY (n:=n) (ZuX h)
def Zxx{a:Nat}(h:a<65536)(x:UInt8):a ^^^ x.toNat*256<65536:=Nat.xor_lt_two_pow (n:=16) h (by have:=x.toNat_lt;omega)
def ZuZ{n:Nat}:∀{l:List UInt8} {a:Nat},a<65536->Zgx n a l<65536
 | [],_,h=>h
 |x::r,a,h=>by rw[Zqp];exact ZuZ (ZuY (Zxx h x))
structure EqN(a b:Nat):Prop where
 h:a=b
def Zg9(l:List UInt8){T:St}{z a:Nat}{b c k:Int}(hz:T z=sO (.cells [.int .i64 a,.int .i64 b,.int .i64 c,.int .i64 k]))(ha:a<65536)(hc:0<=c)(hl:c+I l<=4611686018427387904):
  Za ZHv 192 [.ptr z 0,Zh l] T λr S=>r=.ret (.tup [])/\S=T.upd z (.cells [.int .i64 (Zgx 8 a l),.int .i64 b,.int .i64 (c+I l),.int .i64 k]):=by
 refine Zb (cR 192 f192) λF hF=>?_;refine rx @QA ?_;refine Zd (fr (I l) (λi Q=>∀(e:Nat) S,S=T.upd z (.cells [.int .i64 e,.int .i64 b,.int .i64 c,.int .i64 k])->EqN (Zgx 8 e (l.drop i)) (Zgx 8 a l)->e<65536->i<=I l->Q [(0,.d (.ptr z 0)),(1,.d (Zh l)),(6,.d (Zh l)),(7,.d (.int .i64 (I l))),(8,.d (.int .i64 i))] [] S) (λn ad=>?_) λax=>?_);intro i hn2 e S hS hw he hi;have ai:S z=sO (.cells [.int .i64 e,.int .i64 b,.int .i64 c,.int .i64 k]):=by rw[hS];exact ZHB _ _ _
 have ar:∀o,S.upd z o=T.upd z o:=λo=>by rw[hS,ZHO]
 refine rg ?_;refine Zc (Zn rfl trivial (λhd=>?_) (λhd=>?_));simp only[decide_eq_true_eq]at hd;have hx:=(l.getD i dE).toNat_lt;have aj:∀c0,EqN (e ^^^ (l.getD i dE).toNat*256) c0->c0<65536:=λc0 h=>by rw[<-h.h];exact Zxx he _
 rw[Wp (show i<I l by omega),Zqp]at hw;have au:IntKind.i64.wrap ((l.getD i dE).toNat:Int)=(l.getD i dE).toNat:=Ks ω;refine xA (nd2 @ZvQ @u8C.eq_1) ?_;generalize (l.getD i dE).toNat=x at *;have ap:J8 .i64 (x:Int) 8=((x*256:Nat):Int):=by show(x:Int)*256=_;omega
 obtain⟨c0,ac⟩:∃c0,EqN (e ^^^ x*256) c0:=⟨_,⟨rfl⟩⟩;have av:Qf .xor .i64 (e:Int) ((x*256:Nat):Int)=(c0:Int):=by rw[<-ac.h];exact ZvA ω ω
 have ab:=aj c0 ac;rw[ac.h]at hw;clear aj ac;refine rx (nd2 @ai (nd2 @au (nd2 @ap (nd2 @av @ar)))) ?_;refine⟨ω,ω,ω,?_⟩;refine rg ?_;refine Zd (fr (8) (λj Q=>∀(g:Nat) S2,S2=T.upd z (.cells [.int .i64 g,.int .i64 b,.int .i64 c,.int .i64 k])->EqN (ZhX (8-j) g) (ZhX 8 c0)->g<65536->j<=8->Q [(0,.d (.ptr z 0)),(1,.d (Zh l)),(6,.d (Zh l)),(7,.d (.int .i64 (I l))),(8,.d (.int .i64 i)),(22,.d (.int .i64 j))] [] S2) (λn t=>?_) λao=>?_);intro j hn3 g S2 ae u hg hj;have ah:S2 z=sO (.cells [.int .i64 g,.int .i64 b,.int .i64 c,.int .i64 k]):=by rw[ae];exact ZHB _ _ _
 have al:∀o,S2.upd z o=T.upd z o:=λo=>by rw[ae,ZHO]
 refine rg ?_;refine Zc (Zn rfl trivial (λag=>?_) (λag=>?_));simp only[decide_eq_true_eq]at ag;have ak:J8 .i64 (g:Int) 1=((g*2:Nat):Int):=by show(g:Int)*2=_;omega
 rw[show 8-j=(8-(j+1))+1 by omega,Zxv]at u;have af:∀y,EqN (ZhW g) y->y<65536:=λy h=>by rw[<-h.h];exact ZuX hg
 refine rx (nd2 @ah (nd2 @ak @al)) ?_;refine⟨ω,ω,ω,?_⟩;refine rx @ZHB ?_;refine cd (λab=>?_) (λab=>?_);simp only[decide_eq_true_eq]at ab;obtain⟨y,hy⟩:∃y,EqN (g*2 % 65536 ^^^ 4129) y:=⟨_,⟨rfl⟩⟩;have hb:EqN (ZhW g) y:=⟨by unfold ZhW;rw[if_pos ω];exact hy.h⟩;have am:Qf .xor .i64 (((g*2:Nat):Int) % 65536) 4129=(y:Int):=by rw[<-hy.h,<-ZvA (n:=g*2 % 65536) (m:=4129) ω ω];rfl
 have aq:(((g*2:Nat):Int)).tmod 65536=((g*2:Nat):Int) % 65536:=Int.tmod_eq_emod_of_nonneg ω;have aw:=af y hb;rw[hb.h]at u;clear af hb hy;refine xA (nd2 @ZHB (nd2 @aq (nd2 @am @ZHO))) ?_;refine gA ?_;refine Ze ?_;exact t ((8)-(j+1)) ω (j+1) rfl _ _ rfl u aw ω;simp only[decide_eq_false_iff_not]at ab;have hb:EqN (ZhW g) (g*2):=⟨by unfold ZhW;rw[if_neg ω]⟩;rw[hb.h]at u;clear af hb;refine gA ?_;refine Ze ?_;exact t ((8)-(j+1)) ω (j+1) rfl _ _ rfl u ω ω;simp only[decide_eq_false_iff_not]at ag;obtain rfl:j=8:=ω;rw[Nat.sub_self,Zxw]at u;rw[<-u.h]at hw;refine gA ?_;refine Ze ?_;exact ad ((I l)-(i+1)) ω (i+1) rfl _ S2 ae hw hg ω;exact ao _ 0 rfl c0 _ rfl ⟨rfl⟩ ab ω;simp only[decide_eq_false_iff_not]at hd;obtain rfl:i=I l:=ω;rw[List.drop_length,Zzr]at hw;refine xA (nd2 @ai @QA) ?_;exact hF.fin (.tup []) _ rfl trivial (ZHx _) ZHw ⟨rfl,by rw[hS,ZHO,<-hw.h]⟩;exact ax _ 0 rfl a T (St.upd_self hz).symm ⟨ψ⟩ ha ω
def Zzf(n:Int):Int:=if n=1 then 0 else if n=2 then 65535 else 1
def Zjm(n:Int)(l:List UInt8):Int×Int:=if n=1 then (JQ 0 0 l,0) else if n=2 then (Zgx 8 65535 l,0) else QN 1 0 l
def ZcY(n:Int)(l:List UInt8):Int:=if n=1 then 65535-JQ 0 0 l else if n=2 then Zgx 8 65535 l else (QN 1 0 l).2*65536+(QN 1 0 l).1
def ZCr(n:Int):FuncId:=if n=1 then 190 else if n=2 then 192 else 194
def ZCq(n:Int):FuncId:=if n=1 then 191 else if n=2 then 193 else 195
def Zci{n:Int}(h:n=1\/n=2\/n=3):Zf ZHv 105 [.int .i64 n] (.tup [.agg [.int .i64 (W5 n),.int .i64 (Zzf n),.int .i64 0,.int .i64 0,.fn (.func (ZCr n)) [] [],.fn (.func (ZCq n)) [] []],.bool true]):=by
 refine ZlV h ?_;rcases h with rfl|rfl|rfl<;>rfl
def Zzh{n:Int}(h:n=1\/n=2\/n=3)(l:List UInt8):0<=ZcY n l/\ZcY n l<4294967296/\(n≠3->ZcY n l<65536):=by
 unfold ZcY;rcases h with rfl|rfl|rfl;have:=ZiK (l:=l) (a:=0) (i:=0) ω;simp;omega;have:=ZuZ (n:=8) (l:=l) (a:=65535) ω;simp;omega;have:=ZhL (l:=l) (a:=1) (b:=0) ω ω;simp;omega
def Zea{T:St}{z:Nat}{a b c k:Int}(hz:T z=sO (.cells [.int .i64 a,.int .i64 b,.int .i64 c,.int .i64 k]))(hk:k≠0):ZL ZHv 152 [.ptr z 0] T (.bool false) T:=by
 refine ZE (cR 152 f152) λu F i=>?_;clear u;have t:dC (k=0)=false:=decide_eq_false hk;refine rg ?_;refine rx (nd2 @hz @t) ?_;exact i rfl φ (ZHx _) ZHw
def Zsx{n:Int}(h:n=1\/n=2\/n=3)(T:St):Za ZHv 102 [.int .i64 n] T λr S=>∃z,T z=nO/\r=.ret (.tup [.ptr z 0,.int .i64 0])/\S=T.upd z (.cells [.int .i64 (Zzf n),.int .i64 0,.int .i64 0,.int .i64 n]):=by
 refine Zb (cR 102 f102) λF i=>?_;refine gG ?_;refine cl (Zci h) ?_;refine rg ?_;refine iG ?_;refine xP 17 λz t=>?_;exact i.ret _ _ rfl (by first|trivial|simp) (ZHx _) ZHw ⟨z,t,rfl,rfl⟩
def Zjh{n:Int}(h:n=1\/n=2\/n=3)(l:List UInt8)(hl:I l<=4611686018427387904){T:St}{z:Nat}(i:T z=sO (.cells [.int .i64 (Zzf n),.int .i64 0,.int .i64 0,.int .i64 n])):
  Za ZHv 103 [.ptr z 0,Zh l] T λr S=>r=.ret (.int .i64 0)/\S=T.upd z (.cells [.int .i64 (Zjm n l).1,.int .i64 (Zjm n l).2,.int .i64 (I l),.int .i64 n]):=by
 have hw:Za ZHv (ZCr n) [.ptr z 0,Zh l] T λr S=>r=.ret (.tup [])/\S=T.upd z (.cells [.int .i64 (Zjm n l).1,.int .i64 (Zjm n l).2,.int .i64 (I l),.int .i64 n]):=by rcases h with rfl|rfl|rfl;have:=ZhS l i (by decide) (by decide) ω;rw[Int.zero_add]at this;exact this;have:=Zg9 l (a:=65535) i (by decide) (by decide) ω;rw[Int.zero_add]at this;exact this;have:=ZhR l i (by decide) (by decide) (by decide) ω;rw[Int.zero_add]at this;exact this
 refine Zb (cR 103 f103) λF hF=>?_;refine gG ?_;have u:=Zea i ω;refine ct (u) ?_;refine i0 ?_;refine rx @i ?_;refine cl (Zci h) ?_;refine rg ?_;refine vV0 (hw.V (first:=[]) (caps:=[])) ?_ ?_;rintro d S ⟨t,hS⟩;cases t;refine gR0 ?_;refine rg ?_;exact hF.ret _ S rfl φ (ZHx _) ZHw ⟨rfl,hS⟩;rintro d S ⟨t,_⟩;cases t
def ZmC{n:Int}(h:n=1\/n=2\/n=3)(l:List UInt8){T:St}{z:Nat}(t:T z=sO (.cells [.int .i64 (Zjm n l).1,.int .i64 (Zjm n l).2,.int .i64 (I l),.int .i64 n])):
  Za ZHv 104 [.ptr z 0] T λr S=>r=.ret (.tup [.int .i64 (ZcY n l),.int .i64 0])/\S=T:=by
 have hw:Zf ZHv (ZCq n) [.agg [.int .i64 (Zjm n l).1,.int .i64 (Zjm n l).2,.int .i64 (I l)]] (.int .i64 (ZcY n l)):=by rcases h with rfl|rfl|rfl;exact Zji (ZiK (by decide));exact Zjj;have:=ZhL (l:=l) (a:=1) (b:=0) ω ω;exact Zjk this.1 this.2
 refine Zb (cR 104 f104) λF hF=>?_;refine gG ?_;have u:=Zea t ω;refine ct (u) ?_;refine i0 ?_;refine rx @t ?_;refine cl (Zci h) ?_;refine rx @t ?_;refine vV0 ((hw T).V (first:=[]) (caps:=[])) ?_ ?_;rintro d S ⟨i,hS⟩;obtain rfl:=hS.symm;cases i;refine gR0 ?_;exact hF.ret _ T rfl φ (ZHx _) ZHw ⟨rfl,rfl⟩;rintro d S ⟨i,_⟩;cases i
def Zuc{n:Int}(h:n=1\/n=2\/n=3)(l:List UInt8)(hl:I l<=4611686018427387904):Zf ZHv 73 [.int .i64 n,Zh l] (.tup [.int .i64 (ZcY n l),.int .i64 0]):=by
 intro T;refine Zb (cR 73 f73) λF u=>?_;refine gG ?_;refine cV (Zsx h T) ?_ ?_;rintro d S ⟨z,hz,i,t⟩;subst t;cases i;refine gR0 ?_;refine rg ?_;refine iG ?_;refine cV (Zjh h l hl (ZHB _ _ _)) ?_ ?_;rintro d S ⟨i,t⟩;rw[ZHO]at t;subst t;cases i;refine gR0 ?_;refine rg ?_;refine cV (ZmC h l (ZHB _ _ _)) ?_ ?_;rintro d S ⟨i,t⟩;obtain rfl:=t.symm;cases i;refine gR0 ?_;exact u.ret _ T rfl φ (ZHx _) (ZHV _ hz) ⟨rfl,rfl⟩;rintro d S ⟨i,_⟩;cases i;rintro d S ⟨i,_⟩;cases i;rintro d S ⟨_,_,i,_⟩;cases i
def KA(v:Int)(k:Nat):UInt8:=UInt8.ofNat (v.toNat / 2 ^ k)
def ZaG(n v:Int):List UInt8:=if n=3 then [KA v 24,KA v 16,KA v 8,KA v 0] else [KA v 8,KA v 0]
def Zlr{v:Int}(h:0<=v)(k:Nat):IntKind.u8.wrap (v / 2 ^ k)=((KA v k).toNat:Int):=by
 have i:IntKind.u8.wrap (v / 2 ^ k)=(v / 2 ^ k) % 256:=rfl;rw[i];unfold KA;obtain⟨n,rfl⟩:∃n:Nat,v=n:=⟨v.toNat,ω⟩;rw[Int.toNat_natCast,UInt8.toNat_ofNat'];have:((n:Int) / 2 ^ k)=((n / 2 ^ k:Nat):Int):=by simp
 rw[this];omega
def Zpn{n v:Int}(h:n=1\/n=2\/n=3)(hv:0<=v)(hv2:v<4294967296)(hv3:n≠3->v<65536):Zf ZHv 74 [.int .i64 n,.int .i64 v] (.tup [Zh (ZaG n v),.int .i64 0]):=by
 intro T;refine Zb (cR 74 f74) λF hF=>?_;have hb:W5 n=if n=3 then 32 else 16:=rfl
 have ac:J8 .i64 1 (W5 n)=if n=3 then 4294967296 else 65536:=by rcases h with rfl|rfl|rfl<;>rfl
 refine gG ?_;refine cl (Zci h) ?_;refine rg ?_;refine⟨λ_=>by rw[ac,hb];split<;>omega,?_⟩;have hc:(dC (v<0) ||decide (J8 .i64 1 (W5 n)<=v))=false:=by rw[ac,Bool.or_eq_false_iff,decide_eq_false_iff_not,decide_eq_false_iff_not];split<;>omega
 rw[hc];refine i0 ?_;have ab:∀k:Nat,k<=64->QE .i64 v (k:Int)=v / 2 ^ k:=λk hk=>by unfold QE;rw[Int.fdiv_eq_ediv_of_nonneg _ (by exact_mod_cast Nat.zero_le _)];simp[IntKind.bits,Nat.min_eq_left hk]
 have ae:QE .i64 v 24=v / 2 ^ 24:=ab 24 (by decide);have ad:QE .i64 v 16=v / 2 ^ 16:=ab 16 (by decide);have h8:QE .i64 v 8=v / 2 ^ 8:=ab 8 (by decide);have ag:=Zlr hv 24;have af:=Zlr hv 16;have w8:=Zlr hv 8;have w0:=Zlr hv 0;rw[Int.pow_zero,Int.ediv_one]at w0;refine rx (nd2 @ae (nd2 @ad (nd2 @h8 (nd2 @ag (nd2 @af (nd2 @w8 @w0)))))) ?_;refine⟨ω,ω,ω,ω,ω,ω,ω,ω,ω,?_⟩;have e3:(32:Int).tdiv 8=4:=rfl;have e2:(16:Int).tdiv 8=2:=rfl;by_cases h3:n=3
 .rw[if_pos h3]at hb;have t:ZaG n v=[KA v 24,KA v 16,KA v 8,KA v 0]:=by unfold ZaG;rw[if_pos h3]
  refine xA (nd2 @hb @e3) ?_;have u:(D.sl .full 4 1 λi=>ZR [.int .u8 0] ([0,1,2,3].zip [.int .u8 (KA v 24).toNat,.int .u8 (KA v 16).toNat,.int .u8 (KA v 8).toNat,.int .u8 (KA v 0).toNat]) i).Le (Zh (ZaG n v)):=by
   rw[t];refine Zee rfl λi hi=>?_
   match i,hi with
   |0,_=>rfl
   |1,_=>rfl
   |2,_=>rfl
   |3,_=>rfl
  have c9:=Za.leA (.cons u .nil) (WM (ZaG n v) (by rw[t];simp) T);refine cV (c9) ?_ ?_;rintro d S ⟨hr,hS⟩;obtain rfl:=hS.symm;cases hr;refine gR0 ?_;exact hF.ret _ T rfl φ (ZHx _) ZHw ⟨rfl,rfl⟩;rintro d S ⟨hr,_⟩;cases hr
 rw[if_neg h3]at hb;have t:ZaG n v=[KA v 8,KA v 0]:=by unfold ZaG;rw[if_neg h3]
 refine xA (nd2 @hb @e2) ?_;have u:(D.sl .full (4-(4-2):Int).toNat 1 λi=>ZR [.int .u8 0] ([0,1,2,3].zip [.int .u8 (KA v 24).toNat,.int .u8 (KA v 16).toNat,.int .u8 (KA v 8).toNat,.int .u8 (KA v 0).toNat]) ((4-2:Int).toNat+i)).Le (Zh (ZaG n v)):=by
  rw[t];refine Zee rfl λi hi=>?_
  match i,hi with
  |0,_=>rfl
  |1,_=>rfl
 have c9:=Za.leA (.cons u .nil) (WM (ZaG n v) (by rw[t];simp) T);refine cV (c9) ?_ ?_;rintro d S ⟨hr,hS⟩;obtain rfl:=hS.symm;cases hr;refine gR0 ?_;exact hF.ret _ T rfl φ (ZHx _) ZHw ⟨rfl,rfl⟩;rintro d S ⟨hr,_⟩;cases hr
structure Wr where
 b:List UInt8
 n:Nat
 sums:List (Str×Int)
def Wr.add(w:Wr)(l:List UInt8):Wr:=⟨w.b++l,w.n+8*I l,w.sums⟩
def Wr.num(w:Wr)(f:Fld)(v:Int):Wr:=⟨ZpE f.little v.toNat f.bits.toNat w.b w.n,ZjU f.little f.bits.toNat w.n,w.sums⟩
def Wr.app(w:Wr)(chg:List UInt8->List UInt8)(o:Wr):Wr:=⟨w.b++chg o.b,w.n+8*(chg o.b).length,w.sums++o.sums⟩
def Wr.pad(w:Wr)(k:Int):Wr:=⟨Zbc 0 (upS w.n k-w.n).toNat w.b w.n,(upS w.n k).toNat,w.sums⟩
def Wr.chk(w:Wr)(path:Str)(f:Fld)(E:List (Str×Int)):Wr :=
 let c:=ZcY f.check (w.b.drop ((Zp f.from_ E).getD 0).toNat)
 ⟨w.b++ZaG f.check c,w.n+8*(ZaG f.check c).length,w.sums++[(ZM path f.name,c)]⟩
def Y9(chg:List UInt8->List UInt8)(rec:Val->Str->Wr)(q:Str)(ps:List Val):Nat->Nat->Wr->Wr
 |0,_,w=>w
 |n+1,j,w=>Y9 chg rec q ps n (j+1) (w.app chg (rec (ps.getD j dE) (ZM q (Yo ps j))))
def Qh(rec:Val->Str->Wr)(path:Str)(f:Fld)(x:Val)(E:List (Str×Int))(w:Wr):Wr :=
 if f.kind=1 then w.num f x.int
 else if f.kind=2 then w.num f f.low
 else if f.kind=3 then w.add (Kb x.int.toNat (Yd x.int.toNat))
 else if f.kind=4 then w.add x.bytes
 else if f.kind=5 then w.add (x.bytes++[UInt8.ofNat f.low.toNat])
 else if f.kind=6 then w.add (Qp x.hdrs)
 else if f.kind=10 then w.pad f.bits
 else if f.kind=11 then w.chk path f E
 else Y9 (if f.kind=12 then Qg f.key.toNat else id) rec (ZM path f.name) x.parts (I x.parts) 0 w
def xAt(l:List Fld)(ps:List Val)(i:Nat):Val:=if hasV (l.getD i dE) then ps.getD (vfs (l.take i)).length dE else dE
def stF(rec:Val->Str->Wr)(path:Str)(l:List Fld)(ps:List Val):Nat->List (Str×Int)×Wr
 |0=>([],⟨[],0,[]⟩)
 |i+1=>(YN (l.getD i dE).name ((stF rec path l ps i).2.n / 8:Nat) (stF rec path l ps i).1,Qh rec path (l.getD i dE) (xAt l ps i) (YN (l.getD i dE).name ((stF rec path l ps i).2.n / 8:Nat) (stF rec path l ps i).1) (stF rec path l ps i).2)
def WK(d:Dfn):Nat->Msg->Val->Str->Wr
 |0,_,_,_=>⟨[],0,[]⟩
 |n+1,m,v,path=>(stF (λy p=>WK d n (Zl d y.name) y p) path m.fields v.parts (I m.fields)).2
def ZgY(s:Str×Int):List D:=[.str s.1,.int .i64 s.2]
def Zgg(l:List (Str×Int)):D:=slD 2 ZgY l
def wrR(d:Dfn)(path:Str)(mz:Nat)(sD:D):List D:=[.str d.name,YF d.msgs,.str d.start,.str path,.map mz,sD]
structure IsW(S:St)(d:Dfn)(path:Str)(E:List (Str×Int))(w:Wr)(z mz:Nat)(ob os:Option Nat)(sD:D):Prop where
 wb:Wb S z ob w.b w.n (wrR d path mz sD)
 m:S mz=some (.map (Kc E))
 s:Buf S 2 (w.sums.map ZgY) sD os
 zs:os≠some z
 bs:∀x,ob=some x->os≠some x
section
variable {S:St} {d:Dfn} {path:Str} {E:List (Str × Int)} {w:Wr} {z mz:Nat} {ob os:Option Nat} {sD:D}
def IsW.mne(h:IsW S d path E w z mz ob os sD):mz≠z/\ob≠sO mz/\os≠sO mz:=by
 obtain⟨bD,u,i,hne⟩:=h.wb;have hm:=h.m;refine⟨λe=>(by rw[e,u]at hm;cases hm),λe=>?_,λe=>?_⟩
 .subst e;cases i with
  |obj x cap X h1 _ _=>rw[h1]at hm;cases hm
 have t:=h.s;subst e;cases t with
 |obj x cap X h1 _ _=>rw[h1]at hm;cases hm
end
def WF(z:Nat)(S:St)(ob os:Option Nat)(S':St)(ob' os':Option Nat):Prop:=∀y o,S y=sO o->y≠z->ob≠sO y->os≠sO y->S' y=sO o/\ob'≠sO y/\os'≠sO y
def WF.trans{z S ob os S1 i u S2 t os2}(h:WF z S ob os S1 i u)(h2:WF z S1 i u S2 t os2):WF z S ob os S2 t os2:=λy o hy hz h3 h4=>by
 obtain⟨h5,h6,h7⟩:=h y o hy hz h3 h4;exact h2 y o h5 hz h6 h7
def Zpb(d:Dfn)(path:Str)(E:List (Str×Int))(w:Wr)(z mz:Nat)(S:St)(ob os:Option Nat)(r:Res)(S':St):Prop:=r=.ret (.tup [])/\∃ob' os' sD',IsW S' d path E w z mz ob' os' sD'/\WF z S ob os S' ob' os'
section
variable {S:St} {d:Dfn} {path:Str} {E:List (Str × Int)} {w:Wr} {z mz:Nat} {ob os:Option Nat} {sD:D}
def IsW.ofQ(h:IsW S d path E w z mz ob os sD){b' n' r S'}(hp:WbP S z ob b' n' (wrR d path mz sD) r S'):r=.ret (.tup [])/\∃u,IsW S' d path E ⟨b',n',w.sums⟩ z mz u os sD/\WF z S ob os S' u os:=by
 obtain⟨hr,u,hw,hf⟩:=hp;obtain⟨h1,h2,h3⟩:=h.mne;refine⟨hr,u,⟨hw,(hf mz _ h.m h1 h2).1,?_,h.zs,?_⟩,λy o hy hz h4 h5=>⟨(hf y o hy hz h4).1,(hf y o hy hz h4).2,h5⟩⟩
 .have hs:=h.s;cases hs with
  |nil h0=>exact .nil h0
  |obj x cap X hx hX hc =>have i:x≠z:=λe=>h.zs (by rw[e]);exact .obj x cap X (hf x _ hx i λe=>h.bs x e rfl).1 hX hc
 intro x hx e;have hs:=h.s;subst e;cases hs with
 |obj y cap X hy hX hc =>have t:x≠z:=λe=>h.zs (by rw[e]);exact(hf x _ hy t λe=>h.bs x e rfl).2 hx
end
def Zdh{l:List (Str×Int)}:∀r∈l.map ZgY,I r=2:=λr i=>by
 obtain⟨x,_,rfl⟩:=List.mem_map.1 i;rfl
def ZC5{l:List UInt8}{x i:Nat}{X:List D}(h:s x=sO (.cells ((l.map u8C).flatten++X)))(ho:i<=I l):ZV s [x] (.msl x (if (I l:Int)=i then 0 else i*1) ((I l:Int)-i).toNat ((I l:Int)-i).toNat 1) (Zh (l.drop i)):=by
 have u:((I l:Int)-i).toNat=(l.drop i).length:=by rw[ZH9];omega
 by_cases e:(I l:Int)=i;rw[if_pos e,u];have t:(l.drop i).length=0:=by rw[ZH9];omega
 refine ZV.mslO (List.mem_singleton.2 rfl) h (by rw[t];simp) λj hj=>absurd hj (by rw[t];exact Nat.not_lt_zero _);rw[if_neg e,Nat.mul_one];exact ZwX (List.mem_singleton.2 rfl) h u ho
def ZnM{S:St}{d:Dfn}{path:Str}{E:List (Str×Int)}{w:Wr}{z mz:Nat}{ob os:Option Nat}{sD:D}(f:Fld)(x:Val){s0:Nat}(h:IsW S d path E w z mz ob os sD)(hk:f.check=1\/f.check=2\/f.check=3)(hE:Zp f.from_ E=sO (s0:Int))(hs:s0<=I w.b)(hb:I w.b<=1000000000)(hn:w.n<=10000000000)(hl:I w.sums<=1000000)(hp:I path<=1000000)(hfn:I f.name<=1000):
  Za ZHv 45 [.ptr z 0,.agg f.cells,.agg x.cells] S (Zpb d path E (w.chk path f E) z mz S ob os):=by
 refine Zb (cR 45 f45) λF hF=>?_;have hm:=h.mne;obtain⟨bD,hz,hB,hne⟩:=h.wb;have e1:=YD (vD:=YW) ZN f.from_ E;have e3:=YX ZN f.from_;simp only[show Kz f.from_=D.str f.from_ from rfl]at e1 e3;rw[hE]at e1;have ao:=h.m;have hW:w.chk path f E=⟨w.b++ZaG f.check (ZcY f.check (w.b.drop s0)),w.n+8*(ZaG f.check (ZcY f.check (w.b.drop s0))).length,w.sums++[(ZM path f.name,ZcY f.check (w.b.drop s0))]⟩:=by unfold Wr.chk;rw[hE];rfl
 rw[hW]at hF;have t:=Zzh hk (w.b.drop s0);have ad:=Zuc hk (w.b.drop s0) (by rw[ZH9];omega);have am:=Zpn hk t.1 t.2.1 t.2.2;have ap:=Zcl path f.name ω ω;generalize ZcY f.check (w.b.drop s0)=c at *;refine rg ?_;unfold wrR at hz;refine rx (nd2 @eQ0 (nd2 @hz (nd2 @ao (nd2 @e1 (nd2 @e3 @ZeI))))) ?_;rw[show YW (s0:Int)=D.int .i64 s0 from rfl];refine jU [1,0,1] (λQ =>  Q F [(0,.d (.ptr z 0)),(4,.loc 4 0),(7,.d (.int .i64 c))] [(4,[.str f.name,.int .i64 f.kind,.int .i64 f.bits,.bool f.little,.bool f.loose,.int .i64 f.low,.int .i64 f.high,.int .i64 f.size.base,Yj f.size.terms,.str f.of,.str f.tag,.str f.from_,WP f.cases,.int .i64 f.check,.int .i64 f.key])] S) ?_ λfin=>?_;refine rx @eQ0 ?_;refine cl (am) ?_;refine rg ?_;have c9:=Kp (ZaG f.check c) h.wb (by unfold ZaG;split<;>simp only[ZHN,List.length_nil]<;>omega);refine cV (c9) ?_ ?_;rintro dd S1 hP;obtain⟨hr,av,h1,ai⟩:=h.ofQ hP;cases hr;refine gR0 ?_;have af:=h1.mne;obtain⟨ag,u,ah,ab⟩:=id h1.wb;unfold wrR at u;refine rx (nd2 @eQ0 @u) ?_;refine clD (ap) ?_;refine ZrY rfl rfl (h1.s) (by exact Zdh) rfl rfl φ φ (.elems rfl) (by rw[ZHS];show(I w.sums+1)*24<=_;omega) (by rw[ZHS];show (I w.sums)+1<=_;unfold big;omega) (by (show _=[ZgY (ZM path f.name,c)];rfl)) (by exact Zdh (l:=[_])) λs1 D1 au ae i=>?_;have ar:=(i z _ u h1.zs).1;refine⟨by first|trivial|exact⟨rfl,trivial⟩|simp,?_⟩;refine gQ @ar ?_;refine⟨ae.cell,?_⟩;obtain⟨aj,ak⟩:=ah.fr i h1.bs;refine hF.fin (.tup []) _ rfl trivial (ZHx _) ZHw ⟨rfl,av,au,D1,⟨⟨ag,ZHB _ _ _,aj.upd ab,ab⟩,?_,?_,(i z _ u h1.zs).2,ak⟩,λy o hy e1 e2 e3=>?_⟩;rw[ZHD _ _ af.1];exact(i mz _ h1.m af.2.2).1;rw[List.map_append];exact ae.upd (i z _ u h1.zs).2;obtain⟨h4,h5,h6⟩:=ai y o hy e1 e2 e3;obtain⟨h7,h8⟩:=i y o h4 h6;exact⟨by rw[ZHD _ _ e1];exact h7,h5,h8⟩;exact λdd S1 h=>(WbP.bad h).elim;cases hB with
 |nil h0 =>
  have aq:w.b=[]:=List.map_eq_nil_iff.1 h0;rw[aq]at hs ad;obtain rfl:s0=0:=by simpa using hs
  have ac:=Za.leA (.cons (ZHx (.int .i64 f.check)) (.cons (show(D.nilsl).Le (Zh (([]:List UInt8).drop 0)) from YL λb h=>by cases h) .nil)) (ad S);refine rx (nd2 @eQ0 @hz) ?_;refine⟨by decide,?_⟩;refine cV0 (ac) ?_ ?_;rintro dd S1 ⟨hr,hS⟩;obtain rfl:=hS.symm;cases hr;refine gR0 ?_;refine Zc ?_;exact fin;rintro dd S1 ⟨hr,_⟩;cases hr
 |obj y cap X hy hX hc =>
  have al:(w.b.map u8C).length=I w.b:=by rw[ZHS]
  rw[al]at hz hX hc;refine xA (nd2 @eQ0 @hz) ?_;have ac:=ZDn (T:=S) (Ln:=[y]) (λb hb=>by obtain rfl:=List.mem_singleton.1 hb;exact⟨_,hy⟩) (.cons (ZV.refl (.int .i64 f.check)) (.cons (ZC5 hy hs) .nil)) ad (.tup _ λc hc=>by
   simp only[ZIa,List.not_mem_nil,or_false]at hc;rcases hc with rfl|rfl<;>exact .int _ _)
  refine cV0 (ac) ?_ ?_;rintro dd S1 ⟨hr,hS⟩;obtain rfl:=hS.symm;cases hr;refine gR0 ?_;refine Zc ?_;exact fin;rintro dd S1 ⟨hr,_⟩;cases hr
section
variable {S:St} {d:Dfn} {path:Str} {E:List (Str × Int)} {w:Wr} {z mz:Nat} {ob os:Option Nat} {sD:D}
def IsW.upd(h:IsW S d path E w z mz ob os sD){y}(t:S y=nO)(o:QL):IsW (S.upd y o) d path E w z mz ob os sD/\ob≠sO y/\os≠sO y/\y≠z/\y≠mz:=by
 obtain⟨bD,hz,hB,i⟩:=id h.wb;have u:y≠z:=λe=>by rw[e,hz]at t;cases t
 have h2:y≠mz:=λe=>by rw[e,h.m]at t;cases t
 have h3:ob≠sO y:=λe=>by
  subst e;cases hB with
  |obj x cap X hx _ _=>rw[hx]at t;cases t
 have h4:os≠sO y:=λe=>by
  have hs:=h.s;subst e;cases hs with
  |obj x cap X hx _ _=>rw[hx]at t;cases t
 exact⟨⟨⟨bD,by rw[ZHD _ _ u.symm];exact hz,hB.upd h3,i⟩,by rw[ZHD _ _ h2.symm];exact h.m,h.s.upd h4,h.zs,h.bs⟩,h3,h4,u,h2⟩
end
def IsW.nomap{S:St}{d:Dfn}{path:Str}{E:List (Str×Int)}{w:Wr}{z mz:Nat}{ob os:Option Nat}{sD:D}(h:IsW S d path E w z mz ob os sD){i l}(hm:S i=sO (.map l)):i≠z/\ob≠sO i/\os≠sO i:=by
 obtain⟨bD,hz,t,hne⟩:=id h.wb;refine⟨λe=>(by rw[e,hz]at hm;cases hm),λe=>?_,λe=>?_⟩
 .subst e;cases t with
  |obj x cap X h1 _ _=>rw[h1]at hm;cases hm
 have u:=h.s;subst e;cases u with
 |obj x cap X h1 _ _=>rw[h1]at hm;cases hm
def IsW.put{S:St}{d:Dfn}{path:Str}{E:List (Str×Int)}{w:Wr}{z mz:Nat}{ob os:Option Nat}{sD:D}(h:IsW S d path E w z mz ob os sD){y}(o:QL)(u:y≠z)(h2:y≠mz)(h3:ob≠sO y)(h4:os≠sO y):IsW (S.upd y o) d path E w z mz ob os sD:=by
 obtain⟨t,hz,hB,i⟩:=id h.wb;exact⟨⟨t,by rw[ZHD _ _ u.symm];exact hz,hB.upd h3,i⟩,by rw[ZHD _ _ h2.symm];exact h.m,h.s.upd h4,h.zs,h.bs⟩
def Zdw{chg rec q ps n j w}:Y9 chg rec q ps (n+1) j w=Y9 chg rec q ps n (j+1) (w.app chg (rec (ps.getD j dE) (ZM q (Yo ps j)))):=rfl
def Zmc{chg rec q ps j w}:Y9 chg rec q ps 0 j w=w:=rfl
def Zma{chg rec q ps}:∀{n j w},w.n<=(Y9 chg rec q ps n j w).n/\I w.b<=(Y9 chg rec q ps n j w).b.length/\I w.sums<=(Y9 chg rec q ps n j w).sums.length
 |0,_,_=>⟨ZHK _,ZHK _,ZHK _⟩
 |n+1,j,w=>by have h:=Zma (chg:=chg) (rec:=rec) (q:=q) (ps:=ps) (n:=n) (j:=j+1) (w:=w.app chg (rec (ps.getD j dE) (ZM q (Yo ps j))));rw[Zdw];simp only[Wr.app,ZHF]at h⊢;omega
def WrP(d:Dfn)(o:Wr)(p:Str)(T:St)(r:Res)(S:St):Prop:=∃z' mz',T z'=nO/\r=.ret (.ptr z' 0)/\S=T.upd z' (.cells (Zh o.b::.int .i64 o.n::wrR d p mz' (Zgg o.sums)))
def ZA8(ps:List Val)(k:Nat):Js ps k=Ze3 (ps.getD k dE).name (ps.take k):=rfl
def ZwU(l:List (Str×Int)):(ZHJ (I l)).map (λi=>ZgY (l.getD i dE))=l.map ZgY:=by
 apply List.ext_getElem?;intro i;simp only[List.getElem?_map,List.getElem?_range,ZHL];by_cases h:i<I l;simp[h];simp[h]
def Ze6{S K:St}{d:Dfn}{path:Str}{E:List (Str×Int)}{w:Wr}{z mz:Nat}{ob os:Option Nat}{sD:D}(f:Fld)(x:Val)(fn:D)(chg:List UInt8->List UInt8)(rec:Val->Str->Wr)(h:IsW S d path E w z mz ob os sD)(hK:K.sub S)(hKf:∀y o,K y=sO o->y≠z/\ob≠sO y/\os≠sO y)(hchg:∀T l,K.sub T->I l<=110000000->WN ZHv fn [Zh l] T λr S=>r=.ret (Zh (chg l))/\S=T)(hps:I x.parts<=5000)(hnm:∀y∈x.parts,I y.name<=32)(hfn:I f.name<=32)(hp:I path<=1000000)(hfind:∀y∈x.parts,0<=Zq d y.name (I d.msgs))(hrec:∀y∈x.parts,∀p T,I p<=I path+6000->Za ZHv 23 [.agg d.cells,.agg (Zl d y.name).cells,.agg y.cells,.str p] T (WrP d (rec y p) p T))(hlen:∀y∈x.parts,∀p,(rec y p).b.length<=110000000)(hR:(Y9 chg rec (ZM path f.name) x.parts (I x.parts) 0 w).n<=1000000000/\(Y9 chg rec (ZM path f.name) x.parts (I x.parts) 0 w).b.length<=1000000000/\(Y9 chg rec (ZM path f.name) x.parts (I x.parts) 0 w).sums.length<=1000000):
  Za ZHv 70 [.ptr z 0,.agg f.cells,.agg x.cells,fn] S (Zpb d path E (Y9 chg rec (ZM path f.name) x.parts (I x.parts) 0 w) z mz S ob os):=by
 refine Zb (cR 70 f70) λF hF=>?_;obtain⟨q,hq⟩:∃q,ZM path f.name=q:=⟨_,rfl⟩;obtain⟨R,ba⟩:∃R,Y9 chg rec (ZM path f.name) x.parts (I x.parts) 0 w=R:=⟨_,rfl⟩;have cn:=ZbY path f.name;rw[hq]at cn;rw[ba]at hR hF;rw[x.cells_eq];refine gG ?_;intro ms ay;obtain⟨br,_,_,hmz0,bi⟩:=h.upd ay (.map []);refine rx @Zc6 ?_;refine Zd (fr (I x.parts) (λj Q=>∀w1 u ae a4 S1 C,IsW S1 d path E w1 z mz u ae a4->WF z S ob os S1 u ae->S1 ms=sO (.map (Kc C))->(∀nm,(Zp nm C).getD 0=(Ze3 nm (x.parts.take j):Int))->Y9 chg rec q x.parts (I x.parts-j) j w1=R->j<=I x.parts->Q [(0,.d (.ptr z 0)),(3,.d fn),(5,.loc 5 0),(8,.d (.map ms)),(18,.d (ZY x.parts)),(19,.d (.int .i64 (I x.parts))),(20,.d (.int .i64 j))] [(5,[.str f.name,.int .i64 f.kind,.int .i64 f.bits,.bool f.little,.bool f.loose,.int .i64 f.low,.int .i64 f.high,.int .i64 f.size.base,Yj f.size.terms,.str f.of,.str f.tag,.str f.from_,WP f.cases,.int .i64 f.check,.int .i64 f.key])] S1) (λn ap=>?_) λcy=>?_);intro j hn2 w1 u ae a4 S1 C hI bc hC aq t hj;refine rg ?_;refine Zc (Zn rfl trivial (λhd=>?_) (λhd=>?_));simp only[decide_eq_true_eq]at hd;have am:x.parts.getD j dE∈x.parts:=ZD ω;have cs:=QX (l:=x.parts) (i:=j) ω;have hyn:=hnm _ am;have co:=hfind _ am;have cr:=hrec _ am;have cp:=hlen _ am;have al:=Yo.eq_1 x.parts j;have hsl:=Zge hps hnm (k:=j) ω;have bf:=ZA8 x.parts j;have hdl:=ZnJ x.parts j;have b1:=λnm=>Zqn (nm:=nm) (l:=x.parts) (i:=j) ω;rw[show (I x.parts)-j=(I x.parts-(j+1))+1 by omega,Zdw]at t;generalize x.parts.getD j dE=y at *;have ax:=aq y.name;rw[<-bf]at ax;have e1:=YD (vD:=YW) ZN y.name C;have e2:=JX (vD:=YW) ZN y.name ((Js x.parts j:Nat)+1:Int) C;have e3:=YX ZN y.name;simp only[show Kz y.name=D.str y.name from rfl,show ∀n,YW n=.int .i64 n from λ_=>rfl]at e1 e2 e3;refine xA (nd2 @atV @cs) ?_;refine rg ?_;refine rx (nd2 @hC (nd2 @e1 (nd2 @e3 (nd2 @ZeI @ax)))) ?_;refine rg ?_;refine jU [0] (λQ =>  Q F [(0,.d (.ptr z 0)),(3,.d fn),(5,.loc 5 0),(8,.d (.map ms)),(10,.loc 10 0),(11,.d (.str (Yo x.parts j))),(18,.d (ZY x.parts)),(19,.d (.int .i64 (I x.parts))),(20,.d (.int .i64 j))] [(5,[.str f.name,.int .i64 f.kind,.int .i64 f.bits,.bool f.little,.bool f.loose,.int .i64 f.low,.int .i64 f.high,.int .i64 f.size.base,Yj f.size.terms,.str f.of,.str f.tag,.str f.from_,WP f.cases,.int .i64 f.check,.int .i64 f.key]),(10,[.str y.name,.int .i64 y.int,Zh y.bytes,Yc y.hdrs,ZY y.parts])] S1) ?_ λj1=>?_;obtain⟨cj,ch,ci⟩:=hI.nomap hC;have ca:ms≠mz:=bi;refine xA (nd2 @hC (nd2 @e1 (nd2 @e2 (nd2 @e3 (nd2 @ZeI @ax))))) ?_;have a9:=hI.put (.map (Kc (YN y.name ((Js x.parts j:Nat)+1:Int) C))) cj ca ch ci;have aw:∀nm,(Zp nm (YN y.name ((Js x.parts j:Nat)+1:Int) C)).getD 0=(Ze3 nm (x.parts.take (j+1)):Int):=λnm=>by rw[b1 nm];by_cases e:nm=y.name;subst e;rw[WU,if_pos rfl,if_pos rfl,bf];rfl;rw[WU,if_neg e,if_neg (Ne.symm e)];exact aq nm
 have be:WF z S ob os (S1.upd ms (.map (Kc (YN y.name ((Js x.parts j:Nat)+1:Int) C)))) u ae:=λy o hy h1 h2 h3=>by obtain⟨h4,h5,h6⟩:=bc y o hy h1 h2 h3;exact⟨by rw[ZHD _ _ λe=>by rw[e,ay]at hy;cases hy];exact h4,h5,h6⟩
 have a6:=ZHB S1 ms (.map (Kc (YN y.name ((Js x.parts j:Nat)+1:Int) C)));generalize YN y.name ((Js x.parts j:Nat)+1:Int) C=C2 at *;generalize S1.upd ms (.map (Kc C2))=S2 at *;obtain⟨bD,hz,hB,hne⟩:=id a9.wb;unfold wrR at hz;have hix:=QR co;have cb:max (Zq d y.name (I d.msgs)) 0=ixS d y.name:=ω;have b2:Zj (λx:Msg=>dC (x.name=y.name)) d.msgs=Zq d y.name (I d.msgs):=by unfold Zq;rw[ZH0]
 have bg:=Za4 d y.name;rw[b2,cb]at bg;have au:=Zcl path f.name ω ω;rw[hq]at au;have bl:=Zcl q (Yo x.parts j) ω ω;have hpl:=ZbY q (Yo x.parts j);have ag:=cr (ZM q (Yo x.parts j)) S2 ω;unfold Zl at ag;generalize ce:d.msgs.getD (ixS d y.name) dE=my at *;generalize ZM q (Yo x.parts j)=pj at *;rw[ZHZ]at ag;refine rx @hz ?_;refine cl0 (bg) ?_;refine xA (nd2 @hz (nd2 @atM (nd2 @ce @eQ3))) ?_;refine clD (au) ?_;refine clD (bl) ?_;refine cVD (ag) ?_ ?_;rintro dd S3 ⟨z',bo,ao,hr,aj⟩;cases hr;refine kF ?_;refine gR0 ?_;have ad:=a9.upd ao (.cells (Zh (rec y pj).b::.int .i64 (rec y pj).n::wrR d pj bo (Zgg (rec y pj).sums)));rw[<-aj]at ad;obtain⟨ad,cv,cw,cx,hzm⟩:=ad;have a7:S3 ms=sO (.map (Kc C2)):=by rw[aj,ZHD _ _ λe=>by rw[<-e,a6]at ao;cases ao];exact a6
 have bb:WF z S ob os S3 u ae:=λy o hy h1 h2 h3=>by obtain⟨h4,h5,h6⟩:=be y o hy h1 h2 h3;exact⟨by rw[aj,ZHD _ _ λe=>by rw[e,ao]at h4;cases h4];exact h4,h5,h6⟩
 have a0:S3 z'=sO (.cells (Zh (rec y pj).b::.int .i64 (rec y pj).n::wrR d pj bo (Zgg (rec y pj).sums))):=by rw[aj,ZHB]
 unfold wrR at a0;have bu:K.sub S3:=λy o hy=>by obtain⟨h1,h2,h3⟩:=hKf y o hy;exact(bb y o (hK y o hy) h1 h2 h3).1
 have cm:=cp pj;have b0:=hchg S3 (rec y pj).b bu cm;have af:=Zma (chg:=chg) (rec:=rec) (q:=q) (ps:=x.parts) (n:=I x.parts-(j+1)) (j:=j+1) (w:=w1.app chg (rec y pj));rw[t]at af;simp only[Wr.app,ZHF]at af;generalize rec y pj=o at *;refine rx @a0 ?_;refine vV0 (b0) ?_ ?_;rintro dd S4 ⟨hr,bv⟩;obtain rfl:=bv.symm;cases hr;refine gR0 ?_;have c9:=Kp (chg o.b) ad.wb ω;refine cV0 (c9) ?_ ?_;rintro dd S5 hP;obtain⟨hr,a3,ab,av⟩:=ad.ofQ hP;cases hr;refine gR0 ?_;obtain⟨bj,bk,cg⟩:=ad.nomap a7;have a8:=(av ms _ a7 bj bk cg).1;have bn:=(av z' _ a0 cx cv cw).1;obtain⟨ai,ah,bp,ar⟩:=id ab.wb;unfold wrR at ah;have bh:=ab.mne;refine rx (nd2 @ah @bn) ?_;refine Zw2 rfl rfl (ab.s) (by exact Zdh) rfl rfl φ φ (.elems rfl) (by rw[ZHS];show(I w1.sums+I o.sums)*24<=_;omega) (by rw[ZHS];show (I w1.sums)+I o.sums<=_;unfold big;omega) (by exact ZwU o.sums) (by exact Zdh) λs1 D1 u a5 ac=>?_;have cu:=(ac z _ ah ab.zs).1;refine gQ @cu ?_;refine⟨a5.cell,?_⟩;obtain⟨bx,bz⟩:=bp.fr ac ab.bs;have bt:IsW (s1.upd z (.cells [ai,.int .i64 ((w1.n+8*(chg o.b).length:Nat):Int),.str d.name,YF d.msgs,.str d.start,.str path,.map mz,D1])) d path E (w1.app chg o) z mz a3 u D1:=by refine⟨⟨ai,ZHB _ _ _,bx.upd ar,ar⟩,?_,?_,(ac z _ ah ab.zs).2,bz⟩;rw[ZHD _ _ bh.1];exact(ac mz _ ab.m bh.2.2).1;show Buf _ 2 ((w1.sums++o.sums).map ZgY) D1 u;rw[List.map_append];exact a5.upd (ac z _ ah ab.zs).2
 have bw:WF z S ob os (s1.upd z (.cells [ai,.int .i64 ((w1.n+8*(chg o.b).length:Nat):Int),.str d.name,YF d.msgs,.str d.start,.str path,.map mz,D1])) a3 u:=λy o hy h1 h2 h3=>by obtain⟨h4,h5,h6⟩:=(bb.trans av) y o hy h1 h2 h3;obtain⟨h7,h8⟩:=ac y o h4 h6;exact⟨by rw[ZHD _ _ h1];exact h7,h5,h8⟩
 have bq:(s1.upd z (.cells [ai,.int .i64 ((w1.n+8*(chg o.b).length:Nat):Int),.str d.name,YF d.msgs,.str d.start,.str path,.map mz,D1])) ms=sO (.map (Kc C2)):=by rw[ZHD _ _ bj];exact(ac ms _ a8 (ab.nomap a8).2.2).1
 refine gA ?_;refine Ze ?_;exact ap ((I x.parts)-(j+1)) ω (j+1) rfl (w1.app chg o) a3 u D1 _ C2 bt bw bq aw t ω;exact λdd S5 h=>(WbP.bad h).elim;rintro dd S4 ⟨hr,_⟩;cases hr;rintro dd S3 ⟨_,_,_,hr,_⟩;cases hr;refine cd (λaz=>?_) (λaz=>?_);have ak:Js x.parts j≠0:=by simp at az;omega
 rw[if_neg ak]at al;refine rg ?_;have hdc:=ZhV (Js x.parts j);refine Zay rfl rfl rfl rfl rfl φ φ (by exact ZmG ak ω) (Zm ?_);simp only[Eqs,reduceCtorEq,ZHC,reduceIte,ZHz,ZHE,ZHA];refine⟨by unfold big;omega,by unfold big;omega,?_⟩;rw[show y.name++58::ZaI (Js x.parts j)=Yo x.parts j by rw[al,ZHY];rfl];exact j1;refine ZI ?_;have ak:Js x.parts j=0:=by simp at az;omega
 rw[if_pos ak]at al;rw[al]at j1;refine kE [0,3,5,8,10,11,18,19,20] ?_;exact j1;simp only[decide_eq_false_iff_not]at hd;obtain rfl:j=I x.parts:=ω;rw[Nat.sub_self,Zmc]at t;subst t;refine ZS rfl ?_;exact hF.fin (.tup []) _ rfl trivial (ZHx _) ZHw ⟨rfl,u,ae,a4,hI,bc⟩;have h0:=cy _ 0 rfl w ob os sD (S.upd ms (.map [])) [] br (λy o hy hyz h1 h2=>⟨by rw[ZHD _ _ λe=>by rw[e,ay]at hy;cases hy];exact hy,h1,h2⟩) (ZHB _ _ _) (λnm=>rfl) (by rw[<-hq];exact ba) ω;exact h0
def Zlz(l:List UInt8):Zf ZHv 71 [Zh l] (Zh l):=by
 refine Zi (cR 71 f71) λF st i=>?_;refine gG ?_;refine ro i ?_;rfl
def ZmH(f:Fld){k:Nat}(hk:f.key=k)(hk2:k<4294967296)(l:List UInt8)(hl:I l<=110000000){T:St}{zf:Nat}(u:T zf=sO (.cells f.cells)):ZL ZHv 76 [Zh l,.ptr zf 0] T (Zh (Qg k l)) T:=by
 refine ZE (cR 76 f76) λt F i=>?_;clear t;unfold Fld.cells at u;rw[hk]at u;have hx:=Zrg hk2 l ω;have hc:=Qg.eq_1 k l;refine rg ?_;refine rx @u ?_;refine cd (λh=>?_) (λh=>?_);rw[if_pos (by simp at h;omega)]at hc;rw[hc]at i;refine rg ?_;refine ro i ?_;rfl;refine rx @u ?_;refine cl (hx) ?_;refine rg ?_;refine ro i ?_;rfl
section
variable {S:St} {d:Dfn} {path:Str} {E:List (Str × Int)} {w:Wr} {z mz:Nat} {ob os:Option Nat} {sD:D} (f:Fld) (x:Val) (rec:Val->Str->Wr)
structure ZyZ(d:Dfn)(path:Str)(f:Fld)(x:Val)(chg:List UInt8->List UInt8)(rec:Val->Str->Wr)(w:Wr):Prop where
 few:I x.parts<=5000
 nm:∀y∈x.parts,I y.name<=32
 fn:I f.name<=32
 pth:I path<=1000000
 find:∀y∈x.parts,0<=Zq d y.name (I d.msgs)
 rc:∀y∈x.parts,∀p T,I p<=I path+6000->Za ZHv 23 [.agg d.cells,.agg (Zl d y.name).cells,.agg y.cells,.str p] T (WrP d (rec y p) p T)
 len:∀y∈x.parts,∀p,(rec y p).b.length<=110000000
 R:(Y9 chg rec (ZM path f.name) x.parts (I x.parts) 0 w).n<=1000000000/\(Y9 chg rec (ZM path f.name) x.parts (I x.parts) 0 w).b.length<=1000000000/\(Y9 chg rec (ZM path f.name) x.parts (I x.parts) 0 w).sums.length<=1000000
def Zck(h:IsW S d path E w z mz ob os sD)(t:ZyZ d path f x id rec w):
  Za ZHv 43 [.ptr z 0,.agg f.cells,.agg x.cells] S (Zpb d path E (Y9 id rec (ZM path f.name) x.parts (I x.parts) 0 w) z mz S ob os):=by
 refine Zb (cR 43 f43) λF hF=>?_;have i:=Ze6 (K:=λ_=>nO) f x (.fn (.func 71) [] []) id rec h (λy o hy=>by cases hy) (λy o hy=>by cases hy)
  (λT l _ _=>Za.V (first:=[]) (args:=[_]) (caps:=[]) (Zlz l T)) t.few t.nm t.fn t.pth t.find t.rc t.len t.R
 rw[x.cells_eq]at i⊢;refine rg ?_;refine rx @eQ0 ?_;refine cV (i) ?_ ?_;rintro dd S1 ⟨u,h1⟩;cases u;refine gR0 ?_;exact hF.fin (.tup []) _ rfl trivial (ZHx _) ZHw ⟨rfl,h1⟩;rintro dd S1 ⟨u,_⟩;cases u
def Zpt{k:Nat}(h:IsW S d path E w z mz ob os sD)(hp:ZyZ d path f x (Qg k) rec w)(hk:f.key=k)(hk2:k<4294967296):
  Za ZHv 46 [.ptr z 0,.agg f.cells,.agg x.cells] S (Zpb d path E (Y9 (Qg k) rec (ZM path f.name) x.parts (I x.parts) 0 w) z mz S ob os):=by
 refine Zb (cR 46 f46) λF hF=>?_;have u:f.cells=[.str f.name,.int .i64 f.kind,.int .i64 f.bits,.bool f.little,.bool f.loose,.int .i64 f.low,.int .i64 f.high,.int .i64 f.size.base,Yj f.size.terms,.str f.of,.str f.tag,.str f.from_,WP f.cases,.int .i64 f.check,.int .i64 f.key]:=rfl;have ab:=λzf (i:S zf=nO)=>Ze6 (S:=S.upd zf (.cells f.cells)) (K:=ZH1 zf (.cells f.cells)) f x (.fn (.func 76) [] [.ptr zf 0]) (Qg k) rec (h.upd i _).1
  (λy o hy=>by
   by_cases e:y=zf;subst e;rw[Yl]at hy;rw[ZHB];exact hy;rw[ZaS e]at hy;cases hy) (λy o hy=>by
   by_cases e:y=zf;subst e;obtain⟨_,h1,h2,h3,_⟩:=h.upd i (.cells []);exact⟨h3,h1,h2⟩;rw[ZaS e]at hy;cases hy)
  (λT l hT hl=>((ZmH f hk hk2 l hl (hT zf _ Yl)).VT (first:=[]) (args:=[_]) (caps:=[_]))) hp.few hp.nm hp.fn hp.pth hp.find hp.rc hp.len hp.R
 rw[x.cells_eq]at ab⊢;refine rg ?_;refine xP 4 λzf i=>?_;have t:=ab zf i;rw[u]at t;refine rx (nd2 @ZHB @u) ?_;refine cV (t) ?_ ?_;rintro dd S1 ⟨hr,ac,ad,ae,h1,h2⟩;cases hr;refine gR0 ?_;refine hF.fin (.tup []) _ rfl trivial (ZHx _) ZHw ⟨rfl,ac,ad,ae,h1,λy o hy h3 h4 h5=>h2 y o ?_ h3 h4 h5⟩;rw[ZHD _ _ λe=>by rw[e,i]at hy;cases hy];exact hy;rintro dd S1 ⟨hr,_⟩;cases hr
end
def ZgG:List (Int×D):=[(1,.fn (.func 37) [] []),(2,.fn (.func 38) [] []),(3,.fn (.func 39) [] []),(4,.fn (.func 40) [] []),(5,.fn (.func 41) [] []),(6,.fn (.func 42) [] []),(7,.fn (.func 43) [] []),(8,.fn (.func 43) [] []),(9,.fn (.func 43) [] []),(10,.fn (.func 44) [] []),(11,.fn (.func 45) [] []),(12,.fn (.func 46) [] [])]
structure ZyY(d:Dfn)(path:Str)(f:Fld)(x:Val)(rec:Val->Str->Wr)(E:List (Str×Int))(w:Wr):Prop where
 kind:1<=f.kind/\f.kind<=12
 bok:BOk w.b w.n
 n:w.n<=110000000
 sums:I w.sums<=1000000
 nm:I f.name<=32
 pth:I path<=1000000
 num:f.kind=1\/f.kind=2->0<=f.bits/\f.bits<=600
 low:f.kind=2->0<=f.low/\f.low<34359738368
 vint:f.kind=1\/f.kind=3->0<=x.int/\x.int<34359738368
 byt:I x.bytes<=1048576
 unt:f.kind=5->0<=f.low/\f.low<=255
 hdr:f.kind=6->KC x.hdrs=true/\ZcP x.hdrs/\(Qp x.hdrs).length<=1048576
 pad:f.kind=10->Zbu f.bits=true
 chk:f.kind=11->(f.check=1\/f.check=2\/f.check=3)/\∃s0:Nat,Zp f.from_ E=some (s0:Int)/\s0<=I w.b
 key:f.kind=12->0<=f.key/\f.key<4294967296
 prt:7<=f.kind/\f.kind<=9\/f.kind=12->ZyZ d path f x (if f.kind=12 then Qg f.key.toNat else id) rec w
section
variable {S:St} {d:Dfn} {path:Str} {E:List (Str × Int)} {w:Wr} {z mz:Nat} {ob os:Option Nat} {sD:D} {f:Fld} {x:Val} {rec:Val->Str->Wr}
def ZbH{t:FuncId}{args u n'}(h:IsW S d path E w z mz ob os sD)(hc:Za ZHv t args S (WbP S z ob u n' (wrR d path mz sD))){w'}(hw:w'=⟨u,n',w.sums⟩):Za ZHv t args S (Zpb d path E w' z mz S ob os):=by
 subst hw;exact hc.mono λr S' hp=>by obtain⟨hr,i,h1,h2⟩:=h.ofQ hp;exact⟨hr,i,os,sD,h1,h2⟩
def Zzv(h:IsW S d path E w z mz ob os sD)(u:ZyY d path f x rec E w):∃fid:FuncId,Zp f.kind ZgG=sO (.fn (.func fid) [] [])/\Za ZHv fid [.ptr z 0,.agg f.cells,.agg x.cells] S (Zpb d path E (Qh rec path f x E w) z mz S ob os):=by
 have hk:=u.kind;have hW:=Qh.eq_1 rec path f x E w;have hn:=u.n;have t:=u.bok;unfold BOk at t;have i:f.kind=1\/f.kind=2\/f.kind=3\/f.kind=4\/f.kind=5\/f.kind=6\/f.kind=7\/f.kind=8\/f.kind=9\/f.kind=10\/f.kind=11\/f.kind=12:=ω;rcases i with hk1|hk1|hk1|hk1|hk1|hk1|hk1|hk1|hk1|hk1|hk1|hk1<;>rw[hk1]at hW⊢<;>simp only[ZId,if_true,if_false]at hW<;>rw[hW];obtain⟨b1,b2⟩:=u.num ω;obtain⟨v1,v2⟩:=u.vint ω;exact⟨_,rfl,ZbH h (Ze7 f x (v:=x.int.toNat) (k:=f.bits.toNat) h.wb u.bok ω ω ω ω ω) rfl⟩;obtain⟨b1,b2⟩:=u.num ω;obtain⟨v1,v2⟩:=u.low hk1;exact⟨_,rfl,ZbH h (Zjv f x (v:=f.low.toNat) (k:=f.bits.toNat) h.wb u.bok ω ω ω ω ω) rfl⟩;obtain⟨v1,v2⟩:=u.vint ω;exact⟨_,rfl,ZbH h (Zjw f x (v:=x.int.toNat) h.wb u.bok ω ω ω) rfl⟩;exact⟨_,rfl,ZbH h (ZnN f x h.wb u.bok u.byt ω) rfl⟩;obtain⟨v1,v2⟩:=u.unt hk1;exact⟨_,rfl,ZbH h (ZnO f x (c:=UInt8.ofNat f.low.toNat) h.wb u.bok u.byt (by rw[u8n ω];omega) ω) rfl⟩;obtain⟨h1,h2,h3⟩:=u.hdr hk1;exact⟨_,rfl,ZbH h (Zly f x h.wb u.bok h1 h2 h3 ω) rfl⟩;have:=u.prt ω;rw[if_neg ω]at this;exact⟨_,rfl,Zck f x rec h this⟩;have:=u.prt ω;rw[if_neg ω]at this;exact⟨_,rfl,Zck f x rec h this⟩;have:=u.prt ω;rw[if_neg ω]at this;exact⟨_,rfl,Zck f x rec h this⟩;exact⟨_,rfl,ZbH h (Zri f x h.wb u.bok (u.pad hk1) hn) rfl⟩;obtain⟨h1,s0,h2,h3⟩:=u.chk hk1;exact⟨_,rfl,ZnM f x h h1 h2 h3 ω ω u.sums u.pth (by have:=u.nm;omega)⟩;obtain⟨h1,h2⟩:=u.key hk1;have:=u.prt ω;rw[if_pos hk1]at this;exact⟨_,rfl,Zpt (k:=f.key.toNat) f x rec h this ω ω⟩
end
def stE(rec:Val->Str->Wr)(path:Str)(l:List Fld)(ps:List Val)(i:Nat):List (Str×Int):=YN (l.getD i dE).name (((stF rec path l ps i).2.n / 8:Nat):Int) (stF rec path l ps i).1
def Jx(rec path l ps i):stF rec path l ps (i+1)=(stE rec path l ps i,Qh rec path (l.getD i dE) (xAt l ps i) (stE rec path l ps i) (stF rec path l ps i).2):=rfl
def ZrF(T S:St)(z mz:Nat)(ob os:Option Nat):Prop:=∀y o,T y=sO o->S y=sO o/\y≠z/\y≠mz/\ob≠sO y/\os≠sO y
def ZCk(d:Dfn)(o:Wr)(path:Str)(T:St)(r:Res)(S:St):Prop:=∃z mz ob os sD E,r=.ret (.ptr z 0)/\IsW S d path E o z mz ob os sD/\ZrF T S z mz ob os
def IsW.setE{S:St}{d:Dfn}{path:Str}{E E':List (Str×Int)}{w:Wr}{z mz:Nat}{ob os:Option Nat}{sD:D}(h:IsW S d path E w z mz ob os sD):IsW (S.upd mz (.map (Kc E'))) d path E' w z mz ob os sD:=by
 obtain⟨t,hz,hB,i⟩:=id h.wb;obtain⟨u,h2,h3⟩:=h.mne;exact⟨⟨t,by rw[ZHD _ _ u.symm];exact hz,hB.upd h2,i⟩,ZHB _ _ _,h.s.upd h3,h.zs,h.bs⟩
def ZmJ(d:Dfn){m:Msg}(v:Val)(path:Str){rec:Val->Str->Wr}(hv:VOk v)(hfew:I m.fields<=1000)(hpv:∀i,i<I m.fields->Zon v (m.fields.getD i dE).name=xAt m.fields v.parts i)(hpre:∀i,i<I m.fields->ZyY d path (m.fields.getD i dE) (xAt m.fields v.parts i) rec (stE rec path m.fields v.parts i) (stF rec path m.fields v.parts i).2)(T:St):
  Za ZHv 23 [.agg d.cells,.agg m.cells,.agg v.cells,.str path] T (ZCk d (stF rec path m.fields v.parts (I m.fields)).2 path T):=by
 refine Zb (cR 23 f23) λF hF=>?_;rw[v.cells_eq];refine rx (nd2 @eQ2 @eQ3) ?_;refine rh ?_;refine Zm ?_;simp only[Eqs,reduceCtorEq,ZHC,reduceIte,ZHz,ZHE,ZHA,JP,ZId,decide_false,ZHB,ZHO,Yp,Yq];intro mk ap;refine kl ((T.upd mk (.map (WJ YW id ZgG)))) [(3,.d (.str path)),(4,.loc 4 0),(5,.loc 5 0),(6,.loc 6 0),(9,.d (.map mk))] [(4,[.str d.name,YF d.msgs,.str d.start]),(5,[.str m.name,Zr m.fields]),(6,[.str v.name,.int .i64 v.int,Zh v.bytes,Yc v.hdrs,ZY v.parts])] Qe ZaB ?_;refine rg ?_;intro mz t;refine Zc (Zc ?_);refine xP 21 λz hz=>?_;have av:IsW ((((T.upd mk (.map (WJ YW id ZgG))).upd mz (.map [])).upd z (.cells [.nilsl,.int .i64 0,.str d.name,YF d.msgs,.str d.start,.str path,.map mz,.nilsl]))) d path [] ⟨[],0,[]⟩ z mz nO nO .nilsl:=by obtain⟨h1,h2⟩:=Zo hz;refine⟨⟨.nilsl,ZHB _ _ _,.nil rfl,λe=>(by cases e)⟩,?_,.nil rfl,λe=>(by cases e),λx e=>(by cases e)⟩;rw[ZHD _ _ h1.symm,ZHB];rfl
 have ay:((((T.upd mk (.map (WJ YW id ZgG))).upd mz (.map [])).upd z (.cells [.nilsl,.int .i64 0,.str d.name,YF d.msgs,.str d.start,.str path,.map mz,.nilsl]))) mk=sO (.map (WJ YW id ZgG)):=by obtain⟨h1,h2⟩:=Zo hz;obtain⟨h3,h4⟩:=Zo h2;obtain⟨h5,h6⟩:=Zo t;rw[ZHD _ _ h3.symm,ZHD _ _ h5.symm,ZHB]
 have au:ZrF T ((((T.upd mk (.map (WJ YW id ZgG))).upd mz (.map [])).upd z (.cells [.nilsl,.int .i64 0,.str d.name,YF d.msgs,.str d.start,.str path,.map mz,.nilsl]))) z mz nO nO:=λy o hy=>by
  obtain⟨h1,h2⟩:=Zo hz;obtain⟨h3,h4⟩:=Zo h2;obtain⟨h5,h6⟩:=Zo t;have e1:y≠z:=λe=>by rw[e,h4]at hy;cases hy
  have e2:y≠mz:=λe=>by rw[e,h6]at hy;cases hy
  have e3:y≠mk:=λe=>by rw[e,ap]at hy;cases hy
  exact⟨by rw[ZHD _ _ e1,ZHD _ _ e2,ZHD _ _ e3];exact hy,e1,e2,λe=>(by cases e),λe=>(by cases e)⟩
 have a5:mk≠mz:=λe=>by rw[e,ZHB]at t;cases t
 have hTmk:T mk=nO:=ap;generalize ((T.upd mk (.map (WJ YW id ZgG))).upd mz (.map [])).upd z (.cells [.nilsl,.int .i64 0,.str d.name,YF d.msgs,.str d.start,.str path,.map mz,.nilsl])=S0 at *;refine rx @Zfb ?_;refine Zd (fr (I m.fields) (λi Q=>∀ob os sD S1,IsW S1 d path (stF rec path m.fields v.parts i).1 (stF rec path m.fields v.parts i).2 z mz ob os sD->S1 mk=sO (.map (WJ YW id ZgG))->ZrF T S1 z mz ob os->i<=I m.fields->Q [(6,.loc 6 0),(9,.d (.map mk)),(10,.d (.ptr z 0)),(23,.d (Zr m.fields)),(24,.d (.int .i64 (I m.fields))),(25,.d (.int .i64 i))] [(6,[.str v.name,.int .i64 v.int,Zh v.bytes,Yc v.hdrs,ZY v.parts])] S1) (λn ab=>?_) λa7=>?_);intro i hn2 ob os sD S1 hI hK ai hi;refine rg ?_;refine Zc (Zn rfl trivial (λhd=>?_) (λhd=>?_));simp only[decide_eq_true_eq]at hd;have ao:i<I m.fields:=ω;have af:=hpre i ao;obtain⟨is,u⟩:=ZrB v (m.fields.getD i dE).name hv;rw[hpv i ao]at u;have aq:=Jx rec path m.fields v.parts i;have hE:stE rec path m.fields v.parts i=YN (m.fields.getD i dE).name (((stF rec path m.fields v.parts i).2.n / 8:Nat):Int) (stF rec path m.fields v.parts i).1:=rfl;generalize ax:m.fields.getD i dE=f at *;generalize xAt m.fields v.parts i=x at *;generalize stE rec path m.fields v.parts i=E2 at *;generalize stF rec path m.fields v.parts i=st at *;obtain⟨E1,w1⟩:=st;simp only at hI af aq hE;rw[v.cells_eq]at u;refine xA (nd2 @atF (nd2 @ax (nd2 @ZaM @Zd9))) ?_;rw[x.cells_eq]at u;refine rx @eQ0 ?_;refine cl (u) ?_;obtain⟨bD,ar,hB,hne⟩:=id hI.wb;unfold wrR at ar;have a4:=hI.m;have hmn:=hI.mne;have a6:((w1.n:Nat):Int).tdiv 8=((w1.n / 8:Nat):Int):=by rw[Int.tdiv_eq_ediv_of_nonneg ω];omega
 have e2:=JX (vD:=YW) ZN f.name ((w1.n / 8:Nat):Int) E1;have e3:=YX ZN f.name;simp only[show Kz f.name=D.str f.name from rfl,show ∀n,YW n=.int .i64 n from λ_=>rfl]at e2 e3;rw[<-hE]at e2;have hwn:=af.n;refine xA (nd2 @ar (nd2 @a4 (nd2 @a6 (nd2 @e2 @e3)))) ?_;have ak:=hI.setE (E':=E2);have ad:(S1.upd mz (.map (Kc E2))) mk=sO (.map (WJ YW id ZgG)):=by rw[ZHD _ _ a5];exact hK
 have aj:ZrF T (S1.upd mz (.map (Kc E2))) z mz ob os:=λy o hy=>by obtain⟨h1,h2,h3,h4,h5⟩:=ai y o hy;exact⟨by rw[ZHD _ _ h3];exact h1,h2,h3,h4,h5⟩
 obtain⟨ah,am,ae⟩:=Zzv ak af;have ac:=YD (vD:=id) Zc5 f.kind ZgG;have ag:=YX Zc5 f.kind;simp only[show YW f.kind=D.int .i64 f.kind from rfl]at ac ag;rw[am]at ac;unfold Fld.cells at ae;rw[x.cells_eq]at ae;generalize hS2e:S1.upd mz (.map (Kc E2))=S2 at *;refine rx (nd2 @ad (nd2 @ac @ag)) ?_;rw[show id (D.fn (.func ah) [] [])=D.fn (.func ah) [] [] from rfl];obtain⟨a3,az,a0⟩:=ak.nomap ad;refine vV (ae.V (first:=[]) (args:=[_,_,_]) (caps:=[])) ?_ ?_;rintro dd S3 ⟨hr,a8,a9,ba,aw,al⟩;cases hr;refine gR0 ?_;refine gA ?_;refine Ze ?_;exact ab ((I m.fields)-(i+1)) ω (i+1) rfl a8 a9 ba S3 (by rw[aq];exact aw) (al mk _ ad a3 az a0).1 (λy o hy=>by
  obtain⟨h1,h2,h3,h4,h5⟩:=aj y o hy;obtain⟨h6,h7,h8⟩:=al y o h1 h2 h4 h5;exact⟨h6,h2,h3,h7,h8⟩) ω
 rintro dd S3 ⟨hr,_⟩;cases hr;simp only[decide_eq_false_iff_not]at hd;obtain rfl:i=I m.fields:=ω;refine rg ?_;exact hF.ret (.ptr z 0) S1 rfl φ (ZHx _) ZHw ⟨z,mz,ob,os,sD,_,rfl,hI,ai⟩;exact a7 _ 0 rfl nO nO .nilsl S0 av ay au ω
def Za.freezeO{f args T Φ Ψ}(h:Za ZHv f args T Φ)(hΦ:∀r S,Φ r S->∃Ln z cs cs' S2,r=.ret (.ptr z 0)/\(∀b∈Ln,∃ds,S b=sO (.cells ds))/\S z=sO (.cells cs)/\z∉Ln/\LdC S Ln cs cs'/\S2.sub ((S.delL Ln).upd z (.cells cs'))/\Ψ r S2):Za ZHv f args T Ψ :=
 ⟨h.1,λg w vs hs ha=>(h.2 g w vs hs ha).mono λe w' ⟨g',S',r,he,hS,hr,hq⟩=>by
  obtain⟨Ln,z,cs,cs',S2,rfl,hL,hz,ah,hl,u,hΨ⟩:=hΦ _ _ hq;have hx:=Ju hS hL;have ad:(Ky g' S' Ln).prot z=g'.prot z:=by simp only[Ky,if_neg ah]
  have ab:=ZeG hS hL;have ac:YI (Ky g' S' Ln) w' z cs:=(hS.obj z _ hz).mono hx rfl ad;have t:YI (Ky g' S' Ln) w' z cs':=by obtain⟨h1,vs,T,h2,h3,h4,h5⟩:=ac;refine⟨h1,vs,T,h2,h3.trans hl.len,λi v d hv hd=>?_,h5⟩;obtain⟨x,af,ag⟩:=hl.get hd;exact ag _ w' v ab (h4 i v x hv af)
  have ae:=(Zs4 hS hL).updL (b:=z) (o:=.cells cs') t (hS.kept z _ hz);refine⟨Ky g' S' Ln,S2,.ret (.ptr z 0),he.trans hx,ae.sub u,?_,hΨ⟩;cases e<;>simp only[Znr]at hr⊢;exact Rep.mono hr hx⟩
def Zu2{sz:Nat}{X:List D}:∀{rows:List (List D)} {j},(∀r∈rows,I r=sz)->j<I rows->((rows.flatten++X).drop (j*sz)).take sz=rows.getD j []
 | [],j,_,h=>absurd h (Nat.not_lt_zero _)
 |r::l,0,h,_=>by have i:=h r ψ;rw[Nat.zero_mul,List.drop_zero,List.flatten_cons,ZHY,List.take_left' i];rfl
 |r::l,j+1,h,hj=>by have i:=h r ψ;rw[List.flatten_cons,ZHY,ZHU,Nat.one_mul,Nat.add_comm,<-List.drop_drop,List.drop_left' i];exact Zu2 (λq t=>h q (by simp[t])) (by simpa using hj)
def Ztp(o:Option Nat):List Nat:=match o with
 |some x=>[x]
 |none=>[]
def ZbF{o:Option Nat}{y}:y∈Ztp o↔o=sO y:=by
 cases o with
 |none=>simp[Ztp]
 |some x=>simp[Ztp,eq_comm]
def Buf.ldB{s b i ob Ln}(h:Buf s 1 (List.map u8C b) i ob)(t:∀x,ob=sO x->x∈Ln):ZV s Ln i (Zh b):=by
 cases h with
 |nil h0 =>have:b=[]:=List.map_eq_nil_iff.1 h0;subst this;exact ZV.of_le (YL λb h=>by cases h)
 |obj x cap X h hX hc =>have:=ZwX (c:=cap) (off:=0) (t x rfl) h rfl (Nat.zero_le _);rw[ZHS];exact this
def Buf.ldS{s l sD os Ln}(h:Buf s 2 (List.map ZgY l) sD os)(t:∀x,os=sO x->x∈Ln):ZV s Ln sD (Zgg l):=by
 cases h with
 |nil h0 =>have:l=[]:=List.map_eq_nil_iff.1 h0;subst this;exact ZV.of_le (YL λb h=>by cases h)
 |obj x cap X h hX hc =>
  rw[ZHS];refine ZV.msl (t x rfl) h (by rw[ZHF,ZfV Zdh,ZHS];omega) λj i=>?_;rw[Zu2 Zdh (by rw[ZHS];exact i)];have:(l.map ZgY).getD j []=ZgY (l.getD j dE):=by simp[ZHL,i]
  rw[this];exact LdC.refl _
def Buf.live{s sz rows d ob}(h:Buf s sz rows d ob){x}(i:ob=sO x):∃ds,s x=sO (.cells ds):=by
 cases h with
 |nil=>cases i
 |obj y cap X h hX hc=>cases i;exact⟨_,h⟩
def ZmI{args}{d:Dfn}{o:Wr}{path:Str}{T:St}(h:Za ZHv 23 args T (ZCk d o path T)):Za ZHv 23 args T (WrP d o path T):=by
 refine Za.freezeO h λr S ⟨z,mz,ob,os,sD,E,hr,hI,i⟩=>?_;obtain⟨bD,hz,hB,u⟩:=id hI.wb;have t:T z=nO:=by
  cases e:T z with
  |none=>rfl
  |some o=>exact absurd rfl (i z o e).2.1
 refine⟨Ztp ob++Ztp os,z,_,Zh o.b::.int .i64 o.n::wrR d path mz (Zgg o.sums),T.upd z (.cells (Zh o.b::.int .i64 o.n::wrR d path mz (Zgg o.sums))),hr,λb hb=>?_,hz,λhm=>?_,?_,λy o' hy=>?_,⟨z,mz,t,hr,rfl⟩⟩;rcases List.mem_append.1 hb with hb|hb;exact hB.live (ZbF.1 hb);exact hI.s.live (ZbF.1 hb);rcases List.mem_append.1 hm with hm|hm;exact u (ZbF.1 hm);exact hI.zs (ZbF.1 hm);refine .cons (hB.ldB λx hx=>List.mem_append.2 (.inl (ZbF.2 hx))) (.cons (.refl _) ?_);exact .cons (.refl _) (.cons (.refl _) (.cons (.refl _) (.cons (.refl _) (.cons (.refl _) (.cons (hI.s.ldS λx hx=>List.mem_append.2 (.inr (ZbF.2 hx))) .nil)))));by_cases e:y=z;subst e;rw[ZHB]at hy⊢;exact hy;rw[ZHD _ _ e]at hy⊢;obtain⟨h1,h2,h3,h4,h5⟩:=i y o' hy;simp only[St.delL,List.mem_append,ZbF];rw[if_neg (by rintro(e|e);exact h4 e;exact h5 e)];exact h1
def noW:Wr:=⟨[],0,[]⟩
def WtP(W:Wr)(e:Int)(T:St)(r:Res)(S:St):Prop:=∃z n r3 r4 r5 r6 r7,T z=nO/\r=.ret (.tup [.ptr z 0,.int .i64 e])/\S=T.upd z (.cells [Zh W.b,.int .i64 n,r3,r4,r5,r6,r7,Zgg W.sums])
def Zeb(hI:Jd)(d:Dfn)(s:Str)(v:Val)(o:Wr)(hs:Y2 v=true->wtN v<=5100/\ZZ v<=51)(hf:(YV d s v).2=0->0<=Zq d s (I d.msgs))(hw:(YV d s v).2=0->∀T,Za ZHv 23 [.agg d.cells,.agg (Zl d s).cells,.agg v.cells,.str []] T (WrP d o [] T))(T:St):
  Za ZHv 14 [.agg d.cells,.str s,.agg v.cells] T (WtP (if (YV d s v).2=0 then o else noW) (YV d s v).2 T):=by
 refine Zb (cR 14 f14) λF hF=>?_;have t:=Zrs hI d s v hs;generalize YV d s v=R at *;obtain⟨⟨p,c⟩,e⟩:=R;simp only at t hf hw hF;have ac:Zj (λx:Msg=>dC (x.name=s)) d.msgs=Zq d s (I d.msgs):=by unfold Zq;rw[ZH0]
 rw[v.cells_eq]at t hw⊢;unfold Dfn.cells at t;refine rx @eQ2 ?_;refine rg ?_;refine cl (t) ?_;refine rg ?_;refine cd (λhe=>?_) (λhe=>?_);have i:¬e=0:=by simpa using he
 rw[if_neg i]at hF;refine rg ?_;refine xP 22 λz hz=>?_;refine KL (b:=z) (ZHB _ _ _) (ds':=[Zh [],.int .i64 0,.str [],.nilsl,.str [],.str [],.nilmap,Zgg []]) (.cons (YL λb h=>by cases h) (.cons (ZHx _) (.cons (ZHx _) (.cons (ZHx _) (.cons (ZHx _) (.cons (ZHx _) (.cons (ZHx _) (.cons (YL λb h=>by cases h) .nil)))))))) ?_;rw[ZHO];exact hF.ret _ _ rfl (by first|trivial|simp) (ZHx _) ZHw ⟨z,0,_,_,_,_,_,hz,rfl,rfl⟩;have i:e=0:=by simpa using he
 rw[if_pos i]at hF;have u:=hw i T;have hix:=QR (hf i);have ad:max (Zq d s (I d.msgs)) 0=ixS d s:=by have:=hf i;omega
 have ab:=Za4 d s;rw[ac,ad]at ab;unfold Dfn.cells at ab u;unfold Zl at u;generalize ae:d.msgs.getD (ixS d s) dE=my at *;unfold Msg.cells at u;refine rg ?_;refine cl (ab) ?_;refine xA (nd2 @atM (nd2 @ae @eQ3)) ?_;refine cV0 (u) ?_ ?_;rintro dd S1 ⟨z,mz,hz,hr,hS⟩;cases hr;refine gR0 ?_;exact hF.ret _ S1 rfl (by first|trivial|simp) (ZHx _) ZHw ⟨z,_,_,_,_,_,_,hz,by rw[i];rfl,by rw[hS];rfl⟩;rintro dd S1 ⟨_,_,_,hr,_⟩;cases hr
def Zlx(hI:Jd)(d:Dfn)(s:Str)(v:Val)(o:Wr)(hs:Y2 v=true->wtN v<=5100/\ZZ v<=51)(hf:(YV d s v).2=0->0<=Zq d s (I d.msgs))(hw:(YV d s v).2=0->∀T,Za ZHv 23 [.agg d.cells,.agg (Zl d s).cells,.agg v.cells,.str []] T (WrP d o [] T))(hb:(YV d s v).2=0->I o.b<=1000000000):
  Zf ZHv 6 [.agg d.cells,.str s,.agg v.cells] (.tup [Zh (if (YV d s v).2=0 then o else noW).b,.int .i64 (YV d s v).2]):=by
 refine Zi (cR 6 f6) λF st t=>?_;have i:=Zeb hI d s v o hs hf hw st;have hl:(if (YV d s v).2=0 then o else noW).b.length<=1000000000:=by split;exact hb (by assumption);exact Nat.zero_le _
 generalize (if (YV d s v).2=0 then o else noW)=W at *;rw[v.cells_eq]at i⊢;unfold Dfn.cells at i;refine rx @eQ2 ?_;refine rg ?_;refine cV (i) ?_ ?_;rintro dd S ⟨z,n,r3,r4,r5,r6,r7,hz,u,hS⟩;cases u;subst hS;refine gR0 ?_;refine rx @ZHB ?_;refine cV (WM W.b hl _) ?_ ?_;rintro dd S ⟨u,hS⟩;subst hS;cases u;refine gR0 ?_;exact t rfl (by first|trivial|simp) (ZHx _) (ZHV _ hz);rintro dd S ⟨u,_⟩;cases u;rintro dd S ⟨_,_,_,_,_,_,_,_,u,_⟩;cases u
def Zu4{rec path}{l:List Fld}{ps}(hu:NmU l):∀{i j},j<i->i<=I l->Zp (l.getD j dE).name (stF rec path l ps i).1=sO (((stF rec path l ps j).2.n / 8:Nat):Int)
 |0,j,h,_=>by omega
 |i+1,j,h,hi=>by rw[Jx];unfold stE;simp only;rw[WU];by_cases e:j=i;subst e;rw[if_pos rfl];rw[if_neg (hu j i ω ω)];exact Zu4 hu ω ω
def ZBE{m:Msg}{v:Val}(hu:NmU m.fields)(hr:Qm m v.parts=true){i}(hi:i<I m.fields):Zon v (m.fields.getD i dE).name=xAt m.fields v.parts i:=by
 have u:=hr;unfold Qm at u;rw[decide_eq_true_eq]at u;have hlen:(vfs m.fields).length=I v.parts:=by simpa using congrArg List.length u
 have t:=λk (hk:k<I v.parts)=>(Zox hu hr hk).2;have ab:∀a,a<I m.fields->a≠i->(m.fields.getD a dE).name≠(m.fields.getD i dE).name:=λa ha ac=>by rcases Nat.lt_or_gt_of_ne ac with h|h;exact hu a i h hi;exact(hu i a h ha).symm
 unfold Zon xAt;by_cases hv:hasV (m.fields.getD i dE)=true;obtain⟨h1,h2⟩:=ZfG rfl hi hv;have hk:(vfs (m.fields.take i)).length<I v.parts:=ω;have hf:=WZ (p:=λx:Val=>dC (x.name=(m.fields.getD i dE).name)) (l:=v.parts) hk (by rw[decide_eq_true_eq,t _ hk,h2]) (λj hj=>by
  rw[decide_eq_false_iff_not,t j ω];obtain⟨a,a1,a2,a3,a4⟩:=Za8 (l:=m.fields) (k:=j) ω;rw[a4];exact ab a a1 λe=>by subst e;omega)
 rw[hf,if_neg ω,if_pos hv,Int.toNat_natCast];have hf:=Wc (p:=λx:Val=>dC (x.name=(m.fields.getD i dE).name)) (l:=v.parts) (λx hx=>by
  obtain⟨j,hj,rfl⟩:=ZHR hx;have h3:v.parts[j]=v.parts.getD j dE:=by simp[ZHL,hj]
  rw[h3,decide_eq_false_iff_not,t j hj];obtain⟨a,a1,a2,a3,a4⟩:=Za8 (l:=m.fields) (k:=j) ω;rw[a4];exact ab a a1 λe=>hv (by rw[<-e];exact a2))
 rw[hf,if_pos (by decide),if_neg hv]
def Zzg{n v}(h:n=1\/n=2\/n=3):(8*(ZaG n v).length:Int)=W5 n:=by
 unfold ZaG W5;rcases h with rfl|rfl|rfl<;>rfl
def Ztw{chg rec q ps}{L:Val->Int}(t:∀l,(chg l).length=I l)(i:∀y∈ps,∀p,((rec y p).b.length:Int)=L y):∀{n j w},n+j=I ps->((Y9 chg rec q ps n j w).n:Int)=YM L (ps.drop j) w.n
 |0,j,w,h=>by rw[Zmc,List.drop_eq_nil_of_le ω];rfl
 |n+1,j,w,h=>by
  have hj:j<I ps:=ω;rw[Zdw,Ztw t i ω,Wp hj];simp only[YM,Wr.app]
  congr 1
  rw[t];have:=i _ (ZD hj) (ZM q (Yo ps j))
  push_cast
  omega
def Zop{chg rec q ps}:∀{n j w},BOk w.b w.n->BOk (Y9 chg rec q ps n j w).b (Y9 chg rec q ps n j w).n
 |0,_,_,h=>h
 |n+1,j,w,h=>Zop (n:=n) (j:=j+1) (h.bytes _)
structure FN(f:Fld)(x:Val)(E:List (Str×Int))(w:Wr):Prop where
 kind:1<=f.kind/\f.kind<=12
 num:f.kind=1\/f.kind=2->1<=f.bits/\f.bits<=32/\(f.little=true->f.bits=16\/f.bits=24\/f.bits=32)
 pad:f.kind=10->Zbu f.bits=true
 chk:f.kind=11->f.check=1\/f.check=2\/f.check=3
 none:f.kind<7\/f.kind=10\/f.kind=11->x.parts=[]
def ZxK{rec path f x E w}{L:Val->Int}(h:FN f x E w)(hL:∀y∈x.parts,∀p,((rec y p).b.length:Int)=L y):((Qh rec path f x E w).n:Int)=YM L x.parts (KV f x w.n):=by
 have hk:=h.kind;have hX:=KV.eq_1 f x (w.n:Int);unfold Qh;by_cases h1:f.kind=1\/f.kind=2;obtain⟨b1,b2,b3⟩:=h.num h1;rw[if_pos h1]at hX;rw[h.none ω,hX];have hn:((ZjU f.little f.bits.toNat w.n:Nat):Int)=(w.n:Int)+f.bits:=by unfold ZjU;split;rename_i hl;have:=b3 hl;omega;omega
 rcases h1 with h1|h1;rw[if_pos h1];exact hn;rw[if_neg ω,if_pos h1];exact hn;rw[if_neg h1]at hX;rw[if_neg ω,if_neg ω];by_cases h3:f.kind=3;rw[if_pos h3]at hX⊢;rw[h.none ω,hX];have u:(Kb x.int.toNat (Yd x.int.toNat)).length=Yd x.int.toNat+1:=by unfold Kb;rw[ZHF,ZbI];rfl
 simp only[Wr.add,YM];rw[u];push_cast;omega;rw[if_neg h3]at hX⊢;by_cases h4:f.kind=4;rw[if_pos h4]at hX⊢;rw[h.none ω,hX];simp only[Wr.add,YM];push_cast;omega;rw[if_neg h4]at hX⊢;by_cases h5:f.kind=5;rw[if_pos h5]at hX⊢;rw[h.none ω,hX];simp only[Wr.add,YM,ZHF,ZHN,List.length_nil];push_cast;omega;rw[if_neg h5]at hX⊢;by_cases h6:f.kind=6;rw[if_pos h6]at hX⊢;rw[h.none ω,hX];simp only[Wr.add,YM];push_cast;omega;rw[if_neg h6]at hX⊢;by_cases i:f.kind=10;rw[if_pos i]at hX⊢;rw[h.none ω,hX];have hp:=Zda (h.pad i);have:=(Zb4 (v:=(w.n:Int)) (of:=f.bits) ω ω).1.1;simp only[Wr.pad,YM];omega;rw[if_neg i]at hX⊢;by_cases t:f.kind=11;rw[if_pos t]at hX⊢;rw[h.none ω,hX];simp only[Wr.chk,YM];rw[<-Zzg (v:=ZcY f.check (w.b.drop ((Zp f.from_ E).getD 0).toNat)) (h.chk t)]
 push_cast;omega
 rw[if_neg t]at hX⊢;rw[hX];have:=Ztw (chg:=if f.kind=12 then Qg f.key.toNat else id) (rec:=rec) (q:=ZM path f.name) (ps:=x.parts) (L:=L) (λl=>by split;exact Zzn;rfl) hL (n:=I x.parts) (j:=0) (w:=w) ω;rw[List.drop_zero]at this;exact this
def Zzy{rec path f x E w}(h:FN f x E w)(u:BOk w.b w.n):BOk (Qh rec path f x E w).b (Qh rec path f x E w).n:=by
 have i:∀v,(f.kind=1\/f.kind=2)->BOk (w.num f v).b (w.num f v).n:=λv h1=>by unfold Wr.num ZpE ZjU;simp only;split;have:=u.bytes (leS v.toNat ((f.bits.toNat+7) / 8));rw[Zva]at this;exact this;exact Zm2 u
 unfold Qh;split;exact i _ ω;split;exact i _ ω;split;exact u.bytes _;split;exact u.bytes _;split;exact u.bytes _;split;exact u.bytes _;split;rename_i t;have hp:=Zda (h.pad t);have h2:=(Zb4 (v:=(w.n:Int)) (of:=f.bits) ω ω).1.1;have:=Zm2 (v:=0) (k:=(upS w.n f.bits-w.n).toNat) u;unfold Wr.pad;simp only;rw[show(upS w.n f.bits).toNat=w.n+(upS w.n f.bits-w.n).toNat by omega];exact this;split;exact u.bytes _;exact Zop u
structure AlM(d:Dfn)(j:Nat)(m:Msg):Prop where
 fld:∀i,i<I m.fields->Za9 d j i m (m.fields.getD i default)
 off:∀i,i<=I m.fields->Qq m.fields i=false
 nm:NmU m.fields
 few:I m.fields<=40
def Zsg{d j}(h:Wi d=true)(hj:j<I d.msgs):AlM d j (d.msgs.getD j dE):=by
 have hv:=Zab h;have hm:=hv.msg hj;refine⟨λi u=>hm.at_ u,λi u=>?_,hm.nmU,hm.many⟩;unfold Wi at h;rw[ZHG]at h;have t:=List.all_eq_true.1 h.2 _ (ZD hj);unfold Zcz at t;have h3:=List.all_eq_true.1 t i (List.mem_range.2 ω);simpa using h3
def ZCy{f:Fld}(h:JJ f=0):1<=f.bits/\f.bits<=32/\(f.little=true->f.bits=16\/f.bits=24\/f.bits=32):=by
 unfold JJ ZcU at h;split at h;omega;rename_i i;simp only[ZHT,ZHG,decide_eq_true_eq,Bool.not_eq_true',decide_eq_false_iff_not,not_or,not_and]at i;refine⟨ω,ω,λt=>?_⟩;have:=i.2.2 t;omega
def ZDf{d j i m f x E w}(h:Za9 d j i m f)(hx:hasV f=true->Wo f.kind x=false)(hd:hasV f=false->x=dE):FN f x E w:=by
 have u:=h.ks;unfold QS at u;have ho:=h.fok;refine⟨h.kind,λh1=>?_,ho.pad,ho.chk,λh1=>?_⟩;refine ZCy ?_;rcases h1 with h1|h1<;>simp only[h1,ZId,if_true,if_false]at u<;>exact u;cases t:hasV f with
 |false=>rw[hd t];rfl
 |true =>have hu:=hx t;unfold Wo at hu;unfold hasV at t;simp only[ZHG,Bool.not_eq_true',decide_eq_false_iff_not]at t;simp only[Bool.or_eq_false_iff,Bool.and_eq_false_iff,Bool.not_eq_false',decide_eq_true_eq,decide_eq_false_iff_not]at hu;have:=hu.2;exact List.eq_nil_of_length_eq_zero ω
def Zoo{L:Val->Int}:∀{ps b},∃k:Int,YM L ps b=b+8*k
 | [],b=>⟨0,by simp[YM]⟩
 |y::r,b=>by obtain⟨k,i⟩:=Zoo (L:=L) (ps:=r) (b:=b+8*L y);exact⟨k+L y,by rw[YM,i];omega⟩
def ZB5{n k:Int}(u:Zbu k=true)(hn:0<=n):upS n k % 8=(upS (n % 8) k).tmod 8:=by
 have hk:=Zda u;have hu:=(Zb4 (v:=n % 8) (of:=k) ω ω);rw[Int.tmod_eq_emod_of_nonneg ω];unfold Zbu at u;simp only[ZHT,ZHG,decide_eq_true_eq]at u;have i:∀q:Int,2<=q->upS n q=(n+q-1) / q*q:=λq hq=>by unfold upS;rw[Int.tdiv_eq_ediv_of_nonneg ω]
 have t:∀q:Int,2<=q->upS (n % 8) q=(n % 8+q-1) / q*q:=λq hq=>by unfold upS;rw[Int.tdiv_eq_ediv_of_nonneg ω]
 by_cases c2:k=2;subst c2;rw[i 2 ω,t 2 ω];omega;by_cases c4:k=4;subst c4;rw[i 4 ω,t 4 ω];omega;have h8:k % 8=0:=by have:(8:Int)<=k/\k.tmod 8=0:=ω;rw[Int.tmod_eq_emod_of_nonneg ω]at this;exact this.2
 obtain⟨q,rfl⟩:∃q,k=8*q:=⟨k / 8,ω⟩;have e1:upS n (8*q) % 8=0:=by
  rw[i _ ω];have:(n+8*q-1) / (8*q)*(8*q)=8*((n+8*q-1) / (8*q)*q):=by rw[Int.mul_left_comm]
  rw[this];omega
 have e2:upS (n % 8) (8*q) % 8=0:=by
  rw[t _ ω];have:(n % 8+8*q-1) / (8*q)*(8*q)=8*((n % 8+8*q-1) / (8*q)*q):=by rw[Int.mul_left_comm]
  rw[this];omega
 rw[e1,e2]
def Zy3{f x E w}(h:FN f x E w){n:Int}(hn:0<=n)(hb:ZdI f=true->n % 8=0){L:Val->Int}:YM L x.parts (KV f x n) % 8=ZcA f (n % 8):=by
 obtain⟨k,hk⟩:=Zoo (L:=L) (ps:=x.parts) (b:=KV f x n);rw[hk];have u:=KV.eq_1 f x n;unfold ZcA;by_cases h1:f.kind=1\/f.kind=2;have:=h.num h1;rw[if_pos h1]at u⊢;rw[Int.tmod_eq_emod_of_nonneg ω];omega;rw[if_neg h1]at u⊢;by_cases i:f.kind=10;rw[if_neg ω,if_neg ω,if_neg ω,if_neg ω,if_pos i]at u;rw[if_pos i,<-ZB5 (h.pad i) hn,u];omega;rw[if_neg i]at u⊢;have t:Zcq f.kind=false:=by unfold Zcq;simp;omega
 have h0:=hb (by unfold ZdI;rw[t];rfl);have hck:W5 f.check=32\/W5 f.check=16:=by unfold W5;split<;>simp
 rw[u]
 repeat' split
 all_goals omega
def ZBC{d j m}(h:AlM d j m){i}(hi:i<I m.fields):ZdI (m.fields.getD i dE)=true->Kt m.fields i=0:=λu=>by
 have:=h.off i ω;unfold Qq at this;rw[if_neg ω,Bool.or_eq_false_iff]at this;have t:=this.1;rw[u]at t;simpa using t
def Ztn{d j m}(h:AlM d j m):Kt m.fields (I m.fields)=0:=by
 have:=h.off (I m.fields) (ZHK _);unfold Qq at this;rw[if_pos rfl]at this;simpa using this
def Zlt:∀{a b:List Val},wtL (a++b)=wtL a+wtL b
 | [],b=>by simp[wtL]
 |x::r,b=>by rw[List.cons_append,wtL,wtL,Zlt];omega
def Zmb{chg rec q ps}(h:∀y∈ps,∀p,(rec y p).sums.length<=40*wtN y):∀{n j w},n+j=I ps->(Y9 chg rec q ps n j w).sums.length<=I w.sums+40*wtL (ps.drop j)
 |0,j,w,_=>Nat.le_add_right _ _
 |n+1,j,w,hn=>by have hj:j<I ps:=ω;have i:=Zmb (chg:=chg) (rec:=rec) (q:=q) h (n:=n) (j:=j+1) (w:=w.app chg (rec (ps.getD j dE) (ZM q (Yo ps j)))) ω;have h2:=h _ (ZD hj) (ZM q (Yo ps j));rw[Zdw,Wp hj];simp only[wtL,Wr.app,ZHF]at i⊢;omega
def ZxM{rec path f x E w}(h:∀y∈x.parts,∀p,(rec y p).sums.length<=40*wtN y):(Qh rec path f x E w).sums.length<=I w.sums+1+40*wtL x.parts:=by
 have:=Zmb (chg:=if f.kind=12 then Qg f.key.toNat else id) (rec:=rec) (q:=ZM path f.name) h (n:=I x.parts) (j:=0) (w:=w) ω;rw[List.drop_zero]at this;unfold Qh;generalize (if f.kind=12 then Qg f.key.toNat else id)=chg at *
 repeat' split
 all_goals first|(simp only[Wr.num,Wr.add,Wr.pad,Wr.chk,ZHF,ZHN,List.length_nil];omega)|omega
section
variable {d:Dfn} {j:Nat} {m:Msg} {v:Val} {rec:Val->Str->Wr} {L:Val->Int} {path:Str}
structure StI(rec:Val->Str->Wr)(L:Val->Int)(path:Str)(m:Msg)(v:Val)(i:Nat):Prop where
 bok:BOk (stF rec path m.fields v.parts i).2.b (stF rec path m.fields v.parts i).2.n
 off:((stF rec path m.fields v.parts i).2.n:Int) % 8=Kt m.fields i
 bits:Wv L (m.fields.drop i) (v.parts.drop (vfs (m.fields.take i)).length) (stF rec path m.fields v.parts i).2.n=Wv L m.fields v.parts 0
 sums:(stF rec path m.fields v.parts i).2.sums.length<=i+40*wtL (v.parts.take (vfs (m.fields.take i)).length)
def ZaW{n}(hL:Je d (n+1) m v){i}(hi:i<I m.fields):(hasV (m.fields.getD i dE)=true->xAt m.fields v.parts i∈v.parts/\XOk (m.fields.getD i dE) (xAt m.fields v.parts i))/\(hasV (m.fields.getD i dE)=false->xAt m.fields v.parts i=dE):=by
 obtain⟨t,hX⟩:=hL;unfold xAt;refine⟨λu=>?_,λu=>by rw[if_neg (by rw[u];simp)]⟩;rw[if_pos u];obtain⟨h1,h2⟩:=ZfG rfl hi u;rw[t]at h1;have:=(hX _ h1).1;rw[h2]at this;exact⟨ZD h1,this⟩
def Zt2{n}(hA:AlM d j m)(hL:Je d (n+1) m v){i}(t:i<I m.fields){E w}:FN (m.fields.getD i dE) (xAt m.fields v.parts i) E w :=
 ZDf (hA.fld i t) (λu=>((ZaW hL t).1 u).2.unused) (λu=>(ZaW hL t).2 u)
def Zp9{n}(u:Je d (n+1) m v){i}(hi:i<I m.fields){Q:Val->Prop}(h:∀x∈v.parts,∀y∈x.parts,Q y):∀y∈(xAt m.fields v.parts i).parts,Q y:=λy t=>by
 cases hv:hasV (m.fields.getD i dE) with
 |true=>exact h _ ((ZaW u hi).1 hv).1 y t
 |false =>rw[(ZaW u hi).2 hv]at t;simp[show(dE:Val).parts=[] from rfl]at t
def ZAt:StI rec L path m v 0:=⟨(show([]:List UInt8).length=(0+7) / 8 from rfl),rfl,rfl,Nat.zero_le _⟩
def ZAs{n}(hA:AlM d j m)(hL:Je d (n+1) m v)(hr:∀x∈v.parts,∀y∈x.parts,∀p,((rec y p).b.length:Int)=L y/\(rec y p).sums.length<=40*wtN y){i}(hi:i<I m.fields)(h:StI rec L path m v i):StI rec L path m v (i+1):=by
 obtain⟨h1,h2,h3,h4⟩:=h;have ab:=λE w=>Zt2 (E:=E) (w:=w) hA hL hi;have u:=Zp9 hL hi (Q:=λy=>∀p,((rec y p).b.length:Int)=L y/\(rec y p).sums.length<=40*wtN y) hr;have hx:=xAt.eq_1 m.fields v.parts i;have t:=Znh hi;have hn:=ZxK (rec:=rec) (path:=path) (ab (stE rec path m.fields v.parts i) (stF rec path m.fields v.parts i).2) (λy hy p=>(u y hy p).1);have hs:=ZxM (rec:=rec) (path:=path) (f:=m.fields.getD i dE) (E:=stE rec path m.fields v.parts i) (w:=(stF rec path m.fields v.parts i).2) (λy hy p=>(u y hy p).2);have ae:=ZBC hA hi;have ad:=Zy3 (ab (stE rec path m.fields v.parts i) (stF rec path m.fields v.parts i).2) (n:=((stF rec path m.fields v.parts i).2.n:Int)) ω (λhh=>by rw[h2];exact ae hh) (L:=L);have ac:hasV (m.fields.getD i dE)=true->(vfs (m.fields.take i)).length<I v.parts:=λhv=>by have:=(ZfG rfl hi hv).1;rw[hL.1]at this;exact this
 rw[Wp hi]at h3;simp only[Wv]at h3;refine⟨Zzy (ab _ _) h1,?_,?_,?_⟩;rw[Jx];show((Qh _ _ _ _ _ _).n:Int) % 8=ZcA (m.fields.getD i dE) (Kt m.fields i);rw[hn,ad,h2]
 .rw[Jx];show Wv L _ _ ((Qh _ _ _ _ _ _).n:Int)=_;rw[hn,<-h3,hx];cases hv:hasV (m.fields.getD i dE) with
  |true =>rw[if_pos rfl,if_pos rfl,t,if_pos hv,ZHF,List.drop_drop];simp[ZHL]
  |false =>rw[if_neg ψ,if_neg ψ,t,if_neg (by rw[hv];simp),ZH3];rw[show(dE:Val).parts=[] from rfl];rfl
 rw[Jx];show(Qh _ _ _ _ _ _).sums.length<=_;cases hv:hasV (m.fields.getD i dE) with
 |true =>have hk:=ac hv;rw[hv,if_pos rfl]at hx;rw[t,if_pos hv,ZHF,show([m.fields.getD i dE]:List Fld).length=1 from rfl,Yi hk,Zlt,<-hx];have hw:=Zax (xAt m.fields v.parts i);simp only[wtL];omega
 |false =>rw[hv,if_neg ψ]at hx;rw[t,if_neg (by rw[hv];simp),ZH3];rw[hx,show(dE:Val).parts=[] from rfl]at hs;rw[hx];simp only[wtL]at hs;omega
def ZpX{n}(hA:AlM d j m)(hL:Je d (n+1) m v)(hr:∀x∈v.parts,∀y∈x.parts,∀p,((rec y p).b.length:Int)=L y/\(rec y p).sums.length<=40*wtN y):∀{i},i<=I m.fields->StI rec L path m v i
 |0,_=>ZAt
 |i+1,hi=>ZAs hA hL hr ω (ZpX hA hL hr ω)
end
def ZmO{d}(u:Wi d=true):∀(n j v path),j<I d.msgs->Je d n (d.msgs.getD j dE) v ->
  ((WK d n (d.msgs.getD j dE) v path).b.length:Int)=lenS d n (d.msgs.getD j dE) v/\(WK d n (d.msgs.getD j dE) v path).n=8*(WK d n (d.msgs.getD j dE) v path).b.length/\(WK d n (d.msgs.getD j dE) v path).sums.length<=40*wtN v
 |0,_,_,_,_,h=>h.elim
 |n+1,j,v,path,hj,hL=>by
  have hA:=Zsg u hj;have hr:∀x∈v.parts,∀y∈x.parts,∀p,((WK d n (Zl d y.name) y p).b.length:Int)=lenS d n (Zl d y.name) y/\(WK d n (Zl d y.name) y p).sums.length<=40*wtN y:=λx hx y hy p=>by obtain⟨k,hk,rfl⟩:=Zbj hx;obtain⟨h1,h2⟩:=(hL.2 k hk).2 y hy;have:=ZmO u n (ixS d y.name) y p (by have:=QR h1;omega) h2;exact⟨this.1,this.2.2⟩
  generalize d.msgs.getD j dE=m at *;have hS:=ZpX (rec:=λy p=>WK d n (Zl d y.name) y p) (L:=λy=>lenS d n (Zl d y.name) y) (path:=path) hA hL hr (ZHK _);obtain⟨h1,h2,h3,h4⟩:=hS;rw[Ztn hA]at h2;rw[List.drop_length]at h3;simp only[Wv]at h3;have hw:=Zax v;have hfew:=hA.few;have htk:wtL (v.parts.take (vfs (m.fields.take (I m.fields))).length)<=wtL v.parts:=by
   conv=>rhs;rw[<-List.take_append_drop (vfs (m.fields.take (I m.fields))).length v.parts,Zlt]
   omega
  unfold BOk at h1;have t:lenS d (n+1) m v=(Wv (λy=>lenS d n (Zl d y.name) y) m.fields v.parts 0).tdiv 8:=rfl;have i:WK d (n+1) m v path=(stF (λy p=>WK d n (Zl d y.name) y p) path m.fields v.parts (I m.fields)).2:=rfl;rw[t,i,<-h3];generalize (stF (λy p=>WK d n (Zl d y.name) y p) path m.fields v.parts (I m.fields)).2=o at *;rw[Int.tdiv_eq_ediv_of_nonneg ω];omega
section
variable {d:Dfn} {j:Nat} {m:Msg} {v:Val} {rec:Val->Str->Wr} {L:Val->Int} {path:Str}
def ZxJ{f x E w}(u:FN f x E w)(ho:FOk f)(hh:I x.hdrs<=100)(t:∀y∈x.parts,(∀p,((rec y p).b.length:Int)=L y)/\0<=L y/\8*L y<=20000*(wtN y:Int)):w.n<=(Qh rec path f x E w).n:=by
 have h1:=ZxK (rec:=rec) (path:=path) u (λy i p=>(t y i).1 p);have h2:=Zcb (f:=f) (x:=x) (b:=(w.n:Int)) ho ω hh;have h3:=JL (rec:=L) (l:=x.parts) (b:=KV f x w.n) (λy i=>(t y i).2);omega
def ZtR{n}(t:AlM d j m)(u:Je d (n+1) m v)(hh:∀i,i<I m.fields->(xAt m.fields v.parts i).hdrs.length<=100)(hr:∀x∈v.parts,∀y∈x.parts,(∀p,((rec y p).b.length:Int)=L y)/\0<=L y/\8*L y<=20000*(wtN y:Int)):∀{i a},a<=i->i<=I m.fields->(stF rec path m.fields v.parts a).2.n<=(stF rec path m.fields v.parts i).2.n
 |0,a,h,_=>by obtain rfl:a=0:=ω;exact ZHK _
 |i+1,a,h,hi=>by by_cases e:a=i+1;subst e;exact ZHK _;have h1:=ZtR t u hh hr (i:=i) (a:=a) ω ω;rw[Jx];exact ZIg h1 (ZxJ (L:=L) (Zt2 t u ω) (t.fld i ω).fok (hh i ω) (Zp9 u ω hr))
end
def ZnZ{rec path f x E w}(h:7<=f.kind/\f.kind<=9\/f.kind=12):Qh rec path f x E w=Y9 (if f.kind=12 then Qg f.key.toNat else id) rec (ZM path f.name) x.parts (I x.parts) 0 w:=by
 unfold Qh;rw[if_neg ω,if_neg ω,if_neg ω,if_neg ω,if_neg ω,if_neg ω,if_neg ω,if_neg ω]
structure Fit(d:Dfn)(n:Nat)(m:Msg)(v:Val):Prop where
 len:Je d (n+1) m v
 right:Qm m v.parts=true
 sub:∀x∈v.parts,∀y∈x.parts,∃q,0<=Zq d y.name (I d.msgs)/\(Z7 d n (Zl d y.name) y q).2=0
def ZxI{d n m v p}(hd:Zo9 d)(hm:∀f∈m.fields,ZdV d f)(hv:Y2 v=true)(h:(Z7 d (n+1) m v p).2=0):Fit d n m v:=by
 have hL:=Zc1 hd (n+1) m v p hm hv h;simp only[Z7]at h;split at h;rename_i hc;simp only[ZHG,decide_eq_true_eq]at hc;refine⟨hL,hc.2.2.2.2,λx hx y hy=>?_⟩;obtain⟨k,hk,rfl⟩:=Zbj hx;have hg:=ZjB h k hk;have t:=(hL.2 k hk).1.unused;rw[t,if_neg ψ]at hg;have u:(vfs m.fields).getD k dE∈vfs m.fields:=ZD (by rw[hL.1];exact hk);have i:=List.mem_filter.1 u;obtain⟨of,q',h0,h1⟩:=ZqQ (hm _ i.1) i.2 t hg y hy;have hn:y.name=of:=by rw[ZgN h1,Zij h0]
 exact⟨q',by rw[hn];exact h0,by rw[hn];exact h1⟩;simp at h
def Zzz{d}(hal:Wi d=true){n j v path p0}(hj:j<I d.msgs)(h:(Z7 d (n+1) (d.msgs.getD j dE) v p0).2=0)(hv:VOk v)(hp:I path+6000*(n+1)<=1000000)(hrc:∀x∈v.parts,∀y∈x.parts,∀p T,I p<=I path+6000->Za ZHv 23 [.agg d.cells,.agg (Zl d y.name).cells,.agg y.cells,.str p] T (WrP d (WK d n (Zl d y.name) y p) p T)):
  ∀i,i<(d.msgs.getD j dE).fields.length->ZyY d path ((d.msgs.getD j dE).fields.getD i dE) (xAt (d.msgs.getD j dE).fields v.parts i) (λy p=>WK d n (Zl d y.name) y p) (stE (λy p=>WK d n (Zl d y.name) y p) path (d.msgs.getD j dE).fields v.parts i) (stF (λy p=>WK d n (Zl d y.name) y p) path (d.msgs.getD j dE).fields v.parts i).2:=by
 have ab:=Zab hal;have hA:=Zsg hal hj;have bl:∀f∈(d.msgs.getD j dE).fields,ZdV d f:=ab.dref _ (ZD hj);have hfo:∀f∈(d.msgs.getD j dE).fields,FOk f:=(ab.dok _ (ZD hj)).fld;have hF:=ZxI ab.dref bl hv.ok h;have bk:MOk (d.msgs.getD j dE):=ab.dok _ (ZD hj);generalize d.msgs.getD j dE=m at *;have hL:=hF.len;have af:∀x∈v.parts,∀y∈x.parts,0<=Zq d y.name (I d.msgs)/\Je d n (Zl d y.name) y:=λx hx y hy=>by obtain⟨k,hk,rfl⟩:=Zbj hx;exact(hL.2 k hk).2 y hy
 intro i hi;obtain⟨rec,hrec⟩:∃rec:Val->Str->Wr,rec=λy p=>WK d n (Zl d y.name) y p:=⟨_,rfl⟩;obtain⟨L,al⟩:∃L:Val->Int,L=λy=>lenS d n (Zl d y.name) y:=⟨_,rfl⟩;have ag:∀x∈v.parts,∀y∈x.parts,∀p,((rec y p).b.length:Int)=L y/\(rec y p).sums.length<=40*wtN y:=λx hx y hy p=>by obtain⟨h1,h2⟩:=af x hx y hy;have:=ZmO hal n (ixS d y.name) y p (by have:=QR h1;omega) h2;rw[hrec,al];exact⟨this.1,this.2.2⟩
 have ay:∀x∈v.parts,∀y∈x.parts,0<=L y/\8*L y<=20000*(wtN y:Int):=λx hx y hy=>by rw[al];exact Zcw ab.dok n _ y (ab.dok.of _) (Yy (Yy hv.ok hx) hy)
 have ai:=λi (hi:i<=I m.fields)=>ZpX (rec:=rec) (L:=L) (path:=path) hA hL ag hi;have bb:∀i,i<I m.fields->VOk (xAt m.fields v.parts i)\/xAt m.fields v.parts i=dE:=λi hi=>by
  cases hb:hasV (m.fields.getD i dE) with
  |true=>exact .inl (hv.part ((ZaW hL hi).1 hb).1)
  |false=>exact .inr ((ZaW hL hi).2 hb)
 have av:∀i,i<I m.fields->(xAt m.fields v.parts i).hdrs.length<=100:=λi hi=>by rcases bb i hi with h1|h1;exact(QC (KU h1.ok)).2.2.2.1;rw[h1];exact Nat.zero_le _
 have ah:=λ{i a} (h1:a<=i) (h2:i<=I m.fields)=>ZtR (path:=path) (rec:=rec) (L:=L) hA hL av (λx hx y hy=>⟨λp=>(ag x hx y hy p).1,ay x hx y hy⟩) h1 h2;have ak:=ai (I m.fields) (ZHK _);have az:(stF rec path m.fields v.parts (I m.fields)).2.n<=110000000:=by
  have h1:=ak.bits;rw[List.drop_length]at h1;simp only[Wv]at h1;have h2:=ak.off;rw[Ztn hA]at h2;have h3:=Zcw ab.dok (n+1) m v bk hv.ok;have h4:lenS d (n+1) m v=(Wv L m.fields v.parts 0).tdiv 8:=by rw[al];rfl
  rw[h4,<-h1,Int.tdiv_eq_ediv_of_nonneg ω]at h3;have h5:=hv.wt;omega
 have ar:∀i,i<=I m.fields->(stF rec path m.fields v.parts i).2.n<=110000000:=λi hi=>ZIg (ah hi (ZHK _)) az;have a8:∀i,i<=I m.fields->(stF rec path m.fields v.parts i).2.sums.length<=1000000:=λi hi=>by
  have h1:=(ai i hi).sums;have h2:wtL (v.parts.take (vfs (m.fields.take i)).length)<=wtL v.parts:=by
   conv=>rhs;rw[<-List.take_append_drop (vfs (m.fields.take i)).length v.parts,Zlt]
   omega
  have h3:=Zax v;have h4:=hv.wt;have h5:=hA.few;omega
 have a0:∀i,i<=I m.fields->(stF rec path m.fields v.parts i).2.b.length<=110000000:=λi hi=>by have h1:=(ai i hi).bok;have h2:=ar i hi;unfold BOk at h1;omega
 rw[<-hrec];have u:=hA.fld i hi;have t:=u.ks;have bg:=Zt2 (E:=stE rec path m.fields v.parts i) (w:=(stF rec path m.fields v.parts i).2) hA hL hi;have bq:=ZaW hL hi;have bo:=Jx rec path m.fields v.parts i;have aq:=ar (i+1) ω;have au:=a8 (i+1) ω;have ao:=a0 (i+1) ω;have aj:=(ai i ω).bok;have a5:=ar i ω;have a9:=a8 i ω;have hbi0:=a0 i ω;have bj:=λ{a} (ha:a<i)=>Zu4 (rec:=rec) (path:=path) (ps:=v.parts) hA.nm (i:=i) (j:=a) ha ω;have a3:=λ{a} (ha:a<i)=>ah (i:=i) (a:=a) ω ω;have aw:=bb i hi;have bf:stE rec path m.fields v.parts i=YN (m.fields.getD i dE).name (((stF rec path m.fields v.parts i).2.n / 8:Nat):Int) (stF rec path m.fields v.parts i).1:=rfl;have a7:=hA.nm;have ad:=λy (hy:y∈(xAt m.fields v.parts i).parts)=>Zp9 hL hi (Q:=λy=>∃x∈v.parts,y∈x.parts) (λx hx y hy=>⟨x,hx,hy⟩) y hy;generalize bh:m.fields.getD i dE=f at *;generalize xAt m.fields v.parts i=x at *;have ap:=aj;unfold BOk at ap;refine⟨u.kind,aj,a5,a9,?_,ω,λh1=>?_,λh2=>?_,λh1=>?_,?_,λh5=>?_,λh6=>?_,u.fok.pad,λax=>?_,λbe=>?_,λhk=>?_⟩;have:=u.nm;rw[ZjJ]at this;simp only[ZHG,decide_eq_true_eq]at this;omega;have:=bg.num h1;omega;have:=u.num (by unfold YE;simp;omega);exact⟨this.1,this.2.1 h2⟩;rcases aw with hx|hx;exact hx.node.2.1;rw[hx];exact⟨by decide,by decide⟩;rcases aw with hx|hx;exact hx.node.2.2.1;rw[hx];exact Nat.zero_le _;unfold QS at t;simp only[h5,ZId,if_true,if_false]at t;split at t;omega;rename_i hc;simp only[ZHT,decide_eq_true_eq,not_or]at hc;omega;have bp:hasV f=true:=by unfold hasV;simp;omega
 obtain⟨bc,br⟩:=bq.1 bp;obtain⟨h1,h2⟩:=br.hdrs h6;refine⟨h1,h2,?_⟩;have hw:=(hv.part bc).wt;have hw2:=Zax x;have hw3:=(QC (KU (hv.part bc).ok)).2.2.2.1;rw[Zo4];omega;refine⟨u.fok.chk ax,?_⟩;unfold QS at t;simp only[ax,ZId,if_true,if_false]at t;split at t;omega;split at t;omega;rename_i hfr;have h4:=Jt (show 0<=KO m f.from_ i by omega);have h5:=WC (λg:Fld=>dC (g.name=f.from_)) (m.fields.take i);rw[ZHQ,show Zj (λg:Fld=>dC (g.name=f.from_)) (m.fields.take i)=KO m f.from_ i from rfl]at h5;have h6:=h4.1;rw[show(Zj (λg=>dC (g.name=f.from_)) (m.fields.take i))=KO m f.from_ i from rfl,Q0 ω]at h6;have am:(KO m f.from_ i).toNat<i:=ω;have a6:(m.fields.getD (KO m f.from_ i).toNat dE).name=f.from_:=by simpa using h6
 have hg:=bj am;have hm2:=a3 am;have a4:=a7 _ i am hi;rw[bh,a6]at a4;rw[a6]at hg;exact⟨_,by rw[bf,WU,if_neg a4];exact hg,ω⟩;unfold QS at t;simp only[be,ZId,if_true,if_false]at t;split at t;omega;rename_i hc;simp only[ZHT,decide_eq_true_eq,not_or]at hc;omega;have bi:=ZnZ (rec:=rec) (path:=path) (x:=x) (E:=stE rec path m.fields v.parts i) (w:=(stF rec path m.fields v.parts i).2) hk;rw[bo]at aq au ao;simp only at aq au ao;rw[bi]at aq au ao;have ba:VOk x\/x=dE:=aw;refine⟨?_,?_,?_,ω,λy hy=>?_,λy hy p T bn=>?_,λy hy p=>?_,ω,ω,ω⟩;rcases ba with hx|hx;exact hx.few;rw[hx];exact Nat.zero_le _;rcases ba with hx|hx;exact hx.name;intro y hy;rw[hx]at hy;simp[show(dE:Val).parts=[] from rfl]at hy;have:=u.nm;rw[ZjJ]at this;simp only[ZHG,decide_eq_true_eq]at this;omega;obtain⟨x',ac,ae⟩:=ad y hy;exact(af x' ac y ae).1;obtain⟨x',ac,ae⟩:=ad y hy;rw[hrec];exact hrc x' ac y ae p T bn;obtain⟨x',ac,ae⟩:=ad y hy;have h1:=(ag x' ac y ae p).1;have h2:=ay x' ac y ae;have h3:=((hv.part ac).part ae).wt;omega
def ZzA{d}(t:Wi d=true){n j v p0}(u:j<I d.msgs)(h:(Z7 d (n+1) (d.msgs.getD j dE) v p0).2=0)(hv:VOk v):
  Fit d n (d.msgs.getD j dE) v/\AlM d j (d.msgs.getD j dE):=by
 have i:=Zab t;exact⟨ZxI i.dref (i.dref _ (ZD u)) hv.ok h,Zsg t u⟩
def ZjC{d}(hal:Wi d=true):∀(n j v path p0),j<I d.msgs->(Z7 d n (d.msgs.getD j dE) v p0).2=0->VOk v->I path+6000*n<=1000000->∀T,
  Za ZHv 23 [.agg d.cells,.agg (d.msgs.getD j dE).cells,.agg v.cells,.str path] T (WrP d (WK d n (d.msgs.getD j dE) v path) path T)
 |0,_,_,_,_,_,h,_,_,_=>by simp[Z7]at h
 |n+1,j,v,path,p0,hj,h,hv,hp,T=>by
  obtain⟨hF,hA⟩:=ZzA hal hj h hv;have t:=Zzz hal hj h hv hp λx hx y hy p T hp2=>by obtain⟨q,u,ab⟩:=hF.sub x hx y hy;exact ZjC hal n (ixS d y.name) y p q (by have:=QR u;omega) ab ((hv.part hx).part hy) ω T
  exact ZmI (ZmJ d v path hv (by have:=hA.few;omega) (λi hi=>ZBE hA.nm hF.right hi) t T)
def ZlC(v depth)(hd:0<=depth/\depth<=51)(f)(hf:depth<=50->∀x∈v.parts,Zf ZHv 8 [.agg x.cells,.int .i64 (depth+1)] (.int .i64 (f x))):Zf ZHv 8 [.agg v.cells,.int .i64 depth] (.int .i64 (Zp7 f v depth)):=by
 refine WG (cR 8 f8) λad F st ac=>?_;have hw:=((ad (D.agg v.cells) ψ).agg_inv (ZY v.parts) (by rw[ZHZ];simp)).sl_inv.1;have aj:=(WE ((ad (.agg v.cells) ψ).agg_inv (slD 2 Hdr.cells v.hdrs) (by rw[v.cells_eq];simp[Yc]))).1;unfold big at hw aj;clear ad;have hS:=Zp7.eq_1 f v depth;rw[v.cells_eq];refine rg ?_;refine rh ?_;refine WH ?_;simp only[Eqs,reduceCtorEq,ZHC,reduceIte,ZHz,ZHE,ZHA,WY,Ku,QA];refine ZbS rfl rfl rfl φ (WH ?_);simp only[Eqs,reduceCtorEq,ZHC,reduceIte,ZHz,ZHE,ZHA,WY,Ku,QA];refine ZbS rfl rfl rfl φ (WH ?_);simp only[Eqs,reduceCtorEq,ZHC,reduceIte,ZHz,ZHE,ZHA,WY,Ku];generalize IntKind.i64.wrap (IntKind.i64.wrap (10+I v.name)+I v.bytes)=n1 at *;refine rx (nd2 @Zc6 @ZjN) ?_;refine cd (λh1=>?_) (λh1=>?_);rw[if_pos h1]at hS;refine rg ?_;refine ri ac ?_;exact hS.symm;rw[if_neg (by simp[h1])]at hS;have ah:depth<=50:=by simp at h1;omega
 refine rg ?_;refine Zd (fr (I v.hdrs) (λi Q=>i<=I v.hdrs->Q [(1,.d (.int .i64 depth)),(2,.loc 2 0),(5,.d (.int .i64 (hsW n1 (v.hdrs.take i)))),(6,.d (.int .i64 i))] [(2,[.str v.name,.int .i64 v.int,Zh v.bytes,Yc v.hdrs,ZY v.parts])] st) (λn ab=>?_) λak=>?_);intro i hn hi;refine rx @ZjN ?_;refine cd (λh2=>?_) (λh2=>?_);simp at h2;have u:=ZzK (n:=n1) h2;generalize hg:v.hdrs.getD i dE=g at *;generalize hsW n1 (v.hdrs.take i)=a at *;refine rh ?_;refine ZbQ ?_;simp only[Eqs,reduceCtorEq,ZHC,reduceIte,ZHz,ZHE,ZHA,WY,Ku,atH,hg,Hdr.cells];refine aa ?_;refine Zqa rfl rfl rfl φ (ZbQ ?_);simp only[Eqs,reduceCtorEq,ZHC,reduceIte,ZHz,ZHE,ZHA,WY,Ku,atH,hg,Hdr.cells];refine aa ?_;refine Zqa rfl rfl rfl φ (ZbQ ?_);simp only[Eqs,reduceCtorEq,ZHC,reduceIte,ZHz,ZHE,ZHA,WY,Ku];rw[u];refine gA ?_;refine Ze ?_;exact ab ((I v.hdrs)-(i+1)) ω (i+1) rfl ω;simp at h2;obtain rfl:i=I v.hdrs:=ω;rw[ZH0];generalize hsW n1 v.hdrs=n2 at *;refine rg ?_;refine Zd (fr (I v.parts) (λi Q=>∀n,Zdd f n (v.parts.drop i)=Zdd f n2 v.parts->i<=I v.parts->Q [(1,.d (.int .i64 depth)),(2,.loc 2 0),(5,.d (.int .i64 n)),(7,.d (.int .i64 i))] [(2,[.str v.name,.int .i64 v.int,Zh v.bytes,Yc v.hdrs,ZY v.parts])] st) (λn t=>?_) λag=>?_);intro i hn n hr hi;refine rx @Zc6 ?_;refine cd (λh3=>?_) (λh3=>?_);simp only[ZHG,decide_eq_true_eq]at h3;have h4:i<I v.parts:=ω;have ai:=QX h4;have u:=ZqY (f:=f) (n:=n) h4;rw[if_pos h3.2,hr]at u;have af:=hf ah _ (ZD h4);rw[ZHZ]at af;generalize v.parts.getD i dE=x at *;refine rh ?_;refine WH ?_;simp only[Eqs,reduceCtorEq,ZHC,reduceIte,ZHz,ZHE,ZHA,WY,Ku,atV,ai];refine aa ?_;refine ZbS rfl rfl rfl φ (WH ?_);simp only[Eqs,reduceCtorEq,ZHC,reduceIte,ZHz,ZHE,ZHA,WY,Ku];rw[Ks (n:=depth+1) ω];refine Zay rfl rfl rfl rfl rfl φ φ (by exact af) (WH ?_);simp only[Eqs,reduceCtorEq,ZHC,reduceIte,ZHz,ZHE,ZHA,WY,Ku];refine ZbS rfl rfl rfl φ (WH ?_);simp only[Eqs,reduceCtorEq,ZHC,reduceIte,ZHz,ZHE,ZHA,WY,Ku];refine gA ?_;refine Ze ?_;exact t ((I v.parts)-(i+1)) ω (i+1) rfl _ u.symm ω;have ae:n=Zdd f n2 v.parts:=by rw[<-hr];rcases Nat.lt_or_eq_of_le hi with h4|h4;rw[ZqY h4,if_neg];intro h5;simp[h4,h5]at h3;rw[h4,List.drop_length];rfl
 refine rg ?_;refine ri ac ?_;rw[hS,ae];exact ag _ 0 rfl n2 rfl ω;exact ak _ 0 rfl ω
def Zoc(v):∀depth:Int,0<=depth->depth<=51->∃n,Zf ZHv 8 [.agg v.cells,.int .i64 depth] (.int .i64 n)/\(Y2 v=true->0<=n/\n<=110000000*(52-depth)+6000/\(n<=5000->n=wtN v/\(ZZ v:Int)+depth<=51)):=by
 induction v using Val.ind with
 |h v ih =>
  intro depth h0 u;have hc:∀x:Val,∃n,depth<=50->x∈v.parts->Zf ZHv 8 [.agg x.cells,.int .i64 (depth+1)] (.int .i64 n)/\(Y2 x=true->0<=n/\n<=110000000*(52-(depth+1))+6000/\(n<=5000->n=wtN x/\(ZZ x:Int)+(depth+1)<=51)):=λx=>by by_cases hx:x∈v.parts/\depth<=50;obtain⟨n,hn⟩:=ih x hx.1 (depth+1) ω ω;exact⟨n,λ_ _=>hn⟩;exact⟨0,λh1 h2=>absurd ⟨h2,h1⟩ hx⟩
  refine⟨_,ZlC v depth ⟨h0,u⟩ (λx=>(hc x).choose) λt x hx=>((hc x).choose_spec t hx).1,λi=>?_⟩;rw[Zim,ZHG,Zil,List.all_eq_true]at i;obtain⟨hn,hi,hb,hh,hw,_⟩:=QC i.2;unfold Zp7;split;exact⟨ω,ω,λh=>by omega⟩;rename_i h1;simp only[ZHT,decide_eq_true_eq,not_or]at h1;rw[Ks (n:=10+I v.name) ω,Ks ω,ZqE _ _ ω ω];have hf:∀x∈v.parts,0<=(hc x).choose/\(hc x).choose<=110000000*(52-(depth+1))+6000:=λx hx=>by have:=((hc x).choose_spec ω hx).2 (i.1 x hx);exact⟨this.1,this.2.1⟩
  obtain⟨a,b,c⟩:=Zvr (f:=λx=>(hc x).choose) (M:=110000000*(52-(depth+1))+6000) ⟨ω,ω⟩ v.parts (10+I v.name+I v.bytes+Qv v.hdrs) ω ω hf;refine⟨ω,ω,λh5=>?_⟩;obtain⟨c1,c2⟩:=c h5;have hx:∀x∈v.parts,(hc x).choose=wtN x/\(ZZ x:Int)+(depth+1)<=51:=λx hx=>(((hc x).choose_spec ω hx).2 (i.1 x hx)).2.2 (c2 x hx);refine⟨?_,?_⟩;rw[c1,ZC6 λx h=>(hx x h).1,Zax];omega;have:=Zwf (l:=v.parts) (k:=(50-depth).toNat) λx h=>by have:=(hx x h).2;omega
  rw[KQ];omega
def Zob(d:Dfn)(v st):Za ZHv 4 [.agg d.cells,.agg v.cells] st λr S=>S=st/\∃b,r=.ret (.bool b)/\(b=true->Y2 v=true->wtN v<=5000/\ZZ v<=51):=by
 obtain⟨wt,ae,ac⟩:=Zoc v 0 ω ω;refine Zbe (cR 4 f4) λad F hF=>?_;have hw:=ZCv (s:=d) (ad _ ψ);have ak:=hw.nmsgs;unfold big at ak;clear ad;rw[v.cells_eq]at ae⊢;refine rx @eQ2 ?_;refine rx @Zod ?_;refine cd (λh0=>?_) (λh0=>?_);refine rg ?_;exact hF.ret _ _ rfl φ (ZHx _) ZHw ⟨rfl,false,rfl,λh=>by simp at h⟩;refine rg ?_;refine Zd (fr (I d.msgs) (λi Q=>i<=I d.msgs->Q [(2,.loc 2 0),(3,.loc 3 0),(5,.d (.int .i64 i))] [(2,[.str d.name,YF d.msgs,.str d.start]),(3,[.str v.name,.int .i64 v.int,Zh v.bytes,Yc v.hdrs,ZY v.parts])] st) (λn u=>?_) λal=>?_);intro i hn hi;refine rx @Zod ?_;refine cd (λh1=>?_) (λh1=>?_);have ag:i<I d.msgs:=by simp at h1;omega
 have ai:=hw.msgs _ (ZD ag);have ah:=ai.nfields;unfold big at ah;generalize hm:d.msgs.getD i dE=m at *;refine xA (nd2 @atM (nd2 @hm @eQ3)) ?_;refine rx @Zfb ?_;refine cd (λh2=>?_) (λh2=>?_);refine rg ?_;exact hF.ret _ _ rfl φ (ZHx _) ZHw ⟨rfl,false,rfl,λh=>by simp at h⟩;refine rg ?_;refine Zd (fr (I m.fields) (λk Q=>k<=I m.fields->Q [(2,.loc 2 0),(3,.loc 3 0),(5,.d (.int .i64 i)),(6,.loc 6 0),(7,.d (.int .i64 k))] [(2,[.str d.name,YF d.msgs,.str d.start]),(3,[.str v.name,.int .i64 v.int,Zh v.bytes,Yc v.hdrs,ZY v.parts]),(6,[.str m.name,Zr m.fields])] st) (λn t=>?_) λaf=>?_);intro k ac hk;refine rx @Zfb ?_;refine cd (λh3=>?_) (λh3=>?_);have ab:k<I m.fields:=by simp at h3;omega
 generalize hf:m.fields.getD k dE=f at *;refine xA (nd2 @atF (nd2 @hf (nd2 @eQ0 (nd2 @Zza @ZAw)))) ?_;refine cd (λh4=>?_) (λh4=>?_);refine rg ?_;exact hF.ret _ _ rfl φ (ZHx _) ZHw ⟨rfl,false,rfl,λh=>by simp at h⟩;refine gA ?_;refine Ze ?_;exact t ((I m.fields)-(k+1)) ω (k+1) rfl ω;have ab:k=I m.fields:=by simp at h3;omega
 subst ab;refine gA ?_;refine Ze ?_;exact u ((I d.msgs)-(i+1)) ω (i+1) rfl ω;exact af _ 0 rfl ω;refine rg ?_;refine cl (ae) ?_;exact hF.ret _ _ rfl φ (ZHx _) ZHw ⟨rfl,dC (wt<=5000),rfl,λh aj=>by
  have h1:=(ac aj).2.2 (of_decide_eq_true h);have h2:wt<=5000:=of_decide_eq_true h;exact⟨ω,ω⟩⟩
 exact al _ 0 rfl ω
def Zs9(e):Zf ZHv 7 [.int .i64 e] (.int .i64 e):=by
 refine Zi (cR 7 f7) λF st i=>?_;refine gG ?_;refine ro i ?_;rfl
def JG(d:Dfn)(s:Str)(v:Val):List UInt8:=(if (YV d s v).2=0 then WK d 51 (Zl d s) v [] else noW).b
def Zpx{d s v}(h:(YV d s v).2=0):Wi d=true:=by
 unfold YV at h;split at h;rename_i i;rw[ZHG]at i;exact i.1;simp at h
def Zk3{d s v}(hs:Y2 v=true->wtN v<=5100/\ZZ v<=51):((JG d s v).length:Int)=Zwl d s v/\(JG d s v).length<=110000000:=by
 unfold JG Zwl;by_cases h:(YV d s v).2=0;rw[if_pos h,if_pos h];obtain⟨hd,hv,hf,hm⟩:=ZbV h;have ab:=Zpx h;obtain⟨t,hvh⟩:=Zgk hv hs;have i:=(QR hf).2;have u:d.msgs.getD (ixS d s) dE=Zl d s:=rfl;have hL:=Zc1 hd.dref 51 (Zl d s) v [] (hd.dref _ (ZD i)) t.ok hm;have h1:=ZmO ab 51 (ixS d s) v [] i (by rw[u];exact hL);have h2:=Zcw hd.dok 51 (Zl d s) v (hd.dok _ (ZD i)) t.ok;have h3:=t.wt;rw[u]at h1;refine⟨h1.1,?_⟩;have:=h1.1;omega;rw[if_neg h,if_neg h];exact⟨rfl,Nat.zero_le _⟩
def ZlX(hI:Jd)(d:Dfn)(s:Str)(v:Val)(hs:Y2 v=true->wtN v<=5100/\ZZ v<=51):
  Zf ZHv 6 [.agg d.cells,.str s,.agg v.cells] (.tup [Zh (JG d s v),.int .i64 (YV d s v).2]):=by
 refine Zlx hI d s v (WK d 51 (Zl d s) v []) hs (λh=>(ZbV h).2.2.1) (λh T=>?_) (λh=>?_);obtain⟨hd,hv,hf,hm⟩:=ZbV h;obtain⟨u,hvh⟩:=Zgk hv hs;have t:=(QR hf).2;have i:d.msgs.getD (ixS d s) dE=Zl d s:=rfl;have:=ZjC (Zpx h) 51 (ixS d s) v [] [] t (by rw[i];exact hm) u ψ T;rw[i]at this;exact this;have:=(Zk3 (d:=d) (s:=s) hs).2;unfold JG at this;rw[if_pos h]at this;omega
def QQ(d:Dfn)(m:Msg):Dfn:={ d with msgs:=d.msgs++[m] }
def ZDw(d:Dfn)(m:Msg):Prop:=∀x∈d.msgs,x.name≠m.name
section
variable {d:Dfn} {m:Msg}
def ZsT(d:Dfn)(m:Msg)(s:Str):Zq (QQ d m) s (QQ d m).msgs.length=if 0<=Zq d s (I d.msgs) then Zq d s (I d.msgs) else if m.name=s then (I d.msgs) else -1:=by
 unfold Zq;rw[ZH0,ZH0];show Zj _ (d.msgs++[m])=_;rw[Zgy];by_cases h:m.name=s<;>simp[h]
def Zc0{s}(h:0<=Zq d s (I d.msgs)):Zq (QQ d m) s (QQ d m).msgs.length=Zq d s (I d.msgs)/\Zl (QQ d m) s=Zl d s:=by
 have i:Zq (QQ d m) s (QQ d m).msgs.length=Zq d s (I d.msgs):=by rw[ZsT,if_pos h]
 refine⟨i,?_⟩;have t:=(QR h).2;have u:ixS (QQ d m) s=ixS d s:=by unfold ixS;rw[i]
 unfold Zl;rw[u];show(d.msgs++[m]).getD _ _=_;simp[ZHL,ZHW t]
def ZBk(hn:ZDw d m):Zq (QQ d m) m.name (QQ d m).msgs.length=I d.msgs/\Zl (QQ d m) m.name=m:=by
 have t:¬0<=Zq d m.name (I d.msgs):=λh=>by have:=Wc (p:=λx:Msg=>dC (x.name=m.name)) (l:=d.msgs) (λx hx=>by simp[hn x hx]);unfold Zq at h;rw[ZH0,this]at h;omega
 have i:Zq (QQ d m) m.name (QQ d m).msgs.length=I d.msgs:=by rw[ZsT,if_neg t,if_pos rfl]
 refine⟨i,?_⟩;have u:ixS (QQ d m) m.name=I d.msgs:=by unfold ixS;rw[i];omega
 unfold Zl;rw[u];show(d.msgs++[m]).getD _ _=_;simp[ZHL]
def Zwb{ps:List Val}{i:Nat}{P:Val->Prop}(h:∀x∈ps,∀y∈x.parts,P y):∀y∈(ps.getD i dE).parts,P y:=by
 intro y t;by_cases u:i<I ps;exact h _ (ZD u) y t;rw[show ps.getD i dE=dE by simp[ZHL,ZIi (Nat.le_of_not_lt u)]]at t;simp[show(dE:Val).parts=[] from rfl]at t
def Zpv:∀n k mm v,Je d n mm v->ZZ v<=k->Je (QQ d m) k mm v/\lenS (QQ d m) k mm v=lenS d n mm v
 |0,_,_,_,h,_=>h.elim
 |n+1,0,_,v,_,hk=>by rw[KQ]at hk;omega
 |n+1,k+1,mm,v,h,hk=>by
  have hsub:∀x∈v.parts,∀y∈x.parts,0<=Zq d y.name (I d.msgs)/\Je (QQ d m) k (Zl d y.name) y/\lenS (QQ d m) k (Zl d y.name) y=lenS d n (Zl d y.name) y:=λx hx y u=>by obtain⟨i,hi,rfl⟩:=Zbj hx;obtain⟨t,h2⟩:=(h.2 i hi).2 y u;have h3:=Jw (ZD hi);have h4:=Jw u;exact⟨t,Zpv n k _ y h2 ω⟩
  refine⟨⟨h.1,λi hi=>⟨(h.2 i hi).1,λy u=>?_⟩⟩,?_⟩;obtain⟨t,h2,_⟩:=hsub _ (ZD hi) y u;rw[(Zc0 t).1,(Zc0 t).2];exact⟨t,h2⟩;simp only[lenS];rw[Zgt λx hx y u=>by
   obtain⟨t,_,h3⟩:=hsub x hx y u;show lenS (QQ d m) k (Zl (QQ d m) y.name) y=lenS d n (Zl d y.name) y;rw[(Zc0 t).2,h3]]
end
def ZmX{mis i:Msg->Val->Str->Str×Int}{d t of x q q'}(h:(Q7 mis d of x q).2=0)(hm:∀y∈x.parts,∀p p',(mis (Zl d of) y p).2=0->(i (Zl t of) y p').2=0):(Q7 i t of x q').2=0:=by
 obtain⟨u,h2⟩:=Zld h;unfold Q7;rw[if_pos u];exact hm _ (ZD ω) _ _ h2
def Zyc{mis mis':Msg->Val->Str->Str×Int}{len u:Msg->Val->Int}{d d' f x q q' l}(hf:ZdV d f)(h:(K8 mis len d f x q l).2=0)(hm:∀of,0<=Zq d of (I d.msgs)->∀y∈x.parts,∀p p',(mis (Zl d of) y p).2=0->(mis' (Zl d' of) y p').2=0)(hl:∀of,0<=Zq d of (I d.msgs)->∀y∈x.parts,∀p,(mis (Zl d of) y p).2=0->u (Zl d' of) y=len (Zl d of) y):(K8 mis' u d' f x q' l).2=0:=by
 unfold K8 at h⊢;split at h;rename_i k;rw[if_pos k];split at h;simp at h;rename_i c;rw[if_neg c];rename_i k;rw[if_neg k];split at h;rename_i k4;rw[if_pos k4];exact h;rename_i k4;rw[if_neg k4];split at h;rename_i k5;rw[if_pos k5];split at h;simp at h;rename_i a;rw[if_neg a];split at h;simp at h;rename_i b;rw[if_neg b];rename_i k5;rw[if_neg k5];split at h;rename_i k6;rw[if_pos k6];split at h;simp at h;rename_i a;rw[if_neg a];split at h;simp at h;rename_i b;rw[if_neg b];rename_i k6;rw[if_neg k6];split at h;rename_i k7;rw[if_pos k7];split at h;rename_i c;rw[if_pos c];have hz:=ZlZ h;rw[Zcp λi hi=>hm f.of (hf.ref (.inl k7)) _ (ZD hi) _ _ (hz i (List.mem_range.2 hi))];rfl;rename_i c;exact absurd h c;rename_i k7;rw[if_neg k7];split at h;rename_i k8;rw[if_pos k8];exact ZmX h (hm f.of (hf.ref (.inr (.inl k8))));rename_i k8;rw[if_neg k8];split at h;rename_i k9;rw[if_pos k9];split at h;simp at h;rename_i c;rw[if_neg c];have h1:=WC (λc:Y6=>dC (c.low<=KJ f.tag l)&&dC (KJ f.tag l<=c.high)) f.cases;have h2:J3 f (KJ f.tag l)<I f.cases:=h1;exact ZmX h (hm _ (hf.cas k9 _ (ZD ω)));rename_i k9;rw[if_neg k9];split at h;rename_i t;rw[if_pos t];have h0:=hf.ref (.inr (.inr t));split at h;rename_i c;obtain⟨h1,h2⟩:=Zld c;rw[if_pos (ZmX c (hm f.of h0)),hl f.of h0 _ (ZD ω) _ h2];exact h;rename_i c;exact absurd h c;rename_i t;rw[if_neg t]
section
variable {d:Dfn} {m:Msg}
def ZsU(hd:Zo9 d):∀n k mm v p,(∀f∈mm.fields,ZdV d f)->Y2 v=true->(Z7 d n mm v p).2=0->ZZ v<=k->∀q,(Z7 (QQ d m) k mm v q).2=0
 |0,_,_,_,_,_,_,h,_,_=>by simp[Z7]at h
 |n+1,0,_,v,_,_,_,_,hk,_=>by rw[KQ]at hk;omega
 |n+1,k+1,mm,v,p,hmm,hv,h,hk,q=>by
  rw[Zfi]at h⊢;split at h;case isFalse=>simp at h
  case isTrue hc =>
   rw[if_pos hc];simp only[ZHG,decide_eq_true_eq]at hc;have hr:=hc.2.2.2.2;have hlen:(vfs mm.fields).length=I v.parts:=by unfold Qm at hr;rw[decide_eq_true_eq]at hr;simpa using congrArg List.length hr
   have hz:=ZlZ h;rw[Zcp λi hi=>?_];rfl;have hg:=hz i (List.mem_range.2 hi);have hx:=ZD hi;have hhx:=Jw hx;have u:=Yy hv hx;have ab:(vfs mm.fields).getD i dE∈vfs mm.fields:=ZD ω;have ac:=hmm _ (List.mem_filter.1 ab).1;unfold Zc9 at hg⊢;split at hg;simp at hg;rename_i hu;rw[if_neg hu];refine Zyc ac hg (λof h0 y hy p1 p2 t=>?_) (λof h0 y hy p1 t=>?_);have:=Jw hy;rw[(Zc0 h0).2];exact ZsU hd n k (Zl d of) y p1 (hd.of of) (Yy u hy) t ω p2;have:=Jw hy;rw[(Zc0 h0).2];exact(Zpv n k _ y (Zc1 hd n (Zl d of) y p1 (hd.of of) (Yy u hy) t) ω).2
end
def WEq(a b:Wr):Prop:=a.b=b.b/\a.n=b.n
def ZqR{chg rec i q u}{ps:List Val}(t:∀y∈ps,∀p p',WEq (rec y p) (i y p')):∀{n j w w'},j+n=I ps->WEq w w'->WEq (Y9 chg rec q ps n j w) (Y9 chg i u ps n j w')
 |0,_,_,_,_,h=>h
 |n+1,j,w,w',hj,h=>by unfold Y9;have h1:=t (ps.getD j dE) (ZD ω) (ZM q (Yo ps j)) (ZM u (Yo ps j));refine ZqR t ω ⟨?_,?_⟩;show w.b++chg _=w'.b++chg _;rw[h.1,h1.1];show w.n+8*(chg _).length=w'.n+8*(chg _).length;rw[h.2,h1.1]
def ZBl{rec i path path' f x E w w'}(hw:WEq w w')(u:∀y∈x.parts,∀p p',WEq (rec y p) (i y p')):WEq (Qh rec path f x E w) (Qh i path' f x E w'):=by
 obtain⟨b,n,s⟩:=w;obtain⟨t,n',s'⟩:=w';obtain⟨rfl,rfl⟩:b=t/\n=n':=hw;unfold Qh;split;exact⟨rfl,rfl⟩;split;exact⟨rfl,rfl⟩;split;exact⟨rfl,rfl⟩;split;exact⟨rfl,rfl⟩;split;exact⟨rfl,rfl⟩;split;exact⟨rfl,rfl⟩;split;exact⟨rfl,rfl⟩;split;exact⟨rfl,rfl⟩;exact ZqR u ω ⟨rfl,rfl⟩
def ZyU{l ps i}{P:Val->Prop}(h:∀x∈ps,∀y∈x.parts,P y):∀y∈(xAt l ps i).parts,P y:=by
 unfold xAt;split;exact Zwb h;intro y t;simp[show(dE:Val).parts=[] from rfl]at t
def Zyz{rec t path path' l}{ps:List Val}(hr:∀x∈ps,∀y∈x.parts,∀p p',WEq (rec y p) (t y p')):∀i,(stF rec path l ps i).1=(stF t path' l ps i).1/\WEq (stF rec path l ps i).2 (stF t path' l ps i).2
 |0=>⟨rfl,rfl,rfl⟩
 |i+1=>by
  obtain⟨h1,h2⟩:=Zyz (path:=path) (path':=path') (l:=l) hr i;have u:(stF rec path l ps (i+1)).1=(stF t path' l ps (i+1)).1:=by simp only[stF];rw[h1,h2.2]
  refine⟨u,?_⟩;simp only[stF]at u⊢;rw[u];exact ZBl h2 (ZyU (P:=λy=>∀p p',WEq (rec y p) (t y p')) hr)
section
variable {d:Dfn} {m:Msg}
def ZsV:∀n k mm v,Je d n mm v->ZZ v<=k->∀p q,WEq (WK (QQ d m) k mm v p) (WK d n mm v q)
 |0,_,_,_,h,_,_,_=>h.elim
 |n+1,0,_,v,_,hk,_,_=>by rw[KQ]at hk;omega
 |n+1,k+1,mm,v,h,hk,p,q=>by unfold WK;refine(Zyz (λx hx y hy p1 p2=>?_) _).2;obtain⟨i,hi,rfl⟩:=Zbj hx;obtain⟨t,u⟩:=(h.2 i hi).2 y hy;have h3:=Jw (ZD hi);have h4:=Jw hy;rw[(Zc0 t).2];exact ZsV n k _ y u ω p1 p2
end
def Zz9{pre c:List UInt8}{n}:Zd2 (pre++c) (8*I pre+n)=pre++Zd2 c n:=by
 unfold Zd2;rw[show(8*I pre+n) % 8=n % 8 by omega];split;rw[ZHY];rfl
def ZAb{pre c:List UInt8}{n t}(hc:0<I c):Ziq (pre++c) (8*I pre+n) t=pre++Ziq c n t:=by
 unfold Ziq Zip;have i:(8*I pre+n) % 8=n % 8:=ω;have u:(pre++c).length-1=I pre+(I c-1):=by rw[ZHF];omega
 have h4:(pre++c).getD (I pre+(I c-1)) dE=c.getD (I c-1) dE:=by simp only[ZHL];rw[ZIf ω,Nat.add_sub_cancel_left]
 rw[i,u,h4];simp[List.set_append]
def ZtC{v}{pre:List UInt8}:∀{k c n},BOk c n->Zbc v k (pre++c) (8*I pre+n)=pre++Zbc v k c n
 |0,_,_,_=>rfl
 |k+1,c,n,h=>by have h1:=Zm1 h;rw[Zj2,Zj2,Zz9,ZAb ω,Nat.add_assoc];exact ZtC (ZtB h)
def Zyg(v:Fin 256):Zbc v.val 8 [] 0=[UInt8.ofNat v.val]:=by
 revert v;decide +kernel
def ZCS{v:Nat}(i:v<256)(b:List UInt8):Zbc v 8 b (8*I b)=b++[UInt8.ofNat v]:=by
 have h:=ZtC (v:=v) (pre:=b) (k:=8) (c:=[]) (n:=0) rfl;rw[ZH3,Nat.add_zero]at h;rw[h,Zyg ⟨v,i⟩]
def Zcj(nm:Str)(v:Int):Fld:={ name:=nm,kind:=2,bits:=8,little:=false,loose:=false,low:=v,high:=0,size:=⟨0,[]⟩,of:=[],tag:=[],from_:=[],cases:=[],check:=0,key:=0 }
def YP(a z:Nat)(g:Fld):List Fld:=[Zcj [120] a,g,Zcj [122] z]
def YQ(v:Val):Val:=⟨[121],0,[],[],[v]⟩
def Jc(g:Fld):Prop:=g.kind=8\/g.kind=12/\g.key=0
def Jc.hasV{g}(h:Jc g):hasV g=true:=by
 unfold Go.DL.hasV;rcases h with h|⟨h,_⟩<;>rw[h]<;>rfl
def Zqx{rec path nm x E}{w:Wr}{v:Nat}(t:v<256)(i:w.n=8*I w.b):(Qh rec path (Zcj nm v) x E w).b=w.b++[UInt8.ofNat v]/\(Qh rec path (Zcj nm v) x E w).n=w.n+8:=by
 have h:Qh rec path (Zcj nm v) x E w=w.num (Zcj nm v) v:=rfl;rw[h];unfold Wr.num;show Zbc (v:Int).toNat 8 w.b w.n=_/\w.n+8=_;rw[Int.toNat_natCast,i,ZCS t];exact⟨rfl,rfl⟩
def ZxL{rec path g E}{w:Wr}{v:Val}(i:Jc g):∃q,(Qh rec path g (YQ v) E w).b=w.b++(rec v q).b/\(Qh rec path g (YQ v) E w).n=w.n+8*(rec v q).b.length:=by
 have t:=ZnZ (rec:=rec) (path:=path) (x:=YQ v) (E:=E) (w:=w) (f:=g) (by rcases i with h|h<;>omega);rw[t];have u:(if g.kind=12 then Qg g.key.toNat else id)=id\/(if g.kind=12 then Qg g.key.toNat else id)=Qg 0:=by rcases i with h|⟨h,hk⟩;exact .inl (if_neg ω);refine .inr ?_;rw[if_pos h,hk];rfl
 have h3:∀b,Qg 0 b=b:=λb=>if_pos rfl;refine⟨ZM (ZM path g.name) (Yo [v] 0),?_⟩;rcases u with h|h<;>rw[h];exact⟨rfl,rfl⟩;show w.b++Qg 0 _=_/\w.n+8*(Qg 0 _).length=_;rw[h3];exact⟨rfl,rfl⟩
def ZyT{rec path g a z}{v:Val}(ha:a<256)(hz:z<256)(hg:Jc g):∃q,(stF rec path (YP a z g) [YQ v] 3).2.b=[UInt8.ofNat a]++(rec v q).b++[UInt8.ofNat z]:=by
 have t:xAt (YP a z g) [YQ v] 1=YQ v:=by unfold xAt;rw[show(YP a z g).getD 1 dE=g from rfl,if_pos hg.hasV];rfl
 obtain⟨w0,h0⟩:∃w0:Wr,w0=⟨[],0,[]⟩:=⟨_,rfl⟩;have s0:(stF rec path (YP a z g) [YQ v] 0).2=w0:=h0.symm;have s1:=Jx rec path (YP a z g) [YQ v] 0;have s2:=Jx rec path (YP a z g) [YQ v] 1;have s3:=Jx rec path (YP a z g) [YQ v] 2;rw[s0]at s1;rw[t]at s2;rw[show(YP a z g).getD 0 dE=Zcj [120] a from rfl]at s1;rw[show(YP a z g).getD 1 dE=g from rfl]at s2;rw[show(YP a z g).getD 2 dE=Zcj [122] z from rfl]at s3;generalize xAt (YP a z g) [YQ v] 0=x0 at *;generalize xAt (YP a z g) [YQ v] 2=x2 at *;generalize stE rec path (YP a z g) [YQ v] 0=E0 at *;generalize stE rec path (YP a z g) [YQ v] 1=E1 at *;generalize stE rec path (YP a z g) [YQ v] 2=E2 at *;have t1:=congrArg Prod.snd s1;have t2:=congrArg Prod.snd s2;have t3:=congrArg Prod.snd s3;simp only[Nat.zero_add,ZHE]at t1 t2 t3;generalize (stF rec path (YP a z g) [YQ v] 1).2=w1 at *;generalize (stF rec path (YP a z g) [YQ v] 2).2=w2 at *;generalize (stF rec path (YP a z g) [YQ v] 3).2=w3 at *;have u:=Zqx (rec:=rec) (path:=path) (nm:=[120]) (x:=x0) (E:=E0) (w:=w0) ha (by rw[h0];rfl);rw[<-t1]at u;obtain⟨q,h2,h3⟩:=ZxL (rec:=rec) (path:=path) (g:=g) (E:=E1) (w:=w1) (v:=v) hg;rw[<-t2]at h2 h3;have i:w0.b=[]/\w0.n=0:=by rw[h0];exact⟨rfl,rfl⟩
 have h4:=Zqx (rec:=rec) (path:=path) (nm:=[122]) (x:=x2) (E:=E2) (w:=w2) hz (by rw[h3,h2,u.1,u.2,i.1,i.2];simp;omega);rw[<-t3]at h4;exact⟨q,by rw[h4.1,h2,u.1,i.1];rfl⟩
def ZAB{a z g}(t:Jc g):vfs (YP a z g)=[g]:=by
 unfold vfs YP;have h:∀i v,¬hasV (Zcj i v)=true:=λi v=>by show ¬(false=true);decide
 rw[List.filter_cons_of_neg (h _ _),List.filter_cons_of_pos t.hasV,List.filter_cons_of_neg (h _ _)];rfl
def ZuF{g}(i:Jc g)(v:Val):Wo g.kind (YQ v)=false:=by
 rcases i with h|⟨h,_⟩<;>rw[h]<;>rfl
def ZyS{o k s v g a z nm p}{L:Int}(hg:Jc g)(hgo:g.of=s)(hgn:g.name=[121])(hm:∀q,(Z7 o k (Zl o s) v q).2=0)(hsz:g.kind=12->g.size=⟨L,[]⟩/\lenS o k (Zl o s) v=L):
  (Z7 o (k+1) ⟨nm,YP a z g⟩ ⟨nm,0,[],[],[YQ v]⟩ p).2=0:=by
 have hv:vfs (YP a z g)=[g]:=ZAB hg;rw[Zfi];have hr:Qm ⟨nm,YP a z g⟩ [YQ v]=true:=by unfold Qm;rw[decide_eq_true_eq];show(vfs (YP a z g)).map (·.name)=_;rw[hv];simp only[ZHM,ZH2,hgn];rfl
 rw[if_pos (by
  show(dC (nm=nm)&&(dC ((0:Int)=0)&&(dC (([]:List UInt8).length=0)&&(dC (([]:List Hdr).length=0)&&Qm _ [YQ v]))))=true;rw[hr];simp)]
 rw[Zcp λi hi=>?_];rfl;have u:i=0:=by have:i < [YQ v].length:=hi;simpa using this
 subst u;unfold Zc9;show(if Wo ((vfs (YP a z g)).getD 0 dE).kind (YQ v)=true then _ else K8 _ _ o ((vfs (YP a z g)).getD 0 dE) (YQ v) _ _).2=0;rw[hv];show(if Wo g.kind (YQ v)=true then _ else K8 _ _ o g (YQ v) _ _).2=0;rw[ZuF hg,if_neg ψ];have one:∀q,(Q7 (Z7 o k) o g.of (YQ v) q).2=0:=λq=>by unfold Q7;rw[if_pos (show(YQ v).parts.length=1 from rfl),hgo];exact hm _
 by_cases h8:g.kind=8;rw[ZCQ h8];exact one _;have t:g.kind=12:=by rcases hg with h|h;exact absurd h h8;exact h.1
 obtain⟨h1,h2⟩:=hsz t;rw[ZBD t,if_pos (one _),h1,hgo];show Kx (lenS o k (Zl o s) v) (Zev ⟨L,[]⟩ _)=0;rw[h2];unfold Zev Kx;simp[QZ]
def nmW:Str:=[119,114,97,112,112,101,100]
def Wk(d:Dfn)(a z:Nat)(g:Fld):Dfn:=QQ d ⟨nmW,YP a z g⟩
def Ym(v:Val):Val:=⟨nmW,0,[],[],[YQ v]⟩
def Zq7{v}(h:Qo v=true):Y2 v=true/\ZZ v<=40:=by
 unfold Qo at h;simp only[ZHG,decide_eq_true_eq]at h;exact⟨h.2,ω⟩
def Zt0{d s v a z g}(hs:Y2 v=true->wtN v<=5100/\ZZ v<=51)(hfit:(YV d s v).2=0)(hn:∀x∈d.msgs,x.name≠nmW)(ha:a<256)(hz:z<256)(hg:Jc g)(hgo:g.of=s)(hgn:g.name=[121])(hsz:g.kind=12->g.size=⟨((JG d s v).length:Int),[]⟩):
  ((YV (Wk d a z g) nmW (Ym v)).2=0/\JG (Wk d a z g) nmW (Ym v)=[UInt8.ofNat a]++JG d s v++[UInt8.ofNat z])\/((YV (Wk d a z g) nmW (Ym v)).2=2/\JG (Wk d a z g) nmW (Ym v)=[]):=by
 obtain⟨hd,hv,hf,hm⟩:=ZbV hfit;obtain⟨ag,hh⟩:=Zq7 hv;have ah:=(Zk3 (d:=d) (s:=s) hs).1;have ai:Zwl d s v=lenS d 51 (Zl d s) v:=by unfold Zwl;rw[if_pos hfit]
 have hlB:JG d s v=(WK d 51 (Zl d s) v []).b:=by unfold JG;rw[if_pos hfit]
 have ad:∀f∈(Zl d s).fields,ZdV d f:=hd.dref.of s;have hL:=Zc1 hd.dref 51 (Zl d s) v [] ad ag hm;have ak:v.name=s:=by rw[ZgN hm,Zij hf]
 have u:=ZBk (d:=d) (m:=⟨nmW,YP a z g⟩) hn;have i:=Zc0 (d:=d) (m:=⟨nmW,YP a z g⟩) hf;have aj:∀q,(Z7 (Wk d a z g) 50 (Zl (Wk d a z g) s) v q).2=0:=λq=>by unfold Wk;rw[i.2];exact ZsU hd.dref 51 50 (Zl d s) v [] ad ag hm ω q
 have ae:lenS (Wk d a z g) 50 (Zl (Wk d a z g) s) v=((JG d s v).length:Int):=by unfold Wk;rw[i.2,(Zpv 51 50 (Zl d s) v hL ω).2,ah,ai]
 have af:∀p,(Z7 (Wk d a z g) 51 ⟨nmW,YP a z g⟩ (Ym v) p).2=0:=λp=>ZyS (k:=50) hg hgo hgn aj λh=>⟨hsz h,ae⟩;have ab:Zq (Wk d a z g) nmW (Wk d a z g).msgs.length=I d.msgs:=u.1;have t:Zl (Wk d a z g) nmW=⟨nmW,YP a z g⟩:=u.2;by_cases ac:(Wi (Wk d a z g)&&Qo (Ym v))=true;have h0:(YV (Wk d a z g) nmW (Ym v)).2=0:=by unfold YV;rw[if_pos ac,if_neg (by rw[ab];omega),t];exact af []
 refine .inl ⟨h0,?_⟩;unfold JG;rw[if_pos h0,if_pos hfit,t];show(stF (λy p=>WK (Wk d a z g) 50 (Zl (Wk d a z g) y.name) y p) [] (YP a z g) [YQ v] 3).2.b=_;obtain⟨q,hq⟩:=ZyT (rec:=λy p=>WK (Wk d a z g) 50 (Zl (Wk d a z g) y.name) y p) (path:=[]) (v:=v) ha hz hg;rw[hq];show _++(WK (Wk d a z g) 50 (Zl (Wk d a z g) v.name) v q).b++_=_;rw[ak];unfold Wk;rw[i.2,(ZsV 51 50 (Zl d s) v hL ω q []).1];have h2:(YV (Wk d a z g) nmW (Ym v)).2=2:=by unfold YV;rw[if_neg ac]
 refine .inr ⟨h2,?_⟩;unfold JG;rw[if_neg ω];rfl
def ZV.slR{t Ln tk n s row row'}(h:∀i,i<n->LdC t Ln (row i) (row' i)):ZV t Ln (.sl tk n s row) (.sl .none n s row'):=by
 intro g w v hf hr;cases hr with
 |sl0 a _ _ _ ht=>exact .sl0 _ _ _ _ ψ
 |sl b o _ cap _ _ _ f hl hc hp hr one ht hcap hb =>refine .sl b o n cap s row' .none f (λi hi=>by rw[<-(h i hi).len];exact hl i hi) hc hp (λi j d hi hd=>?_) one trivial hcap hb;obtain⟨x,hx,u⟩:=(h i hi).get hd;exact u g w _ hf (hr i j x hi hx)
def ZCa(v:Val):wtN (Ym v)=28+wtN v:=by
 simp[Ym,YQ,wtN,wtL,Qv,nmW];omega
def ZB9(v:Val):ZZ (Ym v)=ZZ v+2:=by
 simp[Ym,YQ,ZZ,heightL]
def ZAA{v:Val}(h:Y2 (Ym v)=true):Y2 v=true :=
 Yy (Yy h (x:=YQ v) (by simp[Ym,Val.parts])) (by simp[YQ,Val.parts])
def ZB8{d s v}(t:Y2 v=true->wtN v<=5000/\ZZ v<=51)(i:(YV d s v).2=0)(h:Y2 (Ym v)=true):wtN (Ym v)<=5100/\ZZ (Ym v)<=51:=by
 obtain⟨_,u,_,_⟩:=ZbV i;have h1:=t (ZAA h);have h2:=(Zq7 u).2;rw[ZCa,ZB9];omega
def ZC7(b:Nat)(l:List UInt8):D:=.sl (.tip b) (I l) 1 λi=>u8C (l.getD i dE)
def ZkE(l:List UInt8)(u:0<I l)(hl:I l<=1000000000){T}:Za ZHv 15 [Zh l] T λr S=>∃b,T b=nO/\r=.ret (ZC7 b l)/\S=T.own (.tip b) (I l*1):=by
 refine Zb (cR 15 f15) λF hF=>?_;refine rx (nd2 @Zh.eq_1 @eQ1) ?_;refine gA ?_;refine iG ?_;refine ZCd T .full rfl rfl rfl rfl rfl rfl φ φ rfl trivial u ω (by unfold big;omega) λb hb=>?_;refine gR0 ?_;have t:ZU u8C (Yg 0 (ZR [.int .u8 0] ([].zip [])) λi=>u8C (l.getD i dE)) ([]++l):=ZU.nil.app ZU.self rfl;exact hF.ret _ _ rfl (by first|trivial|simp) (K5 (t.leT ψ)) ZHw ⟨b,hb,rfl,rfl⟩
def Zvi(s:St)(b k:Nat):s.own (.tip b) k=s.upd b (.tip k):=rfl
def ZyX(B:List UInt8)(e:Int)(T:St)(r:Res)(S:St):Prop :=
 (B=[]/\r=.ret (.tup [Zh [],.int .i64 e])/\S=T)\/∃b,T b=nO/\r=.ret (.tup [ZC7 b B,.int .i64 e])/\S=T.own (.tip b) (B.length*1)
def Zju(hI:Jd)(d:Dfn)(s:Str)(v:Val)(o:Wr)(hs:Y2 v=true->wtN v<=5100/\ZZ v<=51)(hf:(YV d s v).2=0->0<=Zq d s (I d.msgs))(hw:(YV d s v).2=0->∀T,Za ZHv 23 [.agg d.cells,.agg (Zl d s).cells,.agg v.cells,.str []] T (WrP d o [] T))(hb:(YV d s v).2=0->I o.b<=1000000000)(T:St):
  Za ZHv 6 [.agg d.cells,.str s,.agg v.cells] T (ZyX (if (YV d s v).2=0 then o else noW).b (YV d s v).2 T):=by
 refine Zb (cR 6 f6) λF hF=>?_;have i:=Zeb hI d s v o hs hf hw T;have hl:(if (YV d s v).2=0 then o else noW).b.length<=1000000000:=by split;exact hb (by assumption);exact Nat.zero_le _
 generalize (if (YV d s v).2=0 then o else noW)=W at *;rw[v.cells_eq]at i⊢;unfold Dfn.cells at i;refine rx @eQ2 ?_;refine rg ?_;refine cV (i) ?_ ?_;rintro dd S ⟨z,n,r3,r4,r5,r6,r7,hz,hr,hS⟩;cases hr;subst hS;refine gR0 ?_;by_cases h0:W.b.length=0;have h1:W.b=[]:=List.eq_nil_of_length_eq_zero h0;refine rx @ZHB ?_;refine cV (WM W.b hl _) ?_ ?_;rintro dd S ⟨hr,hS⟩;subst hS;cases hr;refine gR0 ?_;exact hF.ret _ T rfl (by first|trivial|simp) (ZHx _) (ZHV _ hz) (.inl ⟨h1,by rw[h1];rfl,rfl⟩);rintro dd S ⟨hr,_⟩;cases hr
 skip
 refine rx @ZHB ?_;refine Zg0 rfl rfl rfl rfl rfl φ φ (by exact ZkE W.b ω hl) ?_ ?_;rintro dd S ⟨b,u,hr,hS⟩;subst hS;cases hr;obtain⟨e1,e2⟩:=Zo u;refine gR0 ?_;refine hF.ret _ (T.own (.tip b) (W.b.length*1)) rfl (by first|trivial|simp) (ZHx _) (λy o hy=>?_) (.inr ⟨b,e2,rfl,rfl⟩);simp only[St.own]at hy⊢;by_cases t:y=b;subst t;rw[ZHB]at hy⊢;exact hy;rw[ZHD _ _ t]at hy⊢;rw[ZHD _ _ λe=>by rw[e,hz]at hy;cases hy];exact hy;rintro dd S ⟨_,_,hr,_⟩;cases hr;rintro dd S ⟨_,_,_,_,_,_,_,_,hr,_⟩;cases hr
def ZsP(hI:Jd)(d:Dfn)(s:Str)(v:Val)(hs:Y2 v=true->wtN v<=5100/\ZZ v<=51)(T:St):
  Za ZHv 6 [.agg d.cells,.str s,.agg v.cells] T (ZyX (JG d s v) (YV d s v).2 T):=by
 refine Zju hI d s v (WK d 51 (Zl d s) v []) hs (λh=>(ZbV h).2.2.1) (λh T=>?_) (λh=>?_) T;obtain⟨hd,hv,hf,hm⟩:=ZbV h;obtain⟨u,hvh⟩:=Zgk hv hs;have t:=(QR hf).2;have i:d.msgs.getD (ixS d s) dE=Zl d s:=rfl;have:=ZjC (Zpx h) 51 (ixS d s) v [] [] t (by rw[i];exact hm) u ψ T;rw[i]at this;exact this;have:=(Zk3 (d:=d) (s:=s) hs).2;unfold JG at this;rw[if_pos h]at this;omega
def Zzt{B:List UInt8}{e:Int}{args t:List D}{S:St}{Ln:List Nat}(hL:∀b∈Ln,∃ds,S b=sO (.cells ds))(hl:LdC S Ln args t)(h:∀T,Za ZHv 6 t T (ZyX B e T)):
  Za ZHv 6 args S λr S1=>∃dB,r=.ret (.tup [dB,.int .i64 e])/\dB.Le (Zh B)/\S.sub S1:=by
 refine(Za.lend hL hl (h λ_=>nO) λr S' hr=>?_).mono λr S1 ⟨S',hr,hd,hS⟩=>?_;rcases hr with ⟨h1,h2,h3⟩|⟨b,h1,h2,h3⟩;subst h2 h3;refine⟨.tup _ λc u=>?_,λb o hb=>by cases hb⟩;simp only[ZIa,List.not_mem_nil,or_false]at u;rcases u with rfl|rfl;exact .sl0 _ _ _;exact .int _ _;subst h2;have hb:S' b=sO (.tip (B.length*1)):=by rw[h3,Zvi];exact ZHB _ _ _
 refine⟨.tup _ λc u=>?_,λy o hy=>?_⟩;simp only[ZIa,List.not_mem_nil,or_false]at u;rcases u with rfl|rfl;refine .tip _ _ _ _ (by rw[hb];rfl) λi hi c u=>?_;simp only[u8C,ZIa,List.not_mem_nil,or_false]at u;subst u;exact .int _ _;exact .int _ _;rw[h3,Zvi]at hy;by_cases e:y=b;subst e;rw[ZHB]at hy;cases hy;trivial;rw[ZHD _ _ e]at hy;cases hy;subst hS;rcases hr with ⟨h1,h2,h3⟩|⟨b,h1,h2,h3⟩;exact⟨_,h2,by rw[h1];exact ZHx _,Zvu hd⟩;exact⟨_,h2,ZkY,Zvu hd⟩
def mkF(nm:Str)(kd bits low base:Int)(of:Str):Fld:={ name:=nm,kind:=kd,bits:=bits,little:=false,loose:=false,low:=low,high:=0,size:=⟨base,[]⟩,of:=of,tag:=[],from_:=[],cases:=[],check:=0,key:=0 }
def mkC(nm:Str)(kd bits low base:Int)(of:Str):List D:=[.str nm,.int .i64 kd,.int .i64 bits,.bool false,.bool false,.int .i64 low,.int .i64 0,.int .i64 base,.nilsl,.str of,.str [],.str [],.nilsl,.int .i64 0,.int .i64 0]
def Zwn(nm kd bits low base of):LeC (mkC nm kd bits low base of) (mkF nm kd bits low base of).cells:=by
 have h:∀(n:Nat) (row:Nat->List D),D.nilsl.Le (.sl .none 0 n row):=λn row=>YL λb h=>by cases h
 exact .cons (ZHx _) (.cons (ZHx _) (.cons (ZHx _) (.cons (ZHx _) (.cons (ZHx _) (.cons (ZHx _) (.cons (ZHx _) (.cons (ZHx _) (.cons (h _ _) (.cons (ZHx _) (.cons (ZHx _) (.cons (ZHx _) (.cons (h _ _) (.cons (ZHx _) (.cons (ZHx _) .nil))))))))))))))
def LeC.ld{t Ln l l'}(h:LeC l l'):LdC t Ln l l':=by
 induction h with
 |nil=>exact .nil
 |cons h _ ih=>exact .cons (.of_le h) ih
def fcs(a z:Nat)(kd base:Int)(s:Str):List D:=mkC [120] 2 8 a 0 []++(mkC [121] kd 0 0 base s++mkC [122] 2 8 z 0 [])
def ZCw{T fl a z t base s}(h:T fl=sO (.cells (fcs a z t base s))):ZV T [fl] (.msl fl 0 3 3 15) (Zr (YP a z (mkF [121] t 0 0 base s))):=by
 refine ZV.msl (List.mem_singleton.2 rfl) h (ZHK _) λi hi=>?_;rcases(by omega:i=0\/i=1\/i=2) with rfl|rfl|rfl;exact(Zwn [120] 2 8 a 0 []).ld;exact(Zwn [121] t 0 0 base s).ld;exact(Zwn [122] 2 8 z 0 []).ld
def ZhC(d:Dfn)(fl:Nat):D:=.sl .none (I d.msgs+1) 2 λi=>if i<I d.msgs then (d.msgs.getD i dE).cells else [.str nmW,.msl fl 0 3 3 15]
def ZDu(d:Dfn)(fl:Nat):List D:=[.str d.name,ZhC d fl,.str d.start]
def ZtZ{T fl a z t base s}(d:Dfn)(h:T fl=sO (.cells (fcs a z t base s))):LdC T [fl] (ZDu d fl) (Wk d a z (mkF [121] t 0 0 base s)).cells:=by
 refine .cons (.refl _) (.cons ?_ (.cons (.refl _) .nil));have e:∀x:Msg,YF (d.msgs++[x])=.sl .none (I d.msgs+1) 2 (λi=>((d.msgs++[x]).getD i dE).cells):=λx=>by unfold YF slD;rw[ZHF];rfl
 show ZV T [fl] (ZhC d fl) (YF (d.msgs++[⟨nmW,YP a z (mkF [121] t 0 0 base s)⟩]));rw[e];refine ZV.slR λi hi=>?_;by_cases u:i<I d.msgs;rw[if_pos u,show(d.msgs++[(⟨nmW,YP a z (mkF [121] t 0 0 base s)⟩:Msg)]).getD i dE=d.msgs.getD i dE by simp[ZHL,ZHW u]];exact LdC.refl _;obtain rfl:i=I d.msgs:=ω;rw[if_neg u,show(d.msgs++[(⟨nmW,YP a z (mkF [121] t 0 0 base s)⟩:Msg)]).getD (I d.msgs) dE=⟨nmW,YP a z (mkF [121] t 0 0 base s)⟩ by simp[ZHL]];exact .cons (.refl _) (.cons (ZCw h) .nil)
def ZyR(d:Dfn)(fl:Nat)(tk:Tok){u}:(D.sl tk (I d.msgs+1) 2 (Yg (I d.msgs) (Yg 0 u λi=>(d.msgs.getD i dE).cells) (ZR [.str [],.nilsl] ([0].zip [.agg [.str [119,114,97,112,112,101,100],.msl fl 0 3 3 15]])))).Le (ZhC d fl):=Zee rfl λi hi=>by
 unfold Yg;by_cases t:i<I d.msgs;rw[if_pos ω,if_neg ω,if_pos t];rfl;obtain rfl:i=I d.msgs:=ω;rw[if_neg ω,if_neg t,show (I d.msgs)-I d.msgs=0 by omega];rfl
def ZBc{S:St}{y x:Nat}(h:x≠y):(S.delL [y]) x=S x:=by
 simp only[St.delL,List.mem_singleton,if_neg h]
def z5:List D:=[.str [],.int .i64 0,.nilsl,.nilsl,.nilsl]
def ZAz(v:Val):LeC [.str nmW,.int .i64 0,.nilsl,.nilsl,.sl .full 1 5 (ZR z5 ([0].zip [.agg [.str [121],.int .i64 0,.nilsl,.nilsl,.sl .full 1 5 (ZR z5 ([0].zip [.agg [.str v.name,.int .i64 v.int,Zh v.bytes,Yc v.hdrs,ZY v.parts]]))]]))] [.str (Ym v).name,.int .i64 (Ym v).int,Zh (Ym v).bytes,Yc (Ym v).hdrs,ZY (Ym v).parts]:=by
 have h:∀(n:Nat) (row:Nat->List D),D.nilsl.Le (.sl .none 0 n row):=λn row=>YL λb h=>by cases h
 have t:(D.sl .full 1 5 (ZR z5 ([0].zip [.agg [.str v.name,.int .i64 v.int,Zh v.bytes,Yc v.hdrs,ZY v.parts]]))).Le (ZY [v]):=Zee rfl λi u=>by obtain rfl:i=0:=ω;rw[Zb3 ψ];exact(ZHZ v).symm
 refine .cons (ZHx _) (.cons (ZHx _) (.cons (h _ _) (.cons (h _ _) (.cons ?_ .nil))));refine D.Le.trans (Znn (row':=Zbv [YQ v]) λi u=>?_) ZkY;obtain rfl:i=0:=ω;rw[Zb3 ψ];show LeC _ (YQ v).cells;rw[ZHZ];exact .cons (ZHx _) (.cons (ZHx _) (.cons (h _ _) (.cons (h _ _) (.cons t .nil))))
def ZDo{L s}(a:Nat):qv L s (.conv .b2s) [.d (.sl .full 1 1 (ZR [.int .u8 0] ([0].zip [.int .u8 (a:Int)])))]=sO (∀i,i<1->ZgF (ZR [.int .u8 0] ([0].zip [.int .u8 (a:Int)]) i),.d (.str [UInt8.ofNat a])):=rfl
def Zih(hI:Jd)(hk:Zf ZHv 5 [] (.bool true))(d:Dfn)(s:Str)(v:Val){a z:Nat}(ha:a<256)(hz:z<256):Zf ZHv 3 [.agg d.cells,.str s,.agg v.cells,.int .u8 a,.int .u8 z] (.bool true):=by
 refine Zi (cR 3 f3) λF st ab=>?_;have al:=Zob d v st;have u:=λe=>Zs9 e;have ac:=ZlX hI d s v;have a9:(YV d s v).2=0->0<I d.msgs:=λh=>by have:=(QR (ZbV h).2.2.1).2;omega
 rw[ZHZ]at al ac⊢;refine rx @eQ2 ?_;refine rg ?_;refine cV (al) ?_ ?_;rintro dd S ⟨hS,b,hr,hs⟩;obtain rfl:=hS.symm;cases hr;refine gQ @Zod ?_;refine cd (λh1=>?_) (λh1=>?_);refine rg ?_;refine cl (hk) ?_;refine rb ab ?_;rfl;simp only[Bool.or_eq_false_iff,Bool.not_eq_false',decide_eq_false_iff_not]at h1;have ak:=hs h1.1.1;have ae:Y2 v=true->wtN v<=5100/\ZZ v<=51:=λh=>⟨by have:=(ak h).1;omega,(ak h).2⟩;have ai:=ac ae;have a7:=Zt0 (d:=d) (s:=s) (v:=v) (a:=a) (z:=z) (g:=mkF [121] 8 0 0 0 s) ae;have a8:=Zt0 (d:=d) (s:=s) (v:=v) (a:=a) (z:=z) (g:=mkF [121] 12 0 0 (JG d s v).length s) ae;have hBl:=(Zk3 (d:=d) (s:=s) ae).2;have aw:=ZB8 (d:=d) (s:=s) ak;generalize hB:JG d s v=B at *;generalize hfe:(YV d s v).2=e at *;have hml:I d.msgs<=7:=ω;clear hs ac al;refine rx @eQ2 ?_;refine cl (ai) ?_;refine rg ?_;refine cl (u e) ?_;refine cd (λh2=>?_) (λh2=>?_);refine rg ?_;refine cl (hk) ?_;refine rb ab ?_;rfl;have he:e=0:=by simpa using h2
 subst he;have hpos:=a9 rfl;refine rg ?_;refine Zd (fr (I d.msgs) (λi Q=>i<=I d.msgs->(∀x∈d.msgs.take i,x.name≠nmW)->Q [(1,.d (.str s)),(3,.d (.int .u8 a)),(4,.d (.int .u8 z)),(5,.loc 5 0),(7,.loc 7 0),(11,.d (Zh B)),(13,.d (.int .i64 i))] [(5,[.str d.name,YF d.msgs,.str d.start]),(7,[.str v.name,.int .i64 v.int,Zh v.bytes,Yc v.hdrs,ZY v.parts])] st) (λn af=>?_) λbf=>?_);intro i hn hi ad;refine rx @Zod ?_;refine cd (λh3=>?_) (λh3=>?_);simp only[decide_eq_true_eq]at h3;have ba:i<I d.msgs:=ω;generalize hm:d.msgs.getD i dE=m at *;refine xA (nd2 @atM (nd2 @hm @eQ3)) ?_;refine cd (λh4=>?_) (λh4=>?_);refine rg ?_;refine cl (hk) ?_;refine rb ab ?_;rfl;refine gA ?_;refine Ze ?_;exact af ((I d.msgs)-(i+1)) ω (i+1) rfl ω (λx hx=>by
  rw[Yi ba,hm]at hx;rcases List.mem_append.1 hx with h5|h5;exact ad x h5;rw[List.mem_singleton.1 h5];simpa[nmW]using h4)
 simp only[decide_eq_false_iff_not]at h3;obtain rfl:i=I d.msgs:=ω;rw[ZH0]at ad;have bc:IntKind.i64.wrap (a:Int)=a:=Ks ω;have be:IntKind.i64.wrap (z:Int)=z:=Ks ω;have ah:=a7 rfl ad ha hz (.inl rfl) rfl rfl (λh=>by simp[mkF]at h);have au:=a8 rfl ad ha hz (.inr ⟨rfl,rfl⟩) rfl rfl (λ_=>rfl);have a3:=ZsP hI (Wk d a z (mkF [121] 8 0 0 0 s)) nmW (Ym v) (aw rfl);have ap:=ZlX hI (Wk d a z (mkF [121] 12 0 0 B.length s)) nmW (Ym v) (aw rfl);refine rh ?_;refine ZeC ?_;simp only[Eqs,reduceCtorEq,ZHC,reduceIte,ZHz,ZHE,ZHA,ZfT,ZiE,bc,be];refine Zo7 rfl rfl rfl rfl φ (by rfl) (by decide) λfl av=>ZeC ?_;simp only[Eqs,reduceCtorEq,ZHC,reduceIte,ZHz,ZHE,ZHA,ZfT,ZiE];refine KL (b:=fl) (ZHB _ _ _) (ds':=fcs a z 8 0 s) (LeC.refl _) ?_;rw[ZHO];generalize hS:st.upd fl (.cells (fcs a z 8 0 s))=S;have aj:S fl=sO (.cells (fcs a z 8 0 s)):=by rw[<-hS];exact ZHB _ _ _
 have ay:st.sub S:=by rw[<-hS];exact ZHV _ av
 refine gG ?_;refine JA (S) (.full) rfl rfl rfl rfl rfl rfl φ φ rfl (by first|trivial|assumption) ω (by (unfold big;omega)) λt1 ht1=>Zm ?_;simp only[Eqs,reduceCtorEq,ZHC,reduceIte,ZHz,ZHE,ZHA];refine JA (S) (t1) rfl rfl rfl rfl rfl rfl φ φ rfl (by first|trivial|assumption) ω (by (unfold big;omega)) λt2 ht2=>Zm ?_;simp only[Eqs,reduceCtorEq,ZHC,reduceIte,ZHz,ZHE,ZHA];refine kl (S) [(1,.d (.str s)),(3,.d (.int .u8 a)),(4,.d (.int .u8 z)),(7,.loc 7 0),(11,.d (Zh B)),(14,.d (.msl fl 0 3 3 15)),(15,.loc 15 0)] [(7,[.str v.name,.int .i64 v.int,Zh v.bytes,Yc v.hdrs,ZY v.parts]),(15,[.str d.name,ZhC d fl,.str d.start])] Qe (.skip (.cons (.cons (ZHx _) (.cons (ZyR d fl t2) (.cons (ZHx _) .nil))) .nil)) ?_;refine rg ?_;refine kl (S) [(1,.d (.str s)),(3,.d (.int .u8 a)),(4,.d (.int .u8 z)),(11,.d (Zh B)),(14,.d (.msl fl 0 3 3 15)),(15,.loc 15 0),(16,.loc 16 0)] [(15,[.str d.name,ZhC d fl,.str d.start]),(16,[.str (Ym v).name,.int .i64 (Ym v).int,Zh (Ym v).bytes,Yc (Ym v).hdrs,ZY (Ym v).parts])] Qe (.skip (.cons (ZAz v) .nil)) ?_;refine rx (nd2 @ZDo @ZtT) ?_;refine⟨λi hi=>(by cases (show i=0 from ω);exact ⟨_,rfl⟩),Zvx B,by unfold big;omega,λi hi=>(by cases (show i=0 from ω);exact ⟨_,rfl⟩),by unfold big;omega,?_⟩
 have ar:=Zzt (S:=S) (Ln:=[fl]) (λx hx=>by rw[List.mem_singleton.1 hx];exact⟨_,aj⟩) (.cons (ZV.agg (ZtZ d aj)) (.cons (ZV.refl (.str nmW)) (.cons (ZV.refl (.agg (Ym v).cells)) .nil))) a3;rw[ZHZ (Ym v)]at ar ap;generalize JG (Wk d a z (mkF [121] 8 0 0 0 s)) nmW (Ym v)=B1 at *;generalize (YV (Wk d a z (mkF [121] 8 0 0 0 s)) nmW (Ym v)).2=f1 at *;generalize JG (Wk d a z (mkF [121] 12 0 0 B.length s)) nmW (Ym v)=B2 at *;generalize (YV (Wk d a z (mkF [121] 12 0 0 B.length s)) nmW (Ym v)).2=f2 at *;refine rg ?_;refine cV (ar) ?_ ?_;rintro dd S1 ⟨dB,hr,bb,hss⟩;cases hr;refine gR0 ?_;refine kl (S) [(1,.d (.str s)),(11,.d (Zh B)),(14,.d (.msl fl 0 3 3 15)),(15,.loc 15 0),(16,.loc 16 0),(17,.d (.str (UInt8.ofNat a::(B++[UInt8.ofNat z])))),(18,.d (Zh B1)),(19,.d (.int .i64 f1))] [(15,[.str d.name,ZhC d fl,.str d.start]),(16,[.str (Ym v).name,.int .i64 (Ym v).int,Zh (Ym v).bytes,Yc (Ym v).hdrs,ZY (Ym v).parts])] (.cons (.d (ZHx _)) (.cons (.d (ZHx _)) (.cons (.d (ZHx _)) (.cons (.refl _) (.cons (.refl _) (.cons (.d (ZHx _)) (.cons (.d bb) (.cons (.d (ZHx _)) .nil)))))))) ZaB ?_;refine rg ?_;refine cl (u f1) ?_;refine cd (λh5=>?_) (λh5=>?_);have h6:f1=2:=by rcases ah with ⟨h6,_⟩|⟨h6,_⟩;rw[h6]at h5;simp at h5;exact h6
 subst h6;refine rg ?_;refine cl (u 2) ?_;refine cG (hk) ?_;refine rb ab ?_;rfl;have h6:f1=0:=by simpa using h5
 subst h6;obtain⟨_,az⟩:=ah.resolve_right λh=>by simp at h
 have ao:∀X:List UInt8,X=[UInt8.ofNat a]++B++[UInt8.ofNat z]->X=UInt8.ofNat a::(B++[UInt8.ofNat z]):=λX h=>by rw[h];simp
 obtain rfl:=ao _ az;refine rx (nd2 @aj @Zwk) ?_;refine⟨by decide,by decide,Nat.le_of_ble_eq_true rfl,?_⟩;refine KL (b:=fl) (ZHB _ _ _) (ds':=fcs a z 12 B.length s) (LeC.refl _) ?_;rw[ZHO];generalize aq:S.upd fl (.cells (fcs a z 12 B.length s))=S2;have ag:S2 fl=sO (.cells (fcs a z 12 B.length s)):=by rw[<-aq];exact ZHB _ _ _
 have hstS2:st.sub (S2.delL [fl]):=λy o hy=>by
  have ax:y≠fl:=λe=>by rw[e,av]at hy;cases hy
  rw[<-aq,ZBc ax,ZHD _ _ ax];exact ay y o hy
 have a5:=Za.giveL (t:=S2) (Ln:=[fl]) (λx hx=>by rw[List.mem_singleton.1 hx];exact⟨_,ag⟩) (.cons (ZV.agg (ZtZ d ag)) (.cons (ZV.refl (.str nmW)) (.cons (ZV.refl (.agg [.str (Ym v).name,.int .i64 (Ym v).int,Zh (Ym v).bytes,Yc (Ym v).hdrs,ZY (Ym v).parts])) .nil))) (ap (S2.delL [fl]));refine rg ?_;refine cV (a5) ?_ ?_;rintro dd S3 ⟨hr,a4⟩;obtain rfl:=a4.symm;cases hr;refine gR0 ?_;have am:=Zvx (UInt8.ofNat a::(B++[UInt8.ofNat z]));rcases au with ⟨h7,a0⟩|⟨h7,_⟩;subst h7;obtain rfl:=ao _ a0;refine rx @ZtT ?_;refine⟨am,?_⟩;refine cG (u 0) ?_;refine Zi2 rfl rfl rfl rfl rfl (λa6=>⟨by first|trivial|(simpa[Zgl]using a6),trivial,u 0⟩) (Zm ?_);simp only[Eqs,reduceCtorEq,ZHC,reduceIte,ZHz,ZHE,ZHA,ZtT];refine⟨λ_=>am,?_⟩;rw[show(dC ((0:Int)=2) ||true)=true from rfl];refine cG (hk) ?_;refine rb ab ?_;rfl;subst h7;refine rx @ZtT ?_;refine⟨am,?_⟩;refine cG (u 2) ?_;refine JB rfl (e:=.d (.int .i64 0)) (Zm ?_);simp only[Eqs,reduceCtorEq,ZHC,reduceIte,ZHz,ZHE,ZHA,ZtT];refine cG (hk) ?_;refine rb ab ?_;rfl;rintro dd S3 ⟨hr,_⟩;cases hr;rintro dd S1 ⟨_,hr,_⟩;cases hr;exact bf _ 0 rfl ω ψ;rintro dd S ⟨_,b,hr,_⟩;cases hr
end Go.DL
namespace Go.DL
open Go
variable [Zsc]
variable {kp:Option (List Nat)}{L:Loc}{H:Env}{s:St}{w:World}{os:List DOp}{ds:List D}{B:List (Nat × Rd)}{dst:Option Nat}{tmps:Array Value}{g:G}{Φ:Res->St->Prop}{Z:Nat->Nat}{xs:List Opd}{side:Prop}{row:Nat->List D}
inductive V where
 |int (k:IntKind) (n:Int)
 |bool (b:Bool)
 |str (s:List Nat)
 |agg (cs:List V)
 |tup (vs:List V)
 |nilsl
 |sl (t n s:Nat) (rows:List V)
 |ep (cs:List V) (off:Nat)
 |nilptr
 |ptr (b off:Nat)
 |msl (b off n:Nat) (cap:Option Nat) (s:Nat)
 |map (b:Nat)
 |nilmap
 |fn (f:FuncId) (first caps:List V)
 |yield (l:Nat)
 |nilfn
 |iface (t:TypeId) (v:V)
 |niliface
 |stamp (n:Nat)
abbrev V.i(n:Int):V:=.int .i64 n
def J2{α:Type}(a:α):Option (List α)->Option (List α)
 |some l=>sO (a::l)
 |none=>nO
def KG{α a}{x:Option (List α)}{r:List α}(h:J2 a x=sO r):∃q,x=sO q/\r=a::q:=by
 cases x with
 |none=>cases h
 |some q=>simp[J2]at h;exact⟨q,rfl,h.symm⟩
def Zpj{α:Type}(n:Nat)(x y:List α):List α :=
 Nat.rec (motive:=λ_=>List α->List α) (λ_=>y) (λ_ ih l=>match l with
  | []=>y
  |a::t=>a::ih t) n x
def Zg6{α}:∀{n} {x y:List α},I x=n->Zpj n x y=x++y
 |0,[],y,_=>rfl
 |0,a::x,y,h=>by grind
 |n+1,[],y,h=>by grind
 |n+1,a::x,y,h=>congrArg (a::·) (Zg6 (n:=n) (x:=x) (y:=y) (by grind))
def Zh9{α:Type}(n:Nat):List α->Option α :=
 Nat.rec (motive:=λ_=>List α->Option α) (λl=>match l with
  | []=>nO
  |a::_=>sO a) (λ_ ih l=>match l with
  | []=>nO
  |_::t=>ih t) n
def Zk5{α}:∀(n) (l:List α),Zh9 n l=l[n]?
 |0,[]=>rfl
 |0,a::l=>rfl
 |n+1,[]=>rfl
 |n+1,a::l=>(Zk5 n l).trans ψ
def Zbq{α:Type}(n:Nat):List α->List α :=
 Nat.rec (motive:=λ_=>List α->List α) (λl=>l) (λ_ ih l=>match l with
  | []=>[]
  |_::t=>ih t) n
def Jr{α}:∀(n) (l:List α),Zbq n l=l.drop n
 |0,l=>rfl
 |n+1,[]=>rfl
 |n+1,a::l=>(Jr n l).trans ψ
def Za6{α:Type}(n:Nat):List α->Option (List α) :=
 Nat.rec (motive:=λ_=>List α->Option (List α)) (λ_=>sO []) (λ_ ih l=>match l with
  | []=>nO
  |a::t=>J2 a (ih t)) n
def J9{α}:∀{n} {l r:List α},Za6 n l=sO r->n<=I l/\r=l.take n
 |0,l,r,h=>by have i:sO []=sO r:=h;grind
 |n+1,[],r,h=>by have i:(nO:Option (List α))=sO r:=h;simp at i
 |n+1,a::l,r,h=>by obtain⟨q,t,rfl⟩:=KG (show J2 a (Za6 n l)=sO r from h);obtain⟨h1,h2⟩:=J9 t;grind
def ZrP{α:Type}(o n:Nat)(l:List α):Option (List α):=match Nat.ble 1 n with
 |true=>Za6 n (Zbq o l)
 |false=>nO
def Zz4{α o n}{l r:List α}(h:ZrP o n l=sO r):o+n<=I l/\r=(l.drop o).take n:=by
 unfold ZrP at h;split at h;rename_i i;rw[Nat.ble_eq]at i;rw[Jr]at h;obtain⟨h1,h2⟩:=J9 h;grind;grind
def Zwu{α:Type}(n:Nat):List α->List α->Option (List α) :=
 Nat.rec (motive:=λ_=>List α->List α->Option (List α)) (λxs l=>match xs with
  | []=>sO l
  |_::_=>nO) (λ_ ih xs l=>match xs with
  | []=>nO
  |x::xs=>match l with
   | []=>nO
   |_::t=>J2 x (ih xs t)) n
def Zku{α:Type}(o n:Nat)(xs:List α):List α->Option (List α) :=
 Nat.rec (motive:=λ_=>List α->Option (List α)) (λl=>Zwu n xs l) (λ_ ih l=>match l with
  | []=>nO
  |a::t=>J2 a (ih t)) o
def Ztt{α}:∀{n} {xs l r:List α},Zwu n xs l=sO r->I xs=n/\n<=I l/\r=xs++l.drop n
 |0,[],l,r,h=>by have i:sO l=sO r:=h;simp_all
 |0,x::xs,l,r,h=>by have i:(nO:Option (List α))=sO r:=h;simp at i
 |n+1,[],l,r,h=>by have i:(nO:Option (List α))=sO r:=h;simp at i
 |n+1,x::xs,[],r,h=>by have i:(nO:Option (List α))=sO r:=h;simp at i
 |n+1,x::xs,a::l,r,h=>by obtain⟨q,hx,rfl⟩:=KG (show J2 x (Zwu n xs l)=sO r from h);obtain⟨t,u,h3⟩:=Ztt hx;subst h3;simp[t,u]
def ZpN{α}:∀{o n} {xs l r:List α},Zku o n xs l=sO r->I xs=n/\o+n<=I l/\r=l.take o++xs++l.drop (o+n)
 |0,n,xs,l,r,h=>by obtain⟨t,u,h3⟩:=Ztt (n:=n) (xs:=xs) (l:=l) (r:=r) h;grind
 |o+1,n,xs,[],r,h=>by have i:(nO:Option (List α))=sO r:=h;simp at i
 |o+1,n,xs,a::l,r,h=>by obtain⟨q,hx,rfl⟩:=KG (show J2 a (Zku o n xs l)=sO r from h);obtain⟨t,u,h3⟩:=ZpN hx;grind
structure Bx(α:Type) where
 run:α
structure N8(α:Type) where
 a:α
 b:α
 c:α
 d:α
 e:α
 f:α
 g:α
 h:α
def N8.all{α:Type}(x:α):N8 α:=⟨x,x,x,x,x,x,x,x⟩
def ZbB{α:Type}:Nat->Bx (N8 α->α)
 |0=>⟨λt=>t.a⟩
 |1=>⟨λt=>t.b⟩
 |2=>⟨λt=>t.c⟩
 |3=>⟨λt=>t.d⟩
 |4=>⟨λt=>t.e⟩
 |5=>⟨λt=>t.f⟩
 |6=>⟨λt=>t.g⟩
 |_=>⟨λt=>t.h⟩
def Zj1{α:Type}:Nat->Bx ((α->α)->N8 α->N8 α)
 |0=>⟨λu t=>N8.casesOn t λa b c d e f g h=>⟨u a,b,c,d,e,f,g,h⟩⟩
 |1=>⟨λu t=>N8.casesOn t λa b c d e f g h=>⟨a,u b,c,d,e,f,g,h⟩⟩
 |2=>⟨λu t=>N8.casesOn t λa b c d e f g h=>⟨a,b,u c,d,e,f,g,h⟩⟩
 |3=>⟨λu t=>N8.casesOn t λa b c d e f g h=>⟨a,b,c,u d,e,f,g,h⟩⟩
 |4=>⟨λu t=>N8.casesOn t λa b c d e f g h=>⟨a,b,c,d,u e,f,g,h⟩⟩
 |5=>⟨λu t=>N8.casesOn t λa b c d e f g h=>⟨a,b,c,d,e,u f,g,h⟩⟩
 |6=>⟨λu t=>N8.casesOn t λa b c d e f g h=>⟨a,b,c,d,e,f,u g,h⟩⟩
 |_=>⟨λu t=>N8.casesOn t λa b c d e f g h=>⟨a,b,c,d,e,f,g,u h⟩⟩
abbrev T(α:Type):=N8 (N8 (N8 (N8 (N8 (Option α)))))
def T.nil{α:Type}:T α:=N8.all (N8.all (N8.all (N8.all (N8.all nO))))
def T.getF{α:Type}(k:Nat):Bx (T α->Option α) :=
 match Nat.blt k 32768 with
 |true=>⟨λt=>(ZbB (Nat.mod k 8)).run ((ZbB (Nat.mod (Nat.div k 8) 8)).run ((ZbB (Nat.mod (Nat.div k 64) 8)).run ((ZbB (Nat.mod (Nat.div k 512) 8)).run ((ZbB (Nat.mod (Nat.div k 4096) 8)).run t))))⟩
 |false=>⟨λ_=>nO⟩
def T.setF{α:Type}(k:Nat):Bx (Option α->T α->T α) :=
 match Nat.blt k 32768 with
 |true=>⟨λx=>(Zj1 (Nat.mod (Nat.div k 4096) 8)).run ((Zj1 (Nat.mod (Nat.div k 512) 8)).run ((Zj1 (Nat.mod (Nat.div k 64) 8)).run ((Zj1 (Nat.mod (Nat.div k 8) 8)).run ((Zj1 (Nat.mod k 8)).run λ_=>x))))⟩
 |false=>⟨λ_ t=>t⟩
def T.get{α:Type}(t:T α)(k:Nat):Option α:=(T.getF k).run t
def T.set{α:Type}(x:Option α)(t:T α)(k:Nat):T α:=(T.setF k).run x t
def ZBd{α u}{t:N8 α}:∀{i j:Nat},i<8->j<8->(ZbB i).run ((Zj1 j).run u t)=if i=j then u ((ZbB i).run t) else (ZbB i).run t:=by
 intro i j hi hj;have ab:∀i:Fin 8,∀j:Fin 8,(ZbB i.val).run ((Zj1 j.val).run u t)=if i.val=j.val then u ((ZbB i.val).run t) else (ZbB i.val).run t:=by intro i j;rcases i with _|_|_|_|_|_|_|_|i<;>(try omega)<;>rcases j with _|_|_|_|_|_|_|_|j<;>(try omega)<;>rfl
 exact ab ⟨i,hi⟩ ⟨j,hj⟩
def T.get_set{α}{x}{a}{t:T α}{k k'}(h:(t.set x k).get k'=sO a):(k'=k/\x=sO a)\/(k'≠k/\t.get k'=sO a):=by
 unfold T.get at h⊢;cases hb:Nat.blt k' 32768 with
 |false=>simp[T.getF,hb]at h
 |true =>
 have i:=hb;simp at i;unfold T.set T.setF at h;split at h;rename_i hk;simp at hk;have m (n:Nat):Nat.mod n 8<8:=Nat.mod_lt _ ω;have dp:∀{β:Type} {u:β->β} {t:N8 β} (n n':Nat),(ZbB (Nat.mod n 8)).run ((Zj1 (Nat.mod n' 8)).run u t)=if Nat.mod n 8=Nat.mod n' 8 then u ((ZbB (Nat.mod n 8)).run t) else (ZbB (Nat.mod n 8)).run t:=λn n'=>ZBd (m n) (m n')
 simp[T.getF,hb]at h⊢;rw[dp]at h;by_cases h5:Nat.mod (Nat.div k' 4096) 8=Nat.mod (Nat.div k 4096) 8;rw[if_pos h5,dp]at h;by_cases h4:Nat.mod (Nat.div k' 512) 8=Nat.mod (Nat.div k 512) 8;rw[if_pos h4,dp]at h;by_cases h3:Nat.mod (Nat.div k' 64) 8=Nat.mod (Nat.div k 64) 8;rw[if_pos h3,dp]at h;by_cases h2:Nat.mod (Nat.div k' 8) 8=Nat.mod (Nat.div k 8) 8;rw[if_pos h2,dp]at h;by_cases h1:Nat.mod k' 8=Nat.mod k 8;rw[if_pos h1]at h;refine .inl ⟨?_,h⟩;have e1 (a b:Nat):Nat.mod a b=a % b:=rfl;have e2 (a b:Nat):Nat.div a b=a / b:=rfl;simp[e1,e2]at h1 h2 h3 h4 h5;omega;rw[if_neg h1]at h;exact .inr ⟨λe=>h1 (by rw[e]),h⟩;rw[if_neg h2]at h;exact .inr ⟨λe=>h2 (by rw[e]),h⟩;rw[if_neg h3]at h;exact .inr ⟨λe=>h3 (by rw[e]),h⟩;rw[if_neg h4]at h;exact .inr ⟨λe=>h4 (by rw[e]),h⟩;rw[if_neg h5]at h;exact .inr ⟨λe=>h5 (by rw[e]),h⟩;by_cases e:k'=k;simp_all;exact .inr ⟨e,h⟩
def T.get_nil{α k}:(T.nil:T α).get k=nO:=by
 have this:∀{β:Type} (x:β) (n:Nat),(ZbB n).run (N8.all x)=x:=λx n=>by rcases n with _|_|_|_|_|_|_|n<;>rfl
 unfold T.get T.getF;split;simp[T.nil,this];rfl
mutual
def ofD:D->Option V
 |.int k n=>sO (.int k n)
 |.bool b=>sO (.bool b)
 |.str s=>sO (.str (s.map UInt8.toNat))
 |.agg cs=>(ofDs cs).map .agg
 |.nilsl=>sO .nilsl
 |.nilptr=>sO .nilptr
 |.nilmap=>sO .nilmap
 |.fn (.func f) [] []=>sO (.fn f [] [])
 |.nilfn=>sO .nilfn
 |.niliface=>sO .niliface
 |.ep cs o=>(ofDs cs).map (.ep · o)
 |_=>nO
def ofDs:List D->Option (List V)
 | []=>sO []
 |d::r=>match ofD d,ofDs r with
  |some v,sO vs=>sO (v::vs)
  |_,_=>nO
end
def leI:Int->Int->Bool
 |.ofNat a,b=>match b with
  |.ofNat b=>Nat.ble a b
  |.negSucc _=>false
 |.negSucc a,b=>match b with
  |.ofNat _=>true
  |.negSucc b=>Nat.ble b a
def eqI:Int->Int->Bool
 |.ofNat a,b=>match b with
  |.ofNat b=>Nat.beq a b
  |.negSucc _=>false
 |.negSucc a,b=>match b with
  |.ofNat _=>false
  |.negSucc b=>Nat.beq a b
def Zhj(a b):leI a b=dC (a<=b):=by
 rw[Bool.eq_iff_iff,decide_eq_true_eq];cases a<;>cases b<;>simp[leI]<;>omega
def Zjx(a b):eqI a b=dC (a=b):=by
 rw[Bool.eq_iff_iff,decide_eq_true_eq];cases a<;>cases b<;>simp[eqI]<;>omega
def ZAx:IntKind->Nat
 |.i8=>127|.i16=>32767|.i32=>2147483647|.i64=>9223372036854775807
 |.u8=>255|.u16=>65535|.u32=>4294967295|.u64=>18446744073709551615
def Zwh(k:IntKind):Int->Bool
 |.ofNat n=>Nat.ble n (ZAx k)
 |.negSucc n=>k.signed&&Nat.ble n (ZAx k)
def Zu8{k n}(h:Zwh k n=true):inR k n:=by
 cases n<;>cases k<;>simp only[Zwh,ZAx,Nat.ble_eq,IntKind.signed,ZH8,ZHX,ZH5]at h <;>
  simp[inR,IntKind.min,IntKind.max,IntKind.signed,IntKind.bits]<;>omega
def ZgE(k:IntKind)(n:Int):Option V:=match Zwh k n with
 |true=>sO (.int k n)
 |false=>nO
def Zwi:IntKind->Nat
 |.i8=>0|.i16=>1|.i32=>2|.i64=>3|.u8=>4|.u16=>5|.u32=>6|.u64=>7
def Zf2(k k':IntKind):Bool:=Nat.beq (Zwi k) (Zwi k')
def Zfa{k k'}(h:Zf2 k k'=true):k=k':=by
 cases k<;>cases k'<;>first|rfl|(simp[Zf2,Zwi]at h)
def ZAc(op:BinOp):IntKind->Int->Int->Option V :=
 match op with
 |.add=>λk a b=>ZgE k (Int.add a b)
 |.sub=>λk a b=>ZgE k (Int.sub a b)
 |.mul=>λk a b=>ZgE k (Int.mul a b)
 |.quo=>λk a b=>match eqI b 0 with
  |true=>nO
  |false=>ZgE k (a.tdiv b)
 |.rem=>λk a b=>match eqI b 0 with
  |true=>nO
  |false=>ZgE k (a.tmod b)
 |.and=>λk a b=>sO (.int k (Qf .and k a b))
 |.or=>λk a b=>sO (.int k (Qf .or k a b))
 |.xor=>λk a b=>sO (.int k (Qf .xor k a b))
 |.andNot=>λk a b=>sO (.int k (Qf .andNot k a b))
 |.eql=>λ_ a b=>sO (.bool (eqI a b))
 |.neq=>λ_ a b=>sO (.bool (!eqI a b))
 |.lss=>λ_ a b=>sO (.bool (!leI b a))
 |.leq=>λ_ a b=>sO (.bool (leI a b))
 |.gtr=>λ_ a b=>sO (.bool (!leI a b))
 |.geq=>λ_ a b=>sO (.bool (leI b a))
 |.shl=>λk a b=>match leI 0 b with
  |true=>ZgE k (J8 k a b)
  |false=>nO
 |.shr=>λk a b=>match leI 0 b with
  |true=>ZgE k (QE k a b)
  |false=>nO
def eqS:List Nat->List Nat->Bool
 | [],[]=>true
 |a::x,b::y=>if Nat.beq (a % 256) (b % 256) then eqS x y else false
 |_,_=>false
def Zds:List Nat->List Nat->Bool
 |_,[]=>false
 | [],_::_=>true
 |a::x,b::y=>if Nat.blt (a % 256) (b % 256) then true else if Nat.beq (a % 256) (b % 256) then Zds x y else false
def ZAd(op:BinOp):List Nat->List Nat->Option V :=
 match op with
 |.add=>λa b=>match Nat.ble (I a+I b) big with
  |true=>sO (.str (a++b))
  |false=>nO
 |.eql=>λa b=>sO (.bool (eqS a b))
 |.neq=>λa b=>sO (.bool (!eqS a b))
 |.lss=>λa b=>sO (.bool (Zds a b))
 |.leq=>λa b=>sO (.bool (Zds a b ||eqS a b))
 |.gtr=>λa b=>sO (.bool (!(Zds a b ||eqS a b)))
 |.geq=>λa b=>sO (.bool (!Zds a b))
 |_=>λ_ _=>nO
def Zlm:SK->V->V->Option Bool
 |.int,.int k a,.int k' b=>if Zf2 k k' then sO (eqI a b) else nO
 |.str,.str a,.str b=>sO (eqS a b)
 |.bool,.bool a,.bool b=>sO (dC (a=b))
 |_,_,_=>nO
def Zg8(xs ys:List V):List (Nat×SK)->Option Bool
 | []=>sO true
 | (o,k)::r=>match xs[o]?,ys[o]? with
  |some x,sO y=>match Zlm k x y,Zg8 xs ys r with
   |some b,sO c=>sO (b&&c)
   |_,_=>nO
  |_,_=>nO
def Zd0:KP->V->V->Option Bool
 |.sc k,x,y=>Zlm k x y
 |.st l,.agg xs,.agg ys=>if (I xs)=I l/\I ys=I l then Zg8 xs ys l else nO
 |_,_,_=>nO
def ZrQ:ZeR->V->V->Option Bool
 |.bool,.bool a,.bool b=>sO (dC (a=b))
 |.sl,.nilsl,.nilsl=>sO true
 |.sl,.sl _ n _ _,.nilsl=>if 0<n then sO false else nO
 |.sl,.msl _ _ _ _ _,.nilsl=>sO false
 |.map,.nilmap,.nilmap=>sO true
 |.map,.map _,.nilmap=>sO false
 |.fn,.nilfn,.nilfn=>sO true
 |.fn,.fn _ _ _,.nilfn=>sO false
 |.fn,.yield _,.nilfn=>sO false
 |.ifc,.niliface,.niliface=>sO true
 |.ifc,.iface _ _,.niliface=>sO false
 |.ptr,.nilptr,.nilptr=>sO true
 |.ptr,.ptr _ _,.nilptr=>sO false
 |.ptr,.ep _ _,.nilptr=>sO false
 |.cells l,.agg xs,.agg ys=>Zg8 xs ys l
 |_,_,_=>nO
def ZtK:BinOp->Bool
 |.shl|.shr=>true
 |_=>false
def ZtE(op:BinOp)(p:Option ZeR):V->V->Option V :=
 match p with
 |none=>λ_ _=>nO
 |some p=>match op with
  |.eql=>λx y=>match ZrQ p x y with
   |some b=>sO (.bool b)
   |none=>nO
  |.neq=>λx y=>match ZrQ p x y with
   |some b=>sO (.bool (!b))
   |none=>nO
  |_=>λ_ _=>nO
def ZtD(op:BinOp)(p:Option ZeR)(x y:V):Option V :=
 match x with
 |.int k a=>match y with
  |.int k' b=>match ZtK op ||Zf2 k k' with
   |true=>ZAc op k a b
   |false=>nO
  |_=>nO
 |.str a=>match y with
  |.str b=>ZAd op a b
  |_=>nO
 |x=>ZtE op p x y
inductive W where
 |v (x:V)
 |loc (l off:Nat)
 |skip
inductive O where
 |cells (vs:List V)
 |buf (vs:List V)
 |map (es:List (V×V))
 |tok (k:Nat)
 |mapE (kp:KP) (es:List (V×V)) (k:V) (n:Nat)
 |loop (f:FuncId) (n:Nat) (ps:List Nat) (a b:DC) (H:T W) (st:Option DC) (busy:Bool)
 |dfr
 |ro (o:O)
abbrev S:=T O
def cellsO:O->Option (List V)
 |.cells vs=>sO vs
 |.buf vs=>sO vs
 |.ro o=>match o with
  |.cells vs=>sO vs
  |.buf vs=>sO vs
  |_=>nO
 |_=>nO
def ZaP:Option O->Option (List V)
 |some o=>cellsO o
 |none=>nO
def mapO:Option O->Option (List (V×V))
 |some o=>match o with
  |.map es=>sO es
  |.ro o=>match o with
   |.map es=>sO es
   |_=>nO
  |_=>nO
 |none=>nO
def ZbE:O->Bool
 |.ro _=>true
 |_=>false
def ZnW(kp:KP)(k:V):List (V×V)->Option (Option V)
 | []=>sO nO
 |e::r=>match Zd0 kp k e.1 with
  |some true=>sO (sO e.2)
  |some false=>ZnW kp k r
  |none=>nO
def Zp2(kp:KP)(k v:V):List (V×V)->Option (List (V×V))
 | []=>sO [(k,v)]
 |e::r=>match Zd0 kp k e.1 with
  |some true=>sO ((k,v)::r)
  |some false=>(Zp2 kp k v r).map (e::·)
  |none=>nO
def ZsL(kp:KP)(k:V):List (V×V)->Option (List (V×V))
 | []=>sO []
 |e::r=>match Zd0 kp k e.1 with
  |some true=>sO r
  |some false=>(ZsL kp k r).map (e::·)
  |none=>nO
def ZsS(kp:KP)(k z:V):List (V×V)->Option V
 | []=>sO z
 |e::r=>match Zd0 kp k e.1 with
  |some true=>sO e.2
  |some false=>ZsS kp k z r
  |none=>nO
def ZrM(z:V)(ok:Bool):Option V->V
 |some v=>if ok then .tup [v,.bool true] else v
 |none=>if ok then .tup [z,.bool false] else z
def ZfD:V->List V
 |.agg cs=>cs
 |v=>[v]
def ZoX:V->Bool
 |.tup _=>false
 |_=>true
def Zw0:V->Bool
 |.tup _|.agg _=>false
 |_=>true
def ZrI(cells:List V):List (Nat×Nat)->List V->Option (List V)
 | [],[]=>sO cells
 | (o,n)::ps,d::ds=>if ZoX d then match Zku o n (ZfD d) cells with
  |some cs=>ZrI cs ps ds
  |none=>nO
  else nO
 |_,_=>nO
def ZwH(s n:Nat):List V->Option (List V) :=
 Nat.rec (motive:=λ_=>List V->Option (List V)) (λ_=>sO []) (λ_ ih l=>match Za6 s l with
  |some r=>J2 (.agg r) (ih (Zbq s l))
  |none=>nO) n
def ZnY(s:Nat)(n:Nat):List V->Option (List V) :=
 Nat.rec (motive:=λ_=>List V->Option (List V)) (λ_=>sO []) (λ_ ih l=>match l with
  |.agg cs::t=>match ih t with
   |some r=>sO (Zpj s cs r)
   |none=>nO
  |_=>nO) n
def Znw:List V->Option (List Nat)
 | []=>sO []
 |.int .u8 n::r=>J2 n.toNat (Znw r)
 |_::_=>nO
def Zsp:List V->Option (List Nat)
 | []=>sO []
 |.agg [.int .u8 n]::r=>J2 n.toNat (Zsp r)
 |_::_=>nO
def J5:List Bool->List V->Option (List (Option Int))
 | [],[]=>sO []
 |true::bs,.int _ n::r=>(J5 bs r).map (sO n::·)
 |false::bs,r=>(J5 bs r).map (nO::·)
 |_,_=>nO
def ZwW(t n:Nat)(l h:Int):Option Int->Nat
 |some m=>if eqI m h then 1 else 0
 |none=>if eqI h n then (if Nat.beq t 1 then 1 else if eqI l 0 then t else 0) else 0
def ZCI(h:Int)(n:Nat):Option Int->Bool
 |some m=>leI h m&&leI m n
 |none=>true
def ZtM(s:Nat)(lo hi mx:Option Int):V->Option V
 |.sl t n s' rs =>
  if Nat.beq s' s&&leI 0 (lo.getD 0)&&leI (lo.getD 0) (hi.getD n)&&leI (hi.getD n) n&&ZCI (hi.getD n) n mx then
   match Za6 (Int.sub (hi.getD n) (lo.getD 0)).toNat (Zbq (lo.getD 0).toNat rs) with
   |some r=>sO (.sl (ZwW t n (lo.getD 0) (hi.getD n) mx) (Int.sub (hi.getD n) (lo.getD 0)).toNat s r)
   |none=>nO
  else nO
 |.nilsl=>if eqI (lo.getD 0) 0&&eqI (hi.getD 0) 0&&eqI (mx.getD 0) 0 then sO .nilsl else nO
 |.msl b o n cap s' =>
  if Nat.beq s' s&&leI 0 (lo.getD 0)&&leI (lo.getD 0) (hi.getD n) then match cap with
   |some cap=>if leI (hi.getD n) (mx.getD cap)&&leI (mx.getD cap) cap then
     sO (.msl b (if eqI (mx.getD cap) (lo.getD 0) then o else o+(lo.getD 0).toNat*s) (Int.sub (hi.getD n) (lo.getD 0)).toNat (sO (Int.sub (mx.getD cap) (lo.getD 0)).toNat) s) else nO
   |none=>if leI (hi.getD n) n&&(eqI (lo.getD 0) 0||!leI n (lo.getD 0)) then match mx with
    |none=>sO (.msl b (o+(lo.getD 0).toNat*s) (Int.sub (hi.getD n) (lo.getD 0)).toNat nO s)
    |some m=>if leI (hi.getD n) m&&leI m n then sO (.msl b (if eqI m (lo.getD 0) then o else o+(lo.getD 0).toNat*s) (Int.sub (hi.getD n) (lo.getD 0)).toNat (sO (Int.sub m (lo.getD 0)).toNat) s) else nO
    else nO
  else nO
 |_=>nO
def a1(vs:List V)(f:V->Option V):Option V:=match vs with
 | [x]=>f x
 |_=>nO
def a2(vs:List V)(f:V->V->Option V):Option V:=match vs with
 | [x,y]=>f x y
 |_=>nO
def ZkK(cs:List V)(o n:Nat):Option V:=match ZrP o n cs with
 |some r=>sO (.agg r)
 |none=>nO
def Zje(U:S)(b:Nat)(f:List V->Option V):Option V:=match ZaP (U.get b) with
 |some cs=>f cs
 |none=>nO
def ZfX(i:Int)(n:Nat)(r:Option V):Option V:=if leI 0 i&&!leI n i then r else nO
def noV{α:Type}(b:Bool)(r:Option α):Option α:=if b then r else nO
def qV:Q->S->List V->Option V
 |.mv=>λ_ vs=>a1 vs sO
 |.nilck=>λ_ vs=>a1 vs λx=>match x with
  |.ep _ _=>sO x
  |.ptr _ _=>sO x
  |.fn _ _ _=>sO x
  |.yield _=>sO x
  |_=>nO
 |.load1=>λU vs=>a1 vs λa=>match a with
  |.ep cs o=>Zh9 o cs
  |.ptr b o=>Zje U b λcs=>Zh9 o cs
  |_=>nO
 |.loadN n=>λU vs=>a1 vs λa=>match a with
  |.ep cs o=>ZkK cs o n
  |.ptr b o=>Zje U b λcs=>ZkK cs o n
  |_=>nO
 |.bin op p=>λ_ vs=>a2 vs (ZtD op p)
 |.not=>λ_ vs=>a1 vs λx=>match x with
  |.bool b=>sO (.bool !b)
  |_=>nO
 |.neg=>λ_ vs=>a1 vs λx=>match x with
  |.int k n=>ZgE k (Int.neg n)
  |_=>nO
 |.xorm=>λ_ vs=>a1 vs λx=>match x with
  |.int k n=>sO (.int k (Qf .xor k (if k.signed then -1 else k.max) n))
  |_=>nO
 |.conv c=>match c with
  |.int k=>λ_ vs=>a1 vs λx=>match x with
   |.int k' n=>sO (if k=k' then .int k n else .int k (k.wrap n))
   |_=>nO
  |.str=>λ_ vs=>a1 vs λx=>match x with
   |.str s=>sO (.str s)
   |_=>nO
  |.i2s=>λ_ vs=>a1 vs λx=>match x with
   |.int _ n=>noV (Nat.ble (Utf8.encode n).data.toList.length big) (sO (.str ((Utf8.encode n).data.toList.map UInt8.toNat)))
   |_=>nO
  |.b2s=>λU vs=>a1 vs λx=>match x with
   |.nilsl=>sO (.str [])
   |.sl _ _ s rs=>noV (Nat.beq s 1) ((Zsp rs).map .str)
   |.msl b o n _ s=>noV (Nat.beq s 1) (Zje U b λcs=>noV (Nat.ble (o+n) (I cs)) (match Za6 n (Zbq o cs) with
    |some r=>(Znw r).map .str
    |none=>nO))
   |_=>nO
 |.faddr off=>λ_ vs=>a1 vs λx=>match x with
  |.ep cs o=>sO (.ep cs (o+off))
  |.ptr b o=>sO (.ptr b (o+off))
  |_=>nO
 |.fld1 off=>λ_ vs=>a1 vs λx=>match x with
  |.agg cs=>Zh9 off cs
  |_=>nO
 |.fldN off n=>λ_ vs=>a1 vs λx=>match x with
  |.agg cs=>ZkK cs off n
  |_=>nO
 |.iaddr z=>λ_ vs=>a2 vs λx y=>match y with
  |.int _ i=>match x with
   |.sl _ n z' rs=>noV (Nat.beq z' z) (ZfX i n (match Zh9 i.toNat rs with
    |some (.agg cs)=>sO (.ep cs 0)
    |_=>nO))
   |.msl b o n _ z'=>noV (Nat.beq z' z) (ZfX i n (sO (.ptr b (o+i.toNat*z))))
   |_=>nO
  |_=>nO
 |.iaddrA m z=>λ_ vs=>a2 vs λx y=>match y with
  |.int _ i=>match x with
   |.ptr b o=>ZfX i m (sO (.ptr b (o+i.toNat*z)))
   |.ep cs o=>ZfX i m (sO (.ep cs (o+i.toNat*z)))
   |_=>nO
  |_=>nO
 |.idxA m z one=>λ_ vs=>a2 vs λx y=>match y with
  |.int _ i=>match x with
   |.agg cs=>ZfX i m (if one then Zh9 (i.toNat*z) cs else ZkK cs (i.toNat*z) z)
   |_=>nO
  |_=>nO
 |.sliceA m z lo hi mx=>λ_ vs=>match vs with
  |.ptr b o::r=>match J5 [lo,hi,mx] r with
   |some [l,h,x]=>noV (leI 0 (l.getD 0)&&leI (l.getD 0) (h.getD m)&&leI (h.getD m) (x.getD m)&&leI (x.getD m) m&&Nat.ble m big)
     (sO (.msl b (if eqI (x.getD m) (l.getD 0) then o else o+(l.getD 0).toNat*z) (Int.sub (h.getD m) (l.getD 0)).toNat (sO (Int.sub (x.getD m) (l.getD 0)).toNat) z))
   |_=>nO
  |_=>nO
 |.idxS=>λ_ vs=>a2 vs λx y=>match y with
  |.int _ i=>match x with
   |.str s=>ZfX i (I s) (sO (.int .u8 (Int.ofNat (s.getD i.toNat 0 % 256))))
   |_=>nO
  |_=>nO
 |.lenS=>λ_ vs=>a1 vs λx=>match x with
  |.str s=>sO (.i (Int.ofNat (I s)))
  |_=>nO
 |.lenL=>λ_ vs=>a1 vs λx=>match x with
  |.sl _ n _ _=>sO (.i (Int.ofNat n))
  |.msl _ _ n _ _=>sO (.i (Int.ofNat n))
  |.nilsl=>sO (.i (Int.ofNat 0))
  |_=>nO
 |.lenA n=>λ_ vs=>a1 vs λ_=>noV (Nat.ble n big) (sO (.i (Int.ofNat n)))
 |.ext k=>λ_ vs=>a1 vs λx=>match x with
  |.tup vs=>Zh9 k vs
  |_=>nO
 |.build zero parts=>match ofDs zero with
  |some z=>λ_ es=>(ZrI z parts es).map .agg
  |none=>λ_ _=>nO
 |.mkfn f k=>match f with
  |.func f=>λ_ es=>sO (.fn f (es.take k) (es.drop k))
  |_=>λ_ _=>nO
 |.mkif t=>λ_ vs=>a1 vs λx=>sO (.iface t x)
 |.sliceS lo hi=>λ_ vs=>match vs with
  |.str s::r=>match J5 [lo,hi,false] r with
   |some [l,h,_]=>noV (leI 0 (l.getD 0)&&leI (l.getD 0) (h.getD (I s))&&leI (h.getD (I s)) (I s))
     (sO (.str ((s.drop (l.getD 0).toNat).take ((h.getD (I s)).toNat-(l.getD 0).toNat))))
   |_=>nO
  |_=>nO
 |.slice s lo hi mx=>λ_ vs=>match vs with
  |x::r=>match J5 [lo,hi,mx] r with
   |some [l,h,m]=>ZtM s l h m x
   |_=>nO
  |_=>nO
 |.min=>λ_ vs=>a2 vs λx y=>match x with
  |.int k a=>match y with
   |.int k' b=>noV (Zf2 k k') (sO (.int k (if leI a b then a else b)))
   |_=>nO
  |_=>nO
 |.max=>λ_ vs=>a2 vs λx y=>match x with
  |.int k a=>match y with
   |.int k' b=>noV (Zf2 k k') (sO (.int k (if leI a b then b else a)))
   |_=>nO
  |_=>nO
 |.tassert t ok zero=>match ok with
  |true=>λ_ vs=>a1 vs λx=>match x with
   |.iface t' v=>noV (Nat.beq t' t) (sO (.tup [v,.bool true]))
   |.niliface=>(ofD zero).map λz=>.tup [z,.bool false]
   |_=>nO
  |false=>λ_ vs=>a1 vs λx=>match x with
   |.iface t' v=>noV (Nat.beq t' t) (sO v)
   |_=>nO
 |.lookup kp z ok=>match ofD z with
  |some z=>λU vs=>a2 vs λm k=>noV (Zd0 kp k k).isSome (match m with
   |.map b=>match mapO (U.get b) with
    |some es=>(ZnW kp k es).map (ZrM z ok)
    |none=>nO
   |.nilmap=>sO (ZrM z ok nO)
   |_=>nO)
  |none=>λ_ _=>nO
 |.lenM=>λU vs=>a1 vs λx=>match x with
  |.map b=>match mapO (U.get b) with
   |some es=>noV (Nat.ble (I es) big) (sO (.i (Int.ofNat (I es))))
   |_=>nO
  |.nilmap=>sO (.i (Int.ofNat 0))
  |_=>nO
abbrev Nm:=Nat->Option Tok
def Nm.Sub(J J':Nm):Prop:=∀k t,J k=sO t->J' k=sO t
def Nm.Sub.refl(J:Nm):J.Sub J:=λ_ _ h=>h
def Nm.Sub.trans{a b c:Nm}(h:a.Sub b)(i:b.Sub c):a.Sub c:=λk t x=>i k t (h k t x)
mutual
inductive VR(J:Nm):V->D->Prop where
 |int (k:IntKind) (n:Int):VR J (.int k n) (.int k n)
 |bool (b:Bool):VR J (.bool b) (.bool b)
 |str (s:List Nat):VR J (.str s) (.str (s.map UInt8.ofNat))
 |agg (cs:List V) (ds:List D) (h:VRs J cs ds):VR J (.agg cs) (.agg ds)
 |tup (cs:List V) (ds:List D) (h:VRs J cs ds):VR J (.tup cs) (.tup ds)
 |nilsl:VR J .nilsl .nilsl
 |sl (t n s:Nat) (rs:List V) (τ:Tok) (row:Nat->List D) (h:VRr J s rs row) (hn:I rs=n) (ht:t=0\/J t=sO τ):VR J (.sl t n s rs) (.sl τ n s row)
 |ep (cs:List V) (o:Nat) (ds:List D) (h:VRs J cs ds):VR J (.ep cs o) (.ep ds o)
 |nilptr:VR J .nilptr .nilptr
 |ptr (k b o:Nat) (h:J k=sO (.tip b)):VR J (.ptr k o) (.ptr b o)
 |msl (k b o n cap s:Nat) (h:J k=sO (.tip b)):VR J (.msl k o n (sO cap) s) (.msl b o n cap s)
 |gsl (k b o n cap s c:Nat) (h:J k=sO (.tip b)) (h2:J (k+1)=sO (.tip c)) (hc:n<=cap) (hl:o+cap*s<=c):VR J (.msl k o n nO s) (.msl b o n cap s)
 |map (k b:Nat) (h:J k=sO (.tip b)):VR J (.map k) (.map b)
 |nilmap:VR J .nilmap .nilmap
 |fn (f:FuncId) (a c:List V) (da dc:List D) (ha:VRs J a da) (hc:VRs J c dc):VR J (.fn f a c) (.fn (.func f) da dc)
 |yield (k b:Nat) (h:J k=sO (.tip b)):VR J (.yield k) (.fn (.yield b) [] [])
 |nilfn:VR J .nilfn .nilfn
 |iface (t:TypeId) (v:V) (d:D) (h:VR J v d):VR J (.iface t v) (.iface t d)
 |niliface:VR J .niliface .niliface
 |stamp (k b:Nat) (h:J k=sO (.tip b)):VR J (.stamp k) (.stamp b)
inductive VRs(J:Nm):List V->List D->Prop where
 |nil:VRs J [] []
 |cons (v:V) (d:D) (vs:List V) (ds:List D) (h:VR J v d) (t:VRs J vs ds):VRs J (v::vs) (d::ds)
inductive VRr(J:Nm):Nat->List V->(Nat->List D)->Prop where
 |nil (s:Nat) (row:Nat->List D):VRr J s [] row
 |cons (s:Nat) (cs:List V) (rs:List V) (row:Nat->List D) (h:VRs J cs (row 0)) (hl:I cs=s) (t:VRr J s rs (λi=>row (i+1))):VRr J s (.agg cs::rs) row
end
mutual
def VR.mono{J J':Nm}(e:J.Sub J'):∀{v:V} {d:D},VR J v d->VR J' v d
 |_,_,.int k n=>.int k n
 |_,_,.bool b=>.bool b
 |_,_,.str s=>.str s
 |_,_,.agg cs ds h=>.agg cs ds (h.mono e)
 |_,_,.tup cs ds h=>.tup cs ds (h.mono e)
 |_,_,.nilsl=>.nilsl
 |_,_,.sl t n s rs τ row h hn ht=>.sl t n s rs τ row (h.mono e) hn (ht.imp id (e _ _))
 |_,_,.ep cs o ds h=>.ep cs o ds (h.mono e)
 |_,_,.nilptr=>.nilptr
 |_,_,.ptr k b o h=>.ptr k b o (e _ _ h)
 |_,_,.msl k b o n cap s h=>.msl k b o n cap s (e _ _ h)
 |_,_,.gsl k b o n cap s c h h2 hc hl=>.gsl k b o n cap s c (e _ _ h) (e _ _ h2) hc hl
 |_,_,.map k b h=>.map k b (e _ _ h)
 |_,_,.nilmap=>.nilmap
 |_,_,.fn f a c da dc ha hc=>.fn f a c da dc (ha.mono e) (hc.mono e)
 |_,_,.yield k b h=>.yield k b (e _ _ h)
 |_,_,.nilfn=>.nilfn
 |_,_,.iface t v d h=>.iface t v d (h.mono e)
 |_,_,.niliface=>.niliface
 |_,_,.stamp k b h=>.stamp k b (e _ _ h)
def VRs.mono{J J':Nm}(e:J.Sub J'):∀{v:List V} {d:List D},VRs J v d->VRs J' v d
 |_,_,.nil=>.nil
 |_,_,.cons v d vs ds h t=>.cons v d vs ds (h.mono e) (t.mono e)
def VRr.mono{J J':Nm}(e:J.Sub J'):∀{s:Nat} {v:List V} {r:Nat->List D},VRr J s v r->VRr J' s v r
 |_,_,_,.nil s row=>.nil s row
 |_,_,_,.cons s cs rs row h hl t=>.cons s cs rs row (h.mono e) hl (t.mono e)
end
section
variable {J:Nm}
def VRs.len:∀{vs ds},VRs J vs ds->I vs=I ds
 |_,_,.nil=>rfl
 |_,_,.cons _ _ _ _ _ t=>by simp[t.len]
def VRs.get:∀{vs ds},VRs J vs ds->∀{i:Nat} {v},vs[i]?=sO v->∃d,ds[i]?=sO d/\VR J v d
 |_,_,.nil,i,v,h=>by grind
 |_,_,.cons v d vs ds h t,0,v',h'=>by grind
 |_,_,.cons v d vs ds h t,i+1,v',h'=>by simp at h';simpa using t.get h'
def VRs.take:∀{vs ds},VRs J vs ds->∀n,VRs J (vs.take n) (ds.take n)
 |_,_,.nil,n=>by simp;exact .nil
 |_,_,.cons v d vs ds h t,0=>.nil
 |_,_,.cons v d vs ds h t,n+1=>.cons _ _ _ _ h (t.take n)
def VRs.drop:∀{vs ds},VRs J vs ds->∀n,VRs J (vs.drop n) (ds.drop n)
 |_,_,.nil,n=>by simp;exact .nil
 |_,_,.cons v d vs ds h t,0=>.cons _ _ _ _ h t
 |_,_,.cons v d vs ds h t,n+1=>t.drop n
def VRs.append:∀{vs vs' ds ds'},VRs J vs ds->VRs J vs' ds'->VRs J (vs++vs') (ds++ds')
 |_,_,_,_,.nil,h=>h
 |_,_,_,_,.cons v d vs ds h t,h'=>.cons _ _ _ _ h (t.append h')
def VRs.one{v d}(h:VR J v d):VRs J [v] [d]:=.cons _ _ _ _ h .nil
def VRs.inv{v vs ds}(h:VRs J (v::vs) ds):∃d ds',ds=d::ds'/\VR J v d/\VRs J vs ds':=by
 cases h with
 |cons _ d _ ds h t=>exact⟨d,ds,rfl,h,t⟩
def VRs.inv0{ds}(h:VRs J [] ds):ds=[]:=by cases h;rfl
def VRs.inv1{v ds}(h:VRs J [v] ds):∃d,ds=[d]/\VR J v d:=by
 obtain⟨d,ds',rfl,h1,i⟩:=h.inv;obtain rfl:=i.inv0;grind
def VRs.inv2{v t ds}(h:VRs J [v,t] ds):∃d i,ds=[d,i]/\VR J v d/\VR J t i:=by
 obtain⟨d,ds',rfl,h1,u⟩:=h.inv;obtain⟨i,rfl,h'⟩:=u.inv1;grind
def VRs.partv{vs r ds}(h:VRs J vs ds){o n}(t:ZrP o n vs=sO r):o+n<=I ds/\VRs J r (part ds o n):=by
 obtain⟨i,rfl⟩:=Zz4 t;exact⟨by rw[<-h.len];exact i,(h.drop o).take n⟩
def VRs.over{vs xs r ds i}(h:VRs J vs ds)(u:VRs J xs i){o n}(hs:Zku o n xs vs=sO r):I xs=n/\o+n<=I ds/\VRs J r (Zx ds o i):=by
 obtain⟨t,h1,rfl⟩:=ZpN hs;refine⟨t,by rw[<-h.len];exact h1,?_⟩;unfold Zx;have e:I i=n:=by rw[<-u.len,t]
 rw[e];exact((h.take o).append u).append (h.drop _)
def VRr.inv{s v rs row}(h:VRr J s (v::rs) row):∃cs,v=.agg cs/\VRs J cs (row 0)/\I cs=s/\VRr J s rs (λi=>row (i+1)):=by
 cases h with
 |cons s cs rs row h hl t=>exact⟨cs,rfl,h,hl,t⟩
def VRr.get{s}:∀{rs row},VRr J s rs row->∀{i v},rs[i]?=sO v->∃t,v=.agg t/\VRs J t (row i)/\I t=s
 | [],row,h,i,v,hv=>by grind
 |r::rs,row,h,0,v,hv=>by obtain⟨t,rfl,u,h2,_⟩:=h.inv;grind
 |r::rs,row,h,i+1,v,hv=>by obtain⟨t,rfl,u,h2,h3⟩:=h.inv;exact h3.get (by grind)
def VRr.congr{s}:∀{rs row row'},VRr J s rs row->(∀i,i<I rs->row' i=row i)->VRr J s rs row'
 | [],row,row',h,e=>.nil s row'
 |r::rs,row,row',h,e=>by obtain⟨t,rfl,h1,u,h3⟩:=h.inv;exact .cons s t rs row' (by grind) u (h3.congr λi hi=>e (i+1) (by grind))
def VRr.drop{s}:∀{rs row},VRr J s rs row->∀k,VRr J s (rs.drop k) (λi=>row (k+i))
 |rs,row,h,0=>by grind
 | [],row,h,k+1=>by simp;exact .nil s _
 |r::rs,row,h,k+1=>by obtain⟨cs,rfl,h1,h2,t⟩:=h.inv;have:=t.drop k;grind
def VRr.take{s}:∀{rs row},VRr J s rs row->∀k,VRr J s (rs.take k) row
 |rs,row,h,0=>by simp;exact .nil s _
 | [],row,h,k+1=>by grind
 |r::rs,row,h,k+1=>by obtain⟨i,rfl,t,u,h3⟩:=h.inv;exact .cons s i _ row t u (h3.take k)
def VRr.append{s}:∀{rs t row row'},VRr J s rs row->VRr J s t row'->VRr J s (rs++t) (Yg (I rs) row row')
 | [],t,row,row',h,h'=>h'.congr λi _=>by simp[Yg]
 |r::rs,t,row,row',h,h'=>by obtain⟨u,rfl,h1,h2,h3⟩:=h.inv;refine .cons s u _ _ (by simpa[Yg]using h1) h2 ((h3.append h').congr λi _=>?_);grind [Yg]
def VRr.bytes:∀{rs row l},VRr J 1 rs row->Zsp rs=sO l->(∀i,i<I rs->ZgF (row i))/\l.map UInt8.ofNat=(ZHJ (I rs)).map λi=>ZaV (row i)
 | [],row,l,h,hb=>by cases hb;simp
 |r::rs,row,l,h,hb=>by
  obtain⟨cs,rfl,t,u,h3⟩:=h.inv
  match cs,t,u,hb with
  | [.int .u8 n],t,u,hb =>
   obtain⟨q,hq,rfl⟩:=KG hb;obtain⟨i1,i2⟩:=h3.bytes hq;obtain⟨d,hd,hv⟩:=t.inv1;cases hv;refine⟨λi hi=>?_,?_⟩
   .cases i with
    |zero=>exact⟨n,hd⟩
    |succ i=>exact i1 i (by grind)
   simp only[ZHM,ZHN,List.range_succ_eq_map,List.map_map,i2];refine _root_.congr (congrArg _ ?_) rfl;rw[hd];rfl
def VRs.bytes:∀{vs ds l},VRs J vs ds->Znw vs=sO l->(∀i,i<I vs->ZgF (part ds i 1))/\l.map UInt8.ofNat=(ZHJ (I vs)).map λi=>ZaV (part ds i 1)
 | [],ds,l,h,hb=>by cases hb;simp
 |v::vs,ds,l,h,hb=>by
  obtain⟨d,ds',rfl,t,u⟩:=h.inv
  match v,t,hb with
  |.int .u8 n,t,hb =>
   obtain⟨q,hq,rfl⟩:=KG hb;obtain⟨i1,i2⟩:=u.bytes hq;cases t;refine⟨λi hi=>?_,?_⟩
   .cases i with
    |zero=>exact⟨n,by simp[part]⟩
    |succ i=>simpa[part]using i1 i (by grind)
   simp only[ZHM,ZHN,List.range_succ_eq_map,List.map_map,i2];refine _root_.congr (congrArg _ ?_) ?_;simp[part,ZaV];apply List.map_congr_left;intro i _;simp[part]
def Zl9(s:List UInt8):(s.map UInt8.toNat).map UInt8.ofNat=s:=by
 rw[List.map_map];conv=>rhs;rw[<-List.map_id s]
 congr 1
 funext x;simp
mutual
def Zhk:∀{d:D} {v:V},ofD d=sO v->VR J v d
 |.int k n,v,h=>by cases h;exact .int k n
 |.bool b,v,h=>by cases h;exact .bool b
 |.str s,v,h=>by
  cases h;have:=VR.str (J:=J) (s.map UInt8.toNat)
  rwa [Zl9]at this
 |.agg cs,v,h=>by simp[ofD]at h;obtain⟨vs,h1,rfl⟩:=h;exact .agg _ _ (ofDs_ok h1)
 |.nilsl,v,h=>by cases h;exact .nilsl
 |.nilptr,v,h=>by cases h;exact .nilptr
 |.nilmap,v,h=>by cases h;exact .nilmap
 |.fn (.func f) [] [],v,h=>by cases h;exact .fn f [] [] [] [] .nil .nil
 |.nilfn,v,h=>by cases h;exact .nilfn
 |.niliface,v,h=>by cases h;exact .niliface
 |.ep cs o,v,h=>by simp[ofD]at h;obtain⟨vs,h1,rfl⟩:=h;exact .ep _ _ _ (ofDs_ok h1)
 |.fn (.func f) (_::_) _,v,h=>by cases h
 |.fn (.func f) [] (_::_),v,h=>by cases h
 |.tup _,v,h|.sl _ _ _ _,v,h|.ptr _ _,v,h|.msl _ _ _ _ _,v,h|.map _,v,h|.fn (.yield _) _ _,v,h|.iface _ _,v,h|.stamp _,v,h|.undef,v,h|.any,v,h=>by cases h
 |.fn (.method ..) _ _,v,h|.fn (.methodOf ..) _ _,v,h|.fn (.via ..) _ _,v,h=>by cases h
def ofDs_ok:∀{ds:List D} {vs:List V},ofDs ds=sO vs->VRs J vs ds
 | [],vs,h=>by cases h;exact .nil
 |d::r,vs,h=>by simp[ofDs]at h;split at h<;>simp at h;rename_i v vs' h1 h2;subst h;exact .cons _ _ _ _ (Zhk h1) (ofDs_ok h2)
end
end
def Zpg:List Nat:=ZHJ 32768
def ZDy(P:Program)(N id:Nat)(ops:Array Oper):Ann :=
 match Jq P N ops (ZHJ ops.size) with
 |some l =>
  let ds:=ops.toList.map JK
  match Zts (l.zip ds) (Zf3 ds []) ops.size (ZHJ ops.size) []with
  | (od,fl,fk)=>(id+1000000,od)::(id,Zpg)::(fl.map (λx=>(id+1000000*(x.1+4),x.2))++(match fk with
   | []=>[]
   |_::_=>[(id+3000000,fk)]))
 |none=>[]
def Zgr(P:Program)(N:Nat):Code->Ann
 |.region id ops true=>ZDy P N id ops
 |.seq a b=>Zgr P N a++Zgr P N b
 |.cond _ a b=>Zgr P N a++Zgr P N b
 |.block _ a=>Zgr P N a
 |.loop a=>Zgr P N a
 |.scope a=>Zgr P N a
 |.rangeFunc _ _ a b=>Zgr P N a++Zgr P N b
 |_=>[]
def ZDx(P:Program)(f:FuncId):Ann :=
 match P.funcs[f]? with
 |some fn=>match fn.body with
  |some c=>Zgr P fn.ntmps c
  |none=>[]
 |none=>[]
structure Cx where
 P:Program
 lib:FuncId->Option (S->List V->Option V)
 mu:FuncId->Option Nat->Bool
def Cx.an(C:Cx)(f:FuncId):Ann:=ZDx C.P f
def Cx.df(C:Cx)(f:FuncId):Option DF:=cf C.P (C.an f) f
inductive Dd where
 |mark (q:Nat)
 |fn (i:FuncId) (args caps:List V)
inductive Fk where
 |fn (res:List RV)
 |rnd (l:Nat)
 |dfd (pd:Option V) (rec:Bool)
structure Fm where
 f:FuncId
 n:Nat
 k:Fk
 ds:List Dd
structure Out where
 pan:Bool
 v:V
 U:S
 nx:Nat
abbrev Ih:=Fm->List WW->T W->S->Nat->Option Out
def wV:Option W->Option V
 |some w=>match w with
  |.v x=>sO x
  |_=>nO
 |none=>nO
def YS:Opd->Bx (T W->Option V)
 |.cst d=>match ofD d with
  |some v=>⟨λ_=>sO v⟩
  |none=>⟨λ_=>nO⟩
 |.tmp t=>⟨λH=>wV ((T.getF t).run H)⟩
def Zce:List Opd->Bx (T W->Option (List V))
 | []=>⟨λ_=>sO []⟩
 |x::xs=>⟨λH=>match (YS x).run H with
  |some v=>match (Zce xs).run H with
   |some vs=>sO (v::vs)
   |none=>nO
  |none=>nO⟩
def ZjH:Option (Nat×Bool)->Bx (T W->Option Bool)
 |none=>⟨λ_=>sO true⟩
 |some (t,want)=>⟨λH=>match (T.getF t).run H with
  |some w=>match w with
   |.v x=>match x with
    |.bool b=>sO (Zgl b want)
    |_=>nO
   |.skip=>sO false
   |_=>nO
  |none=>nO⟩
def ZcD:Option Nat->Bx (T W->W->T W)
 |some t=>⟨λH w=>(T.setF t).run (sO w) H⟩
 |none=>⟨λH _=>H⟩
def ZjW:Opd->Bx (T W->Bool)
 |.cst d=>match d with
  |.bool _=>⟨λ_=>true⟩
  |_=>⟨λ_=>false⟩
 |.tmp t=>⟨λH=>match (T.getF t).run H with
  |some w=>match w with
   |.v x=>match x with
    |.bool _=>true
    |_=>false
   |.skip=>true
   |_=>false
  |none=>false⟩
def Zn7:Nat->List V->T W->T W
 |_,[],H=>H
 |i,v::vs,H=>Zn7 (i+1) vs (H.set (sO (.v v)) i)
def Zfl:List Nat->List V->T W->T W
 |t::ts,a::as9,H=>Zfl ts as9 (H.set (sO (.v a)) t)
 |_,_,H=>H
def ZgK(zero:List V)(ps:List (Nat×V))(i:Nat):List V :=
 match ps with
 | []=>zero
 | (k,d)::r=>if Nat.beq k i then ZfD d else ZgK zero r i
def Zk8(zero:List V)(ps:List (Nat×V)):Nat->Nat->List V
 |0,_=>[]
 |n+1,i=>.agg (ZgK zero ps i)::Zk8 zero ps n (i+1)
def Zfk(s:Nat):List V->Bool
 | []=>true
 |d::r=>ZoX d&&Nat.beq (ZfD d).length s&&Zfk s r
def ZhF(z:List V):Nat->List V
 |0=>[]
 |n+1=>z++ZhF z n
def u8V(l:List Nat):List V:=l.map λm=>.agg [.int .u8 (Int.ofNat (m % 256))]
def ZAr(U:S)(s:Nat):V->Option (Nat×List V)
 |.nilsl=>sO (0,[])
 |.sl _ m s' rs=>noV (Nat.beq s' s) (sO (m,rs))
 |.str l=>noV (Nat.beq s 1) (sO (I l,u8V l))
 |.msl b o n _ s'=>match ZaP (U.get b) with
  |some cs=>noV (Nat.beq s' s&&Nat.ble (o+n*s) (I cs)) (match ZwH s n (Zbq o cs) with
   |some rs=>sO (n,rs)
   |none=>nO)
  |none=>nO
 |_=>nO
def Zp0(U:S)(t k:Nat):Option S :=
 if Nat.beq t 1 then sO U else match U.get t with
  |some (.tok m)=>noV (Nat.beq m k) (sO (U.set nO t))
  |_=>nO
def Zhx(U:S)(a:V)(n:Nat)(xs:List V):Option S :=
 match a with
 |.ptr b o=>match U.get b with
  |some (.cells cs)=>match Zku o n xs cs with
   |some cs'=>sO (U.set (sO (.cells cs')) b)
   |none=>nO
  |some (.buf cs)=>match Zku o n xs cs with
   |some cs'=>sO (U.set (sO (.buf cs')) b)
   |none=>nO
  |_=>nO
 |_=>nO
structure R3 where
 v:V
 U:S
 nx:Nat
def Zjc(s:Nat)(U:S)(nx m:Nat)(cs:List V):Option R3:=sO ⟨.msl nx 0 m nO s,U.set (sO (.buf cs)) nx,nx+2⟩
def Zsk(s bytes:Nat)(U:S)(nx m:Nat)(rs:List V):Option R3 :=
 noV (Nat.ble (m*bytes) 140737488355328&&Nat.ble m big) <|match ZnY s m rs with
  |some cs=>Zjc s U nx m cs
  |none=>nO
def Zsl(s bytes:Nat)(U:S)(nx t n m:Nat)(rs rs2:List V):Option R3 :=
 noV (Nat.ble ((n+m)*bytes) 140737488355328&&Nat.ble (n+m) big) <|match Zp0 U t (n*s) with
  |some U'=>sO ⟨.sl nx (n+m) s (Zpj n rs rs2),U'.set (sO (.tok ((n+m)*s))) nx,nx+1⟩
  |none=>nO
def Zy6(mu:Bool)(s bytes:Nat)(U:S)(nx:Nat)(x:V)(m:Nat)(rs2:List V):Option R3 :=
 match x with
 |.nilsl=>if mu&&Nat.ble 1 m then Zsk s bytes U nx m rs2 else Zsl s bytes U nx 1 0 m [] rs2
 |.sl t n s' rs=>noV (Nat.beq s' s) <|if mu&&Nat.ble 1 m&&Nat.beq t 1&&Nat.beq n 0 then Zsk s bytes U nx m rs2 else Zsl s bytes U nx t n m rs rs2
 |.msl b o n cap s'=>noV (Nat.beq s' s&&Nat.ble ((n+m)*bytes) 140737488355328&&Nat.ble (n+m) big) <|match ZnY s m rs2 with
  |some cs2=>match cap with
   |none=>match U.get b with
    |some (.buf cs)=>noV (Nat.beq o 0) <|match Za6 (n*s) cs with
     |some c1=>Zjc s (U.set nO b) nx (n+m) (Zpj (n*s) c1 cs2)
     |none=>nO
    |_=>nO
   |some cap=>match U.get b with
    |some (.cells cs)=>if Nat.ble (n+m) cap then noV (Nat.beq o 0) <|match Zku (n*s) (m*s) cs2 cs with
      |some cs'=>sO ⟨.msl b 0 (n+m) (sO cap) s,U.set (sO (.cells cs')) b,nx⟩
      |none=>nO
     else noV (Nat.ble (o+n*s) (I cs)) <|match Za6 (n*s) (Zbq o cs) with
      |some c1=>Zjc s U nx (n+m) (Zpj (n*s) c1 cs2)
      |none=>nO
    |_=>nO
  |none=>nO
 |_=>nO
def gk:K->Bool
 |.q _ _=>true
 |.pick _ _ _=>true
 |.bsl _ _ _ _ _=>true
 |.s2b _=>true
 |.append ..=>true
 |.clear ..=>true
 |_=>false
def mp2(x:Option V)(f:V->Option R3):Option R3:=match x with
 |some v=>f v
 |none=>nO
def up(x:Option S)(v:V)(nx:Nat):Option R3:=match x with
 |some U=>sO ⟨v,U,nx⟩
 |none=>nO
def ZDg:K->Bool
 |.store1 _ _=>true
 |.storeN _ _ _=>true
 |.mkmap=>true
 |_=>false
def opF(mu dst:Bool):K->Bx (T W->S->Nat->Option R3)
 |.q q xs=>⟨λH U nx=>match (Zce xs).run H with
  |some vs=>match (Bx.mk (qV q)).run U vs with
   |some v=>sO ⟨v,U,nx⟩
   |none=>nO
  |none=>nO⟩
 |.pick c a b=>⟨λH U nx=>mp2 ((YS c).run H) λx=>match x with
  |.bool v=>match v with
   |true=>noV ((ZjW b).run H) (mp2 ((YS a).run H) λy=>match y with
    |.bool y=>sO ⟨.bool y,U,nx⟩
    |_=>nO)
   |false=>noV ((ZjW a).run H) (mp2 ((YS b).run H) λy=>match y with
    |.bool y=>sO ⟨.bool y,U,nx⟩
    |_=>nO)
  |_=>nO⟩
 |.alloc z=>match ofDs z with
  |some z=>⟨λ_ U nx=>noV dst (sO ⟨.ptr nx 0,U.set (sO (.cells z)) nx,nx+1⟩)⟩
  |none=>⟨λ_ _ _=>nO⟩
 |.box x=>⟨λH U nx=>noV dst (mp2 ((YS x).run H) λv=>noV (ZoX v) (sO ⟨.ptr nx 0,U.set (sO (.cells (ZfD v))) nx,nx+1⟩))⟩
 |.bsl len n z is xs=>match ofDs z with
  |some z=>⟨λH U nx=>match (Zce xs).run H with
   |some vs=>noV (Zfk n vs&&Nat.beq (I z) n) (if mu&&dst&&Nat.ble 1 len then match ZnY n len (Zk8 z (is.zip vs) len 0) with
     |some cs=>sO ⟨.msl nx 0 len (sO len) n,U.set (sO (.cells cs)) nx,nx+1⟩
     |none=>nO
    else sO ⟨.sl 1 len n (Zk8 z (is.zip vs) len 0),U,nx⟩)
   |none=>nO⟩
  |none=>⟨λ_ _ _=>nO⟩
 |.s2b x=>⟨λH U nx=>mp2 ((YS x).run H) λv=>match v with
  |.str l=>sO ⟨.sl 0 (I l) 1 (u8V l),U,nx⟩
  |_=>nO⟩
 |.store1 a v=>⟨λH U nx=>noV (!dst) (mp2 ((YS a).run H) λa=>mp2 ((YS v).run H) λx=>noV (Zw0 x) (up (Zhx U a 1 [x]) .nilsl nx))⟩
 |.storeN n a v=>⟨λH U nx=>noV (!dst) (mp2 ((YS a).run H) λa=>mp2 ((YS v).run H) λx=>match x with
  |.agg xs=>up (Zhx U a n xs) .nilsl nx
  |_=>nO)⟩
 |.mkmap=>⟨λ_ U nx=>noV dst (sO ⟨.map nx,U.set (sO (.map [])) nx,nx+1⟩)⟩
 |.mkslice _ n bytes z l h=>match ofDs z with
  |some z=>⟨λH U nx=>noV dst (mp2 ((YS l).run H) λl=>mp2 ((YS h).run H) λh=>match l with
   |.int _ l=>match h with
    |.int _ h=>noV (leI 0 l&&leI l h&&leI (Int.mul bytes h) 140737488355328&&leI h big) (sO ⟨.msl nx 0 l.toNat (sO h.toNat) n,U.set (sO (.cells (ZhF z h.toNat))) nx,nx+1⟩)
    |_=>nO
   |_=>nO)⟩
  |none=>⟨λ_ _ _=>nO⟩
 |.mapupd kp m k v=>⟨λH U nx=>noV (!dst) (mp2 ((YS m).run H) λm=>mp2 ((YS k).run H) λk=>mp2 ((YS v).run H) λv=>match m with
  |.map b=>match U.get b with
   |some (.map es)=>noV (Zd0 kp k k).isSome (match Zp2 kp k v es with
    |some es'=>sO ⟨.nilsl,U.set (sO (.map es')) b,nx⟩
    |none=>nO)
   |_=>nO
  |_=>nO)⟩
 |.delete kp m k=>⟨λH U nx=>noV (!dst) (mp2 ((YS m).run H) λm=>mp2 ((YS k).run H) λk=>match m with
  |.map b=>match U.get b with
   |some (.map es)=>noV (Zd0 kp k k).isSome (match ZsL kp k es with
    |some es'=>sO ⟨.nilsl,U.set (sO (.map es')) b,nx⟩
    |none=>nO)
   |_=>nO
  |_=>nO)⟩
 |.mapent kp z m k=>match ofD z with
  |some z=>⟨λH U nx=>noV dst (mp2 ((YS m).run H) λm=>mp2 ((YS k).run H) λk=>match m with
   |.map b=>match U.get b with
    |some (.map es)=>noV (Zd0 kp k k).isSome (match ZsS kp k z es with
     |some v=>sO ⟨.tup [v,.stamp nx],U.set (sO (.mapE kp es k nx)) b,nx+1⟩
     |none=>nO)
    |_=>nO
   |_=>nO)⟩
  |none=>⟨λ_ _ _=>nO⟩
 |.entst m st v=>⟨λH U nx=>noV (!dst) (mp2 ((YS m).run H) λm=>mp2 ((YS st).run H) λst=>mp2 ((YS v).run H) λv=>match m with
  |.map b=>match st with
   |.stamp n=>match U.get b with
    |some (.mapE kp es k n')=>noV (Nat.beq n n') (match Zp2 kp k v es with
     |some es'=>sO ⟨.nilsl,U.set (sO (.map es')) b,nx⟩
     |none=>nO)
    |_=>nO
   |_=>nO
  |_=>nO)⟩
 |.clear s z x=>match ofDs z with
  |some z=>⟨λH U nx=>mp2 ((YS x).run H) λx=>match x with
   |.msl b o n _ s'=>noV (Nat.beq s' s) (up (Zhx U (.ptr b o) (n*s) (ZhF z n)) (.tup []) nx)
   |_=>nO⟩
  |none=>⟨λ_ _ _=>nO⟩
 |.fork k=>match ZDg k with
  |true=>opF mu dst k
  |false=>⟨λ_ _ _=>nO⟩
 |.append _ s bytes _ x y=>⟨λH U nx=>mp2 ((YS x).run H) λx=>mp2 ((YS y).run H) λy=>match ZAr U s y with
  |some (m,rs2)=>Zy6 mu s bytes U nx x m rs2
  |none=>nO⟩
 |_=>⟨λ_ _ _=>nO⟩
def rvV(H:T W)(U:S):RV->Option V
 |.tmp t=>(YS (.tmp t)).run H
 |.cell1 t=>match (YS (.tmp t)).run H with
  |some a=>qV .load1 U [a]
  |none=>nO
 |.cellN t n=>match (YS (.tmp t)).run H with
  |some a=>qV (.loadN n) U [a]
  |none=>nO
def ZtI(H:T W)(U:S):List RV->Option (List V)
 | []=>sO []
 |r::rs=>match rvV H U r with
  |some v=>match ZtI H U rs with
   |some vs=>sO (v::vs)
   |none=>nO
  |none=>nO
def mkV:List V->V
 | [v]=>v
 |vs=>.tup vs
def ZrG(C:Cx)(f:FuncId):Bx (Ih->List V->S->Nat->Option Out) :=
 match C.df f with
 |some df=>⟨λih args U nx=>ih ⟨f,df.n,.fn df.res,[]⟩ [.code df.body] (Zn7 0 args T.nil) U nx⟩
 |none=>⟨λ_ _ _ _=>nO⟩
def ZhP(C:Cx)(f:FuncId):Bx (Ih->List V->S->Nat->Option Out) :=
 match C.lib f with
 |some g=>⟨λih args U nx=>match g U args with
  |some v=>sO ⟨false,v,U,nx⟩
  |none=>(ZrG C f).run ih args U nx⟩
 |none=>ZrG C f
def Znx(C:Cx)(ih:Ih)(f:V)(args:List V)(U:S)(nx:Nat):Option Out :=
 match f with
 |.fn f first caps=>(ZhP C f).run ih (first++(args++caps)) U nx
 |.yield l=>match U.get l with
  |some (.loop f n ps a b H nO false)=>noV (Nat.beq (I args) (I ps)) (ih ⟨f,n,.rnd l,[]⟩ [.code a,.beginR,.code b] (Zfl ps args H) U nx)
  |_=>nO
 |_=>nO
def ZwG:V->Bool
 |.int k n=>Zwh k n
 |.bool _=>true
 |.str l=>Nat.ble (I l) big
 |.nilsl=>true
 |.nilptr=>true
 |.ptr _ _=>true
 |.map _=>true
 |.nilmap=>true
 |.nilfn=>true
 |.niliface=>true
 |_=>false
def Zll:List V->Bool
 | []=>true
 |v::r=>ZwG v&&Zll r
def ZwF:Option V->Bool
 |some x=>match x with
  |.iface _ v=>match v with
   |.agg cs=>Zll cs
   |v=>ZwG v
  |_=>false
 |none=>true
def Zne(C:Cx)(ih:Ih):List Dd->Option V->S->Nat->Option (Option V×S×Nat)
 | [],m,U,nx=>sO (m,U,nx)
 |.mark q::r,m,U,nx=>match U.get q with
  |some .dfr=>Zne C ih r m (U.set nO q) nx
  |_=>nO
 |.fn i args caps::r,m,U,nx=>match C.df i with
  |some ⟨n,[],body⟩=>noV (ZwF m) <|match ih ⟨i,n,.dfd m false,[]⟩ [.code body] (Zn7 0 (args++caps) T.nil) U nx with
   |some ⟨false,.bool b,U',nx'⟩=>Zne C ih r (if b then nO else m) U' nx'
   |_=>nO
  |_=>nO
def loopTo(U:S)(l:Nat)(st:Option DC)(now busy:Bool):Option S :=
 match U.get l with
 |some (.loop f n ps a b H nO bs)=>noV (bs==now) (sO (U.set (sO (.loop f n ps a b H st busy)) l))
 |_=>nO
def ZwE(C:Cx)(ih:Ih)(fm:Fm)(H:T W)(U:S)(nx:Nat)(fell:Bool):Option Out :=
 match fm.k with
 |.fn res=>match Zne C ih fm.ds nO U nx with
  |some (nO,U',nx')=>match ZtI H U' res with
   |some vs=>sO ⟨false,mkV vs,U',nx'⟩
   |none=>nO
  |_=>nO
 |.rnd l=>match loopTo U l (if fell then nO else sO .ret) true false with
  |some U'=>sO ⟨false,.bool fell,U',nx⟩
  |none=>nO
 |.dfd pd rec=>match fm.ds with
  | []=>sO ⟨false,.bool (pd.isNone ||rec),U,nx⟩
  |_=>nO
def ZmZ(C:Cx)(ih:Ih)(fm:Fm)(H:T W)(v:V)(U:S)(nx:Nat):Option Out :=
 match fm.k with
 |.fn res=>match Zne C ih fm.ds (sO v) U nx with
  |some (nO,U',nx')=>match ZtI H U' res with
   |some vs=>sO ⟨false,mkV vs,U',nx'⟩
   |none=>nO
  |some (sO v,U',nx')=>sO ⟨true,v,U',nx'⟩
  |none=>nO
 |.rnd _=>match C.P.funcs[fm.f]? with
  |some _=>sO ⟨true,v,U,nx⟩
  |none=>nO
 |.dfd _ _=>nO
abbrev Rg:=Ih->List WW->Fm->T W->S->Nat->Option Out
def goF(C:Cx)(f:FuncId)(rest:Bx Rg)(dst:Option Nat)(g:Option (Nat×Bool))(k:K):Bx Rg :=
 match k with
 |.call fx xs=>⟨λih dk fm H U nx=>match (YS fx).run H with
  |some fv=>match (Zce xs).run H with
   |some vs=>match Znx C ih fv vs U nx with
    |some ⟨pan,v,U',nx'⟩=>match pan with
     |false=>rest.run ih dk fm ((ZcD dst).run H (.v v)) U' nx'
     |true=>ZmZ C ih fm H v U' nx'
    |none=>nO
   |none=>nO
  |none=>nO⟩
 |.panic x=>⟨λih _ fm H U nx=>match (YS x).run H with
  |some (.iface t v)=>ZmZ C ih fm H (.iface t v) U nx
  |_=>nO⟩
 |.defer fx xs=>match g,dst with
  |none,nO=>⟨λih dk fm H U nx=>match (YS fx).run H,(Zce xs).run H with
   |some (.fn j first caps),sO vs=>match fm.k with
    |.fn _=>noV (Zll (first++vs)&&Zll caps) (rest.run ih dk { fm with ds:=.fn j (first++vs) caps::fm.ds } H U nx)
    |_=>nO
   |_,_=>nO⟩
  |_,_=>⟨λ_ _ _ _ _ _=>nO⟩
 |.recover=>match g with
  |none=>⟨λih dk fm H U nx=>match fm.k with
   |.dfd (sO v) false=>rest.run ih dk { fm with k:=.dfd (sO v) true } ((ZcD dst).run H (.v v)) U nx
   |.dfd nO _=>rest.run ih dk fm ((ZcD dst).run H (.v .niliface)) U nx
   |_=>nO⟩
  |_=>⟨λ_ _ _ _ _ _=>nO⟩
 |k=>match gk k ||g.isNone with
  |true=>⟨λih dk fm H U nx=>match (opF (C.mu f dst) dst.isSome k).run H U nx with
   |some ⟨v,U',nx'⟩=>rest.run ih dk fm ((ZcD dst).run H (.v v)) U' nx'
   |none=>nO⟩
  |false=>⟨λ_ _ _ _ _ _=>nO⟩
def ZpH(C:Cx)(f:FuncId):List DOp->Bx Rg
 | []=>⟨λih dk fm H U nx=>ih fm dk H U nx⟩
 |⟨dst,g,k⟩::os=>match g with
  |none=>goF C f (ZpH C f os) dst g k
  |some _=>⟨λih dk fm H U nx=>match (ZjH g).run H with
   |some b=>match b with
    |true=>(goF C f (ZpH C f os) dst g k).run ih dk fm H U nx
    |false=>(ZpH C f os).run ih dk fm ((ZcD dst).run H .skip) U nx
   |none=>nO⟩
def ZjT:K->Bool
 |.fork _=>false
 |_=>true
structure Rl where
 cs:List (Nat×List V)
 ad:List (Nat×Nat×Nat)
 bn:List (Nat×Nat)
 bl:List (Nat×Nat)
def Rl.nil:Rl:=⟨[],[],[],[]⟩
def ZjD(u:Nat):List (Nat×Nat×Nat)->Option (Nat×Nat)
 | []=>nO
 | (t,a)::r=>if Nat.beq t u then sO a else ZjD u r
def Kr(l:Nat):List (Nat×List V)->Option (List V)
 | []=>nO
 | (t,c)::r=>if Nat.beq t l then sO c else Kr l r
def Zkt(l:Nat)(vs:List V):List (Nat×List V)->List (Nat×List V)
 | []=>[]
 | (t,c)::r=>if Nat.beq t l then (t,vs)::r else (t,c)::Zkt l vs r
def ZgL(n:Nat):List Nat->Bool
 | []=>false
 |a::r=>if Nat.beq a n then true else ZgL n r
def Zy2(n:Nat)(l:List Nat):List Nat:=if ZgL n l then l else n::l
def Zm7(fl:List Nat):List (Nat×Nat)->List Nat
 | []=>[]
 | (t,n)::r=>if ZgL t fl then Zy2 n (Zm7 fl r) else Zm7 fl r
def ZfY(fl:List Nat):List (Nat×Nat)->List (Nat×Nat)
 | []=>[]
 | (t,n)::r=>if ZgL t fl then (t,n)::ZfY fl r else ZfY fl r
def noA(u:Nat)(r:Rl):Bool:=match ZjD u r.ad with
 |none=>Nat.blt u 32768
 |some _=>false
def Zer(dst:Option Nat)(r:Rl):Bool:=match dst with
 |none=>true
 |some t=>noA t r
def Zwr(t:Nat)(r:Rl):Bool:=(match Kr t r.cs with
 |none=>true
 |some _=>false)&&noA t r
def Zlb(fl:List Nat)(r:Rl):Rl:=match fl with
 | []=>⟨r.cs,r.ad,[],[]⟩
 |fl=>⟨r.cs,r.ad,ZfY fl r.bn,ZfY fl r.bl⟩
def Zkc:O->Bool
 |.cells _=>true
 |.buf _=>true
 |.map _=>true
 |_=>false
def ZjX:List Nat->S->Option (S×List (Nat×O))
 | [],U=>sO (U,[])
 |k::r,U=>match U.get k with
  |some o=>match Zkc o with
   |true=>match ZjX r (U.set (sO (.ro o)) k) with
    |some (U',l)=>sO (U',(k,o)::l)
    |none=>nO
   |false=>match ZbE o with
    |true=>ZjX r U
    |false=>nO
  |none=>nO
def ZkZ:List (Nat×O)->S->Option S
 | [],U=>sO U
 | (k,o)::r,U=>match U.get k with
  |some (.ro _)=>match ZkZ r U with
   |some U'=>sO (U'.set (sO o) k)
   |none=>nO
  |_=>nO
def Zz3(fl:List Nat)(r:Rl)(U:S):Option (S×List (Nat×O)):=match fl with
 | []=>sO (U,[])
 |fl=>ZjX (Zm7 fl r.bn) U
def Zsd:Opd->Rl->Option (Nat×Nat)
 |.tmp t,r=>ZjD t r.ad
 |.cst _,_=>nO
def ZAD(t:Nat)(v:V)(r:Rl):Rl:=match v with
 |.ptr k _=>⟨r.cs,r.ad,(t,k)::r.bn,r.bl⟩
 |.msl k _ _ _ _=>⟨r.cs,r.ad,(t,k)::r.bn,r.bl⟩
 |.map k=>⟨r.cs,r.ad,(t,k)::r.bn,r.bl⟩
 |_=>r
def rdR(t:Nat)(k:K):Bx (T W->Rl->Rl):=match k with
 |.q q xs=>match YU (.q q xs) with
  |true=>match xs with
   |x::_=>⟨λH r=>match (YS x).run H with
    |some v=>ZAD t v r
    |none=>r⟩
   | []=>⟨λ_ r=>r⟩
  |false=>⟨λ_ r=>r⟩
 |_=>⟨λ_ r=>r⟩
abbrev RgD:=Rl->Rg
def Zj4(rest:Bx RgD)(dst:Option Nat)(k:K):Bx RgD :=
 ⟨λr ih dk fm H U nx=>match (opF false dst.isSome k).run H U nx with
  |some ⟨v,_,_⟩=>noV (Zer dst r) (rest.run ((rdR (dst.getD 0) k).run H r) ih dk fm ((ZcD dst).run H (.v v)) U nx)
  |none=>nO⟩
def ZsN(C:Cx)(f:FuncId)(rest:Bx RgD)(dst:Option Nat)(g:Option (Nat×Bool))(fl:List Nat)(k:K):Bx RgD :=
 match gk k ||g.isNone with
 |true=>⟨λr ih dk fm H U nx=>match Zz3 fl r U with
  |some (σ0,l)=>match (opF (C.mu f dst) dst.isSome k).run H σ0 nx with
   |some ⟨v,U',nx'⟩=>match ZkZ l U' with
    |some σ2=>noV (Zer dst r) (rest.run (Zlb fl r) ih dk fm ((ZcD dst).run H (.v v)) σ2 nx')
    |none=>nO
   |none=>nO
  |none=>nO⟩
 |false=>⟨λ_ _ _ _ _ _ _=>nO⟩
def adD(rest:Bx RgD)(dst:Option Nat)(l o:Nat):Bx RgD :=
 match dst with
 |some u=>⟨λr ih dk fm H U nx=>noV (noA u r) (rest.run ⟨r.cs,(u,l,o)::r.ad,r.bn,r.bl⟩ ih dk fm ((T.setF u).run nO H) U nx)⟩
 |none=>⟨λ_ _ _ _ _ _ _=>nO⟩
def ZzU(rest:Bx RgD)(dst:Option Nat)(q:Q)(xs:List Opd):Bx (Nat->Nat->RgD) :=
 match q with
 |.mv=>match xs with
  | []=>⟨λl o=>(adD rest dst l o).run⟩
  |_=>⟨λ_ _ _ _ _ _ _ _ _=>nO⟩
 |.nilck=>match xs with
  | []=>⟨λl o=>(adD rest dst l o).run⟩
  |_=>⟨λ_ _ _ _ _ _ _ _ _=>nO⟩
 |.faddr off=>match xs with
  | []=>⟨λl o=>(adD rest dst l (o+off)).run⟩
  |_=>⟨λ_ _ _ _ _ _ _ _ _=>nO⟩
 |.iaddrA m z=>match xs with
  | [x]=>⟨λl o r ih dk fm H U nx=>match (YS x).run H with
   |some (.int _ i)=>noV (leI 0 i&&!leI m i) ((adD rest dst l (o+i.toNat*z)).run r ih dk fm H U nx)
   |_=>nO⟩
  |_=>⟨λ_ _ _ _ _ _ _ _ _=>nO⟩
 |.load1=>match xs with
  | []=>⟨λl o r ih dk fm H U nx=>match Kr l r.cs with
   |some cs=>match Zh9 o cs with
    |some v=>noV (Zer dst r) (rest.run ⟨r.cs,r.ad,r.bn,(dst.getD 0,l)::r.bl⟩ ih dk fm ((ZcD dst).run H (.v v)) U nx)
    |none=>nO
   |none=>nO⟩
  |_=>⟨λ_ _ _ _ _ _ _ _ _=>nO⟩
 |.loadN n=>match xs with
  | []=>⟨λl o r ih dk fm H U nx=>match Kr l r.cs with
   |some cs=>match ZkK cs o n with
    |some v=>noV (Zer dst r) (rest.run ⟨r.cs,r.ad,r.bn,(dst.getD 0,l)::r.bl⟩ ih dk fm ((ZcD dst).run H (.v v)) U nx)
    |none=>nO
   |none=>nO⟩
  |_=>⟨λ_ _ _ _ _ _ _ _ _=>nO⟩
 |_=>⟨λ_ _ _ _ _ _ _ _ _=>nO⟩
def ZtS(rest:Bx RgD)(fl:List Nat)(l o n:Nat)(xs:List V):RgD:=λr ih dk fm H U nx=>match Kr l r.cs with
 |some cs=>match Zku o n xs cs with
  |some cs'=>noV (!ZgL l (Zm7 fl r.bl)) (rest.run (Zlb fl ⟨Zkt l cs' r.cs,r.ad,r.bn,r.bl⟩) ih dk fm H U nx)
  |none=>nO
 |none=>nO
def goD(C:Cx)(f:FuncId)(rest:Bx RgD)(dst:Option Nat)(g:Option (Nat×Bool))(fl:List Nat)(k:K):Bx RgD :=
 match k with
 |.call fx xs=>⟨λr ih dk fm H U nx=>match (YS fx).run H with
  |some fv=>match (Zce xs).run H with
   |some vs=>match Zz3 fl r U with
    |some (σ0,l)=>match Znx C ih fv vs σ0 nx with
     |some ⟨pan,v,U',nx'⟩=>match ZkZ l U' with
      |some σ2=>match pan with
       |false=>noV (Zer dst r) (rest.run (Zlb fl r) ih dk fm ((ZcD dst).run H (.v v)) σ2 nx')
       |true=>ZmZ C ih fm T.nil v σ2 nx'
      |none=>nO
     |none=>nO
    |none=>nO
   |none=>nO
  |none=>nO⟩
 |.panic x=>⟨λ_ ih _ fm H U nx=>match (YS x).run H with
  |some (.iface t v)=>ZmZ C ih fm T.nil (.iface t v) U nx
  |_=>nO⟩
 |.defer _ _=>⟨λ_ _ _ _ _ _ _=>nO⟩
 |.recover=>⟨λ_ _ _ _ _ _ _=>nO⟩
 |.fork _=>⟨λ_ _ _ _ _ _ _=>nO⟩
 |.alloc z=>match g,dst,ofDs z with
  |none,sO t,sO z=>⟨λr ih dk fm H U nx=>noV (Zwr t r) (rest.run ⟨(t,z)::r.cs,(t,t,0)::r.ad,r.bn,r.bl⟩ ih dk fm ((T.setF t).run nO H) U nx)⟩
  |_,_,_=>⟨λ_ _ _ _ _ _ _=>nO⟩
 |.box x=>match g,dst with
  |none,sO t=>⟨λr ih dk fm H U nx=>match (YS x).run H with
   |some v=>noV (ZoX v&&Zwr t r&&!ZgL t (Zm7 fl r.bl)) (rest.run (Zlb fl ⟨(t,ZfD v)::r.cs,(t,t,0)::r.ad,r.bn,r.bl⟩) ih dk fm ((T.setF t).run nO H) U nx)
   |none=>nO⟩
  |_,_=>⟨λ_ _ _ _ _ _ _=>nO⟩
 |.store1 a v=>match g,dst with
  |none,nO=>⟨λr ih dk fm H U nx=>match Zsd a r with
   |some (l,o)=>match (YS v).run H with
    |some x=>noV (Zw0 x) (ZtS rest fl l o 1 [x] r ih dk fm H U nx)
    |none=>nO
   |none=>(ZsN C f rest dst g fl (.store1 a v)).run r ih dk fm H U nx⟩
  |_,_=>⟨λ_ _ _ _ _ _ _=>nO⟩
 |.storeN n a v=>match g,dst with
  |none,nO=>⟨λr ih dk fm H U nx=>match Zsd a r with
   |some (l,o)=>match (YS v).run H with
    |some (.agg xs)=>ZtS rest fl l o n xs r ih dk fm H U nx
    |_=>nO
   |none=>(ZsN C f rest dst g fl (.storeN n a v)).run r ih dk fm H U nx⟩
  |_,_=>⟨λ_ _ _ _ _ _ _=>nO⟩
 |.q q xs=>match xs with
  |x::ys=>⟨λr ih dk fm H U nx=>match Zsd x r with
   |some (l,o)=>(ZzU rest dst q ys).run l o r ih dk fm H U nx
   |none=>(Zj4 rest dst (.q q xs)).run r ih dk fm H U nx⟩
  | []=>Zj4 rest dst (.q q xs)
 |k=>match YB k with
  |true=>Zj4 rest dst k
  |false=>ZsN C f rest dst g fl k
def Zos:List (Nat×Nat×Nat)->Nat->Nat->T W->T W
 | [],_,_,H=>H
 | (u,l,o)::r,t,nx,H=>if Nat.beq l t then (Zos r t nx H).set (sO (.v (.ptr nx o))) u else Zos r t nx H
def ZsY:List (Nat×List V)->List (Nat×Nat×Nat)->Rg
 | [],_=>λih dk fm H U nx=>ih fm dk H U nx
 | (t,vs)::r,ad=>λih dk fm H U nx=>match ZjD t ad with
  |some (l,_)=>noV (Nat.beq l t) (ZsY r ad ih dk fm (Zos ad t nx H) (U.set (sO (.cells vs)) nx) (nx+1))
  |none=>nO
def Zlg(C:Cx)(f:FuncId):List (DOp×List Nat)->Bx RgD
 | []=>⟨λr ih dk fm H U nx=>ZsY r.cs r.ad ih dk fm H U nx⟩
 | (⟨dst,g,k⟩,fl)::os=>match k with
  |.fork _=>⟨λ_ _ _ _ _ _ _=>nO⟩
  |k=>match g with
   |none=>goD C f (Zlg C f os) dst g fl k
   |some _=>⟨λr ih dk fm H U nx=>match (ZjH g).run H with
    |some b=>match b with
     |true=>(goD C f (Zlg C f os) dst g fl k).run r ih dk fm H U nx
     |false=>match k with
      |.alloc _=>nO
      |k=>noV (Zer dst r) ((Zlg C f os).run (if YB k then r else Zlb fl r) ih dk fm ((ZcD dst).run H .skip) U nx)
    |none=>nO⟩
abbrev Cd:=Ih->Fm->List WW->T W->S->Nat->Option Out
def Zar(C:Cx)(f:FuncId):DC->Bx Cd
 |.skip=>⟨λih fm k H U nx=>ih fm k H U nx⟩
 |.label _=>⟨λih fm k H U nx=>ih fm k H U nx⟩
 |.seq a b=>⟨λih fm k H U nx=>(Zar C f a).run ih fm (.code b::k) H U nx⟩
 |.cond c a b=>⟨λih fm k H U nx=>match (YS c).run H with
  |some v=>match v with
   |.bool t=>match t with
    |true=>(Zar C f a).run ih fm k H U nx
    |false=>(Zar C f b).run ih fm k H U nx
   |_=>nO
  |none=>nO⟩
 |.block id a=>⟨λih fm k H U nx=>(Zar C f a).run ih fm (.inBlock id::k) H U nx⟩
 |.loop a=>⟨λih fm k H U nx=>(Zar C f a).run ih fm (.inLoop a::k) H U nx⟩
 |.scope a=>⟨λih fm k H U nx=>(Zar C f a).run ih fm (.inScope a::k) H U nx⟩
 |.exit id=>⟨λih fm k H U nx=>match Q2 id k with
  |some k'=>ih fm k' H U nx
  |none=>match fm.k with
   |.rnd l=>match loopTo U l (sO (.exit id)) true false with
    |some U'=>sO ⟨false,.bool false,U',nx⟩
    |none=>nO
   |_=>nO⟩
 |.goto l=>⟨λih fm k H U nx=>match Zdq l k with
  |some k'=>ih fm k' H U nx
  |none=>nO⟩
 |.ret=>⟨λih fm _ H U nx=>ZwE C ih fm H U nx false⟩
 |.reg ops kp=>match kp with
  |none=>match ops.all λo=>ZjT o.k with
   |true=>⟨λih fm k H U nx=>(ZpH C f ops).run ih k fm H U nx⟩
   |false=>⟨λ_ _ _ _ _ _=>nO⟩
  |some _=>⟨λ_ _ _ _ _ _=>nO⟩
 |.regD _ ops _=>⟨λih fm k H U nx=>(Zlg C f ops).run Rl.nil ih k fm H U nx⟩
 |.rangeF g ps a b=>⟨λih fm k H U nx=>match fm.k with
  |.fn _=>match (YS g).run H with
   |some fv=>match Znx C ih fv [.yield (nx+1)] ((U.set (sO .dfr) nx).set (sO (.loop fm.f fm.n ps a b H nO false)) (nx+1)) (nx+2) with
    |some ⟨pan,v,U',nx'⟩=>match pan with
     |false=>match U'.get (nx+1) with
      |some (.loop _ _ _ _ _ _ nO false)=>ih { fm with ds:=.mark nx::fm.ds } k H (U'.set nO (nx+1)) nx'
      |some (.loop f' n' _ _ _ _ (sO j) false)=>noV (Nat.beq f' fm.f&&Nat.beq n' fm.n) (ih { fm with ds:=.mark nx::fm.ds } (.code j::k) H (U'.set nO (nx+1)) nx')
      |_=>nO
     |true=>ZmZ C ih { fm with ds:=.mark nx::fm.ds } H v U' nx'
    |none=>nO
   |none=>nO
  |_=>nO⟩
def step(C:Cx)(ih:Ih)(fm:Fm)(dk:List WW)(H:T W)(U:S)(nx:Nat):Option Out :=
 match dk with
 | []=>ZwE C ih fm H U nx true
 |it::k=>match it with
  |.inBlock _=>ih fm k H U nx
  |.inScope _=>ih fm k H U nx
  |.inLoop c=>(Zar C fm.f c).run ih fm (.inLoop c::k) H U nx
  |.beginR=>match fm.k with
   |.rnd l=>match loopTo U l nO false true with
    |some U'=>ih fm k H U' nx
    |none=>nO
   |_=>nO
  |.code c=>(Zar C fm.f c).run ih fm k H U nx
def run(C:Cx)(n:Nat):Ih:=Nat.rec (motive:=λ_=>Ih) (λ_ _ _ _ _=>nO) (λ_ ih=>step C ih) n
def ZAF(a b):UInt8.ofNat a=UInt8.ofNat b↔a % 256=b % 256:=by
 rw[<-UInt8.toNat_inj];simp
def ZnQ:∀(a b),eqS a b=dC (a.map UInt8.ofNat=b.map UInt8.ofNat)
 | [],[]=>by simp[eqS]
 | [],b::y=>by simp[eqS]
 |a::x,[]=>by simp[eqS]
 |a::x,b::y=>by simp only[eqS,ZHM,List.cons.injEq,ZAF,ZnQ x y];by_cases h:a % 256=b % 256<;>simp
def Ztb:∀(a b),Zds a b=Op.bytesLess (a.map UInt8.ofNat) (b.map UInt8.ofNat)
 | [],[]=>by simp[Zds,Op.bytesLess]
 | [],b::y=>by simp[Zds,Op.bytesLess]
 |a::x,[]=>by simp[Zds,Op.bytesLess]
 |a::x,b::y=>by
  have i:(UInt8.ofNat a<UInt8.ofNat b)↔a % 256<b % 256:=by rw[UInt8.lt_iff_toNat_lt];simp
  have t:=ZAF a b;simp[Zds,Op.bytesLess,Ztb x y];by_cases h1:a % 256<b % 256;simp[h1,i];by_cases u:a % 256=b % 256;simp[u,i,t];simp[u,i,t]
section
variable {J:Nm}
def ZoA{k x y i t}(hx:VR J x i)(hy:VR J y t){b}(h:Zlm k x y=sO b):Yk k i t=sO b:=by
 cases k<;>cases hx<;>cases hy<;>simp only[Zlm,reduceCtorEq]at h;split at h<;>simp only[ZHu,reduceCtorEq]at h;rename_i u;obtain rfl:=Zfa u;simp only[Yk,if_true,ZHu];rw[<-Zjx];exact h;simp only[ZHu]at h;simp only[Yk,ZHu];rw[<-ZnQ];exact h;simpa only[Yk]using h
def Zjf{xs ys ds es}(hx:VRs J xs ds)(hy:VRs J ys es):∀{l b},Zg8 xs ys l=sO b->Wn ds es l=sO b
 | [],b,h=>by simpa only[Zg8,Wn]using h
 | (o,k)::r,b,h=>by simp only[Zg8]at h;split at h<;>(try(simp at h;done));rename_i x y h1 h2;split at h<;>simp only[ZHu,reduceCtorEq]at h;rename_i b1 b2 h3 h4;obtain⟨dx,i,u⟩:=hx.get h1;obtain⟨dy,t,ab⟩:=hy.get h2;simp only[Wn,i,t,ZoA u ab h3,Zjf hx hy h4,h]
def Za1{kp x y i t}(hx:VR J x i)(hy:VR J y t){b}(h:Zd0 kp x y=sO b):Kl kp i t=sO b:=by
 cases kp with
 |sc k=>exact ZoA hx hy h
 |st l =>cases hx<;>cases hy<;>simp only[Zd0,reduceCtorEq]at h;rename_i cs ds u cs' ds' h2;split at h<;>(try(simp at h;done));rename_i hl;simp only[Kl];rw[if_pos ⟨by rw[<-u.len];exact hl.1,by rw[<-h2.len];exact hl.2⟩];exact Zjf u h2 h
def Zf1{kp x i}(u:VR J x i)(h:(Zd0 kp x x).isSome=true):Qz kp i=true:=by
 cases t:Zd0 kp x x with
 |none=>rw[t]at h;grind
 |some b=>simp[Qz,Za1 u u t]
def Ztx{p x y i u}(hx:VR J x i)(hy:VR J y u){b}(h:ZrQ p x y=sO b):∃side,YG p i u=sO (side,b)/\side:=by
 cases p<;>cases hx<;>cases hy<;>simp only[ZrQ,reduceCtorEq,ZHu]at h;case cells.agg.agg l cs ds h1 cs' ds' h2=>exact⟨True,by simp[YG,Zjf h1 h2 h],trivial⟩
 case sl.sl.nilsl t n s rs τ row h1 h2 h3 =>split at h<;>simp only[ZHu,reduceCtorEq]at h;subst h;exact⟨_,rfl,‹_›⟩
 all_goals (subst h;exact⟨True,rfl,trivial⟩)
def ZbX{k n v}(h:ZgE k n=sO v):v=.int k n/\inR k n:=by
 unfold ZgE at h;split at h<;>simp at h;exact⟨h.symm,Zu8 ‹_›⟩
def ZBH{op k k' a b v}(hk:ZtK op=true\/k=k')(h:ZAc op k a b=sO v):∃side d,Zal op nO (.int k a) (.int k' b)=sO (side,d)/\side/\VR J v d:=by
 have i:ZtK op=false->k=k':=λh=>hk.resolve_left (by rw[h];simp);cases op<;>simp only[ZAc]at h;case shl =>split at h<;>(try(simp at h;done));rename_i u;obtain⟨rfl,t⟩:=ZbX h;rw[Zhj,decide_eq_true_eq]at u;exact⟨_,_,rfl,⟨u,t⟩,.int _ _⟩
 case shr =>split at h<;>(try(simp at h;done));rename_i u;obtain⟨rfl,t⟩:=ZbX h;rw[Zhj,decide_eq_true_eq]at u;exact⟨_,_,rfl,⟨u,t⟩,.int _ _⟩
 all_goals
  obtain rfl:=i rfl;simp only[Zal,if_true,Q5]
 case add=>obtain⟨rfl,t⟩:=ZbX h;exact⟨_,_,rfl,t,.int _ _⟩
 case sub=>obtain⟨rfl,t⟩:=ZbX h;exact⟨_,_,rfl,t,.int _ _⟩
 case mul=>obtain⟨rfl,t⟩:=ZbX h;exact⟨_,_,rfl,t,.int _ _⟩
 case quo =>split at h<;>(try(simp at h;done));rename_i u;obtain⟨rfl,t⟩:=ZbX h;rw[Zjx,decide_eq_false_iff_not]at u;exact⟨_,_,rfl,⟨u,t⟩,.int _ _⟩
 case rem =>split at h<;>(try(simp at h;done));rename_i u;obtain⟨rfl,t⟩:=ZbX h;rw[Zjx,decide_eq_false_iff_not]at u;exact⟨_,_,rfl,⟨u,t⟩,.int _ _⟩
 all_goals
  simp only[ZHu]at h;subst h;refine⟨_,_,rfl,trivial,?_⟩;try simp only[Zjx,Zhj]
 case lss=>rw[show(!dC (b<=a))=dC (a<b) by by_cases hh:a<b<;>simp[hh]<;>omega];exact .bool _
 case gtr=>rw[show(!dC (a<=b))=dC (b<a) by by_cases hh:b<a<;>simp[hh]<;>omega];exact .bool _
 case geq=>exact .bool _
 all_goals first|exact .bool _|exact .int _ _
def ZBJ{op a b v}(h:ZAd op a b=sO v):∃side d,ZdW op (a.map UInt8.ofNat) (b.map UInt8.ofNat)=sO (side,d)/\side/\VR J v d:=by
 cases op<;>simp only[ZAd,reduceCtorEq]at h;case add =>split at h<;>simp at h;rename_i i;subst h;refine⟨_,_,rfl,by simpa using i,?_⟩;rw[<-List.map_append];exact .str _
 all_goals
  cases h;refine⟨_,_,rfl,trivial,?_⟩;simp[ZnQ,Ztb];exact .bool _
def ZBI{op p x y u dy}(hx:VR J x u)(hy:VR J y dy){v}(h:ZtE op p x y=sO v):∃side d,eqO op p u dy=sO (side,d)/\side/\VR J v d:=by
 cases p with
 |none=>simp[ZtE]at h
 |some p =>
  cases op<;>simp only[ZtE,reduceCtorEq]at h;case eql =>split at h<;>simp only[ZHu,reduceCtorEq]at h;subst h;obtain⟨side,i,t⟩:=Ztx hx hy ‹_›;exact⟨side,_,by simp only[eqO,i,ZH4],t,.bool _⟩
  case neq =>split at h<;>simp only[ZHu,reduceCtorEq]at h;subst h;obtain⟨side,i,t⟩:=Ztx hx hy ‹_›;exact⟨side,_,by simp only[eqO,i,ZH4],t,.bool _⟩
def ZBG{op p x y t u}(hx:VR J x t)(hy:VR J y u){v}(h:ZtD op p x y=sO v):∃side d,Zal op p t u=sO (side,d)/\side/\VR J v d:=by
 have i:(∀k a,t≠.int k a)->(∀l,t≠.str l)->ZtE op p x y=sO v->∃side d,Zal op p t u=sO (side,d)/\side/\VR J v d:=λh1 h2 h3=>by obtain⟨side,d,e1,e2,e3⟩:=ZBI hx hy h3;refine⟨side,d,?_,e2,e3⟩;rw[<-e1];cases t<;>first|rfl|exact absurd rfl (h1 _ _)|exact absurd rfl (h2 _)
 cases hx;case int k a =>cases hy<;>simp only[ZtD,reduceCtorEq]at h;rename_i k' b;split at h<;>(try(simp at h;done));rename_i hb;rw[ZHT]at hb;obtain⟨side,d,e1,e2,e3⟩:=ZBH (J:=J) (k':=k') (hb.imp id Zfa) h;refine⟨side,d,?_,e2,e3⟩;rw[<-e1];rfl
 case str s =>cases hy<;>simp only[ZtD,reduceCtorEq]at h;exact ZBJ h
 all_goals exact i (λ_ _=>by simp) (λ_=>by simp) (by simpa only[ZtD]using h)
def MR(J:Nm)(e:V×V)(d:D×D):Prop:=VR J e.1 d.1/\VR J e.2 d.2
def MR.mono{J'}(h:J.Sub J'){e d}(m:MR J e d):MR J' e d:=⟨m.1.mono h,m.2.mono h⟩
def Zs0{kp k dk}(u:VR J k dk):∀{es ds r},ZH (MR J) es ds->ZnW kp k es=sO r ->
  ∃i,Zbs kp dk ds=sO i/\(match r,i with|some v,sO d=>VR J v d|none,nO=>True|_,_=>False)
 | [],ds,r,h,hf=>by cases h;simp only[ZnW,ZHu]at hf;subst hf;exact⟨nO,rfl,trivial⟩
 |e::es,ds,r,h,hf=>by
  cases h with
  |cons h1 h2 =>
  simp only[ZnW]at hf;split at hf<;>(try(simp at hf;done));rename_i t;simp only[ZHu]at hf;subst hf;exact⟨sO _,by simp only[Zbs,Za1 u h1.1 t],h1.2⟩;rename_i t;obtain⟨i,e1,e2⟩:=Zs0 u h2 hf;exact⟨i,by simp only[Zbs,Za1 u h1.1 t,e1],e2⟩
def Zp3{kp k v dk t}(i:VR J k dk)(hv:VR J v t):∀{es r ds},ZH (MR J) es ds->Zp2 kp k v es=sO r ->
  ∃r',JP kp dk t ds=sO r'/\ZH (MR J) r r'
 | [],r,ds,h,hf=>by cases h;simp only[Zp2,ZHu]at hf;subst hf;exact⟨_,rfl,.cons ⟨i,hv⟩ .nil⟩
 |e::es,r,ds,h,hf=>by
  cases h with
  |cons h1 h2 =>
  simp only[Zp2]at hf;split at hf<;>(try(simp at hf;done));rename_i u;simp only[ZHu]at hf;subst hf;exact⟨(dk,t)::_,by simp only[JP,Za1 i h1.1 u],.cons ⟨i,hv⟩ h2⟩;rename_i u;simp only[ZHI]at hf;obtain⟨r0,hr,rfl⟩:=hf;obtain⟨r',e1,e2⟩:=Zp3 i hv h2 hr;exact⟨_,by simp only[JP,Za1 i h1.1 u,e1,ZH4],.cons h1 e2⟩
def ZuW{kp k dk}(t:VR J k dk):∀{es r ds},ZH (MR J) es ds->ZsL kp k es=sO r ->
  ∃u,Zgw kp dk ds=sO u/\ZH (MR J) r u
 | [],r,ds,h,hf=>by cases h;simp only[ZsL,ZHu]at hf;subst hf;exact⟨_,rfl,.nil⟩
 |e::es,r,ds,h,hf=>by
  cases h with
  |cons h1 h2 =>
  simp only[ZsL]at hf;split at hf<;>(try(simp at hf;done));rename_i i;simp only[ZHu]at hf;subst hf;exact⟨_,by simp only[Zgw,Za1 t h1.1 i],h2⟩;rename_i i;simp only[ZHI]at hf;obtain⟨r0,hr,rfl⟩:=hf;obtain⟨u,e1,e2⟩:=ZuW t h2 hr;exact⟨_,by simp only[Zgw,Za1 t h1.1 i,e1,ZH4],.cons h1 e2⟩
def Zu0{kp k z dk u}(t:VR J k dk)(hz:VR J z u):∀{es ds v},ZH (MR J) es ds->ZsS kp k z es=sO v ->
  ∃d,ZdY kp dk u ds=sO d/\VR J v d
 | [],ds,v,h,hf=>by cases h;simp only[ZsS,ZHu]at hf;subst hf;exact⟨_,rfl,hz⟩
 |e::es,ds,v,h,hf=>by
  cases h with
  |cons h1 h2 =>
  simp only[ZsS]at hf;split at hf<;>(try(simp at hf;done));rename_i i;simp only[ZHu]at hf;subst hf;exact⟨_,by simp only[ZdY,Za1 t h1.1 i],h1.2⟩;rename_i i;obtain⟨d,e1,e2⟩:=Zu0 t hz h2 hf;exact⟨d,by simp only[ZdY,Za1 t h1.1 i,e1],e2⟩
def Ztd{z}{i}(t:VR J z i){ok}{r}{r'}(h:match r,r' with|some v,sO d=>VR J v d|none,nO=>True|_,_=>False):VR J (ZrM z ok r) (Wh i ok r'):=by
 cases r<;>cases r'<;>simp only at h<;>cases ok<;>simp only[ZrM,Wh,if_true,if_false,ZH5];exact t;exact .tup _ _ (.cons _ _ _ _ t (.one (.bool _)));exact h;exact .tup _ _ (.cons _ _ _ _ h (.one (.bool _)))
end
end Go.DL
