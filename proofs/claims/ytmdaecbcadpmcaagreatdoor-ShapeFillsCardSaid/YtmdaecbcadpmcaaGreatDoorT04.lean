/- Lemmas: S19, S20, S21, S22, S23, A04, A05, U03, U04, U05, W04, W05, W06, W07, W08, W09, W10, W11, W12, X01, X03, W13, SLay3, W14, W15, W16, W17, W18, W19, W20, W21, W22, W23, W24, W25, W26, W27. -/
import Derived.Test.YtmdaecbcadpmcaaGreatDoorT03
set_option maxHeartbeats 16000000
set_option maxRecDepth 100000
set_option linter.all false
open List renaming length->I
open Option renaming some -> sO, none -> nO
open Inhabited renaming default -> dE
open Decidable renaming decide -> dC
open Go.Proofs.Tryz
open And renaming intro -> ZHG
open Bool renaming and_eq_false_iff -> ZIl, and_eq_true -> ZHN, false_and -> ZH7, false_eq_true -> ZIe, or_eq_true -> ZH0, true_and -> ZH3
open Go.DL.D.Le renaming refl -> ZHL
open Go.DL.St renaming single -> ZH9, sub_refl -> ZHH, sub_trans -> ZIn, sub_upd -> ZH6, upd -> ZIi, upd_ne -> ZHQ, upd_same -> ZHP, upd_upd -> ZH4
open Go.DL.Val renaming cells_eq -> ZHX
open Go.Proofs.Tryz renaming prog -> ZHF
open Int renaming reduceEq -> ZIp, reduceToNat -> ZHK
open List renaming append_assoc -> ZIg, append_nil -> ZH8, drop_eq_nil_of_le -> ZIo, getD -> ZHU, getElem?_append_left -> ZIc, getElem?_append_right -> ZIq, getElem?_eq_getElem -> ZIb, getElem?_eq_none -> ZIr, getElem_of_mem -> ZH1, length_append -> ZHO, length_cons -> ZHW, length_drop -> ZIh, length_take -> ZHZ, map_cons -> ZHY, map_nil -> ZIf, mem_cons -> ZIj, range -> ZHT, take_length -> ZH2
open Nat renaming le_refl -> ZHV, reduceAdd -> ZHM, reduceEqDiff -> ZHI, reduceLeDiff -> ZHJ
open Option renaming getD_some -> ZIk
namespace Go.DL
open Go Go.Proofs
variable {kp:Option (List Nat)}{L:Loc}{H:Env}{s:St}{w:World}{os:List DOp}{ds:List D}{B:List (Nat × Rd)}{dst:Option Nat}{tmps:Array Value}{g:G}{Φ:Res->St->Prop}{Z:Nat->Nat}{xs:List Opd}{side:Prop}{row:Nat->List D}
def ddS(l:List Str):List Str:=l.foldl Jq []
def Zut{l i:List Str}:∃r,l.foldl Jq i=i++r:=by
 induction l generalizing i with
 |nil=>exact⟨[],ψ⟩
 |cons x r ih =>obtain⟨q,j⟩:=ih (i:=Jq i x);rw[List.foldl_cons,j];unfold Jq;split;exact⟨q,rfl⟩;exact⟨[x]++q,ψ⟩
def ZsV{l:List Str}{i}(h:i<I l):ddS (l.take (i+1))=Jq (ddS (l.take i)) (l.getD i dE):=by
 unfold ddS;rw[Z3 h,List.foldl_append];rfl
def Zvn{l s}:s∈ddS l↔s∈l:=by unfold ddS;rw[ZhA];simp
def ZBi(l i):∃r,ddS l=ddS (l.take i)++r:=by
 conv=>enter [1,r];lhs;rw[<-List.take_append_drop i l]
 unfold ddS;rw[List.foldl_append];exact Zut
def ZCk{l i}(h:i<I l)(t:l.getD i dE∉l.take i):(ddS (l.take i)).length<(ddS l).length/\(ddS l).getD (ddS (l.take i)).length dE=l.getD i dE/\(ddS (l.take (i+1))).length=(ddS (l.take i)).length+1:=by
 have n:=ZsV h;have hm:l.getD i dE∉ddS (l.take i):=λhm=>t (Zvn.1 hm);rw[Jq,if_neg hm]at n;obtain⟨r,j⟩:=ZBi l (i+1);rw[n]at j;refine⟨by rw[j];simp,by rw[j];simp[ZHU],by rw[n];simp⟩
def ZzG{l:List Str}{i}(h:i<I l)(j:l.getD i dE∈l.take i):ddS (l.take (i+1))=ddS (l.take i):=by
 rw[ZsV h,Jq,if_pos (Zvn.2 j)]
def ZjC(l:List Str)(i)(h:i<=I l){tk s}:Zc ZHF 290 [.sl tk i 1 (λi=>[.str (l.getD i dE)]),.str s] (.bool (dC (s∈l.take i))):=by
 have j:ZQ Zcw (λi=>[.str (l.getD i dE)]) (l.take i):=(ZQ.self (f:=Zcw) (l:=l)).take i;exact(Zfc (l.take i) s).leA (LeC.two (j.le (by rw[ZHZ];omega)) (ZHL _))
def Zkk(l)(hl:I l<=big)(x):Zds ZHF (.fn (.func 289) [] [.ptr x 0]) (ddS l).length (λj=>[.str ((ddS l).getD j dE)]) (ZH9 x (.cells [WM l])):=by
 intro y go A a0 ae hA hd;have hw:=hl;unfold big at hw;refine Ze.V (first:=[]) (args:=[y]) (caps:=[.ptr x 0]) (Zh (cR 289 f289) λF hF=>?_);have hx:∀a,Yc a (ZH9 x (.cells [WM l]))->(a.or (ZH9 x (.cells [WM l]))) x=sO (.cells [WM l]):=λa ah=>by rw[ZM (ah x _ YE),YE]
 generalize hT:ZH9 x (.cells [WM l])=T at *;refine rh ?_;refine Zn ?_;simp only[Eqs,reduceCtorEq,ZHK,reduceIte,ZHI,ZHM,ZHJ,hx a0 hd,WM,slD];refine Zb (fr (I l) (λi Q=>∀a,A (ddS (l.take i)).length a->Yc a T->(∀j,j<(ddS (l.take i)).length->go j=.next)->i<=I l->Q [(0,.d y),(1,.d (.ptr x 0)),(5,.d (WM l)),(6,.d (.i (I l))),(7,.d (.i i))] [] (a.or T)) (λn z=>?_) λai=>?_)
 .clear hA hd;intro i hn a hA hd u hi;refine rg ?_;refine Zd (Zt rfl trivial (λh1=>?_) (λh1=>?_))
  .simp at h1;by_cases hm:l.getD i dE∈l.take i;have af:=ZzG h1 hm;refine xA (nd2 @WM.eq_1 @eQ1) ?_;refine rh ?_;refine Zn ?_;simp only[Eqs,reduceCtorEq,ZHK,reduceIte,ZHI,ZHM,ZHJ,hx a hd,WM,slD];refine aa ?_;refine Zao rfl rfl rfl rfl rfl φ φ (by exact ZjC l i ω) (Zn ?_);simp only[Eqs,reduceCtorEq,ZHK,reduceIte,ZHI,ZHM,ZHJ,decide_eq_true hm];refine Jx rfl (e:=.d (.bool false)) (Zn ?_);simp only[Eqs,reduceCtorEq,ZHK,reduceIte,ZHI,ZHM,ZHJ];refine i0 ?_;refine gA ?_;refine Za ?_;exact z ((I l)-(i+1)) ω (i+1) rfl a (by rw[af];exact hA) hd (by rw[af];exact u) ω;have ab:=ZCk h1 hm;refine xA (nd2 @WM.eq_1 @eQ1) ?_;refine rh ?_;refine Zn ?_;simp only[Eqs,reduceCtorEq,ZHK,reduceIte,ZHI,ZHM,ZHJ,hx a hd,WM,slD];refine aa ?_;refine Zao rfl rfl rfl rfl rfl φ φ (by exact ZjC l i ω) (Zn ?_);simp only[Eqs,reduceCtorEq,ZHK,reduceIte,ZHI,ZHM,ZHJ,decide_eq_false hm];have ac:=(ae _ ab.1 u a hA).frame hd;simp only[ab.2.1]at ac;refine vV (ac) ?_ ?_
   .rintro d S ⟨s',⟨hr,ad⟩,ag,rfl⟩;cases t:go (ddS (l.take i)).length with
    |next =>rw[t]at hr;cases hr;refine gR0 ?_;refine i0 ?_;refine gA ?_;refine Za ?_;exact z ((I l)-(i+1)) ω (i+1) rfl s' (by rw[ab.2.2];exact ad) ag (by rw[ab.2.2];exact ZZ (q:=λi=>go i=.next) u t) ω
    |stop c =>rw[t]at hr;cases hr;refine gR0 ?_;refine i1 ?_;exact hF.ret (.tup []) _ rfl trivial (ZHL _) ZHH ⟨s',.stop _ c ab.1 u t ad,KW⟩
    |pan d=>rw[t]at hr;cases hr
   rintro d S ⟨s',⟨hr,ad⟩,ag,rfl⟩;cases t:go (ddS (l.take i)).length with
   |pan d' =>rw[t]at hr;cases hr;exact hF.pan _ ZHH ⟨s',.pan _ d ab.1 u t ad,KW⟩
   |next=>rw[t]at hr;cases hr
   |stop c=>rw[t]at hr;cases hr
  simp at h1;obtain rfl:i=I l:=ω;rw[ZH2]at hA u;refine ZR rfl ?_;exact hF.fin (.tup []) _ rfl trivial (ZHL _) ZHH ⟨a,.all u hA,KW⟩
 exact ai _ 0 rfl a0 hA hd (by intro i hi;simp[ddS]at hi) ω
def Znb(m:Msg)(hb:(m.fields.flatMap Z7).length<=1000000){st}:Ze ZHF 275 [.agg m.cells] st λr S=>∃x,st x=nO/\r=.ret (.fn (.func 289) [] [.ptr x 0])/\S=st.or (ZH9 x (.cells [WM (m.fields.flatMap Z7)])):=by
 refine ZaH (cR 275 f275) λai F hF=>?_;have hw:=(ZfI (s:=m) (ai _ ψ)).nfields;have ao:=(ZfI (s:=m) (ai _ ψ)).fields;unfold big at hw;clear ai;refine rx @eQ3 ?_;refine rg ?_;refine rx (nd2 @eQ3 (nd2 @eQ5 @eQ1)) ?_;refine Zb ?_;refine kl (st) [(3,.loc 3 0),(9,.d (Zk m.fields)),(10,.d (.i (I m.fields))),(11,.d (.i (0:Nat)))] [(3,[.sl .full 0 1 λ_=>[]])] Ku (.cons (.cons (Y3 ψ) .nil) .nil) ?_;refine fr (I m.fields) (λi Q=>∀tk row j,tk.okIn st->ZQ (λs=>[.str s]) row j->j=(m.fields.take i).flatMap Z7->i<=I m.fields->Q [(3,.loc 3 0),(9,.d (Zk m.fields)),(10,.d (.i (I m.fields))),(11,.d (.i i))] [(3,[.sl tk (I j) 1 row])] (st.own tk (I j*1))) (λn ac=>?_) λap=>?_;intro i hn tk row j ae t ab hi;refine rg ?_;refine Zd (Zt rfl trivial (λh1=>?_) (λh1=>?_));simp at h1;have ad:=ZeR m.fields i h1;have z:=ZaQ m.fields (i+1);rw[ad,ZHO,<-ab]at z;have am:=(ao _ (Zm h1)).ncases;unfold big at am;generalize hf:m.fields.getD i dE=f at *;refine xA (nd2 @eQ5 (nd2 @eQ1 (nd2 @eQ0 @hf))) ?_;refine rx @eQ0 ?_;refine rg ?_;refine jU [0] (λQ=>∀bb:Bool,bb=(dC (f.kind=7) ||(dC (f.kind=8) ||decide (f.kind=12)))->Q F [(3,.loc 3 0),(5,.loc 5 0),(9,.d (Zk m.fields)),(10,.d (.int .i64 (I m.fields))),(11,.d (.int .i64 i)),(16,.d (.int .i64 f.kind)),(17,.d (.bool bb))] [(3,[.sl tk (I j) 1 row]),(5,f.cells)] (st.own tk (I j*1))) ?_ λjn=>?_;intro bb ag;refine cd (λh3=>?_) (λh3=>?_);have ah:Z7 f=[f.of]:=by
  subst h3;have h9:¬f.kind=9:=by intro e;rw[e]at ag;simp at ag
  unfold Z7 Qo;rw[<-ag,if_pos rfl,if_neg h9,ZH8]
 rw[ah]at ad z;simp only[ZHW,List.length_nil]at z;refine rx @eQ0 ?_;refine K3 (st) (tk) rfl rfl rfl rfl rfl rfl φ φ rfl (by first|trivial|assumption) ω (by (unfold big;omega)) λt1 aj=>Zn ?_;simp only[Eqs,reduceCtorEq,ZHK,reduceIte,ZHI,ZHM,ZHJ];refine gA ?_;refine Za ?_;have u:=ac ((I m.fields)-(i+1)) ω (i+1) rfl t1 _ (j++[f.of]) aj (t.snoc (x:=f.of) (row2:=ZY [.str []] ([0].zip [.str f.of])) rfl rfl) (by rw[ad,ab]) ω;rw[ZHO]at u;exact u;have ah:Z7 f=if f.kind=9 then f.cases.map (·.of) else []:=by subst h3;unfold Z7 Qo;rw[<-ag,if_neg ψ,List.nil_append]
 rw[ah]at ad z;refine rg ?_;refine cd (λh4=>?_) (λh4=>?_);have h9:f.kind=9:=by simpa using h4
 rw[if_pos h9]at ad z;simp only[List.length_map]at z;refine rx (nd2 @eQ0 (nd2 @Yk.eq_1 @eQ1)) ?_;refine Zb (fr (I f.cases) (λq Q=>∀tk row o,tk.okIn st->ZQ (λs=>[.str s]) row o->o=j++(f.cases.take q).map (·.of)->q<=I f.cases->Q [(3,.loc 3 0),(9,.d (Zk m.fields)),(10,.d (.i (I m.fields))),(11,.d (.i i)),(29,.d (Yk f.cases)),(30,.d (.i (I f.cases))),(31,.d (.i q))] [(3,[.sl tk (I o) 1 row])] (st.own tk (I o*1))) (λn af=>?_) λak=>?_);clear t ae;intro q hnq tk row o ae t ho hq;have hol:I o=I j+q:=by rw[ho];simp;omega
 refine rg ?_;refine Zd (Zt rfl trivial (λh5=>?_) (λh5=>?_));simp at h5;have al:(f.cases.take (q+1)).map (·.of)=(f.cases.take q).map (·.of)++[(f.cases.getD q dE).of]:=by rw[Z3 h5,List.map_append];rfl
 generalize hc:f.cases.getD q dE=c at *;refine xA (nd2 @Yk.eq_1 (nd2 @eQ1 (nd2 @eQ9 @hc))) ?_;refine rx @eQ9 ?_;refine K3 (st) (tk) rfl rfl rfl rfl rfl rfl φ φ rfl (by first|trivial|assumption) ω (by (unfold big;omega)) λt1 aj=>Zn ?_;simp only[Eqs,reduceCtorEq,ZHK,reduceIte,ZHI,ZHM,ZHJ];refine gA ?_;refine Za ?_;have u:=af ((I f.cases)-(q+1)) ω (q+1) rfl t1 _ (o++[c.of]) aj (t.snoc (x:=c.of) (row2:=ZY [.str []] ([0].zip [.str c.of])) rfl rfl) (by rw[al,ho,ZIg]) ω;rw[ZHO]at u;exact u;simp at h5;obtain rfl:q=I f.cases:=ω;rw[ZH2]at ho;refine gA ?_;refine Za ?_;exact ac ((I m.fields)-(i+1)) ω (i+1) rfl tk row o ae t (by rw[ad,ho,ab]) ω;exact ak _ 0 rfl tk row j ae t ψ ω;have h9:¬f.kind=9:=by simpa using h4
 rw[if_neg h9,ZH8]at ad;refine Zp ?_;refine gA ?_;refine Za ?_;exact ac ((I m.fields)-(i+1)) ω (i+1) rfl tk row j ae t (by rw[ad,ab]) ω;refine cd (λh2=>?_) (λh2=>?_);refine Zp ?_;refine jn _ ?_;rw[h2,Bool.true_or];refine rg ?_;refine cd (λh3=>?_) (λh3=>?_);refine Zp ?_;refine jn _ ?_;rw[h2,h3];rfl;refine rg ?_;refine jn _ ?_;rw[h2,h3];rfl;simp at h1;obtain rfl:i=I m.fields:=ω;rw[ZH2]at ab;refine ZR rfl (Zd ?_);refine kl (st) [(3,.loc 3 0),(9,.d (Zk m.fields)),(10,.d (.i (I m.fields))),(11,.d (.i (I m.fields))),(12,.d (.bool (dC ((I m.fields:Int)<I m.fields))))] [(3,[WM j])] Ku (.cons (.cons (t.le rfl) .nil) .nil) ?_;refine xP 3 λx hx=>?_;refine rg ?_;exact hF.ret _ _ rfl φ (ZHL _) ZHH ⟨x,hx,rfl,by rw[<-ab];exact Qt hx⟩;exact ap _ 0 rfl .full _ [] trivial ZQ.nil rfl ω
def Kx(dl:List (Str×Int))(m:Msg):Int:=(Wd m).foldl (λa s=>max a ((Zw s dl).getD 0)) 0
def J1(sl:List (Str×Bool))(m:Msg):Bool:=(m.fields.all λf=>!f.loose)&&(Wd m).all λs=>(Zw s sl).getD false
def Q2(dl:List (Str×Int))(sl:List (Str×Bool))(m:Msg)(n:Nat):Bool:=(ZHT n).all λi=>Q5 (m.fields.take i) dl sl (m.fields.getD i dE)
def ZeL(dl:List (Str×Int))(sl:List (Str×Bool))(m:Msg):Bool :=
 Yt m.name&&(!(Zw m.name dl).isSome&&((dC (1<=(I m.fields:Int))&&dC ((I m.fields:Int)<=40))&&(Q2 dl sl m (I m.fields)&&dC (Kx dl m<16))))
def Zpj:Int:=4611686018427387904
def ZpE{n dl sl f}(h:Q5 n dl sl f=true)(j:Yj f=true):(Y8 f).2<Zpj:=by
 unfold Q5 at h;simp only[ZHN]at h;have i:=h.2.2.2.2;unfold Yj at j;simp only[ZHN,decide_eq_true_eq]at j;have hk:f.kind=1\/f.kind=2\/f.kind=3:=ω;unfold Zft at i;unfold Y8 Zpj;rcases hk with hk|hk|hk<;>simp only[hk,ZIp,if_true,if_false]at i⊢;unfold ck1 ZdY at i;simp only[YI,ZHN,decide_eq_true_eq,Bool.and_true]at i;have:=ZeG (b:=f.bits) ω ω;generalize (2:Int) ^ f.bits.toNat=t at *;omega;unfold ck2 ZdY at i;simp only[YI,ZHN,decide_eq_true_eq,Bool.and_true]at i;have:=ZeG (b:=f.bits) ω ω;generalize (2:Int) ^ f.bits.toNat=t at *;omega;unfold ck3 at i;simp only[YI,ZHN,decide_eq_true_eq,Bool.and_true]at i;omega
def Zw6{n i}(h:∀j,j<i->Yj (n.getD j dE)=true->(Y8 (n.getD j dE)).2<Zpj)(k):((Zw k (Zai n i)).getD (0,0)).2<Zpj:=by
 induction i with
 |zero=>simp[Zai,Zw,Zpj]
 |succ i ih =>have t:=ih λj hj=>h j ω;simp only[Zai];split;rename_i u;rw[QH];split;exact h i ω u;exact t;exact t
def Zrx{dl sl m i}(h:Q2 dl sl m i=true)(hi:i<=I m.fields)(k):((Zw k (QV (m.fields.take i))).getD (0,0)).2<4611686018427387904:=by
 refine Zw6 (λj t n=>?_) k;rw[ZHZ]at t;rw[KX ω]at n⊢;exact ZpE (List.all_eq_true.1 h j (by simp;omega)) n
def Zrv{j dl sl f}(h:Q5 j dl sl f=true):(Z7 f).length<=41:=by
 unfold Q5 at h;simp only[ZHN]at h;have i:=h.2.2.2.2;unfold Z7;rw[ZHO];have h1:(Qo f).length<=1:=by unfold Qo;split<;>simp
 split;rename_i n;unfold Zft at i;simp only[n,ZIp,if_true,if_false]at i;unfold Zjw at i;simp only[ZHN,decide_eq_true_eq]at i;simp only[List.length_map];omega;simp;omega
def Zs6{dl sl m}(h:Q2 dl sl m (I m.fields)=true)(hm:I m.fields<=40):(m.fields.flatMap Z7).length<=1000000:=by
 have j:∀l:List Fld,(∀f∈l,(Z7 f).length<=41)->(l.flatMap Z7).length<=41*I l:=by
  intro l;induction l with
  |nil=>simp
  |cons x r ih =>intro t;have:=ih λf n=>t f (by simp[n]);have:=t x ψ;simp only[List.flatMap_cons,ZHO,ZHW];omega
 have:=j m.fields λf n=>by obtain⟨i,u,rfl⟩:=ZH1 n;have:=Zrv (List.all_eq_true.1 h i (by simpa using u));simpa[ZHU,u]using this
 omega
def ZjG{dl sl m i}:Q2 dl sl m (i+1)=(Q2 dl sl m i&&Q5 (m.fields.take i) dl sl (m.fields.getD i dE)):=by
 unfold Q2;rw[List.range_succ,List.all_append];simp
def Zrw{dl sl m i n}(j:i<n)(h:Q5 (m.fields.take i) dl sl (m.fields.getD i dE)=false):Q2 dl sl m n=false :=
 List.all_eq_false.2 ⟨i,by simpa using j,by rw[h];simp⟩
def QF.ne{st x bd bs k dl sl}(h:QF st x bd bs k dl sl):x≠bd/\x≠bs :=
 ⟨λe=>by have:=h.x;rw[e,h.bd]at this;simp at this,λe=>by have:=h.x;rw[e,h.bs]at this;simp at this⟩
def QF.updX{st x bd bs k dl sl}(h:QF st x bd bs k dl sl)(k'):QF (st.upd x (.cells (k'.cells bd bs))) x bd bs k' dl sl :=
 ⟨ZHP _ _ _,by rw[ZHQ _ _ h.ne.1.symm];exact h.bd,by rw[ZHQ _ _ h.ne.2.symm];exact h.bs⟩
def Zfo(ok:Bool)(st:St)(x bd bs:Nat)(k:Ck)(dl:List (Str×Int))(sl:List (Str×Bool))(r:Res)(S:St):Prop :=
 if ok then r=.ret (.tup [])/\S=((st.upd x (.cells (k.cells bd bs))).upd bd (.map (JZ dl))).upd bs (.map (ZeW sl)) else (∃d,Zef d/\r=.panic d)/\∀b,b≠x->b≠bd->b≠bs->S b=st b
def ZvC{ok st x bd bs k dl sl d c}(h:ok=false)(i:Zef d):Zfo ok st x bd bs k dl sl (.panic d) (st.upd x (.cells c)):=by
 subst h;exact⟨⟨d,i,rfl⟩,λb j _ _=>ZHQ _ _ j⟩
def ZqH{K V}[DecidableEq K]{kp i}{vD:V->D}(h:Zk6 kp i)(k:K)(z:D)(l:List (K×V)):ZeJ kp (i k) z (Qv i vD l)=sO ((Zw k l).elim z vD):=by
 induction l with
 |nil=>rfl
 |cons e r ih =>simp only[Qv,ZHY,ZeJ,h k e.1,Zw];by_cases j:k=e.1;simp[j];simp only[j,decide_false,if_false];exact ih
def nxS(s1:St)(x z2 z6 z9:Nat)(sb:Bool)(dp:Int):St:=((s1.upd z2 (.cells [.ptr x 0])).upd z6 (.cells [.bool sb])).upd z9 (.cells [.i dp])
structure QP(s1:St)(z2 z6 z9:Nat):Prop where
 n2:s1 z2=none
 n6:z6≠z2/\s1 z6=none
 n9:z9≠z6/\z9≠z2/\s1 z9=none
section
variable {s1:St} {x z2 z6 z9:Nat} {sb:Bool} {dp:Int}
def QP.g2(h:QP s1 z2 z6 z9):(nxS s1 x z2 z6 z9 sb dp) z2=sO (.cells [.ptr x 0]):=by
 simp[nxS,ZIi,h.n6.1.symm,h.n9.2.1.symm]
def QP.g6(h:QP s1 z2 z6 z9):(nxS s1 x z2 z6 z9 sb dp) z6=sO (.cells [.bool sb]):=by
 simp[nxS,ZIi,h.n9.1.symm]
def QP.g9:(nxS s1 x z2 z6 z9 sb dp) z9=sO (.cells [.i dp]):=by
 simp[nxS,ZIi]
def QP.gs(h:QP s1 z2 z6 z9){b o}(i:s1 b=sO o):(nxS s1 x z2 z6 z9 sb dp) b=sO o:=by
 have j:b≠z2:=λe=>by rw[e,h.n2]at i;simp at i
 have t:b≠z6:=λe=>by rw[e,h.n6.2]at i;simp at i
 have n:b≠z9:=λe=>by rw[e,h.n9.2.2]at i;simp at i
 simp[nxS,ZIi,j,t,n,i]
def QP.sub(h:QP s1 z2 z6 z9):s1.sub (nxS s1 x z2 z6 z9 sb dp):=λb o i=>h.gs i
def QP.u9(dp'):(nxS s1 x z2 z6 z9 sb dp).upd z9 (.cells [.i dp'])=nxS s1 x z2 z6 z9 sb dp':=by
 unfold nxS;rw[ZH4]
def QP.u6(h:QP s1 z2 z6 z9)(sb'):(nxS s1 x z2 z6 z9 sb dp).upd z6 (.cells [.bool sb'])=nxS s1 x z2 z6 z9 sb' dp:=by
 unfold nxS;rw[St.upd_comm h.n9.1.symm,ZH4]
def QP.disj{j i t}(h:Yc (nxS s1 x z2 z6 z9 sb dp) t):Yc (nxS s1 x z2 z6 z9 j i) t:=λc o z=>by
 have:=h c o z;unfold nxS at this⊢;have n:=Zv this;have u:=Zv n.2;rw[ZHQ _ _ n.1,ZHQ _ _ u.1];exact u.2
def QP.ub(h:QP s1 z2 z6 z9){b o o'}(i:s1 b=sO o):(nxS s1 x z2 z6 z9 sb dp).upd b o'=nxS (s1.upd b o') x z2 z6 z9 sb dp:=by
 have j:b≠z2:=λe=>by rw[e,h.n2]at i;simp at i
 have t:b≠z6:=λe=>by rw[e,h.n6.2]at i;simp at i
 have n:b≠z9:=λe=>by rw[e,h.n9.2.2]at i;simp at i
 unfold nxS;rw[St.upd_comm n,St.upd_comm t,St.upd_comm j]
def QP.of(h:QP s1 z2 z6 z9){b o o'}(i:s1 b=sO o):QP (s1.upd b o') z2 z6 z9:=by
 have j:z2≠b:=λe=>by rw[<-e,h.n2]at i;simp at i
 have t:z6≠b:=λe=>by rw[<-e,h.n6.2]at i;simp at i
 have n:z9≠b:=λe=>by rw[<-e,h.n9.2.2]at i;simp at i
 exact⟨by rw[ZHQ _ _ j];exact h.n2,⟨h.n6.1,by rw[ZHQ _ _ t];exact h.n6.2⟩,⟨h.n9.1,h.n9.2.1,by rw[ZHQ _ _ n];exact h.n9.2.2⟩⟩
end
def Zi0{dl m}(h:∀s,0<=(Zw s dl).getD 0/\(Zw s dl).getD 0<=16):0<=Kx dl m/\Kx dl m<=16:=by
 unfold Kx;have:∀(l:List Str) (b:Int),0<=b->b<=16->0<=l.foldl (λa s=>max a ((Zw s dl).getD 0)) b/\l.foldl (λa s=>max a ((Zw s dl).getD 0)) b<=16:=by
  intro l;induction l with
  |nil=>intro b j i;exact⟨j,i⟩
  |cons s r ih =>intro b j i;have:=h s;exact ih (max b ((Zw s dl).getD 0)) ω ω
 exact this _ 0 ω ω
def Zp6{x bd bs k dl sl st}(hst:QF st x bd bs k dl sl)(hdd:bd≠bs)(hdl:∀s,0<=(Zw s dl).getD 0/\(Zw s dl).getD 0<=16)(m):
  Ze ZHF 236 [.ptr x 0,.agg m.cells] st (Zfo (ZeL dl sl m) st x bd bs { k with field:=-1,m:=m } (WH m.name (Kx dl m+1) dl) (WH m.name (J1 sl m) sl)):=by
 refine Zh (cR 236 f236) λF hF=>?_;have hS:=ZeL.eq_1 dl sl m;have hx:=hst.x;have az:=hst.ne;refine rx @eQ3 ?_;refine rx (nd2 @eQ3 (nd2 @hx (nd2 @Ck.cells.eq_1 (nd2 @ZHP (nd2 @ZH4 (nd2 @YF @YG)))))) ?_;obtain⟨k1,aw⟩:∃k1:Ck,k1={ k with field:=-1,m:=m }:=⟨_,rfl⟩;have u:=hst.updX k1;have a8:(st.upd x (.cells [.str k.d.name,Yy k.d.msgs,.str k.d.start,.map bd,.map bs,.i k.at_,.i (-1),.str m.name,Zk m.fields]))=st.upd x (.cells (k1.cells bd bs)):=by rw[aw];rfl
 rw[a8];rw[<-aw]at hF;generalize ad:st.upd x (.cells (k1.cells bd bs))=S1 at *;have e1:=We (vD:=KL) ZX m.name dl;have e3:=Wr ZX m.name;simp only[show Qa m.name=D.str m.name from rfl]at e1 e3;have ah:∀d,ZeL dl sl m=false->Zef d->Zfo (ZeL dl sl m) st x bd bs k1 (WH m.name (Kx dl m+1) dl) (WH m.name (J1 sl m) sl) (.panic d) S1:=λd h hd=>by rw[<-ad];exact ZvC h hd
 clear a8;refine rx @eQ3 ?_;refine clD (Zbu m.name) ?_;refine cVD (Z0 u.x (Yt m.name) 1) ?_ ?_;rintro d S h;obtain⟨ab,rfl,rfl⟩:=YO h;rw[ab,ZH3]at hS;first|refine⟨by first|trivial|exact⟨rfl,trivial⟩,?_⟩|skip
 refine gR0 ?_;refine rh ?_;refine YT ?_;simp only[Eqs,reduceCtorEq,ZHK,reduceIte,ZHI,ZHM,ZHJ,Msg.cells,u.x,u.bd,Ck.cells,e1,e3,Zm4];refine rg ?_;refine cV (Z0 u.x (!(Zw m.name dl).isSome) 2) ?_ ?_;rintro d S h;obtain⟨ab,rfl,rfl⟩:=YO h;rw[ab,ZH3]at hS;refine gR0 ?_;refine rx (nd2 @eQ3 (nd2 @eQ5 @eQ1)) ?_;refine cV (Z0 u.x (dC (1<=(I m.fields:Int))&&dC ((I m.fields:Int)<=40)) 3) ?_ ?_;rintro d S h;obtain⟨ab,rfl,rfl⟩:=YO h;rw[ab,ZH3]at hS;simp only[ZHN,decide_eq_true_eq]at ab;refine gR0 ?_;refine rg ?_;refine rx (nd2 @eQ3 (nd2 @eQ5 @eQ1)) ?_;subst aw;refine Zb (fr (I m.fields) (λi Q=>∀fl:Int,Q2 dl sl m i=true->i<=I m.fields->Q [(2,.loc 2 0),(3,.loc 3 0),(6,.loc 6 0),(50,.d (Zk m.fields)),(51,.d (.i (I m.fields))),(52,.d (.i i))] [(2,[.ptr x 0]),(3,m.cells),(6,[.bool ((m.fields.take i).all λf=>!f.loose)])] (st.upd x (.cells (({ k with field:=fl,m:=m }:Ck).cells bd bs)))) (λn am=>?_) λbc=>?_);intro i hn fl al hi;refine rg ?_;refine Zd (Zt rfl trivial (λh1=>?_) (λh1=>?_));simp at h1;have hR:=Zrx al hi;have ar:=ZjG (dl:=dl) (sl:=sl) (m:=m) (i:=i);have aj:=Zh6 (p:=λf:Fld=>!f.loose) h1;generalize hf:m.fields.getD i dE=f at *;refine xA (nd2 @eQ5 (nd2 @eQ1 (nd2 @eQ0 @hf))) ?_;refine rx (nd2 @eQ0 (nd2 @Ck.cells.eq_1 (nd2 @ZHP (nd2 @ZH4 (nd2 @YF @YG))))) ?_;have bi:=hst.updX ({ k with field:=(i:Int),m:=m }:Ck);refine rx @eQ0 ?_;simp only[Zen];refine cV (ZlN bi (n:=i) rfl hi f (hR _)) ?_ ?_;rintro d S2 h;obtain⟨ag,rfl,rfl⟩:=YO h;refine gR0 ?_;refine rx @eQ0 ?_;refine gA ?_;rw[show(m.fields.take i)=({ k with field:=(i:Int),m:=m }:Ck).m.fields.take i from rfl]at ar;rw[ag,Bool.and_true]at ar;refine Za ?_;have ai:=am ((I m.fields)-(i+1)) ω (i+1) rfl i (ar.trans al) ω;rw[aj]at ai;exact ai;rintro d S2 h;obtain⟨ag,ac,rfl⟩:=YN h;rw[Zrw h1 (by rw[hf];exact ag),ZH7]at hS;exact hF.pan _ ZHH (ZvC hS ac);simp at h1;obtain rfl:i=I m.fields:=ω;rw[ZH2];rw[al,ZH3]at hS;have av:=Zs6 al ω;refine rx (nd2 @Ck.cells.eq_1 (nd2 @ZHP (nd2 @ZH4 (nd2 @YF @YG)))) ?_;refine rg ?_;refine Zd (Zd ?_);refine xP 2 λz2 h2=>?_;refine xP 6 λz6 h6=>?_;refine xP 9 λz9 h9=>?_;have k6:=Zv h6;have k9:=Zv h9;have au:=Zv k9.2;have a7:(st.upd x (.cells [.str k.d.name,Yy k.d.msgs,.str k.d.start,.map bd,.map bs,.i k.at_,.i (-1),.str m.name,Zk m.fields]))=S:=ad;rw[a7]at h2 k6 k9 au⊢;have z:QP S z2 z6 z9:=⟨h2,k6,⟨k9.1,au⟩⟩;clear h6 h9 k6 k9 au h2;have hlen:(Wd m).length<=1000000:=by have:=QL (m.fields.flatMap Z7) [];unfold Wd;simp only[List.length_nil,Nat.zero_add]at this;omega
 have hmst:S.sub (nxS S x z2 z6 z9 (m.fields.all λf=>!f.loose) 0):=z.sub;rw[show((S.upd z2 (.cells [.ptr x 0])).upd z6 (.cells [.bool (m.fields.all λf=>!f.loose)])).upd z9 (.cells [.i 0])=nxS S x z2 z6 z9 (m.fields.all λf=>!f.loose) 0 from rfl];refine rx @eQ3 ?_;refine cV (Znb m av) ?_ ?_;rintro d S2 ⟨y,hy,hd,rfl⟩;cases hd;refine gR0 ?_;refine Zb ?_;have bj:ddS (m.fields.flatMap Z7)=Wd m:=rfl;have a4:=Zkk (m.fields.flatMap Z7) (by unfold big;omega) y;rw[bj]at a4;refine KM hF rfl trivial [2,6,9] (by show([2,6,9]:List Nat).Nodup;decide) (WD hy) a4.Y (λj hj=>rfl) (λ_=>.next)
  (λj a=>a=nxS S x z2 z6 z9 ((m.fields.all λf=>!f.loose)&&((Wd m).take j).all λs=>(Zw s sl).getD false) (((Wd m).take j).foldl (λa s=>max a ((Zw s dl).getD 0)) 0)) ψ ?_ ?_ ?_ ?_ ?_ ?_
 intro j a hj ak hB F' ready busy hdr a0 ao;subst hB;simp only[Eqs,reduceCtorEq,ZHK,reduceIte,ZHI,ZHM,ZHJ,WT,Kc,Jk,Kq,List.isEmpty_nil,List.isEmpty_cons];refine rg ?_;refine a0 λba=>?_;have aj:=Zh6 (p:=λs:Str=>(Zw s sl).getD false) hj;have aq:=Zwz (f:=λa s=>max a ((Zw s dl).getD 0)) (b:=(0:Int)) hj;generalize hnm:(Wd m).getD j dE=nm at *;have e1:=We (vD:=KL) ZX nm dl;have e2:=We (vD:=D.bool) ZX nm sl;have e3:=Wr ZX nm;simp only[show Qa nm=D.str nm from rfl]at e1 e2 e3;rw[aj,aq]at ao;generalize ((Wd m).take j).foldl (λa s=>max a ((Zw s dl).getD 0)) 0=dp at *;generalize ((Wd m).take j).all (λs=>(Zw s sl).getD false)=sb at *;generalize (m.fields.all λf=>!f.loose)=lo at *;refine rh ?_;refine YT ?_;simp only[Eqs,reduceCtorEq,ZHK,reduceIte,ZHI,ZHM,ZHJ,Zu (z.g2 ),Zu (QP.g9 ),Zu (z.gs u.x),Zu (z.gs u.bd),Ck.cells,e1,e3,Zlo,W7,QP.u9];refine rh ?_;refine Zn ?_;simp only[Eqs,reduceCtorEq,ZHK,reduceIte,ZHI,ZHM,ZHJ,Zu (z.g2 ),Zu (z.g6 ),Zu (z.gs u.x),Zu (z.gs u.bs),Ck.cells,e2,e3,Zm3,W7,z.u6];refine Zf ?_;exact ao.fin ⟨rfl,by rw[<-Bool.and_assoc]⟩ (QP.disj ba) ZHH;intro q a ak hB hq;subst hB;rw[ZH2]at hq⊢;rw[Qt hq];rw[show((m.fields.all λf=>!f.loose)&&(Wd m).all λs=>(Zw s sl).getD false)=J1 sl m from rfl,show(Wd m).foldl (λa s=>max a ((Zw s dl).getD 0)) 0=Kx dl m from rfl]at hq⊢;have hdp:=Zi0 (m:=m) hdl;generalize J1 sl m=sb at *;generalize Kx dl m=dp at *;have a3:=Zu (t:=ZH9 q .dfr) (z.g2 (x:=x) (sb:=sb) (dp:=dp));have bg:=Zu (t:=ZH9 q .dfr) (z.g6 (x:=x) (sb:=sb) (dp:=dp));have ax:=Zu (t:=ZH9 q .dfr) (QP.g9 (s1:=S) (x:=x) (z2:=z2) (z6:=z6) (z9:=z9) (sb:=sb) (dp:=dp));have a5:=Zu (t:=ZH9 q .dfr) (z.gs (x:=x) (sb:=sb) (dp:=dp) u.x);have bb:=Zu (t:=ZH9 q .dfr) (z.gs (x:=x) (sb:=sb) (dp:=dp) u.bd);have bk:=Zu (t:=ZH9 q .dfr) (z.gs (x:=x) (sb:=sb) (dp:=dp) u.bs);generalize hX:(nxS S x z2 z6 z9 sb dp).or (ZH9 q .dfr)=X at *;have n2:∀b o,S b=sO o->z2≠b:=λb o h e=>by rw[<-e,z.n2]at h;simp at h
 have n6:∀b o,S b=sO o->z6≠b:=λb o h e=>by rw[<-e,z.n6.2]at h;simp at h
 have n9:∀b o,S b=sO o->z9≠b:=λb o h e=>by rw[<-e,z.n9.2.2]at h;simp at h
 have u2:∀(Y:St) o,(Y.upd bd o) z2=Y z2:=λY o=>ZHQ _ _ (n2 _ _ u.bd);have u6:∀(Y:St) o,(Y.upd bd o) z6=Y z6:=λY o=>ZHQ _ _ (n6 _ _ u.bd);have u9:∀(Y:St) o,(Y.upd bd o) z9=Y z9:=λY o=>ZHQ _ _ (n9 _ _ u.bd);have ux:∀(Y:St) o,(Y.upd bd o) x=Y x:=λY o=>ZHQ _ _ az.1;have us:∀(Y:St) o,(Y.upd bd o) bs=Y bs:=λY o=>ZHQ _ _ hdd.symm;have v2:∀(Y:St) o,(Y.upd bs o) z2=Y z2:=λY o=>ZHQ _ _ (n2 _ _ u.bs);have v6:∀(Y:St) o,(Y.upd bs o) z6=Y z6:=λY o=>ZHQ _ _ (n6 _ _ u.bs);have v9:∀(Y:St) o,(Y.upd bs o) z9=Y z9:=λY o=>ZHQ _ _ (n9 _ _ u.bs);have vx:∀(Y:St) o,(Y.upd bs o) x=Y x:=λY o=>ZHQ _ _ az.2;have d1:=ZqH (vD:=KL) ZX m.name (D.i 0) dl;have d2:=ZcM (vD:=KL) ZX m.name (dp+1) dl;have s1:=ZqH (vD:=D.bool) ZX m.name (D.bool false) sl;have s2:=ZcM (vD:=D.bool) ZX m.name sb sl;simp only[show Qa m.name=D.str m.name from rfl,show KL (dp+1)=D.i (dp+1) from rfl]at d1 d2 s1 s2;refine xA (nd2 @eQ3 (nd2 @a3 (nd2 @bg (nd2 @ax (nd2 @a5 (nd2 @bb (nd2 @bk (nd2 @u2 (nd2 @u6 (nd2 @u9 (nd2 @ux (nd2 @us (nd2 @v2 (nd2 @v6 (nd2 @v9 (nd2 @vx (nd2 @d1 (nd2 @d2 (nd2 @s1 (nd2 @s2 (nd2 @e3 (nd2 @Ck.cells.eq_1 (nd2 @ZHP (nd2 @ZH4 (nd2 @YF @YG))))))))))))))))))))))))) ?_;refine rx (nd2 @u2 (nd2 @v2 (nd2 @a3 (nd2 @u9 (nd2 @v9 @ax))))) ?_;have a6:(X.upd bd (.map (Qv Qa KL (WH m.name (dp+1) dl)))).upd bs (.map (Qv Qa D.bool (WH m.name sb sl)))=(nxS ((S.upd bd (.map (JZ (WH m.name (dp+1) dl)))).upd bs (.map (ZeW (WH m.name sb sl)))) x z2 z6 z9 sb dp).or (ZH9 q .dfr):=by rw[<-hX,W7,W7,z.ub u.bd,(z.of u.bd).ub (by rw[us];exact u.bs)]
 have ap:QP ((S.upd bd (.map (JZ (WH m.name (dp+1) dl)))).upd bs (.map (ZeW (WH m.name sb sl)))) z2 z6 z9:=(z.of u.bd).of (by rw[us];exact u.bs);have ay:(nxS ((S.upd bd (.map (JZ (WH m.name (dp+1) dl)))).upd bs (.map (ZeW (WH m.name sb sl)))) x z2 z6 z9 sb dp) q=nO:=by
  have bf:q≠bs:=λe=>by have:=z.gs (x:=x) (sb:=sb) (dp:=dp) u.bs;rw[<-e,hq]at this;simp at this
  have bh:q≠bd:=λe=>by have:=z.gs (x:=x) (sb:=sb) (dp:=dp) u.bd;rw[<-e,hq]at this;simp at this
  rw[<-(z.of u.bd).ub (by rw[us];exact u.bs),<-z.ub u.bd,ZHQ _ _ bf,ZHQ _ _ bh];exact hq
 have be:((X.upd bd (.map (Qv Qa KL (WH m.name (dp+1) dl)))).upd bs (.map (Qv Qa D.bool (WH m.name sb sl)))) x=sO (.cells (({ k with field:=-1,m:=m }:Ck).cells bd bs)):=by rw[vx,ux];exact a5
 refine cV (Z0 be (dC (dp<16)) 10) ?_ ?_;rintro d S3 h;obtain⟨af,rfl,rfl⟩:=YO h;rw[af]at hS;refine gR0 ?_;rw[a6];exact hF.fin1 ay (.tup []) _ rfl trivial (ZHL _) ap.sub (by rw[hS];exact⟨rfl,by rw[<-ad]⟩);rintro d S3 h;obtain⟨af,ac,rfl⟩:=YN h;rw[af]at hS;rw[a6];exact hF.pan1 ay _ ap.sub (by rw[hS];exact⟨⟨d,ac,rfl⟩,λb h1 h2 h3=>by rw[ZHQ _ _ h3,ZHQ _ _ h2,<-ad,ZHQ _ _ h1]⟩);intro q a m hm ak ae;simp at ae;intro q a m id hm ak ae;simp at ae;intro q a m d hm ak ae;simp at ae;intro m c ae;simp at ae;rintro d S2 ⟨y,hy,hd,_⟩;cases hd;have a9:=bc _ 0 rfl (-1) (by simp[Q2]) ω;rw[ad]at a9;exact a9;rintro d S h;obtain⟨ab,ac,rfl⟩:=YN h;rw[ab,ZH7]at hS;exact hF.pan _ ZHH (ah _ hS ac);rintro d S h;obtain⟨ab,ac,rfl⟩:=YN h;rw[ab,ZH7]at hS;exact hF.pan _ ZHH (ah _ hS ac);rintro d S h;obtain⟨ab,ac,rfl⟩:=YN h;rw[ab,ZH7]at hS;exact hF.pan _ ZHH (ah _ hS ac)
def Zqx{P}{F:Fr P}{H L d s}(h:DWf d->Wk F H L d s):Wk F H L d s :=
 λg Z w v i tmps n m j=>h j.wf g Z w v i tmps n m j
def DWf.iface_inv{t d}(h:DWf (.iface t d)):DWf d:=by
 cases h with
 |iface _ _ h=>exact h
 |other _ h=>exact absurd h ψ
def Zb8{P i args m s Ψ Ψ'}(h:Zap P i args m s Ψ)(n:∀b S,Ψ b S->Ψ' b S):Zap P i args m s Ψ' :=
 ⟨h.1,λg w vs cf cs z t u=>by
  obtain⟨g',j,s',b,a1,a2,a3,a4⟩:=h.2 g w vs cf cs z t u;exact⟨g',j,s',b,a1,a2,n _ _ a3,a4⟩⟩
def Zhc{z3 z4 c b st}(h3:st z3=sO c)(h4:st z4=sO (.cells [.bool b])):
  Zap ZHF 234 [.ptr z3 0,.ptr z4 0] nO st λ_ S=>S=st:=by
 refine ZcO (cR 234 f234) rfl ψ λF i=>?_;refine rg ?_;refine ZgK i rfl rfl ?_;refine gR0 ?_;refine rg ?_;refine cd (λh=>?_) (λh=>?_);simp at h;refine Zp ?_;exact i.fin ZHH rfl
def Zhd{z3 z4 b st}(hz:z3≠z4)(x y z)(hx:inR .i64 x)(hy:inR .i64 y)(hw:inR .i64 z)(h3:st z3=sO (.cells [.i 0,.i 0,.i 0]))(n:st z4=sO (.cells [.bool b])):
  Zap ZHF 234 [.ptr z3 0,.ptr z4 0] (sO (Zil x y z)) st λb S=>b=true/\S=(st.upd z3 (.cells [.i x,.i y,.i z])).upd z4 (.cells [.bool true]):=by
 refine ZcO (cR 234 f234) rfl (by rintro d ⟨⟩;exact⟨hx,hy,hw,trivial⟩) λF u=>?_;have i:∀o,(st.upd z3 o) z4=sO (.cells [.bool b]):=λo=>by rw[ZHQ _ _ (Ne.symm hz)];exact n
 refine rg ?_;refine Znt u rfl rfl λF2 j=>?_;refine gR0 ?_;refine rx @Zil.eq_1 ?_;refine cd (λh=>?_) (λh=>?_);refine rx (nd2 @Zil.eq_1 (nd2 @h3 (nd2 @n (nd2 @i (nd2 @ZHP (nd2 @ZH4 (nd2 @YF @YG))))))) ?_;refine rx (nd2 @n (nd2 @i (nd2 @ZHP (nd2 @ZH4 (nd2 @YF @YG))))) ?_;refine cd (λt=>?_) (λt=>?_);simp at t;refine Zp ?_;exact j.fin ZHH ⟨rfl,rfl⟩;simp[Zil]at h
def Zde(dl:List (Str×Int))(sl:List (Str×Bool)):List Msg->Option (List (Str×Int)×List (Str×Bool))
 | []=>sO (dl,sl)
 |m::r=>if ZeL dl sl m then Zde (WH m.name (Kx dl m+1) dl) (WH m.name (J1 sl m) sl) r else nO
def Zeu(d:Dfn):Bool :=
 Yt d.name&&((dC (1<=(I d.msgs:Int))&&dC ((I d.msgs:Int)<=60))&&(Zde [] [] d.msgs).elim false λp=>(Zw d.start p.1).isSome)
def Zmn(dl sl l l'):Zde dl sl (l++l')=(Zde dl sl l).elim nO λp=>Zde p.1 p.2 l':=by
 induction l generalizing dl sl with
 |nil=>rfl
 |cons m r ih =>simp only[List.cons_append,Zde];split;exact ih _ _;rfl
def Zrb{l:List Msg}{i dl sl}(h:Zde [] [] (l.take i)=sO (dl,sl))(j:i<I l):Zde [] [] (l.take (i+1))=if ZeL dl sl (l.getD i dE) then sO (WH (l.getD i dE).name (Kx dl (l.getD i dE)+1) dl,WH (l.getD i dE).name (J1 sl (l.getD i dE)) sl) else nO:=by
 rw[Z3 j,Zmn,h];rfl
def ZAA{l i dl sl}(h:Zde [] [] (l.take i)=sO (dl,sl))(t:i<I l)(n:ZeL dl sl (l.getD i dE)=false):Zde [] [] l=nO:=by
 have j:=Zrb h t;rw[n]at j;rw[<-List.take_append_drop (i+1) l,Zmn,j];rfl
structure ZbP(S st:St)(x bd bs z3 z4:Nat)(k:Ck)(dl:List (Str×Int))(sl:List (Str×Bool)):Prop where
 ck:QF S x bd bs k dl sl
 c3:S z3=some (.cells [.i 0,.i 0,.i 0])
 c4:S z4=some (.cells [.bool false])
 sub:st.sub S
 fx:st x=none
 fd:st bd=none
 fs:st bs=none
 f3:st z3=none
 f4:st z4=none
 nd:bd≠bs
 n34:z3≠z4
section
variable {S st:St} {x bd bs z3 z4:Nat} {k:Ck} {dl:List (Str × Int)} {sl:List (Str × Bool)}
def ZbP.n3(h:ZbP S st x bd bs z3 z4 k dl sl):z3≠x/\z3≠bd/\z3≠bs:=by
 refine⟨λe=>?_,λe=>?_,λe=>?_⟩;have i:=h.c3;rw[e,h.ck.x]at i;simp[Ck.cells]at i;have i:=h.c3;rw[e,h.ck.bd]at i;simp at i;have i:=h.c3;rw[e,h.ck.bs]at i;simp at i
def ZbP.n4(h:ZbP S st x bd bs z3 z4 k dl sl):z4≠x/\z4≠bd/\z4≠bs:=by
 refine⟨λe=>?_,λe=>?_,λe=>?_⟩;have i:=h.c4;rw[e,h.ck.x]at i;simp[Ck.cells]at i;have i:=h.c4;rw[e,h.ck.bd]at i;simp at i;have i:=h.c4;rw[e,h.ck.bs]at i;simp at i
def ZbP.move(h:ZbP S st x bd bs z3 z4 k dl sl){S':St}{k':Ck}{dl':List (Str×Int)}{sl':List (Str×Bool)}(j:QF S' x bd bs k' dl' sl')(i:∀b,b≠x->b≠bd->b≠bs->S' b=S b):ZbP S' st x bd bs z3 z4 k' dl' sl':={
 ck:=j
 c3:=by rw[i _ h.n3.1 h.n3.2.1 h.n3.2.2];exact h.c3
 c4:=by rw[i _ h.n4.1 h.n4.2.1 h.n4.2.2];exact h.c4
 sub b o hb:=by rw[i b (λe=>by rw[e,h.fx]at hb;simp at hb) (λe=>by rw[e,h.fd]at hb;simp at hb) (λe=>by rw[e,h.fs]at hb;simp at hb)];exact h.sub b o hb
 fx:=h.fx
 fd:=h.fd
 fs:=h.fs
 f3:=h.f3
 f4:=h.f4
 nd:=h.nd
 n34:=h.n34 }
def ZbP.updX(h:ZbP S st x bd bs z3 z4 k dl sl)(k'):ZbP (S.upd x (.cells (k'.cells bd bs))) st x bd bs z3 z4 k' dl sl :=
 h.move (h.ck.updX k') λb i _ _=>ZHQ _ _ i
def ZbP.bad(h:ZbP S st x bd bs z3 z4 k dl sl){S':St}(ho:∀b,b≠x->b≠bd->b≠bs->S' b=S b){F:Fr ZHF}(hF:Y0 F [.tmp 2,.cellN 3 3,.cell1 4] (λr S=>S=st/\∃a f c,r=Res.ret (.tup [.any,.agg [.i a,.i f,.i c],.bool true])) [.fn 234 [] [.ptr z3 0,.ptr z4 0]]){d:D}(hd:Zef d)(hr:∀s' c3,s' z3=sO (.cells c3)->I c3=3->s' z4=sO (.cells [.bool true])->∃p,YK H L s' [.tmp 2,.cellN 3 3,.cell1 4]=sO (p,[.ptr x 0,.agg c3,.bool true])/\p):Wk F H L d S':=by
 obtain⟨a,f,c,rfl⟩:=hd;refine Zqx λhw=>?_;have i:=DWf.agg_inv (DWf.iface_inv hw);have h1:inR .i64 a:=(i _ ψ).int_inv;have h2:inR .i64 f:=(i _ ψ).int_inv;have h3:inR .i64 c:=(i _ ψ).int_inv;have u:S' z3=sO (.cells [.i 0,.i 0,.i 0]):=by rw[ho _ h.n3.1 h.n3.2.1 h.n3.2.2];exact h.c3
 have j:S' z4=sO (.cells [.bool false]):=by rw[ho _ h.n4.1 h.n4.2.1 h.n4.2.2];exact h.c4
 refine hF.panU ⟨trivial,⟨rfl,rfl,trivial⟩,Zb8 (Zhd h.n34 a f c h1 h2 h3 u j) ?_⟩;rintro b S2 ⟨rfl,rfl⟩;obtain⟨p,n,t⟩:=hr ((S'.upd z3 (.cells [.i a,.i f,.i c])).upd z4 (.cells [.bool true])) [.i a,.i f,.i c] (by rw[ZHQ _ _ h.n34,ZHP]) rfl (ZHP _ _ _);refine⟨p,_,_,st,n,t,?_,?_,rfl,a,f,c,rfl⟩;exact Zk7 rfl (.cons (λ_ _ v _=>.any v) (LeC.refl _));intro b o z;have e1:b≠z3:=λe=>by rw[e,h.f3]at z;simp at z
 have e2:b≠z4:=λe=>by rw[e,h.f4]at z;simp at z
 rw[ZHQ _ _ e2,ZHQ _ _ e1];rw[ho b (λe=>by rw[e,h.fx]at z;simp at z) (λe=>by rw[e,h.fd]at z;simp at z) (λe=>by rw[e,h.fs]at z;simp at z)];exact h.sub b o z
end
def ZbP.mk0{st bd bs x z3 z4 c}(j:st bd=nO)(u:st.upd bd (.map []) bs=nO)(hx:(st.upd bd (.map [])).upd bs (.map []) x=nO)(h3:((st.upd bd (.map [])).upd bs (.map [])).upd x (.cells c) z3=nO)(h4:(((st.upd bd (.map [])).upd bs (.map [])).upd x (.cells c)).upd z3 (.cells [.i 0,.i 0,.i 0]) z4=nO)(k):
  ((((st.upd bd (.map [])).upd bs (.map [])).upd x (.cells c)).upd z3 (.cells [.i 0,.i 0,.i 0])).upd z4 (.cells [.bool false]) x=sO (.cells c) /\
  ZbP ((((((st.upd bd (.map [])).upd bs (.map [])).upd x (.cells c)).upd z3 (.cells [.i 0,.i 0,.i 0])).upd z4 (.cells [.bool false])).upd x (.cells (k.cells bd bs))) st x bd bs z3 z4 k [] []:=by
 have a4:=Zv h4;have b4:=Zv a4.2;have c4:=Zv b4.2;have d4:=Zv c4.2;have a3:=Zv h3;have b3:=Zv a3.2;have t:=Zv b3.2;have ax:=Zv hx;have n:=Zv ax.2;have i:=Zv u;refine⟨?_,⟨⟨?_,?_,?_⟩,?_,?_,?_,?_,?_,?_,?_,?_,?_,?_⟩⟩;rw[ZHQ _ _ b4.1.symm,ZHQ _ _ a3.1.symm,ZHP];exact ZHP _ _ _;rw[ZHQ _ _ n.1.symm,ZHQ _ _ d4.1.symm,ZHQ _ _ t.1.symm,ZHQ _ _ n.1.symm,ZHQ _ _ i.1.symm,ZHP];rfl;rw[ZHQ _ _ ax.1.symm,ZHQ _ _ c4.1.symm,ZHQ _ _ b3.1.symm,ZHQ _ _ ax.1.symm,ZHP];rfl;rw[ZHQ _ _ a3.1,ZHQ _ _ a4.1.symm,ZHP];rw[ZHQ _ _ b4.1,ZHP];intro b o z;have e:∀y,st y=nO->b≠y:=λy hy e=>by rw[e,hy]at z;simp at z
 rw[ZHQ _ _ (e _ n.2),ZHQ _ _ (e _ d4.2),ZHQ _ _ (e _ t.2),ZHQ _ _ (e _ n.2),ZHQ _ _ (e _ i.2),ZHQ _ _ (e _ j)];exact z;exact n.2;exact j;exact i.2;exact t.2;exact d4.2;exact i.1.symm;exact a4.1.symm
def ZwM{c:List D}(h:I c=3):∃a b d,c=[a,b,d]:=by
 match c,h with
 | [a,b,d],_=>exact⟨a,b,d,rfl⟩
def Zkl(d st):
  Ze ZHF 187 [.agg d.cells] st λr S=>S=st/\∃a f c,r=.ret (.tup [.any,.agg [.i a,.i f,.i c],.bool (!Zeu d)]):=by
 refine Zh (cR 187 f187) λF hF=>?_;have hS:=Zeu.eq_1 d;refine rx @eQ2 ?_;refine rx @eQ2 ?_;intro bd aq bs ah;refine Zd ?_;refine xP 13 λx hx=>?_;refine xP 3 λz3 h3=>?_;refine xP 4 λz4 h4=>?_;refine rg ?_;refine Zmy (by obtain⟨_,_,_,_,_,_,rfl⟩:=hF;rfl) rfl rfl rfl rfl rfl rfl trivial trivial ?_ ?_ ?_;trivial;exact⟨rfl,rfl,trivial⟩;have z:=hF.defer 234 [] [.ptr z3 0,.ptr z4 0];clear hF;refine gR0 ?_;generalize F.defer 234 [] [.ptr z3 0,.ptr z4 0]=F at z⊢;obtain⟨ag,u⟩:=ZbP.mk0 aq ah hx h3 h4 ⟨d,-1,-1,⟨[],[]⟩⟩;refine ZaI ag (ds':=Ck.cells ⟨d,-1,-1,⟨[],[]⟩⟩ bd bs) (.cons (ZHL _) (.cons (ZHL _) (.cons (ZHL _) (.cons (ZHL _) (.cons (ZHL _) (.cons (ZHL _) (.cons (ZHL _) (.cons (ZHL _) (.cons (Y3 λb h=>by cases h) .nil))))))))) ?_;generalize (ZIi (ZIi (ZIi (ZIi (ZIi (ZIi st _ _) _ _) _ _) _ _) _ _) _ _)=S at *;clear aq ah hx h3 h4 ag;refine rx @eQ2 ?_;refine cl (Zbu d.name) ?_;refine cV (Z0 u.ck.x (Yt d.name) 1) ?_ ?_;rintro dd S2 h;obtain⟨t,rfl,rfl⟩:=YO h;rw[t,ZH3]at hS;refine gR0 ?_;refine rx (nd2 @eQ2 (nd2 @eQ7 @eQ1)) ?_;refine cV (Z0 u.ck.x (dC (1<=(I d.msgs:Int))&&dC ((I d.msgs:Int)<=60)) 3) ?_ ?_;rintro dd S2 h;obtain⟨t,rfl,rfl⟩:=YO h;rw[t,ZH3]at hS;simp only[ZHN,decide_eq_true_eq]at t;have hlen:=t.2;refine gR0 ?_;refine rx (nd2 @eQ2 (nd2 @eQ7 @eQ1)) ?_;generalize ak:(⟨d,-1,-1,⟨[],[]⟩⟩:Ck)=k0 at *;have ax:k0.d=d:=by rw[<-ak]
 clear ak;refine Zb (fr (I d.msgs) (λi Q=>∀(S:St) (k:Ck) dl sl,ZbP S st x bd bs z3 z4 k dl sl->k.d=d->Zde [] [] (d.msgs.take i)=sO (dl,sl)->(∀s,0<=(Zw s dl).getD 0/\(Zw s dl).getD 0<=16)->i<=I d.msgs->Q [(1,.loc 1 0),(2,.d (.ptr x 0)),(3,.d (.ptr z3 0)),(4,.d (.ptr z4 0)),(33,.d (Yy d.msgs)),(34,.d (.i (I d.msgs))),(35,.d (.i i))] [(1,d.cells)] S) (λn ae=>?_) λar=>?_);intro i hni S k dl sl u aw ac af hi;refine rg ?_;refine Zd (Zt rfl trivial (λh1=>?_) (λh1=>?_));simp at h1;refine xA (nd2 @eQ7 (nd2 @eQ1 @eQ3)) ?_;refine rx (nd2 @u.ck.x (nd2 @Ck.cells.eq_1 (nd2 @ZHP (nd2 @ZH4 (nd2 @YF @YG))))) ?_;have ad:(S.upd x (.cells [.str k.d.name,Yy k.d.msgs,.str k.d.start,.map bd,.map bs,.i i,.i k.field,.str k.m.name,Zk k.m.fields]))=S.upd x (.cells (({ k with at_:=i }:Ck).cells bd bs)):=rfl;rw[ad];have j:=u.updX { k with at_:=i };generalize S.upd x (.cells (({ k with at_:=i }:Ck).cells bd bs))=S1 at *;have ai:({ k with at_:=(i:Int) }:Ck).d=d:=aw;clear ad u;generalize ({ k with at_:=i }:Ck)=k1 at *;have al:=Zrb ac h1;have av:=ZAA ac h1;generalize hm:d.msgs.getD i dE=m at *;refine rx @hm ?_;rw[show(D.agg [.str m.name,Zk m.fields])=.agg m.cells from rfl];refine cV (Zp6 j.ck j.nd af m) ?_ ?_;rintro dd S2 h;unfold Zfo at h;split at h;rename_i t;rw[if_pos t]at al;obtain⟨h4,h5⟩:=h;cases h4;have ap:=j.move (S':=S2) (k':={ k1 with field:=-1,m:=m }) (dl':=WH m.name (Kx dl m+1) dl) (sl':=WH m.name (J1 sl m) sl) (by
   subst h5;have ao:=j.ck.ne;exact⟨by rw[ZHQ _ _ ao.2,ZHQ _ _ ao.1,ZHP],by rw[ZHQ _ _ j.nd,ZHP],ZHP _ _ _⟩) (λb h1 h2 h3=>by rw[h5,ZHQ _ _ h3,ZHQ _ _ h2,ZHQ _ _ h1])
 have aj:∀s,0<=(Zw s (WH m.name (Kx dl m+1) dl)).getD 0/\(Zw s (WH m.name (Kx dl m+1) dl)).getD 0<=16:=λs=>by
  rw[QH];split;have hd16:=Zi0 (m:=m) af;have:Kx dl m<16:=by unfold ZeL at t;simp only[ZHN,decide_eq_true_eq]at t;exact t.2.2.2.2
  simp only[ZIk];omega;exact af s
 clear h5;refine gR0 ?_;refine gA ?_;refine Za ?_;exact ae ((I d.msgs)-(i+1)) ω (i+1) rfl _ _ _ _ ap ai al aj ω;exact absurd h.1 ψ;rintro dd S2 h;unfold Zfo at h;split at h;exact absurd h.1 ψ;rename_i am;obtain⟨⟨d2,ab,h4⟩,h5⟩:=h;cases h4;have hb:ZeL dl sl m=false:=by simpa using am
 rw[av hb]at hS;exact j.bad h5 (by rw[hS]at z;exact z) ab (λs' c3 h1 h2 h3=>by obtain⟨u1,u2,u3,rfl⟩:=ZwM h2;refine⟨_,by simp only[Eqs,reduceCtorEq,ZHK,reduceIte,ZHI,ZHM,ZHJ,YK,Ks,h1,h3];rfl,?_⟩;trivial);simp at h1;obtain rfl:i=I d.msgs:=ω;rw[ZH2]at ac;rw[ac]at hS;simp only[Option.elim]at hS;refine rx (nd2 @u.ck.x (nd2 @Ck.cells.eq_1 (nd2 @ZHP (nd2 @ZH4 (nd2 @YF @YG))))) ?_;have ad:(S.upd x (.cells [.str k.d.name,Yy k.d.msgs,.str k.d.start,.map bd,.map bs,.i (-1),.i k.field,.str k.m.name,Zk k.m.fields]))=S.upd x (.cells (({ k with at_:=-1 }:Ck).cells bd bs)):=rfl;rw[ad];have j:=u.updX { k with at_:=-1 };generalize S.upd x (.cells (({ k with at_:=-1 }:Ck).cells bd bs))=S1 at *;clear ad u;generalize ({ k with at_:=-1 }:Ck)=k1 at *;have e1:=We (vD:=KL) ZX d.start dl;have e3:=Wr ZX d.start;simp only[show Qa d.start=D.str d.start from rfl]at e1 e3;refine rh ?_;refine YT ?_;simp only[Eqs,reduceCtorEq,ZHK,reduceIte,ZHI,ZHM,ZHJ,Dfn.cells,j.ck.x,j.ck.bd,Ck.cells,e1,e3,Zm4];refine rg ?_;refine cV (Z0 j.ck.x (Zw d.start dl).isSome 11) ?_ ?_;rintro dd S2 h;obtain⟨t,rfl,rfl⟩:=YO h;rw[t]at hS;refine gR0 ?_;have au:∀o,(S2.upd z3 o) z4=sO (.cells [.bool false]):=λo=>by rw[ZHQ _ _ j.n34.symm];exact j.c4
 refine rx (nd2 @j.c3 (nd2 @j.c4 (nd2 @au (nd2 @ZHP (nd2 @ZH4 (nd2 @YF @YG)))))) ?_;refine z.retU ⟨trivial,⟨rfl,rfl,trivial⟩,Zb8 (Zhc (by rw[ZHQ _ _ j.n34,ZHP]) (ZHP _ _ _)) ?_⟩;rintro b S3 rfl;rw[ite_self];have g3:((S2.upd z3 (.cells [.i 0,.i 0,.i 0])).upd z4 (.cells [.bool false])) z3=sO (.cells [.i 0,.i 0,.i 0]):=by rw[ZHQ _ _ j.n34,ZHP]
 have g4:((S2.upd z3 (.cells [.i 0,.i 0,.i 0])).upd z4 (.cells [.bool false])) z4=sO (.cells [.bool false]):=ZHP _ _ _;refine⟨_,[.ptr x 0,.agg [.i 0,.i 0,.i 0],.bool false],.tup [.any,.agg [.i 0,.i 0,.i 0],.bool false],st,by simp only[Eqs,reduceCtorEq,ZHK,reduceIte,ZHI,ZHM,ZHJ,YK,Ks,g3,g4];rfl,φ,?_,?_,rfl,0,0,0,by rw[hS];rfl⟩;exact Zk7 rfl (.cons (λ_ _ v _=>.any v) (LeC.refl _));intro b o hb;have e1:b≠z3:=λe=>by rw[e,j.f3]at hb;simp at hb
 have e2:b≠z4:=λe=>by rw[e,j.f4]at hb;simp at hb
 rw[ZHQ _ _ e2,ZHQ _ _ e1];exact j.sub b o hb;rintro dd S2 h;obtain⟨t,ab,rfl⟩:=YN h;rw[t]at hS;exact j.bad (λ_ _ _ _=>rfl) (by rw[hS]at z;exact z) ab (λs' c3 h1 h2 h3=>by obtain⟨u1,u2,u3,rfl⟩:=ZwM h2;refine⟨_,by simp only[Eqs,reduceCtorEq,ZHK,reduceIte,ZHI,ZHM,ZHJ,YK,Ks,h1,h3];rfl,?_⟩;trivial);exact ar _ 0 rfl _ k0 [] [] u ax rfl (by simp[Zw]) ω;rintro dd S2 h;obtain⟨t,ab,rfl⟩:=YN h;rw[t,ZH7]at hS;exact u.bad (λ_ _ _ _=>rfl) (by rw[hS]at z;exact z) ab (λs' c3 h1 h2 h3=>by obtain⟨u1,u2,u3,rfl⟩:=ZwM h2;refine⟨_,by simp only[Eqs,reduceCtorEq,ZHK,reduceIte,ZHI,ZHM,ZHJ,YK,Ks,h1,h3];rfl,?_⟩;trivial);rintro dd S2 h;obtain⟨t,ab,rfl⟩:=YN h;rw[t,ZH7]at hS;exact u.bad (λ_ _ _ _=>rfl) (by rw[hS]at z;exact z) ab (λs' c3 h1 h2 h3=>by obtain⟨u1,u2,u3,rfl⟩:=ZwM h2;refine⟨_,by simp only[Eqs,reduceCtorEq,ZHK,reduceIte,ZHI,ZHM,ZHJ,YK,Ks,h1,h3];rfl,?_⟩;trivial)
def ZoO(d st):
  Ze ZHF 144 [.agg d.cells] st λr S=>S=st/\∃a f c,r=.ret (.tup [.agg [.i a,.i f,.i c],.bool (!Zeu d)]):=by
 refine Zh (cR 144 f144) λF i=>?_;refine rx @eQ2 ?_;refine rx @eQ2 ?_;rw[show(D.agg [.str d.name,Yy d.msgs,.str d.start])=.agg d.cells from rfl];refine cV (Zkl d st) ?_ ?_;rintro j S2 ⟨rfl,a,f,c,h⟩;cases h;refine gR0 ?_;refine rg ?_;exact i.ret _ S2 rfl ψ (ZHL _) ZHH ⟨rfl,a,f,c,rfl⟩;rintro j S2 ⟨_,a,f,c,h⟩;cases h
def Zwn{f}(j:JJ f=true):dC (Zfx f=Zfj f.name f.kind)=Zeb f:=by
 unfold JJ at j;simp only[ZHN,decide_eq_true_eq]at j;have i:f.kind=1\/f.kind=2\/f.kind=3\/f.kind=4\/f.kind=5\/f.kind=6\/f.kind=7\/f.kind=8\/f.kind=9\/f.kind=10\/f.kind=11\/f.kind=12:=ω;obtain⟨name,kind,bits,little,loose,low,high,size,of,tag,from_,cases_,check,key⟩:=f;obtain⟨base,terms⟩:=size;simp only at i;clear j;rw[Bool.eq_iff_iff];rcases i with h|h|h|h|h|h|h|h|h|h|h|h<;>subst h<;>simp[Zfx,ZsM,ZsN,ZsO,ZnI,ZsP,ZsQ,ZnJ,ZsR,ZnK,ZpA,ZpB,Zle,Zfj,Zeb,zrA,zrB,zrC,Zff,Zxx,Qi]<;>(try(constructor<;>(intro h;simp_all)))<;>(try(intro _;simp only[and_assoc]))
def Zqo(lo hi a b):YI lo hi [a,b]=!(dC (a<lo) ||(dC (b<a) ||decide (hi<b))):=by
 rw[Bool.eq_iff_iff];simp[YI];omega
def ZA5(f):ZdY f=!Jy f:=by
 rw[Bool.eq_iff_iff];unfold ZdY Jy;cases f.little<;>simp;by_cases i:0<=f.bits;rw[Int.tmod_eq_emod_of_nonneg i];omega;omega
def Zl6{α p}{l:List α}{x:α}:Zi p (l++[x])=if 0<=Zi p l then Zi p l else if p x then (I l) else -1:=by
 induction l with
 |nil=>simp[Zi]
 |cons y r ih =>have h1:=QY p r;simp only[List.cons_append,Zi,ih,ZHW];split;simp;by_cases h:0<=Zi p r;simp[h,show ¬Zi p r<0 by omega,show 0<=Zi p r+1 by omega];simp only[h,if_false,show Zi p r<0 by omega,if_true];by_cases i:p x=true;simp[i,show ¬((I r:Int)<0) by omega];simp[i]
def Zjn(fs:List Fld)(n:Nat):Prop:=∀i,i<n->Zi (λx=>dC (x.name=(fs.getD i dE).name)) (fs.take i)<0
def Za0{α}(p:α->Bool)(l:List α)(h:0<=Zi p l):(Zi p l).toNat<I l:=by
 have:=Ys p l;omega
def Zt2{z n}(hn:n<=I z)(hd:Zjn z n)(k):Zw k (Zai z n)=Z4 (z.take n) k:=by
 induction n with
 |zero=>simp[Zai,Zw,Z4,Zi]
 |succ n ih =>
  have ih:=ih ω λi hi=>hd i ω;have t:=hd n ω;rw[Z3 (show n<I z by omega)];have j:(z.take n).length=n:=by simp;omega
  simp only[Zai];generalize z.getD n dE=f at *;unfold Z4;rw[Zl6];by_cases hk:f.name=k;rw[hk]at t;rw[if_neg (show ¬0<=Zi (λf=>dC (f.name=k)) (z.take n) by omega)];simp only[hk,decide_true,if_true,j,show ¬((n:Int)<0) by omega,if_false];have hg:(z.take n++[f]).getD ((n:Int)).toNat dE=f:=by simp[ZHU,List.getElem?_append,j]
  rw[hg];split;rw[QH,if_pos rfl];rw[ih];unfold Z4;rw[if_pos t];have u:¬k=f.name:=λh=>hk h.symm;have h0:Zw k (if Yj f=true then WH f.name (Y8 f) (Zai z n) else Zai z n)=Zw k (Zai z n):=by split;rw[QH,if_neg u];rfl
  rw[h0,ih];unfold Z4;simp only[hk,decide_false,ZIe,if_false];by_cases hp:0<=Zi (λf=>dC (f.name=k)) (z.take n);have hl:=Za0 _ _ hp;rw[if_pos hp];have hg:(z.take n++[f]).getD (Zi (λf=>dC (f.name=k)) (z.take n)).toNat dE=(z.take n).getD (Zi (λf=>dC (f.name=k)) (z.take n)).toNat dE:=by simp[ZHU,ZIc hl]
  rw[hg];rw[if_neg hp,if_pos ω,if_pos ω]
structure ZcS(d:Dfn)(a:Nat)(deps:List Int)(dl:List (Str×Int))(sl:List (Str×Bool)):Prop where
 len:I deps=a
 dep:∀s,Zw s dl=if Zr d s a<0 then none else some (deps.getD (Zr d s a).toNat default)
 str:∀s,Zw s sl=if Zr d s a<0 then none else some ((W1 d a).getD (Zr d s a).toNat default)
def ZcS.has{d a deps dl sl}(h:ZcS d a deps dl sl)(s):(Zw s dl).isSome=!dC (Zr d s a<0):=by
 rw[h.dep];split<;>simp_all
def ZcS.strict{d a deps dl sl}(h:ZcS d a deps dl sl)(s):(Zw s sl).getD false=(!dC (Zr d s a<0)&&(W1 d a).getD (Zr d s a).toNat dE):=by
 rw[h.str];split<;>simp_all
def ZCG{f}(hk:f.kind=1\/f.kind=2):(if f.kind=1 then ck1 f else ck2 f)=dC (KA f=0):=by
 unfold ck1 ck2 KA Zbr Zf9;rw[ZA5,Zqo];cases hb:Jy f
 .have hp:(0:Int)<2 ^ f.bits.toNat:=by have:=Nat.two_pow_pos f.bits.toNat;rw[show(2:Int) ^ f.bits.toNat=((2 ^ f.bits.toNat:Nat):Int) from(Int.natCast_pow 2 f.bits.toNat).symm];omega
  generalize (2:Int) ^ f.bits.toNat=pw at *;rcases hk with hk|hk<;>rw[Bool.eq_iff_iff]<;>simp[hk,YI]<;>(try split)<;>(try omega);all_goals (try simp_all)<;>omega
 simp
def Zni{i}(u:Zjn i (I i)){s}:Zf1 i s=dC (Zak i s=0):=by
 have j:(λk=>Zw k (QV i))=Z4 i:=by funext k;have:=Zt2 (ZHV _) u k;rw[ZH2]at this;exact this
 unfold Zf1 Zak ivP;rw[j];have n:s.terms.all (Zc3 i)=!s.terms.any (YP (Z4 i)):=by
  rw[List.not_any_eq_all_not]
  congr 1;funext t
  have:Zw t.field (QV i)=Z4 i t.field:=congrFun j _;unfold Zc3 YP;rw[this];simp
 rw[n];cases ZI s;simp;cases s.terms.any (YP (Z4 i));simp only[ZH3,Bool.not_false,ZIe,if_false,Bool.true_eq_false];rw[Bool.eq_iff_iff];simp;omega;simp
def Zzx{d a deps dl sl}(h:ZcS d a deps dl sl)(hi lo l):ZcY dl hi lo l=dC (J7 d a hi lo l=0):=by
 induction l generalizing lo with
 |nil=>simp[ZcY,J7]
 |cons c r ih =>simp only[ZcY,J7,Zqo,h.has,ih];rcases Bool.eq_false_or_eq_true (dC (c.low<lo) ||(dC (c.high<c.low) ||decide (hi<c.high))) with hb|hb<;>simp only[hb];simp;simp only[Bool.not_false,ZH3,ZIe,if_false];by_cases i:Zr d c.of a<0<;>simp[i]
def ZzI{i}(n:Zjn i (I i))(k):(Zw k (QV i)).isSome=(!dC (Zi (λf=>dC (f.name=k)) i<0)&&Yj (i.getD (Zi (λf=>dC (f.name=k)) i).toNat dE)) /\
  ((Zw k (QV i)).isSome=true->(Zw k (QV i)).getD (0,0)=Y8 (i.getD (Zi (λf=>dC (f.name=k)) i).toNat dE)):=by
 have:=Zt2 (ZHV _) n k;rw[ZH2]at this;rw[this];unfold Z4;split;rename_i h;simp[h];rename_i h;split;rename_i j;simp only[h,j];simp;rename_i j;simp only[h,j];simp
def Zz3{d a deps dl sl}(h:ZcS d a deps dl sl){m i}(hi:i<I m.fields)(hd:Zjn m.fields i){f}(hk:JJ f=true):
  Zft (m.fields.take i) dl sl f=dC (K5 d a m i f=0):=by
 have af:(m.fields.take i).length=i:=by simp;omega
 have t:Zjn (m.fields.take i) (m.fields.take i).length:=λj hj=>by rw[af]at hj;rw[KX ω,List.take_take,Nat.min_eq_left ω];exact hd j hj
 unfold JJ at hk;simp only[ZHN,decide_eq_true_eq]at hk;have ai:f.kind=1\/f.kind=2\/f.kind=3\/f.kind=4\/f.kind=5\/f.kind=6\/f.kind=7\/f.kind=8\/f.kind=9\/f.kind=10\/f.kind=11\/f.kind=12:=ω;have hn:=ZCG (f:=f);unfold Zft K5;rcases ai with h1|h1|h1|h1|h1|h1|h1|h1|h1|h1|h1|h1<;>simp only[h1,ZIp,if_true,if_false,true_or,or_true,or_self,forall_const,false_implies]at hn⊢;exact hn;exact hn;unfold ck3;rw[Zqo,ZgJ];by_cases hA:0<=f.low/\f.low<=f.high/\f.high<34359738368;simp[hA];omega;rw[Bool.eq_iff_iff];simp;omega;exact Zni t;unfold ck5;rw[Bool.eq_iff_iff];simp[YI]<;>omega;unfold ck6;rw[Bool.eq_iff_iff];simp[YI]<;>omega;unfold ck7;rw[h.has,Zni t];by_cases h2:Zr d f.of a<0<;>simp[h2];unfold ck8;rw[h.has];by_cases h2:Zr d f.of a<0<;>simp[h2];have ht:=ZzI t f.tag;unfold Zjw Zej ZbT;rw[Zzx h];have ad:Yb m f.tag i=Zi (λf'=>dC (f'.name=f.tag)) (m.fields.take i):=rfl;rw[ad];have aj:Zqg m f.tag i=Zf8 (m.fields.take i) f:=rfl;rw[aj];generalize hz:Zi (λf'=>dC (f'.name=f.tag)) (m.fields.take i)=z at *;by_cases ac:z<0;simp[ht.1,ac];have ag:=Za0 (λf':Fld=>dC (f'.name=f.tag)) (m.fields.take i) ω;rw[hz,af]at ag;have hg:(m.fields.take i).getD z.toNat dE=m.fields.getD z.toNat dE:=KX ag;rw[hg]at ht;by_cases n:Yj (m.fields.getD z.toNat dE)=true;have hs:(Zw f.tag (QV (m.fields.take i))).isSome=true:=by rw[ht.1,n];simp[ac]
 rw[ht.2 hs,hs,n];cases Zf8 (m.fields.take i) f;simp only[ac,decide_false,Bool.not_true,Bool.or_self,Bool.not_false,ZH3,ZIe,if_false,Bool.false_or];by_cases hl:1<=I f.cases/\I f.cases<=40;have u:(dC (1<=(I f.cases:Int))&&dC ((I f.cases:Int)<=40))=true:=by simp only[ZHN,decide_eq_true_eq];omega
 have ab:(dC (I f.cases<1) ||decide (40<I f.cases))=false:=by simp only[Bool.or_eq_false_iff,decide_eq_false_iff_not];omega
 rw[u,ab];simp;have u:(dC (1<=(I f.cases:Int))&&dC ((I f.cases:Int)<=40))=false:=by simp only[ZIl,decide_eq_false_iff_not];omega
 have ab:(dC (I f.cases<1) ||decide (40<I f.cases))=true:=by simp only[ZH0,decide_eq_true_eq];omega
 rw[u,ab];simp;simp;have ae:Yj (m.fields.getD z.toNat dE)=false:=by simpa using n
 rw[ht.1,ae];simp;unfold Zwi ZfJ;rw[Bool.eq_iff_iff];generalize f.bits=b;by_cases h0:0<=b;rw[Int.tmod_eq_emod_of_nonneg h0];simp;omega;simp;omega;unfold Zwj;have ad:Yb m f.from_ i=Zi (λf'=>dC (f'.name=f.from_)) (m.fields.take i):=rfl;rw[ad];rw[Bool.eq_iff_iff];simp[YI];generalize Zi (λf'=>dC (f'.name=f.from_)) (m.fields.take i)=z;split;simp;omega;split<;>simp<;>omega;unfold Zwk ZlI;rw[h.strict,Zni t];by_cases ah:f.key<0\/4294967295<f.key;rw[if_pos (by simpa using ah)];simp[YI];omega;rw[if_neg (by simpa using ah)];have:YI 0 4294967295 [f.key]=true:=by simp[YI];omega
 rw[this];by_cases h2:Zr d f.of a<0;simp[h2];simp only[h2,decide_false,Bool.not_false,ZH3,Bool.false_or];cases(W1 d a).getD (Zr d f.of a).toNat dE<;>simp
def ZzK{d a deps dl sl}(h:ZcS d a deps dl sl){m i}(hi:i<I m.fields)(z:Zjn m.fields i)(f):
  Q5 (m.fields.take i) dl sl f=dC (WX d a m i f=0):=by
 unfold Q5 WX;rw[show Zi (λx=>dC (x.name=f.name)) (m.fields.take i)=Yb m f.name i from rfl];cases Yt f.name;simp;by_cases u:0<=Yb m f.name i;simp[u];by_cases t:JJ f=true;have j:(dC (f.kind<1) ||decide (12<f.kind))=false:=by unfold JJ at t;simp only[ZHN,decide_eq_true_eq]at t;simp only[Bool.or_eq_false_iff,decide_eq_false_iff_not];omega
 rw[Zwn t,Zz3 h hi z t,t,j];cases Zeb f<;>simp[u];have n:JJ f=false:=by simpa using t
 have j:(dC (f.kind<1) ||decide (12<f.kind))=true:=by unfold JJ at t;simp only[ZHN,decide_eq_true_eq]at t;simp only[ZH0,decide_eq_true_eq];omega
 rw[n,j];simp[u]
def ZpF{d a m j l l'}(h:YD d a m j l=nO):YD d a m j (l++l')=YD d a m (j+I l) l':=by
 induction l generalizing j with
 |nil=>rfl
 |cons f r ih =>
  simp only[YD]at h;split at h;rename_i i;simp only[List.cons_append,YD,i,if_true,ZHW];rw[ih h]
  congr 1;omega
  simp at h
def Zx8{d a deps dl sl}(h:ZcS d a deps dl sl){m}(n)(hn:n<=I m.fields):
  (Q2 dl sl m n=true↔YD d a m 0 (m.fields.take n)=nO)/\(Q2 dl sl m n=true->Zjn m.fields n):=by
 induction n with
 |zero=>simp[Q2,YD,Zjn]
 |succ n ih =>
  have ih:=ih ω;rw[ZjG,Z3 (show n<I m.fields by omega),ZHN];have i:(m.fields.take n).length=n:=by simp;omega
  by_cases hp:Q2 dl sl m n=true;have hf:=ih.1.1 hp;have hd:=ih.2 hp;rw[ZpF hf,ZzK h (show n<I m.fields by omega) hd,i,Nat.zero_add];simp only[YD];refine⟨?_,λz=>?_⟩;simp only[hp,true_and,decide_eq_true_eq];split<;>simp_all;have hz:WX d a m n (m.fields.getD n dE)=0:=by simpa using z.2
  intro j hj;by_cases u:j<n;exact hd j u;obtain rfl:j=n:=ω;unfold WX at hz;split at hz;· omega
  split at hz;· omega
  rename_i h2;unfold Yb at h2;omega;refine⟨?_,λz=>absurd z.1 hp⟩;constructor;intro z;exact absurd z.1 hp;intro z;exfalso;apply hp;refine ih.1.2 ?_;have t:∀(j:Nat) (l l':List Fld),YD d a m j (l++l')=nO->YD d a m j l=nO:=by
   intro j l l';induction l generalizing j with
   |nil=>intro _;rfl
   |cons f r ih2 =>simp only[List.cons_append,YD];split;exact ih2 _;simp
  exact t _ _ _ z
def Zn6{α:Type}{l:List α}{p q:α->Int}(h:∀s∈l,p s=q s){b}:l.foldl (λa s=>max a (p s)) b=l.foldl (λa s=>max a (q s)) b:=by
 induction l generalizing b with
 |nil=>rfl
 |cons x r ih =>simp only[List.foldl_cons,h x ψ];exact ih (λs i=>h s (by simp[i]))
def Zwd{α:Type}{p q}{l:List α}(h:∀x∈l,p x=q x):l.all p=l.all q:=by
 induction l with
 |nil=>rfl
 |cons x r ih=>simp only[List.all_cons,h x ψ,ih λy i=>h y (by simp[i])]
def ZCB{d a deps dl sl}(h:ZcS d a deps dl sl){m}(hm:d.msgs.getD a dE=m):
  (ZeL dl sl m=true↔WS d a m=nO/\Zel d a deps m<=16)/\(WS d a m=nO->Kx dl m+1=Zel d a deps m/\J1 sl m=Je d m (W1 d a)):=by
 have hf:=Zx8 h (m:=m) (I m.fields) (ZHV _);rw[ZH2]at hf;have h2:WS d a m=nO->Kx dl m+1=Zel d a deps m/\J1 sl m=Je d m (W1 d a):=λhh=>by
  have i:=(Zt4 hm hh).ref;rw[hm]at i;constructor;unfold Kx Zel Zbi
  congr 1
  refine Zn6 (λs hs=>?_);have:=i s hs;rw[h.dep,if_neg ω];rfl;unfold J1 Je
  congr 1
  refine Zwd λs hs=>?_;have:=i s hs;rw[h.strict,JP];simp[show ¬Zr d s a<0 by omega]
 refine⟨?_,h2⟩;unfold ZeL;rw[h.has];by_cases z:Yt m.name=true;by_cases hd:Zr d m.name a<0;by_cases hl:1<=I m.fields/\I m.fields<=40;have n:(dC (1<=(I m.fields:Int))&&dC ((I m.fields:Int)<=40))=true:=by simp only[ZHN,decide_eq_true_eq];omega
 have j:(dC (I m.fields<1) ||decide (40<I m.fields))=false:=by simp only[Bool.or_eq_false_iff,decide_eq_false_iff_not];omega
 have t:WS d a m=YD d a m 0 m.fields:=by unfold WS;rw[if_neg (by simp[z]),if_neg ω,j];rfl
 rw[t]at h2⊢;rw[n,z];simp only[hd,decide_true,Bool.not_true,Bool.not_false,ZH3,ZHN,decide_eq_true_eq,hf.1];constructor;rintro⟨h3,h4⟩;have:=(h2 h3).1;exact⟨h3,ω⟩;rintro⟨h3,h4⟩;have:=(h2 h3).1;exact⟨h3,ω⟩;have n:(dC (1<=(I m.fields:Int))&&dC ((I m.fields:Int)<=40))=false:=by simp only[ZIl,decide_eq_false_iff_not];omega
 have j:(dC (I m.fields<1) ||decide (40<I m.fields))=true:=by simp only[ZH0,decide_eq_true_eq];omega
 unfold WS;rw[n,j,if_neg (by simp[z]),if_neg ω];simp;unfold WS;rw[if_neg (by simp[z]),if_pos ω];simp[hd];have u:Yt m.name=false:=by simpa using z
 unfold WS;rw[u];simp
def ZnX{d a m}(i:a<I d.msgs)(hm:d.msgs.getD a dE=m)(s):Zr d s (a+1)=if 0<=Zr d s a then Zr d s a else if m.name=s then (a:Int) else -1:=by
 unfold Zr;rw[Z3 i,hm,Zl6];have:(d.msgs.take a).length=a:=by simp;omega
 rw[this];simp
def ZjK{α:Type}[Inhabited α]{l}{a:Nat}{v:α}(h:I l=a):(l++[v]).getD a dE=v:=by subst h;simp[ZHU]
def ZjL{α:Type}[Inhabited α]{l}{a:Nat}{v:α}(h:a<I l):(l++[v]).getD a dE=l.getD a dE:=by simp[ZHU,ZIc h]
def ZcS.step{d:Dfn}{a:Nat}{deps:List Int}{dl:List (Str×Int)}{sl:List (Str×Bool)}(h:ZcS d a deps dl sl){m:Msg}(t:a<I d.msgs)(hm:d.msgs.getD a dE=m)(hnew:Zr d m.name a<0)(v:Int):
  ZcS d (a+1) (deps++[v]) (WH m.name v dl) (WH m.name (Je d m (W1 d a)) sl):={
 len:=by simp[h.len]
 dep s:=by
  rw[QH,ZnX t hm,h.dep];by_cases n:s=m.name;subst n;rw[if_pos rfl,if_neg (show ¬0<=Zr d m.name a by omega),if_pos rfl,if_neg ω];rw[show((a:Int)).toNat=a from rfl,ZjK h.len];rw[if_neg n];by_cases j:0<=Zr d s a;have i:(Zr d s a).toNat<I deps:=by
   have:=Za0 _ _ j;rw[h.len];have u:(d.msgs.take a).length<=a:=by simp;omega
   unfold Zr;omega
  rw[if_pos j,if_neg ω,if_neg ω,ZjL i];rw[if_neg j,if_neg (show ¬m.name=s from λe=>n e.symm),if_pos ω,if_pos ω]
 str s:=by
  rw[QH,ZnX t hm,h.str];simp only[W1,hm];by_cases n:s=m.name;subst n;rw[if_pos rfl,if_neg (show ¬0<=Zr d m.name a by omega),if_pos rfl,if_neg ω];rw[show((a:Int)).toNat=a from rfl,ZjK (JP d a)];rw[if_neg n];by_cases j:0<=Zr d s a;have i:(Zr d s a).toNat<(W1 d a).length:=by
   have:=Za0 _ _ j;rw[JP];have u:(d.msgs.take a).length<=a:=by simp;omega
   unfold Zr;omega
  rw[if_pos j,if_neg ω,if_neg ω,ZjL i];rw[if_neg j,if_neg (show ¬m.name=s from λe=>n e.symm),if_pos ω,if_pos ω] }
def ZCO{d}(n):∀{a deps dl sl},ZcS d a deps dl sl->a+n=I d.msgs ->
  ((Zde dl sl (d.msgs.drop a)).elim false λp=>(Zw d.start p.1).isSome)=(Qh d a (d.msgs.drop a) deps).isNone:=by
 induction n with
 |zero =>intro a deps dl sl h ha;obtain rfl:a=I d.msgs:=ω;rw[List.drop_length];simp only[Zde,Qh,Option.elim,h.has];by_cases hs:Zr d d.start (I d.msgs)<0<;>simp[hs]
 |succ n ih =>
  intro a deps dl sl h ha;have j:a<I d.msgs:=ω;rw[Ww j];generalize hm:d.msgs.getD a dE=m;have z:=ZCB h hm;simp only[Zde,Qh];by_cases u:ZeL dl sl m=true;obtain⟨t,h2⟩:=z.1.1 u;obtain⟨h3,h4⟩:=z.2 t;rw[if_pos u,t];simp only;rw[if_neg ω,h3,h4];refine ih (h.step j hm ?_ _) ω;unfold WS at t;split at t;· simp at t
  split at t;· simp at t
  omega;rw[if_neg u];cases t:WS d a m with
  |some x=>obtain⟨i,c⟩:=x;rfl
  |none =>have:¬Zel d a deps m<=16:=λh2=>u (z.1.2 ⟨t,h2⟩);simp only;rw[if_pos ω];rfl
def ZtL(d):Zeu d=Zb7 d:=by
 unfold Zeu Zb7 ZbV;cases hn:Yt d.name;rfl;by_cases hl:1<=I d.msgs/\I d.msgs<=60;have j:(dC (1<=(I d.msgs:Int))&&dC ((I d.msgs:Int)<=60))=true:=by simp only[ZHN,decide_eq_true_eq];omega
 have i:(dC (I d.msgs<1) ||decide (60<I d.msgs))=false:=by simp only[Bool.or_eq_false_iff,decide_eq_false_iff_not];omega
 rw[j,i];simp only[ZH3,Bool.true_eq_false,ZIe,if_false];have n:ZcS d 0 [] [] []:=⟨rfl,λs=>by simp[Zw,Zr,Zi],λs=>by simp[Zw,Zr,Zi]⟩;have:=ZCO (I d.msgs) n ω;rw[List.drop_zero]at this;exact this;have j:(dC (1<=(I d.msgs:Int))&&dC ((I d.msgs:Int)<=60))=false:=by simp only[ZIl,decide_eq_false_iff_not];omega
 have i:(dC (I d.msgs<1) ||decide (60<I d.msgs))=true:=by simp only[ZH0,decide_eq_true_eq];omega
 rw[j,i];rfl
def Zsu{st b z c1 u t}(hb:st b=sO (.cells [z,c1]))(h0:VT ZHF z [] st (.bool u) st)(h1:VT ZHF c1 [] st (.bool t) st):
  ZU ZHF 241 [.msl b 0 2 2 1,.fn (.func 196) [] []] st (.i (if u then (if t then -1 else 1) else 0)) st:=by
 refine ZK (cR 241 f241) λn F i=>?_;clear n;have g0:=(Zfr h0).VT (first:=[]) (args:=[z]) (caps:=[]);have g1:=(Zfr h1).VT (first:=[]) (args:=[c1]) (caps:=[]);refine gG ?_;refine Zb (Za9 ?_);refine rg ?_;refine i1 ?_;refine rg ?_;refine xA @hb ?_;refine cW (g0) ?_;refine cd (λhc=>?_) (λhc=>?_);have hv:u=false:=by cases u<;>simp_all
 rw[hv]at i;refine rg ?_;exact i rfl φ (ZHL _) ZHH;have hv:u=true:=by cases u<;>simp_all
 rw[hv]at i;refine gA ?_;rw[show(0:Int)+1=1 from rfl];refine Za ?_;refine rg ?_;refine i1 ?_;refine rg ?_;refine xA @hb ?_;refine cW (g1) ?_;refine cd (λhd=>?_) (λhd=>?_);have j:t=false:=by cases t<;>simp_all
 rw[j]at i;refine rg ?_;exact i rfl φ (ZHL _) ZHH;have j:t=true:=by cases t<;>simp_all
 rw[j]at i;refine gA ?_;rw[show(1:Int)+1=2 from rfl];refine Za ?_;refine rg ?_;refine iG ?_;exact i rfl φ (ZHL _) ZHH
def Zrq{st b t z u n}(hb:st b=sO (.cells [t,z]))(h0:VT ZHF t [] st (.bool u) st)(h1:VT ZHF z [] st (.bool n) st):
  ZU ZHF 195 [.msl b 0 2 2 1,.fn (.func 196) [] []] st (.bool (!u||!n)) st:=by
 refine ZK (cR 195 f195) λj F i=>?_;clear j;refine gG ?_;refine ct (Zsu hb h0 h1) ?_;exact i rfl φ (by cases u<;>cases n<;>exact ZHL _) ZHH
def Jw{L s}(l):qv L s .lenL [.d (Zk l)]=sO (True,.d (.i (I l))):=rfl
def atF{L s}(l i):qv L s (.iaddr 15) [.d (Zk l),.d (.i i)]=sO (0<=i/\i<I l,.d (.ep (l.getD i.toNat dE).cells 0)):=rfl
def Ql(f:Fld):I f.cells=15:=rfl
def J2(f:Fld):List.take 15 f.cells=f.cells:=rfl
def Zhp(l)(hl:I l<=1000)(hb:∀f∈l,Zhi f)(i:Nat)(hi:i<=I l){st:St}:ZU ZHF 146 [Zk l,.i i,.i (YZ l i)] st (.bool (KG l i)) st:=by
 refine ZK (cR 146 f146) λab F j=>?_;clear ab;have hW:=KG.eq_1 l i;refine rx (nd2 @okF @ceF) ?_;refine rx @Jw ?_;refine cd (λhc=>?_) (λhc=>?_);have z:i=I l:=by simp at hc;omega
 rw[if_pos z]at hW;refine rg ?_;exact j rfl φ (by rw[hW];exact ZHL _) ZHH;have z:i<I l:=by simp at hc;omega
 rw[if_neg ω]at hW;generalize hg:l.getD i dE=g at *;refine xA (nd2 @atF (nd2 @hg (nd2 @Ql @J2))) ?_;refine Zd ?_;refine xP 3 λz3 h3=>?_;refine xP 5 λz5 h5=>?_;refine xP 7 λz7 h7=>?_;refine rg ?_;refine Zd ?_;refine xP 8 λz8 h8=>?_;have k5:=Zv h5;have k7:=Zv h7;have ac:=Zv k7.2;have k8:=Zv h8;have t:=Zv k8.2;have af:=Zv t.2;obtain⟨A,hA⟩:∃A,A=((((st.upd z3 (.cells [Zk l])).upd z5 (.cells [.i (YZ l i)])).upd z7 (.cells g.cells)).upd z8 (.cells [.fn (.func 190) [] [.ptr z5 0,.ptr z7 0],.fn (.func 192) [] [.ptr z3 0,.ptr z7 0]])):=⟨_,rfl⟩;have g3:A z3=sO (.cells [Zk l]):=by rw[hA,ZHQ _ _ af.1.symm,ZHQ _ _ ac.1.symm,ZHQ _ _ k5.1.symm];exact ZHP _ _ _
 have g5:A z5=sO (.cells [.i (YZ l i)]):=by rw[hA,ZHQ _ _ t.1.symm,ZHQ _ _ k7.1.symm];exact ZHP _ _ _
 have g7:A z7=sO (.cells g.cells):=by rw[hA,ZHQ _ _ k8.1.symm];exact ZHP _ _ _
 have g8:A z8=sO (.cells [.fn (.func 190) [] [.ptr z5 0,.ptr z7 0],.fn (.func 192) [] [.ptr z3 0,.ptr z7 0]]):=by rw[hA];exact ZHP _ _ _
 have n:st.sub A:=by rw[hA];exact ZIn (ZH6 _ h3) (ZIn (ZH6 _ h5) (ZIn (ZH6 _ h7) (ZH6 _ h8)))
 have ad:=(ZmH g5 g7).VT (first:=[]) (args:=[]) (caps:=[_,_]);have ae:=(ZmI hl hb g3 g7 ω).VT (first:=[]) (args:=[]) (caps:=[_,_]);have u:=Zrq g8 ad ae;rw[<-hA];clear hA;refine rg ?_;refine⟨by decide,by decide,by decide,by decide,by unfold big;decide,?_⟩;rw[show(if ((2:Nat):Int)=0 then 0 else 0*1)=(0:Nat) from rfl];refine ct (u) ?_;exact j rfl φ (by rw[hW];exact ZHL _) n
def ZyG{x z o}(j:s x=nO)(h:(s.or (ZH9 x o)) z=nO):z≠x/\s z=nO:=by
 refine⟨λe=>by subst e;rw[ZM j,YE]at h;simp at h,?_⟩;cases i:s z with
 |none=>rfl
 |some o=>rw[Zu i]at h;simp at h
def Mk(A:St):List Nat->St->Prop
 | [],S=>S=A
 |q::qs,S=>∃S',Mk A qs S'/\S' q=nO/\S=S'.upd q .dfr
def Mk.get{A z o}(h:A z=sO o):∀{qs S},Mk A qs S->S z=sO o
 | [],S,hm=>by rw[show S=A from hm];exact h
 |q::qs,S,hm=>by obtain⟨S',j,i,rfl⟩:=hm;have:=Mk.get h j;rw[ZHQ _ _ (λe=>by rw[e,i]at this;simp at this)];exact this
def upd_comm{a b x y}(h:a≠b):(s.upd a x).upd b y=(s.upd b y).upd a x:=by
 funext c;by_cases i:c=b;subst i;rw[ZHP,ZHQ _ _ (Ne.symm h),ZHP];rw[ZHQ _ _ i];by_cases j:c=a;subst j;rw[ZHP,ZHP];rw[ZHQ _ _ j,ZHQ _ _ j,ZHQ _ _ i]
def Mk.upd{A z o o'}(h:A z=sO o):∀{qs S},Mk A qs S->Mk (A.upd z o') qs (S.upd z o')
 | [],S,hm=>by rw[show S=A from hm];rfl
 |q::qs,S,hm=>by
  obtain⟨S',n,j,rfl⟩:=hm;have:=Mk.get h n;have i:q≠z:=λe=>by rw[<-e,j]at this;simp at this
  exact⟨S'.upd z o',n.upd h,by rw[ZHQ _ _ i];exact j,upd_comm i⟩
def Mk.unw{P A Ψ}(h:Ψ nO A):∀{qs S},Mk A qs S->Unw P (qs.map .mark) nO S Ψ
 | [],S,hm=>by rw[show S=A from hm];exact h
 |q::qs,S,hm=>by
  obtain⟨S',n,j,rfl⟩:=hm;refine⟨ZHP _ _ _,?_⟩;have e:(S'.upd q .dfr).del q=S':=by funext c;by_cases i:c=q;subst i;simp[St.del,j];simp[St.del,ZIi,i]
  rw[e];exact Mk.unw h n
def ZiV{s t:St}{q o}(h:s.sub t):(s.upd q o).sub (t.upd q o):=λb x i=>by
 by_cases j:b=q;subst j;rw[ZHP]at i⊢;exact i;rw[ZHQ _ _ j]at i⊢;exact h b x i
def Zy6{s t:St}{q}(h:s.sub t)(i:t q=nO):s q=nO:=by
 cases j:s q with
 |none=>rfl
 |some o=>rw[h q o j]at i;simp at i
def ZmR{a t z o o'}(h:Yc a t)(j:a z=sO o):Yc (a.upd z o') t:=λb x i=>by
 rw[ZHQ _ _ (λe=>by subst e;rw[h b x i]at j;simp at j)];exact h b x i
def St.upd_self{b o}(h:s b=sO o):s.upd b o=s:=by
 funext c;by_cases i:c=b;subst i;rw[ZHP,h];rw[ZHQ _ _ i]
def ZxO{d j i m f}(h:WX d j m i f=0):Zhi f:=by
 unfold WX at h;split at h;· omega
 split at h;· omega
 split at h;· omega
 split at h;· omega
 unfold K5 at h;refine⟨λhk=>?_,λhk=>?_⟩;have t:KA f=0:=by rcases hk with hk|hk<;>simp only[hk,ZIp,if_true,if_false]at h<;>exact h
 unfold KA at t;split at t;· omega
 rename_i n;simp only[Jy,ZH0,ZHN,Bool.not_eq_true',decide_eq_true_eq,decide_eq_false_iff_not,not_or]at n;omega;simp only[hk,ZIp,if_true,if_false]at h;split at h;· omega
 rename_i n;simp only[ZfJ,ZHN,ZH0,Bool.not_eq_true',decide_eq_true_eq,decide_eq_false_iff_not,not_and,not_or]at n;omega
def ZbA.bits{d j m}(h:ZbA d j m):∀f∈m.fields,Zhi f:=by
 intro f t;obtain⟨i,n,rfl⟩:=ZH1 t;have:=ZxO (h.field i n);simpa[ZHU,n]using this
def Za2(m:Msg):Bool:=(ZHT (I m.fields+1)).all λi=>!KG m.fields i
def Wp(d:Dfn):Bool:=Zb7 d&&d.msgs.all Za2
def Zop{m}(h:∀i,i<I m.fields+1->KG m.fields i=false):Za2 m=true:=by
 unfold Za2;rw[List.all_eq_true];intro i j;rw[h i (List.mem_range.1 j)];rfl
def Zg3{m i}(j:i<I m.fields+1)(h:KG m.fields i=true):Za2 m=false:=by
 unfold Za2;rw[List.all_eq_false];exact⟨i,List.mem_range.2 j,by rw[h];simp⟩
def atM{L s}(l i):qv L s (.iaddr 2) [.d (Yy l),.d (.i i)]=sO (0<=i/\i<I l,.d (.ep (l.getD i.toNat dE).cells 0)):=rfl
def Zc4{L s}(l):qv L s .lenL [.d (Yy l)]=sO (True,.d (.i (I l))):=rfl
def Zpq(d st):Ze ZHF 100 [.agg d.cells] st λr S=>S=st/\∃a f c,r=.ret (.tup [.agg [.i a,.i f,.i c],.bool (!Wp d)]):=by
 refine Zh (cR 100 f100) λF hF=>?_;have ab:=Wp.eq_1 d;refine rx @eQ2 ?_;refine rx @eQ2 ?_;rw[show(D.agg [.str d.name,Yy d.msgs,.str d.start])=.agg d.cells from rfl];refine cV (ZoO d st) ?_ ?_
 .rintro dd S ⟨rfl,fa,ff,fc,h⟩;cases h;refine gR0 ?_;rw[ZtL];refine rg ?_;refine cd (λhc=>?_) (λhc=>?_);have hv:Zb7 d=false:=by simpa using hc
  rw[hv,ZH7]at ab;refine rg ?_;refine hF.ret _ S rfl ψ (ZHL _) ZHH ⟨rfl,fa,ff,fc,?_⟩;rw[ab];simp[hv];rfl;have hv:Zb7 d=true:=by simpa using hc
  rw[hv,ZH3]at ab;have hV:=ZkS hv;have hmany:=hV.many;refine rx (nd2 @Zc4 @eQ2) ?_;refine Zb ?_;refine xP 2 λz2 h2=>?_;refine xP 3 λz3 h3=>?_;have k3:=Zv h3;have a9:=h2;have bg:=k3.2;simp only[hv,Bool.not_true]at h3⊢;obtain⟨A,hA⟩:∃A,A=(S.upd z2 (.cells [.i fa,.i ff,.i fc])).upd z3 (.cells [.bool false]):=⟨_,rfl⟩;have g2:A z2=sO (.cells [.i fa,.i ff,.i fc]):=by rw[hA,ZHQ _ _ k3.1.symm];exact ZHP _ _ _
  have g3:A z3=sO (.cells [.bool false]):=by rw[hA];exact ZHP _ _ _
  have af:S.sub A:=by rw[hA];exact ZIn (ZH6 _ h2) (ZH6 _ h3)
  rw[<-hA];clear hA;obtain⟨A0,e0⟩:∃A0,A0=A:=⟨_,rfl⟩;rw[<-e0]at g2 g3 af⊢;clear e0;refine lpU (λQ=>∀(n k:Nat),(I d.msgs)-k=n->∀(F:Fr ZHF) (qs:List Nat) (A:St),Y0 F [.cellN 2 3,.cell1 3] (λr S'=>S'=S/\∃a f c,r=.ret (.tup [.agg [.i a,.i f,.i c],.bool (!Wp d)])) (qs.map .mark)->Mk A0 qs A->k<=I d.msgs->(∀q,q<k->Za2 (d.msgs.getD q dE)=true)->Q F [(2,.d (.ptr z2 0)),(3,.d (.ptr z3 0)),(17,.d (Yy d.msgs)),(18,.d (.i (I d.msgs))),(19,.d (.i k))] [] A) ?_ λa8=>?_
  .intro n;induction n using Nat.strongRecOn with
   |ind n ih_key =>
   intro k hn F qs A hF ae hk aj;have a4:=g2;have a0:=g3;have g2:=Mk.get g2 ae;have g3:=Mk.get g3 ae;refine rg ?_;refine Zd (Zt rfl trivial (λh1=>?_) (λh1=>?_))
   .simp at h1;have hM:=hV.msg h1;have ac:=hM.bits;have hmf:=hM.many;have ao:=λh=>ZZ (q:=λj=>Za2 (d.msgs.getD j dE)=true) aj h;have az:Za2 (d.msgs.getD k dE)=false->d.msgs.all Za2=false:=λh=>by rw[List.all_eq_false];exact⟨_,Zm h1,by rw[h];simp⟩
    generalize hm:d.msgs.getD k dE=m at *;refine xA (nd2 @atM (nd2 @hm @eQ3)) ?_;refine rg ?_;refine cV (Zfq m.fields A) ?_ ?_
    .rintro dd S2 ⟨x,hx,hd,rfl⟩;cases hd;refine gR0 ?_;refine Zb ?_;refine xP 4 λz4 h4=>?_;refine xP 5 λz5 h5=>?_;have k5:=Zv h5;have o4:=ZyG hx h4;have o5:=ZyG hx k5.2;rw[W7,W7];obtain⟨B,hB⟩:∃B,B=(A.upd z4 (.cells [.i k])).upd z5 (.cells [.str m.name,Zk m.fields]):=⟨_,rfl⟩;have b5:B z5=sO (.cells [.str m.name,Zk m.fields]):=by rw[hB];exact ZHP _ _ _
     have b4:B z4=sO (.cells [.i k]):=by rw[hB,ZHQ _ _ k5.1.symm];exact ZHP _ _ _
     have bc:z2≠z4:=λe=>by rw[e,o4.2]at g2;simp at g2
     have au:z2≠z5:=λe=>by rw[e,o5.2]at g2;simp at g2
     have ap:z3≠z4:=λe=>by rw[e,o4.2]at g3;simp at g3
     have aw:z3≠z5:=λe=>by rw[e,o5.2]at g3;simp at g3
     have ak:z2≠z3:=λe=>by rw[e,g3]at g2;simp at g2
     have b2:B z2=sO (.cells [.i fa,.i ff,.i fc]):=by rw[hB,ZHQ _ _ au,ZHQ _ _ bc];exact g2
     have b3:B z3=sO (.cells [.bool false]):=by rw[hB,ZHQ _ _ aw,ZHQ _ _ ap];exact g3
     have bx:B x=nO:=by rw[hB,ZHQ _ _ o5.1.symm,ZHQ _ _ o4.1.symm];exact hx
     have ah:A.sub B:=by rw[hB];exact ZIn (ZH6 _ o4.2) (ZH6 _ (by rw[ZHQ _ _ k5.1];exact o5.2))
     rw[<-hB];clear hB;refine KM hF rfl trivial [2,3,4,5,17,18,19] (by show([2,3,4,5,17,18,19]:List Nat).Nodup;decide) (WD bx) (Zeh m.fields ω ac x).Y (λj hj=>rfl)
      (λj=>if KG m.fields j then .stop (.exit 0) else .next) (λj a=>((∀i,i<j->KG m.fields i=false)/\a=B)\/((∃i,i<j/\KG m.fields i=true)/\∃a1 a2 a3,a=(B.upd z3 (.cells [.bool true])).upd z2 (.cells [.i a1,.i a2,.i a3])))
      (.inl ⟨λi hi=>by omega,rfl⟩) ?_ ?_ ?_ ?_ ?_ ?_
     .intro j a hj ad hB F' ready ai hdr ax u;have z:∀i,i<j->KG m.fields i=false:=λi hi=>by have:=ad i hi;split at this;simp at this;rename_i h;simpa using h
      rcases hB with ⟨_,rfl⟩|⟨⟨i,hi,ag⟩,_⟩
      .skip
       simp only[Eqs,reduceCtorEq,ZHK,reduceIte,ZHI,ZHM,ZHJ,WT,Kc,Jk,Kq,List.isEmpty_nil,List.isEmpty_cons,ZwV];refine gG ?_;refine ax λar=>?_;refine rh ?_;refine Zn ?_;simp only[Eqs,reduceCtorEq,ZHK,reduceIte,ZHI,ZHM,ZHJ,Zu b5];cases hw:KG m.fields j with
       |false =>rw[if_neg (by rw[hw];simp)]at u;refine JS rfl rfl rfl rfl rfl φ φ (by exact Zhp m.fields ω ac j ω) (Zn ?_);simp only[Eqs,reduceCtorEq,ZHK,reduceIte,ZHI,ZHM,ZHJ,hw,Zu b3,W7,St.upd_self b3];refine rh ?_;refine Zn ?_;simp only[Eqs,reduceCtorEq,ZHK,reduceIte,ZHI,ZHM,ZHJ,Zu b3];refine i0 ?_;refine Zp (Zf ?_);exact u.fin ⟨rfl,.inl ⟨ZZ (q:=λi=>KG m.fields i=false) z hw,rfl⟩⟩ ar ZHH
       |true =>
        rw[if_pos hw]at u;refine JS rfl rfl rfl rfl rfl φ φ (by exact Zhp m.fields ω ac j ω) (Zn ?_);simp only[Eqs,reduceCtorEq,ZHK,reduceIte,ZHI,ZHM,ZHJ,hw,Zu b3,W7];obtain⟨C,hC⟩:∃C,C=a.upd z3 (.cells [.bool true]):=⟨_,rfl⟩;have c3:C z3=sO (.cells [.bool true]):=by rw[hC];exact ZHP _ _ _
        have c2:C z2=sO (.cells [.i fa,.i ff,.i fc]):=by rw[hC,ZHQ _ _ ak];exact b2
        have c4:C z4=sO (.cells [.i k]):=by rw[hC,ZHQ _ _ ap.symm];exact b4
        have c5:C z5=sO (.cells [.str m.name,Zk m.fields]):=by rw[hC,ZHQ _ _ aw.symm];exact b5
        have aq:Yc C ai:=by rw[hC];exact ZmR ar b3
        rw[<-hC];refine rh ?_;refine Zn ?_;simp only[Eqs,reduceCtorEq,ZHK,reduceIte,ZHI,ZHM,ZHJ,Zu c3];refine i1 ?_;refine rh ?_;refine Zn ?_;simp only[Eqs,reduceCtorEq,ZHK,reduceIte,ZHI,ZHM,ZHJ,Zu c4,Zu c2,W7];have bb:(C.upd z2 (.cells [.i k,.i j,.i 12])) z5=sO (.cells [.str m.name,Zk m.fields]):=by rw[ZHQ _ _ au.symm];exact c5
        have bf:=ZHP C z2 (.cells [.i k,.i j,.i 12]);have av:Yc (C.upd z2 (.cells [.i k,.i j,.i 12])) ai:=ZmR aq c2;refine rh ?_;refine Zn ?_;simp only[Eqs,reduceCtorEq,ZHK,reduceIte,ZHI,ZHM,ZHJ,Zu bb,Jw];refine cd (λhe=>?_) (λhe=>?_);refine rh ?_;refine Zn ?_;simp only[Eqs,reduceCtorEq,ZHK,reduceIte,ZHI,ZHM,ZHJ,Zu bf,W7,ZH4];exact u.exit rfl ⟨rfl,.inr ⟨⟨j,ω,hw⟩,k,-1,12,by rw[hC]⟩⟩ (ZmR aq c2) ZHH;refine Zp ?_;exact u.exit rfl ⟨rfl,.inr ⟨⟨j,ω,hw⟩,k,j,12,by rw[hC]⟩⟩ av ZHH
      rw[z i hi]at ag;simp at ag
     intro q a ad hB hq;have z:∀i,i<I m.fields+1->KG m.fields i=false:=λi hi=>by have:=ad i hi;split at this;simp at this;rename_i h;simpa using h
     rcases hB with ⟨_,rfl⟩|⟨⟨i,hi,ag⟩,_⟩;refine Ka (ZiV ah) ?_;refine gA ?_;refine Za ?_;exact ih_key ((I d.msgs)-(k+1)) ω (k+1) rfl _ (q::qs) _ (hF.mark q) ⟨A,ae,Zy6 ah hq,rfl⟩ ω (ao (Zop z));rw[z i hi]at ag;simp at ag;intro q a i hi ad t;split at t<;>simp at t;intro q a i id hi ad t hB hq;have a7:id=0:=by split at t;simp at t;exact t.symm;simp at t
     subst a7;have am:KG m.fields i=true:=by split at t;assumption;simp at t
     rcases hB with ⟨h,_⟩|⟨_,a1,a2,a3,rfl⟩;rw[h i ω]at am;simp at am;have a6:=az (Zg3 hi am);rw[a6]at ab;have q2:q≠z2:=λe=>by rw[e,ZHP]at hq;simp at hq
     have q3:q≠z3:=λe=>by rw[ZHQ _ _ q2,e,ZHP]at hq;simp at hq
     have ba:B q=nO:=by rw[ZHQ _ _ q2,ZHQ _ _ q3]at hq;exact hq
     refine Ka (ZiV (ZiV (ZiV ah))) ?_;obtain⟨X,hX⟩:∃X,X=((A.upd z3 (.cells [.bool true])).upd z2 (.cells [.i a1,.i a2,.i a3])).upd q .dfr:=⟨_,rfl⟩;have al:Mk ((A0.upd z3 (.cells [.bool true])).upd z2 (.cells [.i a1,.i a2,.i a3])) (q::qs) X:=⟨_,Mk.upd (o:=.cells [.i fa,.i ff,.i fc]) (by rw[ZHQ _ _ ak];exact a4) (Mk.upd a0 ae),by rw[ZHQ _ _ q2,ZHQ _ _ q3];exact Zy6 ah ba,hX⟩;have ay:=ZHP (A0.upd z3 (.cells [.bool true])) z2 (.cells [.i a1,.i a2,.i a3]);have a5:((A0.upd z3 (.cells [.bool true])).upd z2 (.cells [.i a1,.i a2,.i a3])) z3=sO (.cells [.bool true]):=by rw[ZHQ _ _ ak.symm];exact ZHP _ _ _
     have x2:=Mk.get ay al;have x3:=Mk.get a5 al;rw[<-hX];refine ZR rfl ?_;refine rh ?_;refine Yz ?_;simp only[Eqs,reduceCtorEq,ZHK,reduceIte,ZHI,ZHM,ZHJ,x2,x3,St.upd_self x2,St.upd_self x3];refine(hF.mark q).retU (al.unw ⟨_,_,.tup [.agg [.i a1,.i a2,.i a3],.bool true],S,by simp only[Eqs,reduceCtorEq,ZHK,reduceIte,ZHI,ZHM,ZHJ,YK,Ks,ay,a5];rfl,ψ,ZHL _,?_,rfl,a1,a2,a3,by rw[ab];rfl⟩);intro c o hc;have e2:c≠z2:=λe=>by rw[e,a9]at hc;simp at hc
     have e3:c≠z3:=λe=>by rw[e,bg]at hc;simp at hc
     rw[ZHQ _ _ e2,ZHQ _ _ e3];exact af c o hc;intro q a i d hi ad t;split at t<;>simp at t;intro i c t;split at t<;>simp at t;exact .inr ⟨0,t.symm⟩
    rintro dd S2 ⟨x,hx,hd,_⟩;cases hd
   simp at h1;obtain rfl:k=I d.msgs:=ω;have be:d.msgs.all Za2=true:=by rw[List.all_eq_true];intro x hx;obtain⟨q,hq,rfl⟩:=ZH1 hx;have:=aj q hq;simpa[ZHU,hq]using this
   rw[be]at ab;refine ZR rfl (Zd ?_);refine rh ?_;refine Yz ?_;simp only[Eqs,reduceCtorEq,ZHK,reduceIte,ZHI,ZHM,ZHJ,g2,g3,St.upd_self g2,St.upd_self g3];exact hF.retU (ae.unw ⟨_,_,.tup [.agg [.i fa,.i ff,.i fc],.bool false],S,by simp only[Eqs,reduceCtorEq,ZHK,reduceIte,ZHI,ZHM,ZHJ,YK,Ks,a4,a0];rfl,ψ,ZHL _,af,rfl,fa,ff,fc,by rw[ab];rfl⟩)
  exact a8 _ 0 rfl F [] A0 hF rfl ω (by intro q hq;omega)
 rintro dd S ⟨_,a,f,c,h⟩;cases h
def ZmD(d):Zc ZHF 48 [.agg d.cells] (.bool (Wp d)):=by
 refine Zg (cR 48 f48) λF st i=>?_;refine rx @eQ2 ?_;refine rx @eQ2 ?_;rw[show(D.agg [.str d.name,Yy d.msgs,.str d.start])=.agg d.cells from rfl];refine cV (Zpq d st) ?_ ?_;rintro j S ⟨rfl,a,f,c,h⟩;cases h;refine gR0 ?_;refine rg ?_;exact i rfl φ (by cases Wp d<;>exact ZHL _) ZHH;rintro j S ⟨_,a,f,c,h⟩;cases h
def Zpy{L s}(l i):qv L s (.iaddr 3) [.d (Yk l),.d (.i i)]=sO (0<=i/\i<I l,.d (.ep (l.getD i.toNat dE).cells 0)):=rfl
def ZmO{L s}(l):qv L s .lenL [.d (Yk l)]=sO (True,.d (.i (I l))):=rfl
def ZvU{L s}(l i):qv L s (.iaddr 2) [.d (Yd l),.d (.i i)]=sO (0<=i/\i<I l,.d (.ep (l.getD i.toNat dE).cells 0)):=rfl
def Zuk{L s}(l):qv L s .lenL [.d (Yd l)]=sO (True,.d (.i (I l))):=rfl
def ZdL(cs o):Qn (.d (.ep cs o))=[]:=rfl
def Zab{d s}(h:0<=Zr d s (I d.msgs)):Zr d s (I d.msgs)=ixS d s/\ixS d s<I d.msgs:=by
 have:=Ys (λm=>dC (m.name=s)) (d.msgs.take (I d.msgs));rw[ZHZ]at this;unfold ixS;unfold Zr at *;omega
def Zz4{d a i m f}(h:WX d a m i f=0):K5 d a m i f=0/\Yb m f.name i<0/\1<=f.kind/\f.kind<=12:=by
 unfold WX at h;split at h;· omega
 split at h;· omega
 rename_i hnf;split at h;· omega
 rename_i j;split at h;· omega
 simp only[ZH0,decide_eq_true_eq,not_or]at j;exact⟨h,ω,ω,ω⟩
def ZnW{m s n}(h:0<=Yb m s n):Yb m s (I m.fields)=Yb m s n/\(Yb m s n).toNat<n/\(Yb m s n).toNat<I m.fields:=by
 unfold Yb at *;have i:=Ys (λf:Fld=>dC (f.name=s)) (m.fields.take n);rw[ZHZ]at i;refine⟨?_,ω,ω⟩;rw[ZH2];exact Zl7 h
def ZfH{α:Type}[Inhabited α]{l:List α}{x}(h:x∈l):∃i,i<I l/\l.getD i dE=x:=by
 obtain⟨i,j,rfl⟩:=ZH1 h;exact⟨i,j,by simp[ZHU,j]⟩
def ZiZ{d}(h:Wp d=true):WW d:=by
 unfold Wp at h;rw[ZHN]at h;exact ZkS h.1
def Y5(f:Fld):Bool:=(!dC (f.kind=2)&&!dC (f.kind=10))&&!dC (f.kind=11)
def vfs(l:List Fld):List Fld:=l.filter Y5
def ZdV{l:List Fld}{i}(h:i<I l):vfs (l.take (i+1))=vfs (l.take i)++if Y5 (l.getD i dE) then [l.getD i dE] else []:=by
 rw[Z3 h];unfold vfs;rw[List.filter_append];congr 1;simp only[List.filter_cons,List.filter_nil]
def ZkV{l i}(h:i<I l):vfs l=vfs (l.take i)++((if Y5 (l.getD i dE) then [l.getD i dE] else [])++vfs (l.drop (i+1))):=by
 have j:l=l.take (i+1)++l.drop (i+1):=(List.take_append_drop _ _).symm;conv=>lhs;rw[j];unfold vfs;rw[List.filter_append]
 rw[show List.filter Y5 (l.take (i+1))=vfs (l.take (i+1)) from rfl,ZdV h,ZIg];rfl
def W9(m:Msg)(ps:List Val):Bool:=dC ((vfs m.fields).map (·.name)=ps.map Val.name)
def KU{L s}(l):qv L s .lenL [.d (ZF l)]=sO (True,.d (.i (I l))):=rfl
def atV{L s}(l i):qv L s (.iaddr 5) [.d (ZF l),.d (.i i)]=sO (0<=i/\i<I l,.d (.ep (J5 l i.toNat) 0)):=rfl
def W3{L s}(l):qv L s .lenL [.d (Zs l)]=sO (True,.d (.i (I l))):=rfl
def ZdW{l}(h:DWf (ZF l)):I l<=big:=h.sl_inv.1
def KV(f):Zc ZHF 30 [.agg f.cells] (.bool (Y5 f)):=by
 refine Zg (cR 30 f30) λF st i=>?_;refine rx @eQ0 ?_;refine rg ?_;refine rb i ?_;rfl
def Zex(f):Zc ZHF 81 [.agg f.cells] (.bool (Y5 f)):=by
 refine Zg (cR 81 f81) λF st i=>?_;refine rx @eQ0 ?_;refine rg ?_;refine rb i ?_;rfl
def Zml(f tag):Zc ZHF 69 [.agg f.cells,.i tag] (.i (KJ f tag)):=by
 refine ZJ (cR 69 f69) λab F st u=>?_;have hw:=(YR ((ab (.agg f.cells) ψ).agg_inv (Yk f.cases) (by simp[Fld.cells]))).1;unfold big at hw;clear ab;have hS:=KJ.eq_1 f tag;refine rx @eQ0 ?_;refine rg ?_;refine Zb (fr (I f.cases) (λi Q=>i<=I f.cases->(∀j,j<i->(λc:Yw=>dC (c.low<=tag)&&dC (tag<=c.high)) (f.cases.getD j dE)=false)->Q [(1,.d (.i tag)),(2,.loc 2 0),(5,.d (.i i))] [(2,f.cells)] st) (λn t=>?_) λad=>?_);intro i hn hi z;refine rx (nd2 @eQ0 @ZmO) ?_;refine cd (λh1=>?_) (λh1=>?_);simp at h1;generalize hg:f.cases.getD i dE=c at *;refine xA (nd2 @eQ0 (nd2 @Zpy (nd2 @hg @eQ9))) ?_;refine cd (λh2=>?_) (λh2=>?_);rw[WY (p:=λc:Yw=>dC (c.low<=tag)&&dC (tag<=c.high)) h1 (by rw[hg];exact h2) z]at hS;refine rg ?_;refine ri u ?_;exact hS.symm;refine gA ?_;refine Za ?_;exact t ((I f.cases)-(i+1)) ω (i+1) rfl ω (ZZ (q:=λj=>(λc:Yw=>dC (c.low<=tag)&&dC (tag<=c.high)) (f.cases.getD j dE)=false) z (by show(dC ((f.cases.getD i dE).low<=tag)&&dC (tag<=(f.cases.getD i dE).high))=false;rw[hg];exact h2));simp at h1;obtain rfl:i=I f.cases:=ω;have ac:∀x∈f.cases,(λc:Yw=>dC (c.low<=tag)&&dC (tag<=c.high)) x=false:=λx hx=>by obtain⟨j,hj,rfl⟩:=ZH1 hx;have:=z j hj;simpa[ZHU,hj]using this
 rw[Wu ac]at hS;refine rg ?_;refine ri u ?_;exact hS.symm;exact ad _ 0 rfl ω (by intro j hj;omega)
def Zmi{l i k}{ps:List Val}(t:k=(vfs (l.take i)).length)(hi:i<I l)(hv:Y5 (l.getD i dE)=true)(h:(vfs l).map (·.name)=ps.map Val.name):k<I ps/\(ps.getD k dE).name=(l.getD i dE).name:=by
 have n:=ZkV hi;rw[if_pos hv]at n;have z:(vfs l).length=I ps:=by have:=congrArg List.length h;simpa using this
 have u:k<I ps:=by rw[<-z,n];simp;omega
 refine⟨u,?_⟩;have j:((vfs l).map (·.name))[k]?=(ps.map Val.name)[k]?:=by rw[h]
 rw[n]at j;simp only[List.map_append,ZHY,ZIf,List.getElem?_map]at j;rw[ZIq (by simp;omega)]at j;simp[t▸Nat.sub_self k,t.symm]at j;have h5:ps[k]?=sO (ps.getD k dE):=by simp[ZHU,u]
 rw[h5]at j;simpa using j.symm
def Zkc(m ps):Zc ZHF 29 [.agg m.cells,ZF ps] (.bool (W9 m ps)):=by
 refine ZJ (cR 29 f29) λab F st z=>?_;have hw:=(YR ((ab (.agg m.cells) ψ).agg_inv (Zk m.fields) (by simp[Msg.cells]))).1;have ai:=ZdW (ab (ZF ps) ψ);unfold big at hw ai;clear ab;have hS:=W9.eq_1 m ps;have t:∀i k,k=(vfs (m.fields.take i)).length->i<I m.fields->Y5 (m.fields.getD i dE)=true->(vfs m.fields).map (·.name)=ps.map Val.name->k<I ps/\(ps.getD k dE).name=(m.fields.getD i dE).name:=λi k hk hi hv h=>Zmi hk hi hv h;refine rx @eQ3 ?_;refine gG ?_;refine Zb (fr (I m.fields) (λi Q=>∀k,k=(vfs (m.fields.take i)).length->k<=I ps->(vfs (m.fields.take i)).map (·.name)=(ps.take k).map Val.name->i<=I m.fields->Q [(1,.d (ZF ps)),(2,.loc 2 0),(5,.d (.i k)),(6,.d (.i i))] [(2,[.str m.name,Zk m.fields])] st) (λn j=>?_) λah=>?_);intro i hn k hk ag u hi;refine rx @Jw ?_;refine cd (λh1=>?_) (λh1=>?_);simp at h1;have hT:=ZdV h1;have t:=t i k hk h1;generalize hg:m.fields.getD i dE=f at *;refine xA (nd2 @atF (nd2 @hg @eQ0)) ?_;rw[show D.agg [.str f.name,.i f.kind,.i f.bits,.bool f.little,.bool f.loose,.i f.low,.i f.high,.i f.size.base,Yd f.size.terms,.str f.of,.str f.tag,.str f.from_,Yk f.cases,.i f.check,.i f.key]=.agg f.cells from rfl];refine cl (KV f) ?_;refine cd (λh2=>?_) (λh2=>?_);rw[Bool.not_eq_true']at h2;rw[h2,if_neg ψ,ZH8]at hT;refine gA ?_;refine Za ?_;exact j ((I m.fields)-(i+1)) ω (i+1) rfl k (by rw[hT];exact hk) ag (by rw[hT];exact u) ω;rw[Bool.not_eq_false']at h2;rw[h2,if_pos rfl]at hT;have t:=t h2;obtain⟨x,y,b,hh,p,hr,ae⟩:=ZBP ps k;refine xA (nd2 @KU (nd2 @atV (nd2 @hr (nd2 @atF (nd2 @hg @eQ0))))) ?_;refine cd (λh3=>?_) (λh3=>?_);have ad:¬(vfs m.fields).map (·.name)=ps.map Val.name:=λh=>by have h4:=t h;rw[<-(ae h4.1).1]at h4;simp[h4.2]at h3;omega
 rw[decide_eq_false ad]at hS;refine rg ?_;refine rb z ?_;exact hS.symm;simp at h3;have ac:k<I ps:=ω;have aj:(ps.getD k dE).name=f.name:=by rw[<-(ae ac).1];exact h3.2
 refine gA ?_;refine gA ?_;refine Za ?_;exact j ((I m.fields)-(i+1)) ω (i+1) rfl (k+1) (by rw[hT];simp;omega) ω (by rw[hT,Z3 ac];simp only[List.map_append,ZHY,ZIf,u,aj]) ω;simp at h1;obtain rfl:i=I m.fields:=ω;rw[ZH2]at hk u;have af:dC ((k:Int)=I ps)=W9 m ps:=by rw[hS];refine decide_eq_decide.2 ⟨λh=>?_,λh=>?_⟩;have:k=I ps:=ω;rw[u,this,ZH2];have:=congrArg List.length h;simp at this;omega
 refine rx @KU ?_;refine rb z ?_;exact af;exact ah _ 0 rfl 0 rfl ω rfl ω
def ZdG(k:Int):Bool:=dC (k=1) ||decide (k=3)
def Zpx(k:Int):Bool:=dC (k=4) ||decide (k=5)
def W5(k:Int)(x:Val):Bool:=(((!ZdG k&&!dC (x.int=0)) ||(!Zpx k&&dC (0<(I x.bytes:Int)))) ||(!dC (k=6)&&dC (0<(I x.hdrs:Int)))) ||(!dC (7<=k)&&dC (0<(I x.parts:Int)))
def ZrJ(k x):Zc ZHF 36 [.i k,.agg x.cells] (.bool (W5 k x)):=by
 refine Zg (cR 36 f36) λF st i=>?_;rw[x.cells_eq];refine gG ?_;refine gG ?_;refine rx (nd2 @KU (nd2 @W3 @Zcp)) ?_;refine rb i ?_;rfl
def K1(have_ want:Int):Int:=if dC (have_<want) then 4 else if dC (want<have_) then 5 else 0
def Zg9{a b}:Zc ZHF 77 [.i a,.i b] (.i (K1 a b)):=by
 refine Zg (cR 77 f77) λF st i=>?_;have j:=K1.eq_1 a b;refine gG ?_;refine cd (λt=>?_) (λt=>?_);rw[if_pos t]at j;refine rg ?_;refine ri i ?_;exact j.symm;rw[if_neg (by simp[t])]at j;refine rg ?_;refine cd (λn=>?_) (λn=>?_);rw[if_pos n]at j;refine rg ?_;refine ri i ?_;exact j.symm;rw[if_neg (by simp[n])]at j;refine rg ?_;refine ri i ?_;exact j.symm
abbrev nvC(x:Str×Int):List D:=[.str x.1,.i x.2]
def ZeM(l:List (Str×Int)):D:=slD 2 nvC l
def ZDj{L s}(l):qv L s .lenL [.d (ZeM l)]=sO (True,.d (.i (I l))):=rfl
def atN{L s}(l i):qv L s (.iaddr 2) [.d (ZeM l),.d (.i i)]=sO (0<=i/\i<I l,.d (.ep (nvC (l.getD i.toNat dE)) 0)):=rfl
def Yr(s:Str):List (Str×Int)->Int
 | []=>-1
 |x::r=>if x.1=s then x.2 else Yr s r
def Zy7{s}{l:List (Str×Int)}{i}(h:i<I l):Yr s (l.drop i)=if (l.getD i dE).1=s then (l.getD i dE).2 else Yr s (l.drop (i+1)):=by
 rw[Ww h];rfl
def ZiD(s l):Zc ZHF 70 [.str s,ZeM l] (.i (Yr s l)):=by
 refine ZJ (cR 70 f70) λu F st t=>?_;have hw:=(YR (u (ZeM l) ψ)).1;unfold big at hw;clear u;refine gG ?_;refine Zb (fr (I l) (λi Q=>Yr s (l.drop i)=Yr s l->i<=I l->Q [(0,.d (.str s)),(1,.d (ZeM l)),(5,.d (.i i))] [] st) (λn j=>?_) λz=>?_);intro i hn ht hi;refine rx @ZDj ?_;refine cd (λh1=>?_) (λh1=>?_);simp at h1;have hd:=Zy7 (s:=s) h1;rw[ht]at hd;generalize hg:l.getD i dE=g at *;refine xA (nd2 @atN @hg) ?_;refine cd (λh2=>?_) (λh2=>?_);rw[if_pos (by simpa using h2)]at hd;refine xA (nd2 @atN @hg) ?_;refine ri t ?_;exact hd.symm;rw[if_neg (by simpa using h2)]at hd;refine gA ?_;refine Za ?_;exact j ((I l)-(i+1)) ω (i+1) rfl hd.symm ω;simp at h1;obtain rfl:i=I l:=ω;rw[List.drop_length]at ht;refine rg ?_;refine ri t ?_;rw[<-ht];rfl;exact z _ 0 rfl rfl ω
def Jl:List Fld->List Val->List (Str×Int)
 | [],_=>[]
 |f::r,ps=>(if f.kind=2 then [(f.name,f.low)] else [])++(if Y5 f then (if (dC (0<(I ps:Int))&&Yj f) then [(f.name,(ps.getD 0 dE).int)] else [])++Jl r (ps.drop 1) else Jl r ps)
def WU(m:Msg)(ps:List Val):List (Str×Int):=Jl m.fields ps
def ZtA{l:List Fld}{i ps}(h:i<I l):Jl (l.drop i) ps=(if (l.getD i dE).kind=2 then [((l.getD i dE).name,(l.getD i dE).low)] else [])++(if Y5 (l.getD i dE) then (if (dC (0<(I ps:Int))&&Yj (l.getD i dE)) then [((l.getD i dE).name,(ps.getD 0 dE).int)] else [])++Jl (l.drop (i+1)) (ps.drop 1) else Jl (l.drop (i+1)) ps):=by
 rw[Ww h,Jl.eq_2]
def ZpO{l:List Fld}{i}:(vfs (l.take i)).length<=i:=by
 unfold vfs;exact Nat.le_trans (List.length_filter_le _ _) (by simp;omega)
def Zp0(m)(hm:I m.fields<=1000)(ps):Zc ZHF 34 [.agg m.cells,ZF ps] (ZeM (WU m ps)):=by
 refine ZJ (cR 34 f34) λaf F st ad=>?_;have al:=ZdW (af (ZF ps) ψ);unfold big at al;clear af;have hS:=WU.eq_1 m ps;refine rx @eQ3 ?_;refine gG ?_;refine rg ?_;refine kl (st) [(1,.d (ZF ps)),(2,.loc 2 0),(5,.d (.sl .full 0 2 λ_=>[])),(6,.d (.i (0:Nat))),(7,.d (.i (0:Nat)))] [(2,[.str m.name,Zk m.fields])] (.skip (.skip (.cons (.d (Y3 λb h=>by cases h)) Ku))) WE ?_;refine Zb (fr (I m.fields) (λi Q=>∀k tk row u,tk.okIn st->ZQ nvC row u->k<=i->I u<=2*i->u++Jl (m.fields.drop i) (ps.drop k)=WU m ps->i<=I m.fields->Q [(1,.d (ZF ps)),(2,.loc 2 0),(5,.d (.sl tk (I u) 2 row)),(6,.d (.i k)),(7,.d (.i i))] [(2,[.str m.name,Zk m.fields])] (st.own tk (I u*2))) (λn z=>?_) λak=>?_);intro i hn k tk row u ab t hk hol j hi;refine rx @Jw ?_;refine cd (λh1=>?_) (λh1=>?_);simp at h1;have ag:=ZtA (ps:=ps.drop k) h1;rw[ag]at j;clear ag;generalize hg:m.fields.getD i dE=f at *;refine xA (nd2 @atF (nd2 @hg @eQ0)) ?_;refine rx @eQ0 ?_;refine jU [0] (λQ=>∀tk row o,tk.okIn st->ZQ nvC row o->o=u++(if f.kind=2 then [(f.name,f.low)] else [])->Q F [(1,.d (ZF ps)),(2,.loc 2 0),(5,.d (.sl tk (I o) 2 row)),(6,.d (.i k)),(7,.d (.i i)),(8,.loc 8 0)] [(2,[.str m.name,Zk m.fields]),(8,f.cells)] (st.own tk (I o*2))) ?_ λjn=>?_;clear ab t tk row;intro tk row o ab t ho;have hol2:I o<=2*i+1:=by rw[ho,ZHO];split<;>simp<;>omega
 rw[<-ZIg,<-ho]at j;refine rx @eQ0 ?_;rw[show D.agg [.str f.name,.i f.kind,.i f.bits,.bool f.little,.bool f.loose,.i f.low,.i f.high,.i f.size.base,Yd f.size.terms,.str f.of,.str f.tag,.str f.from_,Yk f.cases,.i f.check,.i f.key]=.agg f.cells from rfl];refine cl (KV f) ?_;refine cd (λh3=>?_) (λh3=>?_);rw[Bool.not_eq_true']at h3;rw[h3,if_neg ψ]at j;refine gA ?_;refine Za ?_;exact z (I m.fields-(i+1)) ω (i+1) rfl k tk row o ab t ω ω j ω;rw[Bool.not_eq_false']at h3;rw[h3,if_pos rfl,List.drop_drop,<-ZIg]at j;have ai:dC (0<((ps.drop k).length:Int))=dC ((k:Int)<I ps):=decide_eq_decide.2 (by rw[ZIh];omega);rw[ai]at j;refine rx (nd2 @KU @eQ0) ?_;rw[show D.agg [.str f.name,.i f.kind,.i f.bits,.bool f.little,.bool f.loose,.i f.low,.i f.high,.i f.size.base,Yd f.size.terms,.str f.of,.str f.tag,.str f.from_,Yk f.cases,.i f.check,.i f.key]=.agg f.cells from rfl];refine cG (Zcf f) ?_;refine cd (λh4=>?_) (λh4=>?_);rw[h4,if_pos rfl]at j;rw[ZHN,decide_eq_true_eq]at h4;have aj:k<I ps:=ω;have hr:=Wm aj;have am:(ps.drop k).getD 0 dE=ps.getD k dE:=by simp[ZHU]
 rw[am]at j;generalize hx:ps.getD k dE=x at *;refine xA (nd2 @atV (nd2 @hr @eQ0)) ?_;refine Zsb (st) (tk) rfl rfl rfl rfl rfl rfl φ φ rfl (by first|trivial|assumption) ω (by (unfold big;omega)) λt1 ae=>YT ?_;simp only[Eqs,reduceCtorEq,ZHK,reduceIte,ZHI,ZHM,ZHJ];refine gA ?_;refine gA ?_;have ac:=z (I m.fields-(i+1)) ω (i+1) rfl (k+1) t1 _ (o++[(f.name,x.int)]) ae (t.snoc (x:=(f.name,x.int)) (row2:=ZY [.str [],.i 0] ([0].zip [.agg [.str f.name,.i x.int]])) rfl rfl) ω (by simp;omega) j ω;rw[ZHO]at ac;refine Za ?_;exact ac;rw[h4,if_neg ψ,ZH8]at j;refine gA ?_;refine gA ?_;refine Za ?_;exact z (I m.fields-(i+1)) ω (i+1) rfl (k+1) tk row o ab t ω ω j ω;refine cd (λh2=>?_) (λh2=>?_);rw[decide_eq_true_eq]at h2;rw[if_pos h2]at jn;refine rx @eQ0 ?_;refine K3 (st) (tk) rfl rfl rfl rfl rfl rfl φ φ rfl (by first|trivial|assumption) ω (by (unfold big;omega)) λt1 ae=>Zn ?_;simp only[Eqs,reduceCtorEq,ZHK,reduceIte,ZHI,ZHM,ZHJ];have hj:=jn t1 _ (u++[(f.name,f.low)]) ae (t.snoc (x:=(f.name,f.low)) (row2:=ZY [.str [],.i 0] ([0].zip [.agg [.str f.name,.i f.low]])) rfl rfl) rfl;rw[ZHO]at hj;exact hj;rw[decide_eq_false_iff_not]at h2;rw[if_neg h2]at jn;refine Zp ?_;refine kE [1,2,5,6,7,8] ?_;exact jn tk row u ab t (ZH8 _).symm;simp at h1;obtain rfl:i=I m.fields:=ω;rw[List.drop_length]at j;have ah:u=WU m ps:=by rw[<-j];simp[Jl]
 rw[<-ah]at ad;refine rg ?_;exact ad rfl φ (t.le rfl) (YH ab);exact ak _ 0 rfl 0 .full _ [] trivial ZQ.nil ω ψ rfl ω
def Zfb(s:Jp)(l:List (Str×Int)):Int:=s.base+Qb (λt=>Yr t.field l) s.terms
def Zg7(s)(hv:ZI s=true)(l)(hb:∀t∈s.terms,0<=Yr t.field l/\Yr t.field l<34359738368):Zc ZHF 78 [.agg s.cells,ZeM l] (.i (Zfb s l)):=by
 refine Zg (cR 78 f78) λF st ac=>?_;obtain⟨hbase,j⟩:=Za7 hv;have hlen:I s.terms<=4:=by unfold ZI at hv;simp only[ZHN,decide_eq_true_eq]at hv;exact hv.1.2
 have hS:=Zfb.eq_1 s l;refine rx @eQ4 ?_;refine gG ?_;refine Zb (fr (I s.terms) (λi Q=>∀n,n=s.base+Qb (λt=>Yr t.field l) (s.terms.take i)->i<=I s.terms->Q [(1,.d (ZeM l)),(2,.loc 2 0),(5,.d (.i n)),(6,.d (.i i))] [(2,[.i s.base,Yd s.terms])] st) (λn u=>?_) λaf=>?_);intro i hnn n ab hi;refine rx @Zuk ?_;refine cd (λh1=>?_) (λh1=>?_);simp at h1;have z:=Zri (v:=λt=>Yr t.field l) h1;have hm:s.terms.getD i dE∈s.terms:=Zm h1;have ae:=ZiW (v:=λt=>Yr t.field l) (l:=s.terms.take (i+1)) λt ht=>⟨j t (List.mem_of_mem_take ht),hb t (List.mem_of_mem_take ht)⟩;rw[ZHZ]at ae;have ad:=ZiW (v:=λt=>Yr t.field l) (l:=s.terms.take i) λt ht=>⟨j t (List.mem_of_mem_take ht),hb t (List.mem_of_mem_take ht)⟩;rw[ZHZ]at ad;rw[z]at ae;have h3:=ZjV (j _ hm) (hb _ hm);generalize hg:s.terms.getD i dE=t at *;generalize hp:Qb (λt=>Yr t.field l) (s.terms.take i)=pre at *;have z:=z;refine xA (nd2 @ZvU (nd2 @hg (nd2 @eQ8 @ZdL))) ?_;refine cXD (nd2 @ZvU (nd2 @hg (nd2 @eQ8 @ZdL))) (ZiD t.field l) ?_;generalize hmv:t.factor*Yr t.field l=mv at *;refine aa ?_;refine gA ?_;refine Za ?_;exact u ((I s.terms)-(i+1)) ω (i+1) rfl (n+mv) (by rw[z,ab,Int.add_assoc]) ω;simp at h1;obtain rfl:i=I s.terms:=ω;rw[ZH2]at ab;refine rg ?_;refine ri ac ?_;rw[hS,ab];exact af _ 0 rfl _ (by simp[Qb]) ω
def Zdw(n:Nat):Str:=if n<10 then [UInt8.ofNat (48+n)] else Zdw (n / 10)++[UInt8.ofNat (48+n % 10)]
termination_by n
decreasing_by omega
def QQ{n}(h:n<10):Zdw n=[UInt8.ofNat (48+n)]:=by rw[Zdw,if_pos h]
def Zid{n}(h:¬n<10):Zdw n=Zdw (n / 10)++Zdw (n % 10):=by
 rw[Zdw,if_neg h,QQ (n:=n % 10) ω]
def Zfy(n):(Zdw n).length<=n+1:=by
 induction n using Nat.strongRecOn with
 |ind n ih =>by_cases h:n<10;rw[QQ h];simp;rw[Zid h,ZHO,QQ (n:=n % 10) ω];have:=ih (n / 10) ω;simp;omega
def ZpZ(n:Nat)(hn:n<1000000):Zc ZHF 76 [.i n] (.str (Zdw n)):=by
 induction n using Nat.strongRecOn with
 |ind n ih =>
 refine Zg (cR 76 f76) λF st j=>?_;refine gG ?_;refine cd (λu=>?_) (λu=>?_);have t:n<10:=by simp at u;omega
 rw[QQ t]at j;refine rg ?_;rw[ZaN .u8 (48+(n:Int)) (by have u:IntKind.u8.min=0:=rfl;have h2:IntKind.u8.max=255:=rfl;unfold inR;omega)];refine⟨ω,ω,λi hi=>?_,?_⟩;obtain rfl:i=0:=ω;exact⟨_,rfl⟩
 skip
 refine rs j ?_;show[UInt8.ofNat (48+(n:Int)).toNat]=_;rw[show(48+(n:Int)).toNat=48+n by omega];have t:¬n<10:=by simp at u;omega
 have i1:=ih (n / 10) ω ω;have i2:=ih (n % 10) ω ω;have hl:=Zfy (n / 10);have hl2:=Zfy (n % 10);rw[Zid t]at j;have z:(n:Int).tdiv 10=((n / 10:Nat):Int):=by rw[Int.tdiv_eq_ediv_of_nonneg ω];omega
 have e2:(n:Int).tmod 10=((n % 10:Nat):Int):=by rw[Int.tmod_eq_emod_of_nonneg ω];omega
 refine rx @z ?_;refine⟨by decide,ω,ω,?_⟩;refine cX @e2 (i1) ?_;refine⟨by decide,ω,ω,?_⟩;refine cl (i2) ?_;refine⟨by unfold big;omega,?_⟩;refine rs j ?_;rfl
def Zdx(ps:List Val)(k:Nat):Nat:=((ps.take k).filter (λx=>dC (x.name=(ps.getD k dE).name))).length
def Yh(ps:List Val)(k:Nat):Str:=if Zdx ps k=0 then (ps.getD k dE).name else (ps.getD k dE).name++[58]++Zdw (Zdx ps k)
def Z5(path s:Str):Str:=if path=[] then s else path++[46]++s
def ZnO(ps k):Zdx ps k<=k:=by
 unfold Zdx;exact Nat.le_trans (List.length_filter_le _ _) (by simp;omega)
def Zbk(ps:List Val)(k i:Nat):Nat:=((ps.take i).filter (λx=>dC (x.name=(ps.getD k dE).name))).length
def ZqG{ps k i}(h:i<I ps):Zbk ps k (i+1)=Zbk ps k i+if (ps.getD i dE).name=(ps.getD k dE).name then 1 else 0:=by
 unfold Zbk;rw[Z3 h,List.filter_append,ZHO]
 congr 1
 simp only[List.filter_cons,List.filter_nil];split<;>rename_i j<;>simp at j<;>simp[j]
def Zvp(ps k i):Zbk ps k i<=i:=by
 unfold Zbk;exact Nat.le_trans (List.length_filter_le _ _) (by simp;omega)
def Zg8(path)(ps:List Val)(k:Nat)(hk:k<I ps)(hps:I ps<=100000)(hn:∀x∈ps,I x.name<=1000)(hp:I path<=1000000):Zc ZHF 35 [.str path,ZF ps,.i k] (.str (Z5 path (Yh ps k))):=by
 refine Zg (cR 35 f35) λF st t=>?_;have z:=Wm hk;have hnk:=hn _ (Zm hk);have u:=λi=>ZqG (ps:=ps) (k:=k) (i:=i);have hO:=Yh.eq_1 ps k;have hJ:=Z5.eq_1 path (Yh ps k);have ad:Zdx ps k=Zbk ps k k:=rfl;have hdl:=ZnO ps k;have hdec:=Zfy (Zdx ps k);have hD:=ZpZ (Zdx ps k) ω;generalize hx:ps.getD k dE=x at *;refine gG ?_;refine rg ?_;refine Zb (fr (k) (λi Q=>i<=k->Q [(0,.d (.str path)),(1,.d (ZF ps)),(2,.d (.i k)),(7,.d (.i (Zbk ps k i))),(8,.d (.i i))] [] st) (λn j=>?_) λac=>?_);intro i hn2 hi;refine rg ?_;refine cd (λh1=>?_) (λh1=>?_);simp at h1;have ab:=Wm (show i<I ps by omega);have hs:=u i ω;have hdi:=Zvp ps k i;generalize hy:ps.getD i dE=y at *;refine xA (nd2 @atV (nd2 @ab @z)) ?_;refine cd (λh2=>?_) (λh2=>?_);rw[if_pos (by simpa using h2)]at hs;refine gA ?_;refine gA ?_;rw[show((Zbk ps k i:Nat):Int)+1=((Zbk ps k (i+1):Nat):Int) by rw[hs];rfl];refine Za ?_;exact j ((k)-(i+1)) ω (i+1) rfl ω;rw[if_neg (by simpa using h2)]at hs;refine gA ?_;rw[show((Zbk ps k i:Nat):Int)=((Zbk ps k (i+1):Nat):Int) by rw[hs];rfl];refine Za ?_;exact j ((k)-(i+1)) ω (i+1) rfl ω;simp at h1;obtain rfl:i=k:=ω;rw[<-ad];refine xA (nd2 @atV @z) ?_;refine rg ?_;refine jU [0] (λQ=>∀s,s=Yh ps i->I s<=200000->Q F [(0,.d (.str path)),(9,.d (.str s))] [] st) ?_ λjn=>?_;intro s hs hsl;rw[<-hs]at hJ;refine rg ?_;refine cd (λh3=>?_) (λh3=>?_);rw[if_pos (by simpa using h3)]at hJ;refine rg ?_;refine rs t ?_;rw[<-hs];exact hJ.symm;rw[if_neg (by simpa using h3)]at hJ;refine rg ?_;repeat(refine ZHG (by first|omega|trivial|(intro h0;simp at h0;omega)|(((try simp only[ZHO,ZHW,List.length_nil]);unfold big;omega))) ?_)
 refine rs t ?_;rw[<-hs];exact hJ.symm;refine cd (λh2=>?_) (λh2=>?_);simp at h2;rw[if_neg ω]at hO;refine rg ?_;refine⟨by unfold big;omega,?_⟩;refine cl (hD) ?_;repeat(refine ZHG (by first|omega|trivial|(intro h0;simp at h0;omega)|(((try simp only[ZHO,ZHW,List.length_nil]);unfold big;omega))) ?_)
 exact jn _ hO.symm (by simp only[ZHO,ZHW,List.length_nil];omega);simp at h2;rw[if_pos h2]at hO;refine Zp ?_;refine kE [0,9] ?_;exact jn _ hO.symm ω;exact ac _ 0 rfl ω
mutual
def Kz:Val->Nat
 |.mk _ _ _ _ p=>1+nodesL p
def nodesL:List Val->Nat
 | []=>0
 |v::r=>Kz v+nodesL r
end
mutual
def ZL:Val->Nat
 |.mk _ _ _ _ p=>heightL p+1
def heightL:List Val->Nat
 | []=>0
 |v::r=>max (ZL v) (heightL r)
end
def Zaa(h:Hdr):Bool:=dC ((1048576:Int)<I h.name) ||decide ((1048576:Int)<I h.text)
def QM(v:Val):Bool:=(((((Yt v.name&&dC (0<=v.int))&&dC (v.int<34359738368))&&dC ((I v.bytes:Int)<=1048576))&&dC ((I v.hdrs:Int)<=100))&&!v.hdrs.any Zaa)
mutual
def ZW:Val->Bool
 |.mk n i b h p=>okAllL p&&QM (.mk n i b h p)
def okAllL:List Val->Bool
 | []=>true
 |v::r=>ZW v&&okAllL r
end
def JL(v):Kz v=1+nodesL v.parts:=by cases v;rfl
def WJ(v):ZL v=heightL v.parts+1:=by cases v;rfl
def ZdH(v):ZW v=(okAllL v.parts&&QM v):=by cases v;rfl
def Zda{l}:okAllL l=l.all ZW:=by
 induction l with
 |nil=>rfl
 |cons v r ih=>rw[okAllL,ih,List.all_cons]
def ZuH{l:List Val}{i}(h:i<I l):nodesL (l.take (i+1))=nodesL (l.take i)+Kz (l.getD i dE):=by
 rw[Z3 h];generalize l.getD i dE=x;induction l.take i with
 |nil=>simp[nodesL]
 |cons y r ih=>simp only[List.cons_append,nodesL,ih];omega
def Zth{l:List Val}{i}(h:i<I l):heightL (l.take (i+1))=max (heightL (l.take i)) (ZL (l.getD i dE)):=by
 rw[Z3 h];generalize l.getD i dE=x;induction l.take i with
 |nil=>simp[heightL]
 |cons y r ih=>simp only[List.cons_append,heightL,ih];omega
def ZuG{l}(i):nodesL (l.take i)<=nodesL l:=by
 induction l generalizing i with
 |nil=>simp[nodesL]
 |cons v r ih =>
  cases i with
  |zero=>simp[nodesL]
  |succ i=>simp only[List.take_succ_cons,nodesL];have:=ih i;omega
def ZwU{l x}(h:x∈l):Kz x<=nodesL l:=by
 induction l with
 |nil=>simp at h
 |cons v r ih =>rcases List.mem_cons.1 h with rfl|h;simp only[nodesL];omega;have:=ih h;simp only[nodesL];omega
def ZaK{l x}(h:x∈l):ZL x<=heightL l:=by
 induction l with
 |nil=>simp at h
 |cons v r ih =>rcases List.mem_cons.1 h with rfl|h;simp only[heightL];omega;have:=ih h;simp only[heightL];omega
def Zti(v):ZL v<=Kz v:=by
 induction v using Val.ind with
 |h v ih =>
  rw[WJ,JL];have:∀l:List Val,(∀x∈l,ZL x<=Kz x)->heightL l<=nodesL l:=λl i=>by
   induction l with
   |nil=>simp[heightL]
   |cons a r ih2 =>have h1:=i a ψ;have h2:=ih2 λx j=>i x (by simp[j]);simp only[heightL,nodesL];omega
  have:=this v.parts ih;omega
def ZkW{v:Val}(h:∀a∈[D.agg v.cells],DWf a):I v.parts<=big:=by
 have j:=h (D.agg v.cells) ψ;have i:=j.agg_inv (ZF v.parts) (by rw[ZHX];simp);exact i.sl_inv.1
def ZkO(f:Val->Int)(l:List Val):Int:=l.foldl (λa x=>IntKind.i64.wrap (a+f x)) 1
def Zrj{f}{l:List Val}{i}(h:i<I l):IntKind.i64.wrap (ZkO f (l.take i)+f (l.getD i dE))=ZkO f (l.take (i+1)):=by
 rw[Z3 h];simp[ZkO]
def Q7{n}(h:-9223372036854775808<=n/\n<=9223372036854775807):IntKind.i64.wrap n=n :=
 ZaN _ _ (by have h1:IntKind.i64.min=-9223372036854775808:=rfl;have h2:IntKind.i64.max=9223372036854775807:=rfl;unfold inR;omega)
def Zxs{f:Val->Int}{l}(hl:nodesL l<=1099511627776)(n:∀x∈l,f x=Kz x):ZkO f l=1+nodesL l:=by
 have j:∀k,k<=I l->ZkO f (l.take k)=1+nodesL (l.take k):=by
  intro k;induction k with
  |zero=>intro _;simp[ZkO,nodesL]
  |succ k ih =>intro hk;have t:=ZuH (l:=l) (i:=k) ω;have h2:=ZuG (l:=l) (k+1);rw[<-Zrj ω,ih ω,n _ (Zm ω),Q7 ω,t];omega
 have:=j (I l) (ZHV _)
 rwa [ZH2]at this
def ZoC(v:Val)(f)(hf:∀x∈v.parts,Zc ZHF 66 [.agg x.cells] (.i (f x))):Zc ZHF 66 [.agg v.cells] (.i (ZkO f v.parts)):=by
 refine ZJ (cR 66 f66) λz F st ab=>?_;have hw:=ZkW z;unfold big at hw;clear z;rw[v.cells_eq];refine gG ?_;refine rg ?_;refine Zb (fr (I v.parts) (λi Q=>i<=I v.parts->Q [(1,.loc 1 0),(3,.d (.i (ZkO f (v.parts.take i)))),(4,.d (.i i))] [(1,[.str v.name,.i v.int,Zs v.bytes,Zx v.hdrs,ZF v.parts])] st) (λn j=>?_) λac=>?_);intro i hn hi;refine rx @KU ?_;refine cd (λh=>?_) (λh=>?_);simp at h;have hr:=Wm h;have t:=Zrj (f:=f) h;have u:=hf _ (Zm h);rw[ZHX]at u;generalize v.parts.getD i dE=x at *;refine rh ?_;refine KZ ?_;simp only[Eqs,reduceCtorEq,ZHK,reduceIte,ZHI,ZHM,ZHJ,KQ,QE,KU,atV,hr];refine aa ?_;refine Zao rfl rfl rfl rfl rfl φ φ (by exact u) (KZ ?_);simp only[Eqs,reduceCtorEq,ZHK,reduceIte,ZHI,ZHM,ZHJ,KQ,QE];refine ZcA rfl rfl rfl φ (KZ ?_);simp only[Eqs,reduceCtorEq,ZHK,reduceIte,ZHI,ZHM,ZHJ,KQ,QE];rw[t];refine gA ?_;refine Za ?_;exact j ((I v.parts)-(i+1)) ω (i+1) rfl ω;simp at h;obtain rfl:i=I v.parts:=ω;rw[ZH2];refine rg ?_;refine ri ab ?_;rfl;exact ac _ 0 rfl ω
def ZrG(v):∃n,Zc ZHF 66 [.agg v.cells] (.i n)/\(Kz v<=1099511627776->n=Kz v):=by
 induction v using Val.ind with
 |h v ih =>
  have t:∀x:Val,∃n,x∈v.parts->Zc ZHF 66 [.agg x.cells] (.i n)/\(Kz x<=1099511627776->n=Kz x):=λx=>by by_cases i:x∈v.parts;obtain⟨n,j⟩:=ih x i;exact⟨n,λ_=>j⟩;exact⟨0,λh=>absurd h i⟩
  refine⟨_,ZoC v (λx=>(t x).choose) λx i=>((t x).choose_spec i).1,λj=>?_⟩;rw[JL]at j⊢;rw[Zxs ω λx i=>((t x).choose_spec i).2 (by have:=ZwU i;omega)];omega
def ZjS(f:Val->Int)(l:List Val):Int:=l.foldl (λa x=>max a (f x)) 0
def Zq2{f}{l:List Val}{i}(h:i<I l):max (ZjS f (l.take i)) (f (l.getD i dE))=ZjS f (l.take (i+1)):=by
 rw[Z3 h];simp[ZjS]
def ZwN{f:Val->Int}{l}(j:∀x∈l,f x=ZL x):ZjS f l=heightL l:=by
 have i:∀k,k<=I l->ZjS f (l.take k)=heightL (l.take k):=by
  intro k;induction k with
  |zero=>intro _;simp[ZjS,heightL]
  |succ k ih =>intro hk;rw[<-Zq2 ω,ih ω,j _ (Zm ω),Zth ω];omega
 have:=i (I l) (ZHV _)
 rwa [ZH2]at this
def ZoB(v:Val)(f)(hf:∀x∈v.parts,Zc ZHF 67 [.agg x.cells] (.i (f x))):Zc ZHF 67 [.agg v.cells] (.i (IntKind.i64.wrap (ZjS f v.parts+1))):=by
 refine ZJ (cR 67 f67) λz F st ab=>?_;have hw:=ZkW z;unfold big at hw;clear z;rw[v.cells_eq];refine gG ?_;refine rg ?_;refine Zb (fr (I v.parts) (λi Q=>i<=I v.parts->Q [(1,.loc 1 0),(3,.d (.i (ZjS f (v.parts.take i)))),(4,.d (.i i))] [(1,[.str v.name,.i v.int,Zs v.bytes,Zx v.hdrs,ZF v.parts])] st) (λn j=>?_) λac=>?_);intro i hn hi;refine rx @KU ?_;refine cd (λh=>?_) (λh=>?_);simp at h;have hr:=Wm h;have t:=Zq2 (f:=f) h;have u:=hf _ (Zm h);rw[ZHX]at u;generalize v.parts.getD i dE=x at *;refine xA (nd2 @KU (nd2 @atV @hr)) ?_;refine cl (u) ?_;rw[t];refine gA ?_;refine Za ?_;exact j ((I v.parts)-(i+1)) ω (i+1) rfl ω;simp at h;obtain rfl:i=I v.parts:=ω;rw[ZH2];refine rh ?_;refine KZ ?_;simp only[Eqs,reduceCtorEq,ZHK,reduceIte,ZHI,ZHM,ZHJ,KQ,QE];refine ZcA rfl rfl rfl φ (KZ ?_);simp only[Eqs,reduceCtorEq,ZHK,reduceIte,ZHI,ZHM,ZHJ,KQ,QE];refine ri ab ?_;rfl;exact ac _ 0 rfl ω
def ZrF(v):∃n,Zc ZHF 67 [.agg v.cells] (.i n)/\(ZL v<=1099511627776->n=ZL v):=by
 induction v using Val.ind with
 |h v ih =>
  have t:∀x:Val,∃n,x∈v.parts->Zc ZHF 67 [.agg x.cells] (.i n)/\(ZL x<=1099511627776->n=ZL x):=λx=>by by_cases i:x∈v.parts;obtain⟨n,j⟩:=ih x i;exact⟨n,λ_=>j⟩;exact⟨0,λh=>absurd h i⟩
  refine⟨_,ZoB v (λx=>(t x).choose) λx i=>((t x).choose_spec i).1,λj=>?_⟩;rw[WJ]at j⊢;rw[ZwN λx i=>((t x).choose_spec i).2 (by have:=ZaK i;omega),Q7 ω];omega
def ZuP(v):Zc ZHF 122 [.agg v.cells] (.bool (QM v)):=by
 refine ZJ (cR 122 f122) λac F st t=>?_;have hw:=(YR ((ac (.agg v.cells) ψ).agg_inv (slD 2 Hdr.cells v.hdrs) (by rw[v.cells_eq];simp[Zx]))).1;unfold big at hw;clear ac;have hS:=QM.eq_1 v;rw[v.cells_eq];refine rg ?_;refine rx (nd2 @W3 @Zcp) ?_;refine cX (nd2 @W3 @Zcp) (Zb3 _) ?_;have z:(((((!Yt v.name ||decide (v.int<0)) ||decide ((34359738368:Int)<=v.int)) ||decide ((1048576:Int)<I v.bytes)) ||decide ((100:Int)<I v.hdrs)))=!((((Yt v.name&&dC (0<=v.int))&&dC (v.int<34359738368))&&dC ((I v.bytes:Int)<=1048576))&&dC ((I v.hdrs:Int)<=100)):=by simp only[Bool.not_and];rw[show dC (v.int<0)=!dC (0<=v.int) by rw[<-decide_not];exact decide_eq_decide.2 ω,show dC ((34359738368:Int)<=v.int)=!dC (v.int<34359738368) by rw[<-decide_not];exact decide_eq_decide.2 ω,show dC ((1048576:Int)<I v.bytes)=!dC ((I v.bytes:Int)<=1048576) by rw[<-decide_not];exact decide_eq_decide.2 ω,show dC ((100:Int)<I v.hdrs)=!dC ((I v.hdrs:Int)<=100) by rw[<-decide_not];exact decide_eq_decide.2 ω]
 rw[z];generalize ((((Yt v.name&&dC (0<=v.int))&&dC (v.int<34359738368))&&dC ((I v.bytes:Int)<=1048576))&&dC ((I v.hdrs:Int)<=100))=q at *;refine cd (λh1=>?_) (λh1=>?_);rw[Bool.not_eq_true']at h1;rw[h1,ZH7]at hS;refine rg ?_;refine rb t ?_;exact hS.symm;rw[Bool.not_eq_false']at h1;rw[h1,ZH3]at hS;refine rg ?_;refine Zb (fr (I v.hdrs) (λi Q=>i<=I v.hdrs->(∀j,j<i->Zaa (v.hdrs.getD j dE)=false)->Q [(1,.loc 1 0),(3,.d (.i i))] [(1,[.str v.name,.i v.int,Zs v.bytes,Zx v.hdrs,ZF v.parts])] st) (λn u=>?_) λae=>?_);intro i hn hi ab;refine rx @Zcp ?_;refine cd (λh2=>?_) (λh2=>?_);simp at h2;have hB:=Zaa.eq_1 (v.hdrs.getD i dE);have ad:=Zm h2;generalize hg:v.hdrs.getD i dE=g at *;refine xA (nd2 @atH (nd2 @hg @Hdr.cells.eq_1)) ?_;refine cd (λh3=>?_) (λh3=>?_);rw[h3]at hB;rw[show v.hdrs.any Zaa=true from List.any_eq_true.2 ⟨_,ad,hB⟩]at hS;refine rg ?_;refine rb t ?_;exact hS.symm;rw[h3]at hB;refine gA ?_;refine Za ?_;exact u ((I v.hdrs)-(i+1)) ω (i+1) rfl ω (ZZ (q:=λj=>Zaa (v.hdrs.getD j dE)=false) ab (by rw[hg];exact hB));simp at h2;obtain rfl:i=I v.hdrs:=ω;have ha:v.hdrs.any Zaa=false:=by rw[List.any_eq_false];intro x hx;obtain⟨j,hj,rfl⟩:=ZH1 hx;have:=ab j hj;simpa[ZHU,hj]using this
 rw[ha]at hS;refine rg ?_;refine rb t ?_;exact hS.symm;exact ae _ 0 rfl ω (by intro j hj;omega)
def ZtY(v):Zc ZHF 68 [.agg v.cells] (.bool (ZW v)):=by
 induction v using Val.ind with
 |h v ih =>
 refine ZJ (cR 68 f68) λad F st u=>?_;have hw:=ZkW ad;unfold big at hw;clear ad;have hS:=ZdH v;rw[Zda]at hS;have hN:=ZuP v;rw[v.cells_eq]at hN⊢;refine gG ?_;refine Zb (fr (I v.parts) (λi Q=>i<=I v.parts->(∀j,j<i->ZW (v.parts.getD j dE)=true)->Q [(1,.loc 1 0),(3,.d (.i i))] [(1,[.str v.name,.i v.int,Zs v.bytes,Zx v.hdrs,ZF v.parts])] st) (λn t=>?_) λae=>?_);intro i hn hi ab;refine rx @KU ?_;refine cd (λh=>?_) (λh=>?_);simp at h;have hr:=Wm h;have z:=Zm h;have ac:=ih _ z;rw[ZHX]at ac;generalize hg:v.parts.getD i dE=x at *;refine xA (nd2 @KU (nd2 @atV @hr)) ?_;refine cl (ac) ?_;refine cd (λh2=>?_) (λh2=>?_);rw[Bool.not_eq_true']at h2;rw[show v.parts.all ZW=false from List.all_eq_false.2 ⟨_,z,by rw[h2];simp⟩,ZH7]at hS;refine rg ?_;refine rb u ?_;exact hS.symm;rw[Bool.not_eq_false']at h2;refine gA ?_;refine Za ?_;exact t ((I v.parts)-(i+1)) ω (i+1) rfl ω (ZZ (q:=λj=>ZW (v.parts.getD j dE)=true) ab (by rw[hg];exact h2));simp at h;obtain rfl:i=I v.parts:=ω;rw[ZnC (p:=ZW) ab,ZH3]at hS;refine rg ?_;refine cl (hN) ?_;refine rb u ?_;exact hS.symm;exact ae _ 0 rfl ω (by intro j hj;omega)
def Jf(v:Val):Bool:=(dC ((Kz v:Int)<=65536)&&dC ((ZL v:Int)<=40))&&ZW v
def ZtX(v)(hb:ZW v=true->Kz v<=1099511627776):Zc ZHF 27 [.agg v.cells] (.bool (Jf v)):=by
 refine Zg (cR 27 f27) λF st j=>?_;obtain⟨n,z,t⟩:=ZrG v;obtain⟨k,hk,u⟩:=ZrF v;have ho:=ZtY v;have hS:=Jf.eq_1 v;have hh:=Zti v;rw[v.cells_eq]at z hk ho⊢;refine gG ?_;refine cl (z) ?_;refine cG (hk) ?_;refine cG (ho) ?_;refine rb j ?_
 (rw[hS];cases i:ZW v with|false=>rw[Bool.and_false,Bool.and_false]|true=>rw[t (hb i),u (Nat.le_trans hh (hb i))])
def Jj:List Hdr->Nat
 | []=>0
 |h::r=>I h.name+I h.text+Jj r
mutual
def wtN:Val->Nat
 |.mk n _ b h p=>10+I n+I b+Jj h+wtL p
def wtL:List Val->Nat
 | []=>0
 |v::r=>wtN v+wtL r
end
def ZbN(v):wtN v=10+I v.name+I v.bytes+Jj v.hdrs+wtL v.parts:=by cases v;rfl
def ZpN(v):10*Kz v<=wtN v:=by
 induction v using Val.ind with
 |h v ih =>
  rw[ZbN,JL];have:∀l:List Val,(∀x∈l,10*Kz x<=wtN x)->10*nodesL l<=wtL l:=λl i=>by
   induction l with
   |nil=>simp[nodesL]
   |cons a r ih2 =>have h1:=i a ψ;have h2:=ih2 λx j=>i x (by simp[j]);simp only[nodesL,wtL];omega
  have:=this v.parts ih;omega
def Zqp{l x}(h:x∈l):wtN x<=wtL l:=by
 induction l with
 |nil=>simp at h
 |cons v r ih =>rcases List.mem_cons.1 h with rfl|h;simp only[wtL];omega;have:=ih h;simp only[wtL];omega
def hsW(n:Int)(l:List Hdr):Int:=l.foldl (λa h=>IntKind.i64.wrap (IntKind.i64.wrap (a+I h.name)+I h.text)) n
def ZzX{n}{l:List Hdr}{i}(h:i<I l):IntKind.i64.wrap (IntKind.i64.wrap (hsW n (l.take i)+(l.getD i dE).name.length)+(l.getD i dE).text.length)=hsW n (l.take (i+1)):=by
 rw[Z3 h];simp[hsW]
def ZdM(f:Val->Int):Int->List Val->Int
 |n,[]=>n
 |n,x::r=>if n<=5000 then ZdM f (IntKind.i64.wrap (n+f x)) r else n
def Zrc{f n}{l:List Val}{i}(h:i<I l):ZdM f n (l.drop i)=if n<=5000 then ZdM f (IntKind.i64.wrap (n+f (l.getD i dE))) (l.drop (i+1)) else n:=by
 rw[Ww h];rfl
def Zqn(f:Val->Int)(v:Val)(depth:Int):Int :=
 if (dC (50<depth) ||decide ((500:Int)<I v.parts)) ||decide ((50:Int)<I v.hdrs) then 5001
 else ZdM f (hsW (IntKind.i64.wrap (IntKind.i64.wrap (10+I v.name)+I v.bytes)) v.hdrs) v.parts
def ZlK(v depth)(hd:0<=depth/\depth<=51)(f)(hf:depth<=50->∀x∈v.parts,Zc ZHF 17 [.agg x.cells,.i (depth+1)] (.i (f x))):Zc ZHF 17 [.agg v.cells,.i depth] (.i (Zqn f v depth)):=by
 refine ZJ (cR 17 f17) λab F st z=>?_;have hw:=((ab (D.agg v.cells) ψ).agg_inv (ZF v.parts) (by rw[ZHX];simp)).sl_inv.1;have ai:=(YR ((ab (.agg v.cells) ψ).agg_inv (slD 2 Hdr.cells v.hdrs) (by rw[v.cells_eq];simp[Zx]))).1;unfold big at hw ai;clear ab;have hS:=Zqn.eq_1 f v depth;rw[v.cells_eq];refine rg ?_;refine rh ?_;refine KZ ?_;simp only[Eqs,reduceCtorEq,ZHK,reduceIte,ZHI,ZHM,ZHJ,KQ,QE,W3];refine ZcA rfl rfl rfl φ (KZ ?_);simp only[Eqs,reduceCtorEq,ZHK,reduceIte,ZHI,ZHM,ZHJ,KQ,QE,W3];refine ZcA rfl rfl rfl φ (KZ ?_);simp only[Eqs,reduceCtorEq,ZHK,reduceIte,ZHI,ZHM,ZHJ,KQ,QE];generalize IntKind.i64.wrap (IntKind.i64.wrap (10+I v.name)+I v.bytes)=n1 at *;refine rx (nd2 @KU @Zcp) ?_;refine cd (λh1=>?_) (λh1=>?_);rw[if_pos h1]at hS;refine rg ?_;refine ri z ?_;exact hS.symm;rw[if_neg (by simp[h1])]at hS;have af:depth<=50:=by simp at h1;omega
 refine rg ?_;refine Zb (fr (I v.hdrs) (λi Q=>i<=I v.hdrs->Q [(1,.d (.i depth)),(2,.loc 2 0),(5,.d (.i (hsW n1 (v.hdrs.take i)))),(6,.d (.i i))] [(2,[.str v.name,.i v.int,Zs v.bytes,Zx v.hdrs,ZF v.parts])] st) (λn u=>?_) λah=>?_);intro i hn hi;refine rx @Zcp ?_;refine cd (λh2=>?_) (λh2=>?_);simp at h2;have t:=ZzX (n:=n1) h2;generalize hg:v.hdrs.getD i dE=g at *;generalize hsW n1 (v.hdrs.take i)=a at *;refine rh ?_;refine Zcy ?_;simp only[Eqs,reduceCtorEq,ZHK,reduceIte,ZHI,ZHM,ZHJ,KQ,QE,atH,hg,Hdr.cells];refine aa ?_;refine Zqq rfl rfl rfl φ (Zcy ?_);simp only[Eqs,reduceCtorEq,ZHK,reduceIte,ZHI,ZHM,ZHJ,KQ,QE,atH,hg,Hdr.cells];refine aa ?_;refine Zqq rfl rfl rfl φ (Zcy ?_);simp only[Eqs,reduceCtorEq,ZHK,reduceIte,ZHI,ZHM,ZHJ,KQ,QE];rw[t];refine gA ?_;refine Za ?_;exact u ((I v.hdrs)-(i+1)) ω (i+1) rfl ω;simp at h2;obtain rfl:i=I v.hdrs:=ω;rw[ZH2];generalize hsW n1 v.hdrs=n2 at *;refine rg ?_;refine Zb (fr (I v.parts) (λi Q=>∀n,ZdM f n (v.parts.drop i)=ZdM f n2 v.parts->i<=I v.parts->Q [(1,.d (.i depth)),(2,.loc 2 0),(5,.d (.i n)),(7,.d (.i i))] [(2,[.str v.name,.i v.int,Zs v.bytes,Zx v.hdrs,ZF v.parts])] st) (λn j=>?_) λae=>?_);intro i hn n hr hi;refine rx @KU ?_;refine cd (λh3=>?_) (λh3=>?_);simp only[ZHN,decide_eq_true_eq]at h3;have h4:i<I v.parts:=ω;have ag:=Wm h4;have t:=Zrc (f:=f) (n:=n) h4;rw[if_pos h3.2,hr]at t;have ac:=hf af _ (Zm h4);rw[ZHX]at ac;generalize v.parts.getD i dE=x at *;refine rh ?_;refine KZ ?_;simp only[Eqs,reduceCtorEq,ZHK,reduceIte,ZHI,ZHM,ZHJ,KQ,QE,atV,ag];refine aa ?_;refine ZcA rfl rfl rfl φ (KZ ?_);simp only[Eqs,reduceCtorEq,ZHK,reduceIte,ZHI,ZHM,ZHJ,KQ,QE];rw[Q7 (n:=depth+1) ω];refine Zao rfl rfl rfl rfl rfl φ φ (by exact ac) (KZ ?_);simp only[Eqs,reduceCtorEq,ZHK,reduceIte,ZHI,ZHM,ZHJ,KQ,QE];refine ZcA rfl rfl rfl φ (KZ ?_);simp only[Eqs,reduceCtorEq,ZHK,reduceIte,ZHI,ZHM,ZHJ,KQ,QE];refine gA ?_;refine Za ?_;exact j ((I v.parts)-(i+1)) ω (i+1) rfl _ t.symm ω;have ad:n=ZdM f n2 v.parts:=by rw[<-hr];rcases Nat.lt_or_eq_of_le hi with h4|h4;rw[Zrc h4,if_neg];intro h5;simp[h4,h5]at h3;rw[h4,List.drop_length];rfl
 refine rg ?_;refine ri z ?_;rw[hS,ad];exact ae _ 0 rfl n2 rfl ω;exact ah _ 0 rfl ω
def ZqU:∀(l) (n:Int),0<=n->n+Jj l<=1000000000000->hsW n l=n+Jj l
 | [],n,_,_=>by simp[hsW,Jj]
 |h::r,n,h0,h1=>by simp only[Jj]at h1⊢;have e:hsW n (h::r)=hsW (IntKind.i64.wrap (IntKind.i64.wrap (n+I h.name)+I h.text)) r:=rfl;rw[e,Q7 (n:=n+I h.name) ω,Q7 ω,ZqU r _ ω ω];omega
def Zqf(f:Val->Int):List Val->Int
 | []=>0
 |x::r=>f x+Zqf f r
def ZvP{f M}(u:0<=M/\M<=900000000000):∀(l n),0<=n->n<=1000000000000->(∀x∈l,0<=f x/\f x<=M)->n<=ZdM f n l/\ZdM f n l<=max n (5000+M)/\(ZdM f n l<=5000->ZdM f n l=n+Zqf f l/\∀x∈l,f x<=5000)
 | [],n,h0,h1,_=>by simp only[ZdM,Zqf];exact⟨ω,ω,λ_=>⟨ω,λx j=>by simp at j⟩⟩
 |x::r,n,h0,h1,hf=>by have j:=hf x ψ;simp only[ZdM,Zqf];by_cases i:n<=5000;rw[if_pos i,Q7 ω];obtain⟨a,b,c⟩:=ZvP u r (n+f x) ω ω λy hy=>hf y (by simp[hy]);refine⟨ω,ω,λt=>?_⟩;obtain⟨c1,z⟩:=c t;refine⟨ω,λy hy=>?_⟩;rcases List.mem_cons.1 hy with rfl|hy;omega;exact z y hy;rw[if_neg i];exact⟨ω,ω,λh=>by omega⟩
def ZwC{l k}(h:∀x∈l,ZL x<=k):heightL l<=k:=by
 induction l with
 |nil=>simp[heightL]
 |cons v r ih =>have h1:=h v ψ;have h2:=ih λx i=>h x (by simp[i]);simp only[heightL];omega
def ZCT{f:Val->Int}{l}(h:∀x∈l,f x=wtN x):Zqf f l=wtL l:=by
 induction l with
 |nil=>rfl
 |cons v r ih =>have h1:=h v ψ;have h2:=ih λx i=>h x (by simp[i]);simp only[Zqf,wtL];omega
def Zmc{s}(h:Yt s=true):1<=I s/\I s<=32:=by
 cases s with
 |nil=>simp[Yt]at h
 |cons c r =>simp only[Yt,ZHN,decide_eq_true_eq]at h;exact⟨ψ,h.1.1⟩
def ZzW{l}(h:l.any Zaa=false):Jj l<=2097152*I l:=by
 induction l with
 |nil=>simp[Jj]
 |cons a r ih =>rw[List.any_cons,Bool.or_eq_false_iff]at h;have h2:=ih h.2;have i:=h.1;unfold Zaa at i;simp only[Bool.or_eq_false_iff,decide_eq_false_iff_not]at i;simp only[Jj,ZHW];omega
def QU{v}(h:QM v=true):(1<=I v.name/\I v.name<=32)/\(0<=v.int/\v.int<34359738368)/\I v.bytes<=1048576/\I v.hdrs<=100/\Jj v.hdrs<=2097152*I v.hdrs/\Yt v.name=true:=by
 unfold QM at h;simp only[ZHN,decide_eq_true_eq,Bool.not_eq_true']at h;obtain⟨⟨⟨⟨⟨i,j⟩,n⟩,h4⟩,h5⟩,t⟩:=h;exact⟨Zmc i,⟨j,n⟩,ω,ω,ZzW t,i⟩
def Zoj(v):∀u:Int,0<=u->u<=51->∃n,Zc ZHF 17 [.agg v.cells,.i u] (.i n)/\(ZW v=true->0<=n/\n<=110000000*(52-u)+6000/\(n<=5000->n=wtN v/\(ZL v:Int)+u<=51)):=by
 induction v using Val.ind with
 |h v ih =>
  intro u h0 j;have hc:∀x:Val,∃n,u<=50->x∈v.parts->Zc ZHF 17 [.agg x.cells,.i (u+1)] (.i n)/\(ZW x=true->0<=n/\n<=110000000*(52-(u+1))+6000/\(n<=5000->n=wtN x/\(ZL x:Int)+(u+1)<=51)):=λx=>by by_cases z:x∈v.parts/\u<=50;obtain⟨n,hn⟩:=ih x z.1 (u+1) ω ω;exact⟨n,λ_ _=>hn⟩;exact⟨0,λh1 h2=>absurd ⟨h2,h1⟩ z⟩
  refine⟨_,ZlK v u ⟨h0,j⟩ (λx=>(hc x).choose) λt x z=>((hc x).choose_spec t z).1,λi=>?_⟩;rw[ZdH,ZHN,Zda,List.all_eq_true]at i;obtain⟨hn,hi,hb,hh,hw,_⟩:=QU i.2;unfold Zqn;split;exact⟨ω,ω,λh=>by omega⟩;rename_i h1;simp only[ZH0,decide_eq_true_eq,not_or]at h1;rw[Q7 (n:=10+I v.name) ω,Q7 ω,ZqU _ _ ω ω];have hf:∀x∈v.parts,0<=(hc x).choose/\(hc x).choose<=110000000*(52-(u+1))+6000:=λx z=>by have:=((hc x).choose_spec ω z).2 (i.1 x z);exact⟨this.1,this.2.1⟩
  obtain⟨a,b,c⟩:=ZvP (f:=λx=>(hc x).choose) (M:=110000000*(52-(u+1))+6000) ⟨ω,ω⟩ v.parts (10+I v.name+I v.bytes+Jj v.hdrs) ω ω hf;refine⟨ω,ω,λh5=>?_⟩;obtain⟨c1,c2⟩:=c h5;have z:∀x∈v.parts,(hc x).choose=wtN x/\(ZL x:Int)+(u+1)<=51:=λx z=>(((hc x).choose_spec ω z).2 (i.1 x z)).2.2 (c2 x z);refine⟨?_,?_⟩;rw[c1,ZCT λx h=>(z x h).1,ZbN];omega;have:=ZwC (l:=v.parts) (k:=(50-u).toNat) λx h=>by have:=(z x h).2;omega
  rw[WJ];omega
def ZpJ(d:Dfn)(v st):Ze ZHF 5 [.agg d.cells,.agg v.cells] st λr S=>S=st/\∃b,r=.ret (.bool b)/\(b=true->ZW v=true->wtN v<=5000/\ZL v<=51):=by
 obtain⟨wt,u,ab⟩:=Zoj v 0 ω ω;refine ZaH (cR 5 f5) λz F hF=>?_;have hw:=Zhu (s:=d) (z _ ψ);have af:=hw.nmsgs;unfold big at af;clear z;rw[v.cells_eq]at u⊢;refine rx @eQ2 ?_;refine rx @Zc4 ?_;refine cd (λh0=>?_) (λh0=>?_);refine rg ?_;exact hF.ret _ _ rfl φ (ZHL _) ZHH ⟨rfl,false,rfl,λh=>by simp at h⟩;refine rg ?_;refine Zb (fr (I d.msgs) (λi Q=>i<=I d.msgs->Q [(2,.loc 2 0),(3,.loc 3 0),(5,.d (.i i))] [(2,[.str d.name,Yy d.msgs,.str d.start]),(3,[.str v.name,.i v.int,Zs v.bytes,Zx v.hdrs,ZF v.parts])] st) (λn t=>?_) λah=>?_);intro i hn hi;refine rx @Zc4 ?_;refine cd (λh1=>?_) (λh1=>?_);have ag:i<I d.msgs:=by simp at h1;omega
 have aj:=hw.msgs _ (Zm ag);have ai:=aj.nfields;unfold big at ai;generalize hm:d.msgs.getD i dE=m at *;refine xA (nd2 @atM (nd2 @hm @eQ3)) ?_;refine rx @Jw ?_;refine cd (λh2=>?_) (λh2=>?_);refine rg ?_;exact hF.ret _ _ rfl φ (ZHL _) ZHH ⟨rfl,false,rfl,λh=>by simp at h⟩;refine rg ?_;refine Zb (fr (I m.fields) (λk Q=>k<=I m.fields->Q [(2,.loc 2 0),(3,.loc 3 0),(5,.d (.i i)),(6,.loc 6 0),(7,.d (.i k))] [(2,[.str d.name,Yy d.msgs,.str d.start]),(3,[.str v.name,.i v.int,Zs v.bytes,Zx v.hdrs,ZF v.parts]),(6,[.str m.name,Zk m.fields])] st) (λn j=>?_) λac=>?_);intro k ab hk;refine rx @Jw ?_;refine cd (λh3=>?_) (λh3=>?_);have ad:k<I m.fields:=by simp at h3;omega
 generalize hf:m.fields.getD k dE=f at *;refine xA (nd2 @atF (nd2 @hf (nd2 @eQ0 (nd2 @ZmO @Zuk)))) ?_;refine cd (λh4=>?_) (λh4=>?_);refine rg ?_;exact hF.ret _ _ rfl φ (ZHL _) ZHH ⟨rfl,false,rfl,λh=>by simp at h⟩;refine gA ?_;refine Za ?_;exact j ((I m.fields)-(k+1)) ω (k+1) rfl ω;have ad:k=I m.fields:=by simp at h3;omega
 subst ad;refine gA ?_;refine Za ?_;exact t ((I d.msgs)-(i+1)) ω (i+1) rfl ω;exact ac _ 0 rfl ω;refine rg ?_;refine cl (u) ?_;exact hF.ret _ _ rfl φ (ZHL _) ZHH ⟨rfl,dC (wt<=5000),rfl,λh ae=>by
  have h1:=(ab ae).2.2 (of_decide_eq_true h);have h2:wt<=5000:=of_decide_eq_true h;exact⟨ω,ω⟩⟩
 exact ah _ 0 rfl ω
def Zph{h:Hdr}:Zc ZHF 141 [.agg h.cells] (.bool (Zaa h)):=by
 refine Zg (cR 141 f141) λF st i=>?_;have j:dC ((1048576:Int)<max (I h.name:Int) (I h.text:Int))=Zaa h:=by unfold Zaa;rw[<-Bool.decide_or];exact decide_eq_decide.2 ω
 refine rx @Hdr.cells.eq_1 ?_;refine rg ?_;refine rb i ?_;exact j
def Zqm(l):Zc ZHF 142 [slD 2 Hdr.cells l,.fn (.func 141) [] []] (.bool (l.any Zaa)) :=
 λst=>J3 l (λ_=>st) λi _=> Zph.VT (first:=[]) (caps:=[]) st
def ZrU(v):Zc ZHF 96 [.agg v.cells] (.bool (QM v)):=by
 refine Zg (cR 96 f96) λF st i=>?_;rw[v.cells_eq];refine gG ?_;refine rx (nd2 @W3 @Zcp) ?_;refine cX (nd2 @W3 @Zcp) (Zbu _) ?_;refine cG (Zqm v.hdrs) ?_;refine rb i ?_;unfold QM;rfl
mutual
def QI:Val->Int->List (Int×Val)
 |.mk n i b hd p,h=>(h,.mk n i b hd p)::preWL p (IntKind.i64.wrap (h+1))
def preWL:List Val->Int->List (Int×Val)
 | [],_=>[]
 |v::r,h=>QI v h++preWL r h
end
def ZhI(v)(h:Int):QI v h=(h,v)::preWL v.parts (IntKind.i64.wrap (h+1)):=by cases v;rfl
def Zoy{l:List Val}{i}(h:i<I l)(k):preWL (l.take (i+1)) k=preWL (l.take i) k++QI (l.getD i dE) k:=by
 rw[Z3 h];generalize l.getD i dE=x;induction l.take i with
 |nil=>simp[preWL]
 |cons y r ih=>simp only[List.cons_append,preWL,ih,ZIg]
def ZuJ{l i}(h:i<I l)(k):preWL l k=preWL (l.take i) k++(QI (l.getD i dE) k++preWL (l.drop (i+1)) k):=by
 have j:∀a b:List Val,preWL (a++b) k=preWL a k++preWL b k:=λa b=>by
  induction a with
  |nil=>rfl
  |cons x r ih=>simp only[List.cons_append,preWL,ih,ZIg]
 conv=>lhs;rw[<-List.take_append_drop (i+1) l]
 rw[j,Zoy h,ZIg]
def hvA(L:List (Int×Val))(j:Nat):List D:=[.i (L.getD j dE).1,.agg (L.getD j dE).2.cells]
def ZdZ(v:Val)(h:Int)(za zv:Nat):St:=(ZH9 za (.cells [.i h])).or (ZH9 zv (.cells v.cells))
def ZBm{v}{h:Int}{za zv}:(ZdZ v h za zv) za=sO (.cells [.i h]):=Zu YE
def ZBn{v}{h:Int}{za zv}(i:zv≠za):(ZdZ v h za zv) zv=sO (.cells v.cells):=by
 unfold ZdZ;rw[ZM (Zez i)];exact YE
def ZqF{st v}{h:Int}{za zv}(n:st za=nO)(t:st zv=nO):Yc st (ZdZ v h za zv):=λb o i=>by
 unfold ZdZ at i;cases j:(ZH9 za (.cells [.i h])) b with
 |some x=>exact WD n _ _ j
 |none=>rw[ZM j]at i;exact WD t _ _ i
def Zjc(v)(h:Int)(st):Ze ZHF 95 [.agg v.cells,.i h] st λr S=>∃n j,st n=nO/\st j=nO/\j≠n/\r=.ret (.fn (.func 140) [] [.ptr n 0,.ptr j 0])/\S=st.or (ZdZ v h n j):=by
 refine Zh (cR 95 f95) λF hF=>?_;have z:∀n j,ZdZ v h n j=(ZH9 n (.cells [.i h])).or (ZH9 j (.cells v.cells)):=λ_ _=>rfl;rw[v.cells_eq]at z⊢;refine rg ?_;refine Zd ?_;refine xP 3 λn u=>?_;refine xP 2 λj t=>?_;have i:=Zv t;refine rg ?_;refine hF.ret _ _ rfl φ (ZHL _) ZHH ⟨n,j,u,i.2,i.1,rfl,?_⟩;rw[Qt t,Qt u,or_assoc,z]
def Mk.or{T a}:∀{qs S},Mk T qs S->Yc a S->Mk (a.or T) qs (a.or S)
 | [],S,hm,_=>by rw[show S=T from hm];rfl
 |q::qs,S,hm,hd=>by
  obtain⟨S',h1,u,rfl⟩:=hm;have z:a q=nO:=hd q _ (ZHP _ _ _);have i:Yc a S':=λb o n=>hd b o (by rw[ZHQ _ _ (λe=>by rw[e,u]at n;simp at n)];exact n);refine⟨a.or S',h1.or i,by rw[ZM z];exact u,?_⟩;funext c;by_cases t:c=q;subst t;rw[ZHP,ZM z,ZHP];rw[ZHQ _ _ t];cases j:a c with
  |some x=>rw[Zu j,Zu j]
  |none=>rw[ZM j,ZM j,ZHQ _ _ t]
def Mk.unwS{P A m Ψ}(h:Ψ m A):∀{qs S},Mk A qs S->Unw P (qs.map .mark) m S Ψ
 | [],S,hm=>by rw[show S=A from hm];exact h
 |q::qs,S,hm=>by
  obtain⟨S',n,j,rfl⟩:=hm;refine⟨ZHP _ _ _,?_⟩;have e:(S'.upd q .dfr).del q=S':=by funext c;by_cases i:c=q;subst i;simp[St.del,j];simp[St.del,ZIi,i]
  rw[e];exact Mk.unwS h n
def JC{s t:St}{b}(h:(s.or t) b=nO):s b=nO/\t b=nO:=by
 cases i:s b with
 |none=>rw[ZM i]at h;exact⟨rfl,h⟩
 |some o=>rw[Zu i]at h;simp at h
def ZBl{a s t}(u:Yc a s)(n:Yc (a.or s) t):Yc a (s.or t):=λb o j=>by
 cases i:s b with
 |some x=>exact u b x i
 |none =>rw[ZM i]at j;exact(JC (n b o j)).1
def ZhG{s t:St}{b o}(h:s b=nO):(s.or t).upd b o=s.or (t.upd b o):=by
 funext c;by_cases j:c=b;subst j;rw[ZHP,ZM h,ZHP];rw[ZHQ _ _ j];cases i:s c with
 |some x=>rw[Zu i,Zu i]
 |none=>rw[ZM i,ZM i,ZHQ _ _ j]
def Zgl{s t b o}(n:Yc s t)(h:s b=nO):Yc s (t.upd b o):=λc x j=>by
 by_cases i:c=b;subst i;exact h;rw[ZHQ _ _ i]at j;exact n c x j
def Zs0{s a t u:St}(n:Yc s (t.or u))(z:Yc (a.or t) u):Yc s t/\Yc (s.or t) u:=by
 refine⟨λb o i=>n b o (Zu i),λb o i=>?_⟩;have j:=(JC (z b o i)).2;have h4:=n b o (by rw[ZM j];exact i);rw[ZM h4];exact j
def goE(go:Nat->Oc)(k j:Nat):Oc:=match go (k+j) with
 |.next=>.next
 |.stop _=>.stop (.exit 0)
 |.pan d=>.pan d
def ZzS{i k j}(h:goE i k j=.next):i (k+j)=.next:=by
 unfold goE at h;split at h<;>first|assumption|simp at h
def Zlr{i k n}(u:∀j,j<k->i j=.next)(t:∀j,j<n->goE i k j=.next):∀j,j<k+n->i j=.next:=λj hj=>by
 by_cases h:j<k;exact u j h;have:=ZzS (t (j-k) ω)
 rwa [show k+(j-k)=j by omega]at this
def ZzP{α:Type}[Inhabited α]{a b c:List α}{k j}(n:k=I a)(i:j<I b):(a++(b++c)).getD (k+j) dE=b.getD j dE:=by
 subst n;simp[ZHU,ZIq,ZIc i]
def Zpg(v):∀(h:Int) (za zv),zv≠za->Zjp ZHF (.fn (.func 140) [] [.ptr za 0,.ptr zv 0]) (QI v h).length (hvA (QI v h)) (ZdZ v h za zv):=by
 induction v using Val.ind with
 |h v ih =>
 intro h za zv bf l go A a0 al hA hd;have hL:=ZhI v h;obtain⟨h1,a5⟩:∃h1,h1=IntKind.i64.wrap (h+1):=⟨_,rfl⟩;rw[<-a5]at hL;generalize QI v h=LL at *;have aq:0<LL.length:=by rw[hL];simp
 have ba:hvA LL 0=[.i h,.agg [.str v.name,.i v.int,Zs v.bytes,Zx v.hdrs,ZF v.parts]]:=by unfold hvA;rw[hL,<-ZHX];rfl
 refine Ze.V (first:=[]) (args:=[.fn (.yield l) [] []]) (caps:=[.ptr za 0,.ptr zv 0]) (Zh (cR 140 f140) λF hF=>?_);have ga:=ZBm (v:=v) (h:=h) (za:=za) (zv:=zv);have gv:=ZBn (v:=v) (h:=h) bf;rw[ZHX]at gv;generalize ZdZ v h za zv=T at *;refine rg ?_;refine YB (Zd (Zd ?_));refine xP 3 λz3 h3=>?_;obtain⟨aw,ak⟩:=JC h3;have a7:((a0.or T).upd z3 (.cells [.fn (.yield l) [] []]))=a0.or (T.upd z3 (.cells [.fn (.yield l) [] []])):=ZhG aw;rw[a7];clear a7;have am:=Zgl (o:=.cells [.fn (.yield l) [] []]) hd aw;have g3:(T.upd z3 (.cells [.fn (.yield l) [] []])) z3=sO (.cells [.fn (.yield l) [] []]):=ZHP _ _ _;have a6:(T.upd z3 (.cells [.fn (.yield l) [] []])) za=sO (.cells [.i h]):=by rw[ZHQ _ _ (λe=>by rw[<-e,ga]at ak;simp at ak)];exact ga
 have ax:(T.upd z3 (.cells [.fn (.yield l) [] []])) zv=sO (.cells [.str v.name,.i v.int,Zs v.bytes,Zx v.hdrs,ZF v.parts]):=by rw[ZHQ _ _ (λe=>by rw[<-e,gv]at ak;simp at ak)];exact gv
 clear h3 aw ak ga gv hd;generalize (T.upd z3 (.cells [.fn (.yield l) [] []]))=T3 at *;have rd:∀{a Tq:St} {b:Nat} {o:Jo},Yc a Tq->Tq b=sO o->(a.or Tq) b=sO o:=λap hb=>by rw[ZM (ap _ _ hb)];exact hb
 have u:=(al 0 aq (λi hi=>absurd hi (Nat.not_lt_zero _)) a0 hA).frame am;rw[ba]at u;refine rh ?_;refine Zn ?_;simp only[Eqs,reduceCtorEq,ZHK,reduceIte,ZHI,ZHM,ZHJ,rd am g3,rd am a6,rd am ax];refine vV (u) ?_ ?_
 .rintro d S ⟨s',⟨hr,ab⟩,ad,rfl⟩;cases t:go 0 with
  |next =>
   rw[t]at hr;cases hr;refine gR0 ?_;refine i0 ?_;refine rh ?_;refine Zn ?_;simp only[Eqs,reduceCtorEq,ZHK,reduceIte,ZHI,ZHM,ZHJ,rd ad ax,KU];refine ZAV 14 rfl λa8=>?_;have hw:=ZdW a8;unfold big at hw;clear a8 u am hA;refine Zb ?_;refine lpU (λQ=>∀(n i:Nat),(I v.parts)-i=n->∀(F:Fr ZHF) (qs:List Nat) (Tq a:St),Y0 F [] (λr S=>∃a,Zhk LL.length go A a r/\a.sub S) (qs.map .mark)->Mk T3 qs Tq->Yc a Tq->A (1+(preWL (v.parts.take i) h1).length) a->(∀j,j<1+(preWL (v.parts.take i) h1).length->go j=.next)->i<=I v.parts->Q F [(1,.d (.ptr za 0)),(3,.d (.ptr z3 0)),(14,.d (ZF v.parts)),(15,.d (.i (I v.parts))),(16,.d (.i i))] [] (a.or Tq)) ?_ λbe=>?_
   .intro n;induction n using Nat.strongRecOn with
    |ind n ih_key =>
    clear ad ab t hF s';intro i hn F qs Tq a hF ai ap hA ag hi;refine rg ?_;refine Zd (Zt rfl trivial (λhc=>?_) (λhc=>?_))
    .simp at hc;have bb:=Wm hc;have a3:=Zm hc;have hT:=Zoy hc h1;have hS:=ZuJ hc h1;have bc:=ih _ a3;generalize hk:1+(preWL (v.parts.take i) h1).length=k at *;generalize hx:v.parts.getD i dE=x at *;refine xA (nd2 @atV @bb) ?_;refine rh ?_;refine KZ ?_;simp only[Eqs,reduceCtorEq,ZHK,reduceIte,ZHI,ZHM,ZHJ,KQ,QE,rd ap (ai.get a6)];refine ZcA rfl rfl rfl φ (KZ ?_);simp only[Eqs,reduceCtorEq,ZHK,reduceIte,ZHI,ZHM,ZHJ,KQ,QE];rw[<-a5];have az:=Zjc x h1 (a.or Tq);rw[ZHX]at az;refine cV (az) ?_ ?_
     .rintro dd S ⟨zx,zy,n1,n2,ne,hr,rfl⟩;cases hr;refine gR0 ?_;refine Zb ?_;refine KM hF rfl trivial [1,3,14,15,16] (by show([1,3,14,15,16]:List Nat).Nodup;decide) (ZqF n1 n2) (bc h1 zx zy ne) (λj hj=>rfl) (goE go k) (λj s=>∃a,s=a.or Tq/\A (k+j) a/\Yc a Tq) ⟨a,rfl,hA,ap⟩ ?_ ?_ ?_ ?_ ?_ ?_
      .rintro j _ hj z ⟨a1,rfl,af,ac⟩ F' ready busy hdr a4 aj;have ay:LL.getD (k+j) dE=(QI x h1).getD j dE:=by rw[hL,hS,<-hk,<-List.cons_append];exact ZzP (by simp;omega) hj
       have ao:k+j<LL.length:=by rw[hL,hS];simp only[ZHW,ZHO];omega
       have u:=al (k+j) ao (λi hi=>Zlr ag z i hi) a1 af;unfold hvA at u;rw[ay]at u;simp only[Eqs,reduceCtorEq,ZHK,reduceIte,ZHI,ZHM,ZHJ,WT,Kc,Jk,Kq,List.isEmpty_nil,List.isEmpty_cons,hvA];generalize (QI x h1).getD j dE=g at *;obtain⟨gh,gx⟩:=g;simp only[ZHX]at u⊢;refine gG ?_;refine a4 λau=>?_;have ah:=u.frame (ZBl ac au);rw[<-or_assoc]at ah;refine rh ?_;refine Zn ?_;simp only[Eqs,reduceCtorEq,ZHK,reduceIte,ZHI,ZHM,ZHJ,Zu (rd ac (ai.get g3))];refine vV (ah) ?_ ?_
       .rintro d S ⟨s',⟨hr,ab⟩,ad,rfl⟩;have ae:=Zs0 ad au;rw[<-or_assoc];cases t:go (k+j) with
        |next =>rw[t]at hr;cases hr;refine gR0 ?_;refine i0 ?_;refine Zp (Zf ?_);exact aj.fin ⟨by unfold goE;rw[t],s',rfl,ab,ae.1⟩ ae.2 ZHH
        |stop c =>rw[t]at hr;cases hr;refine gR0 ?_;refine i1 ?_;exact aj.exit rfl ⟨by unfold goE;rw[t],s',rfl,ab,ae.1⟩ ae.2 ZHH
        |pan d=>rw[t]at hr;cases hr
       rintro d S ⟨s',⟨hr,ab⟩,ad,rfl⟩;have ae:=Zs0 ad au;cases t:go (k+j) with
       |pan d' =>rw[t]at hr;cases hr;rw[<-or_assoc];exact aj.pan ⟨by unfold goE;rw[t],s',rfl,ab,ae.1⟩ ae.2 ZHH
       |next=>rw[t]at hr;cases hr
       |stop c=>rw[t]at hr;cases hr
      rintro q _ z ⟨a1,rfl,af,ac⟩ hq;obtain⟨q1,q2⟩:=JC hq;rw[ZhG q1];have ar:1+(preWL (v.parts.take (i+1)) h1).length=k+(QI x h1).length:=by rw[hT,ZHO];omega
      refine gA ?_;refine Za ?_;exact ih_key (I v.parts-(i+1)) ω (i+1) rfl (F.mark q) (q::qs) (Tq.upd q .dfr) a1 (hF.mark q) ⟨Tq,ai,q2,rfl⟩ (Zgl ac q1) (by rw[ar];exact af) (by rw[ar];exact Zlr ag z) ω;rintro q _ m hm z t;unfold goE at t;split at t<;>simp at t;rintro q _ m id hm z t ⟨a1,rfl,af,ac⟩ hq;obtain⟨q1,q2⟩:=JC hq;rw[ZhG q1];have ao:k+m<LL.length:=by rw[hL,hS];simp only[ZHW,ZHO];omega
      unfold goE at t;split at t;simp at t;rename_i c av;simp only[Oc.stop.injEq,Code.exit.injEq]at t;subst t;refine ZR rfl ?_;refine Z9 ?_;exact(hF.mark q).finU (Mk.unwS (m:=nO) (qs:=q::qs) (A:=a1.or T3) ⟨_,_,.tup [],_,rfl,trivial,ZHL _,ZHH,a1,.stop (k+m) c ao (Zlr ag z) av af,KW⟩ (Mk.or (qs:=q::qs) (S:=Tq.upd q .dfr) ⟨Tq,ai,q2,rfl⟩ (Zgl ac q1)));simp at t;rintro q _ m d hm z t ⟨a1,rfl,af,ac⟩ hq;obtain⟨q1,q2⟩:=JC hq;rw[ZhG q1];have ao:k+m<LL.length:=by rw[hL,hS];simp only[ZHW,ZHO];omega
      unfold goE at t;split at t;simp at t;simp at t;rename_i d' av;simp only[Oc.pan.injEq]at t;subst t;exact(hF.mark q).panU (Mk.unwS (m:=sO _) (qs:=q::qs) (A:=a1.or T3) ⟨_,_,ZHL _,ZHH,a1,.pan (k+m) _ ao (Zlr ag z) av af,KW⟩ (Mk.or (qs:=q::qs) (S:=Tq.upd q .dfr) ⟨Tq,ai,q2,rfl⟩ (Zgl ac q1)));intro m c t;unfold goE at t;split at t<;>simp at t;exact .inr ⟨0,t.symm⟩
     rintro dd S ⟨zx,zy,n1,n2,ne,hr,_⟩;cases hr
    simp at hc;obtain rfl:i=I v.parts:=ω;rw[ZH2]at hA ag;have a9:LL.length=1+(preWL v.parts h1).length:=by rw[hL,ZHW];omega
    rw[<-a9]at hA ag;refine ZR rfl (Z9 ?_);exact hF.finU (Mk.unwS (m:=nO) (A:=a.or T3) ⟨_,_,.tup [],_,rfl,trivial,ZHL _,ZHH,a,.all ag hA,KW⟩ (Mk.or ai ap))
   exact be _ 0 rfl F [] T3 s' hF rfl ad (by simpa[preWL]using ab) (λj hj=>by
    obtain rfl:j=0:=by simp[preWL]at hj;omega
    exact t) ω
  |stop c =>rw[t]at hr;cases hr;refine gR0 ?_;refine i1 ?_;exact hF.ret (.tup []) _ rfl trivial (ZHL _) ZHH ⟨s',.stop 0 c aq (λi hi=>absurd hi (Nat.not_lt_zero _)) t ab,KW⟩
  |pan d=>rw[t]at hr;cases hr
 rintro d S ⟨s',⟨hr,ab⟩,ad,rfl⟩;cases t:go 0 with
 |pan d' =>rw[t]at hr;cases hr;exact hF.pan _ ZHH ⟨s',.pan 0 d aq (λi hi=>absurd hi (Nat.not_lt_zero _)) t ab,KW⟩
 |next=>rw[t]at hr;cases hr
 |stop c=>rw[t]at hr;cases hr
def Zgv{l}{h:Int}{p}:p∈preWL l h↔∃x∈l,p∈QI x h:=by
 induction l with
 |nil=>simp[preWL]
 |cons v r ih=>simp only[preWL,List.mem_append,ih,ZIj,exists_eq_or_imp]
def ZtK(v):∀h,(QI v h).length=Kz v:=by
 induction v using Val.ind with
 |h v ih =>
  intro h;rw[ZhI,JL,ZHW];have:∀(l:List Val) (k:Int),(∀x∈l,∀k,(QI x k).length=Kz x)->(preWL l k).length=nodesL l:=λl k i=>by
   induction l with
   |nil=>simp[preWL,nodesL]
   |cons a r ih2=>rw[preWL,ZHO,i a ψ,ih2 λx j=>i x (by simp[j]),nodesL]
  rw[this v.parts _ ih];omega
def ZvH(v):∀h,ZW v=true↔∀p∈QI v h,QM p.2=true:=by
 induction v using Val.ind with
 |h v ih =>intro h;rw[ZhI,ZdH,ZHN,Zda,List.all_eq_true];constructor;rintro⟨t,n⟩ p hp;rcases List.mem_cons.1 hp with rfl|hp;exact n;obtain⟨x,j,hp⟩:=Zgv.1 hp;exact(ih x j _).1 (t x j) p hp;intro i;refine⟨λx j=>(ih x j _).2 λp hp=>i p (List.mem_cons_of_mem _ (Zgv.2 ⟨x,j,hp⟩)),i (h,v) ψ⟩
def ZAl(v):∀h:Int,0<=h->h+ZL v<=4611686018427387904->∀p∈QI v h,p.1<h+ZL v:=by
 induction v using Val.ind with
 |h v ih =>intro h h0 j p hp;rw[ZhI]at hp;rw[WJ]at j⊢;rcases List.mem_cons.1 hp with rfl|hp;show h<_;omega;obtain⟨x,i,hp⟩:=Zgv.1 hp;have h1:=ZaK i;rw[Q7 ω]at hp;have:=ih x i (h+1) ω ω p hp;omega
def ZwB{l k}(h:k<heightL l):∃x∈l,k<ZL x:=by
 induction l with
 |nil=>simp[heightL]at h
 |cons v r ih =>simp only[heightL]at h;by_cases n:k<ZL v;exact⟨v,ψ,n⟩;obtain⟨x,i,j⟩:=ih ω;exact⟨x,by simp[i],j⟩
def Zw2(v):∀(k:Nat) (h:Int),0<=h->h+k<=4611686018427387904->k<ZL v->∃p∈QI v h,p.1=h+k:=by
 induction v using Val.ind with
 |h v ih =>
  intro k h h0 hb t;rw[ZhI];cases k with
  |zero=>exact⟨(h,v),ψ,ψ⟩
  |succ k =>rw[WJ]at t;obtain⟨x,j,i⟩:=ZwB (show k<heightL v.parts by omega);rw[Q7 ω];obtain⟨p,n,u⟩:=ih x j k (h+1) ω ω i;exact⟨p,List.mem_cons_of_mem _ (Zgv.2 ⟨x,j,n⟩),by rw[u];omega⟩
def ZgN(L:List (Int×Val))(j:Nat):Bool:=(dC ((65536:Int)<(j:Int)+1) ||decide ((40:Int)<(L.getD j dE).1))||!QM (L.getD j dE).2
def Zzf{v}(h:∀j,j<(QI v 1).length->ZgN (QI v 1) j=false):Jf v=true:=by
 have hl:=ZtK v 1;have n:∀p∈QI v 1,p.1<=40/\QM p.2=true:=λp n=>by obtain⟨j,u,rfl⟩:=ZH1 n;have:=h j u;unfold ZgN at this;simp only[Bool.or_eq_false_iff,decide_eq_false_iff_not,Bool.not_eq_false',List.getD_eq_getElem?_getD,ZIb u,ZIk]at this;exact⟨ω,this.2⟩
 have h0:0<Kz v:=by rw[JL];omega
 have t:=h ((QI v 1).length-1) ω;unfold ZgN at t;simp only[Bool.or_eq_false_iff,decide_eq_false_iff_not]at t;unfold Jf;rw[(ZvH v 1).2 λp i=>(n p i).2,Bool.and_true,ZHN,decide_eq_true_eq,decide_eq_true_eq];refine⟨ω,?_⟩;by_cases hh:ZL v<=40;omega;obtain⟨p,i,he⟩:=Zw2 v 40 1 ω ω ω;have:=(n p i).1;omega
def Zze{v j}(u:j<(QI v 1).length)(h:ZgN (QI v 1) j=true):Jf v=false:=by
 cases i:Jf v with
 |false=>rfl
 |true =>exfalso;unfold Jf at i;simp only[ZHN,decide_eq_true_eq]at i;obtain⟨⟨h1,h2⟩,t⟩:=i;have hl:=ZtK v 1;have hm:(QI v 1).getD j dE∈QI v 1:=Zm u;have h4:=ZAl v 1 ω ω _ hm;have n:=(ZvH v 1).1 t _ hm;unfold ZgN at h;rw[n]at h;simp only[Bool.not_true,Bool.or_false,ZH0,decide_eq_true_eq]at h;omega
def Zql(v):Zc ZHF 46 [.agg v.cells] (.bool (Jf v)):=by
 refine λst=>Zh (cR 46 f46) λF hF=>?_;have ad:=Zjc v 1 st;have ao:=Zpg v 1;have ab:=Zzf (v:=v);have ae:=λj=>Zze (v:=v) (j:=j);rw[ZHX]at ad⊢;generalize QI v 1=L at *;refine gG ?_;refine rg ?_;refine cV (ad) ?_ ?_
 .rintro dd S ⟨za,zv,n1,n2,ne,hr,rfl⟩;cases hr;refine gR0 ?_;refine Zb ?_;refine xP 2 λz2 h2=>?_;obtain⟨ah,aq⟩:=JC h2;rw[W7];refine xP 3 λz3 h3=>?_;obtain⟨ap,ai⟩:=JC h3;rw[W7];have k3:=Zv ap;have g2:∀c,((st.upd z2 (.cells [.bool false])).upd z3 c) z2=sO (.cells [.bool false]):=λc=>by rw[ZHQ _ _ (Ne.symm k3.1)];exact ZHP _ _ _
  have g3:∀c,((st.upd z2 (.cells [.bool false])).upd z3 c) z3=sO c:=λc=>ZHP _ _ _;have u:∀c o,st.sub (((st.upd z2 (.cells [.bool false])).upd z3 c).upd z2 o):=λc o b x hb=>by
   have e2:b≠z2:=λe=>by rw[e,ah]at hb;simp at hb
   have e3:b≠z3:=λe=>by rw[e,k3.2]at hb;simp at hb
   rw[ZHQ _ _ e2,ZHQ _ _ e3,ZHQ _ _ e2];exact hb
  have ak:∀c,Yc ((st.upd z2 (.cells [.bool false])).upd z3 c) (ZdZ v 1 za zv):=λc b o hb=>by
   have e2:b≠z2:=λe=>by rw[e,aq]at hb;simp at hb
   have e3:b≠z3:=λe=>by rw[e,ai]at hb;simp at hb
   rw[ZHQ _ _ e3,ZHQ _ _ e2];exact ZqF n1 n2 b o hb
  refine KM hF rfl trivial [2,3] (by show([2,3]:List Nat).Nodup;decide) (ak _) (ao za zv ne) (λj hj=>rfl) (λj=>if ZgN L j then .stop .ret else .next) (λj a=>a=(st.upd z2 (.cells [.bool false])).upd z3 (.cells [.i j])) rfl ?_ ?_ ?_ ?_ ?_ ?_
  .intro j a hj t hB F' ready ac hdr af n;subst hB;have hj2:j<=65536:=by refine Nat.le_of_not_lt λaj=>?_;have:=t 65536 aj;rw[if_pos (by unfold ZgN;simp)]at this;simp at this
   have hN:=ZrU (L.getD j dE).2;have ag:=ZgN.eq_1 L j;simp only[Eqs,reduceCtorEq,ZHK,reduceIte,ZHI,ZHM,ZHJ,WT,Kc,Jk,Kq,List.isEmpty_nil,List.isEmpty_cons,hvA];generalize L.getD j dE=g at *;obtain⟨gh,gx⟩:=g;simp only[ZHX]at hN ag⊢;refine gG ?_;refine af λal=>?_;have z:Yc ((st.upd z2 (.cells [.bool false])).upd z3 (.cells [.i ((j+1:Nat):Int)])) ac:=λb o hb=>by have h1:=Zv (al b o hb);rw[ZHQ _ _ h1.1];exact h1.2
   refine rh ?_;refine Zn ?_;simp only[Eqs,reduceCtorEq,ZHK,reduceIte,ZHI,ZHM,ZHJ,Zu (g3 _),W7];refine aa ?_;rw[ZH4,show(j:Int)+1=((j+1:Nat):Int) by omega];refine rh ?_;refine Zn ?_;simp only[Eqs,reduceCtorEq,ZHK,reduceIte,ZHI,ZHM,ZHJ,Zu (g3 _)];refine cG (hN) ?_;rw[show((j+1:Nat):Int)=(j:Int)+1 by omega,<-ag];cases hb:ZgN L j with
   |true =>rw[hb]at n;refine i1 ?_;refine rh ?_;refine Zn ?_;simp only[Eqs,reduceCtorEq,ZHK,reduceIte,ZHI,ZHM,ZHJ,Zu (g2 _),W7];rw[show(j:Int)+1=((j+1:Nat):Int) by omega,St.upd_self (g2 _)];exact n.ret ⟨rfl,rfl⟩ z ZHH
   |false =>rw[hb]at n;refine i0 ?_;refine Zp (Zf ?_);rw[show(j:Int)+1=((j+1:Nat):Int) by omega];exact n.fin ⟨rfl,rfl⟩ z ZHH
  intro q a t hB hq;subst hB;have hv:Jf v=true:=ab λj hj=>by have:=t j hj;split at this;simp at this;rename_i h;simpa using h
  rw[Qt hq];have am:(((st.upd z2 (.cells [.bool false])).upd z3 (.cells [.i L.length])).upd z2 (.cells [.bool true])) q=nO:=by rw[ZHQ _ _ (λe=>by rw[e,g2]at hq;simp at hq)];exact hq
  have gg:(((st.upd z2 (.cells [.bool false])).upd z3 (.cells [.i L.length])).upd z2 (.cells [.bool true])) z2=sO (.cells [.bool true]):=ZHP _ _ _;refine rh ?_;refine Zn ?_;simp only[Eqs,reduceCtorEq,ZHK,reduceIte,ZHI,ZHM,ZHJ,Zu (g2 _),W7];exact hF.ret1 am (.bool true) st (by simp only[Eqs,reduceCtorEq,ZHK,reduceIte,ZHI,ZHM,ZHJ,YK,Ks,gg];rfl) φ (ZHL _) (u _ _) ⟨by rw[hv],rfl⟩;intro q a m hm t i hB hq;subst hB;have hb:ZgN L m=true:=by split at i;assumption;simp at i
  rw[Qt hq];have hs:st.sub ((st.upd z2 (.cells [.bool false])).upd z3 (.cells [.i ((m+1:Nat):Int)])):=by
   have:=u (.cells [.i ((m+1:Nat):Int)]) (.cells [.bool false])
   rwa [St.upd_self (g2 _)]at this
  exact hF.ret1 hq (.bool false) st (by simp only[Eqs,reduceCtorEq,ZHK,reduceIte,ZHI,ZHM,ZHJ,YK,Ks,g2];rfl) φ (ZHL _) hs ⟨by rw[ae m hm hb],rfl⟩;intro q a m id hm t i;split at i<;>simp at i;intro q a m d hm t i;split at i<;>simp at i;intro m c i;split at i<;>simp at i;exact .inl i.symm
 rintro dd S ⟨za,zv,n1,n2,ne,hr,_⟩;cases hr
def Qj(a b:Int):Int:=if a<b then -1 else if b<a then 1 else 0
def Zeq{a b}:Qj a b=0↔a=b:=by
 unfold Qj;split;constructor<;>omega;split;constructor<;>omega;constructor<;>omega
def Kd:Str->Str->Int
 |x::a,y::b=>if x.toNat<y.toNat then -1 else if y.toNat<x.toNat then 1 else Kd a b
 |a,b=>Qj (I a) (I b)
def ZeF:∀{a b},Kd a b=0↔a=b
 | [],[]=>by simp[Kd,Qj]
 | [],y::b=>by simp[Kd,Zeq];omega
 |x::a,[]=>by simp[Kd,Zeq];omega
 |x::a,y::b=>by unfold Kd;split;rename_i h;constructor;intro i;omega;intro i;cases i;omega;split;rename_i h j;constructor;intro i;omega;intro i;cases i;omega;rename_i h j;rw[ZeF];have:x.toNat=y.toNat:=ω;rw[UInt8.toNat_inj.1 this];simp
def Zy9{a b:Str}{i}(n:i<I a)(j:i<I b):Kd (a.drop i) (b.drop i) =
  if (a.getD i 0).toNat<(b.getD i 0).toNat then -1 else if (b.getD i 0).toNat<(a.getD i 0).toNat then 1 else Kd (a.drop (i+1)) (b.drop (i+1)):=by
 rw[List.drop_eq_getElem_cons n,List.drop_eq_getElem_cons j];simp[Kd,ZHU,n,j]
def ZAH{a b:Str}{i}(ha:i<=I a)(hb:i<=I b)(h:¬(i<I a/\i<I b)):Kd (a.drop i) (b.drop i)=Qj (I a) (I b):=by
 have u:(a.drop i).length=I a-i:=ZIh ..;have t:(b.drop i).length=I b-i:=ZIh ..;have j:∀x y:Str,(x=[]\/y=[])->Kd x y=Qj (I x) (I y):=λx y n=>by
  cases x with
  |nil=>cases y<;>rfl
  |cons c x=>cases y with
   |nil=>rfl
   |cons e y=>simp at n
 rw[j _ _ (by
  by_cases hi:i<I a;exact .inr (ZIo ω);exact .inl (ZIo ω)),u,t]
 unfold Qj;split<;>split<;>(try split)<;>(try split)<;>omega
def Zd9(a b):Zc ZHF 39 [.i a,.i b] (.i (Qj a b)):=by
 refine Zg (cR 39 f39) λF st i=>?_;refine gG ?_;refine cd (λh=>?_) (λh=>?_);refine rg ?_;refine ri i ?_;simp at h;simp[Qj,h];refine rg ?_;refine cd (λj=>?_) (λj=>?_);refine rg ?_;refine ri i ?_;simp at h j;unfold Qj;rw[if_neg ω,if_pos j];refine rg ?_;refine ri i ?_;simp at h j;unfold Qj;rw[if_neg ω,if_neg ω]
def Zdc(a b):Zc ZHF 38 [.str a,.str b] (.i (Kd a b)):=by
 refine ZJ (cR 38 f38) λu F st j=>?_;have ha:=(u (.str a) ψ).str_inv;have hb:=(u (.str b) ψ).str_inv;unfold big at ha hb;clear u;refine gG ?_;refine Zb (fr (I a) (λi Q=>Kd a b=Kd (a.drop i) (b.drop i)->i<=I a->i<=I b->Q [(0,.d (.str a)),(1,.d (.str b)),(5,.d (.i i))] [] st) (λn t=>?_) λab=>?_);intro i hn he z ac;refine gA ?_;refine cd (λhd=>?_) (λhd=>?_);simp at hd;have hs:=Zy9 hd.1 hd.2;rw[he]at j;refine gA ?_;refine cd (λh1=>?_) (λh1=>?_);refine rg ?_;refine ri j ?_;simp only[decide_eq_true_eq]at h1;rw[hs,if_pos ω];refine gA ?_;refine cd (λh2=>?_) (λh2=>?_);refine rg ?_;refine ri j ?_;simp only[decide_eq_true_eq,decide_eq_false_iff_not]at h1 h2;rw[hs,if_neg ω,if_pos ω];refine gA ?_;simp only[decide_eq_true_eq,decide_eq_false_iff_not]at h1 h2;refine Za ?_;exact t ((I a)-(i+1)) ω (i+1) rfl (by rw[he,hs,if_neg ω,if_neg ω]) ω ω;simp only[ZIl,decide_eq_false_iff_not]at hd;refine rg ?_;refine cl (Zd9 (I a) (I b)) ?_;refine ri j ?_;rw[he,ZAH z ac ω];exact ab _ 0 rfl ψ ω ω
def Zaw:List Hdr->List Hdr->Int
 |x::a,y::b=>if Kd x.name y.name≠0 then Kd x.name y.name else if Kd x.text y.text≠0 then Kd x.text y.text else Zaw a b
 |a,b=>Qj (I a) (I b)
def ZqT:∀{a b},Zaw a b=0↔a=b
 | [],[]=>by simp[Zaw,Qj]
 | [],y::b=>by simp[Zaw,Zeq];omega
 |x::a,[]=>by simp[Zaw,Zeq];omega
 |⟨xn,xt⟩::a,⟨yn,yt⟩::b=>by unfold Zaw;have t:=@ZeF xn yn;have n:=@ZeF xt yt;have u:=@ZqT a b;split;rename_i h;simp only[]at h;constructor;intro j;exact absurd j h;intro j;simp only[List.cons.injEq,Hdr.mk.injEq]at j;exact absurd (t.2 j.1.1) h;split;rename_i h j;simp only[]at j;constructor;intro i;exact absurd i j;intro i;simp only[List.cons.injEq,Hdr.mk.injEq]at i;exact absurd (n.2 i.1.2) j;rename_i h j;simp only[Decidable.not_not]at h j;rw[u,List.cons.injEq,Hdr.mk.injEq];exact⟨λe=>⟨⟨t.1 h,n.1 j⟩,e⟩,λe=>e.2⟩
def Zye{a b:List Hdr}{i}(n:i<I a)(j:i<I b):Zaw (a.drop i) (b.drop i) =
  if Kd (a.getD i dE).name (b.getD i dE).name≠0 then Kd (a.getD i dE).name (b.getD i dE).name else if Kd (a.getD i dE).text (b.getD i dE).text≠0 then Kd (a.getD i dE).text (b.getD i dE).text
  else Zaw (a.drop (i+1)) (b.drop (i+1)):=by
 rw[List.drop_eq_getElem_cons n,List.drop_eq_getElem_cons j];simp[Zaw,ZHU,n,j]
def ZzU{a b:List Hdr}{i}(ha:i<=I a)(hb:i<=I b)(h:¬(i<I a/\i<I b)):Zaw (a.drop i) (b.drop i)=Qj (I a) (I b):=by
 have u:(a.drop i).length=I a-i:=ZIh ..;have t:(b.drop i).length=I b-i:=ZIh ..;have j:∀x y:List Hdr,(x=[]\/y=[])->Zaw x y=Qj (I x) (I y):=λx y n=>by
  cases x with
  |nil=>cases y<;>rfl
  |cons c x=>cases y with
   |nil=>rfl
   |cons e y=>simp at n
 rw[j _ _ (by
  by_cases hi:i<I a;exact .inr (ZIo ω);exact .inl (ZIo ω)),u,t]
 unfold Qj;split<;>split<;>(try split)<;>(try split)<;>omega
def ZpW(a b):Zc ZHF 40 [Zx a,Zx b] (.i (Zaw a b)):=by
 refine ZJ (cR 40 f40) λu F st j=>?_;have ha:=(YR (u (Zx a) ψ)).1;have hb:=(YR (u (Zx b) ψ)).1;unfold big at ha hb;clear u;refine gG ?_;refine Zb (fr (I a) (λi Q=>Zaw a b=Zaw (a.drop i) (b.drop i)->i<=I a->i<=I b->Q [(0,.d (Zx a)),(1,.d (Zx b)),(5,.d (.i i))] [] st) (λn t=>?_) λab=>?_);intro i hn he z ac;refine xA (nd2 @Zx.eq_1 @eQ1) ?_;refine cd (λhd=>?_) (λhd=>?_);simp at hd;have hs:=Zye hd.1 hd.2;rw[he]at j;generalize hx:a.getD i dE=x at *;generalize hy:b.getD i dE=y at *;refine xA (nd2 @Zx.eq_1 (nd2 @eQ1 (nd2 @hx (nd2 @hy @Hdr.cells.eq_1)))) ?_;refine cl0 (Zdc x.name y.name) ?_;refine rg ?_;refine cd (λh1=>?_) (λh1=>?_);simp at h1;refine xA (nd2 @Zx.eq_1 (nd2 @eQ1 (nd2 @hx (nd2 @hy @Hdr.cells.eq_1)))) ?_;refine cl0 (Zdc x.text y.text) ?_;refine rg ?_;refine cd (λh2=>?_) (λh2=>?_);simp at h2;refine rg ?_;refine ri j ?_;rw[hs,if_neg (by simpa using h1),if_pos h2];simp at h2;refine gA ?_;refine Za ?_;exact t ((I a)-(i+1)) ω (i+1) rfl (by rw[he,hs,if_neg (by simpa using h1),if_neg (by simpa using h2)]) ω ω;simp at h1;refine rg ?_;refine cd (λh2=>?_) (λh2=>?_);refine rg ?_;refine ri j ?_;rw[hs,if_pos h1];simp at h2;exact absurd h2 h1;simp only[ZIl,decide_eq_false_iff_not]at hd;refine rx (nd2 @Zx.eq_1 @eQ1) ?_;refine cl (Zd9 (I a) (I b)) ?_;refine ri j ?_;rw[he,ZzU z ac ω];exact ab _ 0 rfl ψ ω ω
def Z1(row:Nat->List D):Nat->List D
 |0=>[]
 |n+1=>Z1 row n++row n
def Y6{row}:∀{n},(∀j,j<n->(row j).length=5)->(Z1 row n).length=n*5
 |0,_=>rfl
 |n+1,h=>by rw[Z1,ZHO,Y6 λj hj=>h j ω,h n ω];omega
def ZgS{row row'}:∀{n},(∀j,j<n->row j=row' j)->Z1 row n=Z1 row' n
 |0,_=>rfl
 |n+1,h=>by rw[Z1,Z1,ZgS λj hj=>h j ω,h n ω]
def KS{row}(X):∀{n j},(∀j,j<n->(row j).length=5)->j<n->part (Z1 row n++X) (j*5) 5=row j
 |0,j,_,hj=>absurd hj (Nat.not_lt_zero _)
 |n+1,j,h,hj=>by rcases Nat.lt_or_eq_of_le (Nat.le_of_lt_succ hj) with h1|rfl;have:=KS (row n++X) (n:=n) (j:=j) (λk i=>h k ω) h1;rw[Z1,ZIg];exact this;unfold part;rw[Z1,ZIg,List.drop_left' (Y6 λk i=>h k ω),List.take_left' (h j ω)]
def Zem{row}(X k ds)(t:k+I ds<=5):∀{n j},(∀j,j<n->(row j).length=5)->j<n ->
  Zq (Z1 row n++X) (j*5+k) ds=Z1 (λi=>if i=j then Zq (row j) k ds else row i) n++X
 |0,j,_,hj=>absurd hj (Nat.not_lt_zero _)
 |n+1,j,h,hj=>by
  have hl:(Z1 row n).length=n*5:=Y6 λk t=>h k ω;rcases Nat.lt_or_eq_of_le (Nat.le_of_lt_succ hj) with h1|rfl;have ih:=Zem (row n++X) k ds t (n:=n) (j:=j) (λk t=>h k ω) h1;rw[Z1,ZIg,ih,Z1,if_neg ω,ZIg];have hr:=h j ω;have z:Z1 (λi=>if i=j then Zq (row j) k ds else row i) j=Z1 row j:=ZgS λi hi=>by rw[if_neg ω]
  have u:j*5+k-j*5=k:=ω;have e2:j*5+k+I ds-j*5=k+I ds:=ω;have t1:(Z1 row j).take (j*5+k)=Z1 row j:=List.take_of_length_le ω;have t2:(Z1 row j).drop (j*5+k+I ds)=[]:=ZIo ω;rw[Z1,Z1,z,if_pos rfl];unfold Zq;rw[ZIg (Z1 row j),List.take_append,List.take_append,List.drop_append,List.drop_append,hl,hr,u,e2,t1,t2,show k-5=0 by omega,show k+I ds-5=0 by omega];simp
inductive MT(T:St):Val->List D->List Nat->Prop where
 |leaf (n:Str) (i:Int) (b:Str) (h:List Hdr):MT T (.mk n i b h []) [.str n,.i i,Zs b,Zx h,ZF []] []
 |node (n:Str) (i:Int) (b:Str) (h:List Hdr) (ps:List Val) (x cap:Nat) (row:Nat->List D) (fp:Nat->List Nat) (X:List D) (hp:0<I ps) (hb:T x=some (.cells (Z1 row (I ps)++X))) (hc:I ps<=cap)
   (hx:∀j,j<I ps->MT T (ps.getD j default) (row j) (fp j)) (hn:∀j,j<I ps->x∉fp j) (hd:∀j k,j<I ps->k<I ps->j≠k->∀y∈fp j,y∉fp k) :
   MT T (.mk n i b h ps) [.str n,.i i,Zs b,Zx h,.msl x 0 (I ps) cap 5] (x::(ZHT (I ps)).flatMap fp)
def MT.len{T v c fp}(h:MT T v c fp):I c=5:=by cases h<;>rfl
def MT.mono{T T' v c fp}(h:MT T v c fp)(u:∀y∈fp,T' y=T y):MT T' v c fp:=by
 induction h with
 |leaf n i b h=>exact .leaf n i b h
 |node n i b h ps x cap row fp X hp hb hc hx hn hd ih =>refine .node n i b h ps x cap row fp X hp (by rw[u x ψ];exact hb) hc (λj t=>ih j t λy z=>u y ?_) hn hd;simp only[ZIj,List.mem_flatMap,List.mem_range];exact .inr ⟨j,t,z⟩
def MT.live{T v c fp}(h:MT T v c fp):∀y∈fp,∃ds,T y=sO (.cells ds):=by
 induction h with
 |leaf=>intro y t;simp at t
 |node n i b h ps x cap row fp X hp hb hc hx hn hd ih =>intro y t;simp only[ZIj,List.mem_flatMap,List.mem_range]at t;rcases t with rfl|⟨j,u,t⟩;exact⟨_,hb⟩;exact ih j u y t
def MT.ld{T v c fp}(h:MT T v c fp):∀{Ln},(∀y∈fp,y∈Ln)->LdC T Ln c v.cells:=by
 induction h with
 |leaf n i b h=>intro Ln _;rw[ZHX];exact LdC.refl _
 |node n i b h ps x cap row fp X hp hb hc hx hn hd ih =>intro Ln z;rw[ZHX];have u:∀j,j<I ps->(row j).length=5:=λj t=>(hx j t).len;refine .cons (.refl _) (.cons (.refl _) (.cons (.refl _) (.cons (.refl _) (.cons ?_ .nil))));refine YC.msl (z x ψ) hb (by rw[ZHO,Y6 u];exact Nat.le_add_right _ _) λj t=>?_;rw[show((Z1 row (I ps)++X).drop (j*5)).take 5=row j from KS X u t];show LdC T Ln (row j) (J5 ps j);rw[ZcL t];refine ih j t λy hy=>z y ?_;simp only[ZIj,List.mem_flatMap,List.mem_range];exact .inr ⟨j,t,hy⟩
structure MN(T:St)(v:Val)(c:List D)(fp:List Nat)(x cap:Nat)(row:Nat->List D)(f:Nat->List Nat)(X:List D):Prop where
 c:c=[.str v.name,.i v.int,Zs v.bytes,Zx v.hdrs,.msl x 0 (I v.parts) cap 5]
 b:T x=some (.cells (Z1 row (I v.parts)++X))
 le:I v.parts<=cap
 kid:∀j,j<I v.parts->MT T (v.parts.getD j default) (row j) (f j)
 n:∀j,j<I v.parts->x∉f j
 d:∀j k,j<I v.parts->k<I v.parts->j≠k->∀y∈f j,y∉f k
 fp:fp=x::(ZHT (I v.parts)).flatMap f
def MT.inv{T v c fp}(h:MT T v c fp)(j:0<I v.parts):∃x cap row f X,MN T v c fp x cap row f X:=by
 cases h with
 |leaf n i b h=>simp[Val.parts]at j
 |node n i b h ps x cap row f X j hb hc hx hn hd=>exact⟨x,cap,row,f,X,rfl,hb,hc,hx,hn,hd,rfl⟩
def MN.mt{T v c fp x cap row f X}(h:MN T v c fp x cap row f X)(i:0<I v.parts):MT T v c fp:=by
 obtain⟨h1,n,t,j,u,z,h7⟩:=h;subst h1 h7;cases v;exact .node _ _ _ _ _ _ _ _ _ _ i n t j u z
def Val.setP(v:Val)(j:Nat)(w:Val):Val:=.mk v.name v.int v.bytes v.hdrs (v.parts.set j w)
def Val.setI(v:Val)(i:Int):Val:=.mk v.name i v.bytes v.hdrs v.parts
def MT.setI{T v c fp}(h:MT T v c fp)(i):MT T (v.setI i) (Zq c 1 [.i i]) fp:=by
 cases h with
 |leaf n i b h=>exact .leaf _ _ _ _
 |node n i b h ps x cap row f X hp hb hc hx hn hd=>exact .node _ _ _ _ _ _ _ _ _ _ hp hb hc hx hn hd
def JY{l:List Val}{j k w}(i:j<I l):(l.set j w).getD k dE=if k=j then w else l.getD k dE:=by
 simp only[ZHU,List.getElem?_set];by_cases h:k=j;subst h;simp[i];simp[h,Ne.symm h]
def MN.child{T S v c fp x cap row f X}(h:MN T v c fp x cap row f X){j}(hj:j<I v.parts){w r'}(hr:MT S w r' (f j))(hb:S x=sO (.cells (Z1 (λi=>if i=j then r' else row i) (I v.parts)++X)))(ho:∀y,y≠x->y∉f j->S y=T y):MN S (v.setP j w) c fp x cap (λi=>if i=j then r' else row i) f X:=by
 have z:(v.setP j w).parts.length=I v.parts:=by simp[Val.setP,Val.parts]
 refine⟨?_,by rw[z];exact hb,by rw[z];exact h.le,λk n=>?_,λk n=>h.n k ω,λk l n hl' u=>h.d k l ω ω u,by rw[z];exact h.fp⟩;rw[z];exact h.c;rw[z]at n;have e:(v.setP j w).parts.getD k dE=if k=j then w else v.parts.getD k dE:=JY hj
 rw[e];by_cases t:k=j;subst t;rw[if_pos rfl,if_pos rfl];exact hr;rw[if_neg t,if_neg t];exact(h.kid k n).mono λy hy=>ho y (λe=>h.n k n (e▸hy)) (h.d k j n hj t y hy)
def Zuj{E:List Str}{i}(h:i<E.length):(E.map D.str)[i]?=sO (.str (E.getD i [])):=by simp[ZHU,h]
def ZAG{E:List Str}{i s}(h:i<E.length):List.take (i*1) (E.map D.str)++[.str s]++List.drop (i*1+1) (E.map D.str)=(E.set i s).map D.str:=by
 rw[Nat.mul_one,List.map_set,List.set_eq_take_append_cons_drop,if_pos (by simpa using h)];simp
def ZxC(n):K2 [.str []] n=(List.replicate n []).map D.str:=by
 induction n with
 |zero=>rfl
 |succ n ih=>simp_all[K2,List.replicate_succ]
def ZhT{b c l S}(hb:S b=sO (.cells (l.map .str)))(hl:I l<=1000000)(f p)(hf:∀x,VT ZHF f [.str x] S (.bool (p x)) S):
  ZU ZHF 245 [.msl b 0 (I l) c 1,f] S (.i (Zi p l)) S:=by
 refine ZK (cR 245 f245) λhwf F t=>?_;refine gG ?_;refine Zb (fr (I l) (λi Q=>i<=I l->(∀j,j<i->p (l.getD j dE)=false)->Q [(0,.d (.msl b 0 (I l) c 1)),(1,.d f),(7,.d (.i (I l))),(8,.d (.i i))] [] S) (λn u=>?_) λac=>?_);intro i hn hi z;refine rg ?_;refine Zd (Zt rfl trivial (λh1=>?_) (λh1=>?_));simp at h1;have hg:=Zuj h1;have ad:(l.map D.str)[i*1]?=sO (.str (l.getD i [])):=by rw[Nat.mul_one];exact hg
 refine rg ?_;refine xA (nd2 @hb (nd2 @hg @ad)) ?_;refine cW (hf _) ?_;refine cd (λh2=>?_) (λh2=>?_);have e1:=WY h1 h2 z;rw[e1]at t;refine rg ?_;exact t rfl φ (ZHL _) ZHH;refine gA ?_;refine Za ?_;exact u ((I l)-(i+1)) ω (i+1) rfl ω (ZZ (q:=λj=>p (l.getD j dE)=false) z h2);simp at h1;obtain rfl:i=I l:=ω;have ab:∀x∈l,p x=false:=λx hx=>by obtain⟨j,hj,rfl⟩:=ZH1 hx;have:=z j hj;simpa[ZHU,hj]using this
 rw[Wu ab]at t;refine rg ?_;exact t rfl φ (ZHL _) ZHH;exact ac _ 0 rfl ω (by intro j hj;omega)
def JI(p:Str->Bool)(l:List Str):List Str:=l.filter λx=>!p x
def Zyl{p l}:(JI p l).length<=I l:=List.length_filter_le ..
def Ziw{p}{l:List Str}{j}(h:j<I l):JI p (l.take (j+1))=JI p (l.take j)++if p (l.getD j []) then [] else [l.getD j []]:=by
 rw[show l.getD j []=l.getD j dE from rfl,Z3 h];unfold JI;rw[List.filter_append];congr 1;simp only[List.filter_cons,List.filter_nil];cases p (l.getD j dE)<;>rfl
def Zmf{p}{l:List Str}{i}(h:∀j,j<i->p (l.getD j dE)=false)(hi:i<=I l):JI p (l.take i)=l.take i:=by
 unfold JI;rw[List.filter_eq_self];intro x t;obtain⟨j,n,rfl⟩:=ZH1 t;have u:=h j (by rw[ZHZ]at n;omega);rw[ZHZ]at n;simpa[ZHU,show j<I l by omega]using u
def ZqY{p l}(h:∀x∈l,p x=false):JI p l=l:=by
 unfold JI;rw[List.filter_eq_self];intro x i;rw[h x i];rfl
def ZrS{E:List Str}{k x}(h:k<E.length):(E.set k x).take (k+1)=E.take k++[x]:=by
 rw[List.set_eq_take_append_cons_drop,if_pos h,show E.take k++x::E.drop (k+1)=(E.take k++[x])++E.drop (k+1) by simp,List.take_left' (by simp;omega)]
def Zwm{E:List Str}{k}(h:k<=E.length):Zq (E.map D.str) (k*1) (K2 [.str []] (E.length-k))=((E.take k++List.replicate (E.length-k) []).map .str):=by
 unfold Zq;rw[Nat.mul_one,ZxC,ZIo (by simp;omega)];simp
def Zhg{b c l S}(hb:S b=sO (.cells (l.map .str)))(hl:I l<=1000000)(hc:I l<=c)(f p)(hf:∀x T,VT ZHF f [.str x] T (.bool (p x)) T):
  Ze ZHF 203 [.msl b 0 (I l) c 1,f] S λr T=>r=.ret (.msl b 0 (JI p l).length c 1)/\T=S.upd b (.cells ((JI p l++List.replicate (I l-(JI p l).length) []).map .str)):=by
 refine Zh (cR 203 f203) λF hF=>?_;have aq:=ZhT (c:=c) hb hl f p (λx=>hf x S);refine gG ?_;refine ct (aq) ?_;refine aa ?_;refine rg ?_;by_cases ac:Zi p l<0;have ar:Zi p l=-1:=by have:=QY p l;omega
 rw[ar];refine i1 ?_;refine rg ?_;exact hF.ret _ _ rfl φ (ZHL _) ZHH ⟨by rw[ZqY (ZbC ac)];rfl,by rw[ZqY (ZbC ac),Nat.sub_self,List.replicate_zero,ZH8];exact(St.upd_self hb).symm⟩;obtain⟨q0,ap⟩:∃q0:Nat,Zi p l=q0:=⟨(Zi p l).toNat,ω⟩;have am:=Ys p l;have ah:=Qc (p:=p) (l:=l) ω;rw[ap]at am ah⊢;have z:=λj hj=>ah.2 j hj;have af:=ah.1;simp only[Int.toNat_natCast]at z af;have ad:q0<I l:=ω;refine i0 ?_;refine gA ?_;refine Zb (fr (I l) (λj Q=>j<=I l->∀(k:Nat) (E:List Str),E.length=I l->k<j->k=(JI p (l.take j)).length->E.take k=JI p (l.take j)->E.drop j=l.drop j->Q [(0,.d (.msl b 0 (I l) c 1)),(1,.d f),(5,.d (.i k)),(6,.d (.i j))] [] (S.upd b (.cells (E.map .str)))) (λn t=>?_) λao=>?_)
 .intro j hn hj k E hE hkj hk ab hdr;refine rg ?_;refine cd (λh1=>?_) (λh1=>?_)
  .have ae:j<I l:=by simp at h1;omega
   have hx:E.getD j []=l.getD j []:=by
    have h2:(E.drop j)[0]?=(l.drop j)[0]?:=by rw[hdr]
    simpa[ZHU]using congrArg (λo=>o.getD []) h2
   have hg:(E.map D.str)[j*1]?=sO (.str (l.getD j [])):=by rw[Nat.mul_one,Zuj ω,hx]
   have u:=Ziw (p:=p) ae;have ai:E.drop (j+1)=l.drop (j+1):=by rw[<-List.drop_drop,hdr,List.drop_drop]
   generalize l.getD j []=x at *;refine xA (nd2 @ZHP @hg) ?_;refine rg ?_;refine cW (hf x _) ?_;cases al:p x with
   |true =>rw[al,if_pos rfl,ZH8]at u;refine i0 ?_;refine gA ?_;refine Za ?_;exact t ((I l)-(j+1)) ω (j+1) rfl ω k E hE ω (by rw[u];exact hk) (by rw[u];exact ab) ai
   |false =>
    rw[al,if_neg ψ]at u;have aj:=ZAG (E:=E) (i:=k) (s:=x) ω;refine i1 ?_;have ag:(E.map D.str).length=I l:=by rw[List.length_map];exact hE
    refine xA (nd2 @ZHP (nd2 @ZH4 (nd2 @aj @ag))) ?_;refine gA ?_;refine gA ?_;rw[show(k:Int)+1=((k+1:Nat):Int) by omega];refine Za ?_;exact t ((I l)-(j+1)) ω (j+1) rfl ω (k+1) (E.set k x) (by rw[List.length_set];exact hE) ω (by rw[u,ZHO,<-hk];rfl) (by rw[u,<-ab,ZrS ω]) (by rw[List.drop_set_of_lt ω];exact ai)
  have ae:j=I l:=by simp at h1;omega
  subst ae;rw[ZH2]at hk ab;have ak:=Zwm (E:=E) (k:=k) ω;have ag:(E.map D.str).length=I l:=by rw[List.length_map];exact hE
  rw[hE,ab]at ak;have hck:¬c=k:=ω;refine rg ?_;refine⟨ω,ω,ω,ω,?_⟩;rw[if_neg ω,show((I l:Int)-k).toNat=I l-k by omega,show((c:Int)-k).toNat=c-k by omega];refine Zmx rfl rfl rfl trivial (cs:=E.map .str) (by simp[Ye,ZHP]) (by rw[ag];omega) ?_;rw[ak,ZH4];refine gR0 ?_;refine rg ?_;refine⟨ω,ω,ω,ω,?_⟩;simp only[ite_self,if_pos];exact hF.ret _ _ rfl φ (ZHL _) ZHH ⟨by rw[<-hk];rfl,by rw[<-hk]⟩
 have h0:=ao _ (q0+1) rfl ω q0 l rfl ω (by rw[Ziw ad,show l.getD q0 []=l.getD q0 dE from rfl,af,if_pos rfl,ZH8,Zmf z ω,ZHZ];omega) (by rw[Ziw ad,show l.getD q0 []=l.getD q0 dE from rfl,af,if_pos rfl,ZH8,Zmf z ω]) rfl;rw[St.upd_self hb]at h0;exact h0
end Go.DL
namespace Go.Proofs
open Go.Shelf Go.RowKit
def Tryz.joinL_ren:Go.Shelf.Ren:=⟨λ|156=>202|165=>242|166=>243|169=>244|240=>276|241=>277|276=>291|277=>292|n=>n,λ|31=>215|9=>9|3=>3|4=>4|0=>0|20=>20|72=>278|76=>147|70=>276|37=>25|75=>146|127=>297|164=>330|5=>5|80=>280|n=>n,λ|n=>n⟩
def Tryz.joinL:Go.Proofs.Lays.n156 ZHF Tryz.joinL_ren:={
 mixed:=by kernel_rfl
 f156:=Tryz.func202.trans (congrArg sO (by kernel_rfl))
 f165:=Tryz.func242.trans (congrArg sO (by kernel_rfl))
 f166:=Tryz.func243.trans (congrArg sO (by kernel_rfl))
 f169:=Tryz.func244.trans (congrArg sO (by kernel_rfl))
 f240:=Tryz.func276.trans (congrArg sO (by kernel_rfl))
 f241:=Tryz.func277.trans (congrArg sO (by kernel_rfl))
 f276:=Tryz.func291.trans (congrArg sO (by kernel_rfl))
 f277:=Tryz.func292.trans (congrArg sO (by kernel_rfl))
 t0:=Tryz.underlying0
 a0:=Tryz.isAgg0
 z0:=Tryz.sizeOf0
 v0:=Tryz.zeroValue0
 t3:=Tryz.underlying3
 a3:=Tryz.isAgg3
 z3:=Tryz.sizeOf3
 v3:=Tryz.zeroValue3
 t4:=Tryz.underlying4
 a4:=Tryz.isAgg4
 z4:=Tryz.sizeOf4
 v4:=Tryz.zeroValue4
 t9:=Tryz.underlying9
 a9:=Tryz.isAgg9
 z9:=Tryz.sizeOf9
 v9:=Tryz.zeroValue9
 t20:=Tryz.underlying20
 a20:=Tryz.isAgg20
 z20:=Tryz.sizeOf20
 v20:=Tryz.zeroValue20
 t31:=Tryz.underlying215
 a31:=Tryz.isAgg215
 z31:=Tryz.sizeOf215
 v31:=Tryz.zeroValue215
 t37:=Tryz.underlying25
 a37:=Tryz.isAgg25
 z37:=Tryz.sizeOf25
 v37:=Tryz.zeroValue25
 t70:=Tryz.underlying276
 a70:=Tryz.isAgg276
 z70:=Tryz.sizeOf276
 v70:=Tryz.zeroValue276
 t72:=Tryz.underlying278
 a72:=Tryz.isAgg278
 z72:=Tryz.sizeOf278
 v72:=Tryz.zeroValue278
 t75:=Tryz.underlying146
 a75:=Tryz.isAgg146
 z75:=Tryz.sizeOf146
 v75:=Tryz.zeroValue146
 t76:=Tryz.underlying147
 a76:=Tryz.isAgg147
 z76:=Tryz.sizeOf147
 v76:=Tryz.zeroValue147
 t127:=Tryz.underlying297
 a127:=Tryz.isAgg297
 z127:=Tryz.sizeOf297
 v127:=Tryz.zeroValue297
 t164:=Tryz.underlying330
 a164:=Tryz.isAgg330
 z164:=Tryz.sizeOf330
 v164:=Tryz.zeroValue330 }
def Tryz.joinX:Builder.Extra ZHF Tryz.joinL_ren:={
 sizeBuilder:=by kernel_rfl
 liesBuilder:=by kernel_rfl
 t5:=Tryz.underlying5
 a5:=Tryz.isAgg5
 z5:=Tryz.sizeOf5
 v5:=Tryz.zeroValue5
 infoByte:=by kernel_rfl
 cellsByte:=by kernel_rfl
 sizeByte:=by kernel_rfl
 neB5:=by decide }
end Go.Proofs
namespace Go.DL
open Go Go.Proofs Go.Lib Go.RowKit
def ZBd{w:World}{b o v}(h:w.cell? ⟨b,o,nO⟩=sO v):b<w.heap.size:=by
 refine Nat.lt_of_not_le λi=>?_;have j:w.heap[b]?=nO:=Array.getElem?_eq_none i;simp[World.cell?,j]at h
def joinL(l:List Str)(sep:Str):Str:=sep.intercalate l
def Zdn(l:List Str)(hn:I l<=100000)(hj:(joinL l [46]).length<=100000000):Zc ZHF 202 [slD 1 Zcw l,.str [46]] (.str (joinL l [46])):=λst=>by
 refine⟨⟨_,Tryz.func202,by kernel_rfl,by kernel_rfl⟩,λg w vs hs ha=>?_⟩;cases ha with
 |cons h1 ha =>
 cases ha with
 |cons h2 ha =>
 cases ha;cases h2 with
 |str sep _ hsep hsb =>
 have ab:sep=⟨#[46]⟩:=by
  obtain⟨a⟩:=sep;have:a.toList=[46]:=hsep;have h2:a = #[46]:=by apply Array.ext';simpa using this
  rw[h2]
 subst ab;unfold slD at h1;have z:∀w':World,Below w.heap.size w w'->Zaq g w g w':=λw' t=>⟨t.size,λc hc=>t.block c hc,λ_ _=>rfl,λc hc=>(hs.fresh c (Nat.le_trans t.size hc)).1,rfl,t.os,t.output,t.tape⟩;generalize ad:(λi=>Zcw (l.getD i dE))=row at h1;generalize ah:I l=n at h1;cases h1 with
 |sl0 av _ _ _ ht =>obtain rfl:l=[]:=List.eq_nil_of_length_eq_zero ah;refine(Any.strings_Join_none Tryz.joinL Tryz.joinX av 0 ⟨#[46]⟩ w).mono ?_;rintro e w' ⟨rfl,rfl⟩;exact⟨g,st,.ret (.str []),Ext.refl g _,hs,.str _ _ rfl (by simp[big]),rfl,rfl⟩
 |sl b o _ cap _ _ _ f hl hc hp hr one ht hcap hb =>
  subst ah;subst ad;have hx:∀i (hi:i<I l),∃x:ByteArray,f i 0=.string x/\x.data.toList=l[i]:=λi hi=>by
   have:=hr i 0 (.str (l.getD i dE)) hi rfl;generalize f i 0=v at this;cases this with
   |str x _ h1 h2=>exact⟨x,rfl,by rw[h1];simp[ZHU,hi]⟩
  have ai:∃xs:List ByteArray,I xs=I l/\xs.map (·.data.toList)=l/\∀(j:Nat) x,xs[j]?=sO x->f j 0=.string x:=by refine⟨List.ofFn λi:Fin (I l)=>Classical.choose (hx i.1 i.2),ψ,?_,λj x hj=>?_⟩;apply List.ext_getElem;simp;intro i h1 h2;simp at h1;simp only[List.getElem_map,List.getElem_ofFn];exact(Classical.choose_spec (hx i h1)).2;obtain⟨ac,af⟩:=List.getElem?_eq_some_iff.1 hj;simp only[List.length_ofFn]at ac;simp only[List.getElem_ofFn]at af;rw[<-af];exact(Classical.choose_spec (hx j ac)).1
  obtain⟨xs,ae,aj,ak⟩:=ai;have am:0<I l->b<w.heap.size:=λh0=>by have:=hc 0 0 h0 ω;exact ZBd this
  have hJ:(Lib.join (xs.map (·.data.toList)) (⟨#[46]⟩:ByteArray).data.toList)=joinL l [46]:=by rw[aj];rfl
  have ag:∀w',Below w.heap.size w w'->∃g' s' res,Ext g w g' w'/\Yp g' s' w'/\Rep g' w' (.string ⟨(joinL l [46]).toArray⟩) (.str (joinL l [46]))/\res=Res.ret (.str (joinL l [46]))/\s'=st:=λw' t =>
   ⟨g,st,.ret (.str (joinL l [46])),(z w' t).ext hs.fresh,hs.grow (z w' t),.str _ _ ψ (by unfold big;omega),rfl,rfl⟩
  by_cases h0:I l=0;obtain rfl:l=[]:=List.eq_nil_of_length_eq_zero h0;refine(Any.strings_Join_none Tryz.joinL Tryz.joinX (sO ⟨b,o,nO⟩) cap ⟨#[46]⟩ w).mono ?_;rintro e w' ⟨rfl,rfl⟩;exact⟨g,st,.ret (.str []),Ext.refl g _,hs,.str _ _ rfl (by simp[big]),rfl,rfl⟩;have u:=Any.strings_Join Tryz.joinL Tryz.joinX b o cap xs ⟨#[46]⟩ w (λj x hj=>by
    have al:j<I l:=by rw[<-ae];exact(List.getElem?_eq_some_iff.1 hj).1
    have:=hc j 0 al ω;rw[ak j x hj]at this;simpa using this) (am ω) ω ω (by rw[hJ];omega)
  rw[hJ,ae]at u;refine u.mono ?_;rintro e w' ⟨rfl,t⟩;obtain⟨g',s',res,a1,a2,a3,a4,a5⟩:=ag w' t;exact⟨g',s',res,a1,a2,by rw[a4];exact a3,a4,a5⟩
end Go.DL
namespace Go.DL
open Go Go.Proofs
variable {kp:Option (List Nat)}{L:Loc}{H:Env}{s:St}{w:World}{os:List DOp}{ds:List D}{B:List (Nat × Rd)}{dst:Option Nat}{tmps:Array Value}{g:G}{Φ:Res->St->Prop}{Z:Nat->Nat}{xs:List Opd}{side:Prop}{row:Nat->List D}
def ZgB(s):Zc ZHF 204 [.str s] (.bool (dC (s=[]))):=by
 refine Zg (cR 204 f204) λF st i=>?_;refine gG ?_;refine rb i ?_;rfl
def Zym(a s)(i:s≠[]):joinL (JI (λx=>dC (x=[])) [a,s]) [46]=Z5 a s:=by
 unfold JI joinL Z5;by_cases j:a=[];simp[j,i,List.intercalate];simp[j,i,List.intercalate]
def Zg5(T):St.or (λ_=>nO) T=T:=by funext b;exact ZM rfl
def Zyk{b c}{C:List Str}{T}(u:T b=sO (.cells (C.map .str)))(K)(hl:K.length<=2)(hC:K.length<=C.length)(z:∀i,i<K.length->C.getD i []=K.getD i [])(hj:(joinL K [46]).length<=100000000):
  Ze ZHF 202 [.msl b 0 K.length c 1,.str [46]] T λr S=>r=.ret (.str (joinL K [46]))/\S=T:=by
 have h:=Ze.lend (P:=ZHF) (Ln:=[b]) (t:=T) (λx hx=>⟨C.map .str,by rw[List.mem_singleton.1 hx];exact u⟩) (.cons (YC.msl (row:=λi=>Zcw (K.getD i dE)) (cap:=c) (sz:=1) (n:=K.length) (List.mem_singleton.2 rfl) u (by simp;omega) ?_) (.cons (.refl (.str [46])) .nil)) (Zdn K ω hj (λ_=>nO)) (λr S j=>?_);refine h.mono λr S hS=>?_;obtain⟨S',⟨j,rfl⟩,_,rfl⟩:=hS;exact⟨j,Zg5 T⟩;intro i hi;have h1:((C.map D.str).drop (i*1)).take 1=Zcw (K.getD i dE):=by rw[Nat.mul_one,show K.getD i dE=C.getD i [] from(z i hi).symm];rw[List.drop_eq_getElem_cons (by simp;omega)];simp[Zcw,ZHU,show i<C.length by omega]
 rw[h1];exact .refl _;obtain⟨rfl,rfl⟩:=j;exact⟨.str _,λb o h=>by simp at h⟩
def ZrL{b a s S}(hb:S b=sO (.cells [.str a,.str s]))(hs:s≠[])(hl:I a<=10000000)(hl2:I s<=10000000):
  Ze ZHF 151 [.msl b 0 2 2 1] S λr T=>r=.ret (.str (Z5 a s))/\∃o,T=S.upd b o:=by
 refine Zh (cR 151 f151) λF hF=>?_;have hd:=Zhg (c:=2) (l:=[a,s]) hb ψ ψ (.fn (.func 204) [] []) (λx=>dC (x=[])) (λx T=>(ZgB x).VT (first:=[]) (caps:=[]) T);have j:=Zym a s hs;have u:(JI (λx=>dC (x=[])) [a,s]).length<=2:=Zyl;generalize JI (λx=>dC (x=[])) [a,s]=K at *;have z:(joinL K [46]).length<=100000000:=by rw[j];unfold Z5;split;omega;simp only[ZHO,ZHW,List.length_nil];omega
 refine gG ?_;refine cV (hd) ?_ ?_;rintro dd T ⟨hr,rfl⟩;cases hr;refine gR0 ?_;generalize hC:(K++List.replicate (2-K.length) [])=C at *;have t:∀i,i<K.length->C.getD i []=K.getD i []:=λi hi=>by rw[<-hC];simp[ZHU,ZIc hi]
 have n:K.length<=C.length:=by rw[<-hC];simp
 refine cV ((Zyk (S.upd_same b _) K u n t z)) ?_ ?_;rintro dv T hT;obtain⟨hr,rfl⟩:=hT;cases hr;refine gR0 ?_;rw[j];exact hF.ret _ _ rfl φ (ZHL _) ZHH ⟨rfl,_,rfl⟩;rintro v T ⟨hr,_⟩;cases hr;rintro v T ⟨hr,_⟩;cases hr
def Y9(l:List Fld):List D:=l.flatMap Fld.cells
def Zbl(l):(Y9 l).length=I l*15:=by
 unfold Y9;induction l with
 |nil=>rfl
 |cons f r ih=>rw[List.flatMap_cons,ZHO,ih,Ql,ZHW];omega
def Zim{l i}(h:i<I l)(X):part (Y9 l++X) (i*15) 15=(l.getD i dE).cells:=by
 have n:l=l.take i++(l.getD i dE::l.drop (i+1)):=by
  conv=>lhs;rw[<-List.take_append_drop i l]
  rw[List.drop_eq_getElem_cons h];simp[ZHU,h]
 have j:Y9 l++X=Y9 (l.take i)++((l.getD i dE).cells++(Y9 (l.drop (i+1))++X)):=by
  conv=>lhs;rw[n]
  unfold Y9;simp
 unfold part;rw[j,List.drop_left' (by rw[Zbl,ZHZ,Nat.min_eq_left ω]),List.take_left' (Ql _)]
def Zx9{l i}(h:i<I l)(f X):Zq (Y9 l++X) (i*15) f.cells=Y9 (l.set i f)++X:=by
 have t:l=l.take i++(l.getD i dE::l.drop (i+1)):=by
  conv=>lhs;rw[<-List.take_append_drop i l]
  rw[List.drop_eq_getElem_cons h];simp[ZHU,h]
 have n:Y9 l++X=Y9 (l.take i)++((l.getD i dE).cells++(Y9 (l.drop (i+1))++X)):=by
  conv=>lhs;rw[t]
  unfold Y9;simp
 have j:(Y9 (l.take i)).length=i*15:=by rw[Zbl,ZHZ,Nat.min_eq_left ω]
 unfold Zq;rw[n,List.take_left' j,<-List.drop_drop,List.drop_left' j,Ql,List.drop_left' (Ql _),List.set_eq_take_append_cons_drop,if_pos h];unfold Y9;simp
def ZuB{l k m}(h:k<=I l)(z X):∃Y,Zq (Y9 l++X) (k*15) (K2 z m)=Y9 (l.take k)++Y:=by
 have i:Y9 l++X=Y9 (l.take k)++(Y9 (l.drop k)++X):=by unfold Y9;rw[<-ZIg,<-List.flatMap_append,List.take_append_drop]
 have j:(Y9 (l.take k)).length=k*15:=by rw[Zbl,ZHZ,Nat.min_eq_left ω]
 unfold Zq;rw[i,List.take_left' j,ZIg];exact⟨_,rfl⟩
def Zwy(l):(ZHT (I l)).flatMap (λk=>(l.getD k dE).cells)=Y9 l:=by
 unfold Y9;have h:l.flatMap Fld.cells=((ZHT (I l)).map λk=>l.getD k dE).flatMap Fld.cells:=by
  congr 1
  refine List.ext_getElem ψ λi j h2=>?_;simp[ZHU,j]
 rw[h,List.flatMap_map]
def Zjf(l)(hl:I l<=1000000)(t:0<I l)(st):Ze ZHF 104 [Zk l] st λr S=>∃b c X,st b=nO/\I l<=c/\r=.ret (.msl b 0 (I l) c 15)/\S=st.upd b (.cells (Y9 l++X)):=by
 refine Zh (cR 104 f104) λF n=>?_;have i:=Zwy l;refine rx (nd2 @eQ5 @eQ1) ?_;refine gA ?_;refine iG ?_;refine Zpn rfl rfl rfl rfl rfl rfl φ φ (by exact t) ω (by unfold big;omega) λb z u j=>Zn ?_;simp only[Eqs,reduceCtorEq,ZHK,reduceIte,ZHI,ZHM,ZHJ];rw[i];exact n.ret _ _ rfl φ (ZHL _) ZHH ⟨b,z,_,u,j,rfl,rfl⟩
def ZbF(p:Fld->Bool)(l:List Fld):List Fld:=l.filter λx=>!p x
def Ziv{p}{l:List Fld}{j}(h:j<I l):ZbF p (l.take (j+1))=ZbF p (l.take j)++if p (l.getD j dE) then [] else [l.getD j dE]:=by
 rw[Z3 h];unfold ZbF;rw[List.filter_append];congr 1;simp only[List.filter_cons,List.filter_nil];cases p (l.getD j dE)<;>rfl
def Zme{p}{l:List Fld}{i}(h:∀j,j<i->p (l.getD j dE)=false)(hi:i<=I l):ZbF p (l.take i)=l.take i:=by
 unfold ZbF;rw[List.filter_eq_self];intro x t;obtain⟨j,n,rfl⟩:=ZH1 t;have u:=h j (by rw[ZHZ]at n;omega);rw[ZHZ]at n;simpa[ZHU,show j<I l by omega]using u
def ZqX{p l}(h:∀x∈l,p x=false):ZbF p l=l:=by
 unfold ZbF;rw[List.filter_eq_self];intro x i;rw[h x i];rfl
def Zy8{E:List Fld}{k x}(h:k<E.length):(E.set k x).take (k+1)=E.take k++[x]:=by
 rw[List.set_eq_take_append_cons_drop,if_pos h,show E.take k++x::E.drop (k+1)=(E.take k++[x])++E.drop (k+1) by simp,List.take_left' (by simp;omega)]
def ZzY{b c l X T}(u:T b=sO (.cells (Y9 l++X)))(hc:I l<=c)(fid p)(z:∀x,Zc ZHF fid [.agg x.cells] (.bool (p x))):
  Ze ZHF 148 [.msl b 0 (I l) c 15,.fn (.func fid) [] []] T λr S=>r=.ret (.i (Zi p l))/\S=T:=by
 have h:=Ze.lend (P:=ZHF) (Ln:=[b]) (t:=T) (λx hx=>⟨Y9 l++X,by rw[List.mem_singleton.1 hx];exact u⟩) (.cons (YC.msl (row:=λi=>(l.getD i dE).cells) (cap:=c) (sz:=15) (n:=I l) (List.mem_singleton.2 rfl) u (by rw[ZHO,Zbl];omega) ?_) (.cons (.refl (.fn (.func fid) [] [])) .nil))
  (QW l (.fn (.func fid) [] []) p (λ_ _=>nO) (λi _=>(z _).VT (first:=[]) (caps:=[]) _)) (λr S j=>?_)
 refine h.mono λr S hS=>?_;obtain⟨S',⟨j,rfl⟩,_,rfl⟩:=hS;exact⟨j,Zg5 T⟩;intro i hi;rw[show((Y9 l++X).drop (i*15)).take 15=(l.getD i dE).cells from Zim hi X];exact .refl _;obtain⟨rfl,rfl⟩:=j;exact⟨.int _ _,λb o h=>by simp at h⟩
def Zf2{b c l X S}(hb:S b=sO (.cells (Y9 l++X)))(hl:I l<=1000000)(hc:I l<=c)(fid p)(hf:∀x,Zc ZHF fid [.agg x.cells] (.bool (p x))):
  Ze ZHF 103 [.msl b 0 (I l) c 15,.fn (.func fid) [] []] S λr T=>r=.ret (.msl b 0 (ZbF p l).length c 15)/\∃Y,T=S.upd b (.cells (Y9 (ZbF p l)++Y)):=by
 refine Zh (cR 103 f103) λF hF=>?_;have ap:=ZzY hb hc fid p hf;refine gG ?_;refine cV (ap) ?_ ?_
 .rintro dd T ⟨hr,hT⟩;obtain rfl:=hT.symm;cases hr;refine gR0 ?_;refine rg ?_;by_cases ae:Zi p l<0;have aq:Zi p l=-1:=by have:=QY p l;omega
  rw[aq];refine i1 ?_;refine rg ?_;exact hF.ret _ _ rfl φ (ZHL _) ZHH ⟨by rw[ZqX (ZbC ae)];rfl,X,by rw[ZqX (ZbC ae)];exact(St.upd_self hb).symm⟩;obtain⟨q0,ao⟩:∃q0:Nat,Zi p l=q0:=⟨(Zi p l).toNat,ω⟩;have al:=Ys p l;have ai:=Qc (p:=p) (l:=l) ω;rw[ao]at al ai⊢;have z:=λj hj=>ai.2 j hj;have ah:=ai.1;simp only[Int.toNat_natCast]at z ah;have af:q0<I l:=ω;refine i0 ?_;refine gA ?_;refine Zb (fr (I l) (λj Q=>j<=I l->∀(k:Nat) (E:List Fld),E.length=I l->k<j->k=(ZbF p (l.take j)).length->E.take k=ZbF p (l.take j)->E.drop j=l.drop j->Q [(0,.d (.msl b 0 (I l) c 15)),(1,.d (.fn (.func fid) [] [])),(5,.d (.i k)),(6,.d (.i j))] [] (S.upd b (.cells (Y9 E++X)))) (λn t=>?_) λam=>?_)
  .intro j hn hj k E hE hkj hk ad hdr;refine rg ?_;refine cd (λh1=>?_) (λh1=>?_)
   .have ag:j<I l:=by simp at h1;omega
    have hx:E.getD j dE=l.getD j dE:=by
     have h2:(E.drop j)[0]?=(l.drop j)[0]?:=by rw[hdr]
     simpa[ZHU]using congrArg (λo=>o.getD dE) h2
    have ac:(Y9 E++X).length=I l*15+X.length:=by rw[ZHO,Zbl,hE]
    have hg:=Zim (l:=E) (i:=j) ω X;rw[hx]at hg;unfold part at hg;have u:=Ziv (p:=p) ag;have aj:E.drop (j+1)=l.drop (j+1):=by rw[<-List.drop_drop,hdr,List.drop_drop]
    generalize l.getD j dE=x at *;refine xA (nd2 @ZHP (nd2 @hg (nd2 @ac (nd2 @Ql @J2)))) ?_;refine xA (nd2 @Ql @J2) ?_;refine cl (hf x) ?_;cases ak:p x with
    |true =>rw[ak,if_pos rfl,ZH8]at u;refine i0 ?_;refine gA ?_;refine Za ?_;exact t ((I l)-(j+1)) ω (j+1) rfl ω k E hE ω (by rw[u];exact hk) (by rw[u];exact ad) aj
    |false =>rw[ak,if_neg ψ]at u;have ab:=Zx9 (l:=E) (i:=k) ω x X;unfold Zq at ab;rw[Ql]at ab;refine i1 ?_;refine xA (nd2 @ZHP (nd2 @ZH4 (nd2 @ac (nd2 @Ql @J2)))) ?_;rw[ab];refine gA ?_;refine gA ?_;rw[show(k:Int)+1=((k+1:Nat):Int) by omega];refine Za ?_;exact t ((I l)-(j+1)) ω (j+1) rfl ω (k+1) (E.set k x) (by rw[List.length_set];exact hE) ω (by rw[u,ZHO,<-hk];rfl) (by rw[u,<-ad,Zy8 ω]) (by rw[List.drop_set_of_lt ω];exact aj)
   have ag:j=I l:=by simp at h1;omega
   subst ag;rw[ZH2]at hk ad;have ac:(Y9 E++X).length=I l*15+X.length:=by rw[ZHO,Zbl,hE]
   refine rg ?_;refine⟨ω,ω,ω,ω,?_⟩;rw[if_neg ω,show((I l:Int)-k).toNat=I l-k by omega,show((c:Int)-k).toNat=c-k by omega];refine Zmx rfl rfl rfl trivial (cs:=Y9 E++X) (by simp[Ye,ZHP]) (by rw[ac];omega) ?_;obtain⟨Y,hY⟩:=ZuB (l:=E) (k:=k) (m:=I l-k) ω [.str [],.i 0,.i 0,.bool false,.bool false,.i 0,.i 0,.i 0,.nilsl,.str [],.str [],.str [],.nilsl,.i 0,.i 0] X;rw[ad]at hY;rw[hY,ZH4];refine gR0 ?_;refine rg ?_;refine⟨ω,ω,ω,ω,?_⟩;simp only[ite_self,if_pos];exact hF.ret _ _ rfl φ (ZHL _) ZHH ⟨by rw[<-hk];rfl,Y,rfl⟩
  have h0:=am _ (q0+1) rfl ω q0 l rfl ω (by rw[Ziv af,ah,if_pos rfl,ZH8,Zme z ω,ZHZ];omega) (by rw[Ziv af,ah,if_pos rfl,ZH8,Zme z ω]) rfl;rw[St.upd_self hb]at h0;exact h0
 rintro v T ⟨hr,_⟩;cases hr
def ZlZ(f):Zc ZHF 105 [.agg f.cells] (.bool (!Y5 f)):=by
 refine Zg (cR 105 f105) λF st i=>?_;refine rx @eQ0 ?_;refine rg ?_;refine cl (Zex f) ?_;refine rb i ?_;rfl
def Zz2(l):ZbF (λf=>!Y5 f) l=vfs l:=by unfold ZbF vfs;simp
def Zdl(m:Msg)(hp:0<I m.fields)(z:I m.fields<=1000000):Zc ZHF 53 [.agg m.cells] (Zk (vfs m.fields)):=by
 refine Zg (cR 53 f53) λF st j=>?_;refine rx @eQ3 ?_;refine rg ?_;refine cV ((Zjf m.fields z hp st)) ?_ ?_;rintro dd T ⟨b,c,X,hb,hc,t,rfl⟩;cases t;refine gR0 ?_;refine cV ((Zf2 (ZHP _ _ _) z hc 105 (λf=>!Y5 f) ZlZ)) ?_ ?_;rintro dd2 T2 ⟨t,Y,rfl⟩;cases t;refine gR0 ?_;rw[Zz2,ZH4];refine ZcN [b] (λx u=>⟨Y9 (vfs m.fields)++Y,by rw[List.mem_singleton.1 u];exact ZHP _ _ _⟩) (H':=[(2,.d (Zk (vfs m.fields)))]) (L':=[]) (.cons (YC.msl (row:=λi=>((vfs m.fields).getD i dE).cells) (List.mem_singleton.2 rfl) (ZHP _ _ _) (by rw[ZHO,Zbl];omega) λi hi=>?_) .nil) .nil ?_;rw[show((Y9 (vfs m.fields)++Y).drop (i*15)).take 15=((vfs m.fields).getD i dE).cells from Zim hi Y];exact .refl _;refine j rfl φ (ZHL _) (λx o u=>?_);have n:x≠b:=λe=>by rw[e,hb]at u;simp at u
 simp only[St.delL,List.mem_singleton,n,if_false];rw[ZHQ _ _ n];exact u;rintro v T2 ⟨t,_⟩;cases t;rintro v T ⟨b,c,X,_,_,t,_⟩;cases t
def Zne(f:Fld)(x:Val):Zc ZHF 107 [.agg f.cells,.agg x.cells] (.bool (dC (f.name=x.name))):=by
 refine Zg (cR 107 f107) λF st i=>?_;rw[ZHX];refine rx @eQ0 ?_;refine rg ?_;refine rb i ?_;rfl
def WL(l:List Fld)(ps:List Val):Bool:=dC (l.map (·.name)=ps.map Val.name)
def Zyx{l ps}(h:I l≠I ps):WL l ps=false:=by
 unfold WL;rw[decide_eq_false_iff_not];intro i;exact h (by simpa using congrArg List.length i)
def ZwQ{l ps}(h:I l=I ps)(u:∀j,j<I l->(l.getD j dE).name=(ps.getD j dE).name):WL l ps=true:=by
 unfold WL;rw[decide_eq_true_eq];refine List.ext_getElem (by simpa using h) λi n t=>?_;have z:=u i (by simpa using n);simp at n t;simpa[ZHU,n,t]using z
def ZwR{l ps j}(h:I l=I ps)(t:j<I l)(i:dC ((l.getD j dE).name=(ps.getD j dE).name)=false):WL l ps=false:=by
 unfold WL;rw[decide_eq_false_iff_not]at i⊢;intro n;have u:(l.map (·.name))[j]?=(ps.map Val.name)[j]?:=by rw[n]
 refine i ?_;simpa[ZHU,t,show j<I ps by omega]using u
def Zfd(l ps):Zc ZHF 106 [Zk l,ZF ps,.fn (.func 107) [] []] (.bool (WL l ps)):=by
 refine ZJ (cR 106 f106) λab F st t=>?_;have ae:=(YR (ab (Zk l) ψ)).1;have ag:=ZdW (ab (ZF ps) ψ);unfold big at ae ag;clear ab;refine rg ?_;refine rx (nd2 @Jw @KU) ?_;refine cd (λhc=>?_) (λhc=>?_);refine rg ?_;refine rb t ?_;exact(Zyx (l:=l) (ps:=ps) (by simp at hc;omega)).symm;have z:I l=I ps:=by simp at hc;omega
 refine rx (nd2 @Jw @KU) ?_;refine Zb (fr (I l) (λi Q=>i<=I l->(∀j,j<i->dC ((l.getD j dE).name=(ps.getD j dE).name)=true)->Q [(1,.d (ZF ps)),(2,.d (.fn (.func 107) [] [])),(15,.d (Zk l)),(16,.d (.i (I l))),(17,.d (.i i))] [] st) (λn u=>?_) λaf=>?_)
 .intro i hn hi ac;refine rg ?_;refine Zd (Zt rfl trivial (λh1=>?_) (λh1=>?_))
  .simp at h1;have ad:=Zne (l.getD i dE) (ps.getD i dE);have hr:=Wm (l:=ps) (i:=i) ω;rw[ZHX]at ad;refine xA (nd2 @atF (nd2 @Ql @J2)) ?_;refine xA (nd2 @atV @hr) ?_;refine rx (nd2 @Ql @J2) ?_;refine cl (ad) ?_;cases hb:dC ((l.getD i dE).name=(ps.getD i dE).name) with
   |true =>refine i0 ?_;refine gA ?_;refine Za ?_;exact u ((I l)-(i+1)) ω (i+1) rfl ω (ZZ (q:=λj=>dC ((l.getD j dE).name=(ps.getD j dE).name)=true) ac hb)
   |false =>refine i1 ?_;refine rg ?_;refine rb t ?_;exact(ZwR z h1 hb).symm
  simp at h1;obtain rfl:i=I l:=ω;refine rg ?_;refine rb t ?_;exact(ZwQ z λj hj=>by simpa using ac j hj).symm
 exact af _ 0 rfl ω (by intro j hj;omega)
def ZhQ(l ps):Zc ZHF 54 [Zk l,ZF ps] (.bool (WL l ps)):=by
 refine Zg (cR 54 f54) λF st i=>?_;refine gG ?_;refine cl (Zfd l ps) ?_;refine rb i ?_;rfl
def W0(d s)(h:0<=Zr d s (I d.msgs)):Zc ZHF 42 [.agg d.cells,.str s] (.agg (d.msgs.getD (ixS d s) dE).cells):=by
 refine Zg (cR 42 f42) λF st i=>?_;have n:=Zab h;generalize hm:d.msgs.getD (ixS d s) dE=m at *;have t:Zi (λx:Msg=>dC (x.name=s)) d.msgs=(ixS d s:Int):=by rw[<-n.1];unfold Zr;rw[ZH2]
 have j:max (ixS d s:Int) 0=ixS d s:=ω;refine rx @eQ2 ?_;refine rg ?_;refine cX (nd2 @t @j) (ZhM d s) ?_;refine xA (nd2 @atM (nd2 @hm @eQ3)) ?_;refine ro i ?_;rfl
def Zc9(l:List Fld):Nat->List (Str×Int)
 |0=>[]
 |i+1=>if (l.getD i dE).kind=2 then WH (l.getD i dE).name (l.getD i dE).low (Zc9 l i) else Zc9 l i
def Zd6(l:List Fld)(ps:List Val)(E:List (Str×Int)):Nat->List (Str×Int)
 |0=>E
 |i+1=>if Yj (l.getD i dE) then WH (l.getD i dE).name (ps.getD i dE).int (Zd6 l ps E i) else Zd6 l ps E i
def J4(m:Msg)(ps:List Val):List (Str×Int):=Zd6 (vfs m.fields) ps (Zc9 m.fields (I m.fields)) (vfs m.fields).length
def Zey(m)(hp:0<I m.fields)(hl:I m.fields<=1000)(ps)(hn:(vfs m.fields).length=I ps)(st):
  Ze ZHF 62 [.agg m.cells,ZF ps] st λr S=>∃b,st b=nO/\r=.ret (.map b)/\S=st.upd b (.map (JZ (J4 m ps))):=by
 refine Zh (cR 62 f62) λF hF=>?_;have hvl:(vfs m.fields).length<=I m.fields:=List.length_filter_le ..;have ac:=Zdl m hp ω;have hM:=J4.eq_1 m ps;generalize vfs m.fields=vl at *;refine rx @eQ3 ?_;refine rg ?_;intro b hb;rw[show([]:List (D×D))=JZ (Zc9 m.fields 0) from rfl];refine rx @Jw ?_;refine Zb (fr (I m.fields) (λi Q=>i<=I m.fields->Q [(1,.d (ZF ps)),(2,.loc 2 0),(5,.d (.map b)),(12,.d (Zk m.fields)),(13,.d (.i (I m.fields))),(14,.d (.i i))] [(2,[.str m.name,Zk m.fields])] (st.upd b (.map (JZ (Zc9 m.fields i))))) (λn u=>?_) λad=>?_);intro i hn2 hi;refine rg ?_;refine Zd (Zt rfl trivial (λh1=>?_) (λh1=>?_));simp at h1;have j:=Zc9.eq_2 m.fields i;generalize hf:m.fields.getD i dE=f at *;refine xA (nd2 @atF (nd2 @hf @eQ0)) ?_;refine rg ?_;refine cd (λh2=>?_) (λh2=>?_);rw[if_pos (by simpa using h2)]at j;have e2:=ZcM (vD:=KL) ZX f.name f.low (Zc9 m.fields i);have e3:=Wr ZX f.name;simp only[show Qa f.name=D.str f.name from rfl,show KL f.low=.i f.low from rfl]at e2 e3;refine xA (nd2 @ZHP (nd2 @ZH4 (nd2 @e2 @e3))) ?_;refine gA ?_;rw[<-j];refine Za ?_;exact u ((I m.fields)-(i+1)) ω (i+1) rfl ω;rw[if_neg (by simpa using h2)]at j;refine gA ?_;rw[<-j];refine Za ?_;exact u ((I m.fields)-(i+1)) ω (i+1) rfl ω;simp at h1;obtain rfl:i=I m.fields:=ω;generalize Zc9 m.fields (I m.fields)=E0 at *;refine rg ?_;refine cX @Jw (ac) ?_;refine Zb (fr (I vl) (λk Q=>k<=I vl->Q [(1,.d (ZF ps)),(5,.d (.map b)),(28,.d (Zk vl)),(29,.d (.i (I vl))),(30,.d (.i k))] [] (st.upd b (.map (JZ (Zd6 vl ps E0 k))))) (λn t=>?_) λab=>?_);intro k hn3 hk;refine rg ?_;refine Zd (Zt rfl trivial (λh3=>?_) (λh3=>?_));simp at h3;have j:=Zd6.eq_2 vl ps E0 k;have z:=Wm (l:=ps) (i:=k) ω;generalize hf:vl.getD k dE=f at *;generalize hg:ps.getD k dE=g at *;refine xA (nd2 @atF (nd2 @hf (nd2 @Ql @J2))) ?_;refine rx (nd2 @Ql @J2) ?_;refine cl (Zcu f) ?_;refine cd (λh4=>?_) (λh4=>?_);rw[if_pos h4]at j;have e2:=ZcM (vD:=KL) ZX f.name g.int (Zd6 vl ps E0 k);have e3:=Wr ZX f.name;simp only[show Qa f.name=D.str f.name from rfl,show KL g.int=.i g.int from rfl]at e2 e3;refine xA (nd2 @eQ0 (nd2 @atV (nd2 @z (nd2 @ZHP (nd2 @ZH4 (nd2 @e2 @e3)))))) ?_;refine gA ?_;rw[<-j];refine Za ?_;exact t ((I vl)-(k+1)) ω (k+1) rfl ω;rw[if_neg (by simpa using h4)]at j;refine gA ?_;rw[<-j];refine Za ?_;exact t ((I vl)-(k+1)) ω (k+1) rfl ω;simp at h3;obtain rfl:k=I vl:=ω;rw[<-hM];refine rg ?_;exact hF.ret _ _ rfl φ (ZHL _) ZHH ⟨b,hb,rfl,rfl⟩;exact ab _ 0 rfl ω;exact ad _ 0 rfl ω
def ZgD(n):Zc ZHF 109 [.i n] (.bool (dC (0<=n)&&dC (n<34359738368))):=by
 refine Zg (cR 109 f109) λF st i=>?_;refine gG ?_;refine rb i ?_;rfl
def ckI(st:St)(b5 b6 b7 b8 b9 b:Nat):St :=
 ((((st.upd b5 (.cells [.str []])).upd b6 (.cells [.map b])).upd b7 (.cells [.fn (.func 109) [] []])).upd b8 (.cells [.i 0])).upd b9 (.cells [.bool false])
section
variable {st:St} {b5 b6 b7 b8 b9 b:Nat}
def YS.i5(h:YS st b5 b6 b7 b8 b9):(ckI st b5 b6 b7 b8 b9 b) b5=sO (.cells [.str []]):=by
 simp[ckI,ZIi,h.n6.1.symm,h.n7.2.1.symm,h.n8.2.2.1.symm,h.n9.2.2.2.1.symm]
def YS.i6(h:YS st b5 b6 b7 b8 b9):(ckI st b5 b6 b7 b8 b9 b) b6=sO (.cells [.map b]):=by
 simp[ckI,ZIi,h.n7.1.symm,h.n8.2.1.symm,h.n9.2.2.1.symm]
def YS.i7(h:YS st b5 b6 b7 b8 b9):(ckI st b5 b6 b7 b8 b9 b) b7=sO (.cells [.fn (.func 109) [] []]):=by
 simp[ckI,ZIi,h.n8.1.symm,h.n9.2.1.symm]
def YS.i8(h:YS st b5 b6 b7 b8 b9):(ckI st b5 b6 b7 b8 b9 b) b8=sO (.cells [.i 0]):=by
 simp[ckI,ZIi,h.n9.1.symm]
def YS.i9:(ckI st b5 b6 b7 b8 b9 b) b9=sO (.cells [.bool false]):=by
 simp[ckI,ZIi]
def YS.im(h:YS st b5 b6 b7 b8 b9){o}(i:st b=sO o):(ckI st b5 b6 b7 b8 b9 b) b=sO o:=by
 have t:b≠b5:=λe=>by rw[e,h.n5]at i;simp at i
 have u:b≠b6:=λe=>by rw[e,h.n6.2]at i;simp at i
 have z:b≠b7:=λe=>by rw[e,h.n7.2.2]at i;simp at i
 have j:b≠b8:=λe=>by rw[e,h.n8.2.2.2]at i;simp at i
 have n:b≠b9:=λe=>by rw[e,h.n9.2.2.2.2]at i;simp at i
 simp[ckI,ZIi,t,u,z,j,n,i]
def YS.isub(h:YS st b5 b6 b7 b8 b9):st.sub (ckI st b5 b6 b7 b8 b9 b):=λc o i=>by
 have n:c≠b5:=λe=>by rw[e,h.n5]at i;simp at i
 have t:c≠b6:=λe=>by rw[e,h.n6.2]at i;simp at i
 have z:c≠b7:=λe=>by rw[e,h.n7.2.2]at i;simp at i
 have j:c≠b8:=λe=>by rw[e,h.n8.2.2.2]at i;simp at i
 have u:c≠b9:=λe=>by rw[e,h.n9.2.2.2.2]at i;simp at i
 simp[ckI,ZIi,n,t,z,j,u,i]
def ZBg(h:YS st b5 b6 b7 b8 b9){H L}(hρ:ZS H 8=sO (.d (.ptr b8 0)):=by rfl):
  YK H L (ckI st b5 b6 b7 b8 b9 b) [.cell1 8]=sO (True/\True,[.i 0]):=by
 simp[YK,Ks,hρ,Wx,Ye,h.i8]
end
def Zng(s)(hv:ZI s=true)(b l st)(hb:st b=sO (.map (JZ l)))(hk:∀t∈s.terms,∃v,Zw t.field l=sO v/\0<=v/\v<34359738368):
  Ze ZHF 108 [.agg s.cells,.str [],.map b,.fn (.func 109) [] []] st (λr S=>r=.ret (.i 0)/\S=st):=by
 refine Zh (cR 108 f108) λF hF=>?_;refine rx @eQ4 ?_;refine rx @eQ4 ?_;refine cl (ZaG s) ?_;rw[hv];refine iG ?_;refine Zd (Zd ?_);refine xP 5 λb5 h5=>?_;refine xP 6 λb6 h6=>?_;refine xP 7 λb7 h7=>?_;refine xP 8 λb8 h8=>?_;refine xP 9 λb9 h9=>?_;refine rx @eQ4 ?_;refine cV (Zci s hv) ?_ ?_;rintro d S ⟨x,hx,hd,rfl⟩;cases hd;refine gR0 ?_;refine Zb ?_;have i:YS st b5 b6 b7 b8 b9:=by have k6:=Zv h6;have k7:=Zv h7;have ai:=Zv k7.2;have k8:=Zv h8;have ad:=Zv k8.2;have al:=Zv ad.2;have k9:=Zv h9;have ab:=Zv k9.2;have ac:=Zv ab.2;have aj:=Zv ac.2;exact⟨h5,k6,⟨k7.1,ai⟩,⟨k8.1,ad.1,al⟩,⟨k9.1,ab.1,ac.1,aj⟩⟩
 have hfew:=JD hv;rw[show(((((st.upd b5 (.cells [.str []])).upd b6 (.cells [.map b])).upd b7 (.cells [.fn (.func 109) [] []])).upd b8 (.cells [.i 0])).upd b9 (.cells [.bool false]))=ckI st b5 b6 b7 b8 b9 b from rfl]at hx⊢;refine KM hF rfl trivial [5,6,7,8,9] (by show([5,6,7,8,9]:List Nat).Nodup;decide) (WD hx) (Za4 s.terms (by unfold big;omega) x).Y (λj hj=>rfl)
  (λj=>.next) (λj a=>a=ckI st b5 b6 b7 b8 b9 b) rfl ?_ ?_ ?_ ?_ ?_ ?_
 intro j a hj u hB F' ready busy hdr af z;subst hB;simp only[Eqs,reduceCtorEq,ZHK,reduceIte,ZHI,ZHM,ZHJ,WT,Kc,Jk,Kq,List.isEmpty_nil,List.isEmpty_cons];refine rg ?_;refine af λag=>?_;have ak:(s.terms.getD j dE).field≠[]:=ZkT hv hj;obtain⟨v,hg,h0,h1⟩:=hk _ (Zm hj);generalize htm:s.terms.getD j dE=tm at *;have e1:=We (vD:=KL) ZX tm.field l;have e3:=Wr ZX tm.field;simp only[show Qa tm.field=D.str tm.field from rfl]at e1 e3;rw[hg]at e1;have ae:(ckI st b5 b6 b7 b8 b9 b).upd b8 (.cells [.i 0])=ckI st b5 b6 b7 b8 b9 b:=St.upd_self i.i8;refine rh ?_;refine Zn ?_;simp only[Eqs,reduceCtorEq,ZHK,reduceIte,ZHI,ZHM,ZHJ,Zu (i.i6 ),Zu (i.im hb),e1,e3];refine rh ?_;refine Zn ?_;simp only[Eqs,reduceCtorEq,ZHK,reduceIte,ZHI,ZHM,ZHJ,Zu (i.i5 )];refine Zt rfl trivial (λh=>by simp at h;exact absurd h ak) (λ_=>?_);refine gI ?_;rw[show KL v=.i v from rfl];refine rh ?_;refine Zn ?_;simp only[Eqs,reduceCtorEq,ZHK,reduceIte,ZHI,ZHM,ZHJ,Zu (i.i7 )];refine cl (ZgD v) ?_;refine Zt rfl trivial (λh=>by simp at h;omega) (λ_=>?_);refine Zp (Zf (Zf ?_));exact z.fin ⟨rfl,rfl⟩ ag ZHH;intro q a u hB hq;subst hB;rw[Qt hq];have ah:=WD (o:=Jo.dfr) hq;have ae:(ckI st b5 b6 b7 b8 b9 b).upd b8 (.cells [.i 0])=ckI st b5 b6 b7 b8 b9 b:=St.upd_self i.i8;refine rh ?_;refine Zn ?_;simp only[Eqs,reduceCtorEq,ZHK,reduceIte,ZHI,ZHM,ZHJ,Zu (YS.i9 )];refine i0 ?_;refine rh ?_;refine Zn ?_;simp only[Eqs,reduceCtorEq,ZHK,reduceIte,ZHI,ZHM,ZHJ,Zu (i.i8 ),W7,ae];exact hF.ret1 (Zgk ah YE) (.i 0) st (ZBg i) ⟨trivial,trivial⟩ (ZHL _) i.isub ⟨rfl,rfl⟩;intro q a m hm u n;simp at n;intro q a m id hm u n;simp at n;intro q a m d hm u n;simp at n;intro m c n;simp at n;rintro d S ⟨x,hx,hd,rfl⟩;cases hd
def Zqd(t:Yn){b z l st}(hb:st b=sO (.map (JZ l)))(hz:st z=sO (.cells [.map b])):
  ZU ZHF 246 [.agg t.cells,.ptr z 0] st (.i ((Zw t.field l).getD 0)) st:=by
 refine ZK (cR 246 f246) λj F i=>?_;clear j;have n:=We (vD:=KL) ZX t.field l;have u:=Wr ZX t.field;simp only[show Qa t.field=D.str t.field from rfl]at n u;refine rx @eQ8 ?_;refine rx (nd2 @hb (nd2 @hz (nd2 @n (nd2 @u @Zlo)))) ?_;exact i rfl φ (ZHL _) ZHH
def ZaZ(s:Jp)(l:List (Str×Int)):Int:=s.base+Qb (λt=>(Zw t.field l).getD 0) s.terms
def Zuc(s)(hv:ZI s=true)(b l st)(n:st b=sO (.map (JZ l)))(hk:∀t∈s.terms,∃v,Zw t.field l=sO v/\0<=v/\v<34359738368):
  Ze ZHF 205 [.agg s.cells,.map b] st (λr S=>r=.ret (.tup [.i (ZaZ s l),.i 0])/\S=st):=by
 refine Zh (cR 205 f205) λF hF=>?_;have hE:=ZaZ.eq_1 s l;have j:∀t∈s.terms,0<=(Zw t.field l).getD 0/\(Zw t.field l).getD 0<34359738368:=λt ht=>by obtain⟨v,h1,h2,h3⟩:=hk t ht;rw[h1];exact⟨h2,h3⟩
 refine rx @eQ4 ?_;refine rx @eQ4 ?_;refine cV (Zng s hv b l st n hk) ?_ ?_;rintro d S ⟨u,hS⟩;obtain rfl:=hS.symm;cases u;refine gR0 ?_;refine gI ?_;refine Zp (Zd ?_);refine xP 3 λz hz=>?_;have i:b≠z:=λe=>by rw[e,hz]at n;simp at n
 refine rx @eQ4 ?_;refine JS rfl rfl rfl rfl rfl φ φ (by exact ZdQ s hv _ (λt=>(Zw t.field l).getD 0) _ j (λt ht=>(Zqd t (by rw[ZHQ _ _ i];exact n) (ZHP _ _ _)).VT (first:=[]) (args:=[_]) (caps:=[_]))) (Zn ?_);simp only[Eqs,reduceCtorEq,ZHK,reduceIte,ZHI,ZHM,ZHJ];exact hF.ret _ _ rfl φ (K4 (by rw[hE]) rfl) (ZH6 _ hz) ⟨rfl,rfl⟩;rintro d S ⟨u,_⟩;cases u
def W8(m:Msg)(d:Dfn)(path:Str)(b:Nat):List D:=[.str m.name,Zk m.fields,.str d.name,Yy d.msgs,.str d.start,.str path,.map b]
def ZaU(m d path)(f:Fld)(u:ZI f.size=true)(b l st)(hb:st b=sO (.map (JZ l)))(n:∀t∈f.size.terms,∃v,Zw t.field l=sO v/\0<=v/\v<34359738368):
  Ze ZHF 156 [.agg (W8 m d path b),.agg f.cells] st (λr S=>r=.ret (.i (ZaZ f.size l))/\S=st):=by
 refine Zh (cR 156 f156) λF j=>?_;have z:=Zuc f.size u b l st hb n;refine rx (nd2 @eQ0 @W8.eq_1) ?_;refine rg ?_;refine cV (z) ?_ ?_;rintro dd S ⟨i,hS⟩;obtain rfl:=hS.symm;cases i;refine gR0 ?_;refine rg ?_;exact j.ret _ _ rfl φ (ZHL _) ZHH ⟨rfl,rfl⟩;rintro dd S ⟨i,_⟩;cases i
def ZdT{v of}(hv:0<=v)(u:1<=of):(v<=upS v of/\upS v of<v+of)/\upS v of % of=0/\((v+of)-1).tdiv of<=upS v of/\0<=((v+of)-1).tdiv of:=by
 unfold upS;have e:((v+of)-1).tdiv of=(v+of-1) / of:=Int.tdiv_eq_ediv_of_nonneg ω;rw[e];have t:=Int.emod_add_mul_ediv (v+of-1) of;have h2:=Int.emod_nonneg (v+of-1) (show of≠0 by omega);have h3:=Int.emod_lt_of_pos (v+of-1) (show 0<of by omega);have i:0<=(v+of-1) / of:=Int.ediv_nonneg ω ω;have j:(v+of-1) / of<=(v+of-1) / of*of:=by have:=Int.mul_le_mul_of_nonneg_left u i;rwa [Int.mul_one]at this
 have n:(v+of-1) / of*of % of=0:=Int.mul_emod_left _ _;rw[Int.mul_comm]at t;generalize (v+of-1) / of*of=x at *;exact⟨ω,n,j,i⟩
def Zsv{v of}(n:0<=v/\v<=400000000)(j:1<=of/\of<=1000):Zc ZHF 127 [.i v,.i of] (.i (upS v of)):=by
 obtain⟨hb,_,hb2,hb3⟩:=ZdT n.1 j.1;have t:((v+of)-1).tdiv of*of=upS v of:=rfl;refine Zg (cR 127 f127) λF st i=>?_;refine gG ?_;generalize ((v+of)-1).tdiv of=q at *;rw[t];generalize upS v of=u at *;refine aa ?_;refine ri i ?_;rfl
def ZiA(n:Int):Bool:=(dC (n=2) ||decide (n=4)) ||(dC (8<=n)&&dC (n<=512)&&dC (n.tmod 8=0))
def ZmE{n v}(t:ZiA n=true)(hv:0<=v/\v<=335544320):Zc ZHF 84 [.i n,.i v] (.tup [.i (upS v n-v),.i 0]):=by
 have hb:1<=n/\n<=1000:=by unfold ZiA at t;simp only[ZH0,ZHN,decide_eq_true_eq]at t;omega
 have hU:=ZdT hv.1 hb.1;have j:=Zsv (v:=v) (of:=n) ⟨ω,ω⟩ hb;have z:=ZiA.eq_1 n;have ht:n.tmod 8=n % 8:=Int.tmod_eq_emod_of_nonneg ω;rw[t]at z;refine Zg (cR 84 f84) λF st i=>?_;refine gG ?_;refine⟨λ_=>⟨by decide,by rw[ht];omega,by rw[ht];omega⟩,?_⟩;rw[<-z];refine rg ?_;have hd:(dC (v<0) ||decide (335544320<v))=false:=by simp;omega
 refine Zt rfl trivial (λh=>by simp at h;omega) (λ_=>?_);refine rg ?_;refine cl (j) ?_;generalize upS v n=u at *;refine aa ?_;refine rt i ?_;rfl
def Zr4:List D:=[.i 16,.i 0,.i 0,.i 0,.fn (.func 213) [] [],.fn (.func 214) [] [],.i 16,.i 65535,.i 0,.i 0,.fn (.func 215) [] [],.fn (.func 216) [] [],.i 32,.i 1,.i 0,.i 0,.fn (.func 217) [] [],.fn (.func 218) [] []]
def Zfu:Zc ZHF 173 [] (.agg Zr4):=by
 refine Zg (cR 173 f173) λF st i=>?_;refine gG ?_;exact i rfl φ (ZHL _) ZHH
def JG(n:Int):Int:=if n=3 then 32 else 16
def Zz9{n}(h:n=1\/n=2\/n=3):∃a b c f g,part Zr4 ((n-1).toNat*6) 6=[.i (JG n),a,b,c,f,g]:=by
 rcases h with rfl|rfl|rfl<;>exact⟨_,_,_,_,_,rfl⟩
def Zux{n}(h:n=1\/n=2\/n=3){a b c f g}(j:part Zr4 ((n-1).toNat*6) 6=[.i (JG n),a,b,c,f,g]):Zc ZHF 128 [.i n] (.tup [.agg [.i (JG n),a,b,c,f,g],.bool true]):=by
 refine Zg (cR 128 f128) λF st i=>?_;unfold part at j;have t:Zr4.length=18:=rfl;refine gG ?_;refine cG (Zfu) ?_;refine Zt rfl trivial (λh=>by simp at h;omega) (λ_=>?_);refine rg ?_;refine cX (nd2 @j @t) (Zfu) ?_;refine aa ?_;refine rt i ?_;rfl
def Zrt{n}(h:n=1\/n=2\/n=3):Zc ZHF 85 [.i n] (.tup [.i (JG n),.i 0]):=by
 obtain⟨a,b,c,f,g,j⟩:=Zz9 h;have t:=Zux h j;refine Zg (cR 85 f85) λF st i=>?_;refine gG ?_;refine cl (t) ?_;refine rg ?_;refine iG ?_;refine rt i ?_;rfl
def Y1(v i:Nat):Nat:=v / 128 ^ i
def JN(v i):Y1 v (i+1)=Y1 v i / 128:=by unfold Y1;rw[Nat.pow_succ,Nat.div_div_eq_div_mul]
def Zlp(v k:Nat):UInt8:=UInt8.ofNat (Y1 v k % 128+128)
def Zoh(v k:Nat):UInt8:=UInt8.ofNat (Y1 v k % 128)
def Zm7(v i:Nat):Str:=(ZHT i).map (Zlp v)
def ZyK(v i):Zm7 v (i+1)=Zm7 v i++[Zlp v i]:=by unfold Zm7;rw[List.range_succ,List.map_append];rfl
def ZfN(v i):(Zm7 v i).length=i:=by simp[Zm7]
def Q6(v i:Nat):Str:=Zm7 v i++[Zoh v i]
def Yu(v:Nat):Nat:=if Y1 v 0<128 then 0 else if Y1 v 1<128 then 1 else if Y1 v 2<128 then 2 else if Y1 v 3<128 then 3 else 4
def ZpH{v}(hv:v<34359738368):Yu v<=4/\(Y1 v 0<128↔Yu v<=0)/\(Y1 v 1<128↔Yu v<=1)/\(Y1 v 2<128↔Yu v<=2)/\(Y1 v 3<128↔Yu v<=3)/\Y1 v 4<128:=by
 have e0:Y1 v 0=v:=by simp[Y1]
 have e1:=JN v 0;have e2:=JN v 1;have e3:=JN v 2;have e4:=JN v 3;have n:=Yu.eq_1 v;generalize Yu v=g at *;generalize Y1 v 0=r0 at *;generalize Y1 v 1=t at *;generalize Y1 v 2=u at *;generalize Y1 v 3=j at *;generalize hr4:Y1 v 4=z at *;have i:g<=4/\(r0<128↔g<=0)/\(t<128↔g<=1)/\(u<128↔g<=2)/\(j<128↔g<=3)/\z<128:=by
  repeat' (split at n)
  all_goals omega
 exact i
def Ztf{v}(hv:v<34359738368){i}(hi:i<5):Y1 v i<128↔Yu v<=i:=by
 obtain⟨h,h0,z,j,t,n⟩:=ZpH hv;have u:i=0\/i=1\/i=2\/i=3\/i=4:=ω;rcases u with rfl|rfl|rfl|rfl|rfl;exact h0;exact z;exact j;exact t;exact⟨λ_=>h,λ_=>n⟩
def Zl1(n):Zc ZHF 220 [.i n] (.bool (dC (0<=n)&&dC (n<34359738368))):=by
 refine Zg (cR 220 f220) λF st i=>?_;refine gG ?_;refine rb i ?_;rfl
def ZpT{a T:St}{tk k}(h:∀b,tk=.tip b->a b=nO):(a.or T).own tk k=a.or (T.own tk k):=by
 cases tk with
 |tip b=>exact ZhG (h b rfl)
 |_=>rfl
def Zpi{v}(st):Ze ZHF 174 [.i v] st λr S=>∃x,st x=nO/\r=.ret (.fn (.func 219) [] [.ptr x 0])/\S=st.or (ZH9 x (.cells [.i v])):=by
 refine Zh (cR 174 f174) λF j=>?_;refine rg ?_;refine Zd ?_;refine xP 1 λx i=>?_;refine rg ?_;exact j.ret _ _ rfl φ (ZHL _) ZHH ⟨x,i,rfl,Qt i⟩
def u8n{n}(h:n<256):(UInt8.ofNat n).toNat=n:=by rw[UInt8.toNat_ofNat'];omega
def ZvX{n}(h:0<=n/\n<=255):IntKind.u8.wrap n=n:=by
 unfold IntKind.wrap;simp[IntKind.bits,IntKind.signed];omega
def Zl0{v}(hv:v<34359738368)(x):Zds ZHF (.fn (.func 219) [] [.ptr x 0]) (5-Yu v) (λj=>[Zs (Q6 v (Yu v+j))]) (ZH9 x (.cells [.i v])):=by
 intro y go A a0 al hA hd;obtain⟨hg4,-⟩:=ZpH hv;refine Ze.V (first:=[]) (args:=[y]) (caps:=[.ptr x 0]) (Zh (cR 219 f219) λF hF=>?_);have hx:∀a T,Yc a T->T x=sO (.cells [.i (v:Int)])->(a.or T) x=sO (.cells [.i (v:Int)]):=λa T bc hT=>by rw[ZM (bc x _ hT)];exact hT
 have ag:(ZH9 x (.cells [.i (v:Int)])) x=sO (.cells [.i (v:Int)]):=YE;generalize hT:ZH9 x (.cells [.i (v:Int)])=T at *;refine rg ?_;refine rh ?_;refine Zn ?_;simp only[Eqs,reduceCtorEq,ZHK,reduceIte,ZHI,ZHM,ZHJ,hx a0 T hd ag];rw[show(v:Int)=((Y1 v 0:Nat):Int) by simp[Y1]];refine kl ((a0.or T)) [(0,.d y),(1,.d (.ptr x 0)),(3,.d (.sl .full 0 1 λ_=>[])),(4,.d (.i ((Y1 v 0:Nat):Int)))] [] (.skip (.skip (.cons (.d (Y3 λb h=>by cases h)) Ku))) WE ?_;refine Zb (fr (5) (λi Q=>∀a tk row,Yc a (T.own tk i)->tk.okIn (a.or T)->A (i-Yu v) a->(∀j,j<i-Yu v->go j=.next)->ZQ byC row (Zm7 v i)->i<=5->Q [(0,.d y),(1,.d (.ptr x 0)),(3,.d (.sl tk i 1 row)),(4,.d (.i ((Y1 v i:Nat):Int)))] [] (a.or (T.own tk i))) (λn ah=>?_) λa4=>?_)
 .clear hA hd;intro i hn a tk row hd z hA ac ai hi;have ap:=ZpT (a:=a) (T:=T) (tk:=tk) (k:=i) (λb hb=>by subst hb;exact hd b (.tip i) (ZHP _ _ _));have a3:(T.own tk i) x=sO (.cells [.i (v:Int)]):=by
   cases tk with
   |tip b =>
    have hb:x≠b:=λe=>by have:=(JC z).2;rw[<-e,ag]at this;simp at this
    show(T.upd b _) x=_;rw[ZHQ _ _ hb];exact ag
   |full=>exact ag
   |none=>exact ag
  refine rh ?_;refine Zn ?_;simp only[Eqs,reduceCtorEq,ZHK,reduceIte,ZHI,ZHM,ZHJ,hx a _ hd a3];refine cl (Zl1 (v:Int)) ?_;refine cd (λh1=>?_) (λh1=>?_)
  .have bb:i<5:=by simp at h1;omega
   have hlt:i=5\/i<5:=ω;obtain⟨r,hr⟩:∃r:Nat,r=Y1 v i:=⟨_,rfl⟩;have ab:((r:Nat):Int).tmod 128=((r % 128:Nat):Int):=by rw[Int.tmod_eq_emod_of_nonneg ω];omega
   have a8:IntKind.u8.wrap (((r:Nat):Int).tmod 128)=((Zoh v i).toNat:Int):=by rw[ab,ZvX ω];unfold Zoh;rw[<-hr,u8n ω]
   have a6:IntKind.u8.wrap (((r:Nat):Int).tmod 128+128)=((Zlp v i).toNat:Int):=by rw[ab,show((r % 128:Nat):Int)+128=((r % 128+128:Nat):Int) by omega,ZvX ω];unfold Zlp;rw[<-hr,u8n ω]
   rw[<-hr];refine rx @a8 ?_;refine⟨ω,ω,ω,by decide,by rw[ab];omega,by rw[ab];omega,?_⟩;refine K3 ((a.or (T.own tk i))) (.full) rfl rfl rfl rfl rfl rfl φ φ rfl (by first|trivial|assumption) ω (by (unfold big;omega)) λt1 ar=>Zn ?_;simp only[Eqs,reduceCtorEq,ZHK,reduceIte,ZHI,ZHM,ZHJ];have ak:ZQ byC (YA i (λi=>row i) (ZY [D.int IntKind.u8 0] ([0].zip [D.int IntKind.u8 ((Zoh v i).toNat:Int)]))) (Q6 v i):=ai.snoc (x:=Zoh v i) rfl (ZfN v i).symm;have ay:i+1=(Q6 v i).length:=by unfold Q6;rw[ZHO,ZfN];rfl
   refine Ka (s':=a.or (T.own tk i)) (YH ar) ?_;refine kl ((a.or (T.own tk i))) [(0,.d y),(1,.d (.ptr x 0)),(3,.d (.sl tk i 1 row)),(4,.d (.i (r:Int))),(5,.d (Zs (Q6 v i)))] [] (.skip (.skip (.skip (.skip (.cons (.d (ak.le ay)) Ku))))) WE ?_;clear ar;refine jU [1,0] (λQ=>∀a,Yc a (T.own tk i)->tk.okIn (a.or T)->A (i+1-Yu v) a->(∀j,j<i+1-Yu v->go j=.next)->Q F [(0,.d y),(1,.d (.ptr x 0)),(3,.d (.sl tk i 1 row)),(4,.d (.i (r:Int))),(34,.d (.bool false))] [] (a.or (T.own tk i))) ?_ λfin=>?_
   .intro a hd z hA ac;have a9:tk.okIn T:=by
     cases tk with
     |tip b=>exact(JC z).2
     |full=>trivial
     |none=>exact z.elim
    have ao:Yc a T:=λc o hc=>hd c o (YH a9 c o hc);have ap:=ZpT (a:=a) (T:=T) (tk:=tk) (k:=i) (λb hb=>by subst hb;exact hd b (.tip i) (ZHP _ _ _));rw[<-ap,show(a.or T).own tk i=(a.or T).own tk (i*1) by rw[Nat.mul_one]];refine rx @a6 ?_;refine⟨by decide,by rw[ab];omega,by rw[ab];omega,by rw[ab];omega,by rw[ab];omega,?_⟩;refine K3 ((a.or T)) (tk) rfl rfl rfl rfl rfl rfl φ φ (by rw[Nat.mul_one]) z ω (by (unfold big;omega)) λt2 av=>Zn ?_;simp only[Eqs,reduceCtorEq,ZHK,reduceIte,ZHI,ZHM,ZHJ];have ae:=ai.snoc (x:=Zlp v i) (row2:=ZY [D.int IntKind.u8 0] ([0].zip [D.int IntKind.u8 ((Zlp v i).toNat:Int)])) rfl (ZfN v i).symm;rw[<-ZyK]at ae;have ax:Yc a (T.own t2 (i+1)):=by
     cases t2 with
     |tip b =>intro c o hc;by_cases aq:c=b;rw[aq];exact(JC av).1;rw[show(T.own (.tip b) (i+1)) c=T c from ZHQ _ _ aq]at hc;exact ao c o hc
     |full=>exact ao
     |none=>exact ao
    have au:=ZpT (a:=a) (T:=T) (tk:=t2) (k:=i+1) (λb hb=>by subst hb;exact ax b (.tip (i+1)) (ZHP _ _ _));rw[Nat.mul_one,au];have a7:ZkF .i64 (r:Int) 7=((Y1 v (i+1):Nat):Int):=by rw[JN,<-hr];unfold ZkF;rw[show((2:Int) ^ (Nat.min (7:Int).toNat IntKind.i64.bits))=128 from rfl,Int.fdiv_eq_ediv_of_nonneg _ (by decide)];omega
    have hvb:Y1 v (i+1)<=v:=by unfold Y1;exact Nat.div_le_self _ _
    refine rx @a7 ?_;refine⟨by decide,ω,ω,?_⟩;refine Za ?_;exact ah ((5)-(i+1)) ω (i+1) rfl a t2 _ ax av hA ac ae ω
   have ba:=Ztf hv bb;rw[<-hr]at ba;by_cases hq:r<128
   .have am:dC ((r:Int)<128)=true:=by simpa using(show(r:Int)<128 by omega)
    have a5:i=Yu v+(i-Yu v):=ω;have af:=(al (i-Yu v) ω ac a hA).frame hd;simp only[show Yu v+(i-Yu v)=i from a5.symm]at af;refine rx @am ?_;refine vV (af) ?_ ?_
    .rintro d S ⟨s',⟨t,ad⟩,aj,rfl⟩;have aw:tk.okIn (s'.or T):=by
      cases tk with
      |tip b=>show(s'.or T) b=nO;rw[ZM (aj b (.tip i) (ZHP _ _ _))];exact(JC z).2
      |full=>trivial
      |none=>exact z.elim
     rw[show i-Yu v+1=i+1-Yu v by omega]at ad;cases u:go (i-Yu v) with
     |next =>rw[u]at t;cases t;refine gR0 ?_;refine i0 ?_;refine Zp ?_;refine fin s' aj aw ad λj hj=>?_;by_cases az:j=i-Yu v;rw[az];exact u;exact ac j ω
     |stop c =>rw[u]at t;cases t;refine gR0 ?_;refine i1 ?_;exact hF.ret (.tup []) _ rfl trivial (ZHL _) ZHH ⟨s',.stop (i-Yu v) c ω ac u (by rw[show i-Yu v+1=i+1-Yu v by omega];exact ad),KW⟩
     |pan d=>rw[u]at t;cases t
    rintro d S ⟨s',⟨t,ad⟩,aj,rfl⟩;cases u:go (i-Yu v) with
    |pan d' =>rw[u]at t;cases t;exact hF.pan _ ZHH ⟨s',.pan (i-Yu v) d ω ac u ad,KW⟩
    |next=>rw[u]at t;cases t
    |stop c=>rw[u]at t;cases t
   have am:dC ((r:Int)<128)=false:=by simpa using(show ¬(r:Int)<128 by omega)
   refine rx @am ?_;refine Jx rfl (e:=.d (.bool false)) (Zn ?_);simp only[Eqs,reduceCtorEq,ZHK,reduceIte,ZHI,ZHM,ZHJ];refine i0 ?_;refine Zp ?_;exact fin a hd z (by rw[show i+1-Yu v=i-Yu v by omega];exact hA) (λj hj=>ac j ω)
  have h5:i=5:=by simp at h1;omega
  subst h5;refine ZR rfl ?_;exact hF.fin (.tup []) _ rfl trivial (ZHL _) ZHH ⟨a,.all ac hA,KW⟩
 exact a4 _ 0 rfl a0 .full _ hd trivial (by rw[Nat.zero_sub];exact hA) (by intro j hj;omega) ZQ.nil ω
def apV(st:St)(b2 b4 b5:Nat)(d:D):St:=((st.upd b2 (.cells [.nilsl])).upd b4 (.cells [d])).upd b5 (.cells [.i 0])
def Znm{v:Nat}(hv:v<34359738368){st}:Ze ZHF 129 [.nilsl,.i v] st λr S=>r=.ret (.tup [Zs (Q6 v (Yu v)),.i 0])/\S=st:=by
 refine Zh (cR 129 f129) λF hF=>?_;obtain⟨hg4,-⟩:=ZpH hv;have ab:(Q6 v (Yu v)).length=Yu v+1:=by unfold Q6;rw[ZHO,ZfN];rfl
 refine rg ?_;refine Zd (Zd ?_);refine xP 2 λb2 h2=>?_;refine xP 4 λb4 h4=>?_;refine xP 5 λb5 h5=>?_;refine rg ?_;refine cV (Zpi (v:=(v:Int)) _) ?_ ?_;rintro d S ⟨x,hx,hd,rfl⟩;cases hd;refine gR0 ?_;refine Zb ?_;have k4:=Zv h4;have k5:=Zv h5;have ah:=Zv k5.2;rw[show((st.upd b2 (.cells [.nilsl])).upd b4 (.cells [.nilsl])).upd b5 (.cells [.i 0])=apV st b2 b4 b5 .nilsl from rfl]at hx⊢;have g2:∀d,(apV st b2 b4 b5 d) b2=sO (.cells [.nilsl]):=λd=>by unfold apV;rw[ZHQ _ _ ah.1.symm,ZHQ _ _ k4.1.symm,ZHP]
 have g4:∀d,(apV st b2 b4 b5 d) b4=sO (.cells [d]):=λd=>by unfold apV;rw[ZHQ _ _ k5.1.symm,ZHP]
 have g5:∀d,(apV st b2 b4 b5 d) b5=sO (.cells [.i 0]):=λd=>by unfold apV;rw[ZHP]
 have u4:∀d d',(apV st b2 b4 b5 d).upd b4 (.cells [d'])=apV st b2 b4 b5 d':=λd d'=>by unfold apV;rw[St.upd_comm k5.1.symm,ZH4]
 have u5:∀d,(apV st b2 b4 b5 d).upd b5 (.cells [.i 0])=apV st b2 b4 b5 d:=λd=>by unfold apV;rw[ZH4]
 have sb:∀d,st.sub (apV st b2 b4 b5 d):=λd=>by unfold apV;exact ZIn (ZIn (ZH6 _ h2) (ZH6 _ h4)) (ZH6 _ (by rw[ZHQ _ _ k5.1];exact k5.2))
 refine KM hF rfl trivial [2,4,5] (by show([2,4,5]:List Nat).Nodup;decide) (WD hx) (Zl0 hv x).Y (λj hj=>rfl)
  (λj=>.stop .ret) (λj a=>(j=0/\a=apV st b2 b4 b5 .nilsl)\/(0<j/\a=apV st b2 b4 b5 (Zs (Q6 v (Yu v))))) (.inl ⟨rfl,rfl⟩) ?_ ?_ ?_ ?_ ?_ ?_
 intro j a hj u hB F' ready n hdr ag ac;have aj:j=0:=by refine Nat.eq_zero_of_not_pos λh=>?_;have:=u 0 h;simp at this
 subst aj;rcases hB with ⟨_,rfl⟩|⟨h,_⟩
 skip
 simp only[Eqs,reduceCtorEq,ZHK,reduceIte,ZHI,ZHM,ZHJ,WT,Kc,Jk,Kq,List.isEmpty_nil,List.isEmpty_cons];refine rg ?_;refine ag λai=>?_;have af:Yc (apV st b2 b4 b5 (Zs (Q6 v (Yu v)))) n:=λc o hc=>by have h1:=ai c o hc;unfold apV at h1⊢;have a1:=Zv h1;have a2:=Zv a1.2;rw[ZHQ _ _ a1.1,ZHQ _ _ a2.1];exact a2.2
 refine rh ?_;refine Zn ?_;simp only[Eqs,reduceCtorEq,ZHK,reduceIte,ZHI,ZHM,ZHJ,Zu (g2 _)];refine K3 (((apV st b2 b4 b5 .nilsl).or n)) (.full) rfl rfl rfl rfl rfl rfl φ φ rfl (by first|trivial|assumption) (by (rw[ab];omega)) (by (rw[ab];unfold big;omega)) λt1 z=>Zn ?_;simp only[Eqs,reduceCtorEq,ZHK,reduceIte,ZHI,ZHM,ZHJ,Zlt z (Zu (g4 _)),Zlt z (Zu (g5 _)),ZHQ _ _ k5.1];have ad:ZQ u8C (YA 0 (λ_=>[]) λi=>u8C (ZHU (Q6 v (Yu v)) i dE)) ([]++Q6 v (Yu v)):=ZQ.nil.app ZQ.self rfl;have ae:((apV st b2 b4 b5 (Zs (Q6 v (Yu v)))).or n).sub (((((((apV st b2 b4 b5 .nilsl).or n).own t1 (List.length (Q6 v (Yu v))*1)).upd b4 (.cells [.sl t1 (List.length (Q6 v (Yu v))) 1 (YA 0 (λ_=>[]) λi=>u8C (ZHU (Q6 v (Yu v)) i dE))])).upd b5 (.cells [.i 0])).upd b4 (.cells [Zs (Q6 v (Yu v))]))):=λc o hc=>by
  by_cases c4:c=b4;subst c4;rw[ZHP];rw[Zu (g4 _)]at hc;exact hc;rw[ZHQ _ _ c4];by_cases c5:c=b5;subst c5;rw[ZHP];rw[Zu (g5 _)]at hc;exact hc;rw[ZHQ _ _ c5,ZHQ _ _ c4];refine Zlt z ?_;have he:(apV st b2 b4 b5 (Zs (Q6 v (Yu v)))) c=(apV st b2 b4 b5 .nilsl) c:=by unfold apV;rw[ZHQ _ _ c5,ZHQ _ _ c4,ZHQ _ _ c5,ZHQ _ _ c4]
  unfold St.or at hc⊢;rw[he]at hc;exact hc
 refine ZaI (b:=b4) (by rw[ZHQ _ _ k5.1.symm,ZHP]) (.cons (ad.le ψ) .nil) ?_;refine Ka (s':=(apV st b2 b4 b5 (Zs (Q6 v (Yu v)))).or n) ae ?_;exact ac.ret ⟨rfl,.inr ⟨ω,rfl⟩⟩ af ZHH;omega;intro q a u hB hq;have:=u 0 ω;simp at this;intro q a m hm u t hB hq;rcases hB with ⟨h,_⟩|⟨_,rfl⟩;omega;rw[Qt hq];exact hF.ret1 hq (.tup [Zs (Q6 v (Yu v)),.i 0]) st (ds:=[Zs (Q6 v (Yu v)),.i 0]) (p:=True/\True/\True) (by simp[YK,Ks,ZS,Wx,Ye,g4,g5]) ⟨trivial,trivial,trivial⟩ (ZHL _) (sb _) ⟨rfl,rfl⟩;intro q a m id hm u t;simp at t;intro q a m d hm u t;simp at t;intro m c t;simp at t;exact .inl t.symm;rintro d S ⟨x,hx,hd,rfl⟩;cases hd
def ZrV{v:Nat}(t:v<34359738368):Zc ZHF 86 [.i v] (.tup [.i ((Yu v:Int)+1),.i 0]):=by
 refine Zg (cR 86 f86) λF st i=>?_;have j:(Q6 v (Yu v)).length=Yu v+1:=by unfold Q6;rw[ZHO,ZfN];rfl
 refine gG ?_;refine cV (Znm t) ?_ ?_;rintro d S ⟨n,u⟩;obtain rfl:=u.symm;cases n;refine gR0 ?_;refine rx @W3 ?_;refine rt i ?_;rw[j];rfl;rintro d S ⟨n,_⟩;cases n
def Zl(d:Dfn)(s:Str):Msg:=d.msgs.getD (ixS d s) dE
def QG(f:Fld)(x:Val)(b:Int):Int :=
 if f.kind=1\/f.kind=2 then b+f.bits
 else if f.kind=3 then b+8*(Yu x.int.toNat+1:Nat)
 else if f.kind=4 then b+8*I x.bytes
 else if f.kind=5 then b+8*I x.bytes+8
 else if f.kind=6 then b+8*(Zby x.hdrs).length
 else if f.kind=10 then upS b f.bits
 else if f.kind=11 then b+JG f.check
 else b
def Kn(rec:Val->Int):List Val->Int->Int
 | [],b=>b
 |y::r,b=>Kn rec r (b+8*rec y)
def KI(rec:Val->Int):List Fld->List Val->Int->Int
 | [],_,b=>b
 |f::r,ps,b=>if Y5 f then KI rec r (ps.drop 1) (Kn rec (ps.getD 0 dE).parts (QG f (ps.getD 0 dE) b)) else KI rec r ps (QG f dE b)
def lenS(d:Dfn):Nat->Msg->Val->Int
 |0,_,_=>0
 |n+1,m,v=>(KI (λy=>lenS d n (Zl d y.name) y) m.fields v.parts 0).tdiv 8
structure FOk(f:Fld):Prop where
 num:f.kind=1\/f.kind=2->0<=f.bits/\f.bits<=600
 pad:f.kind=10->ZiA f.bits=true
 chk:f.kind=11->f.check=1\/f.check=2\/f.check=3
structure MOk(m:Msg):Prop where
 few:I m.fields<=40
 fld:∀f∈m.fields,FOk f
def Zm5{n}(h:ZiA n=true):2<=n/\n<=512:=by
 unfold ZiA at h;simp only[ZH0,ZHN,decide_eq_true_eq]at h;omega
def ZxB(l):(Zby l).length=Jj l+4*I l+2:=by
 unfold Zby
 rw[ZHO];have:(l.flatMap ZgV).length=Jj l+4*I l:=by
  induction l with
  |nil=>rfl
  |cons h r ih=>rw[List.flatMap_cons,ZHO,ih];simp only[ZgV,Jj,ZHO,ZHW,List.length_nil];omega
 rw[this];rfl
def Zvw(v):Yu v<=4:=by
 unfold Yu
 repeat' split
 all_goals omega
def ZcT{f x b}(z:FOk f)(hb:0<=b)(hh:I x.hdrs<=100):b<=QG f x b/\QG f x b<=b+600+8*(I x.bytes+Jj x.hdrs:Nat)+3300:=by
 have h3:=Zvw x.int.toNat;have h6:=ZxB x.hdrs;have hck:JG f.check=32\/JG f.check=16:=by unfold JG;split<;>simp
 unfold QG;by_cases n:f.kind=1\/f.kind=2;have:=z.num n;rw[if_pos n];omega;rw[if_neg n];by_cases t:f.kind=3;rw[if_pos t];omega;rw[if_neg t];by_cases c4:f.kind=4;rw[if_pos c4];omega;rw[if_neg c4];by_cases u:f.kind=5;rw[if_pos u];omega;rw[if_neg u];by_cases c6:f.kind=6;rw[if_pos c6];omega;rw[if_neg c6];by_cases i:f.kind=10;rw[if_pos i];have h1:=Zm5 (z.pad i);have h2:=(ZdT hb (show 1<=f.bits by omega)).1;omega;rw[if_neg i];by_cases j:f.kind=11;rw[if_pos j];omega;rw[if_neg j];omega
def Ja{rec}:∀{l b},(∀y∈l,0<=rec y/\8*rec y<=20000*(wtN y:Int))->b<=Kn rec l b/\Kn rec l b<=b+20000*(wtL l:Int)
 | [],b,_=>by simp[Kn,wtL]
 |y::r,b,h=>by have h1:=h y ψ;have h2:=Ja (rec:=rec) (l:=r) (b:=b+8*rec y) λz i=>h z (by simp[i]);simp only[Kn,wtL];omega
def QX{rec}:∀{l ps b},(∀f∈l,FOk f)->0<=b->(∀x∈ps,I x.hdrs<=100/\∀y∈x.parts,0<=rec y/\8*rec y<=20000*(wtN y:Int)) ->
  b<=KI rec l ps b/\KI rec l ps b<=b+600*(I l:Int)+3300*(I l:Int)+20000*(wtL ps:Int)
 | [],ps,b,_,hb,_=>by simp only[KI,List.length_nil];omega
 |f::r,ps,b,hf,hb,hp=>by
  have j:=hf f ψ;have i:∀g∈r,FOk g:=λg hg=>hf g (by simp[hg]);simp only[KI,ZHW];split
  .cases ps with
   |nil =>have n:=ZcT (x:=dE) j hb (by simp[show(dE:Val).hdrs=[] from rfl]);have u:(dE:Val).bytes.length=0:=rfl;have e2:Jj (dE:Val).hdrs=0:=rfl;have h2:=QX (rec:=rec) (l:=r) (ps:=[]) (b:=QG f dE b) i ω (λx t=>by simp at t);rw[show KI rec r (List.drop 1 []) (Kn rec (([]:List Val).getD 0 dE).parts (QG f (([]:List Val).getD 0 dE) b))=KI rec r [] (QG f dE b) from rfl];rw[u,e2]at n;simp only[wtL]at h2⊢;omega
   |cons x q =>have t:=hp x ψ;have n:=ZcT j hb t.1;have h3:=Ja (b:=QG f x b) t.2;have h2:=QX (rec:=rec) (l:=r) (ps:=q) (b:=Kn rec x.parts (QG f x b)) i ω (λz hz=>hp z (by simp[hz]));have hw:=ZbN x;rw[show KI rec r ((x::q).drop 1) (Kn rec ((x::q).getD 0 dE).parts (QG f ((x::q).getD 0 dE) b))=KI rec r q (Kn rec x.parts (QG f x b)) from rfl];simp only[wtL];omega
  have n:=ZcT (x:=dE) j hb (by simp[show(dE:Val).hdrs=[] from rfl]);have u:(dE:Val).bytes.length=0:=rfl;have e2:Jj (dE:Val).hdrs=0:=rfl;rw[u,e2]at n;have h2:=QX (rec:=rec) (l:=r) (ps:=ps) (b:=QG f dE b) i ω hp;omega
def DOk(d:Dfn):Prop:=∀m∈d.msgs,MOk m
def DOk.of{d}(h:DOk d)(s):MOk (Zl d s):=by
 unfold Zl;by_cases i:ixS d s<I d.msgs;exact h _ (Zm i);rw[show d.msgs.getD (ixS d s) dE=dE by simp[ZHU,ZIr (Nat.le_of_not_lt i)]];exact⟨by decide,λf j=>by simp[show(dE:Msg).fields=[] from rfl]at j⟩
def YW{v x}(h:ZW v=true)(i:x∈v.parts):ZW x=true:=by
 rw[ZdH,ZHN,Zda]at h;exact List.all_eq_true.1 h.1 x i
def Qf{v}(h:ZW v=true):QM v=true:=by
 rw[ZdH,ZHN]at h;exact h.2
def Ze3{d}(j:DOk d):∀(n m v),MOk m->ZW v=true->0<=lenS d n m v/\8*lenS d n m v<=20000*(wtN v:Int)
 |0,m,v,_,_=>by simp only[lenS];omega
 |n+1,m,v,hm,hv=>by
  have h1:=QX (rec:=λy=>lenS d n (Zl d y.name) y) (l:=m.fields) (ps:=v.parts) (b:=0) hm.fld ω λx z=>by have i:=YW hv z;exact⟨(QU (Qf i)).2.2.2.1,λy u=>Ze3 j n (Zl d y.name) y (j.of _) (YW i u)⟩
  have h2:=ZbN v;have h3:=hm.few;simp only[lenS];generalize KI (λy=>lenS d n (Zl d y.name) y) m.fields v.parts 0=t at *;rw[Int.tdiv_eq_ediv_of_nonneg ω];omega
structure XOk(f:Fld)(x:Val):Prop where
 unused:W5 f.kind x=false
 vint:f.kind=3->0<=x.int/\x.int<34359738368
 hdrs:f.kind=6->Kl x.hdrs=true/\Zck x.hdrs
def Zk8(d:Dfn):Nat->Msg->Val->Prop
 |0,_,_=>False
 |n+1,m,v=>(vfs m.fields).length=I v.parts/\∀k,k<I v.parts->XOk ((vfs m.fields).getD k dE) (v.parts.getD k dE)/\∀y∈(v.parts.getD k dE).parts,0<=Zr d y.name (I d.msgs)/\Zk8 d n (Zl d y.name) y
def Zh0{l i k}(u:k=(vfs (l.take i)).length)(n:i<I l)(t:Y5 (l.getD i dE)=true):k<(vfs l).length/\(vfs l).getD k dE=l.getD i dE:=by
 have j:=ZkV n;rw[if_pos t]at j;refine⟨by rw[j];simp;omega,?_⟩;rw[j,u];simp[ZHU]
def ZAg{b c n}(j:1<=n)(u:0<=b)(h1:b<=c)(h2:c<=upS b n)(i:c.tmod n=0):c=upS b n:=by
 obtain⟨⟨_,hlt⟩,hm,_⟩:=ZdT u j;rw[Int.tmod_eq_emod_of_nonneg ω]at i;have t:(upS b n-c) % n=0:=by rw[Int.sub_emod,hm,i];simp
 rw[Int.emod_eq_of_lt ω ω]at t;omega
def ZAh{b c n}(i:1<=n)(t:0<=b)(h1:b<=c)(h2:c<=upS b n)(j:¬c.tmod n=0):c+1<=upS b n:=by
 obtain⟨_,hm,_⟩:=ZdT t i;have hne:c≠upS b n:=λe=>j (by rw[e,Int.tmod_eq_emod_of_nonneg ω];exact hm);omega
def ZoE(d)(hd:DOk d)(hmsg:I d.msgs<=1000)(n i0)(hi0:i0<I d.msgs)(v)(hv:ZW v=true)(hw:wtN v<=5000)(hL:Zk8 d (n+1) (d.msgs.getD i0 dE) v)(ih:∀x∈v.parts,∀y∈x.parts,Zc ZHF 33 [.agg d.cells,.i (Zr d y.name (I d.msgs)),.agg y.cells] (.i (lenS d n (Zl d y.name) y))):
  Zc ZHF 33 [.agg d.cells,.i i0,.agg v.cells] (.i (lenS d (n+1) (d.msgs.getD i0 dE) v)):=by
 refine Zg (cR 33 f33) λF st a0=>?_;have hm:MOk (d.msgs.getD i0 dE):=hd _ (Zm hi0);generalize bw:d.msgs.getD i0 dE=m at *;obtain⟨bg,hX⟩:=hL;have hrec:∀x∈v.parts,I x.hdrs<=100/\∀y∈x.parts,0<=lenS d n (Zl d y.name) y/\8*lenS d n (Zl d y.name) y<=20000*(wtN y:Int):=λx hx =>
  ⟨(QU (Qf (YW hv hx))).2.2.2.1,λy hy=>Ze3 hd n _ y (hd.of _) (YW (YW hv hx) hy)⟩
 obtain⟨rec,aj⟩:∃rec:Val->Int,rec=λy=>lenS d n (Zl d y.name) y:=⟨_,rfl⟩;have hS:lenS d (n+1) m v=(KI rec m.fields v.parts 0).tdiv 8:=by rw[aj];rfl
 have ab:∀x∈v.parts,I x.hdrs<=100/\∀y∈x.parts,0<=rec y/\8*rec y<=20000*(wtN y:Int):=by rw[aj];exact hrec
 have bp:∀x∈v.parts,∀y∈x.parts,Zc ZHF 33 [.agg d.cells,.i (Zr d y.name (I d.msgs)),.agg y.cells] (.i (rec y)):=by rw[aj];exact ih
 have hT:=QX (rec:=rec) (l:=m.fields) (ps:=v.parts) (b:=0) hm.fld ω ab;have hwn:=ZbN v;have hfew:=hm.few;generalize b1:KI rec m.fields v.parts 0=T at *;clear hrec ih aj;generalize lenS d (n+1) m v=LV at *;rw[ZHX];refine rx @eQ2 ?_;refine xA (nd2 @atM (nd2 @bw @eQ3)) ?_;refine gG ?_;refine Zb (fr (I m.fields) (λi Q=>∀(b:Int) (k:Nat),i<=I m.fields->k=(vfs (m.fields.take i)).length->0<=b->b<=T->KI rec (m.fields.drop i) (v.parts.drop k) b=T->Q [(3,.loc 3 0),(5,.loc 5 0),(7,.loc 7 0),(8,.d (.i b)),(9,.d (.i k)),(10,.d (.i i))] [(3,[.str d.name,Yy d.msgs,.str d.start]),(5,[.str v.name,.i v.int,Zs v.bytes,Zx v.hdrs,ZF v.parts]),(7,[.str m.name,Zk m.fields])] st) (λn aq=>?_) λbl=>?_)
 .intro i hn b k hi hk ak hbT u;refine rx @Jw ?_;refine cd (λh1=>?_) (λh1=>?_)
  .simp at h1;have b0:m.fields.getD i dE∈m.fields:=Zm h1;have a3:=hm.fld _ b0;have a8:=λhh=>Zh0 hk h1 hh;have ad:=ZdV h1;rw[Ww h1]at u;simp only[KI]at u;generalize hf:m.fields.getD i dE=f at *;refine xA (nd2 @atF (nd2 @hf (nd2 @Ql @J2))) ?_;refine rg ?_;refine rx (nd2 @Ql @J2) ?_;refine cl (KV f) ?_;refine jU [0,1,1] (λQ=>∀(x:Val) (k:Nat),k=(vfs (m.fields.take (i+1))).length->KI rec (m.fields.drop (i+1)) (v.parts.drop k) (Kn rec x.parts (QG f x b))=T->(f.kind=3->0<=x.int/\x.int<34359738368)->(f.kind=6->Kl x.hdrs=true/\Zck x.hdrs)->I x.hdrs<=100->I x.bytes<=1048576->I x.parts<=5000->(∀y∈x.parts,0<=rec y/\8*rec y<=20000*(wtN y:Int))->(∀y∈x.parts,Zc ZHF 33 [.agg d.cells,.i (Zr d y.name (I d.msgs)),.agg y.cells] (.i (rec y)))->Q F [(3,.loc 3 0),(5,.loc 5 0),(7,.loc 7 0),(8,.d (.i b)),(9,.d (.i k)),(10,.d (.i i)),(11,.loc 11 0),(12,.loc 12 0)] [(3,[.str d.name,Yy d.msgs,.str d.start]),(5,[.str v.name,.i v.int,Zs v.bytes,Zx v.hdrs,ZF v.parts]),(7,[.str m.name,Zk m.fields]),(11,f.cells),(12,[.str x.name,.i x.int,Zs x.bytes,Zx x.hdrs,ZF x.parts])] st) ?_ λau=>?_;clear u hk a8 ad;intro x k hk u al ap bk hxb b2 ac ay;have hA:=ZcT (x:=x) a3 ak bk;have hP:=Ja (rec:=rec) (l:=x.parts) (b:=QG f x b) ac;have hB:=QX (rec:=rec) (l:=m.fields.drop (i+1)) (ps:=v.parts.drop k) (b:=Kn rec x.parts (QG f x b)) (λg hg=>hm.fld g (List.mem_of_mem_drop hg)) ω (λz hz=>ab z (List.mem_of_mem_drop hz));have t:=QG.eq_1 f x b;refine jU [0,0,1] (λQ=>∀c:Int,c=QG f x b->Q F [(3,.loc 3 0),(5,.loc 5 0),(7,.loc 7 0),(8,.d (.i c)),(9,.d (.i k)),(10,.d (.i i)),(12,.loc 12 0)] [(3,[.str d.name,Yy d.msgs,.str d.start]),(5,[.str v.name,.i v.int,Zs v.bytes,Zx v.hdrs,ZF v.parts]),(7,[.str m.name,Zk m.fields]),(12,[.str x.name,.i x.int,Zs x.bytes,Zx x.hdrs,ZF x.parts])] st) ?_ λfin=>?_;clear t;intro c hc;rw[<-hc]at hA hP hB u;refine rg ?_;refine Zb (fr (I x.parts) (λj Q=>∀e:Int,0<=e->e<=T->Kn rec (x.parts.drop j) e=Kn rec x.parts c->j<=I x.parts->Q [(3,.loc 3 0),(5,.loc 5 0),(7,.loc 7 0),(8,.d (.i e)),(9,.d (.i k)),(10,.d (.i i)),(12,.loc 12 0),(14,.d (.i j))] [(3,[.str d.name,Yy d.msgs,.str d.start]),(5,[.str v.name,.i v.int,Zs v.bytes,Zx v.hdrs,ZF v.parts]),(7,[.str m.name,Zk m.fields]),(12,[.str x.name,.i x.int,Zs x.bytes,Zx x.hdrs,ZF x.parts])] st) (λn af=>?_) λa7=>?_);intro j hnj e he0 heT ae hj;refine rx @KU ?_;refine cd (λg1=>?_) (λg1=>?_);simp at g1;have bc:x.parts.getD j dE∈x.parts:=Zm g1;have hyr:=ac _ bc;have a9:=ay _ bc;have ca:=Wm (l:=x.parts) (i:=j) g1;rw[Ww g1]at ae;simp only[Kn]at ae;have hPj:=Ja (rec:=rec) (l:=x.parts.drop (j+1)) (b:=e+8*rec (x.parts.getD j dE)) λz hz=>ac z (List.mem_of_mem_drop hz);rw[ZHX]at a9;generalize x.parts.getD j dE=y at *;generalize rec y=ry at *;refine xA (nd2 @atV (nd2 @ca @Zc4)) ?_;refine clD (Wi d y.name (I d.msgs) (ZHV _)) ?_;refine clD (a9) ?_;refine aa ?_;refine gA ?_;refine Za ?_;exact af ((I x.parts)-(j+1)) ω (j+1) rfl (e+8*ry) ω ω ae ω;simp at g1;obtain rfl:j=I x.parts:=ω;rw[ZIo (ZHV _)]at ae;simp only[Kn]at ae;rw[<-ae]at u;refine gA ?_;refine Za ?_;exact aq ((I m.fields)-(i+1)) ω (i+1) rfl e k ω hk ω ω u;exact a7 _ 0 rfl c ω ω rfl ω;refine rx @eQ0 ?_;refine rg ?_;refine cd (λc1=>?_) (λc1=>?_);rw[if_pos (by simp at c1;omega)]at t;refine Zp (Zt rfl trivial (λ_=>?_) (λh=>by rw[c1]at h;simp at h));refine xA @eQ0 ?_;refine Zf (Zd ?_);exact fin _ t.symm;refine rg ?_;refine cd (λc2=>?_) (λc2=>?_);rw[if_pos (by simp at c2;omega)]at t;refine xA @eQ0 ?_;refine Zf (Zd ?_);exact fin _ t.symm;rw[if_neg (by simp at c1 c2;omega)]at t;refine rg ?_;refine cd (λc3=>?_) (λc3=>?_);rw[if_pos (by simpa using c3)]at t;obtain⟨hv0,hv1⟩:=al (by simpa using c3);obtain⟨vn,ba⟩:∃vn:Nat,x.int=vn:=⟨x.int.toNat,ω⟩;rw[ba,Int.toNat_natCast]at t;have bi:vn<34359738368:=ω;have hg4:=Zvw vn;have bn:Y1 vn 0=vn:=by simp[Y1]
   have hq:x.int.tdiv 128=((Y1 vn 1:Nat):Int):=by rw[ba,Int.tdiv_eq_ediv_of_nonneg ω,JN,bn];omega
   have ai:∀c,Y1 vn c<=vn:=λc=>by unfold Y1;exact Nat.div_le_self _ _
   refine gA ?_;refine rg ?_;refine⟨by decide,by rw[hq];have:=ai 1;omega,by rw[hq];have:=ai 1;omega,?_⟩;rw[hq,show b+8=b+8+8*((0:Nat):Int) by omega];refine Zb (fr ((Yu vn)) (λc Q=>c<=Yu vn->Q [(3,.loc 3 0),(5,.loc 5 0),(7,.loc 7 0),(8,.d (.i (b+8+8*(c:Int)))),(9,.d (.i k)),(10,.d (.i i)),(12,.loc 12 0),(13,.d (.i ((Y1 vn (c+1):Nat):Int)))] [(3,[.str d.name,Yy d.msgs,.str d.start]),(5,[.str v.name,.i v.int,Zs v.bytes,Zx v.hdrs,ZF v.parts]),(7,[.str m.name,Zk m.fields]),(12,[.str x.name,.i x.int,Zs x.bytes,Zx x.hdrs,ZF x.parts])] st) (λn ag=>?_) λa5=>?_);intro c bj hc;have hi1:=Ztf bi (i:=c) ω;have hs1:=JN vn c;have br:=JN vn (c+1);have hb1:=ai (c+1);refine rg ?_;refine cd (λg3=>?_) (λg3=>?_);have hlt:c<Yu vn:=by simp at g3;omega
   have aw:(((Y1 vn (c+1):Nat):Int)).tdiv 128=((Y1 vn (c+1+1):Nat):Int):=by rw[Int.tdiv_eq_ediv_of_nonneg ω,br];omega
   refine gA ?_;refine rg ?_;refine⟨by decide,by rw[aw];have:=ai (c+1+1);omega,by rw[aw];have:=ai (c+1+1);omega,?_⟩;rw[aw,show b+8+8*(c:Int)+8=b+8+8*((c+1:Nat):Int) by omega];refine Za ?_;exact ag (((Yu vn))-(c+1)) ω (c+1) rfl ω;have bx:c=Yu vn:=by simp at g3;omega
   refine ZR rfl (Zf (Zd ?_));refine kE [3,5,7,8,9,10,12] ?_;exact fin (b+8+8*(c:Int)) (by rw[t,bx];omega);exact a5 _ 0 rfl ω;rw[if_neg (by simpa using c3)]at t;refine rg ?_;refine cd (λc4=>?_) (λc4=>?_);rw[if_pos (by simpa using c4)]at t;refine xA @W3 ?_;refine Zf (Zd ?_);exact fin _ t.symm;rw[if_neg (by simpa using c4)]at t;refine rg ?_;refine cd (λc5=>?_) (λc5=>?_);rw[if_pos (by simpa using c5)]at t;refine xA @W3 ?_;refine Zf (Zd ?_);exact fin _ t.symm;rw[if_neg (by simpa using c5)]at t;refine rg ?_;refine cd (λc6=>?_) (λc6=>?_);rw[if_pos (by simpa using c6)]at t;obtain⟨bv,bo⟩:=ap (by simpa using c6);refine rg ?_;refine cX @W3 (Zka bv bo) ?_;refine aa ?_;refine Zf (Zd ?_);exact fin _ t.symm;rw[if_neg (by simpa using c6)]at t;refine rg ?_;refine cd (λav=>?_) (λav=>?_);have ar:f.kind=10:=by simpa using av
   rw[if_pos ar]at t;have hpd:=Zm5 (a3.pad ar);have hup:=ZdT ak (show 1<=f.bits by omega);refine Zb ?_;refine kE [3,5,7,8,9,10,11,12] ?_;rw[show b=b+((0:Nat):Int) by omega];refine fr (((upS b f.bits-b).toNat)) (λc Q=>b+c<=upS b f.bits->Q [(3,.loc 3 0),(5,.loc 5 0),(7,.loc 7 0),(8,.d (.i (b+(c:Int)))),(9,.d (.i k)),(10,.d (.i i)),(11,.loc 11 0),(12,.loc 12 0)] [(3,[.str d.name,Yy d.msgs,.str d.start]),(5,[.str v.name,.i v.int,Zs v.bytes,Zx v.hdrs,ZF v.parts]),(7,[.str m.name,Zk m.fields]),(11,[.str f.name,.i f.kind,.i f.bits,.bool f.little,.bool f.loose,.i f.low,.i f.high,.i f.size.base,Yd f.size.terms,.str f.of,.str f.tag,.str f.from_,Yk f.cases,.i f.check,.i f.key]),(12,[.str x.name,.i x.int,Zs x.bytes,Zx x.hdrs,ZF x.parts])] st) (λn ah=>?_) λa4=>?_;intro c bj hc;have be:(b+(c:Int)).tmod f.bits=(b+c) % f.bits:=Int.tmod_eq_emod_of_nonneg ω;have hm1:=Int.emod_nonneg (b+(c:Int)) (show f.bits≠0 by omega);have hm2:=Int.emod_lt_of_pos (b+(c:Int)) (show 0<f.bits by omega);refine rg ?_;refine⟨ω,by rw[be];omega,by rw[be];omega,?_⟩;refine cd (λg4=>?_) (λg4=>?_);have bf:=ZAh (b:=b) (c:=b+c) (n:=f.bits) ω ak ω hc (by simpa using g4);refine gA ?_;rw[show b+(c:Int)+1=b+((c+1:Nat):Int) by omega];refine Zf (Za ?_);exact ah ((((upS b f.bits-b).toNat))-(c+1)) ω (c+1) rfl ω;have bf:=ZAg (b:=b) (c:=b+c) (n:=f.bits) ω ak ω hc (by simpa using g4);refine ZR rfl (Zf (Zd ?_));refine kE [3,5,7,8,9,10,12] ?_;exact fin (b+(c:Int)) (by rw[t,bf]);exact a4 _ 0 rfl ω;rw[if_neg (by simpa using av)]at t;refine rg ?_;refine cd (λaz=>?_) (λaz=>?_);rw[if_pos (by simpa using az)]at t;refine gA ?_;refine rx @eQ0 ?_;refine cd (λax=>?_) (λax=>?_);refine gA ?_;refine Zf (Zd ?_);exact fin (b+16+16) (by rw[t];unfold JG;rw[if_pos (by simpa using ax)];omega);refine Zp (Zf (Zd ?_));refine kE [3,5,7,8,9,10,12] ?_;exact fin (b+16) (by rw[t];unfold JG;rw[if_neg (by simpa using ax)]);rw[if_neg (by simpa using az)]at t;refine Zp (Zf (Zd ?_));refine kE [3,5,7,8,9,10,12] ?_;exact fin _ t.symm;refine cd (λhh=>?_) (λhh=>?_)
   .rw[if_pos hh]at u;obtain⟨ao,bz⟩:=a8 hh;rw[bg]at ao;have am:v.parts.getD k dE∈v.parts:=Zm ao;obtain⟨⟨hun,al,ap⟩,b2⟩:=hX k ao;have bb:=Wm (l:=v.parts) (i:=k) ao;have ac:=ab _ am;have ay:=bp _ am;have bu:=YW hv am;have bq:=QU (Qf bu);have hxw:=Zqp am;have hk40:k<=i:=by rw[hk];exact ZpO
    rw[show(v.parts.drop k).getD 0 dE=v.parts.getD k dE by simp[ZHU],List.drop_drop]at u;rw[bz]at al ap;rw[if_pos hh]at ad;generalize v.parts.getD k dE=x at *;have bt:I x.parts<=5000:=by
     have h1:=ZbN x;have h2:10*I x.parts<=wtL x.parts:=by
      have h3:∀l:List Val,10*I l<=wtL l:=λl=>by
       induction l with
       |nil=>simp
       |cons a r ih3=>have:=ZbN a;simp only[wtL,ZHW];omega
      exact h3 _
     omega
    refine xA (nd2 @atV (nd2 @bb (nd2 @Ql @J2))) ?_;refine gA ?_;refine Zd (Zd ?_);rw[show(k:Int)+1=((k+1:Nat):Int) by omega];exact au x (k+1) (by rw[ad,ZHO,<-hk];rfl) u al ap ac.1 bq.2.2.1 bt ac.2 ay
   rw[if_neg (by rw[hh];simp)]at u ad;rw[ZH8]at ad;refine Zp (Zd (Zd ?_));refine kE [3,5,7,8,9,10,11,12] ?_;refine kl (st) [(3,.loc 3 0),(5,.loc 5 0),(7,.loc 7 0),(8,.d (.i b)),(9,.d (.i k)),(10,.d (.i i)),(11,.loc 11 0),(12,.loc 12 0)] [(3,[.str d.name,Yy d.msgs,.str d.start]),(5,[.str v.name,.i v.int,Zs v.bytes,Zx v.hdrs,ZF v.parts]),(7,[.str m.name,Zk m.fields]),(11,[.str f.name,.i f.kind,.i f.bits,.bool f.little,.bool f.loose,.i f.low,.i f.high,.i f.size.base,Yd f.size.terms,.str f.of,.str f.tag,.str f.from_,Yk f.cases,.i f.check,.i f.key]),(12,[.str (dE:Val).name,.i (dE:Val).int,Zs (dE:Val).bytes,Zx (dE:Val).hdrs,ZF (dE:Val).parts])] Ku (.skip (.skip (.skip (.skip (.cons (.cons (ZHL _) (.cons (ZHL _) (.cons (Y3 λb h=>by cases h) (.cons (Y3 λb h=>by cases h) (.cons (Y3 λb h=>by cases h) .nil))))) .nil))))) ?_;have bh:¬f.kind=3/\¬f.kind=6:=by unfold Y5 at hh;simp at hh;omega
   exact au dE k (by rw[ad];exact hk) u (λh=>absurd h bh.1) (λh=>absurd h bh.2) (by simp[show(dE:Val).hdrs=[] from rfl]) (by simp[show(dE:Val).bytes=[] from rfl]) (by simp[show(dE:Val).parts=[] from rfl]) (λy hy=>by simp[show(dE:Val).parts=[] from rfl]at hy) (λy hy=>by simp[show(dE:Val).parts=[] from rfl]at hy)
  simp at h1;obtain rfl:i=I m.fields:=ω;rw[ZIo (ZHV _)]at u;simp only[KI]at u;have a6:b.tdiv 8=b / 8:=Int.tdiv_eq_ediv_of_nonneg ω;subst u;refine rg ?_;refine⟨by decide,by rw[a6];omega,by rw[a6];omega,?_⟩;refine ri a0 ?_;rw[hS]
 exact bl _ 0 rfl 0 0 ω rfl ω ω b1
def ZkY{v x}(h:x∈v.parts):wtN x<=wtN v:=by
 have h1:=Zqp h;have h2:=ZbN v;omega
def Zi7(d)(u:DOk d)(i:I d.msgs<=1000):∀(n i0 v),i0<I d.msgs->ZW v=true->wtN v<=5000->Zk8 d n (d.msgs.getD i0 dE) v ->
  Zc ZHF 33 [.agg d.cells,.i i0,.agg v.cells] (.i (lenS d n (d.msgs.getD i0 dE) v))
 |0,_,_,_,_,_,hL=>hL.elim
 |n+1,i0,v,hi,hv,hw,hL=>by refine ZoE d u i n i0 hi v hv hw hL λx hx y hy=>?_;obtain⟨k,hk,rfl⟩:=ZH1 hx;have t:=(hL.2 k hk).2 y (by simpa[ZHU,hk]using hy);have j:=Zab t.1;rw[j.1];exact Zi7 d u i n (ixS d y.name) y j.2 (YW (YW hv hx) hy) (Nat.le_trans (Nat.le_trans (ZkY hy) (ZkY hx)) hw) t.2
def Zga(rec:Val->Int):List Val->Int
 | []=>0
 |y::r=>rec y+Zga rec r
def Ze9{rec}:∀(l b),Kn rec l b=b+8*Zga rec l
 | [],b=>by simp[Kn,Zga]
 |y::r,b=>by simp only[Kn,Zga];rw[Ze9 r];omega
def Zqc(l f rec st)(hl:I l<=5000)(hr:∀y∈l,0<=rec y/\8*rec y<=20000*(wtN y:Int))(hw:wtL l<=5000)(hf:∀y∈l,VT ZHF f [.agg y.cells] st (.i (rec y)) st):
  ZU ZHF 82 [ZF l,f] st (.i (Zga rec l)) st:=by
 refine ZK (cR 82 f82) λae F ab=>?_;clear ae;have hT:=Ja (b:=0) hr;have hTe:=Ze9 (rec:=rec) l 0;generalize af:Zga rec l=T at *;refine rg ?_;refine rx @KU ?_;refine Zb (fr (I l) (λi Q=>∀b:Int,0<=b->b<=T->b+Zga rec (l.drop i)=T->i<=I l->Q [(1,.d f),(4,.d (.i b)),(7,.d (ZF l)),(8,.d (.i (I l))),(9,.d (.i i))] [] st) (λn t=>?_) λad=>?_);intro i hn b hb0 hbT j hi;refine rg ?_;refine Zd (Zt rfl trivial (λh1=>?_) (λh1=>?_));simp at h1;have u:l.getD i dE∈l:=Zm h1;have hyr:=hr _ u;have ac:=hf _ u;have ag:=Wm (l:=l) (i:=i) h1;rw[Ww h1]at j;simp only[Zga]at j;have hP:=Ja (rec:=rec) (l:=l.drop (i+1)) (b:=0) λz hz=>hr z (List.mem_of_mem_drop hz);rw[Ze9]at hP;rw[ZHX]at ac;generalize l.getD i dE=y at *;generalize rec y=ry at *;refine xA (nd2 @atV @ag) ?_;refine rg ?_;refine cW (ac) ?_;refine aa ?_;refine gA ?_;refine Za ?_;exact t ((I l)-(i+1)) ω (i+1) rfl (b+ry) ω ω ω ω;simp at h1;obtain rfl:i=I l:=ω;rw[ZIo (ZHV _)]at j;simp only[Zga]at j;refine rg ?_;exact ab rfl φ (Zhl ω) ZHH;exact ad _ 0 rfl 0 ω ω (by rw[List.drop_zero,af];omega) ω
def ZlX(d)(y:Val)(ry zd st)(t:st zd=sO (.cells [.str d.name,Yy d.msgs,.str d.start]))(u:0<=Zr d y.name (I d.msgs))(n:Zc ZHF 41 [.agg d.cells,.agg (Zl d y.name).cells,.agg y.cells] (.i ry)):ZU ZHF 83 [.agg y.cells,.ptr zd 0] st (.i ry) st:=by
 refine ZK (cR 83 f83) λj F i=>?_;clear j;have hm:=W0 d y.name u;rw[show d.msgs.getD (ixS d y.name) dE=Zl d y.name from rfl]at hm;rw[ZHX]at n⊢;refine rg ?_;refine xA @t ?_;refine clD (hm) ?_;refine clD (n) ?_;exact i rfl φ (ZHL _) ZHH
def ZlY(d)(hd:DOk d)(n m)(hm:MOk m)(v)(hv:ZW v=true)(hw:wtN v<=5000)(hL:Zk8 d (n+1) m v)(ih:∀x∈v.parts,∀y∈x.parts,0<=Zr d y.name (I d.msgs)/\Zc ZHF 41 [.agg d.cells,.agg (Zl d y.name).cells,.agg y.cells] (.i (lenS d n (Zl d y.name) y))):
  Zc ZHF 41 [.agg d.cells,.agg m.cells,.agg v.cells] (.i (lenS d (n+1) m v)):=by
 refine Zg (cR 41 f41) λF st a7=>?_;obtain⟨bh,hX⟩:=hL;have hrec:∀x∈v.parts,I x.hdrs<=100/\∀y∈x.parts,0<=lenS d n (Zl d y.name) y/\8*lenS d n (Zl d y.name) y<=20000*(wtN y:Int):=λx hx =>
  ⟨(QU (Qf (YW hv hx))).2.2.2.1,λy hy=>Ze3 hd n _ y (hd.of _) (YW (YW hv hx) hy)⟩
 obtain⟨rec,ao⟩:∃rec:Val->Int,rec=λy=>lenS d n (Zl d y.name) y:=⟨_,rfl⟩;have hS:lenS d (n+1) m v=(KI rec m.fields v.parts 0).tdiv 8:=by rw[ao];rfl
 have ac:∀x∈v.parts,I x.hdrs<=100/\∀y∈x.parts,0<=rec y/\8*rec y<=20000*(wtN y:Int):=by rw[ao];exact hrec
 have bq:∀x∈v.parts,∀y∈x.parts,0<=Zr d y.name (I d.msgs)/\Zc ZHF 41 [.agg d.cells,.agg (Zl d y.name).cells,.agg y.cells] (.i (rec y)):=by rw[ao];exact ih
 have hT:=QX (rec:=rec) (l:=m.fields) (ps:=v.parts) (b:=0) hm.fld ω ac;have hwn:=ZbN v;have hfew:=hm.few;generalize bz:KI rec m.fields v.parts 0=T at *;clear hrec ih ao;generalize lenS d (n+1) m v=LV at *;rw[ZHX];refine rx (nd2 @eQ2 @eQ3) ?_;refine rg ?_;refine Zd (Zd ?_);refine xP 3 λzd hz=>?_;have bl:(st.upd zd (.cells [.str d.name,Yy d.msgs,.str d.start])) zd=sO (.cells [.str d.name,Yy d.msgs,.str d.start]):=ZHP _ _ _;have bf:=ZH6 (s:=st) (.cells [.str d.name,Yy d.msgs,.str d.start]) hz;generalize st.upd zd (.cells [.str d.name,Yy d.msgs,.str d.start])=S at *;refine rx @Jw ?_;refine Zb (fr (I m.fields) (λi Q=>∀(b:Int) (k:Nat),i<=I m.fields->k=(vfs (m.fields.take i)).length->0<=b->b<=T->KI rec (m.fields.drop i) (v.parts.drop k) b=T->Q [(3,.d (.ptr zd 0)),(5,.loc 5 0),(7,.d (.i b)),(8,.d (.i k)),(20,.d (Zk m.fields)),(21,.d (.i (I m.fields))),(22,.d (.i i))] [(5,[.str v.name,.i v.int,Zs v.bytes,Zx v.hdrs,ZF v.parts])] S) (λn aw=>?_) λbo=>?_)
 .intro i hn b k hi hk a9 hbT t;refine rg ?_;refine Zd (Zt rfl trivial (λh1=>?_) (λh1=>?_))
  .simp at h1;have bx:m.fields.getD i dE∈m.fields:=Zm h1;have al:=hm.fld _ bx;have bc:=λhh=>Zh0 hk h1 hh;have ah:=ZdV h1;rw[Ww h1]at t;simp only[KI]at t;generalize hf:m.fields.getD i dE=f at *;refine xA (nd2 @atF (nd2 @hf @eQ0)) ?_;refine gG ?_;refine cl (Zex f) ?_;refine jU [0,1] (λQ=>∀(x:Val) (k:Nat),k=(vfs (m.fields.take (i+1))).length->KI rec (m.fields.drop (i+1)) (v.parts.drop k) (Kn rec x.parts (QG f x b))=T->(f.kind=3->0<=x.int/\x.int<34359738368)->(f.kind=6->Kl x.hdrs=true/\Zck x.hdrs)->I x.hdrs<=100->I x.bytes<=1048576->I x.parts<=5000->wtL x.parts<=5000->(∀y∈x.parts,0<=rec y/\8*rec y<=20000*(wtN y:Int))->(∀y∈x.parts,0<=Zr d y.name (I d.msgs)/\Zc ZHF 41 [.agg d.cells,.agg (Zl d y.name).cells,.agg y.cells] (.i (rec y)))->(¬f.kind=4->¬f.kind=5->I x.bytes=0)->(f.kind<7\/f.kind=10\/f.kind=11->x.parts=[])->Q F [(3,.d (.ptr zd 0)),(5,.loc 5 0),(7,.d (.i b)),(8,.d (.i k)),(10,.loc 10 0),(11,.loc 11 0),(20,.d (Zk m.fields)),(21,.d (.i (I m.fields))),(22,.d (.i i))] [(5,[.str v.name,.i v.int,Zs v.bytes,Zx v.hdrs,ZF v.parts]),(10,[.str f.name,.i f.kind,.i f.bits,.bool f.little,.bool f.loose,.i f.low,.i f.high,.i f.size.base,Yd f.size.terms,.str f.of,.str f.tag,.str f.from_,Yk f.cases,.i f.check,.i f.key]),(11,[.str x.name,.i x.int,Zs x.bytes,Zx x.hdrs,ZF x.parts])] S) ?_ λay=>?_;clear t hk bc ah;intro x k hk t ap av bn hxb bj a8 aj aq ai ae;have hA:=ZcT (x:=x) al a9 bn;have hP:=Ja (rec:=rec) (l:=x.parts) (b:=QG f x b) aj;have bk:=Ze9 (rec:=rec) x.parts (QG f x b);have hB:=QX (rec:=rec) (l:=m.fields.drop (i+1)) (ps:=v.parts.drop k) (b:=Kn rec x.parts (QG f x b)) (λg hg=>hm.fld g (List.mem_of_mem_drop hg)) ω (λz hz=>ac z (List.mem_of_mem_drop hz));have j:=QG.eq_1 f x b;have ht:=Zqc x.parts (.fn (.func 83) [] [.ptr zd 0]) rec S bj aj a8 λy hy=>(ZlX d y (rec y) zd S bl (aq y hy).1 (aq y hy).2).VT (first:=[]) (args:=[_]) (caps:=[_]);have ad:x.parts=[]->Zga rec x.parts=0:=λh=>by rw[h];rfl
   generalize Zga rec x.parts=b0 at *;refine rx @W3 ?_;refine ctD (ht) ?_;refine aa ?_;refine jU [1,0] (λQ=>∀(c n':Int),c+8*n'=QG f x b+8*b0->0<=c->0<=n'->Q F [(3,.d (.ptr zd 0)),(5,.loc 5 0),(7,.d (.i c)),(8,.d (.i k)),(12,.d (.i n')),(20,.d (Zk m.fields)),(21,.d (.i (I m.fields))),(22,.d (.i i))] [(5,[.str v.name,.i v.int,Zs v.bytes,Zx v.hdrs,ZF v.parts])] S) ?_ λfin=>?_;clear j;intro c n' hc hc0 hn0;refine gA ?_;refine gA ?_;refine Za ?_;exact aw ((I m.fields)-(i+1)) ω (i+1) rfl (c+8*n') k ω hk ω ω (by rw[hc,<-bk];exact t);refine rx @eQ0 ?_;refine rg ?_;refine cd (λc1=>?_) (λc1=>?_);have ag:f.kind=1:=by simpa using c1
   rw[if_pos ω]at j;have:=ai ω ω;have:=ad (ae ω);refine Zp (Zt rfl trivial (λ_=>?_) (λh=>by rw[c1]at h;simp at h));refine xA @eQ0 ?_;refine Zf ?_;exact fin _ _ (by rw[j];omega) ω ω;refine rg ?_;refine cd (λc2=>?_) (λc2=>?_);have a6:f.kind=2:=by simpa using c2
   rw[if_pos ω]at j;have:=ai ω ω;have:=ad (ae ω);refine xA @eQ0 ?_;refine Zf ?_;exact fin _ _ (by rw[j];omega) ω ω;have ag:¬f.kind=1:=by simpa using c1
   have a6:¬f.kind=2:=by simpa using c2
   rw[if_neg ω]at j;refine rg ?_;refine cd (λaz=>?_) (λaz=>?_);have ab:f.kind=10:=by simpa using az
   rw[if_neg ω,if_neg ω,if_neg ω,if_neg ω,if_pos ab]at j;have:=ai ω ω;have:=ad (ae ω);have hpd:=Zm5 (al.pad ab);have hup:=ZdT a9 (show 1<=f.bits by omega);have a3:=ZmE (v:=b) (al.pad ab) ⟨ω,ω⟩;generalize upS b f.bits=u at *;refine rx @eQ0 ?_;refine cl (a3) ?_;refine gA ?_;refine Zf ?_;exact fin _ _ (by rw[j];omega) ω ω;have ab:¬f.kind=10:=by simpa using az
   refine rg ?_;refine cd (λa5=>?_) (λa5=>?_);have af:f.kind=11:=by simpa using a5
   rw[if_neg ω,if_neg ω,if_neg ω,if_neg ω,if_neg ω,if_pos af]at j;have:=ai ω ω;have:=ad (ae ω);have hcb:JG f.check=32\/JG f.check=16:=by unfold JG;split<;>simp
   have a3:=Zrt (al.chk af);generalize JG f.check=u at *;refine rx @eQ0 ?_;refine cl (a3) ?_;refine gA ?_;refine Zf ?_;exact fin _ _ (by rw[j];omega) ω ω;have af:¬f.kind=11:=by simpa using a5
   refine rg ?_;refine cd (λc3=>?_) (λc3=>?_);have au:f.kind=3:=by simpa using c3
   rw[if_pos au]at j;have:=ad (ae ω);obtain⟨hv0,hv1⟩:=ap au;obtain⟨vn,be⟩:∃vn:Nat,x.int=vn:=⟨x.int.toNat,ω⟩;rw[be,Int.toNat_natCast]at j;have bb:=ZrV (v:=vn) ω;rw[<-be]at bb;refine rg ?_;refine cl (bb) ?_;refine Zf ?_;refine kE [3,5,7,8,12,20,21,22] ?_;exact fin _ _ (by rw[j];omega) ω ω;have au:¬f.kind=3:=by simpa using c3
   rw[if_neg au]at j;refine rg ?_;refine cd (λc5=>?_) (λc5=>?_);have ak:f.kind=5:=by simpa using c5
   rw[if_neg ω,if_pos ak]at j;have:=ad (ae ω);refine gA ?_;refine Zf ?_;refine kE [3,5,7,8,12,20,21,22] ?_;exact fin _ _ (by rw[j];omega) ω ω;have ak:¬f.kind=5:=by simpa using c5
   refine rg ?_;refine cd (λc6=>?_) (λc6=>?_);have am:f.kind=6:=by simpa using c6
   rw[if_neg ω,if_neg ak,if_pos am]at j;have:=ad (ae ω);obtain⟨bw,bp⟩:=av am;have a0:=Zi1 bp;unfold ZkX at a0;rw[if_pos bw]at a0;refine rg ?_;refine cl (a0) ?_;refine rx @W3 ?_;refine Zf ?_;exact fin _ _ (by rw[j];omega) ω ω;have am:¬f.kind=6:=by simpa using c6
   have bv:QG f x b=b+8*(I x.bytes:Int):=by by_cases a4:f.kind=4;rw[j,if_pos a4];have:=ai a4 ak;rw[j,if_neg a4,if_neg ak,if_neg am,if_neg ab,if_neg af];omega
   refine Zp (Zf ?_);refine kE [3,5,7,8,12,20,21,22] ?_;exact fin _ _ (by rw[bv];omega) ω ω;refine cd (λhh=>?_) (λhh=>?_)
   .rw[if_pos hh]at t;obtain⟨ag,a6⟩:=bc hh;rw[bh]at ag;have ar:v.parts.getD k dE∈v.parts:=Zm ag;obtain⟨⟨ax,ap,av⟩,bj⟩:=hX k ag;have bg:=Wm (l:=v.parts) (i:=k) ag;have aj:=ac _ ar;have aq:=bq _ ar;have bu:=YW hv ar;have br:=QU (Qf bu);have a8:=Zqp ar;have hk40:k<=i:=by rw[hk];exact ZpO
    rw[show(v.parts.drop k).getD 0 dE=v.parts.getD k dE by simp[ZHU],List.drop_drop]at t;rw[a6]at ap av ax;rw[if_pos hh]at ah;generalize v.parts.getD k dE=x at *;have hwx:=ZbN x;have bt:I x.parts<=5000:=by
     have h2:10*I x.parts<=wtL x.parts:=by
      have h3:∀l:List Val,10*I l<=wtL l:=λl=>by
       induction l with
       |nil=>simp
       |cons a r ih3=>have:=ZbN a;simp only[wtL,ZHW];omega
      exact h3 _
     omega
    unfold W5 Zpx at ax;simp only[Bool.or_eq_false_iff,ZIl,Bool.not_eq_false',ZH0,decide_eq_true_eq,decide_eq_false_iff_not]at ax;obtain⟨⟨⟨_,hu1⟩,_⟩,hu2⟩:=ax;have hno:¬f.kind=10/\¬f.kind=11:=by unfold Y5 at hh;simp at hh;omega
    refine xA (nd2 @atV (nd2 @bg (nd2 @Ql @J2))) ?_;refine gA ?_;refine Zd ?_;rw[show(k:Int)+1=((k+1:Nat):Int) by omega];exact ay x (k+1) (by rw[ah,ZHO,<-hk];rfl) t ap av aj.1 br.2.2.1 bt ω aj.2 aq (λh4 h5=>by omega) (λh=>List.eq_nil_of_length_eq_zero ω)
   rw[if_neg (by rw[hh];simp)]at t ah;rw[ZH8]at ah;refine Zp (Zd ?_);refine kE [3,5,7,8,10,11,20,21,22] ?_;refine kl (S) [(3,.d (.ptr zd 0)),(5,.loc 5 0),(7,.d (.i b)),(8,.d (.i k)),(10,.loc 10 0),(11,.loc 11 0),(20,.d (Zk m.fields)),(21,.d (.i (I m.fields))),(22,.d (.i i))] [(5,[.str v.name,.i v.int,Zs v.bytes,Zx v.hdrs,ZF v.parts]),(10,[.str f.name,.i f.kind,.i f.bits,.bool f.little,.bool f.loose,.i f.low,.i f.high,.i f.size.base,Yd f.size.terms,.str f.of,.str f.tag,.str f.from_,Yk f.cases,.i f.check,.i f.key]),(11,[.str (dE:Val).name,.i (dE:Val).int,Zs (dE:Val).bytes,Zx (dE:Val).hdrs,ZF (dE:Val).parts])] Ku (.skip (.skip (.cons (.cons (ZHL _) (.cons (ZHL _) (.cons (Y3 λb h=>by cases h) (.cons (Y3 λb h=>by cases h) (.cons (Y3 λb h=>by cases h) .nil))))) .nil))) ?_;have bi:¬f.kind=3/\¬f.kind=6:=by unfold Y5 at hh;simp at hh;omega
   exact ay dE k (by rw[ah];exact hk) t (λh=>absurd h bi.1) (λh=>absurd h bi.2) (by simp[show(dE:Val).hdrs=[] from rfl]) (by simp[show(dE:Val).bytes=[] from rfl]) (by simp[show(dE:Val).parts=[] from rfl]) (by simp[show(dE:Val).parts=[] from rfl,wtL]) (λy hy=>by simp[show(dE:Val).parts=[] from rfl]at hy) (λy hy=>by simp[show(dE:Val).parts=[] from rfl]at hy) (λ_ _=>rfl) (λ_=>rfl)
  simp at h1;obtain rfl:i=I m.fields:=ω;rw[ZIo (ZHV _)]at t;simp only[KI]at t;have ba:b.tdiv 8=b / 8:=Int.tdiv_eq_ediv_of_nonneg ω;subst t;refine rg ?_;refine⟨by decide,by rw[ba];omega,by rw[ba];omega,?_⟩;exact a7 rfl φ (Zhl hS.symm) bf
 exact bo _ 0 rfl 0 0 ω rfl ω ω bz
end Go.DL
