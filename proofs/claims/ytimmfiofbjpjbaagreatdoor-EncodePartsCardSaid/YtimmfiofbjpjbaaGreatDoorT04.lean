/- Lemmas: S23, A04, A05, U03, U04, U05, W04, W05, W06, W07, W08, Z10, Z11, Z12, Z13, W09, W10, W11, W12, X03, W13, SLay3, W14, W15, W16, W17, W18, W19, W20, W21, W22, W23, W24, W25, W26, W27, W28, W29, W30, W31, W33, W34, W35, W36, W37, X04, X05, W38, W39, W40, W41, W42, W43, W44, W45, W46. -/
import Derived.Test.YtimmfiofbjpjbaaGreatDoorT03
set_option maxHeartbeats 16000000
set_option maxRecDepth 100000
set_option linter.all false
open List renaming length->I
open Option renaming some -> sO, none -> nO
open Inhabited renaming default -> dE
open Decidable renaming decide -> dC
open Go.Proofs.Tryz
open And renaming intro -> ZHy
open Bool renaming and_eq_true -> ZHG, false_and -> ZH8, false_eq_true -> ZH5, or_eq_true -> ZHT, true_and -> ZHX
open Go.DL.D.Le renaming refl -> ZHx
open Go.DL.St renaming single -> ZH1, sub_refl -> ZHw, sub_trans -> ZIe, sub_upd -> ZHV, upd -> ZH7, upd_ne -> ZHD, upd_same -> ZHB, upd_upd -> ZHO
open Go.DL.Val renaming cells_eq -> ZHZ
open Go.Proofs.Tryz renaming prog -> ZHv
open Int renaming reduceEq -> ZId, reduceToNat -> ZHC
open List renaming append_assoc -> ZHY, append_nil -> ZH3, getD -> ZHL, getElem?_append_left -> ZHW, getElem?_append_right -> ZIf, getElem?_eq_getElem -> ZH6, getElem?_eq_none -> ZIi, getElem_of_mem -> ZHR, length_append -> ZHF, length_cons -> ZHN, length_drop -> ZH9, length_map -> ZHS, length_take -> ZHQ, mem_cons -> ZIa, range -> ZHJ, take_length -> ZH0
open Nat renaming le_refl -> ZHK, le_trans -> ZIg, reduceAdd -> ZHE, reduceEqDiff -> ZHz, reduceLeDiff -> ZHA
open Option renaming getD_some -> ZIc
open Option.some renaming injEq -> ZHu
namespace Go.DL
open Go Go.Proofs
variable {kp:Option (List Nat)}{L:Loc}{H:Env}{s:St}{w:World}{os:List DOp}{ds:List D}{B:List (Nat × Rd)}{dst:Option Nat}{tmps:Array Value}{g:G}{Φ:Res->St->Prop}{Z:Nat->Nat}{xs:List Opd}{side:Prop}{row:Nat->List D}
def ZvZ{f}(t:Jh f=true):dC (Ze2 f=ZeM f.name f.kind)=Zlu f:=by
 unfold Jh at t;simp only[ZHG,decide_eq_true_eq]at t;have i:f.kind=1\/f.kind=2\/f.kind=3\/f.kind=4\/f.kind=5\/f.kind=6\/f.kind=7\/f.kind=8\/f.kind=9\/f.kind=10\/f.kind=11\/f.kind=12:=ω;obtain⟨name,kind,bits,little,loose,low,high,size,of,tag,from_,cases_,check,key⟩:=f;obtain⟨base,terms⟩:=size;simp only at i;clear t;rw[Bool.eq_iff_iff];rcases i with h|h|h|h|h|h|h|h|h|h|h|h<;>subst h<;>simp[Ze2,ZsA,ZsB,ZsC,ZnD,ZsD,ZsE,ZnE,ZsF,ZnF,Zpo,Zpp,Zk1,ZeM,Zlu,zrA,zrB,zrC,ZoV,ZwZ,Zct]<;>(try(constructor<;>(intro h;simp_all)))<;>(try(intro _;simp only[and_assoc]))
def Zp8(lo hi a b):Ys lo hi [a,b]=!(dC (a<lo) ||(dC (b<a) ||decide (hi<b))):=by
 rw[Bool.eq_iff_iff];simp[Ys];omega
def ZAU(f):Zdl f=!ZcU f:=by
 rw[Bool.eq_iff_iff];unfold Zdl ZcU;cases f.little<;>simp;by_cases i:0<=f.bits;rw[Int.tmod_eq_emod_of_nonneg i];omega;omega
def Zgy{α p}{l:List α}{x:α}:Zj p (l++[x])=if 0<=Zj p l then Zj p l else if p x then (I l) else -1:=by
 induction l with
 |nil=>simp[Zj]
 |cons y r ih =>have h1:=ZaK p r;simp only[List.cons_append,Zj,ih,ZHN];split;simp;by_cases h:0<=Zj p r;simp[h,show ¬Zj p r<0 by omega,show 0<=Zj p r+1 by omega];simp only[h,if_false,show Zj p r<0 by omega,if_true];by_cases i:p x=true;simp[i,show ¬((I r:Int)<0) by omega];simp[i]
def Zi5(fs:List Fld)(n:Nat):Prop:=∀i,i<n->Zj (λx=>dC (x.name=(fs.getD i dE).name)) (fs.take i)<0
def Zat{α}(p:α->Bool)(l:List α)(h:0<=Zj p l):(Zj p l).toNat<I l:=by
 have:=WC p l;omega
def ZtG{fs n}(hn:n<=I fs)(hd:Zi5 fs n)(k):Zp k (JN fs n)=WB (fs.take n) k:=by
 induction n with
 |zero=>simp[JN,Zp,WB,Zj]
 |succ n ih =>
  have ih:=ih ω λi hi=>hd i ω;have u:=hd n ω;rw[Yi (show n<I fs by omega)];have t:(fs.take n).length=n:=by simp;omega
  simp only[JN];generalize fs.getD n dE=f at *;unfold WB;rw[Zgy];by_cases hk:f.name=k;rw[hk]at u;rw[if_neg (show ¬0<=Zj (λf=>dC (f.name=k)) (fs.take n) by omega)];simp only[hk,decide_true,if_true,t,show ¬((n:Int)<0) by omega,if_false];have hg:(fs.take n++[f]).getD ((n:Int)).toNat dE=f:=by simp[ZHL,List.getElem?_append,t]
  rw[hg];split;rw[WU,if_pos rfl];rw[ih];unfold WB;rw[if_pos u];have ab:¬k=f.name:=λh=>hk h.symm;have h0:Zp k (if YE f=true then YN f.name (KD f) (JN fs n) else JN fs n)=Zp k (JN fs n):=by split;rw[WU,if_neg ab];rfl
  rw[h0,ih];unfold WB;simp only[hk,decide_false,ZH5,if_false];by_cases hp:0<=Zj (λf=>dC (f.name=k)) (fs.take n);have hl:=Zat _ _ hp;rw[if_pos hp];have hg:(fs.take n++[f]).getD (Zj (λf=>dC (f.name=k)) (fs.take n)).toNat dE=(fs.take n).getD (Zj (λf=>dC (f.name=k)) (fs.take n)).toNat dE:=by simp[ZHL,ZHW hl]
  rw[hg];rw[if_neg hp,if_pos ω,if_pos ω]
structure Zb9(d:Dfn)(a:Nat)(deps:List Int)(dl:List (Str×Int))(sl:List (Str×Bool)):Prop where
 len:I deps=a
 dep:∀s,Zp s dl=if Zq d s a<0 then none else some (deps.getD (Zq d s a).toNat default)
 str:∀s,Zp s sl=if Zq d s a<0 then none else some ((KH d a).getD (Zq d s a).toNat default)
def Zb9.has{d a deps dl sl}(h:Zb9 d a deps dl sl)(s):(Zp s dl).isSome=!dC (Zq d s a<0):=by
 rw[h.dep];split<;>simp_all
def Zb9.strict{d a deps dl sl}(h:Zb9 d a deps dl sl)(s):(Zp s sl).getD false=(!dC (Zq d s a<0)&&(KH d a).getD (Zq d s a).toNat dE):=by
 rw[h.str];split<;>simp_all
def ZCL{f}(hk:f.kind=1\/f.kind=2):(if f.kind=1 then ck1 f else ck2 f)=dC (JJ f=0):=by
 unfold ck1 ck2 JJ Ztj Znd;rw[ZAU,Zp8];cases hb:ZcU f
 .have hp:(0:Int)<2 ^ f.bits.toNat:=by have:=Nat.two_pow_pos f.bits.toNat;rw[show(2:Int) ^ f.bits.toNat=((2 ^ f.bits.toNat:Nat):Int) from(Int.natCast_pow 2 f.bits.toNat).symm];omega
  generalize (2:Int) ^ f.bits.toNat=pw at *;rcases hk with hk|hk<;>rw[Bool.eq_iff_iff]<;>simp[hk,Ys]<;>(try split)<;>(try omega);all_goals (try simp_all)<;>omega
 simp
def Znb{fs}(u:Zi5 fs (I fs)){s}:Zfu fs s=dC (ZdQ fs s=0):=by
 have i:(λk=>Zp k (QD fs))=WB fs:=by funext k;have:=ZtG (ZHK _) u k;rw[ZH0]at this;exact this
 unfold Zfu ZdQ ivP;rw[i];have hk:s.terms.all (Zcv fs)=!s.terms.any (JH (WB fs)):=by
  rw[List.not_any_eq_all_not]
  congr 1;funext t
  have:Zp t.field (QD fs)=WB fs t.field:=congrFun i _;unfold Zcv JH;rw[this];simp
 rw[hk];cases Z6 s;simp;cases s.terms.any (JH (WB fs));simp only[ZHX,Bool.not_false,ZH5,if_false,Bool.true_eq_false];rw[Bool.eq_iff_iff];simp;omega;simp
def Zzb{d a deps dl sl}(h:Zb9 d a deps dl sl)(hi lo l):Zch dl hi lo l=dC (ZeW d a hi lo l=0):=by
 induction l generalizing lo with
 |nil=>simp[Zch,ZeW]
 |cons c r ih =>simp only[Zch,ZeW,Zp8,h.has,ih];rcases Bool.eq_false_or_eq_true (dC (c.low<lo) ||(dC (c.high<c.low) ||decide (hi<c.high))) with hb|hb<;>simp only[hb];simp;simp only[Bool.not_false,ZHX,ZH5,if_false];by_cases i:Zq d c.of a<0<;>simp[i]
def Zzq{i}(u:Zi5 i (I i))(k):(Zp k (QD i)).isSome=(!dC (Zj (λf=>dC (f.name=k)) i<0)&&YE (i.getD (Zj (λf=>dC (f.name=k)) i).toNat dE)) /\
  ((Zp k (QD i)).isSome=true->(Zp k (QD i)).getD (0,0)=KD (i.getD (Zj (λf=>dC (f.name=k)) i).toNat dE)):=by
 have:=ZtG (ZHK _) u k;rw[ZH0]at this;rw[this];unfold WB;split;rename_i h;simp[h];rename_i h;split;rename_i t;simp only[h,t];simp;rename_i t;simp only[h,t];simp
def ZzQ{d a deps dl sl}(h:Zb9 d a deps dl sl){m i}(hi:i<I m.fields)(hd:Zi5 m.fields i){f}(hk:Jh f=true):
  ZeY (m.fields.take i) dl sl f=dC (QS d a m i f=0):=by
 have ag:(m.fields.take i).length=i:=by simp;omega
 have u:Zi5 (m.fields.take i) (m.fields.take i).length:=λj hj=>by rw[ag]at hj;rw[Q0 ω,List.take_take,Nat.min_eq_left ω];exact hd j hj
 unfold Jh at hk;simp only[ZHG,decide_eq_true_eq]at hk;have aj:f.kind=1\/f.kind=2\/f.kind=3\/f.kind=4\/f.kind=5\/f.kind=6\/f.kind=7\/f.kind=8\/f.kind=9\/f.kind=10\/f.kind=11\/f.kind=12:=ω;have hn:=ZCL (f:=f);unfold ZeY QS;rcases aj with h1|h1|h1|h1|h1|h1|h1|h1|h1|h1|h1|h1<;>simp only[h1,ZId,if_true,if_false,true_or,or_true,or_self,forall_const,false_implies]at hn⊢;exact hn;exact hn;unfold ck3;rw[Zp8,ZrU];by_cases hA:0<=f.low/\f.low<=f.high/\f.high<34359738368;simp[hA];omega;rw[Bool.eq_iff_iff];simp;omega;exact Znb u;unfold ck5;rw[Bool.eq_iff_iff];simp[Ys]<;>omega;unfold ck6;rw[Bool.eq_iff_iff];simp[Ys]<;>omega;unfold ck7;rw[h.has,Znb u];by_cases h2:Zq d f.of a<0<;>simp[h2];unfold ck8;rw[h.has];by_cases h2:Zq d f.of a<0<;>simp[h2];have ht:=Zzq u f.tag;unfold Zjd Zjn Zsr;rw[Zzb h];have ad:KO m f.tag i=Zj (λf'=>dC (f'.name=f.tag)) (m.fields.take i):=rfl;rw[ad];have ak:Zvv m f.tag i=ZfB (m.fields.take i) f:=rfl;rw[ak];generalize hz:Zj (λf'=>dC (f'.name=f.tag)) (m.fields.take i)=z at *;by_cases af:z<0;simp[ht.1,af];have ai:=Zat (λf':Fld=>dC (f'.name=f.tag)) (m.fields.take i) ω;rw[hz,ag]at ai;have hg:(m.fields.take i).getD z.toNat dE=m.fields.getD z.toNat dE:=Q0 ai;rw[hg]at ht;by_cases t:YE (m.fields.getD z.toNat dE)=true;have hs:(Zp f.tag (QD (m.fields.take i))).isSome=true:=by rw[ht.1,t];simp[af]
 rw[ht.2 hs,hs,t];cases ZfB (m.fields.take i) f;simp only[af,decide_false,Bool.not_true,Bool.or_self,Bool.not_false,ZHX,ZH5,if_false,Bool.false_or];by_cases hl:1<=I f.cases/\I f.cases<=40;have ab:(dC (1<=(I f.cases:Int))&&dC ((I f.cases:Int)<=40))=true:=by simp only[ZHG,decide_eq_true_eq];omega
 have ac:(dC (I f.cases<1) ||decide (40<I f.cases))=false:=by simp only[Bool.or_eq_false_iff,decide_eq_false_iff_not];omega
 rw[ab,ac];simp;have ab:(dC (1<=(I f.cases:Int))&&dC ((I f.cases:Int)<=40))=false:=by simp only[Bool.and_eq_false_iff,decide_eq_false_iff_not];omega
 have ac:(dC (I f.cases<1) ||decide (40<I f.cases))=true:=by simp only[ZHT,decide_eq_true_eq];omega
 rw[ab,ac];simp;simp;have ae:YE (m.fields.getD z.toNat dE)=false:=by simpa using t
 rw[ht.1,ae];simp;unfold ZvU Zol;rw[Bool.eq_iff_iff];generalize f.bits=b;by_cases h0:0<=b;rw[Int.tmod_eq_emod_of_nonneg h0];simp;omega;simp;omega;unfold ZvV;have ad:KO m f.from_ i=Zj (λf'=>dC (f'.name=f.from_)) (m.fields.take i):=rfl;rw[ad];rw[Bool.eq_iff_iff];simp[Ys];generalize Zj (λf'=>dC (f'.name=f.from_)) (m.fields.take i)=z;split;simp;omega;split<;>simp<;>omega;unfold ZvW Zp6;rw[h.strict,Znb u];by_cases ah:f.key<0\/4294967295<f.key;rw[if_pos (by simpa using ah)];simp[Ys];omega;rw[if_neg (by simpa using ah)];have:Ys 0 4294967295 [f.key]=true:=by simp[Ys];omega
 rw[this];by_cases h2:Zq d f.of a<0;simp[h2];simp only[h2,decide_false,Bool.not_false,ZHX,Bool.false_or];cases(KH d a).getD (Zq d f.of a).toNat dE<;>simp
def Zzu{d a deps dl sl}(h:Zb9 d a deps dl sl){m i}(hi:i<I m.fields)(hd:Zi5 m.fields i)(f):
  QP (m.fields.take i) dl sl f=dC (Qk d a m i f=0):=by
 unfold QP Qk;rw[show Zj (λx=>dC (x.name=f.name)) (m.fields.take i)=KO m f.name i from rfl];cases Y8 f.name;simp;by_cases h1:0<=KO m f.name i;simp[h1];by_cases hk:Jh f=true;have t:(dC (f.kind<1) ||decide (12<f.kind))=false:=by unfold Jh at hk;simp only[ZHG,decide_eq_true_eq]at hk;simp only[Bool.or_eq_false_iff,decide_eq_false_iff_not];omega
 rw[ZvZ hk,ZzQ h hi hd hk,hk,t];cases Zlu f<;>simp[h1];have u:Jh f=false:=by simpa using hk
 have t:(dC (f.kind<1) ||decide (12<f.kind))=true:=by unfold Jh at hk;simp only[ZHG,decide_eq_true_eq]at hk;simp only[ZHT,decide_eq_true_eq];omega
 rw[u,t];simp[h1]
def Zpw{d a m}(j){l l'}(h:YO d a m j l=nO):YO d a m j (l++l')=YO d a m (j+I l) l':=by
 induction l generalizing j with
 |nil=>rfl
 |cons f r ih =>
  simp only[YO]at h;split at h;rename_i i;simp only[List.cons_append,YO,i,if_true,ZHN];rw[ih _ h]
  congr 1;omega
  simp at h
def ZxH{d a deps dl sl}(h:Zb9 d a deps dl sl){m}(n)(hn:n<=I m.fields):
  (QJ dl sl m n=true↔YO d a m 0 (m.fields.take n)=nO)/\(QJ dl sl m n=true->Zi5 m.fields n):=by
 induction n with
 |zero=>simp[QJ,YO,Zi5]
 |succ n ih =>
  have ih:=ih ω;rw[Zjy,Yi (show n<I m.fields by omega),ZHG];have i:(m.fields.take n).length=n:=by simp;omega
  by_cases hp:QJ dl sl m n=true;have hf:=ih.1.1 hp;have hd:=ih.2 hp;rw[Zpw _ hf,Zzu h (show n<I m.fields by omega) hd,i,Nat.zero_add];simp only[YO];refine⟨?_,λhh=>?_⟩;simp only[hp,true_and,decide_eq_true_eq];split<;>simp_all;have hz:Qk d a m n (m.fields.getD n dE)=0:=by simpa using hh.2
  intro j hj;by_cases t:j<n;exact hd j t;obtain rfl:j=n:=ω;unfold Qk at hz;split at hz;· omega
  split at hz;· omega
  rename_i h2;unfold KO at h2;omega;refine⟨?_,λhh=>absurd hh.1 hp⟩;constructor;intro hh;exact absurd hh.1 hp;intro hh;exfalso;apply hp;refine ih.1.2 ?_;have u:∀(j:Nat) (l l':List Fld),YO d a m j (l++l')=nO->YO d a m j l=nO:=by
   intro j l l';induction l generalizing j with
   |nil=>intro _;rfl
   |cons f r ih2 =>simp only[List.cons_append,YO];split;exact ih2 _;simp
  exact u _ _ _ hh
def Zn4{α:Type}{l:List α}{p q:α->Int}(h:∀s∈l,p s=q s)(b):l.foldl (λa s=>max a (p s)) b=l.foldl (λa s=>max a (q s)) b:=by
 induction l generalizing b with
 |nil=>rfl
 |cons x r ih =>simp only[List.foldl_cons,h x ψ];exact ih (λs i=>h s (by simp[i])) _
def ZvP{α:Type}{p q}{l:List α}(h:∀x∈l,p x=q x):l.all p=l.all q:=by
 induction l with
 |nil=>rfl
 |cons x r ih=>simp only[List.all_cons,h x ψ,ih λy i=>h y (by simp[i])]
def ZCH{d a deps dl sl}(h:Zb9 d a deps dl sl){m}(hm:d.msgs.getD a dE=m):
  (Zd1 dl sl m=true↔W1 d a m=nO/\Ze4 d a deps m<=16)/\(W1 d a m=nO->Kg dl m+1=Ze4 d a deps m/\Jy sl m=Zfz d m (KH d a)):=by
 have hf:=ZxH h (m:=m) (I m.fields) (ZHK _);rw[ZH0]at hf;have h2:W1 d a m=nO->Kg dl m+1=Ze4 d a deps m/\Jy sl m=Zfz d m (KH d a):=λhh=>by
  have u:=(ZAi hm hh).ref;rw[hm]at u;constructor;unfold Kg Ze4 Zxu
  congr 1
  refine Zn4 (λs hs=>?_) _;have:=u s hs;rw[h.dep,if_neg ω];rfl;unfold Jy Zfz
  congr 1
  refine ZvP λs hs=>?_;have:=u s hs;rw[h.strict,ZcL];simp[show ¬Zq d s a<0 by omega]
 refine⟨?_,h2⟩;unfold Zd1;rw[h.has];by_cases hn:Y8 m.name=true;by_cases hd:Zq d m.name a<0;by_cases hl:1<=I m.fields/\I m.fields<=40;have i:(dC (1<=(I m.fields:Int))&&dC ((I m.fields:Int)<=40))=true:=by simp only[ZHG,decide_eq_true_eq];omega
 have t:(dC (I m.fields<1) ||decide (40<I m.fields))=false:=by simp only[Bool.or_eq_false_iff,decide_eq_false_iff_not];omega
 have ab:W1 d a m=YO d a m 0 m.fields:=by unfold W1;rw[if_neg (by simp[hn]),if_neg ω,t];rfl
 rw[ab]at h2⊢;rw[i,hn];simp only[hd,decide_true,Bool.not_true,Bool.not_false,ZHX,ZHG,decide_eq_true_eq,hf.1];constructor;rintro⟨h3,h4⟩;have:=(h2 h3).1;exact⟨h3,ω⟩;rintro⟨h3,h4⟩;have:=(h2 h3).1;exact⟨h3,ω⟩;have i:(dC (1<=(I m.fields:Int))&&dC ((I m.fields:Int)<=40))=false:=by simp only[Bool.and_eq_false_iff,decide_eq_false_iff_not];omega
 have t:(dC (I m.fields<1) ||decide (40<I m.fields))=true:=by simp only[ZHT,decide_eq_true_eq];omega
 unfold W1;rw[i,t,if_neg (by simp[hn]),if_neg ω];simp;unfold W1;rw[if_neg (by simp[hn]),if_pos ω];simp[hd];have ac:Y8 m.name=false:=by simpa using hn
 unfold W1;rw[ac];simp
def ZnU{d a m}(i:a<I d.msgs)(hm:d.msgs.getD a dE=m)(s):Zq d s (a+1)=if 0<=Zq d s a then Zq d s a else if m.name=s then (a:Int) else -1:=by
 unfold Zq;rw[Yi i,hm,Zgy];have:(d.msgs.take a).length=a:=by simp;omega
 rw[this];simp
def ZjE{α:Type}[Inhabited α]{l}{a:Nat}{v:α}(h:I l=a):(l++[v]).getD a dE=v:=by subst h;simp[ZHL]
def ZjF{α:Type}[Inhabited α]{l}{a:Nat}{v:α}(h:a<I l):(l++[v]).getD a dE=l.getD a dE:=by simp[ZHL,ZHW h]
def Zb9.step{d:Dfn}{a:Nat}{deps:List Int}{dl:List (Str×Int)}{sl:List (Str×Bool)}(h:Zb9 d a deps dl sl){m:Msg}(ha:a<I d.msgs)(hm:d.msgs.getD a dE=m)(hnew:Zq d m.name a<0)(v:Int):
  Zb9 d (a+1) (deps++[v]) (YN m.name v dl) (YN m.name (Zfz d m (KH d a)) sl):={
 len:=by simp[h.len]
 dep s:=by
  rw[WU,ZnU ha hm,h.dep];by_cases u:s=m.name;subst u;rw[if_pos rfl,if_neg (show ¬0<=Zq d m.name a by omega),if_pos rfl,if_neg ω];rw[show((a:Int)).toNat=a from rfl,ZjE h.len];rw[if_neg u];by_cases t:0<=Zq d s a;have i:(Zq d s a).toNat<I deps:=by
   have:=Zat _ _ t;rw[h.len];have h3:(d.msgs.take a).length<=a:=by simp;omega
   unfold Zq;omega
  rw[if_pos t,if_neg ω,if_neg ω,ZjF i];rw[if_neg t,if_neg (show ¬m.name=s from λe=>u e.symm),if_pos ω,if_pos ω]
 str s:=by
  rw[WU,ZnU ha hm,h.str];simp only[KH,hm];by_cases u:s=m.name;subst u;rw[if_pos rfl,if_neg (show ¬0<=Zq d m.name a by omega),if_pos rfl,if_neg ω];rw[show((a:Int)).toNat=a from rfl,ZjE (ZcL d a)];rw[if_neg u];by_cases t:0<=Zq d s a;have i:(Zq d s a).toNat<(KH d a).length:=by
   have:=Zat _ _ t;rw[ZcL];have h3:(d.msgs.take a).length<=a:=by simp;omega
   unfold Zq;omega
  rw[if_pos t,if_neg ω,if_neg ω,ZjF i];rw[if_neg t,if_neg (show ¬m.name=s from λe=>u e.symm),if_pos ω,if_pos ω] }
def ZCZ{d}(n):∀{a deps dl sl},Zb9 d a deps dl sl->a+n=I d.msgs ->
  ((ZcF dl sl (d.msgs.drop a)).elim false λp=>(Zp d.start p.1).isSome)=(JR d a (d.msgs.drop a) deps).isNone:=by
 induction n with
 |zero =>intro a deps dl sl h ha;obtain rfl:a=I d.msgs:=ω;rw[List.drop_length];simp only[ZcF,JR,Option.elim,h.has];by_cases hs:Zq d d.start (I d.msgs)<0<;>simp[hs]
 |succ n ih =>
  intro a deps dl sl h ha;have t:a<I d.msgs:=ω;rw[Wp t];generalize hm:d.msgs.getD a dE=m;have he:=ZCH h hm;simp only[ZcF,JR];by_cases hp:Zd1 dl sl m=true;obtain⟨u,h2⟩:=he.1.1 hp;obtain⟨h3,h4⟩:=he.2 u;rw[if_pos hp,u];simp only;rw[if_neg ω,h3,h4];refine ih (h.step t hm ?_ _) ω;unfold W1 at u;split at u;· simp at u
  split at u;· simp at u
  omega;rw[if_neg hp];cases u:W1 d a m with
  |some x=>obtain⟨i,c⟩:=x;rfl
  |none =>have:¬Ze4 d a deps m<=16:=λh2=>hp (he.1.2 ⟨u,h2⟩);simp only;rw[if_pos ω];rfl
def ZtA(d):ZdL d=ZfE d:=by
 unfold ZdL ZfE Zsw;cases hn:Y8 d.name;rfl;by_cases hl:1<=I d.msgs/\I d.msgs<=60;have i:(dC (1<=(I d.msgs:Int))&&dC ((I d.msgs:Int)<=60))=true:=by simp only[ZHG,decide_eq_true_eq];omega
 have t:(dC (I d.msgs<1) ||decide (60<I d.msgs))=false:=by simp only[Bool.or_eq_false_iff,decide_eq_false_iff_not];omega
 rw[i,t];simp only[ZHX,Bool.true_eq_false,ZH5,if_false];have u:Zb9 d 0 [] [] []:=⟨rfl,λs=>by simp[Zp,Zq,Zj],λs=>by simp[Zp,Zq,Zj]⟩;have:=ZCZ (I d.msgs) u ω;rw[List.drop_zero]at this;exact this;have i:(dC (1<=(I d.msgs:Int))&&dC ((I d.msgs:Int)<=60))=false:=by simp only[Bool.and_eq_false_iff,decide_eq_false_iff_not];omega
 have t:(dC (I d.msgs<1) ||decide (60<I d.msgs))=true:=by simp only[ZHT,decide_eq_true_eq];omega
 rw[i,t];rfl
def Zsh{st b c0 c1 v0 v1}(hb:st b=sO (.cells [c0,c1]))(h0:VT ZHv c0 [] st (.bool v0) st)(h1:VT ZHv c1 [] st (.bool v1) st):
  ZL ZHv 214 [.msl b 0 2 2 1,.fn (.func 173) [] []] st (.i (if v0 then (if v1 then -1 else 1) else 0)) st:=by
 refine ZE (cR 214 f214) λu F i=>?_;clear u;have g0:=(ZeU h0).VT (first:=[]) (args:=[c0]) (caps:=[]);have g1:=(ZeU h1).VT (first:=[]) (args:=[c1]) (caps:=[]);refine gG ?_;refine Zd (ZaA ?_);refine rg ?_;refine i1 ?_;refine rg ?_;refine xA @hb ?_;refine cW (g0) ?_;refine cd (λhc=>?_) (λhc=>?_);have hv:v0=false:=by cases v0<;>simp_all
 rw[hv]at i;refine rg ?_;exact i rfl φ (ZHx _) ZHw;have hv:v0=true:=by cases v0<;>simp_all
 rw[hv]at i;refine gA ?_;rw[show(0:Int)+1=1 from rfl];refine Ze ?_;refine rg ?_;refine i1 ?_;refine rg ?_;refine xA @hb ?_;refine cW (g1) ?_;refine cd (λhd=>?_) (λhd=>?_);have t:v1=false:=by cases v1<;>simp_all
 rw[t]at i;refine rg ?_;exact i rfl φ (ZHx _) ZHw;have t:v1=true:=by cases v1<;>simp_all
 rw[t]at i;refine gA ?_;rw[show(1:Int)+1=2 from rfl];refine Ze ?_;refine rg ?_;refine iG ?_;exact i rfl φ (ZHx _) ZHw
def Zrc{st b c0 c1 u v1}(hb:st b=sO (.cells [c0,c1]))(h0:VT ZHv c0 [] st (.bool u) st)(h1:VT ZHv c1 [] st (.bool v1) st):
  ZL ZHv 172 [.msl b 0 2 2 1,.fn (.func 173) [] []] st (.bool (!u||!v1)) st:=by
 refine ZE (cR 172 f172) λt F i=>?_;clear t;refine gG ?_;refine ct (Zsh hb h0 h1) ?_;exact i rfl φ (by cases u<;>cases v1<;>exact ZHx _) ZHw
def Zfb{L s}(l):qv L s .lenL [.d (Zr l)]=sO (True,.d (.i (I l))):=rfl
def atF{L s}(l i):qv L s (.iaddr 15) [.d (Zr l),.d (.i i)]=sO (0<=i/\i<I l,.d (.ep (l.getD i.toNat dE).cells 0)):=rfl
def ZaM(f:Fld):I f.cells=15:=rfl
def Zd9(f:Fld):List.take 15 f.cells=f.cells:=rfl
def Zg5(l)(hl:I l<=1000)(hb:∀f∈l,ZgZ f)(i:Nat)(hi:i<=I l){st:St}:ZL ZHv 122 [Zr l,.i i,.i (Kt l i)] st (.bool (Qq l i)) st:=by
 refine ZE (cR 122 f122) λag F t=>?_;clear ag;have hW:=Qq.eq_1 l i;refine rx (nd2 @okF @ceF) ?_;refine rx @Zfb ?_;refine cd (λhc=>?_) (λhc=>?_);have u:i=I l:=by simp at hc;omega
 rw[if_pos u]at hW;refine rg ?_;exact t rfl φ (by rw[hW];exact ZHx _) ZHw;have u:i<I l:=by simp at hc;omega
 rw[if_neg ω]at hW;generalize hg:l.getD i dE=g at *;refine xA (nd2 @atF (nd2 @hg (nd2 @ZaM @Zd9))) ?_;refine Zc ?_;refine xP 3 λz3 h3=>?_;refine xP 5 λz5 h5=>?_;refine xP 7 λz7 h7=>?_;refine rg ?_;refine Zc ?_;refine xP 8 λz8 h8=>?_;have k5:=Zo h5;have k7:=Zo h7;have ah:=Zo k7.2;have k8:=Zo h8;have ad:=Zo k8.2;have ai:=Zo ad.2;obtain⟨A,hA⟩:∃A,A=((((st.upd z3 (.cells [Zr l])).upd z5 (.cells [.i (Kt l i)])).upd z7 (.cells g.cells)).upd z8 (.cells [.fn (.func 167) [] [.ptr z5 0,.ptr z7 0],.fn (.func 169) [] [.ptr z3 0,.ptr z7 0]])):=⟨_,rfl⟩;have g3:A z3=sO (.cells [Zr l]):=by rw[hA,ZHD _ _ ai.1.symm,ZHD _ _ ah.1.symm,ZHD _ _ k5.1.symm];exact ZHB _ _ _
 have g5:A z5=sO (.cells [.i (Kt l i)]):=by rw[hA,ZHD _ _ ad.1.symm,ZHD _ _ k7.1.symm];exact ZHB _ _ _
 have g7:A z7=sO (.cells g.cells):=by rw[hA,ZHD _ _ k8.1.symm];exact ZHB _ _ _
 have g8:A z8=sO (.cells [.fn (.func 167) [] [.ptr z5 0,.ptr z7 0],.fn (.func 169) [] [.ptr z3 0,.ptr z7 0]]):=by rw[hA];exact ZHB _ _ _
 have ac:st.sub A:=by rw[hA];exact ZIe (ZHV _ h3) (ZIe (ZHV _ h5) (ZIe (ZHV _ h7) (ZHV _ h8)))
 have ae:=(Zmw g5 g7).VT (first:=[]) (args:=[]) (caps:=[_,_]);have af:=(Zmx hl hb g3 g7 ω).VT (first:=[]) (args:=[]) (caps:=[_,_]);have ab:=Zrc g8 ae af;rw[<-hA];clear hA;refine rg ?_;refine⟨by decide,by decide,by decide,by decide,by unfold big;decide,?_⟩;rw[show(if ((2:Nat):Int)=0 then 0 else 0*1)=(0:Nat) from rfl];refine ct (ab) ?_;exact t rfl φ (by rw[hW];exact ZHx _) ac
def Zyb{x z o}(t:s x=nO)(h:(s.or (ZH1 x o)) z=nO):z≠x/\s z=nO:=by
 refine⟨λe=>by subst e;rw[ZF t,Yl]at h;simp at h,?_⟩;cases i:s z with
 |none=>rfl
 |some o=>rw[Zt i]at h;simp at h
def Mk(A:St):List Nat->St->Prop
 | [],S=>S=A
 |q::qs,S=>∃S',Mk A qs S'/\S' q=nO/\S=S'.upd q .dfr
def Mk.get{A z o}(h:A z=sO o):∀{qs S},Mk A qs S->S z=sO o
 | [],S,hm=>by rw[show S=A from hm];exact h
 |q::qs,S,hm=>by obtain⟨S',i,t,rfl⟩:=hm;have:=Mk.get h i;rw[ZHD _ _ (λe=>by rw[e,t]at this;simp at this)];exact this
def upd_comm{a b x y}(h:a≠b):(s.upd a x).upd b y=(s.upd b y).upd a x:=by
 funext c;by_cases t:c=b;subst t;rw[ZHB,ZHD _ _ (Ne.symm h),ZHB];rw[ZHD _ _ t];by_cases i:c=a;subst i;rw[ZHB,ZHB];rw[ZHD _ _ i,ZHD _ _ i,ZHD _ _ t]
def Mk.upd{A z o o'}(h:A z=sO o):∀{qs S},Mk A qs S->Mk (A.upd z o') qs (S.upd z o')
 | [],S,hm=>by rw[show S=A from hm];rfl
 |q::qs,S,hm=>by
  obtain⟨S',t,u,rfl⟩:=hm;have:=Mk.get h t;have i:q≠z:=λe=>by rw[<-e,u]at this;simp at this
  exact⟨S'.upd z o',t.upd h,by rw[ZHD _ _ i];exact u,upd_comm i⟩
def Mk.unw{P A Ψ}(h:Ψ nO A):∀{qs S},Mk A qs S->Unw P (qs.map .mark) nO S Ψ
 | [],S,hm=>by rw[show S=A from hm];exact h
 |q::qs,S,hm=>by
  obtain⟨S',t,u,rfl⟩:=hm;refine⟨ZHB _ _ _,?_⟩;have e:(S'.upd q .dfr).del q=S':=by funext c;by_cases i:c=q;subst i;simp[St.del,u];simp[St.del,ZH7,i]
  rw[e];exact Mk.unw h t
def ZiJ{s t:St}{q o}(h:s.sub t):(s.upd q o).sub (t.upd q o):=λb x i=>by
 by_cases u:b=q;subst u;rw[ZHB]at i⊢;exact i;rw[ZHD _ _ u]at i⊢;exact h b x i
def ZyF{s t:St}{q}(h:s.sub t)(i:t q=nO):s q=nO:=by
 cases u:s q with
 |none=>rfl
 |some o=>rw[h q o u]at i;simp at i
def ZmF{a t z o o'}(h:Z4 a t)(u:a z=sO o):Z4 (a.upd z o') t:=λb x i=>by
 rw[ZHD _ _ (λe=>by subst e;rw[h b x i]at u;simp at u)];exact h b x i
def St.upd_self{b o}(h:s b=sO o):s.upd b o=s:=by
 funext c;by_cases i:c=b;subst i;rw[ZHB,h];rw[ZHD _ _ i]
def Zxg{d j i m f}(h:Qk d j m i f=0):ZgZ f:=by
 unfold Qk at h;split at h;· omega
 split at h;· omega
 split at h;· omega
 split at h;· omega
 unfold QS at h;refine⟨λhk=>?_,λhk=>?_⟩;have u:JJ f=0:=by rcases hk with hk|hk<;>simp only[hk,ZId,if_true,if_false]at h<;>exact h
 unfold JJ at u;split at u;· omega
 rename_i t;simp only[ZcU,ZHT,ZHG,Bool.not_eq_true',decide_eq_true_eq,decide_eq_false_iff_not,not_or]at t;omega;simp only[hk,ZId,if_true,if_false]at h;split at h;· omega
 rename_i t;simp only[Zol,ZHG,ZHT,Bool.not_eq_true',decide_eq_true_eq,decide_eq_false_iff_not,not_and,not_or]at t;omega
def Zeg.bits{d j m}(h:Zeg d j m):∀f∈m.fields,ZgZ f:=by
 intro f u;obtain⟨i,t,rfl⟩:=ZHR u;have:=Zxg (h.field i t);simpa[ZHL,t]using this
def Zcz(m:Msg):Bool:=(ZHJ (I m.fields+1)).all λi=>!Qq m.fields i
def Wi(d:Dfn):Bool:=ZfE d&&d.msgs.all Zcz
def Zwo{m}(h:∀i,i<I m.fields+1->Qq m.fields i=false):Zcz m=true:=by
 unfold Zcz;rw[List.all_eq_true];intro i t;rw[h i (List.mem_range.1 t)];rfl
def Zuj{m i}(t:i<I m.fields+1)(h:Qq m.fields i=true):Zcz m=false:=by
 unfold Zcz;rw[List.all_eq_false];exact⟨i,List.mem_range.2 t,by rw[h];simp⟩
def atM{L s}(l i):qv L s (.iaddr 2) [.d (YF l),.d (.i i)]=sO (0<=i/\i<I l,.d (.ep (l.getD i.toNat dE).cells 0)):=rfl
def Zod{L s}(l):qv L s .lenL [.d (YF l)]=sO (True,.d (.i (I l))):=rfl
def Zpe(d st):Za ZHv 92 [.agg d.cells] st λr S=>S=st/\∃a f c,r=.ret (.tup [.agg [.i a,.i f,.i c],.bool (!Wi d)]):=by
 refine Zb (cR 92 f92) λF hF=>?_;have ac:=Wi.eq_1 d;refine rx @eQ2 ?_;refine rx @eQ2 ?_;rw[show(D.agg [.str d.name,YF d.msgs,.str d.start])=.agg d.cells from rfl];refine cV (ZoB d st) ?_ ?_
 .rintro dd S ⟨rfl,fa,ff,fc,h⟩;cases h;refine gR0 ?_;rw[ZtA];refine rg ?_;refine cd (λhc=>?_) (λhc=>?_);have hv:ZfE d=false:=by simpa using hc
  rw[hv,ZH8]at ac;refine rg ?_;refine hF.ret _ S rfl ψ (ZHx _) ZHw ⟨rfl,fa,ff,fc,?_⟩;rw[ac];simp[hv];rfl;have hv:ZfE d=true:=by simpa using hc
  rw[hv,ZHX]at ac;have hV:=Zq6 hv;have hmany:=hV.many;refine rx (nd2 @Zod @eQ2) ?_;refine Zd ?_;refine xP 2 λz2 h2=>?_;refine xP 3 λz3 h3=>?_;have k3:=Zo h3;have be:=h2;have bf:=k3.2;simp only[hv,Bool.not_true]at h3⊢;obtain⟨A,hA⟩:∃A,A=(S.upd z2 (.cells [.i fa,.i ff,.i fc])).upd z3 (.cells [.bool false]):=⟨_,rfl⟩;have g2:A z2=sO (.cells [.i fa,.i ff,.i fc]):=by rw[hA,ZHD _ _ k3.1.symm];exact ZHB _ _ _
  have g3:A z3=sO (.cells [.bool false]):=by rw[hA];exact ZHB _ _ _
  have ah:S.sub A:=by rw[hA];exact ZIe (ZHV _ h2) (ZHV _ h3)
  rw[<-hA];clear hA;obtain⟨A0,e0⟩:∃A0,A0=A:=⟨_,rfl⟩;rw[<-e0]at g2 g3 ah⊢;clear e0;refine lpU (λQ=>∀(n k:Nat),(I d.msgs)-k=n->∀(F:Fr ZHv) (qs:List Nat) (A:St),YJ F [.cellN 2 3,.cell1 3] (λr S'=>S'=S/\∃a f c,r=.ret (.tup [.agg [.i a,.i f,.i c],.bool (!Wi d)])) (qs.map .mark)->Mk A0 qs A->k<=I d.msgs->(∀q,q<k->Zcz (d.msgs.getD q dE)=true)->Q F [(2,.d (.ptr z2 0)),(3,.d (.ptr z3 0)),(17,.d (YF d.msgs)),(18,.d (.i (I d.msgs))),(19,.d (.i k))] [] A) ?_ λbg=>?_
  .intro n;induction n using Nat.strongRecOn with
   |ind n ih_key =>
   intro k hn F qs A hF af hk ak;have au:=g2;have av:=g3;have g2:=Mk.get g2 af;have g3:=Mk.get g3 af;refine rg ?_;refine Zc (Zn rfl trivial (λh1=>?_) (λh1=>?_))
   .simp at h1;have hM:=hV.msg h1;have ad:=hM.bits;have hmf:=hM.many;have am:=λh=>Yb (q:=λj=>Zcz (d.msgs.getD j dE)=true) ak h;have aw:Zcz (d.msgs.getD k dE)=false->d.msgs.all Zcz=false:=λh=>by rw[List.all_eq_false];exact⟨_,ZD h1,by rw[h];simp⟩
    generalize hm:d.msgs.getD k dE=m at *;refine xA (nd2 @atM (nd2 @hm @eQ3)) ?_;refine rg ?_;refine cV (ZeT m.fields A) ?_ ?_
    .rintro dd S2 ⟨x,hx,hd,rfl⟩;cases hd;refine gR0 ?_;refine Zd ?_;refine xP 4 λz4 h4=>?_;refine xP 5 λz5 h5=>?_;have k5:=Zo h5;have o4:=Zyb hx h4;have o5:=Zyb hx k5.2;rw[W8,W8];obtain⟨B,hB⟩:∃B,B=(A.upd z4 (.cells [.i k])).upd z5 (.cells [.str m.name,Zr m.fields]):=⟨_,rfl⟩;have b5:B z5=sO (.cells [.str m.name,Zr m.fields]):=by rw[hB];exact ZHB _ _ _
     have b4:B z4=sO (.cells [.i k]):=by rw[hB,ZHD _ _ k5.1.symm];exact ZHB _ _ _
     have bh:z2≠z4:=λe=>by rw[e,o4.2]at g2;simp at g2
     have a4:z2≠z5:=λe=>by rw[e,o5.2]at g2;simp at g2
     have a5:z3≠z4:=λe=>by rw[e,o4.2]at g3;simp at g3
     have a6:z3≠z5:=λe=>by rw[e,o5.2]at g3;simp at g3
     have ap:z2≠z3:=λe=>by rw[e,g3]at g2;simp at g2
     have b2:B z2=sO (.cells [.i fa,.i ff,.i fc]):=by rw[hB,ZHD _ _ a4,ZHD _ _ bh];exact g2
     have b3:B z3=sO (.cells [.bool false]):=by rw[hB,ZHD _ _ a6,ZHD _ _ a5];exact g3
     have bx:B x=nO:=by rw[hB,ZHD _ _ o5.1.symm,ZHD _ _ o4.1.symm];exact hx
     have ai:A.sub B:=by rw[hB];exact ZIe (ZHV _ o4.2) (ZHV _ (by rw[ZHD _ _ k5.1];exact o5.2))
     rw[<-hB];clear hB;refine KM hF rfl trivial [2,3,4,5,17,18,19] (by show([2,3,4,5,17,18,19]:List Nat).Nodup;decide) (W6 bx) (ZdB m.fields ω ad x).Y (λj hj=>rfl)
      (λj=>if Qq m.fields j then .stop (.exit 0) else .next) (λj a=>((∀i,i<j->Qq m.fields i=false)/\a=B)\/((∃i,i<j/\Qq m.fields i=true)/\∃a1 a2 a3,a=(B.upd z3 (.cells [.bool true])).upd z2 (.cells [.i a1,.i a2,.i a3])))
      (.inl ⟨λi hi=>by omega,rfl⟩) ?_ ?_ ?_ ?_ ?_ ?_
     .intro j a hj ae hB F' ready aj hdr ax u;have ab:∀i,i<j->Qq m.fields i=false:=λi hi=>by have:=ae i hi;split at this;simp at this;rename_i h;simpa using h
      rcases hB with ⟨_,rfl⟩|⟨⟨i,hi,ag⟩,_⟩
      .skip
       simp only[Eqs,reduceCtorEq,ZHC,reduceIte,ZHz,ZHE,ZHA,WL,Kd,Ji,Km,List.isEmpty_nil,List.isEmpty_cons,Zws];refine gG ?_;refine ax λa0=>?_;refine rh ?_;refine Zm ?_;simp only[Eqs,reduceCtorEq,ZHC,reduceIte,ZHz,ZHE,ZHA,Zt b5];cases hw:Qq m.fields j with
       |false =>rw[if_neg (by rw[hw];simp)]at u;refine Zaz rfl rfl rfl rfl rfl φ φ (by exact Zg5 m.fields ω ad j ω) (Zm ?_);simp only[Eqs,reduceCtorEq,ZHC,reduceIte,ZHz,ZHE,ZHA,hw,Zt b3,W8,St.upd_self b3];refine rh ?_;refine Zm ?_;simp only[Eqs,reduceCtorEq,ZHC,reduceIte,ZHz,ZHE,ZHA,Zt b3];refine i0 ?_;refine ZI (Zs ?_);exact u.fin ⟨rfl,.inl ⟨Yb (q:=λi=>Qq m.fields i=false) ab hw,rfl⟩⟩ a0 ZHw
       |true =>
        rw[if_pos hw]at u;refine Zaz rfl rfl rfl rfl rfl φ φ (by exact Zg5 m.fields ω ad j ω) (Zm ?_);simp only[Eqs,reduceCtorEq,ZHC,reduceIte,ZHz,ZHE,ZHA,hw,Zt b3,W8];obtain⟨C,hC⟩:∃C,C=a.upd z3 (.cells [.bool true]):=⟨_,rfl⟩;have c3:C z3=sO (.cells [.bool true]):=by rw[hC];exact ZHB _ _ _
        have c2:C z2=sO (.cells [.i fa,.i ff,.i fc]):=by rw[hC,ZHD _ _ ap];exact b2
        have c4:C z4=sO (.cells [.i k]):=by rw[hC,ZHD _ _ a5.symm];exact b4
        have c5:C z5=sO (.cells [.str m.name,Zr m.fields]):=by rw[hC,ZHD _ _ a6.symm];exact b5
        have ay:Z4 C aj:=by rw[hC];exact ZmF a0 b3
        rw[<-hC];refine rh ?_;refine Zm ?_;simp only[Eqs,reduceCtorEq,ZHC,reduceIte,ZHz,ZHE,ZHA,Zt c3];refine i1 ?_;refine rh ?_;refine Zm ?_;simp only[Eqs,reduceCtorEq,ZHC,reduceIte,ZHz,ZHE,ZHA,Zt c4,Zt c2,W8];have a8:(C.upd z2 (.cells [.i k,.i j,.i 12])) z5=sO (.cells [.str m.name,Zr m.fields]):=by rw[ZHD _ _ a4.symm];exact c5
        have a7:=ZHB C z2 (.cells [.i k,.i j,.i 12]);have az:Z4 (C.upd z2 (.cells [.i k,.i j,.i 12])) aj:=ZmF ay c2;refine rh ?_;refine Zm ?_;simp only[Eqs,reduceCtorEq,ZHC,reduceIte,ZHz,ZHE,ZHA,Zt a8,Zfb];refine cd (λhe=>?_) (λhe=>?_);refine rh ?_;refine Zm ?_;simp only[Eqs,reduceCtorEq,ZHC,reduceIte,ZHz,ZHE,ZHA,Zt a7,W8,ZHO];exact u.exit rfl ⟨rfl,.inr ⟨⟨j,ω,hw⟩,k,-1,12,by rw[hC]⟩⟩ (ZmF ay c2) ZHw;refine ZI ?_;exact u.exit rfl ⟨rfl,.inr ⟨⟨j,ω,hw⟩,k,j,12,by rw[hC]⟩⟩ az ZHw
      rw[ab i hi]at ag;simp at ag
     intro q a ae hB hq;have ab:∀i,i<I m.fields+1->Qq m.fields i=false:=λi hi=>by have:=ae i hi;split at this;simp at this;rename_i h;simpa using h
     rcases hB with ⟨_,rfl⟩|⟨⟨i,hi,ag⟩,_⟩;refine KF (ZiJ ai) ?_;refine gA ?_;refine Ze ?_;exact ih_key ((I d.msgs)-(k+1)) ω (k+1) rfl _ (q::qs) _ (hF.mark q) ⟨A,af,ZyF ai hq,rfl⟩ ω (am (Zwo ab));rw[ab i hi]at ag;simp at ag;intro q a i hi ae t;split at t<;>simp at t;intro q a i id hi ae t hB hq;have bc:id=0:=by split at t;simp at t;exact t.symm;simp at t
     subst bc;have ao:Qq m.fields i=true:=by split at t;assumption;simp at t
     rcases hB with ⟨h,_⟩|⟨_,a1,a2,a3,rfl⟩;rw[h i ω]at ao;simp at ao;have a9:=aw (Zuj hi ao);rw[a9]at ac;have q2:q≠z2:=λe=>by rw[e,ZHB]at hq;simp at hq
     have q3:q≠z3:=λe=>by rw[ZHD _ _ q2,e,ZHB]at hq;simp at hq
     have bb:B q=nO:=by rw[ZHD _ _ q2,ZHD _ _ q3]at hq;exact hq
     refine KF (ZiJ (ZiJ (ZiJ ai))) ?_;obtain⟨X,hX⟩:∃X,X=((A.upd z3 (.cells [.bool true])).upd z2 (.cells [.i a1,.i a2,.i a3])).upd q .dfr:=⟨_,rfl⟩;have al:Mk ((A0.upd z3 (.cells [.bool true])).upd z2 (.cells [.i a1,.i a2,.i a3])) (q::qs) X:=⟨_,Mk.upd (o:=.cells [.i fa,.i ff,.i fc]) (by rw[ZHD _ _ ap];exact au) (Mk.upd av af),by rw[ZHD _ _ q2,ZHD _ _ q3];exact ZyF ai bb,hX⟩;have aq:=ZHB (A0.upd z3 (.cells [.bool true])) z2 (.cells [.i a1,.i a2,.i a3]);have ar:((A0.upd z3 (.cells [.bool true])).upd z2 (.cells [.i a1,.i a2,.i a3])) z3=sO (.cells [.bool true]):=by rw[ZHD _ _ ap.symm];exact ZHB _ _ _
     have x2:=Mk.get aq al;have x3:=Mk.get ar al;rw[<-hX];refine ZS rfl ?_;refine rh ?_;refine Yt ?_;simp only[Eqs,reduceCtorEq,ZHC,reduceIte,ZHz,ZHE,ZHA,x2,x3,St.upd_self x2,St.upd_self x3];refine(hF.mark q).retU (al.unw ⟨_,_,.tup [.agg [.i a1,.i a2,.i a3],.bool true],S,by simp only[Eqs,reduceCtorEq,ZHC,reduceIte,ZHz,ZHE,ZHA,YC,Kn,aq,ar];rfl,ψ,ZHx _,?_,rfl,a1,a2,a3,by rw[ac];rfl⟩);intro c o hc;have e2:c≠z2:=λe=>by rw[e,be]at hc;simp at hc
     have e3:c≠z3:=λe=>by rw[e,bf]at hc;simp at hc
     rw[ZHD _ _ e2,ZHD _ _ e3];exact ah c o hc;intro q a i d hi ae t;split at t<;>simp at t;intro i c t;split at t<;>simp at t;exact .inr ⟨0,t.symm⟩
    rintro dd S2 ⟨x,hx,hd,_⟩;cases hd
   simp at h1;obtain rfl:k=I d.msgs:=ω;have ba:d.msgs.all Zcz=true:=by rw[List.all_eq_true];intro x hx;obtain⟨q,hq,rfl⟩:=ZHR hx;have:=ak q hq;simpa[ZHL,hq]using this
   rw[ba]at ac;refine ZS rfl (Zc ?_);refine rh ?_;refine Yt ?_;simp only[Eqs,reduceCtorEq,ZHC,reduceIte,ZHz,ZHE,ZHA,g2,g3,St.upd_self g2,St.upd_self g3];exact hF.retU (af.unw ⟨_,_,.tup [.agg [.i fa,.i ff,.i fc],.bool false],S,by simp only[Eqs,reduceCtorEq,ZHC,reduceIte,ZHz,ZHE,ZHA,YC,Kn,au,av];rfl,ψ,ZHx _,ah,rfl,fa,ff,fc,by rw[ac];rfl⟩)
  exact bg _ 0 rfl F [] A0 hF rfl ω (by intro q hq;omega)
 rintro dd S ⟨_,a,f,c,h⟩;cases h
def Zmt(d):Zf ZHv 62 [.agg d.cells] (.bool (Wi d)):=by
 refine Zi (cR 62 f62) λF st i=>?_;refine rx @eQ2 ?_;refine rx @eQ2 ?_;rw[show(D.agg [.str d.name,YF d.msgs,.str d.start])=.agg d.cells from rfl];refine cV (Zpe d st) ?_ ?_;rintro t S ⟨rfl,a,f,c,h⟩;cases h;refine gR0 ?_;refine rg ?_;exact i rfl φ (by cases Wi d<;>exact ZHx _) ZHw;rintro t S ⟨_,a,f,c,h⟩;cases h
def ZAX{L s}(l i):qv L s (.iaddr 3) [.d (WP l),.d (.i i)]=sO (0<=i/\i<I l,.d (.ep (l.getD i.toNat dE).cells 0)):=rfl
def Zza{L s}(l):qv L s .lenL [.d (WP l)]=sO (True,.d (.i (I l))):=rfl
def ZAw{L s}(l):qv L s .lenL [.d (Yj l)]=sO (True,.d (.i (I l))):=rfl
def ZBR(cs o):KZ (.d (.ep cs o))=[]:=rfl
def QR{d s}(h:0<=Zq d s (I d.msgs)):Zq d s (I d.msgs)=ixS d s/\ixS d s<I d.msgs:=by
 have:=WC (λm=>dC (m.name=s)) (d.msgs.take (I d.msgs));rw[ZHQ]at this;unfold ixS;unfold Zq at *;omega
def Zbj{α:Type}[Inhabited α]{l:List α}{x}(h:x∈l):∃i,i<I l/\l.getD i dE=x:=by
 obtain⟨i,t,rfl⟩:=ZHR h;exact⟨i,t,by simp[ZHL,t]⟩
def Zab{d}(h:Wi d=true):QM d:=by
 unfold Wi at h;rw[ZHG]at h;exact Zq6 h.1
def hasV(f:Fld):Bool:=(!dC (f.kind=2)&&!dC (f.kind=10))&&!dC (f.kind=11)
def vfs(l:List Fld):List Fld:=l.filter hasV
def Znh{l:List Fld}{i}(h:i<I l):vfs (l.take (i+1))=vfs (l.take i)++if hasV (l.getD i dE) then [l.getD i dE] else []:=by
 rw[Yi h];unfold vfs;rw[List.filter_append];congr 1;simp only[List.filter_cons,List.filter_nil]
def ZyP{l i}(h:i<I l):vfs l=vfs (l.take i)++((if hasV (l.getD i dE) then [l.getD i dE] else [])++vfs (l.drop (i+1))):=by
 have t:l=l.take (i+1)++l.drop (i+1):=(List.take_append_drop _ _).symm;conv=>lhs;rw[t];unfold vfs;rw[List.filter_append]
 rw[show List.filter hasV (l.take (i+1))=vfs (l.take (i+1)) from rfl,Znh h,ZHY];rfl
def Qm(m:Msg)(ps:List Val):Bool:=dC ((vfs m.fields).map (·.name)=ps.map Val.name)
def Zc6{L s}(l):qv L s .lenL [.d (ZY l)]=sO (True,.d (.i (I l))):=rfl
def atV{L s}(l i):qv L s (.iaddr 5) [.d (ZY l),.d (.i i)]=sO (0<=i/\i<I l,.d (.ep (Zbv l i.toNat) 0)):=rfl
def QA{L s}(l):qv L s .lenL [.d (Zh l)]=sO (True,.d (.i (I l))):=rfl
def ZtY{l}(h:DWf (ZY l)):I l<=big:=h.sl_inv.1
def ZdO(f):Zf ZHv 126 [.agg f.cells] (.bool (hasV f)):=by
 refine Zi (cR 126 f126) λF st i=>?_;refine rx @eQ0 ?_;refine rg ?_;refine rb i ?_;rfl
def Ztk(k:Int):Bool:=dC (k=1) ||decide (k=3)
def Zpl(k:Int):Bool:=dC (k=4) ||decide (k=5)
def Wo(k:Int)(x:Val):Bool:=(((!Ztk k&&!dC (x.int=0)) ||(!Zpl k&&dC (0<(I x.bytes:Int)))) ||(!dC (k=6)&&dC (0<(I x.hdrs:Int)))) ||(!dC (7<=k)&&dC (0<(I x.parts:Int)))
def Kx(have_ want:Int):Int:=if dC (have_<want) then 4 else if dC (want<have_) then 5 else 0
def KJ(s:Str):List (Str×Int)->Int
 | []=>-1
 |x::r=>if x.1=s then x.2 else KJ s r
def Zdv:List Fld->List Val->List (Str×Int)
 | [],_=>[]
 |f::r,ps=>(if f.kind=2 then [(f.name,f.low)] else [])++(if hasV f then (if (dC (0<(I ps:Int))&&YE f) then [(f.name,(ps.getD 0 dE).int)] else [])++Zdv r (ps.drop 1) else Zdv r ps)
def ZrO(m:Msg)(ps:List Val):List (Str×Int):=Zdv m.fields ps
def ZBB{l:List Fld}{i}:(vfs (l.take i)).length<=i:=by
 unfold vfs;exact ZIg (List.length_filter_le _ _) (by simp;omega)
def Zev(s:ZbA)(l:List (Str×Int)):Int:=s.base+QZ (λt=>KJ t.field l) s.terms
def ZaI(n:Nat):Str:=if n<10 then [UInt8.ofNat (48+n)] else ZaI (n / 10)++[UInt8.ofNat (48+n % 10)]
termination_by n
decreasing_by omega
def KN{n}(h:n<10):ZaI n=[UInt8.ofNat (48+n)]:=by rw[ZaI,if_pos h]
def ZhU{n}(h:¬n<10):ZaI n=ZaI (n / 10)++ZaI (n % 10):=by
 rw[ZaI,if_neg h,KN (n:=n % 10) ω]
def ZhV(n):(ZaI n).length<=n+1:=by
 induction n using Nat.strongRecOn with
 |ind n ih =>by_cases h:n<10;rw[KN h];simp;rw[ZhU h,ZHF,KN (n:=n % 10) ω];have:=ih (n / 10) ω;simp;omega
def Js(ps:List Val)(k:Nat):Nat:=((ps.take k).filter (λx=>dC (x.name=(ps.getD k dE).name))).length
def Yo(ps:List Val)(k:Nat):Str:=if Js ps k=0 then (ps.getD k dE).name else (ps.getD k dE).name++[58]++ZaI (Js ps k)
def ZM(path s:Str):Str:=if path=[] then s else path++[46]++s
def ZnJ(ps k):Js ps k<=k:=by
 unfold Js;exact ZIg (List.length_filter_le _ _) (by simp;omega)
def Ze5(ps:List Val)(k i:Nat):Nat:=((ps.take i).filter (λx=>dC (x.name=(ps.getD k dE).name))).length
def Zxy{ps k i}(h:i<I ps):Ze5 ps k (i+1)=Ze5 ps k i+if (ps.getD i dE).name=(ps.getD k dE).name then 1 else 0:=by
 unfold Ze5;rw[Yi h,List.filter_append,ZHF]
 congr 1
 simp only[List.filter_cons,List.filter_nil];split<;>rename_i t<;>simp at t<;>simp[t]
def ZBf(ps k i):Ze5 ps k i<=i:=by
 unfold Ze5;exact ZIg (List.length_filter_le _ _) (by simp;omega)
mutual
def ZdJ:Val->Nat
 |.mk _ _ _ _ p=>1+nodesL p
def nodesL:List Val->Nat
 | []=>0
 |v::r=>ZdJ v+nodesL r
end
mutual
def ZZ:Val->Nat
 |.mk _ _ _ _ p=>heightL p+1
def heightL:List Val->Nat
 | []=>0
 |v::r=>max (ZZ v) (heightL r)
end
def ZdH(h:Hdr):Bool:=dC ((1048576:Int)<I h.name) ||decide ((1048576:Int)<I h.text)
def Zac(v:Val):Bool:=(((((Y8 v.name&&dC (0<=v.int))&&dC (v.int<34359738368))&&dC ((I v.bytes:Int)<=1048576))&&dC ((I v.hdrs:Int)<=100))&&!v.hdrs.any ZdH)
mutual
def Y2:Val->Bool
 |.mk n i b h p=>okAllL p&&Zac (.mk n i b h p)
def okAllL:List Val->Bool
 | []=>true
 |v::r=>Y2 v&&okAllL r
end
def ZaO(v):ZdJ v=1+nodesL v.parts:=by cases v;rfl
def KQ(v):ZZ v=heightL v.parts+1:=by cases v;rfl
def Zim(v):Y2 v=(okAllL v.parts&&Zac v):=by cases v;rfl
def Zil{l}:okAllL l=l.all Y2:=by
 induction l with
 |nil=>rfl
 |cons v r ih=>rw[okAllL,ih,List.all_cons]
def ZgD{l x}(h:x∈l):ZZ x<=heightL l:=by
 induction l with
 |nil=>simp at h
 |cons v r ih =>rcases List.mem_cons.1 h with rfl|h;simp only[heightL];omega;have:=ih h;simp only[heightL];omega
def Ks{n}(h:-9223372036854775808<=n/\n<=9223372036854775807):IntKind.i64.wrap n=n :=
 Zaj _ _ (by have h1:IntKind.i64.min=-9223372036854775808:=rfl;have h2:IntKind.i64.max=9223372036854775807:=rfl;unfold inR;omega)
def Qo(v:Val):Bool:=(dC ((ZdJ v:Int)<=65536)&&dC ((ZZ v:Int)<=40))&&Y2 v
def Zdc(x n:Nat):Nat:=x*2 ^ n % 4294967296+x / 2 ^ (32-n)
def ZbP(n:Nat):IntKind.u32.wrap (n:Int)=((n % 4294967296:Nat):Int):=by
 have:IntKind.u32.wrap (n:Int)=(n:Int) % 4294967296:=rfl;rw[this];omega
def ZCO{a b:Nat}(u:a<4294967296)(hb:b<4294967296):Qf .or .u32 (a:Int) (b:Int)=((a |||b:Nat):Int):=by
 have h:=Nat.or_lt_two_pow (n:=32) u hb;unfold Qf;simp only;have i:(BitVec.ofInt 32 (a:Int)).toNat=a:=by rw[BitVec.toNat_ofInt];omega
 have t:(BitVec.ofInt 32 (b:Int)).toNat=b:=by rw[BitVec.toNat_ofInt];omega
 show IntKind.u32.wrap ((BitVec.ofInt 32 (a:Int) |||BitVec.ofInt 32 (b:Int)).toNat:Int)=_;rw[BitVec.toNat_or,i,t,ZbP,Nat.mod_eq_of_lt h]
def ZvB{a b:Nat}(u:a<4294967296)(hb:b<4294967296):Qf .xor .u32 (a:Int) (b:Int)=((a ^^^ b:Nat):Int):=by
 have h:=Nat.xor_lt_two_pow (n:=32) u hb;unfold Qf;simp only;have i:(BitVec.ofInt 32 (a:Int)).toNat=a:=by rw[BitVec.toNat_ofInt];omega
 have t:(BitVec.ofInt 32 (b:Int)).toNat=b:=by rw[BitVec.toNat_ofInt];omega
 show IntKind.u32.wrap ((BitVec.ofInt 32 (a:Int) ^^^ BitVec.ofInt 32 (b:Int)).toNat:Int)=_;rw[BitVec.toNat_xor,i,t,ZbP,Nat.mod_eq_of_lt h]
def Zyt{x n:Nat}(hx:x<4294967296)(u:n<=32):x*2 ^ n % 4294967296 |||x / 2 ^ (32-n)=Zdc x n:=by
 unfold Zdc;have e:(4294967296:Nat)=2 ^ (32-n)*2 ^ n:=by rw[<-Nat.pow_add,Nat.sub_add_cancel u]
 have i:x*2 ^ n % 4294967296=(x % 2 ^ (32-n)) <<< n:=by rw[Nat.shiftLeft_eq,e,Nat.mul_mod_mul_right]
 have t:x / 2 ^ (32-n)<2 ^ n:=Nat.div_lt_of_lt_mul (by rw[<-e];exact hx);rw[i,Nat.shiftLeft_add_eq_or_of_lt t]
def ZpI{x n:Nat}(i:x<4294967296)(t:n<=32):Zdc x n<4294967296:=by
 rw[<-Zyt i t];exact Nat.or_lt_two_pow (n:=32) (Nat.mod_lt _ (by decide)) (Nat.lt_of_le_of_lt (Nat.div_le_self _ _) i)
def Zg7{x n:Nat}(hx:x<4294967296)(hn:n=16\/n=12\/n=8\/n=7):Zf ZHv 268 [.int .u32 x,.i n] (.int .u32 (Zdc x n)):=by
 refine Zi (cR 268 f268) λF st u=>?_;have i:Qf .and .u64 (n:Int) 31=(n:Int):=by rcases hn with rfl|rfl|rfl|rfl<;>rfl
 have ad:IntKind.u64.wrap (n:Int)=(n:Int):=by rcases hn with rfl|rfl|rfl|rfl<;>rfl
 have ab:IntKind.u32.wrap (J8 .u32 (x:Int) (n:Int))=((x*2 ^ n % 4294967296:Nat):Int):=by
  rw[<-ZbP];unfold J8;rw[Int.toNat_natCast,show Nat.min n IntKind.u32.bits=n from Nat.min_eq_left (by show n<=32;omega)]
  push_cast;rfl
 have ac:QE .u32 (x:Int) (32-(n:Int))=((x / 2 ^ (32-n):Nat):Int):=by
  unfold QE;have h1:(32-(n:Int)).toNat=32-n:=ω;rw[h1,show Nat.min (32-n) IntKind.u32.bits=32-n from Nat.min_eq_left (by show 32-n<=32;omega),Int.fdiv_eq_ediv_of_nonneg _ (by exact_mod_cast Nat.zero_le _)]
  push_cast;rfl
 have t:=ZCO (a:=x*2 ^ n % 4294967296) (b:=x / 2 ^ (32-n)) (Nat.mod_lt _ (by decide)) (Nat.lt_of_le_of_lt (Nat.div_le_self _ _) hx);rw[Zyt hx ω]at t;have hq:x / 2 ^ (32-n)<=x:=Nat.div_le_self _ _;refine rg ?_;refine rx (nd2 @ad @i) ?_;refine rh ?_;refine WH ?_;simp only[Eqs,reduceCtorEq,ZHC,reduceIte,ZHz,ZHE,ZHA,WY,Ku];refine Zo8 rfl rfl rfl φ (ZDH ω) (WH ?_);simp only[Eqs,reduceCtorEq,ZHC,reduceIte,ZHz,ZHE,ZHA,WY,Ku,ab,ac,t];generalize x / 2 ^ (32-n)=y at *;refine aa ?_;refine ri u ?_;rfl
def Zcs(r1 r2 a b c d:Nat):Nat×Nat×Nat×Nat :=
 let a1:=(a+b) % 4294967296;let d1:=Zdc (d ^^^ a1) r1;let c1:=(c+d1) % 4294967296
 (a1,Zdc (b ^^^ c1) r2,c1,d1)
def Zd3(a b c d:Nat):Nat×Nat×Nat×Nat :=
 let q:=Zcs 16 12 a b c d
 Zcs 8 7 q.1 q.2.1 q.2.2.1 q.2.2.2
def W4(q:Nat×Nat×Nat×Nat):Prop:=q.1<4294967296/\q.2.1<4294967296/\q.2.2.1<4294967296/\q.2.2.2<4294967296
def ZkP{a b:Nat}(i:a<4294967296)(t:b<4294967296):a ^^^ b<4294967296:=Nat.xor_lt_two_pow (n:=32) i t
def ZmT{r1 r2 a b c d:Nat}(u:r1<=32)(h2:r2<=32)(h:W4 (a,b,c,d)):W4 (Zcs r1 r2 a b c d):=by
 have i:(a+b) % 4294967296<4294967296:=Nat.mod_lt _ (by decide);have t:∀x,(c+x) % 4294967296<4294967296:=λx=>Nat.mod_lt _ (by decide);exact⟨i,ZpI (ZkP h.2.1 (t _)) h2,t _,ZpI (ZkP h.2.2.2 i) u⟩
def Zvk{a b c d:Nat}(h:W4 (a,b,c,d)):W4 (Zd3 a b c d):=ZmT (by decide) (by decide) (ZmT (by decide) (by decide) h)
def w32(n:Nat):D:=.int .u32 n
structure Q4(T:St)(za zb zc zd:Nat)(q:Nat×Nat×Nat×Nat):Prop where
 a:T za=some (.cells [.int .u32 q.1])
 b:T zb=some (.cells [.int .u32 q.2.1])
 c:T zc=some (.cells [.int .u32 q.2.2.1])
 d:T zd=some (.cells [.int .u32 q.2.2.2])
structure N4(za zb zc zd:Nat):Prop where
 ab:za≠zb
 ac:za≠zc
 ad:za≠zd
 bc:zb≠zc
 bd:zb≠zd
 cd:zc≠zd
def Q4P(T:St)(za zb zc zd:Nat)(q:Nat×Nat×Nat×Nat)(r:Res)(S:St):Prop:=r=.ret (.tup [])/\Q4 S za zb zc zd q/\∀y,y≠za->y≠zb->y≠zc->y≠zd->S y=T y
def Zha{T:St}{za zb zc zd a b c d r1 r2:Nat}(hr1:r1=16\/r1=12\/r1=8\/r1=7)(hr2:r2=16\/r2=12\/r2=8\/r2=7)(h:W4 (a,b,c,d))(hN:N4 za zb zc zd)(hT:Q4 T za zb zc zd (a,b,c,d)):
  Za ZHv 267 [.i r1,.i r2,.ptr za 0,.ptr zb 0,.ptr zd 0,.ptr zc 0] T (Q4P T za zb zc zd (Zcs r1 r2 a b c d)):=by
 refine Zb (cR 267 f267) λF hF=>?_;obtain⟨ha,hb,hc,hd⟩:=hT;simp only at ha hb hc hd;obtain⟨la,lb,lc,ld⟩:=h;simp only at la lb lc ld;have hA:Zcs r1 r2 a b c d=((a+b) % 4294967296,Zdc (b ^^^ (c+Zdc (d ^^^ (a+b) % 4294967296) r1) % 4294967296) r2,(c+Zdc (d ^^^ (a+b) % 4294967296) r1) % 4294967296,Zdc (d ^^^ (a+b) % 4294967296) r1):=rfl;have wa:IntKind.u32.wrap ((a:Int)+b)=(((a+b) % 4294967296:Nat):Int):=by rw[<-ZbP];push_cast;rfl
 have i:(a+b) % 4294967296<4294967296:=Nat.mod_lt _ (by decide);generalize (a+b) % 4294967296=a1 at *;have xd:=ZvB ld i;have ae:=Zg7 (ZkP ld i) hr1;have ld1:Zdc (d ^^^ a1) r1<4294967296:=ZpI (ZkP ld i) ω;generalize d ^^^ a1=da at *;generalize Zdc da r1=d1 at *;have wc:IntKind.u32.wrap ((c:Int)+d1)=(((c+d1) % 4294967296:Nat):Int):=by rw[<-ZbP];push_cast;rfl
 have t:(c+d1) % 4294967296<4294967296:=Nat.mod_lt _ (by decide);generalize (c+d1) % 4294967296=c1 at *;have xb:=ZvB lb t;have u:=Zg7 (ZkP lb t) hr2;generalize b ^^^ c1=bc at *;generalize Zdc bc r2=b1 at *;rw[hA]at hF;have n1:∀(T:St) o,(T.upd za o) zd=T zd:=λT o=>ZHD _ _ hN.ad.symm;have n2:∀(T:St) o,(T.upd za o) zc=T zc:=λT o=>ZHD _ _ hN.ac.symm;have n3:∀(T:St) o,(T.upd zd o) zc=T zc:=λT o=>ZHD _ _ hN.cd;have n4:∀(T:St) o,(T.upd za o) zb=T zb:=λT o=>ZHD _ _ hN.ab.symm;have n5:∀(T:St) o,(T.upd zd o) zb=T zb:=λT o=>ZHD _ _ hN.bd;have n6:∀(T:St) o,(T.upd zc o) zb=T zb:=λT o=>ZHD _ _ hN.bc;refine rh ?_;refine WH ?_;simp only[Eqs,reduceCtorEq,ZHC,reduceIte,ZHz,ZHE,ZHA,WY,Ku,ha,hb];refine ZbS rfl rfl rfl φ (WH ?_);simp only[Eqs,reduceCtorEq,ZHC,reduceIte,ZHz,ZHE,ZHA,WY,Ku,wa,ha];refine aa ?_;refine rx (nd2 @n1 (nd2 @hd (nd2 @ZHB @xd))) ?_;refine cX (nd2 @n1 @hd) (ae) ?_;refine aa ?_;refine rh ?_;refine WH ?_;simp only[Eqs,reduceCtorEq,ZHC,reduceIte,ZHz,ZHE,ZHA,WY,Ku,n2,n3,hc,ZHB];refine ZbS rfl rfl rfl φ (WH ?_);simp only[Eqs,reduceCtorEq,ZHC,reduceIte,ZHz,ZHE,ZHA,WY,Ku,wc,n2,n3,hc,ZHB];refine aa ?_;refine rx (nd2 @n4 (nd2 @n5 (nd2 @n6 (nd2 @hb (nd2 @ZHB @xb))))) ?_;refine cX (nd2 @n4 (nd2 @n5 (nd2 @n6 @hb))) (u) ?_;refine aa ?_;refine hF.fin (.tup []) _ rfl trivial (ZHx _) ZHw ⟨rfl,⟨?_,?_,?_,?_⟩,λy h1 h2 h3 h4=>?_⟩;rw[ZHD _ _ hN.ab,ZHD _ _ hN.ac,ZHD _ _ hN.ad,ZHB];rw[ZHB];rw[ZHD _ _ hN.bc.symm,ZHB];rw[ZHD _ _ hN.bd.symm,ZHD _ _ hN.cd.symm,ZHB];rw[ZHD _ _ h2,ZHD _ _ h3,ZHD _ _ h4,ZHD _ _ h1]
def Zlw{a b c d:Nat}(h:W4 (a,b,c,d)):Zf ZHv 251 [.int .u32 a,.int .u32 b,.int .u32 c,.int .u32 d] (.tup [.int .u32 (Zd3 a b c d).1,.int .u32 (Zd3 a b c d).2.1,.int .u32 (Zd3 a b c d).2.2.1,.int .u32 (Zd3 a b c d).2.2.2]):=by
 refine Zi (cR 251 f251) λF st i=>?_;have hq:Zd3 a b c d=Zcs 8 7 (Zcs 16 12 a b c d).1 (Zcs 16 12 a b c d).2.1 (Zcs 16 12 a b c d).2.2.1 (Zcs 16 12 a b c d).2.2.2:=rfl;have hh:=ZmT (r1:=16) (r2:=12) (by decide) (by decide) h;rw[hq]at i;refine rg ?_;refine Zc ?_;refine xP 4 λza ha=>?_;refine xP 5 λzb hb=>?_;refine xP 6 λzc hc=>?_;refine xP 7 λzd hd=>?_;obtain⟨me,ai⟩:=Zo hd;obtain⟨ao,ae⟩:=Zo ai;obtain⟨ap,aj⟩:=Zo ae;obtain⟨nc,ag⟩:=Zo hc;obtain⟨aq,ah⟩:=Zo ag;obtain⟨nb,af⟩:=Zo hb;have hN:N4 za zb zc zd:=⟨nb.symm,aq.symm,ap.symm,nc.symm,ao.symm,me.symm⟩;generalize u:(((st.upd za (.cells [.int .u32 a])).upd zb (.cells [.int .u32 b])).upd zc (.cells [.int .u32 c])).upd zd (.cells [.int .u32 d])=S0;have hT:Q4 S0 za zb zc zd (a,b,c,d):=by rw[<-u];refine⟨?_,?_,?_,?_⟩;rw[ZHD _ _ hN.ad,ZHD _ _ hN.ac,ZHD _ _ hN.ab,ZHB];rw[ZHD _ _ hN.bd,ZHD _ _ hN.bc,ZHB];rw[ZHD _ _ hN.cd,ZHB];rw[ZHB]
 have al:∀S:St,(∀y,y≠za->y≠zb->y≠zc->y≠zd->S y=S0 y)->st.sub S:=λS hS y o hy=>by
  have h1:y≠za:=λe=>by rw[e,ha]at hy;cases hy
  have h2:y≠zb:=λe=>by rw[e,af]at hy;cases hy
  have h3:y≠zc:=λe=>by rw[e,ah]at hy;cases hy
  have h4:y≠zd:=λe=>by rw[e,aj]at hy;cases hy
  rw[hS y h1 h2 h3 h4,<-u,ZHD _ _ h4,ZHD _ _ h3,ZHD _ _ h2,ZHD _ _ h1];exact hy
 refine gG ?_;refine Zbz rfl rfl rfl rfl rfl φ φ (by exact(Zha (r1:=16) (r2:=12) (by decide) (by decide) h hN hT).V (first:=[]) (args:=[_,_]) (caps:=[_,_,_,_])) ?_ ?_;rintro dd S1 ⟨hr,hQ,hf⟩;cases hr;refine gR0 ?_;obtain⟨q,am⟩:∃q,Zcs 16 12 a b c d=q:=⟨_,rfl⟩;rw[am]at hQ hh i;refine rg ?_;refine Zbz rfl rfl rfl rfl rfl φ φ (by exact(Zha (r1:=8) (r2:=7) (by decide) (by decide) hh hN hQ).V (first:=[]) (args:=[_,_]) (caps:=[_,_,_,_])) ?_ ?_;rintro dd S2 ⟨hr,t,ak⟩;cases hr;refine gR0 ?_;refine rx (nd2 @t.a (nd2 @t.b (nd2 @t.c @t.d))) ?_;exact i rfl φ (ZHx _) (al S2 λy h1 h2 h3 h4=>by rw[ak y h1 h2 h3 h4,hf y h1 h2 h3 h4]);rintro dd S ⟨hr,_⟩;cases hr;rintro dd S ⟨hr,_⟩;cases hr
def qA(i:Nat):Nat:=i % 4
def qB(i:Nat):Nat:=if i<4 then 4+i % 4 else 4+(i+1) % 4
def qC(i:Nat):Nat:=if i<4 then 8+i % 4 else 8+(i+2) % 4
def qD(i:Nat):Nat:=if i<4 then 12+i % 4 else 12+(i+3) % 4
def qSt(i:Nat)(s:List Nat):List Nat :=
 let q:=Zd3 (s.getD (qA i) 0) (s.getD (qB i) 0) (s.getD (qC i) 0) (s.getD (qD i) 0)
 (((s.set (qA i) q.1).set (qB i) q.2.1).set (qC i) q.2.2.1).set (qD i) q.2.2.2
def Zgv:Nat->Nat->List Nat->List Nat
 |0,_,s=>s
 |n+1,i,s=>Zgv n (i+1) (qSt i s)
def Zxs(i s):Zgv 0 i s=s:=rfl
def Zxr(n i s):Zgv (n+1) i s=Zgv n (i+1) (qSt i s):=rfl
def S16(s:List Nat):Prop:=I s=16/\∀x∈s,x<4294967296
def S16.at_{s}(h:S16 s)(i:Nat):s.getD i 0<4294967296:=by
 by_cases t:i<I s;have:s.getD i 0∈s:=by simp[ZHL,t]
 exact h.2 _ this;simp[ZHL,ZIi (Nat.le_of_not_lt t)]
def S16.set{s}(h:S16 s){i y:Nat}(hy:y<4294967296):S16 (s.set i y):=⟨by rw[List.length_set];exact h.1,λx u=>by
 rcases List.mem_or_eq_of_mem_set u with t|rfl;exact h.2 _ t;exact hy⟩
def S16.q{s}(h:S16 s)(i:Nat):S16 (qSt i s):=by
 have t:=Zvk (a:=s.getD (qA i) 0) (b:=s.getD (qB i) 0) (c:=s.getD (qC i) 0) (d:=s.getD (qD i) 0) ⟨h.at_ _,h.at_ _,h.at_ _,h.at_ _⟩;exact(((h.set t.1).set t.2.1).set t.2.2.1).set t.2.2.2
def S16.dbl:∀{n i s},S16 s->S16 (Zgv n i s)
 |0,_,_,h=>h
 |n+1,i,s,h=>S16.dbl (n:=n) (h.q i)
def ZhA{s:List Nat}{q}(h:q<I s):(s.map w32)[q*1]?=sO (.int .u32 (s.getD q 0:Nat)):=by
 rw[Nat.mul_one,List.getElem?_map];simp[ZHL,h,w32]
def Zls{s:List Nat}{q}(y:Nat)(h:q<I s):(s.map w32).take (q*1)++[.int .u32 (y:Int)]++(s.map w32).drop (q*1+1)=(s.set q y).map w32:=by
 rw[Nat.mul_one,List.set_eq_take_append_cons_drop,if_pos h];simp[w32]
def ZAv:List D:=[.i 0,.i 4,.i 8,.i 12,.i 1,.i 5,.i 9,.i 13,.i 2,.i 6,.i 10,.i 14,.i 3,.i 7,.i 11,.i 15,.i 0,.i 5,.i 10,.i 15,.i 1,.i 6,.i 11,.i 12,.i 2,.i 7,.i 8,.i 13,.i 3,.i 4,.i 9,.i 14]
def ZB0{i:Nat}(h:i<8):List.take 4 (List.drop (i*4) ZAv)=[.i (qA i),.i (qB i),.i (qC i),.i (qD i)]:=by
 rcases(by omega:i=0\/i=1\/i=2\/i=3\/i=4\/i=5\/i=6\/i=7) with rfl|rfl|rfl|rfl|rfl|rfl|rfl|rfl<;>rfl
def ZDG{i:Nat}(h:i<8):qA i<16/\qB i<16/\qC i<16/\qD i<16:=by
 unfold qA qB qC qD;split<;>omega
def ZmE{T:St}{z:Nat}{s:List Nat}(hs:S16 s)(hz:T z=sO (.cells (s.map w32))):Za ZHv 238 [.ptr z 0] T λr S=>r=.ret (.tup [])/\S=T.upd z (.cells ((Zgv 8 0 s).map w32)):=by
 refine Zb (cR 238 f238) λF hF=>?_;obtain⟨R,hR⟩:∃R,Zgv 8 0 s=R:=⟨_,rfl⟩;rw[hR]at hF;refine rg ?_;refine Zd (fr (8) (λi Q=>∀s1,S16 s1->Zgv (8-i) i s1=R->i<=8->Q [(0,.d (.ptr z 0)),(12,.d (.agg ZAv)),(13,.d (.i i))] [] (T.upd z (.cells (s1.map w32)))) (λn ab=>?_) λai=>?_);intro i hn2 s1 t hp hi;refine rg ?_;refine Zc (Zn rfl trivial (λhd=>?_) (λhd=>?_));simp only[decide_eq_true_eq]at hd;have ad:i<8:=ω;have ag:ZAv.length=32:=rfl;have ah:=ZB0 ad;refine xA (nd2 @ag @ah) ?_;have hS:=t.1;have hq4:=Zvk (a:=s1.getD (qA i) 0) (b:=s1.getD (qB i) 0) (c:=s1.getD (qC i) 0) (d:=s1.getD (qD i) 0) ⟨t.at_ _,t.at_ _,t.at_ _,t.at_ _⟩;have af:=Zlw (a:=s1.getD (qA i) 0) (b:=s1.getD (qB i) 0) (c:=s1.getD (qC i) 0) (d:=s1.getD (qD i) 0) ⟨t.at_ _,t.at_ _,t.at_ _,t.at_ _⟩;obtain⟨la,lb,lc,ld⟩:=ZDG ad;have ra:=ZhA (s:=s1) (q:=qA i) ω;have rb:=ZhA (s:=s1) (q:=qB i) ω;have rc:=ZhA (s:=s1) (q:=qC i) ω;have rd:=ZhA (s:=s1) (q:=qD i) ω;have u:qSt i s1=(((s1.set (qA i) (Zd3 (s1.getD (qA i) 0) (s1.getD (qB i) 0) (s1.getD (qC i) 0) (s1.getD (qD i) 0)).1).set (qB i) (Zd3 (s1.getD (qA i) 0) (s1.getD (qB i) 0) (s1.getD (qC i) 0) (s1.getD (qD i) 0)).2.1).set (qC i) (Zd3 (s1.getD (qA i) 0) (s1.getD (qB i) 0) (s1.getD (qC i) 0) (s1.getD (qD i) 0)).2.2.1).set (qD i) (Zd3 (s1.getD (qA i) 0) (s1.getD (qB i) 0) (s1.getD (qC i) 0) (s1.getD (qD i) 0)).2.2.2:=rfl;have ac:=t.q i;rw[show 8-i=(8-(i+1))+1 by omega,Zxr]at hp;generalize qA i=a at *;generalize qB i=b at *;generalize qC i=c at *;generalize qD i=d at *;generalize Zd3 (s1.getD a 0) (s1.getD b 0) (s1.getD c 0) (s1.getD d 0)=q at *;obtain⟨y1,y2,y3,y4⟩:=q;simp only at u af;rw[u]at hp ac;have e1:=Zls (s:=s1) y1 (show a<I s1 by omega);have e2:=Zls (s:=s1.set a y1) y2 (show b<_ by rw[List.length_set];omega);have e3:=Zls (s:=(s1.set a y1).set b y2) y3 (show c<_ by rw[List.length_set,List.length_set];omega);have e4:=Zls (s:=((s1.set a y1).set b y2).set c y3) y4 (show d<_ by rw[List.length_set,List.length_set,List.length_set];omega);refine rh ?_;refine Yt ?_;simp(maxSteps:=1000000) only[Eqs,reduceCtorEq,ZHC,reduceIte,ZHz,ZHE,ZHA,ZHB,ra,rb,rc,rd,hS,Nat.reduceMul];repeat(refine ZHy (by first|omega|trivial|(intro h0;simp at h0;omega)) ?_)
 refine ZfM rfl rfl rfl rfl rfl φ φ (by exact af) (Yt ?_);simp(maxSteps:=1000000) only[Eqs,reduceCtorEq,ZHC,reduceIte,ZHz,ZHE,ZHA,ZHB,ZHO,e1,e2,e3,e4,hS,ZHS,List.length_set,Nat.reduceMul];refine aa ?_;rw[<-u];rw[<-u]at hp ac;refine gA ?_;refine Ze ?_;exact ab ((8)-(i+1)) ω (i+1) rfl (qSt i s1) ac hp ω;simp only[decide_eq_false_iff_not]at hd;obtain rfl:i=8:=ω;rw[Nat.sub_self,Zxs]at hp;refine ZS rfl ?_;exact hF.fin (.tup []) _ rfl trivial (ZHx _) ZHw ⟨rfl,by rw[hp]⟩;have ae:=ai _ 0 rfl s hs hR ω;rw[St.upd_self hz]at ae;exact ae
end Go.DL
namespace Go.Proofs
open Go.Shelf
def Tryz.growI_ren:Go.Shelf.Ren:=⟨λ|4=>236|n=>n,λ|22=>230|25=>3|3=>3|4=>4|9=>9|20=>20|0=>0|n=>n,λ|n=>n⟩
def Tryz.growI:Go.Proofs.Lays8.n4 ZHv Tryz.growI_ren:={
 mixed:=by kernel_rfl
 f4:=⟨Tryz.f236.name,by decide,Tryz.func236.trans (congrArg sO (by kernel_rfl))⟩
 t0:=Tryz.underlying0
 a0:=Tryz.isAgg0
 z0:=Tryz.sizeOf0
 v0:=Tryz.zeroValue0
 t3:=Tryz.underlying3
 a3:=Tryz.isAgg3
 z3:=Tryz.sizeOf3
 v3:=Tryz.zeroValue3
 t4:=Tryz.underlying4
 a4:=Tryz.isAgg4
 z4:=Tryz.sizeOf4
 v4:=Tryz.zeroValue4
 t9:=Tryz.underlying9
 a9:=Tryz.isAgg9
 z9:=Tryz.sizeOf9
 v9:=Tryz.zeroValue9
 t20:=Tryz.underlying20
 a20:=Tryz.isAgg20
 z20:=Tryz.sizeOf20
 v20:=Tryz.zeroValue20
 t22:=Tryz.underlying230
 a22:=Tryz.isAgg230
 z22:=Tryz.sizeOf230
 v22:=Tryz.zeroValue230 }
end Go.Proofs
namespace Go.DL
open Go Go.Proofs Go.Lib
def itC(x:Int):List D:=[.i x]
def Qw(l:List Int):D:=slD 1 itC l
def liC(l:List Int):List D:=[Qw l]
def ZiO{l:List (List Int)}{i:Nat}(h:i<I l):(l.take (i+1)).flatten=(l.take i).flatten++l.getD i dE:=by
 rw[Yi h,List.flatten_append];simp
def Zdo(l:List (List Int))(i:Nat):(l.take i).flatten.length<=I l.flatten:=by
 conv=>rhs;rw[<-List.take_append_drop i l,List.flatten_append,ZHF]
 omega
def ZkF(n:Nat)(hn:n<=1000000)(st:St):Za ZHv 236 [.nilsl,.i n] st λr S=>∃t:Tok,r=.ret (.sl t 0 1 λ_=>[])/\t.okIn st/\S=st.own t 0:=by
 refine⟨⟨_,Tryz.func236,by kernel_rfl,by kernel_rfl⟩,λg w vs hs ha=>?_⟩;cases ha with
 |cons h1 ha =>
 cases ha with
 |cons h2 ha =>
 cases ha;cases h1;cases h2;by_cases h0:n=0;subst h0;refine(Any8.slices_Grow_room Tryz.growI nO 0 0 0 w ω ω ω ω).mono ?_;rintro e w' ⟨rfl,rfl⟩;exact⟨g,st,.ret (.sl .full 0 1 λ_=>[]),Ext.refl g _,hs,.sl0 _ _ _ _ ψ,.full,rfl,trivial,rfl⟩;have hz:Zaa ZHv (Tryz.growI_ren.t 25)=sO [.i 0]:=by kernel_rfl
 have ai:ZP ZHv (Tryz.growI_ren.t 25)=sO 1:=by kernel_rfl
 have af:Program.bytesOf ZHv (Tryz.growI_ren.t 25)=8:=by kernel_rfl
 obtain⟨zv,hz1,aj,hz3,ie,ac,ak⟩:=KK (g:=g) (w:=w) hz;have hsize:ie.size=1:=by simpa[ZP,ac]using ai
 have u:ie.bytes=8:=by rw[<-af];simp[Program.bytesOf,ac]
 have ad:zv.cells.size=1:=by have:=aj.len;simpa using this
 refine(Any8.slices_Grow_grow Tryz.growI ie zv ac ak ω nO 0 0 n [] w ω ω (by rw[u];omega) ω ψ (λ_=>rfl) (λa h=>by simp at h)).mono ?_;rintro e w' ⟨rfl,rfl⟩;have hge:=grownCap_ge w (0+n) 0 (Tryz.growI_ren.t 25);have ag:=grownCap_le_maxLen w (0+n) 0 (Tryz.growI_ren.t 25) (by simp only[maxLen];omega);have ah:Wx g w 1 0 [] (λ_=>[]):=⟨ψ,λi hi=>by omega,λi j v d hi=>by omega,ψ⟩;have ab:=Zpk (T:=Tryz.growI_ren.t 25) (cap:=grownCap w (0+n) 0 (Tryz.growI_ren.t 25)) (rest:=(Builtin.zeroCells zv.cells (0+n-0)++Builtin.zeroCells zv.cells (grownCap w (0+n) 0 (Tryz.growI_ren.t 25)-(0+n))).toList) hs ah (Nat.zero_le _) (by
  simp only[List.length_nil,Array.toList_append,ZHF,Array.length_toList,size_zeroCells,ad];omega) (by simp only[maxLen]at ag;simp only[big];omega)
 have ae:∀A B:Array Value,(([]:List Value)++(A++B).toList).toArray=([]:List Value).toArray++A++B:=by intro A B;simp
 rw[ae]at ab;obtain⟨a1,a2,a3,a4⟩:=ab;refine⟨_,_,.ret (.sl (.tip w.heap.size) 0 1 λ_=>[]),a1.ext hs.fresh,a2,a4,.tip w.heap.size,rfl,a3,rfl⟩
def Ziz(ls:List (List Int))(hls:I ls<=1000)(hb:I ls.flatten<=1000000)(st:St):Za ZHv 197 [slD 1 liC ls] st (λr S=>r=.ret (Qw ls.flatten)/\S=st):=by
 refine Zb (cR 197 f197) λF hF=>?_;refine gG ?_;refine rx @eQ1 ?_;refine Zd (fr (I ls) (λi Q=>i<=I ls->Q [(0,.d (slD 1 liC ls)),(3,.d (.i ((ls.take i).flatten.length:Nat))),(9,.d (slD 1 liC ls)),(10,.d (.i (I ls))),(11,.d (.i i))] [] st) (λn af=>?_) λam=>?_);intro i hn hi;have aj:=Zdo ls i;refine rg ?_;refine Zc (Zn rfl trivial (λh1=>?_) (λh1=>?_));simp at h1;have ac:=congrArg List.length (ZiO h1);have ag:=Zdo ls (i+1);rw[ZHF]at ac;generalize hx:ls.getD i dE=x at *;refine xA (nd2 @eQ1 (nd2 @liC.eq_1 @hx)) ?_;refine xA (nd2 @Qw.eq_1 @eQ1) ?_;refine rg ?_;refine Zn rfl trivial (λh=>by simp at h;omega) (λ_=>?_);refine gA ?_;refine Ze ?_;have t:=af ((I ls)-(i+1)) ω (i+1) rfl ω;rw[ac,Int.natCast_add]at t;exact t;simp at h1;obtain rfl:i=I ls:=ω;rw[ZH0];refine rg ?_;refine cV (ZkF (I ls.flatten) hb st) ?_ ?_;rintro d S ⟨tk,hd,ae,rfl⟩;cases hd;refine gR0 ?_;refine rx @eQ1 ?_;have ai:ZU itC (λ_=>[]) []:=ZU.nil;refine Zd (fr (I ls) (λk Q=>∀tk row ab,tk.okIn st->ZU itC row ab->ab=(ls.take k).flatten->k<=I ls->Q [(6,.d (.sl tk (I ab) 1 row)),(25,.d (slD 1 liC ls)),(26,.d (.i (I ls))),(27,.d (.i k))] [] (st.own tk (I ab*1))) (λn ad=>?_) λak=>?_);clear ae;intro k hnk tk row ab ae ah u hk;have aj:=Zdo ls k;rw[<-u]at aj;refine rx @eQ1 ?_;refine Zc (Zn rfl trivial (λh2=>?_) (λh2=>?_));simp at h2;have ac:=ZiO h2;have ag:=Zdo ls (k+1);rw[ac,ZHF,<-u]at ag;generalize hx:ls.getD k dE=x at *;refine xA (nd2 @eQ1 (nd2 @liC.eq_1 @hx)) ?_;refine rx (nd2 @Qw.eq_1 @eQ1) ?_;refine JA (st) (tk) rfl rfl rfl rfl rfl rfl φ φ rfl (by first|trivial|assumption) ω (by (unfold big;omega)) λt1 al=>Zm ?_;simp only[Eqs,reduceCtorEq,ZHC,reduceIte,ZHz,ZHE,ZHA];refine gA ?_;refine Ze ?_;have t:=ad ((I ls)-(k+1)) ω (k+1) rfl t1 _ (ab++x) al (ah.app (ZU.self (l:=x)) rfl) (by rw[ac,u]) ω;rw[ZHF]at t;exact t;simp at h2;obtain rfl:k=I ls:=ω;rw[ZH0]at u;refine rg ?_;refine hF.ret _ st rfl φ (K5 (ah.le rfl)) (YR ae) ⟨by rw[u];rfl,rfl⟩;exact ak _ 0 rfl tk _ [] ae ai rfl ω;rintro d S ⟨tk,hd,_⟩;cases hd;have hk:=am _ 0 rfl ω;rw[List.take_zero,List.flatten_nil]at hk;exact hk
def ZfK(l f p)(sts:Nat->St)
  (hf:∀i,i<I l->VT ZHv f [.i (l.getD i dE)] (sts i) (.bool (p (l.getD i dE))) (sts (i+1))) :
  ZL ZHv 237 [slD 1 itC l,f] (sts 0) (.i (Zj p l)) (sts (KB p l)):=by
 refine ZE (cR 237 f237) λad F t=>?_;have hw:=(WE (ad (slD 1 itC l) ψ)).1;unfold big at hw;clear ad;refine rx @eQ1 ?_;refine rx @eQ1 ?_;refine Zd (fr (I l) (λi Q=>i<=I l->(∀j,j<i->p (l.getD j dE)=false)->Q [(0,.d (slD 1 itC l)),(1,.d f),(7,.d (.i (I l))),(8,.d (.i i))] [] (sts i)) (λn ab=>?_) λae=>?_);intro i hn hi u;refine rx @eQ1 ?_;refine Zc (Zn rfl trivial (λh1=>?_) (λh1=>?_));simp at h1;refine rx @eQ1 ?_;refine xA (nd2 @eQ1 @itC.eq_1) ?_;refine cW (hf i h1) ?_;refine cd (λh2=>?_) (λh2=>?_);have e1:=WZ h1 h2 u;have e2:=ZaR h1 h2 u;rw[e1,e2]at t;refine rg ?_;exact t rfl φ (ZHx _) ZHw;refine gA ?_;refine Ze ?_;exact ab ((I l)-(i+1)) ω (i+1) rfl ω (Yb (q:=λj=>p (l.getD j dE)=false) u h2);simp at h1;obtain rfl:i=I l:=ω;have ac:∀x∈l,p x=false:=λx hx=>by obtain⟨j,hj,rfl⟩:=ZHR hx;have:=u j hj;simpa[ZHL,hj]using this
 rw[Wc ac,Jk ac]at t;refine rg ?_;exact t rfl φ (ZHx _) ZHw;exact ae _ 0 rfl ω (by intro j hj;omega)
def Zd7(l f p)(sts:Nat->St)
  (hf:∀i,i<I l->VT ZHv f [.i (l.getD i dE)] (sts i) (.bool (p (l.getD i dE))) (sts (i+1))) :
  ZL ZHv 198 [slD 1 itC l,f] (sts 0) (.bool (l.any p)) (sts (KB p l)):=by
 refine ZE (cR 198 f198) λu F t=>?_;clear u;refine gG ?_;refine ct (ZfK l f p sts hf) ?_;rw[Jf]at t;exact t rfl φ (ZHx _) ZHw
end Go.DL
namespace Go.DL
open Go Go.Proofs
variable {kp:Option (List Nat)}{L:Loc}{H:Env}{s:St}{w:World}{os:List DOp}{ds:List D}{B:List (Nat × Rd)}{dst:Option Nat}{tmps:Array Value}{g:G}{Φ:Res->St->Prop}{Z:Nat->Nat}{xs:List Opd}{side:Prop}{row:Nat->List D}
def Zrd:Zf ZHv 235 [.int .u64 1,.int .u64 8] (.tup [.int .u64 0,.int .u64 8]):=by
 refine Zi (cR 235 f235) λF st i=>?_;have a1:Qf .and .u64 1 4294967295=1:=rfl;have a2:Qf .and .u64 8 4294967295=8:=rfl;have a3:Qf .and .u64 0 4294967295=0:=rfl;have s1:QE .u64 1 32=0:=rfl;have s8:QE .u64 8 32=0:=rfl;have s0:QE .u64 0 32=0:=rfl;have u:(1:Int)*8=8:=rfl;have m2:(0:Int)*8=0:=rfl;have m3:(1:Int)*0=0:=rfl;have m4:(0:Int)*0=0:=rfl;have t:(0:Int)+0=0:=rfl;refine rg ?_;refine rx @a1 ?_;refine xA @s1 ?_;refine rx @a2 ?_;refine xA @s8 ?_;refine xA @u ?_;refine xA (nd2 @m2 (nd2 @s8 @t)) ?_;refine rx @a3 ?_;refine xA @s0 ?_;refine xA (nd2 @m3 @t) ?_;refine xA (nd2 @m4 (nd2 @t @s0)) ?_;refine xA @u ?_;refine rt i ?_;rfl
def Zub:Zf ZHv 196 [.int .u64 1,.int .u64 8] (.tup [.int .u64 0,.int .u64 8]):=by
 refine Zi (cR 196 f196) λF st i=>?_;refine rg ?_;refine iG ?_;refine cl (Zrd) ?_;refine rg ?_;refine rt i ?_;rfl
def ZwD(k:Int)(n:Nat):List D:=List.replicate n (.i k)++List.replicate (8-n) (.i 0)
def ZlS(k:Int)(T:St):Za ZHv 155 [Qw [k],.i 8] T λr S=>∃z,T z=nO/\r=.ret (.msl z 0 8 8 1)/\S=T.upd z (.cells (List.replicate 8 (.i k))):=by
 refine Zb (cR 155 f155) λF u=>?_;have w1:IntKind.u64.wrap 1=1:=rfl;have w8:IntKind.u64.wrap 8=8:=rfl;have i8:IntKind.i64.wrap 8=8:=rfl;refine rg ?_;refine gI ?_;refine rx (nd2 @Qw.eq_1 (nd2 @eQ1 (nd2 @w1 @w8))) ?_;refine cl (Zub) ?_;refine gI ?_;refine rx @i8 ?_;refine⟨ω,ω,ω,by unfold big;omega,λz hz=>?_⟩;rw[show W0 [D.i 0] 8=List.replicate 8 (D.i 0) from rfl];refine rg ?_;have t:∀cs,Z1 (T.upd z (.cells cs)) z=sO cs:=λcs=>by simp only[Z1,ZHB]
 refine ZuJ rfl rfl rfl rfl φ φ (t _) (by decide) (.elems (m:=1) (row:=λi=>itC ([k].getD i dE)) rfl) (by decide) (Zm ?_);simp only[Eqs,reduceCtorEq,ZHC,reduceIte,ZHz,ZHE,ZHA,ZHO];show Zw F _ [(7,.d (.msl z 0 8 8 1)),(8,.d (.i 1))] [] (T.upd z (.cells (ZwD k 1)));refine Zc (Zd ?_);refine ZaA ?_;refine rg ?_;refine i1 ?_;refine gA ?_;refine Zi0 rfl rfl rfl rfl φ φ (t _) (by exact Nat.le_of_ble_eq_true rfl) (WX.msl (t _) (Nat.le_of_ble_eq_true rfl)) (by exact Nat.le_of_ble_eq_true rfl) (YK ?_);simp only[Eqs,reduceCtorEq,ZHC,reduceIte,ZHz,ZHE,ZHA,ZHO];refine aa ?_;show Zw F _ [(7,.d (.msl z 0 8 8 1)),(8,.d (.i 2))] [] (T.upd z (.cells (ZwD k 2)));refine Zs (Ze ?_);refine rg ?_;refine i1 ?_;refine gA ?_;refine Zi0 rfl rfl rfl rfl φ φ (t _) (by exact Nat.le_of_ble_eq_true rfl) (WX.msl (t _) (Nat.le_of_ble_eq_true rfl)) (by exact Nat.le_of_ble_eq_true rfl) (YK ?_);simp only[Eqs,reduceCtorEq,ZHC,reduceIte,ZHz,ZHE,ZHA,ZHO];refine aa ?_;show Zw F _ [(7,.d (.msl z 0 8 8 1)),(8,.d (.i 4))] [] (T.upd z (.cells (ZwD k 4)));refine Zs (Ze ?_);refine rg ?_;refine i1 ?_;refine gA ?_;refine Zi0 rfl rfl rfl rfl φ φ (t _) (by exact Nat.le_of_ble_eq_true rfl) (WX.msl (t _) (Nat.le_of_ble_eq_true rfl)) (by exact Nat.le_of_ble_eq_true rfl) (YK ?_);simp only[Eqs,reduceCtorEq,ZHC,reduceIte,ZHz,ZHE,ZHA,ZHO];refine aa ?_;show Zw F _ [(7,.d (.msl z 0 8 8 1)),(8,.d (.i 8))] [] (T.upd z (.cells (ZwD k 8)));refine Zs (Ze ?_);refine rg ?_;refine iG ?_;exact u.ret (.msl z 0 8 8 1) _ rfl φ (ZHx _) ZHw ⟨z,hz,rfl,rfl⟩
def Qv:List Hdr->Nat
 | []=>0
 |h::r=>I h.name+I h.text+Qv r
mutual
def wtN:Val->Nat
 |.mk n _ b h p=>10+I n+I b+Qv h+wtL p
def wtL:List Val->Nat
 | []=>0
 |v::r=>wtN v+wtL r
end
def Zax(v):wtN v=10+I v.name+I v.bytes+Qv v.hdrs+wtL v.parts:=by cases v;rfl
def Zvf(v):10*ZdJ v<=wtN v:=by
 induction v using Val.ind with
 |h v ih =>
  rw[Zax,ZaO];have:∀l:List Val,(∀x∈l,10*ZdJ x<=wtN x)->10*nodesL l<=wtL l:=λl i=>by
   induction l with
   |nil=>simp[nodesL]
   |cons a r ih2 =>have h1:=i a ψ;have h2:=ih2 λx t=>i x (by simp[t]);simp only[nodesL,wtL];omega
  have:=this v.parts ih;omega
def Zvz{l x}(h:x∈l):wtN x<=wtL l:=by
 induction l with
 |nil=>simp at h
 |cons v r ih =>rcases List.mem_cons.1 h with rfl|h;simp only[wtL];omega;have:=ih h;simp only[wtL];omega
def hsW(n:Int)(l:List Hdr):Int:=l.foldl (λa h=>IntKind.i64.wrap (IntKind.i64.wrap (a+I h.name)+I h.text)) n
def ZzK{n}{l:List Hdr}{i}(h:i<I l):IntKind.i64.wrap (IntKind.i64.wrap (hsW n (l.take i)+(l.getD i dE).name.length)+(l.getD i dE).text.length)=hsW n (l.take (i+1)):=by
 rw[Yi h];simp[hsW]
def Zdd(f:Val->Int):Int->List Val->Int
 |n,[]=>n
 |n,x::r=>if n<=5000 then Zdd f (IntKind.i64.wrap (n+f x)) r else n
def ZqY{f n}{l:List Val}{i}(h:i<I l):Zdd f n (l.drop i)=if n<=5000 then Zdd f (IntKind.i64.wrap (n+f (l.getD i dE))) (l.drop (i+1)) else n:=by
 rw[Wp h];rfl
def Zp7(f:Val->Int)(v:Val)(depth:Int):Int :=
 if (dC (50<depth) ||decide ((500:Int)<I v.parts)) ||decide ((50:Int)<I v.hdrs) then 5001
 else Zdd f (hsW (IntKind.i64.wrap (IntKind.i64.wrap (10+I v.name)+I v.bytes)) v.hdrs) v.parts
def ZqE:∀(l) (n:Int),0<=n->n+Qv l<=1000000000000->hsW n l=n+Qv l
 | [],n,_,_=>by simp[hsW,Qv]
 |h::r,n,h0,h1=>by simp only[Qv]at h1⊢;have e:hsW n (h::r)=hsW (IntKind.i64.wrap (IntKind.i64.wrap (n+I h.name)+I h.text)) r:=rfl;rw[e,Ks (n:=n+I h.name) ω,Ks ω,ZqE r _ ω ω];omega
def ZpY(f:Val->Int):List Val->Int
 | []=>0
 |x::r=>f x+ZpY f r
def Zvr{f M}(hM:0<=M/\M<=900000000000):∀(l n),0<=n->n<=1000000000000->(∀x∈l,0<=f x/\f x<=M)->n<=Zdd f n l/\Zdd f n l<=max n (5000+M)/\(Zdd f n l<=5000->Zdd f n l=n+ZpY f l/\∀x∈l,f x<=5000)
 | [],n,h0,h1,_=>by simp only[Zdd,ZpY];exact⟨ω,ω,λ_=>⟨ω,λx t=>by simp at t⟩⟩
 |x::r,n,h0,h1,hf=>by have t:=hf x ψ;simp only[Zdd,ZpY];by_cases i:n<=5000;rw[if_pos i,Ks ω];obtain⟨a,b,c⟩:=Zvr hM r (n+f x) ω ω λy hy=>hf y (by simp[hy]);refine⟨ω,ω,λhr=>?_⟩;obtain⟨c1,u⟩:=c hr;refine⟨ω,λy hy=>?_⟩;rcases List.mem_cons.1 hy with rfl|hy;omega;exact u y hy;rw[if_neg i];exact⟨ω,ω,λh=>by omega⟩
def Zwf{l k}(h:∀x∈l,ZZ x<=k):heightL l<=k:=by
 induction l with
 |nil=>simp[heightL]
 |cons v r ih =>have h1:=h v ψ;have h2:=ih λx i=>h x (by simp[i]);simp only[heightL];omega
def ZC6{f:Val->Int}{l}(h:∀x∈l,f x=wtN x):ZpY f l=wtL l:=by
 induction l with
 |nil=>rfl
 |cons v r ih =>have h1:=h v ψ;have h2:=ih λx i=>h x (by simp[i]);simp only[ZpY,wtL];omega
def Zl3{s}(h:Y8 s=true):1<=I s/\I s<=32:=by
 cases s with
 |nil=>simp[Y8]at h
 |cons c r =>simp only[Y8,ZHG,decide_eq_true_eq]at h;exact⟨ψ,h.1.1⟩
def ZzI{l}(h:l.any ZdH=false):Qv l<=2097152*I l:=by
 induction l with
 |nil=>simp[Qv]
 |cons a r ih =>rw[List.any_cons,Bool.or_eq_false_iff]at h;have h2:=ih h.2;have i:=h.1;unfold ZdH at i;simp only[Bool.or_eq_false_iff,decide_eq_false_iff_not]at i;simp only[Qv,ZHN];omega
def QC{v}(h:Zac v=true):(1<=I v.name/\I v.name<=32)/\(0<=v.int/\v.int<34359738368)/\I v.bytes<=1048576/\I v.hdrs<=100/\Qv v.hdrs<=2097152*I v.hdrs/\Y8 v.name=true:=by
 unfold Zac at h;simp only[ZHG,decide_eq_true_eq,Bool.not_eq_true']at h;obtain⟨⟨⟨⟨⟨i,t⟩,u⟩,h4⟩,h5⟩,h6⟩:=h;exact⟨Zl3 i,⟨t,u⟩,ω,ω,ZzI h6,i⟩
def Zo1{h:Hdr}:Zf ZHv 89 [.agg h.cells] (.bool (ZdH h)):=by
 refine Zi (cR 89 f89) λF st i=>?_;have t:dC ((1048576:Int)<max (I h.name:Int) (I h.text:Int))=ZdH h:=by unfold ZdH;rw[<-Bool.decide_or];exact decide_eq_decide.2 ω
 refine rx @Hdr.cells.eq_1 ?_;refine rg ?_;refine rb i ?_;exact t
def Zp5(l):Zf ZHv 90 [slD 2 Hdr.cells l,.fn (.func 89) [] []] (.bool (l.any ZdH)) :=
 λst=>Jz l (λ_=>st) λi _=> Zo1.VT (first:=[]) (caps:=[]) st
def ZrD(v):Zf ZHv 58 [.agg v.cells] (.bool (Zac v)):=by
 refine Zi (cR 58 f58) λF st i=>?_;rw[v.cells_eq];refine gG ?_;refine rx (nd2 @QA @ZjN) ?_;refine cX (nd2 @QA @ZjN) (ZaT _) ?_;refine cG (Zp5 v.hdrs) ?_;refine rb i ?_;unfold Zac;rfl
mutual
def Qi:Val->Int->List (Int×Val)
 |.mk n i b hd p,h=>(h,.mk n i b hd p)::preWL p (IntKind.i64.wrap (h+1))
def preWL:List Val->Int->List (Int×Val)
 | [],_=>[]
 |v::r,h=>Qi v h++preWL r h
end
def Zhn(v)(h:Int):Qi v h=(h,v)::preWL v.parts (IntKind.i64.wrap (h+1)):=by cases v;rfl
def Zor{l:List Val}{i}(h:i<I l)(k):preWL (l.take (i+1)) k=preWL (l.take i) k++Qi (l.getD i dE) k:=by
 rw[Yi h];generalize l.getD i dE=x;induction l.take i with
 |nil=>simp[preWL]
 |cons y r ih=>simp only[List.cons_append,preWL,ih,ZHY]
def Zuk{l i}(h:i<I l)(k):preWL l k=preWL (l.take i) k++(Qi (l.getD i dE) k++preWL (l.drop (i+1)) k):=by
 have t:∀a b:List Val,preWL (a++b) k=preWL a k++preWL b k:=λa b=>by
  induction a with
  |nil=>rfl
  |cons x r ih=>simp only[List.cons_append,preWL,ih,ZHY]
 conv=>lhs;rw[<-List.take_append_drop (i+1) l]
 rw[t,Zor h,ZHY]
def hvA(L:List (Int×Val))(j:Nat):List D:=[.i (L.getD j dE).1,.agg (L.getD j dE).2.cells]
def Zdm(v:Val)(h:Int)(za zv:Nat):St:=(ZH1 za (.cells [.i h])).or (ZH1 zv (.cells v.cells))
def ZBg{v}{h:Int}{za zv}:(Zdm v h za zv) za=sO (.cells [.i h]):=Zt Yl
def ZBh{v}{h:Int}{za zv}(i:zv≠za):(Zdm v h za zv) zv=sO (.cells v.cells):=by
 unfold Zdm;rw[ZF (ZaS i)];exact Yl
def Zqo{st v}{h:Int}{za zv}(u:st za=nO)(h3:st zv=nO):Z4 st (Zdm v h za zv):=λb o i=>by
 unfold Zdm at i;cases t:(ZH1 za (.cells [.i h])) b with
 |some x=>exact W6 u _ _ t
 |none=>rw[ZF t]at i;exact W6 h3 _ _ i
def ZiS(v)(h:Int)(st):Za ZHv 57 [.agg v.cells,.i h] st λr S=>∃t u,st t=nO/\st u=nO/\u≠t/\r=.ret (.fn (.func 88) [] [.ptr t 0,.ptr u 0])/\S=st.or (Zdm v h t u):=by
 refine Zb (cR 57 f57) λF hF=>?_;have hE:∀t u,Zdm v h t u=(ZH1 t (.cells [.i h])).or (ZH1 u (.cells v.cells)):=λ_ _=>rfl;rw[v.cells_eq]at hE⊢;refine rg ?_;refine Zc ?_;refine xP 3 λt ha=>?_;refine xP 2 λu hv=>?_;have i:=Zo hv;refine rg ?_;refine hF.ret _ _ rfl φ (ZHx _) ZHw ⟨t,u,ha,i.2,i.1,rfl,?_⟩;rw[Qn hv,Qn ha,or_assoc,hE]
def Mk.or{T a}:∀{qs S},Mk T qs S->Z4 a S->Mk (a.or T) qs (a.or S)
 | [],S,hm,_=>by rw[show S=T from hm];rfl
 |q::qs,S,hm,hd=>by
  obtain⟨S',h1,h2,rfl⟩:=hm;have hq:a q=nO:=hd q _ (ZHB _ _ _);have i:Z4 a S':=λb o u=>hd b o (by rw[ZHD _ _ (λe=>by rw[e,h2]at u;simp at u)];exact u);refine⟨a.or S',h1.or i,by rw[ZF hq];exact h2,?_⟩;funext c;by_cases hc:c=q;subst hc;rw[ZHB,ZF hq,ZHB];rw[ZHD _ _ hc];cases t:a c with
  |some x=>rw[Zt t,Zt t]
  |none=>rw[ZF t,ZF t,ZHD _ _ hc]
def Mk.unwS{P A m Ψ}(h:Ψ m A):∀{qs S},Mk A qs S->Unw P (qs.map .mark) m S Ψ
 | [],S,hm=>by rw[show S=A from hm];exact h
 |q::qs,S,hm=>by
  obtain⟨S',t,u,rfl⟩:=hm;refine⟨ZHB _ _ _,?_⟩;have e:(S'.upd q .dfr).del q=S':=by funext c;by_cases i:c=q;subst i;simp[St.del,u];simp[St.del,ZH7,i]
  rw[e];exact Mk.unwS h t
def Jb{s t:St}{b}(h:(s.or t) b=nO):s b=nO/\t b=nO:=by
 cases i:s b with
 |none=>rw[ZF i]at h;exact⟨rfl,h⟩
 |some o=>rw[Zt i]at h;simp at h
def ZBe{a s t}(h1:Z4 a s)(h2:Z4 (a.or s) t):Z4 a (s.or t):=λb o i=>by
 cases u:s b with
 |some x=>exact h1 b x u
 |none =>rw[ZF u]at i;exact(Jb (h2 b o i)).1
def Zhl{s t:St}{b o}(h:s b=nO):(s.or t).upd b o=s.or (t.upd b o):=by
 funext c;by_cases u:c=b;subst u;rw[ZHB,ZF h,ZHB];rw[ZHD _ _ u];cases i:s c with
 |some x=>rw[Zt i,Zt i]
 |none=>rw[ZF i,ZF i,ZHD _ _ u]
def ZfS{s t b o}(hd:Z4 s t)(h:s b=nO):Z4 s (t.upd b o):=λc x u=>by
 by_cases i:c=b;subst i;exact h;rw[ZHD _ _ i]at u;exact hd c x u
def ZsM{s a t u:St}(h1:Z4 s (t.or u))(h2:Z4 (a.or t) u):Z4 s t/\Z4 (s.or t) u:=by
 refine⟨λb o i=>h1 b o (Zt i),λb o i=>?_⟩;have h3:=(Jb (h2 b o i)).2;have h4:=h1 b o (by rw[ZF h3];exact i);rw[ZF h4];exact h3
def goE(go:Nat->Oc)(k j:Nat):Oc:=match go (k+j) with
 |.next=>.next
 |.stop _=>.stop (.exit 0)
 |.pan d=>.pan d
def ZzE{i k j}(h:goE i k j=.next):i (k+j)=.next:=by
 unfold goE at h;split at h<;>first|assumption|simp at h
def Zlc{i k n}(t:∀j,j<k->i j=.next)(u:∀j,j<n->goE i k j=.next):∀j,j<k+n->i j=.next:=λj hj=>by
 by_cases h:j<k;exact t j h;have:=ZzE (u (j-k) ω)
 rwa [show k+(j-k)=j by omega]at this
def ZzB{α:Type}[Inhabited α]{a b c:List α}{k j}(t:k=I a)(i:j<I b):(a++(b++c)).getD (k+j) dE=b.getD j dE:=by
 subst t;simp[ZHL,ZIf,ZHW i]
def ZoZ(v):∀(h:Int) (za zv),zv≠za->Zi6 ZHv (.fn (.func 88) [] [.ptr za 0,.ptr zv 0]) (Qi v h).length (hvA (Qi v h)) (Zdm v h za zv):=by
 induction v using Val.ind with
 |h v ih =>
 intro h za zv bb l go A a0 al hA hd;have hL:=Zhn v h;obtain⟨h1,a6⟩:∃h1,h1=IntKind.i64.wrap (h+1):=⟨_,rfl⟩;rw[<-a6]at hL;generalize Qi v h=LL at *;have aq:0<LL.length:=by rw[hL];simp
 have be:hvA LL 0=[.i h,.agg [.str v.name,.i v.int,Zh v.bytes,Yc v.hdrs,ZY v.parts]]:=by unfold hvA;rw[hL,<-ZHZ];rfl
 refine Za.V (first:=[]) (args:=[.fn (.yield l) [] []]) (caps:=[.ptr za 0,.ptr zv 0]) (Zb (cR 88 f88) λF hF=>?_);have ga:=ZBg (v:=v) (h:=h) (za:=za) (zv:=zv);have gv:=ZBh (v:=v) (h:=h) bb;rw[ZHZ]at gv;generalize Zdm v h za zv=T at *;refine rg ?_;refine Yr (Zc (Zc ?_));refine xP 3 λz3 h3=>?_;obtain⟨av,ak⟩:=Jb h3;have a9:((a0.or T).upd z3 (.cells [.fn (.yield l) [] []]))=a0.or (T.upd z3 (.cells [.fn (.yield l) [] []])):=Zhl av;rw[a9];clear a9;have am:=ZfS (o:=.cells [.fn (.yield l) [] []]) hd av;have g3:(T.upd z3 (.cells [.fn (.yield l) [] []])) z3=sO (.cells [.fn (.yield l) [] []]):=ZHB _ _ _;have ay:(T.upd z3 (.cells [.fn (.yield l) [] []])) za=sO (.cells [.i h]):=by rw[ZHD _ _ (λe=>by rw[<-e,ga]at ak;simp at ak)];exact ga
 have az:(T.upd z3 (.cells [.fn (.yield l) [] []])) zv=sO (.cells [.str v.name,.i v.int,Zh v.bytes,Yc v.hdrs,ZY v.parts]):=by rw[ZHD _ _ (λe=>by rw[<-e,gv]at ak;simp at ak)];exact gv
 clear h3 av ak ga gv hd;generalize (T.upd z3 (.cells [.fn (.yield l) [] []]))=T3 at *;have rd:∀{a Tq:St} {b:Nat} {o:QL},Z4 a Tq->Tq b=sO o->(a.or Tq) b=sO o:=λao hb=>by rw[ZF (ao _ _ hb)];exact hb
 have u:=(al 0 aq (λi hi=>absurd hi (Nat.not_lt_zero _)) a0 hA).frame am;rw[be]at u;refine rh ?_;refine Zm ?_;simp only[Eqs,reduceCtorEq,ZHC,reduceIte,ZHz,ZHE,ZHA,rd am g3,rd am ay,rd am az];refine vV (u) ?_ ?_
 .rintro d S ⟨s',⟨hr,ac⟩,ad,rfl⟩;cases t:go 0 with
  |next =>
   rw[t]at hr;cases hr;refine gR0 ?_;refine i0 ?_;refine rh ?_;refine Zm ?_;simp only[Eqs,reduceCtorEq,ZHC,reduceIte,ZHz,ZHE,ZHA,rd ad az,Zc6];refine ZAM 14 rfl λba=>?_;have hw:=ZtY ba;unfold big at hw;clear ba u am hA;refine Zd ?_;refine lpU (λQ=>∀(n i:Nat),(I v.parts)-i=n->∀(F:Fr ZHv) (qs:List Nat) (Tq a:St),YJ F [] (λr S=>∃a,Zg1 LL.length go A a r/\a.sub S) (qs.map .mark)->Mk T3 qs Tq->Z4 a Tq->A (1+(preWL (v.parts.take i) h1).length) a->(∀j,j<1+(preWL (v.parts.take i) h1).length->go j=.next)->i<=I v.parts->Q F [(1,.d (.ptr za 0)),(3,.d (.ptr z3 0)),(14,.d (ZY v.parts)),(15,.d (.i (I v.parts))),(16,.d (.i i))] [] (a.or Tq)) ?_ λbg=>?_
   .intro n;induction n using Nat.strongRecOn with
    |ind n ih_key =>
    clear ad ac t hF s';intro i hn F qs Tq a hF aj ao hA ah hi;refine rg ?_;refine Zc (Zn rfl trivial (λhc=>?_) (λhc=>?_))
    .simp at hc;have bc:=QX hc;have a8:=ZD hc;have hT:=Zor hc h1;have hS:=Zuk hc h1;have bf:=ih _ a8;generalize hk:1+(preWL (v.parts.take i) h1).length=k at *;generalize hx:v.parts.getD i dE=x at *;refine xA (nd2 @atV @bc) ?_;refine rh ?_;refine WH ?_;simp only[Eqs,reduceCtorEq,ZHC,reduceIte,ZHz,ZHE,ZHA,WY,Ku,rd ao (aj.get ay)];refine ZbS rfl rfl rfl φ (WH ?_);simp only[Eqs,reduceCtorEq,ZHC,reduceIte,ZHz,ZHE,ZHA,WY,Ku];rw[<-a6];have a5:=ZiS x h1 (a.or Tq);rw[ZHZ]at a5;refine cV (a5) ?_ ?_
     .rintro dd S ⟨zx,zy,n1,n2,ne,hr,rfl⟩;cases hr;refine gR0 ?_;refine Zd ?_;refine KM hF rfl trivial [1,3,14,15,16] (by show([1,3,14,15,16]:List Nat).Nodup;decide) (Zqo n1 n2) (bf h1 zx zy ne) (λj hj=>rfl) (goE go k) (λj s=>∃a,s=a.or Tq/\A (k+j) a/\Z4 a Tq) ⟨a,rfl,hA,ao⟩ ?_ ?_ ?_ ?_ ?_ ?_
      .rintro j _ hj ab ⟨a1,rfl,af,ae⟩ F' ready busy hdr a4 ap;have a7:LL.getD (k+j) dE=(Qi x h1).getD j dE:=by rw[hL,hS,<-hk,<-List.cons_append];exact ZzB (by simp;omega) hj
       have ar:k+j<LL.length:=by rw[hL,hS];simp only[ZHN,ZHF];omega
       have u:=al (k+j) ar (λi hi=>Zlc ah ab i hi) a1 af;unfold hvA at u;rw[a7]at u;simp only[Eqs,reduceCtorEq,ZHC,reduceIte,ZHz,ZHE,ZHA,WL,Kd,Ji,Km,List.isEmpty_nil,List.isEmpty_cons,hvA];generalize (Qi x h1).getD j dE=g at *;obtain⟨gh,gx⟩:=g;simp only[ZHZ]at u⊢;refine gG ?_;refine a4 λax=>?_;have ai:=u.frame (ZBe ae ax);rw[<-or_assoc]at ai;refine rh ?_;refine Zm ?_;simp only[Eqs,reduceCtorEq,ZHC,reduceIte,ZHz,ZHE,ZHA,Zt (rd ae (aj.get g3))];refine vV (ai) ?_ ?_
       .rintro d S ⟨s',⟨hr,ac⟩,ad,rfl⟩;have ag:=ZsM ad ax;rw[<-or_assoc];cases t:go (k+j) with
        |next =>rw[t]at hr;cases hr;refine gR0 ?_;refine i0 ?_;refine ZI (Zs ?_);exact ap.fin ⟨by unfold goE;rw[t],s',rfl,ac,ag.1⟩ ag.2 ZHw
        |stop c =>rw[t]at hr;cases hr;refine gR0 ?_;refine i1 ?_;exact ap.exit rfl ⟨by unfold goE;rw[t],s',rfl,ac,ag.1⟩ ag.2 ZHw
        |pan d=>rw[t]at hr;cases hr
       rintro d S ⟨s',⟨hr,ac⟩,ad,rfl⟩;have ag:=ZsM ad ax;cases t:go (k+j) with
       |pan d' =>rw[t]at hr;cases hr;rw[<-or_assoc];exact ap.pan ⟨by unfold goE;rw[t],s',rfl,ac,ag.1⟩ ag.2 ZHw
       |next=>rw[t]at hr;cases hr
       |stop c=>rw[t]at hr;cases hr
      rintro q _ ab ⟨a1,rfl,af,ae⟩ hq;obtain⟨q1,q2⟩:=Jb hq;rw[Zhl q1];have au:1+(preWL (v.parts.take (i+1)) h1).length=k+(Qi x h1).length:=by rw[hT,ZHF];omega
      refine gA ?_;refine Ze ?_;exact ih_key (I v.parts-(i+1)) ω (i+1) rfl (F.mark q) (q::qs) (Tq.upd q .dfr) a1 (hF.mark q) ⟨Tq,aj,q2,rfl⟩ (ZfS ae q1) (by rw[au];exact af) (by rw[au];exact Zlc ah ab) ω;rintro q _ m hm ab t;unfold goE at t;split at t<;>simp at t;rintro q _ m id hm ab t ⟨a1,rfl,af,ae⟩ hq;obtain⟨q1,q2⟩:=Jb hq;rw[Zhl q1];have ar:k+m<LL.length:=by rw[hL,hS];simp only[ZHN,ZHF];omega
      unfold goE at t;split at t;simp at t;rename_i c aw;simp only[Oc.stop.injEq,Code.exit.injEq]at t;subst t;refine ZS rfl ?_;refine Z3 ?_;exact(hF.mark q).finU (Mk.unwS (m:=nO) (qs:=q::qs) (A:=a1.or T3) ⟨_,_,.tup [],_,rfl,trivial,ZHx _,ZHw,a1,.stop (k+m) c ar (Zlc ah ab) aw af,Kv⟩ (Mk.or (qs:=q::qs) (S:=Tq.upd q .dfr) ⟨Tq,aj,q2,rfl⟩ (ZfS ae q1)));simp at t;rintro q _ m d hm ab t ⟨a1,rfl,af,ae⟩ hq;obtain⟨q1,q2⟩:=Jb hq;rw[Zhl q1];have ar:k+m<LL.length:=by rw[hL,hS];simp only[ZHN,ZHF];omega
      unfold goE at t;split at t;simp at t;simp at t;rename_i d' aw;simp only[Oc.pan.injEq]at t;subst t;exact(hF.mark q).panU (Mk.unwS (m:=sO _) (qs:=q::qs) (A:=a1.or T3) ⟨_,_,ZHx _,ZHw,a1,.pan (k+m) _ ar (Zlc ah ab) aw af,Kv⟩ (Mk.or (qs:=q::qs) (S:=Tq.upd q .dfr) ⟨Tq,aj,q2,rfl⟩ (ZfS ae q1)));intro m c t;unfold goE at t;split at t<;>simp at t;exact .inr ⟨0,t.symm⟩
     rintro dd S ⟨zx,zy,n1,n2,ne,hr,_⟩;cases hr
    simp at hc;obtain rfl:i=I v.parts:=ω;rw[ZH0]at hA ah;have a3:LL.length=1+(preWL v.parts h1).length:=by rw[hL,ZHN];omega
    rw[<-a3]at hA ah;refine ZS rfl (Z3 ?_);exact hF.finU (Mk.unwS (m:=nO) (A:=a.or T3) ⟨_,_,.tup [],_,rfl,trivial,ZHx _,ZHw,a,.all ah hA,Kv⟩ (Mk.or aj ao))
   exact bg _ 0 rfl F [] T3 s' hF rfl ad (by simpa[preWL]using ac) (λj hj=>by
    obtain rfl:j=0:=by simp[preWL]at hj;omega
    exact t) ω
  |stop c =>rw[t]at hr;cases hr;refine gR0 ?_;refine i1 ?_;exact hF.ret (.tup []) _ rfl trivial (ZHx _) ZHw ⟨s',.stop 0 c aq (λi hi=>absurd hi (Nat.not_lt_zero _)) t ac,Kv⟩
  |pan d=>rw[t]at hr;cases hr
 rintro d S ⟨s',⟨hr,ac⟩,ad,rfl⟩;cases t:go 0 with
 |pan d' =>rw[t]at hr;cases hr;exact hF.pan _ ZHw ⟨s',.pan 0 d aq (λi hi=>absurd hi (Nat.not_lt_zero _)) t ac,Kv⟩
 |next=>rw[t]at hr;cases hr
 |stop c=>rw[t]at hr;cases hr
def Zf4{l}{h:Int}{p}:p∈preWL l h↔∃x∈l,p∈Qi x h:=by
 induction l with
 |nil=>simp[preWL]
 |cons v r ih=>simp only[preWL,List.mem_append,ih,ZIa,exists_eq_or_imp]
def Ztz(v):∀h,(Qi v h).length=ZdJ v:=by
 induction v using Val.ind with
 |h v ih =>
  intro h;rw[Zhn,ZaO,ZHN];have:∀(l:List Val) (k:Int),(∀x∈l,∀k,(Qi x k).length=ZdJ x)->(preWL l k).length=nodesL l:=λl k i=>by
   induction l with
   |nil=>simp[preWL,nodesL]
   |cons a r ih2=>rw[preWL,ZHF,i a ψ,ih2 λx t=>i x (by simp[t]),nodesL]
  rw[this v.parts _ ih];omega
def Zvj(v):∀h,Y2 v=true↔∀p∈Qi v h,Zac p.2=true:=by
 induction v using Val.ind with
 |h v ih =>intro h;rw[Zhn,Zim,ZHG,Zil,List.all_eq_true];constructor;rintro⟨u,h2⟩ p hp;rcases List.mem_cons.1 hp with rfl|hp;exact h2;obtain⟨x,t,hp⟩:=Zf4.1 hp;exact(ih x t _).1 (u x t) p hp;intro i;refine⟨λx t=>(ih x t _).2 λp hp=>i p (List.mem_cons_of_mem _ (Zf4.2 ⟨x,t,hp⟩)),i (h,v) ψ⟩
def Zz7(v):∀h:Int,0<=h->h+ZZ v<=4611686018427387904->∀p∈Qi v h,p.1<h+ZZ v:=by
 induction v using Val.ind with
 |h v ih =>intro h h0 t p hp;rw[Zhn]at hp;rw[KQ]at t⊢;rcases List.mem_cons.1 hp with rfl|hp;show h<_;omega;obtain⟨x,i,hp⟩:=Zf4.1 hp;have h1:=ZgD i;rw[Ks ω]at hp;have:=ih x i (h+1) ω ω p hp;omega
def Zwe{l k}(h:k<heightL l):∃x∈l,k<ZZ x:=by
 induction l with
 |nil=>simp[heightL]at h
 |cons v r ih =>simp only[heightL]at h;by_cases i:k<ZZ v;exact⟨v,ψ,i⟩;obtain⟨x,u,t⟩:=ih ω;exact⟨x,by simp[u],t⟩
def Zwv(v):∀(k:Nat) (h:Int),0<=h->h+k<=4611686018427387904->k<ZZ v->∃p∈Qi v h,p.1=h+k:=by
 induction v using Val.ind with
 |h v ih =>
  intro k h h0 hb hk;rw[Zhn];cases k with
  |zero=>exact⟨(h,v),ψ,ψ⟩
  |succ k =>rw[KQ]at hk;obtain⟨x,t,i⟩:=Zwe (show k<heightL v.parts by omega);rw[Ks ω];obtain⟨p,hp,u⟩:=ih x t k (h+1) ω ω i;exact⟨p,List.mem_cons_of_mem _ (Zf4.2 ⟨x,t,hp⟩),by rw[u];omega⟩
def Zgs(L:List (Int×Val))(j:Nat):Bool:=(dC ((65536:Int)<(j:Int)+1) ||decide ((40:Int)<(L.getD j dE).1))||!Zac (L.getD j dE).2
def ZyO{v}(h:∀j,j<(Qi v 1).length->Zgs (Qi v 1) j=false):Qo v=true:=by
 have hl:=Ztz v 1;have t:∀p∈Qi v 1,p.1<=40/\Zac p.2=true:=λp t=>by obtain⟨j,hj,rfl⟩:=ZHR t;have:=h j hj;unfold Zgs at this;simp only[Bool.or_eq_false_iff,decide_eq_false_iff_not,Bool.not_eq_false',List.getD_eq_getElem?_getD,ZH6 hj,ZIc]at this;exact⟨ω,this.2⟩
 have h0:0<ZdJ v:=by rw[ZaO];omega
 have u:=h ((Qi v 1).length-1) ω;unfold Zgs at u;simp only[Bool.or_eq_false_iff,decide_eq_false_iff_not]at u;unfold Qo;rw[(Zvj v 1).2 λp i=>(t p i).2,Bool.and_true,ZHG,decide_eq_true_eq,decide_eq_true_eq];refine⟨ω,?_⟩;by_cases hh:ZZ v<=40;omega;obtain⟨p,i,he⟩:=Zwv v 40 1 ω ω ω;have:=(t p i).1;omega
def ZyN{v j}(hj:j<(Qi v 1).length)(h:Zgs (Qi v 1) j=true):Qo v=false:=by
 cases i:Qo v with
 |false=>rfl
 |true =>exfalso;unfold Qo at i;simp only[ZHG,decide_eq_true_eq]at i;obtain⟨⟨h1,h2⟩,t⟩:=i;have hl:=Ztz v 1;have hm:(Qi v 1).getD j dE∈Qi v 1:=ZD hj;have h4:=Zz7 v 1 ω ω _ hm;have u:=(Zvj v 1).1 t _ hm;unfold Zgs at h;rw[u]at h;simp only[Bool.not_true,Bool.or_false,ZHT,decide_eq_true_eq]at h;omega
def Zp4(v):Zf ZHv 31 [.agg v.cells] (.bool (Qo v)):=by
 refine λst=>Zb (cR 31 f31) λF hF=>?_;have ai:=ZiS v 1 st;have aq:=ZoZ v 1;have ad:=ZyO (v:=v);have af:=λj=>ZyN (v:=v) (j:=j);rw[ZHZ]at ai⊢;generalize Qi v 1=L at *;refine gG ?_;refine rg ?_;refine cV (ai) ?_ ?_
 .rintro dd S ⟨za,zv,n1,n2,ne,hr,rfl⟩;cases hr;refine gR0 ?_;refine Zd ?_;refine xP 2 λz2 h2=>?_;obtain⟨aj,ak⟩:=Jb h2;rw[W8];refine xP 3 λz3 h3=>?_;obtain⟨al,am⟩:=Jb h3;rw[W8];have k3:=Zo al;have g2:∀c,((st.upd z2 (.cells [.bool false])).upd z3 c) z2=sO (.cells [.bool false]):=λc=>by rw[ZHD _ _ (Ne.symm k3.1)];exact ZHB _ _ _
  have g3:∀c,((st.upd z2 (.cells [.bool false])).upd z3 c) z3=sO c:=λc=>ZHB _ _ _;have ac:∀c o,st.sub (((st.upd z2 (.cells [.bool false])).upd z3 c).upd z2 o):=λc o b x hb=>by
   have e2:b≠z2:=λe=>by rw[e,aj]at hb;simp at hb
   have e3:b≠z3:=λe=>by rw[e,k3.2]at hb;simp at hb
   rw[ZHD _ _ e2,ZHD _ _ e3,ZHD _ _ e2];exact hb
  have ap:∀c,Z4 ((st.upd z2 (.cells [.bool false])).upd z3 c) (Zdm v 1 za zv):=λc b o hb=>by
   have e2:b≠z2:=λe=>by rw[e,ak]at hb;simp at hb
   have e3:b≠z3:=λe=>by rw[e,am]at hb;simp at hb
   rw[ZHD _ _ e3,ZHD _ _ e2];exact Zqo n1 n2 b o hb
  refine KM hF rfl trivial [2,3] (by show([2,3]:List Nat).Nodup;decide) (ap _) (aq za zv ne) (λj hj=>rfl) (λj=>if Zgs L j then .stop .ret else .next) (λj a=>a=(st.upd z2 (.cells [.bool false])).upd z3 (.cells [.i j])) rfl ?_ ?_ ?_ ?_ ?_ ?_
  .intro j a hj u hB F' ready ae hdr ah t;subst hB;have hj2:j<=65536:=by refine Nat.le_of_not_lt λar=>?_;have:=u 65536 ar;rw[if_pos (by unfold Zgs;simp)]at this;simp at this
   have hN:=ZrD (L.getD j dE).2;have ag:=Zgs.eq_1 L j;simp only[Eqs,reduceCtorEq,ZHC,reduceIte,ZHz,ZHE,ZHA,WL,Kd,Ji,Km,List.isEmpty_nil,List.isEmpty_cons,hvA];generalize L.getD j dE=g at *;obtain⟨gh,gx⟩:=g;simp only[ZHZ]at hN ag⊢;refine gG ?_;refine ah λao=>?_;have ab:Z4 ((st.upd z2 (.cells [.bool false])).upd z3 (.cells [.i ((j+1:Nat):Int)])) ae:=λb o hb=>by have h1:=Zo (ao b o hb);rw[ZHD _ _ h1.1];exact h1.2
   refine rh ?_;refine Zm ?_;simp only[Eqs,reduceCtorEq,ZHC,reduceIte,ZHz,ZHE,ZHA,Zt (g3 _),W8];refine aa ?_;rw[ZHO,show(j:Int)+1=((j+1:Nat):Int) by omega];refine rh ?_;refine Zm ?_;simp only[Eqs,reduceCtorEq,ZHC,reduceIte,ZHz,ZHE,ZHA,Zt (g3 _)];refine cG (hN) ?_;rw[show((j+1:Nat):Int)=(j:Int)+1 by omega,<-ag];cases hb:Zgs L j with
   |true =>rw[hb]at t;refine i1 ?_;refine rh ?_;refine Zm ?_;simp only[Eqs,reduceCtorEq,ZHC,reduceIte,ZHz,ZHE,ZHA,Zt (g2 _),W8];rw[show(j:Int)+1=((j+1:Nat):Int) by omega,St.upd_self (g2 _)];exact t.ret ⟨rfl,rfl⟩ ab ZHw
   |false =>rw[hb]at t;refine i0 ?_;refine ZI (Zs ?_);rw[show(j:Int)+1=((j+1:Nat):Int) by omega];exact t.fin ⟨rfl,rfl⟩ ab ZHw
  intro q a u hB hq;subst hB;have hv:Qo v=true:=ad λj hj=>by have:=u j hj;split at this;simp at this;rename_i h;simpa using h
  rw[Qn hq];have au:(((st.upd z2 (.cells [.bool false])).upd z3 (.cells [.i L.length])).upd z2 (.cells [.bool true])) q=nO:=by rw[ZHD _ _ (λe=>by rw[e,g2]at hq;simp at hq)];exact hq
  have gg:(((st.upd z2 (.cells [.bool false])).upd z3 (.cells [.i L.length])).upd z2 (.cells [.bool true])) z2=sO (.cells [.bool true]):=ZHB _ _ _;refine rh ?_;refine Zm ?_;simp only[Eqs,reduceCtorEq,ZHC,reduceIte,ZHz,ZHE,ZHA,Zt (g2 _),W8];exact hF.ret1 au (.bool true) st (by simp only[Eqs,reduceCtorEq,ZHC,reduceIte,ZHz,ZHE,ZHA,YC,Kn,gg];rfl) φ (ZHx _) (ac _ _) ⟨by rw[hv],rfl⟩;intro q a m hm u i hB hq;subst hB;have hb:Zgs L m=true:=by split at i;assumption;simp at i
  rw[Qn hq];have hs:st.sub ((st.upd z2 (.cells [.bool false])).upd z3 (.cells [.i ((m+1:Nat):Int)])):=by
   have:=ac (.cells [.i ((m+1:Nat):Int)]) (.cells [.bool false])
   rwa [St.upd_self (g2 _)]at this
  exact hF.ret1 hq (.bool false) st (by simp only[Eqs,reduceCtorEq,ZHC,reduceIte,ZHz,ZHE,ZHA,YC,Kn,g2];rfl) φ (ZHx _) hs ⟨by rw[af m hm hb],rfl⟩;intro q a m id hm u i;split at i<;>simp at i;intro q a m d hm u i;split at i<;>simp at i;intro m c i;split at i<;>simp at i;exact .inl i.symm
 rintro dd S ⟨za,zv,n1,n2,ne,hr,_⟩;cases hr
def Wd(row:Nat->List D):Nat->List D
 |0=>[]
 |n+1=>Wd row n++row n
def ZdE{row}:∀{n},(∀j,j<n->(row j).length=5)->(Wd row n).length=n*5
 |0,_=>rfl
 |n+1,h=>by rw[Wd,ZHF,ZdE λj hj=>h j ω,h n ω];omega
def Zl0{row row'}:∀{n},(∀j,j<n->row j=row' j)->Wd row n=Wd row' n
 |0,_=>rfl
 |n+1,h=>by rw[Wd,Wd,Zl0 λj hj=>h j ω,h n ω]
def Zh4{row}(X):∀{n j},(∀j,j<n->(row j).length=5)->j<n->part (Wd row n++X) (j*5) 5=row j
 |0,j,_,hj=>absurd hj (Nat.not_lt_zero _)
 |n+1,j,h,hj=>by rcases Nat.lt_or_eq_of_le (Nat.le_of_lt_succ hj) with h1|rfl;have:=Zh4 (row n++X) (n:=n) (j:=j) (λk i=>h k ω) h1;rw[Wd,ZHY];exact this;unfold part;rw[Wd,ZHY,List.drop_left' (ZdE λk i=>h k ω),List.take_left' (h j ω)]
def Zqw{row}(X k ds)(t:k+I ds<=5):∀{n j},(∀j,j<n->(row j).length=5)->j<n ->
  Zx (Wd row n++X) (j*5+k) ds=Wd (λi=>if i=j then Zx (row j) k ds else row i) n++X
 |0,j,_,hj=>absurd hj (Nat.not_lt_zero _)
 |n+1,j,h,hj=>by
  have hl:(Wd row n).length=n*5:=ZdE λk t=>h k ω;rcases Nat.lt_or_eq_of_le (Nat.le_of_lt_succ hj) with h1|rfl;have ih:=Zqw (row n++X) k ds t (n:=n) (j:=j) (λk t=>h k ω) h1;rw[Wd,ZHY,ih,Wd,if_neg ω,ZHY];have hr:=h j ω;have h2:Wd (λi=>if i=j then Zx (row j) k ds else row i) j=Wd row j:=Zl0 λi hi=>by rw[if_neg ω]
  have u:j*5+k-j*5=k:=ω;have e2:j*5+k+I ds-j*5=k+I ds:=ω;have t1:(Wd row j).take (j*5+k)=Wd row j:=List.take_of_length_le ω;have t2:(Wd row j).drop (j*5+k+I ds)=[]:=List.drop_eq_nil_of_le ω;rw[Wd,Wd,h2,if_pos rfl];unfold Zx;rw[ZHY (Wd row j),List.take_append,List.take_append,List.drop_append,List.drop_append,hl,hr,u,e2,t1,t2,show k-5=0 by omega,show k+I ds-5=0 by omega];simp
inductive MT(T:St):Val->List D->List Nat->Prop where
 |leaf (n:Str) (i:Int) (b:Str) (h:List Hdr):MT T (.mk n i b h []) [.str n,.i i,Zh b,Yc h,ZY []] []
 |node (n:Str) (i:Int) (b:Str) (h:List Hdr) (ps:List Val) (x cap:Nat) (row:Nat->List D) (fp:Nat->List Nat) (X:List D) (hp:0<I ps) (hb:T x=some (.cells (Wd row (I ps)++X))) (hc:I ps<=cap)
   (hx:∀j,j<I ps->MT T (ps.getD j default) (row j) (fp j)) (hn:∀j,j<I ps->x∉fp j) (hd:∀j k,j<I ps->k<I ps->j≠k->∀y∈fp j,y∉fp k) :
   MT T (.mk n i b h ps) [.str n,.i i,Zh b,Yc h,.msl x 0 (I ps) cap 5] (x::(ZHJ (I ps)).flatMap fp)
def MT.len{T v c fp}(h:MT T v c fp):I c=5:=by cases h<;>rfl
def MT.mono{T T' v c fp}(h:MT T v c fp)(t:∀y∈fp,T' y=T y):MT T' v c fp:=by
 induction h with
 |leaf n i b h=>exact .leaf n i b h
 |node n i b h ps x cap row fp X hp hb hc hx hn hd ih =>refine .node n i b h ps x cap row fp X hp (by rw[t x ψ];exact hb) hc (λj u=>ih j u λy hy=>t y ?_) hn hd;simp only[ZIa,List.mem_flatMap,List.mem_range];exact .inr ⟨j,u,hy⟩
def MT.live{T v c fp}(h:MT T v c fp):∀y∈fp,∃ds,T y=sO (.cells ds):=by
 induction h with
 |leaf=>intro y t;simp at t
 |node n i b h ps x cap row fp X hp hb hc hx hn hd ih =>intro y t;simp only[ZIa,List.mem_flatMap,List.mem_range]at t;rcases t with rfl|⟨j,u,t⟩;exact⟨_,hb⟩;exact ih j u y t
def MT.ld{T v c fp}(h:MT T v c fp):∀{Ln},(∀y∈fp,y∈Ln)->LdC T Ln c v.cells:=by
 induction h with
 |leaf n i b h=>intro Ln _;rw[ZHZ];exact LdC.refl _
 |node n i b h ps x cap row fp X hp hb hc hx hn hd ih =>intro Ln hL;rw[ZHZ];have u:∀j,j<I ps->(row j).length=5:=λj t=>(hx j t).len;refine .cons (.refl _) (.cons (.refl _) (.cons (.refl _) (.cons (.refl _) (.cons ?_ .nil))));refine ZV.msl (hL x ψ) hb (by rw[ZHF,ZdE u];exact Nat.le_add_right _ _) λj t=>?_;rw[show((Wd row (I ps)++X).drop (j*5)).take 5=row j from Zh4 X u t];show LdC T Ln (row j) (Zbv ps j);rw[Zb3 t];refine ih j t λy hy=>hL y ?_;simp only[ZIa,List.mem_flatMap,List.mem_range];exact .inr ⟨j,t,hy⟩
structure MN(T:St)(v:Val)(c:List D)(fp:List Nat)(x cap:Nat)(row:Nat->List D)(f:Nat->List Nat)(X:List D):Prop where
 c:c=[.str v.name,.i v.int,Zh v.bytes,Yc v.hdrs,.msl x 0 (I v.parts) cap 5]
 b:T x=some (.cells (Wd row (I v.parts)++X))
 le:I v.parts<=cap
 kid:∀j,j<I v.parts->MT T (v.parts.getD j default) (row j) (f j)
 n:∀j,j<I v.parts->x∉f j
 d:∀j k,j<I v.parts->k<I v.parts->j≠k->∀y∈f j,y∉f k
 fp:fp=x::(ZHJ (I v.parts)).flatMap f
def MN.mt{T v c fp x cap row f X}(h:MN T v c fp x cap row f X)(hp:0<I v.parts):MT T v c fp:=by
 obtain⟨i,t,u,h4,h5,h6,h7⟩:=h;subst i h7;cases v;exact .node _ _ _ _ _ _ _ _ _ _ hp t u h4 h5 h6
def ZtU{E:List Str}{i}(h:i<E.length):(E.map D.str)[i]?=sO (.str (E.getD i [])):=by simp[ZHL,h]
def ZAu{E:List Str}{i s}(h:i<E.length):List.take (i*1) (E.map D.str)++[.str s]++List.drop (i*1+1) (E.map D.str)=(E.set i s).map D.str:=by
 rw[Nat.mul_one,List.map_set,List.set_eq_take_append_cons_drop,if_pos (by simpa using h)];simp
def Zw1(n):W0 [.str []] n=(List.replicate n []).map D.str:=by
 induction n with
 |zero=>rfl
 |succ n ih=>simp_all[W0,List.replicate_succ]
def Zhv{b c l S}(hb:S b=sO (.cells (l.map .str)))(hl:I l<=1000000)(f p)(hf:∀x,VT ZHv f [.str x] S (.bool (p x)) S):
  ZL ZHv 218 [.msl b 0 (I l) c 1,f] S (.i (Zj p l)) S:=by
 refine ZE (cR 218 f218) λhwf F t=>?_;refine gG ?_;refine Zd (fr (I l) (λi Q=>i<=I l->(∀j,j<i->p (l.getD j dE)=false)->Q [(0,.d (.msl b 0 (I l) c 1)),(1,.d f),(7,.d (.i (I l))),(8,.d (.i i))] [] S) (λn u=>?_) λae=>?_);intro i hn hi ab;refine rg ?_;refine Zc (Zn rfl trivial (λh1=>?_) (λh1=>?_));simp at h1;have hg:=ZtU h1;have ad:(l.map D.str)[i*1]?=sO (.str (l.getD i [])):=by rw[Nat.mul_one];exact hg
 refine rg ?_;refine xA (nd2 @hb (nd2 @hg @ad)) ?_;refine cW (hf _) ?_;refine cd (λh2=>?_) (λh2=>?_);have e1:=WZ h1 h2 ab;rw[e1]at t;refine rg ?_;exact t rfl φ (ZHx _) ZHw;refine gA ?_;refine Ze ?_;exact u ((I l)-(i+1)) ω (i+1) rfl ω (Yb (q:=λj=>p (l.getD j dE)=false) ab h2);simp at h1;obtain rfl:i=I l:=ω;have ac:∀x∈l,p x=false:=λx hx=>by obtain⟨j,hj,rfl⟩:=ZHR hx;have:=ab j hj;simpa[ZHL,hj]using this
 rw[Wc ac]at t;refine rg ?_;exact t rfl φ (ZHx _) ZHw;exact ae _ 0 rfl ω (by intro j hj;omega)
def Jg(p:Str->Bool)(l:List Str):List Str:=l.filter λx=>!p x
def ZxY{p l}:(Jg p l).length<=I l:=List.length_filter_le ..
def Zif{p}{l:List Str}{j}(h:j<I l):Jg p (l.take (j+1))=Jg p (l.take j)++if p (l.getD j []) then [] else [l.getD j []]:=by
 rw[show l.getD j []=l.getD j dE from rfl,Yi h];unfold Jg;rw[List.filter_append];congr 1;simp only[List.filter_cons,List.filter_nil];cases p (l.getD j dE)<;>rfl
def Zl6{p}{l:List Str}{i}(h:∀j,j<i->p (l.getD j dE)=false)(hi:i<=I l):Jg p (l.take i)=l.take i:=by
 unfold Jg;rw[List.filter_eq_self];intro x hx;obtain⟨j,t,rfl⟩:=ZHR hx;have u:=h j (by rw[ZHQ]at t;omega);rw[ZHQ]at t;simpa[ZHL,show j<I l by omega]using u
def ZqI{p l}(h:∀x∈l,p x=false):Jg p l=l:=by
 unfold Jg;rw[List.filter_eq_self];intro x i;rw[h x i];rfl
def Zrz{E:List Str}{k x}(h:k<E.length):(E.set k x).take (k+1)=E.take k++[x]:=by
 rw[List.set_eq_take_append_cons_drop,if_pos h,show E.take k++x::E.drop (k+1)=(E.take k++[x])++E.drop (k+1) by simp,List.take_left' (by simp;omega)]
def ZvY{E:List Str}{k}(h:k<=E.length):Zx (E.map D.str) (k*1) (W0 [.str []] (E.length-k))=((E.take k++List.replicate (E.length-k) []).map .str):=by
 unfold Zx;rw[Nat.mul_one,Zw1,List.drop_eq_nil_of_le (by simp;omega)];simp
def ZgW{b c l S}(hb:S b=sO (.cells (l.map .str)))(hl:I l<=1000000)(hc:I l<=c)(f p)(hf:∀x T,VT ZHv f [.str x] T (.bool (p x)) T):
  Za ZHv 176 [.msl b 0 (I l) c 1,f] S λr T=>r=.ret (.msl b 0 (Jg p l).length c 1)/\T=S.upd b (.cells ((Jg p l++List.replicate (I l-(Jg p l).length) []).map .str)):=by
 refine Zb (cR 176 f176) λF hF=>?_;have ao:=Zhv (c:=c) hb hl f p (λx=>hf x S);refine gG ?_;refine ct (ao) ?_;refine aa ?_;refine rg ?_;by_cases ad:Zj p l<0;have aq:Zj p l=-1:=by have:=ZaK p l;omega
 rw[aq];refine i1 ?_;refine rg ?_;exact hF.ret _ _ rfl φ (ZHx _) ZHw ⟨by rw[ZqI (Zco ad)];rfl,by rw[ZqI (Zco ad),Nat.sub_self,List.replicate_zero,ZH3];exact(St.upd_self hb).symm⟩;obtain⟨q0,ar⟩:∃q0:Nat,Zj p l=q0:=⟨(Zj p l).toNat,ω⟩;have ap:=WC p l;have ai:=Jt (p:=p) (l:=l) ω;rw[ar]at ap ai⊢;have ab:=λj hj=>ai.2 j hj;have ah:=ai.1;simp only[Int.toNat_natCast]at ab ah;have ae:q0<I l:=ω;refine i0 ?_;refine gA ?_;refine Zd (fr (I l) (λj Q=>j<=I l->∀(k:Nat) (E:List Str),E.length=I l->k<j->k=(Jg p (l.take j)).length->E.take k=Jg p (l.take j)->E.drop j=l.drop j->Q [(0,.d (.msl b 0 (I l) c 1)),(1,.d f),(5,.d (.i k)),(6,.d (.i j))] [] (S.upd b (.cells (E.map .str)))) (λn t=>?_) λau=>?_)
 .intro j hn hj k E hE hkj hk ac hdr;refine rg ?_;refine cd (λh1=>?_) (λh1=>?_)
  .have af:j<I l:=by simp at h1;omega
   have hx:E.getD j []=l.getD j []:=by
    have h2:(E.drop j)[0]?=(l.drop j)[0]?:=by rw[hdr]
    simpa[ZHL]using congrArg (λo=>o.getD []) h2
   have hg:(E.map D.str)[j*1]?=sO (.str (l.getD j [])):=by rw[Nat.mul_one,ZtU ω,hx]
   have u:=Zif (p:=p) af;have ak:E.drop (j+1)=l.drop (j+1):=by rw[<-List.drop_drop,hdr,List.drop_drop]
   generalize l.getD j []=x at *;refine xA (nd2 @ZHB @hg) ?_;refine rg ?_;refine cW (hf x _) ?_;cases al:p x with
   |true =>rw[al,if_pos rfl,ZH3]at u;refine i0 ?_;refine gA ?_;refine Ze ?_;exact t ((I l)-(j+1)) ω (j+1) rfl ω k E hE ω (by rw[u];exact hk) (by rw[u];exact ac) ak
   |false =>
    rw[al,if_neg ψ]at u;have am:=ZAu (E:=E) (i:=k) (s:=x) ω;refine i1 ?_;have ag:(E.map D.str).length=I l:=by rw[ZHS];exact hE
    refine xA (nd2 @ZHB (nd2 @ZHO (nd2 @am @ag))) ?_;refine gA ?_;refine gA ?_;rw[show(k:Int)+1=((k+1:Nat):Int) by omega];refine Ze ?_;exact t ((I l)-(j+1)) ω (j+1) rfl ω (k+1) (E.set k x) (by rw[List.length_set];exact hE) ω (by rw[u,ZHF,<-hk];rfl) (by rw[u,<-ac,Zrz ω]) (by rw[List.drop_set_of_lt ω];exact ak)
  have af:j=I l:=by simp at h1;omega
  subst af;rw[ZH0]at hk ac;have aj:=ZvY (E:=E) (k:=k) ω;have ag:(E.map D.str).length=I l:=by rw[ZHS];exact hE
  rw[hE,ac]at aj;have hck:¬c=k:=ω;refine rg ?_;refine⟨ω,ω,ω,ω,?_⟩;rw[if_neg ω,show((I l:Int)-k).toNat=I l-k by omega,show((c:Int)-k).toNat=c-k by omega];refine Zmp rfl rfl rfl trivial (cs:=E.map .str) (by simp[Z1,ZHB]) (by rw[ag];omega) ?_;rw[aj,ZHO];refine gR0 ?_;refine rg ?_;refine⟨ω,ω,ω,ω,?_⟩;simp only[ite_self,if_pos];exact hF.ret _ _ rfl φ (ZHx _) ZHw ⟨by rw[<-hk];rfl,by rw[<-hk]⟩
 have h0:=au _ (q0+1) rfl ω q0 l rfl ω (by rw[Zif ae,show l.getD q0 []=l.getD q0 dE from rfl,ah,if_pos rfl,ZH3,Zl6 ab ω,ZHQ];omega) (by rw[Zif ae,show l.getD q0 []=l.getD q0 dE from rfl,ah,if_pos rfl,ZH3,Zl6 ab ω]) rfl;rw[St.upd_self hb]at h0;exact h0
end Go.DL
namespace Go.Proofs
open Go.Shelf Go.RowKit
def Tryz.joinL_ren:Go.Shelf.Ren:=⟨λ|156=>175|165=>215|166=>216|169=>217|240=>243|241=>244|276=>257|277=>258|n=>n,λ|31=>258|9=>9|3=>3|4=>4|0=>0|20=>20|72=>291|76=>96|70=>289|37=>25|75=>95|127=>234|164=>343|5=>5|80=>293|n=>n,λ|n=>n⟩
def Tryz.joinL:Go.Proofs.Lays.n156 ZHv Tryz.joinL_ren:={
 mixed:=by kernel_rfl
 f156:=Tryz.func175.trans (congrArg sO (by kernel_rfl))
 f165:=Tryz.func215.trans (congrArg sO (by kernel_rfl))
 f166:=Tryz.func216.trans (congrArg sO (by kernel_rfl))
 f169:=Tryz.func217.trans (congrArg sO (by kernel_rfl))
 f240:=Tryz.func243.trans (congrArg sO (by kernel_rfl))
 f241:=Tryz.func244.trans (congrArg sO (by kernel_rfl))
 f276:=Tryz.func257.trans (congrArg sO (by kernel_rfl))
 f277:=Tryz.func258.trans (congrArg sO (by kernel_rfl))
 t0:=Tryz.underlying0
 a0:=Tryz.isAgg0
 z0:=Tryz.sizeOf0
 v0:=Tryz.zeroValue0
 t3:=Tryz.underlying3
 a3:=Tryz.isAgg3
 z3:=Tryz.sizeOf3
 v3:=Tryz.zeroValue3
 t4:=Tryz.underlying4
 a4:=Tryz.isAgg4
 z4:=Tryz.sizeOf4
 v4:=Tryz.zeroValue4
 t9:=Tryz.underlying9
 a9:=Tryz.isAgg9
 z9:=Tryz.sizeOf9
 v9:=Tryz.zeroValue9
 t20:=Tryz.underlying20
 a20:=Tryz.isAgg20
 z20:=Tryz.sizeOf20
 v20:=Tryz.zeroValue20
 t31:=Tryz.underlying258
 a31:=Tryz.isAgg258
 z31:=Tryz.sizeOf258
 v31:=Tryz.zeroValue258
 t37:=Tryz.underlying25
 a37:=Tryz.isAgg25
 z37:=Tryz.sizeOf25
 v37:=Tryz.zeroValue25
 t70:=Tryz.underlying289
 a70:=Tryz.isAgg289
 z70:=Tryz.sizeOf289
 v70:=Tryz.zeroValue289
 t72:=Tryz.underlying291
 a72:=Tryz.isAgg291
 z72:=Tryz.sizeOf291
 v72:=Tryz.zeroValue291
 t75:=Tryz.underlying95
 a75:=Tryz.isAgg95
 z75:=Tryz.sizeOf95
 v75:=Tryz.zeroValue95
 t76:=Tryz.underlying96
 a76:=Tryz.isAgg96
 z76:=Tryz.sizeOf96
 v76:=Tryz.zeroValue96
 t127:=Tryz.underlying234
 a127:=Tryz.isAgg234
 z127:=Tryz.sizeOf234
 v127:=Tryz.zeroValue234
 t164:=Tryz.underlying343
 a164:=Tryz.isAgg343
 z164:=Tryz.sizeOf343
 v164:=Tryz.zeroValue343 }
def Tryz.joinX:Builder.Extra ZHv Tryz.joinL_ren:={
 sizeBuilder:=by kernel_rfl
 liesBuilder:=by kernel_rfl
 t5:=Tryz.underlying5
 a5:=Tryz.isAgg5
 z5:=Tryz.sizeOf5
 v5:=Tryz.zeroValue5
 infoByte:=by kernel_rfl
 cellsByte:=by kernel_rfl
 sizeByte:=by kernel_rfl
 neB5:=by decide }
end Go.Proofs
namespace Go.DL
open Go Go.Proofs Go.Lib Go.RowKit
def ZA3{w:World}{b o v}(h:w.cell? ⟨b,o,nO⟩=sO v):b<w.heap.size:=by
 refine Nat.lt_of_not_le λi=>?_;have t:w.heap[b]?=nO:=Array.getElem?_eq_none i;simp[World.cell?,t]at h
def joinL(l:List Str)(sep:Str):Str:=sep.intercalate l
def ZcM(l:List Str)(hn:I l<=100000)(hj:(joinL l [46]).length<=100000000):Zf ZHv 175 [slD 1 ZbM l,.str [46]] (.str (joinL l [46])):=λst=>by
 refine⟨⟨_,Tryz.func175,by kernel_rfl,by kernel_rfl⟩,λg w vs hs ha=>?_⟩;cases ha with
 |cons h1 ha =>
 cases ha with
 |cons h2 ha =>
 cases ha;cases h2 with
 |str sep _ hsep hsb =>
 have ac:sep=⟨#[46]⟩:=by
  obtain⟨a⟩:=sep;have:a.toList=[46]:=hsep;have h2:a = #[46]:=by apply Array.ext';simpa using this
  rw[h2]
 subst ac;unfold slD at h1;have ab:∀w':World,Below w.heap.size w w'->JZ g w g w':=λw' t=>⟨t.size,λc hc=>t.block c hc,λ_ _=>rfl,λc hc=>(hs.fresh c (ZIg t.size hc)).1,rfl,t.os,t.output,t.tape⟩;generalize ah:(λi=>ZbM (l.getD i dE))=row at h1;generalize ag:I l=n at h1;cases h1 with
 |sl0 av _ _ _ ht =>obtain rfl:l=[]:=List.eq_nil_of_length_eq_zero ag;refine(Any.strings_Join_none Tryz.joinL Tryz.joinX av 0 ⟨#[46]⟩ w).mono ?_;rintro e w' ⟨rfl,rfl⟩;exact⟨g,st,.ret (.str []),Ext.refl g _,hs,.str _ _ rfl (by simp[big]),rfl,rfl⟩
 |sl b o _ cap _ _ _ f hl hc hp hr one ht hcap hb =>
  subst ag;subst ah;have hx:∀i (hi:i<I l),∃x:ByteArray,f i 0=.string x/\x.data.toList=l[i]:=λi hi=>by
   have:=hr i 0 (.str (l.getD i dE)) hi rfl;generalize f i 0=v at this;cases this with
   |str x _ h1 h2=>exact⟨x,rfl,by rw[h1];simp[ZHL,hi]⟩
  have ao:∃xs:List ByteArray,I xs=I l/\xs.map (·.data.toList)=l/\∀(j:Nat) x,xs[j]?=sO x->f j 0=.string x:=by refine⟨List.ofFn λi:Fin (I l)=>Classical.choose (hx i.1 i.2),ψ,?_,λj x hj=>?_⟩;apply List.ext_getElem;simp;intro i h1 h2;simp at h1;simp only[List.getElem_map,List.getElem_ofFn];exact(Classical.choose_spec (hx i h1)).2;obtain⟨ae,af⟩:=List.getElem?_eq_some_iff.1 hj;simp only[List.length_ofFn]at ae;simp only[List.getElem_ofFn]at af;rw[<-af];exact(Classical.choose_spec (hx j ae)).1
  obtain⟨xs,ai,al,am⟩:=ao;have aj:0<I l->b<w.heap.size:=λh0=>by have:=hc 0 0 h0 ω;exact ZA3 this
  have hJ:(Lib.join (xs.map (·.data.toList)) (⟨#[46]⟩:ByteArray).data.toList)=joinL l [46]:=by rw[al];rfl
  have ad:∀w',Below w.heap.size w w'->∃g' s' res,Ext g w g' w'/\Ya g' s' w'/\Rep g' w' (.string ⟨(joinL l [46]).toArray⟩) (.str (joinL l [46]))/\res=Res.ret (.str (joinL l [46]))/\s'=st:=λw' t =>
   ⟨g,st,.ret (.str (joinL l [46])),(ab w' t).ext hs.fresh,hs.grow (ab w' t),.str _ _ ψ (by unfold big;omega),rfl,rfl⟩
  by_cases h0:I l=0;obtain rfl:l=[]:=List.eq_nil_of_length_eq_zero h0;refine(Any.strings_Join_none Tryz.joinL Tryz.joinX (sO ⟨b,o,nO⟩) cap ⟨#[46]⟩ w).mono ?_;rintro e w' ⟨rfl,rfl⟩;exact⟨g,st,.ret (.str []),Ext.refl g _,hs,.str _ _ rfl (by simp[big]),rfl,rfl⟩;have u:=Any.strings_Join Tryz.joinL Tryz.joinX b o cap xs ⟨#[46]⟩ w (λj x hj=>by
    have ak:j<I l:=by rw[<-ai];exact(List.getElem?_eq_some_iff.1 hj).1
    have:=hc j 0 ak ω;rw[am j x hj]at this;simpa using this) (aj ω) ω ω (by rw[hJ];omega)
  rw[hJ,ai]at u;refine u.mono ?_;rintro e w' ⟨rfl,t⟩;obtain⟨g',s',res,a1,a2,a3,a4,a5⟩:=ad w' t;exact⟨g',s',res,a1,a2,by rw[a4];exact a3,a4,a5⟩
end Go.DL
namespace Go.DL
open Go Go.Proofs
variable {kp:Option (List Nat)}{L:Loc}{H:Env}{s:St}{w:World}{os:List DOp}{ds:List D}{B:List (Nat × Rd)}{dst:Option Nat}{tmps:Array Value}{g:G}{Φ:Res->St->Prop}{Z:Nat->Nat}{xs:List Opd}{side:Prop}{row:Nat->List D}
def Zga(s):Zf ZHv 177 [.str s] (.bool (dC (s=[]))):=by
 refine Zi (cR 177 f177) λF st i=>?_;refine gG ?_;refine rb i ?_;rfl
def ZxZ(a s)(t:s≠[]):joinL (Jg (λx=>dC (x=[])) [a,s]) [46]=ZM a s:=by
 unfold Jg joinL ZM;by_cases i:a=[];simp[i,t,List.intercalate];simp[i,t,List.intercalate]
def ZgP(T):St.or (λ_=>nO) T=T:=by funext b;exact ZF rfl
def ZxX{b c}{C:List Str}{T}(hb:T b=sO (.cells (C.map .str)))(K)(hl:K.length<=2)(hC:K.length<=C.length)(hK:∀i,i<K.length->C.getD i []=K.getD i [])(hj:(joinL K [46]).length<=100000000):
  Za ZHv 175 [.msl b 0 K.length c 1,.str [46]] T λr S=>r=.ret (.str (joinL K [46]))/\S=T:=by
 have h:=Za.lend (P:=ZHv) (Ln:=[b]) (t:=T) (λx hx=>⟨C.map .str,by rw[List.mem_singleton.1 hx];exact hb⟩) (.cons (ZV.msl (row:=λi=>ZbM (K.getD i dE)) (cap:=c) (sz:=1) (n:=K.length) (List.mem_singleton.2 rfl) hb (by simp;omega) ?_) (.cons (.refl (.str [46])) .nil)) (ZcM K ω hj (λ_=>nO)) (λr S u=>?_);refine h.mono λr S hS=>?_;obtain⟨S',⟨u,rfl⟩,_,rfl⟩:=hS;exact⟨u,ZgP T⟩;intro i hi;have h1:((C.map D.str).drop (i*1)).take 1=ZbM (K.getD i dE):=by rw[Nat.mul_one,show K.getD i dE=C.getD i [] from(hK i hi).symm];rw[List.drop_eq_getElem_cons (by simp;omega)];simp[ZbM,ZHL,show i<C.length by omega]
 rw[h1];exact .refl _;obtain⟨rfl,rfl⟩:=u;exact⟨.str _,λb o h=>by simp at h⟩
def Zrt{b a s S}(hb:S b=sO (.cells [.str a,.str s]))(hs:s≠[])(hl:I a<=10000000)(hl2:I s<=10000000):
  Za ZHv 130 [.msl b 0 2 2 1] S λr T=>r=.ret (.str (ZM a s))/\∃o,T=S.upd b o:=by
 refine Zb (cR 130 f130) λF hF=>?_;have hd:=ZgW (c:=2) (l:=[a,s]) hb ψ ψ (.fn (.func 177) [] []) (λx=>dC (x=[])) (λx T=>(Zga x).VT (first:=[]) (caps:=[]) T);have t:=ZxZ a s hs;have ac:(Jg (λx=>dC (x=[])) [a,s]).length<=2:=ZxY;generalize Jg (λx=>dC (x=[])) [a,s]=K at *;have ad:(joinL K [46]).length<=100000000:=by rw[t];unfold ZM;split;omega;simp only[ZHF,ZHN,List.length_nil];omega
 refine gG ?_;refine cV (hd) ?_ ?_;rintro dd T ⟨hr,rfl⟩;cases hr;refine gR0 ?_;generalize hC:(K++List.replicate (2-K.length) [])=C at *;have ab:∀i,i<K.length->C.getD i []=K.getD i []:=λi hi=>by rw[<-hC];simp[ZHL,ZHW hi]
 have u:K.length<=C.length:=by rw[<-hC];simp
 refine cV ((ZxX (S.upd_same b _) K ac u ab ad)) ?_ ?_;rintro dv T hT;obtain⟨hr,rfl⟩:=hT;cases hr;refine gR0 ?_;rw[t];exact hF.ret _ _ rfl φ (ZHx _) ZHw ⟨rfl,_,rfl⟩;rintro v T ⟨hr,_⟩;cases hr;rintro v T ⟨hr,_⟩;cases hr
def YT(l:List Fld):List D:=l.flatMap Fld.cells
def ZaL(l):(YT l).length=I l*15:=by
 unfold YT;induction l with
 |nil=>rfl
 |cons f r ih=>rw[List.flatMap_cons,ZHF,ih,ZaM,ZHN];omega
def Zh6{l i}(h:i<I l)(X):part (YT l++X) (i*15) 15=(l.getD i dE).cells:=by
 have t:l=l.take i++(l.getD i dE::l.drop (i+1)):=by
  conv=>lhs;rw[<-List.take_append_drop i l]
  rw[List.drop_eq_getElem_cons h];simp[ZHL,h]
 have u:YT l++X=YT (l.take i)++((l.getD i dE).cells++(YT (l.drop (i+1))++X)):=by
  conv=>lhs;rw[t]
  unfold YT;simp
 unfold part;rw[u,List.drop_left' (by rw[ZaL,ZHQ,Nat.min_eq_left ω]),List.take_left' (ZaM _)]
def ZxN{l i}(h:i<I l)(f X):Zx (YT l++X) (i*15) f.cells=YT (l.set i f)++X:=by
 have u:l=l.take i++(l.getD i dE::l.drop (i+1)):=by
  conv=>lhs;rw[<-List.take_append_drop i l]
  rw[List.drop_eq_getElem_cons h];simp[ZHL,h]
 have h2:YT l++X=YT (l.take i)++((l.getD i dE).cells++(YT (l.drop (i+1))++X)):=by
  conv=>lhs;rw[u]
  unfold YT;simp
 have t:(YT (l.take i)).length=i*15:=by rw[ZaL,ZHQ,Nat.min_eq_left ω]
 unfold Zx;rw[h2,List.take_left' t,<-List.drop_drop,List.drop_left' t,ZaM,List.drop_left' (ZaM _),List.set_eq_take_append_cons_drop,if_pos h];unfold YT;simp
def Zug{l k m}(h:k<=I l)(z X):∃Y,Zx (YT l++X) (k*15) (W0 z m)=YT (l.take k)++Y:=by
 have i:YT l++X=YT (l.take k)++(YT (l.drop k)++X):=by unfold YT;rw[<-ZHY,<-List.flatMap_append,List.take_append_drop]
 have t:(YT (l.take k)).length=k*15:=by rw[ZaL,ZHQ,Nat.min_eq_left ω]
 unfold Zx;rw[i,List.take_left' t,ZHY];exact⟨_,rfl⟩
def Zv9(l):(ZHJ (I l)).flatMap (λk=>(l.getD k dE).cells)=YT l:=by
 unfold YT;have h:l.flatMap Fld.cells=((ZHJ (I l)).map λk=>l.getD k dE).flatMap Fld.cells:=by
  congr 1
  refine List.ext_getElem ψ λi t h2=>?_;simp[ZHL,t]
 rw[h,List.flatMap_map]
def ZiV(l)(hl:I l<=1000000)(hp:0<I l)(st):Za ZHv 124 [Zr l] st λr S=>∃b c X,st b=nO/\I l<=c/\r=.ret (.msl b 0 (I l) c 15)/\S=st.upd b (.cells (YT l++X)):=by
 refine Zb (cR 124 f124) λF hF=>?_;have t:=Zv9 l;refine rx (nd2 @Zr.eq_1 @eQ1) ?_;refine gA ?_;refine iG ?_;refine ZuI rfl rfl rfl rfl rfl rfl φ φ (by exact hp) ω (by unfold big;omega) λb u hb i=>Zm ?_;simp only[Eqs,reduceCtorEq,ZHC,reduceIte,ZHz,ZHE,ZHA];rw[t];exact hF.ret _ _ rfl φ (ZHx _) ZHw ⟨b,u,_,hb,i,rfl,rfl⟩
def Za0(p:Fld->Bool)(l:List Fld):List Fld:=l.filter λx=>!p x
def Zie{p}{l:List Fld}{j}(h:j<I l):Za0 p (l.take (j+1))=Za0 p (l.take j)++if p (l.getD j dE) then [] else [l.getD j dE]:=by
 rw[Yi h];unfold Za0;rw[List.filter_append];congr 1;simp only[List.filter_cons,List.filter_nil];cases p (l.getD j dE)<;>rfl
def Zl5{p}{l:List Fld}{i}(h:∀j,j<i->p (l.getD j dE)=false)(hi:i<=I l):Za0 p (l.take i)=l.take i:=by
 unfold Za0;rw[List.filter_eq_self];intro x hx;obtain⟨j,t,rfl⟩:=ZHR hx;have u:=h j (by rw[ZHQ]at t;omega);rw[ZHQ]at t;simpa[ZHL,show j<I l by omega]using u
def ZqH{p l}(h:∀x∈l,p x=false):Za0 p l=l:=by
 unfold Za0;rw[List.filter_eq_self];intro x i;rw[h x i];rfl
def ZyH{E:List Fld}{k x}(h:k<E.length):(E.set k x).take (k+1)=E.take k++[x]:=by
 rw[List.set_eq_take_append_cons_drop,if_pos h,show E.take k++x::E.drop (k+1)=(E.take k++[x])++E.drop (k+1) by simp,List.take_left' (by simp;omega)]
def ZzL{b c l X T}(hb:T b=sO (.cells (YT l++X)))(hc:I l<=c)(fid p)(hf:∀x,Zf ZHv fid [.agg x.cells] (.bool (p x))):
  Za ZHv 174 [.msl b 0 (I l) c 15,.fn (.func fid) [] []] T λr S=>r=.ret (.i (Zj p l))/\S=T:=by
 have h:=Za.lend (P:=ZHv) (Ln:=[b]) (t:=T) (λx hx=>⟨YT l++X,by rw[List.mem_singleton.1 hx];exact hb⟩) (.cons (ZV.msl (row:=λi=>(l.getD i dE).cells) (cap:=c) (sz:=15) (n:=I l) (List.mem_singleton.2 rfl) hb (by rw[ZHF,ZaL];omega) ?_) (.cons (.refl (.fn (.func fid) [] [])) .nil))
  (QF l (.fn (.func fid) [] []) p (λ_ _=>nO) (λi _=>(hf _).VT (first:=[]) (caps:=[]) _)) (λr S u=>?_)
 refine h.mono λr S hS=>?_;obtain⟨S',⟨u,rfl⟩,_,rfl⟩:=hS;exact⟨u,ZgP T⟩;intro i hi;rw[show((YT l++X).drop (i*15)).take 15=(l.getD i dE).cells from Zh6 hi X];exact .refl _;obtain⟨rfl,rfl⟩:=u;exact⟨.int _ _,λb o h=>by simp at h⟩
def Zfv{b c l X S}(hb:S b=sO (.cells (YT l++X)))(hl:I l<=1000000)(hc:I l<=c)(fid p)(hf:∀x,Zf ZHv fid [.agg x.cells] (.bool (p x))):
  Za ZHv 123 [.msl b 0 (I l) c 15,.fn (.func fid) [] []] S λr T=>r=.ret (.msl b 0 (Za0 p l).length c 15)/\∃Y,T=S.upd b (.cells (YT (Za0 p l)++Y)):=by
 refine Zb (cR 123 f123) λF hF=>?_;have am:=ZzL hb hc fid p hf;refine gG ?_;refine cV (am) ?_ ?_
 .rintro dd T ⟨hr,hT⟩;obtain rfl:=hT.symm;cases hr;refine gR0 ?_;refine rg ?_;by_cases af:Zj p l<0;have ap:Zj p l=-1:=by have:=ZaK p l;omega
  rw[ap];refine i1 ?_;refine rg ?_;exact hF.ret _ _ rfl φ (ZHx _) ZHw ⟨by rw[ZqH (Zco af)];rfl,X,by rw[ZqH (Zco af)];exact(St.upd_self hb).symm⟩;obtain⟨q0,aq⟩:∃q0:Nat,Zj p l=q0:=⟨(Zj p l).toNat,ω⟩;have ao:=WC p l;have aj:=Jt (p:=p) (l:=l) ω;rw[aq]at ao aj⊢;have ab:=λj hj=>aj.2 j hj;have ai:=aj.1;simp only[Int.toNat_natCast]at ab ai;have ag:q0<I l:=ω;refine i0 ?_;refine gA ?_;refine Zd (fr (I l) (λj Q=>j<=I l->∀(k:Nat) (E:List Fld),E.length=I l->k<j->k=(Za0 p (l.take j)).length->E.take k=Za0 p (l.take j)->E.drop j=l.drop j->Q [(0,.d (.msl b 0 (I l) c 15)),(1,.d (.fn (.func fid) [] [])),(5,.d (.i k)),(6,.d (.i j))] [] (S.upd b (.cells (YT E++X)))) (λn t=>?_) λar=>?_)
  .intro j hn hj k E hE hkj hk ae hdr;refine rg ?_;refine cd (λh1=>?_) (λh1=>?_)
   .have ah:j<I l:=by simp at h1;omega
    have hx:E.getD j dE=l.getD j dE:=by
     have h2:(E.drop j)[0]?=(l.drop j)[0]?:=by rw[hdr]
     simpa[ZHL]using congrArg (λo=>o.getD dE) h2
    have ad:(YT E++X).length=I l*15+X.length:=by rw[ZHF,ZaL,hE]
    have hg:=Zh6 (l:=E) (i:=j) ω X;rw[hx]at hg;unfold part at hg;have u:=Zie (p:=p) ah;have ak:E.drop (j+1)=l.drop (j+1):=by rw[<-List.drop_drop,hdr,List.drop_drop]
    generalize l.getD j dE=x at *;refine xA (nd2 @ZHB (nd2 @hg (nd2 @ad (nd2 @ZaM @Zd9)))) ?_;refine xA (nd2 @ZaM @Zd9) ?_;refine cl (hf x) ?_;cases al:p x with
    |true =>rw[al,if_pos rfl,ZH3]at u;refine i0 ?_;refine gA ?_;refine Ze ?_;exact t ((I l)-(j+1)) ω (j+1) rfl ω k E hE ω (by rw[u];exact hk) (by rw[u];exact ae) ak
    |false =>rw[al,if_neg ψ]at u;have ac:=ZxN (l:=E) (i:=k) ω x X;unfold Zx at ac;rw[ZaM]at ac;refine i1 ?_;refine xA (nd2 @ZHB (nd2 @ZHO (nd2 @ad (nd2 @ZaM @Zd9)))) ?_;rw[ac];refine gA ?_;refine gA ?_;rw[show(k:Int)+1=((k+1:Nat):Int) by omega];refine Ze ?_;exact t ((I l)-(j+1)) ω (j+1) rfl ω (k+1) (E.set k x) (by rw[List.length_set];exact hE) ω (by rw[u,ZHF,<-hk];rfl) (by rw[u,<-ae,ZyH ω]) (by rw[List.drop_set_of_lt ω];exact ak)
   have ah:j=I l:=by simp at h1;omega
   subst ah;rw[ZH0]at hk ae;have ad:(YT E++X).length=I l*15+X.length:=by rw[ZHF,ZaL,hE]
   refine rg ?_;refine⟨ω,ω,ω,ω,?_⟩;rw[if_neg ω,show((I l:Int)-k).toNat=I l-k by omega,show((c:Int)-k).toNat=c-k by omega];refine Zmp rfl rfl rfl trivial (cs:=YT E++X) (by simp[Z1,ZHB]) (by rw[ad];omega) ?_;obtain⟨Y,hY⟩:=Zug (l:=E) (k:=k) (m:=I l-k) ω [.str [],.i 0,.i 0,.bool false,.bool false,.i 0,.i 0,.i 0,.nilsl,.str [],.str [],.str [],.nilsl,.i 0,.i 0] X;rw[ae]at hY;rw[hY,ZHO];refine gR0 ?_;refine rg ?_;refine⟨ω,ω,ω,ω,?_⟩;simp only[ite_self,if_pos];exact hF.ret _ _ rfl φ (ZHx _) ZHw ⟨by rw[<-hk];rfl,Y,rfl⟩
  have h0:=ar _ (q0+1) rfl ω q0 l rfl ω (by rw[Zie ag,ai,if_pos rfl,ZH3,Zl5 ab ω,ZHQ];omega) (by rw[Zie ag,ai,if_pos rfl,ZH3,Zl5 ab ω]) rfl;rw[St.upd_self hb]at h0;exact h0
 rintro v T ⟨hr,_⟩;cases hr
def ZlR(f):Zf ZHv 125 [.agg f.cells] (.bool (!hasV f)):=by
 refine Zi (cR 125 f125) λF st i=>?_;refine rx @eQ0 ?_;refine rg ?_;refine cl (ZdO f) ?_;refine rb i ?_;rfl
def ZzP(l):Za0 (λf=>!hasV f) l=vfs l:=by unfold Za0 vfs;simp
def Zgd(m:Msg)(hp:0<I m.fields)(hl:I m.fields<=1000000):Zf ZHv 93 [.agg m.cells] (Zr (vfs m.fields)):=by
 refine Zi (cR 93 f93) λF st t=>?_;refine rx @eQ3 ?_;refine rg ?_;refine cV ((ZiV m.fields hl hp st)) ?_ ?_;rintro dd T ⟨b,c,X,hb,hc,hr,rfl⟩;cases hr;refine gR0 ?_;refine cV ((Zfv (ZHB _ _ _) hl hc 125 (λf=>!hasV f) ZlR)) ?_ ?_;rintro dd2 T2 ⟨hr,Y,rfl⟩;cases hr;refine gR0 ?_;rw[ZzP,ZHO];refine Zi3 [b] (λx hx=>⟨YT (vfs m.fields)++Y,by rw[List.mem_singleton.1 hx];exact ZHB _ _ _⟩) (H':=[(2,.d (Zr (vfs m.fields)))]) (L':=[]) (.cons (ZV.msl (row:=λi=>((vfs m.fields).getD i dE).cells) (List.mem_singleton.2 rfl) (ZHB _ _ _) (by rw[ZHF,ZaL];omega) λi hi=>?_) .nil) .nil ?_;rw[show((YT (vfs m.fields)++Y).drop (i*15)).take 15=((vfs m.fields).getD i dE).cells from Zh6 hi Y];exact .refl _;refine t rfl φ (ZHx _) (λx o hx=>?_);have u:x≠b:=λe=>by rw[e,hb]at hx;simp at hx
 simp only[St.delL,List.mem_singleton,u,if_false];rw[ZHD _ _ u];exact hx;rintro v T2 ⟨hr,_⟩;cases hr;rintro v T ⟨b,c,X,_,_,hr,_⟩;cases hr
def Zm8(f:Fld)(x:Val):Zf ZHv 128 [.agg f.cells,.agg x.cells] (.bool (dC (f.name=x.name))):=by
 refine Zi (cR 128 f128) λF st i=>?_;rw[ZHZ];refine rx @eQ0 ?_;refine rg ?_;refine rb i ?_;rfl
def QT(l:List Fld)(ps:List Val):Bool:=dC (l.map (·.name)=ps.map Val.name)
def Zx7{l ps}(h:I l≠I ps):QT l ps=false:=by
 unfold QT;rw[decide_eq_false_iff_not];intro i;exact h (by simpa using congrArg List.length i)
def Zwp{l ps}(h:I l=I ps)(hn:∀j,j<I l->(l.getD j dE).name=(ps.getD j dE).name):QT l ps=true:=by
 unfold QT;rw[decide_eq_true_eq];refine List.ext_getElem (by simpa using h) λi t u=>?_;have h3:=hn i (by simpa using t);simp at t u;simpa[ZHL,t,u]using h3
def Zwq{l ps j}(h:I l=I ps)(hj:j<I l)(i:dC ((l.getD j dE).name=(ps.getD j dE).name)=false):QT l ps=false:=by
 unfold QT;rw[decide_eq_false_iff_not]at i⊢;intro u;have t:(l.map (·.name))[j]?=(ps.map Val.name)[j]?:=by rw[u]
 refine i ?_;simpa[ZHL,hj,show j<I ps by omega]using t
def Zex(l ps):Zf ZHv 127 [Zr l,ZY ps,.fn (.func 128) [] []] (.bool (QT l ps)):=by
 refine WG (cR 127 f127) λac F st t=>?_;have af:=(WE (ac (Zr l) ψ)).1;have ag:=ZtY (ac (ZY ps) ψ);unfold big at af ag;clear ac;refine rg ?_;refine rx (nd2 @Zfb @Zc6) ?_;refine cd (λhc=>?_) (λhc=>?_);refine rg ?_;refine rb t ?_;exact(Zx7 (l:=l) (ps:=ps) (by simp at hc;omega)).symm;have ab:I l=I ps:=by simp at hc;omega
 refine rx (nd2 @Zfb @Zc6) ?_;refine Zd (fr (I l) (λi Q=>i<=I l->(∀j,j<i->dC ((l.getD j dE).name=(ps.getD j dE).name)=true)->Q [(1,.d (ZY ps)),(2,.d (.fn (.func 128) [] [])),(15,.d (Zr l)),(16,.d (.i (I l))),(17,.d (.i i))] [] st) (λn u=>?_) λah=>?_)
 .intro i hn hi ae;refine rg ?_;refine Zc (Zn rfl trivial (λh1=>?_) (λh1=>?_))
  .simp at h1;have ad:=Zm8 (l.getD i dE) (ps.getD i dE);have hr:=QX (l:=ps) (i:=i) ω;rw[ZHZ]at ad;refine xA (nd2 @atF (nd2 @ZaM @Zd9)) ?_;refine xA (nd2 @atV @hr) ?_;refine rx (nd2 @ZaM @Zd9) ?_;refine cl (ad) ?_;cases hb:dC ((l.getD i dE).name=(ps.getD i dE).name) with
   |true =>refine i0 ?_;refine gA ?_;refine Ze ?_;exact u ((I l)-(i+1)) ω (i+1) rfl ω (Yb (q:=λj=>dC ((l.getD j dE).name=(ps.getD j dE).name)=true) ae hb)
   |false =>refine i1 ?_;refine rg ?_;refine rb t ?_;exact(Zwq ab h1 hb).symm
  simp at h1;obtain rfl:i=I l:=ω;refine rg ?_;refine rb t ?_;exact(Zwp ab λj hj=>by simpa using ae j hj).symm
 exact ah _ 0 rfl ω (by intro j hj;omega)
def ZpS(l ps):Zf ZHv 95 [Zr l,ZY ps] (.bool (QT l ps)):=by
 refine Zi (cR 95 f95) λF st i=>?_;refine gG ?_;refine cl (Zex l ps) ?_;refine rb i ?_;rfl
def Jl(d s)(h:0<=Zq d s (I d.msgs)):Zf ZHv 140 [.agg d.cells,.str s] (.agg (d.msgs.getD (ixS d s) dE).cells):=by
 refine Zi (cR 140 f140) λF st i=>?_;have u:=QR h;generalize hm:d.msgs.getD (ixS d s) dE=m at *;have t:Zj (λx:Msg=>dC (x.name=s)) d.msgs=(ixS d s:Int):=by rw[<-u.1];unfold Zq;rw[ZH0]
 have ab:max (ixS d s:Int) 0=ixS d s:=ω;refine rx @eQ2 ?_;refine rg ?_;refine cX (nd2 @t @ab) (Za4 d s) ?_;refine xA (nd2 @atM (nd2 @hm @eQ3)) ?_;refine ro i ?_;rfl
def ZcC(l:List Fld):Nat->List (Str×Int)
 |0=>[]
 |i+1=>if (l.getD i dE).kind=2 then YN (l.getD i dE).name (l.getD i dE).low (ZcC l i) else ZcC l i
def Zdu(l:List Fld)(ps:List Val)(E:List (Str×Int)):Nat->List (Str×Int)
 |0=>E
 |i+1=>if YE (l.getD i dE) then YN (l.getD i dE).name (ps.getD i dE).int (Zdu l ps E i) else Zdu l ps E i
def Zdt(m:Msg)(ps:List Val):List (Str×Int):=Zdu (vfs m.fields) ps (ZcC m.fields (I m.fields)) (vfs m.fields).length
def Zkz(m)(hp:0<I m.fields)(hl:I m.fields<=1000)(ps)(hn:(vfs m.fields).length=I ps)(st):
  Za ZHv 96 [.agg m.cells,ZY ps] st λr S=>∃b,st b=nO/\r=.ret (.map b)/\S=st.upd b (.map (Kc (Zdt m ps))):=by
 refine Zb (cR 96 f96) λF hF=>?_;have hvl:(vfs m.fields).length<=I m.fields:=List.length_filter_le ..;have ae:=Zgd m hp ω;have hM:=Zdt.eq_1 m ps;generalize vfs m.fields=vl at *;refine rx @eQ3 ?_;refine rg ?_;intro b hb;rw[show([]:List (D×D))=Kc (ZcC m.fields 0) from rfl];refine rx @Zfb ?_;refine Zd (fr (I m.fields) (λi Q=>i<=I m.fields->Q [(1,.d (ZY ps)),(2,.loc 2 0),(5,.d (.map b)),(12,.d (Zr m.fields)),(13,.d (.i (I m.fields))),(14,.d (.i i))] [(2,[.str m.name,Zr m.fields])] (st.upd b (.map (Kc (ZcC m.fields i))))) (λn ab=>?_) λaf=>?_);intro i hn2 hi;refine rg ?_;refine Zc (Zn rfl trivial (λh1=>?_) (λh1=>?_));simp at h1;have t:=ZcC.eq_2 m.fields i;generalize hf:m.fields.getD i dE=f at *;refine xA (nd2 @atF (nd2 @hf @eQ0)) ?_;refine rg ?_;refine cd (λh2=>?_) (λh2=>?_);rw[if_pos (by simpa using h2)]at t;have e2:=JX (vD:=YW) ZN f.name f.low (ZcC m.fields i);have e3:=YX ZN f.name;simp only[show Kz f.name=D.str f.name from rfl,show YW f.low=.i f.low from rfl]at e2 e3;refine xA (nd2 @ZHB (nd2 @ZHO (nd2 @e2 @e3))) ?_;refine gA ?_;rw[<-t];refine Ze ?_;exact ab ((I m.fields)-(i+1)) ω (i+1) rfl ω;rw[if_neg (by simpa using h2)]at t;refine gA ?_;rw[<-t];refine Ze ?_;exact ab ((I m.fields)-(i+1)) ω (i+1) rfl ω;simp at h1;obtain rfl:i=I m.fields:=ω;generalize ZcC m.fields (I m.fields)=E0 at *;refine rg ?_;refine cX @Zfb (ae) ?_;refine Zd (fr (I vl) (λk Q=>k<=I vl->Q [(1,.d (ZY ps)),(5,.d (.map b)),(28,.d (Zr vl)),(29,.d (.i (I vl))),(30,.d (.i k))] [] (st.upd b (.map (Kc (Zdu vl ps E0 k))))) (λn u=>?_) λad=>?_);intro k hn3 hk;refine rg ?_;refine Zc (Zn rfl trivial (λh3=>?_) (λh3=>?_));simp at h3;have t:=Zdu.eq_2 vl ps E0 k;have ac:=QX (l:=ps) (i:=k) ω;generalize hf:vl.getD k dE=f at *;generalize hg:ps.getD k dE=g at *;refine xA (nd2 @atF (nd2 @hf (nd2 @ZaM @Zd9))) ?_;refine rx (nd2 @ZaM @Zd9) ?_;refine cl (Zfp f) ?_;refine cd (λh4=>?_) (λh4=>?_);rw[if_pos h4]at t;have e2:=JX (vD:=YW) ZN f.name g.int (Zdu vl ps E0 k);have e3:=YX ZN f.name;simp only[show Kz f.name=D.str f.name from rfl,show YW g.int=.i g.int from rfl]at e2 e3;refine xA (nd2 @eQ0 (nd2 @atV (nd2 @ac (nd2 @ZHB (nd2 @ZHO (nd2 @e2 @e3)))))) ?_;refine gA ?_;rw[<-t];refine Ze ?_;exact u ((I vl)-(k+1)) ω (k+1) rfl ω;rw[if_neg (by simpa using h4)]at t;refine gA ?_;rw[<-t];refine Ze ?_;exact u ((I vl)-(k+1)) ω (k+1) rfl ω;simp at h3;obtain rfl:k=I vl:=ω;rw[<-hM];refine rg ?_;exact hF.ret _ _ rfl φ (ZHx _) ZHw ⟨b,hb,rfl,rfl⟩;exact ad _ 0 rfl ω;exact af _ 0 rfl ω
def ZoN(n):Zf ZHv 220 [.i n] (.bool (dC (0<=n)&&dC (n<34359738368))):=by
 refine Zi (cR 220 f220) λF st i=>?_;refine gG ?_;refine rb i ?_;rfl
def ckI(st:St)(b5 b6 b7 b8 b9 b:Nat):St :=
 ((((st.upd b5 (.cells [.str []])).upd b6 (.cells [.map b])).upd b7 (.cells [.fn (.func 220) [] []])).upd b8 (.cells [.i 0])).upd b9 (.cells [.bool false])
section
variable {st:St} {b5 b6 b7 b8 b9 b:Nat}
def Wq.i5(h:Wq st b5 b6 b7 b8 b9):(ckI st b5 b6 b7 b8 b9 b) b5=sO (.cells [.str []]):=by
 simp[ckI,ZH7,h.n6.1.symm,h.n7.2.1.symm,h.n8.2.2.1.symm,h.n9.2.2.2.1.symm]
def Wq.i6(h:Wq st b5 b6 b7 b8 b9):(ckI st b5 b6 b7 b8 b9 b) b6=sO (.cells [.map b]):=by
 simp[ckI,ZH7,h.n7.1.symm,h.n8.2.1.symm,h.n9.2.2.1.symm]
def Wq.i7(h:Wq st b5 b6 b7 b8 b9):(ckI st b5 b6 b7 b8 b9 b) b7=sO (.cells [.fn (.func 220) [] []]):=by
 simp[ckI,ZH7,h.n8.1.symm,h.n9.2.1.symm]
def Wq.i8(h:Wq st b5 b6 b7 b8 b9):(ckI st b5 b6 b7 b8 b9 b) b8=sO (.cells [.i 0]):=by
 simp[ckI,ZH7,h.n9.1.symm]
def Wq.i9:(ckI st b5 b6 b7 b8 b9 b) b9=sO (.cells [.bool false]):=by
 simp[ckI,ZH7]
def Wq.im(h:Wq st b5 b6 b7 b8 b9){o}(i:st b=sO o):(ckI st b5 b6 b7 b8 b9 b) b=sO o:=by
 have t:b≠b5:=λe=>by rw[e,h.n5]at i;simp at i
 have u:b≠b6:=λe=>by rw[e,h.n6.2]at i;simp at i
 have h7:b≠b7:=λe=>by rw[e,h.n7.2.2]at i;simp at i
 have h8:b≠b8:=λe=>by rw[e,h.n8.2.2.2]at i;simp at i
 have h9:b≠b9:=λe=>by rw[e,h.n9.2.2.2.2]at i;simp at i
 simp[ckI,ZH7,t,u,h7,h8,h9,i]
def Wq.isub(h:Wq st b5 b6 b7 b8 b9):st.sub (ckI st b5 b6 b7 b8 b9 b):=λc o i=>by
 have t:c≠b5:=λe=>by rw[e,h.n5]at i;simp at i
 have u:c≠b6:=λe=>by rw[e,h.n6.2]at i;simp at i
 have h7:c≠b7:=λe=>by rw[e,h.n7.2.2]at i;simp at i
 have h8:c≠b8:=λe=>by rw[e,h.n8.2.2.2]at i;simp at i
 have h9:c≠b9:=λe=>by rw[e,h.n9.2.2.2.2]at i;simp at i
 simp[ckI,ZH7,t,u,h7,h8,h9,i]
def ZA7(h:Wq st b5 b6 b7 b8 b9){H L}(hρ:ZK H 8=sO (.d (.ptr b8 0)):=by rfl):
  YC H L (ckI st b5 b6 b7 b8 b9 b) [.cell1 8]=sO (True/\True,[.i 0]):=by
 simp[YC,Kn,hρ,Wm,Z1,h.i8]
end
def Zna(s)(hv:Z6 s=true)(b l st)(hb:st b=sO (.map (Kc l)))(hk:∀t∈s.terms,∃v,Zp t.field l=sO v/\0<=v/\v<34359738368):
  Za ZHv 219 [.agg s.cells,.str [],.map b,.fn (.func 220) [] []] st (λr S=>r=.ret (.i 0)/\S=st):=by
 refine Zb (cR 219 f219) λF hF=>?_;refine rx @eQ4 ?_;refine rx @eQ4 ?_;refine cl (Zbx s) ?_;rw[hv];refine iG ?_;refine Zc (Zc ?_);refine xP 5 λb5 h5=>?_;refine xP 6 λb6 h6=>?_;refine xP 7 λb7 h7=>?_;refine xP 8 λb8 h8=>?_;refine xP 9 λb9 h9=>?_;refine rx @eQ4 ?_;refine cV (Zd5 s hv) ?_ ?_;rintro d S ⟨x,hx,hd,rfl⟩;cases hd;refine gR0 ?_;refine Zd ?_;have i:Wq st b5 b6 b7 b8 b9:=by have k6:=Zo h6;have k7:=Zo h7;have al:=Zo k7.2;have k8:=Zo h8;have af:=Zo k8.2;have am:=Zo af.2;have k9:=Zo h9;have ag:=Zo k9.2;have ah:=Zo ag.2;have ao:=Zo ah.2;exact⟨h5,k6,⟨k7.1,al⟩,⟨k8.1,af.1,am⟩,⟨k9.1,ag.1,ah.1,ao⟩⟩
 have hfew:=Zae hv;rw[show(((((st.upd b5 (.cells [.str []])).upd b6 (.cells [.map b])).upd b7 (.cells [.fn (.func 220) [] []])).upd b8 (.cells [.i 0])).upd b9 (.cells [.bool false]))=ckI st b5 b6 b7 b8 b9 b from rfl]at hx⊢;refine KM hF rfl trivial [5,6,7,8,9] (by show([5,6,7,8,9]:List Nat).Nodup;decide) (W6 hx) (ZcK s.terms (by unfold big;omega) x).Y (λj hj=>rfl)
  (λj=>.next) (λj a=>a=ckI st b5 b6 b7 b8 b9 b) rfl ?_ ?_ ?_ ?_ ?_ ?_
 intro j a hj ab hB F' ready busy hdr ac ad;subst hB;simp only[Eqs,reduceCtorEq,ZHC,reduceIte,ZHz,ZHE,ZHA,WL,Kd,Ji,Km,List.isEmpty_nil,List.isEmpty_cons];refine rg ?_;refine ac λai=>?_;have ak:(s.terms.getD j dE).field≠[]:=ZkO hv hj;obtain⟨v,hg,h0,h1⟩:=hk _ (ZD hj);generalize htm:s.terms.getD j dE=tm at *;have e1:=YD (vD:=YW) ZN tm.field l;have e3:=YX ZN tm.field;simp only[show Kz tm.field=D.str tm.field from rfl]at e1 e3;rw[hg]at e1;have ae:(ckI st b5 b6 b7 b8 b9 b).upd b8 (.cells [.i 0])=ckI st b5 b6 b7 b8 b9 b:=St.upd_self i.i8;refine rh ?_;refine Zm ?_;simp only[Eqs,reduceCtorEq,ZHC,reduceIte,ZHz,ZHE,ZHA,Zt (i.i6 ),Zt (i.im hb),e1,e3];refine rh ?_;refine Zm ?_;simp only[Eqs,reduceCtorEq,ZHC,reduceIte,ZHz,ZHE,ZHA,Zt (i.i5 )];refine Zn rfl trivial (λh=>by simp at h;exact absurd h ak) (λ_=>?_);refine gI ?_;rw[show YW v=.i v from rfl];refine rh ?_;refine Zm ?_;simp only[Eqs,reduceCtorEq,ZHC,reduceIte,ZHz,ZHE,ZHA,Zt (i.i7 )];refine cl (ZoN v) ?_;refine Zn rfl trivial (λh=>by simp at h;omega) (λ_=>?_);refine ZI (Zs (Zs ?_));exact ad.fin ⟨rfl,rfl⟩ ai ZHw;intro q a ab hB hq;subst hB;rw[Qn hq];have aj:=W6 (o:=QL.dfr) hq;have ae:(ckI st b5 b6 b7 b8 b9 b).upd b8 (.cells [.i 0])=ckI st b5 b6 b7 b8 b9 b:=St.upd_self i.i8;refine rh ?_;refine Zm ?_;simp only[Eqs,reduceCtorEq,ZHC,reduceIte,ZHz,ZHE,ZHA,Zt (Wq.i9 )];refine i0 ?_;refine rh ?_;refine Zm ?_;simp only[Eqs,reduceCtorEq,ZHC,reduceIte,ZHz,ZHE,ZHA,Zt (i.i8 ),W8,ae];exact hF.ret1 (Zjr aj Yl) (.i 0) st (ZA7 i) ⟨trivial,trivial⟩ (ZHx _) i.isub ⟨rfl,rfl⟩;intro q a m hm ab u;simp at u;intro q a m id hm ab u;simp at u;intro q a m d hm ab u;simp at u;intro m c u;simp at u;rintro d S ⟨x,hx,hd,rfl⟩;cases hd
def ZpV(t:Yw){b z l st}(hb:st b=sO (.map (Kc l)))(hz:st z=sO (.cells [.map b])):
  ZL ZHv 222 [.agg t.cells,.ptr z 0] st (.i ((Zp t.field l).getD 0)) st:=by
 refine ZE (cR 222 f222) λu F i=>?_;clear u;have e1:=YD (vD:=YW) ZN t.field l;have e3:=YX ZN t.field;simp only[show Kz t.field=D.str t.field from rfl]at e1 e3;refine rx @Yw.cells.eq_1 ?_;refine rx (nd2 @hb (nd2 @hz (nd2 @e1 (nd2 @e3 @ZeI)))) ?_;exact i rfl φ (ZHx _) ZHw
def Zas(s:ZbA)(l:List (Str×Int)):Int:=s.base+QZ (λt=>(Zp t.field l).getD 0) s.terms
def ZtL(s)(hv:Z6 s=true)(b l st)(hb:st b=sO (.map (Kc l)))(hk:∀t∈s.terms,∃v,Zp t.field l=sO v/\0<=v/\v<34359738368):
  Za ZHv 178 [.agg s.cells,.map b] st (λr S=>r=.ret (.tup [.i (Zas s l),.i 0])/\S=st):=by
 refine Zb (cR 178 f178) λF hF=>?_;have hE:=Zas.eq_1 s l;have i:∀t∈s.terms,0<=(Zp t.field l).getD 0/\(Zp t.field l).getD 0<34359738368:=λt ht=>by obtain⟨v,h1,h2,h3⟩:=hk t ht;rw[h1];exact⟨h2,h3⟩
 refine rx @eQ4 ?_;refine rx @eQ4 ?_;refine cV (Zna s hv b l st hb hk) ?_ ?_;rintro d S ⟨hd,hS⟩;obtain rfl:=hS.symm;cases hd;refine gR0 ?_;refine gI ?_;refine ZI (Zc ?_);refine xP 3 λz hz=>?_;have u:b≠z:=λe=>by rw[e,hz]at hb;simp at hb
 refine rx @eQ4 ?_;refine Zaz rfl rfl rfl rfl rfl φ φ (by exact Zht s hv (λt=>(Zp t.field l).getD 0) i (λt ht=>(ZpV t (by rw[ZHD _ _ u];exact hb) (ZHB _ _ _)).VT (first:=[]) (args:=[_]) (caps:=[_]))) (Zm ?_);simp only[Eqs,reduceCtorEq,ZHC,reduceIte,ZHz,ZHE,ZHA];exact hF.ret _ _ rfl φ (JC (by rw[hE]) rfl) (ZHV _ hz) ⟨rfl,rfl⟩;rintro d S ⟨hd,_⟩;cases hd
def WS(m:Msg)(d:Dfn)(path:Str)(b:Nat):List D:=[.str m.name,Zr m.fields,.str d.name,YF d.msgs,.str d.start,.str path,.map b]
def Zao(m d path)(f:Fld)(hv:Z6 f.size=true)(b l st)(hb:st b=sO (.map (Kc l)))(hk:∀t∈f.size.terms,∃v,Zp t.field l=sO v/\0<=v/\v<34359738368):
  Za ZHv 135 [.agg (WS m d path b),.agg f.cells] st (λr S=>r=.ret (.i (Zas f.size l))/\S=st):=by
 refine Zb (cR 135 f135) λF hF=>?_;have hE:=ZtL f.size hv b l st hb hk;refine rx (nd2 @eQ0 @WS.eq_1) ?_;refine rg ?_;refine cV (hE) ?_ ?_;rintro u S ⟨i,hS⟩;obtain rfl:=hS.symm;cases i;refine gR0 ?_;refine rg ?_;exact hF.ret _ _ rfl φ (ZHx _) ZHw ⟨rfl,rfl⟩;rintro u S ⟨i,_⟩;cases i
def Zb4{v of}(hv:0<=v)(ho:1<=of):(v<=upS v of/\upS v of<v+of)/\upS v of % of=0/\((v+of)-1).tdiv of<=upS v of/\0<=((v+of)-1).tdiv of:=by
 unfold upS;have e:((v+of)-1).tdiv of=(v+of-1) / of:=Int.tdiv_eq_ediv_of_nonneg ω;rw[e];have t:=Int.emod_add_mul_ediv (v+of-1) of;have h2:=Int.emod_nonneg (v+of-1) (show of≠0 by omega);have h3:=Int.emod_lt_of_pos (v+of-1) (show 0<of by omega);have i:0<=(v+of-1) / of:=Int.ediv_nonneg ω ω;have u:(v+of-1) / of<=(v+of-1) / of*of:=by have:=Int.mul_le_mul_of_nonneg_left ho i;rwa [Int.mul_one]at this
 have h6:(v+of-1) / of*of % of=0:=Int.mul_emod_left _ _;rw[Int.mul_comm]at t;generalize (v+of-1) / of*of=x at *;exact⟨ω,h6,u,i⟩
def Zsi{v of}(hv:0<=v/\v<=400000000)(ho:1<=of/\of<=1000):Zf ZHv 101 [.i v,.i of] (.i (upS v of)):=by
 obtain⟨hb,_,hb2,hb3⟩:=Zb4 hv.1 ho.1;have t:((v+of)-1).tdiv of*of=upS v of:=rfl;refine Zi (cR 101 f101) λF st i=>?_;refine gG ?_;generalize ((v+of)-1).tdiv of=q at *;rw[t];generalize upS v of=u at *;refine aa ?_;refine ri i ?_;rfl
def Zbu(n:Int):Bool:=(dC (n=2) ||decide (n=4)) ||(dC (8<=n)&&dC (n<=512)&&dC (n.tmod 8=0))
def ZeS{n v}(hn:Zbu n=true)(hv:0<=v/\v<=335544320):Zf ZHv 72 [.i n,.i v] (.tup [.i (upS v n-v),.i 0]):=by
 have hb:1<=n/\n<=1000:=by unfold Zbu at hn;simp only[ZHT,ZHG,decide_eq_true_eq]at hn;omega
 have hU:=Zb4 hv.1 hb.1;have t:=Zsi (v:=v) (of:=n) ⟨ω,ω⟩ hb;have hP:=Zbu.eq_1 n;have ht:n.tmod 8=n % 8:=Int.tmod_eq_emod_of_nonneg ω;rw[hn]at hP;refine Zi (cR 72 f72) λF st i=>?_;refine gG ?_;refine⟨λ_=>⟨by decide,by rw[ht];omega,by rw[ht];omega⟩,?_⟩;rw[<-hP];refine rg ?_;have hd:(dC (v<0) ||decide (335544320<v))=false:=by simp;omega
 refine Zn rfl trivial (λh=>by simp at h;omega) (λ_=>?_);refine rg ?_;refine cl (t) ?_;generalize upS v n=u at *;refine aa ?_;refine rt i ?_;rfl
def ZrN:List D:=[.i 16,.i 0,.i 0,.i 0,.fn (.func 190) [] [],.fn (.func 191) [] [],.i 16,.i 65535,.i 0,.i 0,.fn (.func 192) [] [],.fn (.func 193) [] [],.i 32,.i 1,.i 0,.i 0,.fn (.func 194) [] [],.fn (.func 195) [] []]
def ZeZ:Zf ZHv 153 [] (.agg ZrN):=by
 refine Zi (cR 153 f153) λF st i=>?_;refine gG ?_;exact i rfl φ (ZHx _) ZHw
def W5(n:Int):Int:=if n=3 then 32 else 16
def ZzW{n}(h:n=1\/n=2\/n=3):∃a b c f g,part ZrN ((n-1).toNat*6) 6=[.i (W5 n),a,b,c,f,g]:=by
 rcases h with rfl|rfl|rfl<;>exact⟨_,_,_,_,_,rfl⟩
def ZlV{n}(h:n=1\/n=2\/n=3){a b c f g}(t:part ZrN ((n-1).toNat*6) 6=[.i (W5 n),a,b,c,f,g]):Zf ZHv 105 [.i n] (.tup [.agg [.i (W5 n),a,b,c,f,g],.bool true]):=by
 refine Zi (cR 105 f105) λF st i=>?_;unfold part at t;have u:ZrN.length=18:=rfl;refine gG ?_;refine cG (ZeZ) ?_;refine Zn rfl trivial (λh=>by simp at h;omega) (λ_=>?_);refine rg ?_;refine cX (nd2 @t @u) (ZeZ) ?_;refine aa ?_;refine rt i ?_;rfl
def Zrf{n}(h:n=1\/n=2\/n=3):Zf ZHv 184 [.i n] (.tup [.i (W5 n),.i 0]):=by
 obtain⟨a,b,c,f,g,u⟩:=ZzW h;have t:=ZlV h u;refine Zi (cR 184 f184) λF st i=>?_;refine gG ?_;refine cl (t) ?_;refine rg ?_;refine iG ?_;refine rt i ?_;rfl
def Wl(v i:Nat):Nat:=v / 128 ^ i
def ZcE(v i):Wl v (i+1)=Wl v i / 128:=by unfold Wl;rw[Nat.pow_succ,Nat.div_div_eq_div_mul]
def Zk9(v k:Nat):UInt8:=UInt8.ofNat (Wl v k % 128+128)
def Zoa(v k:Nat):UInt8:=UInt8.ofNat (Wl v k % 128)
def Zm0(v i:Nat):Str:=(ZHJ i).map (Zk9 v)
def Zyf(v i):Zm0 v (i+1)=Zm0 v i++[Zk9 v i]:=by unfold Zm0;rw[List.range_succ,List.map_append];rfl
def ZbI(v i):(Zm0 v i).length=i:=by simp[Zm0]
def Kb(v i:Nat):Str:=Zm0 v i++[Zoa v i]
def Yd(v:Nat):Nat:=if Wl v 0<128 then 0 else if Wl v 1<128 then 1 else if Wl v 2<128 then 2 else if Wl v 3<128 then 3 else 4
def Zpz{v}(hv:v<34359738368):Yd v<=4/\(Wl v 0<128↔Yd v<=0)/\(Wl v 1<128↔Yd v<=1)/\(Wl v 2<128↔Yd v<=2)/\(Wl v 3<128↔Yd v<=3)/\Wl v 4<128:=by
 have e0:Wl v 0=v:=by simp[Wl]
 have e1:=ZcE v 0;have e2:=ZcE v 1;have e3:=ZcE v 2;have e4:=ZcE v 3;have t:=Yd.eq_1 v;generalize Yd v=g at *;generalize Wl v 0=u at *;generalize Wl v 1=r1 at *;generalize Wl v 2=r2 at *;generalize Wl v 3=r3 at *;generalize hr4:Wl v 4=r4 at *;have i:g<=4/\(u<128↔g<=0)/\(r1<128↔g<=1)/\(r2<128↔g<=2)/\(r3<128↔g<=3)/\r4<128:=by
  repeat' (split at t)
  all_goals omega
 exact i
def ZzG{v}(hv:v<34359738368){i}(hi:i<5):Wl v i<128↔Yd v<=i:=by
 obtain⟨h,t,u,h2,h3,h4⟩:=Zpz hv;have h5:i=0\/i=1\/i=2\/i=3\/i=4:=ω;rcases h5 with rfl|rfl|rfl|rfl|rfl;exact t;exact u;exact h2;exact h3;exact⟨λ_=>h,λ_=>h4⟩
def ZlU(n):Zf ZHv 149 [.i n] (.bool (dC (0<=n)&&dC (n<34359738368))):=by
 refine Zi (cR 149 f149) λF st i=>?_;refine gG ?_;refine rb i ?_;rfl
def ZpG{a T:St}{tk k}(h:∀b,tk=.tip b->a b=nO):(a.or T).own tk k=a.or (T.own tk k):=by
 cases tk with
 |tip b=>exact Zhl (h b rfl)
 |_=>rfl
def Zo2{v}(st):Za ZHv 98 [.i v] st λr S=>∃x,st x=nO/\r=.ret (.fn (.func 148) [] [.ptr x 0])/\S=st.or (ZH1 x (.cells [.i v])):=by
 refine Zb (cR 98 f98) λF t=>?_;refine rg ?_;refine Zc ?_;refine xP 1 λx i=>?_;refine rg ?_;exact t.ret _ _ rfl φ (ZHx _) ZHw ⟨x,i,rfl,Qn i⟩
def u8n{n}(h:n<256):(UInt8.ofNat n).toNat=n:=by rw[UInt8.toNat_ofNat'];omega
def Zp1{n}(h:0<=n/\n<=255):IntKind.u8.wrap n=n:=by
 unfold IntKind.wrap;simp[IntKind.bits,IntKind.signed];omega
def ZlT{v}(hv:v<34359738368)(x):ZcS ZHv (.fn (.func 148) [] [.ptr x 0]) (5-Yd v) (λj=>[Zh (Kb v (Yd v+j))]) (ZH1 x (.cells [.i v])):=by
 intro y go A a0 ak hA hd;obtain⟨hg4,-⟩:=Zpz hv;refine Za.V (first:=[]) (args:=[y]) (caps:=[.ptr x 0]) (Zb (cR 148 f148) λF hF=>?_);have hx:∀a T,Z4 a T->T x=sO (.cells [.i (v:Int)])->(a.or T) x=sO (.cells [.i (v:Int)]):=λa T a5 hT=>by rw[ZF (a5 x _ hT)];exact hT
 have af:(ZH1 x (.cells [.i (v:Int)])) x=sO (.cells [.i (v:Int)]):=Yl;generalize hT:ZH1 x (.cells [.i (v:Int)])=T at *;refine rg ?_;refine rh ?_;refine Zm ?_;simp only[Eqs,reduceCtorEq,ZHC,reduceIte,ZHz,ZHE,ZHA,hx a0 T hd af];rw[show(v:Int)=((Wl v 0:Nat):Int) by simp[Wl]];refine kl ((a0.or T)) [(0,.d y),(1,.d (.ptr x 0)),(3,.d (.sl .full 0 1 λ_=>[])),(4,.d (.i ((Wl v 0:Nat):Int)))] [] (.skip (.skip (.cons (.d (YL λb h=>by cases h)) Qe))) ZaB ?_;refine Zd (fr (5) (λi Q=>∀a tk row,Z4 a (T.own tk i)->tk.okIn (a.or T)->A (i-Yd v) a->(∀j,j<i-Yd v->go j=.next)->ZU byC row (Zm0 v i)->i<=5->Q [(0,.d y),(1,.d (.ptr x 0)),(3,.d (.sl tk i 1 row)),(4,.d (.i ((Wl v i:Nat):Int)))] [] (a.or (T.own tk i))) (λn ai=>?_) λbe=>?_)
 .clear hA hd;intro i hn a tk row hd ad hA ab aj hi;have av:=ZpG (a:=a) (T:=T) (tk:=tk) (k:=i) (λb hb=>by subst hb;exact hd b (.tip i) (ZHB _ _ _));have ba:(T.own tk i) x=sO (.cells [.i (v:Int)]):=by
   cases tk with
   |tip b =>
    have hb:x≠b:=λe=>by have:=(Jb ad).2;rw[<-e,af]at this;simp at this
    show(T.upd b _) x=_;rw[ZHD _ _ hb];exact af
   |full=>exact af
   |none=>exact af
  refine rh ?_;refine Zm ?_;simp only[Eqs,reduceCtorEq,ZHC,reduceIte,ZHz,ZHE,ZHA,hx a _ hd ba];refine cl (ZlU (v:Int)) ?_;refine cd (λh1=>?_) (λh1=>?_)
  .have az:i<5:=by simp at h1;omega
   have hlt:i=5\/i<5:=ω;obtain⟨r,hr⟩:∃r:Nat,r=Wl v i:=⟨_,rfl⟩;have ac:((r:Nat):Int).tmod 128=((r % 128:Nat):Int):=by rw[Int.tmod_eq_emod_of_nonneg ω];omega
   have a3:IntKind.u8.wrap (((r:Nat):Int).tmod 128)=((Zoa v i).toNat:Int):=by rw[ac,Zp1 ω];unfold Zoa;rw[<-hr,u8n ω]
   have a4:IntKind.u8.wrap (((r:Nat):Int).tmod 128+128)=((Zk9 v i).toNat:Int):=by rw[ac,show((r % 128:Nat):Int)+128=((r % 128+128:Nat):Int) by omega,Zp1 ω];unfold Zk9;rw[<-hr,u8n ω]
   rw[<-hr];refine rx @a3 ?_;refine⟨ω,ω,ω,by decide,by rw[ac];omega,by rw[ac];omega,?_⟩;refine JA ((a.or (T.own tk i))) (.full) rfl rfl rfl rfl rfl rfl φ φ rfl (by first|trivial|assumption) ω (by (unfold big;omega)) λt1 ax=>Zm ?_;simp only[Eqs,reduceCtorEq,ZHC,reduceIte,ZHz,ZHE,ZHA];have ap:ZU byC (Yg i (λi=>row i) (ZR [D.int IntKind.u8 0] ([0].zip [D.int IntKind.u8 ((Zoa v i).toNat:Int)]))) (Kb v i):=aj.snoc (x:=Zoa v i) rfl (ZbI v i).symm;have a6:i+1=(Kb v i).length:=by unfold Kb;rw[ZHF,ZbI];rfl
   refine KF (s':=a.or (T.own tk i)) (YR ax) ?_;refine kl ((a.or (T.own tk i))) [(0,.d y),(1,.d (.ptr x 0)),(3,.d (.sl tk i 1 row)),(4,.d (.i (r:Int))),(5,.d (Zh (Kb v i)))] [] (.skip (.skip (.skip (.skip (.cons (.d (ap.le a6)) Qe))))) ZaB ?_;clear ax;refine jU [1,0] (λQ=>∀a,Z4 a (T.own tk i)->tk.okIn (a.or T)->A (i+1-Yd v) a->(∀j,j<i+1-Yd v->go j=.next)->Q F [(0,.d y),(1,.d (.ptr x 0)),(3,.d (.sl tk i 1 row)),(4,.d (.i (r:Int))),(34,.d (.bool false))] [] (a.or (T.own tk i))) ?_ λfin=>?_
   .intro a hd ad hA ab;have bc:tk.okIn T:=by
     cases tk with
     |tip b=>exact(Jb ad).2
     |full=>trivial
     |none=>exact ad.elim
    have am:Z4 a T:=λc o hc=>hd c o (YR bc c o hc);have av:=ZpG (a:=a) (T:=T) (tk:=tk) (k:=i) (λb hb=>by subst hb;exact hd b (.tip i) (ZHB _ _ _));rw[<-av,show(a.or T).own tk i=(a.or T).own tk (i*1) by rw[Nat.mul_one]];refine rx @a4 ?_;refine⟨by decide,by rw[ac];omega,by rw[ac];omega,by rw[ac];omega,by rw[ac];omega,?_⟩;refine JA ((a.or T)) (tk) rfl rfl rfl rfl rfl rfl φ φ (by rw[Nat.mul_one]) ad ω (by (unfold big;omega)) λt2 ay=>Zm ?_;simp only[Eqs,reduceCtorEq,ZHC,reduceIte,ZHz,ZHE,ZHA];have ah:=aj.snoc (x:=Zk9 v i) (row2:=ZR [D.int IntKind.u8 0] ([0].zip [D.int IntKind.u8 ((Zk9 v i).toNat:Int)])) rfl (ZbI v i).symm;rw[<-Zyf]at ah;have ar:Z4 a (T.own t2 (i+1)):=by
     cases t2 with
     |tip b =>intro c o hc;by_cases aq:c=b;rw[aq];exact(Jb ay).1;rw[show(T.own (.tip b) (i+1)) c=T c from ZHD _ _ aq]at hc;exact am c o hc
     |full=>exact am
     |none=>exact am
    have aw:=ZpG (a:=a) (T:=T) (tk:=t2) (k:=i+1) (λb hb=>by subst hb;exact ar b (.tip (i+1)) (ZHB _ _ _));rw[Nat.mul_one,aw];have bb:QE .i64 (r:Int) 7=((Wl v (i+1):Nat):Int):=by rw[ZcE,<-hr];unfold QE;rw[show((2:Int) ^ (Nat.min (7:Int).toNat IntKind.i64.bits))=128 from rfl,Int.fdiv_eq_ediv_of_nonneg _ (by decide)];omega
    have hvb:Wl v (i+1)<=v:=by unfold Wl;exact Nat.div_le_self _ _
    refine rx @bb ?_;refine⟨by decide,ω,ω,?_⟩;refine Ze ?_;exact ai ((5)-(i+1)) ω (i+1) rfl a t2 _ ar ay hA ab ah ω
   have a7:=ZzG hv az;rw[<-hr]at a7;by_cases hq:r<128
   .have ao:dC ((r:Int)<128)=true:=by simpa using(show(r:Int)<128 by omega)
    have a8:i=Yd v+(i-Yd v):=ω;have ag:=(ak (i-Yd v) ω ab a hA).frame hd;simp only[show Yd v+(i-Yd v)=i from a8.symm]at ag;refine rx @ao ?_;refine vV (ag) ?_ ?_
    .rintro d S ⟨s',⟨t,ae⟩,al,rfl⟩;have au:tk.okIn (s'.or T):=by
      cases tk with
      |tip b=>show(s'.or T) b=nO;rw[ZF (al b (.tip i) (ZHB _ _ _))];exact(Jb ad).2
      |full=>trivial
      |none=>exact ad.elim
     rw[show i-Yd v+1=i+1-Yd v by omega]at ae;cases u:go (i-Yd v) with
     |next =>rw[u]at t;cases t;refine gR0 ?_;refine i0 ?_;refine ZI ?_;refine fin s' al au ae λj hj=>?_;by_cases a9:j=i-Yd v;rw[a9];exact u;exact ab j ω
     |stop c =>rw[u]at t;cases t;refine gR0 ?_;refine i1 ?_;exact hF.ret (.tup []) _ rfl trivial (ZHx _) ZHw ⟨s',.stop (i-Yd v) c ω ab u (by rw[show i-Yd v+1=i+1-Yd v by omega];exact ae),Kv⟩
     |pan d=>rw[u]at t;cases t
    rintro d S ⟨s',⟨t,ae⟩,al,rfl⟩;cases u:go (i-Yd v) with
    |pan d' =>rw[u]at t;cases t;exact hF.pan _ ZHw ⟨s',.pan (i-Yd v) d ω ab u ae,Kv⟩
    |next=>rw[u]at t;cases t
    |stop c=>rw[u]at t;cases t
   have ao:dC ((r:Int)<128)=false:=by simpa using(show ¬(r:Int)<128 by omega)
   refine rx @ao ?_;refine JB rfl (e:=.d (.bool false)) (Zm ?_);simp only[Eqs,reduceCtorEq,ZHC,reduceIte,ZHz,ZHE,ZHA];refine i0 ?_;refine ZI ?_;exact fin a hd ad (by rw[show i+1-Yd v=i-Yd v by omega];exact hA) (λj hj=>ab j ω)
  have h5:i=5:=by simp at h1;omega
  subst h5;refine ZS rfl ?_;exact hF.fin (.tup []) _ rfl trivial (ZHx _) ZHw ⟨a,.all ab hA,Kv⟩
 exact be _ 0 rfl a0 .full _ hd trivial (by rw[Nat.zero_sub];exact hA) (by intro j hj;omega) ZU.nil ω
def apV(st:St)(b2 b4 b5:Nat)(d:D):St:=((st.upd b2 (.cells [.nilsl])).upd b4 (.cells [d])).upd b5 (.cells [.i 0])
def ZfF{v:Nat}(hv:v<34359738368)(st):Za ZHv 68 [.nilsl,.i v] st λr S=>r=.ret (.tup [Zh (Kb v (Yd v)),.i 0])/\S=st:=by
 refine Zb (cR 68 f68) λF hF=>?_;obtain⟨hg4,-⟩:=Zpz hv;have ag:(Kb v (Yd v)).length=Yd v+1:=by unfold Kb;rw[ZHF,ZbI];rfl
 refine rg ?_;refine Zc (Zc ?_);refine xP 2 λb2 h2=>?_;refine xP 4 λb4 h4=>?_;refine xP 5 λb5 h5=>?_;refine rg ?_;refine cV (Zo2 (v:=(v:Int)) _) ?_ ?_;rintro d S ⟨x,hx,hd,rfl⟩;cases hd;refine gR0 ?_;refine Zd ?_;have k4:=Zo h4;have k5:=Zo h5;have al:=Zo k5.2;rw[show((st.upd b2 (.cells [.nilsl])).upd b4 (.cells [.nilsl])).upd b5 (.cells [.i 0])=apV st b2 b4 b5 .nilsl from rfl]at hx⊢;have g2:∀d,(apV st b2 b4 b5 d) b2=sO (.cells [.nilsl]):=λd=>by unfold apV;rw[ZHD _ _ al.1.symm,ZHD _ _ k4.1.symm,ZHB]
 have g4:∀d,(apV st b2 b4 b5 d) b4=sO (.cells [d]):=λd=>by unfold apV;rw[ZHD _ _ k5.1.symm,ZHB]
 have g5:∀d,(apV st b2 b4 b5 d) b5=sO (.cells [.i 0]):=λd=>by unfold apV;rw[ZHB]
 have u4:∀d d',(apV st b2 b4 b5 d).upd b4 (.cells [d'])=apV st b2 b4 b5 d':=λd d'=>by unfold apV;rw[St.upd_comm k5.1.symm,ZHO]
 have u5:∀d,(apV st b2 b4 b5 d).upd b5 (.cells [.i 0])=apV st b2 b4 b5 d:=λd=>by unfold apV;rw[ZHO]
 have sb:∀d,st.sub (apV st b2 b4 b5 d):=λd=>by unfold apV;exact ZIe (ZIe (ZHV _ h2) (ZHV _ h4)) (ZHV _ (by rw[ZHD _ _ k5.1];exact k5.2))
 refine KM hF rfl trivial [2,4,5] (by show([2,4,5]:List Nat).Nodup;decide) (W6 hx) (ZlT hv x).Y (λj hj=>rfl)
  (λj=>.stop .ret) (λj a=>(j=0/\a=apV st b2 b4 b5 .nilsl)\/(0<j/\a=apV st b2 b4 b5 (Zh (Kb v (Yd v))))) (.inl ⟨rfl,rfl⟩) ?_ ?_ ?_ ?_ ?_ ?_
 intro j a hj ab hB F' ready t hdr ad af;have ak:j=0:=by refine Nat.eq_zero_of_not_pos λh=>?_;have:=ab 0 h;simp at this
 subst ak;rcases hB with ⟨_,rfl⟩|⟨h,_⟩
 skip
 simp only[Eqs,reduceCtorEq,ZHC,reduceIte,ZHz,ZHE,ZHA,WL,Kd,Ji,Km,List.isEmpty_nil,List.isEmpty_cons];refine rg ?_;refine ad λaj=>?_;have ae:Z4 (apV st b2 b4 b5 (Zh (Kb v (Yd v)))) t:=λc o hc=>by have h1:=aj c o hc;unfold apV at h1⊢;have a1:=Zo h1;have a2:=Zo a1.2;rw[ZHD _ _ a1.1,ZHD _ _ a2.1];exact a2.2
 refine rh ?_;refine Zm ?_;simp only[Eqs,reduceCtorEq,ZHC,reduceIte,ZHz,ZHE,ZHA,Zt (g2 _)];refine JA (((apV st b2 b4 b5 .nilsl).or t)) (.full) rfl rfl rfl rfl rfl rfl φ φ rfl (by first|trivial|assumption) (by (rw[ag];omega)) (by (rw[ag];unfold big;omega)) λt1 ac=>Zm ?_;simp only[Eqs,reduceCtorEq,ZHC,reduceIte,ZHz,ZHE,ZHA,ZpF ac (Zt (g4 _)),ZpF ac (Zt (g5 _)),ZHD _ _ k5.1];have ah:ZU u8C (Yg 0 (λ_=>[]) λi=>u8C (ZHL (Kb v (Yd v)) i dE)) ([]++Kb v (Yd v)):=ZU.nil.app ZU.self rfl;have ai:((apV st b2 b4 b5 (Zh (Kb v (Yd v)))).or t).sub (((((((apV st b2 b4 b5 .nilsl).or t).own t1 (List.length (Kb v (Yd v))*1)).upd b4 (.cells [.sl t1 (List.length (Kb v (Yd v))) 1 (Yg 0 (λ_=>[]) λi=>u8C (ZHL (Kb v (Yd v)) i dE))])).upd b5 (.cells [.i 0])).upd b4 (.cells [Zh (Kb v (Yd v))]))):=λc o hc=>by
  by_cases c4:c=b4;subst c4;rw[ZHB];rw[Zt (g4 _)]at hc;exact hc;rw[ZHD _ _ c4];by_cases c5:c=b5;subst c5;rw[ZHB];rw[Zt (g5 _)]at hc;exact hc;rw[ZHD _ _ c5,ZHD _ _ c4];refine ZpF ac ?_;have he:(apV st b2 b4 b5 (Zh (Kb v (Yd v)))) c=(apV st b2 b4 b5 .nilsl) c:=by unfold apV;rw[ZHD _ _ c5,ZHD _ _ c4,ZHD _ _ c5,ZHD _ _ c4]
  unfold St.or at hc⊢;rw[he]at hc;exact hc
 refine KL (b:=b4) (by rw[ZHD _ _ k5.1.symm,ZHB]) (.cons (ah.le ψ) .nil) ?_;refine KF (s':=(apV st b2 b4 b5 (Zh (Kb v (Yd v)))).or t) ai ?_;exact af.ret ⟨rfl,.inr ⟨ω,rfl⟩⟩ ae ZHw;omega;intro q a ab hB hq;have:=ab 0 ω;simp at this;intro q a m hm ab u hB hq;rcases hB with ⟨h,_⟩|⟨_,rfl⟩;omega;rw[Qn hq];exact hF.ret1 hq (.tup [Zh (Kb v (Yd v)),.i 0]) st (ds:=[Zh (Kb v (Yd v)),.i 0]) (p:=True/\True/\True) (by simp[YC,Kn,ZK,Wm,Z1,g4,g5]) ⟨trivial,trivial,trivial⟩ (ZHx _) (sb _) ⟨rfl,rfl⟩;intro q a m id hm ab u;simp at u;intro q a m d hm ab u;simp at u;intro m c u;simp at u;exact .inl u.symm;rintro d S ⟨x,hx,hd,rfl⟩;cases hd
def ZrE{v:Nat}(hv:v<34359738368):Zf ZHv 185 [.i v] (.tup [.i ((Yd v:Int)+1),.i 0]):=by
 refine Zi (cR 185 f185) λF st i=>?_;have t:(Kb v (Yd v)).length=Yd v+1:=by unfold Kb;rw[ZHF,ZbI];rfl
 refine gG ?_;refine cV (ZfF hv _) ?_ ?_;rintro d S ⟨u,hS⟩;obtain rfl:=hS.symm;cases u;refine gR0 ?_;refine rx @QA ?_;refine rt i ?_;rw[t];rfl;rintro d S ⟨u,_⟩;cases u
def Zl(d:Dfn)(s:Str):Msg:=d.msgs.getD (ixS d s) dE
def KV(f:Fld)(x:Val)(b:Int):Int :=
 if f.kind=1\/f.kind=2 then b+f.bits
 else if f.kind=3 then b+8*(Yd x.int.toNat+1:Nat)
 else if f.kind=4 then b+8*I x.bytes
 else if f.kind=5 then b+8*I x.bytes+8
 else if f.kind=6 then b+8*(Qp x.hdrs).length
 else if f.kind=10 then upS b f.bits
 else if f.kind=11 then b+W5 f.check
 else b
def YM(rec:Val->Int):List Val->Int->Int
 | [],b=>b
 |y::r,b=>YM rec r (b+8*rec y)
def Wv(rec:Val->Int):List Fld->List Val->Int->Int
 | [],_,b=>b
 |f::r,ps,b=>if hasV f then Wv rec r (ps.drop 1) (YM rec (ps.getD 0 dE).parts (KV f (ps.getD 0 dE) b)) else Wv rec r ps (KV f dE b)
def lenS(d:Dfn):Nat->Msg->Val->Int
 |0,_,_=>0
 |n+1,m,v=>(Wv (λy=>lenS d n (Zl d y.name) y) m.fields v.parts 0).tdiv 8
structure FOk(f:Fld):Prop where
 num:f.kind=1\/f.kind=2->0<=f.bits/\f.bits<=600
 pad:f.kind=10->Zbu f.bits=true
 chk:f.kind=11->f.check=1\/f.check=2\/f.check=3
structure MOk(m:Msg):Prop where
 few:I m.fields<=40
 fld:∀f∈m.fields,FOk f
def Zda{n}(h:Zbu n=true):2<=n/\n<=512:=by
 unfold Zbu at h;simp only[ZHT,ZHG,decide_eq_true_eq]at h;omega
def Zo4(l):(Qp l).length=Qv l+4*I l+2:=by
 unfold Qp;rw[ZHF];have:(l.flatMap Zia).length=Qv l+4*I l:=by
  induction l with
  |nil=>rfl
  |cons h r ih=>rw[List.flatMap_cons,ZHF,ih];simp only[Zia,Qv,ZHF,ZHN,List.length_nil];omega
 rw[this];rfl
def Zu6(v):Yd v<=4:=by
 unfold Yd
 repeat' split
 all_goals omega
def Zcb{f x b}(hf:FOk f)(hb:0<=b)(hh:I x.hdrs<=100):b<=KV f x b/\KV f x b<=b+600+8*(I x.bytes+Qv x.hdrs:Nat)+3300:=by
 have h3:=Zu6 x.int.toNat;have h6:=Zo4 x.hdrs;have hck:W5 f.check=32\/W5 f.check=16:=by unfold W5;split<;>simp
 unfold KV;by_cases u:f.kind=1\/f.kind=2;have:=hf.num u;rw[if_pos u];omega;rw[if_neg u];by_cases c3:f.kind=3;rw[if_pos c3];omega;rw[if_neg c3];by_cases c4:f.kind=4;rw[if_pos c4];omega;rw[if_neg c4];by_cases c5:f.kind=5;rw[if_pos c5];omega;rw[if_neg c5];by_cases c6:f.kind=6;rw[if_pos c6];omega;rw[if_neg c6];by_cases i:f.kind=10;rw[if_pos i];have h1:=Zda (hf.pad i);have h2:=(Zb4 hb (show 1<=f.bits by omega)).1;omega;rw[if_neg i];by_cases t:f.kind=11;rw[if_pos t];omega;rw[if_neg t];omega
def JL{rec}:∀{l b},(∀y∈l,0<=rec y/\8*rec y<=20000*(wtN y:Int))->b<=YM rec l b/\YM rec l b<=b+20000*(wtL l:Int)
 | [],b,_=>by simp[YM,wtL]
 |y::r,b,h=>by have h1:=h y ψ;have h2:=JL (rec:=rec) (l:=r) (b:=b+8*rec y) λz i=>h z (by simp[i]);simp only[YM,wtL];omega
def Zaf{rec}:∀{l ps b},(∀f∈l,FOk f)->0<=b->(∀x∈ps,I x.hdrs<=100/\∀y∈x.parts,0<=rec y/\8*rec y<=20000*(wtN y:Int)) ->
  b<=Wv rec l ps b/\Wv rec l ps b<=b+600*(I l:Int)+3300*(I l:Int)+20000*(wtL ps:Int)
 | [],ps,b,_,hb,_=>by simp only[Wv,List.length_nil];omega
 |f::r,ps,b,hf,hb,hp=>by
  have i:=hf f ψ;have t:∀g∈r,FOk g:=λg hg=>hf g (by simp[hg]);simp only[Wv,ZHN];split
  .cases ps with
   |nil =>have u:=Zcb (x:=dE) i hb (by simp[show(dE:Val).hdrs=[] from rfl]);have e1:(dE:Val).bytes.length=0:=rfl;have e2:Qv (dE:Val).hdrs=0:=rfl;have h2:=Zaf (rec:=rec) (l:=r) (ps:=[]) (b:=KV f dE b) t ω (λx hx=>by simp at hx);rw[show Wv rec r (List.drop 1 []) (YM rec (([]:List Val).getD 0 dE).parts (KV f (([]:List Val).getD 0 dE) b))=Wv rec r [] (KV f dE b) from rfl];rw[e1,e2]at u;simp only[wtL]at h2⊢;omega
   |cons x q =>have hx:=hp x ψ;have u:=Zcb i hb hx.1;have h3:=JL (b:=KV f x b) hx.2;have h2:=Zaf (rec:=rec) (l:=r) (ps:=q) (b:=YM rec x.parts (KV f x b)) t ω (λz hz=>hp z (by simp[hz]));have hw:=Zax x;rw[show Wv rec r ((x::q).drop 1) (YM rec ((x::q).getD 0 dE).parts (KV f ((x::q).getD 0 dE) b))=Wv rec r q (YM rec x.parts (KV f x b)) from rfl];simp only[wtL];omega
  have u:=Zcb (x:=dE) i hb (by simp[show(dE:Val).hdrs=[] from rfl]);have e1:(dE:Val).bytes.length=0:=rfl;have e2:Qv (dE:Val).hdrs=0:=rfl;rw[e1,e2]at u;have h2:=Zaf (rec:=rec) (l:=r) (ps:=ps) (b:=KV f dE b) t ω hp;omega
def DOk(d:Dfn):Prop:=∀m∈d.msgs,MOk m
def DOk.of{d}(h:DOk d)(s):MOk (Zl d s):=by
 unfold Zl;by_cases i:ixS d s<I d.msgs;exact h _ (ZD i);rw[show d.msgs.getD (ixS d s) dE=dE by simp[ZHL,ZIi (Nat.le_of_not_lt i)]];exact⟨by decide,λf t=>by simp[show(dE:Msg).fields=[] from rfl]at t⟩
def Yy{v x}(h:Y2 v=true)(i:x∈v.parts):Y2 x=true:=by
 rw[Zim,ZHG,Zil]at h;exact List.all_eq_true.1 h.1 x i
def KU{v}(h:Y2 v=true):Zac v=true:=by
 rw[Zim,ZHG]at h;exact h.2
def Zcw{d}(u:DOk d):∀(n m v),MOk m->Y2 v=true->0<=lenS d n m v/\8*lenS d n m v<=20000*(wtN v:Int)
 |0,m,v,_,_=>by simp only[lenS];omega
 |n+1,m,v,hm,hv=>by
  have h1:=Zaf (rec:=λy=>lenS d n (Zl d y.name) y) (l:=m.fields) (ps:=v.parts) (b:=0) hm.fld ω λx hx=>by have i:=Yy hv hx;exact⟨(QC (KU i)).2.2.2.1,λy hy=>Zcw u n (Zl d y.name) y (u.of _) (Yy i hy)⟩
  have h2:=Zax v;have h3:=hm.few;simp only[lenS];generalize Wv (λy=>lenS d n (Zl d y.name) y) m.fields v.parts 0=t at *;rw[Int.tdiv_eq_ediv_of_nonneg ω];omega
structure XOk(f:Fld)(x:Val):Prop where
 unused:Wo f.kind x=false
 vint:f.kind=3->0<=x.int/\x.int<34359738368
 hdrs:f.kind=6->KC x.hdrs=true/\ZcP x.hdrs
def Je(d:Dfn):Nat->Msg->Val->Prop
 |0,_,_=>False
 |n+1,m,v=>(vfs m.fields).length=I v.parts/\∀k,k<I v.parts->XOk ((vfs m.fields).getD k dE) (v.parts.getD k dE)/\∀y∈(v.parts.getD k dE).parts,0<=Zq d y.name (I d.msgs)/\Je d n (Zl d y.name) y
def ZfG{l i k}(hk:k=(vfs (l.take i)).length)(u:i<I l)(hv:hasV (l.getD i dE)=true):k<(vfs l).length/\(vfs l).getD k dE=l.getD i dE:=by
 have t:=ZyP u;rw[if_pos hv]at t;refine⟨by rw[t];simp;omega,?_⟩;rw[t,hk];simp[ZHL]
def Zt1{v x}(h:x∈v.parts):wtN x<=wtN v:=by
 have h1:=Zvz h;have h2:=Zax v;omega
def ZfC(rec:Val->Int):List Val->Int
 | []=>0
 |y::r=>rec y+ZfC rec r
def Zes{rec}:∀(l b),YM rec l b=b+8*ZfC rec l
 | [],b=>by simp[YM,ZfC]
 |y::r,b=>by simp only[YM,ZfC];rw[Zes r];omega
def ZpT(l f rec st)(hl:I l<=5000)(hr:∀y∈l,0<=rec y/\8*rec y<=20000*(wtN y:Int))(hw:wtL l<=5100)(hf:∀y∈l,VT ZHv f [.agg y.cells] st (.i (rec y)) st):
  ZL ZHv 182 [ZY l,f] st (.i (ZfC rec l)) st:=by
 refine ZE (cR 182 f182) λaf F ab=>?_;clear af;have hT:=JL (b:=0) hr;have hTe:=Zes (rec:=rec) l 0;generalize ae:ZfC rec l=T at *;refine rg ?_;refine rx @Zc6 ?_;refine Zd (fr (I l) (λi Q=>∀b:Int,0<=b->b<=T->b+ZfC rec (l.drop i)=T->i<=I l->Q [(1,.d f),(4,.d (.i b)),(7,.d (ZY l)),(8,.d (.i (I l))),(9,.d (.i i))] [] st) (λn u=>?_) λah=>?_);intro i hn b hb0 hbT t hi;refine rg ?_;refine Zc (Zn rfl trivial (λh1=>?_) (λh1=>?_));simp at h1;have ad:l.getD i dE∈l:=ZD h1;have hyr:=hr _ ad;have ac:=hf _ ad;have ag:=QX (l:=l) (i:=i) h1;rw[Wp h1]at t;simp only[ZfC]at t;have hP:=JL (rec:=rec) (l:=l.drop (i+1)) (b:=0) λz hz=>hr z (List.mem_of_mem_drop hz);rw[Zes]at hP;rw[ZHZ]at ac;generalize l.getD i dE=y at *;generalize rec y=ry at *;refine xA (nd2 @atV @ag) ?_;refine rg ?_;refine cW (ac) ?_;refine aa ?_;refine gA ?_;refine Ze ?_;exact u ((I l)-(i+1)) ω (i+1) rfl (b+ry) ω ω ω ω;simp at h1;obtain rfl:i=I l:=ω;rw[List.drop_eq_nil_of_le (ZHK _)]at t;simp only[ZfC]at t;refine rg ?_;exact ab rfl φ (Zg2 ω) ZHw;exact ah _ 0 rfl 0 ω ω (by rw[List.drop_zero,ae];omega) ω
def ZlP(d)(y:Val)(ry zd st)(hz:st zd=sO (.cells [.str d.name,YF d.msgs,.str d.start]))(h0:0<=Zq d y.name (I d.msgs))(u:Zf ZHv 147 [.agg d.cells,.agg (Zl d y.name).cells,.agg y.cells] (.i ry)):ZL ZHv 183 [.agg y.cells,.ptr zd 0] st (.i ry) st:=by
 refine ZE (cR 183 f183) λt F i=>?_;clear t;have hm:=Jl d y.name h0;rw[show d.msgs.getD (ixS d y.name) dE=Zl d y.name from rfl]at hm;rw[ZHZ]at u⊢;refine rg ?_;refine xA @hz ?_;refine clD (hm) ?_;refine clD (u) ?_;exact i rfl φ (ZHx _) ZHw
def ZlQ(d)(hd:DOk d)(n m)(hm:MOk m)(v)(hv:Y2 v=true)(hw:wtN v<=5100)(hL:Je d (n+1) m v)(ih:∀x∈v.parts,∀y∈x.parts,0<=Zq d y.name (I d.msgs)/\Zf ZHv 147 [.agg d.cells,.agg (Zl d y.name).cells,.agg y.cells] (.i (lenS d n (Zl d y.name) y))):
  Zf ZHv 147 [.agg d.cells,.agg m.cells,.agg v.cells] (.i (lenS d (n+1) m v)):=by
 refine Zi (cR 147 f147) λF st be=>?_;obtain⟨bb,hX⟩:=hL;have hrec:∀x∈v.parts,I x.hdrs<=100/\∀y∈x.parts,0<=lenS d n (Zl d y.name) y/\8*lenS d n (Zl d y.name) y<=20000*(wtN y:Int):=λx hx =>
  ⟨(QC (KU (Yy hv hx))).2.2.2.1,λy hy=>Zcw hd n _ y (hd.of _) (Yy (Yy hv hx) hy)⟩
 obtain⟨rec,aq⟩:∃rec:Val->Int,rec=λy=>lenS d n (Zl d y.name) y:=⟨_,rfl⟩;have hS:lenS d (n+1) m v=(Wv rec m.fields v.parts 0).tdiv 8:=by rw[aq];rfl
 have ad:∀x∈v.parts,I x.hdrs<=100/\∀y∈x.parts,0<=rec y/\8*rec y<=20000*(wtN y:Int):=by rw[aq];exact hrec
 have bz:∀x∈v.parts,∀y∈x.parts,0<=Zq d y.name (I d.msgs)/\Zf ZHv 147 [.agg d.cells,.agg (Zl d y.name).cells,.agg y.cells] (.i (rec y)):=by rw[aq];exact ih
 have hT:=Zaf (rec:=rec) (l:=m.fields) (ps:=v.parts) (b:=0) hm.fld ω ad;have hwn:=Zax v;have hfew:=hm.few;generalize bn:Wv rec m.fields v.parts 0=T at *;clear hrec ih aq;generalize lenS d (n+1) m v=LV at *;rw[ZHZ];refine rx (nd2 @eQ2 @eQ3) ?_;refine rg ?_;refine Zc (Zc ?_);refine xP 3 λzd hz=>?_;have bq:(st.upd zd (.cells [.str d.name,YF d.msgs,.str d.start])) zd=sO (.cells [.str d.name,YF d.msgs,.str d.start]):=ZHB _ _ _;have bg:=ZHV (s:=st) (.cells [.str d.name,YF d.msgs,.str d.start]) hz;generalize st.upd zd (.cells [.str d.name,YF d.msgs,.str d.start])=S at *;refine rx @Zfb ?_;refine Zd (fr (I m.fields) (λi Q=>∀(b:Int) (k:Nat),i<=I m.fields->k=(vfs (m.fields.take i)).length->0<=b->b<=T->Wv rec (m.fields.drop i) (v.parts.drop k) b=T->Q [(3,.d (.ptr zd 0)),(5,.loc 5 0),(7,.d (.i b)),(8,.d (.i k)),(20,.d (Zr m.fields)),(21,.d (.i (I m.fields))),(22,.d (.i i))] [(5,[.str v.name,.i v.int,Zh v.bytes,Yc v.hdrs,ZY v.parts])] S) (λn ay=>?_) λb0=>?_)
 .intro i hn b k hi hk a8 hbT ab;refine rg ?_;refine Zc (Zn rfl trivial (λh1=>?_) (λh1=>?_))
  .simp at h1;have bp:m.fields.getD i dE∈m.fields:=ZD h1;have am:=hm.fld _ bp;have ba:=λhh=>ZfG hk h1 hh;have ai:=Znh h1;rw[Wp h1]at ab;simp only[Wv]at ab;generalize hf:m.fields.getD i dE=f at *;refine xA (nd2 @atF (nd2 @hf @eQ0)) ?_;refine gG ?_;refine cl (ZdO f) ?_;refine jU [0,1] (λQ=>∀(x:Val) (k:Nat),k=(vfs (m.fields.take (i+1))).length->Wv rec (m.fields.drop (i+1)) (v.parts.drop k) (YM rec x.parts (KV f x b))=T->(f.kind=3->0<=x.int/\x.int<34359738368)->(f.kind=6->KC x.hdrs=true/\ZcP x.hdrs)->I x.hdrs<=100->I x.bytes<=1048576->I x.parts<=5000->wtL x.parts<=5100->(∀y∈x.parts,0<=rec y/\8*rec y<=20000*(wtN y:Int))->(∀y∈x.parts,0<=Zq d y.name (I d.msgs)/\Zf ZHv 147 [.agg d.cells,.agg (Zl d y.name).cells,.agg y.cells] (.i (rec y)))->(¬f.kind=4->¬f.kind=5->I x.bytes=0)->(f.kind<7\/f.kind=10\/f.kind=11->x.parts=[])->Q F [(3,.d (.ptr zd 0)),(5,.loc 5 0),(7,.d (.i b)),(8,.d (.i k)),(10,.loc 10 0),(11,.loc 11 0),(20,.d (Zr m.fields)),(21,.d (.i (I m.fields))),(22,.d (.i i))] [(5,[.str v.name,.i v.int,Zh v.bytes,Yc v.hdrs,ZY v.parts]),(10,[.str f.name,.i f.kind,.i f.bits,.bool f.little,.bool f.loose,.i f.low,.i f.high,.i f.size.base,Yj f.size.terms,.str f.of,.str f.tag,.str f.from_,WP f.cases,.i f.check,.i f.key]),(11,[.str x.name,.i x.int,Zh x.bytes,Yc x.hdrs,ZY x.parts])] S) ?_ λaz=>?_;clear ab hk ba ai;intro x k hk ab au av bu hxb bj bk al aw ak af;have hA:=Zcb (x:=x) am a8 bu;have hP:=JL (rec:=rec) (l:=x.parts) (b:=KV f x b) al;have bl:=Zes (rec:=rec) x.parts (KV f x b);have hB:=Zaf (rec:=rec) (l:=m.fields.drop (i+1)) (ps:=v.parts.drop k) (b:=YM rec x.parts (KV f x b)) (λg hg=>hm.fld g (List.mem_of_mem_drop hg)) ω (λz hz=>ad z (List.mem_of_mem_drop hz));have t:=KV.eq_1 f x b;have ht:=ZpT x.parts (.fn (.func 183) [] [.ptr zd 0]) rec S bj al bk λy hy=>(ZlP d y (rec y) zd S bq (aw y hy).1 (aw y hy).2).VT (first:=[]) (args:=[_]) (caps:=[_]);have ae:x.parts=[]->ZfC rec x.parts=0:=λh=>by rw[h];rfl
   generalize ZfC rec x.parts=b1 at *;refine rx @QA ?_;refine ctD (ht) ?_;refine aa ?_;refine jU [1,0] (λQ=>∀(c n':Int),c+8*n'=KV f x b+8*b1->0<=c->0<=n'->Q F [(3,.d (.ptr zd 0)),(5,.loc 5 0),(7,.d (.i c)),(8,.d (.i k)),(12,.d (.i n')),(20,.d (Zr m.fields)),(21,.d (.i (I m.fields))),(22,.d (.i i))] [(5,[.str v.name,.i v.int,Zh v.bytes,Yc v.hdrs,ZY v.parts])] S) ?_ λfin=>?_;clear t;intro c n' hc hc0 hn0;refine gA ?_;refine gA ?_;refine Ze ?_;exact ay ((I m.fields)-(i+1)) ω (i+1) rfl (c+8*n') k ω hk ω ω (by rw[hc,<-bl];exact ab);refine rx @eQ0 ?_;refine rg ?_;refine cd (λc1=>?_) (λc1=>?_);have ah:f.kind=1:=by simpa using c1
   rw[if_pos ω]at t;have:=ak ω ω;have:=ae (af ω);refine ZI (Zn rfl trivial (λ_=>?_) (λh=>by rw[c1]at h;simp at h));refine xA @eQ0 ?_;refine Zs ?_;exact fin _ _ (by rw[t];omega) ω ω;refine rg ?_;refine cd (λc2=>?_) (λc2=>?_);have a5:f.kind=2:=by simpa using c2
   rw[if_pos ω]at t;have:=ak ω ω;have:=ae (af ω);refine xA @eQ0 ?_;refine Zs ?_;exact fin _ _ (by rw[t];omega) ω ω;have ah:¬f.kind=1:=by simpa using c1
   have a5:¬f.kind=2:=by simpa using c2
   rw[if_neg ω]at t;refine rg ?_;refine cd (λa0=>?_) (λa0=>?_);have ac:f.kind=10:=by simpa using a0
   rw[if_neg ω,if_neg ω,if_neg ω,if_neg ω,if_pos ac]at t;have:=ak ω ω;have:=ae (af ω);have hpd:=Zda (am.pad ac);have hup:=Zb4 a8 (show 1<=f.bits by omega);have a7:=ZeS (v:=b) (am.pad ac) ⟨ω,ω⟩;generalize upS b f.bits=u at *;refine rx @eQ0 ?_;refine cl (a7) ?_;refine gA ?_;refine Zs ?_;exact fin _ _ (by rw[t];omega) ω ω;have ac:¬f.kind=10:=by simpa using a0
   refine rg ?_;refine cd (λa3=>?_) (λa3=>?_);have ag:f.kind=11:=by simpa using a3
   rw[if_neg ω,if_neg ω,if_neg ω,if_neg ω,if_neg ω,if_pos ag]at t;have:=ak ω ω;have:=ae (af ω);have hcb:W5 f.check=32\/W5 f.check=16:=by unfold W5;split<;>simp
   have a7:=Zrf (am.chk ag);generalize W5 f.check=u at *;refine rx @eQ0 ?_;refine cl (a7) ?_;refine gA ?_;refine Zs ?_;exact fin _ _ (by rw[t];omega) ω ω;have ag:¬f.kind=11:=by simpa using a3
   refine rg ?_;refine cd (λc3=>?_) (λc3=>?_);have ao:f.kind=3:=by simpa using c3
   rw[if_pos ao]at t;have:=ae (af ω);obtain⟨hv0,hv1⟩:=au ao;obtain⟨vn,bi⟩:∃vn:Nat,x.int=vn:=⟨x.int.toNat,ω⟩;rw[bi,Int.toNat_natCast]at t;have bh:=ZrE (v:=vn) ω;rw[<-bi]at bh;refine rg ?_;refine cl (bh) ?_;refine Zs ?_;refine kE [3,5,7,8,12,20,21,22] ?_;exact fin _ _ (by rw[t];omega) ω ω;have ao:¬f.kind=3:=by simpa using c3
   rw[if_neg ao]at t;refine rg ?_;refine cd (λc5=>?_) (λc5=>?_);have aj:f.kind=5:=by simpa using c5
   rw[if_neg ω,if_pos aj]at t;have:=ae (af ω);refine gA ?_;refine Zs ?_;refine kE [3,5,7,8,12,20,21,22] ?_;exact fin _ _ (by rw[t];omega) ω ω;have aj:¬f.kind=5:=by simpa using c5
   refine rg ?_;refine cd (λc6=>?_) (λc6=>?_);have ap:f.kind=6:=by simpa using c6
   rw[if_neg ω,if_neg aj,if_pos ap]at t;have:=ae (af ω);obtain⟨br,bt⟩:=av ap;have a4:=ZdZ bt;unfold ZhE at a4;rw[if_pos br]at a4;refine rg ?_;refine cl (a4) ?_;refine rx @QA ?_;refine Zs ?_;exact fin _ _ (by rw[t];omega) ω ω;have ap:¬f.kind=6:=by simpa using c6
   have bo:KV f x b=b+8*(I x.bytes:Int):=by by_cases a6:f.kind=4;rw[t,if_pos a6];have:=ak a6 aj;rw[t,if_neg a6,if_neg aj,if_neg ap,if_neg ac,if_neg ag];omega
   refine ZI (Zs ?_);refine kE [3,5,7,8,12,20,21,22] ?_;exact fin _ _ (by rw[bo];omega) ω ω;refine cd (λhh=>?_) (λhh=>?_)
   .rw[if_pos hh]at ab;obtain⟨ah,a5⟩:=ba hh;rw[bb]at ah;have ax:v.parts.getD k dE∈v.parts:=ZD ah;obtain⟨⟨ar,au,av⟩,bj⟩:=hX k ah;have bf:=QX (l:=v.parts) (i:=k) ah;have al:=ad _ ax;have aw:=bz _ ax;have bx:=Yy hv ax;have bw:=QC (KU bx);have bk:=Zvz ax;have hk40:k<=i:=by rw[hk];exact ZBB
    rw[show(v.parts.drop k).getD 0 dE=v.parts.getD k dE by simp[ZHL],List.drop_drop]at ab;rw[a5]at au av ar;rw[if_pos hh]at ai;generalize v.parts.getD k dE=x at *;have hwx:=Zax x;have bv:I x.parts<=5000:=by
     have h2:10*I x.parts<=wtL x.parts:=by
      have h3:∀l:List Val,10*I l<=wtL l:=λl=>by
       induction l with
       |nil=>simp
       |cons a r ih3=>have:=Zax a;simp only[wtL,ZHN];omega
      exact h3 _
     omega
    unfold Wo Zpl at ar;simp only[Bool.or_eq_false_iff,Bool.and_eq_false_iff,Bool.not_eq_false',ZHT,decide_eq_true_eq,decide_eq_false_iff_not]at ar;obtain⟨⟨⟨_,hu1⟩,_⟩,hu2⟩:=ar;have hno:¬f.kind=10/\¬f.kind=11:=by unfold hasV at hh;simp at hh;omega
    refine xA (nd2 @atV (nd2 @bf (nd2 @ZaM @Zd9))) ?_;refine gA ?_;refine Zc ?_;rw[show(k:Int)+1=((k+1:Nat):Int) by omega];exact az x (k+1) (by rw[ai,ZHF,<-hk];rfl) ab au av al.1 bw.2.2.1 bv ω al.2 aw (λh4 h5=>by omega) (λh=>List.eq_nil_of_length_eq_zero ω)
   rw[if_neg (by rw[hh];simp)]at ab ai;rw[ZH3]at ai;refine ZI (Zc ?_);refine kE [3,5,7,8,10,11,20,21,22] ?_;refine kl (S) [(3,.d (.ptr zd 0)),(5,.loc 5 0),(7,.d (.i b)),(8,.d (.i k)),(10,.loc 10 0),(11,.loc 11 0),(20,.d (Zr m.fields)),(21,.d (.i (I m.fields))),(22,.d (.i i))] [(5,[.str v.name,.i v.int,Zh v.bytes,Yc v.hdrs,ZY v.parts]),(10,[.str f.name,.i f.kind,.i f.bits,.bool f.little,.bool f.loose,.i f.low,.i f.high,.i f.size.base,Yj f.size.terms,.str f.of,.str f.tag,.str f.from_,WP f.cases,.i f.check,.i f.key]),(11,[.str (dE:Val).name,.i (dE:Val).int,Zh (dE:Val).bytes,Yc (dE:Val).hdrs,ZY (dE:Val).parts])] Qe (.skip (.skip (.cons (.cons (ZHx _) (.cons (ZHx _) (.cons (YL λb h=>by cases h) (.cons (YL λb h=>by cases h) (.cons (YL λb h=>by cases h) .nil))))) .nil))) ?_;have a9:¬f.kind=3/\¬f.kind=6:=by unfold hasV at hh;simp at hh;omega
   exact az dE k (by rw[ai];exact hk) ab (λh=>absurd h a9.1) (λh=>absurd h a9.2) (by simp[show(dE:Val).hdrs=[] from rfl]) (by simp[show(dE:Val).bytes=[] from rfl]) (by simp[show(dE:Val).parts=[] from rfl]) (by simp[show(dE:Val).parts=[] from rfl,wtL]) (λy hy=>by simp[show(dE:Val).parts=[] from rfl]at hy) (λy hy=>by simp[show(dE:Val).parts=[] from rfl]at hy) (λ_ _=>rfl) (λ_=>rfl)
  simp at h1;obtain rfl:i=I m.fields:=ω;rw[List.drop_eq_nil_of_le (ZHK _)]at ab;simp only[Wv]at ab;have bc:b.tdiv 8=b / 8:=Int.tdiv_eq_ediv_of_nonneg ω;subst ab;refine rg ?_;refine⟨by decide,by rw[bc];omega,by rw[bc];omega,?_⟩;exact be rfl φ (Zg2 hS.symm) bg
 exact b0 _ 0 rfl 0 0 ω rfl ω ω bn
def Zgb(d)(i:DOk d):∀(n m v),MOk m->Y2 v=true->wtN v<=5100->Je d n m v ->
  Zf ZHv 147 [.agg d.cells,.agg m.cells,.agg v.cells] (.i (lenS d n m v))
 |0,_,_,_,_,_,hL=>hL.elim
 |n+1,m,v,hm,hv,hw,hL=>by refine ZlQ d i n m hm v hv hw hL λx hx y hy=>?_;obtain⟨k,hk,rfl⟩:=ZHR hx;have t:=(hL.2 k hk).2 y (by simpa[ZHL,hk]using hy);exact⟨t.1,Zgb d i n (Zl d y.name) y (i.of _) (Yy (Yy hv hx) hy) (ZIg (ZIg (Zt1 hy) (Zt1 hx)) hw) t.2⟩
def atR(d:Dfn)(s:Str)(v:Val):D:=if Wi d&&Qo v then (if Zq d s (I d.msgs)<0 then .tup [.agg [.str [],.nilsl],.i 9] else .tup [.agg (Zl d s).cells,.i 0]) else .tup [.agg [.str [],.nilsl],.i 2]
def Zur(d s v):Zf ZHv 33 [.agg d.cells,.str s,.agg v.cells] (atR d s v):=by
 refine Zi (cR 33 f33) λF st i=>?_;have hV:=Zp4 v;have hA:=Zmt d;have hS:=atR.eq_1 d s v;have u:Zj (λx:Msg=>dC (x.name=s)) d.msgs=Zq d s (I d.msgs):=by unfold Zq;rw[ZH0]
 rw[ZHZ]at hV⊢;cases ha:Wi d with
 |false =>rw[ha]at hA hS;simp only[ZH8]at hS;rw[if_neg ψ]at hS;rw[hS]at i;refine rx @eQ2 ?_;refine rg ?_;refine cl (hA) ?_;refine JB rfl (e:=.d (.bool false)) (Zm ?_);simp only[Eqs,reduceCtorEq,ZHC,reduceIte,ZHz,ZHE,ZHA];refine i1 ?_;refine rg ?_;refine rt i ?_;rfl
 |true =>
  rw[ha]at hA hS;simp only[ZHX]at hS;refine rx @eQ2 ?_;refine rg ?_;refine cl (hA) ?_;refine cG (hV) ?_;refine cd (λhv=>?_) (λhv=>?_);rw[if_neg (by simpa using hv)]at hS;rw[hS]at i;refine rg ?_;refine rt i ?_;rfl;rw[if_pos (by simpa using hv)]at hS;refine rg ?_;refine cX @u (Za4 d s) ?_;refine rg ?_;refine cd (λhf=>?_) (λhf=>?_);rw[if_pos (by simpa using hf)]at hS;rw[hS]at i;refine rg ?_;refine rt i ?_;rfl;have t:0<=Zq d s (I d.msgs):=by simpa using hf
  rw[if_neg ω]at hS;rw[hS]at i;have hix:=QR t;have ab:max (Zq d s (I d.msgs)) 0=ixS d s:=ω;unfold Zl at i;generalize hm:d.msgs.getD (ixS d s) dE=m at *;rw[ab];refine xA (nd2 @atM (nd2 @hm @eQ3)) ?_;refine rt i ?_;rfl
def mfD(q:Str)(no:Int):D:=.iface 84 (.agg [.str q,.i no])
def mfR(q:Str)(no:Int):Res:=if no=0 then .ret (.tup []) else .panic (mfD q no)
def Zd4(fine q no st):Za ZHv 94 [.bool fine,.str q,.i no] st λr S=>S=st/\r=if fine then .ret (.tup []) else .panic (mfD q no):=by
 refine Zb (cR 94 f94) λF t=>?_;refine rg ?_;refine cd (λh=>?_) (λh=>?_);have i:fine=false:=by simpa using h
 refine rg ?_;refine Zmr rfl rfl rfl trivial ?_;exact t.pan st ZHw ⟨rfl,by rw[i];rfl⟩;have i:fine=true:=by simpa using h
 refine ZI ?_;exact t.fin (.tup []) st rfl trivial (ZHx _) ZHw ⟨rfl,by rw[i];rfl⟩
def Zuq(a b q st):Za ZHv 134 [.i a,.i b,.str q] st λr S=>S=st/\r=mfR q (Kx a b):=by
 refine Zb (cR 134 f134) λF hF=>?_;have t:=Kx.eq_1 a b;refine rg ?_;refine cV (Zd4 (dC (b<=a)) q 4 st) ?_ ?_;rintro d S ⟨u,i⟩;obtain rfl:=u.symm;by_cases h1:b<=a;rw[decide_eq_true h1,if_pos rfl]at i;cases i;rw[if_neg (by simp;omega)]at t;refine gR0 ?_;refine rg ?_;refine cV (Zd4 (dC (a<=b)) q 5 st) ?_ ?_;rintro d S ⟨u,i⟩;obtain rfl:=u.symm;by_cases h2:a<=b;rw[decide_eq_true h2,if_pos rfl]at i;cases i;rw[if_neg (by simp;omega)]at t;refine gR0 ?_;exact hF.fin (.tup []) st rfl trivial (ZHx _) ZHw ⟨rfl,by rw[t];rfl⟩;rw[decide_eq_false h2,if_neg ψ]at i;cases i;rintro d S ⟨u,i⟩;obtain rfl:=u.symm;by_cases h2:a<=b;rw[decide_eq_true h2,if_pos rfl]at i;cases i;rw[decide_eq_false h2,if_neg ψ]at i;cases i;rw[if_pos (by simp;omega)]at t;exact hF.pan st ZHw ⟨rfl,by rw[t];rfl⟩;rw[decide_eq_false h1,if_neg ψ]at i;cases i;rintro d S ⟨u,i⟩;obtain rfl:=u.symm;by_cases h1:b<=a;rw[decide_eq_true h1,if_pos rfl]at i;cases i;rw[decide_eq_false h1,if_neg ψ]at i;cases i;rw[if_pos (by simp;omega)]at t;exact hF.pan st ZHw ⟨rfl,by rw[t];rfl⟩
def WQ(g:Nat->Str×Int):List Nat->Option (Str×Int)
 | []=>nO
 |i::r=>if (g i).2=0 then WQ g r else sO (g i)
def Zgz{g}:∀{l},WQ g l=nO->∀i∈l,(g i).2=0
 | [],_,i,hi=>by simp at hi
 |a::r,h,i,hi=>by simp only[WQ]at h;split at h;rename_i t;rcases List.mem_cons.1 hi with rfl|hi;exact t;exact Zgz h i hi;simp at h
def Q7(mis:Msg->Val->Str->Str×Int)(d:Dfn)(of:Str)(x:Val)(q:Str):Str×Int :=
 if (I x.parts)=1 then mis (Zl d of) (x.parts.getD 0 dE) (ZM q (Yo x.parts 0)) else (q,6)
def K8(mis:Msg->Val->Str->Str×Int)(len:Msg->Val->Int)(d:Dfn)(f:Fld)(x:Val)(q:Str)(l:List (Str×Int)):Str×Int :=
 if f.kind=1\/f.kind=3 then (if x.int<f.low\/f.high<x.int then (q,3) else (q,0))
 else if f.kind=4 then (q,Kx (I x.bytes) (Zev f.size l))
 else if f.kind=5 then (if f.high<I x.bytes then (q,5) else if x.bytes.any (λc=>dC ((c.toNat:Int)=f.low)) then (q,6) else (q,0))
 else if f.kind=6 then (if KC x.hdrs=false then (q,6) else if f.high<(Qp x.hdrs).length then (q,5) else (q,0))
 else if f.kind=7 then (if Kx (I x.parts) (Zev f.size l)=0 then (WQ (λi=>mis (Zl d f.of) (x.parts.getD i dE) (ZM q (Yo x.parts i))) (ZHJ (I x.parts))).getD (q,0) else (q,Kx (I x.parts) (Zev f.size l)))
 else if f.kind=8 then Q7 mis d f.of x q
 else if f.kind=9 then (if J3 f (KJ f.tag l)<0 then (q,9) else Q7 mis d (f.cases.getD (J3 f (KJ f.tag l)).toNat dE).of x q)
 else if f.kind=12 then (if (Q7 mis d f.of x q).2=0 then (q,Kx (len (Zl d f.of) (x.parts.getD 0 dE)) (Zev f.size l)) else Q7 mis d f.of x q)
 else (q,0)
def Z7(d:Dfn):Nat->Msg->Val->Str->Str×Int
 |0,_,_,p=>(p,6)
 |n+1,m,v,p =>
  if dC (v.name=m.name)&&(dC (v.int=0)&&(dC (I v.bytes=0)&&(dC (I v.hdrs=0)&&Qm m v.parts))) then
   (WQ (λk=>if Wo ((vfs m.fields).getD k dE).kind (v.parts.getD k dE) then (ZM p (Yo v.parts k),6)
    else K8 (Z7 d n) (lenS d n) d ((vfs m.fields).getD k dE) (v.parts.getD k dE) (ZM p (Yo v.parts k)) (ZrO m v.parts)) (ZHJ (I v.parts))).getD ([],0)
  else (p,6)
def Zij{d s}(h:0<=Zq d s (I d.msgs)):(Zl d s).name=s:=by
 have t:=QR h;unfold Zq at h t;have i:=(Jt h).1;rw[t.1]at i;rw[ZH0]at i;simpa[Zl]using i
def ZgN{d}:∀{n m v p},(Z7 d n m v p).2=0->v.name=m.name
 |0,_,_,_,h=>by simp[Z7]at h
 |n+1,m,v,p,h=>by simp only[Z7]at h;split at h;rename_i hc;simp only[ZHG,decide_eq_true_eq]at hc;exact hc.1;simp at h
structure ZdV(d:Dfn)(f:Fld):Prop where
 kind:1<=f.kind/\f.kind<=12
 ref:f.kind=7\/f.kind=8\/f.kind=12->0<=Zq d f.of (I d.msgs)
 cas:f.kind=9->∀c∈f.cases,0<=Zq d c.of (I d.msgs)
def Zo9(d:Dfn):Prop:=∀m∈d.msgs,∀f∈m.fields,ZdV d f
def Zo9.of{d}(h:Zo9 d)(s):∀f∈(Zl d s).fields,ZdV d f:=by
 unfold Zl;by_cases i:ixS d s<I d.msgs;exact h _ (ZD i);rw[show d.msgs.getD (ixS d s) dE=dE by simp[ZHL,ZIi (Nat.le_of_not_lt i)]];intro f t;simp[show(dE:Msg).fields=[] from rfl]at t
def ZgB{g r}:∀{l},WQ g l=sO r->¬r.2=0
 | [],h=>by simp[WQ]at h
 |a::t,h=>by simp only[WQ]at h;split at h;exact ZgB h;rename_i i;simp only[ZHu]at h;rw[<-h];exact i
def ZjB{g n q}(h:((WQ g (ZHJ n)).getD q).2=0):∀i,i<n->(g i).2=0:=by
 cases t:WQ g (ZHJ n) with
 |none=>exact λi u=>Zgz t i (List.mem_range.2 u)
 |some r=>rw[t]at h;exact absurd h (ZgB t)
def ZyK{v}(h:Zac v=true):ZcP v.hdrs:=by
 unfold Zac at h;simp only[ZHG,Bool.not_eq_true']at h;intro x u;have t:=h.2;have i:=List.any_eq_false.1 t x u;unfold ZdH at i;simp only[ZHT,decide_eq_true_eq,not_or]at i;omega
def Zld{mis d of x q}(h:(Q7 mis d of x q).2=0):I x.parts=1/\(mis (Zl d of) (x.parts.getD 0 dE) (ZM q (Yo x.parts 0))).2=0:=by
 unfold Q7 at h;split at h;rename_i i;exact⟨i,h⟩;simp at h
def ZqQ{mis len d f x q l}(hf:ZdV d f)(hv:hasV f=true)(hu:Wo f.kind x=false)(h:(K8 mis len d f x q l).2=0):
  ∀y∈x.parts,∃of q',0<=Zq d of (I d.msgs)/\(mis (Zl d of) y q').2=0:=by
 intro y hy;have hpos:0<I x.parts:=List.length_pos_iff.2 λe=>by rw[e]at hy;simp at hy
 have h7:7<=f.kind:=by unfold Wo at hu;simp only[Bool.or_eq_false_iff,Bool.and_eq_false_iff,Bool.not_eq_false',decide_eq_true_eq,decide_eq_false_iff_not]at hu;have:=hu.2;omega
 have hk:f.kind=7\/f.kind=8\/f.kind=9\/f.kind=12:=by have:=hf.kind;unfold hasV at hv;simp only[ZHG,Bool.not_eq_true',decide_eq_false_iff_not]at hv;omega
 have one:∀of,0<=Zq d of (I d.msgs)->(Q7 mis d of x q).2=0->∃of q',0<=Zq d of (I d.msgs)/\(mis (Zl d of) y q').2=0:=λof h0 u=>by
  obtain⟨hl,h2⟩:=Zld u;refine⟨of,ZM q (Yo x.parts 0),h0,?_⟩;rw[show y=x.parts.getD 0 dE by
   obtain⟨i,hi,rfl⟩:=ZHR hy;have:i=0:=ω;subst this;simp[ZHL,hi]]
  exact h2
 unfold K8 at h;rw[if_neg ω,if_neg ω,if_neg ω,if_neg ω]at h;rcases hk with hk|hk|hk|hk;rw[if_pos hk]at h;split at h;obtain⟨i,hi,rfl⟩:=ZHR hy;have u:=ZjB h i hi;exact⟨f.of,_,hf.ref ω,by simpa[ZHL,hi]using u⟩;rename_i t;exact absurd h t;rw[if_neg ω,if_pos hk]at h;exact one _ (hf.ref ω) h;rw[if_neg ω,if_neg ω,if_pos hk]at h;split at h;simp at h;rename_i hc;have hlt:=WC (λc:Y6=>dC (c.low<=KJ f.tag l)&&dC (KJ f.tag l<=c.high)) f.cases;exact one _ (hf.cas hk _ (ZD (by unfold J3 at hc⊢;omega))) h;rw[if_neg ω,if_neg ω,if_neg ω,if_pos hk]at h;split at h;rename_i u;exact one _ (hf.ref ω) u;rename_i u;exact absurd h u
def Zc1{d}(hd:Zo9 d):∀(n m v p),(∀f∈m.fields,ZdV d f)->Y2 v=true->(Z7 d n m v p).2=0->Je d n m v
 |0,_,_,_,_,_,h=>by simp[Z7]at h
 |n+1,m,v,p,hm,hv,h=>by
  simp only[Z7]at h;split at h
  .rename_i hc;simp only[ZHG,decide_eq_true_eq]at hc;have hr:=hc.2.2.2.2;unfold Qm at hr;rw[decide_eq_true_eq]at hr;have u:(vfs m.fields).length=I v.parts:=by simpa using congrArg List.length hr
   refine⟨u,λk hk=>?_⟩;have hg:=ZjB h k hk;have ac:v.parts.getD k dE∈v.parts:=ZD hk;have ab:(vfs m.fields).getD k dE∈vfs m.fields:=ZD ω;have i:=List.mem_filter.1 ab;have t:=Yy hv ac;have ad:=QC (KU t);have ae:=ZyK (KU t);generalize v.parts.getD k dE=x at *;generalize (vfs m.fields).getD k dE=f at *;cases hu:Wo f.kind x with
   |true=>rw[hu,if_pos rfl]at hg;simp at hg
   |false =>
    rw[hu,if_neg ψ]at hg;refine⟨⟨hu,λ_=>ad.2.1,λh6=>⟨?_,ae⟩⟩,λy hy=>?_⟩
    .unfold K8 at hg;rw[if_neg ω,if_neg ω,if_neg ω,if_pos h6]at hg;cases hh:KC x.hdrs with
     |true=>rfl
     |false=>rw[hh,if_pos rfl]at hg;simp at hg
    obtain⟨of,q',h0,h1⟩:=ZqQ (hm f i.1) i.2 hu hg y hy;have hn:y.name=of:=by rw[ZgN h1,Zij h0]
    rw[hn];exact⟨h0,Zc1 hd n _ y q' (hd.of _) (Yy t hy) h1⟩
  simp at h
def ZgA{g}:∀{a b},(∀i∈a,(g i).2=0)->WQ g (a++b)=WQ g b
 | [],_,_=>rfl
 |i::a,b,h=>by rw[List.cons_append,WQ,if_pos (h i ψ)];exact ZgA λk t=>h k (by simp[t])
def Zcp{g n}(h:∀i,i<n->(g i).2=0):WQ g (ZHJ n)=nO:=by
 rw[<-ZH3 (ZHJ n),ZgA λi t=>h i (List.mem_range.1 t)];rfl
def Zqv{g n j}(hj:j<n)(h:∀i,i<j->(g i).2=0)(t:¬(g j).2=0):WQ g (ZHJ n)=sO (g j):=by
 rw[show ZHJ n=ZHJ j++(j::(List.range' (j+1) (n-(j+1)))) by rw[List.range_eq_range',List.range_eq_range',show n=j+(n-(j+1)+1) by omega,<-List.range'_append_1,List.range'_succ];simp;omega,ZgA λi u=>h i (List.mem_range.1 u),WQ,if_neg t]
def ZvQ{L s}(l i):qv L s (.iaddr 1) [.d (Zh l),.d (.i i)]=sO (0<=i/\i<I l,.d (.ep (u8C (l.getD i.toNat dE)) 0)):=rfl
def Zc9(d:Dfn)(n:Nat)(m:Msg)(v:Val)(p:Str)(k:Nat):Str×Int :=
 if Wo ((vfs m.fields).getD k dE).kind (v.parts.getD k dE) then (ZM p (Yo v.parts k),6)
 else K8 (Z7 d n) (lenS d n) d ((vfs m.fields).getD k dE) (v.parts.getD k dE) (ZM p (Yo v.parts k)) (ZrO m v.parts)
def Zfi(d n m v p):Z7 d (n+1) m v p =
  if dC (v.name=m.name)&&(dC (v.int=0)&&(dC (I v.bytes=0)&&(dC (I v.hdrs=0)&&Qm m v.parts))) then (WQ (Zc9 d n m v p) (ZHJ (I v.parts))).getD ([],0) else (p,6):=rfl
structure Za9(d:Dfn)(j i:Nat)(m:Msg)(f:Fld):Prop where
 nm:Y8 f.name=true
 fresh:KO m f.name i<0
 kind:1<=f.kind/\f.kind<=12
 ks:QS d j m i f=0
def ZAN{d j i m f}(h:Qk d j m i f=0):Za9 d j i m f:=by
 unfold Qk at h;split at h;· omega
 rename_i t;split at h;· omega
 rename_i h2;split at h;· omega
 rename_i u;split at h;· omega
 simp only[ZHT,decide_eq_true_eq,not_or,Int.not_lt]at u;exact⟨by simpa using t,ω,ω,h⟩
def Zeg.at_{d j m}(h:Zeg d j m){i}(t:i<I m.fields):Za9 d j i m (m.fields.getD i dE):=ZAN (h.field i t)
def NmU(l:List Fld):Prop:=∀a b,a<b->b<I l->(l.getD a dE).name≠(l.getD b dE).name
def Zeg.nmU{d j m}(h:Zeg d j m):NmU m.fields:=λa b t u=>by
 have i:=Zco (h.at_ u).fresh ((m.fields.take b).getD a dE) (ZD (by simp;omega));rw[Q0 t]at i;simpa using i
def Zus{i s}(h:ZdQ i s=0):Z6 s=true/\∀t∈s.terms,∃j,j<I i/\(i.getD j dE).name=t.field/\YE (i.getD j dE)=true:=by
 unfold ZdQ at h;split at h;· omega
 rename_i hv;split at h;· omega
 rename_i ha;refine⟨by simpa using hv,λt ht=>?_⟩;have u:=List.any_eq_false.1 (Bool.eq_false_iff.2 ha) t ht;unfold JH WB at u;split at u;simp at u;rename_i h2;split at u;rename_i h3;have h4:=Jt (show 0<=Zj (λf=>dC (f.name=t.field)) i by omega);have h5:=WC (λf:Fld=>dC (f.name=t.field)) i;exact⟨_,ω,by simpa using h4.1,h3⟩;simp at u
def Zz6{n:Int}(h:n<=32):(2:Int) ^ n.toNat<=4294967296:=by
 have h1:2 ^ n.toNat<=2 ^ 32:=Nat.pow_le_pow_right ω ω;have h2:(2:Int) ^ n.toNat=((2 ^ n.toNat:Nat):Int):=(Int.natCast_pow 2 n.toNat).symm;generalize 2 ^ n.toNat=p at *;omega
def ZjV{f}(h:JJ f=0):(1<=f.bits/\f.bits<=32)/\0<=f.low/\f.low<=Znd f/\Znd f<4294967296:=by
 unfold JJ ZcU Ztj at h;split at h;· omega
 rename_i i;split at h;· omega
 rename_i t;simp only[ZHT,decide_eq_true_eq,not_or]at i t;have:=Zz6 (n:=f.bits) ω;omega
def Za9.num{d j i m f}(h:Za9 d j i m f)(hn:YE f=true):0<=f.low/\(f.kind=2->f.low<34359738368)/\(f.kind≠2->f.high<34359738368):=by
 have t:=h.ks;unfold YE at hn;simp only[ZHG,decide_eq_true_eq]at hn;unfold QS at t;rcases(by omega:f.kind=1\/f.kind=2\/f.kind=3) with h1|h1|h1<;>simp only[h1,ZId,if_true,if_false]at t;have:=ZjV t;unfold Znd at this;rw[if_neg ω]at this;omega;have:=ZjV t;unfold Znd at this;rw[if_pos h1]at this;omega;by_cases u:ZrU f.low f.high=true;unfold ZrU at u;simp only[ZHG,decide_eq_true_eq]at u;omega;rw[if_neg u]at t;omega
def Za9.size{d j i m f}(h:Za9 d j i m f)(hi:i<I m.fields)(hz:f.kind=4\/f.kind=7\/f.kind=12):Z6 f.size=true/\∀t∈f.size.terms,∃k,k<i/\(m.fields.getD k dE).name=t.field/\YE (m.fields.getD k dE)=true:=by
 have hs:ZdQ (m.fields.take i) f.size=0:=by have u:=h.ks;unfold QS at u;rcases hz with hz|hz|hz<;>simp only[hz,ZId,if_true,if_false]at u;exact u;split at u;omega;exact u;split at u;omega;split at u;omega;exact u
 obtain⟨hv,ht⟩:=Zus hs;refine⟨hv,λt h1=>?_⟩;obtain⟨k,h2,h3,h4⟩:=ht t h1;have u:k<i:=by rw[ZHQ]at h2;omega
 rw[Q0 u]at h3 h4;exact⟨k,u,h3,h4⟩
def Za9.tag{d j i m f}(h:Za9 d j i m f)(hi:i<I m.fields)(h9:f.kind=9):∃k,k<i/\(m.fields.getD k dE).name=f.tag/\YE (m.fields.getD k dE)=true:=by
 have u:=h.ks;unfold QS at u;simp only[h9,ZId,if_true,if_false]at u;split at u;omega;rename_i t;unfold Zjn at t;simp only[ZHT,decide_eq_true_eq,Bool.not_eq_true',not_or]at t;have h4:=Jt (show 0<=KO m f.tag i by omega);have h5:=WC (λg:Fld=>dC (g.name=f.tag)) (m.fields.take i);rw[ZHQ,show Zj (λg:Fld=>dC (g.name=f.tag)) (m.fields.take i)=KO m f.tag i from rfl]at h5;have h6:=h4.1;rw[show(Zj (λg=>dC (g.name=f.tag)) (m.fields.take i))=KO m f.tag i from rfl,Q0 ω]at h6;exact⟨(KO m f.tag i).toNat,ω,by simpa using h6,by simpa using t.2.1⟩
def Za9.fok{d j i m f}(h:Za9 d j i m f):FOk f:=by
 have t:=h.ks;unfold QS at t;refine⟨λh1=>?_,λh1=>?_,λh1=>?_⟩;have:JJ f=0:=by rcases h1 with h1|h1<;>simp only[h1,ZId,if_true,if_false]at t<;>exact t
 have:=(ZjV this).1;omega;simp only[h1,ZId,if_true,if_false]at t;split at t;omega;rename_i u;unfold Zol at u;unfold Zbu;simp only[ZHG,ZHT,decide_eq_true_eq,Bool.not_eq_true',decide_eq_false_iff_not]at u⊢;omega;simp only[h1,ZId,if_true,if_false]at t;split at t;omega;rename_i u;simp only[ZHT,decide_eq_true_eq]at u;omega
def Za9.fref{d j i m f}(h:Za9 d j i m f)(u:ZvI d j f):ZdV d f:=by
 refine⟨h.kind,λt=>(u.ref f.of ?_).1,λt c hc=>(u.ref c.of ?_).1⟩;unfold Yv ZaQ;rw[if_pos (by simp;omega)];simp;unfold Yv;rw[if_pos t,List.mem_append];exact .inr (List.mem_map_of_mem hc)
def QM.dok{d}(h:QM d):DOk d:=λm hm=>by
 obtain⟨j,t,rfl⟩:=Zbj hm;refine⟨(h.msg t).many,λf u=>?_⟩;obtain⟨i,hi,rfl⟩:=Zbj u;exact((h.msg t).at_ hi).fok
def QM.dref{d}(h:QM d):Zo9 d:=λm hm f hf=>by
 obtain⟨j,u,rfl⟩:=Zbj hm;obtain⟨i,t,rfl⟩:=Zbj hf;exact((h.msg u).at_ t).fref (h.fld u t)
def Za8:∀{l k},k<(vfs l).length->∃a,a<I l/\hasV (l.getD a dE)=true/\k=(vfs (l.take a)).length/\(vfs l).getD k dE=l.getD a dE
 | [],k,h=>by simp[vfs]at h
 |f::r,k,h=>by
  by_cases i:hasV f=true
  .have e:vfs (f::r)=f::vfs r:=by unfold vfs;rw[List.filter_cons,if_pos i]
   cases k with
   |zero=>exact⟨0,ψ,by simpa using i,rfl,by rw[e];rfl⟩
   |succ k =>rw[e]at h;obtain⟨a,u,h2,h3,h4⟩:=Za8 (l:=r) (k:=k) (by simpa using h);refine⟨a+1,by simpa using u,by simpa using h2,?_,by rw[e];simpa using h4⟩;rw[List.take_succ_cons,show vfs (f::r.take a)=f::vfs (r.take a) by unfold vfs;rw[List.filter_cons,if_pos i],ZHN,h3]
  have e:∀t,vfs (f::t)=vfs t:=λt=>by unfold vfs;rw[List.filter_cons,if_neg i]
  rw[e]at h;obtain⟨a,u,h2,h3,h4⟩:=Za8 (l:=r) (k:=k) h;exact⟨a+1,by simpa using u,by simpa using h2,by rw[List.take_succ_cons,e];exact h3,by rw[e];simpa using h4⟩
def Zvy{l:List Fld}{a b}(h:a<b)(hb:b<I l)(u:hasV (l.getD a dE)=true):(vfs (l.take a)).length<(vfs (l.take b)).length:=by
 have t:=(ZfG (l:=l.take b) (i:=a) (k:=(vfs (l.take a)).length) (by rw[List.take_take,Nat.min_eq_left ω]) (by simp;omega) (by rw[Q0 h];exact u)).1;exact t
def ZcB(l:List Fld)(ps:List Val)(i:Nat):Int:=if (l.getD i dE).kind=2 then (l.getD i dE).low else (ps.getD (vfs (l.take i)).length dE).int
def Zib{f}(h:YE f=true)(h2:¬f.kind=2):hasV f=true:=by
 unfold YE at h;unfold hasV;simp only[ZHG,decide_eq_true_eq,Bool.not_eq_true',decide_eq_false_iff_not]at h⊢;omega
def NmU.tail{f r}(h:NmU (f::r)):NmU r:=λa b ha i=>by
 have:=h (a+1) (b+1) ω (by simpa using i);simpa using this
def ZpZ:∀{l ps i},i<I l->NmU l->YE (l.getD i dE)=true->(hasV (l.getD i dE)=true->(vfs (l.take i)).length<I ps)->KJ (l.getD i dE).name (Zdv l ps)=ZcB l ps i
 | [],_,_,h,_,_,_=>by simp at h
 |f::r,ps,0,_,_,hn,hp=>by
  simp only[List.getD_cons_zero]at hn hp⊢;unfold ZcB Zdv;simp only[List.getD_cons_zero];by_cases h2:f.kind=2;rw[if_pos h2,if_pos h2];simp[KJ];have hv:=Zib hn h2;have h0:0<I ps:=by simpa[vfs]using hp hv
  rw[if_neg h2,if_neg h2,if_pos hv,hn,if_pos (by simp;omega)];simp[KJ,vfs]
 |f::r,ps,i+1,hi,hu,hn,hp=>by
  have u:=hu 0 (i+1) ω hi;simp only[List.getD_cons_zero,List.getD_cons_succ]at hn hp u⊢;have ab:=hu.tail;unfold Zdv;have e1:KJ (r.getD i dE).name ((if f.kind=2 then [(f.name,f.low)] else [])++(if hasV f then (if (dC (0<(I ps:Int))&&YE f) then [(f.name,(ps.getD 0 dE).int)] else [])++Zdv r (ps.drop 1) else Zdv r ps))=KJ (r.getD i dE).name (if hasV f then Zdv r (ps.drop 1) else Zdv r ps):=by
   have sk:∀{c:Prop} [Decidable c] (x:Int) (t:List (Str×Int)),KJ (r.getD i dE).name ((if c then [(f.name,x)] else [])++t)=KJ (r.getD i dE).name t:=λx t=>by split;exact if_neg u;rfl
   rw[sk];split;rw[sk];rfl
  rw[e1];by_cases hv:hasV f=true;have e:vfs (f::r.take i)=f::vfs (r.take i):=by unfold vfs;rw[List.filter_cons,if_pos hv]
  rw[List.take_succ_cons,e,ZHN]at hp;rw[if_pos hv,ZpZ (by simpa using hi) ab hn (λh=>by have:=hp h;rw[ZH9];omega)];unfold ZcB;simp only[List.getD_cons_succ];rw[List.take_succ_cons,e,ZHN];simp[ZHL,List.getElem?_drop,Nat.add_comm];have e:vfs (f::r.take i)=vfs (r.take i):=by unfold vfs;rw[List.filter_cons,if_neg hv]
  rw[List.take_succ_cons,e]at hp;rw[if_neg hv,ZpZ (by simpa using hi) ab hn hp];unfold ZcB;simp only[List.getD_cons_succ];rw[List.take_succ_cons,e]
def Zik{l ps E s}:∀{n},(∀k,k<n->YE (l.getD k dE)=true->(l.getD k dE).name≠s)->Zp s (Zdu l ps E n)=Zp s E
 |0,_=>rfl
 |n+1,h=>by rw[Zdu];split;rename_i hn;rw[WU,if_neg (λe=>h n ω hn e.symm)];exact Zik λk hk=>h k ω;exact Zik λk hk=>h k ω
def Ztm{l ps E k}:∀{n},k<n->YE (l.getD k dE)=true->(∀j,k<j->j<n->(l.getD j dE).name≠(l.getD k dE).name)->Zp (l.getD k dE).name (Zdu l ps E n)=sO (ps.getD k dE).int
 |0,h,_,_=>by omega
 |n+1,h,hn,hu=>by rw[Zdu];by_cases hk:k=n;subst hk;rw[if_pos hn,WU,if_pos rfl];have ih:=Ztm (E:=E) (ps:=ps) (show k<n by omega) hn (λj i h2=>hu j i ω);split;rw[WU,if_neg (λe=>hu n ω ω e.symm)];exact ih;exact ih
def Ztl{l k}:∀{n},k<n->(l.getD k dE).kind=2->(∀j,k<j->j<n->(l.getD j dE).name≠(l.getD k dE).name)->Zp (l.getD k dE).name (ZcC l n)=sO (l.getD k dE).low
 |0,h,_,_=>by omega
 |n+1,h,hn,hu=>by rw[ZcC];by_cases hk:k=n;subst hk;rw[if_pos hn,WU,if_pos rfl];have ih:=Ztl (show k<n by omega) hn (λj i h2=>hu j i ω);split;rw[WU,if_neg (λe=>hu n ω ω e.symm)];exact ih;exact ih
def NmU.ne{l}(h:NmU l){a b}(i:a≠b)(t:a<I l)(u:b<I l):(l.getD a dE).name≠(l.getD b dE).name:=by
 rcases Nat.lt_or_gt_of_ne i with h1|h1;exact h a b h1 u;exact(h b a h1 t).symm
def ZBn{m}(hu:NmU m.fields)(ps){i}(hi:i<I m.fields)(hn:YE (m.fields.getD i dE)=true):Zp (m.fields.getD i dE).name (Zdt m ps)=sO (ZcB m.fields ps i):=by
 unfold Zdt ZcB;by_cases h2:(m.fields.getD i dE).kind=2;rw[if_pos h2,Zik λk hk _=>?_];exact Ztl hi h2 λj h1 h3=>hu.ne ω h3 hi;obtain⟨a,h3,h4,_,h6⟩:=Za8 hk;rw[h6];refine hu.ne (λe=>?_) h3 hi;rw[e]at h4;unfold hasV at h4;rw[h2]at h4;simp at h4;have hv:=Zib hn h2;obtain⟨h3,h4⟩:=ZfG rfl hi hv;rw[if_neg h2];have h5:=Ztm (l:=vfs m.fields) (ps:=ps) (E:=ZcC m.fields (I m.fields)) h3 (by rw[h4];exact hn) (λj h6 h7=>by
  obtain⟨a,h8,h9,t,u⟩:=Za8 h7;rw[u,h4];exact hu.ne (λe=>by rw[e]at t;omega) h8 hi)
 rw[h4]at h5;exact h5
def ZCM{d j m}(hm:Zeg d j m){n v p k a i}(hi:i<I m.fields)(hk:k=(vfs (m.fields.take i)).length)(u:∀j,j<k->(Zc9 d n m v p j).2=0)(ha:a<i)(hn:YE (m.fields.getD a dE)=true):
  0<=ZcB m.fields v.parts a/\ZcB m.fields v.parts a<34359738368:=by
 have h1:=(hm.at_ (show a<I m.fields by omega)).num hn;unfold ZcB;split;rename_i h2;exact⟨h1.1,h1.2.1 h2⟩;rename_i h2;have hv:=Zib hn h2;obtain⟨h3,h4⟩:=ZfG rfl (show a<I m.fields by omega) hv;have t:=u _ (by rw[hk];exact Zvy ha hi hv);unfold Zc9 at t;rw[h4]at t;generalize v.parts.getD (vfs (m.fields.take a)).length dE=x at *;generalize m.fields.getD a dE=f at *;split at t;simp at t;unfold YE at hn;simp only[ZHG,decide_eq_true_eq]at hn;unfold K8 at t;rw[if_pos ω]at t;split at t;simp at t;have:=h1.2.2 h2;omega
def Zox{m}(hu:NmU m.fields){ps}(hr:Qm m ps=true){k}(hk:k<I ps):Yo ps k=(ps.getD k dE).name/\(ps.getD k dE).name=((vfs m.fields).getD k dE).name:=by
 unfold Qm at hr;rw[decide_eq_true_eq]at hr;have t:(vfs m.fields).length=I ps:=by simpa using congrArg List.length hr
 have u:∀i,i<I ps->(ps.getD i dE).name=((vfs m.fields).getD i dE).name:=λi hi=>by
  have h1:((vfs m.fields).map (·.name))[i]?=(ps.map Val.name)[i]?:=by rw[hr]
  simp[hi,t]at h1;simp[ZHL,hi,t,h1]
 refine⟨?_,u k hk⟩;have h0:Js ps k=0:=by unfold Js;rw[List.length_eq_zero_iff,List.filter_eq_nil_iff];intro x hx;obtain⟨i,hi,rfl⟩:=Zbj hx;rw[ZHQ]at hi;rw[Q0 ω,u i ω,u k hk];obtain⟨a,h1,_,h3,h4⟩:=Za8 (l:=m.fields) (k:=i) ω;obtain⟨b,h5,_,h7,h8⟩:=Za8 (l:=m.fields) (k:=k) ω;rw[h4,h8,decide_eq_true_eq];exact hu.ne (λe=>by rw[e]at h3;omega) h1 h5
 unfold Yo;rw[if_pos h0]
def ZbY(a s):(ZM a s).length<=I a+1+I s:=by
 unfold ZM;split;omega;simp;omega
def Zge{ps}(hp:I ps<=5000)(t:∀y∈ps,I y.name<=32){k}(i:k<I ps):(Yo ps k).length<=5040:=by
 have h1:=t _ (ZD i);have h2:=ZnJ ps k;have h3:=ZhV (Js ps k);unfold Yo;split;omega;simp only[ZHF,ZHN,List.length_nil];omega
structure VOk(v:Val):Prop where
 ok:Y2 v=true
 wt:wtN v<=5100
def VOk.part{v x}(h:VOk v)(i:x∈v.parts):VOk x:=⟨Yy h.ok i,ZIg (Zt1 i) h.wt⟩
def VOk.few{v}(h:VOk v):I v.parts<=5000:=by
 have h1:=Zvf v;have h2:=h.wt;have h3:I v.parts<=nodesL v.parts:=by
  induction v.parts with
  |nil=>simp
  |cons x r ih=>have:=ZaO x;simp only[ZHN,nodesL];omega
 have h4:=ZaO v;omega
def VOk.node{v}(h:VOk v):(1<=I v.name/\I v.name<=32)/\(0<=v.int/\v.int<34359738368)/\I v.bytes<=1048576/\ZcP v.hdrs:=by
 have i:=QC (KU h.ok);exact⟨i.1,i.2.1,i.2.2.1,ZyK (KU h.ok)⟩
def VOk.name{v}(h:VOk v):∀y∈v.parts,I y.name<=32:=λy i=>(h.part i).node.1.2
def WM(l)(hl:I l<=1000000000)(st):Za ZHv 15 [Zh l] st (λr s=>r=.ret (Zh l)/\s=st):=by
 refine Zb (cR 15 f15) λF hF=>?_;by_cases h0:I l=0;have ac:l=[]:=List.eq_nil_of_length_eq_zero h0;subst ac;refine Zed 0 rfl ?_ λb off cap=>?_
 skip
 refine rx (nd2 @Zh.eq_1 @eQ1) ?_;refine rg ?_;refine i1 ?_;refine rg ?_;exact hF.ret _ st rfl φ (K5 (YL λb h=>by cases h)) ZHw ⟨rfl,rfl⟩
 skip
 refine rx (nd2 @Zh.eq_1 @eQ1) ?_;refine rg ?_;refine iG ?_;refine Zec (s:=st) (t:=.full) (m:=0) (row2:=λ_=>[]) rfl rfl rfl rfl rfl φ φ (λg w v h=>Zf6 h) trivial (by decide) (by unfold big;decide) λt1 u=>?_;refine gR0 ?_;exact hF.ret _ st rfl φ (K5 ((ZU.nil (f:=u8C)).le rfl)) (YR u) ⟨rfl,rfl⟩
 skip
 refine rx (nd2 @Zh.eq_1 @eQ1) ?_;refine gA ?_;refine iG ?_;refine JA (st) (.full) rfl rfl rfl rfl rfl rfl φ φ rfl (by first|trivial|assumption) ω (by (unfold big;omega)) λt1 u=>Zm ?_;simp only[Eqs,reduceCtorEq,ZHC,reduceIte,ZHz,ZHE,ZHA];have ab:ZU u8C (Yg 0 (ZR [.int .u8 0] ([].zip [])) λi=>u8C (l.getD i dE)) ([]++l):=ZU.nil.app ZU.self rfl;exact hF.ret _ st rfl φ (K5 (ab.le ψ)) (YR u) ⟨rfl,rfl⟩
def ZgU(l)(hl:I l<=2000000)(st):Za ZHv 110 [Yc l] st (λr s=>r=.ret (Yc l)/\s=st):=by
 refine Zb (cR 110 f110) λF hF=>?_;by_cases h0:I l=0;have ac:l=[]:=List.eq_nil_of_length_eq_zero h0;subst ac;refine Zed 0 rfl ?_ λb off cap=>?_
 skip
 refine rx (nd2 @Yc.eq_1 @eQ1) ?_;refine rg ?_;refine i1 ?_;refine rg ?_;exact hF.ret _ st rfl φ (K5 (YL λb h=>by cases h)) ZHw ⟨rfl,rfl⟩
 skip
 refine rx (nd2 @Yc.eq_1 @eQ1) ?_;refine rg ?_;refine iG ?_;refine Zec (s:=st) (t:=.full) (m:=0) (row2:=λ_=>[]) rfl rfl rfl rfl rfl φ φ (λg w v h=>Zf6 h) trivial (by decide) (by unfold big;decide) λt1 u=>?_;refine gR0 ?_;exact hF.ret _ st rfl φ (K5 ((ZU.nil (f:=Hdr.cells)).le rfl)) (YR u) ⟨rfl,rfl⟩
 skip
 refine rx (nd2 @Yc.eq_1 @eQ1) ?_;refine gA ?_;refine iG ?_;refine JA (st) (.full) rfl rfl rfl rfl rfl rfl φ φ rfl (by first|trivial|assumption) ω (by (unfold big;omega)) λt1 u=>Zm ?_;simp only[Eqs,reduceCtorEq,ZHC,reduceIte,ZHz,ZHE,ZHA];have ab:ZU Hdr.cells (Yg 0 (ZR [.str [],.str []] ([].zip [])) λi=>Hdr.cells (l.getD i dE)) ([]++l):=ZU.nil.app ZU.self rfl;exact hF.ret _ st rfl φ (K5 (ab.le ψ)) (YR u) ⟨rfl,rfl⟩
def Zuf(row n):(ZHJ n).flatMap row=Wd row n:=by
 induction n with
 |zero=>rfl
 |succ n ih=>rw[List.range_succ,List.flatMap_append,ih,Wd];simp
def ZiW(st):Za ZHv 111 [ZY []] st (λr s=>r=.ret (ZY [])/\s=st):=by
 refine Zb (cR 111 f111) λF hF=>?_;have hz:∀(tk:Tok) (row:Nat->List D),(D.sl tk 0 5 row).Le (ZY []):=λtk row g w v hv=>by
  cases hv with
  |sl0 a _ _ _ ht=>exact .sl0 _ _ _ _ ψ
  |sl b o n cap s row t f hl hc hp hr one ht hcap hb=>exact .sl _ _ _ _ _ _ _ f (λi hi=>by omega) hc hp (λi j d hi=>by omega) one trivial hcap hb
 refine Zed 0 rfl ?_ λb off cap=>?_
 skip
 refine gG ?_;refine i1 ?_;refine rg ?_;exact hF.ret _ st rfl φ (K5 (YL λb h=>by cases h)) ZHw ⟨rfl,rfl⟩
 skip
 refine gG ?_;refine iG ?_;refine Zec (s:=st) (t:=.full) (m:=0) (row2:=λ_=>[]) rfl rfl rfl rfl rfl φ φ (λg w v h=>Zf6 h) trivial (by decide) (by unfold big;decide) λt1 u=>?_;refine gR0 ?_;exact hF.ret _ st rfl φ (K5 (hz _ _)) (YR u) ⟨rfl,rfl⟩
def ZiX(l)(hl:I l<=1000000)(hp:0<I l)(st):Za ZHv 111 [ZY l] st λr S=>∃b c X,st b=nO/\I l<=c/\r=.ret (.msl b 0 (I l) c 5)/\S=st.upd b (.cells (Wd (Zbv l) (I l)++X)):=by
 refine Zb (cR 111 f111) λF hF=>?_;have t:=Zuf (Zbv l) (I l);refine rx @ZY.eq_1 ?_;refine gA ?_;refine iG ?_;refine ZuI rfl rfl rfl rfl rfl rfl φ φ (by exact hp) ω (by unfold big;omega) λb u hb i=>Zm ?_;simp only[Eqs,reduceCtorEq,ZHC,reduceIte,ZHz,ZHE,ZHA];rw[t];exact hF.ret _ _ rfl φ (ZHx _) ZHw ⟨b,u,_,hb,i,rfl,rfl⟩
structure CpI(T A:St)(v:Val)(x:Nat)(row:Nat->List D)(f:Nat->List Nat)(X:List D)(i:Nat):Prop where
 b:A x=some (.cells (Wd row (I v.parts)++X))
 x0:T x=none
 done:∀j,j<i->j<I v.parts->MT A (v.parts.getD j default) (row j) (f j)
 rest:∀j,i<=j->j<I v.parts->row j=(v.parts.getD j default).cells
 n:∀j,j<i->x∉f j
 fr:∀j,j<i->∀y∈f j,T y=none
 d:∀j k,j<i->k<i->j≠k->∀y∈f j,y∉f k
 out:∀y,y≠x->(∀j,j<i->y∉f j)->A y=T y
def CpI.len{T A v x row f X i}(h:CpI T A v x row f X i):∀j,j<I v.parts->(row j).length=5:=λj t=>by
 by_cases u:j<i;exact(h.done j u t).len;rw[h.rest j ω t];exact Val.len _
def Zun{c d}(h:I c=I d):Zx c 0 d=d:=by
 unfold Zx;rw[List.take_zero,Nat.zero_add,List.drop_eq_nil_of_le ω];simp
def CpI.step{T A v x row f X i}(h:CpI T A v x row f X i)(hi:i<I v.parts){S c fp}(hm:MT S (v.parts.getD i dE) c fp)(hf:∀y∈fp,A y=nO)(ho:∀y,y∉fp->S y=A y):CpI T (S.upd x (.cells (Zx (Wd row (I v.parts)++X) (i*5) c))) v x (λj=>if j=i then c else row j) (λj=>if j=i then fp else f j) X (i+1):=by
 have hx:x∉fp:=λhx=>by have:=hf x hx;rw[h.b]at this;simp at this
 have hj:∀j,j<i->∀y∈f j,y∉fp:=λj hj y hy u=>by obtain⟨ds,ae⟩:=(h.done j hj ω).live y hy;have:=hf y u;rw[ae]at this;simp at this
 have ac:∀{y:Nat},y≠x->(S.upd x (.cells (Zx (Wd row (I v.parts)++X) (i*5) c))) y=S y:=λhy=>ZHD _ _ hy;refine⟨?_,h.x0,λj t ab=>?_,λj t ab=>?_,λj t=>?_,λj t y hy=>?_,λj k t hk1 af y hy=>?_,λy hy u=>?_⟩;rw[ZHB];have:=Zqw X 0 c (by rw[hm.len];decide) (λj hj=>h.len j hj) hi;rw[Nat.add_zero]at this;rw[this,Zun (by rw[h.len i hi,hm.len])];by_cases e:j=i;subst e;rw[if_pos rfl,if_pos rfl];exact hm.mono λy hy=>ac λe=>hx (e▸hy);rw[if_neg e,if_neg e];refine(h.done j ω ab).mono λy hy=>?_;rw[ac (λe2=>h.n j ω (e2▸hy))];exact ho y (hj j ω y hy);rw[if_neg ω];exact h.rest j ω ab;by_cases e:j=i;rw[if_pos e];exact hx;rw[if_neg e];exact h.n j ω;by_cases e:j=i;rw[if_pos e]at hy;have h1:=hf y hy;rw[h.out y (λe2=>hx (e2▸hy)) (λk hk ad=>hj k hk y ad hy)]at h1;exact h1;rw[if_neg e]at hy;exact h.fr j ω y hy;by_cases e:j=i;rw[if_pos e]at hy;rw[if_neg ω];exact λad=>hj k ω y ad hy;rw[if_neg e]at hy;by_cases e2:k=i;rw[if_pos e2];exact hj j ω y hy;rw[if_neg e2];exact h.d j k ω ω af y hy;have h1:=u i ω;rw[if_pos rfl]at h1;rw[ac hy,ho y h1];refine h.out y hy λj hj=>?_;have:=u j ω
 rwa [if_neg ω]at this
def CpI.fin{T A v x cap row f X}(h:CpI T A v x row f X (I v.parts))(hp:0<I v.parts)(u:I v.parts<=cap):
  ∃fp,MT A v [.str v.name,.i v.int,Zh v.bytes,Yc v.hdrs,.msl x 0 (I v.parts) cap 5] fp/\(∀y∈fp,T y=nO)/\∀y,y∉fp->A y=T y:=by
 refine⟨x::(ZHJ (I v.parts)).flatMap f,MN.mt ⟨rfl,h.b,u,λj i=>h.done j i i,λj i=>h.n j i,λj k i hk=>h.d j k i hk,rfl⟩ hp,λy t=>?_,λy t=>?_⟩;simp only[ZIa,List.mem_flatMap,List.mem_range]at t;rcases t with rfl|⟨j,i,t⟩;exact h.x0;exact h.fr j i y t;simp only[ZIa,List.mem_flatMap,List.mem_range,not_or,not_exists,not_and]at t;exact h.out y t.1 λj i=>t.2 j i
structure SmV(v:Val):Prop where
 b:I v.bytes<=2000000
 h:I v.hdrs<=2000000
 p:I v.parts<=1000000
def VOk.sm{v}(h:VOk v):SmV v:=by
 have h1:=QC (KU h.ok);have i:=h.wt;have t:∀l:List Val,10*I l<=wtL l:=λl=>by
  induction l with
  |nil=>simp
  |cons x r ih=>have:=Zax x;simp only[wtL,ZHN];omega
 have h4:=t v.parts;rw[Zax]at i;exact⟨ω,ω,ω⟩
def ZrA(v):VOk v->∀T:St,Za ZHv 79 [.agg v.cells] T λr S=>∃c fp,r=.ret (.agg c)/\MT S v c fp/\(∀y∈fp,T y=nO)/\∀y,y∉fp->S y=T y:=by
 induction v using Val.ind with
 |h v ih =>
  intro hv T;have hs:=hv.sm;have hsb:=hs.b;have hsh:=hs.h;have ah:=hs.p;refine Zb (cR 79 f79) λF hF=>?_;rw[v.cells_eq];refine gG ?_;have c9:=(WM v.bytes ω T);refine cVD (c9) ?_ ?_;rintro dd S ⟨hr,hS⟩;obtain rfl:=hS.symm;cases hr;refine kF ?_;refine gR0 ?_;have c9:=(ZgU v.hdrs ω T);refine cVD (c9) ?_ ?_;rintro dd S ⟨hr,hS⟩;obtain rfl:=hS.symm;cases hr;refine kF ?_;refine gR0 ?_;by_cases h0:I v.parts=0;have ab:v.parts=[]:=List.eq_nil_of_length_eq_zero h0;rw[ab];refine cVD ((ZiW T)) ?_ ?_;rintro dd S ⟨hr,hS⟩;obtain rfl:=hS.symm;cases hr;refine kF ?_;refine gR0 ?_;refine aa ?_;refine rx @Zc6 ?_;refine Zd (ZaA ?_);refine rg ?_;refine iG ?_;exact hF.ret _ T rfl ψ (ZHx _) ZHw ⟨_,[],rfl,by cases v;simp only[Val.parts]at ab;subst ab;exact .leaf _ _ _ _,ψ,λ_ _=>rfl⟩;rintro d S ⟨hr,_⟩;cases hr
  skip
  have c9:=(ZiX v.parts ah ω T);refine cVD (c9) ?_ ?_;rintro dd S ⟨x,c,X,hx,hc,hr,hS⟩;subst hS;cases hr;refine kF ?_;refine gR0 ?_;refine aa ?_;refine rg ?_;refine Zd (fr (I v.parts) (λi Q=>∀row f A,CpI T A v x row f X i->i<=I v.parts->Q [(1,.loc 1 0),(2,.loc 2 0),(18,.d (.i (I v.parts))),(19,.d (.i i))] [(1,[.str v.name,.i v.int,Zh v.bytes,Yc v.hdrs,.msl x 0 (I v.parts) c 5]),(2,[.str [],.i 0,.nilsl,.nilsl,.nilsl])] A) (λn ac=>?_) λai=>?_);intro i hn row f A hA hi;refine rg ?_;refine Zc (Zn rfl trivial (λhd=>?_) (λhd=>?_));simp only[decide_eq_true_eq]at hd;have u:i<I v.parts:=ω;have t:=Zh4 X hA.len u;unfold part at t;rw[hA.rest i (ZHK _) u]at t;have ad:=ZdE hA.len;have hb:=hA.b;refine rg ?_;refine rx (nd2 @hb @t) ?_;refine⟨ω,ω,by rw[ZHF,ad];omega,?_⟩;refine cVD (ih _ (ZD u) (hv.part (ZD u)) A) ?_ ?_;rintro dd S ⟨cc,fp,hr,hm,hf,ho⟩;cases hr;have af:S x=A x:=ho x λhx=>by have:=hf x hx;rw[hb]at this;simp at this
  rw[hb]at af;have ae:=hA.step u hm hf ho;have ag:=hm.len;unfold Zx at ae;rw[ag]at ae;refine kF ?_;refine gQ (nd2 @af @ag) ?_;refine⟨ω,ω,by rw[ZHF,ad];omega,?_⟩;refine gA ?_;refine Ze ?_;exact ac ((I v.parts)-(i+1)) ω (i+1) rfl _ _ _ ae ω;rintro d S ⟨_,_,hr,_⟩;cases hr;simp only[decide_eq_false_iff_not]at hd;obtain rfl:i=I v.parts:=ω;obtain⟨fp,h1,h2,h3⟩:=hA.fin ω hc;refine rg ?_;exact hF.ret _ A rfl ψ (ZHx _) ZHw ⟨_,fp,rfl,h1,h2,h3⟩;exact ai _ 0 rfl (Zbv v.parts) (λ_=>[]) _ ⟨ZHB _ _ _,hx,λj hj=>by omega,λj _ hj=>Zb3 hj,λj hj=>by omega,λj hj=>by omega,λj k hj=>by omega,λy hy _=>ZHD _ _ hy⟩ ω;rintro d S ⟨_,_,_,_,_,hr,_⟩;cases hr;rintro d S ⟨hr,_⟩;cases hr;rintro d S ⟨hr,_⟩;cases hr
abbrev ZoQ(l:List Str):D:=slD 1 ZbM l
def Zhu(l)(hl:I l<=1000000)(f st)(hf:∀x∈l,VT ZHv f [.str x] st (.bool false) st):ZL ZHv 218 [ZoQ l,f] st (.i (-1)) st:=by
 refine ZE (cR 218 f218) λ_ F u=>?_;refine rg ?_;refine rx @eQ1 ?_;refine Zd (fr (I l) (λi Q=>i<=I l->Q [(0,.d (ZoQ l)),(1,.d f),(7,.d (.i (I l))),(8,.d (.i i))] [] st) (λn t=>?_) λac=>?_);intro i hn hi;refine rg ?_;refine Zc (Zn rfl trivial (λh1=>?_) (λh1=>?_));simp at h1;have ab:=hf _ (ZD h1);refine rg ?_;refine xA (nd2 @eQ1 @ZbM.eq_1) ?_;refine cW (ab) ?_;refine i0 ?_;refine gA ?_;refine Ze ?_;exact t ((I l)-(i+1)) ω (i+1) rfl ω;refine rg ?_;exact u rfl φ (ZHx _) ZHw;exact ac _ 0 rfl ω
def ZgV(l)(hl:I l<=1000000)(f st)(u:∀x∈l,VT ZHv f [.str x] st (.bool false) st):ZL ZHv 176 [ZoQ l,f] st (ZoQ l) st:=by
 refine ZE (cR 176 f176) λ_ F i=>?_;have t:=Zhu l hl f st u;refine gG ?_;refine ct (t) ?_;refine aa ?_;refine rg ?_;refine i1 ?_;refine rg ?_;exact i rfl φ (ZHx _) ZHw
def ZpR{a s}(ha:a≠[])(hs:s≠[])(hl:I a<=10000000)(hl2:I s<=10000000):Zf ZHv 130 [ZoQ [a,s]] (.str (ZM a s)):=by
 refine Zi (cR 130 f130) λF st t=>?_;have hd:=ZgV [a,s] ψ (.fn (.func 177) [] []) st (λx hx=>by
  have h:=(Zga x).VT (first:=[]) (args:=[_]) (caps:=[]) st;rw[decide_eq_false (λe=>by rw[e]at hx;simp at hx;rcases hx with hx|hx<;>simp_all)]at h;exact h)
 have i:joinL [a,s] [46]=ZM a s:=by simp[joinL,ZM,ha,List.intercalate]
 have u:=ZcM [a,s] ψ (by rw[i];have:=ZbY a s;omega);rw[i]at u;refine gG ?_;refine ct (hd) ?_;refine cl (u) ?_;refine rs t ?_;rfl
def ZqG{a s}(u:a≠[])(hs:s≠[])(hl:I a<=10000000)(t:I s<=10000000):Zf ZHv 130 [.sl .full 2 1 (ZR [.str []] ([0,1].zip [.str a,.str s]))] (.str (ZM a s)) :=
 Zf.leA (LeC.one (Zee rfl λi hi=>by rcases(by omega:i=0\/i=1) with rfl|rfl<;>rfl)) (ZpR u hs hl t)
def ZG(r:Str×Int)(st:St)(x:Res)(S:St):Prop:=S=st/\x=mfR r.1 r.2
def Wj(a b:Str×Int):Str×Int:=if a.2=0 then b else a
def mfK{r st}{A:D->St->Prop}(h:r.2=0->A (.tup []) st):∀d S,ZG r st (.ret d) S->A d S:=λd S ⟨u,i⟩=>by
 subst u;unfold mfR at i;split at i;rename_i t;cases i;exact h t;cases i
def mfP{r st}{A:D->St->Prop}(h:¬r.2=0->A (mfD r.1 r.2) st):∀d S,ZG r st (.panic d) S->A d S:=λd S ⟨u,i⟩=>by
 subst u;unfold mfR at i;split at i;cases i;rename_i t;cases i;exact h t
def ZG.ok{r st}(h:r.2=0):ZG r st (.ret (.tup [])) st:=⟨rfl,by unfold mfR;rw[if_pos h]⟩
def ZG.bad{r R st}(h:¬r.2=0)(i:R=r):ZG R st (.panic (mfD r.1 r.2)) st:=by
 subst i;exact⟨rfl,by unfold mfR;rw[if_neg h]⟩
def KE{a b}(h:a.2=0):Wj a b=b:=if_pos h
def Kk{a b}(h:¬a.2=0):Wj a b=a:=if_neg h
def Ko(fine q no)(i:¬no=0)(st):Za ZHv 94 [.bool fine,.str q,.i no] st (ZG (q,if fine then 0 else no) st) :=
 (Zd4 fine q no st).mono λr S ⟨t,u⟩=>⟨t,by rw[u];cases fine<;>simp[mfR,i]⟩
def Zkv(a b q st):Za ZHv 134 [.i a,.i b,.str q] st (ZG (q,Kx a b) st) :=
 (Zuq a b q st).mono λr S ⟨i,t⟩=>⟨i,t⟩
def ZoW(n b h p:Bool)(x:Val):Bool:=(((n ||decide (x.int=0))&&(b ||decide ((I x.bytes:Int)=0)))&&(h ||decide ((I x.hdrs:Int)=0)))&&(p ||decide ((I x.parts:Int)=0))
def ZcQ(n b h p:Bool)(x:Val)(q:Str):Str×Int:=(q,if ZoW n b h p x then 0 else 6)
structure Zb7(st:St)(b3 b4 b5 b6 b7 b:Nat)(d:Dfn)(m:Msg)(pth:Str)(l:List (Str×Int))(f:Fld)(x:Val)(q:Str):Prop where
 p:st b3=some (.cells (WS m d pth b))
 f:st b4=some (.cells f.cells)
 x:st b5=some (.cells [.str x.name,.i x.int,Zh x.bytes,Yc x.hdrs,ZY x.parts])
 q:st b6=some (.cells [.str q])
 u:st b7=some (.cells [.fn (.func 131) [] [.ptr b5 0,.ptr b6 0]])
 m:st b=some (.map (Kc l))
section
variable {st:St} {b3 b4 b5 b6 b7 bm:Nat} {d:Dfn} {m:Msg} {pth:Str} {l:List (Str × Int)} {f:Fld} {x:Val} {q:Str}
def Qj(u:Zb7 st b3 b4 b5 b6 b7 bm d m pth l f x q)(n b h p):WN ZHv (.fn (.func 131) [] [.ptr b5 0,.ptr b6 0]) [.bool n,.bool b,.bool h,.bool p] st (ZG (ZcQ n b h p x q) st):=by
 refine Za.V (first:=[]) (args:=[_,_,_,_]) (caps:=[_,_]) ?_;refine Zb (cR 131 f131) λF t=>?_;have h5:=u.x;have h6:=u.q;have hU:=ZoW.eq_1 n b h p x;refine rx (nd2 @h5 (nd2 @h6 (nd2 @QA (nd2 @ZjN @Zc6)))) ?_;rw[<-hU];have c9:=Ko (ZoW n b h p x) q 6 (by decide) st;refine cV (c9) ?_ ?_;refine mfK λi=>?_;refine gR0 ?_;exact t.fin (.tup []) st rfl trivial (ZHx _) ZHw (ZG.ok i);exact mfP λi=>t.pan st ZHw (ZG.bad i rfl)
def Zgc(i:Zb7 st b3 b4 b5 b6 b7 bm d m pth l f x q):
  Za ZHv 132 [.ptr b7 0,.ptr b5 0,.ptr b4 0,.ptr b6 0] st (ZG (Wj (ZcQ true false false false x q) (q,if dC (f.low<=x.int)&&dC (x.int<=f.high) then 0 else 3)) st):=by
 refine Zb (cR 132 f132) λF u=>?_;have hu:=Qj i true false false false;refine rx @i.u ?_;refine vV (hu) ?_ ?_;refine mfK λt=>?_;rw[KE t]at u;refine gR0 ?_;refine rx (nd2 @i.x (nd2 @i.f (nd2 @i.q @eQ0))) ?_;have c9:=Ko (dC (f.low<=x.int)&&dC (x.int<=f.high)) q 3 (by decide) st;refine cV (c9) ?_ ?_;refine mfK λh1=>?_;refine gR0 ?_;exact u.fin (.tup []) st rfl trivial (ZHx _) ZHw (ZG.ok h1);exact mfP λh1=>u.pan st ZHw (ZG.bad h1 rfl);exact mfP λt=>u.pan st ZHw (ZG.bad t (Kk t))
def ZoF(i:Zb7 st b3 b4 b5 b6 b7 bm d m pth l f x q)(hv:Z6 f.size=true)(hk:∀t∈f.size.terms,∃v,Zp t.field l=sO v/\0<=v/\v<34359738368):
  Za ZHv 133 [.ptr b7 0,.ptr b5 0,.ptr b3 0,.ptr b4 0,.ptr b6 0] st (ZG (Wj (ZcQ false true false false x q) (q,Kx (I x.bytes) (Zas f.size l))) st):=by
 refine Zb (cR 133 f133) λF hF=>?_;have hu:=Qj i false true false false;have hz:=Zao m d pth f hv bm l st i.m hk;refine rx @i.u ?_;refine vV (hu) ?_ ?_;refine mfK λu=>?_;rw[KE u]at hF;refine gR0 ?_;have hp:=i.p;have hf:=i.f;refine rx (nd2 @i.x (nd2 @hp (nd2 @hf (nd2 @i.q (nd2 @QA (nd2 @WS.eq_1 @eQ0)))))) ?_;refine cVD (hz) ?_ ?_;rintro dd S ⟨hd,rfl⟩;cases hd;refine kF ?_;refine gR0 ?_;refine cVD (Zkv (I x.bytes) (Zas f.size l) q S) ?_ ?_;refine mfK λh1=>?_;refine kF ?_;refine gR0 ?_;exact hF.fin (.tup []) S rfl trivial (ZHx _) ZHw (ZG.ok h1);exact mfP λh1=>hF.pan S ZHw (ZG.bad h1 rfl);rintro dd S ⟨hd,_⟩;cases hd;exact mfP λu=>hF.pan st ZHw (ZG.bad u (Kk u))
end
def ZiD(l v):Zf ZHv 179 [Zh l,.int .u8 v] (.i (Zj (λx=>dC (v=x.toNat)) l)):=by
 refine WG (cR 179 f179) λad F st u=>?_;have hw:=(WE (ad (Zh l) ψ)).1;unfold big at hw;clear ad;refine rg ?_;refine rx @QA ?_;refine Zd (fr (I l) (λi Q=>i<=I l->(∀j,j<i->dC (v=(l.getD j dE).toNat)=false)->Q [(0,.d (Zh l)),(1,.d (.int .u8 v)),(7,.d (.i (I l))),(8,.d (.i i))] [] st) (λn t=>?_) λae=>?_);intro i hn hi ab;refine rg ?_;refine Zc (Zn rfl trivial (λh1=>?_) (λh1=>?_));simp at h1;refine rg ?_;refine xA (nd2 @ZvQ @u8C.eq_1) ?_;refine cd (λh2=>?_) (λh2=>?_);have e1:=WZ (p:=λx:UInt8=>dC (v=x.toNat)) h1 h2 ab;refine rg ?_;refine ri u ?_;exact e1.symm;refine gA ?_;refine Ze ?_;exact t ((I l)-(i+1)) ω (i+1) rfl ω (Yb (q:=λj=>dC (v=(l.getD j dE).toNat)=false) ab h2);simp at h1;obtain rfl:i=I l:=ω;have ac:∀x∈l,(λx:UInt8=>dC (v=x.toNat)) x=false:=λx hx=>by obtain⟨j,hj,rfl⟩:=ZHR hx;have:=ab j hj;simpa[ZHL,hj]using this
 refine rg ?_;refine ri u ?_;exact(Wc ac).symm;exact ae _ 0 rfl ω (by intro j hj;omega)
def ZfJ(l v):Zf ZHv 137 [Zh l,.int .u8 v] (.bool (l.any λx=>dC (v=x.toNat))):=by
 refine Zi (cR 137 f137) λF st i=>?_;refine gG ?_;refine cl (ZiD l v) ?_;refine rb i ?_;rw[<-Jf]
section
variable {st:St} {b3 b4 b5 b6 b7 bm:Nat} {d:Dfn} {m:Msg} {pth:Str} {l:List (Str × Int)} {f:Fld} {x:Val} {q:Str}
def ZoG(i:Zb7 st b3 b4 b5 b6 b7 bm d m pth l f x q)(hl:0<=f.low/\f.low<=255):
  Za ZHv 136 [.ptr b7 0,.ptr b5 0,.ptr b4 0,.ptr b6 0] st (ZG (Wj (ZcQ false true false false x q) (Wj (q,if dC ((I x.bytes:Int)<=f.high) then 0 else 5) (q,if !x.bytes.any (λc=>dC (f.low=c.toNat)) then 0 else 6))) st):=by
 refine Zb (cR 136 f136) λF t=>?_;have hu:=Qj i false true false false;have hw:IntKind.u8.wrap f.low=f.low:=Zaj .u8 f.low (by have u:IntKind.u8.min=0:=rfl;have h2:IntKind.u8.max=255:=rfl;unfold inR;omega);refine rx @i.u ?_;refine vV (hu) ?_ ?_;refine mfK λh0=>?_;rw[KE h0]at t;refine gR0 ?_;refine rx (nd2 @i.x (nd2 @i.f (nd2 @i.q (nd2 @QA @eQ0)))) ?_;have c9:=Ko (dC ((I x.bytes:Int)<=f.high)) q 5 (by decide) st;refine cV (c9) ?_ ?_;refine mfK λu=>?_;rw[KE u]at t;refine gR0 ?_;refine rx (nd2 @i.x (nd2 @i.f (nd2 @i.q (nd2 @eQ0 @hw)))) ?_;refine clD (ZfJ x.bytes f.low) ?_;refine ZhH rfl rfl rfl rfl rfl φ φ (by exact Ko (!x.bytes.any λc=>dC (f.low=c.toNat)) q 6 (by decide) st) ?_ ?_;refine mfK λh2=>?_;refine kF ?_;refine gR0 ?_;exact t.fin (.tup []) st rfl trivial (ZHx _) ZHw (ZG.ok h2);exact mfP λh2=>t.pan st ZHw (ZG.bad h2 rfl);exact mfP λu=>t.pan st ZHw (ZG.bad u (Kk u));exact mfP λh0=>t.pan st ZHw (ZG.bad h0 (Kk h0))
def ZoH(i:Zb7 st b3 b4 b5 b6 b7 bm d m pth l f x q)(ht:ZcP x.hdrs):
  Za ZHv 138 [.ptr b7 0,.ptr b5 0,.ptr b6 0,.ptr b4 0] st (ZG (Wj (ZcQ false false true false x q) (Wj (q,if KC x.hdrs then 0 else 6) (q,if dC (((Qp x.hdrs).length:Int)<=f.high) then 0 else 5))) st):=by
 refine Zb (cR 138 f138) λF u=>?_;have hu:=Qj i false false true false;have hW:=ZdZ ht;have hR:=ZhE.eq_1 x.hdrs;generalize ZhE x.hdrs=w at *;refine rx @i.u ?_;refine vV (hu) ?_ ?_
 .refine mfK λh0=>?_;rw[KE h0]at u;refine gR0 ?_;refine rx @i.x ?_;cases hk:KC x.hdrs with
  |false =>rw[hk,if_neg ψ]at hR;subst hR;refine cl (hW) ?_;refine rx @i.q ?_;have c9:=Ko false q 6 (by decide) st;refine cV (c9) ?_ ?_;exact mfK λt=>absurd t ψ;exact mfP λt=>u.pan st ZHw (ZG.bad t (by rw[hk,Kk ψ]))
  |true =>rw[hk,if_pos rfl]at hR;rw[hk,KE ψ]at u;subst hR;refine cl (hW) ?_;refine rx @i.q ?_;have c9:=Ko true q 6 (by decide) st;refine cV (c9) ?_ ?_;refine mfK λt=>?_;refine gR0 ?_;refine rx (nd2 @i.f (nd2 @i.q (nd2 @QA @eQ0))) ?_;have c9:=Ko (dC (((Qp x.hdrs).length:Int)<=f.high)) q 5 (by decide) st;refine cV (c9) ?_ ?_;refine mfK λh2=>?_;refine gR0 ?_;exact u.fin (.tup []) st rfl trivial (ZHx _) ZHw (ZG.ok h2);exact mfP λh2=>u.pan st ZHw (ZG.bad h2 rfl);exact mfP λt=>absurd rfl t
 exact mfP λh0=>u.pan st ZHw (ZG.bad h0 (Kk h0))
end
def Jd:Prop:=∀n:Nat,n<510->Zf ZHv 116 [.i n] (.str (ZaI n))
def ZiQ(hI:Jd)(ps)(k:Nat)(hk:k<I ps)(hps:I ps<=510)(hn:∀x∈ps,I x.name<=32):Zf ZHv 141 [ZY ps,.i k] (.str (Yo ps k)):=by
 refine Zi (cR 141 f141) λF st u=>?_;have ab:=QX hk;have hnk:=hn _ (ZD hk);have ac:=λi=>Zxy (ps:=ps) (k:=k) (i:=i);have hO:=Yo.eq_1 ps k;have ad:Js ps k=Ze5 ps k k:=rfl;have hdl:=ZnJ ps k;have hdec:=ZhV (Js ps k);have hD:=hI (Js ps k) ω;generalize hx:ps.getD k dE=x at *;refine gG ?_;refine rx @ZY.eq_1 ?_;simp only[ite_self];refine⟨ω,ω,ω,?_⟩;refine kl (st) [(0,.d (ZY ps)),(1,.d (.i k)),(5,.d (.i (0:Nat))),(10,.d (.sl .none k 5 (Zbv ps))),(11,.d (.i k)),(12,.d (.i (0:Nat)))] [] Qe ZaB ?_;refine Zd (fr (k) (λi Q=>i<=k->Q [(0,.d (ZY ps)),(1,.d (.i k)),(5,.d (.i (Ze5 ps k i))),(10,.d (.sl .none k 5 (Zbv ps))),(11,.d (.i k)),(12,.d (.i i))] [] st) (λn t=>?_) λaf=>?_);intro i hn2 hi;refine rg ?_;refine Zc (Zn rfl trivial (λh1=>?_) (λh1=>?_));simp at h1;have ae:=QX (show i<I ps by omega);have hs:=ac i ω;have hdi:=ZBf ps k i;generalize hy:ps.getD i dE=y at *;refine xA @ae ?_;refine xA (nd2 @atV @ab) ?_;refine cd (λh2=>?_) (λh2=>?_);rw[if_pos (by simpa using h2)]at hs;refine gA ?_;refine gA ?_;rw[show((Ze5 ps k i:Nat):Int)+1=((Ze5 ps k (i+1):Nat):Int) by rw[hs];rfl];refine Ze ?_;exact t ((k)-(i+1)) ω (i+1) rfl ω;rw[if_neg (by simpa using h2)]at hs;refine gA ?_;rw[show((Ze5 ps k i:Nat):Int)=((Ze5 ps k (i+1):Nat):Int) by rw[hs];rfl];refine Ze ?_;exact t ((k)-(i+1)) ω (i+1) rfl ω;simp at h1;obtain rfl:i=k:=ω;rw[<-ad];refine rg ?_;refine cd (λh3=>?_) (λh3=>?_);simp at h3;rw[if_pos h3]at hO;refine xA (nd2 @atV @ab) ?_;refine rs u ?_;exact hO.symm;simp at h3;rw[if_neg h3]at hO;refine xA (nd2 @atV @ab) ?_;refine⟨by unfold big;omega,?_⟩;refine cXD @ZBR (hD) ?_;repeat(refine ZHy (by first|omega|trivial|(intro h0;simp at h0;omega)|(((try simp only[ZHF,ZHN,List.length_nil]);unfold big;omega))) ?_)
 refine rs u ?_;exact hO.symm;exact af _ 0 rfl ω
section
variable {d:Dfn} {m:Msg} {pth:Str} {bm:Nat} {x:Val} {q:Str} {st:St}
def Ztq(mis:Msg->Val->Str->Str×Int)(d:Dfn)(of:Str)(x:Val)(q:Str):Str×Int :=
 Wj (ZcQ false false false true x q) (Wj (q,if dC ((I x.parts:Int)=1) then 0 else 6) (mis (Zl d of) (x.parts.getD 0 dE) (ZM q (Yo x.parts 0))))
def ZtJ(hI:Jd)(of)(hof:0<=Zq d of (I d.msgs))(hx:VOk x)(hq:q≠[]/\I q<=1000000){fu}(hu:WN ZHv fu [.bool false,.bool false,.bool false,.bool true] st (ZG (ZcQ false false false true x q) st))(mis)(hmis:I x.parts=1->Za ZHv 64 [.agg d.cells,.agg (Zl d of).cells,.agg (x.parts.getD 0 dE).cells,.str (ZM q (Yo x.parts 0))] st (ZG (mis (Zl d of) (x.parts.getD 0 dE) (ZM q (Yo x.parts 0))) st)):
  Za ZHv 143 [.agg (WS m d pth bm),.str of,.agg x.cells,.str q,fu] st (ZG (Ztq mis d of x q) st):=by
 refine Zb (cR 143 f143) λF hF=>?_;have t:=Jl d of hof;rw[show d.msgs.getD (ixS d of) dE=Zl d of from rfl]at t;unfold Ztq at hF;rw[ZHZ];refine rx @WS.eq_1 ?_;refine rg ?_;refine vV (hu) ?_ ?_;refine mfK λh0=>?_;rw[KE h0]at hF;refine gR0 ?_;refine rx @Zc6 ?_;have c9:=Ko (dC ((I x.parts:Int)=1)) q 6 (by decide) st;refine cV (c9) ?_ ?_;refine mfK λh1=>?_;rw[KE h1]at hF;have hl:I x.parts=1:=by simp at h1;omega
 have ab:=ZiQ hI x.parts 0 ω ω hx.name;have hsn:=Zge hx.few hx.name (k:=0) ω;have u:Yo x.parts 0≠[]:=by have h2:=(hx.part (ZD (show 0<I x.parts by omega))).node.1.1;unfold Yo;rw[if_pos (by have:=ZnJ x.parts 0;omega)];exact λe=>by rw[e]at h2;simp at h2
 have hj:=ZqG hq.1 u ω ω;have hr:=QX (l:=x.parts) (i:=0) ω;have hm:=hmis hl;generalize ZM q (Yo x.parts 0)=q2 at *;rw[ZHZ]at hm;generalize mis (Zl d of) (x.parts.getD 0 dE) q2=R at *;generalize x.parts.getD 0 dE=y at *;refine gR0 ?_;refine xA (nd2 @atV @hr) ?_;refine clD (t) ?_;refine clD (ab) ?_;refine clD (hj) ?_;refine cVD (hm) ?_ ?_;refine mfK λh2=>?_;refine kF ?_;refine gR0 ?_;exact hF.fin (.tup []) st rfl trivial (ZHx _) ZHw (ZG.ok h2);exact mfP λh2=>hF.pan st ZHw (ZG.bad h2 rfl);exact mfP λh1=>hF.pan st ZHw (ZG.bad h1 (Kk h1));exact mfP λh0=>hF.pan st ZHw (ZG.bad h0 (Kk h0))
end
def VOk.few2{v}(h:VOk v):I v.parts<=510:=by
 have h1:=Zvf v;have h2:=h.wt;have h3:I v.parts<=nodesL v.parts:=by
  induction v.parts with
  |nil=>simp
  |cons x r ih=>have:=ZaO x;simp only[ZHN,nodesL];omega
 have h4:=ZaO v;omega
def ZBW{ps k}(h:1<=(ps.getD k dE).name.length):Yo ps k≠[]:=by
 unfold Yo;split;exact λe=>by rw[e]at h;simp at h
 simp
abbrev Zep(mis:Msg->Val->Str->Str×Int)(d:Dfn)(of:Str)(x:Val)(q:Str)(i:Nat):Str×Int:=mis (Zl d of) (x.parts.getD i dE) (ZM q (Yo x.parts i))
section
variable {st:St} {b3 b4 b5 b6 b7 bm:Nat} {d:Dfn} {m:Msg} {pth:Str} {l:List (Str × Int)} {f:Fld} {x:Val} {q:Str}
def ZoI(hI:Jd)(hs:Zb7 st b3 b4 b5 b6 b7 bm d m pth l f x q)(hx:VOk x)(hq:q≠[]/\I q<=1000000)(hv:Z6 f.size=true)(hk:∀t∈f.size.terms,∃v,Zp t.field l=sO v/\0<=v/\v<34359738368)(hof:0<=Zq d f.of (I d.msgs))(mis)(hmis:∀i,i<I x.parts->Za ZHv 64 [.agg d.cells,.agg (Zl d f.of).cells,.agg (x.parts.getD i dE).cells,.str (ZM q (Yo x.parts i))] st (ZG (Zep mis d f.of x q i) st)):
  Za ZHv 139 [.ptr b7 0,.ptr b5 0,.ptr b3 0,.ptr b4 0,.ptr b6 0] st (ZG (Wj (ZcQ false false false true x q) (Wj (q,Kx (I x.parts) (Zas f.size l)) ((WQ (Zep mis d f.of x q) (ZHJ (I x.parts))).getD (q,0)))) st):=by
 refine Zb (cR 139 f139) λF hF=>?_;have hu:=Qj hs false false false true;have hz:=Zao m d pth f hv bm l st hs.m hk;have ag:=Jl d f.of hof;rw[show d.msgs.getD (ixS d f.of) dE=Zl d f.of from rfl]at ag;have ad:=hs.x;have ah:=hs.p;have ae:=hs.f;have ai:=hs.q;have af:=hx.few2;refine rx @hs.u ?_;refine vV (hu) ?_ ?_;refine mfK λh0=>?_;rw[KE h0]at hF;refine gR0 ?_;refine rx (nd2 @ad (nd2 @ah (nd2 @ae (nd2 @ai (nd2 @Zc6 (nd2 @WS.eq_1 @eQ0)))))) ?_;refine cVD (hz) ?_ ?_;rintro dd S ⟨hd,hS⟩;obtain rfl:=hS.symm;cases hd;refine kF ?_;refine gR0 ?_;refine cVD (Zkv (I x.parts) (Zas f.size l) q st) ?_ ?_;refine mfK λh1=>?_;rw[KE h1]at hF;refine kF ?_;refine gR0 ?_;refine rx (nd2 @ad @Zc6) ?_;refine Zd (fr (I x.parts) (λi Q=>i<=I x.parts->(∀j,j<i->(Zep mis d f.of x q j).2=0)->Q [(1,.d (.ptr b5 0)),(2,.d (.ptr b3 0)),(3,.d (.ptr b4 0)),(4,.d (.ptr b6 0)),(18,.d (ZY x.parts)),(19,.d (.i (I x.parts))),(20,.d (.i i))] [] st) (λn ac=>?_) λao=>?_);intro i hn hi ab;refine rg ?_;refine Zc (Zn rfl trivial (λu=>?_) (λu=>?_));simp at u;have am:x.parts.getD i dE∈x.parts:=ZD u;have ak:=ZiQ hI x.parts i u af hx.name;have hsl:=Zge hx.few hx.name u;have hj:=ZqG hq.1 (ZBW (hx.part am).node.1.1) ω ω;have hr:=QX (l:=x.parts) (i:=i) u;have hm:=hmis i u;have aj:=Zqv (g:=Zep mis d f.of x q) u ab;have al:=λh=>Yb (q:=λj=>(Zep mis d f.of x q j).2=0) ab h;generalize hR:Zep mis d f.of x q i=R at *;generalize ZM q (Yo x.parts i)=q2 at *;rw[ZHZ]at hm;generalize x.parts.getD i dE=y at *;refine xA (nd2 @atV @hr) ?_;refine rx (nd2 @ad (nd2 @ah (nd2 @ae (nd2 @ai (nd2 @WS.eq_1 @eQ0))))) ?_;refine clD (ag) ?_;refine clD (ak) ?_;refine clD (hj) ?_;refine cVD (hm) ?_ ?_;refine mfK λh2=>?_;refine kF ?_;refine gR0 ?_;refine gA ?_;refine Ze ?_;exact ac ((I x.parts)-(i+1)) ω (i+1) rfl ω (al h2);exact mfP λh2=>hF.pan st ZHw (ZG.bad h2 (by rw[aj h2];rfl));simp at u;obtain rfl:i=I x.parts:=ω;rw[Zcp ab]at hF;refine ZS rfl ?_;exact hF.fin (.tup []) st rfl trivial (ZHx _) ZHw (ZG.ok rfl);exact ao _ 0 rfl ω (by intro j hj;omega);exact mfP λh1=>hF.pan st ZHw (ZG.bad h1 (Kk h1));rintro dd S ⟨hd,_⟩;cases hd;exact mfP λh0=>hF.pan st ZHw (ZG.bad h0 (Kk h0))
def ZoJ(t:Zb7 st b3 b4 b5 b6 b7 bm d m pth l f x q){R}(i:Za ZHv 143 [.agg (WS m d pth bm),.str f.of,.agg x.cells,.str q,.fn (.func 131) [] [.ptr b5 0,.ptr b6 0]] st (ZG R st)):
  Za ZHv 142 [.ptr b3 0,.ptr b4 0,.ptr b5 0,.ptr b6 0,.ptr b7 0] st (ZG R st):=by
 refine Zb (cR 142 f142) λF hF=>?_;rw[ZHZ]at i;refine rx (nd2 @t.p (nd2 @t.f (nd2 @t.x (nd2 @t.q (nd2 @t.u (nd2 @WS.eq_1 @eQ0)))))) ?_;refine cV (i) ?_ ?_;refine mfK λu=>?_;refine gR0 ?_;exact hF.fin (.tup []) st rfl trivial (ZHx _) ZHw (ZG.ok u);exact mfP λu=>hF.pan st ZHw (ZG.bad u rfl)
def ZoK(u:Zb7 st b3 b4 b5 b6 b7 bm d m pth l f x q){tag}(ht:(Zp f.tag l).getD 0=tag){R}(hone:0<=J3 f tag->Za ZHv 143 [.agg (WS m d pth bm),.str (f.cases.getD (J3 f tag).toNat dE).of,.agg x.cells,.str q,.fn (.func 131) [] [.ptr b5 0,.ptr b6 0]] st (ZG R st)):
  Za ZHv 144 [.ptr b7 0,.ptr b4 0,.ptr b3 0,.ptr b6 0,.ptr b5 0] st (ZG (Wj (ZcQ false false false true x q) (Wj (q,if dC (0<=J3 f tag) then 0 else 9) R)) st):=by
 refine Zb (cR 144 f144) λF hF=>?_;have hu:=Qj u false false false true;have e1:=YD (vD:=YW) ZN f.tag l;have e3:=YX ZN f.tag;simp only[show Kz f.tag=D.str f.tag from rfl]at e1 e3;have hC:=ZpK f tag;have ab:=WC (λc:Y6=>dC (c.low<=tag)&&dC (tag<=c.high)) f.cases;rw[show Zj (λc:Y6=>dC (c.low<=tag)&&dC (tag<=c.high)) f.cases=J3 f tag from rfl]at ab;rw[ZHZ]at hone;generalize J3 f tag=ci at *;refine rx @u.u ?_;refine vV (hu) ?_ ?_;refine mfK λh0=>?_;rw[KE h0]at hF;refine gR0 ?_;refine rx (nd2 @u.f (nd2 @u.p (nd2 @u.m (nd2 @WS.eq_1 (nd2 @eQ0 (nd2 @e1 (nd2 @e3 (nd2 @ZeI @ht)))))))) ?_;refine cl (hC) ?_;refine rx @u.q ?_;have c9:=Ko (dC (0<=ci)) q 9 (by decide) st;refine cV (c9) ?_ ?_;refine mfK λh1=>?_;rw[KE h1]at hF;have i:0<=ci:=by by_cases h:0<=ci;exact h;rw[decide_eq_false h]at h1;simp at h1
 have ho:=hone i;have ac:max ci 0=ci:=ω;generalize t:f.cases.getD ci.toNat dE=cc at *;rw[ac];refine gR0 ?_;refine xA (nd2 @u.p (nd2 @u.f (nd2 @u.x (nd2 @u.q (nd2 @u.u (nd2 @WS.eq_1 (nd2 @eQ0 (nd2 @ZAX (nd2 @t @Y6.cells.eq_1))))))))) ?_;refine cV0 (ho) ?_ ?_;refine mfK λh2=>?_;refine gR0 ?_;exact hF.fin (.tup []) st rfl trivial (ZHx _) ZHw (ZG.ok h2);exact mfP λh2=>hF.pan st ZHw (ZG.bad h2 rfl);exact mfP λh1=>hF.pan st ZHw (ZG.bad h1 (Kk h1));exact mfP λh0=>hF.pan st ZHw (ZG.bad h0 (Kk h0))
def ZoL(hs:Zb7 st b3 b4 b5 b6 b7 bm d m pth l f x q)(hv:Z6 f.size=true)(hk:∀t∈f.size.terms,∃v,Zp t.field l=sO v/\0<=v/\v<34359738368)(hof:0<=Zq d f.of (I d.msgs)){R len}(u:Za ZHv 143 [.agg (WS m d pth bm),.str f.of,.agg x.cells,.str q,.fn (.func 131) [] [.ptr b5 0,.ptr b6 0]] st (ZG R st))(hlen:R.2=0->I x.parts=1/\Zf ZHv 147 [.agg d.cells,.agg (Zl d f.of).cells,.agg (x.parts.getD 0 dE).cells] (.i len)):
  Za ZHv 146 [.ptr b3 0,.ptr b4 0,.ptr b5 0,.ptr b6 0,.ptr b7 0] st (ZG (Wj R (q,Kx len (Zas f.size l))) st):=by
 refine Zb (cR 146 f146) λF hF=>?_;have hz:=Zao m d pth f hv bm l st hs.m hk;have ac:=Jl d f.of hof;rw[show d.msgs.getD (ixS d f.of) dE=Zl d f.of from rfl]at ac;rw[ZHZ]at u;have ad:=hs.p;have ab:=hs.f;have ae:=hs.q;refine rx (nd2 @ad (nd2 @ab (nd2 @hs.x (nd2 @ae (nd2 @hs.u (nd2 @WS.eq_1 @eQ0)))))) ?_;refine cV (u) ?_ ?_;refine mfK λh0=>?_;rw[KE h0]at hF;obtain⟨hl,hL⟩:=hlen h0;have hr:=QX (l:=x.parts) (i:=0) ω;rw[ZHZ]at hL;generalize x.parts.getD 0 dE=y at *;refine gR0 ?_;refine xA (nd2 @ad (nd2 @ab (nd2 @hs.x (nd2 @ae (nd2 @WS.eq_1 (nd2 @eQ0 (nd2 @atV @hr))))))) ?_;refine clD (ac) ?_;refine clD (hL) ?_;refine cVD (hz) ?_ ?_;rintro dd S ⟨hd,hS⟩;obtain rfl:=hS.symm;cases hd;refine kF ?_;refine gR0 ?_;refine cVD (Zkv len (Zas f.size l) q st) ?_ ?_;refine mfK λh1=>?_;refine kF ?_;refine gR0 ?_;exact hF.fin (.tup []) st rfl trivial (ZHx _) ZHw (ZG.ok h1);exact mfP λh1=>hF.pan st ZHw (ZG.bad h1 rfl);rintro dd S ⟨hd,_⟩;cases hd;exact mfP λh0=>hF.pan st ZHw (ZG.bad h0 (Kk h0))
end
def ZoR{v w}:∀{l},(∀t∈l,v t=w t)->QZ v l=QZ w l
 | [],_=>rfl
 |t::r,h=>by simp only[QZ];rw[h t ψ,ZoR λs i=>h s (by simp[i])]
def ZDb(k)(x):ZoW (Ztk k) (Zpl k) (dC (k=6)) (dC (7<=k)) x=!Wo k x:=by
 have e:∀n:Nat,dC ((n:Int)=0)=!dC (0<(n:Int)):=λn=>by by_cases h:n=0<;>simp[h];omega
 unfold ZoW Wo;rw[e,e,e];generalize dC (x.int=0)=a1;generalize dC (0<(I x.bytes:Int))=a2;generalize dC (0<(I x.hdrs:Int))=i;generalize dC (0<(I x.parts:Int))=t;generalize Ztk k=u;generalize Zpl k=c2;generalize dC (k=6)=c3;generalize dC (7<=k)=c4;revert a1 a2 i t u c2 c3 c4;decide
def ZBT{k x q n b h p}{R}(i:Ztk k=n)(t:Zpl k=b)(u:dC (k=6)=h)(h4:dC (7<=k)=p):Wj (ZcQ n b h p x q) R=if Wo k x then (q,6) else R:=by
 subst i;subst t;subst u;subst h4;unfold Wj ZcQ;rw[ZDb];cases Wo k x<;>rfl
def Zyx(a b c):Wj (Wj a b) c=Wj a (Wj b c):=by
 unfold Wj;by_cases h:a.2=0<;>simp[h]
def ZBS(a b c):Wj a (Wj b (Wj a c))=Wj a (Wj b c):=by
 unfold Wj;by_cases h:a.2=0<;>simp[h]
def Zok(mis)(d)(of)(x)(q):Ztq mis d of x q=Wj (ZcQ false false false true x q) (Q7 mis d of x q):=by
 unfold Ztq Q7
 congr 1
 by_cases h:I x.parts=1;rw[if_pos h,KE (by simp[h])];rw[if_neg h,Kk (by simp;omega),if_neg (by simp;omega)]
def ZrL(b3 b4 b5 b6 b7:Nat):List (Int×D):=[
 (1,.fn (.func 132) [] [.ptr b7 0,.ptr b5 0,.ptr b4 0,.ptr b6 0]),
 (3,.fn (.func 132) [] [.ptr b7 0,.ptr b5 0,.ptr b4 0,.ptr b6 0]),
 (4,.fn (.func 133) [] [.ptr b7 0,.ptr b5 0,.ptr b3 0,.ptr b4 0,.ptr b6 0]),
 (5,.fn (.func 136) [] [.ptr b7 0,.ptr b5 0,.ptr b4 0,.ptr b6 0]),
 (6,.fn (.func 138) [] [.ptr b7 0,.ptr b5 0,.ptr b6 0,.ptr b4 0]),
 (7,.fn (.func 139) [] [.ptr b7 0,.ptr b5 0,.ptr b3 0,.ptr b4 0,.ptr b6 0]),
 (8,.fn (.func 142) [] [.ptr b3 0,.ptr b4 0,.ptr b5 0,.ptr b6 0,.ptr b7 0]),
 (9,.fn (.func 144) [] [.ptr b7 0,.ptr b4 0,.ptr b3 0,.ptr b6 0,.ptr b5 0]),
 (12,.fn (.func 146) [] [.ptr b3 0,.ptr b4 0,.ptr b5 0,.ptr b6 0,.ptr b7 0])]
structure ZhJ(f:Fld)(l nv:List (Str×Int)):Prop where
 size:f.kind=4\/f.kind=7\/f.kind=12->Z6 f.size=true/\∀t∈f.size.terms,∃v,Zp t.field l=some v/\0<=v/\v<34359738368/\KJ t.field nv=v
 tag:f.kind=9->(Zp f.tag l).getD 0=KJ f.tag nv
 low:f.kind=5->0<=f.low/\f.low<=255
def ZhJ.eval{f l nv}(h:ZhJ f l nv)(hk:f.kind=4\/f.kind=7\/f.kind=12):Zas f.size l=Zev f.size nv:=by
 unfold Zas Zev
 congr 1
 refine ZoR λt ht=>?_;obtain⟨v,i,_,_,u⟩:=(h.size hk).2 t ht;rw[i,u];rfl
def ZhJ.sz{f l nv}(h:ZhJ f l nv)(i:f.kind=4\/f.kind=7\/f.kind=12):Z6 f.size=true/\∀t∈f.size.terms,∃v,Zp t.field l=sO v/\0<=v/\v<34359738368 :=
 ⟨(h.size i).1,λt ht=>by obtain⟨v,u,h2,h3,_⟩:=(h.size i).2 t ht;exact⟨v,u,h2,h3⟩⟩
section
variable {st:St} {b3 b4 b5 b6 b7 bm:Nat} {d:Dfn} {m:Msg} {pth:Str} {l nv:List (Str × Int)} {f:Fld} {x:Val} {q:Str}
def ZBu(hI:Jd)(hs:Zb7 st b3 b4 b5 b6 b7 bm d m pth l f x q)(hfr:ZdV d f)(hv:hasV f=true)(hx:VOk x)(hq:q≠[]/\I q<=1000000)(hn:ZhJ f l nv)(mis len)(hmis:∀s,0<=Zq d s (I d.msgs)->∀i,i<I x.parts->Za ZHv 64 [.agg d.cells,.agg (Zl d s).cells,.agg (x.parts.getD i dE).cells,.str (ZM q (Yo x.parts i))] st (ZG (Zep mis d s x q i) st))(hlen:f.kind=12->(Q7 mis d f.of x q).2=0->I x.parts=1/\Zf ZHv 147 [.agg d.cells,.agg (Zl d f.of).cells,.agg (x.parts.getD 0 dE).cells] (.i (len (Zl d f.of) (x.parts.getD 0 dE)))):
  ∃fn,Zp f.kind (ZrL b3 b4 b5 b6 b7)=sO fn/\WN ZHv fn [] st (ZG (if Wo f.kind x then (q,6) else K8 mis len d f x q nv) st):=by
 have hk:f.kind=1\/f.kind=3\/f.kind=4\/f.kind=5\/f.kind=6\/f.kind=7\/f.kind=8\/f.kind=9\/f.kind=12:=by have:=hfr.kind;unfold hasV at hv;simp only[ZHG,Bool.not_eq_true',decide_eq_false_iff_not]at hv;omega
 have u:∀of,0<=Zq d of (I d.msgs)->Za ZHv 143 [.agg (WS m d pth bm),.str of,.agg x.cells,.str q,.fn (.func 131) [] [.ptr b5 0,.ptr b6 0]] st (ZG (Ztq mis d of x q) st):=λof ho =>
  ZtJ hI of ho hx hq (Qj hs false false false true) mis λh1=>hmis of ho 0 ω
 have hP:=K8.eq_1 mis len d f x q nv;generalize K8 mis len d f x q nv=R at *;have t:∀{Q:Str×Int} {n b h p:Bool},Ztk f.kind=n->Zpl f.kind=b->dC (f.kind=6)=h->dC (7<=f.kind)=p->R=Q->(if Wo f.kind x then (q,6) else R)=Wj (ZcQ n b h p x q) Q:=λh1 h2 h3 h4 h5=>by rw[ZBT h1 h2 h3 h4,h5]
 have num:f.kind=1\/f.kind=3->(if Wo f.kind x then (q,6) else R)=Wj (ZcQ true false false false x q) (q,if dC (f.low<=x.int)&&dC (x.int<=f.high) then 0 else 3):=λh=>by refine t (by rcases h with h|h<;>rw[h]<;>rfl) (by rcases h with h|h<;>rw[h]<;>rfl) (by rcases h with h|h<;>rw[h]<;>rfl) (by rcases h with h|h<;>rw[h]<;>rfl) ?_;rw[hP,if_pos h];by_cases h1:x.int<f.low\/f.high<x.int;rw[if_pos h1,if_neg (by simp;omega)];rw[if_neg h1,if_pos (by simp;omega)]
 rcases hk with h|h|h|h|h|h|h|h|h;refine⟨_,by rw[h];rfl,?_⟩;rw[num ω];exact Za.V (first:=[]) (args:=[]) (caps:=[_,_,_,_]) (Zgc hs);refine⟨_,by rw[h];rfl,?_⟩;rw[num ω];exact Za.V (first:=[]) (args:=[]) (caps:=[_,_,_,_]) (Zgc hs);refine⟨_,by rw[h];rfl,?_⟩;obtain⟨h1,h2⟩:=hn.sz ω;rw[t (Q:=(q,Kx (I x.bytes) (Zas f.size l))) (by rw[h]<;>rfl) (by rw[h]<;>rfl) (by rw[h]<;>rfl) (by rw[h]<;>rfl) (by rw[hP,if_neg ω,if_pos h,hn.eval ω])];exact Za.V (first:=[]) (args:=[]) (caps:=[_,_,_,_,_]) (ZoF hs h1 h2);refine⟨_,by rw[h];rfl,?_⟩;rw[t (by rw[h]<;>rfl) (by rw[h]<;>rfl) (by rw[h]<;>rfl) (by rw[h]<;>rfl) (Q:=Wj (q,if dC ((I x.bytes:Int)<=f.high) then 0 else 5) (q,if !x.bytes.any (λc=>dC (f.low=c.toNat)) then 0 else 6)) (by
  rw[hP,if_neg ω,if_neg ω,if_pos h];rw[show(λc:UInt8=>dC ((c.toNat:Int)=f.low))=λc=>dC (f.low=c.toNat) from funext λc=>by rw[decide_eq_decide];exact eq_comm];by_cases h1:f.high<I x.bytes;rw[if_pos h1,Kk (by simp;omega),if_neg (by simp;omega)];rw[if_neg h1,KE (by simp;omega)];cases x.bytes.any λc=>dC (f.low=c.toNat)<;>rfl)]
 exact Za.V (first:=[]) (args:=[]) (caps:=[_,_,_,_]) (ZoG hs (hn.low h))
 .refine⟨_,by rw[h];rfl,?_⟩;rw[t (by rw[h]<;>rfl) (by rw[h]<;>rfl) (by rw[h]<;>rfl) (by rw[h]<;>rfl) (Q:=Wj (q,if KC x.hdrs then 0 else 6) (q,if dC (((Qp x.hdrs).length:Int)<=f.high) then 0 else 5)) (by
   rw[hP,if_neg ω,if_neg ω,if_neg ω,if_pos h];cases KC x.hdrs with
   |false=>rfl
   |true =>
    rw[if_neg ψ,KE ψ];by_cases h1:f.high<(Qp x.hdrs).length;rw[if_pos h1,if_neg (by simp;omega)];rw[if_neg h1,if_pos (by simp;omega)])]
  exact Za.V (first:=[]) (args:=[]) (caps:=[_,_,_,_]) (ZoH hs hx.node.2.2.2)
 refine⟨_,by rw[h];rfl,?_⟩;obtain⟨h1,h2⟩:=hn.sz ω;have ho:=hfr.ref ω;rw[t (by rw[h]<;>rfl) (by rw[h]<;>rfl) (by rw[h]<;>rfl) (by rw[h]<;>rfl) (Q:=Wj (q,Kx (I x.parts) (Zas f.size l)) ((WQ (Zep mis d f.of x q) (ZHJ (I x.parts))).getD (q,0))) (by
  rw[hP,if_neg ω,if_neg ω,if_neg ω,if_neg ω,if_pos h,hn.eval ω];rfl)]
 exact Za.V (first:=[]) (args:=[]) (caps:=[_,_,_,_,_]) (ZoI hI hs hx hq h1 h2 ho mis λi hi=>hmis _ ho i hi);refine⟨_,by rw[h];rfl,?_⟩;rw[t (n:=false) (b:=false) (h:=false) (p:=true) (by rw[h]<;>rfl) (by rw[h]<;>rfl) (by rw[h]<;>rfl) (by rw[h]<;>rfl) (Q:=Q7 mis d f.of x q) (by
  rw[hP,if_neg ω,if_neg ω,if_neg ω,if_neg ω,if_neg ω,if_pos h]),<-Zok]
 exact Za.V (first:=[]) (args:=[]) (caps:=[_,_,_,_,_]) (ZoJ hs (u _ (hfr.ref ω)));refine⟨_,by rw[h];rfl,?_⟩;have ab:=WC (λc:Y6=>dC (c.low<=KJ f.tag nv)&&dC (KJ f.tag nv<=c.high)) f.cases;rw[show Zj (λc:Y6=>dC (c.low<=KJ f.tag nv)&&dC (KJ f.tag nv<=c.high)) f.cases=J3 f (KJ f.tag nv) from rfl]at ab;rw[t (n:=false) (b:=false) (h:=false) (p:=true) (by rw[h]<;>rfl) (by rw[h]<;>rfl) (by rw[h]<;>rfl) (by rw[h]<;>rfl) (Q:=Wj (q,if dC (0<=J3 f (KJ f.tag nv)) then 0 else 9) (Q7 mis d (f.cases.getD (J3 f (KJ f.tag nv)).toNat dE).of x q)) (by
  rw[hP,if_neg ω,if_neg ω,if_neg ω,if_neg ω,if_neg ω,if_neg ω,if_pos h];by_cases h1:J3 f (KJ f.tag nv)<0;rw[if_pos h1,Kk (by simp;omega),if_neg (by simp;omega)];rw[if_neg h1,KE (by simp;omega)]),<-ZBS,<-Zok]
 exact Za.V (first:=[]) (args:=[]) (caps:=[_,_,_,_,_]) (ZoK hs (hn.tag h) λh0=>u _ (hfr.cas h _ (ZD ω)));refine⟨_,by rw[h];rfl,?_⟩;obtain⟨h1,h2⟩:=hn.sz ω;have ho:=hfr.ref ω;rw[t (n:=false) (b:=false) (h:=false) (p:=true) (by rw[h]<;>rfl) (by rw[h]<;>rfl) (by rw[h]<;>rfl) (by rw[h]<;>rfl) (Q:=Wj (Q7 mis d f.of x q) (q,Kx (len (Zl d f.of) (x.parts.getD 0 dE)) (Zas f.size l))) (by
  rw[hP,if_neg ω,if_neg ω,if_neg ω,if_neg ω,if_neg ω,if_neg ω,if_neg ω,if_pos h,hn.eval ω];rfl),<-Zyx,<-Zok]
 refine Za.V (first:=[]) (args:=[]) (caps:=[_,_,_,_,_]) (ZoL hs h1 h2 ho (u _ ho) λh0=>hlen h ?_);rw[Zok]at h0;unfold Wj at h0;split at h0;exact h0;rename_i ac;exact absurd h0 ac
end
def ex3{st:St}{a b c p q r}(ha:st a=nO)(i:(st.upd a p) b=nO)(t:((st.upd a p).upd b q) c=nO):
  (((st.upd a p).upd b q).upd c r) a=sO p/\(((st.upd a p).upd b q).upd c r) b=sO q/\(((st.upd a p).upd b q).upd c r) c=sO r/\st.sub (((st.upd a p).upd b q).upd c r):=by
 have k1:=Zo i;have u:=Zo t;have k3:=Zo u.2;refine⟨by rw[ZHD _ _ (Ne.symm k3.1),ZHD _ _ (Ne.symm k1.1),ZHB],by rw[ZHD _ _ (Ne.symm u.1),ZHB],ZHB _ _ _,ZIe (ZIe (ZHV _ ha) (ZHV _ i)) (ZHV _ t)⟩
def Zb7.mono{st A b3 b4 b5 b6 b7 bm d m pth l f x q}(h:Zb7 st b3 b4 b5 b6 b7 bm d m pth l f x q)(i:st.sub A):Zb7 A b3 b4 b5 b6 b7 bm d m pth l f x q :=
 ⟨i _ _ h.p,i _ _ h.f,i _ _ h.x,i _ _ h.q,i _ _ h.u,i _ _ h.m⟩
section
variable {st:St} {bm:Nat} {d:Dfn} {m:Msg} {pth:Str} {l nv:List (Str × Int)} {f:Fld} {x:Val}
def Zru(hI:Jd)(hm:st bm=sO (.map (Kc l)))(hnm:f.name≠[]/\I f.name<=1000)(hp:I pth<=900000)(hfr:ZdV d f)(hv:hasV f=true)(hx:VOk x)(hn:ZhJ f l nv)(mis len)(hmis:∀S s,0<=Zq d s (I d.msgs)->∀i,i<I x.parts->Za ZHv 64 [.agg d.cells,.agg (Zl d s).cells,.agg (x.parts.getD i dE).cells,.str (ZM (ZM pth f.name) (Yo x.parts i))] S (ZG (Zep mis d s x (ZM pth f.name) i) S))(hlen:f.kind=12->(Q7 mis d f.of x (ZM pth f.name)).2=0->I x.parts=1/\Zf ZHv 147 [.agg d.cells,.agg (Zl d f.of).cells,.agg (x.parts.getD 0 dE).cells] (.i (len (Zl d f.of) (x.parts.getD 0 dE)))):
  Za ZHv 97 [.agg (WS m d pth bm),.agg f.cells,.agg x.cells] st (ZG (if Wo f.kind x then (ZM pth f.name,6) else K8 mis len d f x (ZM pth f.name) nv) st):=by
 refine Zb (cR 97 f97) λF hF=>?_;have hjl:=ZbY pth f.name;have ai:ZM pth f.name≠[]:=by unfold ZM;split;exact hnm.1;simp
 generalize hR:(if Wo f.kind x then (ZM pth f.name,6) else K8 mis len d f x (ZM pth f.name) nv)=R at *;rw[ZHZ];refine rx (nd2 @WS.eq_1 @eQ0) ?_;refine Zc ?_;refine xP 3 λb3 h3=>?_;refine xP 4 λb4 h4=>?_;refine xP 5 λb5 h5=>?_;obtain⟨g3,g4,g5,ac⟩:=ex3 (r:=.cells [.str x.name,.i x.int,Zh x.bytes,Yc x.hdrs,ZY x.parts]) h3 h4 h5;generalize ((st.upd b3 _).upd b4 _).upd b5 _=S at *;have gm:=ac _ _ hm;refine rh ?_;refine ZeC ?_;simp only[Eqs,reduceCtorEq,ZHC,reduceIte,ZHz,ZHE,ZHA,ZfT,ZiE,g3,g4];refine Zo7 rfl rfl rfl rfl φ (by rfl) (by decide) λbj ag=>ZeC ?_;simp only[Eqs,reduceCtorEq,ZHC,reduceIte,ZHz,ZHE,ZHA,ZfT,ZiE];refine Zg0 rfl rfl rfl rfl rfl φ φ (by exact(Zrt (ZHB _ _ _) hnm.1 ω ω)) ?_ ?_;rintro dd T ⟨hr,o,rfl⟩;cases hr;rw[ZHO];have hsj:=ZHV o ag;refine gR0 ?_;refine kl (S) [(3,.d (.ptr b3 0)),(4,.d (.ptr b4 0)),(5,.d (.ptr b5 0)),(6,.loc 6 0)] [(6,[.str (ZM pth f.name)])] Qe ZaB ?_;refine Zc ?_;refine xP 6 λb6 h6=>?_;refine rg ?_;refine Zc ?_;refine xP 7 λb7 h7=>?_;have ab:=ZHV (.cells [.str (ZM pth f.name)]) h6;have t:=ZHV (.cells [.fn (.func 131) [] [.ptr b5 0,.ptr b6 0]]) h7;have k7:=Zo h7;have hs:Zb7 ((S.upd b6 (.cells [.str (ZM pth f.name)])).upd b7 (.cells [.fn (.func 131) [] [.ptr b5 0,.ptr b6 0]])) b3 b4 b5 b6 b7 bm d m pth l f x (ZM pth f.name) :=
  ⟨t _ _ (ab _ _ g3),t _ _ (ab _ _ g4),t _ _ (ab _ _ g5),t _ _ (ZHB _ _ _),ZHB _ _ _,t _ _ (ab _ _ gm)⟩
 have af:=ZIe ac (ZIe ab t);refine rg ?_;generalize ((S.upd b6 _).upd b7 _)=T at *;refine rh ?_;refine Zm ?_;simp only[Eqs,reduceCtorEq,ZHC,reduceIte,ZHz,ZHE,ZHA,JP,ZId,decide_false,ZHB,ZHO,Yp,Yq];intro b hb;have ad:=ZHV (.map (WJ YW id (ZrL b3 b4 b5 b6 b7))) hb;have ae:=hs.mono ad;obtain⟨fn,ah,u⟩:=ZBu hI ae hfr hv hx ⟨ai,ω⟩ hn mis len (hmis _) hlen;rw[hR]at u;have e1:=YD (vD:=id) Zc5 f.kind (ZrL b3 b4 b5 b6 b7);have e3:=YX Zc5 f.kind;simp only[show YW f.kind=D.i f.kind from rfl]at e1 e3;rw[ah]at e1;refine kl ((T.upd b (.map (WJ YW id (ZrL b3 b4 b5 b6 b7))))) [(4,.d (.ptr b4 0)),(9,.d (.map b))] [] Qe ZaB ?_;refine rx (nd2 @ae.f (nd2 @eQ0 (nd2 @ZHB (nd2 @e1 (nd2 @e3 (nd2 @ZHB (nd2 @ZHO (nd2 @Yp @Yq)))))))) ?_;rw[show id fn=fn from rfl];refine vV (u) ?_ ?_;refine mfK λh0=>?_;refine gR0 ?_;exact hF.fin (.tup []) st rfl trivial (ZHx _) (ZIe af ad) (ZG.ok h0);exact mfP λh0=>hF.pan st (ZIe af ad) (ZG.bad h0 rfl);rintro dd T ⟨hr,_⟩;cases hr
end
def Zwm(d n m v p):Z7 d (n+1) m v p =
  Wj (p,if (((dC (v.name=m.name)&&dC (v.int=0))&&dC ((I v.bytes:Int)=0))&&dC ((I v.hdrs:Int)=0))&&QT (vfs m.fields) v.parts then 0 else 6) ((WQ (Zc9 d n m v p) (ZHJ (I v.parts))).getD ([],0)):=by
 rw[Zfi,show Qm m v.parts=QT (vfs m.fields) v.parts from rfl];have e:∀n:Nat,dC ((n:Int)=0)=dC (n=0):=λn=>by simp
 rw[e,e];unfold Wj;generalize dC (v.name=m.name)=a1;generalize dC (v.int=0)=a2;generalize dC (I v.bytes=0)=i;generalize dC (I v.hdrs=0)=t;generalize QT (vfs m.fields) v.parts=u;cases a1<;>cases a2<;>cases i<;>cases t<;>cases u<;>rfl
def ZpQ(d fu){m}(hm0:0<I m.fields)(hm:I m.fields<=1000)(v p st)(hpart:Qm m v.parts=true->∀S b,S b=sO (.map (Kc (Zdt m v.parts)))->∀k,k<I v.parts->(∀j,j<k->(Zc9 d fu m v p j).2=0) ->
   Za ZHv 97 [.agg (WS m d p b),.agg ((vfs m.fields).getD k dE).cells,.agg (v.parts.getD k dE).cells] S (ZG (Zc9 d fu m v p k) S)):
  Za ZHv 64 [.agg d.cells,.agg m.cells,.agg v.cells,.str p] st (ZG (Z7 d (fu+1) m v p) st):=by
 refine Zb (cR 64 f64) λF hF=>?_;have al:=Zgd m hm0 ω;have ag:=ZpS (vfs m.fields) v.parts;have ah:=λhr=>Zkz m hm0 hm v.parts hr st;have hvl:(vfs m.fields).length<=I m.fields:=List.length_filter_le ..;rw[Zwm,show Qm m v.parts=QT (vfs m.fields) v.parts from rfl]at *;rw[ZHZ];refine rx (nd2 @eQ2 @eQ3) ?_;refine rg ?_;refine clD (al) ?_;refine rx (nd2 @QA @ZjN) ?_;refine cG (ag) ?_;generalize hc:((((dC (v.name=m.name)&&dC (v.int=0))&&dC ((I v.bytes:Int)=0))&&dC ((I v.hdrs:Int)=0))&&QT (vfs m.fields) v.parts)=ac at *;have c9:=Ko ac p 6 (by decide) st;refine cV (c9) ?_ ?_
 .refine mfK λh0=>?_;rw[KE h0]at hF;have hr:QT (vfs m.fields) v.parts=true:=by
   cases ac with
   |false=>simp at h0
   |true=>simp only[ZHG]at hc;exact hc.2
  have ai:=hpart hr;have ab:(vfs m.fields).length=I v.parts:=by unfold QT at hr;rw[decide_eq_true_eq]at hr;simpa using congrArg List.length hr
  refine gR0 ?_;refine rg ?_;refine cV (ah ab) ?_ ?_;rintro dd S ⟨b,hb,hd,rfl⟩;cases hd;refine gR0 ?_;refine rx @Zfb ?_;have ad:=ZHV (.map (Kc (Zdt m v.parts))) hb;have af:=ZHB st b (.map (Kc (Zdt m v.parts)));generalize st.upd b (.map (Kc (Zdt m v.parts)))=S at *;refine Zd (fr ((vfs m.fields).length) (λi Q=>i<=(vfs m.fields).length->(∀j,j<i->(Zc9 d fu m v p j).2=0)->Q [(6,.loc 6 0),(8,.loc 8 0),(54,.d (Zr (vfs m.fields))),(55,.d (.i (vfs m.fields).length)),(56,.d (.i i))] [(6,[.str v.name,.i v.int,Zh v.bytes,Yc v.hdrs,ZY v.parts]),(8,WS m d p b)] S) (λn u=>?_) λam=>?_);intro i hn hi t;refine rg ?_;refine Zc (Zn rfl trivial (λg1=>?_) (λg1=>?_));simp at g1;have hp:=ai S b af i ω t;have ae:=Zqv (g:=Zc9 d fu m v p) (show i<I v.parts by omega) t;have ak:=λh=>Yb (q:=λj=>(Zc9 d fu m v p j).2=0) t h;have aj:=QX (l:=v.parts) (i:=i) ω;generalize Zc9 d fu m v p i=R at *;rw[ZHZ]at hp;generalize v.parts.getD i dE=y at *;generalize hf:(vfs m.fields).getD i dE=f at *;refine xA (nd2 @atF (nd2 @hf (nd2 @ZaM @Zd9))) ?_;refine xA (nd2 @WS.eq_1 (nd2 @ZaM (nd2 @Zd9 (nd2 @atV @aj)))) ?_;refine cV0 (hp) ?_ ?_;refine mfK λh2=>?_;refine gR0 ?_;refine gA ?_;refine Ze ?_;exact u (((vfs m.fields).length)-(i+1)) ω (i+1) rfl ω (ak h2);exact mfP λh2=>hF.pan st ad (ZG.bad h2 (by rw[ae h2];rfl));simp at g1;obtain rfl:i=(vfs m.fields).length:=ω;rw[ab]at t;rw[Zcp t]at hF;refine ZS rfl ?_;exact hF.fin (.tup []) st rfl trivial (ZHx _) ad (ZG.ok rfl);exact am _ 0 rfl ω (by intro j hj;omega);rintro dd S ⟨b,_,hd,_⟩;cases hd
 exact mfP λh0=>hF.pan st ZHw (ZG.bad h0 (Kk h0))
def QM.pos{d}(h:QM d){j}(u:j<I d.msgs):0<(d.msgs.getD j dE).fields.length:=by
 have i:=h.flaw j u;unfold W1 at i;split at i;· simp at i
 split at i;· simp at i
 split at i;· simp at i
 rename_i t;simp only[ZHT,decide_eq_true_eq,not_or,Nat.not_lt]at t;omega
def Za9.low{d j i m f}(h:Za9 d j i m f)(u:f.kind=5):0<=f.low/\f.low<=255:=by
 have t:=h.ks;unfold QS at t;simp only[u,ZId,if_true,if_false]at t;split at t;omega;rename_i hp;simp only[ZHT,decide_eq_true_eq]at hp;omega
def Zz8{d}(i:QM d){n s y q}(t:VOk y)(h:(Z7 d n (Zl d s) y q).2=0):
  Zf ZHv 147 [.agg d.cells,.agg (Zl d s).cells,.agg y.cells] (.i (lenS d n (Zl d s) y)) :=
 Zgb d i.dok n _ y (i.dok.of s) t.ok t.wt (Zc1 i.dref n _ y q (i.dref.of s) t.ok h)
def Zky(hI:Jd){d}(hd:QM d):∀(n im v p st),im<I d.msgs->VOk v->ZZ v<=n->I p+10200*n<=900000 ->
  Za ZHv 64 [.agg d.cells,.agg (d.msgs.getD im dE).cells,.agg v.cells,.str p] st (ZG (Z7 d n (d.msgs.getD im dE) v p) st)
 |0,_,v,_,_,_,_,hh,_=>by have:=KQ v;omega
 |n+1,im,v,p,st,him,hv,hh,hp=>by
  have u:=hd.msg him;have hm40:=u.many;refine ZpQ d n (hd.pos him) ω v p st λhr S b hb k hk ai=>?_;have hlen:(vfs (d.msgs.getD im dE).fields).length=I v.parts:=by unfold Qm at hr;rw[decide_eq_true_eq]at hr;simpa using congrArg List.length hr
  obtain⟨i,hi,aw,aq,ah⟩:=Za8 (l:=(d.msgs.getD im dE).fields) (k:=k) ω;have ab:=u.at_ hi;have ao:=ab.fref (hd.fld him hi);have al:v.parts.getD k dE∈v.parts:=ZD hk;have ac:=hv.part al;have aj:=Zl3 ab.nm;obtain⟨ak,au⟩:=Zox u.nmU hr hk;rw[au,ah]at ak;have hxh:ZZ (v.parts.getD k dE)<=n:=by have h1:=ZgD al;have h2:=KQ v;omega
  have hG:=Zc9.eq_1 d n (d.msgs.getD im dE) v p k;rw[ak,ah]at hG;have af:=λa ha hn=>ZCM u (n:=n) (v:=v) (p:=p) hi aq ai (a:=a) ha hn;have ag:∀a,a<i->YE ((d.msgs.getD im dE).fields.getD a dE)=true->KJ ((d.msgs.getD im dE).fields.getD a dE).name (ZrO (d.msgs.getD im dE) v.parts)=ZcB (d.msgs.getD im dE).fields v.parts a:=λa ha hn =>
   ZpZ ω u.nmU hn λav=>by have:=Zvy ha hi av;omega
  have ae:∀a,a<i->YE ((d.msgs.getD im dE).fields.getD a dE)=true->Zp ((d.msgs.getD im dE).fields.getD a dE).name (Zdt (d.msgs.getD im dE) v.parts)=sO (ZcB (d.msgs.getD im dE).fields v.parts a):=λa ha hn =>
   ZBn u.nmU v.parts ω hn
  have ar:ZhJ ((d.msgs.getD im dE).fields.getD i dE) (Zdt (d.msgs.getD im dE) v.parts) (ZrO (d.msgs.getD im dE) v.parts):=by refine⟨λhz=>?_,λh9=>?_,ab.low⟩;obtain⟨h1,h2⟩:=ab.size hi hz;refine⟨h1,λt ht=>?_⟩;obtain⟨a,ha,ad,hn⟩:=h2 t ht;exact⟨_,by rw[<-ad];exact ae a ha hn,(af a ha hn).1,(af a ha hn).2,by rw[<-ad];exact ag a ha hn⟩;obtain⟨a,ha,ad,hn⟩:=ab.tag hi h9;rw[<-ad,ae a ha hn,ag a ha hn];rfl
  have hq:=ZbY p ((d.msgs.getD im dE).fields.getD i dE).name;rw[ah,hG];generalize v.parts.getD k dE=x at *;refine Zru hI hb ⟨λe=>by rw[e]at aj;simp at aj,ω⟩ ω ao aw ac ar (Z7 d n) (lenS d n) (λT s hs j hj=>?_) (λh12 h0=>?_);have ap:=QR hs;have am:x.parts.getD j dE∈x.parts:=ZD hj;have h1:=ZbY (ZM p ((d.msgs.getD im dE).fields.getD i dE).name) (Yo x.parts j);have h2:=Zge ac.few ac.name hj;have h3:=ZgD am;have h4:=KQ x;exact Zky hI hd n (ixS d s) _ _ T ap.2 (ac.part am) ω ω;obtain⟨h1,h2⟩:=Zld h0;exact⟨h1,Zz8 hd (ac.part (ZD ω)) h2⟩
end Go.DL
