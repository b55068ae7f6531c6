/- Lemmas: Z14, Z15, Z16, Z17, Z07, Z08, Z18, Z01, Z02, Z03, Z04, Z19, Z20, Z21, Z22, Z23, Z24, Z25, Z26, Z27, Z28, Z29, Z30, Z31, Z32, Z65, Z66, Z41, Z43, Z67, Z68, EvA, EvB, EvC, EvD, EvE. -/
import Derived.Test.YtacebeofikhepaaGreatDoorT04
set_option maxHeartbeats 16000000
set_option maxRecDepth 100000
set_option linter.all false
open List renaming length->I
open Option renaming some -> sO, none -> nO
open Inhabited renaming default -> dE
open Decidable renaming decide -> dC
open Go.Proofs.Tryz
open Array renaming getD_eq_getD_getElem? -> ZJm
open Bool renaming and_eq_true -> ZIJ, false_and -> ZJb, false_eq_true -> ZI7, or_eq_true -> ZIW, true_and -> ZIY
open Go.DL.D.Le renaming refl -> ZIB
open Go.DL.St renaming single -> ZI0, sub_refl -> ZIz, sub_upd -> ZIZ, upd_ne -> ZIG, upd_same -> ZIE, upd_upd -> ZIR
open Go.DL.Val renaming cells_eq -> ZI2
open Go.Proofs.Tryz renaming prog -> ZIy
open Int renaming reduceEq -> ZJg, reduceToNat -> ZIF
open List renaming append_assoc -> ZI1, append_nil -> ZI5, drop_eq_nil_of_le -> ZJk, flatMap_cons -> ZJl, getD -> ZIN, getElem?_append_left -> ZI6, getElem?_append_right -> ZJi, getElem?_eq_getElem -> ZI4, getElem?_eq_none -> ZJj, getElem?_take -> ZJf, getElem_of_mem -> ZIV, length_append -> ZII, length_cons -> ZIP, length_drop -> ZI8, length_map -> ZIU, length_take -> ZIS, map_cons -> ZIQ, mem_cons -> ZJd, range -> ZIM, take_length -> ZJa
open Nat renaming add_mul -> ZIX, le_refl -> ZIO, mul_le_mul_right -> ZIT, reduceAdd -> ZIH, reduceEqDiff -> ZIC, reduceLeDiff -> ZID
open Option renaming getD_some -> ZJe, map_eq_some_iff -> ZIL, map_some -> ZI3
open Option.some renaming injEq -> ZIx
namespace Go.DL
open Go Go.Proofs
variable {kp:Option (List Nat)}{L:Loc}{H:Env}{s:St}{w:World}{os:List DOp}{ds:List D}{B:List (Nat × Rd)}{dst:Option Nat}{tmps:Array Value}{g:G}{Φ:Res->St->Prop}{Z:Nat->Nat}{xs:List Opd}{side:Prop}{row:Nat->List D}
def Ya.mslO{t:St}{Ln:List Nat}{b off n cap sz:Nat}(hb:b∈Ln)(ht:t b=sO (.cells ds))(hlen:off+n*sz<=I ds)(hrow:∀i,i<n->LdC t Ln ((ds.drop (off+i*sz)).take sz) (row i)):Ya t Ln (.msl b off n cap sz) (.sl .none n sz row):=by
 intro g w v hf hr;obtain⟨vs,T,hh,hsz,hc,one,hp⟩:=hf b hb ds ht;cases hr with
 |mslx a _ _ _=>exact .sl0 _ _ _ _ ψ
 |msl _ _ _ _ _ hcap hbig =>
 have ab:∀i j,i<n->j<sz->off+i*sz+j<I ds:=λi j hi hj=>by have:(i+1)*sz<=n*sz:=ZIT _ hi;rw[ZIX,Nat.one_mul]at this;omega
 have u:∀i j,i<n->j<sz->vs[off+i*sz+j]?=sO (vs.getD (off+i*sz+j) undef):=λi j hi hj=>by have h1:=ab i j hi hj;simp only[ZJm,Array.getElem?_eq_getElem (show off+i*sz+j<vs.size by omega),ZJe]
 have ac:∀i j,i<n->j<sz->vs.getD (off+i*sz+j) undef∈vs:=λi j hi hj=>by have h1:=ab i j hi hj;simp only[ZJm,Array.getElem?_eq_getElem (show off+i*sz+j<vs.size by omega),ZJe];exact Array.getElem_mem _
 have ad:∀i,i<n->(row i).length=sz:=λi hi=>by rw[<-(hrow i hi).len,ZIS,ZI8];have:(i+1)*sz<=n*sz:=ZIT _ hi;rw[ZIX,Nat.one_mul]at this;omega
 refine .sl b off n cap sz row .none (λi j=>vs.getD (off+i*sz+j) undef) ad (λi j hi hj=>?_) (λi j hi hj=>?_) (λi j d hi hd=>?_) (λi j hi hj=>one _ (ac i j hi hj)) trivial hcap hbig;rw[JO hh];exact u i j hi hj;have:=ab i j hi hj;omega;have hj:j<sz:=by rw[<-ad i hi];exact(List.getElem?_eq_some_iff.1 hd).1
 obtain⟨x,hx,ae⟩:=(hrow i hi).get hd;rw[ZJf,if_pos hj,List.getElem?_drop]at hx;exact ae g w _ hf (hc _ _ x (u i j hi hj) hx)
def ZxO{l:List UInt8}{x n c off:Nat}{X:List D}{Ln:List Nat}(hx:x∈Ln)(h:s x=sO (.cells ((l.map u8C).flatten++X)))(u:n=(l.drop off).length)(ho:off<=I l):Ya s Ln (.msl x off n c 1) (Zk (l.drop off)):=by
 subst u;rw[Ze4]at h;refine Ya.mslO hx h (by rw[ZII,ZIU,ZI8];omega) λj t=>?_;rw[ZI8]at t;rw[Nat.mul_one];have:(((l.map λc=>D.int .u8 c.toNat)++X).drop (off+j)).take 1=u8C ((l.drop off).getD j dE):=by rw[List.drop_append_of_le_length (by rw[ZIU];omega),<-List.map_drop,Wh ω,ZIQ,List.cons_append,List.take_succ_cons,List.take_zero];simp[u8C,ZIN,List.getElem?_drop]
 rw[this];exact LdC.refl _
def Zq4{P}{F:Fr P}{dk:List WY}{s T:St}{l:List UInt8}{D1 ob t}(hB:Buf s 1 (l.map u8C) D1 ob)(hsub:T.sub s)(hob:∀x,ob=sO x->T x=nO)(k:Zt F dk [(t,.d (Zk l))] [] T):Zt F dk [(t,.d D1)] [] s:=by
 cases hB with
 |nil h =>have hl:l=[]:=List.map_eq_nil_iff.1 h;subst hl;exact KN hsub (ZvB (.cons (.d (YU λb h=>by cases h)) .nil) .nil k)
 |obj x cap X h hX hc =>
  have u:(l.map u8C).length=I l:=by rw[ZIU]
  refine ZjA (H':=[(t,.d (Zk l))]) (L':=[]) [x] (λb hb=>by simp only[List.mem_singleton]at hb;subst hb;exact⟨_,h⟩) ?_ ?_ (KN (λy o hy=>?_) k);refine .cons ?_ .nil;rw[u];exact ZxO (off:=0) ψ h rfl (Nat.zero_le _);exact .nil;have:=hob x rfl;simp only[St.delL,List.mem_singleton];rw[if_neg λe=>by rw[e,this]at hy;cases hy];exact hsub y o hy
def ZCi{f args}{T:St}{n c sz:Nat}(h:Za ZIy f args T λr S=>∃z,T z=nO/\r=.ret (.msl z 0 n c sz)/\S=T.upd z (.cells ds))(hl:n*sz<=I ds)(hr:∀j,j<n->(ds.drop (j*sz)).take sz=row j):
  Za ZIy f args T λr S=>r=.ret (.sl .none n sz row)/\S=T:=Za.freeze h λr S ⟨z,hz,t,u⟩=>by
 subst u;refine⟨[z],_,_,t,λb hb=>?_,Ya.msl (List.mem_singleton.2 rfl) (ZIE _ _ _) hl λj hj=>?_,rfl,?_⟩;rw[List.mem_singleton.1 hb];exact⟨_,ZIE _ _ _⟩;rw[hr j hj];exact LdC.refl _;funext y;simp only[St.delL,List.mem_singleton];by_cases h:y=z;rw[if_pos h,h,hz];rw[if_neg h,ZIG _ _ h]
def ZnZ(k:Int):Zd ZIy 168 [KA [k],.int .i64 8] (KA (List.replicate 8 k)):=λT=>by
 refine ZCi (n:=8) (c:=8) (sz:=1) (row:=λi=>itC ((List.replicate 8 k).getD i dE)) (Zmy k T) (by rw[List.length_replicate];omega) λj hj=>?_;rcases(by omega:j=0\/j=1\/j=2\/j=3\/j=4\/j=5\/j=6\/j=7) with rfl|rfl|rfl|rfl|rfl|rfl|rfl|rfl<;>rfl
def ZkL:Nat->List Nat->List Nat
 |0,s=>s
 |n+1,s=>ZkL n (ZgT 8 0 s)
def Zzo(s):ZkL 0 s=s:=rfl
def Zzn(n s):ZkL (n+1) s=ZkL n (ZgT 8 0 s):=rfl
def S16.rnd:∀{n s},S16 s->S16 (ZkL n s)
 |0,_,h=>h
 |n+1,s,h=>S16.rnd (n:=n) h.dbl
def leW(v:Nat):List UInt8:=[UInt8.ofNat v,UInt8.ofNat (v / 256),UInt8.ofNat (v / 65536),UInt8.ofNat (v / 16777216)]
def ZiS(R s:List Nat):Nat->List UInt8
 |0=>[]
 |i+1=>ZiS R s i++leW ((R.getD i 0+s.getD i 0) % 4294967296)
def ZnL{R s}:∀{n},(ZiS R s n).length=4*n
 |0=>rfl
 |n+1=>by rw[ZiS,ZII,ZnL];simp only[leW,ZIP,List.length_nil];omega
def Zii(s:List Nat):List UInt8:=ZiS (ZkL 10 s) s 16
def ZsL(v:Nat)(k:Nat):IntKind.u8.wrap ((v / k:Nat):Int)=((UInt8.ofNat (v / k)).toNat:Int):=by
 rw[UInt8.toNat_ofNat'];have t:∀n:Nat,IntKind.u8.wrap (n:Int)=(n:Int) % 256:=λn=>rfl;rw[t];omega
def ZqG(v:Nat){k:Nat}(t:k<=32):QE .u32 (v:Int) (k:Int)=((v / 2 ^ k:Nat):Int):=by
 unfold QE;rw[Int.toNat_natCast,show Nat.min k IntKind.u32.bits=k from Nat.min_eq_left t,Int.fdiv_eq_ediv_of_nonneg _ (by exact_mod_cast Nat.zero_le _)]
 push_cast
 rfl
def Zon{s:List Nat}(hs:S16 s):Zd ZIy 213 [.agg (s.map w32)] (Zk (Zii s)):=by
 refine Zg (cR 213 f213) λF st ae=>?_;obtain⟨R,hR⟩:∃R,ZkL 10 s=R:=⟨_,rfl⟩;have hB:Zii s=ZiS R s 16:=by unfold Zii;rw[hR]
 have hRS:S16 R:=by rw[<-hR];exact hs.rnd
 rw[hB]at ae;have hL:(List.map w32 s).length=16:=by rw[ZIU];exact hs.1
 have hT:List.take 16 (List.map w32 s)=List.map w32 s:=List.take_of_length_le ω;refine rg ?_;refine xA (nd2 @hL @hT) ?_;refine Zc (Zc ?_);refine xP 3 λz hz=>?_;refine rg ?_;refine Ze (fr (10) (λi Q=>∀s1,S16 s1->ZkL (10-i) s1=R->i<=10->Q [(1,.loc 1 0),(3,.d (.ptr z 0)),(8,.d (.int .i64 i))] [(1,s.map w32)] (st.upd z (.cells (s1.map w32)))) (λn ad=>?_) λax=>?_)
 .intro i hn2 s1 ac hp hi;refine rg ?_;refine Zc (Zl rfl trivial (λhd=>?_) (λhd=>?_));simp only[decide_eq_true_eq]at hd;rw[show 10-i=(10-(i+1))+1 by omega,Zzn]at hp;refine rg ?_;refine cV (Znp ac (ZIE _ _ _)) ?_ ?_;rintro d S ⟨hr,hS⟩;rw[ZIR]at hS;subst hS;cases hr;refine gR0 ?_;refine gA ?_;refine Zf ?_;exact ad ((10)-(i+1)) ω (i+1) rfl _ ac.dbl hp ω;rintro d S ⟨hr,_⟩;cases hr;simp only[decide_eq_false_iff_not]at hd;obtain rfl:i=10:=ω;rw[Nat.sub_self,Zzo]at hp;subst hp;refine rg ?_;refine⟨ω,ω,ω,by unfold big;omega,λx hx=>?_⟩;obtain⟨av,aj⟩:=Zo hx;have ap:(List.map w32 s1).length=16:=by rw[ZIU];exact ac.1
  have aq:List.take 16 (List.map w32 s1)=List.map w32 s1:=List.take_of_length_le ω;have aw:∀o,((st.upd z (.cells (s1.map w32))).upd x o) z=sO (.cells (s1.map w32)):=λo=>by rw[ZIG _ _ av.symm,ZIE]
  have ao:Buf ((st.upd z (.cells (s1.map w32))).upd x (.cells (W3 [D.int .u8 0] 64))) 1 ((ZiS s1 s 0).map u8C) (.msl x 0 0 64 1) (sO x):=.obj x 64 (W3 [D.int .u8 0] 64) (ZIE _ _ _) rfl (Nat.zero_le _);refine xA (nd2 @aw (nd2 @ap @aq)) ?_;refine Ze (fr (16) (λj Q=>∀D1 ob S1,Buf S1 1 ((ZiS s1 s j).map u8C) D1 ob->st.sub S1->(∀y,ob=sO y->st y=nO)->j<=16->Q [(1,.loc 1 0),(4,.d D1),(13,.d (.agg (s1.map w32))),(14,.d (.int .i64 j))] [(1,s.map w32)] S1) (λn u=>?_) λak=>?_)
  .intro j hn3 D1 ob S1 ab t ai hj;refine rg ?_;refine Zc (Zl rfl trivial (λaf=>?_) (λaf=>?_))
   .simp only[decide_eq_true_eq]at af;have hRl:=ac.1;have hsl:=hs.1;have r1:=Zh4 (s:=s1) (q:=j) ω;have r2:=Zh4 (s:=s) (q:=j) ω;have au:ZiS s1 s (j+1)=ZiS s1 s j++leW ((s1.getD j 0+s.getD j 0) % 4294967296):=rfl;have hol:=ZnL (R:=s1) (s:=s) (n:=j);refine xA @r1 ?_;have wv:IntKind.u32.wrap ((s1.getD j 0:Nat)+(s.getD j 0:Nat):Int)=(((s1.getD j 0+s.getD j 0) % 4294967296:Nat):Int):=by rw[<-Zb4];push_cast;rfl
    have lv:(s1.getD j 0+s.getD j 0) % 4294967296<4294967296:=Nat.mod_lt _ (by decide);refine rh ?_;refine WI ?_;simp only[Eqs,reduceCtorEq,ZIF,reduceIte,ZIC,ZIH,ZID,W1,KC,r2,hL];refine aa ?_;refine Zb7 rfl rfl rfl φ (WI ?_);simp only[Eqs,reduceCtorEq,ZIF,reduceIte,ZIC,ZIH,ZID,W1,KC,wv];generalize (s1.getD j 0+s.getD j 0) % 4294967296=v at *;have h8:QE .u32 (v:Int) 8=((v / 256:Nat):Int):=ZqG v (k:=8) (by decide);have al:QE .u32 (v:Int) 16=((v / 65536:Nat):Int):=ZqG v (k:=16) (by decide);have am:QE .u32 (v:Int) 24=((v / 16777216:Nat):Int):=ZqG v (k:=24) (by decide);have c0:IntKind.u8.wrap (v:Int)=((UInt8.ofNat v).toNat:Int):=by have:=ZsL v 1;rwa [Nat.div_one]at this
    have c1:=ZsL v 256;have c2:=ZsL v 65536;have c3:=ZsL v 16777216;refine xA (nd2 @h8 (nd2 @al (nd2 @am (nd2 @c0 (nd2 @c1 (nd2 @c2 @c3)))))) ?_;refine Zlw rfl rfl (ab) (by exact Ze3) rfl rfl φ φ (.elems rfl) (by rw[ZIU];omega) (by rw[ZIU];unfold big;omega) (by (show _=(leW v).map u8C;rfl)) (by exact Ze3) λs1 D1 ay ab ag=>?_;refine gR0 ?_;refine gA ?_;have ah:∀y o,st y=sO o->ob≠sO y:=λy o hy e=>by rw[ai y e]at hy;cases hy
    refine Zf ?_;exact u ((16)-(j+1)) ω (j+1) rfl D1 ay s1 (by rw[au,List.map_append];exact ab) (λy o hy=>(ag y o (t y o hy) (ah y o hy)).1) (λy e=>by
     cases hy:st y with
     |none=>rfl
     |some o=>exact absurd e (ag y o (t y o hy) (ah y o hy)).2) ω
   simp only[decide_eq_false_iff_not]at af;obtain rfl:j=16:=ω;refine rg ?_;refine Zq4 ab t ai ?_;exact ae rfl φ (ZIB _) ZIz
  have ar:st.sub ((st.upd z (.cells (s1.map w32))).upd x (.cells (W3 [D.int .u8 0] 64))):=λy o hy=>by
   have e1:y≠x:=λe=>by rw[e,aj]at hy;cases hy
   have e2:y≠z:=λe=>by rw[e,hz]at hy;cases hy
   rw[ZIG _ _ e1,ZIG _ _ e2];exact hy
  exact ak _ 0 rfl _ _ _ ao ar (λy e=>by cases e;exact aj) ω
 exact ax _ 0 rfl s hs hR ω
def ZeW(v:Int):Bool:=dC (0<=v)&&dC (v<=4294967295)
def ZhA(v:Int):Zd ZIy 167 [.int .i64 v] (.bool (ZeW v)):=by
 refine Zg (cR 167 f167) λF st t=>?_;refine gG ?_;refine rb t ?_;unfold ZeW;cases dC (0<=v)<;>rfl
def Zma{v:Int}:Zd ZIy 212 [.int .i64 v] (.bool (!ZeW v)):=by
 refine Zg (cR 212 f212) λF st t=>?_;refine gG ?_;refine cl (ZhA v) ?_;refine rb t ?_;rfl
def Zg4(k c:Nat):List Nat:=[1634760805,857760878,2036477234,1797285236,k,k,k,k,k,k,k,k,c,0,0,0]
def Zkk(k c:Nat):List Int:=[1634760805,857760878,2036477234,1797285236,k,k,k,k,k,k,k,k,c,0,0,0]
def ZCp{k c}(hk:k<4294967296)(hc:c<4294967296):S16 (Zg4 k c):=⟨rfl,λx t=>by
 simp only[Zg4,ZJd,List.not_mem_nil,or_false]at t;omega⟩
def ZCo{k c}(u:k<4294967296)(t:c<4294967296)(i:Nat)(hi:i<16):IntKind.u32.wrap ((Zkk k c).getD i dE)=((Zg4 k c).getD i 0:Nat):=by
 have h:∀n:Nat,n<4294967296->IntKind.u32.wrap (n:Int)=(n:Int):=λn hn=>by rw[Zb4,Nat.mod_eq_of_lt hn]
 rcases(by omega:i=0\/i=1\/i=2\/i=3\/i=4\/i=5\/i=6\/i=7\/i=8\/i=9\/i=10\/i=11\/i=12\/i=13\/i=14\/i=15) with rfl|rfl|rfl|rfl|rfl|rfl|rfl|rfl|rfl|rfl|rfl|rfl|rfl|rfl|rfl|rfl;all_goals first|exact h k u|exact h c t|rfl
def ZBz(a b c d:Int):(D.sl .full 4 1 (ZV [.int .i64 0] ([0,1,2,3].zip [.int .i64 a,.int .i64 b,.int .i64 c,.int .i64 d]))).Le (KA [a,b,c,d]):=Zgb rfl λi hi=>by
 rcases(by omega:i=0\/i=1\/i=2\/i=3) with rfl|rfl|rfl|rfl<;>rfl
def ZBy(a:Int):(D.sl .full 1 1 (ZV [.int .i64 0] ([0].zip [.int .i64 a]))).Le (KA [a]):=Zgb rfl λi hi=>by
 obtain rfl:i=0:=ω;rfl
def ZEi{t1 t2 t3 t4:Tok}{n1 n2 n3 n4:Nat}{r1 r2 r3 r4:Nat->List D}{t u l3 l4:List Int}(h1:(D.sl t1 n1 1 r1).Le (KA t))(h2:(D.sl t2 n2 1 r2).Le (KA u))(h3:(D.sl t3 n3 1 r3).Le (KA l3))(h4:(D.sl t4 n4 1 r4).Le (KA l4)):
  (D.sl .full 4 1 (ZV [.nilsl] ([0,1,2,3].zip [.sl t1 n1 1 r1,.sl t2 n2 1 r2,.sl t3 n3 1 r3,.sl t4 n4 1 r4]))).Le (slD 1 liC [t,u,l3,l4]) :=
 ZvC.trans (Zx5 λi hi=>by
  rcases(by omega:i=0\/i=1\/i=2\/i=3) with rfl|rfl|rfl|rfl;exact LeC.one h1;exact LeC.one h2;exact LeC.one h3;exact LeC.one h4)
def ZeF(K:List Nat)(i:Nat):List D:=(K.take i).map w32++List.replicate (16-i) (.int .u32 0)
def ZyK{K:List Nat}(h:K.length=16){i}(hi:i<=16):(ZeF K i).length=16:=by
 unfold ZeF;rw[ZII,ZIU,ZIS,List.length_replicate];omega
def ZyL{K:List Nat}(h:K.length=16){i}(hi:i<16):(ZeF K i).take i++[.int .u32 (K.getD i 0:Nat)]++(ZeF K i).drop (i+1)=ZeF K (i+1):=by
 have t:((K.take i).map w32).length=i:=by rw[ZIU,ZIS];omega
 have u:K.take (i+1)=K.take i++[K.getD i 0]:=by rw[List.take_succ,ZI4 ω];simp[ZIN,show i<K.length by omega]
 unfold ZeF;rw[List.take_left' t,show 16-i=1+(16-(i+1)) by omega,<-List.replicate_append_replicate,<-ZI1 ((K.take i).map w32),List.drop_left' (by rw[ZII,t];rfl),u,List.map_append];rfl
def Zom{k c:Nat}(hk:k<4294967296)(hc:c<4294967296):Zd ZIy 169 [KA (List.replicate 8 (k:Int)),KA [0,0,0],.int .i64 c] (.tup [Zk (Zii (Zg4 k c)),.int .i64 0]):=by
 refine Zg (cR 169 f169) λF st af=>?_;have ap:=ZEi (ZBz 1634760805 857760878 2036477234 1797285236) (ZIB (KA (List.replicate 8 (k:Int)))) (ZBy (c:Int)) (ZIB (KA [0,0,0]));have ah:([[1634760805,857760878,2036477234,1797285236],List.replicate 8 (k:Int),[(c:Int)],[0,0,0]]:List (List Int)).flatten=Zkk k c:=rfl;have u:=Za.leA (LeC.one ap) (Zi3 [[1634760805,857760878,2036477234,1797285236],List.replicate 8 (k:Int),[(c:Int)],[0,0,0]] (Nat.le_of_ble_eq_true rfl) (Nat.le_of_ble_eq_true rfl) st);rw[ah]at u;have ac:((Zkk k c).any λv=>!ZeW v)=false:=by simp only[Zkk,List.any_cons,List.any_nil,ZeW];simp;omega
 have ai:Zd ZIy 211 [KA (Zkk k c),.fn (.func 212) [] []] (.bool false):=λst=>by have:=Zes (Zkk k c) (.fn (.func 212) [] []) (λv=>!ZeW v) (λ_=>st) λi _=> Zma.VT (first:=[]) (caps:=[]) st;rw[ac]at this;exact this
 have ao:(Zkk k c).length=16:=rfl;have al:=ZCo hk hc;have hS:=ZCp hk hc;generalize Zkk k c=KI at *;generalize Zg4 k c=KS at *;refine gG ?_;refine⟨rfl,?_⟩;refine cV (u) ?_ ?_;rintro d S ⟨hr,ag⟩;obtain rfl:=ag.symm;cases hr;refine gR0 ?_;have hlk:((List.replicate 8 (k:Int)).length:Int)=8:=rfl;have hl0:(([0,0,0]:List Int).length:Int)=3:=rfl;refine rx (nd2 @KA.eq_1 @eQ1) ?_;refine cG (ai) ?_;refine iG ?_;refine rg ?_;rw[ao];have ab:=hS.1;refine Ze (fr (16) (λi Q=>i<=16->Q [(9,.loc 9 0),(31,.d (.sl .none 16 1 λi=>itC (KI.getD i dE))),(32,.d (.int .i64 (16:Nat))),(33,.d (.int .i64 i))] [(9,ZeF KS i)] st) (λn t=>?_) λau=>?_);intro i hn2 hi;refine rg ?_;refine Zc (Zl rfl trivial (λhd=>?_) (λhd=>?_));simp only[decide_eq_true_eq]at hd;have ad:i<16:=ω;have aj:=ZyK ab hi;have ak:=ZyL ab ad;have am:=al i ad;refine xA @itC.eq_1 ?_;refine xA (nd2 @am (nd2 @aj (nd2 @ak @Nat.mul_one))) ?_;refine gA ?_;refine Zf ?_;exact t ((16)-(i+1)) ω (i+1) rfl ω;simp only[decide_eq_false_iff_not]at hd;obtain rfl:i=16:=ω;have ae:ZeF KS 16=KS.map w32:=by unfold ZeF;rw[List.take_of_length_le ω,Nat.sub_self];simp
 rw[ae];have aq:(KS.map w32).length=16:=by rw[ZIU];exact ab
 have ar:List.take 16 (KS.map w32)=KS.map w32:=List.take_of_length_le ω;refine xA (nd2 @aq @ar) ?_;refine cl (Zon hS) ?_;refine rt af ?_;rfl;exact au _ 0 rfl ω;rintro d S ⟨hr,_⟩;cases hr
def ZgE(k i:Nat):UInt8:=(Zii (Zg4 k (i / 64))).getD (i % 64) dE
def Zar(k:Nat):Nat->List UInt8->List UInt8
 |_,[]=>[]
 |i,x::r=>(x ^^^ ZgE k i)::Zar k (i+1) r
def KQ(k:Nat)(b:List UInt8):List UInt8:=if k=0 then b else Zar k 0 b
def Zdy{k}:∀{b i},(Zar k i b).length=I b
 | [],_=>rfl
 |x::r,i=>by rw[Zar,ZIP,Zdy,ZIP]
def Zr1{k}:∀{b i x},Zar k i (b++[x])=Zar k i b++[x ^^^ ZgE k (i+I b)]
 | [],i,x=>rfl
 |y::r,i,x=>by rw[List.cons_append,Zar,Zr1,Zar,ZIP,show i+1+I r=i+(I r+1) by omega];rfl
def Znq{k b}:(KQ k b).length=I b:=by
 unfold KQ;split;rfl;exact Zdy
def ZaT(k:Nat)(b:List UInt8)(n:Nat):List UInt8:=Zar k 0 (b.take n)++b.drop n
def ZAQ{k b n}:(ZaT k b n).length=I b:=by
 unfold ZaT;rw[ZII,Zdy,<-ZII,List.take_append_drop]
def ZCw{k b n}(h:n<I b):(ZaT k b n).getD n dE=b.getD n dE:=by
 unfold ZaT;have t:(Zar k 0 (b.take n)).length=n:=by rw[Zdy,ZIS];omega
 rw[Wh h];simp only[ZIN];rw[ZJi ω,t,Nat.sub_self];rfl
def ZAR{k b n}(h:n<I b):(ZaT k b n).set n (b.getD n dE ^^^ ZgE k n)=ZaT k b (n+1):=by
 have hl:(Zar k 0 (b.take n)).length=n:=by rw[Zdy,ZIS];omega
 have t:(b.take n).length=n:=by rw[ZIS];omega
 have u:ZaT k b (n+1)=Zar k 0 (b.take n)++[b.getD n dE ^^^ ZgE k n]++b.drop (n+1):=by unfold ZaT;rw[Yo h,Zr1,t,Nat.zero_add]
 rw[u];unfold ZaT;rw[Wh h,List.set_append_right _ _ ω,hl,Nat.sub_self];simp
def ZD3(x y:UInt8):Qj .xor .u8 (x.toNat:Int) (y.toNat:Int)=((x ^^^ y).toNat:Int):=by
 have hx:=x.toNat_lt;have hy:=y.toNat_lt;unfold Qj;simp only;have t:(BitVec.ofInt 8 (x.toNat:Int)).toNat=x.toNat:=by rw[BitVec.toNat_ofInt];omega
 have u:(BitVec.ofInt 8 (y.toNat:Int)).toNat=y.toNat:=by rw[BitVec.toNat_ofInt];omega
 show IntKind.u8.wrap ((BitVec.ofInt 8 (x.toNat:Int) ^^^ BitVec.ofInt 8 (y.toNat:Int)).toNat:Int)=_;rw[BitVec.toNat_xor,t,u,UInt8.toNat_xor];have h:=Nat.xor_lt_two_pow (n:=8) hx hy;have h1:IntKind.u8.wrap ((x.toNat ^^^ y.toNat:Nat):Int)=((x.toNat ^^^ y.toNat:Nat):Int) % 256:=rfl;rw[h1];omega
def Zoo{k n:Int}(u:ZeW k=true)(hn:0<=n/\n<=274877906944):Zd ZIy 119 [.agg [.int .i64 k,.int .i64 0],.int .i64 n] (.int .i64 0):=by
 refine Zg (cR 119 f119) λF st t=>?_;refine gG ?_;refine cX @u (ZhA k) ?_;refine i0 ?_;refine gA ?_;refine Zl rfl trivial (λh=>by simp at h;omega) (λ_=>?_);refine rg ?_;refine ri t ?_;rfl
def Za.giveL{f args args'}{t:St}{Ln Φ}(hL:∀b∈Ln,∃ds,t b=sO (.cells ds))(hl:LdC t Ln args args')(h:Za ZIy f args' (t.delL Ln) Φ):Za ZIy f args t Φ :=
 ⟨h.1,λg w vs hs ha=>by
  have hx:=Js hs hL;have u:=ZI.ldC (ZeZ hs hL) (ha.imp λ_ _ h=>Rep.mono h hx) hl;exact(h.2 (KF g t Ln) w vs (ZtX hs hL) u).mono λe w' ⟨g',S',r,he,hS,hr,hq⟩=>⟨g',S',r,hx.trans he,hS,hr,hq⟩⟩
def ZAj{S:St}{y o}(h:S y=nO):(S.upd y o).delL [y]=S:=by
 funext x;simp only[St.delL,List.mem_singleton];by_cases e:x=y;rw[if_pos e,e,h];rw[if_neg e,ZIG _ _ e]
def Zld(l:List UInt8)(t:0<I l)(hl:I l<=1000000000)(T):Za ZIy 16 [Zk l] T λr S=>∃z c X,T z=nO/\r=.ret (.msl z 0 (I l) c 1)/\S=T.upd z (.cells ((l.map u8C).flatten++X))/\X.length=(c-I l)*1/\I l<=c:=by
 refine Zb (cR 16 f16) λF u=>?_;refine rx (nd2 @Zk.eq_1 @eQ1) ?_;refine gA ?_;refine iG ?_;refine Zm6 rfl rfl rfl rfl rfl (.elems rfl) φ φ t ω (by unfold big;omega) λz c hz hc=>?_;rw[List.flatMap_def,Zdm];refine gR0 ?_;exact u.ret _ _ rfl φ (ZIB _) ZIz ⟨z,c,_,hz,rfl,rfl,List.length_replicate,hc⟩
def Zsa{k:Nat}(hk:k<4294967296)(b:List UInt8)(hb:I b<=1000000000):Zd ZIy 120 [.agg [.int .i64 k,.int .i64 0],Zk b] (Zk (KQ k b)):=by
 refine Zg (cR 120 f120) λF st u=>?_;have af:Zd ZIy 168 [D.sl .full 1 1 (ZV [.int .i64 0] ([0].zip [.int .i64 (k:Int)])),.int .i64 8] (KA (List.replicate 8 (k:Int))):=λT=>Za.leA (.cons (ZBy (k:Int)) (.cons (ZIB _) .nil)) (ZnZ (k:Int) T);by_cases hq:k=0\/I b=0;have aq:Zd ZIy 16 [Zk b] (Zk b):=QF b hb;have aj:KQ k b=b:=by unfold KQ;split;rfl;rename_i h;have:b=[]:=List.eq_nil_of_length_eq_zero (hq.resolve_left h);subst this;rfl
 rw[aj]at u;refine gG ?_;refine cl (aq) ?_;refine rg ?_;by_cases ab:k=0;subst ab;refine i1 ?_;refine rg ?_;refine ro u ?_;rfl;have ah:b=[]:=List.eq_nil_of_length_eq_zero (hq.resolve_left ab);subst ah;refine Zl rfl trivial (λh=>by simp at h;exact absurd h ab) (λ_=>?_);refine rg ?_;refine cl (af) ?_;refine rg ?_;refine Ze (ZaF ?_);refine rx (nd2 @Zk.eq_1 @eQ1) ?_;refine iG ?_;refine ro u ?_;rfl;have ab:¬k=0:=λe=>hq (.inl e);have ah:0<I b:=ω;have aj:KQ k b=Zar k 0 b:=by unfold KQ;rw[if_neg ab]
 rw[aj]at u;refine gG ?_;refine cV (Zld b ah hb st) ?_ ?_;rintro d S ⟨z,c,X,hz,hr,hS,hX,a0⟩;subst hS;cases hr;refine gR0 ?_;refine rg ?_;refine Zl rfl trivial (λh=>by simp at h;exact absurd h ab) (λ_=>?_);refine rg ?_;refine cl (af) ?_;refine rg ?_;obtain⟨N,hN⟩:∃N,(I b+63) / 64=N:=⟨_,rfl⟩;refine Ze (fr (N) (λm Q=>∀dn S1,dn=min (64*m) (I b)->S1=st.upd z (.cells (((ZaT k b dn).map u8C).flatten++X))->m<=N->Q [(2,.loc 2 0),(5,.d (.msl z 0 (I b) c 1)),(6,.d (KA (List.replicate 8 (k:Int)))),(7,.d (.int .i64 (dn:Nat)))] [(2,[.int .i64 k,.int .i64 0])] S1) (λn ae=>?_) λbb=>?_);intro m hn2 dn S1 hdn ad hm;refine rg ?_;refine cd (λhd=>?_) (λhd=>?_);simp only[decide_eq_true_eq]at hd;have hdm:dn=64*m:=ω;have ar:(0+(dn:Int)).tmod 64=0:=by rw[Int.zero_add,Int.tmod_eq_emod_of_nonneg ω];omega
 have av:(0+(dn:Int)).tdiv 64=(m:Int):=by rw[Int.zero_add,Int.tdiv_eq_ediv_of_nonneg ω];omega
 refine xA @ar ?_;refine rx @av ?_;refine⟨ω,ω,ω,ω,ω,ω,ω,ω,by unfold big;omega,λy hy=>?_⟩;have a4:Za ZIy 169 [KA (List.replicate 8 (k:Int)),.msl y 0 3 3 1,.int .i64 m] (S1.upd y (.cells (W3 [D.int .i64 0] 3))) λr S=>r=.ret (.tup [Zk (Zii (Zg4 k m)),.int .i64 0])/\S=S1:=by
  have h1:=Za.giveL (t:=S1.upd y (.cells (W3 [D.int .i64 0] 3))) (Ln:=[y]) (λb hb=>by obtain rfl:=List.mem_singleton.1 hb;exact⟨_,ZIE _ _ _⟩) (.cons (Ya.refl _) (.cons (Ya.msl (cap:=3) (row:=λi=>itC (([0,0,0]:List Int).getD i dE)) (List.mem_singleton.2 rfl) (ZIE _ _ _) (Nat.le_of_ble_eq_true rfl) λj hj=>by
   have hj:j<3:=hj;rcases(by omega:j=0\/j=1\/j=2) with rfl|rfl|rfl<;>exact LdC.refl _) (.cons (Ya.refl _) .nil))) (Zom (k:=k) (c:=m) hk ω _)
  rw[ZAj hy]at h1;exact h1
 refine cVD (a4) ?_ ?_;rintro d S ⟨hr,hS⟩;obtain rfl:=hS.symm;cases hr;refine kF ?_;refine gR0 ?_;have hbl:(Zii (Zg4 k m)).length=64:=ZnL;obtain⟨L,hL⟩:∃L,min 64 (I b-dn)=L:=⟨_,rfl⟩;have a7:min (64:Int) (0+(I b:Int)-dn)=(L:Int):=ω;refine xA (nd2 @Zk.eq_1 (nd2 @eQ1 @a7)) ?_;refine rg ?_;generalize (if (64:Int) = ↑L then Tok.full else Tok.none)=tk;have a8:∀n,(ZaT k b n).length=I b:=λn=>ZAQ;have ap:∀i,i<L->ZgE k (dn+i)=(Zii (Zg4 k m)).getD i dE:=λi hi=>by unfold ZgE;rw[show(dn+i) / 64=m by omega,show(dn+i) % 64=i by omega]
 generalize Zii (Zg4 k m)=bk at *;refine Ze (fr (L) (λi Q=>∀S2,S2=st.upd z (.cells (((ZaT k b (dn+i)).map u8C).flatten++X))->i<=L->Q [(2,.loc 2 0),(5,.d (.msl z 0 (I b) c 1)),(6,.d (KA (List.replicate 8 (k:Int)))),(7,.d (.int .i64 (dn:Nat))),(11,.d (.sl tk L 1 λi=>u8C (bk.getD i dE))),(54,.d (.sl tk L 1 λi=>u8C (bk.getD i dE))),(55,.d (.int .i64 L)),(56,.d (.int .i64 i))] [(2,[.int .i64 k,.int .i64 0])] S2) (λn ac=>?_) λay=>?_);intro i hn3 S2 ag hi;refine rg ?_;refine Zc (Zl rfl trivial (λak=>?_) (λak=>?_));simp only[decide_eq_true_eq]at ak;have a5:i<L:=ω;have au:dn+i<I b:=ω;have ax:=ZAR (k:=k) au;have az:=ZCw (k:=k) au;rw[ap i a5]at ax;have hml:=a8 (dn+i);have am:S2 z=sO (.cells (((ZaT k b (dn+i)).map u8C).flatten++X)):=by rw[ag,ZIE]
 have a9:∀o,S2.upd z o=st.upd z o:=λo=>by rw[ag,ZIR]
 generalize ZaT k b (dn+i)=mx at *;have ao:(dn:Int)+(i:Int)=((dn+i:Nat):Int):=ω;have ai:=ZBB (b:=mx) (X:=X) (q:=dn+i) ω;rw[az]at ai;have aw:=ZzI (b:=mx) (X:=X) (b.getD (dn+i) dE ^^^ bk.getD i dE) (q:=dn+i) ω;rw[ax]at aw;have ba:=ZD3 (b.getD (dn+i) dE) (bk.getD i dE);have aq:(dn+i)+1<=((mx.map u8C).flatten++X).length:=by rw[ZII,Ze4,ZIU];omega
 refine xA @u8C.eq_1 ?_;generalize ((mx.map u8C).flatten++X)=cs at *;rw[Nat.mul_one]at ai;refine xA (nd2 @ao (nd2 @am (nd2 @Nat.mul_one (nd2 @ai (nd2 @ba @a9))))) ?_;rw[aw];refine gA ?_;refine Zf ?_;exact ac ((L)-(i+1)) ω (i+1) rfl _ rfl ω;simp only[decide_eq_false_iff_not]at ak;obtain rfl:i=L:=ω;refine gA ?_;rw[show(dn:Int)+(i:Int)=((dn+i:Nat):Int) by omega];refine Zr (Zf ?_);exact ae ((N)-(m+1)) ω (m+1) rfl (dn+i) S2 ω ag ω;exact ay _ 0 rfl S1 ad ω;rintro d S ⟨hr,_⟩;cases hr;simp only[decide_eq_false_iff_not]at hd;have a3:dn=I b:=ω;refine rg ?_;have a6:ZaT k b dn=Zar k 0 b:=by unfold ZaT;rw[a3,ZJa,List.drop_length,ZI5]
 rw[a6]at ad;have al:((Zar k 0 b).map u8C).length=I b:=by rw[ZIU,Zdy]
 have hB:=Buf.obj (S:=S1) (sz:=1) (rows:=(Zar k 0 b).map u8C) z c X (by rw[ad,ZIE]) (by rw[al];exact hX) (by rw[al];exact a0);rw[al]at hB;refine Zq4 (T:=st) hB (λy o hy=>by rw[ad,ZIG _ _ λe=>by rw[e,hz]at hy;cases hy];exact hy) (λy e=>by cases e;exact hz) ?_;refine ro u ?_;rfl;exact bb _ 0 rfl 0 _ ω (by unfold ZaT;rw[List.take_zero,List.drop_zero];rfl) ω;rintro d S ⟨_,_,_,_,hr,_⟩;cases hr
def Zr9{k:Nat}(hk:k<4294967296)(b:List UInt8)(hb:I b<=1000000000):Zd ZIy 89 [.int .i64 k,.int .i64 0,Zk b] (.tup [Zk (KQ k b),.int .i64 0]):=by
 refine Zg (cR 89 f89) λF st t=>?_;have hw:ZeW (k:Int)=true:=by unfold ZeW;simp;omega
 have u:=Zoo (n:=(I b:Int)) hw ⟨ω,ω⟩;refine gG ?_;refine rx @ZBx ?_;refine cl (u) ?_;refine rg ?_;refine iG ?_;refine cl (Zsa hk b hb) ?_;refine rt t ?_;rfl
def Zvu(v)(hv:VOk v):Zd ZIy 91 [.agg v.cells] (.agg v.cells):=λT=>by
 refine Za.freeze (Zst v hv T) λr S ⟨c,fp,hr,hm,u,ho⟩=>⟨fp,_,_,hr,λb t=>hm.live b t,Ya.agg (hm.ld λy h=>h),rfl,?_⟩;funext y;simp only[St.delL];by_cases e:y∈fp;rw[if_pos e,u y e];rw[if_neg e,ho y e]
def Zfo(nm:Str)(l:List Val):Nat:=(l.filter λx=>dC (x.name=nm)).length
def ZeT(l:List Val)(f)(p:Val->Bool)(sts:Nat->St)(hw:I l<=1000000)(hf:∀i,i<I l->VT ZIy f [.agg (l.getD i dE).cells] (sts i) (.bool (p (l.getD i dE))) (sts (i+1))):
  ZO ZIy 121 [ZZ l,f] (sts 0) (.int .i64 (Zi p l)) (sts (KJ p l)):=by
 refine ZG (cR 121 f121) λaf F t=>?_;clear af;refine rg ?_;refine rx @ZbT ?_;refine Ze (fr (I l) (λi Q=>i<=I l->(∀j,j<i->p (l.getD j dE)=false)->Q [(0,.d (ZZ l)),(1,.d f),(7,.d (.int .i64 (I l))),(8,.d (.int .i64 i))] [] (sts i)) (λn ab=>?_) λag=>?_);intro i hn hi u;refine rg ?_;refine Zc (Zl rfl trivial (λh1=>?_) (λh1=>?_));simp at h1;have ae:=K6 (l:=l) (i:=i) h1;have ad:=hf i h1;rw[ZI2]at ad;refine rg ?_;refine xA (nd2 @atV @ae) ?_;refine cW (ad) ?_;refine cd (λh2=>?_) (λh2=>?_);have e1:=W2 h1 h2 u;have e2:=ZaY h1 h2 u;rw[e1,e2]at t;refine rg ?_;exact t rfl φ (ZIB _) ZIz;refine gA ?_;refine Zf ?_;exact ab ((I l)-(i+1)) ω (i+1) rfl ω (Yc (q:=λj=>p (l.getD j dE)=false) u h2);simp at h1;obtain rfl:i=I l:=ω;have ac:∀x∈l,p x=false:=λx hx=>by obtain⟨j,hj,rfl⟩:=ZIV hx;have:=u j hj;simpa[ZIN,hj]using this
 rw[Wp ac,Jf ac]at t;refine rg ?_;exact t rfl φ (ZIB _) ZIz;exact ag _ 0 rfl ω (by intro j hj;omega)
def ZpN(x:Val){T:St}{zs zn:Nat}{nm:Str}{n0 c:Int}(hs:T zs=sO (.cells [.str nm,.int .i64 n0]))(hn:T zn=sO (.cells [.int .i64 c]))(hc:-1000000<=c/\c<=0):
  ZO ZIy 122 [.agg x.cells,.ptr zs 0,.ptr zn 0] T (.bool (dC (x.name=nm))) (if x.name=nm then T.upd zn (.cells [.int .i64 (c-1)]) else T):=by
 refine ZG (cR 122 f122) λac F t=>?_;clear ac;rw[x.cells_eq];refine rg ?_;refine rx @hs ?_;refine cd (λhq=>?_) (λhq=>?_);have u:¬x.name=nm:=by simpa using hq
 rw[if_neg u,decide_eq_false u]at t;refine rg ?_;exact t rfl φ (ZIB _) ZIz;have he:x.name=nm:=by simpa using hq
 rw[if_pos he,decide_eq_true he]at t;refine xA @hn ?_;refine rx @ZIE ?_;have ab:dC (c-1<0)=true:=by simp;omega
 rw[ab];exact t rfl φ (ZIB _) ZIz
def Zrc{nm:Str}{l:List Val}{i}(h:i<I l):Zfo nm (l.take (i+1))=Zfo nm (l.take i)+if (l.getD i dE).name=nm then 1 else 0:=by
 unfold Zfo;rw[Yo h,List.filter_append,ZII]
 congr 1
 generalize l.getD i dE=x;by_cases e:x.name=nm;rw[List.filter_cons,if_pos (by simpa using e),if_pos e];rfl;rw[List.filter_cons,if_neg (by simpa using e),if_neg e];rfl
def ZB7{nm:Str}{l:List Val}:Zfo nm l<=I l:=List.length_filter_le _ _
def Zsv(v:Val)(nm:Str)(hl:I v.parts<=1000000):Zd ZIy 90 [.agg v.cells,.agg [.str nm,.int .i64 0]] (.int .i64 (Zi (λx=>dC (x.name=nm)) v.parts)):=by
 refine Zg (cR 90 f90) λF st ab=>?_;rw[v.cells_eq];refine gG ?_;refine Zc ?_;refine xP 3 λzs aj=>?_;refine xP 5 λzn ai=>?_;obtain⟨ah,ac⟩:=Zo ai;obtain⟨t,u⟩:∃t:Nat->St,t=λi=>((st.upd zs (.cells [.str nm,.int .i64 0])).upd zn (.cells [.int .i64 (-(Zfo nm (v.parts.take i):Int))])):=⟨_,rfl⟩;have h0:((st.upd zs (.cells [.str nm,.int .i64 0])).upd zn (.cells [.int .i64 0]))=t 0:=by rw[u];simp[Zfo]
 have ad:∀i,i<I v.parts->ZO ZIy 122 [.agg (v.parts.getD i dE).cells,.ptr zs 0,.ptr zn 0] (t i) (.bool (dC ((v.parts.getD i dE).name=nm))) (t (i+1)):=λi hi=>by
  have ae:=Zrc (nm:=nm) hi;have ag:=ZB7 (nm:=nm) (l:=v.parts.take i);rw[ZIS]at ag;have h1:=ZpN (v.parts.getD i dE) (T:=t i) (zs:=zs) (zn:=zn) (nm:=nm) (n0:=0) (c:=-(Zfo nm (v.parts.take i):Int)) (by rw[u];simp only;rw[ZIG _ _ ah.symm,ZIE]) (by rw[u];simp only;rw[ZIE]) ⟨ω,ω⟩;have h2:(if (v.parts.getD i dE).name=nm then (t i).upd zn (.cells [.int .i64 (-(Zfo nm (v.parts.take i):Int)-1)]) else t i)=t (i+1):=by rw[u];simp only;rw[ae];split;rw[ZIR];congr 3;push_cast;congr 1;omega;simp
  rw[h2]at h1;exact h1
 have af:=ZeT v.parts (.fn (.func 122) [] [.ptr zs 0,.ptr zn 0]) (λx=>dC (x.name=nm)) t ω λi hi=>(ad i hi).VT (first:=[]) (args:=[_]) (caps:=[_,_]);rw[h0];refine rg ?_;refine ct (af) ?_;refine ab rfl φ (ZIB _) ?_;rw[u];exact λy o hy=>by
  have e1:y≠zn:=λe=>by rw[e,ac]at hy;cases hy
  have e2:y≠zs:=λe=>by rw[e,aj]at hy;cases hy
  simp only;rw[ZIG _ _ e1,ZIG _ _ e2];exact hy
def Zo9(v:Val)(nm:Str):Val:=if Zi (λx:Val=>dC (x.name=nm)) v.parts<0 then dE else v.parts.getD (Zi (λx:Val=>dC (x.name=nm)) v.parts).toNat dE
def Zsu(v:Val)(nm:Str)(hv:VOk v):∃is,Zd ZIy 56 [.agg v.cells,.str nm] (.tup [.agg (Zo9 v nm).cells,.bool is]):=by
 have hl:I v.parts<=1000000:=by have:=hv.sm.p;omega
 have u:=Zsv v nm hl;have ab:=Zo9.eq_1 v nm;have hlt:=WE (λx:Val=>dC (x.name=nm)) v.parts;generalize Zi (λx:Val=>dC (x.name=nm)) v.parts=q at *;by_cases h0:q<0;rw[if_pos h0]at ab;refine⟨false,Zg (cR 56 f56) λF st t=>?_⟩;rw[ab]at t;rw[v.cells_eq]at u⊢;refine gG ?_;refine cl (u) ?_;refine rg ?_;refine Zl rfl trivial (λ_=>?_) (λh=>by simp at h;omega);refine rg ?_;exact t rfl φ (ZvD (.cons (Zs2 (.cons (ZIB _) (.cons (ZIB _) (.cons (YU λb h=>by cases h) (.cons (YU λb h=>by cases h) (.cons (YU λb h=>by cases h) .nil)))))) (.cons (ZIB _) .nil))) ZIz;rw[if_neg h0]at ab;refine⟨true,Zg (cR 56 f56) λF st t=>?_⟩;have hqn:(q.toNat:Int)=q:=ω;have ad:q.toNat<I v.parts:=ω;have ae:=K6 (l:=v.parts) (i:=q.toNat) ad;have ac:=Zvu (v.parts.getD q.toNat dE) (hv.part (ZE ad));rw[ab]at t;rw[ZI2]at ac t;rw[v.cells_eq]at u⊢;generalize v.parts.getD q.toNat dE=x at *;refine gG ?_;refine cl (u) ?_;refine rg ?_;refine Zl rfl trivial (λh=>by simp at h;omega) (λ_=>?_);refine xA (nd2 @atV @ae) ?_;refine cl (ac) ?_;refine rt t ?_;rfl
def Zgf{S z ob b n rest dl}(l:List UInt8)(t:dl.Le (Zk l))(u:Wb S z ob b n rest)(hn:(n:Int)+8*(I b+I l)<=100000000000):Za ZIy 79 [.ptr z 0,dl] S (WbP S z ob (b++l) (n+8*I l) rest) :=
 Za.leA (.cons (ZIB _) (.cons t .nil)) (Kw l u hn)
def Zv4(y:UInt8):(D.sl .full 1 1 (ZV [.int .u8 0] ([0].zip [.int .u8 (y.toNat:Int)]))).Le (Zk [y]):=Zgb rfl λi hi=>by
 obtain rfl:i=0:=ω;rfl
def WbP.bad{S z ob b n rest r S'}(h:WbP S z ob b n rest (.panic r) S'):False:=by cases h.1
def Zkv(l:Bool)(v k:Nat)(b:List UInt8)(n:Nat):List UInt8:=if l then b++leS v ((k+7) / 8) else Zao v k b n
def Zha(l:Bool)(k n:Nat):Nat:=if l then n+8*((k+7) / 8) else n+k
def Zdl:∀{k v},(leS v k).length=k
 |0,_=>rfl
 |k+1,v=>by rw[leS,ZIP,Zdl]
def ZnH(v k):leS v (k+1)=UInt8.ofNat v::leS (v / 256) k:=rfl
def ZAK(v):leS v 0=[]:=rfl
def ZD0{v:Nat}(hv:v<4611686018427387904)(j:Nat):IntKind.u8.wrap ((v / 2 ^ j:Nat):Int)=((UInt8.ofNat (v / 2 ^ j)).toNat:Int):=by
 rw[UInt8.toNat_ofNat'];have t:∀n:Nat,IntKind.u8.wrap (n:Int)=(n:Int) % 256:=λn=>rfl;rw[t];omega
def Zft{S z ob b n rest}(f:Fld)(x:Val){v k:Nat}(hb:Wb S z ob b n rest)(hbo:BOk b n)(hx:x.int=v)(hv:v<4611686018427387904)(hk:f.bits=k)(hk2:k<=600)(hn:n<=10000000000):
  Za ZIy 46 [.ptr z 0,.agg f.cells,.agg x.cells] S (WbP S z ob (Zkv f.little v k b n) (Zha f.little k n) rest):=by
 refine Zb (cR 46 f46) λF hF=>?_;have aj:=hbo;unfold BOk at aj;rw[x.cells_eq];refine rg ?_;refine rx @eQ0 ?_;refine cd (λhl=>?_) (λhl=>?_);have ac:f.little=false:=by simpa using hl
 rw[ac]at hF;refine rx @eQ0 ?_;rw[hx,hk];have c9:=Zjk v k hv ω hb hbo ω;refine cV0 (c9) ?_ ?_;rintro d S1 ⟨hr,h1⟩;cases hr;refine gR0 ?_;exact hF.ret (.tup []) S1 rfl φ (ZIB _) ZIz ⟨rfl,h1⟩;exact λd S1 h=>(WbP.bad h).elim;have ac:f.little=true:=by simpa using hl
 rw[ac]at hF;refine rg ?_;obtain⟨k8,af⟩:∃k8,(k+7) / 8=k8:=⟨_,rfl⟩;have hR:Zkv true v k b n=b++leS v k8:=by unfold Zkv;rw[if_pos rfl,af]
 have hN:Zha true k n=n+8*k8:=by unfold Zha;rw[if_pos rfl,af]
 rw[hR,hN]at hF;refine Ze (fr (k8) (λi Q=>∀b1 n1 u S1,Wb S1 z u b1 n1 rest->WbF z S ob S1 u->BOk b1 n1->n1=n+8*i->b1++leS (v / 2 ^ (8*i)) (k8-i)=b++leS v k8->i<=k8->Q [(0,.d (.ptr z 0)),(4,.loc 4 0),(5,.loc 5 0),(6,.d (.int .i64 ((8*i:Nat):Int)))] [(4,[.str f.name,.int .i64 f.kind,.int .i64 f.bits,.bool f.little,.bool f.loose,.int .i64 f.low,.int .i64 f.high,.int .i64 f.size.base,Yi f.size.terms,.str f.of,.str f.tag,.str f.from_,WS f.cases,.int .i64 f.check,.int .i64 f.key]),(5,[.str x.name,.int .i64 x.int,Zk x.bytes,Yg x.hdrs,ZZ x.parts])] S1) (λn t=>?_) λap=>?_);intro i hn2 b1 n1 u S1 ah ae ab al hp hi;refine rg ?_;refine cd (λhd=>?_) (λhd=>?_);simp only[decide_eq_true_eq]at hd;have hi2:i<k8:=ω;have am:=ZD0 hv (8*i);have ag:=Zwn hv (8*i);have hle:v / 2 ^ (8*i)<=v:=Nat.div_le_self _ _;rw[show k8-i=(k8-(i+1))+1 by omega,ZnH,Nat.div_div_eq_div_mul,show 2 ^ (8*i)*256=2 ^ (8*(i+1)) by rw[Nat.mul_add,Nat.pow_add]]at hp;have ad:=ab;unfold BOk at ad;rw[<-hx]at ag;generalize v / 2 ^ (8*i)=vi at *;have ai:=Zgf [UInt8.ofNat vi] (Zv4 _) ah (by simp only[ZIP,List.length_nil];omega);refine xA (nd2 @ag @am) ?_;refine cV0 (ai) ?_ ?_;rintro d S2 ⟨hr,aq,ao,ak⟩;cases hr;refine gR0 ?_;refine gA ?_;rw[show((8*i:Nat):Int)+8=((8*(i+1):Nat):Int) by omega];refine Zf ?_;exact t ((k8)-(i+1)) ω (i+1) rfl (b1++[UInt8.ofNat vi]) (n1+8) aq S2 ao (ae.trans ak) (ab.bytes _) ω (by rw[ZI1];exact hp) ω;exact λd S1 h=>(WbP.bad h).elim;simp only[decide_eq_false_iff_not]at hd;obtain rfl:i=k8:=ω;rw[Nat.sub_self,ZAK,ZI5]at hp;refine ZT rfl ?_;exact hF.fin (.tup []) _ rfl trivial (ZIB _) ZIz ⟨rfl,u,by rw[<-hp,<-al];exact ah,ae⟩;exact ap _ 0 rfl b n ob S hb .refl hbo rfl ψ ω
section
variable {S:St} {z:Nat} {ob:Option Nat} {b:List UInt8} {n:Nat} {rest:List D} (f:Fld) (x:Val)
def Zj4{v k:Nat}(hb:Wb S z ob b n rest)(hbo:BOk b n)(hx:f.low=v)(hv:v<4611686018427387904)(hk:f.bits=k)(hk2:k<=600)(hn:n<=10000000000):
  Za ZIy 47 [.ptr z 0,.agg f.cells,.agg x.cells] S (WbP S z ob (Zkv f.little v k b n) (Zha f.little k n) rest):=by
 refine Zb (cR 47 f47) λF hF=>?_;rw[x.cells_eq];have hc:=Zft f (⟨[],f.low,[],[],[]⟩:Val) hb hbo hx hv hk hk2 hn;have u:(D.agg [.str [],.int .i64 f.low,.nilsl,.nilsl,.nilsl]).Le (.agg (⟨[],f.low,[],[],[]⟩:Val).cells):=by rw[ZI2];exact Zs2 (.cons (ZIB _) (.cons (ZIB _) (.cons (YU λb h=>by cases h) (.cons (YU λb h=>by cases h) (.cons (YU λb h=>by cases h) .nil)))))
 have t:=Za.leA (.cons (ZIB _) (.cons (ZIB _) (.cons u .nil))) hc;refine rg ?_;refine rx @eQ0 ?_;refine cV (t) ?_ ?_;rintro d S1 ⟨hr,h1⟩;cases hr;refine gR0 ?_;exact hF.fin (.tup []) _ rfl trivial (ZIB _) ZIz ⟨rfl,h1⟩;exact λd S1 h=>(WbP.bad h).elim
def Zj5{v:Nat}(hb:Wb S z ob b n rest)(hbo:BOk b n)(hx:x.int=v)(hv:v<34359738368)(hn:n<=10000000000):
  Za ZIy 48 [.ptr z 0,.agg f.cells,.agg x.cells] S (WbP S z ob (b++Y9 v (Z0 v)) (n+8*(Y9 v (Z0 v)).length) rest):=by
 refine Zb (cR 48 f48) λF hF=>?_;have t:=hbo;unfold BOk at t;have hg:=ZvY v;have hfl:(Y9 v (Z0 v)).length=Z0 v+1:=by unfold Y9;rw[ZII,J6];rfl
 rw[x.cells_eq];refine gG ?_;rw[hx];refine cV (Zf2 hv S) ?_ ?_;rintro d S1 ⟨u,rfl⟩;cases u;refine gR0 ?_;refine rg ?_;have c9:=Kw (Y9 v (Z0 v)) hb ω;refine cV (c9) ?_ ?_;rintro d S1 ⟨u,h1⟩;cases u;refine gR0 ?_;exact hF.fin (.tup []) _ rfl trivial (ZIB _) ZIz ⟨rfl,h1⟩;exact λd S1 h=>(WbP.bad h).elim;rintro d S1 ⟨u,_⟩;cases u
def Zoz(hb:Wb S z ob b n rest)(u:BOk b n)(hl:I x.bytes<=1048576)(hn:n<=10000000000):
  Za ZIy 49 [.ptr z 0,.agg f.cells,.agg x.cells] S (WbP S z ob (b++x.bytes) (n+8*I x.bytes) rest):=by
 refine Zb (cR 49 f49) λF hF=>?_;have t:=u;unfold BOk at t;rw[x.cells_eq];refine gG ?_;have c9:=Kw x.bytes hb ω;refine cV0 (c9) ?_ ?_;rintro d S1 ⟨hr,h1⟩;cases hr;refine gR0 ?_;exact hF.fin (.tup []) _ rfl trivial (ZIB _) ZIz ⟨rfl,h1⟩;exact λd S1 h=>(WbP.bad h).elim
def ZoA{c:UInt8}(hb:Wb S z ob b n rest)(hbo:BOk b n)(hl:I x.bytes<=1048576)(hc:f.low=c.toNat)(hn:n<=10000000000):
  Za ZIy 50 [.ptr z 0,.agg f.cells,.agg x.cells] S (WbP S z ob (b++(x.bytes++[c])) (n+8*(x.bytes++[c]).length) rest):=by
 refine Zb (cR 50 f50) λF hF=>?_;have t:=hbo;unfold BOk at t;have hcl:=c.toNat_lt;have af:IntKind.u8.wrap f.low=(c.toNat:Int):=by rw[hc];exact ZqL ω
 have ac:(x.bytes++[c]).length=I x.bytes+1:=by rw[ZII];rfl
 rw[x.cells_eq];refine gG ?_;have c9:=Kw x.bytes hb ω;refine cV0 (c9) ?_ ?_;rintro d S1 ⟨hr,ob1,ad,u⟩;cases hr;refine gR0 ?_;have hbo1:=hbo.bytes x.bytes;refine xA (nd2 @eQ0 @af) ?_;have c9:=Zgf [c] (Zv4 c) ad (by rw[ZII];simp only[ZIP,List.length_nil];omega);refine cV0 (c9) ?_ ?_;rintro d S2 ⟨hr,ag,ae,ab⟩;cases hr;refine gR0 ?_;exact hF.fin (.tup []) _ rfl trivial (ZIB _) ZIz ⟨rfl,ag,by rw[<-ZI1,ac,Nat.mul_add,<-Nat.add_assoc];exact ae,u.trans ab⟩;exact λd S1 h=>(WbP.bad h).elim;exact λd S1 h=>(WbP.bad h).elim
def Zmd(hb:Wb S z ob b n rest)(hbo:BOk b n)(hh:Kz x.hdrs=true)(ht:Zc4 x.hdrs)(hl:(Kd x.hdrs).length<=1048576)(hn:n<=10000000000):
  Za ZIy 51 [.ptr z 0,.agg f.cells,.agg x.cells] S (WbP S z ob (b++Kd x.hdrs) (n+8*(Kd x.hdrs).length) rest):=by
 refine Zb (cR 51 f51) λF hF=>?_;have u:=hbo;unfold BOk at u;have t:=Zel ht;unfold Zh7 at t;rw[if_pos hh]at t;rw[x.cells_eq];refine gG ?_;refine cl (t) ?_;refine rg ?_;have c9:=Kw (Kd x.hdrs) hb ω;refine cV (c9) ?_ ?_;rintro d S1 ⟨hr,h1⟩;cases hr;refine gR0 ?_;exact hF.fin (.tup []) _ rfl trivial (ZIB _) ZIz ⟨rfl,h1⟩;exact λd S1 h=>(WbP.bad h).elim
def Zsb(hb:Wb S z ob b n rest)(hbo:BOk b n)(hp:ZbI f.bits=true)(hn:n<=110000000):
  Za ZIy 53 [.ptr z 0,.agg f.cells,.agg x.cells] S (WbP S z ob (Zao 0 (upS n f.bits-n).toNat b n) (upS n f.bits).toNat rest):=by
 refine Zb (cR 53 f53) λF hF=>?_;have ab:=hbo;unfold BOk at ab;have hpd:=ZbX hp;have hup:=Zbi (v:=(n:Int)) (of:=f.bits) ω ω;obtain⟨bD,hz,hB,hne⟩:=id hb;have ac:=Zfc (v:=(n:Int)) hp ⟨ω,ω⟩;obtain⟨p,t⟩:∃p:Nat,upS n f.bits-n=p:=⟨(upS n f.bits-n).toNat,ω⟩;have u:(upS n f.bits).toNat=n+p:=ω;rw[t,Int.toNat_natCast,u]at hF;refine rg ?_;refine rx (nd2 @eQ0 @hz) ?_;refine cl0 (ac) ?_;rw[t];refine rg ?_;have c9:=Zjk 0 p (by decide) ω hb hbo ω;refine cV (c9) ?_ ?_;rintro d S1 ⟨hr,h1⟩;cases hr;refine gR0 ?_;exact hF.fin (.tup []) _ rfl trivial (ZIB _) ZIz ⟨rfl,h1⟩;exact λd S1 h=>(WbP.bad h).elim
end
def Zcy(p s:Str)(hp:I p<=110000000)(hs:I s<=110000000):Zd ZIy 87 [.str p,.str s] (.str (ZN p s)):=by
 refine Zg (cR 87 f87) λF st t=>?_;have u:=ZN.eq_1 p s;refine gG ?_;refine cd (λh=>?_) (λh=>?_);rw[if_pos (by simpa using h)]at u;rw[u]at t;refine rg ?_;refine ro t ?_;rfl;rw[if_neg (by simpa using h)]at u;rw[u]at t;refine rg ?_;refine⟨by unfold big;omega,by simp only[ZII,ZIP,List.length_nil];unfold big;omega,?_⟩;refine ro t ?_;rfl
def ZC2{d:Nat}(h:d<10):(Utf8.encode ((48+d:Nat):Int)).data.toList=[UInt8.ofNat (48+d)]:=by
 rcases(by omega:d=0\/d=1\/d=2\/d=3\/d=4\/d=5\/d=6\/d=7\/d=8\/d=9) with rfl|rfl|rfl|rfl|rfl|rfl|rfl|rfl|rfl|rfl<;>rfl
def Zqa(n:Nat):Str:=if n=0 then [] else ZaN n
def Zyn{n}(h:n≠0):Zqa n=Zqa (n / 10)++[UInt8.ofNat (48+n % 10)]:=by
 unfold Zqa;rw[if_neg h];by_cases t:n<10;rw[KU t,if_pos ω,Nat.mod_eq_of_lt t];rfl;rw[Zip t,if_neg ω,KU (n:=n % 10) ω]
def Znt{n:Nat}(h0:n≠0)(hn:n<1000000):Zd ZIy 113 [.int .i64 n] (.str (ZaN n)):=by
 refine Zg (cR 113 f113) λF st ab=>?_;have hR:Zqa n=ZaN n:=by unfold Zqa;rw[if_neg h0]
 have hl0:=Ziq n;generalize ZaN n=R at *;refine rg ?_;refine Zc (Ze ?_);refine lpU (λQ=>∀(k:Nat) (m:Nat) s,m<k->m<1000000->Zqa m++s=R->Q F [(0,.d (.int .i64 m)),(2,.d (.str s))] [] st) ?_ λag=>?_
 .intro k;induction k with
  |zero=>intro m s h;omega
  |succ k ih =>
  intro m s hk hm hs;refine rg ?_;refine cd (λhd=>?_) (λhd=>?_);simp only[decide_eq_true_eq]at hd;have ad:m≠0:=ω;rw[Zyn ad,ZI1]at hs;have u:(m:Int).tmod 10=((m % 10:Nat):Int):=by rw[Int.tmod_eq_emod_of_nonneg ω];omega
  have t:(m:Int).tdiv 10=((m / 10:Nat):Int):=by rw[Int.tdiv_eq_ediv_of_nonneg ω];omega
  have ac:(48:Int)+((m % 10:Nat):Int)=((48+m % 10:Nat):Int):=ω;have hw:IntKind.i32.wrap ((48+m % 10:Nat):Int)=((48+m % 10:Nat):Int):=Zai .i32 _ (by have h1:IntKind.i32.min=-2147483648:=rfl;have h2:IntKind.i32.max=2147483647:=rfl;unfold inR;omega);have hu:=ZC2 (d:=m % 10) (Nat.mod_lt _ (by decide));have af:=congrArg List.length hs;simp only[ZII,ZIP,List.length_nil]at af;have hsn:I s<=R.length:=ω;have hc:[UInt8.ofNat (48+m % 10)]++s=UInt8.ofNat (48+m % 10)::s:=rfl;refine rx (nd2 @u (nd2 @ac (nd2 @hw @hu))) ?_;refine⟨by decide,ω,ω,ω,ω,by unfold big;omega,by unfold big;omega,?_⟩;refine xA @t ?_;refine Zf ?_;exact ih (m / 10) (UInt8.ofNat (48+m % 10)::s) ω ω hs;simp only[decide_eq_false_iff_not]at hd;obtain rfl:m=0:=ω;have ae:s=R:=by rw[<-hs];rfl
  subst ae;refine rg ?_;refine ro ab ?_;rfl
 exact ag (n+1) n [] ω hn (by rw[ZI5];exact hR)
def JN(a i:Int):List UInt8->Int
 | []=>a
 |x::r=>JN ((a+(if i % 2=0 then (x.toNat:Int)*256 else x.toNat)) % 65536+(a+(if i % 2=0 then (x.toNat:Int)*256 else x.toNat)) / 65536) (i+1) r
def Zjh:∀{l:List UInt8} {a i:Int},0<=a/\a<65536->0<=JN a i l/\JN a i l<65536
 | [],_,_,h=>h
 |x::r,a,i,h=>by unfold JN;refine Zjh ?_;have:=x.toNat_lt;split<;>omega
def Zin(l:List UInt8){T:St}{z:Nat}{a b c k:Int}(hz:T z=sO (.cells [.int .i64 a,.int .i64 b,.int .i64 c,.int .i64 k]))(ha:0<=a/\a<65536)(hc:0<=c)(hl:c+I l<=4611686018427387904):
  Za ZIy 203 [.ptr z 0,Zk l] T λr S=>r=.ret (.tup [])/\S=T.upd z (.cells [.int .i64 (JN a c l),.int .i64 b,.int .i64 (c+I l),.int .i64 k]):=by
 refine Zb (cR 203 f203) λF hF=>?_;refine rx @KX ?_;refine Ze (fr (I l) (λi Q=>∀e S,S=T.upd z (.cells [.int .i64 e,.int .i64 b,.int .i64 c,.int .i64 k])->JN e (c+i) (l.drop i)=JN a c l->(0<=e/\e<65536)->i<=I l->Q [(0,.d (.ptr z 0)),(1,.d (Zk l)),(7,.d (Zk l)),(8,.d (.int .i64 (I l))),(9,.d (.int .i64 i))] [] S) (λn t=>?_) λae=>?_);intro i hn2 e S hS hw he hi;have u:S z=sO (.cells [.int .i64 e,.int .i64 b,.int .i64 c,.int .i64 k]):=by rw[hS];exact ZIE _ _ _
 have ac:∀o,S.upd z o=T.upd z o:=λo=>by rw[hS,ZIR]
 refine rg ?_;refine Zc (Zl rfl trivial (λhd=>?_) (λhd=>?_));simp only[decide_eq_true_eq]at hd;have hx:=(l.getD i dE).toNat_lt;rw[Wh (show i<I l by omega),JN]at hw;refine xA (nd2 @ZwJ @u8C.eq_1) ?_;refine rg ?_;rw[Qk ω];generalize (l.getD i dE).toNat=x at *;refine rx @u ?_;rw[Int.tmod_eq_emod_of_nonneg (show 0<=c+(i:Int) by omega)];refine aa ?_;refine jU [0] (λQ=>∀y:Int,0<=y->y<=65280->JN ((e+y) % 65536+(e+y) / 65536) (c+i+1) (l.drop (i+1))=JN a c l->Q F [(0,.d (.ptr z 0)),(1,.d (Zk l)),(6,.d (.int .i64 y)),(7,.d (Zk l)),(8,.d (.int .i64 (I l))),(9,.d (.int .i64 i))] [] S) ?_ λj1=>?_;intro y hy0 hy1 ad;refine xA @u ?_;refine rx (nd2 @ZIE @ac) ?_;rw[Int.tmod_eq_emod_of_nonneg (show 0<=e+y by omega),Int.tdiv_eq_ediv_of_nonneg (show 0<=e+y by omega)];refine aa ?_;refine gA ?_;refine Zf ?_;exact t ((I l)-(i+1)) ω (i+1) rfl _ _ (by rw[ZIR]) (by rw[<-ad];congr 1;omega) ω ω;refine cd (λh2=>?_) (λh2=>?_);simp only[decide_eq_true_eq]at h2;rw[if_pos h2]at hw;have ab:J8 .i64 (x:Int) 8=x*256:=rfl;refine rx @ab ?_;refine⟨ω,ω,ω,?_⟩;exact j1 _ ω ω hw;simp only[decide_eq_false_iff_not]at h2;rw[if_neg h2]at hw;refine ZK ?_;refine kE [0,1,6,7,8,9] ?_;exact j1 _ ω ω hw;simp only[decide_eq_false_iff_not]at hd;obtain rfl:i=I l:=ω;rw[List.drop_length,JN]at hw;refine xA (nd2 @u @KX) ?_;exact hF.fin (.tup []) _ rfl trivial (ZIB _) ZIz ⟨rfl,by rw[hS,ZIR,hw]⟩;exact ae _ 0 rfl a T (St.upd_self hz).symm ψ ha ω
def QQ(a b:Int):List UInt8->Int×Int
 | []=>(a,b)
 |x::r=>QQ ((a+x.toNat) % 65521) ((b+(a+x.toNat) % 65521) % 65521) r
def Zif:∀{l:List UInt8} {a b:Int},(0<=a/\a<65521)->(0<=b/\b<65521)->(0<=(QQ a b l).1/\(QQ a b l).1<65521)/\0<=(QQ a b l).2/\(QQ a b l).2<65521
 | [],_,_,h,h'=>⟨h,h'⟩
 |x::r,a,b,h,h'=>by unfold QQ;exact Zif ω ω
def Zim(l:List UInt8){T:St}{z:Nat}{a b c k:Int}(hz:T z=sO (.cells [.int .i64 a,.int .i64 b,.int .i64 c,.int .i64 k]))(ha:0<=a/\a<65521)(hb:0<=b/\b<65521)(hc:0<=c)(hl:c+I l<=4611686018427387904):
  Za ZIy 207 [.ptr z 0,Zk l] T λr S=>r=.ret (.tup [])/\S=T.upd z (.cells [.int .i64 (QQ a b l).1,.int .i64 (QQ a b l).2,.int .i64 (c+I l),.int .i64 k]):=by
 refine Zb (cR 207 f207) λF hF=>?_;refine rx @KX ?_;refine Ze (fr (I l) (λi Q=>∀e g S,S=T.upd z (.cells [.int .i64 e,.int .i64 g,.int .i64 c,.int .i64 k])->QQ e g (l.drop i)=QQ a b l->(0<=e/\e<65521)->(0<=g/\g<65521)->i<=I l->Q [(0,.d (.ptr z 0)),(1,.d (Zk l)),(6,.d (Zk l)),(7,.d (.int .i64 (I l))),(8,.d (.int .i64 i))] [] S) (λn t=>?_) λad=>?_);intro i hn2 e g S hS hw he hg hi;have u:S z=sO (.cells [.int .i64 e,.int .i64 g,.int .i64 c,.int .i64 k]):=by rw[hS];exact ZIE _ _ _
 have ab:∀o,S.upd z o=T.upd z o:=λo=>by rw[hS,ZIR]
 refine rg ?_;refine Zc (Zl rfl trivial (λhd=>?_) (λhd=>?_));simp only[decide_eq_true_eq]at hd;have hx:=(l.getD i dE).toNat_lt;rw[Wh (show i<I l by omega),QQ]at hw;have ac:IntKind.i64.wrap ((l.getD i dE).toNat:Int)=(l.getD i dE).toNat:=Qk ω;refine xA (nd2 @ZwJ @u8C.eq_1) ?_;generalize (l.getD i dE).toNat=x at *;refine rx (nd2 @u @ac) ?_;rw[Int.tmod_eq_emod_of_nonneg (show 0<=e+(x:Int) by omega)];refine aa ?_;generalize he2:(e+(x:Int)) % 65521=e2 at *;refine rx (nd2 @ab (nd2 @ZIE @ZIR)) ?_;rw[Int.tmod_eq_emod_of_nonneg (show 0<=g+e2 by omega)];refine aa ?_;refine gA ?_;refine Zf ?_;exact t ((I l)-(i+1)) ω (i+1) rfl _ _ _ rfl hw ω ω ω;simp only[decide_eq_false_iff_not]at hd;obtain rfl:i=I l:=ω;rw[List.drop_length,QQ]at hw;refine xA (nd2 @u @KX) ?_;exact hF.fin (.tup []) _ rfl trivial (ZIB _) ZIz ⟨rfl,by rw[hS,ZIR,<-hw]⟩;exact ad _ 0 rfl a b T (St.upd_self hz).symm ψ ha hb ω
def ZjQ{a b c:Int}(ha:0<=a/\a<65536):Zd ZIy 204 [.agg [.int .i64 a,.int .i64 b,.int .i64 c]] (.int .i64 (65535-a)):=by
 refine Zg (cR 204 f204) λF st t=>?_;refine rg ?_;refine gA ?_;refine ri t ?_;rfl
def ZjR{a b c:Int}:Zd ZIy 206 [.agg [.int .i64 a,.int .i64 b,.int .i64 c]] (.int .i64 a):=by
 refine Zg (cR 206 f206) λF st t=>?_;refine gG ?_;refine ri t ?_;rfl
def ZjS{a b c:Int}(ha:0<=a/\a<65521)(hb:0<=b/\b<65521):Zd ZIy 208 [.agg [.int .i64 a,.int .i64 b,.int .i64 c]] (.int .i64 (b*65536+a)):=by
 refine Zg (cR 208 f208) λF st t=>?_;refine rg ?_;refine gA ?_;refine ri t ?_;rfl
def Zwu{n m:Nat}(hn:n<4611686018427387904)(hm:m<4611686018427387904):Qj .xor .i64 (n:Int) (m:Int)=((n ^^^ m:Nat):Int):=by
 have h1:n ^^^ m<2 ^ 62:=Nat.xor_lt_two_pow hn hm;unfold Qj;simp only;have t:(BitVec.ofInt 64 (n:Int)).toNat=n:=by rw[BitVec.toNat_ofInt];omega
 have u:(BitVec.ofInt 64 (m:Int)).toNat=m:=by rw[BitVec.toNat_ofInt];omega
 show IntKind.i64.wrap ((BitVec.ofInt 64 (n:Int) ^^^ BitVec.ofInt 64 (m:Int)).toNat:Int)=_;rw[BitVec.toNat_xor,t,u];exact Qk ω
def Zir(c:Nat):Nat:=if 65536<=c*2 then c*2 % 65536 ^^^ 4129 else c*2
def Zis:Nat->Nat->Nat
 |0,c=>c
 |n+1,c=>Zis n (Zir c)
def ZgV(n a:Nat):List UInt8->Nat
 | []=>a
 |x::r=>ZgV n (Zis n (a ^^^ x.toNat*256)) r
def ZAl(n a:Nat):ZgV n a []=a:=rfl
def Zre(n a:Nat)(x:UInt8)(r:List UInt8):ZgV n a (x::r)=ZgV n (Zis n (a ^^^ x.toNat*256)) r:=rfl
def Zyq(n c:Nat):Zis (n+1) c=Zis n (Zir c):=rfl
def Zyr(c:Nat):Zis 0 c=c:=rfl
def ZvO{c:Nat}(h:c<65536):Zir c<65536:=by
 unfold Zir;split;exact Nat.xor_lt_two_pow (n:=16) (Nat.mod_lt _ (by decide)) (by decide);omega
def ZvP:∀{n c:Nat},c<65536->Zis n c<65536
 |0,_,h=>h
 |n+1,c,h=>ZvP (n:=n) (ZvO h)
def Zys{a:Nat}(h:a<65536)(x:UInt8):a ^^^ x.toNat*256<65536:=Nat.xor_lt_two_pow (n:=16) h (by have:=x.toNat_lt;omega)
def ZvQ{n:Nat}:∀{l:List UInt8} {a:Nat},a<65536->ZgV n a l<65536
 | [],_,h=>h
 |x::r,a,h=>by rw[Zre];exact ZvQ (ZvP (Zys h x))
structure EqN(a b:Nat):Prop where
 h:a=b
def Zhy(l:List UInt8){T:St}{z a:Nat}{b c k:Int}(hz:T z=sO (.cells [.int .i64 a,.int .i64 b,.int .i64 c,.int .i64 k]))(ha:a<65536)(hc:0<=c)(hl:c+I l<=4611686018427387904):
  Za ZIy 205 [.ptr z 0,Zk l] T λr S=>r=.ret (.tup [])/\S=T.upd z (.cells [.int .i64 (ZgV 8 a l),.int .i64 b,.int .i64 (c+I l),.int .i64 k]):=by
 refine Zb (cR 205 f205) λF hF=>?_;refine rx @KX ?_;refine Ze (fr (I l) (λi Q=>∀(e:Nat) S,S=T.upd z (.cells [.int .i64 e,.int .i64 b,.int .i64 c,.int .i64 k])->EqN (ZgV 8 e (l.drop i)) (ZgV 8 a l)->e<65536->i<=I l->Q [(0,.d (.ptr z 0)),(1,.d (Zk l)),(6,.d (Zk l)),(7,.d (.int .i64 (I l))),(8,.d (.int .i64 i))] [] S) (λn ad=>?_) λax=>?_);intro i hn2 e S hS hw he hi;have ai:S z=sO (.cells [.int .i64 e,.int .i64 b,.int .i64 c,.int .i64 k]):=by rw[hS];exact ZIE _ _ _
 have ar:∀o,S.upd z o=T.upd z o:=λo=>by rw[hS,ZIR]
 refine rg ?_;refine Zc (Zl rfl trivial (λhd=>?_) (λhd=>?_));simp only[decide_eq_true_eq]at hd;have hx:=(l.getD i dE).toNat_lt;have aj:∀c0,EqN (e ^^^ (l.getD i dE).toNat*256) c0->c0<65536:=λc0 h=>by rw[<-h.h];exact Zys he _
 rw[Wh (show i<I l by omega),Zre]at hw;have au:IntKind.i64.wrap ((l.getD i dE).toNat:Int)=(l.getD i dE).toNat:=Qk ω;refine xA (nd2 @ZwJ @u8C.eq_1) ?_;generalize (l.getD i dE).toNat=x at *;have ap:J8 .i64 (x:Int) 8=((x*256:Nat):Int):=by show(x:Int)*256=_;omega
 obtain⟨c0,ac⟩:∃c0,EqN (e ^^^ x*256) c0:=⟨_,⟨rfl⟩⟩;have av:Qj .xor .i64 (e:Int) ((x*256:Nat):Int)=(c0:Int):=by rw[<-ac.h];exact Zwu ω ω
 have ab:=aj c0 ac;rw[ac.h]at hw;clear aj ac;refine rx (nd2 @ai (nd2 @au (nd2 @ap (nd2 @av @ar)))) ?_;refine⟨ω,ω,ω,?_⟩;refine rg ?_;refine Ze (fr (8) (λj Q=>∀(g:Nat) S2,S2=T.upd z (.cells [.int .i64 g,.int .i64 b,.int .i64 c,.int .i64 k])->EqN (Zis (8-j) g) (Zis 8 c0)->g<65536->j<=8->Q [(0,.d (.ptr z 0)),(1,.d (Zk l)),(6,.d (Zk l)),(7,.d (.int .i64 (I l))),(8,.d (.int .i64 i)),(22,.d (.int .i64 j))] [] S2) (λn t=>?_) λao=>?_);intro j hn3 g S2 ae u hg hj;have ah:S2 z=sO (.cells [.int .i64 g,.int .i64 b,.int .i64 c,.int .i64 k]):=by rw[ae];exact ZIE _ _ _
 have al:∀o,S2.upd z o=T.upd z o:=λo=>by rw[ae,ZIR]
 refine rg ?_;refine Zc (Zl rfl trivial (λag=>?_) (λag=>?_));simp only[decide_eq_true_eq]at ag;have ak:J8 .i64 (g:Int) 1=((g*2:Nat):Int):=by show(g:Int)*2=_;omega
 rw[show 8-j=(8-(j+1))+1 by omega,Zyq]at u;have af:∀y,EqN (Zir g) y->y<65536:=λy h=>by rw[<-h.h];exact ZvO hg
 refine rx (nd2 @ah (nd2 @ak @al)) ?_;refine⟨ω,ω,ω,?_⟩;refine rx @ZIE ?_;refine cd (λab=>?_) (λab=>?_);simp only[decide_eq_true_eq]at ab;obtain⟨y,hy⟩:∃y,EqN (g*2 % 65536 ^^^ 4129) y:=⟨_,⟨rfl⟩⟩;have hb:EqN (Zir g) y:=⟨by unfold Zir;rw[if_pos ω];exact hy.h⟩;have am:Qj .xor .i64 (((g*2:Nat):Int) % 65536) 4129=(y:Int):=by rw[<-hy.h,<-Zwu (n:=g*2 % 65536) (m:=4129) ω ω];rfl
 have aq:(((g*2:Nat):Int)).tmod 65536=((g*2:Nat):Int) % 65536:=Int.tmod_eq_emod_of_nonneg ω;have aw:=af y hb;rw[hb.h]at u;clear af hb hy;refine xA (nd2 @ZIE (nd2 @aq (nd2 @am @ZIR))) ?_;refine gA ?_;refine Zf ?_;exact t ((8)-(j+1)) ω (j+1) rfl _ _ rfl u aw ω;simp only[decide_eq_false_iff_not]at ab;have hb:EqN (Zir g) (g*2):=⟨by unfold Zir;rw[if_neg ω]⟩;rw[hb.h]at u;clear af hb;refine gA ?_;refine Zf ?_;exact t ((8)-(j+1)) ω (j+1) rfl _ _ rfl u ω ω;simp only[decide_eq_false_iff_not]at ag;obtain rfl:j=8:=ω;rw[Nat.sub_self,Zyr]at u;rw[<-u.h]at hw;refine gA ?_;refine Zf ?_;exact ad ((I l)-(i+1)) ω (i+1) rfl _ S2 ae hw hg ω;exact ao _ 0 rfl c0 _ rfl ⟨rfl⟩ ab ω;simp only[decide_eq_false_iff_not]at hd;obtain rfl:i=I l:=ω;rw[List.drop_length,ZAl]at hw;refine xA (nd2 @ai @KX) ?_;exact hF.fin (.tup []) _ rfl trivial (ZIB _) ZIz ⟨rfl,by rw[hS,ZIR,<-hw.h]⟩;exact ax _ 0 rfl a T (St.upd_self hz).symm ⟨ψ⟩ ha ω
def Zz9(n:Int):Int:=if n=1 then 0 else if n=2 then 65535 else 1
def ZjU(n:Int)(l:List UInt8):Int×Int:=if n=1 then (JN 0 0 l,0) else if n=2 then (ZgV 8 65535 l,0) else QQ 1 0 l
def Zdd(n:Int)(l:List UInt8):Int:=if n=1 then 65535-JN 0 0 l else if n=2 then ZgV 8 65535 l else (QQ 1 0 l).2*65536+(QQ 1 0 l).1
def ZDj(n:Int):FuncId:=if n=1 then 203 else if n=2 then 205 else 207
def ZDi(n:Int):FuncId:=if n=1 then 204 else if n=2 then 206 else 208
def Zcv{n:Int}(h:n=1\/n=2\/n=3):Zd ZIy 118 [.int .i64 n] (.tup [.agg [.int .i64 (W8 n),.int .i64 (Zz9 n),.int .i64 0,.int .i64 0,.fn (.func (ZDj n)) [] [],.fn (.func (ZDi n)) [] []],.bool true]):=by
 refine ZmC h ?_;rcases h with rfl|rfl|rfl<;>rfl
def ZAb{n:Int}(h:n=1\/n=2\/n=3)(l:List UInt8):0<=Zdd n l/\Zdd n l<4294967296/\(n≠3->Zdd n l<65536):=by
 unfold Zdd;rcases h with rfl|rfl|rfl;have:=Zjh (l:=l) (a:=0) (i:=0) ω;simp;omega;have:=ZvQ (n:=8) (l:=l) (a:=65535) ω;simp;omega;have:=Zif (l:=l) (a:=1) (b:=0) ω ω;simp;omega
def Zew{T:St}{z:Nat}{a b c k:Int}(hz:T z=sO (.cells [.int .i64 a,.int .i64 b,.int .i64 c,.int .i64 k]))(hk:k≠0):ZO ZIy 165 [.ptr z 0] T (.bool false) T:=by
 refine ZG (cR 165 f165) λab F t=>?_;clear ab;have u:dC (k=0)=false:=decide_eq_false hk;refine rg ?_;refine rx (nd2 @hz @u) ?_;exact t rfl φ (ZIB _) ZIz
def Ztt{n:Int}(h:n=1\/n=2\/n=3)(T:St):Za ZIy 115 [.int .i64 n] T λr S=>∃z,T z=nO/\r=.ret (.tup [.ptr z 0,.int .i64 0])/\S=T.upd z (.cells [.int .i64 (Zz9 n),.int .i64 0,.int .i64 0,.int .i64 n]):=by
 refine Zb (cR 115 f115) λF t=>?_;refine gG ?_;refine cl (Zcv h) ?_;refine rg ?_;refine iG ?_;refine xP 17 λz u=>?_;exact t.ret _ _ rfl (by first|trivial|simp) (ZIB _) ZIz ⟨z,u,rfl,rfl⟩
def ZjP{n:Int}(h:n=1\/n=2\/n=3)(l:List UInt8)(hl:I l<=4611686018427387904){T:St}{z:Nat}(t:T z=sO (.cells [.int .i64 (Zz9 n),.int .i64 0,.int .i64 0,.int .i64 n])):
  Za ZIy 116 [.ptr z 0,Zk l] T λr S=>r=.ret (.int .i64 0)/\S=T.upd z (.cells [.int .i64 (ZjU n l).1,.int .i64 (ZjU n l).2,.int .i64 (I l),.int .i64 n]):=by
 have hw:Za ZIy (ZDj n) [.ptr z 0,Zk l] T λr S=>r=.ret (.tup [])/\S=T.upd z (.cells [.int .i64 (ZjU n l).1,.int .i64 (ZjU n l).2,.int .i64 (I l),.int .i64 n]):=by rcases h with rfl|rfl|rfl;have:=Zin l t (by decide) (by decide) ω;rw[Int.zero_add]at this;exact this;have:=Zhy l (a:=65535) t (by decide) (by decide) ω;rw[Int.zero_add]at this;exact this;have:=Zim l t (by decide) (by decide) (by decide) ω;rw[Int.zero_add]at this;exact this
 refine Zb (cR 116 f116) λF hF=>?_;refine gG ?_;have c9:=Zew t ω;refine ct (c9) ?_;refine i0 ?_;refine rx @t ?_;refine cl (Zcv h) ?_;refine rg ?_;refine vV0 (hw.V (first:=[]) (caps:=[])) ?_ ?_;rintro d S ⟨u,hS⟩;cases u;refine gR0 ?_;refine rg ?_;exact hF.ret _ S rfl φ (ZIB _) ZIz ⟨rfl,hS⟩;rintro d S ⟨u,_⟩;cases u
def Znn{n:Int}(h:n=1\/n=2\/n=3)(l:List UInt8){T:St}{z:Nat}(u:T z=sO (.cells [.int .i64 (ZjU n l).1,.int .i64 (ZjU n l).2,.int .i64 (I l),.int .i64 n])):
  Za ZIy 117 [.ptr z 0] T λr S=>r=.ret (.tup [.int .i64 (Zdd n l),.int .i64 0])/\S=T:=by
 have hw:Zd ZIy (ZDi n) [.agg [.int .i64 (ZjU n l).1,.int .i64 (ZjU n l).2,.int .i64 (I l)]] (.int .i64 (Zdd n l)):=by rcases h with rfl|rfl|rfl;exact ZjQ (Zjh (by decide));exact ZjR;have:=Zif (l:=l) (a:=1) (b:=0) ω ω;exact ZjS this.1 this.2
 refine Zb (cR 117 f117) λF hF=>?_;refine gG ?_;have c9:=Zew u ω;refine ct (c9) ?_;refine i0 ?_;refine rx @u ?_;refine cl (Zcv h) ?_;refine rx @u ?_;refine vV0 ((hw T).V (first:=[]) (caps:=[])) ?_ ?_;rintro d S ⟨t,hS⟩;obtain rfl:=hS.symm;cases t;refine gR0 ?_;exact hF.ret _ T rfl φ (ZIB _) ZIz ⟨rfl,rfl⟩;rintro d S ⟨t,_⟩;cases t
def Zu1{n:Int}(h:n=1\/n=2\/n=3)(l:List UInt8)(hl:I l<=4611686018427387904):Zd ZIy 85 [.int .i64 n,Zk l] (.tup [.int .i64 (Zdd n l),.int .i64 0]):=by
 intro T;refine Zb (cR 85 f85) λF hF=>?_;refine gG ?_;refine cV (Ztt h T) ?_ ?_;rintro d S ⟨z,hz,t,u⟩;subst u;cases t;refine gR0 ?_;refine rg ?_;refine iG ?_;refine cV (ZjP h l hl (ZIE _ _ _)) ?_ ?_;rintro d S ⟨t,u⟩;rw[ZIR]at u;subst u;cases t;refine gR0 ?_;refine rg ?_;refine cV (Znn h l (ZIE _ _ _)) ?_ ?_;rintro d S ⟨t,u⟩;obtain rfl:=u.symm;cases t;refine gR0 ?_;exact hF.ret _ T rfl φ (ZIB _) (ZIZ _ hz) ⟨rfl,rfl⟩;rintro d S ⟨t,_⟩;cases t;rintro d S ⟨t,_⟩;cases t;rintro d S ⟨_,_,t,_⟩;cases t
def KH(v:Int)(k:Nat):UInt8:=UInt8.ofNat (v.toNat / 2 ^ k)
def ZaJ(n v:Int):List UInt8:=if n=3 then [KH v 24,KH v 16,KH v 8,KH v 0] else [KH v 8,KH v 0]
def Zl6{v:Int}(h:0<=v)(k:Nat):IntKind.u8.wrap (v / 2 ^ k)=((KH v k).toNat:Int):=by
 have t:IntKind.u8.wrap (v / 2 ^ k)=(v / 2 ^ k) % 256:=rfl;rw[t];unfold KH;obtain⟨n,rfl⟩:∃n:Nat,v=n:=⟨v.toNat,ω⟩;rw[Int.toNat_natCast,UInt8.toNat_ofNat'];have:((n:Int) / 2 ^ k)=((n / 2 ^ k:Nat):Int):=by simp
 rw[this];omega
def Zp6{n v:Int}(h:n=1\/n=2\/n=3)(hv:0<=v)(hv2:v<4294967296)(hv3:n≠3->v<65536):Zd ZIy 86 [.int .i64 n,.int .i64 v] (.tup [Zk (ZaJ n v),.int .i64 0]):=by
 intro T;refine Zb (cR 86 f86) λF hF=>?_;have hb:W8 n=if n=3 then 32 else 16:=rfl
 have ac:J8 .i64 1 (W8 n)=if n=3 then 4294967296 else 65536:=by rcases h with rfl|rfl|rfl<;>rfl
 refine gG ?_;refine cl (Zcv h) ?_;refine rg ?_;refine⟨λ_=>by rw[ac,hb];split<;>omega,?_⟩;have hc:(dC (v<0) ||decide (J8 .i64 1 (W8 n)<=v))=false:=by rw[ac,Bool.or_eq_false_iff,decide_eq_false_iff_not,decide_eq_false_iff_not];split<;>omega
 rw[hc];refine i0 ?_;have ab:∀k:Nat,k<=64->QE .i64 v (k:Int)=v / 2 ^ k:=λk hk=>by unfold QE;rw[Int.fdiv_eq_ediv_of_nonneg _ (by exact_mod_cast Nat.zero_le _)];simp[IntKind.bits,Nat.min_eq_left hk]
 have ae:QE .i64 v 24=v / 2 ^ 24:=ab 24 (by decide);have ad:QE .i64 v 16=v / 2 ^ 16:=ab 16 (by decide);have h8:QE .i64 v 8=v / 2 ^ 8:=ab 8 (by decide);have ag:=Zl6 hv 24;have af:=Zl6 hv 16;have w8:=Zl6 hv 8;have w0:=Zl6 hv 0;rw[Int.pow_zero,Int.ediv_one]at w0;refine rx (nd2 @ae (nd2 @ad (nd2 @h8 (nd2 @ag (nd2 @af (nd2 @w8 @w0)))))) ?_;refine⟨ω,ω,ω,ω,ω,ω,ω,ω,ω,?_⟩;have e3:(32:Int).tdiv 8=4:=rfl;have e2:(16:Int).tdiv 8=2:=rfl;by_cases h3:n=3
 .rw[if_pos h3]at hb;have t:ZaJ n v=[KH v 24,KH v 16,KH v 8,KH v 0]:=by unfold ZaJ;rw[if_pos h3]
  refine xA (nd2 @hb @e3) ?_;have u:(D.sl .full 4 1 λi=>ZV [.int .u8 0] ([0,1,2,3].zip [.int .u8 (KH v 24).toNat,.int .u8 (KH v 16).toNat,.int .u8 (KH v 8).toNat,.int .u8 (KH v 0).toNat]) i).Le (Zk (ZaJ n v)):=by
   rw[t];refine Zgb rfl λi hi=>?_
   match i,hi with
   |0,_=>rfl
   |1,_=>rfl
   |2,_=>rfl
   |3,_=>rfl
  have c9:=Za.leA (.cons u .nil) (QF (ZaJ n v) (by rw[t];simp) T);refine cV (c9) ?_ ?_;rintro d S ⟨hr,hS⟩;obtain rfl:=hS.symm;cases hr;refine gR0 ?_;exact hF.ret _ T rfl φ (ZIB _) ZIz ⟨rfl,rfl⟩;rintro d S ⟨hr,_⟩;cases hr
 rw[if_neg h3]at hb;have t:ZaJ n v=[KH v 8,KH v 0]:=by unfold ZaJ;rw[if_neg h3]
 refine xA (nd2 @hb @e2) ?_;have u:(D.sl .full (4-(4-2):Int).toNat 1 λi=>ZV [.int .u8 0] ([0,1,2,3].zip [.int .u8 (KH v 24).toNat,.int .u8 (KH v 16).toNat,.int .u8 (KH v 8).toNat,.int .u8 (KH v 0).toNat]) ((4-2:Int).toNat+i)).Le (Zk (ZaJ n v)):=by
  rw[t];refine Zgb rfl λi hi=>?_
  match i,hi with
  |0,_=>rfl
  |1,_=>rfl
 have c9:=Za.leA (.cons u .nil) (QF (ZaJ n v) (by rw[t];simp) T);refine cV (c9) ?_ ?_;rintro d S ⟨hr,hS⟩;obtain rfl:=hS.symm;cases hr;refine gR0 ?_;exact hF.ret _ T rfl φ (ZIB _) ZIz ⟨rfl,rfl⟩;rintro d S ⟨hr,_⟩;cases hr
structure Wr where
 b:List UInt8
 n:Nat
 sums:List (Str×Int)
def Wr.add(w:Wr)(l:List UInt8):Wr:=⟨w.b++l,w.n+8*I l,w.sums⟩
def Wr.num(w:Wr)(f:Fld)(v:Int):Wr:=⟨Zkv f.little v.toNat f.bits.toNat w.b w.n,Zha f.little f.bits.toNat w.n,w.sums⟩
def Wr.app(w:Wr)(chg:List UInt8->List UInt8)(o:Wr):Wr:=⟨w.b++chg o.b,w.n+8*(chg o.b).length,w.sums++o.sums⟩
def Wr.pad(w:Wr)(k:Int):Wr:=⟨Zao 0 (upS w.n k-w.n).toNat w.b w.n,(upS w.n k).toNat,w.sums⟩
def Wr.chk(w:Wr)(path:Str)(f:Fld)(E:List (Str×Int)):Wr :=
 let c:=Zdd f.check (w.b.drop ((Zp f.from_ E).getD 0).toNat)
 ⟨w.b++ZaJ f.check c,w.n+8*(ZaJ f.check c).length,w.sums++[(ZN path f.name,c)]⟩
def YZ(chg:List UInt8->List UInt8)(rec:Val->Str->Wr)(q:Str)(ps:List Val):Nat->Nat->Wr->Wr
 |0,_,w=>w
 |n+1,j,w=>YZ chg rec q ps n (j+1) (w.app chg (rec (ps.getD j dE) (ZN q (Ym ps j))))
def Kg(rec:Val->Str->Wr)(path:Str)(f:Fld)(x:Val)(E:List (Str×Int))(w:Wr):Wr :=
 if f.kind=1 then w.num f x.int
 else if f.kind=2 then w.num f f.low
 else if f.kind=3 then w.add (Y9 x.int.toNat (Z0 x.int.toNat))
 else if f.kind=4 then w.add x.bytes
 else if f.kind=5 then w.add (x.bytes++[UInt8.ofNat f.low.toNat])
 else if f.kind=6 then w.add (Kd x.hdrs)
 else if f.kind=10 then w.pad f.bits
 else if f.kind=11 then w.chk path f E
 else YZ (if f.kind=12 then KQ f.key.toNat else id) rec (ZN path f.name) x.parts (I x.parts) 0 w
def xAt(l:List Fld)(ps:List Val)(i:Nat):Val:=if YG (l.getD i dE) then ps.getD (vfs (l.take i)).length dE else dE
def stF(rec:Val->Str->Wr)(path:Str)(l:List Fld)(ps:List Val):Nat->List (Str×Int)×Wr
 |0=>([],⟨[],0,[]⟩)
 |i+1=>(YK (l.getD i dE).name ((stF rec path l ps i).2.n / 8:Nat) (stF rec path l ps i).1,Kg rec path (l.getD i dE) (xAt l ps i) (YK (l.getD i dE).name ((stF rec path l ps i).2.n / 8:Nat) (stF rec path l ps i).1) (stF rec path l ps i).2)
def Yd(d:Dfn):Nat->Msg->Val->Str->Wr
 |0,_,_,_=>⟨[],0,[]⟩
 |n+1,m,v,path=>(stF (λy p=>Yd d n (Zn d y.name) y p) path m.fields v.parts (I m.fields)).2
def Zhm(s:Str×Int):List D:=[.str s.1,.int .i64 s.2]
def ZgF(l:List (Str×Int)):D:=slD 2 Zhm l
def wrR(d:Dfn)(path:Str)(mz:Nat)(sD:D):List D:=[.str d.name,YX d.msgs,.str d.start,.str path,.map mz,sD]
structure IsW(S:St)(d:Dfn)(path:Str)(E:List (Str×Int))(w:Wr)(z mz:Nat)(ob os:Option Nat)(sD:D):Prop where
 wb:Wb S z ob w.b w.n (wrR d path mz sD)
 m:S mz=some (.map (Kh E))
 s:Buf S 2 (w.sums.map Zhm) sD os
 zs:os≠some z
 bs:∀x,ob=some x->os≠some x
section
variable {S:St} {d:Dfn} {path:Str} {E:List (Str × Int)} {w:Wr} {z mz:Nat} {ob os:Option Nat} {sD:D}
def IsW.mne(h:IsW S d path E w z mz ob os sD):mz≠z/\ob≠sO mz/\os≠sO mz:=by
 obtain⟨bD,hz,t,hne⟩:=h.wb;have hm:=h.m;refine⟨λe=>(by rw[e,hz]at hm;cases hm),λe=>?_,λe=>?_⟩
 .subst e;cases t with
  |obj x cap X h1 _ _=>rw[h1]at hm;cases hm
 have u:=h.s;subst e;cases u with
 |obj x cap X h1 _ _=>rw[h1]at hm;cases hm
end
def WF(z:Nat)(S:St)(ob os:Option Nat)(S':St)(ob' os':Option Nat):Prop:=∀y o,S y=sO o->y≠z->ob≠sO y->os≠sO y->S' y=sO o/\ob'≠sO y/\os'≠sO y
def WF.trans{z S ob os S1 t os1 S2 u os2}(h:WF z S ob os S1 t os1)(h2:WF z S1 t os1 S2 u os2):WF z S ob os S2 u os2:=λy o hy hz h3 h4=>by
 obtain⟨h5,h6,h7⟩:=h y o hy hz h3 h4;exact h2 y o h5 hz h6 h7
def ZpW(d:Dfn)(path:Str)(E:List (Str×Int))(w:Wr)(z mz:Nat)(S:St)(ob os:Option Nat)(r:Res)(S':St):Prop:=r=.ret (.tup [])/\∃ob' os' sD',IsW S' d path E w z mz ob' os' sD'/\WF z S ob os S' ob' os'
section
variable {S:St} {d:Dfn} {path:Str} {E:List (Str × Int)} {w:Wr} {z mz:Nat} {ob os:Option Nat} {sD:D}
def IsW.ofQ(h:IsW S d path E w z mz ob os sD){b' n' r S'}(hp:WbP S z ob b' n' (wrR d path mz sD) r S'):r=.ret (.tup [])/\∃ob',IsW S' d path E ⟨b',n',w.sums⟩ z mz ob' os sD/\WF z S ob os S' ob' os:=by
 obtain⟨hr,ob',hw,hf⟩:=hp;obtain⟨h1,h2,h3⟩:=h.mne;refine⟨hr,ob',⟨hw,(hf mz _ h.m h1 h2).1,?_,h.zs,?_⟩,λy o hy hz h4 h5=>⟨(hf y o hy hz h4).1,(hf y o hy hz h4).2,h5⟩⟩
 .have hs:=h.s;cases hs with
  |nil h0=>exact .nil h0
  |obj x cap X hx hX hc =>have t:x≠z:=λe=>h.zs (by rw[e]);exact .obj x cap X (hf x _ hx t λe=>h.bs x e rfl).1 hX hc
 intro x hx e;have hs:=h.s;subst e;cases hs with
 |obj y cap X hy hX hc =>have u:x≠z:=λe=>h.zs (by rw[e]);exact(hf x _ hy u λe=>h.bs x e rfl).2 hx
end
def Zdv{l:List (Str×Int)}:∀r∈l.map Zhm,I r=2:=λr t=>by
 obtain⟨x,_,rfl⟩:=List.mem_map.1 t;rfl
def ZDY{l:List UInt8}{x t:Nat}{X:List D}(h:s x=sO (.cells ((l.map u8C).flatten++X)))(ho:t<=I l):Ya s [x] (.msl x (if (I l:Int)=t then 0 else t*1) ((I l:Int)-t).toNat ((I l:Int)-t).toNat 1) (Zk (l.drop t)):=by
 have hn:((I l:Int)-t).toNat=(l.drop t).length:=by rw[ZI8];omega
 by_cases e:(I l:Int)=t;rw[if_pos e,hn];have u:(l.drop t).length=0:=by rw[ZI8];omega
 refine Ya.mslO (List.mem_singleton.2 rfl) h (by rw[u];simp) λj hj=>absurd hj (by rw[u];exact Nat.not_lt_zero _);rw[if_neg e,Nat.mul_one];exact ZxO (List.mem_singleton.2 rfl) h hn ho
def Zoy{S:St}{d:Dfn}{path:Str}{E:List (Str×Int)}{w:Wr}{z mz:Nat}{ob os:Option Nat}{sD:D}(f:Fld)(x:Val){s0:Nat}(h:IsW S d path E w z mz ob os sD)(hk:f.check=1\/f.check=2\/f.check=3)(hE:Zp f.from_ E=sO (s0:Int))(hs:s0<=I w.b)(hb:I w.b<=1000000000)(hn:w.n<=10000000000)(hl:I w.sums<=1000000)(hp:I path<=1000000)(hfn:I f.name<=1000):
  Za ZIy 54 [.ptr z 0,.agg f.cells,.agg x.cells] S (ZpW d path E (w.chk path f E) z mz S ob os):=by
 refine Zb (cR 54 f54) λF hF=>?_;have hm:=h.mne;obtain⟨bD,hz,hB,hne⟩:=h.wb;have e1:=YF (vD:=YR) ZP f.from_ E;have e3:=YS ZP f.from_;simp only[show KG f.from_=D.str f.from_ from rfl]at e1 e3;rw[hE]at e1;have ap:=h.m;have hW:w.chk path f E=⟨w.b++ZaJ f.check (Zdd f.check (w.b.drop s0)),w.n+8*(ZaJ f.check (Zdd f.check (w.b.drop s0))).length,w.sums++[(ZN path f.name,Zdd f.check (w.b.drop s0))]⟩:=by unfold Wr.chk;rw[hE];rfl
 rw[hW]at hF;have u:=ZAb hk (w.b.drop s0);have ae:=Zu1 hk (w.b.drop s0) (by rw[ZI8];omega);have ao:=Zp6 hk u.1 u.2.1 u.2.2;have aq:=Zcy path f.name ω ω;generalize Zdd f.check (w.b.drop s0)=c at *;refine rg ?_;unfold wrR at hz;refine rx (nd2 @eQ0 (nd2 @hz (nd2 @ap (nd2 @e1 (nd2 @e3 @Ze1))))) ?_;rw[show YR (s0:Int)=D.int .i64 s0 from rfl];refine jU [1,0,1] (λQ =>  Q F [(0,.d (.ptr z 0)),(4,.loc 4 0),(7,.d (.int .i64 c))] [(4,[.str f.name,.int .i64 f.kind,.int .i64 f.bits,.bool f.little,.bool f.loose,.int .i64 f.low,.int .i64 f.high,.int .i64 f.size.base,Yi f.size.terms,.str f.of,.str f.tag,.str f.from_,WS f.cases,.int .i64 f.check,.int .i64 f.key])] S) ?_ λfin=>?_;refine rx @eQ0 ?_;refine cl (ao) ?_;refine rg ?_;have c9:=Kw (ZaJ f.check c) h.wb (by unfold ZaJ;split<;>simp only[ZIP,List.length_nil]<;>omega);refine cV (c9) ?_ ?_;rintro dd S1 hP;obtain⟨hr,aw,h1,aj⟩:=h.ofQ hP;cases hr;refine gR0 ?_;have ag:=h1.mne;obtain⟨ah,ab,ai,ac⟩:=id h1.wb;unfold wrR at ab;refine rx (nd2 @eQ0 @ab) ?_;refine clD (aq) ?_;refine ZsQ rfl rfl (h1.s) (by exact Zdv) rfl rfl φ φ (.elems rfl) (by rw[ZIU];show(I w.sums+1)*24<=_;omega) (by rw[ZIU];show (I w.sums)+1<=_;unfold big;omega) (by (show _=[Zhm (ZN path f.name,c)];rfl)) (by exact Zdv (l:=[_])) λs1 D1 av af t=>?_;have au:=(t z _ ab h1.zs).1;refine⟨by first|trivial|exact⟨rfl,trivial⟩|simp,?_⟩;refine gQ @au ?_;refine⟨af.cell,?_⟩;obtain⟨ak,al⟩:=ai.fr t h1.bs;refine hF.fin (.tup []) _ rfl trivial (ZIB _) ZIz ⟨rfl,aw,av,D1,⟨⟨ah,ZIE _ _ _,ak.upd ac,ac⟩,?_,?_,(t z _ ab h1.zs).2,al⟩,λy o hy e1 e2 e3=>?_⟩;rw[ZIG _ _ ag.1];exact(t mz _ h1.m ag.2.2).1;rw[List.map_append];exact af.upd (t z _ ab h1.zs).2;obtain⟨h4,h5,h6⟩:=aj y o hy e1 e2 e3;obtain⟨h7,h8⟩:=t y o h4 h6;exact⟨by rw[ZIG _ _ e1];exact h7,h5,h8⟩;exact λdd S1 h=>(WbP.bad h).elim;cases hB with
 |nil h0 =>
  have ar:w.b=[]:=List.map_eq_nil_iff.1 h0;rw[ar]at hs ae;obtain rfl:s0=0:=by simpa using hs
  have ad:=Za.leA (.cons (ZIB (.int .i64 f.check)) (.cons (show(D.nilsl).Le (Zk (([]:List UInt8).drop 0)) from YU λb h=>by cases h) .nil)) (ae S);refine rx (nd2 @eQ0 @hz) ?_;refine⟨by decide,?_⟩;refine cV0 (ad) ?_ ?_;rintro dd S1 ⟨hr,hS⟩;obtain rfl:=hS.symm;cases hr;refine gR0 ?_;refine Zc ?_;exact fin;rintro dd S1 ⟨hr,_⟩;cases hr
 |obj y cap X hy hX hc =>
  have am:(w.b.map u8C).length=I w.b:=by rw[ZIU]
  rw[am]at hz hX hc;refine xA (nd2 @eQ0 @hz) ?_;have ad:=ZEg (T:=S) (Ln:=[y]) (λb hb=>by obtain rfl:=List.mem_singleton.1 hb;exact⟨_,hy⟩) (.cons (Ya.refl (.int .i64 f.check)) (.cons (ZDY hy hs) .nil)) ae (.tup _ λc hc=>by
   simp only[ZJd,List.not_mem_nil,or_false]at hc;rcases hc with rfl|rfl<;>exact .int _ _)
  refine cV0 (ad) ?_ ?_;rintro dd S1 ⟨hr,hS⟩;obtain rfl:=hS.symm;cases hr;refine gR0 ?_;refine Zc ?_;exact fin;rintro dd S1 ⟨hr,_⟩;cases hr
section
variable {S:St} {d:Dfn} {path:Str} {E:List (Str × Int)} {w:Wr} {z mz:Nat} {ob os:Option Nat} {sD:D}
def IsW.upd(h:IsW S d path E w z mz ob os sD){y}(u:S y=nO)(o:QO):IsW (S.upd y o) d path E w z mz ob os sD/\ob≠sO y/\os≠sO y/\y≠z/\y≠mz:=by
 obtain⟨bD,hz,hB,t⟩:=id h.wb;have h1:y≠z:=λe=>by rw[e,hz]at u;cases u
 have h2:y≠mz:=λe=>by rw[e,h.m]at u;cases u
 have h3:ob≠sO y:=λe=>by
  subst e;cases hB with
  |obj x cap X hx _ _=>rw[hx]at u;cases u
 have h4:os≠sO y:=λe=>by
  have hs:=h.s;subst e;cases hs with
  |obj x cap X hx _ _=>rw[hx]at u;cases u
 exact⟨⟨⟨bD,by rw[ZIG _ _ h1.symm];exact hz,hB.upd h3,t⟩,by rw[ZIG _ _ h2.symm];exact h.m,h.s.upd h4,h.zs,h.bs⟩,h3,h4,h1,h2⟩
end
def IsW.nomap{S:St}{d:Dfn}{path:Str}{E:List (Str×Int)}{w:Wr}{z mz:Nat}{ob os:Option Nat}{sD:D}(h:IsW S d path E w z mz ob os sD){t l}(hm:S t=sO (.map l)):t≠z/\ob≠sO t/\os≠sO t:=by
 obtain⟨bD,hz,u,hne⟩:=id h.wb;refine⟨λe=>(by rw[e,hz]at hm;cases hm),λe=>?_,λe=>?_⟩
 .subst e;cases u with
  |obj x cap X h1 _ _=>rw[h1]at hm;cases hm
 have hs:=h.s;subst e;cases hs with
 |obj x cap X h1 _ _=>rw[h1]at hm;cases hm
def IsW.put{S:St}{d:Dfn}{path:Str}{E:List (Str×Int)}{w:Wr}{z mz:Nat}{ob os:Option Nat}{sD:D}(h:IsW S d path E w z mz ob os sD){y}(o:QO)(h1:y≠z)(h2:y≠mz)(h3:ob≠sO y)(h4:os≠sO y):IsW (S.upd y o) d path E w z mz ob os sD:=by
 obtain⟨u,hz,hB,t⟩:=id h.wb;exact⟨⟨u,by rw[ZIG _ _ h1.symm];exact hz,hB.upd h3,t⟩,by rw[ZIG _ _ h2.symm];exact h.m,h.s.upd h4,h.zs,h.bs⟩
def Zbw{chg rec q ps n j w}:YZ chg rec q ps (n+1) j w=YZ chg rec q ps n (j+1) (w.app chg (rec (ps.getD j dE) (ZN q (Ym ps j)))):=rfl
def Zhc{chg rec q ps j w}:YZ chg rec q ps 0 j w=w:=rfl
def ZmT{chg rec q ps}:∀{n j w},w.n<=(YZ chg rec q ps n j w).n/\I w.b<=(YZ chg rec q ps n j w).b.length/\I w.sums<=(YZ chg rec q ps n j w).sums.length
 |0,_,_=>⟨ZIO _,ZIO _,ZIO _⟩
 |n+1,j,w=>by have h:=ZmT (chg:=chg) (rec:=rec) (q:=q) (ps:=ps) (n:=n) (j:=j+1) (w:=w.app chg (rec (ps.getD j dE) (ZN q (Ym ps j))));rw[Zbw];simp only[Wr.app,ZII]at h⊢;omega
def WrP(d:Dfn)(o:Wr)(p:Str)(T:St)(r:Res)(S:St):Prop:=∃z' mz',T z'=nO/\r=.ret (.ptr z' 0)/\S=T.upd z' (.cells (Zk o.b::.int .i64 o.n::wrR d p mz' (ZgF o.sums)))
def ZB6(ps:List Val)(k:Nat):Jq ps k=Zfo (ps.getD k dE).name (ps.take k):=rfl
def ZxL(l:List (Str×Int)):(ZIM (I l)).map (λi=>Zhm (l.getD i dE))=l.map Zhm:=by
 apply List.ext_getElem?;intro i;simp only[List.getElem?_map,List.getElem?_range,ZIN];by_cases h:i<I l;simp[h];simp[h]
def Zfs{S K:St}{d:Dfn}{path:Str}{E:List (Str×Int)}{w:Wr}{z mz:Nat}{ob os:Option Nat}{sD:D}(f:Fld)(x:Val)(fn:D)(chg:List UInt8->List UInt8)(rec:Val->Str->Wr)(h:IsW S d path E w z mz ob os sD)(hK:K.sub S)(hKf:∀y o,K y=sO o->y≠z/\ob≠sO y/\os≠sO y)(hchg:∀T l,K.sub T->I l<=110000000->WP ZIy fn [Zk l] T λr S=>r=.ret (Zk (chg l))/\S=T)(hps:I x.parts<=5000)(hnm:∀y∈x.parts,I y.name<=32)(hfn:I f.name<=32)(hp:I path<=1000000)(hfind:∀y∈x.parts,0<=Zz d y.name (I d.msgs))(hrec:∀y∈x.parts,∀p T,I p<=I path+6000->Za ZIy 25 [.agg d.cells,.agg (Zn d y.name).cells,.agg y.cells,.str p] T (WrP d (rec y p) p T))(hlen:∀y∈x.parts,∀p,(rec y p).b.length<=110000000)(hR:(YZ chg rec (ZN path f.name) x.parts (I x.parts) 0 w).n<=1000000000/\(YZ chg rec (ZN path f.name) x.parts (I x.parts) 0 w).b.length<=1000000000/\(YZ chg rec (ZN path f.name) x.parts (I x.parts) 0 w).sums.length<=1000000):
  Za ZIy 82 [.ptr z 0,.agg f.cells,.agg x.cells,fn] S (ZpW d path E (YZ chg rec (ZN path f.name) x.parts (I x.parts) 0 w) z mz S ob os):=by
 refine Zb (cR 82 f82) λF hF=>?_;obtain⟨q,hq⟩:∃q,ZN path f.name=q:=⟨_,rfl⟩;obtain⟨R,ba⟩:∃R,YZ chg rec (ZN path f.name) x.parts (I x.parts) 0 w=R:=⟨_,rfl⟩;have cn:=Zcd path f.name;rw[hq]at cn;rw[ba]at hR hF;rw[x.cells_eq];refine gG ?_;intro ms ay;obtain⟨br,_,_,hmz0,bi⟩:=h.upd ay (.map []);refine rx @ZbT ?_;refine Ze (fr (I x.parts) (λj Q=>∀w1 u ae a4 S1 C,IsW S1 d path E w1 z mz u ae a4->WF z S ob os S1 u ae->S1 ms=sO (.map (Kh C))->(∀nm,(Zp nm C).getD 0=(Zfo nm (x.parts.take j):Int))->YZ chg rec q x.parts (I x.parts-j) j w1=R->j<=I x.parts->Q [(0,.d (.ptr z 0)),(3,.d fn),(5,.loc 5 0),(8,.d (.map ms)),(18,.d (ZZ x.parts)),(19,.d (.int .i64 (I x.parts))),(20,.d (.int .i64 j))] [(5,[.str f.name,.int .i64 f.kind,.int .i64 f.bits,.bool f.little,.bool f.loose,.int .i64 f.low,.int .i64 f.high,.int .i64 f.size.base,Yi f.size.terms,.str f.of,.str f.tag,.str f.from_,WS f.cases,.int .i64 f.check,.int .i64 f.key])] S1) (λn ap=>?_) λcy=>?_);intro j hn2 w1 u ae a4 S1 C hI bc hC aq t hj;refine rg ?_;refine Zc (Zl rfl trivial (λhd=>?_) (λhd=>?_));simp only[decide_eq_true_eq]at hd;have am:x.parts.getD j dE∈x.parts:=ZE ω;have cs:=K6 (l:=x.parts) (i:=j) ω;have hyn:=hnm _ am;have co:=hfind _ am;have cr:=hrec _ am;have cp:=hlen _ am;have al:=Ym.eq_1 x.parts j;have hsl:=ZgC hps hnm (k:=j) ω;have bf:=ZB6 x.parts j;have hdl:=Zov x.parts j;have b1:=λnm=>Zrc (nm:=nm) (l:=x.parts) (i:=j) ω;rw[show (I x.parts)-j=(I x.parts-(j+1))+1 by omega,Zbw]at t;generalize x.parts.getD j dE=y at *;have ax:=aq y.name;rw[<-bf]at ax;have e1:=YF (vD:=YR) ZP y.name C;have e2:=JU (vD:=YR) ZP y.name ((Jq x.parts j:Nat)+1:Int) C;have e3:=YS ZP y.name;simp only[show KG y.name=D.str y.name from rfl,show ∀n,YR n=.int .i64 n from λ_=>rfl]at e1 e2 e3;refine xA (nd2 @atV @cs) ?_;refine rg ?_;refine rx (nd2 @hC (nd2 @e1 (nd2 @e3 (nd2 @Ze1 @ax)))) ?_;refine rg ?_;refine jU [0] (λQ =>  Q F [(0,.d (.ptr z 0)),(3,.d fn),(5,.loc 5 0),(8,.d (.map ms)),(10,.loc 10 0),(11,.d (.str (Ym x.parts j))),(18,.d (ZZ x.parts)),(19,.d (.int .i64 (I x.parts))),(20,.d (.int .i64 j))] [(5,[.str f.name,.int .i64 f.kind,.int .i64 f.bits,.bool f.little,.bool f.loose,.int .i64 f.low,.int .i64 f.high,.int .i64 f.size.base,Yi f.size.terms,.str f.of,.str f.tag,.str f.from_,WS f.cases,.int .i64 f.check,.int .i64 f.key]),(10,[.str y.name,.int .i64 y.int,Zk y.bytes,Yg y.hdrs,ZZ y.parts])] S1) ?_ λj1=>?_;obtain⟨cj,ch,ci⟩:=hI.nomap hC;have ca:ms≠mz:=bi;refine xA (nd2 @hC (nd2 @e1 (nd2 @e2 (nd2 @e3 (nd2 @Ze1 @ax))))) ?_;have a9:=hI.put (.map (Kh (YK y.name ((Jq x.parts j:Nat)+1:Int) C))) cj ca ch ci;have aw:∀nm,(Zp nm (YK y.name ((Jq x.parts j:Nat)+1:Int) C)).getD 0=(Zfo nm (x.parts.take (j+1)):Int):=λnm=>by rw[b1 nm];by_cases e:nm=y.name;subst e;rw[WU,if_pos rfl,if_pos rfl,bf];rfl;rw[WU,if_neg e,if_neg (Ne.symm e)];exact aq nm
 have be:WF z S ob os (S1.upd ms (.map (Kh (YK y.name ((Jq x.parts j:Nat)+1:Int) C)))) u ae:=λy o hy h1 h2 h3=>by obtain⟨h4,h5,h6⟩:=bc y o hy h1 h2 h3;exact⟨by rw[ZIG _ _ λe=>by rw[e,ay]at hy;cases hy];exact h4,h5,h6⟩
 have a6:=ZIE S1 ms (.map (Kh (YK y.name ((Jq x.parts j:Nat)+1:Int) C)));generalize YK y.name ((Jq x.parts j:Nat)+1:Int) C=C2 at *;generalize S1.upd ms (.map (Kh C2))=S2 at *;obtain⟨bD,hz,hB,hne⟩:=id a9.wb;unfold wrR at hz;have hix:=QS co;have cb:max (Zz d y.name (I d.msgs)) 0=ixS d y.name:=ω;have b2:Zi (λx:Msg=>dC (x.name=y.name)) d.msgs=Zz d y.name (I d.msgs):=by unfold Zz;rw[ZJa]
 have bg:=Zbc d y.name;rw[b2,cb]at bg;have au:=Zcy path f.name ω ω;rw[hq]at au;have bl:=Zcy q (Ym x.parts j) ω ω;have hpl:=Zcd q (Ym x.parts j);have ag:=cr (ZN q (Ym x.parts j)) S2 ω;unfold Zn at ag;generalize ce:d.msgs.getD (ixS d y.name) dE=my at *;generalize ZN q (Ym x.parts j)=pj at *;rw[ZI2]at ag;refine rx @hz ?_;refine cl0 (bg) ?_;refine xA (nd2 @hz (nd2 @atM (nd2 @ce @eQ3))) ?_;refine clD (au) ?_;refine clD (bl) ?_;refine cVD (ag) ?_ ?_;rintro dd S3 ⟨z',bo,ao,hr,aj⟩;cases hr;refine kF ?_;refine gR0 ?_;have ad:=a9.upd ao (.cells (Zk (rec y pj).b::.int .i64 (rec y pj).n::wrR d pj bo (ZgF (rec y pj).sums)));rw[<-aj]at ad;obtain⟨ad,cv,cw,cx,hzm⟩:=ad;have a7:S3 ms=sO (.map (Kh C2)):=by rw[aj,ZIG _ _ λe=>by rw[<-e,a6]at ao;cases ao];exact a6
 have bb:WF z S ob os S3 u ae:=λy o hy h1 h2 h3=>by obtain⟨h4,h5,h6⟩:=be y o hy h1 h2 h3;exact⟨by rw[aj,ZIG _ _ λe=>by rw[e,ao]at h4;cases h4];exact h4,h5,h6⟩
 have a0:S3 z'=sO (.cells (Zk (rec y pj).b::.int .i64 (rec y pj).n::wrR d pj bo (ZgF (rec y pj).sums))):=by rw[aj,ZIE]
 unfold wrR at a0;have bu:K.sub S3:=λy o hy=>by obtain⟨h1,h2,h3⟩:=hKf y o hy;exact(bb y o (hK y o hy) h1 h2 h3).1
 have cm:=cp pj;have b0:=hchg S3 (rec y pj).b bu cm;have af:=ZmT (chg:=chg) (rec:=rec) (q:=q) (ps:=x.parts) (n:=I x.parts-(j+1)) (j:=j+1) (w:=w1.app chg (rec y pj));rw[t]at af;simp only[Wr.app,ZII]at af;generalize rec y pj=o at *;refine rx @a0 ?_;refine vV0 (b0) ?_ ?_;rintro dd S4 ⟨hr,bv⟩;obtain rfl:=bv.symm;cases hr;refine gR0 ?_;have c9:=Kw (chg o.b) ad.wb ω;refine cV0 (c9) ?_ ?_;rintro dd S5 hP;obtain⟨hr,a3,ab,av⟩:=ad.ofQ hP;cases hr;refine gR0 ?_;obtain⟨bj,bk,cg⟩:=ad.nomap a7;have a8:=(av ms _ a7 bj bk cg).1;have bn:=(av z' _ a0 cx cv cw).1;obtain⟨ai,ah,bp,ar⟩:=id ab.wb;unfold wrR at ah;have bh:=ab.mne;refine rx (nd2 @ah @bn) ?_;refine ZxV rfl rfl (ab.s) (by exact Zdv) rfl rfl φ φ (.elems rfl) (by rw[ZIU];show(I w1.sums+I o.sums)*24<=_;omega) (by rw[ZIU];show (I w1.sums)+I o.sums<=_;unfold big;omega) (by exact ZxL o.sums) (by exact Zdv) λs1 D1 u a5 ac=>?_;have cu:=(ac z _ ah ab.zs).1;refine gQ @cu ?_;refine⟨a5.cell,?_⟩;obtain⟨bx,bz⟩:=bp.fr ac ab.bs;have bt:IsW (s1.upd z (.cells [ai,.int .i64 ((w1.n+8*(chg o.b).length:Nat):Int),.str d.name,YX d.msgs,.str d.start,.str path,.map mz,D1])) d path E (w1.app chg o) z mz a3 u D1:=by refine⟨⟨ai,ZIE _ _ _,bx.upd ar,ar⟩,?_,?_,(ac z _ ah ab.zs).2,bz⟩;rw[ZIG _ _ bh.1];exact(ac mz _ ab.m bh.2.2).1;show Buf _ 2 ((w1.sums++o.sums).map Zhm) D1 u;rw[List.map_append];exact a5.upd (ac z _ ah ab.zs).2
 have bw:WF z S ob os (s1.upd z (.cells [ai,.int .i64 ((w1.n+8*(chg o.b).length:Nat):Int),.str d.name,YX d.msgs,.str d.start,.str path,.map mz,D1])) a3 u:=λy o hy h1 h2 h3=>by obtain⟨h4,h5,h6⟩:=(bb.trans av) y o hy h1 h2 h3;obtain⟨h7,h8⟩:=ac y o h4 h6;exact⟨by rw[ZIG _ _ h1];exact h7,h5,h8⟩
 have bq:(s1.upd z (.cells [ai,.int .i64 ((w1.n+8*(chg o.b).length:Nat):Int),.str d.name,YX d.msgs,.str d.start,.str path,.map mz,D1])) ms=sO (.map (Kh C2)):=by rw[ZIG _ _ bj];exact(ac ms _ a8 (ab.nomap a8).2.2).1
 refine gA ?_;refine Zf ?_;exact ap ((I x.parts)-(j+1)) ω (j+1) rfl (w1.app chg o) a3 u D1 _ C2 bt bw bq aw t ω;exact λdd S5 h=>(WbP.bad h).elim;rintro dd S4 ⟨hr,_⟩;cases hr;rintro dd S3 ⟨_,_,_,hr,_⟩;cases hr;refine cd (λaz=>?_) (λaz=>?_);have ak:Jq x.parts j≠0:=by simp at az;omega
 rw[if_neg ak]at al;refine rg ?_;have hdc:=Ziq (Jq x.parts j);refine ZaD rfl rfl rfl rfl rfl φ φ (by exact Znt ak ω) (Zm ?_);simp only[Eqs,reduceCtorEq,ZIF,reduceIte,ZIC,ZIH,ZID];refine⟨by unfold big;omega,by unfold big;omega,?_⟩;rw[show y.name++58::ZaN (Jq x.parts j)=Ym x.parts j by rw[al,ZI1];rfl];exact j1;refine ZK ?_;have ak:Jq x.parts j=0:=by simp at az;omega
 rw[if_pos ak]at al;rw[al]at j1;refine kE [0,3,5,8,10,11,18,19,20] ?_;exact j1;simp only[decide_eq_false_iff_not]at hd;obtain rfl:j=I x.parts:=ω;rw[Nat.sub_self,Zhc]at t;subst t;refine ZT rfl ?_;exact hF.fin (.tup []) _ rfl trivial (ZIB _) ZIz ⟨rfl,u,ae,a4,hI,bc⟩;have h0:=cy _ 0 rfl w ob os sD (S.upd ms (.map [])) [] br (λy o hy hyz h1 h2=>⟨by rw[ZIG _ _ λe=>by rw[e,ay]at hy;cases hy];exact hy,h1,h2⟩) (ZIE _ _ _) (λnm=>rfl) (by rw[<-hq];exact ba) ω;exact h0
def Zme(l:List UInt8):Zd ZIy 83 [Zk l] (Zk l):=by
 refine Zg (cR 83 f83) λF st t=>?_;refine gG ?_;refine ro t ?_;rfl
def Znu(f:Fld){k:Nat}(hk:f.key=k)(hk2:k<4294967296)(l:List UInt8)(hl:I l<=110000000){T:St}{zf:Nat}(hz:T zf=sO (.cells f.cells)):ZO ZIy 88 [Zk l,.ptr zf 0] T (Zk (KQ k l)) T:=by
 refine ZG (cR 88 f88) λu F t=>?_;clear u;unfold Fld.cells at hz;rw[hk]at hz;have hx:=Zr9 hk2 l ω;have hc:=KQ.eq_1 k l;refine rg ?_;refine rx @hz ?_;refine cd (λh=>?_) (λh=>?_);rw[if_pos (by simp at h;omega)]at hc;rw[hc]at t;refine rg ?_;refine ro t ?_;rfl;refine rx @hz ?_;refine cl (hx) ?_;refine rg ?_;refine ro t ?_;rfl
section
variable {S:St} {d:Dfn} {path:Str} {E:List (Str × Int)} {w:Wr} {z mz:Nat} {ob os:Option Nat} {sD:D} (f:Fld) (x:Val) (rec:Val->Str->Wr)
structure ZzT(d:Dfn)(path:Str)(f:Fld)(x:Val)(chg:List UInt8->List UInt8)(rec:Val->Str->Wr)(w:Wr):Prop where
 few:I x.parts<=5000
 nm:∀y∈x.parts,I y.name<=32
 fn:I f.name<=32
 pth:I path<=1000000
 find:∀y∈x.parts,0<=Zz d y.name (I d.msgs)
 rc:∀y∈x.parts,∀p T,I p<=I path+6000->Za ZIy 25 [.agg d.cells,.agg (Zn d y.name).cells,.agg y.cells,.str p] T (WrP d (rec y p) p T)
 len:∀y∈x.parts,∀p,(rec y p).b.length<=110000000
 R:(YZ chg rec (ZN path f.name) x.parts (I x.parts) 0 w).n<=1000000000/\(YZ chg rec (ZN path f.name) x.parts (I x.parts) 0 w).b.length<=1000000000/\(YZ chg rec (ZN path f.name) x.parts (I x.parts) 0 w).sums.length<=1000000
def Zcx(h:IsW S d path E w z mz ob os sD)(u:ZzT d path f x id rec w):
  Za ZIy 52 [.ptr z 0,.agg f.cells,.agg x.cells] S (ZpW d path E (YZ id rec (ZN path f.name) x.parts (I x.parts) 0 w) z mz S ob os):=by
 refine Zb (cR 52 f52) λF hF=>?_;have t:=Zfs (K:=λ_=>nO) f x (.fn (.func 83) [] []) id rec h (λy o hy=>by cases hy) (λy o hy=>by cases hy)
  (λT l _ _=>Za.V (first:=[]) (args:=[_]) (caps:=[]) (Zme l T)) u.few u.nm u.fn u.pth u.find u.rc u.len u.R
 rw[x.cells_eq]at t⊢;refine rg ?_;refine rx @eQ0 ?_;refine cV (t) ?_ ?_;rintro dd S1 ⟨hr,h1⟩;cases hr;refine gR0 ?_;exact hF.fin (.tup []) _ rfl trivial (ZIB _) ZIz ⟨rfl,h1⟩;rintro dd S1 ⟨hr,_⟩;cases hr
def Zqe{k:Nat}(h:IsW S d path E w z mz ob os sD)(hp:ZzT d path f x (KQ k) rec w)(hk:f.key=k)(hk2:k<4294967296):
  Za ZIy 55 [.ptr z 0,.agg f.cells,.agg x.cells] S (ZpW d path E (YZ (KQ k) rec (ZN path f.name) x.parts (I x.parts) 0 w) z mz S ob os):=by
 refine Zb (cR 55 f55) λF hF=>?_;have ab:f.cells=[.str f.name,.int .i64 f.kind,.int .i64 f.bits,.bool f.little,.bool f.loose,.int .i64 f.low,.int .i64 f.high,.int .i64 f.size.base,Yi f.size.terms,.str f.of,.str f.tag,.str f.from_,WS f.cases,.int .i64 f.check,.int .i64 f.key]:=rfl;have ac:=λzf (t:S zf=nO)=>Zfs (S:=S.upd zf (.cells f.cells)) (K:=ZI0 zf (.cells f.cells)) f x (.fn (.func 88) [] [.ptr zf 0]) (KQ k) rec (h.upd t _).1
  (λy o hy=>by
   by_cases e:y=zf;subst e;rw[Yl]at hy;rw[ZIE];exact hy;rw[ZaZ e]at hy;cases hy) (λy o hy=>by
   by_cases e:y=zf;subst e;obtain⟨_,h1,h2,h3,_⟩:=h.upd t (.cells []);exact⟨h3,h1,h2⟩;rw[ZaZ e]at hy;cases hy)
  (λT l hT hl=>((Znu f hk hk2 l hl (hT zf _ Yl)).VT (first:=[]) (args:=[_]) (caps:=[_]))) hp.few hp.nm hp.fn hp.pth hp.find hp.rc hp.len hp.R
 rw[x.cells_eq]at ac⊢;refine rg ?_;refine xP 4 λzf t=>?_;have u:=ac zf t;rw[ab]at u;refine rx (nd2 @ZIE @ab) ?_;refine cV (u) ?_ ?_;rintro dd S1 ⟨hr,ad,ae,af,h1,h2⟩;cases hr;refine gR0 ?_;refine hF.fin (.tup []) _ rfl trivial (ZIB _) ZIz ⟨rfl,ad,ae,af,h1,λy o hy h3 h4 h5=>h2 y o ?_ h3 h4 h5⟩;rw[ZIG _ _ λe=>by rw[e,t]at hy;cases hy];exact hy;rintro dd S1 ⟨hr,_⟩;cases hr
end
def Zg1:List (Int×D):=[(1,.fn (.func 46) [] []),(2,.fn (.func 47) [] []),(3,.fn (.func 48) [] []),(4,.fn (.func 49) [] []),(5,.fn (.func 50) [] []),(6,.fn (.func 51) [] []),(7,.fn (.func 52) [] []),(8,.fn (.func 52) [] []),(9,.fn (.func 52) [] []),(10,.fn (.func 53) [] []),(11,.fn (.func 54) [] []),(12,.fn (.func 55) [] [])]
structure ZzS(d:Dfn)(path:Str)(f:Fld)(x:Val)(rec:Val->Str->Wr)(E:List (Str×Int))(w:Wr):Prop where
 kind:1<=f.kind/\f.kind<=12
 bok:BOk w.b w.n
 n:w.n<=110000000
 sums:I w.sums<=1000000
 nm:I f.name<=32
 pth:I path<=1000000
 num:f.kind=1\/f.kind=2->0<=f.bits/\f.bits<=600
 low:f.kind=2->0<=f.low/\f.low<34359738368
 vint:f.kind=1\/f.kind=3->0<=x.int/\x.int<34359738368
 byt:I x.bytes<=1048576
 unt:f.kind=5->0<=f.low/\f.low<=255
 hdr:f.kind=6->Kz x.hdrs=true/\Zc4 x.hdrs/\(Kd x.hdrs).length<=1048576
 pad:f.kind=10->ZbI f.bits=true
 chk:f.kind=11->(f.check=1\/f.check=2\/f.check=3)/\∃s0:Nat,Zp f.from_ E=some (s0:Int)/\s0<=I w.b
 key:f.kind=12->0<=f.key/\f.key<4294967296
 prt:7<=f.kind/\f.kind<=9\/f.kind=12->ZzT d path f x (if f.kind=12 then KQ f.key.toNat else id) rec w
section
variable {S:St} {d:Dfn} {path:Str} {E:List (Str × Int)} {w:Wr} {z mz:Nat} {ob os:Option Nat} {sD:D} {f:Fld} {x:Val} {rec:Val->Str->Wr}
def ZbW{u:FuncId}{args b' n'}(h:IsW S d path E w z mz ob os sD)(hc:Za ZIy u args S (WbP S z ob b' n' (wrR d path mz sD))){w'}(hw:w'=⟨b',n',w.sums⟩):Za ZIy u args S (ZpW d path E w' z mz S ob os):=by
 subst hw;exact hc.mono λr S' hp=>by obtain⟨hr,t,h1,h2⟩:=h.ofQ hp;exact⟨hr,t,os,sD,h1,h2⟩
def ZAo(h:IsW S d path E w z mz ob os sD)(hp:ZzS d path f x rec E w):∃fid:FuncId,Zp f.kind Zg1=sO (.fn (.func fid) [] [])/\Za ZIy fid [.ptr z 0,.agg f.cells,.agg x.cells] S (ZpW d path E (Kg rec path f x E w) z mz S ob os):=by
 have hk:=hp.kind;have hW:=Kg.eq_1 rec path f x E w;have hn:=hp.n;have u:=hp.bok;unfold BOk at u;have t:f.kind=1\/f.kind=2\/f.kind=3\/f.kind=4\/f.kind=5\/f.kind=6\/f.kind=7\/f.kind=8\/f.kind=9\/f.kind=10\/f.kind=11\/f.kind=12:=ω;rcases t with hk1|hk1|hk1|hk1|hk1|hk1|hk1|hk1|hk1|hk1|hk1|hk1<;>rw[hk1]at hW⊢<;>simp only[ZJg,if_true,if_false]at hW<;>rw[hW];obtain⟨b1,b2⟩:=hp.num ω;obtain⟨v1,v2⟩:=hp.vint ω;exact⟨_,rfl,ZbW h (Zft f x (v:=x.int.toNat) (k:=f.bits.toNat) h.wb hp.bok ω ω ω ω ω) rfl⟩;obtain⟨b1,b2⟩:=hp.num ω;obtain⟨v1,v2⟩:=hp.low hk1;exact⟨_,rfl,ZbW h (Zj4 f x (v:=f.low.toNat) (k:=f.bits.toNat) h.wb hp.bok ω ω ω ω ω) rfl⟩;obtain⟨v1,v2⟩:=hp.vint ω;exact⟨_,rfl,ZbW h (Zj5 f x (v:=x.int.toNat) h.wb hp.bok ω ω ω) rfl⟩;exact⟨_,rfl,ZbW h (Zoz f x h.wb hp.bok hp.byt ω) rfl⟩;obtain⟨v1,v2⟩:=hp.unt hk1;exact⟨_,rfl,ZbW h (ZoA f x (c:=UInt8.ofNat f.low.toNat) h.wb hp.bok hp.byt (by rw[u8n ω];omega) ω) rfl⟩;obtain⟨h1,h2,h3⟩:=hp.hdr hk1;exact⟨_,rfl,ZbW h (Zmd f x h.wb hp.bok h1 h2 h3 ω) rfl⟩;have:=hp.prt ω;rw[if_neg ω]at this;exact⟨_,rfl,Zcx f x rec h this⟩;have:=hp.prt ω;rw[if_neg ω]at this;exact⟨_,rfl,Zcx f x rec h this⟩;have:=hp.prt ω;rw[if_neg ω]at this;exact⟨_,rfl,Zcx f x rec h this⟩;exact⟨_,rfl,ZbW h (Zsb f x h.wb hp.bok (hp.pad hk1) hn) rfl⟩;obtain⟨h1,s0,h2,h3⟩:=hp.chk hk1;exact⟨_,rfl,Zoy f x h h1 h2 h3 ω ω hp.sums hp.pth (by have:=hp.nm;omega)⟩;obtain⟨h1,h2⟩:=hp.key hk1;have:=hp.prt ω;rw[if_pos hk1]at this;exact⟨_,rfl,Zqe (k:=f.key.toNat) f x rec h this ω ω⟩
end
def stE(rec:Val->Str->Wr)(path:Str)(l:List Fld)(ps:List Val)(i:Nat):List (Str×Int):=YK (l.getD i dE).name (((stF rec path l ps i).2.n / 8:Nat):Int) (stF rec path l ps i).1
def J9(rec path l ps i):stF rec path l ps (i+1)=(stE rec path l ps i,Kg rec path (l.getD i dE) (xAt l ps i) (stE rec path l ps i) (stF rec path l ps i).2):=rfl
def Zsy(T S:St)(z mz:Nat)(ob os:Option Nat):Prop:=∀y o,T y=sO o->S y=sO o/\y≠z/\y≠mz/\ob≠sO y/\os≠sO y
def ZDc(d:Dfn)(o:Wr)(path:Str)(T:St)(r:Res)(S:St):Prop:=∃z mz ob os sD E,r=.ret (.ptr z 0)/\IsW S d path E o z mz ob os sD/\Zsy T S z mz ob os
def IsW.setE{S:St}{d:Dfn}{path:Str}{E E':List (Str×Int)}{w:Wr}{z mz:Nat}{ob os:Option Nat}{sD:D}(h:IsW S d path E w z mz ob os sD):IsW (S.upd mz (.map (Kh E'))) d path E' w z mz ob os sD:=by
 obtain⟨u,hz,hB,t⟩:=id h.wb;obtain⟨h1,h2,h3⟩:=h.mne;exact⟨⟨u,by rw[ZIG _ _ h1.symm];exact hz,hB.upd h2,t⟩,ZIE _ _ _,h.s.upd h3,h.zs,h.bs⟩
def Znw(d:Dfn){m:Msg}(v:Val)(path:Str){rec:Val->Str->Wr}(hv:VOk v)(hfew:I m.fields<=1000)(hpv:∀i,i<I m.fields->Zo9 v (m.fields.getD i dE).name=xAt m.fields v.parts i)(hpre:∀i,i<I m.fields->ZzS d path (m.fields.getD i dE) (xAt m.fields v.parts i) rec (stE rec path m.fields v.parts i) (stF rec path m.fields v.parts i).2)(T:St):
  Za ZIy 25 [.agg d.cells,.agg m.cells,.agg v.cells,.str path] T (ZDc d (stF rec path m.fields v.parts (I m.fields)).2 path T):=by
 refine Zb (cR 25 f25) λF hF=>?_;rw[v.cells_eq];refine rx (nd2 @eQ2 @eQ3) ?_;refine rh ?_;refine Zm ?_;simp only[Eqs,reduceCtorEq,ZIF,reduceIte,ZIC,ZIH,ZID,JL,ZJg,decide_false,ZIE,ZIR,Yq,Yr];intro mk ap;refine kl ((T.upd mk (.map (WL YR id Zg1)))) [(3,.d (.str path)),(4,.loc 4 0),(5,.loc 5 0),(6,.loc 6 0),(9,.d (.map mk))] [(4,[.str d.name,YX d.msgs,.str d.start]),(5,[.str m.name,Zq m.fields]),(6,[.str v.name,.int .i64 v.int,Zk v.bytes,Yg v.hdrs,ZZ v.parts])] Jn ZbM ?_;refine rg ?_;intro mz t;refine Zc (Zc ?_);refine xP 21 λz hz=>?_;have av:IsW ((((T.upd mk (.map (WL YR id Zg1))).upd mz (.map [])).upd z (.cells [.nilsl,.int .i64 0,.str d.name,YX d.msgs,.str d.start,.str path,.map mz,.nilsl]))) d path [] ⟨[],0,[]⟩ z mz nO nO .nilsl:=by obtain⟨h1,h2⟩:=Zo hz;refine⟨⟨.nilsl,ZIE _ _ _,.nil rfl,λe=>(by cases e)⟩,?_,.nil rfl,λe=>(by cases e),λx e=>(by cases e)⟩;rw[ZIG _ _ h1.symm,ZIE];rfl
 have ay:((((T.upd mk (.map (WL YR id Zg1))).upd mz (.map [])).upd z (.cells [.nilsl,.int .i64 0,.str d.name,YX d.msgs,.str d.start,.str path,.map mz,.nilsl]))) mk=sO (.map (WL YR id Zg1)):=by obtain⟨h1,h2⟩:=Zo hz;obtain⟨h3,h4⟩:=Zo h2;obtain⟨h5,h6⟩:=Zo t;rw[ZIG _ _ h3.symm,ZIG _ _ h5.symm,ZIE]
 have au:Zsy T ((((T.upd mk (.map (WL YR id Zg1))).upd mz (.map [])).upd z (.cells [.nilsl,.int .i64 0,.str d.name,YX d.msgs,.str d.start,.str path,.map mz,.nilsl]))) z mz nO nO:=λy o hy=>by
  obtain⟨h1,h2⟩:=Zo hz;obtain⟨h3,h4⟩:=Zo h2;obtain⟨h5,h6⟩:=Zo t;have e1:y≠z:=λe=>by rw[e,h4]at hy;cases hy
  have e2:y≠mz:=λe=>by rw[e,h6]at hy;cases hy
  have e3:y≠mk:=λe=>by rw[e,ap]at hy;cases hy
  exact⟨by rw[ZIG _ _ e1,ZIG _ _ e2,ZIG _ _ e3];exact hy,e1,e2,λe=>(by cases e),λe=>(by cases e)⟩
 have a5:mk≠mz:=λe=>by rw[e,ZIE]at t;cases t
 have hTmk:T mk=nO:=ap;generalize ((T.upd mk (.map (WL YR id Zg1))).upd mz (.map [])).upd z (.cells [.nilsl,.int .i64 0,.str d.name,YX d.msgs,.str d.start,.str path,.map mz,.nilsl])=S0 at *;refine rx @Zfy ?_;refine Ze (fr (I m.fields) (λi Q=>∀ob os sD S1,IsW S1 d path (stF rec path m.fields v.parts i).1 (stF rec path m.fields v.parts i).2 z mz ob os sD->S1 mk=sO (.map (WL YR id Zg1))->Zsy T S1 z mz ob os->i<=I m.fields->Q [(6,.loc 6 0),(9,.d (.map mk)),(10,.d (.ptr z 0)),(23,.d (Zq m.fields)),(24,.d (.int .i64 (I m.fields))),(25,.d (.int .i64 i))] [(6,[.str v.name,.int .i64 v.int,Zk v.bytes,Yg v.hdrs,ZZ v.parts])] S1) (λn ab=>?_) λa7=>?_);intro i hn2 ob os sD S1 hI hK ai hi;refine rg ?_;refine Zc (Zl rfl trivial (λhd=>?_) (λhd=>?_));simp only[decide_eq_true_eq]at hd;have ao:i<I m.fields:=ω;have af:=hpre i ao;obtain⟨is,u⟩:=Zsu v (m.fields.getD i dE).name hv;rw[hpv i ao]at u;have aq:=J9 rec path m.fields v.parts i;have hE:stE rec path m.fields v.parts i=YK (m.fields.getD i dE).name (((stF rec path m.fields v.parts i).2.n / 8:Nat):Int) (stF rec path m.fields v.parts i).1:=rfl;generalize ax:m.fields.getD i dE=f at *;generalize xAt m.fields v.parts i=x at *;generalize stE rec path m.fields v.parts i=E2 at *;generalize stF rec path m.fields v.parts i=st at *;obtain⟨E1,w1⟩:=st;simp only at hI af aq hE;rw[v.cells_eq]at u;refine xA (nd2 @atF (nd2 @ax (nd2 @ZaS @Zeu))) ?_;rw[x.cells_eq]at u;refine rx @eQ0 ?_;refine cl (u) ?_;obtain⟨bD,ar,hB,hne⟩:=id hI.wb;unfold wrR at ar;have a4:=hI.m;have hmn:=hI.mne;have a6:((w1.n:Nat):Int).tdiv 8=((w1.n / 8:Nat):Int):=by rw[Int.tdiv_eq_ediv_of_nonneg ω];omega
 have e2:=JU (vD:=YR) ZP f.name ((w1.n / 8:Nat):Int) E1;have e3:=YS ZP f.name;simp only[show KG f.name=D.str f.name from rfl,show ∀n,YR n=.int .i64 n from λ_=>rfl]at e2 e3;rw[<-hE]at e2;have hwn:=af.n;refine xA (nd2 @ar (nd2 @a4 (nd2 @a6 (nd2 @e2 @e3)))) ?_;have ak:=hI.setE (E':=E2);have ad:(S1.upd mz (.map (Kh E2))) mk=sO (.map (WL YR id Zg1)):=by rw[ZIG _ _ a5];exact hK
 have aj:Zsy T (S1.upd mz (.map (Kh E2))) z mz ob os:=λy o hy=>by obtain⟨h1,h2,h3,h4,h5⟩:=ai y o hy;exact⟨by rw[ZIG _ _ h3];exact h1,h2,h3,h4,h5⟩
 obtain⟨ah,am,ae⟩:=ZAo ak af;have ac:=YF (vD:=id) Zdk f.kind Zg1;have ag:=YS Zdk f.kind;simp only[show YR f.kind=D.int .i64 f.kind from rfl]at ac ag;rw[am]at ac;unfold Fld.cells at ae;rw[x.cells_eq]at ae;generalize hS2e:S1.upd mz (.map (Kh E2))=S2 at *;refine rx (nd2 @ad (nd2 @ac @ag)) ?_;rw[show id (D.fn (.func ah) [] [])=D.fn (.func ah) [] [] from rfl];obtain⟨a3,az,a0⟩:=ak.nomap ad;refine vV (ae.V (first:=[]) (args:=[_,_,_]) (caps:=[])) ?_ ?_;rintro dd S3 ⟨hr,a8,a9,ba,aw,al⟩;cases hr;refine gR0 ?_;refine gA ?_;refine Zf ?_;exact ab ((I m.fields)-(i+1)) ω (i+1) rfl a8 a9 ba S3 (by rw[aq];exact aw) (al mk _ ad a3 az a0).1 (λy o hy=>by
  obtain⟨h1,h2,h3,h4,h5⟩:=aj y o hy;obtain⟨h6,h7,h8⟩:=al y o h1 h2 h4 h5;exact⟨h6,h2,h3,h7,h8⟩) ω
 rintro dd S3 ⟨hr,_⟩;cases hr;simp only[decide_eq_false_iff_not]at hd;obtain rfl:i=I m.fields:=ω;refine rg ?_;exact hF.ret (.ptr z 0) S1 rfl φ (ZIB _) ZIz ⟨z,mz,ob,os,sD,_,rfl,hI,ai⟩;exact a7 _ 0 rfl nO nO .nilsl S0 av ay au ω
def Za.freezeO{f args T Φ Ψ}(h:Za ZIy f args T Φ)(hΦ:∀r S,Φ r S->∃Ln z cs cs' S2,r=.ret (.ptr z 0)/\(∀b∈Ln,∃ds,S b=sO (.cells ds))/\S z=sO (.cells cs)/\z∉Ln/\LdC S Ln cs cs'/\S2.sub ((S.delL Ln).upd z (.cells cs'))/\Ψ r S2):Za ZIy f args T Ψ :=
 ⟨h.1,λg w vs hs ha=>(h.2 g w vs hs ha).mono λe w' ⟨g',S',r,he,hS,hr,hq⟩=>by
  obtain⟨Ln,z,cs,cs',S2,rfl,hL,hz,ah,hl,u,hΨ⟩:=hΦ _ _ hq;have hx:=Js hS hL;have ad:(KF g' S' Ln).prot z=g'.prot z:=by simp only[KF,if_neg ah]
  have ab:=ZeZ hS hL;have ac:YJ (KF g' S' Ln) w' z cs:=(hS.obj z _ hz).mono hx rfl ad;have t:YJ (KF g' S' Ln) w' z cs':=by obtain⟨h1,vs,T,h2,h3,h4,h5⟩:=ac;refine⟨h1,vs,T,h2,h3.trans hl.len,λi v d hv hd=>?_,h5⟩;obtain⟨x,af,ag⟩:=hl.get hd;exact ag _ w' v ab (h4 i v x hv af)
  have ae:=(ZtX hS hL).updL (b:=z) (o:=.cells cs') t (hS.kept z _ hz);refine⟨KF g' S' Ln,S2,.ret (.ptr z 0),he.trans hx,ae.sub u,?_,hΨ⟩;cases e<;>simp only[Zod]at hr⊢;exact Rep.mono hr hx⟩
def ZvT{sz:Nat}{X:List D}:∀{rows:List (List D)} {j},(∀r∈rows,I r=sz)->j<I rows->((rows.flatten++X).drop (j*sz)).take sz=rows.getD j []
 | [],j,_,h=>absurd h (Nat.not_lt_zero _)
 |r::l,0,h,_=>by have t:=h r ψ;rw[Nat.zero_mul,List.drop_zero,List.flatten_cons,ZI1,List.take_left' t];rfl
 |r::l,j+1,h,hj=>by have t:=h r ψ;rw[List.flatten_cons,ZI1,ZIX,Nat.one_mul,Nat.add_comm,<-List.drop_drop,List.drop_left' t];exact ZvT (λq u=>h q (by simp[u])) (by simpa using hj)
def Zug(o:Option Nat):List Nat:=match o with
 |some x=>[x]
 |none=>[]
def ZbU{o:Option Nat}{y}:y∈Zug o↔o=sO y:=by
 cases o with
 |none=>simp[Zug]
 |some x=>simp[Zug,eq_comm]
def Buf.ldB{s b t ob Ln}(h:Buf s 1 (List.map u8C b) t ob)(u:∀x,ob=sO x->x∈Ln):Ya s Ln t (Zk b):=by
 cases h with
 |nil h0 =>have:b=[]:=List.map_eq_nil_iff.1 h0;subst this;exact Ya.of_le (YU λb h=>by cases h)
 |obj x cap X h hX hc =>have:=ZxO (c:=cap) (off:=0) (u x rfl) h rfl (Nat.zero_le _);rw[ZIU];exact this
def Buf.ldS{s l sD os Ln}(h:Buf s 2 (List.map Zhm l) sD os)(u:∀x,os=sO x->x∈Ln):Ya s Ln sD (ZgF l):=by
 cases h with
 |nil h0 =>have:l=[]:=List.map_eq_nil_iff.1 h0;subst this;exact Ya.of_le (YU λb h=>by cases h)
 |obj x cap X h hX hc =>
  rw[ZIU];refine Ya.msl (u x rfl) h (by rw[ZII,Zgg Zdv,ZIU];omega) λj t=>?_;rw[ZvT Zdv (by rw[ZIU];exact t)];have:(l.map Zhm).getD j []=Zhm (l.getD j dE):=by simp[ZIN,t]
  rw[this];exact LdC.refl _
def Buf.live{s sz rows d ob}(h:Buf s sz rows d ob){x}(t:ob=sO x):∃ds,s x=sO (.cells ds):=by
 cases h with
 |nil=>cases t
 |obj y cap X h hX hc=>cases t;exact⟨_,h⟩
def Znv{args}{d:Dfn}{o:Wr}{path:Str}{T:St}(h:Za ZIy 25 args T (ZDc d o path T)):Za ZIy 25 args T (WrP d o path T):=by
 refine Za.freezeO h λr S ⟨z,mz,ob,os,sD,E,hr,hI,t⟩=>?_;obtain⟨bD,hz,hB,ab⟩:=id hI.wb;have u:T z=nO:=by
  cases e:T z with
  |none=>rfl
  |some o=>exact absurd rfl (t z o e).2.1
 refine⟨Zug ob++Zug os,z,_,Zk o.b::.int .i64 o.n::wrR d path mz (ZgF o.sums),T.upd z (.cells (Zk o.b::.int .i64 o.n::wrR d path mz (ZgF o.sums))),hr,λb hb=>?_,hz,λhm=>?_,?_,λy o' hy=>?_,⟨z,mz,u,hr,rfl⟩⟩;rcases List.mem_append.1 hb with hb|hb;exact hB.live (ZbU.1 hb);exact hI.s.live (ZbU.1 hb);rcases List.mem_append.1 hm with hm|hm;exact ab (ZbU.1 hm);exact hI.zs (ZbU.1 hm);refine .cons (hB.ldB λx hx=>List.mem_append.2 (.inl (ZbU.2 hx))) (.cons (.refl _) ?_);exact .cons (.refl _) (.cons (.refl _) (.cons (.refl _) (.cons (.refl _) (.cons (.refl _) (.cons (hI.s.ldS λx hx=>List.mem_append.2 (.inr (ZbU.2 hx))) .nil)))));by_cases e:y=z;subst e;rw[ZIE]at hy⊢;exact hy;rw[ZIG _ _ e]at hy⊢;obtain⟨h1,h2,h3,h4,h5⟩:=t y o' hy;simp only[St.delL,List.mem_append,ZbU];rw[if_neg (by rintro(e|e);exact h4 e;exact h5 e)];exact h1
def noW:Wr:=⟨[],0,[]⟩
def WtP(W:Wr)(e:Int)(T:St)(r:Res)(S:St):Prop:=∃z n r3 r4 r5 r6 r7,T z=nO/\r=.ret (.tup [.ptr z 0,.int .i64 e])/\S=T.upd z (.cells [Zk W.b,.int .i64 n,r3,r4,r5,r6,r7,ZgF W.sums])
def Zmf(hI:Jx)(d:Dfn)(s:Str)(v:Val)(o:Wr)(hs:Ww v=true->wtN v<=5100/\Yy v<=51)(hf:(WM d s v).2=0->0<=Zz d s (I d.msgs))(hw:(WM d s v).2=0->∀T,Za ZIy 25 [.agg d.cells,.agg (Zn d s).cells,.agg v.cells,.str []] T (WrP d o [] T))(T:St):
  Za ZIy 15 [.agg d.cells,.str s,.agg v.cells] T (WtP (if (WM d s v).2=0 then o else noW) (WM d s v).2 T):=by
 refine Zb (cR 15 f15) λF hF=>?_;have u:=Zsl hI d s v hs;generalize WM d s v=R at *;obtain⟨⟨p,c⟩,e⟩:=R;simp only at u hf hw hF;have ad:Zi (λx:Msg=>dC (x.name=s)) d.msgs=Zz d s (I d.msgs):=by unfold Zz;rw[ZJa]
 rw[v.cells_eq]at u hw⊢;unfold Dfn.cells at u;refine rx @eQ2 ?_;refine rg ?_;refine cl (u) ?_;refine rg ?_;refine cd (λhe=>?_) (λhe=>?_);have t:¬e=0:=by simpa using he
 rw[if_neg t]at hF;refine rg ?_;refine xP 22 λz hz=>?_;refine Jk (b:=z) (ZIE _ _ _) (ds':=[Zk [],.int .i64 0,.str [],.nilsl,.str [],.str [],.nilmap,ZgF []]) (.cons (YU λb h=>by cases h) (.cons (ZIB _) (.cons (ZIB _) (.cons (ZIB _) (.cons (ZIB _) (.cons (ZIB _) (.cons (ZIB _) (.cons (YU λb h=>by cases h) .nil)))))))) ?_;rw[ZIR];exact hF.ret _ _ rfl (by first|trivial|simp) (ZIB _) ZIz ⟨z,0,_,_,_,_,_,hz,rfl,rfl⟩;have t:e=0:=by simpa using he
 rw[if_pos t]at hF;have ab:=hw t T;have hix:=QS (hf t);have ae:max (Zz d s (I d.msgs)) 0=ixS d s:=by have:=hf t;omega
 have ac:=Zbc d s;rw[ad,ae]at ac;unfold Dfn.cells at ac ab;unfold Zn at ab;generalize af:d.msgs.getD (ixS d s) dE=my at *;unfold Msg.cells at ab;refine rg ?_;refine cl (ac) ?_;refine xA (nd2 @atM (nd2 @af @eQ3)) ?_;refine cV0 (ab) ?_ ?_;rintro dd S1 ⟨z,mz,hz,hr,hS⟩;cases hr;refine gR0 ?_;exact hF.ret _ S1 rfl (by first|trivial|simp) (ZIB _) ZIz ⟨z,_,_,_,_,_,_,hz,by rw[t];rfl,by rw[hS];rfl⟩;rintro dd S1 ⟨_,_,_,hr,_⟩;cases hr
def Zmc(hI:Jx)(d:Dfn)(s:Str)(v:Val)(o:Wr)(hs:Ww v=true->wtN v<=5100/\Yy v<=51)(hf:(WM d s v).2=0->0<=Zz d s (I d.msgs))(hw:(WM d s v).2=0->∀T,Za ZIy 25 [.agg d.cells,.agg (Zn d s).cells,.agg v.cells,.str []] T (WrP d o [] T))(hb:(WM d s v).2=0->I o.b<=1000000000):
  Zd ZIy 6 [.agg d.cells,.str s,.agg v.cells] (.tup [Zk (if (WM d s v).2=0 then o else noW).b,.int .i64 (WM d s v).2]):=by
 refine Zg (cR 6 f6) λF st u=>?_;have t:=Zmf hI d s v o hs hf hw st;have hl:(if (WM d s v).2=0 then o else noW).b.length<=1000000000:=by split;exact hb (by assumption);exact Nat.zero_le _
 generalize (if (WM d s v).2=0 then o else noW)=W at *;rw[v.cells_eq]at t⊢;unfold Dfn.cells at t;refine rx @eQ2 ?_;refine rg ?_;refine cV (t) ?_ ?_;rintro dd S ⟨z,n,r3,r4,r5,r6,r7,hz,hr,hS⟩;cases hr;subst hS;refine gR0 ?_;refine rx @ZIE ?_;refine cV (QF W.b hl _) ?_ ?_;rintro dd S ⟨hr,hS⟩;subst hS;cases hr;refine gR0 ?_;exact u rfl (by first|trivial|simp) (ZIB _) (ZIZ _ hz);rintro dd S ⟨hr,_⟩;cases hr;rintro dd S ⟨_,_,_,_,_,_,_,_,hr,_⟩;cases hr
def ZvW{rec path}{l:List Fld}{ps}(hu:NmU l):∀{i j},j<i->i<=I l->Zp (l.getD j dE).name (stF rec path l ps i).1=sO (((stF rec path l ps j).2.n / 8:Nat):Int)
 |0,j,h,_=>by omega
 |i+1,j,h,hi=>by rw[J9];unfold stE;simp only;rw[WU];by_cases e:j=i;subst e;rw[if_pos rfl];rw[if_neg (hu j i ω ω)];exact ZvW hu ω ω
def ZCA{m:Msg}{v:Val}(hu:NmU m.fields)(hr:JJ m v.parts=true){i}(hi:i<I m.fields):Zo9 v (m.fields.getD i dE).name=xAt m.fields v.parts i:=by
 have u:=hr;unfold JJ at u;rw[decide_eq_true_eq]at u;have hlen:(vfs m.fields).length=I v.parts:=by simpa using congrArg List.length u
 have t:=λk (hk:k<I v.parts)=>(ZeQ hu hr hk).2;have ab:∀a,a<I m.fields->a≠i->(m.fields.getD a dE).name≠(m.fields.getD i dE).name:=λa ha ac=>by rcases Nat.lt_or_gt_of_ne ac with h|h;exact hu a i h hi;exact(hu i a h ha).symm
 unfold Zo9 xAt;by_cases hv:YG (m.fields.getD i dE)=true;obtain⟨h1,h2⟩:=Zef rfl hi hv;have hk:(vfs (m.fields.take i)).length<I v.parts:=ω;have hf:=W2 (p:=λx:Val=>dC (x.name=(m.fields.getD i dE).name)) (l:=v.parts) hk (by rw[decide_eq_true_eq,t _ hk,h2]) (λj hj=>by
  rw[decide_eq_false_iff_not,t j ω];obtain⟨a,a1,a2,a3,a4⟩:=Zbj (l:=m.fields) (k:=j) ω;rw[a4];exact ab a a1 λe=>by subst e;omega)
 rw[hf,if_neg ω,if_pos hv,Int.toNat_natCast];have hf:=Wp (p:=λx:Val=>dC (x.name=(m.fields.getD i dE).name)) (l:=v.parts) (λx hx=>by
  obtain⟨j,hj,rfl⟩:=ZIV hx;have h3:v.parts[j]=v.parts.getD j dE:=by simp[ZIN,hj]
  rw[h3,decide_eq_false_iff_not,t j hj];obtain⟨a,a1,a2,a3,a4⟩:=Zbj (l:=m.fields) (k:=j) ω;rw[a4];exact ab a a1 λe=>hv (by rw[<-e];exact a2))
 rw[hf,if_pos (by decide),if_neg hv]
def ZAa{n v}(h:n=1\/n=2\/n=3):(8*(ZaJ n v).length:Int)=W8 n:=by
 unfold ZaJ W8;rcases h with rfl|rfl|rfl<;>rfl
def Zun{chg rec q ps}{L:Val->Int}(u:∀l,(chg l).length=I l)(t:∀y∈ps,∀p,((rec y p).b.length:Int)=L y):∀{n j w},n+j=I ps->((YZ chg rec q ps n j w).n:Int)=Y4 L (ps.drop j) w.n
 |0,j,w,h=>by rw[Zhc,ZJk ω];rfl
 |n+1,j,w,h=>by
  have hj:j<I ps:=ω;rw[Zbw,Zun u t ω,Wh hj];simp only[Y4,Wr.app]
  congr 1
  rw[u];have:=t _ (ZE hj) (ZN q (Ym ps j))
  push_cast
  omega
def Zpb{chg rec q ps}:∀{n j w},BOk w.b w.n->BOk (YZ chg rec q ps n j w).b (YZ chg rec q ps n j w).n
 |0,_,_,h=>h
 |n+1,j,w,h=>Zpb (n:=n) (j:=j+1) (h.bytes _)
structure FN(f:Fld)(x:Val)(E:List (Str×Int))(w:Wr):Prop where
 kind:1<=f.kind/\f.kind<=12
 num:f.kind=1\/f.kind=2->1<=f.bits/\f.bits<=32/\(f.little=true->f.bits=16\/f.bits=24\/f.bits=32)
 pad:f.kind=10->ZbI f.bits=true
 chk:f.kind=11->f.check=1\/f.check=2\/f.check=3
 none:f.kind<7\/f.kind=10\/f.kind=11->x.parts=[]
def ZyG{rec path f x E w}{L:Val->Int}(h:FN f x E w)(hL:∀y∈x.parts,∀p,((rec y p).b.length:Int)=L y):((Kg rec path f x E w).n:Int)=Y4 L x.parts (K0 f x w.n):=by
 have hk:=h.kind;have hX:=K0.eq_1 f x (w.n:Int);unfold Kg;by_cases h1:f.kind=1\/f.kind=2;obtain⟨b1,b2,b3⟩:=h.num h1;rw[if_pos h1]at hX;rw[h.none ω,hX];have hn:((Zha f.little f.bits.toNat w.n:Nat):Int)=(w.n:Int)+f.bits:=by unfold Zha;split;rename_i hl;have:=b3 hl;omega;omega
 rcases h1 with h1|h1;rw[if_pos h1];exact hn;rw[if_neg ω,if_pos h1];exact hn;rw[if_neg h1]at hX;rw[if_neg ω,if_neg ω];by_cases h3:f.kind=3;rw[if_pos h3]at hX⊢;rw[h.none ω,hX];have ab:(Y9 x.int.toNat (Z0 x.int.toNat)).length=Z0 x.int.toNat+1:=by unfold Y9;rw[ZII,J6];rfl
 simp only[Wr.add,Y4];rw[ab];push_cast;omega;rw[if_neg h3]at hX⊢;by_cases h4:f.kind=4;rw[if_pos h4]at hX⊢;rw[h.none ω,hX];simp only[Wr.add,Y4];push_cast;omega;rw[if_neg h4]at hX⊢;by_cases h5:f.kind=5;rw[if_pos h5]at hX⊢;rw[h.none ω,hX];simp only[Wr.add,Y4,ZII,ZIP,List.length_nil];push_cast;omega;rw[if_neg h5]at hX⊢;by_cases h6:f.kind=6;rw[if_pos h6]at hX⊢;rw[h.none ω,hX];simp only[Wr.add,Y4];push_cast;omega;rw[if_neg h6]at hX⊢;by_cases t:f.kind=10;rw[if_pos t]at hX⊢;rw[h.none ω,hX];have hp:=ZbX (h.pad t);have:=(Zbi (v:=(w.n:Int)) (of:=f.bits) ω ω).1.1;simp only[Wr.pad,Y4];omega;rw[if_neg t]at hX⊢;by_cases u:f.kind=11;rw[if_pos u]at hX⊢;rw[h.none ω,hX];simp only[Wr.chk,Y4];rw[<-ZAa (v:=Zdd f.check (w.b.drop ((Zp f.from_ E).getD 0).toNat)) (h.chk u)]
 push_cast;omega
 rw[if_neg u]at hX⊢;rw[hX];have:=Zun (chg:=if f.kind=12 then KQ f.key.toNat else id) (rec:=rec) (q:=ZN path f.name) (ps:=x.parts) (L:=L) (λl=>by split;exact Znq;rfl) hL (n:=I x.parts) (j:=0) (w:=w) ω;rw[List.drop_zero]at this;exact this
def ZAr{rec path f x E w}(h:FN f x E w)(hb:BOk w.b w.n):BOk (Kg rec path f x E w).b (Kg rec path f x E w).n:=by
 have t:∀v,(f.kind=1\/f.kind=2)->BOk (w.num f v).b (w.num f v).n:=λv h1=>by unfold Wr.num Zkv Zha;simp only;split;have:=hb.bytes (leS v.toNat ((f.bits.toNat+7) / 8));rw[Zdl]at this;exact this;exact ZnO hb
 unfold Kg;split;exact t _ ω;split;exact t _ ω;split;exact hb.bytes _;split;exact hb.bytes _;split;exact hb.bytes _;split;exact hb.bytes _;split;rename_i u;have hp:=ZbX (h.pad u);have h2:=(Zbi (v:=(w.n:Int)) (of:=f.bits) ω ω).1.1;have:=ZnO (v:=0) (k:=(upS w.n f.bits-w.n).toNat) hb;unfold Wr.pad;simp only;rw[show(upS w.n f.bits).toNat=w.n+(upS w.n f.bits-w.n).toNat by omega];exact this;split;exact hb.bytes _;exact Zpb hb
structure AlM(d:Dfn)(j:Nat)(m:Msg):Prop where
 fld:∀i,i<I m.fields->ZaB d j i m (m.fields.getD i default)
 off:∀i,i<=I m.fields->Qr m.fields i=false
 nm:NmU m.fields
 few:I m.fields<=40
def Zta{d j}(h:Wk d=true)(hj:j<I d.msgs):AlM d j (d.msgs.getD j dE):=by
 have hv:=Q5 h;have hm:=hv.msg hj;refine⟨λi u=>hm.at_ u,λi u=>?_,hm.nmU,hm.many⟩;unfold Wk at h;rw[ZIJ]at h;have t:=List.all_eq_true.1 h.2 _ (ZE hj);unfold ZcM at t;have h3:=List.all_eq_true.1 t i (List.mem_range.2 ω);simpa using h3
def ZyJ{f:Fld}(h:QM f=0):1<=f.bits/\f.bits<=32/\(f.little=true->f.bits=16\/f.bits=24\/f.bits=32):=by
 unfold QM Zc9 at h;split at h;omega;rename_i t;simp only[ZIW,ZIJ,decide_eq_true_eq,Bool.not_eq_true',decide_eq_false_iff_not,not_or,not_and]at t;refine⟨ω,ω,λu=>?_⟩;have:=t.2.2 u;omega
def ZD8{d j i m f x E w}(h:ZaB d j i m f)(hx:YG f=true->WC f.kind x=false)(hd:YG f=false->x=dE):FN f x E w:=by
 have u:=h.ks;unfold Qo at u;have ho:=h.fok;refine⟨h.kind,λh1=>?_,ho.pad,ho.chk,λh1=>?_⟩;refine ZyJ ?_;rcases h1 with h1|h1<;>simp only[h1,ZJg,if_true,if_false]at u<;>exact u;cases t:YG f with
 |false=>rw[hd t];rfl
 |true =>have hu:=hx t;unfold WC at hu;unfold YG at t;simp only[ZIJ,Bool.not_eq_true',decide_eq_false_iff_not]at t;simp only[Bool.or_eq_false_iff,Bool.and_eq_false_iff,Bool.not_eq_false',decide_eq_true_eq,decide_eq_false_iff_not]at hu;have:=hu.2;exact List.eq_nil_of_length_eq_zero ω
def Zpa{L:Val->Int}:∀{ps b},∃k:Int,Y4 L ps b=b+8*k
 | [],b=>⟨0,by simp[Y4]⟩
 |y::r,b=>by obtain⟨k,t⟩:=Zpa (L:=L) (ps:=r) (b:=b+8*L y);exact⟨k+L y,by rw[Y4,t];omega⟩
def ZC1{n k:Int}(hp:ZbI k=true)(hn:0<=n):upS n k % 8=(upS (n % 8) k).tmod 8:=by
 have hk:=ZbX hp;have hu:=(Zbi (v:=n % 8) (of:=k) ω ω);rw[Int.tmod_eq_emod_of_nonneg ω];unfold ZbI at hp;simp only[ZIW,ZIJ,decide_eq_true_eq]at hp;have t:∀q:Int,2<=q->upS n q=(n+q-1) / q*q:=λq hq=>by unfold upS;rw[Int.tdiv_eq_ediv_of_nonneg ω]
 have u:∀q:Int,2<=q->upS (n % 8) q=(n % 8+q-1) / q*q:=λq hq=>by unfold upS;rw[Int.tdiv_eq_ediv_of_nonneg ω]
 by_cases c2:k=2;subst c2;rw[t 2 ω,u 2 ω];omega;by_cases c4:k=4;subst c4;rw[t 4 ω,u 4 ω];omega;have h8:k % 8=0:=by have:(8:Int)<=k/\k.tmod 8=0:=ω;rw[Int.tmod_eq_emod_of_nonneg ω]at this;exact this.2
 obtain⟨q,rfl⟩:∃q,k=8*q:=⟨k / 8,ω⟩;have e1:upS n (8*q) % 8=0:=by
  rw[t _ ω];have:(n+8*q-1) / (8*q)*(8*q)=8*((n+8*q-1) / (8*q)*q):=by rw[Int.mul_left_comm]
  rw[this];omega
 have e2:upS (n % 8) (8*q) % 8=0:=by
  rw[u _ ω];have:(n % 8+8*q-1) / (8*q)*(8*q)=8*((n % 8+8*q-1) / (8*q)*q):=by rw[Int.mul_left_comm]
  rw[this];omega
 rw[e1,e2]
def ZzX{f x E w}(h:FN f x E w){n:Int}(hn:0<=n)(hb:KK f=true->n % 8=0){L:Val->Int}:Y4 L x.parts (K0 f x n) % 8=ZcO f (n % 8):=by
 obtain⟨k,hk⟩:=Zpa (L:=L) (ps:=x.parts) (b:=K0 f x n);rw[hk];have hX:=K0.eq_1 f x n;unfold ZcO;by_cases h1:f.kind=1\/f.kind=2;have:=h.num h1;rw[if_pos h1]at hX⊢;rw[Int.tmod_eq_emod_of_nonneg ω];omega;rw[if_neg h1]at hX⊢;by_cases t:f.kind=10;rw[if_neg ω,if_neg ω,if_neg ω,if_neg ω,if_pos t]at hX;rw[if_pos t,<-ZC1 (h.pad t) hn,hX];omega;rw[if_neg t]at hX⊢;have u:ZbE f.kind=false:=by unfold ZbE;simp;omega
 have h0:=hb (by unfold KK;rw[u];rfl);have hck:W8 f.check=32\/W8 f.check=16:=by unfold W8;split<;>simp
 rw[hX]
 repeat' split
 all_goals omega
def Zwc{d j m}(h:AlM d j m){i}(hi:i<I m.fields):KK (m.fields.getD i dE)=true->KB m.fields i=0:=λu=>by
 have:=h.off i ω;unfold Qr at this;rw[if_neg ω,Bool.or_eq_false_iff]at this;have t:=this.1;rw[u]at t;simpa using t
def Zue{d j m}(h:AlM d j m):KB m.fields (I m.fields)=0:=by
 have:=h.off (I m.fields) (ZIO _);unfold Qr at this;rw[if_pos rfl]at this;simpa using this
def Zl8:∀{a b:List Val},wtL (a++b)=wtL a+wtL b
 | [],b=>by simp[wtL]
 |x::r,b=>by rw[List.cons_append,wtL,wtL,Zl8];omega
def ZmU{chg rec q ps}(h:∀y∈ps,∀p,(rec y p).sums.length<=40*wtN y):∀{n j w},n+j=I ps->(YZ chg rec q ps n j w).sums.length<=I w.sums+40*wtL (ps.drop j)
 |0,j,w,_=>Nat.le_add_right _ _
 |n+1,j,w,hn=>by have hj:j<I ps:=ω;have t:=ZmU (chg:=chg) (rec:=rec) (q:=q) h (n:=n) (j:=j+1) (w:=w.app chg (rec (ps.getD j dE) (ZN q (Ym ps j)))) ω;have h2:=h _ (ZE hj) (ZN q (Ym ps j));rw[Zbw,Wh hj];simp only[wtL,Wr.app,ZII]at t⊢;omega
def ZyH{rec path f x E w}(h:∀y∈x.parts,∀p,(rec y p).sums.length<=40*wtN y):(Kg rec path f x E w).sums.length<=I w.sums+1+40*wtL x.parts:=by
 have:=ZmU (chg:=if f.kind=12 then KQ f.key.toNat else id) (rec:=rec) (q:=ZN path f.name) h (n:=I x.parts) (j:=0) (w:=w) ω;rw[List.drop_zero]at this;unfold Kg;generalize (if f.kind=12 then KQ f.key.toNat else id)=chg at *
 repeat' split
 all_goals first|(simp only[Wr.num,Wr.add,Wr.pad,Wr.chk,ZII,ZIP,List.length_nil];omega)|omega
section
variable {d:Dfn} {j:Nat} {m:Msg} {v:Val} {rec:Val->Str->Wr} {L:Val->Int} {path:Str}
structure StI(rec:Val->Str->Wr)(L:Val->Int)(path:Str)(m:Msg)(v:Val)(i:Nat):Prop where
 bok:BOk (stF rec path m.fields v.parts i).2.b (stF rec path m.fields v.parts i).2.n
 off:((stF rec path m.fields v.parts i).2.n:Int) % 8=KB m.fields i
 bits:W0 L (m.fields.drop i) (v.parts.drop (vfs (m.fields.take i)).length) (stF rec path m.fields v.parts i).2.n=W0 L m.fields v.parts 0
 sums:(stF rec path m.fields v.parts i).2.sums.length<=i+40*wtL (v.parts.take (vfs (m.fields.take i)).length)
def Jh{n}(hL:Za3 d (n+1) m v){i}(hi:i<I m.fields):(YG (m.fields.getD i dE)=true->xAt m.fields v.parts i∈v.parts/\XOk (m.fields.getD i dE) (xAt m.fields v.parts i))/\(YG (m.fields.getD i dE)=false->xAt m.fields v.parts i=dE):=by
 obtain⟨t,hX⟩:=hL;unfold xAt;refine⟨λu=>?_,λu=>by rw[if_neg (by rw[u];simp)]⟩;rw[if_pos u];obtain⟨h1,h2⟩:=Zef rfl hi u;rw[t]at h1;have:=(hX _ h1).1;rw[h2]at this;exact⟨ZE h1,this⟩
def Zlq{n}(hA:AlM d j m)(hL:Za3 d (n+1) m v){i}(t:i<I m.fields){E w}:FN (m.fields.getD i dE) (xAt m.fields v.parts i) E w :=
 ZD8 (hA.fld i t) (λu=>((Jh hL t).1 u).2.unused) (λu=>(Jh hL t).2 u)
def ZqV{n}(u:Za3 d (n+1) m v){i}(hi:i<I m.fields){Q:Val->Prop}(h:∀x∈v.parts,∀y∈x.parts,Q y):∀y∈(xAt m.fields v.parts i).parts,Q y:=λy t=>by
 cases hv:YG (m.fields.getD i dE) with
 |true=>exact h _ ((Jh u hi).1 hv).1 y t
 |false =>rw[(Jh u hi).2 hv]at t;simp[show(dE:Val).parts=[] from rfl]at t
def ZBr:StI rec L path m v 0:=⟨(show([]:List UInt8).length=(0+7) / 8 from rfl),rfl,rfl,Nat.zero_le _⟩
def ZBq{n}(hA:AlM d j m)(hL:Za3 d (n+1) m v)(hr:∀x∈v.parts,∀y∈x.parts,∀p,((rec y p).b.length:Int)=L y/\(rec y p).sums.length<=40*wtN y){i}(hi:i<I m.fields)(h:StI rec L path m v i):StI rec L path m v (i+1):=by
 obtain⟨h1,h2,h3,h4⟩:=h;have ab:=λE w=>Zlq (E:=E) (w:=w) hA hL hi;have u:=ZqV hL hi (Q:=λy=>∀p,((rec y p).b.length:Int)=L y/\(rec y p).sums.length<=40*wtN y) hr;have hx:=xAt.eq_1 m.fields v.parts i;have t:=Zjf hi;have hn:=ZyG (rec:=rec) (path:=path) (ab (stE rec path m.fields v.parts i) (stF rec path m.fields v.parts i).2) (λy hy p=>(u y hy p).1);have hs:=ZyH (rec:=rec) (path:=path) (f:=m.fields.getD i dE) (E:=stE rec path m.fields v.parts i) (w:=(stF rec path m.fields v.parts i).2) (λy hy p=>(u y hy p).2);have ae:=Zwc hA hi;have ad:=ZzX (ab (stE rec path m.fields v.parts i) (stF rec path m.fields v.parts i).2) (n:=((stF rec path m.fields v.parts i).2.n:Int)) ω (λhh=>by rw[h2];exact ae hh) (L:=L);have ac:YG (m.fields.getD i dE)=true->(vfs (m.fields.take i)).length<I v.parts:=λhv=>by have:=(Zef rfl hi hv).1;rw[hL.1]at this;exact this
 rw[Wh hi]at h3;simp only[W0]at h3;refine⟨ZAr (ab _ _) h1,?_,?_,?_⟩;rw[J9];show((Kg _ _ _ _ _ _).n:Int) % 8=ZcO (m.fields.getD i dE) (KB m.fields i);rw[hn,ad,h2]
 .rw[J9];show W0 L _ _ ((Kg _ _ _ _ _ _).n:Int)=_;rw[hn,<-h3,hx];cases hv:YG (m.fields.getD i dE) with
  |true =>rw[if_pos rfl,if_pos rfl,t,if_pos hv,ZII,List.drop_drop];simp[ZIN]
  |false =>rw[if_neg ψ,if_neg ψ,t,if_neg (by rw[hv];simp),ZI5];rw[show(dE:Val).parts=[] from rfl];rfl
 rw[J9];show(Kg _ _ _ _ _ _).sums.length<=_;cases hv:YG (m.fields.getD i dE) with
 |true =>have hk:=ac hv;rw[hv,if_pos rfl]at hx;rw[t,if_pos hv,ZII,show([m.fields.getD i dE]:List Fld).length=1 from rfl,Yo hk,Zl8,<-hx];have hw:=ZaA (xAt m.fields v.parts i);simp only[wtL];omega
 |false =>rw[hv,if_neg ψ]at hx;rw[t,if_neg (by rw[hv];simp),ZI5];rw[hx,show(dE:Val).parts=[] from rfl]at hs;rw[hx];simp only[wtL]at hs;omega
def ZhW{n}(hA:AlM d j m)(hL:Za3 d (n+1) m v)(hr:∀x∈v.parts,∀y∈x.parts,∀p,((rec y p).b.length:Int)=L y/\(rec y p).sums.length<=40*wtN y):∀{i},i<=I m.fields->StI rec L path m v i
 |0,_=>ZBr
 |i+1,hi=>ZBq hA hL hr ω (ZhW hA hL hr ω)
end
def Zdf{d}(hal:Wk d=true):∀(n j v path),j<I d.msgs->Za3 d n (d.msgs.getD j dE) v ->
  ((Yd d n (d.msgs.getD j dE) v path).b.length:Int)=lenS d n (d.msgs.getD j dE) v/\(Yd d n (d.msgs.getD j dE) v path).n=8*(Yd d n (d.msgs.getD j dE) v path).b.length/\(Yd d n (d.msgs.getD j dE) v path).sums.length<=40*wtN v
 |0,_,_,_,_,h=>h.elim
 |n+1,j,v,path,hj,hL=>by
  have hA:=Zta hal hj;have hr:∀x∈v.parts,∀y∈x.parts,∀p,((Yd d n (Zn d y.name) y p).b.length:Int)=lenS d n (Zn d y.name) y/\(Yd d n (Zn d y.name) y p).sums.length<=40*wtN y:=λx hx y hy p=>by obtain⟨k,hk,rfl⟩:=ZcK hx;obtain⟨h1,h2⟩:=(hL.2 k hk).2 y hy;have:=Zdf hal n (ixS d y.name) y p (by have:=QS h1;omega) h2;exact⟨this.1,this.2.2⟩
  generalize d.msgs.getD j dE=m at *;have hS:=ZhW (rec:=λy p=>Yd d n (Zn d y.name) y p) (L:=λy=>lenS d n (Zn d y.name) y) (path:=path) hA hL hr (ZIO _);obtain⟨h1,h2,h3,h4⟩:=hS;rw[Zue hA]at h2;rw[List.drop_length]at h3;simp only[W0]at h3;have hw:=ZaA v;have hfew:=hA.few;have htk:wtL (v.parts.take (vfs (m.fields.take (I m.fields))).length)<=wtL v.parts:=by
   conv=>rhs;rw[<-List.take_append_drop (vfs (m.fields.take (I m.fields))).length v.parts,Zl8]
   omega
  unfold BOk at h1;have u:lenS d (n+1) m v=(W0 (λy=>lenS d n (Zn d y.name) y) m.fields v.parts 0).tdiv 8:=rfl;have t:Yd d (n+1) m v path=(stF (λy p=>Yd d n (Zn d y.name) y p) path m.fields v.parts (I m.fields)).2:=rfl;rw[u,t,<-h3];generalize (stF (λy p=>Yd d n (Zn d y.name) y p) path m.fields v.parts (I m.fields)).2=o at *;rw[Int.tdiv_eq_ediv_of_nonneg ω];omega
section
variable {d:Dfn} {j:Nat} {m:Msg} {v:Val} {rec:Val->Str->Wr} {L:Val->Int} {path:Str}
def ZyF{f x E w}(hf:FN f x E w)(ho:FOk f)(hh:I x.hdrs<=100)(u:∀y∈x.parts,(∀p,((rec y p).b.length:Int)=L y)/\0<=L y/\8*L y<=20000*(wtN y:Int)):w.n<=(Kg rec path f x E w).n:=by
 have h1:=ZyG (rec:=rec) (path:=path) hf (λy t p=>(u y t).1 p);have h2:=Zco (f:=f) (x:=x) (b:=(w.n:Int)) ho ω hh;have h3:=JG (rec:=L) (l:=x.parts) (b:=K0 f x w.n) (λy t=>(u y t).2);omega
def ZuJ{n}(t:AlM d j m)(u:Za3 d (n+1) m v)(hh:∀i,i<I m.fields->(xAt m.fields v.parts i).hdrs.length<=100)(hr:∀x∈v.parts,∀y∈x.parts,(∀p,((rec y p).b.length:Int)=L y)/\0<=L y/\8*L y<=20000*(wtN y:Int)):∀{i a},a<=i->i<=I m.fields->(stF rec path m.fields v.parts a).2.n<=(stF rec path m.fields v.parts i).2.n
 |0,a,h,_=>by obtain rfl:a=0:=ω;exact ZIO _
 |i+1,a,h,hi=>by by_cases e:a=i+1;subst e;exact ZIO _;have h1:=ZuJ t u hh hr (i:=i) (a:=a) ω ω;rw[J9];exact Nat.le_trans h1 (ZyF (L:=L) (Zlq t u ω) (t.fld i ω).fok (hh i ω) (ZqV u ω hr))
end
def ZiB{rec path f x E w}(h:7<=f.kind/\f.kind<=9\/f.kind=12):Kg rec path f x E w=YZ (if f.kind=12 then KQ f.key.toNat else id) rec (ZN path f.name) x.parts (I x.parts) 0 w:=by
 unfold Kg;rw[if_neg ω,if_neg ω,if_neg ω,if_neg ω,if_neg ω,if_neg ω,if_neg ω,if_neg ω]
structure Fit(d:Dfn)(n:Nat)(m:Msg)(v:Val):Prop where
 len:Za3 d (n+1) m v
 right:JJ m v.parts=true
 sub:∀x∈v.parts,∀y∈x.parts,∃q,0<=Zz d y.name (I d.msgs)/\(Z3 d n (Zn d y.name) y q).2=0
def ZyE{d n m v p}(hd:ZsX d)(hm:∀f∈m.fields,Zeg d f)(hv:Ww v=true)(h:(Z3 d (n+1) m v p).2=0):Fit d n m v:=by
 have hL:=Ziy hd (n+1) m v p hm hv h;simp only[Z3]at h;split at h;rename_i hc;simp only[ZIJ,decide_eq_true_eq]at hc;refine⟨hL,hc.2.2.2.2,λx hx y hy=>?_⟩;obtain⟨k,hk,rfl⟩:=ZcK hx;have hg:=Zca h k hk;have u:=(hL.2 k hk).1.unused;rw[u,if_neg ψ]at hg;have ab:(vfs m.fields).getD k dE∈vfs m.fields:=ZE (by rw[hL.1];exact hk);have t:=List.mem_filter.1 ab;obtain⟨of,q',h0,h1⟩:=ZrI (hm _ t.1) t.2 u hg y hy;have hn:y.name=of:=by rw[ZdJ h1,ZeK h0]
 exact⟨q',by rw[hn];exact h0,by rw[hn];exact h1⟩;simp at h
def ZAs{d}(hal:Wk d=true){n j v path p0}(hj:j<I d.msgs)(h:(Z3 d (n+1) (d.msgs.getD j dE) v p0).2=0)(hv:VOk v)(hp:I path+6000*(n+1)<=1000000)(hrc:∀x∈v.parts,∀y∈x.parts,∀p T,I p<=I path+6000->Za ZIy 25 [.agg d.cells,.agg (Zn d y.name).cells,.agg y.cells,.str p] T (WrP d (Yd d n (Zn d y.name) y p) p T)):
  ∀i,i<(d.msgs.getD j dE).fields.length->ZzS d path ((d.msgs.getD j dE).fields.getD i dE) (xAt (d.msgs.getD j dE).fields v.parts i) (λy p=>Yd d n (Zn d y.name) y p) (stE (λy p=>Yd d n (Zn d y.name) y p) path (d.msgs.getD j dE).fields v.parts i) (stF (λy p=>Yd d n (Zn d y.name) y p) path (d.msgs.getD j dE).fields v.parts i).2:=by
 have ab:=Q5 hal;have hA:=Zta hal hj;have bl:∀f∈(d.msgs.getD j dE).fields,Zeg d f:=ab.dref _ (ZE hj);have hfo:∀f∈(d.msgs.getD j dE).fields,FOk f:=(ab.dok _ (ZE hj)).fld;have hF:=ZyE ab.dref bl hv.ok h;have bk:MOk (d.msgs.getD j dE):=ab.dok _ (ZE hj);generalize d.msgs.getD j dE=m at *;have hL:=hF.len;have af:∀x∈v.parts,∀y∈x.parts,0<=Zz d y.name (I d.msgs)/\Za3 d n (Zn d y.name) y:=λx hx y hy=>by obtain⟨k,hk,rfl⟩:=ZcK hx;exact(hL.2 k hk).2 y hy
 intro i hi;obtain⟨rec,hrec⟩:∃rec:Val->Str->Wr,rec=λy p=>Yd d n (Zn d y.name) y p:=⟨_,rfl⟩;obtain⟨L,al⟩:∃L:Val->Int,L=λy=>lenS d n (Zn d y.name) y:=⟨_,rfl⟩;have ag:∀x∈v.parts,∀y∈x.parts,∀p,((rec y p).b.length:Int)=L y/\(rec y p).sums.length<=40*wtN y:=λx hx y hy p=>by obtain⟨h1,h2⟩:=af x hx y hy;have:=Zdf hal n (ixS d y.name) y p (by have:=QS h1;omega) h2;rw[hrec,al];exact⟨this.1,this.2.2⟩
 have ay:∀x∈v.parts,∀y∈x.parts,0<=L y/\8*L y<=20000*(wtN y:Int):=λx hx y hy=>by rw[al];exact ZcH ab.dok n _ y (ab.dok.of _) (Wq (Wq hv.ok hx) hy)
 have ai:=λi (hi:i<=I m.fields)=>ZhW (rec:=rec) (L:=L) (path:=path) hA hL ag hi;have bb:∀i,i<I m.fields->VOk (xAt m.fields v.parts i)\/xAt m.fields v.parts i=dE:=λi hi=>by
  cases hb:YG (m.fields.getD i dE) with
  |true=>exact .inl (hv.part ((Jh hL hi).1 hb).1)
  |false=>exact .inr ((Jh hL hi).2 hb)
 have av:∀i,i<I m.fields->(xAt m.fields v.parts i).hdrs.length<=100:=λi hi=>by rcases bb i hi with h1|h1;exact(QC (KZ h1.ok)).2.2.2.1;rw[h1];exact Nat.zero_le _
 have ah:=λ{i a} (h1:a<=i) (h2:i<=I m.fields)=>ZuJ (path:=path) (rec:=rec) (L:=L) hA hL av (λx hx y hy=>⟨λp=>(ag x hx y hy p).1,ay x hx y hy⟩) h1 h2;have ak:=ai (I m.fields) (ZIO _);have az:(stF rec path m.fields v.parts (I m.fields)).2.n<=110000000:=by
  have h1:=ak.bits;rw[List.drop_length]at h1;simp only[W0]at h1;have h2:=ak.off;rw[Zue hA]at h2;have h3:=ZcH ab.dok (n+1) m v bk hv.ok;have h4:lenS d (n+1) m v=(W0 L m.fields v.parts 0).tdiv 8:=by rw[al];rfl
  rw[h4,<-h1,Int.tdiv_eq_ediv_of_nonneg ω]at h3;have h5:=hv.wt;omega
 have ar:∀i,i<=I m.fields->(stF rec path m.fields v.parts i).2.n<=110000000:=λi hi=>Nat.le_trans (ah hi (ZIO _)) az;have a8:∀i,i<=I m.fields->(stF rec path m.fields v.parts i).2.sums.length<=1000000:=λi hi=>by
  have h1:=(ai i hi).sums;have h2:wtL (v.parts.take (vfs (m.fields.take i)).length)<=wtL v.parts:=by
   conv=>rhs;rw[<-List.take_append_drop (vfs (m.fields.take i)).length v.parts,Zl8]
   omega
  have h3:=ZaA v;have h4:=hv.wt;have h5:=hA.few;omega
 have a0:∀i,i<=I m.fields->(stF rec path m.fields v.parts i).2.b.length<=110000000:=λi hi=>by have h1:=(ai i hi).bok;have h2:=ar i hi;unfold BOk at h1;omega
 rw[<-hrec];have u:=hA.fld i hi;have t:=u.ks;have bg:=Zlq (E:=stE rec path m.fields v.parts i) (w:=(stF rec path m.fields v.parts i).2) hA hL hi;have bq:=Jh hL hi;have bo:=J9 rec path m.fields v.parts i;have aq:=ar (i+1) ω;have au:=a8 (i+1) ω;have ao:=a0 (i+1) ω;have aj:=(ai i ω).bok;have a5:=ar i ω;have a9:=a8 i ω;have hbi0:=a0 i ω;have bj:=λ{a} (ha:a<i)=>ZvW (rec:=rec) (path:=path) (ps:=v.parts) hA.nm (i:=i) (j:=a) ha ω;have a3:=λ{a} (ha:a<i)=>ah (i:=i) (a:=a) ω ω;have aw:=bb i hi;have bf:stE rec path m.fields v.parts i=YK (m.fields.getD i dE).name (((stF rec path m.fields v.parts i).2.n / 8:Nat):Int) (stF rec path m.fields v.parts i).1:=rfl;have a7:=hA.nm;have ad:=λy (hy:y∈(xAt m.fields v.parts i).parts)=>ZqV hL hi (Q:=λy=>∃x∈v.parts,y∈x.parts) (λx hx y hy=>⟨x,hx,hy⟩) y hy;generalize bh:m.fields.getD i dE=f at *;generalize xAt m.fields v.parts i=x at *;have ap:=aj;unfold BOk at ap;refine⟨u.kind,aj,a5,a9,?_,ω,λh1=>?_,λh2=>?_,λh1=>?_,?_,λh5=>?_,λh6=>?_,u.fok.pad,λax=>?_,λbe=>?_,λhk=>?_⟩;have:=u.nm;rw[Zkh]at this;simp only[ZIJ,decide_eq_true_eq]at this;omega;have:=bg.num h1;omega;have:=u.num (by unfold YB;simp;omega);exact⟨this.1,this.2.1 h2⟩;rcases aw with hx|hx;exact hx.node.2.1;rw[hx];exact⟨by decide,by decide⟩;rcases aw with hx|hx;exact hx.node.2.2.1;rw[hx];exact Nat.zero_le _;unfold Qo at t;simp only[h5,ZJg,if_true,if_false]at t;split at t;omega;rename_i hc;simp only[ZIW,decide_eq_true_eq,not_or]at hc;omega;have bp:YG f=true:=by unfold YG;simp;omega
 obtain⟨bc,br⟩:=bq.1 bp;obtain⟨h1,h2⟩:=br.hdrs h6;refine⟨h1,h2,?_⟩;have hw:=(hv.part bc).wt;have hw2:=ZaA x;have hw3:=(QC (KZ (hv.part bc).ok)).2.2.2.1;rw[ZpR];omega;refine⟨u.fok.chk ax,?_⟩;unfold Qo at t;simp only[ax,ZJg,if_true,if_false]at t;split at t;omega;split at t;omega;rename_i hfr;have h4:=Jr (show 0<=KV m f.from_ i by omega);have h5:=WE (λg:Fld=>dC (g.name=f.from_)) (m.fields.take i);rw[ZIS,show Zi (λg:Fld=>dC (g.name=f.from_)) (m.fields.take i)=KV m f.from_ i from rfl]at h5;have h6:=h4.1;rw[show(Zi (λg=>dC (g.name=f.from_)) (m.fields.take i))=KV m f.from_ i from rfl,QX ω]at h6;have am:(KV m f.from_ i).toNat<i:=ω;have a6:(m.fields.getD (KV m f.from_ i).toNat dE).name=f.from_:=by simpa using h6
 have hg:=bj am;have hm2:=a3 am;have a4:=a7 _ i am hi;rw[bh,a6]at a4;rw[a6]at hg;exact⟨_,by rw[bf,WU,if_neg a4];exact hg,ω⟩;unfold Qo at t;simp only[be,ZJg,if_true,if_false]at t;split at t;omega;rename_i hc;simp only[ZIW,decide_eq_true_eq,not_or]at hc;omega;have bi:=ZiB (rec:=rec) (path:=path) (x:=x) (E:=stE rec path m.fields v.parts i) (w:=(stF rec path m.fields v.parts i).2) hk;rw[bo]at aq au ao;simp only at aq au ao;rw[bi]at aq au ao;have ba:VOk x\/x=dE:=aw;refine⟨?_,?_,?_,ω,λy hy=>?_,λy hy p T bn=>?_,λy hy p=>?_,ω,ω,ω⟩;rcases ba with hx|hx;exact hx.few;rw[hx];exact Nat.zero_le _;rcases ba with hx|hx;exact hx.name;intro y hy;rw[hx]at hy;simp[show(dE:Val).parts=[] from rfl]at hy;have:=u.nm;rw[Zkh]at this;simp only[ZIJ,decide_eq_true_eq]at this;omega;obtain⟨x',ac,ae⟩:=ad y hy;exact(af x' ac y ae).1;obtain⟨x',ac,ae⟩:=ad y hy;rw[hrec];exact hrc x' ac y ae p T bn;obtain⟨x',ac,ae⟩:=ad y hy;have h1:=(ag x' ac y ae p).1;have h2:=ay x' ac y ae;have h3:=((hv.part ac).part ae).wt;omega
def ZnB{d}(u:Wk d=true){n j v p0}(hj:j<I d.msgs)(h:(Z3 d (n+1) (d.msgs.getD j dE) v p0).2=0)(hv:VOk v):
  Fit d n (d.msgs.getD j dE) v/\AlM d j (d.msgs.getD j dE):=by
 have t:=Q5 u;exact⟨ZyE t.dref (t.dref _ (ZE hj)) hv.ok h,Zta u hj⟩
def Zrn{d}(hal:Wk d=true):∀(n j v path p0),j<I d.msgs->(Z3 d n (d.msgs.getD j dE) v p0).2=0->VOk v->I path+6000*n<=1000000->∀T,
  Za ZIy 25 [.agg d.cells,.agg (d.msgs.getD j dE).cells,.agg v.cells,.str path] T (WrP d (Yd d n (d.msgs.getD j dE) v path) path T)
 |0,_,_,_,_,_,h,_,_,_=>by simp[Z3]at h
 |n+1,j,v,path,p0,hj,h,hv,hp,T=>by
  obtain⟨hF,hA⟩:=ZnB hal hj h hv;have t:=ZAs hal hj h hv hp λx hx y hy p T hp2=>by obtain⟨q,u,ab⟩:=hF.sub x hx y hy;exact Zrn hal n (ixS d y.name) y p q (by have:=QS u;omega) ab ((hv.part hx).part hy) ω T
  exact Znv (Znw d v path hv (by have:=hA.few;omega) (λi hi=>ZCA hA.nm hF.right hi) t T)
def Zmi(v depth)(hd:0<=depth/\depth<=51)(f)(hf:depth<=50->∀x∈v.parts,Zd ZIy 9 [.agg x.cells,.int .i64 (depth+1)] (.int .i64 (f x))):Zd ZIy 9 [.agg v.cells,.int .i64 depth] (.int .i64 (ZqT f v depth)):=by
 refine Wc (cR 9 f9) λad F st ac=>?_;have hw:=((ad (D.agg v.cells) ψ).agg_inv (ZZ v.parts) (by rw[ZI2];simp)).sl_inv.1;have aj:=(Wm ((ad (.agg v.cells) ψ).agg_inv (slD 2 Hdr.cells v.hdrs) (by rw[v.cells_eq];simp[Yg]))).1;unfold big at hw aj;clear ad;have hS:=ZqT.eq_1 f v depth;rw[v.cells_eq];refine rg ?_;refine rh ?_;refine WI ?_;simp only[Eqs,reduceCtorEq,ZIF,reduceIte,ZIC,ZIH,ZID,W1,KC,KX];refine Zb7 rfl rfl rfl φ (WI ?_);simp only[Eqs,reduceCtorEq,ZIF,reduceIte,ZIC,ZIH,ZID,W1,KC,KX];refine Zb7 rfl rfl rfl φ (WI ?_);simp only[Eqs,reduceCtorEq,ZIF,reduceIte,ZIC,ZIH,ZID,W1,KC];generalize IntKind.i64.wrap (IntKind.i64.wrap (10+I v.name)+I v.bytes)=n1 at *;refine rx (nd2 @ZbT @Zg5) ?_;refine cd (λh1=>?_) (λh1=>?_);rw[if_pos h1]at hS;refine rg ?_;refine ri ac ?_;exact hS.symm;rw[if_neg (by simp[h1])]at hS;have ah:depth<=50:=by simp at h1;omega
 refine rg ?_;refine Ze (fr (I v.hdrs) (λi Q=>i<=I v.hdrs->Q [(1,.d (.int .i64 depth)),(2,.loc 2 0),(5,.d (.int .i64 (hsW n1 (v.hdrs.take i)))),(6,.d (.int .i64 i))] [(2,[.str v.name,.int .i64 v.int,Zk v.bytes,Yg v.hdrs,ZZ v.parts])] st) (λn ab=>?_) λak=>?_);intro i hn hi;refine rx @Zg5 ?_;refine cd (λh2=>?_) (λh2=>?_);simp at h2;have u:=ZAD (n:=n1) h2;generalize hg:v.hdrs.getD i dE=g at *;generalize hsW n1 (v.hdrs.take i)=a at *;refine rh ?_;refine Zb5 ?_;simp only[Eqs,reduceCtorEq,ZIF,reduceIte,ZIC,ZIH,ZID,W1,KC,atH,hg,Hdr.cells];refine aa ?_;refine ZqX rfl rfl rfl φ (Zb5 ?_);simp only[Eqs,reduceCtorEq,ZIF,reduceIte,ZIC,ZIH,ZID,W1,KC,atH,hg,Hdr.cells];refine aa ?_;refine ZqX rfl rfl rfl φ (Zb5 ?_);simp only[Eqs,reduceCtorEq,ZIF,reduceIte,ZIC,ZIH,ZID,W1,KC];rw[u];refine gA ?_;refine Zf ?_;exact ab ((I v.hdrs)-(i+1)) ω (i+1) rfl ω;simp at h2;obtain rfl:i=I v.hdrs:=ω;rw[ZJa];generalize hsW n1 v.hdrs=n2 at *;refine rg ?_;refine Ze (fr (I v.parts) (λi Q=>∀n,Zdr f n (v.parts.drop i)=Zdr f n2 v.parts->i<=I v.parts->Q [(1,.d (.int .i64 depth)),(2,.loc 2 0),(5,.d (.int .i64 n)),(7,.d (.int .i64 i))] [(2,[.str v.name,.int .i64 v.int,Zk v.bytes,Yg v.hdrs,ZZ v.parts])] st) (λn t=>?_) λag=>?_);intro i hn n hr hi;refine rx @ZbT ?_;refine cd (λh3=>?_) (λh3=>?_);simp only[ZIJ,decide_eq_true_eq]at h3;have h4:i<I v.parts:=ω;have ai:=K6 h4;have u:=ZrS (f:=f) (n:=n) h4;rw[if_pos h3.2,hr]at u;have af:=hf ah _ (ZE h4);rw[ZI2]at af;generalize v.parts.getD i dE=x at *;refine rh ?_;refine WI ?_;simp only[Eqs,reduceCtorEq,ZIF,reduceIte,ZIC,ZIH,ZID,W1,KC,atV,ai];refine aa ?_;refine Zb7 rfl rfl rfl φ (WI ?_);simp only[Eqs,reduceCtorEq,ZIF,reduceIte,ZIC,ZIH,ZID,W1,KC];rw[Qk (n:=depth+1) ω];refine ZaD rfl rfl rfl rfl rfl φ φ (by exact af) (WI ?_);simp only[Eqs,reduceCtorEq,ZIF,reduceIte,ZIC,ZIH,ZID,W1,KC];refine Zb7 rfl rfl rfl φ (WI ?_);simp only[Eqs,reduceCtorEq,ZIF,reduceIte,ZIC,ZIH,ZID,W1,KC];refine gA ?_;refine Zf ?_;exact t ((I v.parts)-(i+1)) ω (i+1) rfl _ u.symm ω;have ae:n=Zdr f n2 v.parts:=by rw[<-hr];rcases Nat.lt_or_eq_of_le hi with h4|h4;rw[ZrS h4,if_neg];intro h5;simp[h4,h5]at h3;rw[h4,List.drop_length];rfl
 refine rg ?_;refine ri ac ?_;rw[hS,ae];exact ag _ 0 rfl n2 rfl ω;exact ak _ 0 rfl ω
def ZoZ(v):∀depth:Int,0<=depth->depth<=51->∃n,Zd ZIy 9 [.agg v.cells,.int .i64 depth] (.int .i64 n)/\(Ww v=true->0<=n/\n<=110000000*(52-depth)+6000/\(n<=5000->n=wtN v/\(Yy v:Int)+depth<=51)):=by
 induction v using Val.ind with
 |h v ih =>
  intro depth h0 ab;have hc:∀x:Val,∃n,depth<=50->x∈v.parts->Zd ZIy 9 [.agg x.cells,.int .i64 (depth+1)] (.int .i64 n)/\(Ww x=true->0<=n/\n<=110000000*(52-(depth+1))+6000/\(n<=5000->n=wtN x/\(Yy x:Int)+(depth+1)<=51)):=λx=>by by_cases hx:x∈v.parts/\depth<=50;obtain⟨n,hn⟩:=ih x hx.1 (depth+1) ω ω;exact⟨n,λ_ _=>hn⟩;exact⟨0,λh1 h2=>absurd ⟨h2,h1⟩ hx⟩
  refine⟨_,Zmi v depth ⟨h0,ab⟩ (λx=>(hc x).choose) λu x hx=>((hc x).choose_spec u hx).1,λt=>?_⟩;rw[ZiR,ZIJ,ZiQ,List.all_eq_true]at t;obtain⟨hn,hi,hb,hh,hw,_⟩:=QC t.2;unfold ZqT;split;exact⟨ω,ω,λh=>by omega⟩;rename_i h1;simp only[ZIW,decide_eq_true_eq,not_or]at h1;rw[Qk (n:=10+I v.name) ω,Qk ω,Zru _ _ ω ω];have hf:∀x∈v.parts,0<=(hc x).choose/\(hc x).choose<=110000000*(52-(depth+1))+6000:=λx hx=>by have:=((hc x).choose_spec ω hx).2 (t.1 x hx);exact⟨this.1,this.2.1⟩
  obtain⟨a,b,c⟩:=Zwm (f:=λx=>(hc x).choose) (M:=110000000*(52-(depth+1))+6000) ⟨ω,ω⟩ v.parts (10+I v.name+I v.bytes+Q0 v.hdrs) ω ω hf;refine⟨ω,ω,λh5=>?_⟩;obtain⟨c1,c2⟩:=c h5;have hx:∀x∈v.parts,(hc x).choose=wtN x/\(Yy x:Int)+(depth+1)<=51:=λx hx=>(((hc x).choose_spec ω hx).2 (t.1 x hx)).2.2 (c2 x hx);refine⟨?_,?_⟩;rw[c1,ZDZ λx h=>(hx x h).1,ZaA];omega;have:=Zw8 (l:=v.parts) (k:=(50-depth).toNat) λx h=>by have:=(hx x h).2;omega
  rw[Za6];omega
def ZoY(d:Dfn)(v st):Za ZIy 4 [.agg d.cells,.agg v.cells] st λr S=>S=st/\∃b,r=.ret (.bool b)/\(b=true->Ww v=true->wtN v<=5000/\Yy v<=51):=by
 obtain⟨wt,ae,ac⟩:=ZoZ v 0 ω ω;refine Zbn (cR 4 f4) λad F hF=>?_;have hw:=ZDn (s:=d) (ad _ ψ);have ak:=hw.nmsgs;unfold big at ak;clear ad;rw[v.cells_eq]at ae⊢;refine rx @eQ2 ?_;refine rx @Zxc ?_;refine cd (λh0=>?_) (λh0=>?_);refine rg ?_;exact hF.ret _ _ rfl φ (ZIB _) ZIz ⟨rfl,false,rfl,λh=>by simp at h⟩;refine rg ?_;refine Ze (fr (I d.msgs) (λi Q=>i<=I d.msgs->Q [(2,.loc 2 0),(3,.loc 3 0),(5,.d (.int .i64 i))] [(2,[.str d.name,YX d.msgs,.str d.start]),(3,[.str v.name,.int .i64 v.int,Zk v.bytes,Yg v.hdrs,ZZ v.parts])] st) (λn u=>?_) λal=>?_);intro i hn hi;refine rx @Zxc ?_;refine cd (λh1=>?_) (λh1=>?_);have ag:i<I d.msgs:=by simp at h1;omega
 have ai:=hw.msgs _ (ZE ag);have ah:=ai.nfields;unfold big at ah;generalize hm:d.msgs.getD i dE=m at *;refine xA (nd2 @atM (nd2 @hm @eQ3)) ?_;refine rx @Zfy ?_;refine cd (λh2=>?_) (λh2=>?_);refine rg ?_;exact hF.ret _ _ rfl φ (ZIB _) ZIz ⟨rfl,false,rfl,λh=>by simp at h⟩;refine rg ?_;refine Ze (fr (I m.fields) (λk Q=>k<=I m.fields->Q [(2,.loc 2 0),(3,.loc 3 0),(5,.d (.int .i64 i)),(6,.loc 6 0),(7,.d (.int .i64 k))] [(2,[.str d.name,YX d.msgs,.str d.start]),(3,[.str v.name,.int .i64 v.int,Zk v.bytes,Yg v.hdrs,ZZ v.parts]),(6,[.str m.name,Zq m.fields])] st) (λn t=>?_) λaf=>?_);intro k ac hk;refine rx @Zfy ?_;refine cd (λh3=>?_) (λh3=>?_);have ab:k<I m.fields:=by simp at h3;omega
 generalize hf:m.fields.getD k dE=f at *;refine xA (nd2 @atF (nd2 @hf (nd2 @eQ0 (nd2 @Zz4 @ZBu)))) ?_;refine cd (λh4=>?_) (λh4=>?_);refine rg ?_;exact hF.ret _ _ rfl φ (ZIB _) ZIz ⟨rfl,false,rfl,λh=>by simp at h⟩;refine gA ?_;refine Zf ?_;exact t ((I m.fields)-(k+1)) ω (k+1) rfl ω;have ab:k=I m.fields:=by simp at h3;omega
 subst ab;refine gA ?_;refine Zf ?_;exact u ((I d.msgs)-(i+1)) ω (i+1) rfl ω;exact af _ 0 rfl ω;refine rg ?_;refine cl (ae) ?_;exact hF.ret _ _ rfl φ (ZIB _) ZIz ⟨rfl,dC (wt<=5000),rfl,λh aj=>by
  have h1:=(ac aj).2.2 (of_decide_eq_true h);have h2:wt<=5000:=of_decide_eq_true h;exact⟨ω,ω⟩⟩
 exact al _ 0 rfl ω
def ZhI(d:Dfn)(v st):Za ZIy 4 [.agg d.cells,.agg v.cells] st λr S=>S=st/\∃b,r=.ret (.bool b)/\(b=true->Ww v=true->wtN v<=5100/\Yy v<=51) :=
 (ZoY d v st).mono λ_ _ ⟨u,b,h2,t⟩=>⟨u,b,h2,λa c=>⟨by have:=(t a c).1;omega,(t a c).2⟩⟩
def Zkl(e):Zd ZIy 7 [.int .i64 e] (.int .i64 e):=by
 refine Zg (cR 7 f7) λF st t=>?_;refine gG ?_;refine ro t ?_;rfl
def Zcw(d:Dfn)(s:Str)(v:Val):List UInt8:=(if (WM d s v).2=0 then Yd d 51 (Zn d s) v [] else noW).b
def Zqh{d s v}(h:(WM d s v).2=0):Wk d=true:=by
 unfold WM at h;split at h;rename_i t;rw[ZIJ]at t;exact t.1;simp at h
def Zqd{d s v}(hs:Ww v=true->wtN v<=5100/\Yy v<=51):((Zcw d s v).length:Int)=ZDA d s v/\(Zcw d s v).length<=110000000:=by
 unfold Zcw ZDA;by_cases h:(WM d s v).2=0;rw[if_pos h,if_pos h];obtain⟨hd,hv,hf,hm⟩:=ZhE h;have ac:=Zqh h;obtain⟨u,hvh⟩:=Zee hv hs;have t:=(QS hf).2;have ab:d.msgs.getD (ixS d s) dE=Zn d s:=rfl;have hL:=Ziy hd.dref 51 (Zn d s) v [] (hd.dref _ (ZE t)) u.ok hm;have h1:=Zdf ac 51 (ixS d s) v [] t (by rw[ab];exact hL);have h2:=ZcH hd.dok 51 (Zn d s) v (hd.dok _ (ZE t)) u.ok;have h3:=u.wt;rw[ab]at h1;refine⟨h1.1,?_⟩;have:=h1.1;omega;rw[if_neg h,if_neg h];exact⟨rfl,Nat.zero_le _⟩
def ZmE(hI:Jx)(d:Dfn)(s:Str)(v:Val)(hs:Ww v=true->wtN v<=5100/\Yy v<=51):
  Zd ZIy 6 [.agg d.cells,.str s,.agg v.cells] (.tup [Zk (Zcw d s v),.int .i64 (WM d s v).2]):=by
 refine Zmc hI d s v (Yd d 51 (Zn d s) v []) hs (λh=>(ZhE h).2.2.1) (λh T=>?_) (λh=>?_);obtain⟨hd,hv,hf,hm⟩:=ZhE h;obtain⟨ab,hvh⟩:=Zee hv hs;have u:=(QS hf).2;have t:d.msgs.getD (ixS d s) dE=Zn d s:=rfl;have:=Zrn (Zqh h) 51 (ixS d s) v [] [] u (by rw[t];exact hm) ab ψ T;rw[t]at this;exact this;have:=(Zqd (d:=d) (s:=s) hs).2;unfold Zcw at this;rw[if_pos h]at this;omega
def Ku(b:List UInt8)(k:Nat):Bool:=((b.getD (k / 8) 0).toNat).testBit (7-k % 8)
def Wx(a b:List UInt8):Prop:=∃i,i<I a/\i<I b/\a.getD i 0≠b.getD i 0
def Zid(a b:Wr):Prop:=∃k,k<a.n/\k<b.n/\Ku a.b k≠Ku b.b k
def Zna(a a':Wr):Prop:=a.n<=a'.n/\∀k,k<a.n->Ku a'.b k=Ku a.b k
def Zid.ext{a b t u}(h:Zid a b)(ha:Zna a t)(hb:Zna b u):Zid t u:=by
 obtain⟨k,h1,h2,h3⟩:=h;exact⟨k,Nat.lt_of_lt_of_le h1 ha.1,Nat.lt_of_lt_of_le h2 hb.1,by rw[ha.2 k h1,hb.2 k h2];exact h3⟩
def ZlJ{a r:List UInt8}{i}(h:i<I a):(a++r).getD i 0=a.getD i 0:=by
 simp[ZIN,ZI6 h]
def ZiE{a r:List UInt8}{i}:(a++r).getD (I a+i) 0=r.getD i 0:=by
 simp[ZIN,ZJi]
def Wx.app{a b}(h:Wx a b)(r s):Wx (a++r) (b++s):=by
 obtain⟨i,t,u,h3⟩:=h;refine⟨i,by rw[ZII];omega,by rw[ZII];omega,?_⟩
 rwa [ZlJ t,ZlJ u]
def Wx.pre{a b}(c)(h:Wx a b):Wx (c++a) (c++b):=by
 obtain⟨i,h1,h2,h3⟩:=h;refine⟨I c+i,by rw[ZII];omega,by rw[ZII];omega,?_⟩
 rwa [ZiE,ZiE]
def Zqb{a b:List UInt8}(hl:I a=I b)(t:a≠b):Wx a b :=
 Classical.byContradiction λhc=>t (List.ext_getElem hl λi u h2=>Classical.byContradiction λhx=>hc ⟨i,u,h2,by simpa[ZIN,u,h2]using hx⟩)
def Zya{x y:UInt8}(h:∀j,j<8->x.toNat.testBit j=y.toNat.testBit j):x=y:=by
 apply UInt8.toNat_inj.1;apply Nat.eq_of_testBit_eq;intro j;by_cases u:j<8;exact h j u;have t:=Nat.pow_le_pow_right (n:=2) (by decide) (show 8<=j by omega);rw[Nat.testBit_lt_two_pow (Nat.lt_of_lt_of_le x.toNat_lt t),Nat.testBit_lt_two_pow (Nat.lt_of_lt_of_le y.toNat_lt t)]
def Wx.bits{a b}(h:Wx a b):∃k,k<8*I a/\k<8*I b/\Ku a k≠Ku b k:=by
 obtain⟨i,h1,h2,t⟩:=h;refine Classical.byContradiction λu=>t (Zya λj hj=>Classical.byContradiction λhx=>u ⟨8*i+(7-j),ω,ω,λe=>hx ?_⟩);unfold Ku at e;rw[show(8*i+(7-j)) / 8=i by omega,show 7-(8*i+(7-j)) % 8=j by omega]at e;exact e
def Wx.of_bits{a b k}(h1:k<8*I a)(h2:k<8*I b)(t:Ku a k≠Ku b k):Wx a b:=⟨k / 8,ω,ω,λe=>t (by unfold Ku;rw[e])⟩
def Zq7{b l k}(h:k<8*I b):Ku (b++l) k=Ku b k:=by
 unfold Ku;rw[ZlJ ω]
def Zih{b l k}:Ku (b++l) (8*I b+k)=Ku l k:=by
 unfold Ku;rw[show(8*I b+k) / 8=I b+k / 8 by omega,ZiE,show(8*I b+k) % 8=k % 8 by omega]
def Zig{b k}(h:8*I b<=k):Ku b k=false:=by
 unfold Ku;rw[show b.getD (k / 8) 0=0 by simp[ZIN,ZJj (show (I b)<=k / 8 by omega)]];exact Nat.zero_testBit _
def ZOk(b:List UInt8)(n:Nat):Prop:=∀k,n<=k->Ku b k=false
def ZA5{b n}(hb:BOk b n)(k):Ku (ZcQ b n) k=Ku b k:=by
 unfold ZcQ;split;by_cases u:k<8*I b;exact Zq7 u;obtain⟨j,rfl⟩:∃j,k=8*I b+j:=⟨k-8*I b,ω⟩;have t:Ku [0] j=false:=by unfold Ku;rw[show([0]:List UInt8).getD (j / 8) 0=0 by cases j / 8<;>rfl];exact Nat.zero_testBit _
 rw[Zih,t,Zig (b:=b) ω];rfl
def ZA6{n t i}(ht:t<2)(hi:i<8):(Zhd n t).toNat.testBit i=(dC (t=1)&&dC (i=7-n % 8)):=by
 unfold Zhd;generalize n % 8=q;rcases(by omega:t=0\/t=1) with rfl|rfl;rw[Nat.zero_mul];simp;have h:2 ^ (7-q)<2 ^ 8:=Nat.pow_lt_pow_right (by decide) ω;rw[Nat.one_mul,UInt8.toNat_ofNat',Nat.mod_eq_of_lt h,Nat.testBit_two_pow];simp[eq_comm]
def ZA4{b n t}(hb:BOk b n)(hz:ZOk b n)(ht:t<2)(k):Ku (ZiV (ZcQ b n) n t) k=if k=n then dC (t=1) else Ku b k:=by
 have hl:=ZnN hb;have hA:=ZA5 hb;generalize ZcQ b n=c at *;have hk:=hA k;have u:=hz n (ZIO _);rw[<-hA n]at u;rw[<-hk];unfold ZiV;unfold Ku at hk u⊢;rw[show (I c)-1=n / 8 by omega];by_cases h8:k / 8=n / 8;have hx:∀y,(c.set (n / 8) y).getD (k / 8) 0=y:=λy=>by rw[h8];simp[ZIN,show n / 8<I c by omega]
 rw[hx,UInt8.toNat_or,Nat.testBit_or,ZA6 ht ω];have hd:c.getD (n / 8) dE=c.getD (k / 8) 0:=by rw[h8];rfl
 rw[hd];by_cases e:k=n;subst e;rw[if_pos rfl,u];simp;rw[if_neg e,show dC (7-k % 8=7-n % 8)=false from decide_eq_false ω];simp;rw[if_neg (λe=>h8 (by rw[e]))];have hx:∀y,(c.set (n / 8) y).getD (k / 8) 0=c.getD (k / 8) 0:=λy=>by simp[ZIN,List.getElem?_set_ne (Ne.symm h8)]
 rw[hx]
def ZfI{v}:∀{j b n},BOk b n->ZOk b n->∀k,Ku (Zao v j b n) k=if k<n then Ku b k else (dC (k<n+j)&&v.testBit (n+j-1-k))
 |0,b,n,hb,hz,k=>by rw[ZrO];split;rfl;rw[hz k ω,show dC (k<n+0)=false from decide_eq_false ω];rfl
 |j+1,b,n,hb,hz,k=>by
  have h1:=ZA4 (t:=v / 2 ^ j % 2) hb hz (Nat.mod_lt _ (by decide));have u:ZOk (ZiV (ZcQ b n) n (v / 2 ^ j % 2)) (n+1):=λk hk=>by rw[h1,if_neg ω,hz k ω]
  rw[ZrN,ZfI (Zus hb) u k,h1];by_cases e1:k<n;rw[if_pos ω,if_neg ω,if_pos e1];rw[if_neg e1];by_cases e2:k=n;subst e2;rw[if_pos ω,if_pos rfl,show dC (k<k+(j+1))=true from decide_eq_true ω,show k+(j+1)-1-k=j by omega,Nat.testBit_eq_decide_div_mod_eq];rfl;rw[if_neg ω,show n+1+j=n+(j+1) by omega]
def Zzc{v j b n}(t:BOk b n)(u:ZOk b n):ZOk (Zao v j b n) (n+j):=λk hk=>by
 rw[ZfI t u,if_neg ω,show dC (k<n+j)=false from decide_eq_false ω];rfl
def Zut{v j b n s s'}(t:BOk b n)(hz:ZOk b n):Zna ⟨b,n,s⟩ ⟨Zao v j b n,n+j,s'⟩:=⟨Nat.le_add_right _ _,λk u=>by rw[ZfI t hz,if_pos u]⟩
def ZA8{v u j b n s s'}(hb:BOk b n)(hz:ZOk b n)(hv:v<2 ^ j)(hu:u<2 ^ j)(t:v≠u):Zid ⟨Zao v j b n,n+j,s⟩ ⟨Zao u j b n,n+j,s'⟩:=by
 refine Classical.byContradiction λhc=>t (Nat.eq_of_testBit_eq λi=>?_);by_cases hi:i<j;refine Classical.byContradiction λhx=>hc ⟨n+j-1-i,show n+j-1-i<n+j by omega,show n+j-1-i<n+j by omega,?_⟩;show Ku (Zao v j b n) _≠Ku (Zao u j b n) _;rw[ZfI hb hz,ZfI hb hz,if_neg ω,if_neg ω,show n+j-1-(n+j-1-i)=i by omega,show dC (n+j-1-i<n+j)=true from decide_eq_true ω];simpa using hx;have hp:=Nat.pow_le_pow_right (n:=2) (by decide) (show j<=i by omega);rw[Nat.testBit_lt_two_pow (Nat.lt_of_lt_of_le hv hp),Nat.testBit_lt_two_pow (Nat.lt_of_lt_of_le hu hp)]
def ZBN{b n l s s' m}(t:BOk b n)(h8:n % 8=0)(hm:m=n+8*I l):Zna ⟨b,n,s⟩ ⟨b++l,m,s'⟩:=⟨by show n<=m;omega,λk u=>Zq7 (by unfold BOk at t;simp only at u;omega)⟩
def ZD6{b n l}(t:BOk b n)(h8:n % 8=0):ZOk (b++l) (n+8*I l):=λk hk=>Zig (by unfold BOk at t;rw[ZII];omega)
def ZBM{b n l r s s' m t}(u:BOk b n)(h8:n % 8=0)(hm:m=n+8*I l)(hm':t=n+8*I r)(h:Wx l r):Zid ⟨b++l,m,s⟩ ⟨b++r,t,s'⟩:=by
 obtain⟨k,h1,h2,h3⟩:=h.bits;unfold BOk at u;refine⟨8*I b+k,by simp only;omega,by simp only;omega,?_⟩;simp only
 rwa [Zih,Zih]
def Zv3:∀{m v u},v<256 ^ m->u<256 ^ m->leS v m=leS u m->v=u
 |0,v,u,hv,hu,_=>by simp at hv hu;omega
 |m+1,v,u,hv,hu,h=>by
  rw[ZnH,ZnH,List.cons.injEq]at h;have h1:v % 256=u % 256:=by have:=congrArg UInt8.toNat h.1;simpa[UInt8.toNat_ofNat']using this
  rw[Nat.pow_succ]at hv hu;have h2:=Zv3 (m:=m) (v:=v / 256) (u:=u / 256) ω ω h.2;omega
def Zql{v g i}(h:i<g):(Y9 v g).getD i 0=ZdK v i:=by
 unfold Y9 ZiT;rw[ZlJ (by simpa using h)];simp[ZIN,h]
def Zqk{v g}:(Y9 v g).getD g 0=ZdH v g:=by
 unfold Y9;have:=ZiE (a:=ZiT v g) (r:=[ZdH v g]) (i:=0);rw[J6,Nat.add_zero]at this;rw[this];rfl
def Zdg{v g}:(Y9 v g).length=g+1:=by
 unfold Y9;rw[ZII,J6];rfl
def Zv6(v i):(ZdK v i).toNat=YQ v i % 128+128:=by
 unfold ZdK;rw[UInt8.toNat_ofNat'];omega
def Zv2(v i):(ZdH v i).toNat=YQ v i % 128:=by
 unfold ZdH;rw[UInt8.toNat_ofNat'];omega
def ZtZ{v}(hv:v<34359738368):YQ v (Z0 v)<128:=by
 obtain⟨h0,t,u,h3,h4,h5⟩:=ZlL hv;rcases(by omega:Z0 v=0\/Z0 v=1\/Z0 v=2\/Z0 v=3\/Z0 v=4) with e|e|e|e|e<;>rw[e]at t u h3 h4⊢<;>omega
def ZDq{v u}(hv:v<34359738368)(hu:u<34359738368):v=u\/Wx (Y9 v (Z0 v)) (Y9 u (Z0 u)):=by
 have hlv:=ZtZ hv;have hlu:=ZtZ hu;generalize Z0 v=g at *;generalize Z0 u=h at *;have mn:∀x y i j,ZdK x i≠ZdH y j:=λx y i j e=>by have:=congrArg UInt8.toNat e;rw[Zv6,Zv2]at this;omega
 by_cases e:g=h
 .subst e;by_cases t:Y9 v g=Y9 u g
  .left;have hb:∀j,j<=g->YQ v (g-j)=YQ u (g-j):=λj=>by
    induction j with
    |zero =>intro _;have:=congrArg (λl:List UInt8=>(l.getD g 0).toNat) t;simp only[Zqk,Zv2]at this;rw[Nat.sub_zero];omega
    |succ j ih =>intro hj;have:=congrArg (λl:List UInt8=>(l.getD (g-(j+1)) 0).toNat) t;simp only[Zql (show g-(j+1)<g by omega),Zv6]at this;have ih:=ih ω;rw[show g-j=g-(j+1)+1 by omega,J7,J7]at ih;omega
   have:=hb g (ZIO _);rw[Nat.sub_self]at this;simpa[YQ]using this
  right;exact Zqb (by rw[Zdg,Zdg]) t
 right;rcases Nat.lt_or_gt_of_ne e with hh|hh;exact⟨g,by rw[Zdg];omega,by rw[Zdg];omega,by rw[Zqk,Zql hh];exact(mn _ _ _ _).symm⟩;exact⟨h,by rw[Zdg];omega,by rw[Zdg];omega,by rw[Zqk,Zql hh];exact mn _ _ _ _⟩
def Zj0{x y:UInt8}{a b:List UInt8}(h:x≠y):Wx (x::a) (y::b):=⟨0,Nat.succ_pos _,Nat.succ_pos _,h⟩
def Zfq{x:UInt8}{a b:List UInt8}(h:Wx a b):Wx (x::a) (x::b):=h.pre [x]
def Zl4{t:UInt8}:∀{a b:List UInt8},t∉a->t∉b->a=b\/∀r s,Wx (a++t::r) (b++t::s)
 | [],[],_,_=>.inl rfl
 | [],y::b,_,hb=>.inr λr s=>Zj0 λe=>hb (by rw[e];exact List.mem_cons_self ..)
 |x::a,[],ha,_=>.inr λr s=>Zj0 λe=>ha (by rw[<-e];exact List.mem_cons_self ..)
 |x::a,y::b,ha,hb=>by by_cases e:x=y;subst e;rcases Zl4 (a:=a) (b:=b) (λh=>ha (List.mem_cons_of_mem _ h)) (λh=>hb (List.mem_cons_of_mem _ h)) with h|h;exact .inl (by rw[h]);exact .inr λr s=>Zfq (h r s);exact .inr λr s=>Zj0 e
def ZgP{p:UInt8->Bool}{l:List UInt8}{t}(h:l.all p=true)(u:p t=false):t∉l:=λhm=>by
 have:=List.all_eq_true.1 h t hm;rw[u]at this;cases this
def ZdP(h:Hdr)(l):Kd (h::l)=h.name++58::(32::(h.text++13::(10::Kd l))):=by
 unfold Kd ZgY;simp
def Zgi{h:Hdr}(hk:Zaw h=true):(58:UInt8)∉h.name/\(13:UInt8)∉h.text/\∃x r,h.name=x::r/\x≠13:=by
 unfold Zaw Zfw at hk;simp only[ZIJ,decide_eq_true_eq]at hk;obtain⟨h1,⟨h2,h3⟩,h4⟩:=hk;refine⟨ZgP h2 (by decide),ZgP h1 (by decide),?_⟩;have u:=ZgP (t:=13) h2 (by decide);cases hn:h.name with
 |nil=>rw[hn]at h3;simp at h3
 |cons x r=>exact⟨x,r,rfl,λe=>u (by rw[hn,e];exact List.mem_cons_self ..)⟩
def ZuQ:∀{a b:List Hdr},(∀h∈a,Zaw h=true)->(∀h∈b,Zaw h=true)->a=b\/Wx (Kd a) (Kd b)
 | [],[],_,_=>.inl rfl
 | [],y::b,_,hb=>by obtain⟨_,_,x,r,t,u⟩:=Zgi (hb y (List.mem_cons_self ..));right;rw[ZdP,t];exact Zj0 u.symm
 |y::a,[],ha,_=>by obtain⟨_,_,x,r,t,u⟩:=Zgi (ha y (List.mem_cons_self ..));right;rw[ZdP,t];exact Zj0 u
 |⟨n1,t1⟩::a,⟨n2,t2⟩::b,ha,hb=>by obtain⟨f1,f2,_⟩:=Zgi (ha _ (List.mem_cons_self ..));obtain⟨g1,g2,_⟩:=Zgi (hb _ (List.mem_cons_self ..));rw[ZdP,ZdP];simp only at f1 f2 g1 g2⊢;rcases Zl4 f1 g1 with h|h;subst h;rcases Zl4 f2 g2 with h|h;subst h;rcases ZuQ (a:=a) (b:=b) (λh hh=>ha h (List.mem_cons_of_mem _ hh)) (λh hh=>hb h (List.mem_cons_of_mem _ hh)) with h|h;exact .inl (by rw[h]);exact .inr ((Zfq (Zfq ((Zfq (Zfq h)).pre t1))).pre n1);exact .inr ((Zfq (Zfq (h _ _))).pre n1);exact .inr (h _ _)
def ZqW{k}:∀{b:List UInt8} {i j},j<I b->(Zar k i b).getD j 0=b.getD j 0 ^^^ ZgE k (i+j)
 | [],_,_,h=>by simp at h
 |x::r,i,0,_=>rfl
 |x::r,i,j+1,h=>by have:=ZqW (k:=k) (b:=r) (i:=i+1) (j:=j) (by simpa using h);rw[Zar,List.getD_cons_succ,List.getD_cons_succ,this,show i+1+j=i+(j+1) by omega]
def ZB8{k a b}(h:Wx a b):Wx (KQ k a) (KQ k b):=by
 obtain⟨i,t,u,h3⟩:=h;refine⟨i,by rw[Znq];exact t,by rw[Znq];exact u,λe=>h3 ?_⟩;unfold KQ at e;split at e;exact e;rw[ZqW t,ZqW u]at e;have:=congrArg (· ^^^ ZgE k (0+i)) e;simpa[UInt8.xor_assoc]using this
def Zfh(chg:List UInt8->List UInt8)(g:Val->List UInt8)(l:List Val):List UInt8:=l.flatMap λy=>chg (g y)
def ZeO{chg rec q}{g:Val->List UInt8}{ps:List Val}(t:∀y∈ps,∀p,(rec y p).b=g y):∀{n j w},n+j=I ps->(YZ chg rec q ps n j w).b=w.b++Zfh chg g (ps.drop j)/\(YZ chg rec q ps n j w).n=w.n+8*(Zfh chg g (ps.drop j)).length
 |0,j,w,h=>by rw[Zhc,ZJk ω];simp[Zfh]
 |n+1,j,w,h=>by have hj:j<I ps:=ω;obtain⟨u,h2⟩:=ZeO (chg:=chg) (q:=q) t (n:=n) (j:=j+1) (w:=w.app chg (rec (ps.getD j dE) (ZN q (Ym ps j)))) ω;rw[Zbw,u,h2,Wh hj];simp only[Wr.app,Zfh,ZJl,t _ (ZE hj),ZI1,ZII];exact⟨trivial,ω⟩
def Zto{chg:List UInt8->List UInt8}{g:Val->List UInt8}(t:∀{a b},Wx a b->Wx (chg a) (chg b)):∀{a b:List Val},I a=I b->(∀i,i<I a->a.getD i dE=b.getD i dE\/Wx (g (a.getD i dE)) (g (b.getD i dE)))->a=b\/Wx (Zfh chg g a) (Zfh chg g b)
 | [],[],_,_=>.inl rfl
 | [],_::_,h,_=>by simp at h
 |_::_,[],h,_=>by simp at h
 |x::a,y::b,h,hp=>by unfold Zfh;rw[ZJl,ZJl];rcases hp 0 (Nat.succ_pos _) with h0|h0;simp only[List.getD_cons_zero]at h0;subst h0;rcases Zto (chg:=chg) (g:=g) t (a:=a) (b:=b) (by simpa using h) (λi hi=>by simpa using hp (i+1) (by simpa using hi)) with h1|h1;exact .inl (by rw[h1]);exact .inr (h1.pre _);exact .inr ((t h0).app _ _)
section
variable {d:Dfn} {m:Msg}
def Zw4{ps:List Val}{i:Nat}{P:Val->Prop}(h:∀x∈ps,∀y∈x.parts,P y):∀y∈(ps.getD i dE).parts,P y:=by
 intro y t;by_cases u:i<I ps;exact h _ (ZE u) y t;rw[show ps.getD i dE=dE by simp[ZIN,ZJj (Nat.le_of_not_lt u)]]at t;simp[show(dE:Val).parts=[] from rfl]at t
end
def WEq(a b:Wr):Prop:=a.b=b.b/\a.n=b.n
def ZrJ{chg rec rec' q q'}{ps:List Val}(t:∀y∈ps,∀p p',WEq (rec y p) (rec' y p')):∀{n j w w'},j+n=I ps->WEq w w'->WEq (YZ chg rec q ps n j w) (YZ chg rec' q' ps n j w')
 |0,_,_,_,_,h=>h
 |n+1,j,w,w',hj,h=>by unfold YZ;have h1:=t (ps.getD j dE) (ZE ω) (ZN q (Ym ps j)) (ZN q' (Ym ps j));refine ZrJ t ω ⟨?_,?_⟩;show w.b++chg _=w'.b++chg _;rw[h.1,h1.1];show w.n+8*(chg _).length=w'.n+8*(chg _).length;rw[h.2,h1.1]
def Zqi{rec rec' path path' f x E w w'}(hw:WEq w w')(u:∀y∈x.parts,∀p p',WEq (rec y p) (rec' y p')):WEq (Kg rec path f x E w) (Kg rec' path' f x E w'):=by
 obtain⟨b,n,s⟩:=w;obtain⟨t,n',s'⟩:=w';obtain⟨rfl,rfl⟩:b=t/\n=n':=hw;unfold Kg;split;exact⟨rfl,rfl⟩;split;exact⟨rfl,rfl⟩;split;exact⟨rfl,rfl⟩;split;exact⟨rfl,rfl⟩;split;exact⟨rfl,rfl⟩;split;exact⟨rfl,rfl⟩;split;exact⟨rfl,rfl⟩;split;exact⟨rfl,rfl⟩;exact ZrJ u ω ⟨rfl,rfl⟩
def ZzP{l ps i}{P:Val->Prop}(h:∀x∈ps,∀y∈x.parts,P y):∀y∈(xAt l ps i).parts,P y:=by
 unfold xAt;split;exact Zw4 h;intro y t;simp[show(dE:Val).parts=[] from rfl]at t
def Zzv{rec rec' path path' l}{ps:List Val}(u:∀x∈ps,∀y∈x.parts,∀p p',WEq (rec y p) (rec' y p')):∀i,(stF rec path l ps i).1=(stF rec' path' l ps i).1/\WEq (stF rec path l ps i).2 (stF rec' path' l ps i).2
 |0=>⟨rfl,rfl,rfl⟩
 |i+1=>by
  obtain⟨h1,h2⟩:=Zzv (path:=path) (path':=path') (l:=l) u i;have t:(stF rec path l ps (i+1)).1=(stF rec' path' l ps (i+1)).1:=by simp only[stF];rw[h1,h2.2]
  refine⟨t,?_⟩;simp only[stF]at t⊢;rw[t];exact Zqi h2 (ZzP (P:=λy=>∀p p',WEq (rec y p) (rec' y p')) u)
section
variable {d:Dfn} {m:Msg}
end
def Zgh{d}:∀n m v p q,WEq (Yd d n m v p) (Yd d n m v q)
 |0,_,_,_,_=>⟨rfl,rfl⟩
 |n+1,m,v,p,q=>(Zzv (rec:=λy p=>Yd d n (Zn d y.name) y p) (rec':=λy p=>Yd d n (Zn d y.name) y p) (path:=p) (path':=q) (l:=m.fields) (ps:=v.parts) (λ_ _ y _ p p'=>Zgh n _ y p p') (I m.fields)).2
def ZbO{w w':Wr}{l}(u:BOk w.b w.n)(t:w.n % 8=0)(h1:w'.b=w.b++l)(h2:w'.n=w.n+8*I l):Zna w w'/\ZOk w'.b w'.n:=by
 obtain⟨b,n,s⟩:=w;obtain⟨b',n',s'⟩:=w';simp only at u t h1 h2⊢;subst h1 h2;exact⟨ZBN u t rfl,ZD6 u t⟩
def Zc8{w u w' t:Wr}{l r}(hw:WEq w u)(hb:BOk w.b w.n)(h8:w.n % 8=0)(h1:w'.b=w.b++l)(h2:w'.n=w.n+8*I l)(h3:t.b=u.b++r)(h4:t.n=u.n+8*I r)(h:Wx l r):Zid w' t:=by
 obtain⟨b,n,s⟩:=w;obtain⟨b2,n2,s2⟩:=u;obtain⟨rfl,rfl⟩:b=b2/\n=n2:=hw;obtain⟨b',n',s'⟩:=w';obtain⟨b2',n2',s2'⟩:=t;simp only at hb h8 h1 h2 h3 h4;subst h1 h2 h3 h4;exact ZBM hb h8 rfl rfl h
def ZaU{f:Fld}(u:f.kind≠1)(h2:f.kind≠2)(t:f.kind≠10):KK f=true:=by
 unfold KK ZbE;simp[u,h2,t]
def Zks{f:Fld}(h:f.little=true):KK f=true:=by
 unfold KK;simp[h]
def Zwa{f:Fld}{v:Int}{w:Wr}(u:BOk w.b w.n)(hz:ZOk w.b w.n)(h8:KK f=true->w.n % 8=0):Zna w (w.num f v)/\ZOk (w.num f v).b (w.num f v).n:=by
 unfold Wr.num Zkv Zha;by_cases t:f.little=true;rw[if_pos t,if_pos t];exact ZbO (l:=leS v.toNat ((f.bits.toNat+7) / 8)) u (h8 (Zks t)) rfl (by rw[Zdl]);rw[if_neg t,if_neg t];exact⟨Zut u hz,Zzc u hz⟩
def ZtU{rec path f x E w}{g:Val->List UInt8}(h:FN f x E w)(hb:BOk w.b w.n)(hz:ZOk w.b w.n)(h8:KK f=true->w.n % 8=0)(hr:∀y∈x.parts,∀p,(rec y p).b=g y):
  Zna w (Kg rec path f x E w)/\ZOk (Kg rec path f x E w).b (Kg rec path f x E w).n:=by
 unfold Kg;by_cases h1:f.kind=1;rw[if_pos h1];exact Zwa hb hz h8;rw[if_neg h1];by_cases h2:f.kind=2;rw[if_pos h2];exact Zwa hb hz h8;rw[if_neg h2];by_cases h3:f.kind=3;rw[if_pos h3];exact ZbO hb (h8 (ZaU h1 h2 ω)) rfl rfl;rw[if_neg h3];by_cases h4:f.kind=4;rw[if_pos h4];exact ZbO hb (h8 (ZaU h1 h2 ω)) rfl rfl;rw[if_neg h4];by_cases h5:f.kind=5;rw[if_pos h5];exact ZbO hb (h8 (ZaU h1 h2 ω)) rfl rfl;rw[if_neg h5];by_cases h6:f.kind=6;rw[if_pos h6];exact ZbO hb (h8 (ZaU h1 h2 ω)) rfl rfl;rw[if_neg h6];by_cases t:f.kind=10;rw[if_pos t];have hp:=ZbX (h.pad t);have h2:=(Zbi (v:=(w.n:Int)) (of:=f.bits) ω ω).1.1;unfold Wr.pad;rw[show(upS w.n f.bits).toNat=w.n+(upS w.n f.bits-w.n).toNat by omega];exact⟨Zut hb hz,Zzc hb hz⟩;rw[if_neg t];have hn:=ZaU h1 h2 t;by_cases u:f.kind=11;rw[if_pos u];exact ZbO hb (h8 hn) rfl rfl;rw[if_neg u];obtain⟨e1,e2⟩:=ZeO (chg:=if f.kind=12 then KQ f.key.toNat else id) (q:=ZN path f.name) hr (n:=I x.parts) (j:=0) (w:=w) ω;exact ZbO hb (h8 hn) e1 e2
def Zdw{x y:Val}(t:x.name=y.name)(u:x.int=y.int)(h3:x.bytes=y.bytes)(h4:x.hdrs=y.hdrs)(h5:x.parts=y.parts):x=y:=by
 cases x;cases y;simp only[Val.name,Val.int,Val.bytes,Val.hdrs,Val.parts]at t u h3 h4 h5;subst t u h3 h4 h5;rfl
def Zlm{k x}(h:WC k x=false):(k≠1->k≠3->x.int=0)/\(k≠4->k≠5->x.bytes=[])/\(k≠6->x.hdrs=[])/\(¬7<=k->x.parts=[]):=by
 unfold WC Zqq Znj at h;simp only[Bool.or_eq_false_iff,Bool.and_eq_false_iff,Bool.not_eq_false',decide_eq_true_eq,decide_eq_false_iff_not,ZIW]at h;refine⟨λt u=>?_,λt u=>?_,λt=>?_,λt=>?_⟩;have:=h.1.1.1;omega;exact List.eq_nil_of_length_eq_zero (by have:=h.1.1.2;omega);exact List.eq_nil_of_length_eq_zero (by have:=h.1.2;omega);exact List.eq_nil_of_length_eq_zero (by have:=h.2;omega)
def ZCx{f:Fld}{u v:Int}{w w':Wr}(hw:WEq w w')(hb:BOk w.b w.n)(hz:ZOk w.b w.n)(h8:KK f=true->w.n % 8=0)(hf:QM f=0)(h1:f.kind=1)(hu:f.low<=u/\u<=f.high)(hv:f.low<=v/\v<=f.high)(hne:u≠v):Zid (w.num f u) (w'.num f v):=by
 have hn:=ZyJ hf;have ab:Zkw f=false:=by unfold QM at hf;split at hf;omega;split at hf;omega;rename_i h;simpa using h
 unfold Zkw Zll at ab;rw[if_neg ω]at ab;simp only[Bool.or_eq_false_iff,decide_eq_false_iff_not]at ab;have hp:(2:Int) ^ f.bits.toNat=((2 ^ f.bits.toNat:Nat):Int):=(Int.natCast_pow 2 _).symm;have ac:u.toNat<2 ^ f.bits.toNat:=ω;have ad:v.toNat<2 ^ f.bits.toNat:=ω;have t:u.toNat≠v.toNat:=ω;unfold Wr.num Zkv Zha;by_cases hl:f.little=true;have h256:2 ^ f.bits.toNat<=256 ^ ((f.bits.toNat+7) / 8):=by rcases hn.2.2 hl with e|e|e<;>rw[e]<;>decide
 rw[if_pos hl,if_pos hl,if_pos hl,if_pos hl];refine Zc8 (l:=leS u.toNat ((f.bits.toNat+7) / 8)) (r:=leS v.toNat ((f.bits.toNat+7) / 8)) hw hb (h8 (Zks hl)) rfl (by rw[Zdl]) rfl (by rw[Zdl]) (Zqb (by rw[Zdl,Zdl]) λe=>t (Zv3 ω ω e));rw[if_neg hl,if_neg hl,if_neg hl,if_neg hl];obtain⟨b,n,s⟩:=w;obtain⟨b',n',s'⟩:=w';obtain⟨rfl,rfl⟩:b=b'/\n=n':=hw;exact ZA8 hb hz ac ad t
section
variable {d:Dfn} {n j i:Nat} {m:Msg} {f:Fld} {mis:Msg->Val->Str->Str × Int} {len len':Msg->Val->Int} {x y:Val} {q q':Str} {l l':List (Str × Int)} {g:Val->List UInt8}
def ZAZ{chg:List UInt8->List UInt8}(hc:∀{a b},Wx a b->Wx (chg a) (chg b))(hR:Zeg d f)(hk:f.kind=7\/f.kind=8\/f.kind=9\/f.kind=12)(hx:(Qc mis len d f x q l).2=0)(hy:(Qc mis len' d f y q' l').2=0)(hs:f.kind=7->Zbd f.size l=Zbd f.size l')(ht:f.kind=9->WO f.tag l=WO f.tag l')(ih:∀of u u' p p',u∈x.parts->u'∈y.parts->0<=Zz d of (I d.msgs)->(mis (Zn d of) u p).2=0->(mis (Zn d of) u' p').2=0->u=u'\/Wx (g u) (g u')):
  x.parts=y.parts\/Wx (Zfh chg g x.parts) (Zfh chg g y.parts):=by
 have one:∀of,0<=Zz d of (I d.msgs)->(Zan mis d of x q).2=0->(Zan mis d of y q').2=0->x.parts=y.parts\/Wx (Zfh chg g x.parts) (Zfh chg g y.parts):=λof h0 h1 h2=>by obtain⟨a1,a2⟩:=ZlS h1;obtain⟨b1,b2⟩:=ZlS h2;refine Zto hc ω λi hi=>?_;obtain rfl:i=0:=ω;exact ih of _ _ _ _ (ZE hi) (ZE ω) h0 a2 b2
 unfold Qc at hx hy;rw[if_neg ω,if_neg ω,if_neg ω,if_neg ω]at hx hy;rcases hk with hk|hk|hk|hk;rw[if_pos hk]at hx hy;split at hx;rename_i ac;split at hy;rename_i ad;have e1:=ZcY ac;have e2:=ZcY ad;have e3:=hs hk;refine Zto hc ω λi hi=>?_;exact ih f.of _ _ _ _ (ZE hi) (ZE ω) (hR.ref ω) (Zca hx i hi) (Zca hy i ω);rename_i t;exact absurd hy t;rename_i t;exact absurd hx t;rw[if_neg ω,if_pos hk]at hx hy;exact one _ (hR.ref ω) hx hy;rw[if_neg ω,if_neg ω,if_pos hk]at hx hy;rw[ht hk]at hx;split at hx;simp at hx;rename_i ab;rw[if_neg ab]at hy;have hlt:=WE (λc:Y6=>dC (c.low<=WO f.tag l')&&dC (WO f.tag l'<=c.high)) f.cases;exact one _ (hR.cas hk _ (ZE (by unfold J1 at ab⊢;omega))) hx hy;rw[if_neg ω,if_neg ω,if_neg ω,if_pos hk]at hx hy;split at hx;rename_i h1;split at hy;rename_i h2;exact one _ (hR.ref ω) h1 h2;rename_i h2;exact absurd hy h2;rename_i h1;exact absurd hx h1
def ZDo{rec rec':Val->Str->Wr}{path path':Str}{E:List (Str×Int)}{w w':Wr}(hw:WEq w w')(hb:BOk w.b w.n)(hz:ZOk w.b w.n)(h8:KK f=true->w.n % 8=0)(hA:ZaB d j i m f)(hR:Zeg d f)(hv:YG f=true)(hrx:∀u∈x.parts,∀p,(rec u p).b=g u)(hry:∀u∈y.parts,∀p,(rec' u p).b=g u)(hnm:x.name=y.name)(hxo:XOk f x)(hyo:XOk f y)(hx:(Qc mis len d f x q l).2=0)(hy:(Qc mis len' d f y q' l').2=0)(hs:f.kind=4\/f.kind=7\/f.kind=12->Zbd f.size l=Zbd f.size l')(ht:f.kind=9->WO f.tag l=WO f.tag l')(ih:∀of u u' p p',u∈x.parts->u'∈y.parts->0<=Zz d of (I d.msgs)->(mis (Zn d of) u p).2=0->(mis (Zn d of) u' p').2=0->u=u'\/Wx (g u) (g u')):
  x=y\/Zid (Kg rec path f x E w) (Kg rec' path' f y E w'):=by
 have hk:=hA.kind;have ab:=hA.ks;unfold Qo at ab;have ux:=Zlm hxo.unused;have uy:=Zlm hyo.unused;unfold YG at hv;simp only[ZIJ,Bool.not_eq_true',decide_eq_false_iff_not]at hv;by_cases h7:f.kind=7\/f.kind=8\/f.kind=9\/f.kind=12;have hc:∀{a b},Wx a b->Wx ((if f.kind=12 then KQ f.key.toNat else id) a) ((if f.kind=12 then KQ f.key.toNat else id) b):=λh=>by split;exact ZB8 h;exact h
 rcases ZAZ (g:=g) hc hR h7 hx hy (λh=>hs ω) ht ih with h|h;exact .inl (Zdw hnm (by rw[ux.1 ω ω,uy.1 ω ω]) (by rw[ux.2.1 ω ω,uy.2.1 ω ω]) (by rw[ux.2.2.1 ω,uy.2.2.1 ω]) h);right;rw[ZiB ω,ZiB ω];obtain⟨e1,e2⟩:=ZeO (chg:=if f.kind=12 then KQ f.key.toNat else id) (q:=ZN path f.name) hrx (n:=I x.parts) (j:=0) (w:=w) ω;obtain⟨e3,e4⟩:=ZeO (chg:=if f.kind=12 then KQ f.key.toNat else id) (q:=ZN path' f.name) hry (n:=I y.parts) (j:=0) (w:=w') ω;exact Zc8 hw hb (h8 (ZaU ω ω ω)) e1 e2 e3 e4 h;have ac:=ux.2.2.2 ω;have ad:=uy.2.2.2 ω;unfold Qc at hx hy;by_cases h1:f.kind=1;rw[if_pos h1]at ab;rw[if_pos ω]at hx hy;split at hx;simp at hx;rename_i hrx;split at hy;simp at hy;rename_i hry;by_cases e:x.int=y.int;exact .inl (Zdw hnm e (by rw[ux.2.1 ω ω,uy.2.1 ω ω]) (by rw[ux.2.2.1 ω,uy.2.2.1 ω]) (by rw[ac,ad]));right;unfold Kg;rw[if_pos h1,if_pos h1];exact ZCx hw hb hz h8 ab h1 ω ω e;by_cases h3:f.kind=3;have n8:=h8 (ZaU ω ω ω);have vx:=hxo.vint h3;have vy:=hyo.vint h3;rcases ZDq (v:=x.int.toNat) (u:=y.int.toNat) ω ω with h|h;exact .inl (Zdw hnm ω (by rw[ux.2.1 ω ω,uy.2.1 ω ω]) (by rw[ux.2.2.1 ω,uy.2.2.1 ω]) (by rw[ac,ad]));right;unfold Kg;rw[if_neg ω,if_neg ω,if_pos h3,if_neg ω,if_neg ω,if_pos h3];exact Zc8 hw hb n8 rfl rfl rfl rfl h;rw[if_neg ω]at hx hy;have n8:=h8 (ZaU ω ω ω);have t:x.int=y.int:=by rw[ux.1 h1 h3,uy.1 h1 h3]
 by_cases h4:f.kind=4;rw[if_pos h4]at hx hy;have e1:=ZcY hx;have e2:=ZcY hy;have e3:=hs ω;by_cases e:x.bytes=y.bytes;exact .inl (Zdw hnm t e (by rw[ux.2.2.1 ω,uy.2.2.1 ω]) (by rw[ac,ad]));right;unfold Kg;rw[if_neg ω,if_neg ω,if_neg ω,if_pos h4,if_neg ω,if_neg ω,if_neg ω,if_pos h4];exact Zc8 hw hb n8 rfl rfl rfl rfl (Zqb ω e);rw[if_neg h4]at hx hy;by_cases h5:f.kind=5;rw[if_pos h5]at hx hy;rw[if_neg h1,if_neg ω,if_neg h3,if_neg h4,if_pos h5]at ab;split at ab;omega;rename_i ag;simp only[ZIW,decide_eq_true_eq,not_or]at ag;have nm:∀{z:Val},z.bytes.any (λc=>dC ((c.toNat:Int)=f.low))=false->UInt8.ofNat f.low.toNat∉z.bytes:=λh hm=>by have:=List.any_eq_false.1 h _ hm;rw[decide_eq_true_eq,UInt8.toNat_ofNat']at this;omega
 split at hx;simp at hx;split at hx;simp at hx;rename_i ha;split at hy;simp at hy;split at hy;simp at hy;rename_i ae;rcases Zl4 (nm (by simpa using ha)) (nm (z:=y) (by simpa using ae)) with e|e;exact .inl (Zdw hnm t e (by rw[ux.2.2.1 ω,uy.2.2.1 ω]) (by rw[ac,ad]));right;unfold Kg;rw[if_neg ω,if_neg ω,if_neg ω,if_neg ω,if_pos h5,if_neg ω,if_neg ω,if_neg ω,if_neg ω,if_pos h5];exact Zc8 hw hb n8 rfl rfl rfl rfl (e [] []);have h6:f.kind=6:=ω;have af:x.bytes=y.bytes:=by rw[ux.2.1 h4 h5,uy.2.1 h4 h5]
 have ho:∀{z:Val},XOk f z->∀h∈z.hdrs,Zaw h=true:=λhz=>by have:=(hz.hdrs h6).1;unfold Kz at this;rw[ZIJ]at this;exact List.all_eq_true.1 this.1
 rcases ZuQ (ho hxo) (ho hyo) with e|e;exact .inl (Zdw hnm t af e (by rw[ac,ad]));right;unfold Kg;rw[if_neg ω,if_neg ω,if_neg ω,if_neg ω,if_neg ω,if_pos h6,if_neg ω,if_neg ω,if_neg ω,if_neg ω,if_neg ω,if_pos h6];exact Zc8 hw hb n8 rfl rfl rfl rfl e
end
end Go.DL
namespace Go.DL
open Go
variable [Zs5]
variable {kp:Option (List Nat)}{L:Loc}{H:Env}{s:St}{w:World}{os:List DOp}{ds:List D}{B:List (Nat × Rd)}{dst:Option Nat}{tmps:Array Value}{g:G}{Φ:Res->St->Prop}{Z:Nat->Nat}{xs:List Opd}{side:Prop}{row:Nat->List D}
inductive V where
 |int (k:IntKind) (n:Int)
 |bool (b:Bool)
 |str (s:List Nat)
 |agg (cs:List V)
 |tup (vs:List V)
 |nilsl
 |sl (t n s:Nat) (rows:List V)
 |ep (cs:List V) (off:Nat)
 |nilptr
 |ptr (b off:Nat)
 |msl (b off n:Nat) (cap:Option Nat) (s:Nat)
 |map (b:Nat)
 |nilmap
 |fn (f:FuncId) (first caps:List V)
 |yield (l:Nat)
 |nilfn
 |iface (t:TypeId) (v:V)
 |niliface
 |stamp (n:Nat)
abbrev V.i(n:Int):V:=.int .i64 n
def J0{α:Type}(a:α):Option (List α)->Option (List α)
 |some l=>sO (a::l)
 |none=>nO
def KO{α a}{x:Option (List α)}{r:List α}(h:J0 a x=sO r):∃q,x=sO q/\r=a::q:=by
 cases x with
 |none=>cases h
 |some q=>simp[J0]at h;exact⟨q,rfl,h.symm⟩
def Zp4{α:Type}(n:Nat)(x y:List α):List α :=
 Nat.rec (motive:=λ_=>List α->List α) (λ_=>y) (λ_ ih l=>match l with
  | []=>y
  |a::t=>a::ih t) n x
def Zht{α}:∀{n} {x y:List α},I x=n->Zp4 n x y=x++y
 |0,[],y,_=>rfl
 |0,a::x,y,h=>by grind
 |n+1,[],y,h=>by grind
 |n+1,a::x,y,h=>congrArg (a::·) (Zht (n:=n) (x:=x) (y:=y) (by grind))
def ZiG{α:Type}(n:Nat):List α->Option α :=
 Nat.rec (motive:=λ_=>List α->Option α) (λl=>match l with
  | []=>nO
  |a::_=>sO a) (λ_ ih l=>match l with
  | []=>nO
  |_::t=>ih t) n
def ZlK{α}:∀(n) (l:List α),ZiG n l=l[n]?
 |0,[]=>rfl
 |0,a::l=>rfl
 |n+1,[]=>rfl
 |n+1,a::l=>(ZlK n l).trans ψ
def ZbB{α:Type}(n:Nat):List α->List α :=
 Nat.rec (motive:=λ_=>List α->List α) (λl=>l) (λ_ ih l=>match l with
  | []=>[]
  |_::t=>ih t) n
def Jp{α}:∀(n) (l:List α),ZbB n l=l.drop n
 |0,l=>rfl
 |n+1,[]=>rfl
 |n+1,a::l=>(Jp n l).trans ψ
def Zbf{α:Type}(n:Nat):List α->Option (List α) :=
 Nat.rec (motive:=λ_=>List α->Option (List α)) (λ_=>sO []) (λ_ ih l=>match l with
  | []=>nO
  |a::t=>J0 a (ih t)) n
def Zaa{α}:∀{n} {l r:List α},Zbf n l=sO r->n<=I l/\r=l.take n
 |0,l,r,h=>by have t:sO []=sO r:=h;grind
 |n+1,[],r,h=>by have t:(nO:Option (List α))=sO r:=h;simp at t
 |n+1,a::l,r,h=>by obtain⟨q,u,rfl⟩:=KO (show J0 a (Zbf n l)=sO r from h);obtain⟨h1,h2⟩:=Zaa u;grind
def ZsH{α:Type}(o n:Nat)(l:List α):Option (List α):=match Nat.ble 1 n with
 |true=>Zbf n (ZbB o l)
 |false=>nO
def ZAX{α o n}{l r:List α}(h:ZsH o n l=sO r):o+n<=I l/\r=(l.drop o).take n:=by
 unfold ZsH at h;split at h;rename_i t;rw[Nat.ble_eq]at t;rw[Jp]at h;obtain⟨h1,h2⟩:=Zaa h;grind;grind
def Zxk{α:Type}(n:Nat):List α->List α->Option (List α) :=
 Nat.rec (motive:=λ_=>List α->List α->Option (List α)) (λxs l=>match xs with
  | []=>sO l
  |_::_=>nO) (λ_ ih xs l=>match xs with
  | []=>nO
  |x::xs=>match l with
   | []=>nO
   |_::t=>J0 x (ih xs t)) n
def Zk4{α:Type}(o n:Nat)(xs:List α):List α->Option (List α) :=
 Nat.rec (motive:=λ_=>List α->Option (List α)) (λl=>Zxk n xs l) (λ_ ih l=>match l with
  | []=>nO
  |a::t=>J0 a (ih t)) o
def Zuk{α}:∀{n} {xs l r:List α},Zxk n xs l=sO r->I xs=n/\n<=I l/\r=xs++l.drop n
 |0,[],l,r,h=>by have t:sO l=sO r:=h;simp_all
 |0,x::xs,l,r,h=>by have t:(nO:Option (List α))=sO r:=h;simp at t
 |n+1,[],l,r,h=>by have t:(nO:Option (List α))=sO r:=h;simp at t
 |n+1,x::xs,[],r,h=>by have t:(nO:Option (List α))=sO r:=h;simp at t
 |n+1,x::xs,a::l,r,h=>by obtain⟨q,hx,rfl⟩:=KO (show J0 x (Zxk n xs l)=sO r from h);obtain⟨u,h2,h3⟩:=Zuk hx;subst h3;simp[u,h2]
def Zqz{α}:∀{o n} {xs l r:List α},Zk4 o n xs l=sO r->I xs=n/\o+n<=I l/\r=l.take o++xs++l.drop (o+n)
 |0,n,xs,l,r,h=>by obtain⟨u,h2,h3⟩:=Zuk (n:=n) (xs:=xs) (l:=l) (r:=r) h;grind
 |o+1,n,xs,[],r,h=>by have t:(nO:Option (List α))=sO r:=h;simp at t
 |o+1,n,xs,a::l,r,h=>by obtain⟨q,hx,rfl⟩:=KO (show J0 a (Zk4 o n xs l)=sO r from h);obtain⟨u,h2,h3⟩:=Zqz hx;grind
structure Bx(α:Type) where
 run:α
structure N8(α:Type) where
 a:α
 b:α
 c:α
 d:α
 e:α
 f:α
 g:α
 h:α
def N8.all{α:Type}(x:α):N8 α:=⟨x,x,x,x,x,x,x,x⟩
def ZbP{α:Type}:Nat->Bx (N8 α->α)
 |0=>⟨λt=>t.a⟩
 |1=>⟨λt=>t.b⟩
 |2=>⟨λt=>t.c⟩
 |3=>⟨λt=>t.d⟩
 |4=>⟨λt=>t.e⟩
 |5=>⟨λt=>t.f⟩
 |6=>⟨λt=>t.g⟩
 |_=>⟨λt=>t.h⟩
def ZkC{α:Type}:Nat->Bx ((α->α)->N8 α->N8 α)
 |0=>⟨λu t=>N8.casesOn t λa b c d e f g h=>⟨u a,b,c,d,e,f,g,h⟩⟩
 |1=>⟨λu t=>N8.casesOn t λa b c d e f g h=>⟨a,u b,c,d,e,f,g,h⟩⟩
 |2=>⟨λu t=>N8.casesOn t λa b c d e f g h=>⟨a,b,u c,d,e,f,g,h⟩⟩
 |3=>⟨λu t=>N8.casesOn t λa b c d e f g h=>⟨a,b,c,u d,e,f,g,h⟩⟩
 |4=>⟨λu t=>N8.casesOn t λa b c d e f g h=>⟨a,b,c,d,u e,f,g,h⟩⟩
 |5=>⟨λu t=>N8.casesOn t λa b c d e f g h=>⟨a,b,c,d,e,u f,g,h⟩⟩
 |6=>⟨λu t=>N8.casesOn t λa b c d e f g h=>⟨a,b,c,d,e,f,u g,h⟩⟩
 |_=>⟨λu t=>N8.casesOn t λa b c d e f g h=>⟨a,b,c,d,e,f,g,u h⟩⟩
abbrev T(α:Type):=N8 (N8 (N8 (N8 (N8 (Option α)))))
def T.nil{α:Type}:T α:=N8.all (N8.all (N8.all (N8.all (N8.all nO))))
def T.getF{α:Type}(k:Nat):Bx (T α->Option α) :=
 match Nat.blt k 32768 with
 |true=>⟨λt=>(ZbP (Nat.mod k 8)).run ((ZbP (Nat.mod (Nat.div k 8) 8)).run ((ZbP (Nat.mod (Nat.div k 64) 8)).run ((ZbP (Nat.mod (Nat.div k 512) 8)).run ((ZbP (Nat.mod (Nat.div k 4096) 8)).run t))))⟩
 |false=>⟨λ_=>nO⟩
def T.setF{α:Type}(k:Nat):Bx (Option α->T α->T α) :=
 match Nat.blt k 32768 with
 |true=>⟨λx=>(ZkC (Nat.mod (Nat.div k 4096) 8)).run ((ZkC (Nat.mod (Nat.div k 512) 8)).run ((ZkC (Nat.mod (Nat.div k 64) 8)).run ((ZkC (Nat.mod (Nat.div k 8) 8)).run ((ZkC (Nat.mod k 8)).run λ_=>x))))⟩
 |false=>⟨λ_ t=>t⟩
def T.get{α:Type}(t:T α)(k:Nat):Option α:=(T.getF k).run t
def T.set{α:Type}(x:Option α)(t:T α)(k:Nat):T α:=(T.setF k).run x t
def ZCb{α u}{t:N8 α}:∀{i j:Nat},i<8->j<8->(ZbP i).run ((ZkC j).run u t)=if i=j then u ((ZbP i).run t) else (ZbP i).run t:=by
 intro i j hi hj;have ab:∀i:Fin 8,∀j:Fin 8,(ZbP i.val).run ((ZkC j.val).run u t)=if i.val=j.val then u ((ZbP i.val).run t) else (ZbP i.val).run t:=by intro i j;rcases i with _|_|_|_|_|_|_|_|i<;>(try omega)<;>rcases j with _|_|_|_|_|_|_|_|j<;>(try omega)<;>rfl
 exact ab ⟨i,hi⟩ ⟨j,hj⟩
def T.get_set{α}{x}{a}{t:T α}{k k'}(h:(t.set x k).get k'=sO a):(k'=k/\x=sO a)\/(k'≠k/\t.get k'=sO a):=by
 unfold T.get at h⊢;cases hb:Nat.blt k' 32768 with
 |false=>simp[T.getF,hb]at h
 |true =>
 have ab:=hb;simp at ab;unfold T.set T.setF at h;split at h;rename_i hk;simp at hk;have m (n:Nat):Nat.mod n 8<8:=Nat.mod_lt _ ω;have dp:∀{β:Type} {u:β->β} {t:N8 β} (n n':Nat),(ZbP (Nat.mod n 8)).run ((ZkC (Nat.mod n' 8)).run u t)=if Nat.mod n 8=Nat.mod n' 8 then u ((ZbP (Nat.mod n 8)).run t) else (ZbP (Nat.mod n 8)).run t:=λn n'=>ZCb (m n) (m n')
 simp[T.getF,hb]at h⊢;rw[dp]at h;by_cases h5:Nat.mod (Nat.div k' 4096) 8=Nat.mod (Nat.div k 4096) 8;rw[if_pos h5,dp]at h;by_cases h4:Nat.mod (Nat.div k' 512) 8=Nat.mod (Nat.div k 512) 8;rw[if_pos h4,dp]at h;by_cases h3:Nat.mod (Nat.div k' 64) 8=Nat.mod (Nat.div k 64) 8;rw[if_pos h3,dp]at h;by_cases h2:Nat.mod (Nat.div k' 8) 8=Nat.mod (Nat.div k 8) 8;rw[if_pos h2,dp]at h;by_cases h1:Nat.mod k' 8=Nat.mod k 8;rw[if_pos h1]at h;refine .inl ⟨?_,h⟩;have e1 (a b:Nat):Nat.mod a b=a % b:=rfl;have e2 (a b:Nat):Nat.div a b=a / b:=rfl;simp[e1,e2]at h1 h2 h3 h4 h5;omega;rw[if_neg h1]at h;exact .inr ⟨λe=>h1 (by rw[e]),h⟩;rw[if_neg h2]at h;exact .inr ⟨λe=>h2 (by rw[e]),h⟩;rw[if_neg h3]at h;exact .inr ⟨λe=>h3 (by rw[e]),h⟩;rw[if_neg h4]at h;exact .inr ⟨λe=>h4 (by rw[e]),h⟩;rw[if_neg h5]at h;exact .inr ⟨λe=>h5 (by rw[e]),h⟩;by_cases e:k'=k;simp_all;exact .inr ⟨e,h⟩
def T.get_nil{α k}:(T.nil:T α).get k=nO:=by
 have this:∀{β:Type} (x:β) (n:Nat),(ZbP n).run (N8.all x)=x:=λx n=>by rcases n with _|_|_|_|_|_|_|n<;>rfl
 unfold T.get T.getF;split;simp[T.nil,this];rfl
mutual
def ofD:D->Option V
 |.int k n=>sO (.int k n)
 |.bool b=>sO (.bool b)
 |.str s=>sO (.str (s.map UInt8.toNat))
 |.agg cs=>(ofDs cs).map .agg
 |.nilsl=>sO .nilsl
 |.nilptr=>sO .nilptr
 |.nilmap=>sO .nilmap
 |.fn (.func f) [] []=>sO (.fn f [] [])
 |.nilfn=>sO .nilfn
 |.niliface=>sO .niliface
 |.ep cs o=>(ofDs cs).map (.ep · o)
 |_=>nO
def ofDs:List D->Option (List V)
 | []=>sO []
 |d::r=>match ofD d,ofDs r with
  |some v,sO vs=>sO (v::vs)
  |_,_=>nO
end
def leI:Int->Int->Bool
 |.ofNat a,b=>match b with
  |.ofNat b=>Nat.ble a b
  |.negSucc _=>false
 |.negSucc a,b=>match b with
  |.ofNat _=>true
  |.negSucc b=>Nat.ble b a
def eqI:Int->Int->Bool
 |.ofNat a,b=>match b with
  |.ofNat b=>Nat.beq a b
  |.negSucc _=>false
 |.negSucc a,b=>match b with
  |.ofNat _=>false
  |.negSucc b=>Nat.beq a b
def ZhJ(a b):leI a b=dC (a<=b):=by
 rw[Bool.eq_iff_iff,decide_eq_true_eq];cases a<;>cases b<;>simp[leI]<;>omega
def Zj6(a b):eqI a b=dC (a=b):=by
 rw[Bool.eq_iff_iff,decide_eq_true_eq];cases a<;>cases b<;>simp[eqI]<;>omega
def ZBv:IntKind->Nat
 |.i8=>127|.i16=>32767|.i32=>2147483647|.i64=>9223372036854775807
 |.u8=>255|.u16=>65535|.u32=>4294967295|.u64=>18446744073709551615
def Zw9(k:IntKind):Int->Bool
 |.ofNat n=>Nat.ble n (ZBv k)
 |.negSucc n=>k.signed&&Nat.ble n (ZBv k)
def Zv0{k n}(h:Zw9 k n=true):inR k n:=by
 cases n<;>cases k<;>simp only[Zw9,ZBv,Nat.ble_eq,IntKind.signed,ZJb,ZIY,ZI7]at h <;>
  simp[inR,IntKind.min,IntKind.max,IntKind.signed,IntKind.bits]<;>omega
def Zg0(k:IntKind)(n:Int):Option V:=match Zw9 k n with
 |true=>sO (.int k n)
 |false=>nO
def Zxa:IntKind->Nat
 |.i8=>0|.i16=>1|.i32=>2|.i64=>3|.u8=>4|.u16=>5|.u32=>6|.u64=>7
def Zgp(k k':IntKind):Bool:=Nat.beq (Zxa k) (Zxa k')
def Zfx{k k'}(h:Zgp k k'=true):k=k':=by
 cases k<;>cases k'<;>first|rfl|(simp[Zgp,Zxa]at h)
def ZA9(op:BinOp):IntKind->Int->Int->Option V :=
 match op with
 |.add=>λk a b=>Zg0 k (Int.add a b)
 |.sub=>λk a b=>Zg0 k (Int.sub a b)
 |.mul=>λk a b=>Zg0 k (Int.mul a b)
 |.quo=>λk a b=>match eqI b 0 with
  |true=>nO
  |false=>Zg0 k (a.tdiv b)
 |.rem=>λk a b=>match eqI b 0 with
  |true=>nO
  |false=>Zg0 k (a.tmod b)
 |.and=>λk a b=>sO (.int k (Qj .and k a b))
 |.or=>λk a b=>sO (.int k (Qj .or k a b))
 |.xor=>λk a b=>sO (.int k (Qj .xor k a b))
 |.andNot=>λk a b=>sO (.int k (Qj .andNot k a b))
 |.eql=>λ_ a b=>sO (.bool (eqI a b))
 |.neq=>λ_ a b=>sO (.bool (!eqI a b))
 |.lss=>λ_ a b=>sO (.bool (!leI b a))
 |.leq=>λ_ a b=>sO (.bool (leI a b))
 |.gtr=>λ_ a b=>sO (.bool (!leI a b))
 |.geq=>λ_ a b=>sO (.bool (leI b a))
 |.shl=>λk a b=>match leI 0 b with
  |true=>Zg0 k (J8 k a b)
  |false=>nO
 |.shr=>λk a b=>match leI 0 b with
  |true=>Zg0 k (QE k a b)
  |false=>nO
def eqS:List Nat->List Nat->Bool
 | [],[]=>true
 |a::x,b::y=>if Nat.beq (a % 256) (b % 256) then eqS x y else false
 |_,_=>false
def ZdI:List Nat->List Nat->Bool
 |_,[]=>false
 | [],_::_=>true
 |a::x,b::y=>if Nat.blt (a % 256) (b % 256) then true else if Nat.beq (a % 256) (b % 256) then ZdI x y else false
def ZBa(op:BinOp):List Nat->List Nat->Option V :=
 match op with
 |.add=>λa b=>match Nat.ble (I a+I b) big with
  |true=>sO (.str (a++b))
  |false=>nO
 |.eql=>λa b=>sO (.bool (eqS a b))
 |.neq=>λa b=>sO (.bool (!eqS a b))
 |.lss=>λa b=>sO (.bool (ZdI a b))
 |.leq=>λa b=>sO (.bool (ZdI a b ||eqS a b))
 |.gtr=>λa b=>sO (.bool (!(ZdI a b ||eqS a b)))
 |.geq=>λa b=>sO (.bool (!ZdI a b))
 |_=>λ_ _=>nO
def Zl1:SK->V->V->Option Bool
 |.int,.int k a,.int k' b=>if Zgp k k' then sO (eqI a b) else nO
 |.str,.str a,.str b=>sO (eqS a b)
 |.bool,.bool a,.bool b=>sO (dC (a=b))
 |_,_,_=>nO
def Zhx(xs ys:List V):List (Nat×SK)->Option Bool
 | []=>sO true
 | (o,k)::r=>match xs[o]?,ys[o]? with
  |some x,sO y=>match Zl1 k x y,Zhx xs ys r with
   |some b,sO c=>sO (b&&c)
   |_,_=>nO
  |_,_=>nO
def Zem:KP->V->V->Option Bool
 |.sc k,x,y=>Zl1 k x y
 |.st l,.agg xs,.agg ys=>if (I xs)=I l/\I ys=I l then Zhx xs ys l else nO
 |_,_,_=>nO
def ZsI:Zfb->V->V->Option Bool
 |.bool,.bool a,.bool b=>sO (dC (a=b))
 |.sl,.nilsl,.nilsl=>sO true
 |.sl,.sl _ n _ _,.nilsl=>if 0<n then sO false else nO
 |.sl,.msl _ _ _ _ _,.nilsl=>sO false
 |.map,.nilmap,.nilmap=>sO true
 |.map,.map _,.nilmap=>sO false
 |.fn,.nilfn,.nilfn=>sO true
 |.fn,.fn _ _ _,.nilfn=>sO false
 |.fn,.yield _,.nilfn=>sO false
 |.ifc,.niliface,.niliface=>sO true
 |.ifc,.iface _ _,.niliface=>sO false
 |.ptr,.nilptr,.nilptr=>sO true
 |.ptr,.ptr _ _,.nilptr=>sO false
 |.ptr,.ep _ _,.nilptr=>sO false
 |.cells l,.agg xs,.agg ys=>Zhx xs ys l
 |_,_,_=>nO
def ZuC:BinOp->Bool
 |.shl|.shr=>true
 |_=>false
def Zuv(op:BinOp)(p:Option Zfb):V->V->Option V :=
 match p with
 |none=>λ_ _=>nO
 |some p=>match op with
  |.eql=>λx y=>match ZsI p x y with
   |some b=>sO (.bool b)
   |none=>nO
  |.neq=>λx y=>match ZsI p x y with
   |some b=>sO (.bool (!b))
   |none=>nO
  |_=>λ_ _=>nO
def Zuu(op:BinOp)(p:Option Zfb)(x y:V):Option V :=
 match x with
 |.int k a=>match y with
  |.int k' b=>match ZuC op ||Zgp k k' with
   |true=>ZA9 op k a b
   |false=>nO
  |_=>nO
 |.str a=>match y with
  |.str b=>ZBa op a b
  |_=>nO
 |x=>Zuv op p x y
inductive W where
 |v (x:V)
 |loc (l off:Nat)
 |skip
inductive O where
 |cells (vs:List V)
 |buf (vs:List V)
 |map (es:List (V×V))
 |tok (k:Nat)
 |mapE (kp:KP) (es:List (V×V)) (k:V) (n:Nat)
 |loop (f:FuncId) (n:Nat) (ps:List Nat) (a b:DC) (H:T W) (st:Option DC) (busy:Bool)
 |dfr
 |ro (o:O)
abbrev S:=T O
def cellsO:O->Option (List V)
 |.cells vs=>sO vs
 |.buf vs=>sO vs
 |.ro o=>match o with
  |.cells vs=>sO vs
  |.buf vs=>sO vs
  |_=>nO
 |_=>nO
def ZaW:Option O->Option (List V)
 |some o=>cellsO o
 |none=>nO
def mapO:Option O->Option (List (V×V))
 |some o=>match o with
  |.map es=>sO es
  |.ro o=>match o with
   |.map es=>sO es
   |_=>nO
  |_=>nO
 |none=>nO
def ZbS:O->Bool
 |.ro _=>true
 |_=>false
def ZoI(kp:KP)(k:V):List (V×V)->Option (Option V)
 | []=>sO nO
 |e::r=>match Zem kp k e.1 with
  |some true=>sO (sO e.2)
  |some false=>ZoI kp k r
  |none=>nO
def ZqM(kp:KP)(k v:V):List (V×V)->Option (List (V×V))
 | []=>sO [(k,v)]
 |e::r=>match Zem kp k e.1 with
  |some true=>sO ((k,v)::r)
  |some false=>(ZqM kp k v r).map (e::·)
  |none=>nO
def ZtH(kp:KP)(k:V):List (V×V)->Option (List (V×V))
 | []=>sO []
 |e::r=>match Zem kp k e.1 with
  |some true=>sO r
  |some false=>(ZtH kp k r).map (e::·)
  |none=>nO
def ZtN(kp:KP)(k z:V):List (V×V)->Option V
 | []=>sO z
 |e::r=>match Zem kp k e.1 with
  |some true=>sO e.2
  |some false=>ZtN kp k z r
  |none=>nO
def ZsF(z:V)(ok:Bool):Option V->V
 |some v=>if ok then .tup [v,.bool true] else v
 |none=>if ok then .tup [z,.bool false] else z
def Zf0:V->List V
 |.agg cs=>cs
 |v=>[v]
def ZpK:V->Bool
 |.tup _=>false
 |_=>true
def ZxR:V->Bool
 |.tup _|.agg _=>false
 |_=>true
def ZsB(cells:List V):List (Nat×Nat)->List V->Option (List V)
 | [],[]=>sO cells
 | (o,n)::ps,d::ds=>if ZpK d then match Zk4 o n (Zf0 d) cells with
  |some cs=>ZsB cs ps ds
  |none=>nO
  else nO
 |_,_=>nO
def Zxx(s n:Nat):List V->Option (List V) :=
 Nat.rec (motive:=λ_=>List V->Option (List V)) (λ_=>sO []) (λ_ ih l=>match Zbf s l with
  |some r=>J0 (.agg r) (ih (ZbB s l))
  |none=>nO) n
def ZoM(s:Nat)(n:Nat):List V->Option (List V) :=
 Nat.rec (motive:=λ_=>List V->Option (List V)) (λ_=>sO []) (λ_ ih l=>match l with
  |.agg cs::t=>match ih t with
   |some r=>sO (Zp4 s cs r)
   |none=>nO
  |_=>nO) n
def Zoi:List V->Option (List Nat)
 | []=>sO []
 |.int .u8 n::r=>J0 n.toNat (Zoi r)
 |_::_=>nO
def Ztk:List V->Option (List Nat)
 | []=>sO []
 |.agg [.int .u8 n]::r=>J0 n.toNat (Ztk r)
 |_::_=>nO
def J3:List Bool->List V->Option (List (Option Int))
 | [],[]=>sO []
 |true::bs,.int _ n::r=>(J3 bs r).map (sO n::·)
 |false::bs,r=>(J3 bs r).map (nO::·)
 |_,_=>nO
def ZxN(t n:Nat)(l h:Int):Option Int->Nat
 |some m=>if eqI m h then 1 else 0
 |none=>if eqI h n then (if Nat.beq t 1 then 1 else if eqI l 0 then t else 0) else 0
def ZDC(h:Int)(n:Nat):Option Int->Bool
 |some m=>leI h m&&leI m n
 |none=>true
def ZuE(s:Nat)(lo hi mx:Option Int):V->Option V
 |.sl t n s' rs =>
  if Nat.beq s' s&&leI 0 (lo.getD 0)&&leI (lo.getD 0) (hi.getD n)&&leI (hi.getD n) n&&ZDC (hi.getD n) n mx then
   match Zbf (Int.sub (hi.getD n) (lo.getD 0)).toNat (ZbB (lo.getD 0).toNat rs) with
   |some r=>sO (.sl (ZxN t n (lo.getD 0) (hi.getD n) mx) (Int.sub (hi.getD n) (lo.getD 0)).toNat s r)
   |none=>nO
  else nO
 |.nilsl=>if eqI (lo.getD 0) 0&&eqI (hi.getD 0) 0&&eqI (mx.getD 0) 0 then sO .nilsl else nO
 |.msl b o n cap s' =>
  if Nat.beq s' s&&leI 0 (lo.getD 0)&&leI (lo.getD 0) (hi.getD n) then match cap with
   |some cap=>if leI (hi.getD n) (mx.getD cap)&&leI (mx.getD cap) cap then
     sO (.msl b (if eqI (mx.getD cap) (lo.getD 0) then o else o+(lo.getD 0).toNat*s) (Int.sub (hi.getD n) (lo.getD 0)).toNat (sO (Int.sub (mx.getD cap) (lo.getD 0)).toNat) s) else nO
   |none=>if leI (hi.getD n) n&&(eqI (lo.getD 0) 0||!leI n (lo.getD 0)) then match mx with
    |none=>sO (.msl b (o+(lo.getD 0).toNat*s) (Int.sub (hi.getD n) (lo.getD 0)).toNat nO s)
    |some m=>if leI (hi.getD n) m&&leI m n then sO (.msl b (if eqI m (lo.getD 0) then o else o+(lo.getD 0).toNat*s) (Int.sub (hi.getD n) (lo.getD 0)).toNat (sO (Int.sub m (lo.getD 0)).toNat) s) else nO
    else nO
  else nO
 |_=>nO
def a1(vs:List V)(f:V->Option V):Option V:=match vs with
 | [x]=>f x
 |_=>nO
def a2(vs:List V)(f:V->V->Option V):Option V:=match vs with
 | [x,y]=>f x y
 |_=>nO
def Zlj(cs:List V)(o n:Nat):Option V:=match ZsH o n cs with
 |some r=>sO (.agg r)
 |none=>nO
def ZjM(U:S)(b:Nat)(f:List V->Option V):Option V:=match ZaW (U.get b) with
 |some cs=>f cs
 |none=>nO
def Zgk(i:Int)(n:Nat)(r:Option V):Option V:=if leI 0 i&&!leI n i then r else nO
def noV{α:Type}(b:Bool)(r:Option α):Option α:=if b then r else nO
def qV:Q->S->List V->Option V
 |.mv=>λ_ vs=>a1 vs sO
 |.nilck=>λ_ vs=>a1 vs λx=>match x with
  |.ep _ _=>sO x
  |.ptr _ _=>sO x
  |.fn _ _ _=>sO x
  |.yield _=>sO x
  |_=>nO
 |.load1=>λU vs=>a1 vs λa=>match a with
  |.ep cs o=>ZiG o cs
  |.ptr b o=>ZjM U b λcs=>ZiG o cs
  |_=>nO
 |.loadN n=>λU vs=>a1 vs λa=>match a with
  |.ep cs o=>Zlj cs o n
  |.ptr b o=>ZjM U b λcs=>Zlj cs o n
  |_=>nO
 |.bin op p=>λ_ vs=>a2 vs (Zuu op p)
 |.not=>λ_ vs=>a1 vs λx=>match x with
  |.bool b=>sO (.bool !b)
  |_=>nO
 |.neg=>λ_ vs=>a1 vs λx=>match x with
  |.int k n=>Zg0 k (Int.neg n)
  |_=>nO
 |.xorm=>λ_ vs=>a1 vs λx=>match x with
  |.int k n=>sO (.int k (Qj .xor k (if k.signed then -1 else k.max) n))
  |_=>nO
 |.conv c=>match c with
  |.int k=>λ_ vs=>a1 vs λx=>match x with
   |.int k' n=>sO (if k=k' then .int k n else .int k (k.wrap n))
   |_=>nO
  |.str=>λ_ vs=>a1 vs λx=>match x with
   |.str s=>sO (.str s)
   |_=>nO
  |.i2s=>λ_ vs=>a1 vs λx=>match x with
   |.int _ n=>noV (Nat.ble (Utf8.encode n).data.toList.length big) (sO (.str ((Utf8.encode n).data.toList.map UInt8.toNat)))
   |_=>nO
  |.b2s=>λU vs=>a1 vs λx=>match x with
   |.nilsl=>sO (.str [])
   |.sl _ _ s rs=>noV (Nat.beq s 1) ((Ztk rs).map .str)
   |.msl b o n _ s=>noV (Nat.beq s 1) (ZjM U b λcs=>noV (Nat.ble (o+n) (I cs)) (match Zbf n (ZbB o cs) with
    |some r=>(Zoi r).map .str
    |none=>nO))
   |_=>nO
 |.faddr off=>λ_ vs=>a1 vs λx=>match x with
  |.ep cs o=>sO (.ep cs (o+off))
  |.ptr b o=>sO (.ptr b (o+off))
  |_=>nO
 |.fld1 off=>λ_ vs=>a1 vs λx=>match x with
  |.agg cs=>ZiG off cs
  |_=>nO
 |.fldN off n=>λ_ vs=>a1 vs λx=>match x with
  |.agg cs=>Zlj cs off n
  |_=>nO
 |.iaddr z=>λ_ vs=>a2 vs λx y=>match y with
  |.int _ i=>match x with
   |.sl _ n z' rs=>noV (Nat.beq z' z) (Zgk i n (match ZiG i.toNat rs with
    |some (.agg cs)=>sO (.ep cs 0)
    |_=>nO))
   |.msl b o n _ z'=>noV (Nat.beq z' z) (Zgk i n (sO (.ptr b (o+i.toNat*z))))
   |_=>nO
  |_=>nO
 |.iaddrA m z=>λ_ vs=>a2 vs λx y=>match y with
  |.int _ i=>match x with
   |.ptr b o=>Zgk i m (sO (.ptr b (o+i.toNat*z)))
   |.ep cs o=>Zgk i m (sO (.ep cs (o+i.toNat*z)))
   |_=>nO
  |_=>nO
 |.idxA m z one=>λ_ vs=>a2 vs λx y=>match y with
  |.int _ i=>match x with
   |.agg cs=>Zgk i m (if one then ZiG (i.toNat*z) cs else Zlj cs (i.toNat*z) z)
   |_=>nO
  |_=>nO
 |.sliceA m z lo hi mx=>λ_ vs=>match vs with
  |.ptr b o::r=>match J3 [lo,hi,mx] r with
   |some [l,h,x]=>noV (leI 0 (l.getD 0)&&leI (l.getD 0) (h.getD m)&&leI (h.getD m) (x.getD m)&&leI (x.getD m) m&&Nat.ble m big)
     (sO (.msl b (if eqI (x.getD m) (l.getD 0) then o else o+(l.getD 0).toNat*z) (Int.sub (h.getD m) (l.getD 0)).toNat (sO (Int.sub (x.getD m) (l.getD 0)).toNat) z))
   |_=>nO
  |_=>nO
 |.idxS=>λ_ vs=>a2 vs λx y=>match y with
  |.int _ i=>match x with
   |.str s=>Zgk i (I s) (sO (.int .u8 (Int.ofNat (s.getD i.toNat 0 % 256))))
   |_=>nO
  |_=>nO
 |.lenS=>λ_ vs=>a1 vs λx=>match x with
  |.str s=>sO (.i (Int.ofNat (I s)))
  |_=>nO
 |.lenL=>λ_ vs=>a1 vs λx=>match x with
  |.sl _ n _ _=>sO (.i (Int.ofNat n))
  |.msl _ _ n _ _=>sO (.i (Int.ofNat n))
  |.nilsl=>sO (.i (Int.ofNat 0))
  |_=>nO
 |.lenA n=>λ_ vs=>a1 vs λ_=>noV (Nat.ble n big) (sO (.i (Int.ofNat n)))
 |.ext k=>λ_ vs=>a1 vs λx=>match x with
  |.tup vs=>ZiG k vs
  |_=>nO
 |.build zero parts=>match ofDs zero with
  |some z=>λ_ es=>(ZsB z parts es).map .agg
  |none=>λ_ _=>nO
 |.mkfn f k=>match f with
  |.func f=>λ_ es=>sO (.fn f (es.take k) (es.drop k))
  |_=>λ_ _=>nO
 |.mkif t=>λ_ vs=>a1 vs λx=>sO (.iface t x)
 |.sliceS lo hi=>λ_ vs=>match vs with
  |.str s::r=>match J3 [lo,hi,false] r with
   |some [l,h,_]=>noV (leI 0 (l.getD 0)&&leI (l.getD 0) (h.getD (I s))&&leI (h.getD (I s)) (I s))
     (sO (.str ((s.drop (l.getD 0).toNat).take ((h.getD (I s)).toNat-(l.getD 0).toNat))))
   |_=>nO
  |_=>nO
 |.slice s lo hi mx=>λ_ vs=>match vs with
  |x::r=>match J3 [lo,hi,mx] r with
   |some [l,h,m]=>ZuE s l h m x
   |_=>nO
  |_=>nO
 |.min=>λ_ vs=>a2 vs λx y=>match x with
  |.int k a=>match y with
   |.int k' b=>noV (Zgp k k') (sO (.int k (if leI a b then a else b)))
   |_=>nO
  |_=>nO
 |.max=>λ_ vs=>a2 vs λx y=>match x with
  |.int k a=>match y with
   |.int k' b=>noV (Zgp k k') (sO (.int k (if leI a b then b else a)))
   |_=>nO
  |_=>nO
 |.tassert t ok zero=>match ok with
  |true=>λ_ vs=>a1 vs λx=>match x with
   |.iface t' v=>noV (Nat.beq t' t) (sO (.tup [v,.bool true]))
   |.niliface=>(ofD zero).map λz=>.tup [z,.bool false]
   |_=>nO
  |false=>λ_ vs=>a1 vs λx=>match x with
   |.iface t' v=>noV (Nat.beq t' t) (sO v)
   |_=>nO
 |.lookup kp z ok=>match ofD z with
  |some z=>λU vs=>a2 vs λm k=>noV (Zem kp k k).isSome (match m with
   |.map b=>match mapO (U.get b) with
    |some es=>(ZoI kp k es).map (ZsF z ok)
    |none=>nO
   |.nilmap=>sO (ZsF z ok nO)
   |_=>nO)
  |none=>λ_ _=>nO
 |.lenM=>λU vs=>a1 vs λx=>match x with
  |.map b=>match mapO (U.get b) with
   |some es=>noV (Nat.ble (I es) big) (sO (.i (Int.ofNat (I es))))
   |_=>nO
  |.nilmap=>sO (.i (Int.ofNat 0))
  |_=>nO
abbrev Nm:=Nat->Option Tok
def Nm.Sub(J J':Nm):Prop:=∀k t,J k=sO t->J' k=sO t
def Nm.Sub.refl(J:Nm):J.Sub J:=λ_ _ h=>h
def Nm.Sub.trans{a b c:Nm}(h:a.Sub b)(u:b.Sub c):a.Sub c:=λk t x=>u k t (h k t x)
mutual
inductive VR(J:Nm):V->D->Prop where
 |int (k:IntKind) (n:Int):VR J (.int k n) (.int k n)
 |bool (b:Bool):VR J (.bool b) (.bool b)
 |str (s:List Nat):VR J (.str s) (.str (s.map UInt8.ofNat))
 |agg (cs:List V) (ds:List D) (h:VRs J cs ds):VR J (.agg cs) (.agg ds)
 |tup (cs:List V) (ds:List D) (h:VRs J cs ds):VR J (.tup cs) (.tup ds)
 |nilsl:VR J .nilsl .nilsl
 |sl (t n s:Nat) (rs:List V) (τ:Tok) (row:Nat->List D) (h:VRr J s rs row) (hn:I rs=n) (ht:t=0\/J t=sO τ):VR J (.sl t n s rs) (.sl τ n s row)
 |ep (cs:List V) (o:Nat) (ds:List D) (h:VRs J cs ds):VR J (.ep cs o) (.ep ds o)
 |nilptr:VR J .nilptr .nilptr
 |ptr (k b o:Nat) (h:J k=sO (.tip b)):VR J (.ptr k o) (.ptr b o)
 |msl (k b o n cap s:Nat) (h:J k=sO (.tip b)):VR J (.msl k o n (sO cap) s) (.msl b o n cap s)
 |gsl (k b o n cap s c:Nat) (h:J k=sO (.tip b)) (h2:J (k+1)=sO (.tip c)) (hc:n<=cap) (hl:o+cap*s<=c):VR J (.msl k o n nO s) (.msl b o n cap s)
 |map (k b:Nat) (h:J k=sO (.tip b)):VR J (.map k) (.map b)
 |nilmap:VR J .nilmap .nilmap
 |fn (f:FuncId) (a c:List V) (da dc:List D) (ha:VRs J a da) (hc:VRs J c dc):VR J (.fn f a c) (.fn (.func f) da dc)
 |yield (k b:Nat) (h:J k=sO (.tip b)):VR J (.yield k) (.fn (.yield b) [] [])
 |nilfn:VR J .nilfn .nilfn
 |iface (t:TypeId) (v:V) (d:D) (h:VR J v d):VR J (.iface t v) (.iface t d)
 |niliface:VR J .niliface .niliface
 |stamp (k b:Nat) (h:J k=sO (.tip b)):VR J (.stamp k) (.stamp b)
inductive VRs(J:Nm):List V->List D->Prop where
 |nil:VRs J [] []
 |cons (v:V) (d:D) (vs:List V) (ds:List D) (h:VR J v d) (t:VRs J vs ds):VRs J (v::vs) (d::ds)
inductive VRr(J:Nm):Nat->List V->(Nat->List D)->Prop where
 |nil (s:Nat) (row:Nat->List D):VRr J s [] row
 |cons (s:Nat) (cs:List V) (rs:List V) (row:Nat->List D) (h:VRs J cs (row 0)) (hl:I cs=s) (t:VRr J s rs (λi=>row (i+1))):VRr J s (.agg cs::rs) row
end
mutual
def VR.mono{J J':Nm}(e:J.Sub J'):∀{v:V} {d:D},VR J v d->VR J' v d
 |_,_,.int k n=>.int k n
 |_,_,.bool b=>.bool b
 |_,_,.str s=>.str s
 |_,_,.agg cs ds h=>.agg cs ds (h.mono e)
 |_,_,.tup cs ds h=>.tup cs ds (h.mono e)
 |_,_,.nilsl=>.nilsl
 |_,_,.sl t n s rs τ row h hn ht=>.sl t n s rs τ row (h.mono e) hn (ht.imp id (e _ _))
 |_,_,.ep cs o ds h=>.ep cs o ds (h.mono e)
 |_,_,.nilptr=>.nilptr
 |_,_,.ptr k b o h=>.ptr k b o (e _ _ h)
 |_,_,.msl k b o n cap s h=>.msl k b o n cap s (e _ _ h)
 |_,_,.gsl k b o n cap s c h h2 hc hl=>.gsl k b o n cap s c (e _ _ h) (e _ _ h2) hc hl
 |_,_,.map k b h=>.map k b (e _ _ h)
 |_,_,.nilmap=>.nilmap
 |_,_,.fn f a c da dc ha hc=>.fn f a c da dc (ha.mono e) (hc.mono e)
 |_,_,.yield k b h=>.yield k b (e _ _ h)
 |_,_,.nilfn=>.nilfn
 |_,_,.iface t v d h=>.iface t v d (h.mono e)
 |_,_,.niliface=>.niliface
 |_,_,.stamp k b h=>.stamp k b (e _ _ h)
def VRs.mono{J J':Nm}(e:J.Sub J'):∀{v:List V} {d:List D},VRs J v d->VRs J' v d
 |_,_,.nil=>.nil
 |_,_,.cons v d vs ds h t=>.cons v d vs ds (h.mono e) (t.mono e)
def VRr.mono{J J':Nm}(e:J.Sub J'):∀{s:Nat} {v:List V} {r:Nat->List D},VRr J s v r->VRr J' s v r
 |_,_,_,.nil s row=>.nil s row
 |_,_,_,.cons s cs rs row h hl t=>.cons s cs rs row (h.mono e) hl (t.mono e)
end
section
variable {J:Nm}
def VRs.len:∀{vs ds},VRs J vs ds->I vs=I ds
 |_,_,.nil=>rfl
 |_,_,.cons _ _ _ _ _ t=>by simp[t.len]
def VRs.get:∀{vs ds},VRs J vs ds->∀{i:Nat} {v},vs[i]?=sO v->∃d,ds[i]?=sO d/\VR J v d
 |_,_,.nil,i,v,h=>by grind
 |_,_,.cons v d vs ds h t,0,v',h'=>by grind
 |_,_,.cons v d vs ds h t,i+1,v',h'=>by simp at h';simpa using t.get h'
def VRs.take:∀{vs ds},VRs J vs ds->∀n,VRs J (vs.take n) (ds.take n)
 |_,_,.nil,n=>by simp;exact .nil
 |_,_,.cons v d vs ds h t,0=>.nil
 |_,_,.cons v d vs ds h t,n+1=>.cons _ _ _ _ h (t.take n)
def VRs.drop:∀{vs ds},VRs J vs ds->∀n,VRs J (vs.drop n) (ds.drop n)
 |_,_,.nil,n=>by simp;exact .nil
 |_,_,.cons v d vs ds h t,0=>.cons _ _ _ _ h t
 |_,_,.cons v d vs ds h t,n+1=>t.drop n
def VRs.append:∀{vs vs' ds ds'},VRs J vs ds->VRs J vs' ds'->VRs J (vs++vs') (ds++ds')
 |_,_,_,_,.nil,h=>h
 |_,_,_,_,.cons v d vs ds h t,h'=>.cons _ _ _ _ h (t.append h')
def VRs.one{v d}(h:VR J v d):VRs J [v] [d]:=.cons _ _ _ _ h .nil
def VRs.inv{v vs ds}(h:VRs J (v::vs) ds):∃d ds',ds=d::ds'/\VR J v d/\VRs J vs ds':=by
 cases h with
 |cons _ d _ ds h t=>exact⟨d,ds,rfl,h,t⟩
def VRs.inv0{ds}(h:VRs J [] ds):ds=[]:=by cases h;rfl
def VRs.inv1{v ds}(h:VRs J [v] ds):∃d,ds=[d]/\VR J v d:=by
 obtain⟨d,ds',rfl,h1,t⟩:=h.inv;obtain rfl:=t.inv0;grind
def VRs.inv2{v u ds}(h:VRs J [v,u] ds):∃d t,ds=[d,t]/\VR J v d/\VR J u t:=by
 obtain⟨d,ds',rfl,h1,h2⟩:=h.inv;obtain⟨t,rfl,h'⟩:=h2.inv1;grind
def VRs.partv{vs r ds}(h:VRs J vs ds){o n}(u:ZsH o n vs=sO r):o+n<=I ds/\VRs J r (part ds o n):=by
 obtain⟨t,rfl⟩:=ZAX u;exact⟨by rw[<-h.len];exact t,(h.drop o).take n⟩
def VRs.over{vs xs r ds t}(h:VRs J vs ds)(hx:VRs J xs t){o n}(hs:Zk4 o n xs vs=sO r):I xs=n/\o+n<=I ds/\VRs J r (Zy ds o t):=by
 obtain⟨u,h1,rfl⟩:=Zqz hs;refine⟨u,by rw[<-h.len];exact h1,?_⟩;unfold Zy;have e:I t=n:=by rw[<-hx.len,u]
 rw[e];exact((h.take o).append hx).append (h.drop _)
def VRr.inv{s v rs row}(h:VRr J s (v::rs) row):∃cs,v=.agg cs/\VRs J cs (row 0)/\I cs=s/\VRr J s rs (λi=>row (i+1)):=by
 cases h with
 |cons s cs rs row h hl t=>exact⟨cs,rfl,h,hl,t⟩
def VRr.get{s}:∀{rs row},VRr J s rs row->∀{i v},rs[i]?=sO v->∃t,v=.agg t/\VRs J t (row i)/\I t=s
 | [],row,h,i,v,hv=>by grind
 |r::rs,row,h,0,v,hv=>by obtain⟨t,rfl,u,h2,_⟩:=h.inv;grind
 |r::rs,row,h,i+1,v,hv=>by obtain⟨t,rfl,u,h2,h3⟩:=h.inv;exact h3.get (by grind)
def VRr.congr{s}:∀{rs row row'},VRr J s rs row->(∀i,i<I rs->row' i=row i)->VRr J s rs row'
 | [],row,row',h,e=>.nil s row'
 |r::rs,row,row',h,e=>by obtain⟨t,rfl,h1,u,h3⟩:=h.inv;exact .cons s t rs row' (by grind) u (h3.congr λi hi=>e (i+1) (by grind))
def VRr.drop{s}:∀{rs row},VRr J s rs row->∀k,VRr J s (rs.drop k) (λi=>row (k+i))
 |rs,row,h,0=>by grind
 | [],row,h,k+1=>by simp;exact .nil s _
 |r::rs,row,h,k+1=>by obtain⟨cs,rfl,h1,h2,t⟩:=h.inv;have:=t.drop k;grind
def VRr.take{s}:∀{rs row},VRr J s rs row->∀k,VRr J s (rs.take k) row
 |rs,row,h,0=>by simp;exact .nil s _
 | [],row,h,k+1=>by grind
 |r::rs,row,h,k+1=>by obtain⟨t,rfl,u,h2,h3⟩:=h.inv;exact .cons s t _ row u h2 (h3.take k)
def VRr.append{s}:∀{rs t row row'},VRr J s rs row->VRr J s t row'->VRr J s (rs++t) (YV (I rs) row row')
 | [],t,row,row',h,h'=>h'.congr λi _=>by simp[YV]
 |r::rs,t,row,row',h,h'=>by obtain⟨u,rfl,h1,h2,h3⟩:=h.inv;refine .cons s u _ _ (by simpa[YV]using h1) h2 ((h3.append h').congr λi _=>?_);grind [YV]
def VRr.bytes:∀{rs row l},VRr J 1 rs row->Ztk rs=sO l->(∀i,i<I rs->Zki (row i))/\l.map UInt8.ofNat=(ZIM (I rs)).map λi=>Zbm (row i)
 | [],row,l,h,hb=>by cases hb;simp
 |r::rs,row,l,h,hb=>by
  obtain⟨cs,rfl,t,u,h3⟩:=h.inv
  match cs,t,u,hb with
  | [.int .u8 n],t,u,hb =>
   obtain⟨q,hq,rfl⟩:=KO hb;obtain⟨i1,i2⟩:=h3.bytes hq;obtain⟨d,hd,hv⟩:=t.inv1;cases hv;refine⟨λi hi=>?_,?_⟩
   .cases i with
    |zero=>exact⟨n,hd⟩
    |succ i=>exact i1 i (by grind)
   simp only[ZIQ,ZIP,List.range_succ_eq_map,List.map_map,i2];refine _root_.congr (congrArg _ ?_) rfl;rw[hd];rfl
def VRs.bytes:∀{vs ds l},VRs J vs ds->Zoi vs=sO l->(∀i,i<I vs->Zki (part ds i 1))/\l.map UInt8.ofNat=(ZIM (I vs)).map λi=>Zbm (part ds i 1)
 | [],ds,l,h,hb=>by cases hb;simp
 |v::vs,ds,l,h,hb=>by
  obtain⟨d,ds',rfl,t,u⟩:=h.inv
  match v,t,hb with
  |.int .u8 n,t,hb =>
   obtain⟨q,hq,rfl⟩:=KO hb;obtain⟨i1,i2⟩:=u.bytes hq;cases t;refine⟨λi hi=>?_,?_⟩
   .cases i with
    |zero=>exact⟨n,by simp[part]⟩
    |succ i=>simpa[part]using i1 i (by grind)
   simp only[ZIQ,ZIP,List.range_succ_eq_map,List.map_map,i2];refine _root_.congr (congrArg _ ?_) ?_;simp[part,Zbm];apply List.map_congr_left;intro i _;simp[part]
def ZmS(s:List UInt8):(s.map UInt8.toNat).map UInt8.ofNat=s:=by
 rw[List.map_map];conv=>rhs;rw[<-List.map_id s]
 congr 1
 funext x;simp
mutual
def ZhK:∀{d:D} {v:V},ofD d=sO v->VR J v d
 |.int k n,v,h=>by cases h;exact .int k n
 |.bool b,v,h=>by cases h;exact .bool b
 |.str s,v,h=>by
  cases h;have:=VR.str (J:=J) (s.map UInt8.toNat)
  rwa [ZmS]at this
 |.agg cs,v,h=>by simp[ofD]at h;obtain⟨vs,h1,rfl⟩:=h;exact .agg _ _ (ofDs_ok h1)
 |.nilsl,v,h=>by cases h;exact .nilsl
 |.nilptr,v,h=>by cases h;exact .nilptr
 |.nilmap,v,h=>by cases h;exact .nilmap
 |.fn (.func f) [] [],v,h=>by cases h;exact .fn f [] [] [] [] .nil .nil
 |.nilfn,v,h=>by cases h;exact .nilfn
 |.niliface,v,h=>by cases h;exact .niliface
 |.ep cs o,v,h=>by simp[ofD]at h;obtain⟨vs,h1,rfl⟩:=h;exact .ep _ _ _ (ofDs_ok h1)
 |.fn (.func f) (_::_) _,v,h=>by cases h
 |.fn (.func f) [] (_::_),v,h=>by cases h
 |.tup _,v,h|.sl _ _ _ _,v,h|.ptr _ _,v,h|.msl _ _ _ _ _,v,h|.map _,v,h|.fn (.yield _) _ _,v,h|.iface _ _,v,h|.stamp _,v,h|.undef,v,h|.any,v,h=>by cases h
 |.fn (.method ..) _ _,v,h|.fn (.methodOf ..) _ _,v,h|.fn (.via ..) _ _,v,h=>by cases h
def ofDs_ok:∀{ds:List D} {vs:List V},ofDs ds=sO vs->VRs J vs ds
 | [],vs,h=>by cases h;exact .nil
 |d::r,vs,h=>by simp[ofDs]at h;split at h<;>simp at h;rename_i v vs' h1 h2;subst h;exact .cons _ _ _ _ (ZhK h1) (ofDs_ok h2)
end
end
def Zp1:List Nat:=ZIM 32768
def ZEp(P:Program)(N id:Nat)(ops:Array Oper):Ann :=
 match Jo P N ops (ZIM ops.size) with
 |some l =>
  let ds:=ops.toList.map JF
  match Zuj (l.zip ds) (Zgq ds []) ops.size (ZIM ops.size) []with
  | (od,fl,fk)=>(id+1000000,od)::(id,Zp1)::(fl.map (λx=>(id+1000000*(x.1+4),x.2))++(match fk with
   | []=>[]
   |_::_=>[(id+3000000,fk)]))
 |none=>[]
def ZgQ(P:Program)(N:Nat):Code->Ann
 |.region id ops true=>ZEp P N id ops
 |.seq a b=>ZgQ P N a++ZgQ P N b
 |.cond _ a b=>ZgQ P N a++ZgQ P N b
 |.block _ a=>ZgQ P N a
 |.loop a=>ZgQ P N a
 |.scope a=>ZgQ P N a
 |.rangeFunc _ _ a b=>ZgQ P N a++ZgQ P N b
 |_=>[]
def ZEo(P:Program)(f:FuncId):Ann :=
 match P.funcs[f]? with
 |some fn=>match fn.body with
  |some c=>ZgQ P fn.ntmps c
  |none=>[]
 |none=>[]
structure Cx where
 P:Program
 lib:FuncId->Option (S->List V->Option V)
 mu:FuncId->Option Nat->Bool
def Cx.an(C:Cx)(f:FuncId):Ann:=ZEo C.P f
def Cx.df(C:Cx)(f:FuncId):Option DF:=cf C.P (C.an f) f
inductive Dd where
 |mark (q:Nat)
 |fn (i:FuncId) (args caps:List V)
inductive Fk where
 |fn (res:List RV)
 |rnd (l:Nat)
 |dfd (pd:Option V) (rec:Bool)
structure Fm where
 f:FuncId
 n:Nat
 k:Fk
 ds:List Dd
structure Out where
 pan:Bool
 v:V
 U:S
 nx:Nat
abbrev Ih:=Fm->List WY->T W->S->Nat->Option Out
def wV:Option W->Option V
 |some w=>match w with
  |.v x=>sO x
  |_=>nO
 |none=>nO
def YN:Opd->Bx (T W->Option V)
 |.cst d=>match ofD d with
  |some v=>⟨λ_=>sO v⟩
  |none=>⟨λ_=>nO⟩
 |.tmp t=>⟨λH=>wV ((T.getF t).run H)⟩
def Zcs:List Opd->Bx (T W->Option (List V))
 | []=>⟨λ_=>sO []⟩
 |x::xs=>⟨λH=>match (YN x).run H with
  |some v=>match (Zcs xs).run H with
   |some vs=>sO (v::vs)
   |none=>nO
  |none=>nO⟩
def Zkf:Option (Nat×Bool)->Bx (T W->Option Bool)
 |none=>⟨λ_=>sO true⟩
 |some (t,want)=>⟨λH=>match (T.getF t).run H with
  |some w=>match w with
   |.v x=>match x with
    |.bool b=>sO (ZgJ b want)
    |_=>nO
   |.skip=>sO false
   |_=>nO
  |none=>nO⟩
def ZcR:Option Nat->Bx (T W->W->T W)
 |some t=>⟨λH w=>(T.setF t).run (sO w) H⟩
 |none=>⟨λH _=>H⟩
def Zky:Opd->Bx (T W->Bool)
 |.cst d=>match d with
  |.bool _=>⟨λ_=>true⟩
  |_=>⟨λ_=>false⟩
 |.tmp t=>⟨λH=>match (T.getF t).run H with
  |some w=>match w with
   |.v x=>match x with
    |.bool _=>true
    |_=>false
   |.skip=>true
   |_=>false
  |none=>false⟩
def ZoU:Nat->List V->T W->T W
 |_,[],H=>H
 |i,v::vs,H=>ZoU (i+1) vs (H.set (sO (.v v)) i)
def ZfH:List Nat->List V->T W->T W
 |t::ts,a::as9,H=>ZfH ts as9 (H.set (sO (.v a)) t)
 |_,_,H=>H
def Zg6(zero:List V)(ps:List (Nat×V))(i:Nat):List V :=
 match ps with
 | []=>zero
 | (k,d)::r=>if Nat.beq k i then Zf0 d else Zg6 zero r i
def ZlO(zero:List V)(ps:List (Nat×V)):Nat->Nat->List V
 |0,_=>[]
 |n+1,i=>.agg (Zg6 zero ps i)::ZlO zero ps n (i+1)
def ZfG(s:Nat):List V->Bool
 | []=>true
 |d::r=>ZpK d&&Nat.beq (Zf0 d).length s&&ZfG s r
def Zh8(z:List V):Nat->List V
 |0=>[]
 |n+1=>z++Zh8 z n
def u8V(l:List Nat):List V:=l.map λm=>.agg [.int .u8 (Int.ofNat (m % 256))]
def ZBp(U:S)(s:Nat):V->Option (Nat×List V)
 |.nilsl=>sO (0,[])
 |.sl _ m s' rs=>noV (Nat.beq s' s) (sO (m,rs))
 |.str l=>noV (Nat.beq s 1) (sO (I l,u8V l))
 |.msl b o n _ s'=>match ZaW (U.get b) with
  |some cs=>noV (Nat.beq s' s&&Nat.ble (o+n*s) (I cs)) (match Zxx s n (ZbB o cs) with
   |some rs=>sO (n,rs)
   |none=>nO)
  |none=>nO
 |_=>nO
def ZqK(U:S)(t k:Nat):Option S :=
 if Nat.beq t 1 then sO U else match U.get t with
  |some (.tok m)=>noV (Nat.beq m k) (sO (U.set nO t))
  |_=>nO
def ZhY(U:S)(a:V)(n:Nat)(xs:List V):Option S :=
 match a with
 |.ptr b o=>match U.get b with
  |some (.cells cs)=>match Zk4 o n xs cs with
   |some cs'=>sO (U.set (sO (.cells cs')) b)
   |none=>nO
  |some (.buf cs)=>match Zk4 o n xs cs with
   |some cs'=>sO (U.set (sO (.buf cs')) b)
   |none=>nO
  |_=>nO
 |_=>nO
structure R3 where
 v:V
 U:S
 nx:Nat
def ZjK(s:Nat)(U:S)(nx m:Nat)(cs:List V):Option R3:=sO ⟨.msl nx 0 m nO s,U.set (sO (.buf cs)) nx,nx+2⟩
def Zte(s bytes:Nat)(U:S)(nx m:Nat)(rs:List V):Option R3 :=
 noV (Nat.ble (m*bytes) 140737488355328&&Nat.ble m big) <|match ZoM s m rs with
  |some cs=>ZjK s U nx m cs
  |none=>nO
def Ztf(s bytes:Nat)(U:S)(nx t n m:Nat)(rs rs2:List V):Option R3 :=
 noV (Nat.ble ((n+m)*bytes) 140737488355328&&Nat.ble (n+m) big) <|match ZqK U t (n*s) with
  |some U'=>sO ⟨.sl nx (n+m) s (Zp4 n rs rs2),U'.set (sO (.tok ((n+m)*s))) nx,nx+1⟩
  |none=>nO
def Zz0(mu:Bool)(s bytes:Nat)(U:S)(nx:Nat)(x:V)(m:Nat)(rs2:List V):Option R3 :=
 match x with
 |.nilsl=>if mu&&Nat.ble 1 m then Zte s bytes U nx m rs2 else Ztf s bytes U nx 1 0 m [] rs2
 |.sl t n s' rs=>noV (Nat.beq s' s) <|if mu&&Nat.ble 1 m&&Nat.beq t 1&&Nat.beq n 0 then Zte s bytes U nx m rs2 else Ztf s bytes U nx t n m rs rs2
 |.msl b o n cap s'=>noV (Nat.beq s' s&&Nat.ble ((n+m)*bytes) 140737488355328&&Nat.ble (n+m) big) <|match ZoM s m rs2 with
  |some cs2=>match cap with
   |none=>match U.get b with
    |some (.buf cs)=>noV (Nat.beq o 0) <|match Zbf (n*s) cs with
     |some c1=>ZjK s (U.set nO b) nx (n+m) (Zp4 (n*s) c1 cs2)
     |none=>nO
    |_=>nO
   |some cap=>match U.get b with
    |some (.cells cs)=>if Nat.ble (n+m) cap then noV (Nat.beq o 0) <|match Zk4 (n*s) (m*s) cs2 cs with
      |some cs'=>sO ⟨.msl b 0 (n+m) (sO cap) s,U.set (sO (.cells cs')) b,nx⟩
      |none=>nO
     else noV (Nat.ble (o+n*s) (I cs)) <|match Zbf (n*s) (ZbB o cs) with
      |some c1=>ZjK s U nx (n+m) (Zp4 (n*s) c1 cs2)
      |none=>nO
    |_=>nO
  |none=>nO
 |_=>nO
def gk:K->Bool
 |.q _ _=>true
 |.pick _ _ _=>true
 |.bsl _ _ _ _ _=>true
 |.s2b _=>true
 |.append ..=>true
 |.clear ..=>true
 |_=>false
def mp2(x:Option V)(f:V->Option R3):Option R3:=match x with
 |some v=>f v
 |none=>nO
def up(x:Option S)(v:V)(nx:Nat):Option R3:=match x with
 |some U=>sO ⟨v,U,nx⟩
 |none=>nO
def ZD9:K->Bool
 |.store1 _ _=>true
 |.storeN _ _ _=>true
 |.mkmap=>true
 |_=>false
def opF(mu dst:Bool):K->Bx (T W->S->Nat->Option R3)
 |.q q xs=>⟨λH U nx=>match (Zcs xs).run H with
  |some vs=>match (Bx.mk (qV q)).run U vs with
   |some v=>sO ⟨v,U,nx⟩
   |none=>nO
  |none=>nO⟩
 |.pick c a b=>⟨λH U nx=>mp2 ((YN c).run H) λx=>match x with
  |.bool v=>match v with
   |true=>noV ((Zky b).run H) (mp2 ((YN a).run H) λy=>match y with
    |.bool y=>sO ⟨.bool y,U,nx⟩
    |_=>nO)
   |false=>noV ((Zky a).run H) (mp2 ((YN b).run H) λy=>match y with
    |.bool y=>sO ⟨.bool y,U,nx⟩
    |_=>nO)
  |_=>nO⟩
 |.alloc z=>match ofDs z with
  |some z=>⟨λ_ U nx=>noV dst (sO ⟨.ptr nx 0,U.set (sO (.cells z)) nx,nx+1⟩)⟩
  |none=>⟨λ_ _ _=>nO⟩
 |.box x=>⟨λH U nx=>noV dst (mp2 ((YN x).run H) λv=>noV (ZpK v) (sO ⟨.ptr nx 0,U.set (sO (.cells (Zf0 v))) nx,nx+1⟩))⟩
 |.bsl len n z is xs=>match ofDs z with
  |some z=>⟨λH U nx=>match (Zcs xs).run H with
   |some vs=>noV (ZfG n vs&&Nat.beq (I z) n) (if mu&&dst&&Nat.ble 1 len then match ZoM n len (ZlO z (is.zip vs) len 0) with
     |some cs=>sO ⟨.msl nx 0 len (sO len) n,U.set (sO (.cells cs)) nx,nx+1⟩
     |none=>nO
    else sO ⟨.sl 1 len n (ZlO z (is.zip vs) len 0),U,nx⟩)
   |none=>nO⟩
  |none=>⟨λ_ _ _=>nO⟩
 |.s2b x=>⟨λH U nx=>mp2 ((YN x).run H) λv=>match v with
  |.str l=>sO ⟨.sl 0 (I l) 1 (u8V l),U,nx⟩
  |_=>nO⟩
 |.store1 a v=>⟨λH U nx=>noV (!dst) (mp2 ((YN a).run H) λa=>mp2 ((YN v).run H) λx=>noV (ZxR x) (up (ZhY U a 1 [x]) .nilsl nx))⟩
 |.storeN n a v=>⟨λH U nx=>noV (!dst) (mp2 ((YN a).run H) λa=>mp2 ((YN v).run H) λx=>match x with
  |.agg xs=>up (ZhY U a n xs) .nilsl nx
  |_=>nO)⟩
 |.mkmap=>⟨λ_ U nx=>noV dst (sO ⟨.map nx,U.set (sO (.map [])) nx,nx+1⟩)⟩
 |.mkslice _ n bytes z l h=>match ofDs z with
  |some z=>⟨λH U nx=>noV dst (mp2 ((YN l).run H) λl=>mp2 ((YN h).run H) λh=>match l with
   |.int _ l=>match h with
    |.int _ h=>noV (leI 0 l&&leI l h&&leI (Int.mul bytes h) 140737488355328&&leI h big) (sO ⟨.msl nx 0 l.toNat (sO h.toNat) n,U.set (sO (.cells (Zh8 z h.toNat))) nx,nx+1⟩)
    |_=>nO
   |_=>nO)⟩
  |none=>⟨λ_ _ _=>nO⟩
 |.mapupd kp m k v=>⟨λH U nx=>noV (!dst) (mp2 ((YN m).run H) λm=>mp2 ((YN k).run H) λk=>mp2 ((YN v).run H) λv=>match m with
  |.map b=>match U.get b with
   |some (.map es)=>noV (Zem kp k k).isSome (match ZqM kp k v es with
    |some es'=>sO ⟨.nilsl,U.set (sO (.map es')) b,nx⟩
    |none=>nO)
   |_=>nO
  |_=>nO)⟩
 |.delete kp m k=>⟨λH U nx=>noV (!dst) (mp2 ((YN m).run H) λm=>mp2 ((YN k).run H) λk=>match m with
  |.map b=>match U.get b with
   |some (.map es)=>noV (Zem kp k k).isSome (match ZtH kp k es with
    |some es'=>sO ⟨.nilsl,U.set (sO (.map es')) b,nx⟩
    |none=>nO)
   |_=>nO
  |_=>nO)⟩
 |.mapent kp z m k=>match ofD z with
  |some z=>⟨λH U nx=>noV dst (mp2 ((YN m).run H) λm=>mp2 ((YN k).run H) λk=>match m with
   |.map b=>match U.get b with
    |some (.map es)=>noV (Zem kp k k).isSome (match ZtN kp k z es with
     |some v=>sO ⟨.tup [v,.stamp nx],U.set (sO (.mapE kp es k nx)) b,nx+1⟩
     |none=>nO)
    |_=>nO
   |_=>nO)⟩
  |none=>⟨λ_ _ _=>nO⟩
 |.entst m st v=>⟨λH U nx=>noV (!dst) (mp2 ((YN m).run H) λm=>mp2 ((YN st).run H) λst=>mp2 ((YN v).run H) λv=>match m with
  |.map b=>match st with
   |.stamp n=>match U.get b with
    |some (.mapE kp es k n')=>noV (Nat.beq n n') (match ZqM kp k v es with
     |some es'=>sO ⟨.nilsl,U.set (sO (.map es')) b,nx⟩
     |none=>nO)
    |_=>nO
   |_=>nO
  |_=>nO)⟩
 |.clear s z x=>match ofDs z with
  |some z=>⟨λH U nx=>mp2 ((YN x).run H) λx=>match x with
   |.msl b o n _ s'=>noV (Nat.beq s' s) (up (ZhY U (.ptr b o) (n*s) (Zh8 z n)) (.tup []) nx)
   |_=>nO⟩
  |none=>⟨λ_ _ _=>nO⟩
 |.fork k=>match ZD9 k with
  |true=>opF mu dst k
  |false=>⟨λ_ _ _=>nO⟩
 |.append _ s bytes _ x y=>⟨λH U nx=>mp2 ((YN x).run H) λx=>mp2 ((YN y).run H) λy=>match ZBp U s y with
  |some (m,rs2)=>Zz0 mu s bytes U nx x m rs2
  |none=>nO⟩
 |_=>⟨λ_ _ _=>nO⟩
def rvV(H:T W)(U:S):RV->Option V
 |.tmp t=>(YN (.tmp t)).run H
 |.cell1 t=>match (YN (.tmp t)).run H with
  |some a=>qV .load1 U [a]
  |none=>nO
 |.cellN t n=>match (YN (.tmp t)).run H with
  |some a=>qV (.loadN n) U [a]
  |none=>nO
def ZuA(H:T W)(U:S):List RV->Option (List V)
 | []=>sO []
 |r::rs=>match rvV H U r with
  |some v=>match ZuA H U rs with
   |some vs=>sO (v::vs)
   |none=>nO
  |none=>nO
def mkV:List V->V
 | [v]=>v
 |vs=>.tup vs
def Zsz(C:Cx)(f:FuncId):Bx (Ih->List V->S->Nat->Option Out) :=
 match C.df f with
 |some df=>⟨λih args U nx=>ih ⟨f,df.n,.fn df.res,[]⟩ [.code df.body] (ZoU 0 args T.nil) U nx⟩
 |none=>⟨λ_ _ _ _=>nO⟩
def Zik(C:Cx)(f:FuncId):Bx (Ih->List V->S->Nat->Option Out) :=
 match C.lib f with
 |some g=>⟨λih args U nx=>match g U args with
  |some v=>sO ⟨false,v,U,nx⟩
  |none=>(Zsz C f).run ih args U nx⟩
 |none=>Zsz C f
def Zoj(C:Cx)(ih:Ih)(f:V)(args:List V)(U:S)(nx:Nat):Option Out :=
 match f with
 |.fn f first caps=>(Zik C f).run ih (first++(args++caps)) U nx
 |.yield l=>match U.get l with
  |some (.loop f n ps a b H nO false)=>noV (Nat.beq (I args) (I ps)) (ih ⟨f,n,.rnd l,[]⟩ [.code a,.beginR,.code b] (ZfH ps args H) U nx)
  |_=>nO
 |_=>nO
def Zxw:V->Bool
 |.int k n=>Zw9 k n
 |.bool _=>true
 |.str l=>Nat.ble (I l) big
 |.nilsl=>true
 |.nilptr=>true
 |.ptr _ _=>true
 |.map _=>true
 |.nilmap=>true
 |.nilfn=>true
 |.niliface=>true
 |_=>false
def Zl0:List V->Bool
 | []=>true
 |v::r=>Zxw v&&Zl0 r
def Zxv:Option V->Bool
 |some x=>match x with
  |.iface _ v=>match v with
   |.agg cs=>Zl0 cs
   |v=>Zxw v
  |_=>false
 |none=>true
def Zn0(C:Cx)(ih:Ih):List Dd->Option V->S->Nat->Option (Option V×S×Nat)
 | [],m,U,nx=>sO (m,U,nx)
 |.mark q::r,m,U,nx=>match U.get q with
  |some .dfr=>Zn0 C ih r m (U.set nO q) nx
  |_=>nO
 |.fn i args caps::r,m,U,nx=>match C.df i with
  |some ⟨n,[],body⟩=>noV (Zxv m) <|match ih ⟨i,n,.dfd m false,[]⟩ [.code body] (ZoU 0 (args++caps) T.nil) U nx with
   |some ⟨false,.bool b,U',nx'⟩=>Zn0 C ih r (if b then nO else m) U' nx'
   |_=>nO
  |_=>nO
def loopTo(U:S)(l:Nat)(st:Option DC)(now busy:Bool):Option S :=
 match U.get l with
 |some (.loop f n ps a b H nO bs)=>noV (bs==now) (sO (U.set (sO (.loop f n ps a b H st busy)) l))
 |_=>nO
def Zxu(C:Cx)(ih:Ih)(fm:Fm)(H:T W)(U:S)(nx:Nat)(fell:Bool):Option Out :=
 match fm.k with
 |.fn res=>match Zn0 C ih fm.ds nO U nx with
  |some (nO,U',nx')=>match ZuA H U' res with
   |some vs=>sO ⟨false,mkV vs,U',nx'⟩
   |none=>nO
  |_=>nO
 |.rnd l=>match loopTo U l (if fell then nO else sO .ret) true false with
  |some U'=>sO ⟨false,.bool fell,U',nx⟩
  |none=>nO
 |.dfd pd rec=>match fm.ds with
  | []=>sO ⟨false,.bool (pd.isNone ||rec),U,nx⟩
  |_=>nO
def ZnM(C:Cx)(ih:Ih)(fm:Fm)(H:T W)(v:V)(U:S)(nx:Nat):Option Out :=
 match fm.k with
 |.fn res=>match Zn0 C ih fm.ds (sO v) U nx with
  |some (nO,U',nx')=>match ZuA H U' res with
   |some vs=>sO ⟨false,mkV vs,U',nx'⟩
   |none=>nO
  |some (sO v,U',nx')=>sO ⟨true,v,U',nx'⟩
  |none=>nO
 |.rnd _=>match C.P.funcs[fm.f]? with
  |some _=>sO ⟨true,v,U,nx⟩
  |none=>nO
 |.dfd _ _=>nO
abbrev Rg:=Ih->List WY->Fm->T W->S->Nat->Option Out
def goF(C:Cx)(f:FuncId)(rest:Bx Rg)(dst:Option Nat)(g:Option (Nat×Bool))(k:K):Bx Rg :=
 match k with
 |.call fx xs=>⟨λih dk fm H U nx=>match (YN fx).run H with
  |some fv=>match (Zcs xs).run H with
   |some vs=>match Zoj C ih fv vs U nx with
    |some ⟨pan,v,U',nx'⟩=>match pan with
     |false=>rest.run ih dk fm ((ZcR dst).run H (.v v)) U' nx'
     |true=>ZnM C ih fm H v U' nx'
    |none=>nO
   |none=>nO
  |none=>nO⟩
 |.panic x=>⟨λih _ fm H U nx=>match (YN x).run H with
  |some (.iface t v)=>ZnM C ih fm H (.iface t v) U nx
  |_=>nO⟩
 |.defer fx xs=>match g,dst with
  |none,nO=>⟨λih dk fm H U nx=>match (YN fx).run H,(Zcs xs).run H with
   |some (.fn j first caps),sO vs=>match fm.k with
    |.fn _=>noV (Zl0 (first++vs)&&Zl0 caps) (rest.run ih dk { fm with ds:=.fn j (first++vs) caps::fm.ds } H U nx)
    |_=>nO
   |_,_=>nO⟩
  |_,_=>⟨λ_ _ _ _ _ _=>nO⟩
 |.recover=>match g with
  |none=>⟨λih dk fm H U nx=>match fm.k with
   |.dfd (sO v) false=>rest.run ih dk { fm with k:=.dfd (sO v) true } ((ZcR dst).run H (.v v)) U nx
   |.dfd nO _=>rest.run ih dk fm ((ZcR dst).run H (.v .niliface)) U nx
   |_=>nO⟩
  |_=>⟨λ_ _ _ _ _ _=>nO⟩
 |k=>match gk k ||g.isNone with
  |true=>⟨λih dk fm H U nx=>match (opF (C.mu f dst) dst.isSome k).run H U nx with
   |some ⟨v,U',nx'⟩=>rest.run ih dk fm ((ZcR dst).run H (.v v)) U' nx'
   |none=>nO⟩
  |false=>⟨λ_ _ _ _ _ _=>nO⟩
def Zqt(C:Cx)(f:FuncId):List DOp->Bx Rg
 | []=>⟨λih dk fm H U nx=>ih fm dk H U nx⟩
 |⟨dst,g,k⟩::os=>match g with
  |none=>goF C f (Zqt C f os) dst g k
  |some _=>⟨λih dk fm H U nx=>match (Zkf g).run H with
   |some b=>match b with
    |true=>(goF C f (Zqt C f os) dst g k).run ih dk fm H U nx
    |false=>(Zqt C f os).run ih dk fm ((ZcR dst).run H .skip) U nx
   |none=>nO⟩
def Zku:K->Bool
 |.fork _=>false
 |_=>true
structure Rl where
 cs:List (Nat×List V)
 ad:List (Nat×Nat×Nat)
 bn:List (Nat×Nat)
 bl:List (Nat×Nat)
def Rl.nil:Rl:=⟨[],[],[],[]⟩
def Zkb(u:Nat):List (Nat×Nat×Nat)->Option (Nat×Nat)
 | []=>nO
 | (t,a)::r=>if Nat.beq t u then sO a else Zkb u r
def Ky(l:Nat):List (Nat×List V)->Option (List V)
 | []=>nO
 | (t,c)::r=>if Nat.beq t l then sO c else Ky l r
def Zk3(l:Nat)(vs:List V):List (Nat×List V)->List (Nat×List V)
 | []=>[]
 | (t,c)::r=>if Nat.beq t l then (t,vs)::r else (t,c)::Zk3 l vs r
def Zg7(n:Nat):List Nat->Bool
 | []=>false
 |a::r=>if Nat.beq a n then true else Zg7 n r
def ZzW(n:Nat)(l:List Nat):List Nat:=if Zg7 n l then l else n::l
def ZnU(fl:List Nat):List (Nat×Nat)->List Nat
 | []=>[]
 | (t,n)::r=>if Zg7 t fl then ZzW n (ZnU fl r) else ZnU fl r
def Zgl(fl:List Nat):List (Nat×Nat)->List (Nat×Nat)
 | []=>[]
 | (t,n)::r=>if Zg7 t fl then (t,n)::Zgl fl r else Zgl fl r
def noA(u:Nat)(r:Rl):Bool:=match Zkb u r.ad with
 |none=>Nat.blt u 32768
 |some _=>false
def ZeM(dst:Option Nat)(r:Rl):Bool:=match dst with
 |none=>true
 |some t=>noA t r
def Zxh(t:Nat)(r:Rl):Bool:=(match Ky t r.cs with
 |none=>true
 |some _=>false)&&noA t r
def ZlQ(fl:List Nat)(r:Rl):Rl:=match fl with
 | []=>⟨r.cs,r.ad,[],[]⟩
 |fl=>⟨r.cs,r.ad,Zgl fl r.bn,Zgl fl r.bl⟩
def ZkM:O->Bool
 |.cells _=>true
 |.buf _=>true
 |.map _=>true
 |_=>false
def Zkz:List Nat->S->Option (S×List (Nat×O))
 | [],U=>sO (U,[])
 |k::r,U=>match U.get k with
  |some o=>match ZkM o with
   |true=>match Zkz r (U.set (sO (.ro o)) k) with
    |some (U',l)=>sO (U',(k,o)::l)
    |none=>nO
   |false=>match ZbS o with
    |true=>Zkz r U
    |false=>nO
  |none=>nO
def ZlD:List (Nat×O)->S->Option S
 | [],U=>sO U
 | (k,o)::r,U=>match U.get k with
  |some (.ro _)=>match ZlD r U with
   |some U'=>sO (U'.set (sO o) k)
   |none=>nO
  |_=>nO
def ZAW(fl:List Nat)(r:Rl)(U:S):Option (S×List (Nat×O)):=match fl with
 | []=>sO (U,[])
 |fl=>Zkz (ZnU fl r.bn) U
def Zs7:Opd->Rl->Option (Nat×Nat)
 |.tmp t,r=>Zkb t r.ad
 |.cst _,_=>nO
def ZBA(t:Nat)(v:V)(r:Rl):Rl:=match v with
 |.ptr k _=>⟨r.cs,r.ad,(t,k)::r.bn,r.bl⟩
 |.msl k _ _ _ _=>⟨r.cs,r.ad,(t,k)::r.bn,r.bl⟩
 |.map k=>⟨r.cs,r.ad,(t,k)::r.bn,r.bl⟩
 |_=>r
def rdR(t:Nat)(k:K):Bx (T W->Rl->Rl):=match k with
 |.q q xs=>match YP (.q q xs) with
  |true=>match xs with
   |x::_=>⟨λH r=>match (YN x).run H with
    |some v=>ZBA t v r
    |none=>r⟩
   | []=>⟨λ_ r=>r⟩
  |false=>⟨λ_ r=>r⟩
 |_=>⟨λ_ r=>r⟩
abbrev RgD:=Rl->Rg
def ZkE(rest:Bx RgD)(dst:Option Nat)(k:K):Bx RgD :=
 ⟨λr ih dk fm H U nx=>match (opF false dst.isSome k).run H U nx with
  |some ⟨v,_,_⟩=>noV (ZeM dst r) (rest.run ((rdR (dst.getD 0) k).run H r) ih dk fm ((ZcR dst).run H (.v v)) U nx)
  |none=>nO⟩
def ZtJ(C:Cx)(f:FuncId)(rest:Bx RgD)(dst:Option Nat)(g:Option (Nat×Bool))(fl:List Nat)(k:K):Bx RgD :=
 match gk k ||g.isNone with
 |true=>⟨λr ih dk fm H U nx=>match ZAW fl r U with
  |some (σ0,l)=>match (opF (C.mu f dst) dst.isSome k).run H σ0 nx with
   |some ⟨v,U',nx'⟩=>match ZlD l U' with
    |some σ2=>noV (ZeM dst r) (rest.run (ZlQ fl r) ih dk fm ((ZcR dst).run H (.v v)) σ2 nx')
    |none=>nO
   |none=>nO
  |none=>nO⟩
 |false=>⟨λ_ _ _ _ _ _ _=>nO⟩
def adD(rest:Bx RgD)(dst:Option Nat)(l o:Nat):Bx RgD :=
 match dst with
 |some u=>⟨λr ih dk fm H U nx=>noV (noA u r) (rest.run ⟨r.cs,(u,l,o)::r.ad,r.bn,r.bl⟩ ih dk fm ((T.setF u).run nO H) U nx)⟩
 |none=>⟨λ_ _ _ _ _ _ _=>nO⟩
def ZAM(rest:Bx RgD)(dst:Option Nat)(q:Q)(xs:List Opd):Bx (Nat->Nat->RgD) :=
 match q with
 |.mv=>match xs with
  | []=>⟨λl o=>(adD rest dst l o).run⟩
  |_=>⟨λ_ _ _ _ _ _ _ _ _=>nO⟩
 |.nilck=>match xs with
  | []=>⟨λl o=>(adD rest dst l o).run⟩
  |_=>⟨λ_ _ _ _ _ _ _ _ _=>nO⟩
 |.faddr off=>match xs with
  | []=>⟨λl o=>(adD rest dst l (o+off)).run⟩
  |_=>⟨λ_ _ _ _ _ _ _ _ _=>nO⟩
 |.iaddrA m z=>match xs with
  | [x]=>⟨λl o r ih dk fm H U nx=>match (YN x).run H with
   |some (.int _ i)=>noV (leI 0 i&&!leI m i) ((adD rest dst l (o+i.toNat*z)).run r ih dk fm H U nx)
   |_=>nO⟩
  |_=>⟨λ_ _ _ _ _ _ _ _ _=>nO⟩
 |.load1=>match xs with
  | []=>⟨λl o r ih dk fm H U nx=>match Ky l r.cs with
   |some cs=>match ZiG o cs with
    |some v=>noV (ZeM dst r) (rest.run ⟨r.cs,r.ad,r.bn,(dst.getD 0,l)::r.bl⟩ ih dk fm ((ZcR dst).run H (.v v)) U nx)
    |none=>nO
   |none=>nO⟩
  |_=>⟨λ_ _ _ _ _ _ _ _ _=>nO⟩
 |.loadN n=>match xs with
  | []=>⟨λl o r ih dk fm H U nx=>match Ky l r.cs with
   |some cs=>match Zlj cs o n with
    |some v=>noV (ZeM dst r) (rest.run ⟨r.cs,r.ad,r.bn,(dst.getD 0,l)::r.bl⟩ ih dk fm ((ZcR dst).run H (.v v)) U nx)
    |none=>nO
   |none=>nO⟩
  |_=>⟨λ_ _ _ _ _ _ _ _ _=>nO⟩
 |_=>⟨λ_ _ _ _ _ _ _ _ _=>nO⟩
def ZuK(rest:Bx RgD)(fl:List Nat)(l o n:Nat)(xs:List V):RgD:=λr ih dk fm H U nx=>match Ky l r.cs with
 |some cs=>match Zk4 o n xs cs with
  |some cs'=>noV (!Zg7 l (ZnU fl r.bl)) (rest.run (ZlQ fl ⟨Zk3 l cs' r.cs,r.ad,r.bn,r.bl⟩) ih dk fm H U nx)
  |none=>nO
 |none=>nO
def goD(C:Cx)(f:FuncId)(rest:Bx RgD)(dst:Option Nat)(g:Option (Nat×Bool))(fl:List Nat)(k:K):Bx RgD :=
 match k with
 |.call fx xs=>⟨λr ih dk fm H U nx=>match (YN fx).run H with
  |some fv=>match (Zcs xs).run H with
   |some vs=>match ZAW fl r U with
    |some (σ0,l)=>match Zoj C ih fv vs σ0 nx with
     |some ⟨pan,v,U',nx'⟩=>match ZlD l U' with
      |some σ2=>match pan with
       |false=>noV (ZeM dst r) (rest.run (ZlQ fl r) ih dk fm ((ZcR dst).run H (.v v)) σ2 nx')
       |true=>ZnM C ih fm T.nil v σ2 nx'
      |none=>nO
     |none=>nO
    |none=>nO
   |none=>nO
  |none=>nO⟩
 |.panic x=>⟨λ_ ih _ fm H U nx=>match (YN x).run H with
  |some (.iface t v)=>ZnM C ih fm T.nil (.iface t v) U nx
  |_=>nO⟩
 |.defer _ _=>⟨λ_ _ _ _ _ _ _=>nO⟩
 |.recover=>⟨λ_ _ _ _ _ _ _=>nO⟩
 |.fork _=>⟨λ_ _ _ _ _ _ _=>nO⟩
 |.alloc z=>match g,dst,ofDs z with
  |none,sO t,sO z=>⟨λr ih dk fm H U nx=>noV (Zxh t r) (rest.run ⟨(t,z)::r.cs,(t,t,0)::r.ad,r.bn,r.bl⟩ ih dk fm ((T.setF t).run nO H) U nx)⟩
  |_,_,_=>⟨λ_ _ _ _ _ _ _=>nO⟩
 |.box x=>match g,dst with
  |none,sO t=>⟨λr ih dk fm H U nx=>match (YN x).run H with
   |some v=>noV (ZpK v&&Zxh t r&&!Zg7 t (ZnU fl r.bl)) (rest.run (ZlQ fl ⟨(t,Zf0 v)::r.cs,(t,t,0)::r.ad,r.bn,r.bl⟩) ih dk fm ((T.setF t).run nO H) U nx)
   |none=>nO⟩
  |_,_=>⟨λ_ _ _ _ _ _ _=>nO⟩
 |.store1 a v=>match g,dst with
  |none,nO=>⟨λr ih dk fm H U nx=>match Zs7 a r with
   |some (l,o)=>match (YN v).run H with
    |some x=>noV (ZxR x) (ZuK rest fl l o 1 [x] r ih dk fm H U nx)
    |none=>nO
   |none=>(ZtJ C f rest dst g fl (.store1 a v)).run r ih dk fm H U nx⟩
  |_,_=>⟨λ_ _ _ _ _ _ _=>nO⟩
 |.storeN n a v=>match g,dst with
  |none,nO=>⟨λr ih dk fm H U nx=>match Zs7 a r with
   |some (l,o)=>match (YN v).run H with
    |some (.agg xs)=>ZuK rest fl l o n xs r ih dk fm H U nx
    |_=>nO
   |none=>(ZtJ C f rest dst g fl (.storeN n a v)).run r ih dk fm H U nx⟩
  |_,_=>⟨λ_ _ _ _ _ _ _=>nO⟩
 |.q q xs=>match xs with
  |x::ys=>⟨λr ih dk fm H U nx=>match Zs7 x r with
   |some (l,o)=>(ZAM rest dst q ys).run l o r ih dk fm H U nx
   |none=>(ZkE rest dst (.q q xs)).run r ih dk fm H U nx⟩
  | []=>ZkE rest dst (.q q xs)
 |k=>match YC k with
  |true=>ZkE rest dst k
  |false=>ZtJ C f rest dst g fl k
def Zpe:List (Nat×Nat×Nat)->Nat->Nat->T W->T W
 | [],_,_,H=>H
 | (u,l,o)::r,t,nx,H=>if Nat.beq l t then (Zpe r t nx H).set (sO (.v (.ptr nx o))) u else Zpe r t nx H
def ZtQ:List (Nat×List V)->List (Nat×Nat×Nat)->Rg
 | [],_=>λih dk fm H U nx=>ih fm dk H U nx
 | (t,vs)::r,ad=>λih dk fm H U nx=>match Zkb t ad with
  |some (l,_)=>noV (Nat.beq l t) (ZtQ r ad ih dk fm (Zpe ad t nx H) (U.set (sO (.cells vs)) nx) (nx+1))
  |none=>nO
def ZlV(C:Cx)(f:FuncId):List (DOp×List Nat)->Bx RgD
 | []=>⟨λr ih dk fm H U nx=>ZtQ r.cs r.ad ih dk fm H U nx⟩
 | (⟨dst,g,k⟩,fl)::os=>match k with
  |.fork _=>⟨λ_ _ _ _ _ _ _=>nO⟩
  |k=>match g with
   |none=>goD C f (ZlV C f os) dst g fl k
   |some _=>⟨λr ih dk fm H U nx=>match (Zkf g).run H with
    |some b=>match b with
     |true=>(goD C f (ZlV C f os) dst g fl k).run r ih dk fm H U nx
     |false=>match k with
      |.alloc _=>nO
      |k=>noV (ZeM dst r) ((ZlV C f os).run (if YC k then r else ZlQ fl r) ih dk fm ((ZcR dst).run H .skip) U nx)
    |none=>nO⟩
abbrev Cd:=Ih->Fm->List WY->T W->S->Nat->Option Out
def Zat(C:Cx)(f:FuncId):DC->Bx Cd
 |.skip=>⟨λih fm k H U nx=>ih fm k H U nx⟩
 |.label _=>⟨λih fm k H U nx=>ih fm k H U nx⟩
 |.seq a b=>⟨λih fm k H U nx=>(Zat C f a).run ih fm (.code b::k) H U nx⟩
 |.cond c a b=>⟨λih fm k H U nx=>match (YN c).run H with
  |some v=>match v with
   |.bool t=>match t with
    |true=>(Zat C f a).run ih fm k H U nx
    |false=>(Zat C f b).run ih fm k H U nx
   |_=>nO
  |none=>nO⟩
 |.block id a=>⟨λih fm k H U nx=>(Zat C f a).run ih fm (.inBlock id::k) H U nx⟩
 |.loop a=>⟨λih fm k H U nx=>(Zat C f a).run ih fm (.inLoop a::k) H U nx⟩
 |.scope a=>⟨λih fm k H U nx=>(Zat C f a).run ih fm (.inScope a::k) H U nx⟩
 |.exit id=>⟨λih fm k H U nx=>match QZ id k with
  |some k'=>ih fm k' H U nx
  |none=>match fm.k with
   |.rnd l=>match loopTo U l (sO (.exit id)) true false with
    |some U'=>sO ⟨false,.bool false,U',nx⟩
    |none=>nO
   |_=>nO⟩
 |.goto l=>⟨λih fm k H U nx=>match ZdF l k with
  |some k'=>ih fm k' H U nx
  |none=>nO⟩
 |.ret=>⟨λih fm _ H U nx=>Zxu C ih fm H U nx false⟩
 |.reg ops kp=>match kp with
  |none=>match ops.all λo=>Zku o.k with
   |true=>⟨λih fm k H U nx=>(Zqt C f ops).run ih k fm H U nx⟩
   |false=>⟨λ_ _ _ _ _ _=>nO⟩
  |some _=>⟨λ_ _ _ _ _ _=>nO⟩
 |.regD _ ops _=>⟨λih fm k H U nx=>(ZlV C f ops).run Rl.nil ih k fm H U nx⟩
 |.rangeF g ps a b=>⟨λih fm k H U nx=>match fm.k with
  |.fn _=>match (YN g).run H with
   |some fv=>match Zoj C ih fv [.yield (nx+1)] ((U.set (sO .dfr) nx).set (sO (.loop fm.f fm.n ps a b H nO false)) (nx+1)) (nx+2) with
    |some ⟨pan,v,U',nx'⟩=>match pan with
     |false=>match U'.get (nx+1) with
      |some (.loop _ _ _ _ _ _ nO false)=>ih { fm with ds:=.mark nx::fm.ds } k H (U'.set nO (nx+1)) nx'
      |some (.loop f' n' _ _ _ _ (sO j) false)=>noV (Nat.beq f' fm.f&&Nat.beq n' fm.n) (ih { fm with ds:=.mark nx::fm.ds } (.code j::k) H (U'.set nO (nx+1)) nx')
      |_=>nO
     |true=>ZnM C ih { fm with ds:=.mark nx::fm.ds } H v U' nx'
    |none=>nO
   |none=>nO
  |_=>nO⟩
def step(C:Cx)(ih:Ih)(fm:Fm)(dk:List WY)(H:T W)(U:S)(nx:Nat):Option Out :=
 match dk with
 | []=>Zxu C ih fm H U nx true
 |it::k=>match it with
  |.inBlock _=>ih fm k H U nx
  |.inScope _=>ih fm k H U nx
  |.inLoop c=>(Zat C fm.f c).run ih fm (.inLoop c::k) H U nx
  |.beginR=>match fm.k with
   |.rnd l=>match loopTo U l nO false true with
    |some U'=>ih fm k H U' nx
    |none=>nO
   |_=>nO
  |.code c=>(Zat C fm.f c).run ih fm k H U nx
def run(C:Cx)(n:Nat):Ih:=Nat.rec (motive:=λ_=>Ih) (λ_ _ _ _ _=>nO) (λ_ ih=>step C ih) n
def ZBC(a b):UInt8.ofNat a=UInt8.ofNat b↔a % 256=b % 256:=by
 rw[<-UInt8.toNat_inj];simp
def ZoC:∀(a b),eqS a b=dC (a.map UInt8.ofNat=b.map UInt8.ofNat)
 | [],[]=>by simp[eqS]
 | [],b::y=>by simp[eqS]
 |a::x,[]=>by simp[eqS]
 |a::x,b::y=>by simp only[eqS,ZIQ,List.cons.injEq,ZBC,ZoC x y];by_cases h:a % 256=b % 256<;>simp
def Zt4:∀(a b),ZdI a b=Op.bytesLess (a.map UInt8.ofNat) (b.map UInt8.ofNat)
 | [],[]=>by simp[ZdI,Op.bytesLess]
 | [],b::y=>by simp[ZdI,Op.bytesLess]
 |a::x,[]=>by simp[ZdI,Op.bytesLess]
 |a::x,b::y=>by
  have t:(UInt8.ofNat a<UInt8.ofNat b)↔a % 256<b % 256:=by rw[UInt8.lt_iff_toNat_lt];simp
  have u:=ZBC a b;simp[ZdI,Op.bytesLess,Zt4 x y];by_cases h1:a % 256<b % 256;simp[h1,t];by_cases h2:a % 256=b % 256;simp[h2,t,u];simp[h2,t,u]
section
variable {J:Nm}
def Zpm{k x y t u}(hx:VR J x t)(hy:VR J y u){b}(h:Zl1 k x y=sO b):Yj k t u=sO b:=by
 cases k<;>cases hx<;>cases hy<;>simp only[Zl1,reduceCtorEq]at h;split at h<;>simp only[ZIx,reduceCtorEq]at h;rename_i hk;obtain rfl:=Zfx hk;simp only[Yj,if_true,ZIx];rw[<-Zj6];exact h;simp only[ZIx]at h;simp only[Yj,ZIx];rw[<-ZoC];exact h;simpa only[Yj]using h
def ZjN{xs ys ds es}(hx:VRs J xs ds)(hy:VRs J ys es):∀{l b},Zhx xs ys l=sO b->Wo ds es l=sO b
 | [],b,h=>by simpa only[Zhx,Wo]using h
 | (o,k)::r,b,h=>by simp only[Zhx]at h;split at h<;>(try(simp at h;done));rename_i x y h1 h2;split at h<;>simp only[ZIx,reduceCtorEq]at h;rename_i b1 b2 h3 h4;obtain⟨dx,t,ab⟩:=hx.get h1;obtain⟨dy,u,ac⟩:=hy.get h2;simp only[Wo,t,u,Zpm ab ac h3,ZjN hx hy h4,h]
def Za9{kp x y t u}(hx:VR J x t)(hy:VR J y u){b}(h:Zem kp x y=sO b):Kr kp t u=sO b:=by
 cases kp with
 |sc k=>exact Zpm hx hy h
 |st l =>cases hx<;>cases hy<;>simp only[Zem,reduceCtorEq]at h;rename_i cs ds h1 cs' ds' h2;split at h<;>(try(simp at h;done));rename_i hl;simp only[Kr];rw[if_pos ⟨by rw[<-h1.len];exact hl.1,by rw[<-h2.len];exact hl.2⟩];exact ZjN h1 h2 h
def Zgo{kp x t}(hx:VR J x t)(h:(Zem kp x x).isSome=true):QA kp t=true:=by
 cases u:Zem kp x x with
 |none=>rw[u]at h;grind
 |some b=>simp[QA,Za9 hx hx u]
def Zuo{p x y u dy}(hx:VR J x u)(hy:VR J y dy){b}(h:ZsI p x y=sO b):∃side,YH p u dy=sO (side,b)/\side:=by
 cases p<;>cases hx<;>cases hy<;>simp only[ZsI,reduceCtorEq,ZIx]at h;case cells.agg.agg l cs ds h1 cs' ds' h2=>exact⟨True,by simp[YH,ZjN h1 h2 h],trivial⟩
 case sl.sl.nilsl t n s rs τ row h1 h2 h3 =>split at h<;>simp only[ZIx,reduceCtorEq]at h;subst h;exact⟨_,rfl,‹_›⟩
 all_goals (subst h;exact⟨True,rfl,trivial⟩)
def Zcc{k n v}(h:Zg0 k n=sO v):v=.int k n/\inR k n:=by
 unfold Zg0 at h;split at h<;>simp at h;exact⟨h.symm,Zv0 ‹_›⟩
def ZCD{op k k' a b v}(hk:ZuC op=true\/k=k')(h:ZA9 op k a b=sO v):∃side d,Zak op nO (.int k a) (.int k' b)=sO (side,d)/\side/\VR J v d:=by
 have t:ZuC op=false->k=k':=λh=>hk.resolve_left (by rw[h];simp);cases op<;>simp only[ZA9]at h;case shl =>split at h<;>(try(simp at h;done));rename_i h0;obtain⟨rfl,u⟩:=Zcc h;rw[ZhJ,decide_eq_true_eq]at h0;exact⟨_,_,rfl,⟨h0,u⟩,.int _ _⟩
 case shr =>split at h<;>(try(simp at h;done));rename_i h0;obtain⟨rfl,u⟩:=Zcc h;rw[ZhJ,decide_eq_true_eq]at h0;exact⟨_,_,rfl,⟨h0,u⟩,.int _ _⟩
 all_goals
  obtain rfl:=t rfl;simp only[Zak,if_true,Q1]
 case add=>obtain⟨rfl,u⟩:=Zcc h;exact⟨_,_,rfl,u,.int _ _⟩
 case sub=>obtain⟨rfl,u⟩:=Zcc h;exact⟨_,_,rfl,u,.int _ _⟩
 case mul=>obtain⟨rfl,u⟩:=Zcc h;exact⟨_,_,rfl,u,.int _ _⟩
 case quo =>split at h<;>(try(simp at h;done));rename_i h0;obtain⟨rfl,u⟩:=Zcc h;rw[Zj6,decide_eq_false_iff_not]at h0;exact⟨_,_,rfl,⟨h0,u⟩,.int _ _⟩
 case rem =>split at h<;>(try(simp at h;done));rename_i h0;obtain⟨rfl,u⟩:=Zcc h;rw[Zj6,decide_eq_false_iff_not]at h0;exact⟨_,_,rfl,⟨h0,u⟩,.int _ _⟩
 all_goals
  simp only[ZIx]at h;subst h;refine⟨_,_,rfl,trivial,?_⟩;try simp only[Zj6,ZhJ]
 case lss=>rw[show(!dC (b<=a))=dC (a<b) by by_cases hh:a<b<;>simp[hh]<;>omega];exact .bool _
 case gtr=>rw[show(!dC (a<=b))=dC (b<a) by by_cases hh:b<a<;>simp[hh]<;>omega];exact .bool _
 case geq=>exact .bool _
 all_goals first|exact .bool _|exact .int _ _
def ZCF{op a b v}(h:ZBa op a b=sO v):∃side d,Zei op (a.map UInt8.ofNat) (b.map UInt8.ofNat)=sO (side,d)/\side/\VR J v d:=by
 cases op<;>simp only[ZBa,reduceCtorEq]at h;case add =>split at h<;>simp at h;rename_i t;subst h;refine⟨_,_,rfl,by simpa using t,?_⟩;rw[<-List.map_append];exact .str _
 all_goals
  cases h;refine⟨_,_,rfl,trivial,?_⟩;simp[ZoC,Zt4];exact .bool _
def ZCE{op p x y dx dy}(hx:VR J x dx)(hy:VR J y dy){v}(h:Zuv op p x y=sO v):∃side d,eqO op p dx dy=sO (side,d)/\side/\VR J v d:=by
 cases p with
 |none=>simp[Zuv]at h
 |some p =>
  cases op<;>simp only[Zuv,reduceCtorEq]at h;case eql =>split at h<;>simp only[ZIx,reduceCtorEq]at h;subst h;obtain⟨side,t,u⟩:=Zuo hx hy ‹_›;exact⟨side,_,by simp only[eqO,t,ZI3],u,.bool _⟩
  case neq =>split at h<;>simp only[ZIx,reduceCtorEq]at h;subst h;obtain⟨side,t,u⟩:=Zuo hx hy ‹_›;exact⟨side,_,by simp only[eqO,t,ZI3],u,.bool _⟩
def ZCC{op p x y u dy}(hx:VR J x u)(hy:VR J y dy){v}(h:Zuu op p x y=sO v):∃side d,Zak op p u dy=sO (side,d)/\side/\VR J v d:=by
 have t:(∀k a,u≠.int k a)->(∀l,u≠.str l)->Zuv op p x y=sO v->∃side d,Zak op p u dy=sO (side,d)/\side/\VR J v d:=λh1 h2 h3=>by obtain⟨side,d,e1,e2,e3⟩:=ZCE hx hy h3;refine⟨side,d,?_,e2,e3⟩;rw[<-e1];cases u<;>first|rfl|exact absurd rfl (h1 _ _)|exact absurd rfl (h2 _)
 cases hx;case int k a =>cases hy<;>simp only[Zuu,reduceCtorEq]at h;rename_i k' b;split at h<;>(try(simp at h;done));rename_i hb;rw[ZIW]at hb;obtain⟨side,d,e1,e2,e3⟩:=ZCD (J:=J) (k':=k') (hb.imp id Zfx) h;refine⟨side,d,?_,e2,e3⟩;rw[<-e1];rfl
 case str s =>cases hy<;>simp only[Zuu,reduceCtorEq]at h;exact ZCF h
 all_goals exact t (λ_ _=>by simp) (λ_=>by simp) (by simpa only[Zuu]using h)
def MR(J:Nm)(e:V×V)(d:D×D):Prop:=VR J e.1 d.1/\VR J e.2 d.2
def MR.mono{J'}(h:J.Sub J'){e d}(m:MR J e d):MR J' e d:=⟨m.1.mono h,m.2.mono h⟩
def ZtS{kp k dk}(hk:VR J k dk):∀{es ds r},ZI (MR J) es ds->ZoI kp k es=sO r ->
  ∃t,ZbD kp dk ds=sO t/\(match r,t with|some v,sO d=>VR J v d|none,nO=>True|_,_=>False)
 | [],ds,r,h,hf=>by cases h;simp only[ZoI,ZIx]at hf;subst hf;exact⟨nO,rfl,trivial⟩
 |e::es,ds,r,h,hf=>by
  cases h with
  |cons h1 h2 =>
  simp only[ZoI]at hf;split at hf<;>(try(simp at hf;done));rename_i u;simp only[ZIx]at hf;subst hf;exact⟨sO _,by simp only[ZbD,Za9 hk h1.1 u],h1.2⟩;rename_i u;obtain⟨t,e1,e2⟩:=ZtS hk h2 hf;exact⟨t,by simp only[ZbD,Za9 hk h1.1 u,e1],e2⟩
def ZqN{kp k v dk u}(t:VR J k dk)(hv:VR J v u):∀{es r ds},ZI (MR J) es ds->ZqM kp k v es=sO r ->
  ∃r',JL kp dk u ds=sO r'/\ZI (MR J) r r'
 | [],r,ds,h,hf=>by cases h;simp only[ZqM,ZIx]at hf;subst hf;exact⟨_,rfl,.cons ⟨t,hv⟩ .nil⟩
 |e::es,r,ds,h,hf=>by
  cases h with
  |cons h1 h2 =>
  simp only[ZqM]at hf;split at hf<;>(try(simp at hf;done));rename_i hb;simp only[ZIx]at hf;subst hf;exact⟨(dk,u)::_,by simp only[JL,Za9 t h1.1 hb],.cons ⟨t,hv⟩ h2⟩;rename_i hb;simp only[ZIL]at hf;obtain⟨r0,hr,rfl⟩:=hf;obtain⟨r',e1,e2⟩:=ZqN t hv h2 hr;exact⟨_,by simp only[JL,Za9 t h1.1 hb,e1,ZI3],.cons h1 e2⟩
def ZvN{kp k dk}(u:VR J k dk):∀{es r ds},ZI (MR J) es ds->ZtH kp k es=sO r ->
  ∃r',ZgU kp dk ds=sO r'/\ZI (MR J) r r'
 | [],r,ds,h,hf=>by cases h;simp only[ZtH,ZIx]at hf;subst hf;exact⟨_,rfl,.nil⟩
 |e::es,r,ds,h,hf=>by
  cases h with
  |cons h1 h2 =>
  simp only[ZtH]at hf;split at hf<;>(try(simp at hf;done));rename_i t;simp only[ZIx]at hf;subst hf;exact⟨_,by simp only[ZgU,Za9 u h1.1 t],h2⟩;rename_i t;simp only[ZIL]at hf;obtain⟨r0,hr,rfl⟩:=hf;obtain⟨r',e1,e2⟩:=ZvN u h2 hr;exact⟨_,by simp only[ZgU,Za9 u h1.1 t,e1,ZI3],.cons h1 e2⟩
def ZvR{kp k z dk dz}(u:VR J k dk)(hz:VR J z dz):∀{es ds v},ZI (MR J) es ds->ZtN kp k z es=sO v ->
  ∃d,Zek kp dk dz ds=sO d/\VR J v d
 | [],ds,v,h,hf=>by cases h;simp only[ZtN,ZIx]at hf;subst hf;exact⟨_,rfl,hz⟩
 |e::es,ds,v,h,hf=>by
  cases h with
  |cons h1 h2 =>
  simp only[ZtN]at hf;split at hf<;>(try(simp at hf;done));rename_i t;simp only[ZIx]at hf;subst hf;exact⟨_,by simp only[Zek,Za9 u h1.1 t],h1.2⟩;rename_i t;obtain⟨d,e1,e2⟩:=ZvR u hz h2 hf;exact⟨d,by simp only[Zek,Za9 u h1.1 t,e1],e2⟩
def Zt6{z}{t}(u:VR J z t){ok}{r}{r'}(h:match r,r' with|some v,sO d=>VR J v d|none,nO=>True|_,_=>False):VR J (ZsF z ok r) (Wj t ok r'):=by
 cases r<;>cases r'<;>simp only at h<;>cases ok<;>simp only[ZsF,Wj,if_true,if_false,ZI7];exact u;exact .tup _ _ (.cons _ _ _ _ u (.one (.bool _)));exact h;exact .tup _ _ (.cons _ _ _ _ h (.one (.bool _)))
end
def WR(J:Nm)(L:Loc):W->E->Prop
 |.v x,e=>∃d,VR J x d/\(e=.d d\/e=.when true (.d d))
 |.loc l o,e=>e=.loc l o\/e=.when true (.loc l o)
 |.skip,e=>e=.when false (.d (.bool false))
def live(_:Loc):W->Bool
 |.loc _ _=>false
 |_=>true
def Z5(J:Nm)(L:Loc)(H:T W)(ρd:Env):Prop:=∀t w,H.get t=sO w->live L w=true->∃e,ZM ρd t=sO e/\WR J L w e
def Z5.anyL{J L L' H ρd}(h:Z5 J L H ρd):Z5 J L' H ρd:=λt w u hl=>by
 cases w with
 |v x=>exact h t _ u rfl
 |loc l o=>cases hl
 |skip=>exact h t _ u rfl
structure Px extends Cx where
 t:St
instance:Coe Px Cx:=⟨Px.toCx⟩
inductive OR(C:Cx)(J:Nm)(k0:Nat):O->QO->Prop where
 |cells (vs:List V) (ds ex:List D) (h:VRs J vs ds):OR C J k0 (.cells vs) (.cells (ds++ex))
 |buf (vs:List V) (ds ex:List D) (h:VRs J vs ds) (hc:J (k0+1)=some (.tip (ds++ex).length)):OR C J k0 (.buf vs) (.cells (ds++ex))
 |map (es:List (V×V)) (ds:List (D×D)) (h:ZI (MR J) es ds):OR C J k0 (.map es) (.map ds)
 |tok (n:Nat):OR C J k0 (.tok n) (.tip n)
 |mapE (kp:KP) (es:List (V×V)) (ds:List (D×D)) (k:V) (dk:D) (n m:Nat) (h:ZI (MR J) es ds) (hk:VR J k dk) (hn:J n=some (.tip m)):OR C J k0 (.mapE kp es k n) (.mapE kp ds dk m)
 |dfr:OR C J k0 .dfr .dfr
 |ro (o:O) (d:QO) (h:OR C J k0 o d) (hr:ZbS o=false) (hk:∀n,o≠.tok n):OR C J k0 (.ro o) d
 |loop (f:FuncId) (n:Nat) (ps:List Nat) (a b:DC) (H:T W) (st:Option DC) (busy:Bool) (r:Zb8) (lst:LSt) (hf:r.fn=f) (hn:r.N=n) (hps:r.params=ps) (hlt:∀t∈ps,t<n)
   (ha:cc C.P (C.an f) n r.assign=some a) (hb:cc C.P (C.an f) n r.body=some b) (hρ:Z5 J [] H r.H)
   (hst:match st,busy,lst with
    |none,false,.ready=>True
    |none,true,.busy=>True
    |some dj,false,.done j=>cc C.P (C.an f) n j=some dj
    |_,_,_=>False):OR C J k0 (.loop f n ps a b H st busy) (.loop r lst)
structure Sim(C:Px)(J:Nm)(U:S)(s:St):Prop where
 obj:∀k o,U.get k=some o->∃t,J k=some t/\((∃b d,t=.tip b/\s b=some d/\OR C J k o d)\/(∃n,o=.tok n/\t=.full))
 inj:∀k k' o o' b,U.get k=some o->U.get k'=some o'->J k=some (.tip b)->J k'=some (.tip b)->k=k'
 kp:∀b d,C.t b=some d->s b=some d/\∀k o,U.get k=some o->ZbS o=false->J k≠some (.tip b)
 ro:∀k o b,U.get k=some (.ro o)->J k=some (.tip b)->∃d,C.t b=some d
def WR.mono{J J' L}(h:J.Sub J'){w e}(x:WR J L w e):WR J' L w e:=by
 cases w with
 |v v=>obtain⟨d,t,u⟩:=x;exact⟨d,t.mono h,u⟩
 |_=>exact x
def Z5.mono{J J' L}(h:J.Sub J'){H ρd}(x:Z5 J L H ρd):Z5 J' L H ρd:=λt w hw hl=>by
 obtain⟨e,u,h2⟩:=x t w hw hl;exact⟨e,u,h2.mono h⟩
def OR.mono{C J J'}(h:J.Sub J'){k0 o d}(x:OR C J k0 o d):OR C J' k0 o d:=by
 induction x with
 |cells vs ds ex h1=>exact .cells vs ds ex (h1.mono h)
 |buf vs ds ex h1 hc=>exact .buf vs ds ex (h1.mono h) (h _ _ hc)
 |map es ds h1=>exact .map es ds (h1.imp λ_ _ m=>m.mono h)
 |tok n=>exact .tok n
 |mapE kp es ds k dk n m h1 hk hn=>exact .mapE kp es ds k dk n m (h1.imp λ_ _ m=>m.mono h) (hk.mono h) (h _ _ hn)
 |dfr=>exact .dfr
 |ro o d h1 hr hk ih=>exact .ro o d ih hr hk
 |loop f n ps a b H st busy r lst hf hn hps hlt ha hb hρ hst=>exact .loop f n ps a b H st busy r lst hf hn hps hlt ha hb (hρ.mono h) hst
def Sim.name{C J J' U s}(x:Sim C J U s)(hs:J.Sub J'){k o}(h:U.get k=sO o){t}(e:J' k=sO t):J k=sO t:=by
 obtain⟨t0,u,_⟩:=x.obj k o h;rw[hs _ _ u]at e;rw[u,e]
def Sim.mono{C:Px}{J J':Nm}(h:J.Sub J'){U:S}(x:Sim C J U s):Sim C J' U s:={
 obj k o hk:=by obtain⟨t,h1,h2⟩:=x.obj k o hk;refine⟨t,h _ _ h1,h2.imp (λ⟨b,d,a1,a2,u⟩=>⟨b,d,a1,a2,u.mono h⟩) id⟩
 inj k k' o o' b hk hk' e e':=x.inj k k' o o' b hk hk' (x.name h hk e) (x.name h hk' e')
 kp b d hb:=⟨(x.kp b d hb).1,λk o hk hr e=>(x.kp b d hb).2 k o hk hr (x.name h hk e)⟩
 ro k o b hk e:=x.ro k o b hk (x.name h hk e) }
section
variable {C:Px} {J:Nm} {U:S} {s:St}
def Sim.get(x:Sim C J U s){k o}(h:U.get k=sO o)(ho:∀n,o≠.tok n):∃b d,J k=sO (.tip b)/\s b=sO d/\OR C J k o d:=by
 obtain⟨t,u,⟨b,d,rfl,a1,a2⟩|⟨n,rfl,_⟩⟩:=x.obj k o h;exact⟨b,d,u,a1,a2⟩;exact absurd rfl (ho n)
def OR.cellsO{C k0 o d vs}(h:OR C J k0 o d)(u:cellsO o=sO vs):∃ds ex,d=.cells (ds++ex)/\VRs J vs ds:=by
 have t:∀{o:O} {d:QO},OR C J k0 o d->(o=.cells vs\/o=.buf vs)->∃ds ex,d=.cells (ds++ex)/\VRs J vs ds:=λ{o d} h ho=>by
  rcases ho with rfl|rfl
  .cases h with
   |cells vs ds ex h=>exact⟨ds,ex,rfl,h⟩
  cases h with
  |buf vs ds ex h=>exact⟨ds,ex,rfl,h⟩
 cases o<;>simp[Go.DL.cellsO]at u;subst u;exact t h (.inl rfl);subst u;exact t h (.inr rfl);rename_i o;cases h with
 |ro _ _ h _ _ =>cases o<;>simp at u;subst u;exact t h (.inl rfl);subst u;exact t h (.inr rfl)
def ZwM{o vs}(h:cellsO o=sO vs)(n):o≠.tok n:=λe=>by subst e;cases h
def Sim.cells(x:Sim C J U s){k b vs}(h:ZaW (U.get k)=sO vs)(hb:J k=sO (.tip b)):∃ds ex,s b=sO (.cells (ds++ex))/\VRs J vs ds:=by
 cases t:U.get k with
 |none=>rw[t]at h;cases h
 |some o =>rw[t]at h;obtain⟨b',d,u,h2,h3⟩:=x.get t (ZwM h);rw[hb]at u;cases u;obtain⟨ds,ex,rfl,h4⟩:=h3.cellsO h;exact⟨ds,ex,h2,h4⟩
def Sim.map(x:Sim C J U s){k b es}(h:U.get k=sO (.map es))(hb:J k=sO (.tip b)):∃ds,s b=sO (.map ds)/\ZI (MR J) es ds:=by
 obtain⟨b',d,t,u,h3⟩:=x.get h (λn=>by simp);rw[hb]at t;cases t;cases h3 with
 |map es ds h=>exact⟨ds,u,h⟩
def Sim.mapO(x:Sim C J U s){k b es}(h:mapO (U.get k)=sO es)(hb:J k=sO (.tip b)):∃ds,s b=sO (.map ds)/\ZI (MR J) es ds:=by
 cases t:U.get k with
 |none=>rw[t]at h;cases h
 |some o =>
  rw[t]at h;cases o<;>simp[Go.DL.mapO]at h;subst h;exact x.map t hb;rename_i o;cases o<;>cases h;obtain⟨b',d,h1,h2,u⟩:=x.get t (λn=>by simp);rw[hb]at h1;cases h1;cases u with
  |ro _ _ u _ _=>cases u with
   |map es ds h=>exact⟨ds,h2,h⟩
def ZvX{U:S}{k k' o}(h:(U.set nO k).get k'=sO o):k'≠k/\U.get k'=sO o:=by
 rcases T.get_set h with ⟨_,t⟩|⟨u,t⟩;simp at t;exact⟨u,t⟩
def Sim.subT{U':S}(x:Sim C J U s)(h:∀k o,U'.get k=sO o->U.get k=sO o):Sim C J U' s:={
 obj k o hk:=x.obj k o (h k o hk)
 inj k k' o o' b hk hk':=x.inj k k' o o' b (h _ _ hk) (h _ _ hk')
 kp b d hb:=⟨(x.kp b d hb).1,λk o hk=>(x.kp b d hb).2 k o (h _ _ hk)⟩
 ro k o b hk:=x.ro k o b (h _ _ hk) }
def Sim.forget(x:Sim C J U s)(k):Sim C J (U.set nO k) s:=x.subT λ_ _ h=>(ZvX h).2
def Sim.upd(x:Sim C J U s){k b:Nat}{o o':O}{d:QO}(h:U.get k=sO o)(hb:J k=sO (.tip b))(ho:OR C J k o' d)(hr:ZbS o=false:=by rfl)(hr':ZbS o'=false:=by rfl):Sim C J (U.set (sO o') k) (s.upd b d) where
 obj k' o1 h':=by rcases T.get_set h' with ⟨rfl,h1⟩|⟨ab,h1⟩;cases h1;exact⟨_,hb,.inl ⟨b,d,rfl,ZIE s b d,ho⟩⟩;obtain⟨t,e1,⟨b',d',rfl,e2,e3⟩|e2⟩:=x.obj k' o1 h1;refine⟨_,e1,.inl ⟨b',d',rfl,?_,e3⟩⟩;have:b'≠b:=λu=>ab (x.inj k' k _ _ b h1 h (by rw[<-u];exact e1) hb);rw[ZIG s d this];exact e2;exact⟨t,e1,.inr e2⟩
 inj k1 k2 o1 o2 b' h1 h2 e1 e2:=by
  have:∀k' o1,(U.set (sO o') k).get k'=sO o1->∃o,U.get k'=sO o:=λk' o1 h'=>by rcases T.get_set h' with ⟨rfl,_⟩|⟨_,h'⟩;exact⟨_,h⟩;exact⟨_,h'⟩
  obtain⟨p1,q1⟩:=this _ _ h1;obtain⟨p2,q2⟩:=this _ _ h2;exact x.inj k1 k2 p1 p2 b' q1 q2 e1 e2
 kp c e hc:=by obtain⟨h1,h2⟩:=x.kp c e hc;have:c≠b:=λec=>h2 k o h hr (by rw[ec];exact hb);refine⟨by rw[ZIG s d this];exact h1,λk' o1 h' ac=>?_⟩;rcases T.get_set h' with ⟨rfl,_⟩|⟨_,h'⟩;exact h2 _ o h hr;exact h2 k' o1 h' ac
 ro k' o1 b' h' e:=by rcases T.get_set h' with ⟨rfl,h1⟩|⟨_,h'⟩;cases h1;simp[ZbS]at hr';exact x.ro k' o1 b' h' e
end
def Nm.put(J:Nm)(k:Nat)(t:Tok):Nm:=λk'=>if k'=k then sO t else J k'
def Nm.put_sub{J:Nm}{k}(h:J k=nO)(t):J.Sub (J.put k t):=λk' t' u=>by
 have:k'≠k:=λe=>by rw[e,h]at u;grind
 simp[Nm.put,this,u]
def Nm.put_same{J:Nm}{k t}:(J.put k t) k=sO t:=by simp[Nm.put]
structure Yu(J:Nm)(nx:Nat):Prop where
 z:J 0=some .none
 o:J 1=some .full
 two:2<=nx
 free:∀k,nx<=k->J k=none
def Yu.put{J:Nm}{nx:Nat}(h:Yu J nx)(t:Tok):Yu (J.put nx t) (nx+1):={
 z:=by have:=h.two;simp[Nm.put];rw[if_neg ω];exact h.z
 o:=by have:=h.two;simp[Nm.put];rw[if_neg ω];exact h.o
 two:=by have:=h.two;omega
 free k hk:=by simp[Nm.put];rw[if_neg ω];exact h.free k ω }
section
variable {C:Px} {J:Nm} {U:S} {s:St}
def Sim.fresh(x:Sim C J U s){b}(hb:s b=nO){k o}(h:U.get k=sO o):J k≠sO (.tip b):=λe=>by
 obtain⟨t,u,⟨b',d,rfl,h2,_⟩|⟨n,_,rfl⟩⟩:=x.obj k o h;rw[e]at u;cases u;rw[hb]at h2;grind;rw[e]at u;grind
def Sim.new(x:Sim C J U s){nx}(hn:J nx=nO){b}(hb:s b=nO){o d}(ho:OR C (J.put nx (.tip b)) nx o d)(hr:ZbS o=false:=by rfl):Sim C (J.put nx (.tip b)) (U.set (sO o) nx) (s.upd b d):=by
 have ad:=Nm.put_sub hn (.tip b);have x':=x.mono ad;refine⟨λk o1 h=>?_,λk1 k2 o1 o2 b' h1 h2 e1 e2=>?_,λc e hc=>?_,λk o1 c h e=>?_⟩;rcases T.get_set h with ⟨rfl,h1⟩|⟨ab,h1⟩;cases h1;exact⟨_,Nm.put_same,.inl ⟨b,d,rfl,ZIE s b d,ho⟩⟩;obtain⟨t,e1,⟨b',d',rfl,e2,e3⟩|e2⟩:=x'.obj k o1 h1;refine⟨_,e1,.inl ⟨b',d',rfl,?_,e3⟩⟩;have:b'≠b:=λae=>by rw[ae,hb]at e2;grind
 rw[ZIG s d this];exact e2;exact⟨t,e1,.inr e2⟩;have u:∀k o1 b',(U.set (sO o) nx).get k=sO o1->(J.put nx (.tip b)) k=sO (.tip b')->k≠nx->U.get k=sO o1/\J k=sO (.tip b'):=λk o1 b' h e ab=>by rcases T.get_set h with ⟨rfl,_⟩|⟨_,h⟩;exact absurd rfl ab;exact⟨h,by simpa[Nm.put,ab]using e⟩
 by_cases c1:k1=nx<;>by_cases c2:k2=nx;simp_all;exfalso;obtain⟨q1,q2⟩:=u k2 o2 b' h2 e2 c2;rw[c1,Nm.put_same]at e1;cases e1;exact x.fresh hb q1 q2;exfalso;obtain⟨q1,q2⟩:=u k1 o1 b' h1 e1 c1;rw[c2,Nm.put_same]at e2;cases e2;exact x.fresh hb q1 q2;obtain⟨q1,q2⟩:=u k1 o1 b' h1 e1 c1;obtain⟨q3,q4⟩:=u k2 o2 b' h2 e2 c2;exact x.inj k1 k2 o1 o2 b' q1 q3 q2 q4;obtain⟨h1,h2⟩:=x'.kp c e hc;have ac:c≠b:=λec=>by rw[ec,hb]at h1;grind
 refine⟨by rw[ZIG s d ac];exact h1,λk o1 h af e1=>?_⟩;rcases T.get_set h with ⟨rfl,_⟩|⟨_,h⟩;rw[Nm.put_same]at e1;simp at e1;exact ac e1.symm;exact h2 k o1 h af e1;rcases T.get_set h with ⟨rfl,h1⟩|⟨_,h⟩;cases h1;cases hr;exact x'.ro k o1 c h e
end
section
variable {J:Nm} {L:Loc} {H:T W} {ρd:Env}
def ZBF{x v}(h:wV x=sO v):x=sO (.v v):=by
 unfold wV at h;split at h;split at h<;>cases h;rfl;grind
def KE(hρ:Z5 J L H ρd){x v}(h:(YN x).run H=sO v):∃p d,ZC ρd true x=sO (p,.d d)/\p/\VR J v d:=by
 cases x with
 |cst d =>simp[YN]at h;split at h<;>cases h;exact⟨True,d,rfl,trivial,ZhK ‹_›⟩
 |tmp t =>obtain⟨e,u,d,h2,rfl|rfl⟩:=hρ t _ (ZBF h) rfl;exact⟨True,d,by simp[ZC,u],trivial,h2⟩;exact⟨True->True,d,by simp[ZC,u],λ_=>trivial,h2⟩
def ZaH(t:Z5 J L H ρd):∀{xs vs},(Zcs xs).run H=sO vs->∃p ds,Z8 ρd true xs=sO (p,ds.map .d)/\p/\VRs J vs ds
 | [],vs,h=>by cases h;exact⟨True,[],rfl,trivial,.nil⟩
 |x::xs,vs,h=>by simp[Zcs]at h;split at h<;>(try(grind;done));rename_i v h1;split at h<;>simp at h;rename_i vs' h2;subst h;obtain⟨p,d,a1,a2,u⟩:=KE t h1;obtain⟨q,ds,b1,b2,b3⟩:=ZaH t h2;exact⟨p/\q,d::ds,by simp[Z8,a1,b1],⟨a2,b2⟩,.cons _ _ _ _ u b3⟩
def ZaO:∀(ds),Ka (ds.map .d)=sO ds
 | []=>rfl
 |d::ds=>by simp[Ka,ZaO ds]
def Zrs(hρ:Z5 J L H ρd){g b}(h:(Zkf g).run H=sO b):Zj ρd g=sO b:=by
 cases g with
 |none=>simpa[Zkf,Zj]using h
 |some x =>
  obtain⟨t,want⟩:=x;simp[Zkf]at h;split at h<;>(try(grind;done));rename_i w hw;cases w with
  |v x =>obtain⟨e,h1,h2⟩:=hρ t _ hw rfl;cases x<;>cases h;obtain⟨d,h3,rfl|rfl⟩:=h2<;>cases h3;simp[Zj,h1];simp[Zj,h1]
  |loc l o=>grind
  |skip =>obtain⟨e,h1,h2⟩:=hρ t _ hw rfl;cases h;have u:e=.when false (.d (.bool false)):=h2;subst u;simp[Zj,h1]
def JH(hρ:Z5 J L H ρd){w e}(hw:WR J L w e)(dst):Z5 J L ((ZcR dst).run H w) (Zx ρd dst e):=by
 cases dst with
 |none=>exact hρ
 |some t =>intro t' w' h hl;rcases T.get_set (t:=H) (x:=sO w) (k:=t) h with ⟨rfl,h1⟩|⟨u,h1⟩;cases h1;exact⟨e,by simp[Zx,ZM],hw⟩;obtain⟨e',h2,h3⟩:=hρ t' w' h1 hl;exact⟨e',by simp[Zx,ZM];rw[if_neg (Ne.symm u)];exact h2,h3⟩
def Zy7(hρ:Z5 J L H ρd){x c}(h:(Zky x).run H=true)(hc:c=false):∃p z,ZC ρd c x=sO (p,.d (.bool z))/\p:=by
 subst hc;cases x with
 |cst d =>cases d<;>cases h;exact⟨True,_,rfl,trivial⟩
 |tmp t =>
  simp[Zky]at h;split at h<;>(try(grind;done));rename_i w hw;cases w with
  |v x =>obtain⟨e,h1,h2⟩:=hρ t _ hw rfl;cases x<;>cases h;obtain⟨d,h3,rfl|rfl⟩:=h2<;>cases h3;exact⟨True,_,by simp[ZC,h1];rfl,trivial⟩;exact⟨_,_,by simp only[ZC,h1];rfl,λh=>by simp at h⟩
  |loc l o=>grind
  |skip =>obtain⟨e,h1,h2⟩:=hρ t _ hw rfl;have u:e=.when false (.d (.bool false)):=h2;subst u;exact⟨_,_,by simp only[ZC,h1];rfl,λh=>by simp at h⟩
end
end Go.DL
