/- Lemmas: X09, X10, X11, X12, X13, X14, X15, X17, Y01, Z14, Z15, Z16, Z17, Z07, Z08, Z18, Z01, Z02, Z03, Z04, Z19, Z20, Z21, Z22, Z23, Z24, Z25, Z26, Z27, Z28, Z29, Z30, Z31, Z32, EvA, EvB. -/
import Derived.Test.YtegkikicdlbfnaaGreatDoorT04
set_option maxHeartbeats 16000000
set_option maxRecDepth 100000
set_option linter.all false
open List renaming length->I
open Option renaming some -> sO, none -> nO
open Inhabited renaming default -> dE
open Decidable renaming decide -> dC
open Go.Proofs.Tryz
open Array renaming getD_eq_getD_getElem? -> ZIN
open Bool renaming and_eq_true -> ZIb, false_and -> ZIE, false_eq_true -> ZIz, or_eq_true -> ZIp, true_and -> ZIt
open Go.DL.D.Le renaming refl -> ZH3
open Go.DL.St renaming single -> ZIu, sub_refl -> ZH2, sub_upd -> ZIr, upd_ne -> ZH8, upd_same -> ZH5, upd_upd -> ZIk
open Go.DL.Val renaming cells_eq -> ZIq
open Go.Proofs.Tryz renaming prog -> ZH1
open Int renaming reduceEq -> ZIJ, reduceToNat -> ZH9
open List renaming append_assoc -> ZIv, append_nil -> ZIy, getD -> ZIg, getElem?_append_right -> ZIL, getElem?_eq_getElem -> ZIw, getElem?_eq_none -> ZIM, getElem?_take -> ZII, getElem_of_mem -> ZIl, length_append -> ZIc, length_cons -> ZIi, length_drop -> ZIG, length_map -> ZIo, length_take -> ZIm, map_cons -> ZIj, mem_cons -> ZIF, range -> ZIf, take_length -> ZIC
open Nat renaming add_mul -> ZIs, le_refl -> ZIh, mul_le_mul_right -> ZIn, reduceAdd -> ZIa, reduceEqDiff -> ZH6, reduceLeDiff -> ZH7
open Option renaming getD_some -> ZIH
open Option.some renaming injEq -> ZH0
namespace Go.DL
open Go Go.Proofs
variable {kp:Option (List Nat)}{L:Loc}{H:Env}{s:St}{w:World}{os:List DOp}{ds:List D}{B:List (Nat × Rd)}{dst:Option Nat}{tmps:Array Value}{g:G}{Φ:Res->St->Prop}{Z:Nat->Nat}{xs:List Opd}{side:Prop}{row:Nat->List D}
def Zpc{c:YB}{T z y k cap nm ds}(hz:T z=sO (.cells [.msl y 0 k cap 5]))(hk:0<k)(u:T y=sO (.cells (.str nm::ds)))(hl:4<=I ds):ZL ZH1 50 [.agg c.cells,.ptr z 0] T (.bool (dC (c.of=nm))) T:=by
 refine Zz (cR 50 f50) λt F i=>?_;clear t;refine rx @YB.cells.eq_1 ?_;refine xA (nd2 @hz (nd2 @u @Nat.zero_mul)) ?_;exact i rfl φ (ZH3 _) ZH2
def QW(rec:Msg->Val->Val)(d:Dfn)(f:Fld)(x:Val):Val :=
 if f.kind=7\/f.kind=8\/f.kind=12 then x.setPs (x.parts.map λy=>if y.name=f.of then rec (Zj d f.of) y else y) else x
def ZpX(rec:Msg->Val->Val)(d:Dfn)(m:Msg)(f:Fld)(P:List Val)(i:Nat)(y:Val):List Val :=
 if Zi (λc:YB=>dC (c.of=y.name)) f.cases<0 then P else
  let has:=K8 f ((Zr f.tag (JB m P)).getD 0);let P2:=if has<0\/(f.cases.getD has.toNat dE).of≠y.name then JP (vfs m.fields) f.tag (f.cases.getD (Zi (λc:YB=>dC (c.of=y.name)) f.cases).toNat dE).low P else P
  P2.set i ((P2.getD i dE).setPs [rec (Zj d y.name) y])
def ZgG(rec:Msg->Val->Val)(d:Dfn)(m:Msg)(f:Fld)(P:List Val)(i:Nat):List Val :=
 let x:=P.getD i dE;let y:=x.parts.getD 0 dE
 if f.kind=4 then Qr (vfs m.fields) f.size (I x.bytes) P
 else if f.kind=7 then Qr (vfs m.fields) f.size (I x.parts) P
 else if f.kind=12/\I x.parts=1 then (if (Z4 d 51 (Zj d f.of) y []).2=0 then Qr (vfs m.fields) f.size (lenS d 51 (Zj d f.of) y) P else P)
 else if f.kind=9/\I x.parts=1 then ZpX rec d m f P i y
 else P
def Zai(rec:Msg->Val->Val)(d:Dfn)(m:Msg)(P:List Val)(i:Nat):List Val :=
 ZgG rec d m ((vfs m.fields).getD i dE) (P.set i (QW rec d ((vfs m.fields).getD i dE) (P.getD i dE))) i
def Wu(d:Dfn):Nat->Msg->Val->Val
 |0,_,v=>v
 |n+1,m,v=>if WT (vfs m.fields) v.parts then v.setPs ((ZIf (I v.parts)).foldl (Zai (Wu d n) d m) v.parts) else v
def Zuf{l:List Val}{i}:l.set i (l.getD i dE)=l:=by
 refine List.ext_getElem ψ λj h1 t=>?_;rw[List.getElem_set];split;rename_i h;subst h;simp[ZIg,t];rfl
def Zzj(v:Val):v.setI v.int=v:=by cases v;rfl
def ZuY{l s n P}(h:∀t,s.terms=[t]->∀to,ZfN t s.base n=sO to->∀j,j<P.length->Zif (l.getD j dE) t.field to=true->(P.getD j dE).int=to):Qr l s n P=P:=by
 unfold Qr;split;rename_i t ht;split;rename_i to u;have h1:=h t ht to u;refine List.ext_getElem (by simp[JP]) λj hj i=>?_;have h2:=ZiO (l:=l) (nm:=t.field) (to:=to) i;have h3:(JP l t.field to P).getD j dE=(JP l t.field to P)[j]:=by simp[ZIg,hj]
 have h4:P.getD j dE=P[j]:=by simp[ZIg,i]
 rw[<-h3,h2,<-h4];split;rename_i hc;rw[<-h1 j i hc,Zzj];rfl;rfl;rfl
def ZfH{a b}(h:WC a b=0):a=b:=by
 unfold WC at h;split at h;simp at h;rename_i i;split at h;simp at h;rename_i t;simp at i t;omega
def Zxs{d j m}(hm:ZdD d j m){P}(hl:(vfs m.fields).length=P.length){a}(ha:a<I m.fields)(hz:(m.fields.getD a dE).kind=4\/(m.fields.getD a dE).kind=7\/(m.fields.getD a dE).kind=12){n}(hn:n=Zbh (m.fields.getD a dE).size (Zbd m P)):Qr (vfs m.fields) (m.fields.getD a dE).size n P=P:=by
 have ag:=hm.at_ ha;obtain⟨hv,ad⟩:=ag.size ha hz;generalize (m.fields.getD a dE).size=s at *;refine ZuY λt ht to i k hk hc=>?_;obtain⟨q,ak,ac,al⟩:=ad t (by rw[ht];simp);have ae:=Zjb hv t (by rw[ht];simp);have af:q<I m.fields:=ω;have u:=ZhT (ps:=P) af hm.nmU al (λhh=>by
  have:=ZlN (l:=m.fields) ak ha hh;have h2:(vfs (m.fields.take a)).length<=(vfs m.fields).length:=by unfold vfs;exact(List.Sublist.filter _ (List.take_sublist _ _)).length_le
  omega)
 rw[ac]at u;have am:n=s.base+t.factor*Zac m.fields P q:=by rw[hn];unfold Zbh;rw[ht];simp only[Ql,Int.add_zero];unfold Zbd;rw[u]
 unfold ZfN at i;split at i;simp only[ZH0]at i;rw[am,show s.base+t.factor*Zac m.fields P q-s.base=t.factor*Zac m.fields P q by omega,Int.mul_tdiv_cancel_left _ ae]at i;obtain⟨b,hb,ab,aj,ai⟩:=Jf (l:=m.fields) (k:=k) ω;rw[ai]at hc;unfold Zif at hc;simp only[ZIb,decide_eq_true_eq]at hc;have ah:b=q:=by rcases Nat.lt_trichotomy b q with h|h|h;exact absurd (hc.1.1.1.trans ac.symm) (hm.nmU b q h af);exact h;exact absurd (ac.trans hc.1.1.1.symm) (hm.nmU q b h hb)
 subst ah;rw[<-i];unfold Zac;have h2:¬(m.fields.getD b dE).kind=2:=by unfold YU at ab;simp only[ZIb,Bool.not_eq_true',decide_eq_false_iff_not]at ab;exact ab.1.1
 rw[if_neg h2,<-aj];simp at i
def Zki{r1 r2}:∀{l b},(∀y∈l,r1 y=r2 y)->YN r1 l b=YN r2 l b
 | [],_,_=>rfl
 |y::l,b,h=>by simp only[YN];rw[h y ψ];exact Zki λz i=>h z (by simp[i])
def ZgJ{r1 r2}:∀{i ps b},(∀x∈ps,∀y∈x.parts,r1 y=r2 y)->Wt r1 i ps b=Wt r2 i ps b
 | [],_,_,_=>rfl
 |f::i,ps,b,h=>by
  simp only[Wt];split
  .have u:∀y∈(ps.getD 0 dE).parts,r1 y=r2 y:=λy t=>by
    cases ps with
    |nil=>simp[show(dE:Val).parts=[] from rfl,ZIg]at t
    |cons x r=>exact h x ψ y (by simpa[ZIg]using t)
   rw[Zki u];exact ZgJ λx hx=>h x (List.mem_of_mem_drop hx)
  exact ZgJ h
def ZwV{l x}(h:x∈l):ZP x<=heightL l:=by
 induction l with
 |nil=>simp at h
 |cons v r ih =>simp only[heightL];rcases List.mem_cons.1 h with rfl|h;omega;have:=ih h;omega
def WL{v x}(h:x∈v.parts):ZP x+1<=ZP v:=by
 have:=ZwV h;rw[QA v];omega
def ZvL{d}:∀{a b m v},ZaA d a m v->ZP v<=b->lenS d a m v=lenS d b m v
 |0,_,_,_,h,_=>h.elim
 |a+1,0,m,v,_,h=>by have:=QA v;omega
 |a+1,b+1,m,v,h,hb=>by simp only[lenS];rw[ZgJ λx t y u=>?_];obtain⟨k,i,rfl⟩:=ZIl t;have h1:=(h.2 k i).2 y (by simpa[ZIg,i]using u);have h2:=WL t;have h3:=WL u;exact ZvL h1.2 ω
def Zzk{v:Val}{g}(h:∀y∈v.parts,g y=y):v.setPs (v.parts.map g)=v:=by
 have:v.parts.map g=v.parts:=by rw[List.map_congr_left h];simp
 rw[this,Zag]
def Znr{mis d of x q}(h:(JI mis d of x q).2=0):I x.parts=1/\∃q',(mis (Zj d of) (x.parts.getD 0 dE) q').2=0:=by
 unfold JI at h;split at h;rename_i i;exact⟨i,_,h⟩;simp at h
def ZvW{l:List Val}(h:I l=1){y}(i:y∈l):y=l.getD 0 dE:=by
 match l,h with
 | [a],_=>simpa using i
def Zmn{g l q}(h:((WI g l).getD (q,0)).2=0):∀i∈l,(g i).2=0:=by
 cases t:WI g l with
 |none=>exact ZgP t
 |some r=>rw[t]at h;exact absurd h (ZgR t)
section
variable {mis:Msg->Val->Str->Str × Int} {len:Msg->Val->Int} {d:Dfn} {f:Fld} {x:Val} {q:Str} {l:List (Str × Int)}
def ZDi(h:f.kind=4):KW mis len d f x q l=(q,WC (I x.bytes) (Zbh f.size l)):=by unfold KW;rw[if_neg ω,if_pos h]
def ZyX(h:f.kind=7):KW mis len d f x q l=if WC (I x.parts) (Zbh f.size l)=0 then (WI (λi=>mis (Zj d f.of) (x.parts.getD i dE) (ZR q (Yx x.parts i))) (ZIf (I x.parts))).getD (q,0) else (q,WC (I x.parts) (Zbh f.size l)):=by
 unfold KW;rw[if_neg ω,if_neg ω,if_neg ω,if_neg ω,if_pos h]
def ZDj(h:f.kind=8):KW mis len d f x q l=JI mis d f.of x q:=by
 unfold KW;rw[if_neg ω,if_neg ω,if_neg ω,if_neg ω,if_neg ω,if_pos h]
def ZDk(h:f.kind=9):KW mis len d f x q l=if K8 f (Kj f.tag l)<0 then (q,9) else JI mis d (f.cases.getD (K8 f (Kj f.tag l)).toNat dE).of x q:=by
 unfold KW;rw[if_neg ω,if_neg ω,if_neg ω,if_neg ω,if_neg ω,if_neg ω,if_pos h]
def ZB7(h:f.kind=12):KW mis len d f x q l=if (JI mis d f.of x q).2=0 then (q,WC (len (Zj d f.of) (x.parts.getD 0 dE)) (Zbh f.size l)) else JI mis d f.of x q:=by
 unfold KW;rw[if_neg ω,if_neg ω,if_neg ω,if_neg ω,if_neg ω,if_neg ω,if_neg ω,if_pos h]
end
def Zq2{d}(hd:WQ d):∀(n' im n v p),im<I d.msgs->VOk v->ZP v<=51->(Z4 d n (d.msgs.getD im dE) v p).2=0->Wu d n' (d.msgs.getD im dE) v=v
 |0,_,_,_,_,_,_,_,_=>rfl
 |n'+1,im,0,v,p,_,_,_,h=>by simp[Z4]at h
 |n'+1,im,n+1,v,p,him,hv,hh,h=>by
  have hm:=hd.msg him;have aq:=hd.dref _ (Zu him);generalize d.msgs.getD im dE=m at *;rw[Zj8]at h;split at h;case isFalse=>simp at h
  case isTrue hc =>
   simp only[ZIb,decide_eq_true_eq]at hc;have hr:=hc.2.2.2.2;have aw:WT (vfs m.fields) v.parts=true:=hr;have am:(vfs m.fields).length=I v.parts:=by unfold JN at hr;rw[decide_eq_true_eq]at hr;simpa using congrArg List.length hr
   have ak:=λk hk=>Zmn h k (List.mem_range.2 hk);have sub:∀(of:Str) (y:Val) (q:Str) (x:Val),x∈v.parts->y∈x.parts->0<=Zy d of (I d.msgs)->(Z4 d n (Zj d of) y q).2=0->Wu d n' (Zj d of) y=y:=λof y q x hx hy u ao =>
    Zq2 hd n' (ixS d of) n y q (KZ u).2 ((hv.part hx).part hy) (by have:=WL hx;have:=WL hy;omega) ao
   have a6:∀k,k<I v.parts->Zai (Wu d n') d m v.parts k=v.parts:=λk hk=>by
    have hg:=ak k hk;have ab:=Zu hk;obtain⟨a,ha,hav,hka,av⟩:=Jf (l:=m.fields) (k:=k) ω;have ag:=aq _ (Zu ha);have ah:=λ{n:Int} hz hn=>Zxs hm am ha (n:=n) hz hn;have az:(m.fields.getD a dE).kind=9->Zr (m.fields.getD a dE).tag (JB m v.parts)=sO (Kj (m.fields.getD a dE).tag (Zbd m v.parts)):=λh9=>by
     obtain⟨q,ax,ay,ap⟩:=(hm.at_ ha).tag ha h9;have h1:=ZvE hm.nmU v.parts (i:=q) ω ap;have h2:=ZhT (ps:=v.parts) (i:=q) ω hm.nmU ap (λhh=>by
      have:=ZlN (l:=m.fields) ax ha hh;have h2:(vfs (m.fields.take a)).length<=(vfs m.fields).length:=by unfold vfs;exact(List.Sublist.filter _ (List.take_sublist _ _)).length_le
      omega)
     rw[ay]at h1 h2;rw[h1];unfold Zbd;rw[h2]
    unfold Zai;unfold Zek at hg;rw[av]at hg⊢;generalize m.fields.getD a dE=f at *;have hx:v.parts.getD k dE=v.parts.getD k dE:=rfl;generalize ai:v.parts.getD k dE=x at *;split at hg;simp at hg;have t:f.kind=12->∃q',I x.parts=1/\(Z4 d n (Zj d f.of) (x.parts.getD 0 dE) q').2=0/\WC (lenS d n (Zj d f.of) (x.parts.getD 0 dE)) (Zbh f.size (Zbd m v.parts))=0:=λh12=>by rw[ZB7 h12]at hg;split at hg;rename_i ho;obtain⟨h1,q',h2⟩:=Znr ho;exact⟨q',h1,h2,hg⟩;rename_i ho;exact absurd hg ho
    have hrec:QW (Wu d n') d f x=x:=by unfold QW;split;rename_i al;refine Zzk λy hy=>?_;split;have u:=ag.ref al;rcases al with h7|h8|h12;rw[ZyX h7]at hg;split at hg;obtain⟨i,hi,rfl⟩:=ZIl hy;have:=Zmn hg i (List.mem_range.2 hi);rw[show x.parts.getD i dE=x.parts[i] by simp[ZIg,hi]]at this;exact sub f.of _ _ x ab hy u this;rename_i h0;exact absurd hg h0;rw[ZDj h8]at hg;obtain⟨h1,q',h2⟩:=Znr hg;rw[<-ZvW h1 hy]at h2;exact sub f.of _ _ x ab hy u h2;obtain⟨q',h1,h2,_⟩:=t h12;rw[<-ZvW h1 hy]at h2;exact sub f.of _ _ x ab hy u h2;rfl;rfl
    have ae:v.parts.set k x=v.parts:=by rw[<-ai];exact Zuf
    rw[hrec,ae];unfold ZgG;rw[ai];simp only[];split;rename_i h4;rw[ZDi h4]at hg;exact ah (.inl h4) (ZfH hg);split;rename_i h7;rw[ZyX h7]at hg;split at hg;rename_i h0;exact ah (.inr (.inl h7)) (ZfH h0);rename_i h0;exact absurd hg h0;split;rename_i h12;obtain⟨q',h1,h2,h3⟩:=t h12.1;split;have ac:x.parts.getD 0 dE∈x.parts:=Zu ω;have a4:=(hv.part ab).part ac;have a3:ZP (x.parts.getD 0 dE)<=51:=by have:=WL ab;have:=WL ac;omega
    have u:=ag.ref (.inr (.inr h12.1));rw[<-ZvL (Zdf hd.dref n (Zj d f.of) _ q' (hd.dref.of f.of) a4.ok h2) a3];exact ah (.inr (.inr h12.1)) (ZfH h3);rfl;split
    .rename_i h9;rw[ZDk h9.1]at hg;split at hg;simp at hg;rename_i ar;obtain⟨h1,q',h2⟩:=Znr hg;have au:=Wc (λc:YB=>dC (c.low<=Kj f.tag (Zbd m v.parts))&&dC (Kj f.tag (Zbd m v.parts)<=c.high)) f.cases;have hcl':K8 f (Kj f.tag (Zbd m v.parts))<I f.cases:=au;have ad:=ag.cas h9.1 _ (Zu (l:=f.cases) (i:=(K8 f (Kj f.tag (Zbd m v.parts))).toNat) ω);have aj:=(Zg2 h2).trans (ZiE ad);unfold ZpX;split;rfl;have ac:x.parts.getD 0 dE∈x.parts:=Zu ω;have a0:x.parts=[x.parts.getD 0 dE]:=by
      match hp:x.parts,h1 with
      | [a],_=>rfl
     generalize x.parts.getD 0 dE=y at *;have a5:=sub y.name y q' x ab ac (by rw[aj];exact ad) (by rw[aj];exact h2);simp only[az h9.1,ZIH];rw[if_neg (λh=>by rcases h with h|h;exact ar h;exact h aj.symm),ai,a5,<-a0,Zag];exact ae
    rfl
   have af:∀l:List Nat,(∀k∈l,k<I v.parts)->l.foldl (Zai (Wu d n') d m) v.parts=v.parts:=λl=>by
    induction l with
    |nil=>intro _;rfl
    |cons k r ih=>intro hk;rw[List.foldl_cons,a6 k (hk k ψ)];exact ih λj hj=>hk j (by simp[hj])
   unfold Wu;rw[if_pos aw,af _ λk hk=>List.mem_range.1 hk,Zag]
mutual
def ZJ:Val->Val
 |.mk n _ b h p=>.mk n 0 b h (plainL p)
def plainL:List Val->List Val
 | []=>[]
 |v::r=>ZJ v::plainL r
end
def ZoT:∀l:List Val,plainL l=l.map ZJ
 | []=>rfl
 |v::r=>by simp[plainL,ZoT r]
def ZaZ(v):ZJ v=.mk v.name 0 v.bytes v.hdrs (v.parts.map ZJ):=by
 cases v;simp only[ZJ,ZoT];rfl
def Zxc{v i}:ZJ (v.setI i)=ZJ v:=by rw[ZaZ,ZaZ v];rfl
def Zg6{v P}(h:P.map ZJ=v.parts.map ZJ):ZJ (v.setPs P)=ZJ v:=by
 rw[ZaZ,ZaZ v];show Val.mk v.name 0 v.bytes v.hdrs (P.map ZJ)=_;rw[h]
def ZoV{l nm to P}:(JP l nm to P).map ZJ=P.map ZJ:=by
 refine List.ext_getElem (by simp[JP]) λj h1 t=>?_;have i:j<P.length:=by simpa using t
 have u:=ZiO (l:=l) (nm:=nm) (to:=to) i;have h4:(JP l nm to P).getD j dE=(JP l nm to P)[j]'(by rw[ZfF];exact i):=by simp[ZIg,ZfF,i]
 have h5:P.getD j dE=P[j]:=by simp[ZIg,i]
 rw[List.getElem_map,List.getElem_map,<-h4,u,h5];split;exact Zxc;rfl
def Zfv{l s n P}:(Qr l s n P).map ZJ=P.map ZJ:=by
 unfold Qr;split;split;exact ZoV;rfl;rfl
def Zkl{P:List Val}{i x}(h:ZJ x=ZJ (P.getD i dE)):(P.set i x).map ZJ=P.map ZJ:=by
 rw[List.map_set,h];refine List.ext_getElem ψ λj h1 t=>?_;rw[List.getElem_set];split;rename_i e;subst e;have u:i<P.length:=by simpa using t
 simp[ZIg,u];rfl
section
variable {d:Dfn} {m:Msg} {rec:Msg->Val->Val} (hrec:∀ s y,ZJ (rec (Zj d s) y)=ZJ y)
include hrec
theorem ZoU{f x}:ZJ (QW rec d f x)=ZJ x:=by
 unfold QW;split;refine Zg6 ?_;rw[List.map_map];refine List.map_congr_left λy _=>?_;simp only[Function.comp];split;exact hrec _ _;rfl;rfl
theorem Zxb{f P i}(h1:(P.getD i dE).parts.length=1):(ZpX rec d m f P i ((P.getD i dE).parts.getD 0 dE)).map ZJ=P.map ZJ:=by
 have t:∀P2:List Val,P2.map ZJ=P.map ZJ->(P2.set i ((P2.getD i dE).setPs [rec (Zj d ((P.getD i dE).parts.getD 0 dE).name) ((P.getD i dE).parts.getD 0 dE)])).map ZJ=P.map ZJ:=λP2 u=>by
  rw[<-u];refine Zkl (Zg6 ?_);have e:ZJ (P2.getD i dE)=ZJ (P.getD i dE):=by have:=congrArg (λl:List Val=>l.getD i (ZJ dE)) u;simpa only[ZIg,List.getElem?_map,Option.getD_map]using this
  have e2:(P2.getD i dE).parts.map ZJ=(P.getD i dE).parts.map ZJ:=by have:=congrArg Val.parts e;rw[ZaZ,ZaZ (P.getD i dE)]at this;exact this
  rw[e2]
  match hp:(P.getD i dE).parts,h1 with
  | [a],_=>simp[hrec]
 unfold ZpX;split;rfl;dsimp only;split;exact t _ ZoV;exact t _ rfl
theorem Zxa{f P i}:(ZgG rec d m f P i).map ZJ=P.map ZJ:=by
 unfold ZgG;dsimp only;split;exact Zfv;split;exact Zfv;split;split;exact Zfv;rfl;split;rename_i h;exact Zxb hrec h.2;rfl
theorem Zg7{P i}:(Zai rec d m P i).map ZJ=P.map ZJ:=by
 unfold Zai;rw[Zxa hrec];exact Zkl (ZoU hrec)
end
def Zad{d}:∀(n m v),ZJ (Wu d n m v)=ZJ v
 |0,_,_=>rfl
 |n+1,m,v=>by
  unfold Wu;split
  .refine Zg6 ?_;have:∀(l:List Nat) (P:List Val),(l.foldl (Zai (Wu d n) d m) P).map ZJ=P.map ZJ:=λl=>by
    induction l with
    |nil=>intro P;rfl
    |cons k r ih=>intro P;rw[List.foldl_cons,ih];exact Zg7 λs y=>Zad n _ y
   exact this _ _
  rfl
def Zcc{v}:ZX v=true↔(∀x∈v.parts,ZX x=true)/\Jj v=true:=by
 rw[Zfs,ZIb,ZeF,List.all_eq_true]
def Zw7{v i}(h:ZX v=true)(u:0<=i)(h1:i<34359738368):ZX (v.setI i)=true:=by
 rw[Zcc]at h⊢;refine⟨h.1,?_⟩;have t:=h.2;unfold Jj at t⊢;simp only[ZIb,decide_eq_true_eq]at t⊢;exact⟨⟨⟨⟨⟨t.1.1.1.1.1,u⟩,h1⟩,t.1.1.2⟩,t.1.2⟩,t.2⟩
def Zg4{v P}(h:ZX v=true)(i:∀x∈P,ZX x=true):ZX (v.setPs P)=true:=by
 rw[Zcc]at h⊢;exact⟨i,h.2⟩
def ZsJ(m:Msg):Prop:=∀f∈vfs m.fields,YE f=true->0<=f.low/\f.high<34359738368
def Zhz{P:List Val}(h:∀x∈P,ZX x=true){i}(t:i<P.length):ZX (P.getD i dE)=true:=h _ (Zu t)
def ZvU{m}(hm:ZsJ m){nm to P}(h:∀x∈P,ZX x=true):∀x∈JP (vfs m.fields) nm to P,ZX x=true:=λx u=>by
 unfold JP at u;rw[List.mem_map]at u;obtain⟨j,t,rfl⟩:=u;rw[List.mem_range]at t;split;rename_i i;unfold Zif at i;simp only[ZIb,decide_eq_true_eq]at i;by_cases hl:j<(vfs m.fields).length;have:=hm _ (Zu hl) i.1.1.2;exact Zw7 (Zhz h t) ω ω;have h2:=i.1.1.2;rw[show(vfs m.fields).getD j dE=dE by simp[ZIg,ZIM (Nat.le_of_not_lt hl)]]at h2;exact absurd h2 (by decide);exact Zhz h t
def Zkg{m}(hm:ZsJ m){s n P}(h:∀x∈P,ZX x=true):∀x∈Qr (vfs m.fields) s n P,ZX x=true:=by
 unfold Qr;split;split;exact ZvU hm h;exact h;exact h
def ZtT{P:List Val}{i x}(h:∀x∈P,ZX x=true)(u:ZX x=true):∀y∈P.set i x,ZX y=true:=λy hy=>by
 rcases List.mem_or_eq_of_mem_set hy with t|rfl;exact h y t;exact u
section
variable {d:Dfn} {m:Msg} {rec:Msg->Val->Val} (hrec:∀ s y,ZX y=true->ZX (rec (Zj d s) y)=true) (hm:ZsJ m)
include hrec
theorem ZvT{f x}(h:ZX x=true):ZX (QW rec d f x)=true:=by
 unfold QW;split;refine Zg4 h λz i=>?_;rw[List.mem_map]at i;obtain⟨y,t,rfl⟩:=i;have:=(Zcc.1 h).1 y t;split;exact hrec _ _ this;exact this;exact h
include hm
theorem ZvS{f P i}(hi:i<P.length)(h:∀x∈P,ZX x=true):∀x∈ZgG rec d m f P i,ZX x=true:=by
 unfold ZgG;dsimp only;split;exact Zkg hm h;split;exact Zkg hm h;split;split;exact Zkg hm h;exact h;split;rename_i h9;have hy:ZX ((P.getD i dE).parts.getD 0 dE)=true:=(Zcc.1 (Zhz h hi)).1 _ (Zu ω);have t:∀P2:List Val,P2.length=P.length->(∀x∈P2,ZX x=true)->∀x∈P2.set i ((P2.getD i dE).setPs [rec (Zj d ((P.getD i dE).parts.getD 0 dE).name) ((P.getD i dE).parts.getD 0 dE)]),ZX x=true:=λP2 hl u =>
  ZtT u (Zg4 (Zhz u ω) λz hz=>by rw[List.mem_singleton.1 hz];exact hrec _ _ hy)
 unfold ZpX;split;exact h;dsimp only;split;exact t _ ZfF (ZvU hm h);exact t _ rfl h;exact h
end
def Zkk{P Q:List Val}(h:P.map ZJ=Q.map ZJ):P.length=Q.length:=by simpa using congrArg List.length h
def Zly{d}(hd:∀s,ZsJ (Zj d s)):∀(n s v),ZX v=true->ZX (Wu d n (Zj d s) v)=true
 |0,_,_,h=>h
 |n+1,s,v,h=>by
  unfold Wu;split
  .refine Zg4 h ?_;have:∀(l:List Nat) (P:List Val),(∀k∈l,k<P.length)->(∀x∈P,ZX x=true)->∀x∈l.foldl (Zai (Wu d n) d (Zj d s)) P,ZX x=true:=λl=>by
    induction l with
    |nil=>intro P _ hP;exact hP
    |cons k r ih =>intro P u hP;rw[List.foldl_cons];have t:=Zkk (Zg7 (m:=Zj d s) (P:=P) (i:=k) (λs y=>Zad (d:=d) n (Zj d s) y));refine ih _ (λj hj=>by rw[t];exact u j (by simp[hj])) ?_;unfold Zai;refine ZvS (λs y hy=>Zly hd n s y hy) (hd s) (by rw[List.length_set];exact u k ψ) (ZtT hP (ZvT (λs y hy=>Zly hd n s y hy) (Zhz hP (u k ψ))))
   exact this _ _ (λk u=>List.mem_range.1 u) (Zcc.1 h).1
  exact h
def Zv5{d}(hd:WQ d){i}(hi:i<I d.msgs):ZsJ (d.msgs.getD i dE):=by
 intro f u hn;have hm:=hd.msg hi;unfold vfs at u;rw[List.mem_filter]at u;obtain⟨k,hk,he⟩:=ZIl u.1;have t:=hm.at_ hk;rw[show(d.msgs.getD (i) dE).fields.getD k dE=f by rw[List.getD_eq_getElem?_getD,ZIw hk];exact he]at t;have h1:=t.num hn;have h2:¬f.kind=2:=by have:=u.2;unfold YU at this;simp only[ZIb,Bool.not_eq_true',decide_eq_false_iff_not]at this;exact this.1.1
 exact⟨h1.1,h1.2.2 h2⟩
def Zv6{d}(t:WQ d)(s):ZsJ (Zj d s):=by
 unfold Zj;by_cases i:ixS d s<I d.msgs;exact Zv5 t i;rw[show d.msgs.getD (ixS d s) dE=dE by simp[ZIg,ZIM (Nat.le_of_not_lt i)]];intro f u;simp[show(dE:Msg).fields=[] from rfl,vfs]at u
mutual
def Zae:∀v:Val,wtN (ZJ v)=wtN v
 |.mk n i b h p=>by simp only[ZJ,wtN,plain_wtL p]
def plain_wtL:∀l:List Val,wtL (plainL l)=wtL l
 | []=>rfl
 |v::r=>by simp only[plainL,wtL,Zae v,plain_wtL r]
end
mutual
def Kz:∀v:Val,ZP (ZJ v)=ZP v
 |.mk n i b h p=>by simp only[ZJ,ZP,plain_heightL p]
def plain_heightL:∀l:List Val,heightL (plainL l)=heightL l
 | []=>rfl
 |v::r=>by simp only[plainL,heightL,Kz v,plain_heightL r]
end
def Zne{d}(t:WQ d){n s v}(i:VOk v):VOk (Wu d n (Zj d s) v) :=
 ⟨Zly (Zv6 t) n s v i.ok,by rw[<-Zae,Zad,Zae];exact i.wt⟩
def ZgO{d n m v}:ZP (Wu d n m v)=ZP v:=by rw[<-Kz,Zad,Kz]
def Zq6{row X n i k}(h:∀j,j<n->(row j).length=5)(u:i<n)(hk:k<5):(YA row n++X)[i*5+k]?=(row i)[k]?:=by
 have t:=Za8 X h u;unfold part at t;have:(((YA row n++X).drop (i*5)).take 5)[k]?=(row i)[k]?:=by rw[t]
 rw[ZII,if_pos hk,List.getElem?_drop]at this;exact this
def MN.fmem{T v c fp x cap row f X}(h:MN T v c fp x cap row f X){i y}(t:i<I v.parts)(u:y∈f i):y∈fp:=by
 rw[h.fp];simp only[ZIF,List.mem_flatMap,List.mem_range];exact .inr ⟨i,t,u⟩
def MN.xmem{T v c fp x cap row f X}(h:MN T v c fp x cap row f X):x∈fp:=by rw[h.fp];simp
def MN.len5{T v c fp x cap row f X}(h:MN T v c fp x cap row f X):∀j,j<I v.parts->(row j).length=5:=λj i=>(h.kid j i).len
def ZAX{i}:(λk=>if k=i then row i else row k)=row:=by
 funext k;split;next e=>rw[e]
 rfl
def MN.subK{T S}{v}{c}{fp}{x cap}{row}{f}{X}(h:MN T v c fp x cap row f X){i}(t:i<I v.parts){g}(hg:MT S g (row i) (f i))(u:∀y,y∉f i->S y=T y):MT S (v.setP i g) c fp:=by
 have hm:=h.child t (r':=row i) hg (by rw[ZAX,u x (h.n i t)];exact h.b) (λy _ hy=>u y hy);exact hm.mt (by simp only[Val.setP,Val.parts,List.length_set];exact Nat.lt_of_le_of_lt (Nat.zero_le _) t)
structure FI(T A:St)(v:Val)(l:List Fld)(P:List Val)(c:List D)(fp:List Nat)(x cap:Nat)(row:Nat->List D)(f:Nat->List Nat)(X:List D)(z5 z6 z7:Nat):Prop where
 mn:MN A (v.setPs P) c fp x cap row f X
 a5:A z5=some (.cells c)
 a6:A z6=some (.cells [Zq l])
 a7:A z7=some (.cells [.fn (.func 45) [] [.ptr z6 0,.ptr z5 0]])
 n5:z5∉fp
 n6:z6∉fp
 n7:z7∉fp
 out:∀y,y∉fp->y≠z5->y≠z6->y≠z7->A y=T y
section
variable {T A S:St} {v:Val} {l:List Fld} {P:List Val} {c:List D} {fp:List Nat} {x cap:Nat} {row row':Nat->List D} {f:Nat->List Nat} {X:List D} {z5 z6 z7:Nat}
def FI.ne(h:FI T A v l P c fp x cap row f X z5 z6 z7):z5≠x/\z6≠x/\z7≠x :=
 ⟨λe=>h.n5 (e▸h.mn.xmem),λe=>h.n6 (e▸h.mn.xmem),λe=>h.n7 (e▸h.mn.xmem)⟩
def FI.num(h:FI T A v l P c fp x cap row f X z5 z6 z7){Q}(hm:MN S (v.setPs Q) c fp x cap row' f X)(i:∀y,y≠x->S y=A y):FI T S v l Q c fp x cap row' f X z5 z6 z7 :=
 ⟨hm,by rw[i _ h.ne.1];exact h.a5,by rw[i _ h.ne.2.1];exact h.a6,by rw[i _ h.ne.2.2];exact h.a7,h.n5,h.n6,h.n7,λy t u h6 h7=>by rw[i y λe=>t (e▸h.mn.xmem)];exact h.out y t u h6 h7⟩
def FI.sub(h:FI T A v l P c fp x cap row f X z5 z6 z7){i}(hi:i<P.length){g}(hg:MT S g (row i) (f i))(ho:∀y,y∉f i->S y=A y):FI T S v l (P.set i g) c fp x cap row f X z5 z6 z7:=by
 have ab:x∉f i:=h.mn.n i hi;have t:∀{y:Nat},y∉fp->S y=A y:=λhy=>ho _ λhf=>hy (h.mn.fmem hi hf);have hm:=h.mn.child (j:=i) hi (w:=g) (r':=row i) hg (by
  have:(λk=>if k=i then row i else row k)=row:=by
   funext k;split;next e=>rw[e]
   rfl
  rw[this,ho x ab];exact h.mn.b) (λy _ hy=>ho y hy)
 have u:(λk=>if k=i then row i else row k)=row:=by
  funext k;split;next e=>rw[e]
  rfl
 rw[u]at hm;exact⟨hm,by rw[t h.n5];exact h.a5,by rw[t h.n6];exact h.a6,by rw[t h.n7];exact h.a7,h.n5,h.n6,h.n7,λy hy h5 h6 h7=>by rw[t hy];exact h.out y hy h5 h6 h7⟩
end
def MT.cells4{T v c fp}(h:MT T v c fp):∃p,c=[.str v.name,.int .i64 v.int,Zo v.bytes,Ym v.hdrs,p]/\Z2 T fp p (Z7 v.parts)/\(I v.parts=0->p=Z7 [])/\Qp p=true/\∀L s,qv L s .lenL [.d p]=sO (True,.d (.int .i64 (I v.parts))):=by
 cases h with
 |leaf n i b h=>exact⟨_,rfl,.refl _,λ_=>rfl,rfl,λ_ _=>rfl⟩
 |node n i b h ps x cap row f X hp hb hc hx hn hd =>refine⟨_,rfl,?_,λt=>by simp only[Val.parts]at t;omega,rfl,λ_ _=>rfl⟩;have hm:MT T (.mk n i b h ps) _ _:=.node n i b h ps x cap row f X hp hb hc hx hn hd;have:=hm.ld (Ln:=x::(ZIf (I ps)).flatMap f) λ_ u=>u;rw[ZIq]at this;cases this with|cons _ this=>cases this with|cons _ this=>cases this with|cons _ this=>cases this with|cons _ this=>cases this with|cons h5 _=>exact h5
def ZoF{f args i T Ln d}(u:∀b∈Ln,∃ds,T b=sO (.cells ds))(hl:LdC T Ln args i)(hc:Zf ZH1 f i d)(hd:SC (λb=>((λ_=>nO:St) b).isSome=true) d):Za ZH1 f args T λr S=>r=.ret d/\S=T:=by
 have h:=Za.lend u hl (hc λ_=>nO) (λr S t=>by
  obtain⟨rfl,rfl⟩:=t;exact⟨hd,λb o h=>by simp at h⟩)
 refine h.mono λr S hS=>?_;obtain⟨S',⟨t,rfl⟩,_,rfl⟩:=hS;exact⟨t,Zg5 T⟩
section
variable {T A S:St} {v:Val} {l:List Fld} {P:List Val} {c:List D} {fp:List Nat} {x cap:Nat} {row row':Nat->List D} {f:Nat->List Nat} {X:List D} {z5 z6 z7:Nat}
def MN.mono{w}(h:MN T w c fp x cap row f X)(i:∀y∈fp,S y=T y):MN S w c fp x cap row f X :=
 ⟨h.c,by rw[i x h.xmem];exact h.b,h.le,λj t=>(h.kid j t).mono λy u=>i y (h.fmem t u),h.n,h.d,h.fp⟩
def FI.live(h:FI T A v l P c fp x cap row f X z5 z6 z7)(u:0<P.length){z}(t:A z=nO):z∉fp/\z≠z5/\z≠z6/\z≠z7:=by
 refine⟨λhm=>?_,λe=>?_,λe=>?_,λe=>?_⟩;obtain⟨ds,i⟩:=(h.mn.mt u).live z hm;rw[t]at i;simp at i;rw[e,h.a5]at t;simp at t;rw[e,h.a6]at t;simp at t;rw[e,h.a7]at t;simp at t
def FI.box(h:FI T A v l P c fp x cap row f X z5 z6 z7)(hP:0<P.length){z}(hz:A z=nO)(o):FI (T.upd z o) (A.upd z o) v l P c fp x cap row f X z5 z6 z7:=by
 obtain⟨k1,k2,k3,k4⟩:=h.live hP hz;refine⟨h.mn.mono λy i=>ZH8 _ _ λe=>k1 (e▸i),by rw[ZH8 _ _ k2.symm];exact h.a5,by rw[ZH8 _ _ k3.symm];exact h.a6,by rw[ZH8 _ _ k4.symm];exact h.a7,h.n5,h.n6,h.n7,λy i t u h7=>?_⟩;by_cases e:y=z;subst e;rw[ZH5,ZH5];rw[ZH8 _ _ e,ZH8 _ _ e];exact h.out y i t u h7
def FI.unbox{z o}(h:FI (T.upd z o) S v l P c fp x cap row f X z5 z6 z7)(k1:z∉fp)(t:z≠z5/\z≠z6/\z≠z7)(hT:T z=nO):
  FI T (λy=>if y=z then nO else S y) v l P c fp x cap row f X z5 z6 z7/\St.sub (λy=>if y=z then nO else S y) S:=by
 refine⟨⟨h.mn.mono λy i=>if_neg λe:y=z=>k1 (e▸i),?_,?_,?_,h.n5,h.n6,h.n7,λy i u h6 h7=>?_⟩,λy o i=>?_⟩;rw[if_neg t.1.symm];exact h.a5;rw[if_neg t.2.1.symm];exact h.a6;rw[if_neg t.2.2.symm];exact h.a7;by_cases e:y=z;subst e;rw[if_pos rfl];exact hT.symm;rw[if_neg e,h.out y i u h6 h7,ZH8 _ _ e];dsimp only at i;by_cases e:y=z;rw[if_pos e]at i;simp at i;rw[if_neg e]at i;exact i
def ZyU{w}(hM:MT T w c fp){p}(hp:Z2 T fp p (Z7 w.parts))(m)(hpos:0<I m.fields)(hml:I m.fields<=1000)(hn:(vfs m.fields).length=I w.parts):
  Za ZH1 52 [.agg m.cells,p] T λr S=>∃b,T b=nO/\r=.ret (.map b)/\S=T.upd b (.map (WZ (JB m w.parts))):=by
 have h:=Za.lend (P:=ZH1) (Ln:=fp) (t:=T) hM.live (.cons (Z2.refl (.agg m.cells)) (.cons hp .nil)) (Zd7 m hpos hml w.parts hn λ_=>nO) (λr S hr=>by
  obtain⟨b,_,rfl,rfl⟩:=hr;refine⟨.map b,λb' o u=>?_⟩;by_cases e:b'=b;subst e;rw[ZH5]at u;simp only[ZH0]at u;subst u;intro e he;unfold WZ WD at he;obtain⟨q,_,rfl⟩:=List.mem_map.1 he;exact⟨.str _,.int _ _⟩;rw[ZH8 _ _ e]at u;simp at u)
 refine h.mono λr S hS=>?_;obtain⟨S',⟨b,_,hr,rfl⟩,hd,rfl⟩:=hS;have i:T b=nO:=by
  cases ht:T b with
  |none=>rfl
  |some o=>have:=hd b o ht;rw[ZH5]at this;simp at this
 refine⟨b,i,hr,?_⟩;funext y;by_cases e:y=b;subst e;rw[ZH5];exact Zs (ZH5 _ _ _);rw[ZH8 _ _ e,ZG (by rw[ZH8 _ _ e])]
end
def ZmS(g:Val)(T:St)(c:List D)(fp:List Nat):Res->St->Prop:=λr S=>r=.ret (.tup [])/\MT S g c fp/\∀y,y∉fp->S y=T y
def Zw4{T p fp ps}(i:∀b∈fp,∃ds,T b=sO (.cells ds))(t:Z2 T fp p (Z7 ps))(l):Za ZH1 44 [Zq l,p] T λr S=>r=.ret (.bool (WT l ps))/\S=T :=
 ZoF i (.cons (.refl _) (.cons t .nil)) (ZhN l ps) (.bool _)
def ZCO{L s}(l i):qv L s (.iaddr 3) [.d (WE l),.d (.int .i64 i)]=sO (0<=i/\i<I l,.d (.ep (l.getD i.toNat dE).cells 0)):=rfl
def Zpd(hI:Qm){d}(hd:WQ d)(nn im)(him:im<I d.msgs)(rec v)(hv:VOk v)(hh:ZP v<=nn+1)(hn:nn<=50)(hpl:∀s y,ZJ (rec (Zj d s) y)=ZJ y)(hok:∀s y,ZX y=true->ZX (rec (Zj d s) y)=true)(hrec:∀(s:Str) (g:Val) (T:St) (c:List D) (fp:List Nat),0<=Zy d s (I d.msgs)->VOk g->ZP g<=nn->MT T g c fp->Za ZH1 23 [.agg d.cells,.agg (Zj d s).cells,.agg c] T (ZmS (rec (Zj d s) g) T c fp)){T c fp}(hM:MT T v c fp):
  Za ZH1 23 [.agg d.cells,.agg (d.msgs.getD im dE).cells,.agg c] T (ZmS (if WT (vfs (d.msgs.getD im dE).fields) v.parts then v.setPs ((ZIf (I v.parts)).foldl (Zai rec d (d.msgs.getD im dE)) v.parts) else v) T c fp):=by
 have hm:=hd.msg him;have c1:=hd.pos him;have b0:=hd.dref _ (Zu him);have hm40:=hm.many;have fb:=Zv5 hd him;generalize d.msgs.getD im dE=m at *;obtain⟨p5,hc,e9,hp0,_,_⟩:=hM.cells4;generalize hl:vfs m.fields=l at *;generalize hG:(if WT l v.parts=true then v.setPs ((ZIf (I v.parts)).foldl (Zai rec d m) v.parts) else v)=G;have eg:=ZcY m c1 ω;rw[hl]at eg;refine Zb (cR 23 f23) λF hF=>?_;rw[hc];refine rx (nd2 @eQ2 @eQ3) ?_;refine rx @eQ3 ?_;refine cl (eg) ?_;refine aa ?_;refine rg ?_;refine cV (Zw4 hM.live e9 l) ?_ ?_
 .rintro dd S ⟨hr,hS⟩;obtain rfl:=hS.symm;cases hr;refine gR0 ?_;cases bv:WT l v.parts with
  |false =>rw[bv,if_neg ψ]at hG;subst hG;refine i1 ?_;rw[<-hc];exact hF.ret (.tup []) T rfl trivial (ZH3 _) ZH2 ⟨rfl,hM,λ_ _=>rfl⟩
  |true =>
   rw[bv,if_pos rfl]at hG;have bq:I l=I v.parts:=by unfold WT at bv;rw[decide_eq_true_eq]at bv;simpa using congrArg List.length bv
   refine i0 ?_;refine ZE (Zc ?_);refine xP 6 λz6 h6=>?_;refine xP 5 λz5 h5=>?_;refine rg ?_;refine Zc ?_;refine xP 7 λz7 h7=>?_;have c3:z5≠z6:=λe=>by rw[e,ZH5]at h5;simp at h5
   have dr:z7≠z6:=λe=>by rw[e,ZH8 _ _ c3.symm,ZH5]at h7;simp at h7
   have dq:z7≠z5:=λe=>by rw[e,ZH5]at h7;simp at h7
   have t5:T z5=nO:=by rwa [ZH8 _ _ c3]at h5
   have t7:T z7=nO:=by rwa [ZH8 _ _ dq,ZH8 _ _ dr]at h7
   have nf:∀z,T z=nO->z∉fp:=λz hz hm=>by obtain⟨ds,h⟩:=hM.live z hm;rw[hz]at h;simp at h
   obtain⟨S0,bj⟩:∃S0,S0=((T.upd z6 (.cells [Zq l])).upd z5 (.cells c)).upd z7 (.cells [.fn (.func 45) [] [.ptr z6 0,.ptr z5 0]]):=⟨_,rfl⟩;have g6:S0 z6=sO (.cells [Zq l]):=by rw[bj,ZH8 _ _ dr.symm,ZH8 _ _ c3.symm,ZH5]
   have g5:S0 z5=sO (.cells c):=by rw[bj,ZH8 _ _ dq.symm,ZH5]
   have g7:S0 z7=sO (.cells [.fn (.func 45) [] [.ptr z6 0,.ptr z5 0]]):=by rw[bj,ZH5]
   have go:∀y,y≠z5->y≠z6->y≠z7->S0 y=T y:=λy k5 k6 k7=>by rw[bj,ZH8 _ _ k7,ZH8 _ _ k5,ZH8 _ _ k6]
   have ew:MT S0 v c fp:=hM.mono λy hy=>go y (λe=>nf _ t5 (e▸hy)) (λe=>nf _ h6 (e▸hy)) (λe=>nf _ t7 (e▸hy));have eh:T.sub S0:=λy o hy=>by rw[go y (λe=>by rw[e,t5]at hy;simp at hy) (λe=>by rw[e,h6]at hy;simp at hy) (λe=>by rw[e,t7]at hy;simp at hy)];exact hy
   rw[<-hc,<-bj];refine rx @g6 ?_;refine rx (nd2 @g6 @Zdk) ?_;by_cases h0:I v.parts=0;rw[h0]at bq hG;rw[bq];refine Zd (JT ?_);refine gI ?_;refine ZO rfl ?_;exact hF.fin (.tup []) T rfl trivial (ZH3 _) eh ⟨rfl,by rw[<-hG,show ZIf 0=[] from rfl,List.foldl_nil,Zag];exact hM,λ_ _=>rfl⟩
   skip
   obtain⟨x,cap,Zud,f,X,ea⟩:=ew.inv ω;have co:=ea.c;refine Zd (fr (I l) (λi Q=>∀P row A,FI T A v l P c fp x cap row f X z5 z6 z7->P=(ZIf i).foldl (Zai rec d m) v.parts->P.map ZJ=v.parts.map ZJ->(∀x∈P,ZX x=true)->i<=I l->Q [(3,.loc 3 0),(4,.loc 4 0),(5,.d (.ptr z5 0)),(7,.d (.ptr z7 0)),(8,.d (.fn (.func 47) [] [.ptr z7 0])),(28,.d (Zq l)),(29,.d (.int .i64 (I l))),(30,.d (.int .i64 i))] [(3,d.cells),(4,m.cells)] A) (λn cu=>?_) λfh=>?_)
   .intro i hi P row A hA hP a9 c6 hil;refine rg ?_;refine Zc (Zl rfl trivial (λc8=>?_) (λc8=>?_))
    .simp only[decide_eq_true_eq]at c8;have d7:i<I l:=ω;have ey:P.length=I v.parts:=Zkk a9;have ap:i<P.length:=ω;have c4:=hA.mn.len5;obtain⟨pi,b1,eb,c0,ed,bx⟩:=(hA.mn.kid i ap).cells4;have dy:(v.setPs P).parts=P:=rfl;rw[dy]at c4 b1 eb c0 bx;have bb:=hA.mn.b;rw[dy]at bb;have dc:=Zq6 (X:=X) (k:=4) c4 ap ω;rw[b1]at dc;have dh:(YA row P.length++X).length=P.length*5+X.length:=by rw[ZIc,QL c4]
     have ba:=hA.a5;rw[co]at ba;have db:l.getD i dE∈m.fields:=by
      have h1:l.getD i dE∈vfs m.fields:=by rw[hl];exact Zu d7
      exact(List.mem_filter.1 h1).1
     generalize da:l.getD i dE=f0 at *;refine xA (nd2 @atF (nd2 @da (nd2 @Zab @Zc1))) ?_;refine rx (nd2 @ba (nd2 @bb @dc)) ?_;refine⟨ω,ω,ed,?_⟩;refine rx @eQ0 ?_;obtain⟨x0,aq⟩:∃x0,x0=P.getD i dE:=⟨_,rfl⟩;refine jU [0] (λQ=>∀A',FI T A' v l (P.set i (QW rec d f0 x0)) c fp x cap row f X z5 z6 z7->Q F [(3,.loc 3 0),(4,.loc 4 0),(5,.d (.ptr z5 0)),(7,.d (.ptr z7 0)),(8,.d (.fn (.func 47) [] [.ptr z7 0])),(9,.d (.int .i64 i)),(10,.loc 10 0),(11,.loc 11 0),(28,.d (Zq l)),(29,.d (.int .i64 (I l))),(30,.d (.int .i64 i))] [(3,d.cells),(4,m.cells),(10,f0.cells),(11,[pi])] A') ?_ λj1=>?_
     .clear bb ba dc hA;intro A' hA;obtain⟨a,ha,hav,_,d3⟩:=Jf (l:=m.fields) (k:=i) (by rw[hl];exact d7);rw[hl,da]at d3;have ce:f0.kind=4\/f0.kind=7\/f0.kind=12->ZU f0.size=true:=λh=>by rw[d3]at h⊢;exact((hm.at_ ha).size ha h).1
      have aj:ZJ x0=ZJ (v.parts.getD i dE):=by have:=congrArg (λL:List Val=>L.getD i (ZJ dE)) a9;rw[aq];simpa only[ZIg,List.getElem?_map,Option.getD_map]using this
      have ar:ZJ (QW rec d f0 x0)=ZJ x0:=ZoU hpl;have cj:ZX (QW rec d f0 x0)=true:=ZvT hok (by rw[aq];exact c6 _ (Zu ap));have hP1p:(P.set i (QW rec d f0 x0)).map ZJ=v.parts.map ZJ:=by rw[Zkl (by rw[ar,aq]),a9]
      have dx:=ZtT (i:=i) c6 cj;have a0:(P.set i (QW rec d f0 x0)).getD i dE=QW rec d f0 x0:=by rw[Zfk ap,if_pos rfl]
      have cb:Zai rec d m P i=ZgG rec d m f0 (P.set i (QW rec d f0 x0)) i:=by unfold Zai;rw[hl,da,<-aq]
      have hx1x:(QW rec d f0 x0).name=x0.name/\(QW rec d f0 x0).bytes=x0.bytes:=by unfold QW;split<;>exact⟨rfl,rfl⟩
      have t:=ZgG.eq_1 rec d m f0 (P.set i (QW rec d f0 x0)) i;rw[hl,a0]at t;have hP1l:(P.set i (QW rec d f0 x0)).length=I v.parts:=by rw[List.length_set];exact ey
      generalize hP1:P.set i (QW rec d f0 x0)=P1 at *;generalize hx1:QW rec d f0 x0=x1 at *;have dg:=hA.mn.len5;have ae:=hA.mn.kid i (by show i<P1.length;omega);rw[show(v.setPs P1).parts=P1 from rfl]at dg ae;rw[a0]at ae;obtain⟨dn,ak,hpi',_,_,ay⟩:=ae.cells4;have ec:dn=pi:=by have:=ak.symm.trans b1;simp only[List.cons.injEq]at this;exact this.2.2.2.2.1
      subst ec;have bb:=hA.mn.b;rw[show(v.setPs P1).parts=P1 from rfl]at bb;have d4:=Zq6 (X:=X) (k:=2) dg (show i<P1.length by omega) ω;rw[ak]at d4;have dh:(YA row P1.length++X).length=P1.length*5+X.length:=by rw[ZIc,QL dg]
      have ba:=hA.a5;rw[co]at ba;have hfew:=hv.few;have cg:I l=(v.setPs P1).parts.length:=by rw[show(v.setPs P1).parts=P1 from rfl];omega
      have cs:(v.setPs P1).parts.length<=1000000:=by rw[show(v.setPs P1).parts=P1 from rfl];omega
      refine jU [0,0] (λQ=>∀A2 row2,FI T A2 v l (ZgG rec d m f0 P1 i) c fp x cap row2 f X z5 z6 z7->Q F [(3,.loc 3 0),(4,.loc 4 0),(5,.d (.ptr z5 0)),(7,.d (.ptr z7 0)),(8,.d (.fn (.func 47) [] [.ptr z7 0])),(28,.d (Zq l)),(29,.d (.int .i64 (I l))),(30,.d (.int .i64 i))] [(3,d.cells),(4,m.cells)] A2) ?_ λj2=>?_;intro A2 row2 ep;refine gA ?_;have d9:(ZIf (i+1)).foldl (Zai rec d m) v.parts=ZgG rec d m f0 P1 i:=by rw[List.range_succ,List.foldl_append,<-hP,List.foldl_cons,List.foldl_nil,cb]
      refine Ze ?_;exact cu ((I l)-(i+1)) ω (i+1) rfl _ _ A2 ep d9.symm (by rw[<-cb,Zg7 hpl,a9]) (by exact ZvS hok fb ω dx) ω;refine rx @eQ0 ?_;refine cd (λh4=>?_) (λh4=>?_);simp only[decide_eq_true_eq]at h4;rw[if_pos h4]at t;refine xA (nd2 @ba (nd2 @bb (nd2 @d4 (nd2 @KH @eQ0)))) ?_;refine vV0 ((ZcV l f0.size (ce (.inl h4)) (I x1.bytes) hA.mn cg cs hA.a5 hA.a6 hA.a7 ⟨hA.ne.1,hA.ne.2.1⟩).V (first:=[]) (caps:=[_])) ?_ ?_;rintro dd S ⟨hr,⟨row',hS⟩,ho⟩;cases hr;refine gR0 ?_;refine Zk (Zk ?_);exact j2 S row' (by rw[t];exact hA.num hS ho);rintro dd S ⟨hr,_⟩;cases hr;simp only[decide_eq_false_iff_not]at h4;rw[if_neg h4]at t;refine rx @eQ0 ?_;refine cd (λh7=>?_) (λh7=>?_);simp only[decide_eq_true_eq]at h7;rw[if_pos h7]at t;refine xA (nd2 @ay @eQ0) ?_;refine vV ((ZcV l f0.size (ce (.inr (.inl h7))) (I x1.parts) hA.mn cg cs hA.a5 hA.a6 hA.a7 ⟨hA.ne.1,hA.ne.2.1⟩).V (first:=[]) (caps:=[_])) ?_ ?_;rintro dd S ⟨hr,⟨row',hS⟩,ho⟩;cases hr;refine gR0 ?_;refine Zk (Zk ?_);exact j2 S row' (by rw[t];exact hA.num hS ho);rintro dd S ⟨hr,_⟩;cases hr;simp only[decide_eq_false_iff_not]at h7;rw[if_neg h7]at t;refine rx (nd2 @ay @eQ0) ?_;refine cd (λa4=>?_) (λa4=>?_);simp only[ZIb,decide_eq_true_eq]at a4;have bp:I x1.parts=1:=ω;rw[if_pos ⟨a4.1,bp⟩]at t;have bw:=(b0 _ db).ref (.inr (.inr a4.1));obtain⟨yi,u,al,fi,Xi,ab⟩:=ae.inv ω;have be:dn=.msl yi 0 (I x1.parts) u 5:=by have:=ak.symm.trans ab.c;simp only[List.cons.injEq]at this;exact this.2.2.2.2.1
      subst be;have ad:=ab.b;have ai:=ab.kid 0 ω;have ac:=Za8 Xi ab.len5 (show 0<I x1.parts by omega);unfold part at ac;rw[Nat.zero_mul,List.drop_zero]at ac;have br:=QL ab.len5;obtain⟨pg,am,_,_,cx,_⟩:=ai.cells4;have ch:VOk x1:=⟨cj,by rw[<-Zae,ar,aj,Zae];exact(hv.part (Zu ω)).wt⟩;have ej:ZP x1<=nn:=by
       have h1:=WL (Zu (l:=v.parts) (i:=i) ω);have h2:ZP x1=ZP (v.parts.getD i dE):=by rw[<-Kz,ar,aj,Kz]
       omega
      have bf:x1.parts.getD 0 dE∈x1.parts:=Zu ω;have az:=ch.part bf;have em:=WL bf;generalize x1.parts.getD 0 dE=y at *;have d8:∀m':Msg,LdC A' (fi 0) [.agg d.cells,.agg m'.cells,.agg (al 0)] [.agg d.cells,.agg m'.cells,.agg y.cells]:=λm'=>.cons (.refl _) (.cons (.refl _) (.cons (Z2.agg (ai.ld λ_ h=>h)) .nil));have et:Zf ZH1 24 [.agg d.cells,.agg (Zj d f0.of).cells,.agg y.cells] (Zis (Z4 d 51 (Zj d f0.of) y [])):=λst =>
       (Zdv d (Zj d f0.of) y (Z4 d 51 (Zj d f0.of) y []) st λS=>ZcW hI hd 51 (ixS d f0.of) y [] S (KZ bw).2 az ω ψ).mono λr S ⟨h1,h2⟩=>⟨h2,h1⟩
      have bh:=ZoF ai.live (d8 _) et (.agg _ λc hc=>by simp only[ZIF,List.not_mem_nil,or_false]at hc;rcases hc with rfl|rfl;exact .str _;exact .int _ _);rw[am]at ac bh;refine rx (nd2 @eQ2 @eQ0) ?_;refine cX @eQ3 (We d f0.of bw) ?_;refine aa ?_;refine rx (nd2 @ad (nd2 @ac @Nat.zero_mul)) ?_;refine⟨ω,ω,by rw[ZIc,br];omega,?_⟩;generalize hR:Z4 d 51 (Zj d f0.of) y []=R at *;unfold Zis at bh;refine cV0 (bh) ?_ ?_;rintro dd S ⟨hr,hS⟩;obtain rfl:=hS.symm;cases hr;refine gR0 ?_;refine rg ?_;refine cd (λhz=>?_) (λhz=>?_);simp only[decide_eq_true_eq]at hz;rw[if_pos hz]at t;have eu:=ZcX d hd.dok 51 (Zj d f0.of) y (hd.dok.of f0.of) az.ok az.wt (Zdf hd.dref 51 (Zj d f0.of) y [] (hd.dref.of f0.of) az.ok (by rw[hR];exact hz));have dw:=ZoF ai.live (d8 _) eu (.int _ _);rw[am]at dw;generalize lenS d 51 (Zj d f0.of) y=len at *;refine rx (nd2 @ad (nd2 @ac (nd2 @Nat.zero_mul (nd2 @eQ0 @eQ2)))) ?_;refine⟨ω,ω,by rw[ZIc,br];omega,?_⟩;refine cVD (dw) ?_ ?_;rintro dd S ⟨hr,hS⟩;obtain rfl:=hS.symm;cases hr;refine kF ?_;refine gR0 ?_;refine vVD ((ZcV l f0.size (ce (.inr (.inr a4.1))) len hA.mn cg cs hA.a5 hA.a6 hA.a7 ⟨hA.ne.1,hA.ne.2.1⟩).V (first:=[]) (caps:=[_])) ?_ ?_;rintro dd S ⟨hr,⟨row',hS⟩,ho⟩;cases hr;refine kF ?_;refine gR0 ?_;refine Zk (Zk ?_);exact j2 S row' (by rw[t];exact hA.num hS ho);rintro dd S ⟨hr,_⟩;cases hr;rintro dd S ⟨hr,_⟩;cases hr;simp only[decide_eq_false_iff_not]at hz;rw[if_neg hz]at t;refine ZE ?_;refine kE [3,4,5,7,8,28,29,30] ?_;refine Zk (Zk ?_);exact j2 A' row (by rw[t];exact hA);rintro dd S ⟨hr,_⟩;cases hr;rw[if_neg (by simp only[Bool.and_eq_false_iff,decide_eq_false_iff_not]at a4;omega)]at t;refine rx (nd2 @ay @eQ0) ?_;refine cd (λh9=>?_) (λh9=>?_)
      .simp only[ZIb,decide_eq_true_eq]at h9;have bp:I x1.parts=1:=ω;rw[if_pos ⟨h9.1,bp⟩]at t;obtain⟨yi,u,al,fi,Xi,ab⟩:=ae.inv ω;have be:dn=.msl yi 0 (I x1.parts) u 5:=by have:=ak.symm.trans ab.c;simp only[List.cons.injEq]at this;exact this.2.2.2.2.1
       have ch:VOk x1:=⟨cj,by rw[<-Zae,ar,aj,Zae];exact(hv.part (Zu ω)).wt⟩;have ej:ZP x1<=nn:=by
        have h1:=WL (Zu (l:=v.parts) (i:=i) ω);have h2:ZP x1=ZP (v.parts.getD i dE):=by rw[<-Kz,ar,aj,Kz]
        omega
       have bf:x1.parts.getD 0 dE∈x1.parts:=Zu ω;have az:=ch.part bf;have em:=WL bf;have ad:=ab.b;have ai:=ab.kid 0 ω;obtain⟨pg,am,_,_,cx,_⟩:=ai.cells4;rw[bp]at ad be;have hpr:=ad;rw[show YA al 1=al 0 from rfl,am]at ad;have ek:∃y,x1.parts=[y]:=by
        match hp:x1.parts,bp with
        | [y],_=>exact⟨y,rfl⟩
       obtain⟨y,a3⟩:=ek;rw[a3,show([y]:List Val).getD 0 dE=y from rfl]at ad ai am t bf az em;subst be;refine Zc ?_;refine xP 11 λaf bg=>?_;obtain⟨k1,k2,k3,k4⟩:=hA.live ω bg;have ei:T af=nO:=by rw[<-hA.out af k1 k2 k3 k4];exact bg
       have fg:yi≠af:=λe=>by rw[e,bg]at ad;simp at ad
       have hB:=hA.box ω bg (.cells [.msl yi 0 1 u 5]);have du:(A'.upd af (.cells [.msl yi 0 1 u 5])) yi=sO (.cells ([.str y.name,.int .i64 y.int,Zo y.bytes,Ym y.hdrs,pg]++Xi)):=by rw[ZH8 _ _ fg];exact ad
       have dv:(A'.upd af (.cells [.msl yi 0 1 u 5])) af=sO (.cells [.msl yi 0 1 u 5]):=ZH5 _ _ _;generalize eq:A'.upd af (.cells [.msl yi 0 1 u 5])=B0 at *;have dm:A'.sub B0:=by rw[<-eq];exact ZIr _ bg
       have aw:=ZpX.eq_1 rec d m f0 P1 i y;rw[hl]at aw;refine rx @eQ0 ?_;refine Jo rfl rfl rfl rfl rfl φ φ (by exact Za4 f0.cases (.fn (.func 50) [] [.ptr af 0]) (λc=>dC (c.of=y.name)) (λ_=>B0) (λq _=>(Zpc dv ω du ψ).VT (first:=[]) (args:=[_]) (caps:=[_]))) (Zp ?_);simp only[Eqs,reduceCtorEq,ZH9,reduceIte,ZH6,ZIa,ZH7];refine rg ?_;generalize d2:Zi (λc:YB=>dC (c.of=y.name)) f0.cases=ci at *;refine cd (λbk=>?_) (λbk=>?_);simp only[decide_eq_true_eq]at bk;rw[if_pos bk]at aw;refine ZO rfl ?_;refine kE [3,4,5,7,8,28,29,30] ?_;refine WW (s':=A') dm ?_;exact j2 A' row (by rw[t,aw];exact hA);simp only[decide_eq_false_iff_not]at bk;rw[if_neg bk]at aw;dsimp only at aw;have e2:0<=Zi (λc:YB=>dC (c.of=y.name)) f0.cases:=by rw[d2];omega
       have d1:=Wc (λc:YB=>dC (c.of=y.name)) f0.cases;have bl:=(QK e2).1;rw[d2]at d1 bl;simp only[decide_eq_true_eq]at bl;have cz:0<=Zy d y.name (I d.msgs):=by rw[<-bl];exact(b0 _ db).cas h9.1 _ (Zu ω)
       have dt:=hB.a5;rw[co]at dt;obtain⟨pv,fa,ef,_,_,_⟩:=(hB.mn.mt (by show 0<P1.length;omega)).cells4;have ee:pv=.msl x 0 (I v.parts) cap 5:=by have:=fa.symm.trans co;simp only[List.cons.injEq]at this;exact this.2.2.2.2.1
       subst ee;have cy:=ZyU (hB.mn.mt (by show 0<P1.length;omega)) ef m c1 ω (by rw[hl];exact cg);rw[show(v.setPs P1).parts=P1 from rfl]at cy;refine rx (nd2 @dt (nd2 @eQ0 @eQ3)) ?_;have e1:=Yz (vD:=YR) ZN f0.tag (JB m P1);have e3:=YH ZN f0.tag;simp only[show Ks f0.tag=D.str f0.tag from rfl]at e1 e3;have c5:=ZhK f0 ((Zr f0.tag (JB m P1)).getD 0);generalize d6:K8 f0 ((Zr f0.tag (JB m P1)).getD 0)=has at *;refine cVD (cy) ?_ ?_;rintro dd S ⟨b,e0,hr,hS⟩;subst hS;cases hr;refine kF ?_;refine gQ (nd2 @ZH5 (nd2 @e1 (nd2 @e3 @Zdm))) ?_;refine aa ?_;refine clD (c5) ?_;refine WW (s':=B0) (ZIr _ e0) ?_;have hasl:has<I f0.cases:=by rw[<-d6];exact Wc _ _
       refine rx (nd2 @dv (nd2 @du (nd2 @Nat.zero_mul (nd2 @ZCO @YB.cells.eq_1)))) ?_;refine⟨λh=>by simp only[decide_eq_true_eq]at h;exact⟨ω,ω⟩,λ_=>⟨ω,ω⟩,?_⟩;obtain⟨P2,a8⟩:∃P2,P2=(if has<0\/(f0.cases.getD has.toNat dE).of≠y.name then JP l f0.tag (f0.cases.getD ci.toNat dE).low P1 else P1):=⟨_,rfl⟩;rw[<-a8]at aw;have cw:P2=P1\/P2=JP l f0.tag (f0.cases.getD ci.toNat dE).low P1:=by rw[a8];split;exact .inr rfl;exact .inl rfl
       have hP2l:P2.length=P1.length:=by rcases cw with h|h<;>rw[h];exact ZfF
       have ag:(P2.getD i dE).parts=[y]:=by rcases cw with h|h;rw[h,a0];exact a3;rw[h,ZiO ω,a0];split;exact a3;exact a3
       refine jU [0] (λQ=>∀A3 av,FI (T.upd af (.cells [.msl yi 0 1 u 5])) A3 v l P2 c fp x cap av f X z5 z6 z7->(av i)[4]?=(row i)[4]?->Q F [(3,.loc 3 0),(4,.loc 4 0),(5,.d (.ptr z5 0)),(7,.d (.ptr z7 0)),(8,.d (.fn (.func 47) [] [.ptr z7 0])),(11,.d (.ptr af 0)),(28,.d (Zq l)),(29,.d (.int .i64 (I l))),(30,.d (.int .i64 i))] [(3,d.cells),(4,m.cells)] A3) ?_ λj3=>?_;intro A3 av hC di;have es:A3 af=sO (.cells [.msl yi 0 1 u 5]):=by rw[hC.out af k1 k2 k3 k4];exact ZH5 _ _ _
       have bo:=hC.mn.kid i (by show i<P2.length;omega);rw[show(v.setPs P2).parts.getD i dE=P2.getD i dE from rfl]at bo;obtain⟨yj,cv,cm,fj,Xj,bt⟩:=bo.inv (by rw[ag];exact Nat.zero_lt_one);have e7:=bt.c;have en:D.msl yj 0 (P2.getD i dE).parts.length cv 5=.msl yi 0 1 u 5:=by
        have h1:(av i)[4]?=sO (D.msl yj 0 (P2.getD i dE).parts.length cv 5):=by rw[e7];rfl
        rw[di,ak]at h1;simp only[List.getElem?_cons_succ,List.getElem?_cons_zero,ZH0]at h1;exact h1.symm
       simp only[D.msl.injEq]at en;obtain⟨rfl,_,_,_,_⟩:=en;have d0:=bt.b;have de:=bt.kid 0 (by rw[ag];exact Nat.zero_lt_one);rw[ag,show([y]:List Val).getD 0 dE=y from rfl]at de;obtain⟨pj,b2,_,_,hjok,_⟩:=de.cells4;rw[ag,show YA cm [y].length=cm 0 from rfl,b2]at d0;have ah:=hrec y.name y A3 (cm 0) (fj 0) cz az ω de;rw[b2]at ah;refine rx (nd2 @es (nd2 @d0 (nd2 @Nat.zero_mul @eQ2))) ?_;refine⟨ω,ω,ω,ω,?_⟩;refine clD (We d y.name cz) ?_;refine cVD (ah) ?_ ?_;rintro dd S ⟨hr,bn,ho⟩;cases hr;rw[<-b2]at bn;refine kF ?_;refine gR0 ?_;have dj:=bt.subK (i:=0) (by rw[ag];exact Nat.zero_lt_one) bn ho;have bi:=hC.sub (i:=i) ω dj (λq hq=>ho q λhf=>hq (bt.fmem (by rw[ag];exact Nat.zero_lt_one) hf));have fd:(P2.getD i dE).setP 0 (rec (Zj d y.name) y)=(P2.getD i dE).setPs [rec (Zj d y.name) y]:=by unfold Val.setP Val.setPs;rw[ag];rfl
       rw[fd,<-aw,<-t]at bi;obtain⟨bh,fe⟩:=bi.unbox k1 ⟨k2,k3,k4⟩ ei;refine Zk (Zk ?_);refine WW fe ?_;exact j2 _ av bh;rintro dd S ⟨hr,_⟩;cases hr;have e8:(max has 0).toNat=has.toNat:=ω;rw[e8];refine cd (λao=>?_) (λao=>?_);have ax:has<0\/(f0.cases.getD has.toNat dE).of≠y.name:=by simp only[ZIp,Bool.not_eq_true',decide_eq_false_iff_not]at ao;rcases ao with h|h;exact .inl ω;exact .inr h
       rw[if_pos ax]at a8;have er:=hB.a7;refine rx (nd2 @er (nd2 @eQ0 (nd2 @ZCO @YB.cells.eq_1))) ?_;refine⟨ω,ω,?_⟩;refine vV0 ((ZfG l f0.tag (f0.cases.getD ci.toNat dE).low hB.mn cg cs hB.a5 hB.a6 ⟨hB.ne.1,hB.ne.2.1⟩).V (first:=[]) (caps:=[_,_])) ?_ ?_;rintro dd S ⟨hr,⟨row',fc,hS⟩,ho⟩;cases hr;refine gR0 ?_;refine j3 S row' (by rw[a8];exact hB.num hS ho) ?_;rcases fc i (by show i<P1.length;omega) with h|h;rw[h];rw[h,ak];rfl;rintro dd S ⟨hr,_⟩;cases hr;have ax:¬(has<0\/(f0.cases.getD has.toNat dE).of≠y.name):=by simp only[Bool.or_eq_false_iff,Bool.not_eq_false',decide_eq_true_eq]at ao;intro h;rcases h with h|h;omega;exact h ao.2
       rw[if_neg ax]at a8;refine ZE ?_;refine kE [3,4,5,7,8,11,28,29,30] ?_;exact j3 B0 row (by rw[a8];exact hB) rfl;rintro dd S ⟨_,_,hr,_⟩;cases hr
      rw[if_neg (by simp only[Bool.and_eq_false_iff,decide_eq_false_iff_not]at h9;omega)]at t;refine ZE ?_;refine kE [3,4,5,7,8,28,29,30] ?_;refine Zk (Zk ?_);exact j2 A' row (by rw[t];exact hA)
     have ff:x0∈P:=by rw[aq];exact Zu ap
     have ca:P.set i x0=P:=by rw[aq];exact Zuf
     have aj:ZJ x0=ZJ (v.parts.getD i dE):=by have:=congrArg (λL:List Val=>L.getD i (ZJ dE)) a9;rw[aq];simpa only[ZIg,List.getElem?_map,Option.getD_map]using this
     have el:v.parts.getD i dE∈v.parts:=Zu ω;have c2:VOk x0:=⟨c6 _ ff,by rw[<-Zae,aj,Zae];exact(hv.part el).wt⟩;have hx0h:ZP x0<=nn:=by
      have h1:=WL el;have h2:ZP x0=ZP (v.parts.getD i dE):=by rw[<-Kz,aj,Kz]
      omega
     have hx0few:=c2.few;rw[<-aq]at b1 eb c0 bx;refine cd (λhk=>?_) (λhk=>?_);have cr:f0.kind=7\/f0.kind=8\/f0.kind=12:=by simp only[ZIp,decide_eq_true_eq]at hk;omega
     have bw:=(b0 _ db).ref cr;refine rx @bx ?_;refine Zd (fr (I x0.parts) (λj Q0=>∀A1 Q,FI T A1 v l (P.set i (x0.setPs Q)) c fp x cap row f X z5 z6 z7->Q.length=I x0.parts->(∀q,q<I x0.parts->Q.getD q dE=if q<j/\(x0.parts.getD q dE).name=f0.of then rec (Zj d f0.of) (x0.parts.getD q dE) else x0.parts.getD q dE)->j<=I x0.parts->Q0 [(3,.loc 3 0),(4,.loc 4 0),(5,.d (.ptr z5 0)),(7,.d (.ptr z7 0)),(8,.d (.fn (.func 47) [] [.ptr z7 0])),(9,.d (.int .i64 i)),(10,.loc 10 0),(11,.loc 11 0),(28,.d (Zq l)),(29,.d (.int .i64 (I l))),(30,.d (.int .i64 i)),(54,.d pi),(55,.d (.int .i64 (I x0.parts))),(56,.d (.int .i64 j))] [(3,d.cells),(4,m.cells),(10,f0.cells),(11,[pi])] A1) (λn au=>?_) λeo=>?_);intro j hj A1 Q cn c7 hQ hjl;refine rg ?_;refine Zc (Zl rfl trivial (λc9=>?_) (λc9=>?_));simp only[decide_eq_true_eq]at c9;have bc:j<Q.length:=ω;have e6:(P.set i (x0.setPs Q)).getD i dE=x0.setPs Q:=by rw[Zfk ap,if_pos rfl]
     have ae:=cn.mn.kid i (by show i<(P.set i (x0.setPs Q)).length;rw[List.length_set];exact ap);rw[show(v.setPs (P.set i (x0.setPs Q))).parts.getD i dE=x0.setPs Q from e6]at ae;obtain⟨yi,u,al,fi,Xi,ab⟩:=ae.inv (by show 0<Q.length;omega);have be:pi=.msl yi 0 Q.length u 5:=by have:=b1.symm.trans ab.c;simp only[List.cons.injEq]at this;exact this.2.2.2.2.1
     subst be;have ad:=ab.b;rw[show(x0.setPs Q).parts=Q from rfl]at ad;have ai:=ab.kid j bc;rw[show(x0.setPs Q).parts=Q from rfl]at ai;have ac:=Za8 Xi ab.len5 bc;rw[show(x0.setPs Q).parts=Q from rfl]at ac;unfold part at ac;have br:=QL ab.len5;rw[show(x0.setPs Q).parts=Q from rfl]at br;obtain⟨pg,am,_,_,cx,_⟩:=ai.cells4;rw[am]at ac;refine rx (nd2 @ad @ac) ?_;refine⟨ω,ω,by rw[ZIc,br];omega,?_⟩;have cp:=hQ j ω;rw[if_neg ω]at cp;have d5:Q.getD j dE∈x0.parts:=by rw[cp];exact Zu ω
     have e4:=c2.part d5;have hgh:=WL d5;have ah:=hrec f0.of (Q.getD j dE) A1 (al j) (fi j) bw e4 ω ai;rw[am]at ah;have dz:∀Q':List Val,(∀q,q<I x0.parts->q≠j->Q'.getD q dE=Q.getD q dE)->(Q'.getD j dE=if (x0.parts.getD j dE).name=f0.of then rec (Zj d f0.of) (x0.parts.getD j dE) else x0.parts.getD j dE) ->
       ∀q,q<I x0.parts->Q'.getD q dE=if q<j+1/\(x0.parts.getD q dE).name=f0.of then rec (Zj d f0.of) (x0.parts.getD q dE) else x0.parts.getD q dE:=λQ' h1 h2 q hq=>by
      by_cases bz:q=j;subst bz;rw[h2];simp;rw[h1 q hq bz,hQ q hq];simp only[show(q<j+1)=(q<j) from propext ω]
     generalize e5:Q.getD j dE=g at *;refine rx @eQ0 ?_;refine cd (λbu=>?_) (λbu=>?_);simp only[decide_eq_true_eq]at bu;refine rx (nd2 @eQ2 @eQ0) ?_;refine clD (We d f0.of bw) ?_;refine cVD (ah) ?_ ?_;rintro dd S ⟨hr,bn,ho⟩;cases hr;rw[<-am]at bn;refine kF ?_;refine gR0 ?_;have dj:=ab.subK (i:=j) bc bn ho;have bi:=cn.sub (i:=i) (by rw[List.length_set];exact ap) dj (λy hy=>ho y λhf=>hy (ab.fmem bc hf));rw[List.set_set,show(x0.setPs Q).setP j (rec (Zj d f0.of) g)=x0.setPs (Q.set j (rec (Zj d f0.of) g)) from rfl]at bi;refine gA ?_;refine Ze ?_;exact au ((I x0.parts)-(j+1)) ω (j+1) rfl S _ bi (by rw[List.length_set];exact c7) (dz _ (λq hq bz=>by rw[Zfk bc,if_neg bz]) (by rw[Zfk bc,if_pos rfl,<-cp,if_pos bu])) ω;rintro dd S ⟨hr,_⟩;cases hr;simp only[decide_eq_false_iff_not]at bu;refine gA ?_;refine Ze ?_;exact au ((I x0.parts)-(j+1)) ω (j+1) rfl A1 Q cn c7 (dz Q (λq hq bz=>rfl) (by rw[e5,<-cp,if_neg bu])) ω;simp only[decide_eq_false_iff_not]at c9;obtain rfl:j=I x0.parts:=ω;have ez:Q=x0.parts.map λy=>if y.name=f0.of then rec (Zj d f0.of) y else y:=by
      refine List.ext_getElem (by simp[c7]) λq h1 h2=>?_;have hq:q<I x0.parts:=by simpa using h2
      have h3:=hQ q hq;simp only[hq,true_and]at h3;rw[List.getElem_map];simpa[ZIg,h1,hq]using h3
     refine ZO rfl ?_;refine kE [3,4,5,7,8,9,10,11,28,29,30] ?_;refine j1 A1 ?_;unfold QW;rw[if_pos cr,<-ez];exact cn;refine eo _ 0 rfl A x0.parts ?_ rfl (λq hq=>by rw[if_neg ω]) ω;rw[Zag,ca];exact hA;refine ZE ?_;refine kE [3,4,5,7,8,9,10,11,28,29,30] ?_;refine j1 A ?_;have cr:¬(f0.kind=7\/f0.kind=8\/f0.kind=12):=by simp only[Bool.or_eq_false_iff,decide_eq_false_iff_not]at hk;omega
     unfold QW;rw[if_neg cr,ca];exact hA
    simp only[decide_eq_false_iff_not]at c8;obtain rfl:i=I l:=ω;refine ZO rfl ?_;refine hF.fin (.tup []) (λy=>if y=z5\/y=z6\/y=z7 then T y else A y) rfl trivial (ZH3 _) (λy o hy=>?_) ⟨rfl,?_,λy hy=>?_⟩;dsimp only at hy;split at hy;next h=>rcases h with rfl|rfl|rfl<;>simp_all
    exact hy;rw[<-hG,<-bq,<-hP];refine(hA.mn.mt (by show 0<P.length;rw[Zkk a9];omega)).mono λy hy=>?_;rw[if_neg λh=>by rcases h with rfl|rfl|rfl;exact hA.n5 hy;exact hA.n6 hy;exact hA.n7 hy];dsimp only;split;rfl;next h=>simp only[not_or]at h;exact hA.out y hy h.1 h.2.1 h.2.2
   exact fh _ 0 rfl v.parts Zud S0 ⟨by rw[Zag];exact ea,g5,g6,g7,nf _ t5,nf _ h6,nf _ t7,λy _ k5 k6 k7=>go y k5 k6 k7⟩ rfl rfl (Zcc.1 hv.ok).1 ω
 rintro dd S ⟨hr,_⟩;cases hr
def Zi8(hI:Qm){d}(u:WQ d):∀(n im v T c fp),im<I d.msgs->VOk v->ZP v<=n->n<=51->MT T v c fp ->
  Za ZH1 23 [.agg d.cells,.agg (d.msgs.getD im dE).cells,.agg c] T (ZmS (Wu d n (d.msgs.getD im dE) v) T c fp)
 |0,_,v,_,_,_,_,_,i,_,_=>by have:=QA v;omega
 |n+1,im,v,T,c,fp,him,hv,i,hn,t =>
  Zpd hI u n im him (Wu d n) v hv i ω (λs y=>Zad n _ y) (λs y h=>Zly (Zv6 u) n s y h) (λs g T c fp hs hg i t=>Zi8 hI u n (ixS d s) g T c fp (KZ hs).2 hg i ω t) t
def ZpG:D:=.agg [.str [],.int .i64 0,.nilsl,.nilsl,.nilsl]
def Zcy(d:Dfn)(s:Str)(v:Val):D×Int :=
 if Wo d&&KM v then (if Zy d s (I d.msgs)<0 then (ZpG,9) else
  if (Z4 d 51 (Zj d s) (Wu d 51 (Zj d s) v) []).2=0 then (.agg (Wu d 51 (Zj d s) v).cells,0) else (ZpG,(Z4 d 51 (Zj d s) (Wu d 51 (Zj d s) v) []).2)) else (ZpG,2)
def Zr0(hI:Qm)(d s v)(hs:ZX v=true->wtN v<=5000/\ZP v<=51):
  Zf ZH1 8 [.agg d.cells,.str s,.agg v.cells] (.tup [(Zcy d s v).1,.int .i64 (Zcy d s v).2]):=by
 refine Zh (cR 8 f8) λF st i=>?_;have hA:=ZmI d s v;have hS:=Zcy.eq_1 d s v;have hT:=atR.eq_1 d s v;generalize Zcy d s v=W at *;generalize atR d s v=X at *;cases ha:Wo d&&KM v with
 |false =>rw[ha,if_neg ψ]at hS hT;subst hS;subst hT;rw[ZIq]at *;refine rx @eQ2 ?_;refine rg ?_;refine cl (hA) ?_;refine rg ?_;refine i1 ?_;refine rg ?_;refine rt i ?_;rfl
 |true =>
  rw[ha,if_pos rfl]at hS hT;by_cases hf:Zy d s (I d.msgs)<0;rw[if_pos hf]at hS hT;subst hS;subst hT;rw[ZIq]at *;refine rx @eQ2 ?_;refine rg ?_;refine cl (hA) ?_;refine rg ?_;refine i1 ?_;refine rg ?_;refine rt i ?_;rfl;rw[if_neg hf]at hS hT;subst hT;simp only[ZIb]at ha;have ah:=KZ (d:=d) (s:=s) ω;have hd:=Q9 ha.1;obtain⟨hv,hh⟩:=Zch ha.2 hs;have am:VOk (Wu d 51 (Zj d s) v):=Zne hd hv;have ao:ZP (Wu d 51 (Zj d s) v)<=51:=by rw[ZgO];exact hh
  have ak:Zf ZH1 24 [.agg d.cells,.agg (Zj d s).cells,.agg (Wu d 51 (Zj d s) v).cells] (Zis (Z4 d 51 (Zj d s) (Wu d 51 (Zj d s) v) [])):=λst =>
   (Zdv d (Zj d s) _ _ st λS=>ZcW hI hd 51 (ixS d s) _ [] S ah.2 am ao ψ).mono λr S ⟨h1,h2⟩=>⟨h2,h1⟩
  have t:=λT c fp=>Zi8 hI hd 51 (ixS d s) v T c fp ah.2 hv hh ω;rw[show d.msgs.getD (ixS d s) dE=Zj d s from rfl]at t;have ac:=Zjc v hv st;generalize Wu d 51 (Zj d s) v=w at *;rw[ZIq v]at *;refine rx @eQ2 ?_;refine rg ?_;refine cX @eQ3 (hA) ?_;refine aa ?_;refine rg ?_;refine iG ?_;refine cV (ac) ?_ ?_;rintro dd S ⟨c,fp,hr,hM,ag,ai⟩;cases hr;obtain⟨p,hc,_,_,hpok,_⟩:=hM.cells4;have af:=t S c fp hM;rw[hc]at af hM⊢;refine gR0 ?_;refine aa ?_;refine rx (nd2 @eQ2 @eQ3) ?_;refine cV (af) ?_ ?_;rintro dd S2 ⟨hr,u,ad⟩;cases hr;have ae:=ZoF u.live (.cons (.refl (.agg d.cells)) (.cons (.refl (.agg (Zj d s).cells)) (.cons (Z2.agg (u.ld λ_ h=>h)) .nil))) ak (.agg _ λc hc=>by simp only[ZIF,List.not_mem_nil,or_false]at hc;rcases hc with rfl|rfl;exact .str _;exact .int _ _);generalize Z4 d 51 (Zj d s) w []=R at *;unfold Zis at ae;refine gR0 ?_;refine rx (nd2 @eQ2 @eQ3) ?_;refine cV (ae) ?_ ?_;rintro dd S3 ⟨hr,al⟩;obtain rfl:=al.symm;cases hr;refine gR0 ?_;refine rg ?_;have aj:∀b,b∉fp->S2 b=st b:=λb hb=>by rw[ad b hb,ai b hb]
  have ab:(∀b,b∉fp->S2 b=st b)->st.sub S2:=λh b o hb=>by rw[h b λhm=>by rw[ag b hm]at hb;simp at hb];exact hb
  refine cd (λhz=>?_) (λhz=>?_);simp only[Bool.not_eq_true',decide_eq_false_iff_not]at hz;rw[if_neg hz]at hS;subst hS;refine rg ?_;exact i rfl (by first|trivial|simp) (ZH3 _) (ab aj);simp at hz;rw[if_pos hz]at hS;subst hS;refine rg ?_;refine ZeZ fp u.live (LdE.refl _) (.cons (u.ld λ_ h=>h) .nil) ?_;exact i rfl (by rw[ZIq];exact⟨ψ,trivial,trivial⟩) (by rw[ZIq];exact ZH3 _) (λb o hb=>by unfold St.delL;rw[if_neg λhm=>by rw[ag b hm]at hb;simp at hb];exact ab aj b o hb);rintro dd S3 ⟨hr,_⟩;cases hr;rintro dd S2 ⟨hr,_⟩;cases hr;rintro dd S ⟨_,_,hr,_⟩;cases hr
def ZmC(v):Zal (ZJ v)=Zal v:=by
 induction v using Val.ind with
 |h v ih =>
  rw[ZaZ,Jk,Jk v];show 1+nodesL (v.parts.map ZJ)=_;have:∀l:List Val,(∀x∈l,Zal (ZJ x)=Zal x)->nodesL (l.map ZJ)=nodesL l:=λl i=>by
   induction l with
   |nil=>rfl
   |cons a r ih2=>rw[ZIj,nodesL,nodesL,i a ψ,ih2 λx t=>i x (by simp[t])]
  rw[this _ ih]
def Zyt{d s v}(h:(Zcy d s v).2≠0):(Zcy d s v).1=ZpG:=by
 unfold Zcy at h⊢;split at h;rename_i i;rw[if_pos i];split at h;rename_i t;rw[if_pos t];rename_i t;rw[if_neg t];split at h;simp at h;rename_i hm;rw[if_neg hm];rename_i i;rw[if_neg i]
def ZwL{d}(i:WQ d){n s v}(t:VOk v)(h:KM v=true):KM (Wu d n (Zj d s) v)=true:=by
 unfold KM at h⊢;rw[ZgO,<-ZmC,Zad,ZmC,(Zne i t).ok];simp only[ZIb]at h⊢;exact⟨h.1,trivial⟩
def ZuK{d s v}(hs:ZX v=true->wtN v<=5000/\ZP v<=51)(h:(Zcy d s v).2=0):
  ∃w,(Zcy d s v).1=.agg w.cells/\VOk v/\VOk w/\(ZX w=true->wtN w<=5000/\ZP w<=51)/\(WX d s w).2=0/\ZJ w=ZJ v/\((WX d s v).2=0->w=v)/\0<=ZiC d s w:=by
 unfold Zcy at h⊢;split at h;rename_i u;rw[if_pos u];split at h;simp at h;rename_i hf;rw[if_neg hf];split at h;rename_i hm;rw[if_pos hm];simp only[ZIb]at u;obtain⟨hv,hh⟩:=Zch u.2 hs;have hd:=Q9 u.1;have hw:VOk (Wu d 51 (Zj d s) v):=Zne hd hv;have t:ZP (Wu d 51 (Zj d s) v)<=51:=by rw[ZgO];exact hh
 have i:(WX d s (Wu d 51 (Zj d s) v)).2=0:=by unfold WX;rw[if_pos (by rw[ZIb];exact⟨u.1,ZwL hd hv u.2⟩),if_neg hf];exact hm
 refine⟨_,rfl,hv,hw,λ_=>⟨hw.wt,t⟩,i,Zad _ _ _,λh=>?_,?_⟩;unfold WX at h;rw[if_pos (by rw[ZIb];exact u),if_neg hf]at h;exact Zq2 hd 51 (ixS d s) 51 v [] (KZ ω).2 hv hh h;unfold ZiC;rw[if_pos i];exact(Zbc hd.dok 51 _ _ (hd.dok.of s) hw.ok).1;rename_i hm;simp at h;omega;simp at h
def Ztz{g w t Ln}(hs:Yh g t w)(hL:∀b∈Ln,∃ds,t b=sO (.cells ds)):Yh (KF g t Ln) (t.delL Ln) w:=by
 have hx:=Jw hs hL;have u:∀c,c∉Ln->(KF g t Ln).prot c=g.prot c:=λc hc=>by simp only[KF,if_neg hc]
 refine⟨λc x i=>?_,λc x i=>?_,λc hc=>?_,λn cs hc=>(hs.tabs n cs hc).mono hx⟩;simp only[St.delL]at i;by_cases hc:c∈Ln;simp[hc]at i;simp only[hc,if_false]at i;exact(hs.obj c x i).mono hx rfl (u c hc);simp only[St.delL]at i;by_cases hc:c∈Ln;simp[hc]at i;simp only[hc,if_false]at i;exact hs.kept c x i;have h1:=hs.fresh c hc;refine⟨(u c λh=>?_).trans h1.1,h1.2⟩;obtain⟨ds,hd⟩:=hL c h;have:=(hs.obj c _ hd).lt;omega
def Za.freeze{f args T Φ Ψ}(h:Za ZH1 f args T Φ)(hΦ:∀r S,Φ r S->∃Ln d i,r=.ret d/\(∀b∈Ln,∃ds,S b=sO (.cells ds))/\Z2 S Ln d i/\Ψ (.ret i) (S.delL Ln)):Za ZH1 f args T Ψ :=
 ⟨h.1,λg w vs hs ha=>(h.2 g w vs hs ha).mono λe w' ⟨g',S',r,he,u,hr,hq⟩=>by
  obtain⟨Ln,d,i,rfl,t,hl,hΨ⟩:=hΦ _ _ hq;have hx:=Jw u t;refine⟨KF g' S' Ln,S'.delL Ln,.ret i,he.trans hx,Ztz u t,?_,hΨ⟩;cases e<;>simp only[ZnU]at hr⊢;exact hl _ w' _ (ZeQ u t) (Rep.mono hr hx)⟩
def Z2.mslO{t:St}{Ln:List Nat}{b off n cap sz:Nat}(hb:b∈Ln)(ht:t b=sO (.cells ds))(hlen:off+n*sz<=I ds)(hrow:∀i,i<n->LdC t Ln ((ds.drop (off+i*sz)).take sz) (row i)):Z2 t Ln (.msl b off n cap sz) (.sl .none n sz row):=by
 intro g w v hf hr;obtain⟨vs,T,hh,hsz,hc,one,hp⟩:=hf b hb ds ht;cases hr with
 |mslx a _ _ _=>exact .sl0 _ _ _ _ ψ
 |msl _ _ _ _ _ hcap hbig =>
 have ab:∀i j,i<n->j<sz->off+i*sz+j<I ds:=λi j hi hj=>by have:(i+1)*sz<=n*sz:=ZIn _ hi;rw[ZIs,Nat.one_mul]at this;omega
 have u:∀i j,i<n->j<sz->vs[off+i*sz+j]?=sO (vs.getD (off+i*sz+j) undef):=λi j hi hj=>by have h1:=ab i j hi hj;simp only[ZIN,Array.getElem?_eq_getElem (show off+i*sz+j<vs.size by omega),ZIH]
 have ac:∀i j,i<n->j<sz->vs.getD (off+i*sz+j) undef∈vs:=λi j hi hj=>by have h1:=ab i j hi hj;simp only[ZIN,Array.getElem?_eq_getElem (show off+i*sz+j<vs.size by omega),ZIH];exact Array.getElem_mem _
 have ad:∀i,i<n->(row i).length=sz:=λi hi=>by rw[<-(hrow i hi).len,ZIm,ZIG];have:(i+1)*sz<=n*sz:=ZIn _ hi;rw[ZIs,Nat.one_mul]at this;omega
 refine .sl b off n cap sz row .none (λi j=>vs.getD (off+i*sz+j) undef) ad (λi j hi hj=>?_) (λi j hi hj=>?_) (λi j d hi hd=>?_) (λi j hi hj=>one _ (ac i j hi hj)) trivial hcap hbig;rw[JU hh];exact u i j hi hj;have:=ab i j hi hj;omega;have hj:j<sz:=by rw[<-ad i hi];exact(List.getElem?_eq_some_iff.1 hd).1
 obtain⟨x,hx,ae⟩:=(hrow i hi).get hd;rw[ZII,if_pos hj,List.getElem?_drop]at hx;exact ae g w _ hf (hc _ _ x (u i j hi hj) hx)
def ZxG{l:List UInt8}{x n c off:Nat}{X:List D}{Ln:List Nat}(u:x∈Ln)(h:s x=sO (.cells ((l.map u8C).flatten++X)))(t:n=(l.drop off).length)(ho:off<=I l):Z2 s Ln (.msl x off n c 1) (Zo (l.drop off)):=by
 subst t;rw[ZeU]at h;refine Z2.mslO u h (by rw[ZIc,ZIo,ZIG];omega) λj i=>?_;rw[ZIG]at i;rw[Nat.mul_one];have:(((l.map λc=>D.int .u8 c.toNat)++X).drop (off+j)).take 1=u8C ((l.drop off).getD j dE):=by rw[List.drop_append_of_le_length (by rw[ZIo];omega),<-List.map_drop,Wn ω,ZIj,List.cons_append,List.take_succ_cons,List.take_zero];simp[u8C,ZIg,List.getElem?_drop]
 rw[this];exact LdC.refl _
def ZqP{P}{F:Fr P}{dk:List W2}{s T:St}{l:List UInt8}{D1 ob t}(hB:Buf s 1 (l.map u8C) D1 ob)(u:T.sub s)(hob:∀x,ob=sO x->T x=nO)(k:Zv F dk [(t,.d (Zo l))] [] T):Zv F dk [(t,.d D1)] [] s:=by
 cases hB with
 |nil h =>have hl:l=[]:=List.map_eq_nil_iff.1 h;subst hl;exact WW u (Zvi (.cons (.d (YV λb h=>by cases h)) .nil) .nil k)
 |obj x cap X h hX hc =>
  have i:(l.map u8C).length=I l:=by rw[ZIo]
  refine ZeZ (H':=[(t,.d (Zo l))]) (L':=[]) [x] (λb hb=>by simp only[List.mem_singleton]at hb;subst hb;exact⟨_,h⟩) ?_ ?_ (WW (λy o hy=>?_) k);refine .cons ?_ .nil;rw[i];exact ZxG (off:=0) ψ h rfl (Nat.zero_le _);exact .nil;have:=hob x rfl;simp only[St.delL,List.mem_singleton];rw[if_neg λe=>by rw[e,this]at hy;cases hy];exact u y o hy
def ZBR{f args}{T:St}{n c sz:Nat}(h:Za ZH1 f args T λr S=>∃z,T z=nO/\r=.ret (.msl z 0 n c sz)/\S=T.upd z (.cells ds))(hl:n*sz<=I ds)(hr:∀j,j<n->(ds.drop (j*sz)).take sz=row j):
  Za ZH1 f args T λr S=>r=.ret (.sl .none n sz row)/\S=T:=Za.freeze h λr S ⟨z,hz,i,t⟩=>by
 subst t;refine⟨[z],_,_,i,λb u=>?_,Z2.msl (List.mem_singleton.2 rfl) (ZH5 _ _ _) hl λj hj=>?_,rfl,?_⟩;rw[List.mem_singleton.1 u];exact⟨_,ZH5 _ _ _⟩;rw[hr j hj];exact LdC.refl _;funext y;simp only[St.delL,List.mem_singleton];by_cases h:y=z;rw[if_pos h,h,hz];rw[if_neg h,ZH8 _ _ h]
def ZnG(k:Int):Zf ZH1 208 [QB [k],.int .i64 8] (QB (List.replicate 8 k)):=λT=>by
 refine ZBR (n:=8) (c:=8) (sz:=1) (row:=λi=>itC ((List.replicate 8 k).getD i dE)) (Zmf k T) (by rw[List.length_replicate];omega) λj hj=>?_;rcases(by omega:j=0\/j=1\/j=2\/j=3\/j=4\/j=5\/j=6\/j=7) with rfl|rfl|rfl|rfl|rfl|rfl|rfl|rfl<;>rfl
def Zkx:Nat->List Nat->List Nat
 |0,s=>s
 |n+1,s=>Zkx n (ZgL 8 0 s)
def Zzd(s):Zkx 0 s=s:=rfl
def Zzc(n s):Zkx (n+1) s=Zkx n (ZgL 8 0 s):=rfl
def S16.rnd:∀{n s},S16 s->S16 (Zkx n s)
 |0,_,h=>h
 |n+1,s,h=>S16.rnd (n:=n) h.dbl
def leW(v:Nat):List UInt8:=[UInt8.ofNat v,UInt8.ofNat (v / 256),UInt8.ofNat (v / 65536),UInt8.ofNat (v / 16777216)]
def ZiG(R s:List Nat):Nat->List UInt8
 |0=>[]
 |i+1=>ZiG R s i++leW ((R.getD i 0+s.getD i 0) % 4294967296)
def Zns{R s}:∀{n},(ZiG R s n).length=4*n
 |0=>rfl
 |n+1=>by rw[ZiG,ZIc,Zns];simp only[leW,ZIi,List.length_nil];omega
def Zh8(s:List Nat):List UInt8:=ZiG (Zkx 10 s) s 16
def Zsq(v:Nat)(k:Nat):IntKind.u8.wrap ((v / k:Nat):Int)=((UInt8.ofNat (v / k)).toNat:Int):=by
 rw[UInt8.toNat_ofNat'];have i:∀n:Nat,IntKind.u8.wrap (n:Int)=(n:Int) % 256:=λn=>rfl;rw[i];omega
def Zqt(v:Nat){k:Nat}(i:k<=32):QI .u32 (v:Int) (k:Int)=((v / 2 ^ k:Nat):Int):=by
 unfold QI;rw[Int.toNat_natCast,show Nat.min k IntKind.u32.bits=k from Nat.min_eq_left i,Int.fdiv_eq_ediv_of_nonneg _ (by exact_mod_cast Nat.zero_le _)]
 push_cast
 rfl
def Zn4{s:List Nat}(hs:S16 s):Zf ZH1 244 [.agg (s.map w32)] (Zo (Zh8 s)):=by
 refine Zh (cR 244 f244) λF st ae=>?_;obtain⟨R,hR⟩:∃R,Zkx 10 s=R:=⟨_,rfl⟩;have hB:Zh8 s=ZiG R s 16:=by unfold Zh8;rw[hR]
 have hRS:S16 R:=by rw[<-hR];exact hs.rnd
 rw[hB]at ae;have hL:(List.map w32 s).length=16:=by rw[ZIo];exact hs.1
 have hT:List.take 16 (List.map w32 s)=List.map w32 s:=List.take_of_length_le ω;refine rg ?_;refine xA (nd2 @hL @hT) ?_;refine Zc (Zc ?_);refine xP 3 λz hz=>?_;refine rg ?_;refine Zd (fr (10) (λi Q=>∀s1,S16 s1->Zkx (10-i) s1=R->i<=10->Q [(1,.loc 1 0),(3,.d (.ptr z 0)),(8,.d (.int .i64 i))] [(1,s.map w32)] (st.upd z (.cells (s1.map w32)))) (λn ad=>?_) λax=>?_)
 .intro i hn2 s1 ac hp hi;refine rg ?_;refine Zc (Zl rfl trivial (λhd=>?_) (λhd=>?_));simp only[decide_eq_true_eq]at hd;rw[show 10-i=(10-(i+1))+1 by omega,Zzc]at hp;refine rg ?_;refine cV (Zm5 ac (ZH5 _ _ _)) ?_ ?_;rintro d S ⟨hr,hS⟩;rw[ZIk]at hS;subst hS;cases hr;refine gR0 ?_;refine gA ?_;refine Ze ?_;exact ad ((10)-(i+1)) ω (i+1) rfl _ ac.dbl hp ω;rintro d S ⟨hr,_⟩;cases hr;simp only[decide_eq_false_iff_not]at hd;obtain rfl:i=10:=ω;rw[Nat.sub_self,Zzd]at hp;subst hp;refine rg ?_;refine⟨ω,ω,ω,by unfold big;omega,λx hx=>?_⟩;obtain⟨av,aj⟩:=Zm hx;have ap:(List.map w32 s1).length=16:=by rw[ZIo];exact ac.1
  have aq:List.take 16 (List.map w32 s1)=List.map w32 s1:=List.take_of_length_le ω;have aw:∀o,((st.upd z (.cells (s1.map w32))).upd x o) z=sO (.cells (s1.map w32)):=λo=>by rw[ZH8 _ _ av.symm,ZH5]
  have ao:Buf ((st.upd z (.cells (s1.map w32))).upd x (.cells (W6 [D.int .u8 0] 64))) 1 ((ZiG s1 s 0).map u8C) (.msl x 0 0 64 1) (sO x):=.obj x 64 (W6 [D.int .u8 0] 64) (ZH5 _ _ _) rfl (Nat.zero_le _);refine xA (nd2 @aw (nd2 @ap @aq)) ?_;refine Zd (fr (16) (λj Q=>∀D1 ob S1,Buf S1 1 ((ZiG s1 s j).map u8C) D1 ob->st.sub S1->(∀y,ob=sO y->st y=nO)->j<=16->Q [(1,.loc 1 0),(4,.d D1),(13,.d (.agg (s1.map w32))),(14,.d (.int .i64 j))] [(1,s.map w32)] S1) (λn u=>?_) λak=>?_)
  .intro j hn3 D1 ob S1 ab t ai hj;refine rg ?_;refine Zc (Zl rfl trivial (λaf=>?_) (λaf=>?_))
   .simp only[decide_eq_true_eq]at af;have hRl:=ac.1;have hsl:=hs.1;have r1:=ZhW (s:=s1) (q:=j) ω;have r2:=ZhW (s:=s) (q:=j) ω;have au:ZiG s1 s (j+1)=ZiG s1 s j++leW ((s1.getD j 0+s.getD j 0) % 4294967296):=rfl;have hol:=Zns (R:=s1) (s:=s) (n:=j);refine xA @r1 ?_;have wv:IntKind.u32.wrap ((s1.getD j 0:Nat)+(s.getD j 0:Nat):Int)=(((s1.getD j 0+s.getD j 0) % 4294967296:Nat):Int):=by rw[<-Zb3];push_cast;rfl
    have lv:(s1.getD j 0+s.getD j 0) % 4294967296<4294967296:=Nat.mod_lt _ (by decide);refine rh ?_;refine WM ?_;simp only[Eqs,reduceCtorEq,ZH9,reduceIte,ZH6,ZIa,ZH7,W5,KC,r2,hL];refine aa ?_;refine Zb6 rfl rfl rfl φ (WM ?_);simp only[Eqs,reduceCtorEq,ZH9,reduceIte,ZH6,ZIa,ZH7,W5,KC,wv];generalize (s1.getD j 0+s.getD j 0) % 4294967296=v at *;have h8:QI .u32 (v:Int) 8=((v / 256:Nat):Int):=Zqt v (k:=8) (by decide);have al:QI .u32 (v:Int) 16=((v / 65536:Nat):Int):=Zqt v (k:=16) (by decide);have am:QI .u32 (v:Int) 24=((v / 16777216:Nat):Int):=Zqt v (k:=24) (by decide);have c0:IntKind.u8.wrap (v:Int)=((UInt8.ofNat v).toNat:Int):=by have:=Zsq v 1;rwa [Nat.div_one]at this
    have c1:=Zsq v 256;have c2:=Zsq v 65536;have c3:=Zsq v 16777216;refine xA (nd2 @h8 (nd2 @al (nd2 @am (nd2 @c0 (nd2 @c1 (nd2 @c2 @c3)))))) ?_;refine Zld rfl rfl (ab) (by exact ZeT) rfl rfl φ φ (.elems rfl) (by rw[ZIo];omega) (by rw[ZIo];unfold big;omega) (by (show _=(leW v).map u8C;rfl)) (by exact ZeT) λs1 D1 ay ab ag=>?_;refine gR0 ?_;refine gA ?_;have ah:∀y o,st y=sO o->ob≠sO y:=λy o hy e=>by rw[ai y e]at hy;cases hy
    refine Ze ?_;exact u ((16)-(j+1)) ω (j+1) rfl D1 ay s1 (by rw[au,List.map_append];exact ab) (λy o hy=>(ag y o (t y o hy) (ah y o hy)).1) (λy e=>by
     cases hy:st y with
     |none=>rfl
     |some o=>exact absurd e (ag y o (t y o hy) (ah y o hy)).2) ω
   simp only[decide_eq_false_iff_not]at af;obtain rfl:j=16:=ω;refine rg ?_;refine ZqP ab t ai ?_;exact ae rfl φ (ZH3 _) ZH2
  have ar:st.sub ((st.upd z (.cells (s1.map w32))).upd x (.cells (W6 [D.int .u8 0] 64))):=λy o hy=>by
   have e1:y≠x:=λe=>by rw[e,aj]at hy;cases hy
   have e2:y≠z:=λe=>by rw[e,hz]at hy;cases hy
   rw[ZH8 _ _ e1,ZH8 _ _ e2];exact hy
  exact ak _ 0 rfl _ _ _ ao ar (λy e=>by cases e;exact aj) ω
 exact ax _ 0 rfl s hs hR ω
def ZeN(v:Int):Bool:=dC (0<=v)&&dC (v<=4294967295)
def Zhu(v:Int):Zf ZH1 207 [.int .i64 v] (.bool (ZeN v)):=by
 refine Zh (cR 207 f207) λF st i=>?_;refine gG ?_;refine rb i ?_;unfold ZeN;cases dC (0<=v)<;>rfl
def ZlR{v:Int}:Zf ZH1 243 [.int .i64 v] (.bool (!ZeN v)):=by
 refine Zh (cR 243 f243) λF st i=>?_;refine gG ?_;refine cl (Zhu v) ?_;refine rb i ?_;rfl
def ZgY(k c:Nat):List Nat:=[1634760805,857760878,2036477234,1797285236,k,k,k,k,k,k,k,k,c,0,0,0]
def Zj4(k c:Nat):List Int:=[1634760805,857760878,2036477234,1797285236,k,k,k,k,k,k,k,k,c,0,0,0]
def ZBX{k c}(hk:k<4294967296)(hc:c<4294967296):S16 (ZgY k c):=⟨rfl,λx i=>by
 simp only[ZgY,ZIF,List.not_mem_nil,or_false]at i;omega⟩
def ZBW{k c}(u:k<4294967296)(t:c<4294967296)(i:Nat)(hi:i<16):IntKind.u32.wrap ((Zj4 k c).getD i dE)=((ZgY k c).getD i 0:Nat):=by
 have h:∀n:Nat,n<4294967296->IntKind.u32.wrap (n:Int)=(n:Int):=λn hn=>by rw[Zb3,Nat.mod_eq_of_lt hn]
 rcases(by omega:i=0\/i=1\/i=2\/i=3\/i=4\/i=5\/i=6\/i=7\/i=8\/i=9\/i=10\/i=11\/i=12\/i=13\/i=14\/i=15) with rfl|rfl|rfl|rfl|rfl|rfl|rfl|rfl|rfl|rfl|rfl|rfl|rfl|rfl|rfl|rfl;all_goals first|exact h k u|exact h c t|rfl
def ZDO(a b c d:Int):(D.sl .full 4 1 (ZZ [.int .i64 0] ([0,1,2,3].zip [.int .i64 a,.int .i64 b,.int .i64 c,.int .i64 d]))).Le (QB [a,b,c,d]):=Zh5 rfl λi hi=>by
 rcases(by omega:i=0\/i=1\/i=2\/i=3) with rfl|rfl|rfl|rfl<;>rfl
def ZBb(a:Int):(D.sl .full 1 1 (ZZ [.int .i64 0] ([0].zip [.int .i64 a]))).Le (QB [a]):=Zh5 rfl λi hi=>by
 obtain rfl:i=0:=ω;rfl
def ZDP{t1 t2 t3 t4:Tok}{n1 n2 n3 n4:Nat}{r1 r2 r3 r4:Nat->List D}{t u l3 l4:List Int}(h1:(D.sl t1 n1 1 r1).Le (QB t))(h2:(D.sl t2 n2 1 r2).Le (QB u))(h3:(D.sl t3 n3 1 r3).Le (QB l3))(h4:(D.sl t4 n4 1 r4).Le (QB l4)):
  (D.sl .full 4 1 (ZZ [.nilsl] ([0,1,2,3].zip [.sl t1 n1 1 r1,.sl t2 n2 1 r2,.sl t3 n3 1 r3,.sl t4 n4 1 r4]))).Le (slD 1 liC [t,u,l3,l4]) :=
 Zvj.trans (ZxW λi hi=>by
  rcases(by omega:i=0\/i=1\/i=2\/i=3) with rfl|rfl|rfl|rfl;exact LeC.one h1;exact LeC.one h2;exact LeC.one h3;exact LeC.one h4)
def Zez(K:List Nat)(i:Nat):List D:=(K.take i).map w32++List.replicate (16-i) (.int .u32 0)
def Zyy{K:List Nat}(h:K.length=16){i}(hi:i<=16):(Zez K i).length=16:=by
 unfold Zez;rw[ZIc,ZIo,ZIm,List.length_replicate];omega
def Zyz{K:List Nat}(h:K.length=16){i}(hi:i<16):(Zez K i).take i++[.int .u32 (K.getD i 0:Nat)]++(Zez K i).drop (i+1)=Zez K (i+1):=by
 have t:((K.take i).map w32).length=i:=by rw[ZIo,ZIm];omega
 have u:K.take (i+1)=K.take i++[K.getD i 0]:=by rw[List.take_succ,ZIw ω];simp[ZIg,show i<K.length by omega]
 unfold Zez;rw[List.take_left' t,show 16-i=1+(16-(i+1)) by omega,<-List.replicate_append_replicate,<-ZIv ((K.take i).map w32),List.drop_left' (by rw[ZIc,t];rfl),u,List.map_append];rfl
def Zn3{k c:Nat}(hk:k<4294967296)(hc:c<4294967296):Zf ZH1 209 [QB (List.replicate 8 (k:Int)),QB [0,0,0],.int .i64 c] (.tup [Zo (Zh8 (ZgY k c)),.int .i64 0]):=by
 refine Zh (cR 209 f209) λF st af=>?_;have ap:=ZDP (ZDO 1634760805 857760878 2036477234 1797285236) (ZH3 (QB (List.replicate 8 (k:Int)))) (ZBb (c:Int)) (ZH3 (QB [0,0,0]));have ah:([[1634760805,857760878,2036477234,1797285236],List.replicate 8 (k:Int),[(c:Int)],[0,0,0]]:List (List Int)).flatten=Zj4 k c:=rfl;have u:=Za.leA (LeC.one ap) (ZiR [[1634760805,857760878,2036477234,1797285236],List.replicate 8 (k:Int),[(c:Int)],[0,0,0]] (Nat.le_of_ble_eq_true rfl) (Nat.le_of_ble_eq_true rfl) st);rw[ah]at u;have ac:((Zj4 k c).any λv=>!ZeN v)=false:=by simp only[Zj4,List.any_cons,List.any_nil,ZeN];simp;omega
 have ai:Zf ZH1 242 [QB (Zj4 k c),.fn (.func 243) [] []] (.bool false):=λst=>by have:=Zep (Zj4 k c) (.fn (.func 243) [] []) (λv=>!ZeN v) (λ_=>st) λi _=> ZlR.VT (first:=[]) (caps:=[]) st;rw[ac]at this;exact this
 have ao:(Zj4 k c).length=16:=rfl;have al:=ZBW hk hc;have hS:=ZBX hk hc;generalize Zj4 k c=KI at *;generalize ZgY k c=KS at *;refine gG ?_;refine⟨rfl,?_⟩;refine cV (u) ?_ ?_;rintro d S ⟨hr,ag⟩;obtain rfl:=ag.symm;cases hr;refine gR0 ?_;have hlk:((List.replicate 8 (k:Int)).length:Int)=8:=rfl;have hl0:(([0,0,0]:List Int).length:Int)=3:=rfl;refine rx (nd2 @QB.eq_1 @eQ1) ?_;refine cG (ai) ?_;refine iG ?_;refine rg ?_;rw[ao];have ab:=hS.1;refine Zd (fr (16) (λi Q=>i<=16->Q [(9,.loc 9 0),(31,.d (.sl .none 16 1 λi=>itC (KI.getD i dE))),(32,.d (.int .i64 (16:Nat))),(33,.d (.int .i64 i))] [(9,Zez KS i)] st) (λn t=>?_) λau=>?_);intro i hn2 hi;refine rg ?_;refine Zc (Zl rfl trivial (λhd=>?_) (λhd=>?_));simp only[decide_eq_true_eq]at hd;have ad:i<16:=ω;have aj:=Zyy ab hi;have ak:=Zyz ab ad;have am:=al i ad;refine xA @itC.eq_1 ?_;refine xA (nd2 @am (nd2 @aj (nd2 @ak @Nat.mul_one))) ?_;refine gA ?_;refine Ze ?_;exact t ((16)-(i+1)) ω (i+1) rfl ω;simp only[decide_eq_false_iff_not]at hd;obtain rfl:i=16:=ω;have ae:Zez KS 16=KS.map w32:=by unfold Zez;rw[List.take_of_length_le ω,Nat.sub_self];simp
 rw[ae];have aq:(KS.map w32).length=16:=by rw[ZIo];exact ab
 have ar:List.take 16 (KS.map w32)=KS.map w32:=List.take_of_length_le ω;refine xA (nd2 @aq @ar) ?_;refine cl (Zn4 hS) ?_;refine rt af ?_;rfl;exact au _ 0 rfl ω;rintro d S ⟨hr,_⟩;cases hr
def ZlJ(k i:Nat):UInt8:=(Zh8 (ZgY k (i / 64))).getD (i % 64) dE
def Zbq(k:Nat):Nat->List UInt8->List UInt8
 |_,[]=>[]
 |i,x::r=>(x ^^^ ZlJ k i)::Zbq k (i+1) r
def J6(k:Nat)(b:List UInt8):List UInt8:=if k=0 then b else Zbq k 0 b
def ZdB{k}:∀{b i},(Zbq k i b).length=I b
 | [],_=>rfl
 |x::r,i=>by rw[Zbq,ZIi,ZdB,ZIi]
def ZrG{k}:∀{b i x},Zbq k i (b++[x])=Zbq k i b++[x ^^^ ZlJ k (i+I b)]
 | [],i,x=>rfl
 |y::r,i,x=>by rw[List.cons_append,Zbq,ZrG,Zbq,ZIi,show i+1+I r=i+(I r+1) by omega];rfl
def Zz3{k b}:(J6 k b).length=I b:=by
 unfold J6;split;rfl;exact ZdB
def ZaX(k:Nat)(b:List UInt8)(n:Nat):List UInt8:=Zbq k 0 (b.take n)++b.drop n
def ZAB{k b n}:(ZaX k b n).length=I b:=by
 unfold ZaX;rw[ZIc,ZdB,<-ZIc,List.take_append_drop]
def ZB4{k b n}(h:n<I b):(ZaX k b n).getD n dE=b.getD n dE:=by
 unfold ZaX;have i:(Zbq k 0 (b.take n)).length=n:=by rw[ZdB,ZIm];omega
 rw[Wn h];simp only[ZIg];rw[ZIL ω,i,Nat.sub_self];rfl
def ZAC{k b n}(h:n<I b):(ZaX k b n).set n (b.getD n dE ^^^ ZlJ k n)=ZaX k b (n+1):=by
 have u:(Zbq k 0 (b.take n)).length=n:=by rw[ZdB,ZIm];omega
 have i:(b.take n).length=n:=by rw[ZIm];omega
 have t:ZaX k b (n+1)=Zbq k 0 (b.take n)++[b.getD n dE ^^^ ZlJ k n]++b.drop (n+1):=by unfold ZaX;rw[Yo h,ZrG,i,Nat.zero_add]
 rw[t];unfold ZaX;rw[Wn h,List.set_append_right _ _ ω,u,Nat.sub_self];simp
def ZDC(x y:UInt8):Qh .xor .u8 (x.toNat:Int) (y.toNat:Int)=((x ^^^ y).toNat:Int):=by
 have hx:=x.toNat_lt;have hy:=y.toNat_lt;unfold Qh;simp only;have i:(BitVec.ofInt 8 (x.toNat:Int)).toNat=x.toNat:=by rw[BitVec.toNat_ofInt];omega
 have t:(BitVec.ofInt 8 (y.toNat:Int)).toNat=y.toNat:=by rw[BitVec.toNat_ofInt];omega
 show IntKind.u8.wrap ((BitVec.ofInt 8 (x.toNat:Int) ^^^ BitVec.ofInt 8 (y.toNat:Int)).toNat:Int)=_;rw[BitVec.toNat_xor,i,t,UInt8.toNat_xor];have h:=Nat.xor_lt_two_pow (n:=8) hx hy;have u:IntKind.u8.wrap ((x.toNat ^^^ y.toNat:Nat):Int)=((x.toNat ^^^ y.toNat:Nat):Int) % 256:=rfl;rw[u];omega
def Zn5{k n:Int}(t:ZeN k=true)(hn:0<=n/\n<=274877906944):Zf ZH1 162 [.agg [.int .i64 k,.int .i64 0],.int .i64 n] (.int .i64 0):=by
 refine Zh (cR 162 f162) λF st i=>?_;refine gG ?_;refine cX @t (Zhu k) ?_;refine i0 ?_;refine gA ?_;refine Zl rfl trivial (λh=>by simp at h;omega) (λ_=>?_);refine rg ?_;refine ri i ?_;rfl
def Za.giveL{f args u}{t:St}{Ln Φ}(hL:∀b∈Ln,∃ds,t b=sO (.cells ds))(hl:LdC t Ln args u)(h:Za ZH1 f u (t.delL Ln) Φ):Za ZH1 f args t Φ :=
 ⟨h.1,λg w vs hs ha=>by
  have hx:=Jw hs hL;have i:=ZI.ldC (ZeQ hs hL) (ha.imp λ_ _ h=>Rep.mono h hx) hl;exact(h.2 (KF g t Ln) w vs (Ztz hs hL) i).mono λe w' ⟨g',S',r,he,hS,hr,hq⟩=>⟨g',S',r,hx.trans he,hS,hr,hq⟩⟩
def Zz5{S:St}{y o}(h:S y=nO):(S.upd y o).delL [y]=S:=by
 funext x;simp only[St.delL,List.mem_singleton];by_cases e:x=y;rw[if_pos e,e,h];rw[if_neg e,ZH8 _ _ e]
def ZkX(l:List UInt8)(i:0<I l)(hl:I l<=1000000000)(T):Za ZH1 17 [Zo l] T λr S=>∃z c X,T z=nO/\r=.ret (.msl z 0 (I l) c 1)/\S=T.upd z (.cells ((l.map u8C).flatten++X))/\X.length=(c-I l)*1/\I l<=c:=by
 refine Zb (cR 17 f17) λF t=>?_;refine rx (nd2 @Zo.eq_1 @eQ1) ?_;refine gA ?_;refine iG ?_;refine ZmO rfl rfl rfl rfl rfl (.elems rfl) φ φ i ω (by unfold big;omega) λz c hz u=>?_;rw[List.flatMap_def,Zdn];refine gR0 ?_;exact t.ret _ _ rfl φ (ZH3 _) ZH2 ⟨z,c,_,hz,rfl,rfl,List.length_replicate,u⟩
def ZrP{k:Nat}(hk:k<4294967296)(b:List UInt8)(hb:I b<=1000000000):Zf ZH1 163 [.agg [.int .i64 k,.int .i64 0],Zo b] (Zo (J6 k b)):=by
 refine Zh (cR 163 f163) λF st u=>?_;have af:Zf ZH1 208 [D.sl .full 1 1 (ZZ [.int .i64 0] ([0].zip [.int .i64 (k:Int)])),.int .i64 8] (QB (List.replicate 8 (k:Int))):=λT=>Za.leA (.cons (ZBb (k:Int)) (.cons (ZH3 _) .nil)) (ZnG (k:Int) T);by_cases hq:k=0\/I b=0;have aq:Zf ZH1 17 [Zo b] (Zo b):=KB b hb;have aj:J6 k b=b:=by unfold J6;split;rfl;rename_i h;have:b=[]:=List.eq_nil_of_length_eq_zero (hq.resolve_left h);subst this;rfl
 rw[aj]at u;refine gG ?_;refine cl (aq) ?_;refine rg ?_;by_cases ab:k=0;subst ab;refine i1 ?_;refine rg ?_;refine ro u ?_;rfl;have ah:b=[]:=List.eq_nil_of_length_eq_zero (hq.resolve_left ab);subst ah;refine Zl rfl trivial (λh=>by simp at h;exact absurd h ab) (λ_=>?_);refine rg ?_;refine cl (af) ?_;refine rg ?_;refine Zd (JT ?_);refine rx (nd2 @Zo.eq_1 @eQ1) ?_;refine iG ?_;refine ro u ?_;rfl;have ab:¬k=0:=λe=>hq (.inl e);have ah:0<I b:=ω;have aj:J6 k b=Zbq k 0 b:=by unfold J6;rw[if_neg ab]
 rw[aj]at u;refine gG ?_;refine cV (ZkX b ah hb st) ?_ ?_;rintro d S ⟨z,c,X,hz,hr,hS,hX,a0⟩;subst hS;cases hr;refine gR0 ?_;refine rg ?_;refine Zl rfl trivial (λh=>by simp at h;exact absurd h ab) (λ_=>?_);refine rg ?_;refine cl (af) ?_;refine rg ?_;obtain⟨N,hN⟩:∃N,(I b+63) / 64=N:=⟨_,rfl⟩;refine Zd (fr (N) (λm Q=>∀dn S1,dn=min (64*m) (I b)->S1=st.upd z (.cells (((ZaX k b dn).map u8C).flatten++X))->m<=N->Q [(2,.loc 2 0),(5,.d (.msl z 0 (I b) c 1)),(6,.d (QB (List.replicate 8 (k:Int)))),(7,.d (.int .i64 (dn:Nat)))] [(2,[.int .i64 k,.int .i64 0])] S1) (λn ae=>?_) λbb=>?_);intro m hn2 dn S1 hdn ad hm;refine rg ?_;refine cd (λhd=>?_) (λhd=>?_);simp only[decide_eq_true_eq]at hd;have hdm:dn=64*m:=ω;have ar:(0+(dn:Int)).tmod 64=0:=by rw[Int.zero_add,Int.tmod_eq_emod_of_nonneg ω];omega
 have av:(0+(dn:Int)).tdiv 64=(m:Int):=by rw[Int.zero_add,Int.tdiv_eq_ediv_of_nonneg ω];omega
 refine xA @ar ?_;refine rx @av ?_;refine⟨ω,ω,ω,ω,ω,ω,ω,ω,by unfold big;omega,λy hy=>?_⟩;have a4:Za ZH1 209 [QB (List.replicate 8 (k:Int)),.msl y 0 3 3 1,.int .i64 m] (S1.upd y (.cells (W6 [D.int .i64 0] 3))) λr S=>r=.ret (.tup [Zo (Zh8 (ZgY k m)),.int .i64 0])/\S=S1:=by
  have h1:=Za.giveL (t:=S1.upd y (.cells (W6 [D.int .i64 0] 3))) (Ln:=[y]) (λb hb=>by obtain rfl:=List.mem_singleton.1 hb;exact⟨_,ZH5 _ _ _⟩) (.cons (Z2.refl _) (.cons (Z2.msl (cap:=3) (row:=λi=>itC (([0,0,0]:List Int).getD i dE)) (List.mem_singleton.2 rfl) (ZH5 _ _ _) (Nat.le_of_ble_eq_true rfl) λj hj=>by
   have hj:j<3:=hj;rcases(by omega:j=0\/j=1\/j=2) with rfl|rfl|rfl<;>exact LdC.refl _) (.cons (Z2.refl _) .nil))) (Zn3 (k:=k) (c:=m) hk ω _)
  rw[Zz5 hy]at h1;exact h1
 refine cVD (a4) ?_ ?_;rintro d S ⟨hr,hS⟩;obtain rfl:=hS.symm;cases hr;refine kF ?_;refine gR0 ?_;have hbl:(Zh8 (ZgY k m)).length=64:=Zns;obtain⟨L,hL⟩:∃L,min 64 (I b-dn)=L:=⟨_,rfl⟩;have a7:min (64:Int) (0+(I b:Int)-dn)=(L:Int):=ω;refine xA (nd2 @Zo.eq_1 (nd2 @eQ1 @a7)) ?_;refine rg ?_;generalize (if (64:Int) = ↑L then Tok.full else Tok.none)=tk;have a8:∀n,(ZaX k b n).length=I b:=λn=>ZAB;have ap:∀i,i<L->ZlJ k (dn+i)=(Zh8 (ZgY k m)).getD i dE:=λi hi=>by unfold ZlJ;rw[show(dn+i) / 64=m by omega,show(dn+i) % 64=i by omega]
 generalize Zh8 (ZgY k m)=bk at *;refine Zd (fr (L) (λi Q=>∀S2,S2=st.upd z (.cells (((ZaX k b (dn+i)).map u8C).flatten++X))->i<=L->Q [(2,.loc 2 0),(5,.d (.msl z 0 (I b) c 1)),(6,.d (QB (List.replicate 8 (k:Int)))),(7,.d (.int .i64 (dn:Nat))),(11,.d (.sl tk L 1 λi=>u8C (bk.getD i dE))),(54,.d (.sl tk L 1 λi=>u8C (bk.getD i dE))),(55,.d (.int .i64 L)),(56,.d (.int .i64 i))] [(2,[.int .i64 k,.int .i64 0])] S2) (λn ac=>?_) λay=>?_);intro i hn3 S2 ag hi;refine rg ?_;refine Zc (Zl rfl trivial (λak=>?_) (λak=>?_));simp only[decide_eq_true_eq]at ak;have a5:i<L:=ω;have au:dn+i<I b:=ω;have ax:=ZAC (k:=k) au;have az:=ZB4 (k:=k) au;rw[ap i a5]at ax;have hml:=a8 (dn+i);have am:S2 z=sO (.cells (((ZaX k b (dn+i)).map u8C).flatten++X)):=by rw[ag,ZH5]
 have a9:∀o,S2.upd z o=st.upd z o:=λo=>by rw[ag,ZIk]
 generalize ZaX k b (dn+i)=mx at *;have ao:(dn:Int)+(i:Int)=((dn+i:Nat):Int):=ω;have ai:=ZBd (b:=mx) (X:=X) (q:=dn+i) ω;rw[az]at ai;have aw:=Zzy (b:=mx) (X:=X) (b.getD (dn+i) dE ^^^ bk.getD i dE) (q:=dn+i) ω;rw[ax]at aw;have ba:=ZDC (b.getD (dn+i) dE) (bk.getD i dE);have aq:(dn+i)+1<=((mx.map u8C).flatten++X).length:=by rw[ZIc,ZeU,ZIo];omega
 refine xA @u8C.eq_1 ?_;generalize ((mx.map u8C).flatten++X)=cs at *;rw[Nat.mul_one]at ai;refine xA (nd2 @ao (nd2 @am (nd2 @Nat.mul_one (nd2 @ai (nd2 @ba @a9))))) ?_;rw[aw];refine gA ?_;refine Ze ?_;exact ac ((L)-(i+1)) ω (i+1) rfl _ rfl ω;simp only[decide_eq_false_iff_not]at ak;obtain rfl:i=L:=ω;refine gA ?_;rw[show(dn:Int)+(i:Int)=((dn+i:Nat):Int) by omega];refine Zk (Ze ?_);exact ae ((N)-(m+1)) ω (m+1) rfl (dn+i) S2 ω ag ω;exact ay _ 0 rfl S1 ad ω;rintro d S ⟨hr,_⟩;cases hr;simp only[decide_eq_false_iff_not]at hd;have a3:dn=I b:=ω;refine rg ?_;have a6:ZaX k b dn=Zbq k 0 b:=by unfold ZaX;rw[a3,ZIC,List.drop_length,ZIy]
 rw[a6]at ad;have al:((Zbq k 0 b).map u8C).length=I b:=by rw[ZIo,ZdB]
 have hB:=Buf.obj (S:=S1) (sz:=1) (rows:=(Zbq k 0 b).map u8C) z c X (by rw[ad,ZH5]) (by rw[al];exact hX) (by rw[al];exact a0);rw[al]at hB;refine ZqP (T:=st) hB (λy o hy=>by rw[ad,ZH8 _ _ λe=>by rw[e,hz]at hy;cases hy];exact hy) (λy e=>by cases e;exact hz) ?_;refine ro u ?_;rfl;exact bb _ 0 rfl 0 _ ω (by unfold ZaX;rw[List.take_zero,List.drop_zero];rfl) ω;rintro d S ⟨_,_,_,_,hr,_⟩;cases hr
def ZrO{k:Nat}(hk:k<4294967296)(b:List UInt8)(u:I b<=1000000000):Zf ZH1 119 [.int .i64 k,.int .i64 0,Zo b] (.tup [Zo (J6 k b),.int .i64 0]):=by
 refine Zh (cR 119 f119) λF st i=>?_;have hw:ZeN (k:Int)=true:=by unfold ZeN;simp;omega
 have t:=Zn5 (n:=(I b:Int)) hw ⟨ω,ω⟩;refine gG ?_;refine rx @ZBa ?_;refine cl (t) ?_;refine rg ?_;refine iG ?_;refine cl (ZrP hk b u) ?_;refine rt i ?_;rfl
def Zvb(v)(hv:VOk v):Zf ZH1 22 [.agg v.cells] (.agg v.cells):=λT=>by
 refine Za.freeze (Zjc v hv T) λr S ⟨c,fp,hr,hm,t,u⟩=>⟨fp,_,_,hr,λb i=>hm.live b i,Z2.agg (hm.ld λy h=>h),rfl,?_⟩;funext y;simp only[St.delL];by_cases e:y∈fp;rw[if_pos e,t y e];rw[if_neg e,u y e]
def Zfd(nm:Str)(l:List Val):Nat:=(l.filter λx=>dC (x.name=nm)).length
def ZeL(l:List Val)(f)(p:Val->Bool)(sts:Nat->St)(hw:I l<=1000000)(hf:∀i,i<I l->VT ZH1 f [.agg (l.getD i dE).cells] (sts i) (.bool (p (l.getD i dE))) (sts (i+1))):
  ZL ZH1 164 [Z7 l,f] (sts 0) (.int .i64 (Zi p l)) (sts (KA p l)):=by
 refine Zz (cR 164 f164) λaf F t=>?_;clear af;refine rg ?_;refine rx @Zdl ?_;refine Zd (fr (I l) (λi Q=>i<=I l->(∀j,j<i->p (l.getD j dE)=false)->Q [(0,.d (Z7 l)),(1,.d f),(7,.d (.int .i64 (I l))),(8,.d (.int .i64 i))] [] (sts i)) (λn ab=>?_) λag=>?_);intro i hn hi u;refine rg ?_;refine Zc (Zl rfl trivial (λh1=>?_) (λh1=>?_));simp at h1;have ae:=QX (l:=l) (i:=i) h1;have ad:=hf i h1;rw[ZIq]at ad;refine rg ?_;refine xA (nd2 @atV @ae) ?_;refine cW (ad) ?_;refine cd (λh2=>?_) (λh2=>?_);have e1:=WH h1 h2 u;have e2:=Zaf h1 h2 u;rw[e1,e2]at t;refine rg ?_;exact t rfl φ (ZH3 _) ZH2;refine gA ?_;refine Ze ?_;exact ab ((I l)-(i+1)) ω (i+1) rfl ω (Yc (q:=λj=>p (l.getD j dE)=false) u h2);simp at h1;obtain rfl:i=I l:=ω;have ac:∀x∈l,p x=false:=λx hx=>by obtain⟨j,hj,rfl⟩:=ZIl hx;have:=u j hj;simpa[ZIg,hj]using this
 rw[Y9 ac,QH ac]at t;refine rg ?_;exact t rfl φ (ZH3 _) ZH2;exact ag _ 0 rfl ω (by intro j hj;omega)
def ZpB(x:Val){T:St}{zs zn:Nat}{nm:Str}{n0 c:Int}(hs:T zs=sO (.cells [.str nm,.int .i64 n0]))(hn:T zn=sO (.cells [.int .i64 c]))(hc:-1000000<=c/\c<=0):
  ZL ZH1 165 [.agg x.cells,.ptr zs 0,.ptr zn 0] T (.bool (dC (x.name=nm))) (if x.name=nm then T.upd zn (.cells [.int .i64 (c-1)]) else T):=by
 refine Zz (cR 165 f165) λab F i=>?_;clear ab;rw[x.cells_eq];refine rg ?_;refine rx @hs ?_;refine cd (λhq=>?_) (λhq=>?_);have t:¬x.name=nm:=by simpa using hq
 rw[if_neg t,decide_eq_false t]at i;refine rg ?_;exact i rfl φ (ZH3 _) ZH2;have he:x.name=nm:=by simpa using hq
 rw[if_pos he,decide_eq_true he]at i;refine xA @hn ?_;refine rx @ZH5 ?_;have u:dC (c-1<0)=true:=by simp;omega
 rw[u];exact i rfl φ (ZH3 _) ZH2
def ZqW{nm:Str}{l:List Val}{i}(h:i<I l):Zfd nm (l.take (i+1))=Zfd nm (l.take i)+if (l.getD i dE).name=nm then 1 else 0:=by
 unfold Zfd;rw[Yo h,List.filter_append,ZIc]
 congr 1
 generalize l.getD i dE=x;by_cases e:x.name=nm;rw[List.filter_cons,if_pos (by simpa using e),if_pos e];rfl;rw[List.filter_cons,if_neg (by simpa using e),if_neg e];rfl
def ZBH{nm:Str}{l:List Val}:Zfd nm l<=I l:=List.length_filter_le _ _
def Zsa(v:Val)(nm:Str)(hl:I v.parts<=1000000):Zf ZH1 120 [.agg v.cells,.agg [.str nm,.int .i64 0]] (.int .i64 (Zi (λx=>dC (x.name=nm)) v.parts)):=by
 refine Zh (cR 120 f120) λF st ab=>?_;rw[v.cells_eq];refine gG ?_;refine Zc ?_;refine xP 3 λzs aj=>?_;refine xP 5 λzn ai=>?_;obtain⟨ah,ac⟩:=Zm ai;obtain⟨t,u⟩:∃t:Nat->St,t=λi=>((st.upd zs (.cells [.str nm,.int .i64 0])).upd zn (.cells [.int .i64 (-(Zfd nm (v.parts.take i):Int))])):=⟨_,rfl⟩;have h0:((st.upd zs (.cells [.str nm,.int .i64 0])).upd zn (.cells [.int .i64 0]))=t 0:=by rw[u];simp[Zfd]
 have ad:∀i,i<I v.parts->ZL ZH1 165 [.agg (v.parts.getD i dE).cells,.ptr zs 0,.ptr zn 0] (t i) (.bool (dC ((v.parts.getD i dE).name=nm))) (t (i+1)):=λi hi=>by
  have ae:=ZqW (nm:=nm) hi;have ag:=ZBH (nm:=nm) (l:=v.parts.take i);rw[ZIm]at ag;have h1:=ZpB (v.parts.getD i dE) (T:=t i) (zs:=zs) (zn:=zn) (nm:=nm) (n0:=0) (c:=-(Zfd nm (v.parts.take i):Int)) (by rw[u];simp only;rw[ZH8 _ _ ah.symm,ZH5]) (by rw[u];simp only;rw[ZH5]) ⟨ω,ω⟩;have h2:(if (v.parts.getD i dE).name=nm then (t i).upd zn (.cells [.int .i64 (-(Zfd nm (v.parts.take i):Int)-1)]) else t i)=t (i+1):=by rw[u];simp only;rw[ae];split;rw[ZIk];congr 3;push_cast;congr 1;omega;simp
  rw[h2]at h1;exact h1
 have af:=ZeL v.parts (.fn (.func 165) [] [.ptr zs 0,.ptr zn 0]) (λx=>dC (x.name=nm)) t ω λi hi=>(ad i hi).VT (first:=[]) (args:=[_]) (caps:=[_,_]);rw[h0];refine rg ?_;refine ct (af) ?_;refine ab rfl φ (ZH3 _) ?_;rw[u];exact λy o hy=>by
  have e1:y≠zn:=λe=>by rw[e,ac]at hy;cases hy
  have e2:y≠zs:=λe=>by rw[e,aj]at hy;cases hy
  simp only;rw[ZH8 _ _ e1,ZH8 _ _ e2];exact hy
def ZoP(v:Val)(nm:Str):Val:=if Zi (λx:Val=>dC (x.name=nm)) v.parts<0 then dE else v.parts.getD (Zi (λx:Val=>dC (x.name=nm)) v.parts).toNat dE
def Zr9(v:Val)(nm:Str)(hv:VOk v):∃is,Zf ZH1 75 [.agg v.cells,.str nm] (.tup [.agg (ZoP v nm).cells,.bool is]):=by
 have hl:I v.parts<=1000000:=by have:=hv.sm.p;omega
 have u:=Zsa v nm hl;have ab:=ZoP.eq_1 v nm;have hlt:=Wc (λx:Val=>dC (x.name=nm)) v.parts;generalize Zi (λx:Val=>dC (x.name=nm)) v.parts=q at *;by_cases h0:q<0;rw[if_pos h0]at ab;refine⟨false,Zh (cR 75 f75) λF st t=>?_⟩;rw[ab]at t;rw[v.cells_eq]at u⊢;refine gG ?_;refine cl (u) ?_;refine rg ?_;refine Zl rfl trivial (λ_=>?_) (λh=>by simp at h;omega);refine rg ?_;exact t rfl φ (Zvk (.cons (ZsH (.cons (ZH3 _) (.cons (ZH3 _) (.cons (YV λb h=>by cases h) (.cons (YV λb h=>by cases h) (.cons (YV λb h=>by cases h) .nil)))))) (.cons (ZH3 _) .nil))) ZH2;rw[if_neg h0]at ab;refine⟨true,Zh (cR 75 f75) λF st t=>?_⟩;have hqn:(q.toNat:Int)=q:=ω;have ad:q.toNat<I v.parts:=ω;have ae:=QX (l:=v.parts) (i:=q.toNat) ad;have ac:=Zvb (v.parts.getD q.toNat dE) (hv.part (Zu ad));rw[ab]at t;rw[ZIq]at ac t;rw[v.cells_eq]at u⊢;generalize v.parts.getD q.toNat dE=x at *;refine gG ?_;refine cl (u) ?_;refine rg ?_;refine Zl rfl trivial (λh=>by simp at h;omega) (λ_=>?_);refine xA (nd2 @atV @ae) ?_;refine cl (ac) ?_;refine rt t ?_;rfl
def Zf9{S z ob b n rest dl}(l:List UInt8)(i:dl.Le (Zo l))(t:Wb S z ob b n rest)(u:(n:Int)+8*(I b+I l)<=100000000000):Za ZH1 112 [.ptr z 0,dl] S (WbP S z ob (b++l) (n+8*I l) rest) :=
 Za.leA (.cons (ZH3 _) (.cons i .nil)) (Kv l t u)
def ZvM(y:UInt8):(D.sl .full 1 1 (ZZ [.int .u8 0] ([0].zip [.int .u8 (y.toNat:Int)]))).Le (Zo [y]):=Zh5 rfl λi hi=>by
 obtain rfl:i=0:=ω;rfl
def WbP.bad{S z ob b n rest r S'}(h:WbP S z ob b n rest (.panic r) S'):False:=by cases h.1
def Zqf(l:Bool)(v k:Nat)(b:List UInt8)(n:Nat):List UInt8:=if l then b++leS v ((k+7) / 8) else Zfx v k b n
def Zkd(l:Bool)(k n:Nat):Nat:=if l then n+8*((k+7) / 8) else n+k
def ZvK:∀{k v},(leS v k).length=k
 |0,_=>rfl
 |k+1,v=>by rw[leS,ZIi,ZvK]
def ZAu(v k):leS v (k+1)=UInt8.ofNat v::leS (v / 256) k:=rfl
def ZAv(v):leS v 0=[]:=rfl
def ZDz{v:Nat}(hv:v<4611686018427387904)(j:Nat):IntKind.u8.wrap ((v / 2 ^ j:Nat):Int)=((UInt8.ofNat (v / 2 ^ j)).toNat:Int):=by
 rw[UInt8.toNat_ofNat'];have i:∀n:Nat,IntKind.u8.wrap (n:Int)=(n:Int) % 256:=λn=>rfl;rw[i];omega
def Zfh{S z ob b n rest}(f:Fld)(x:Val){v k:Nat}(hb:Wb S z ob b n rest)(hbo:BOk b n)(hx:x.int=v)(hv:v<4611686018427387904)(hk:f.bits=k)(hk2:k<=600)(hn:n<=10000000000):
  Za ZH1 65 [.ptr z 0,.agg f.cells,.agg x.cells] S (WbP S z ob (Zqf f.little v k b n) (Zkd f.little k n) rest):=by
 refine Zb (cR 65 f65) λF hF=>?_;have aj:=hbo;unfold BOk at aj;rw[x.cells_eq];refine rg ?_;refine rx @eQ0 ?_;refine cd (λhl=>?_) (λhl=>?_);have ac:f.little=false:=by simpa using hl
 rw[ac]at hF;refine rx @eQ0 ?_;rw[hx,hk];have c9:=Zi4 v k hv ω hb hbo ω;refine cV0 (c9) ?_ ?_;rintro d S1 ⟨hr,h1⟩;cases hr;refine gR0 ?_;exact hF.ret (.tup []) S1 rfl φ (ZH3 _) ZH2 ⟨rfl,h1⟩;exact λd S1 h=>(WbP.bad h).elim;have ac:f.little=true:=by simpa using hl
 rw[ac]at hF;refine rg ?_;obtain⟨k8,af⟩:∃k8,(k+7) / 8=k8:=⟨_,rfl⟩;have hR:Zqf true v k b n=b++leS v k8:=by unfold Zqf;rw[if_pos rfl,af]
 have hN:Zkd true k n=n+8*k8:=by unfold Zkd;rw[if_pos rfl,af]
 rw[hR,hN]at hF;refine Zd (fr (k8) (λi Q=>∀b1 n1 u S1,Wb S1 z u b1 n1 rest->WbF z S ob S1 u->BOk b1 n1->n1=n+8*i->b1++leS (v / 2 ^ (8*i)) (k8-i)=b++leS v k8->i<=k8->Q [(0,.d (.ptr z 0)),(4,.loc 4 0),(5,.loc 5 0),(6,.d (.int .i64 ((8*i:Nat):Int)))] [(4,[.str f.name,.int .i64 f.kind,.int .i64 f.bits,.bool f.little,.bool f.loose,.int .i64 f.low,.int .i64 f.high,.int .i64 f.size.base,Ye f.size.terms,.str f.of,.str f.tag,.str f.from_,WE f.cases,.int .i64 f.check,.int .i64 f.key]),(5,[.str x.name,.int .i64 x.int,Zo x.bytes,Ym x.hdrs,Z7 x.parts])] S1) (λn t=>?_) λap=>?_);intro i hn2 b1 n1 u S1 ah ae ab al hp hi;refine rg ?_;refine cd (λhd=>?_) (λhd=>?_);simp only[decide_eq_true_eq]at hd;have hi2:i<k8:=ω;have am:=ZDz hv (8*i);have ag:=Zv9 hv (8*i);have hle:v / 2 ^ (8*i)<=v:=Nat.div_le_self _ _;rw[show k8-i=(k8-(i+1))+1 by omega,ZAu,Nat.div_div_eq_div_mul,show 2 ^ (8*i)*256=2 ^ (8*(i+1)) by rw[Nat.mul_add,Nat.pow_add]]at hp;have ad:=ab;unfold BOk at ad;rw[<-hx]at ag;generalize v / 2 ^ (8*i)=vi at *;have ai:=Zf9 [UInt8.ofNat vi] (ZvM _) ah (by simp only[ZIi,List.length_nil];omega);refine xA (nd2 @ag @am) ?_;refine cV0 (ai) ?_ ?_;rintro d S2 ⟨hr,aq,ao,ak⟩;cases hr;refine gR0 ?_;refine gA ?_;rw[show((8*i:Nat):Int)+8=((8*(i+1):Nat):Int) by omega];refine Ze ?_;exact t ((k8)-(i+1)) ω (i+1) rfl (b1++[UInt8.ofNat vi]) (n1+8) aq S2 ao (ae.trans ak) (ab.bytes _) ω (by rw[ZIv];exact hp) ω;exact λd S1 h=>(WbP.bad h).elim;simp only[decide_eq_false_iff_not]at hd;obtain rfl:i=k8:=ω;rw[Nat.sub_self,ZAv,ZIy]at hp;refine ZO rfl ?_;exact hF.fin (.tup []) _ rfl trivial (ZH3 _) ZH2 ⟨rfl,u,by rw[<-hp,<-al];exact ah,ae⟩;exact ap _ 0 rfl b n ob S hb .refl hbo rfl ψ ω
section
variable {S:St} {z:Nat} {ob:Option Nat} {b:List UInt8} {n:Nat} {rest:List D} (f:Fld) (x:Val)
def ZjN{v k:Nat}(hb:Wb S z ob b n rest)(u:BOk b n)(hx:f.low=v)(hv:v<4611686018427387904)(hk:f.bits=k)(hk2:k<=600)(hn:n<=10000000000):
  Za ZH1 66 [.ptr z 0,.agg f.cells,.agg x.cells] S (WbP S z ob (Zqf f.little v k b n) (Zkd f.little k n) rest):=by
 refine Zb (cR 66 f66) λF hF=>?_;rw[x.cells_eq];have hc:=Zfh f (⟨[],f.low,[],[],[]⟩:Val) hb u hx hv hk hk2 hn;have t:(D.agg [.str [],.int .i64 f.low,.nilsl,.nilsl,.nilsl]).Le (.agg (⟨[],f.low,[],[],[]⟩:Val).cells):=by rw[ZIq];exact ZsH (.cons (ZH3 _) (.cons (ZH3 _) (.cons (YV λb h=>by cases h) (.cons (YV λb h=>by cases h) (.cons (YV λb h=>by cases h) .nil)))))
 have i:=Za.leA (.cons (ZH3 _) (.cons (ZH3 _) (.cons t .nil))) hc;refine rg ?_;refine rx @eQ0 ?_;refine cV (i) ?_ ?_;rintro d S1 ⟨hr,h1⟩;cases hr;refine gR0 ?_;exact hF.fin (.tup []) _ rfl trivial (ZH3 _) ZH2 ⟨rfl,h1⟩;exact λd S1 h=>(WbP.bad h).elim
def ZjO{v:Nat}(hb:Wb S z ob b n rest)(u:BOk b n)(hx:x.int=v)(hv:v<34359738368)(hn:n<=10000000000):
  Za ZH1 67 [.ptr z 0,.agg f.cells,.agg x.cells] S (WbP S z ob (b++Ki v (Yf v)) (n+8*(Ki v (Yf v)).length) rest):=by
 refine Zb (cR 67 f67) λF hF=>?_;have i:=u;unfold BOk at i;have hg:=ZvG v;have hfl:(Ki v (Yf v)).length=Yf v+1:=by unfold Ki;rw[ZIc,ZbU];rfl
 rw[x.cells_eq];refine gG ?_;rw[hx];refine cV (ZfU hv S) ?_ ?_;rintro d S1 ⟨t,rfl⟩;cases t;refine gR0 ?_;refine rg ?_;have c9:=Kv (Ki v (Yf v)) hb ω;refine cV (c9) ?_ ?_;rintro d S1 ⟨t,h1⟩;cases t;refine gR0 ?_;exact hF.fin (.tup []) _ rfl trivial (ZH3 _) ZH2 ⟨rfl,h1⟩;exact λd S1 h=>(WbP.bad h).elim;rintro d S1 ⟨t,_⟩;cases t
def Zog(hb:Wb S z ob b n rest)(t:BOk b n)(hl:I x.bytes<=1048576)(hn:n<=10000000000):
  Za ZH1 68 [.ptr z 0,.agg f.cells,.agg x.cells] S (WbP S z ob (b++x.bytes) (n+8*I x.bytes) rest):=by
 refine Zb (cR 68 f68) λF hF=>?_;have i:=t;unfold BOk at i;rw[x.cells_eq];refine gG ?_;have u:=Kv x.bytes hb ω;refine cV0 (u) ?_ ?_;rintro d S1 ⟨hr,h1⟩;cases hr;refine gR0 ?_;exact hF.fin (.tup []) _ rfl trivial (ZH3 _) ZH2 ⟨rfl,h1⟩;exact λd S1 h=>(WbP.bad h).elim
def Zoh{c:UInt8}(hb:Wb S z ob b n rest)(hbo:BOk b n)(hl:I x.bytes<=1048576)(hc:f.low=c.toNat)(hn:n<=10000000000):
  Za ZH1 69 [.ptr z 0,.agg f.cells,.agg x.cells] S (WbP S z ob (b++(x.bytes++[c])) (n+8*(x.bytes++[c]).length) rest):=by
 refine Zb (cR 69 f69) λF hF=>?_;have i:=hbo;unfold BOk at i;have hcl:=c.toNat_lt;have ae:IntKind.u8.wrap f.low=(c.toNat:Int):=by rw[hc];exact Zqz ω
 have ab:(x.bytes++[c]).length=I x.bytes+1:=by rw[ZIc];rfl
 rw[x.cells_eq];refine gG ?_;have c9:=Kv x.bytes hb ω;refine cV0 (c9) ?_ ?_;rintro d S1 ⟨hr,ob1,ac,t⟩;cases hr;refine gR0 ?_;have hbo1:=hbo.bytes x.bytes;refine xA (nd2 @eQ0 @ae) ?_;have c9:=Zf9 [c] (ZvM c) ac (by rw[ZIc];simp only[ZIi,List.length_nil];omega);refine cV0 (c9) ?_ ?_;rintro d S2 ⟨hr,af,ad,u⟩;cases hr;refine gR0 ?_;exact hF.fin (.tup []) _ rfl trivial (ZH3 _) ZH2 ⟨rfl,af,by rw[<-ZIv,ab,Nat.mul_add,<-Nat.add_assoc];exact ad,t.trans u⟩;exact λd S1 h=>(WbP.bad h).elim;exact λd S1 h=>(WbP.bad h).elim
def ZlU(hb:Wb S z ob b n rest)(u:BOk b n)(hh:KJ x.hdrs=true)(ht:Zc4 x.hdrs)(hl:(Qt x.hdrs).length<=1048576)(hn:n<=10000000000):
  Za ZH1 70 [.ptr z 0,.agg f.cells,.agg x.cells] S (WbP S z ob (b++Qt x.hdrs) (n+8*(Qt x.hdrs).length) rest):=by
 refine Zb (cR 70 f70) λF hF=>?_;have t:=u;unfold BOk at t;have i:=Zei ht;unfold ZhZ at i;rw[if_pos hh]at i;rw[x.cells_eq];refine gG ?_;refine cl (i) ?_;refine rg ?_;have c9:=Kv (Qt x.hdrs) hb ω;refine cV (c9) ?_ ?_;rintro d S1 ⟨hr,h1⟩;cases hr;refine gR0 ?_;exact hF.fin (.tup []) _ rfl trivial (ZH3 _) ZH2 ⟨rfl,h1⟩;exact λd S1 h=>(WbP.bad h).elim
def ZrQ(hb:Wb S z ob b n rest)(hbo:BOk b n)(hp:ZbH f.bits=true)(hn:n<=100000000):
  Za ZH1 72 [.ptr z 0,.agg f.cells,.agg x.cells] S (WbP S z ob (Zfx 0 (upS n f.bits-n).toNat b n) (upS n f.bits).toNat rest):=by
 refine Zb (cR 72 f72) λF hF=>?_;have u:=hbo;unfold BOk at u;have hpd:=Zdq hp;have hup:=Zcg (v:=(n:Int)) (of:=f.bits) ω ω;obtain⟨bD,hz,hB,hne⟩:=id hb;have ab:=Ze3 (v:=(n:Int)) hp ⟨ω,ω⟩;obtain⟨p,i⟩:∃p:Nat,upS n f.bits-n=p:=⟨(upS n f.bits-n).toNat,ω⟩;have t:(upS n f.bits).toNat=n+p:=ω;rw[i,Int.toNat_natCast,t]at hF;refine rg ?_;refine rx (nd2 @eQ0 @hz) ?_;refine cl0 (ab) ?_;rw[i];refine rg ?_;have c9:=Zi4 0 p (by decide) ω hb hbo ω;refine cV (c9) ?_ ?_;rintro d S1 ⟨hr,h1⟩;cases hr;refine gR0 ?_;exact hF.fin (.tup []) _ rfl trivial (ZH3 _) ZH2 ⟨rfl,h1⟩;exact λd S1 h=>(WbP.bad h).elim
end
def Zcw(p s:Str)(hp:I p<=100000000)(hs:I s<=100000000):Zf ZH1 117 [.str p,.str s] (.str (ZR p s)):=by
 refine Zh (cR 117 f117) λF st i=>?_;have t:=ZR.eq_1 p s;refine gG ?_;refine cd (λh=>?_) (λh=>?_);rw[if_pos (by simpa using h)]at t;rw[t]at i;refine rg ?_;refine ro i ?_;rfl;rw[if_neg (by simpa using h)]at t;rw[t]at i;refine rg ?_;refine⟨by unfold big;omega,by simp only[ZIc,ZIi,List.length_nil];unfold big;omega,?_⟩;refine ro i ?_;rfl
def ZCA{d:Nat}(h:d<10):(Utf8.encode ((48+d:Nat):Int)).data.toList=[UInt8.ofNat (48+d)]:=by
 rcases(by omega:d=0\/d=1\/d=2\/d=3\/d=4\/d=5\/d=6\/d=7\/d=8\/d=9) with rfl|rfl|rfl|rfl|rfl|rfl|rfl|rfl|rfl|rfl<;>rfl
def Zp1(n:Nat):Str:=if n=0 then [] else ZaR n
def Zye{n}(h:n≠0):Zp1 n=Zp1 (n / 10)++[UInt8.ofNat (48+n % 10)]:=by
 unfold Zp1;rw[if_neg h];by_cases i:n<10;rw[KQ i,if_pos ω,Nat.mod_eq_of_lt i];rfl;rw[Zig i,if_neg ω,KQ (n:=n % 10) ω]
def Zm9{n:Nat}(h0:n≠0)(hn:n<1000000):Zf ZH1 158 [.int .i64 n] (.str (ZaR n)):=by
 refine Zh (cR 158 f158) λF st u=>?_;have hR:Zp1 n=ZaR n:=by unfold Zp1;rw[if_neg h0]
 have hl0:=Zih n;generalize ZaR n=R at *;refine rg ?_;refine Zc (Zd ?_);refine lpU (λQ=>∀(k:Nat) (m:Nat) s,m<k->m<1000000->Zp1 m++s=R->Q F [(0,.d (.int .i64 m)),(2,.d (.str s))] [] st) ?_ λaf=>?_
 .intro k;induction k with
  |zero=>intro m s h;omega
  |succ k ih =>
  intro m s hk hm hs;refine rg ?_;refine cd (λhd=>?_) (λhd=>?_);simp only[decide_eq_true_eq]at hd;have ac:m≠0:=ω;rw[Zye ac,ZIv]at hs;have t:(m:Int).tmod 10=((m % 10:Nat):Int):=by rw[Int.tmod_eq_emod_of_nonneg ω];omega
  have i:(m:Int).tdiv 10=((m / 10:Nat):Int):=by rw[Int.tdiv_eq_ediv_of_nonneg ω];omega
  have ab:(48:Int)+((m % 10:Nat):Int)=((48+m % 10:Nat):Int):=ω;have hw:IntKind.i32.wrap ((48+m % 10:Nat):Int)=((48+m % 10:Nat):Int):=Zas .i32 _ (by have h1:IntKind.i32.min=-2147483648:=rfl;have h2:IntKind.i32.max=2147483647:=rfl;unfold inR;omega);have hu:=ZCA (d:=m % 10) (Nat.mod_lt _ (by decide));have ae:=congrArg List.length hs;simp only[ZIc,ZIi,List.length_nil]at ae;have hsn:I s<=R.length:=ω;have hc:[UInt8.ofNat (48+m % 10)]++s=UInt8.ofNat (48+m % 10)::s:=rfl;refine rx (nd2 @t (nd2 @ab (nd2 @hw @hu))) ?_;refine⟨by decide,ω,ω,ω,ω,by unfold big;omega,by unfold big;omega,?_⟩;refine xA @i ?_;refine Ze ?_;exact ih (m / 10) (UInt8.ofNat (48+m % 10)::s) ω ω hs;simp only[decide_eq_false_iff_not]at hd;obtain rfl:m=0:=ω;have ad:s=R:=by rw[<-hs];rfl
  subst ad;refine rg ?_;refine ro u ?_;rfl
 exact af (n+1) n [] ω hn (by rw[ZIy];exact hR)
def JS(a i:Int):List UInt8->Int
 | []=>a
 |x::r=>JS ((a+(if i % 2=0 then (x.toNat:Int)*256 else x.toNat)) % 65536+(a+(if i % 2=0 then (x.toNat:Int)*256 else x.toNat)) / 65536) (i+1) r
def Zi2:∀{l:List UInt8} {a i:Int},0<=a/\a<65536->0<=JS a i l/\JS a i l<65536
 | [],_,_,h=>h
 |x::r,a,i,h=>by unfold JS;refine Zi2 ?_;have:=x.toNat_lt;split<;>omega
def Zid(l:List UInt8){T:St}{z:Nat}{a b c k:Int}(hz:T z=sO (.cells [.int .i64 a,.int .i64 b,.int .i64 c,.int .i64 k]))(ha:0<=a/\a<65536)(hc:0<=c)(hl:c+I l<=4611686018427387904):
  Za ZH1 166 [.ptr z 0,Zo l] T λr S=>r=.ret (.tup [])/\S=T.upd z (.cells [.int .i64 (JS a c l),.int .i64 b,.int .i64 (c+I l),.int .i64 k]):=by
 refine Zb (cR 166 f166) λF hF=>?_;refine rx @KH ?_;refine Zd (fr (I l) (λi Q=>∀e S,S=T.upd z (.cells [.int .i64 e,.int .i64 b,.int .i64 c,.int .i64 k])->JS e (c+i) (l.drop i)=JS a c l->(0<=e/\e<65536)->i<=I l->Q [(0,.d (.ptr z 0)),(1,.d (Zo l)),(7,.d (Zo l)),(8,.d (.int .i64 (I l))),(9,.d (.int .i64 i))] [] S) (λn t=>?_) λae=>?_);intro i hn2 e S hS hw he hi;have u:S z=sO (.cells [.int .i64 e,.int .i64 b,.int .i64 c,.int .i64 k]):=by rw[hS];exact ZH5 _ _ _
 have ac:∀o,S.upd z o=T.upd z o:=λo=>by rw[hS,ZIk]
 refine rg ?_;refine Zc (Zl rfl trivial (λhd=>?_) (λhd=>?_));simp only[decide_eq_true_eq]at hd;have hx:=(l.getD i dE).toNat_lt;rw[Wn (show i<I l by omega),JS]at hw;refine xA (nd2 @Zwu @u8C.eq_1) ?_;refine rg ?_;rw[Qi ω];generalize (l.getD i dE).toNat=x at *;refine rx @u ?_;rw[Int.tmod_eq_emod_of_nonneg (show 0<=c+(i:Int) by omega)];refine aa ?_;refine jU [0] (λQ=>∀y:Int,0<=y->y<=65280->JS ((e+y) % 65536+(e+y) / 65536) (c+i+1) (l.drop (i+1))=JS a c l->Q F [(0,.d (.ptr z 0)),(1,.d (Zo l)),(6,.d (.int .i64 y)),(7,.d (Zo l)),(8,.d (.int .i64 (I l))),(9,.d (.int .i64 i))] [] S) ?_ λj1=>?_;intro y hy0 hy1 ad;refine xA @u ?_;refine rx (nd2 @ZH5 @ac) ?_;rw[Int.tmod_eq_emod_of_nonneg (show 0<=e+y by omega),Int.tdiv_eq_ediv_of_nonneg (show 0<=e+y by omega)];refine aa ?_;refine gA ?_;refine Ze ?_;exact t ((I l)-(i+1)) ω (i+1) rfl _ _ (by rw[ZIk]) (by rw[<-ad];congr 1;omega) ω ω;refine cd (λh2=>?_) (λh2=>?_);simp only[decide_eq_true_eq]at h2;rw[if_pos h2]at hw;have ab:Zah .i64 (x:Int) 8=x*256:=rfl;refine rx @ab ?_;refine⟨ω,ω,ω,?_⟩;exact j1 _ ω ω hw;simp only[decide_eq_false_iff_not]at h2;rw[if_neg h2]at hw;refine ZE ?_;refine kE [0,1,6,7,8,9] ?_;exact j1 _ ω ω hw;simp only[decide_eq_false_iff_not]at hd;obtain rfl:i=I l:=ω;rw[List.drop_length,JS]at hw;refine xA (nd2 @u @KH) ?_;exact hF.fin (.tup []) _ rfl trivial (ZH3 _) ZH2 ⟨rfl,by rw[hS,ZIk,hw]⟩;exact ae _ 0 rfl a T (St.upd_self hz).symm ψ ha ω
def QS(a b:Int):List UInt8->Int×Int
 | []=>(a,b)
 |x::r=>QS ((a+x.toNat) % 65521) ((b+(a+x.toNat) % 65521) % 65521) r
def Zh7:∀{l:List UInt8} {a b:Int},(0<=a/\a<65521)->(0<=b/\b<65521)->(0<=(QS a b l).1/\(QS a b l).1<65521)/\0<=(QS a b l).2/\(QS a b l).2<65521
 | [],_,_,h,h'=>⟨h,h'⟩
 |x::r,a,b,h,h'=>by unfold QS;exact Zh7 ω ω
def Zic(l:List UInt8){T:St}{z:Nat}{a b c k:Int}(hz:T z=sO (.cells [.int .i64 a,.int .i64 b,.int .i64 c,.int .i64 k]))(ha:0<=a/\a<65521)(hb:0<=b/\b<65521)(hc:0<=c)(hl:c+I l<=4611686018427387904):
  Za ZH1 170 [.ptr z 0,Zo l] T λr S=>r=.ret (.tup [])/\S=T.upd z (.cells [.int .i64 (QS a b l).1,.int .i64 (QS a b l).2,.int .i64 (c+I l),.int .i64 k]):=by
 refine Zb (cR 170 f170) λF hF=>?_;refine rx @KH ?_;refine Zd (fr (I l) (λi Q=>∀e g S,S=T.upd z (.cells [.int .i64 e,.int .i64 g,.int .i64 c,.int .i64 k])->QS e g (l.drop i)=QS a b l->(0<=e/\e<65521)->(0<=g/\g<65521)->i<=I l->Q [(0,.d (.ptr z 0)),(1,.d (Zo l)),(6,.d (Zo l)),(7,.d (.int .i64 (I l))),(8,.d (.int .i64 i))] [] S) (λn t=>?_) λad=>?_);intro i hn2 e g S hS hw he hg hi;have u:S z=sO (.cells [.int .i64 e,.int .i64 g,.int .i64 c,.int .i64 k]):=by rw[hS];exact ZH5 _ _ _
 have ab:∀o,S.upd z o=T.upd z o:=λo=>by rw[hS,ZIk]
 refine rg ?_;refine Zc (Zl rfl trivial (λhd=>?_) (λhd=>?_));simp only[decide_eq_true_eq]at hd;have hx:=(l.getD i dE).toNat_lt;rw[Wn (show i<I l by omega),QS]at hw;have ac:IntKind.i64.wrap ((l.getD i dE).toNat:Int)=(l.getD i dE).toNat:=Qi ω;refine xA (nd2 @Zwu @u8C.eq_1) ?_;generalize (l.getD i dE).toNat=x at *;refine rx (nd2 @u @ac) ?_;rw[Int.tmod_eq_emod_of_nonneg (show 0<=e+(x:Int) by omega)];refine aa ?_;generalize he2:(e+(x:Int)) % 65521=e2 at *;refine rx (nd2 @ab (nd2 @ZH5 @ZIk)) ?_;rw[Int.tmod_eq_emod_of_nonneg (show 0<=g+e2 by omega)];refine aa ?_;refine gA ?_;refine Ze ?_;exact t ((I l)-(i+1)) ω (i+1) rfl _ _ _ rfl hw ω ω ω;simp only[decide_eq_false_iff_not]at hd;obtain rfl:i=I l:=ω;rw[List.drop_length,QS]at hw;refine xA (nd2 @u @KH) ?_;exact hF.fin (.tup []) _ rfl trivial (ZH3 _) ZH2 ⟨rfl,by rw[hS,ZIk,<-hw]⟩;exact ad _ 0 rfl a b T (St.upd_self hz).symm ψ ha hb ω
def ZjC{a b c:Int}(ha:0<=a/\a<65536):Zf ZH1 167 [.agg [.int .i64 a,.int .i64 b,.int .i64 c]] (.int .i64 (65535-a)):=by
 refine Zh (cR 167 f167) λF st i=>?_;refine rg ?_;refine gA ?_;refine ri i ?_;rfl
def ZjD{a b c:Int}:Zf ZH1 169 [.agg [.int .i64 a,.int .i64 b,.int .i64 c]] (.int .i64 a):=by
 refine Zh (cR 169 f169) λF st i=>?_;refine gG ?_;refine ri i ?_;rfl
def ZjE{a b c:Int}(ha:0<=a/\a<65521)(hb:0<=b/\b<65521):Zf ZH1 171 [.agg [.int .i64 a,.int .i64 b,.int .i64 c]] (.int .i64 (b*65536+a)):=by
 refine Zh (cR 171 f171) λF st i=>?_;refine rg ?_;refine gA ?_;refine ri i ?_;rfl
def Zwe{n m:Nat}(u:n<4611686018427387904)(hm:m<4611686018427387904):Qh .xor .i64 (n:Int) (m:Int)=((n ^^^ m:Nat):Int):=by
 have h1:n ^^^ m<2 ^ 62:=Nat.xor_lt_two_pow u hm;unfold Qh;simp only;have i:(BitVec.ofInt 64 (n:Int)).toNat=n:=by rw[BitVec.toNat_ofInt];omega
 have t:(BitVec.ofInt 64 (m:Int)).toNat=m:=by rw[BitVec.toNat_ofInt];omega
 show IntKind.i64.wrap ((BitVec.ofInt 64 (n:Int) ^^^ BitVec.ofInt 64 (m:Int)).toNat:Int)=_;rw[BitVec.toNat_xor,i,t];exact Qi ω
def Zii(c:Nat):Nat:=if 65536<=c*2 then c*2 % 65536 ^^^ 4129 else c*2
def Zij:Nat->Nat->Nat
 |0,c=>c
 |n+1,c=>Zij n (Zii c)
def ZgN(n a:Nat):List UInt8->Nat
 | []=>a
 |x::r=>ZgN n (Zij n (a ^^^ x.toNat*256)) r
def Zz7(n a:Nat):ZgN n a []=a:=rfl
def ZqY(n a:Nat)(x:UInt8)(r:List UInt8):ZgN n a (x::r)=ZgN n (Zij n (a ^^^ x.toNat*256)) r:=rfl
def Zyg(n c:Nat):Zij (n+1) c=Zij n (Zii c):=rfl
def Zyh(c:Nat):Zij 0 c=c:=rfl
def Zvv{c:Nat}(h:c<65536):Zii c<65536:=by
 unfold Zii;split;exact Nat.xor_lt_two_pow (n:=16) (Nat.mod_lt _ (by decide)) (by decide);omega
def Zvw:∀{n c:Nat},c<65536->Zij n c<65536
 |0,_,h=>h
 |n+1,c,h=>Zvw (n:=n) (Zvv h)
def Zyi{a:Nat}(h:a<65536)(x:UInt8):a ^^^ x.toNat*256<65536:=Nat.xor_lt_two_pow (n:=16) h (by have:=x.toNat_lt;omega)
def Zvx{n:Nat}:∀{l:List UInt8} {a:Nat},a<65536->ZgN n a l<65536
 | [],_,h=>h
 |x::r,a,h=>by rw[ZqY];exact Zvx (Zvw (Zyi h x))
structure EqN(a b:Nat):Prop where
 h:a=b
def Zhs(l:List UInt8){T:St}{z a:Nat}{b c k:Int}(hz:T z=sO (.cells [.int .i64 a,.int .i64 b,.int .i64 c,.int .i64 k]))(ha:a<65536)(hc:0<=c)(hl:c+I l<=4611686018427387904):
  Za ZH1 168 [.ptr z 0,Zo l] T λr S=>r=.ret (.tup [])/\S=T.upd z (.cells [.int .i64 (ZgN 8 a l),.int .i64 b,.int .i64 (c+I l),.int .i64 k]):=by
 refine Zb (cR 168 f168) λF hF=>?_;refine rx @KH ?_;refine Zd (fr (I l) (λi Q=>∀(e:Nat) S,S=T.upd z (.cells [.int .i64 e,.int .i64 b,.int .i64 c,.int .i64 k])->EqN (ZgN 8 e (l.drop i)) (ZgN 8 a l)->e<65536->i<=I l->Q [(0,.d (.ptr z 0)),(1,.d (Zo l)),(6,.d (Zo l)),(7,.d (.int .i64 (I l))),(8,.d (.int .i64 i))] [] S) (λn ad=>?_) λax=>?_);intro i hn2 e S hS hw he hi;have ai:S z=sO (.cells [.int .i64 e,.int .i64 b,.int .i64 c,.int .i64 k]):=by rw[hS];exact ZH5 _ _ _
 have ar:∀o,S.upd z o=T.upd z o:=λo=>by rw[hS,ZIk]
 refine rg ?_;refine Zc (Zl rfl trivial (λhd=>?_) (λhd=>?_));simp only[decide_eq_true_eq]at hd;have hx:=(l.getD i dE).toNat_lt;have aj:∀c0,EqN (e ^^^ (l.getD i dE).toNat*256) c0->c0<65536:=λc0 h=>by rw[<-h.h];exact Zyi he _
 rw[Wn (show i<I l by omega),ZqY]at hw;have au:IntKind.i64.wrap ((l.getD i dE).toNat:Int)=(l.getD i dE).toNat:=Qi ω;refine xA (nd2 @Zwu @u8C.eq_1) ?_;generalize (l.getD i dE).toNat=x at *;have ap:Zah .i64 (x:Int) 8=((x*256:Nat):Int):=by show(x:Int)*256=_;omega
 obtain⟨c0,ac⟩:∃c0,EqN (e ^^^ x*256) c0:=⟨_,⟨rfl⟩⟩;have av:Qh .xor .i64 (e:Int) ((x*256:Nat):Int)=(c0:Int):=by rw[<-ac.h];exact Zwe ω ω
 have ab:=aj c0 ac;rw[ac.h]at hw;clear aj ac;refine rx (nd2 @ai (nd2 @au (nd2 @ap (nd2 @av @ar)))) ?_;refine⟨ω,ω,ω,?_⟩;refine rg ?_;refine Zd (fr (8) (λj Q=>∀(g:Nat) S2,S2=T.upd z (.cells [.int .i64 g,.int .i64 b,.int .i64 c,.int .i64 k])->EqN (Zij (8-j) g) (Zij 8 c0)->g<65536->j<=8->Q [(0,.d (.ptr z 0)),(1,.d (Zo l)),(6,.d (Zo l)),(7,.d (.int .i64 (I l))),(8,.d (.int .i64 i)),(22,.d (.int .i64 j))] [] S2) (λn t=>?_) λao=>?_);intro j hn3 g S2 ae u hg hj;have ah:S2 z=sO (.cells [.int .i64 g,.int .i64 b,.int .i64 c,.int .i64 k]):=by rw[ae];exact ZH5 _ _ _
 have al:∀o,S2.upd z o=T.upd z o:=λo=>by rw[ae,ZIk]
 refine rg ?_;refine Zc (Zl rfl trivial (λag=>?_) (λag=>?_));simp only[decide_eq_true_eq]at ag;have ak:Zah .i64 (g:Int) 1=((g*2:Nat):Int):=by show(g:Int)*2=_;omega
 rw[show 8-j=(8-(j+1))+1 by omega,Zyg]at u;have af:∀y,EqN (Zii g) y->y<65536:=λy h=>by rw[<-h.h];exact Zvv hg
 refine rx (nd2 @ah (nd2 @ak @al)) ?_;refine⟨ω,ω,ω,?_⟩;refine rx @ZH5 ?_;refine cd (λab=>?_) (λab=>?_);simp only[decide_eq_true_eq]at ab;obtain⟨y,hy⟩:∃y,EqN (g*2 % 65536 ^^^ 4129) y:=⟨_,⟨rfl⟩⟩;have hb:EqN (Zii g) y:=⟨by unfold Zii;rw[if_pos ω];exact hy.h⟩;have am:Qh .xor .i64 (((g*2:Nat):Int) % 65536) 4129=(y:Int):=by rw[<-hy.h,<-Zwe (n:=g*2 % 65536) (m:=4129) ω ω];rfl
 have aq:(((g*2:Nat):Int)).tmod 65536=((g*2:Nat):Int) % 65536:=Int.tmod_eq_emod_of_nonneg ω;have aw:=af y hb;rw[hb.h]at u;clear af hb hy;refine xA (nd2 @ZH5 (nd2 @aq (nd2 @am @ZIk))) ?_;refine gA ?_;refine Ze ?_;exact t ((8)-(j+1)) ω (j+1) rfl _ _ rfl u aw ω;simp only[decide_eq_false_iff_not]at ab;have hb:EqN (Zii g) (g*2):=⟨by unfold Zii;rw[if_neg ω]⟩;rw[hb.h]at u;clear af hb;refine gA ?_;refine Ze ?_;exact t ((8)-(j+1)) ω (j+1) rfl _ _ rfl u ω ω;simp only[decide_eq_false_iff_not]at ag;obtain rfl:j=8:=ω;rw[Nat.sub_self,Zyh]at u;rw[<-u.h]at hw;refine gA ?_;refine Ze ?_;exact ad ((I l)-(i+1)) ω (i+1) rfl _ S2 ae hw hg ω;exact ao _ 0 rfl c0 _ rfl ⟨rfl⟩ ab ω;simp only[decide_eq_false_iff_not]at hd;obtain rfl:i=I l:=ω;rw[List.drop_length,Zz7]at hw;refine xA (nd2 @ai @KH) ?_;exact hF.fin (.tup []) _ rfl trivial (ZH3 _) ZH2 ⟨rfl,by rw[hS,ZIk,<-hw.h]⟩;exact ax _ 0 rfl a T (St.upd_self hz).symm ⟨ψ⟩ ha ω
def ZzV(n:Int):Int:=if n=1 then 0 else if n=2 then 65535 else 1
def ZjG(n:Int)(l:List UInt8):Int×Int:=if n=1 then (JS 0 0 l,0) else if n=2 then (ZgN 8 65535 l,0) else QS 1 0 l
def Zdd(n:Int)(l:List UInt8):Int:=if n=1 then 65535-JS 0 0 l else if n=2 then ZgN 8 65535 l else (QS 1 0 l).2*65536+(QS 1 0 l).1
def ZCT(n:Int):FuncId:=if n=1 then 166 else if n=2 then 168 else 170
def ZCS(n:Int):FuncId:=if n=1 then 167 else if n=2 then 169 else 171
def Zcu{n:Int}(h:n=1\/n=2\/n=3):Zf ZH1 77 [.int .i64 n] (.tup [.agg [.int .i64 (Kb n),.int .i64 (ZzV n),.int .i64 0,.int .i64 0,.fn (.func (ZCT n)) [] [],.fn (.func (ZCS n)) [] []],.bool true]):=by
 refine Zmi h ?_;rcases h with rfl|rfl|rfl<;>rfl
def ZzX{n:Int}(h:n=1\/n=2\/n=3)(l:List UInt8):0<=Zdd n l/\Zdd n l<4294967296/\(n≠3->Zdd n l<65536):=by
 unfold Zdd;rcases h with rfl|rfl|rfl;have:=Zi2 (l:=l) (a:=0) (i:=0) ω;simp;omega;have:=Zvx (n:=8) (l:=l) (a:=65535) ω;simp;omega;have:=Zh7 (l:=l) (a:=1) (b:=0) ω ω;simp;omega
def Zer{T:St}{z:Nat}{a b c k:Int}(hz:T z=sO (.cells [.int .i64 a,.int .i64 b,.int .i64 c,.int .i64 k]))(hk:k≠0):ZL ZH1 206 [.ptr z 0] T (.bool false) T:=by
 refine Zz (cR 206 f206) λu F i=>?_;clear u;have t:dC (k=0)=false:=decide_eq_false hk;refine rg ?_;refine rx (nd2 @hz @t) ?_;exact i rfl φ (ZH3 _) ZH2
def Zs6{n:Int}(h:n=1\/n=2\/n=3)(T:St):Za ZH1 159 [.int .i64 n] T λr S=>∃z,T z=nO/\r=.ret (.tup [.ptr z 0,.int .i64 0])/\S=T.upd z (.cells [.int .i64 (ZzV n),.int .i64 0,.int .i64 0,.int .i64 n]):=by
 refine Zb (cR 159 f159) λF i=>?_;refine gG ?_;refine cl (Zcu h) ?_;refine rg ?_;refine iG ?_;refine xP 17 λz t=>?_;exact i.ret _ _ rfl (by first|trivial|simp) (ZH3 _) ZH2 ⟨z,t,rfl,rfl⟩
def ZjB{n:Int}(h:n=1\/n=2\/n=3)(l:List UInt8)(hl:I l<=4611686018427387904){T:St}{z:Nat}(i:T z=sO (.cells [.int .i64 (ZzV n),.int .i64 0,.int .i64 0,.int .i64 n])):
  Za ZH1 160 [.ptr z 0,Zo l] T λr S=>r=.ret (.int .i64 0)/\S=T.upd z (.cells [.int .i64 (ZjG n l).1,.int .i64 (ZjG n l).2,.int .i64 (I l),.int .i64 n]):=by
 have hw:Za ZH1 (ZCT n) [.ptr z 0,Zo l] T λr S=>r=.ret (.tup [])/\S=T.upd z (.cells [.int .i64 (ZjG n l).1,.int .i64 (ZjG n l).2,.int .i64 (I l),.int .i64 n]):=by rcases h with rfl|rfl|rfl;have:=Zid l i (by decide) (by decide) ω;rw[Int.zero_add]at this;exact this;have:=Zhs l (a:=65535) i (by decide) (by decide) ω;rw[Int.zero_add]at this;exact this;have:=Zic l i (by decide) (by decide) (by decide) ω;rw[Int.zero_add]at this;exact this
 refine Zb (cR 160 f160) λF hF=>?_;refine gG ?_;have u:=Zer i ω;refine ct (u) ?_;refine i0 ?_;refine rx @i ?_;refine cl (Zcu h) ?_;refine rg ?_;refine vV0 (hw.V (first:=[]) (caps:=[])) ?_ ?_;rintro d S ⟨t,hS⟩;cases t;refine gR0 ?_;refine rg ?_;exact hF.ret _ S rfl φ (ZH3 _) ZH2 ⟨rfl,hS⟩;rintro d S ⟨t,_⟩;cases t
def Zm3{n:Int}(h:n=1\/n=2\/n=3)(l:List UInt8){T:St}{z:Nat}(t:T z=sO (.cells [.int .i64 (ZjG n l).1,.int .i64 (ZjG n l).2,.int .i64 (I l),.int .i64 n])):
  Za ZH1 161 [.ptr z 0] T λr S=>r=.ret (.tup [.int .i64 (Zdd n l),.int .i64 0])/\S=T:=by
 have hw:Zf ZH1 (ZCS n) [.agg [.int .i64 (ZjG n l).1,.int .i64 (ZjG n l).2,.int .i64 (I l)]] (.int .i64 (Zdd n l)):=by rcases h with rfl|rfl|rfl;exact ZjC (Zi2 (by decide));exact ZjD;have:=Zh7 (l:=l) (a:=1) (b:=0) ω ω;exact ZjE this.1 this.2
 refine Zb (cR 161 f161) λF hF=>?_;refine gG ?_;have u:=Zer t ω;refine ct (u) ?_;refine i0 ?_;refine rx @t ?_;refine cl (Zcu h) ?_;refine rx @t ?_;refine vV0 ((hw T).V (first:=[]) (caps:=[])) ?_ ?_;rintro d S ⟨i,hS⟩;obtain rfl:=hS.symm;cases i;refine gR0 ?_;exact hF.ret _ T rfl φ (ZH3 _) ZH2 ⟨rfl,rfl⟩;rintro d S ⟨i,_⟩;cases i
def ZuH{n:Int}(h:n=1\/n=2\/n=3)(l:List UInt8)(hl:I l<=4611686018427387904):Zf ZH1 115 [.int .i64 n,Zo l] (.tup [.int .i64 (Zdd n l),.int .i64 0]):=by
 intro T;refine Zb (cR 115 f115) λF u=>?_;refine gG ?_;refine cV (Zs6 h T) ?_ ?_;rintro d S ⟨z,hz,i,t⟩;subst t;cases i;refine gR0 ?_;refine rg ?_;refine iG ?_;refine cV (ZjB h l hl (ZH5 _ _ _)) ?_ ?_;rintro d S ⟨i,t⟩;rw[ZIk]at t;subst t;cases i;refine gR0 ?_;refine rg ?_;refine cV (Zm3 h l (ZH5 _ _ _)) ?_ ?_;rintro d S ⟨i,t⟩;obtain rfl:=t.symm;cases i;refine gR0 ?_;exact u.ret _ T rfl φ (ZH3 _) (ZIr _ hz) ⟨rfl,rfl⟩;rintro d S ⟨i,_⟩;cases i;rintro d S ⟨i,_⟩;cases i;rintro d S ⟨_,_,i,_⟩;cases i
def KG(v:Int)(k:Nat):UInt8:=UInt8.ofNat (v.toNat / 2 ^ k)
def ZaO(n v:Int):List UInt8:=if n=3 then [KG v 24,KG v 16,KG v 8,KG v 0] else [KG v 8,KG v 0]
def ZlM{v:Int}(h:0<=v)(k:Nat):IntKind.u8.wrap (v / 2 ^ k)=((KG v k).toNat:Int):=by
 have i:IntKind.u8.wrap (v / 2 ^ k)=(v / 2 ^ k) % 256:=rfl;rw[i];unfold KG;obtain⟨n,rfl⟩:∃n:Nat,v=n:=⟨v.toNat,ω⟩;rw[Int.toNat_natCast,UInt8.toNat_ofNat'];have:((n:Int) / 2 ^ k)=((n / 2 ^ k:Nat):Int):=by simp
 rw[this];omega
def ZpW{n v:Int}(h:n=1\/n=2\/n=3)(hv:0<=v)(hv2:v<4294967296)(hv3:n≠3->v<65536):Zf ZH1 116 [.int .i64 n,.int .i64 v] (.tup [Zo (ZaO n v),.int .i64 0]):=by
 intro T;refine Zb (cR 116 f116) λF hF=>?_;have hb:Kb n=if n=3 then 32 else 16:=rfl
 have ac:Zah .i64 1 (Kb n)=if n=3 then 4294967296 else 65536:=by rcases h with rfl|rfl|rfl<;>rfl
 refine gG ?_;refine cl (Zcu h) ?_;refine rg ?_;refine⟨λ_=>by rw[ac,hb];split<;>omega,?_⟩;have hc:(dC (v<0) ||decide (Zah .i64 1 (Kb n)<=v))=false:=by rw[ac,Bool.or_eq_false_iff,decide_eq_false_iff_not,decide_eq_false_iff_not];split<;>omega
 rw[hc];refine i0 ?_;have ab:∀k:Nat,k<=64->QI .i64 v (k:Int)=v / 2 ^ k:=λk hk=>by unfold QI;rw[Int.fdiv_eq_ediv_of_nonneg _ (by exact_mod_cast Nat.zero_le _)];simp[IntKind.bits,Nat.min_eq_left hk]
 have ae:QI .i64 v 24=v / 2 ^ 24:=ab 24 (by decide);have ad:QI .i64 v 16=v / 2 ^ 16:=ab 16 (by decide);have h8:QI .i64 v 8=v / 2 ^ 8:=ab 8 (by decide);have ag:=ZlM hv 24;have af:=ZlM hv 16;have w8:=ZlM hv 8;have w0:=ZlM hv 0;rw[Int.pow_zero,Int.ediv_one]at w0;refine rx (nd2 @ae (nd2 @ad (nd2 @h8 (nd2 @ag (nd2 @af (nd2 @w8 @w0)))))) ?_;refine⟨ω,ω,ω,ω,ω,ω,ω,ω,ω,?_⟩;have e3:(32:Int).tdiv 8=4:=rfl;have e2:(16:Int).tdiv 8=2:=rfl;by_cases h3:n=3
 .rw[if_pos h3]at hb;have t:ZaO n v=[KG v 24,KG v 16,KG v 8,KG v 0]:=by unfold ZaO;rw[if_pos h3]
  refine xA (nd2 @hb @e3) ?_;have u:(D.sl .full 4 1 λi=>ZZ [.int .u8 0] ([0,1,2,3].zip [.int .u8 (KG v 24).toNat,.int .u8 (KG v 16).toNat,.int .u8 (KG v 8).toNat,.int .u8 (KG v 0).toNat]) i).Le (Zo (ZaO n v)):=by
   rw[t];refine Zh5 rfl λi hi=>?_
   match i,hi with
   |0,_=>rfl
   |1,_=>rfl
   |2,_=>rfl
   |3,_=>rfl
  have c9:=Za.leA (.cons u .nil) (KB (ZaO n v) (by rw[t];simp) T);refine cV (c9) ?_ ?_;rintro d S ⟨hr,hS⟩;obtain rfl:=hS.symm;cases hr;refine gR0 ?_;exact hF.ret _ T rfl φ (ZH3 _) ZH2 ⟨rfl,rfl⟩;rintro d S ⟨hr,_⟩;cases hr
 rw[if_neg h3]at hb;have t:ZaO n v=[KG v 8,KG v 0]:=by unfold ZaO;rw[if_neg h3]
 refine xA (nd2 @hb @e2) ?_;have u:(D.sl .full (4-(4-2):Int).toNat 1 λi=>ZZ [.int .u8 0] ([0,1,2,3].zip [.int .u8 (KG v 24).toNat,.int .u8 (KG v 16).toNat,.int .u8 (KG v 8).toNat,.int .u8 (KG v 0).toNat]) ((4-2:Int).toNat+i)).Le (Zo (ZaO n v)):=by
  rw[t];refine Zh5 rfl λi hi=>?_
  match i,hi with
  |0,_=>rfl
  |1,_=>rfl
 have c9:=Za.leA (.cons u .nil) (KB (ZaO n v) (by rw[t];simp) T);refine cV (c9) ?_ ?_;rintro d S ⟨hr,hS⟩;obtain rfl:=hS.symm;cases hr;refine gR0 ?_;exact hF.ret _ T rfl φ (ZH3 _) ZH2 ⟨rfl,rfl⟩;rintro d S ⟨hr,_⟩;cases hr
structure Wr where
 b:List UInt8
 n:Nat
 sums:List (Str×Int)
def Wr.add(w:Wr)(l:List UInt8):Wr:=⟨w.b++l,w.n+8*I l,w.sums⟩
def Wr.num(w:Wr)(f:Fld)(v:Int):Wr:=⟨Zqf f.little v.toNat f.bits.toNat w.b w.n,Zkd f.little f.bits.toNat w.n,w.sums⟩
def Wr.app(w:Wr)(chg:List UInt8->List UInt8)(o:Wr):Wr:=⟨w.b++chg o.b,w.n+8*(chg o.b).length,w.sums++o.sums⟩
def Wr.pad(w:Wr)(k:Int):Wr:=⟨Zfx 0 (upS w.n k-w.n).toNat w.b w.n,(upS w.n k).toNat,w.sums⟩
def Wr.chk(w:Wr)(path:Str)(f:Fld)(E:List (Str×Int)):Wr :=
 let c:=Zdd f.check (w.b.drop ((Zr f.from_ E).getD 0).toNat)
 ⟨w.b++ZaO f.check c,w.n+8*(ZaO f.check c).length,w.sums++[(ZR path f.name,c)]⟩
def Wv(chg:List UInt8->List UInt8)(rec:Val->Str->Wr)(q:Str)(ps:List Val):Nat->Nat->Wr->Wr
 |0,_,w=>w
 |n+1,j,w=>Wv chg rec q ps n (j+1) (w.app chg (rec (ps.getD j dE) (ZR q (Yx ps j))))
def ZaV(rec:Val->Str->Wr)(path:Str)(f:Fld)(x:Val)(E:List (Str×Int))(w:Wr):Wr :=
 if f.kind=1 then w.num f x.int
 else if f.kind=2 then w.num f f.low
 else if f.kind=3 then w.add (Ki x.int.toNat (Yf x.int.toNat))
 else if f.kind=4 then w.add x.bytes
 else if f.kind=5 then w.add (x.bytes++[UInt8.ofNat f.low.toNat])
 else if f.kind=6 then w.add (Qt x.hdrs)
 else if f.kind=10 then w.pad f.bits
 else if f.kind=11 then w.chk path f E
 else Wv (if f.kind=12 then J6 f.key.toNat else id) rec (ZR path f.name) x.parts (I x.parts) 0 w
def xAt(l:List Fld)(ps:List Val)(i:Nat):Val:=if YU (l.getD i dE) then ps.getD (vfs (l.take i)).length dE else dE
def stF(rec:Val->Str->Wr)(path:Str)(l:List Fld)(ps:List Val):Nat->List (Str×Int)×Wr
 |0=>([],⟨[],0,[]⟩)
 |i+1=>(YO (l.getD i dE).name ((stF rec path l ps i).2.n / 8:Nat) (stF rec path l ps i).1,ZaV rec path (l.getD i dE) (xAt l ps i) (YO (l.getD i dE).name ((stF rec path l ps i).2.n / 8:Nat) (stF rec path l ps i).1) (stF rec path l ps i).2)
def JA(d:Dfn):Nat->Msg->Val->Str->Wr
 |0,_,_,_=>⟨[],0,[]⟩
 |n+1,m,v,path=>(stF (λy p=>JA d n (Zj d y.name) y p) path m.fields v.parts (I m.fields)).2
def Zhg(s:Str×Int):List D:=[.str s.1,.int .i64 s.2]
def Zgw(l:List (Str×Int)):D:=slD 2 Zhg l
def wrR(d:Dfn)(path:Str)(mz:Nat)(sD:D):List D:=[.str d.name,YY d.msgs,.str d.start,.str path,.map mz,sD]
structure IsW(S:St)(d:Dfn)(path:Str)(E:List (Str×Int))(w:Wr)(z mz:Nat)(ob os:Option Nat)(sD:D):Prop where
 wb:Wb S z ob w.b w.n (wrR d path mz sD)
 m:S mz=some (.map (WZ E))
 s:Buf S 2 (w.sums.map Zhg) sD os
 zs:os≠some z
 bs:∀x,ob=some x->os≠some x
section
variable {S:St} {d:Dfn} {path:Str} {E:List (Str × Int)} {w:Wr} {z mz:Nat} {ob os:Option Nat} {sD:D}
def IsW.mne(h:IsW S d path E w z mz ob os sD):mz≠z/\ob≠sO mz/\os≠sO mz:=by
 obtain⟨bD,u,i,hne⟩:=h.wb;have hm:=h.m;refine⟨λe=>(by rw[e,u]at hm;cases hm),λe=>?_,λe=>?_⟩
 .subst e;cases i with
  |obj x cap X h1 _ _=>rw[h1]at hm;cases hm
 have t:=h.s;subst e;cases t with
 |obj x cap X h1 _ _=>rw[h1]at hm;cases hm
end
def WF(z:Nat)(S:St)(ob os:Option Nat)(S':St)(ob' os':Option Nat):Prop:=∀y o,S y=sO o->y≠z->ob≠sO y->os≠sO y->S' y=sO o/\ob'≠sO y/\os'≠sO y
def WF.trans{z S ob os S1 i u S2 t os2}(h:WF z S ob os S1 i u)(h2:WF z S1 i u S2 t os2):WF z S ob os S2 t os2:=λy o hy hz h3 h4=>by
 obtain⟨h5,h6,h7⟩:=h y o hy hz h3 h4;exact h2 y o h5 hz h6 h7
def ZpL(d:Dfn)(path:Str)(E:List (Str×Int))(w:Wr)(z mz:Nat)(S:St)(ob os:Option Nat)(r:Res)(S':St):Prop:=r=.ret (.tup [])/\∃ob' os' sD',IsW S' d path E w z mz ob' os' sD'/\WF z S ob os S' ob' os'
section
variable {S:St} {d:Dfn} {path:Str} {E:List (Str × Int)} {w:Wr} {z mz:Nat} {ob os:Option Nat} {sD:D}
def IsW.ofQ(h:IsW S d path E w z mz ob os sD){b' n' r S'}(hp:WbP S z ob b' n' (wrR d path mz sD) r S'):r=.ret (.tup [])/\∃u,IsW S' d path E ⟨b',n',w.sums⟩ z mz u os sD/\WF z S ob os S' u os:=by
 obtain⟨hr,u,hw,hf⟩:=hp;obtain⟨h1,h2,h3⟩:=h.mne;refine⟨hr,u,⟨hw,(hf mz _ h.m h1 h2).1,?_,h.zs,?_⟩,λy o hy hz h4 h5=>⟨(hf y o hy hz h4).1,(hf y o hy hz h4).2,h5⟩⟩
 .have hs:=h.s;cases hs with
  |nil h0=>exact .nil h0
  |obj x cap X hx hX hc =>have i:x≠z:=λe=>h.zs (by rw[e]);exact .obj x cap X (hf x _ hx i λe=>h.bs x e rfl).1 hX hc
 intro x hx e;have hs:=h.s;subst e;cases hs with
 |obj y cap X hy hX hc =>have t:x≠z:=λe=>h.zs (by rw[e]);exact(hf x _ hy t λe=>h.bs x e rfl).2 hx
end
def Zdz{l:List (Str×Int)}:∀r∈l.map Zhg,I r=2:=λr i=>by
 obtain⟨x,_,rfl⟩:=List.mem_map.1 i;rfl
def ZDx{l:List UInt8}{x i:Nat}{X:List D}(h:s x=sO (.cells ((l.map u8C).flatten++X)))(ho:i<=I l):Z2 s [x] (.msl x (if (I l:Int)=i then 0 else i*1) ((I l:Int)-i).toNat ((I l:Int)-i).toNat 1) (Zo (l.drop i)):=by
 have u:((I l:Int)-i).toNat=(l.drop i).length:=by rw[ZIG];omega
 by_cases e:(I l:Int)=i;rw[if_pos e,u];have t:(l.drop i).length=0:=by rw[ZIG];omega
 refine Z2.mslO (List.mem_singleton.2 rfl) h (by rw[t];simp) λj hj=>absurd hj (by rw[t];exact Nat.not_lt_zero _);rw[if_neg e,Nat.mul_one];exact ZxG (List.mem_singleton.2 rfl) h u ho
def Zof{S:St}{d:Dfn}{path:Str}{E:List (Str×Int)}{w:Wr}{z mz:Nat}{ob os:Option Nat}{sD:D}(f:Fld)(x:Val){s0:Nat}(h:IsW S d path E w z mz ob os sD)(hk:f.check=1\/f.check=2\/f.check=3)(hE:Zr f.from_ E=sO (s0:Int))(hs:s0<=I w.b)(hb:I w.b<=1000000000)(hn:w.n<=10000000000)(hl:I w.sums<=1000000)(hp:I path<=1000000)(hfn:I f.name<=1000):
  Za ZH1 73 [.ptr z 0,.agg f.cells,.agg x.cells] S (ZpL d path E (w.chk path f E) z mz S ob os):=by
 refine Zb (cR 73 f73) λF hF=>?_;have hm:=h.mne;obtain⟨bD,hz,hB,hne⟩:=h.wb;have e1:=Yz (vD:=YR) ZN f.from_ E;have e3:=YH ZN f.from_;simp only[show Ks f.from_=D.str f.from_ from rfl]at e1 e3;rw[hE]at e1;have ao:=h.m;have hW:w.chk path f E=⟨w.b++ZaO f.check (Zdd f.check (w.b.drop s0)),w.n+8*(ZaO f.check (Zdd f.check (w.b.drop s0))).length,w.sums++[(ZR path f.name,Zdd f.check (w.b.drop s0))]⟩:=by unfold Wr.chk;rw[hE];rfl
 rw[hW]at hF;have t:=ZzX hk (w.b.drop s0);have ad:=ZuH hk (w.b.drop s0) (by rw[ZIG];omega);have am:=ZpW hk t.1 t.2.1 t.2.2;have ap:=Zcw path f.name ω ω;generalize Zdd f.check (w.b.drop s0)=c at *;refine rg ?_;unfold wrR at hz;refine rx (nd2 @eQ0 (nd2 @hz (nd2 @ao (nd2 @e1 (nd2 @e3 @Zdm))))) ?_;rw[show YR (s0:Int)=D.int .i64 s0 from rfl];refine jU [1,0,1] (λQ =>  Q F [(0,.d (.ptr z 0)),(4,.loc 4 0),(7,.d (.int .i64 c))] [(4,[.str f.name,.int .i64 f.kind,.int .i64 f.bits,.bool f.little,.bool f.loose,.int .i64 f.low,.int .i64 f.high,.int .i64 f.size.base,Ye f.size.terms,.str f.of,.str f.tag,.str f.from_,WE f.cases,.int .i64 f.check,.int .i64 f.key])] S) ?_ λfin=>?_;refine rx @eQ0 ?_;refine cl (am) ?_;refine rg ?_;have c9:=Kv (ZaO f.check c) h.wb (by unfold ZaO;split<;>simp only[ZIi,List.length_nil]<;>omega);refine cV (c9) ?_ ?_;rintro dd S1 hP;obtain⟨hr,av,h1,ai⟩:=h.ofQ hP;cases hr;refine gR0 ?_;have af:=h1.mne;obtain⟨ag,u,ah,ab⟩:=id h1.wb;unfold wrR at u;refine rx (nd2 @eQ0 @u) ?_;refine clD (ap) ?_;refine Zsv rfl rfl (h1.s) (by exact Zdz) rfl rfl φ φ (.elems rfl) (by rw[ZIo];show(I w.sums+1)*24<=_;omega) (by rw[ZIo];show (I w.sums)+1<=_;unfold big;omega) (by (show _=[Zhg (ZR path f.name,c)];rfl)) (by exact Zdz (l:=[_])) λs1 D1 au ae i=>?_;have ar:=(i z _ u h1.zs).1;refine⟨by first|trivial|exact⟨rfl,trivial⟩|simp,?_⟩;refine gQ @ar ?_;refine⟨ae.cell,?_⟩;obtain⟨aj,ak⟩:=ah.fr i h1.bs;refine hF.fin (.tup []) _ rfl trivial (ZH3 _) ZH2 ⟨rfl,av,au,D1,⟨⟨ag,ZH5 _ _ _,aj.upd ab,ab⟩,?_,?_,(i z _ u h1.zs).2,ak⟩,λy o hy e1 e2 e3=>?_⟩;rw[ZH8 _ _ af.1];exact(i mz _ h1.m af.2.2).1;rw[List.map_append];exact ae.upd (i z _ u h1.zs).2;obtain⟨h4,h5,h6⟩:=ai y o hy e1 e2 e3;obtain⟨h7,h8⟩:=i y o h4 h6;exact⟨by rw[ZH8 _ _ e1];exact h7,h5,h8⟩;exact λdd S1 h=>(WbP.bad h).elim;cases hB with
 |nil h0 =>
  have aq:w.b=[]:=List.map_eq_nil_iff.1 h0;rw[aq]at hs ad;obtain rfl:s0=0:=by simpa using hs
  have ac:=Za.leA (.cons (ZH3 (.int .i64 f.check)) (.cons (show(D.nilsl).Le (Zo (([]:List UInt8).drop 0)) from YV λb h=>by cases h) .nil)) (ad S);refine rx (nd2 @eQ0 @hz) ?_;refine⟨by decide,?_⟩;refine cV0 (ac) ?_ ?_;rintro dd S1 ⟨hr,hS⟩;obtain rfl:=hS.symm;cases hr;refine gR0 ?_;refine Zc ?_;exact fin;rintro dd S1 ⟨hr,_⟩;cases hr
 |obj y cap X hy hX hc =>
  have al:(w.b.map u8C).length=I w.b:=by rw[ZIo]
  rw[al]at hz hX hc;refine xA (nd2 @eQ0 @hz) ?_;have ac:=ZoF (T:=S) (Ln:=[y]) (λb hb=>by obtain rfl:=List.mem_singleton.1 hb;exact⟨_,hy⟩) (.cons (Z2.refl (.int .i64 f.check)) (.cons (ZDx hy hs) .nil)) ad (.tup _ λc hc=>by
   simp only[ZIF,List.not_mem_nil,or_false]at hc;rcases hc with rfl|rfl<;>exact .int _ _)
  refine cV0 (ac) ?_ ?_;rintro dd S1 ⟨hr,hS⟩;obtain rfl:=hS.symm;cases hr;refine gR0 ?_;refine Zc ?_;exact fin;rintro dd S1 ⟨hr,_⟩;cases hr
section
variable {S:St} {d:Dfn} {path:Str} {E:List (Str × Int)} {w:Wr} {z mz:Nat} {ob os:Option Nat} {sD:D}
def IsW.upd(h:IsW S d path E w z mz ob os sD){y}(t:S y=nO)(o:Qv):IsW (S.upd y o) d path E w z mz ob os sD/\ob≠sO y/\os≠sO y/\y≠z/\y≠mz:=by
 obtain⟨bD,hz,hB,i⟩:=id h.wb;have u:y≠z:=λe=>by rw[e,hz]at t;cases t
 have h2:y≠mz:=λe=>by rw[e,h.m]at t;cases t
 have h3:ob≠sO y:=λe=>by
  subst e;cases hB with
  |obj x cap X hx _ _=>rw[hx]at t;cases t
 have h4:os≠sO y:=λe=>by
  have hs:=h.s;subst e;cases hs with
  |obj x cap X hx _ _=>rw[hx]at t;cases t
 exact⟨⟨⟨bD,by rw[ZH8 _ _ u.symm];exact hz,hB.upd h3,i⟩,by rw[ZH8 _ _ h2.symm];exact h.m,h.s.upd h4,h.zs,h.bs⟩,h3,h4,u,h2⟩
end
def IsW.nomap{S:St}{d:Dfn}{path:Str}{E:List (Str×Int)}{w:Wr}{z mz:Nat}{ob os:Option Nat}{sD:D}(h:IsW S d path E w z mz ob os sD){i l}(hm:S i=sO (.map l)):i≠z/\ob≠sO i/\os≠sO i:=by
 obtain⟨bD,hz,t,hne⟩:=id h.wb;refine⟨λe=>(by rw[e,hz]at hm;cases hm),λe=>?_,λe=>?_⟩
 .subst e;cases t with
  |obj x cap X h1 _ _=>rw[h1]at hm;cases hm
 have u:=h.s;subst e;cases u with
 |obj x cap X h1 _ _=>rw[h1]at hm;cases hm
def IsW.put{S:St}{d:Dfn}{path:Str}{E:List (Str×Int)}{w:Wr}{z mz:Nat}{ob os:Option Nat}{sD:D}(h:IsW S d path E w z mz ob os sD){y}(o:Qv)(u:y≠z)(h2:y≠mz)(h3:ob≠sO y)(h4:os≠sO y):IsW (S.upd y o) d path E w z mz ob os sD:=by
 obtain⟨t,hz,hB,i⟩:=id h.wb;exact⟨⟨t,by rw[ZH8 _ _ u.symm];exact hz,hB.upd h3,i⟩,by rw[ZH8 _ _ h2.symm];exact h.m,h.s.upd h4,h.zs,h.bs⟩
def ZdO{chg rec q ps n j w}:Wv chg rec q ps (n+1) j w=Wv chg rec q ps n (j+1) (w.app chg (rec (ps.getD j dE) (ZR q (Yx ps j)))):=rfl
def ZmA{chg rec q ps j w}:Wv chg rec q ps 0 j w=w:=rfl
def Zmy{chg rec q ps}:∀{n j w},w.n<=(Wv chg rec q ps n j w).n/\I w.b<=(Wv chg rec q ps n j w).b.length/\I w.sums<=(Wv chg rec q ps n j w).sums.length
 |0,_,_=>⟨ZIh _,ZIh _,ZIh _⟩
 |n+1,j,w=>by have h:=Zmy (chg:=chg) (rec:=rec) (q:=q) (ps:=ps) (n:=n) (j:=j+1) (w:=w.app chg (rec (ps.getD j dE) (ZR q (Yx ps j))));rw[ZdO];simp only[Wr.app,ZIc]at h⊢;omega
def WrP(d:Dfn)(o:Wr)(p:Str)(T:St)(r:Res)(S:St):Prop:=∃z' mz',T z'=nO/\r=.ret (.ptr z' 0)/\S=T.upd z' (.cells (Zo o.b::.int .i64 o.n::wrR d p mz' (Zgw o.sums)))
def ZBG(ps:List Val)(k:Nat):Jv ps k=Zfd (ps.getD k dE).name (ps.take k):=rfl
def ZxD(l:List (Str×Int)):(ZIf (I l)).map (λi=>Zhg (l.getD i dE))=l.map Zhg:=by
 apply List.ext_getElem?;intro i;simp only[List.getElem?_map,List.getElem?_range,ZIg];by_cases h:i<I l;simp[h];simp[h]
def Zfg{S K:St}{d:Dfn}{path:Str}{E:List (Str×Int)}{w:Wr}{z mz:Nat}{ob os:Option Nat}{sD:D}(f:Fld)(x:Val)(fn:D)(chg:List UInt8->List UInt8)(rec:Val->Str->Wr)(h:IsW S d path E w z mz ob os sD)(hK:K.sub S)(hKf:∀y o,K y=sO o->y≠z/\ob≠sO y/\os≠sO y)(hchg:∀T l,K.sub T->I l<=100000000->WP ZH1 fn [Zo l] T λr S=>r=.ret (Zo (chg l))/\S=T)(hps:I x.parts<=5000)(hnm:∀y∈x.parts,I y.name<=32)(hfn:I f.name<=32)(hp:I path<=1000000)(hfind:∀y∈x.parts,0<=Zy d y.name (I d.msgs))(hrec:∀y∈x.parts,∀p T,I p<=I path+6000->Za ZH1 31 [.agg d.cells,.agg (Zj d y.name).cells,.agg y.cells,.str p] T (WrP d (rec y p) p T))(hlen:∀y∈x.parts,∀p,(rec y p).b.length<=100000000)(hR:(Wv chg rec (ZR path f.name) x.parts (I x.parts) 0 w).n<=1000000000/\(Wv chg rec (ZR path f.name) x.parts (I x.parts) 0 w).b.length<=1000000000/\(Wv chg rec (ZR path f.name) x.parts (I x.parts) 0 w).sums.length<=1000000):
  Za ZH1 113 [.ptr z 0,.agg f.cells,.agg x.cells,fn] S (ZpL d path E (Wv chg rec (ZR path f.name) x.parts (I x.parts) 0 w) z mz S ob os):=by
 refine Zb (cR 113 f113) λF hF=>?_;obtain⟨q,hq⟩:∃q,ZR path f.name=q:=⟨_,rfl⟩;obtain⟨R,ba⟩:∃R,Wv chg rec (ZR path f.name) x.parts (I x.parts) 0 w=R:=⟨_,rfl⟩;have cn:=Zcb path f.name;rw[hq]at cn;rw[ba]at hR hF;rw[x.cells_eq];refine gG ?_;intro ms ay;obtain⟨br,_,_,hmz0,bi⟩:=h.upd ay (.map []);refine rx @Zdl ?_;refine Zd (fr (I x.parts) (λj Q=>∀w1 u ae a4 S1 C,IsW S1 d path E w1 z mz u ae a4->WF z S ob os S1 u ae->S1 ms=sO (.map (WZ C))->(∀nm,(Zr nm C).getD 0=(Zfd nm (x.parts.take j):Int))->Wv chg rec q x.parts (I x.parts-j) j w1=R->j<=I x.parts->Q [(0,.d (.ptr z 0)),(3,.d fn),(5,.loc 5 0),(8,.d (.map ms)),(18,.d (Z7 x.parts)),(19,.d (.int .i64 (I x.parts))),(20,.d (.int .i64 j))] [(5,[.str f.name,.int .i64 f.kind,.int .i64 f.bits,.bool f.little,.bool f.loose,.int .i64 f.low,.int .i64 f.high,.int .i64 f.size.base,Ye f.size.terms,.str f.of,.str f.tag,.str f.from_,WE f.cases,.int .i64 f.check,.int .i64 f.key])] S1) (λn ap=>?_) λcy=>?_);intro j hn2 w1 u ae a4 S1 C hI bc hC aq t hj;refine rg ?_;refine Zc (Zl rfl trivial (λhd=>?_) (λhd=>?_));simp only[decide_eq_true_eq]at hd;have am:x.parts.getD j dE∈x.parts:=Zu ω;have cs:=QX (l:=x.parts) (i:=j) ω;have hyn:=hnm _ am;have co:=hfind _ am;have cr:=hrec _ am;have cp:=hlen _ am;have al:=Yx.eq_1 x.parts j;have hsl:=Zgu hps hnm (k:=j) ω;have bf:=ZBG x.parts j;have hdl:=Zoc x.parts j;have b1:=λnm=>ZqW (nm:=nm) (l:=x.parts) (i:=j) ω;rw[show (I x.parts)-j=(I x.parts-(j+1))+1 by omega,ZdO]at t;generalize x.parts.getD j dE=y at *;have ax:=aq y.name;rw[<-bf]at ax;have e1:=Yz (vD:=YR) ZN y.name C;have e2:=J0 (vD:=YR) ZN y.name ((Jv x.parts j:Nat)+1:Int) C;have e3:=YH ZN y.name;simp only[show Ks y.name=D.str y.name from rfl,show ∀n,YR n=.int .i64 n from λ_=>rfl]at e1 e2 e3;refine xA (nd2 @atV @cs) ?_;refine rg ?_;refine rx (nd2 @hC (nd2 @e1 (nd2 @e3 (nd2 @Zdm @ax)))) ?_;refine rg ?_;refine jU [0] (λQ =>  Q F [(0,.d (.ptr z 0)),(3,.d fn),(5,.loc 5 0),(8,.d (.map ms)),(10,.loc 10 0),(11,.d (.str (Yx x.parts j))),(18,.d (Z7 x.parts)),(19,.d (.int .i64 (I x.parts))),(20,.d (.int .i64 j))] [(5,[.str f.name,.int .i64 f.kind,.int .i64 f.bits,.bool f.little,.bool f.loose,.int .i64 f.low,.int .i64 f.high,.int .i64 f.size.base,Ye f.size.terms,.str f.of,.str f.tag,.str f.from_,WE f.cases,.int .i64 f.check,.int .i64 f.key]),(10,[.str y.name,.int .i64 y.int,Zo y.bytes,Ym y.hdrs,Z7 y.parts])] S1) ?_ λj1=>?_;obtain⟨cj,ch,ci⟩:=hI.nomap hC;have ca:ms≠mz:=bi;refine xA (nd2 @hC (nd2 @e1 (nd2 @e2 (nd2 @e3 (nd2 @Zdm @ax))))) ?_;have a9:=hI.put (.map (WZ (YO y.name ((Jv x.parts j:Nat)+1:Int) C))) cj ca ch ci;have aw:∀nm,(Zr nm (YO y.name ((Jv x.parts j:Nat)+1:Int) C)).getD 0=(Zfd nm (x.parts.take (j+1)):Int):=λnm=>by rw[b1 nm];by_cases e:nm=y.name;subst e;rw[WY,if_pos rfl,if_pos rfl,bf];rfl;rw[WY,if_neg e,if_neg (Ne.symm e)];exact aq nm
 have be:WF z S ob os (S1.upd ms (.map (WZ (YO y.name ((Jv x.parts j:Nat)+1:Int) C)))) u ae:=λy o hy h1 h2 h3=>by obtain⟨h4,h5,h6⟩:=bc y o hy h1 h2 h3;exact⟨by rw[ZH8 _ _ λe=>by rw[e,ay]at hy;cases hy];exact h4,h5,h6⟩
 have a6:=ZH5 S1 ms (.map (WZ (YO y.name ((Jv x.parts j:Nat)+1:Int) C)));generalize YO y.name ((Jv x.parts j:Nat)+1:Int) C=C2 at *;generalize S1.upd ms (.map (WZ C2))=S2 at *;obtain⟨bD,hz,hB,hne⟩:=id a9.wb;unfold wrR at hz;have hix:=KZ co;have cb:max (Zy d y.name (I d.msgs)) 0=ixS d y.name:=ω;have b2:Zi (λx:Msg=>dC (x.name=y.name)) d.msgs=Zy d y.name (I d.msgs):=by unfold Zy;rw[ZIC]
 have bg:=Zbg d y.name;rw[b2,cb]at bg;have au:=Zcw path f.name ω ω;rw[hq]at au;have bl:=Zcw q (Yx x.parts j) ω ω;have hpl:=Zcb q (Yx x.parts j);have ag:=cr (ZR q (Yx x.parts j)) S2 ω;unfold Zj at ag;generalize ce:d.msgs.getD (ixS d y.name) dE=my at *;generalize ZR q (Yx x.parts j)=pj at *;rw[ZIq]at ag;refine rx @hz ?_;refine cl0 (bg) ?_;refine xA (nd2 @hz (nd2 @atM (nd2 @ce @eQ3))) ?_;refine clD (au) ?_;refine clD (bl) ?_;refine cVD (ag) ?_ ?_;rintro dd S3 ⟨z',bo,ao,hr,aj⟩;cases hr;refine kF ?_;refine gR0 ?_;have ad:=a9.upd ao (.cells (Zo (rec y pj).b::.int .i64 (rec y pj).n::wrR d pj bo (Zgw (rec y pj).sums)));rw[<-aj]at ad;obtain⟨ad,cv,cw,cx,hzm⟩:=ad;have a7:S3 ms=sO (.map (WZ C2)):=by rw[aj,ZH8 _ _ λe=>by rw[<-e,a6]at ao;cases ao];exact a6
 have bb:WF z S ob os S3 u ae:=λy o hy h1 h2 h3=>by obtain⟨h4,h5,h6⟩:=be y o hy h1 h2 h3;exact⟨by rw[aj,ZH8 _ _ λe=>by rw[e,ao]at h4;cases h4];exact h4,h5,h6⟩
 have a0:S3 z'=sO (.cells (Zo (rec y pj).b::.int .i64 (rec y pj).n::wrR d pj bo (Zgw (rec y pj).sums))):=by rw[aj,ZH5]
 unfold wrR at a0;have bu:K.sub S3:=λy o hy=>by obtain⟨h1,h2,h3⟩:=hKf y o hy;exact(bb y o (hK y o hy) h1 h2 h3).1
 have cm:=cp pj;have b0:=hchg S3 (rec y pj).b bu cm;have af:=Zmy (chg:=chg) (rec:=rec) (q:=q) (ps:=x.parts) (n:=I x.parts-(j+1)) (j:=j+1) (w:=w1.app chg (rec y pj));rw[t]at af;simp only[Wr.app,ZIc]at af;generalize rec y pj=o at *;refine rx @a0 ?_;refine vV0 (b0) ?_ ?_;rintro dd S4 ⟨hr,bv⟩;obtain rfl:=bv.symm;cases hr;refine gR0 ?_;have c9:=Kv (chg o.b) ad.wb ω;refine cV0 (c9) ?_ ?_;rintro dd S5 hP;obtain⟨hr,a3,ab,av⟩:=ad.ofQ hP;cases hr;refine gR0 ?_;obtain⟨bj,bk,cg⟩:=ad.nomap a7;have a8:=(av ms _ a7 bj bk cg).1;have bn:=(av z' _ a0 cx cv cw).1;obtain⟨ai,ah,bp,ar⟩:=id ab.wb;unfold wrR at ah;have bh:=ab.mne;refine rx (nd2 @ah @bn) ?_;refine ZxL rfl rfl (ab.s) (by exact Zdz) rfl rfl φ φ (.elems rfl) (by rw[ZIo];show(I w1.sums+I o.sums)*24<=_;omega) (by rw[ZIo];show (I w1.sums)+I o.sums<=_;unfold big;omega) (by exact ZxD o.sums) (by exact Zdz) λs1 D1 u a5 ac=>?_;have cu:=(ac z _ ah ab.zs).1;refine gQ @cu ?_;refine⟨a5.cell,?_⟩;obtain⟨bx,bz⟩:=bp.fr ac ab.bs;have bt:IsW (s1.upd z (.cells [ai,.int .i64 ((w1.n+8*(chg o.b).length:Nat):Int),.str d.name,YY d.msgs,.str d.start,.str path,.map mz,D1])) d path E (w1.app chg o) z mz a3 u D1:=by refine⟨⟨ai,ZH5 _ _ _,bx.upd ar,ar⟩,?_,?_,(ac z _ ah ab.zs).2,bz⟩;rw[ZH8 _ _ bh.1];exact(ac mz _ ab.m bh.2.2).1;show Buf _ 2 ((w1.sums++o.sums).map Zhg) D1 u;rw[List.map_append];exact a5.upd (ac z _ ah ab.zs).2
 have bw:WF z S ob os (s1.upd z (.cells [ai,.int .i64 ((w1.n+8*(chg o.b).length:Nat):Int),.str d.name,YY d.msgs,.str d.start,.str path,.map mz,D1])) a3 u:=λy o hy h1 h2 h3=>by obtain⟨h4,h5,h6⟩:=(bb.trans av) y o hy h1 h2 h3;obtain⟨h7,h8⟩:=ac y o h4 h6;exact⟨by rw[ZH8 _ _ h1];exact h7,h5,h8⟩
 have bq:(s1.upd z (.cells [ai,.int .i64 ((w1.n+8*(chg o.b).length:Nat):Int),.str d.name,YY d.msgs,.str d.start,.str path,.map mz,D1])) ms=sO (.map (WZ C2)):=by rw[ZH8 _ _ bj];exact(ac ms _ a8 (ab.nomap a8).2.2).1
 refine gA ?_;refine Ze ?_;exact ap ((I x.parts)-(j+1)) ω (j+1) rfl (w1.app chg o) a3 u D1 _ C2 bt bw bq aw t ω;exact λdd S5 h=>(WbP.bad h).elim;rintro dd S4 ⟨hr,_⟩;cases hr;rintro dd S3 ⟨_,_,_,hr,_⟩;cases hr;refine cd (λaz=>?_) (λaz=>?_);have ak:Jv x.parts j≠0:=by simp at az;omega
 rw[if_neg ak]at al;refine rg ?_;have hdc:=Zih (Jv x.parts j);refine ZaK rfl rfl rfl rfl rfl φ φ (by exact Zm9 ak ω) (Zp ?_);simp only[Eqs,reduceCtorEq,ZH9,reduceIte,ZH6,ZIa,ZH7];refine⟨by unfold big;omega,by unfold big;omega,?_⟩;rw[show y.name++58::ZaR (Jv x.parts j)=Yx x.parts j by rw[al,ZIv];rfl];exact j1;refine ZE ?_;have ak:Jv x.parts j=0:=by simp at az;omega
 rw[if_pos ak]at al;rw[al]at j1;refine kE [0,3,5,8,10,11,18,19,20] ?_;exact j1;simp only[decide_eq_false_iff_not]at hd;obtain rfl:j=I x.parts:=ω;rw[Nat.sub_self,ZmA]at t;subst t;refine ZO rfl ?_;exact hF.fin (.tup []) _ rfl trivial (ZH3 _) ZH2 ⟨rfl,u,ae,a4,hI,bc⟩;have h0:=cy _ 0 rfl w ob os sD (S.upd ms (.map [])) [] br (λy o hy hyz h1 h2=>⟨by rw[ZH8 _ _ λe=>by rw[e,ay]at hy;cases hy];exact hy,h1,h2⟩) (ZH5 _ _ _) (λnm=>rfl) (by rw[<-hq];exact ba) ω;exact h0
def ZlV(l:List UInt8):Zf ZH1 114 [Zo l] (Zo l):=by
 refine Zh (cR 114 f114) λF st i=>?_;refine gG ?_;refine ro i ?_;rfl
def Zna(f:Fld){k:Nat}(hk:f.key=k)(hk2:k<4294967296)(l:List UInt8)(hl:I l<=100000000){T:St}{zf:Nat}(u:T zf=sO (.cells f.cells)):ZL ZH1 118 [Zo l,.ptr zf 0] T (Zo (J6 k l)) T:=by
 refine Zz (cR 118 f118) λt F i=>?_;clear t;unfold Fld.cells at u;rw[hk]at u;have hx:=ZrO hk2 l ω;have hc:=J6.eq_1 k l;refine rg ?_;refine rx @u ?_;refine cd (λh=>?_) (λh=>?_);rw[if_pos (by simp at h;omega)]at hc;rw[hc]at i;refine rg ?_;refine ro i ?_;rfl;refine rx @u ?_;refine cl (hx) ?_;refine rg ?_;refine ro i ?_;rfl
section
variable {S:St} {d:Dfn} {path:Str} {E:List (Str × Int)} {w:Wr} {z mz:Nat} {ob os:Option Nat} {sD:D} (f:Fld) (x:Val) (rec:Val->Str->Wr)
structure ZzF(d:Dfn)(path:Str)(f:Fld)(x:Val)(chg:List UInt8->List UInt8)(rec:Val->Str->Wr)(w:Wr):Prop where
 few:I x.parts<=5000
 nm:∀y∈x.parts,I y.name<=32
 fn:I f.name<=32
 pth:I path<=1000000
 find:∀y∈x.parts,0<=Zy d y.name (I d.msgs)
 rc:∀y∈x.parts,∀p T,I p<=I path+6000->Za ZH1 31 [.agg d.cells,.agg (Zj d y.name).cells,.agg y.cells,.str p] T (WrP d (rec y p) p T)
 len:∀y∈x.parts,∀p,(rec y p).b.length<=100000000
 R:(Wv chg rec (ZR path f.name) x.parts (I x.parts) 0 w).n<=1000000000/\(Wv chg rec (ZR path f.name) x.parts (I x.parts) 0 w).b.length<=1000000000/\(Wv chg rec (ZR path f.name) x.parts (I x.parts) 0 w).sums.length<=1000000
def Zcv(h:IsW S d path E w z mz ob os sD)(t:ZzF d path f x id rec w):
  Za ZH1 71 [.ptr z 0,.agg f.cells,.agg x.cells] S (ZpL d path E (Wv id rec (ZR path f.name) x.parts (I x.parts) 0 w) z mz S ob os):=by
 refine Zb (cR 71 f71) λF hF=>?_;have i:=Zfg (K:=λ_=>nO) f x (.fn (.func 114) [] []) id rec h (λy o hy=>by cases hy) (λy o hy=>by cases hy)
  (λT l _ _=>Za.V (first:=[]) (args:=[_]) (caps:=[]) (ZlV l T)) t.few t.nm t.fn t.pth t.find t.rc t.len t.R
 rw[x.cells_eq]at i⊢;refine rg ?_;refine rx @eQ0 ?_;refine cV (i) ?_ ?_;rintro dd S1 ⟨u,h1⟩;cases u;refine gR0 ?_;exact hF.fin (.tup []) _ rfl trivial (ZH3 _) ZH2 ⟨rfl,h1⟩;rintro dd S1 ⟨u,_⟩;cases u
def Zp4{k:Nat}(h:IsW S d path E w z mz ob os sD)(hp:ZzF d path f x (J6 k) rec w)(hk:f.key=k)(hk2:k<4294967296):
  Za ZH1 74 [.ptr z 0,.agg f.cells,.agg x.cells] S (ZpL d path E (Wv (J6 k) rec (ZR path f.name) x.parts (I x.parts) 0 w) z mz S ob os):=by
 refine Zb (cR 74 f74) λF hF=>?_;have u:f.cells=[.str f.name,.int .i64 f.kind,.int .i64 f.bits,.bool f.little,.bool f.loose,.int .i64 f.low,.int .i64 f.high,.int .i64 f.size.base,Ye f.size.terms,.str f.of,.str f.tag,.str f.from_,WE f.cases,.int .i64 f.check,.int .i64 f.key]:=rfl;have ab:=λzf (i:S zf=nO)=>Zfg (S:=S.upd zf (.cells f.cells)) (K:=ZIu zf (.cells f.cells)) f x (.fn (.func 118) [] [.ptr zf 0]) (J6 k) rec (h.upd i _).1
  (λy o hy=>by
   by_cases e:y=zf;subst e;rw[Yi]at hy;rw[ZH5];exact hy;rw[Za1 e]at hy;cases hy) (λy o hy=>by
   by_cases e:y=zf;subst e;obtain⟨_,h1,h2,h3,_⟩:=h.upd i (.cells []);exact⟨h3,h1,h2⟩;rw[Za1 e]at hy;cases hy)
  (λT l hT hl=>((Zna f hk hk2 l hl (hT zf _ Yi)).VT (first:=[]) (args:=[_]) (caps:=[_]))) hp.few hp.nm hp.fn hp.pth hp.find hp.rc hp.len hp.R
 rw[x.cells_eq]at ab⊢;refine rg ?_;refine xP 4 λzf i=>?_;have t:=ab zf i;rw[u]at t;refine rx (nd2 @ZH5 @u) ?_;refine cV (t) ?_ ?_;rintro dd S1 ⟨hr,ac,ad,ae,h1,h2⟩;cases hr;refine gR0 ?_;refine hF.fin (.tup []) _ rfl trivial (ZH3 _) ZH2 ⟨rfl,ac,ad,ae,h1,λy o hy h3 h4 h5=>h2 y o ?_ h3 h4 h5⟩;rw[ZH8 _ _ λe=>by rw[e,i]at hy;cases hy];exact hy;rintro dd S1 ⟨hr,_⟩;cases hr
end
def ZgV:List (Int×D):=[(1,.fn (.func 65) [] []),(2,.fn (.func 66) [] []),(3,.fn (.func 67) [] []),(4,.fn (.func 68) [] []),(5,.fn (.func 69) [] []),(6,.fn (.func 70) [] []),(7,.fn (.func 71) [] []),(8,.fn (.func 71) [] []),(9,.fn (.func 71) [] []),(10,.fn (.func 72) [] []),(11,.fn (.func 73) [] []),(12,.fn (.func 74) [] [])]
structure ZCK(d:Dfn)(path:Str)(f:Fld)(x:Val)(rec:Val->Str->Wr)(E:List (Str×Int))(w:Wr):Prop where
 kind:1<=f.kind/\f.kind<=12
 bok:BOk w.b w.n
 n:w.n<=100000000
 sums:I w.sums<=1000000
 nm:I f.name<=32
 pth:I path<=1000000
 num:f.kind=1\/f.kind=2->0<=f.bits/\f.bits<=600
 low:f.kind=2->0<=f.low/\f.low<34359738368
 vint:f.kind=1\/f.kind=3->0<=x.int/\x.int<34359738368
 byt:I x.bytes<=1048576
 unt:f.kind=5->0<=f.low/\f.low<=255
 hdr:f.kind=6->KJ x.hdrs=true/\Zc4 x.hdrs/\(Qt x.hdrs).length<=1048576
 pad:f.kind=10->ZbH f.bits=true
 chk:f.kind=11->(f.check=1\/f.check=2\/f.check=3)/\∃s0:Nat,Zr f.from_ E=some (s0:Int)/\s0<=I w.b
 key:f.kind=12->0<=f.key/\f.key<4294967296
 prt:7<=f.kind/\f.kind<=9\/f.kind=12->ZzF d path f x (if f.kind=12 then J6 f.key.toNat else id) rec w
section
variable {S:St} {d:Dfn} {path:Str} {E:List (Str × Int)} {w:Wr} {z mz:Nat} {ob os:Option Nat} {sD:D} {f:Fld} {x:Val} {rec:Val->Str->Wr}
def ZbT{t:FuncId}{args u n'}(h:IsW S d path E w z mz ob os sD)(hc:Za ZH1 t args S (WbP S z ob u n' (wrR d path mz sD))){w'}(hw:w'=⟨u,n',w.sums⟩):Za ZH1 t args S (ZpL d path E w' z mz S ob os):=by
 subst hw;exact hc.mono λr S' hp=>by obtain⟨hr,i,h1,h2⟩:=h.ofQ hp;exact⟨hr,i,os,sD,h1,h2⟩
def ZAa(h:IsW S d path E w z mz ob os sD)(u:ZCK d path f x rec E w):∃fid:FuncId,Zr f.kind ZgV=sO (.fn (.func fid) [] [])/\Za ZH1 fid [.ptr z 0,.agg f.cells,.agg x.cells] S (ZpL d path E (ZaV rec path f x E w) z mz S ob os):=by
 have hk:=u.kind;have hW:=ZaV.eq_1 rec path f x E w;have hn:=u.n;have t:=u.bok;unfold BOk at t;have i:f.kind=1\/f.kind=2\/f.kind=3\/f.kind=4\/f.kind=5\/f.kind=6\/f.kind=7\/f.kind=8\/f.kind=9\/f.kind=10\/f.kind=11\/f.kind=12:=ω;rcases i with hk1|hk1|hk1|hk1|hk1|hk1|hk1|hk1|hk1|hk1|hk1|hk1<;>rw[hk1]at hW⊢<;>simp only[ZIJ,if_true,if_false]at hW<;>rw[hW];obtain⟨b1,b2⟩:=u.num ω;obtain⟨v1,v2⟩:=u.vint ω;exact⟨_,rfl,ZbT h (Zfh f x (v:=x.int.toNat) (k:=f.bits.toNat) h.wb u.bok ω ω ω ω ω) rfl⟩;obtain⟨b1,b2⟩:=u.num ω;obtain⟨v1,v2⟩:=u.low hk1;exact⟨_,rfl,ZbT h (ZjN f x (v:=f.low.toNat) (k:=f.bits.toNat) h.wb u.bok ω ω ω ω ω) rfl⟩;obtain⟨v1,v2⟩:=u.vint ω;exact⟨_,rfl,ZbT h (ZjO f x (v:=x.int.toNat) h.wb u.bok ω ω ω) rfl⟩;exact⟨_,rfl,ZbT h (Zog f x h.wb u.bok u.byt ω) rfl⟩;obtain⟨v1,v2⟩:=u.unt hk1;exact⟨_,rfl,ZbT h (Zoh f x (c:=UInt8.ofNat f.low.toNat) h.wb u.bok u.byt (by rw[u8n ω];omega) ω) rfl⟩;obtain⟨h1,h2,h3⟩:=u.hdr hk1;exact⟨_,rfl,ZbT h (ZlU f x h.wb u.bok h1 h2 h3 ω) rfl⟩;have:=u.prt ω;rw[if_neg ω]at this;exact⟨_,rfl,Zcv f x rec h this⟩;have:=u.prt ω;rw[if_neg ω]at this;exact⟨_,rfl,Zcv f x rec h this⟩;have:=u.prt ω;rw[if_neg ω]at this;exact⟨_,rfl,Zcv f x rec h this⟩;exact⟨_,rfl,ZbT h (ZrQ f x h.wb u.bok (u.pad hk1) hn) rfl⟩;obtain⟨h1,s0,h2,h3⟩:=u.chk hk1;exact⟨_,rfl,Zof f x h h1 h2 h3 ω ω u.sums u.pth (by have:=u.nm;omega)⟩;obtain⟨h1,h2⟩:=u.key hk1;have:=u.prt ω;rw[if_pos hk1]at this;exact⟨_,rfl,Zp4 (k:=f.key.toNat) f x rec h this ω ω⟩
end
def stE(rec:Val->Str->Wr)(path:Str)(l:List Fld)(ps:List Val)(i:Nat):List (Str×Int):=YO (l.getD i dE).name (((stF rec path l ps i).2.n / 8:Nat):Int) (stF rec path l ps i).1
def Zb0(rec path l ps i):stF rec path l ps (i+1)=(stE rec path l ps i,ZaV rec path (l.getD i dE) (xAt l ps i) (stE rec path l ps i) (stF rec path l ps i).2):=rfl
def Zsd(T S:St)(z mz:Nat)(ob os:Option Nat):Prop:=∀y o,T y=sO o->S y=sO o/\y≠z/\y≠mz/\ob≠sO y/\os≠sO y
def ZCL(d:Dfn)(o:Wr)(path:Str)(T:St)(r:Res)(S:St):Prop:=∃z mz ob os sD E,r=.ret (.ptr z 0)/\IsW S d path E o z mz ob os sD/\Zsd T S z mz ob os
def IsW.setE{S:St}{d:Dfn}{path:Str}{E E':List (Str×Int)}{w:Wr}{z mz:Nat}{ob os:Option Nat}{sD:D}(h:IsW S d path E w z mz ob os sD):IsW (S.upd mz (.map (WZ E'))) d path E' w z mz ob os sD:=by
 obtain⟨t,hz,hB,i⟩:=id h.wb;obtain⟨u,h2,h3⟩:=h.mne;exact⟨⟨t,by rw[ZH8 _ _ u.symm];exact hz,hB.upd h2,i⟩,ZH5 _ _ _,h.s.upd h3,h.zs,h.bs⟩
def Znc(d:Dfn)(m:Msg)(v:Val)(path:Str)(rec:Val->Str->Wr)(hv:VOk v)(hfew:I m.fields<=1000)(hpv:∀i,i<I m.fields->ZoP v (m.fields.getD i dE).name=xAt m.fields v.parts i)(hpre:∀i,i<I m.fields->ZCK d path (m.fields.getD i dE) (xAt m.fields v.parts i) rec (stE rec path m.fields v.parts i) (stF rec path m.fields v.parts i).2)(T:St):
  Za ZH1 31 [.agg d.cells,.agg m.cells,.agg v.cells,.str path] T (ZCL d (stF rec path m.fields v.parts (I m.fields)).2 path T):=by
 refine Zb (cR 31 f31) λF hF=>?_;rw[v.cells_eq];refine rx (nd2 @eQ2 @eQ3) ?_;refine rh ?_;refine Zp ?_;simp only[Eqs,reduceCtorEq,ZH9,reduceIte,ZH6,ZIa,ZH7,JR,ZIJ,decide_false,ZH5,ZIk,Yp,Yq];intro mk ap;refine kl ((T.upd mk (.map (WD YR id ZgV)))) [(3,.d (.str path)),(4,.loc 4 0),(5,.loc 5 0),(6,.loc 6 0),(9,.d (.map mk))] [(4,[.str d.name,YY d.msgs,.str d.start]),(5,[.str m.name,Zq m.fields]),(6,[.str v.name,.int .i64 v.int,Zo v.bytes,Ym v.hdrs,Z7 v.parts])] Js ZbM ?_;refine rg ?_;intro mz t;refine Zc (Zc ?_);refine xP 21 λz hz=>?_;have av:IsW ((((T.upd mk (.map (WD YR id ZgV))).upd mz (.map [])).upd z (.cells [.nilsl,.int .i64 0,.str d.name,YY d.msgs,.str d.start,.str path,.map mz,.nilsl]))) d path [] ⟨[],0,[]⟩ z mz nO nO .nilsl:=by obtain⟨h1,h2⟩:=Zm hz;refine⟨⟨.nilsl,ZH5 _ _ _,.nil rfl,λe=>(by cases e)⟩,?_,.nil rfl,λe=>(by cases e),λx e=>(by cases e)⟩;rw[ZH8 _ _ h1.symm,ZH5];rfl
 have ay:((((T.upd mk (.map (WD YR id ZgV))).upd mz (.map [])).upd z (.cells [.nilsl,.int .i64 0,.str d.name,YY d.msgs,.str d.start,.str path,.map mz,.nilsl]))) mk=sO (.map (WD YR id ZgV)):=by obtain⟨h1,h2⟩:=Zm hz;obtain⟨h3,h4⟩:=Zm h2;obtain⟨h5,h6⟩:=Zm t;rw[ZH8 _ _ h3.symm,ZH8 _ _ h5.symm,ZH5]
 have au:Zsd T ((((T.upd mk (.map (WD YR id ZgV))).upd mz (.map [])).upd z (.cells [.nilsl,.int .i64 0,.str d.name,YY d.msgs,.str d.start,.str path,.map mz,.nilsl]))) z mz nO nO:=λy o hy=>by
  obtain⟨h1,h2⟩:=Zm hz;obtain⟨h3,h4⟩:=Zm h2;obtain⟨h5,h6⟩:=Zm t;have e1:y≠z:=λe=>by rw[e,h4]at hy;cases hy
  have e2:y≠mz:=λe=>by rw[e,h6]at hy;cases hy
  have e3:y≠mk:=λe=>by rw[e,ap]at hy;cases hy
  exact⟨by rw[ZH8 _ _ e1,ZH8 _ _ e2,ZH8 _ _ e3];exact hy,e1,e2,λe=>(by cases e),λe=>(by cases e)⟩
 have a5:mk≠mz:=λe=>by rw[e,ZH5]at t;cases t
 have hTmk:T mk=nO:=ap;generalize ((T.upd mk (.map (WD YR id ZgV))).upd mz (.map [])).upd z (.cells [.nilsl,.int .i64 0,.str d.name,YY d.msgs,.str d.start,.str path,.map mz,.nilsl])=S0 at *;refine rx @Zdk ?_;refine Zd (fr (I m.fields) (λi Q=>∀ob os sD S1,IsW S1 d path (stF rec path m.fields v.parts i).1 (stF rec path m.fields v.parts i).2 z mz ob os sD->S1 mk=sO (.map (WD YR id ZgV))->Zsd T S1 z mz ob os->i<=I m.fields->Q [(6,.loc 6 0),(9,.d (.map mk)),(10,.d (.ptr z 0)),(23,.d (Zq m.fields)),(24,.d (.int .i64 (I m.fields))),(25,.d (.int .i64 i))] [(6,[.str v.name,.int .i64 v.int,Zo v.bytes,Ym v.hdrs,Z7 v.parts])] S1) (λn ab=>?_) λa7=>?_);intro i hn2 ob os sD S1 hI hK ai hi;refine rg ?_;refine Zc (Zl rfl trivial (λhd=>?_) (λhd=>?_));simp only[decide_eq_true_eq]at hd;have ao:i<I m.fields:=ω;have af:=hpre i ao;obtain⟨is,u⟩:=Zr9 v (m.fields.getD i dE).name hv;rw[hpv i ao]at u;have aq:=Zb0 rec path m.fields v.parts i;have hE:stE rec path m.fields v.parts i=YO (m.fields.getD i dE).name (((stF rec path m.fields v.parts i).2.n / 8:Nat):Int) (stF rec path m.fields v.parts i).1:=rfl;generalize ax:m.fields.getD i dE=f at *;generalize xAt m.fields v.parts i=x at *;generalize stE rec path m.fields v.parts i=E2 at *;generalize stF rec path m.fields v.parts i=st at *;obtain⟨E1,w1⟩:=st;simp only at hI af aq hE;rw[v.cells_eq]at u;refine xA (nd2 @atF (nd2 @ax (nd2 @Zab @Zc1))) ?_;rw[x.cells_eq]at u;refine rx @eQ0 ?_;refine cl (u) ?_;obtain⟨bD,ar,hB,hne⟩:=id hI.wb;unfold wrR at ar;have a4:=hI.m;have hmn:=hI.mne;have a6:((w1.n:Nat):Int).tdiv 8=((w1.n / 8:Nat):Int):=by rw[Int.tdiv_eq_ediv_of_nonneg ω];omega
 have e2:=J0 (vD:=YR) ZN f.name ((w1.n / 8:Nat):Int) E1;have e3:=YH ZN f.name;simp only[show Ks f.name=D.str f.name from rfl,show ∀n,YR n=.int .i64 n from λ_=>rfl]at e2 e3;rw[<-hE]at e2;have hwn:=af.n;refine xA (nd2 @ar (nd2 @a4 (nd2 @a6 (nd2 @e2 @e3)))) ?_;have ak:=hI.setE (E':=E2);have ad:(S1.upd mz (.map (WZ E2))) mk=sO (.map (WD YR id ZgV)):=by rw[ZH8 _ _ a5];exact hK
 have aj:Zsd T (S1.upd mz (.map (WZ E2))) z mz ob os:=λy o hy=>by obtain⟨h1,h2,h3,h4,h5⟩:=ai y o hy;exact⟨by rw[ZH8 _ _ h3];exact h1,h2,h3,h4,h5⟩
 obtain⟨ah,am,ae⟩:=ZAa ak af;have ac:=Yz (vD:=id) Zdj f.kind ZgV;have ag:=YH Zdj f.kind;simp only[show YR f.kind=D.int .i64 f.kind from rfl]at ac ag;rw[am]at ac;unfold Fld.cells at ae;rw[x.cells_eq]at ae;generalize hS2e:S1.upd mz (.map (WZ E2))=S2 at *;refine rx (nd2 @ad (nd2 @ac @ag)) ?_;rw[show id (D.fn (.func ah) [] [])=D.fn (.func ah) [] [] from rfl];obtain⟨a3,az,a0⟩:=ak.nomap ad;refine vV (ae.V (first:=[]) (args:=[_,_,_]) (caps:=[])) ?_ ?_;rintro dd S3 ⟨hr,a8,a9,ba,aw,al⟩;cases hr;refine gR0 ?_;refine gA ?_;refine Ze ?_;exact ab ((I m.fields)-(i+1)) ω (i+1) rfl a8 a9 ba S3 (by rw[aq];exact aw) (al mk _ ad a3 az a0).1 (λy o hy=>by
  obtain⟨h1,h2,h3,h4,h5⟩:=aj y o hy;obtain⟨h6,h7,h8⟩:=al y o h1 h2 h4 h5;exact⟨h6,h2,h3,h7,h8⟩) ω
 rintro dd S3 ⟨hr,_⟩;cases hr;simp only[decide_eq_false_iff_not]at hd;obtain rfl:i=I m.fields:=ω;refine rg ?_;exact hF.ret (.ptr z 0) S1 rfl φ (ZH3 _) ZH2 ⟨z,mz,ob,os,sD,_,rfl,hI,ai⟩;exact a7 _ 0 rfl nO nO .nilsl S0 av ay au ω
def Za.freezeO{f args T Φ Ψ}(h:Za ZH1 f args T Φ)(hΦ:∀r S,Φ r S->∃Ln z cs cs' S2,r=.ret (.ptr z 0)/\(∀b∈Ln,∃ds,S b=sO (.cells ds))/\S z=sO (.cells cs)/\z∉Ln/\LdC S Ln cs cs'/\S2.sub ((S.delL Ln).upd z (.cells cs'))/\Ψ r S2):Za ZH1 f args T Ψ :=
 ⟨h.1,λg w vs hs ha=>(h.2 g w vs hs ha).mono λe w' ⟨g',S',r,he,hS,hr,hq⟩=>by
  obtain⟨Ln,z,cs,cs',S2,rfl,hL,hz,ah,hl,u,hΨ⟩:=hΦ _ _ hq;have hx:=Jw hS hL;have ad:(KF g' S' Ln).prot z=g'.prot z:=by simp only[KF,if_neg ah]
  have ab:=ZeQ hS hL;have ac:YK (KF g' S' Ln) w' z cs:=(hS.obj z _ hz).mono hx rfl ad;have t:YK (KF g' S' Ln) w' z cs':=by obtain⟨h1,vs,T,h2,h3,h4,h5⟩:=ac;refine⟨h1,vs,T,h2,h3.trans hl.len,λi v d hv hd=>?_,h5⟩;obtain⟨x,af,ag⟩:=hl.get hd;exact ag _ w' v ab (h4 i v x hv af)
  have ae:=(Ztz hS hL).updL (b:=z) (o:=.cells cs') t (hS.kept z _ hz);refine⟨KF g' S' Ln,S2,.ret (.ptr z 0),he.trans hx,ae.sub u,?_,hΨ⟩;cases e<;>simp only[ZnU]at hr⊢;exact Rep.mono hr hx⟩
def ZvB{sz:Nat}{X:List D}:∀{rows:List (List D)} {j},(∀r∈rows,I r=sz)->j<I rows->((rows.flatten++X).drop (j*sz)).take sz=rows.getD j []
 | [],j,_,h=>absurd h (Nat.not_lt_zero _)
 |r::l,0,h,_=>by have i:=h r ψ;rw[Nat.zero_mul,List.drop_zero,List.flatten_cons,ZIv,List.take_left' i];rfl
 |r::l,j+1,h,hj=>by have i:=h r ψ;rw[List.flatten_cons,ZIv,ZIs,Nat.one_mul,Nat.add_comm,<-List.drop_drop,List.drop_left' i];exact ZvB (λq t=>h q (by simp[t])) (by simpa using hj)
def ZtU(o:Option Nat):List Nat:=match o with
 |some x=>[x]
 |none=>[]
def ZbR{o:Option Nat}{y}:y∈ZtU o↔o=sO y:=by
 cases o with
 |none=>simp[ZtU]
 |some x=>simp[ZtU,eq_comm]
def Buf.ldB{s b i ob Ln}(h:Buf s 1 (List.map u8C b) i ob)(t:∀x,ob=sO x->x∈Ln):Z2 s Ln i (Zo b):=by
 cases h with
 |nil h0 =>have:b=[]:=List.map_eq_nil_iff.1 h0;subst this;exact Z2.of_le (YV λb h=>by cases h)
 |obj x cap X h hX hc =>have:=ZxG (c:=cap) (off:=0) (t x rfl) h rfl (Nat.zero_le _);rw[ZIo];exact this
def Buf.ldS{s l sD os Ln}(h:Buf s 2 (List.map Zhg l) sD os)(t:∀x,os=sO x->x∈Ln):Z2 s Ln sD (Zgw l):=by
 cases h with
 |nil h0 =>have:l=[]:=List.map_eq_nil_iff.1 h0;subst this;exact Z2.of_le (YV λb h=>by cases h)
 |obj x cap X h hX hc =>
  rw[ZIo];refine Z2.msl (t x rfl) h (by rw[ZIc,Zga Zdz,ZIo];omega) λj i=>?_;rw[ZvB Zdz (by rw[ZIo];exact i)];have:(l.map Zhg).getD j []=Zhg (l.getD j dE):=by simp[ZIg,i]
  rw[this];exact LdC.refl _
def Buf.live{s sz rows d ob}(h:Buf s sz rows d ob){x}(i:ob=sO x):∃ds,s x=sO (.cells ds):=by
 cases h with
 |nil=>cases i
 |obj y cap X h hX hc=>cases i;exact⟨_,h⟩
def Znb{args}{d:Dfn}{o:Wr}{path:Str}{T:St}(h:Za ZH1 31 args T (ZCL d o path T)):Za ZH1 31 args T (WrP d o path T):=by
 refine Za.freezeO h λr S ⟨z,mz,ob,os,sD,E,hr,hI,i⟩=>?_;obtain⟨bD,hz,hB,u⟩:=id hI.wb;have t:T z=nO:=by
  cases e:T z with
  |none=>rfl
  |some o=>exact absurd rfl (i z o e).2.1
 refine⟨ZtU ob++ZtU os,z,_,Zo o.b::.int .i64 o.n::wrR d path mz (Zgw o.sums),T.upd z (.cells (Zo o.b::.int .i64 o.n::wrR d path mz (Zgw o.sums))),hr,λb hb=>?_,hz,λhm=>?_,?_,λy o' hy=>?_,⟨z,mz,t,hr,rfl⟩⟩;rcases List.mem_append.1 hb with hb|hb;exact hB.live (ZbR.1 hb);exact hI.s.live (ZbR.1 hb);rcases List.mem_append.1 hm with hm|hm;exact u (ZbR.1 hm);exact hI.zs (ZbR.1 hm);refine .cons (hB.ldB λx hx=>List.mem_append.2 (.inl (ZbR.2 hx))) (.cons (.refl _) ?_);exact .cons (.refl _) (.cons (.refl _) (.cons (.refl _) (.cons (.refl _) (.cons (.refl _) (.cons (hI.s.ldS λx hx=>List.mem_append.2 (.inr (ZbR.2 hx))) .nil)))));by_cases e:y=z;subst e;rw[ZH5]at hy⊢;exact hy;rw[ZH8 _ _ e]at hy⊢;obtain⟨h1,h2,h3,h4,h5⟩:=i y o' hy;simp only[St.delL,List.mem_append,ZbR];rw[if_neg (by rintro(e|e);exact h4 e;exact h5 e)];exact h1
def noW:Wr:=⟨[],0,[]⟩
def WtP(W:Wr)(e:Int)(T:St)(r:Res)(S:St):Prop:=∃z n r3 r4 r5 r6 r7,T z=nO/\r=.ret (.tup [.ptr z 0,.int .i64 e])/\S=T.upd z (.cells [Zo W.b,.int .i64 n,r3,r4,r5,r6,r7,Zgw W.sums])
def ZlW(hI:Qm)(d:Dfn)(s:Str)(v:Val)(o:Wr)(hs:ZX v=true->wtN v<=5000/\ZP v<=51)(hf:(WX d s v).2=0->0<=Zy d s (I d.msgs))(hw:(WX d s v).2=0->∀T,Za ZH1 31 [.agg d.cells,.agg (Zj d s).cells,.agg v.cells,.str []] T (WrP d o [] T))(T:St):
  Za ZH1 16 [.agg d.cells,.str s,.agg v.cells] T (WtP (if (WX d s v).2=0 then o else noW) (WX d s v).2 T):=by
 refine Zb (cR 16 f16) λF hF=>?_;have t:=Zi7 hI d s v hs;generalize WX d s v=R at *;obtain⟨⟨p,c⟩,e⟩:=R;simp only at t hf hw hF;have ac:Zi (λx:Msg=>dC (x.name=s)) d.msgs=Zy d s (I d.msgs):=by unfold Zy;rw[ZIC]
 rw[v.cells_eq]at t hw⊢;unfold Dfn.cells at t;refine rx @eQ2 ?_;refine rg ?_;refine cl (t) ?_;refine rg ?_;refine cd (λhe=>?_) (λhe=>?_);have i:¬e=0:=by simpa using he
 rw[if_neg i]at hF;refine rg ?_;refine xP 22 λz hz=>?_;refine Jp (b:=z) (ZH5 _ _ _) (ds':=[Zo [],.int .i64 0,.str [],.nilsl,.str [],.str [],.nilmap,Zgw []]) (.cons (YV λb h=>by cases h) (.cons (ZH3 _) (.cons (ZH3 _) (.cons (ZH3 _) (.cons (ZH3 _) (.cons (ZH3 _) (.cons (ZH3 _) (.cons (YV λb h=>by cases h) .nil)))))))) ?_;rw[ZIk];exact hF.ret _ _ rfl (by first|trivial|simp) (ZH3 _) ZH2 ⟨z,0,_,_,_,_,_,hz,rfl,rfl⟩;have i:e=0:=by simpa using he
 rw[if_pos i]at hF;have u:=hw i T;have hix:=KZ (hf i);have ad:max (Zy d s (I d.msgs)) 0=ixS d s:=by have:=hf i;omega
 have ab:=Zbg d s;rw[ac,ad]at ab;unfold Dfn.cells at ab u;unfold Zj at u;generalize ae:d.msgs.getD (ixS d s) dE=my at *;unfold Msg.cells at u;refine rg ?_;refine cl (ab) ?_;refine xA (nd2 @atM (nd2 @ae @eQ3)) ?_;refine cV0 (u) ?_ ?_;rintro dd S1 ⟨z,mz,hz,hr,hS⟩;cases hr;refine gR0 ?_;exact hF.ret _ S1 rfl (by first|trivial|simp) (ZH3 _) ZH2 ⟨z,_,_,_,_,_,_,hz,by rw[i];rfl,by rw[hS];rfl⟩;rintro dd S1 ⟨_,_,_,hr,_⟩;cases hr
def ZlT(hI:Qm)(d:Dfn)(s:Str)(v:Val)(o:Wr)(hs:ZX v=true->wtN v<=5000/\ZP v<=51)(hf:(WX d s v).2=0->0<=Zy d s (I d.msgs))(hw:(WX d s v).2=0->∀T,Za ZH1 31 [.agg d.cells,.agg (Zj d s).cells,.agg v.cells,.str []] T (WrP d o [] T))(hb:(WX d s v).2=0->I o.b<=1000000000):
  Zf ZH1 6 [.agg d.cells,.str s,.agg v.cells] (.tup [Zo (if (WX d s v).2=0 then o else noW).b,.int .i64 (WX d s v).2]):=by
 refine Zh (cR 6 f6) λF st t=>?_;have i:=ZlW hI d s v o hs hf hw st;have hl:(if (WX d s v).2=0 then o else noW).b.length<=1000000000:=by split;exact hb (by assumption);exact Nat.zero_le _
 generalize (if (WX d s v).2=0 then o else noW)=W at *;rw[v.cells_eq]at i⊢;unfold Dfn.cells at i;refine rx @eQ2 ?_;refine rg ?_;refine cV (i) ?_ ?_;rintro dd S ⟨z,n,r3,r4,r5,r6,r7,hz,u,hS⟩;cases u;subst hS;refine gR0 ?_;refine rx @ZH5 ?_;refine cV (KB W.b hl _) ?_ ?_;rintro dd S ⟨u,hS⟩;subst hS;cases u;refine gR0 ?_;exact t rfl (by first|trivial|simp) (ZH3 _) (ZIr _ hz);rintro dd S ⟨u,_⟩;cases u;rintro dd S ⟨_,_,_,_,_,_,_,_,u,_⟩;cases u
def ZvD{rec path}{l:List Fld}{ps}(hu:NmU l):∀{i j},j<i->i<=I l->Zr (l.getD j dE).name (stF rec path l ps i).1=sO (((stF rec path l ps j).2.n / 8:Nat):Int)
 |0,j,h,_=>by omega
 |i+1,j,h,hi=>by rw[Zb0];unfold stE;simp only;rw[WY];by_cases e:j=i;subst e;rw[if_pos rfl];rw[if_neg (hu j i ω ω)];exact ZvD hu ω ω
def ZB8{m:Msg}{v:Val}(hu:NmU m.fields)(hr:JN m v.parts=true){i}(hi:i<I m.fields):ZoP v (m.fields.getD i dE).name=xAt m.fields v.parts i:=by
 have u:=hr;unfold JN at u;rw[decide_eq_true_eq]at u;have hlen:(vfs m.fields).length=I v.parts:=by simpa using congrArg List.length u
 have t:=λk (hk:k<I v.parts)=>(Zo3 hu hr hk).2;have ab:∀a,a<I m.fields->a≠i->(m.fields.getD a dE).name≠(m.fields.getD i dE).name:=λa ha ac=>by rcases Nat.lt_or_gt_of_ne ac with h|h;exact hu a i h hi;exact(hu i a h ha).symm
 unfold ZoP xAt;by_cases hv:YU (m.fields.getD i dE)=true;obtain⟨h1,h2⟩:=ZfV rfl hi hv;have hk:(vfs (m.fields.take i)).length<I v.parts:=ω;have hf:=WH (p:=λx:Val=>dC (x.name=(m.fields.getD i dE).name)) (l:=v.parts) hk (by rw[decide_eq_true_eq,t _ hk,h2]) (λj hj=>by
  rw[decide_eq_false_iff_not,t j ω];obtain⟨a,a1,a2,a3,a4⟩:=Jf (l:=m.fields) (k:=j) ω;rw[a4];exact ab a a1 λe=>by subst e;omega)
 rw[hf,if_neg ω,if_pos hv,Int.toNat_natCast];have hf:=Y9 (p:=λx:Val=>dC (x.name=(m.fields.getD i dE).name)) (l:=v.parts) (λx hx=>by
  obtain⟨j,hj,rfl⟩:=ZIl hx;have h3:v.parts[j]=v.parts.getD j dE:=by simp[ZIg,hj]
  rw[h3,decide_eq_false_iff_not,t j hj];obtain⟨a,a1,a2,a3,a4⟩:=Jf (l:=m.fields) (k:=j) ω;rw[a4];exact ab a a1 λe=>hv (by rw[<-e];exact a2))
 rw[hf,if_pos (by decide),if_neg hv]
def ZzW{n v}(h:n=1\/n=2\/n=3):(8*(ZaO n v).length:Int)=Kb n:=by
 unfold ZaO Kb;rcases h with rfl|rfl|rfl<;>rfl
def Zt1{chg rec q ps}{L:Val->Int}(t:∀l,(chg l).length=I l)(i:∀y∈ps,∀p,((rec y p).b.length:Int)=L y):∀{n j w},n+j=I ps->((Wv chg rec q ps n j w).n:Int)=YN L (ps.drop j) w.n
 |0,j,w,h=>by rw[ZmA,List.drop_eq_nil_of_le ω];rfl
 |n+1,j,w,h=>by
  have hj:j<I ps:=ω;rw[ZdO,Zt1 t i ω,Wn hj];simp only[YN,Wr.app]
  congr 1
  rw[t];have:=i _ (Zu hj) (ZR q (Yx ps j))
  push_cast
  omega
def ZoR{chg rec q ps}:∀{n j w},BOk w.b w.n->BOk (Wv chg rec q ps n j w).b (Wv chg rec q ps n j w).n
 |0,_,_,h=>h
 |n+1,j,w,h=>ZoR (n:=n) (j:=j+1) (h.bytes _)
structure FN(f:Fld)(x:Val)(E:List (Str×Int))(w:Wr):Prop where
 kind:1<=f.kind/\f.kind<=12
 num:f.kind=1\/f.kind=2->1<=f.bits/\f.bits<=32/\(f.little=true->f.bits=16\/f.bits=24\/f.bits=32)
 pad:f.kind=10->ZbH f.bits=true
 chk:f.kind=11->f.check=1\/f.check=2\/f.check=3
 none:f.kind<7\/f.kind=10\/f.kind=11->x.parts=[]
def Zyv{rec path f x E w}{L:Val->Int}(h:FN f x E w)(hL:∀y∈x.parts,∀p,((rec y p).b.length:Int)=L y):((ZaV rec path f x E w).n:Int)=YN L x.parts (KX f x w.n):=by
 have hk:=h.kind;have hX:=KX.eq_1 f x (w.n:Int);unfold ZaV;by_cases h1:f.kind=1\/f.kind=2;obtain⟨b1,b2,b3⟩:=h.num h1;rw[if_pos h1]at hX;rw[h.none ω,hX];have hn:((Zkd f.little f.bits.toNat w.n:Nat):Int)=(w.n:Int)+f.bits:=by unfold Zkd;split;rename_i hl;have:=b3 hl;omega;omega
 rcases h1 with h1|h1;rw[if_pos h1];exact hn;rw[if_neg ω,if_pos h1];exact hn;rw[if_neg h1]at hX;rw[if_neg ω,if_neg ω];by_cases h3:f.kind=3;rw[if_pos h3]at hX⊢;rw[h.none ω,hX];have u:(Ki x.int.toNat (Yf x.int.toNat)).length=Yf x.int.toNat+1:=by unfold Ki;rw[ZIc,ZbU];rfl
 simp only[Wr.add,YN];rw[u];push_cast;omega;rw[if_neg h3]at hX⊢;by_cases h4:f.kind=4;rw[if_pos h4]at hX⊢;rw[h.none ω,hX];simp only[Wr.add,YN];push_cast;omega;rw[if_neg h4]at hX⊢;by_cases h5:f.kind=5;rw[if_pos h5]at hX⊢;rw[h.none ω,hX];simp only[Wr.add,YN,ZIc,ZIi,List.length_nil];push_cast;omega;rw[if_neg h5]at hX⊢;by_cases h6:f.kind=6;rw[if_pos h6]at hX⊢;rw[h.none ω,hX];simp only[Wr.add,YN];push_cast;omega;rw[if_neg h6]at hX⊢;by_cases i:f.kind=10;rw[if_pos i]at hX⊢;rw[h.none ω,hX];have hp:=Zdq (h.pad i);have:=(Zcg (v:=(w.n:Int)) (of:=f.bits) ω ω).1.1;simp only[Wr.pad,YN];omega;rw[if_neg i]at hX⊢;by_cases t:f.kind=11;rw[if_pos t]at hX⊢;rw[h.none ω,hX];simp only[Wr.chk,YN];rw[<-ZzW (v:=Zdd f.check (w.b.drop ((Zr f.from_ E).getD 0).toNat)) (h.chk t)]
 push_cast;omega
 rw[if_neg t]at hX⊢;rw[hX];have:=Zt1 (chg:=if f.kind=12 then J6 f.key.toNat else id) (rec:=rec) (q:=ZR path f.name) (ps:=x.parts) (L:=L) (λl=>by split;exact Zz3;rfl) hL (n:=I x.parts) (j:=0) (w:=w) ω;rw[List.drop_zero]at this;exact this
def ZAd{rec path f x E w}(h:FN f x E w)(u:BOk w.b w.n):BOk (ZaV rec path f x E w).b (ZaV rec path f x E w).n:=by
 have i:∀v,(f.kind=1\/f.kind=2)->BOk (w.num f v).b (w.num f v).n:=λv h1=>by unfold Wr.num Zqf Zkd;simp only;split;have:=u.bytes (leS v.toNat ((f.bits.toNat+7) / 8));rw[ZvK]at this;exact this;exact Znv u
 unfold ZaV;split;exact i _ ω;split;exact i _ ω;split;exact u.bytes _;split;exact u.bytes _;split;exact u.bytes _;split;exact u.bytes _;split;rename_i t;have hp:=Zdq (h.pad t);have h2:=(Zcg (v:=(w.n:Int)) (of:=f.bits) ω ω).1.1;have:=Znv (v:=0) (k:=(upS w.n f.bits-w.n).toNat) u;unfold Wr.pad;simp only;rw[show(upS w.n f.bits).toNat=w.n+(upS w.n f.bits-w.n).toNat by omega];exact this;split;exact u.bytes _;exact ZoR u
structure AlM(d:Dfn)(j:Nat)(m:Msg):Prop where
 fld:∀i,i<I m.fields->Zbm d j i m (m.fields.getD i default)
 off:∀i,i<=I m.fields->Qu m.fields i=false
 nm:NmU m.fields
 few:I m.fields<=40
def ZxY{d j}(h:Wo d=true)(hj:j<I d.msgs):AlM d j (d.msgs.getD j dE):=by
 have hv:=Q9 h;have hm:=hv.msg hj;refine⟨λi u=>hm.at_ u,λi u=>?_,hm.nmU,hm.many⟩;unfold Wo at h;rw[ZIb]at h;have t:=List.all_eq_true.1 h.2 _ (Zu hj);unfold ZcJ at t;have h3:=List.all_eq_true.1 t i (List.mem_range.2 ω);simpa using h3
def ZC0{f:Fld}(h:JH f=0):1<=f.bits/\f.bits<=32/\(f.little=true->f.bits=16\/f.bits=24\/f.bits=32):=by
 unfold JH Zc9 at h;split at h;omega;rename_i i;simp only[ZIp,ZIb,decide_eq_true_eq,Bool.not_eq_true',decide_eq_false_iff_not,not_or,not_and]at i;refine⟨ω,ω,λt=>?_⟩;have:=i.2.2 t;omega
def ZDF{d j i m f x E w}(h:Zbm d j i m f)(hx:YU f=true->W8 f.kind x=false)(hd:YU f=false->x=dE):FN f x E w:=by
 have u:=h.ks;unfold QU at u;have ho:=h.fok;refine⟨h.kind,λh1=>?_,ho.pad,ho.chk,λh1=>?_⟩;refine ZC0 ?_;rcases h1 with h1|h1<;>simp only[h1,ZIJ,if_true,if_false]at u<;>exact u;cases t:YU f with
 |false=>rw[hd t];rfl
 |true =>have hu:=hx t;unfold W8 at hu;unfold YU at t;simp only[ZIb,Bool.not_eq_true',decide_eq_false_iff_not]at t;simp only[Bool.or_eq_false_iff,Bool.and_eq_false_iff,Bool.not_eq_false',decide_eq_true_eq,decide_eq_false_iff_not]at hu;have:=hu.2;exact List.eq_nil_of_length_eq_zero ω
def ZoQ{L:Val->Int}:∀{ps b},∃k:Int,YN L ps b=b+8*k
 | [],b=>⟨0,by simp[YN]⟩
 |y::r,b=>by obtain⟨k,i⟩:=ZoQ (L:=L) (ps:=r) (b:=b+8*L y);exact⟨k+L y,by rw[YN,i];omega⟩
def ZCz{n k:Int}(u:ZbH k=true)(hn:0<=n):upS n k % 8=(upS (n % 8) k).tmod 8:=by
 have hk:=Zdq u;have hu:=(Zcg (v:=n % 8) (of:=k) ω ω);rw[Int.tmod_eq_emod_of_nonneg ω];unfold ZbH at u;simp only[ZIp,ZIb,decide_eq_true_eq]at u;have i:∀q:Int,2<=q->upS n q=(n+q-1) / q*q:=λq hq=>by unfold upS;rw[Int.tdiv_eq_ediv_of_nonneg ω]
 have t:∀q:Int,2<=q->upS (n % 8) q=(n % 8+q-1) / q*q:=λq hq=>by unfold upS;rw[Int.tdiv_eq_ediv_of_nonneg ω]
 by_cases c2:k=2;subst c2;rw[i 2 ω,t 2 ω];omega;by_cases c4:k=4;subst c4;rw[i 4 ω,t 4 ω];omega;have h8:k % 8=0:=by have:(8:Int)<=k/\k.tmod 8=0:=ω;rw[Int.tmod_eq_emod_of_nonneg ω]at this;exact this.2
 obtain⟨q,rfl⟩:∃q,k=8*q:=⟨k / 8,ω⟩;have e1:upS n (8*q) % 8=0:=by
  rw[i _ ω];have:(n+8*q-1) / (8*q)*(8*q)=8*((n+8*q-1) / (8*q)*q):=by rw[Int.mul_left_comm]
  rw[this];omega
 have e2:upS (n % 8) (8*q) % 8=0:=by
  rw[t _ ω];have:(n % 8+8*q-1) / (8*q)*(8*q)=8*((n % 8+8*q-1) / (8*q)*q):=by rw[Int.mul_left_comm]
  rw[this];omega
 rw[e1,e2]
def ZzJ{f x E w}(h:FN f x E w){n:Int}(hn:0<=n)(hb:Zd1 f=true->n % 8=0){L:Val->Int}:YN L x.parts (KX f x n) % 8=ZcL f (n % 8):=by
 obtain⟨k,hk⟩:=ZoQ (L:=L) (ps:=x.parts) (b:=KX f x n);rw[hk];have u:=KX.eq_1 f x n;unfold ZcL;by_cases h1:f.kind=1\/f.kind=2;have:=h.num h1;rw[if_pos h1]at u⊢;rw[Int.tmod_eq_emod_of_nonneg ω];omega;rw[if_neg h1]at u⊢;by_cases i:f.kind=10;rw[if_neg ω,if_neg ω,if_neg ω,if_neg ω,if_pos i]at u;rw[if_pos i,<-ZCz (h.pad i) hn,u];omega;rw[if_neg i]at u⊢;have t:ZcB f.kind=false:=by unfold ZcB;simp;omega
 have h0:=hb (by unfold Zd1;rw[t];rfl);have hck:Kb f.check=32\/Kb f.check=16:=by unfold Kb;split<;>simp
 rw[u]
 repeat' split
 all_goals omega
def ZB6{d j m}(h:AlM d j m){i}(hi:i<I m.fields):Zd1 (m.fields.getD i dE)=true->Ky m.fields i=0:=λu=>by
 have:=h.off i ω;unfold Qu at this;rw[if_neg ω,Bool.or_eq_false_iff]at this;have t:=this.1;rw[u]at t;simpa using t
def ZtR{d j m}(h:AlM d j m):Ky m.fields (I m.fields)=0:=by
 have:=h.off (I m.fields) (ZIh _);unfold Qu at this;rw[if_pos rfl]at this;simpa using this
def ZlP:∀{a b:List Val},wtL (a++b)=wtL a+wtL b
 | [],b=>by simp[wtL]
 |x::r,b=>by rw[List.cons_append,wtL,wtL,ZlP];omega
def Zmz{chg rec q ps}(h:∀y∈ps,∀p,(rec y p).sums.length<=40*wtN y):∀{n j w},n+j=I ps->(Wv chg rec q ps n j w).sums.length<=I w.sums+40*wtL (ps.drop j)
 |0,j,w,_=>Nat.le_add_right _ _
 |n+1,j,w,hn=>by have hj:j<I ps:=ω;have i:=Zmz (chg:=chg) (rec:=rec) (q:=q) h (n:=n) (j:=j+1) (w:=w.app chg (rec (ps.getD j dE) (ZR q (Yx ps j)))) ω;have h2:=h _ (Zu hj) (ZR q (Yx ps j));rw[ZdO,Wn hj];simp only[wtL,Wr.app,ZIc]at i⊢;omega
def Zyw{rec path f x E w}(h:∀y∈x.parts,∀p,(rec y p).sums.length<=40*wtN y):(ZaV rec path f x E w).sums.length<=I w.sums+1+40*wtL x.parts:=by
 have:=Zmz (chg:=if f.kind=12 then J6 f.key.toNat else id) (rec:=rec) (q:=ZR path f.name) h (n:=I x.parts) (j:=0) (w:=w) ω;rw[List.drop_zero]at this;unfold ZaV;generalize (if f.kind=12 then J6 f.key.toNat else id)=chg at *
 repeat' split
 all_goals first|(simp only[Wr.num,Wr.add,Wr.pad,Wr.chk,ZIc,ZIi,List.length_nil];omega)|omega
section
variable {d:Dfn} {j:Nat} {m:Msg} {v:Val} {rec:Val->Str->Wr} {L:Val->Int} {path:Str}
structure StI(rec:Val->Str->Wr)(L:Val->Int)(path:Str)(m:Msg)(v:Val)(i:Nat):Prop where
 bok:BOk (stF rec path m.fields v.parts i).2.b (stF rec path m.fields v.parts i).2.n
 off:((stF rec path m.fields v.parts i).2.n:Int) % 8=Ky m.fields i
 bits:Wt L (m.fields.drop i) (v.parts.drop (vfs (m.fields.take i)).length) (stF rec path m.fields v.parts i).2.n=Wt L m.fields v.parts 0
 sums:(stF rec path m.fields v.parts i).2.sums.length<=i+40*wtL (v.parts.take (vfs (m.fields.take i)).length)
def Za5{n}(hL:ZaA d (n+1) m v){i}(hi:i<I m.fields):(YU (m.fields.getD i dE)=true->xAt m.fields v.parts i∈v.parts/\XOk (m.fields.getD i dE) (xAt m.fields v.parts i))/\(YU (m.fields.getD i dE)=false->xAt m.fields v.parts i=dE):=by
 obtain⟨t,hX⟩:=hL;unfold xAt;refine⟨λu=>?_,λu=>by rw[if_neg (by rw[u];simp)]⟩;rw[if_pos u];obtain⟨h1,h2⟩:=ZfV rfl hi u;rw[t]at h1;have:=(hX _ h1).1;rw[h2]at this;exact⟨Zu h1,this⟩
def Zux{n}(hA:AlM d j m)(hL:ZaA d (n+1) m v){i}(t:i<I m.fields){E w}:FN (m.fields.getD i dE) (xAt m.fields v.parts i) E w :=
 ZDF (hA.fld i t) (λu=>((Za5 hL t).1 u).2.unused) (λu=>(Za5 hL t).2 u)
def ZqH{n}(u:ZaA d (n+1) m v){i}(hi:i<I m.fields){Q:Val->Prop}(h:∀x∈v.parts,∀y∈x.parts,Q y):∀y∈(xAt m.fields v.parts i).parts,Q y:=λy t=>by
 cases hv:YU (m.fields.getD i dE) with
 |true=>exact h _ ((Za5 u hi).1 hv).1 y t
 |false =>rw[(Za5 u hi).2 hv]at t;simp[show(dE:Val).parts=[] from rfl]at t
def ZA4:StI rec L path m v 0:=⟨(show([]:List UInt8).length=(0+7) / 8 from rfl),rfl,rfl,Nat.zero_le _⟩
def ZA3{n}(hA:AlM d j m)(hL:ZaA d (n+1) m v)(hr:∀x∈v.parts,∀y∈x.parts,∀p,((rec y p).b.length:Int)=L y/\(rec y p).sums.length<=40*wtN y){i}(hi:i<I m.fields)(h:StI rec L path m v i):StI rec L path m v (i+1):=by
 obtain⟨h1,h2,h3,h4⟩:=h;have ab:=λE w=>Zux (E:=E) (w:=w) hA hL hi;have u:=ZqH hL hi (Q:=λy=>∀p,((rec y p).b.length:Int)=L y/\(rec y p).sums.length<=40*wtN y) hr;have hx:=xAt.eq_1 m.fields v.parts i;have t:=ZnL hi;have hn:=Zyv (rec:=rec) (path:=path) (ab (stE rec path m.fields v.parts i) (stF rec path m.fields v.parts i).2) (λy hy p=>(u y hy p).1);have hs:=Zyw (rec:=rec) (path:=path) (f:=m.fields.getD i dE) (E:=stE rec path m.fields v.parts i) (w:=(stF rec path m.fields v.parts i).2) (λy hy p=>(u y hy p).2);have ae:=ZB6 hA hi;have ad:=ZzJ (ab (stE rec path m.fields v.parts i) (stF rec path m.fields v.parts i).2) (n:=((stF rec path m.fields v.parts i).2.n:Int)) ω (λhh=>by rw[h2];exact ae hh) (L:=L);have ac:YU (m.fields.getD i dE)=true->(vfs (m.fields.take i)).length<I v.parts:=λhv=>by have:=(ZfV rfl hi hv).1;rw[hL.1]at this;exact this
 rw[Wn hi]at h3;simp only[Wt]at h3;refine⟨ZAd (ab _ _) h1,?_,?_,?_⟩;rw[Zb0];show((ZaV _ _ _ _ _ _).n:Int) % 8=ZcL (m.fields.getD i dE) (Ky m.fields i);rw[hn,ad,h2]
 .rw[Zb0];show Wt L _ _ ((ZaV _ _ _ _ _ _).n:Int)=_;rw[hn,<-h3,hx];cases hv:YU (m.fields.getD i dE) with
  |true =>rw[if_pos rfl,if_pos rfl,t,if_pos hv,ZIc,List.drop_drop];simp[ZIg]
  |false =>rw[if_neg ψ,if_neg ψ,t,if_neg (by rw[hv];simp),ZIy];rw[show(dE:Val).parts=[] from rfl];rfl
 rw[Zb0];show(ZaV _ _ _ _ _ _).sums.length<=_;cases hv:YU (m.fields.getD i dE) with
 |true =>have hk:=ac hv;rw[hv,if_pos rfl]at hx;rw[t,if_pos hv,ZIc,show([m.fields.getD i dE]:List Fld).length=1 from rfl,Yo hk,ZlP,<-hx];have hw:=ZaI (xAt m.fields v.parts i);simp only[wtL];omega
 |false =>rw[hv,if_neg ψ]at hx;rw[t,if_neg (by rw[hv];simp),ZIy];rw[hx,show(dE:Val).parts=[] from rfl]at hs;rw[hx];simp only[wtL]at hs;omega
def Zqw{n}(hA:AlM d j m)(hL:ZaA d (n+1) m v)(hr:∀x∈v.parts,∀y∈x.parts,∀p,((rec y p).b.length:Int)=L y/\(rec y p).sums.length<=40*wtN y):∀{i},i<=I m.fields->StI rec L path m v i
 |0,_=>ZA4
 |i+1,hi=>ZA3 hA hL hr ω (Zqw hA hL hr ω)
end
def Zni{d}(u:Wo d=true):∀(n j v path),j<I d.msgs->ZaA d n (d.msgs.getD j dE) v ->
  ((JA d n (d.msgs.getD j dE) v path).b.length:Int)=lenS d n (d.msgs.getD j dE) v/\(JA d n (d.msgs.getD j dE) v path).n=8*(JA d n (d.msgs.getD j dE) v path).b.length/\(JA d n (d.msgs.getD j dE) v path).sums.length<=40*wtN v
 |0,_,_,_,_,h=>h.elim
 |n+1,j,v,path,hj,hL=>by
  have hA:=ZxY u hj;have hr:∀x∈v.parts,∀y∈x.parts,∀p,((JA d n (Zj d y.name) y p).b.length:Int)=lenS d n (Zj d y.name) y/\(JA d n (Zj d y.name) y p).sums.length<=40*wtN y:=λx hx y hy p=>by obtain⟨k,hk,rfl⟩:=Zd0 hx;obtain⟨h1,h2⟩:=(hL.2 k hk).2 y hy;have:=Zni u n (ixS d y.name) y p (by have:=KZ h1;omega) h2;exact⟨this.1,this.2.2⟩
  generalize d.msgs.getD j dE=m at *;have hS:=Zqw (rec:=λy p=>JA d n (Zj d y.name) y p) (L:=λy=>lenS d n (Zj d y.name) y) (path:=path) hA hL hr (ZIh _);obtain⟨h1,h2,h3,h4⟩:=hS;rw[ZtR hA]at h2;rw[List.drop_length]at h3;simp only[Wt]at h3;have hw:=ZaI v;have hfew:=hA.few;have htk:wtL (v.parts.take (vfs (m.fields.take (I m.fields))).length)<=wtL v.parts:=by
   conv=>rhs;rw[<-List.take_append_drop (vfs (m.fields.take (I m.fields))).length v.parts,ZlP]
   omega
  unfold BOk at h1;have t:lenS d (n+1) m v=(Wt (λy=>lenS d n (Zj d y.name) y) m.fields v.parts 0).tdiv 8:=rfl;have i:JA d (n+1) m v path=(stF (λy p=>JA d n (Zj d y.name) y p) path m.fields v.parts (I m.fields)).2:=rfl;rw[t,i,<-h3];generalize (stF (λy p=>JA d n (Zj d y.name) y p) path m.fields v.parts (I m.fields)).2=o at *;rw[Int.tdiv_eq_ediv_of_nonneg ω];omega
section
variable {d:Dfn} {j:Nat} {m:Msg} {v:Val} {rec:Val->Str->Wr} {L:Val->Int} {path:Str}
def Zyu{f x E w}(u:FN f x E w)(ho:FOk f)(hh:I x.hdrs<=100)(t:∀y∈x.parts,(∀p,((rec y p).b.length:Int)=L y)/\0<=L y/\8*L y<=20000*(wtN y:Int)):w.n<=(ZaV rec path f x E w).n:=by
 have h1:=Zyv (rec:=rec) (path:=path) u (λy i p=>(t y i).1 p);have h2:=Zco (f:=f) (x:=x) (b:=(w.n:Int)) ho ω hh;have h3:=JK (rec:=L) (l:=x.parts) (b:=KX f x w.n) (λy i=>(t y i).2);omega
def Zup{n}(t:AlM d j m)(u:ZaA d (n+1) m v)(hh:∀i,i<I m.fields->(xAt m.fields v.parts i).hdrs.length<=100)(hr:∀x∈v.parts,∀y∈x.parts,(∀p,((rec y p).b.length:Int)=L y)/\0<=L y/\8*L y<=20000*(wtN y:Int)):∀{i a},a<=i->i<=I m.fields->(stF rec path m.fields v.parts a).2.n<=(stF rec path m.fields v.parts i).2.n
  |0,a,h,_=>by obtain rfl:a=0:=ω;exact ZIh _
  |i+1,a,h,hi=>by by_cases e:a=i+1;subst e;exact ZIh _;have h1:=Zup t u hh hr (i:=i) (a:=a) ω ω;rw[Zb0];exact Nat.le_trans h1 (Zyu (L:=L) (Zux t u ω) (t.fld i ω).fok (hh i ω) (ZqH u ω hr))
end
def ZwO{rec path f x E w}(h:7<=f.kind/\f.kind<=9\/f.kind=12):ZaV rec path f x E w=Wv (if f.kind=12 then J6 f.key.toNat else id) rec (ZR path f.name) x.parts (I x.parts) 0 w:=by
 unfold ZaV;rw[if_neg ω,if_neg ω,if_neg ω,if_neg ω,if_neg ω,if_neg ω,if_neg ω,if_neg ω]
structure Fit(d:Dfn)(n:Nat)(m:Msg)(v:Val):Prop where
 len:ZaA d (n+1) m v
 right:JN m v.parts=true
 sub:∀x∈v.parts,∀y∈x.parts,∃q,0<=Zy d y.name (I d.msgs)/\(Z4 d n (Zj d y.name) y q).2=0
def ZCY{d n m v p}(hd:ZsC d)(hm:∀f∈m.fields,Zh4 d f)(hv:ZX v=true)(h:(Z4 d (n+1) m v p).2=0):Fit d n m v:=by
 have hL:=Zdf hd (n+1) m v p hm hv h;simp only[Z4]at h;split at h;rename_i hc;simp only[ZIb,decide_eq_true_eq]at hc;refine⟨hL,hc.2.2.2.2,λx hx y hy=>?_⟩;obtain⟨k,hk,rfl⟩:=Zd0 hx;have hg:=ZjT h k hk;have t:=(hL.2 k hk).1.unused;rw[t,if_neg ψ]at hg;have u:(vfs m.fields).getD k dE∈vfs m.fields:=Zu (by rw[hL.1];exact hk);have i:=List.mem_filter.1 u;obtain⟨of,q',h0,h1⟩:=Zrq (hm _ i.1) i.2 t hg y hy;have hn:y.name=of:=by rw[Zg2 h1,ZiE h0]
 exact⟨q',by rw[hn];exact h0,by rw[hn];exact h1⟩;simp at h
def Zq8{d}(hal:Wo d=true):∀(n j v path p0),j<I d.msgs->(Z4 d n (d.msgs.getD j dE) v p0).2=0->VOk v->I path+6000*n<=1000000->∀T,
  Za ZH1 31 [.agg d.cells,.agg (d.msgs.getD j dE).cells,.agg v.cells,.str path] T (WrP d (JA d n (d.msgs.getD j dE) v path) path T)
 |0,_,_,_,_,_,h,_,_,_=>by simp[Z4]at h
 |n+1,j,v,path,p0,hj,h,hv,hp,T=>by
  have hvd:=Q9 hal;have hA:=ZxY hal hj;have bl:∀f∈(d.msgs.getD j dE).fields,Zh4 d f:=hvd.dref _ (Zu hj);have hfo:∀f∈(d.msgs.getD j dE).fields,FOk f:=(hvd.dok _ (Zu hj)).fld;have hF:=ZCY hvd.dref bl hv.ok h;have bk:MOk (d.msgs.getD j dE):=hvd.dok _ (Zu hj);generalize d.msgs.getD j dE=m at *;have hL:=hF.len;have ae:∀x∈v.parts,∀y∈x.parts,0<=Zy d y.name (I d.msgs)/\ZaA d n (Zj d y.name) y:=λx hx y hy=>by obtain⟨k,hk,rfl⟩:=Zd0 hx;exact(hL.2 k hk).2 y hy
  obtain⟨rec,hrec⟩:∃rec:Val->Str->Wr,rec=λy p=>JA d n (Zj d y.name) y p:=⟨_,rfl⟩;obtain⟨L,ak⟩:∃L:Val->Int,L=λy=>lenS d n (Zj d y.name) y:=⟨_,rfl⟩;have af:∀x∈v.parts,∀y∈x.parts,∀p,((rec y p).b.length:Int)=L y/\(rec y p).sums.length<=40*wtN y:=λx hx y hy p=>by obtain⟨h1,h2⟩:=ae x hx y hy;have:=Zni hal n (ixS d y.name) y p (by have:=KZ h1;omega) h2;rw[hrec,ak];exact⟨this.1,this.2.2⟩
  have ay:∀x∈v.parts,∀y∈x.parts,0<=L y/\8*L y<=20000*(wtN y:Int):=λx hx y hy=>by rw[ak];exact Zbc hvd.dok n _ y (hvd.dok.of _) (Wm (Wm hv.ok hx) hy)
  have ah:=λi (hi:i<=I m.fields)=>Zqw (rec:=rec) (L:=L) (path:=path) hA hL af hi;have bb:∀i,i<I m.fields->VOk (xAt m.fields v.parts i)\/xAt m.fields v.parts i=dE:=λi hi=>by
   cases hb:YU (m.fields.getD i dE) with
   |true=>exact .inl (hv.part ((Za5 hL hi).1 hb).1)
   |false=>exact .inr ((Za5 hL hi).2 hb)
  have av:∀i,i<I m.fields->(xAt m.fields v.parts i).hdrs.length<=100:=λi hi=>by rcases bb i hi with h1|h1;exact(QF (KV h1.ok)).2.2.2.1;rw[h1];exact Nat.zero_le _
  have ag:=λ{i a} (h1:a<=i) (h2:i<=I m.fields)=>Zup (path:=path) (rec:=rec) (L:=L) hA hL av (λx hx y hy=>⟨λp=>(af x hx y hy p).1,ay x hx y hy⟩) h1 h2;have aj:=ah (I m.fields) (ZIh _);have az:(stF rec path m.fields v.parts (I m.fields)).2.n<=100000000:=by
   have h1:=aj.bits;rw[List.drop_length]at h1;simp only[Wt]at h1;have h2:=aj.off;rw[ZtR hA]at h2;have h3:=Zbc hvd.dok (n+1) m v bk hv.ok;have h4:lenS d (n+1) m v=(Wt L m.fields v.parts 0).tdiv 8:=by rw[ak];rfl
   rw[h4,<-h1,Int.tdiv_eq_ediv_of_nonneg ω]at h3;have h5:=hv.wt;omega
  have ar:∀i,i<=I m.fields->(stF rec path m.fields v.parts i).2.n<=100000000:=λi hi=>Nat.le_trans (ag hi (ZIh _)) az;have a8:∀i,i<=I m.fields->(stF rec path m.fields v.parts i).2.sums.length<=1000000:=λi hi=>by
   have h1:=(ah i hi).sums;have h2:wtL (v.parts.take (vfs (m.fields.take i)).length)<=wtL v.parts:=by
    conv=>rhs;rw[<-List.take_append_drop (vfs (m.fields.take i)).length v.parts,ZlP]
    omega
   have h3:=ZaI v;have h4:=hv.wt;have h5:=hA.few;omega
  have a0:∀i,i<=I m.fields->(stF rec path m.fields v.parts i).2.b.length<=100000000:=λi hi=>by have h1:=(ah i hi).bok;have h2:=ar i hi;unfold BOk at h1;omega
  have ap:JA d (n+1) m v path=(stF rec path m.fields v.parts (I m.fields)).2:=by rw[hrec];rfl
  rw[ap];refine Znb (Znc d m v path rec hv (by have:=hA.few;omega) (λi hi=>ZB8 hA.nm hF.right hi) (λi hi=>?_) T);have ac:=hA.fld i hi;have t:=ac.ks;have bg:=Zux (E:=stE rec path m.fields v.parts i) (w:=(stF rec path m.fields v.parts i).2) hA hL hi;have br:=Za5 hL hi;have bp:=Zb0 rec path m.fields v.parts i;have aq:=ar (i+1) ω;have au:=a8 (i+1) ω;have am:=a0 (i+1) ω;have ai:=(ah i ω).bok;have a5:=ar i ω;have a9:=a8 i ω;have hbi0:=a0 i ω;have bj:=λ{a} (ha:a<i)=>ZvD (rec:=rec) (path:=path) (ps:=v.parts) hA.nm (i:=i) (j:=a) ha ω;have a3:=λ{a} (ha:a<i)=>ag (i:=i) (a:=a) ω ω;have aw:=bb i hi;have bf:stE rec path m.fields v.parts i=YO (m.fields.getD i dE).name (((stF rec path m.fields v.parts i).2.n / 8:Nat):Int) (stF rec path m.fields v.parts i).1:=rfl;have a7:=hA.nm;have ad:=λy (hy:y∈(xAt m.fields v.parts i).parts)=>ZqH hL hi (Q:=λy=>∃x∈v.parts,y∈x.parts) (λx hx y hy=>⟨x,hx,hy⟩) y hy;generalize bh:m.fields.getD i dE=f at *;generalize xAt m.fields v.parts i=x at *;have ao:=ai;unfold BOk at ao;refine⟨ac.kind,ai,a5,a9,?_,ω,λh1=>?_,λh2=>?_,λh1=>?_,?_,λh5=>?_,λh6=>?_,ac.fok.pad,λax=>?_,λbe=>?_,λhk=>?_⟩;have:=ac.nm;rw[Zj1]at this;simp only[ZIb,decide_eq_true_eq]at this;omega;have:=bg.num h1;omega;have:=ac.num (by unfold YE;simp;omega);exact⟨this.1,this.2.1 h2⟩;rcases aw with hx|hx;exact hx.node.2.1;rw[hx];exact⟨by decide,by decide⟩;rcases aw with hx|hx;exact hx.node.2.2.1;rw[hx];exact Nat.zero_le _;unfold QU at t;simp only[h5,ZIJ,if_true,if_false]at t;split at t;omega;rename_i hc;simp only[ZIp,decide_eq_true_eq,not_or]at hc;omega;have bq:YU f=true:=by unfold YU;simp;omega
  obtain⟨bc,bt⟩:=br.1 bq;obtain⟨h1,h2⟩:=bt.hdrs h6;refine⟨h1,h2,?_⟩;have hw:=(hv.part bc).wt;have hw2:=ZaI x;have hw3:=(QF (KV (hv.part bc).ok)).2.2.2.1;rw[ZpF];omega;refine⟨ac.fok.chk ax,?_⟩;unfold QU at t;simp only[ax,ZIJ,if_true,if_false]at t;split at t;omega;split at t;omega;rename_i hfr;have h4:=QK (show 0<=KR m f.from_ i by omega);have h5:=Wc (λg:Fld=>dC (g.name=f.from_)) (m.fields.take i);rw[ZIm,show Zi (λg:Fld=>dC (g.name=f.from_)) (m.fields.take i)=KR m f.from_ i from rfl]at h5;have h6:=h4.1;rw[show(Zi (λg=>dC (g.name=f.from_)) (m.fields.take i))=KR m f.from_ i from rfl,QZ ω]at h6;have al:(KR m f.from_ i).toNat<i:=ω;have a6:(m.fields.getD (KR m f.from_ i).toNat dE).name=f.from_:=by simpa using h6
  have hg:=bj al;have hm2:=a3 al;have a4:=a7 _ i al hi;rw[bh,a6]at a4;rw[a6]at hg;exact⟨_,by rw[bf,WY,if_neg a4];exact hg,ω⟩;unfold QU at t;simp only[be,ZIJ,if_true,if_false]at t;split at t;omega;rename_i hc;simp only[ZIp,decide_eq_true_eq,not_or]at hc;omega;have bi:=ZwO (rec:=rec) (path:=path) (x:=x) (E:=stE rec path m.fields v.parts i) (w:=(stF rec path m.fields v.parts i).2) hk;rw[bp]at aq au am;simp only at aq au am;rw[bi]at aq au am;have ba:VOk x\/x=dE:=aw;refine⟨?_,?_,?_,ω,λy hy=>?_,λy hy p T hp2=>?_,λy hy p=>?_,ω,ω,ω⟩;rcases ba with hx|hx;exact hx.few;rw[hx];exact Nat.zero_le _;rcases ba with hx|hx;exact hx.name;intro y hy;rw[hx]at hy;simp[show(dE:Val).parts=[] from rfl]at hy;have:=ac.nm;rw[Zj1]at this;simp only[ZIb,decide_eq_true_eq]at this;omega;obtain⟨x',u,ab⟩:=ad y hy;exact(ae x' u y ab).1;obtain⟨x',u,ab⟩:=ad y hy;obtain⟨q,bn,bo⟩:=hF.sub x' u y ab;have:=Zq8 hal n (ixS d y.name) y p q (by have:=KZ bn;omega) bo ((hv.part u).part ab) ω T;rw[hrec];exact this;obtain⟨x',u,ab⟩:=ad y hy;have h1:=(af x' u y ab p).1;have h2:=ay x' u y ab;have h3:=((hv.part u).part ab).wt;omega
def ZlZ(v depth)(hd:0<=depth/\depth<=51)(f)(hf:depth<=50->∀x∈v.parts,Zf ZH1 10 [.agg x.cells,.int .i64 (depth+1)] (.int .i64 (f x))):Zf ZH1 10 [.agg v.cells,.int .i64 depth] (.int .i64 (ZqF f v depth)):=by
 refine WK (cR 10 f10) λad F st ac=>?_;have hw:=((ad (D.agg v.cells) ψ).agg_inv (Z7 v.parts) (by rw[ZIq];simp)).sl_inv.1;have aj:=(Ww ((ad (.agg v.cells) ψ).agg_inv (slD 2 Hdr.cells v.hdrs) (by rw[v.cells_eq];simp[Ym]))).1;unfold big at hw aj;clear ad;have hS:=ZqF.eq_1 f v depth;rw[v.cells_eq];refine rg ?_;refine rh ?_;refine WM ?_;simp only[Eqs,reduceCtorEq,ZH9,reduceIte,ZH6,ZIa,ZH7,W5,KC,KH];refine Zb6 rfl rfl rfl φ (WM ?_);simp only[Eqs,reduceCtorEq,ZH9,reduceIte,ZH6,ZIa,ZH7,W5,KC,KH];refine Zb6 rfl rfl rfl φ (WM ?_);simp only[Eqs,reduceCtorEq,ZH9,reduceIte,ZH6,ZIa,ZH7,W5,KC];generalize IntKind.i64.wrap (IntKind.i64.wrap (10+I v.name)+I v.bytes)=n1 at *;refine rx (nd2 @Zdl @Zj5) ?_;refine cd (λh1=>?_) (λh1=>?_);rw[if_pos h1]at hS;refine rg ?_;refine ri ac ?_;exact hS.symm;rw[if_neg (by simp[h1])]at hS;have ah:depth<=50:=by simp at h1;omega
 refine rg ?_;refine Zd (fr (I v.hdrs) (λi Q=>i<=I v.hdrs->Q [(1,.d (.int .i64 depth)),(2,.loc 2 0),(5,.d (.int .i64 (hsW n1 (v.hdrs.take i)))),(6,.d (.int .i64 i))] [(2,[.str v.name,.int .i64 v.int,Zo v.bytes,Ym v.hdrs,Z7 v.parts])] st) (λn ab=>?_) λak=>?_);intro i hn hi;refine rx @Zj5 ?_;refine cd (λh2=>?_) (λh2=>?_);simp at h2;have u:=ZAn (n:=n1) h2;generalize hg:v.hdrs.getD i dE=g at *;generalize hsW n1 (v.hdrs.take i)=a at *;refine rh ?_;refine Zb4 ?_;simp only[Eqs,reduceCtorEq,ZH9,reduceIte,ZH6,ZIa,ZH7,W5,KC,atH,hg,Hdr.cells];refine aa ?_;refine ZqI rfl rfl rfl φ (Zb4 ?_);simp only[Eqs,reduceCtorEq,ZH9,reduceIte,ZH6,ZIa,ZH7,W5,KC,atH,hg,Hdr.cells];refine aa ?_;refine ZqI rfl rfl rfl φ (Zb4 ?_);simp only[Eqs,reduceCtorEq,ZH9,reduceIte,ZH6,ZIa,ZH7,W5,KC];rw[u];refine gA ?_;refine Ze ?_;exact ab ((I v.hdrs)-(i+1)) ω (i+1) rfl ω;simp at h2;obtain rfl:i=I v.hdrs:=ω;rw[ZIC];generalize hsW n1 v.hdrs=n2 at *;refine rg ?_;refine Zd (fr (I v.parts) (λi Q=>∀n,Zdt f n (v.parts.drop i)=Zdt f n2 v.parts->i<=I v.parts->Q [(1,.d (.int .i64 depth)),(2,.loc 2 0),(5,.d (.int .i64 n)),(7,.d (.int .i64 i))] [(2,[.str v.name,.int .i64 v.int,Zo v.bytes,Ym v.hdrs,Z7 v.parts])] st) (λn t=>?_) λag=>?_);intro i hn n hr hi;refine rx @Zdl ?_;refine cd (λh3=>?_) (λh3=>?_);simp only[ZIb,decide_eq_true_eq]at h3;have h4:i<I v.parts:=ω;have ai:=QX h4;have u:=Zrx (f:=f) (n:=n) h4;rw[if_pos h3.2,hr]at u;have af:=hf ah _ (Zu h4);rw[ZIq]at af;generalize v.parts.getD i dE=x at *;refine rh ?_;refine WM ?_;simp only[Eqs,reduceCtorEq,ZH9,reduceIte,ZH6,ZIa,ZH7,W5,KC,atV,ai];refine aa ?_;refine Zb6 rfl rfl rfl φ (WM ?_);simp only[Eqs,reduceCtorEq,ZH9,reduceIte,ZH6,ZIa,ZH7,W5,KC];rw[Qi (n:=depth+1) ω];refine ZaK rfl rfl rfl rfl rfl φ φ (by exact af) (WM ?_);simp only[Eqs,reduceCtorEq,ZH9,reduceIte,ZH6,ZIa,ZH7,W5,KC];refine Zb6 rfl rfl rfl φ (WM ?_);simp only[Eqs,reduceCtorEq,ZH9,reduceIte,ZH6,ZIa,ZH7,W5,KC];refine gA ?_;refine Ze ?_;exact t ((I v.parts)-(i+1)) ω (i+1) rfl _ u.symm ω;have ae:n=Zdt f n2 v.parts:=by rw[<-hr];rcases Nat.lt_or_eq_of_le hi with h4|h4;rw[Zrx h4,if_neg];intro h5;simp[h4,h5]at h3;rw[h4,List.drop_length];rfl
 refine rg ?_;refine ri ac ?_;rw[hS,ae];exact ag _ 0 rfl n2 rfl ω;exact ak _ 0 rfl ω
def ZoE(v):∀depth:Int,0<=depth->depth<=51->∃n,Zf ZH1 10 [.agg v.cells,.int .i64 depth] (.int .i64 n)/\(ZX v=true->0<=n/\n<=110000000*(52-depth)+6000/\(n<=5000->n=wtN v/\(ZP v:Int)+depth<=51)):=by
 induction v using Val.ind with
 |h v ih =>
  intro depth h0 u;have hc:∀x:Val,∃n,depth<=50->x∈v.parts->Zf ZH1 10 [.agg x.cells,.int .i64 (depth+1)] (.int .i64 n)/\(ZX x=true->0<=n/\n<=110000000*(52-(depth+1))+6000/\(n<=5000->n=wtN x/\(ZP x:Int)+(depth+1)<=51)):=λx=>by by_cases hx:x∈v.parts/\depth<=50;obtain⟨n,hn⟩:=ih x hx.1 (depth+1) ω ω;exact⟨n,λ_ _=>hn⟩;exact⟨0,λh1 h2=>absurd ⟨h2,h1⟩ hx⟩
  refine⟨_,ZlZ v depth ⟨h0,u⟩ (λx=>(hc x).choose) λt x hx=>((hc x).choose_spec t hx).1,λi=>?_⟩;rw[Zfs,ZIb,ZeF,List.all_eq_true]at i;obtain⟨hn,hi,hb,hh,hw,_⟩:=QF i.2;unfold ZqF;split;exact⟨ω,ω,λh=>by omega⟩;rename_i h1;simp only[ZIp,decide_eq_true_eq,not_or]at h1;rw[Qi (n:=10+I v.name) ω,Qi ω,Zre _ _ ω ω];have hf:∀x∈v.parts,0<=(hc x).choose/\(hc x).choose<=110000000*(52-(depth+1))+6000:=λx hx=>by have:=((hc x).choose_spec ω hx).2 (i.1 x hx);exact⟨this.1,this.2.1⟩
  obtain⟨a,b,c⟩:=Zv8 (f:=λx=>(hc x).choose) (M:=110000000*(52-(depth+1))+6000) ⟨ω,ω⟩ v.parts (10+I v.name+I v.bytes+Q3 v.hdrs) ω ω hf;refine⟨ω,ω,λh5=>?_⟩;obtain⟨c1,c2⟩:=c h5;have hx:∀x∈v.parts,(hc x).choose=wtN x/\(ZP x:Int)+(depth+1)<=51:=λx hx=>(((hc x).choose_spec ω hx).2 (i.1 x hx)).2.2 (c2 x hx);refine⟨?_,?_⟩;rw[c1,ZDy λx h=>(hx x h).1,ZaI];omega;have:=ZwU (l:=v.parts) (k:=(50-depth).toNat) λx h=>by have:=(hx x h).2;omega
  rw[QA];omega
def Zqb(d:Dfn)(v st):Za ZH1 4 [.agg d.cells,.agg v.cells] st λr S=>S=st/\∃b,r=.ret (.bool b)/\(b=true->ZX v=true->wtN v<=5000/\ZP v<=51):=by
 obtain⟨wt,ae,ac⟩:=ZoE v 0 ω ω;refine Zan (cR 4 f4) λad F hF=>?_;have hw:=ZCX (s:=d) (ad _ ψ);have ak:=hw.nmsgs;unfold big at ak;clear ad;rw[v.cells_eq]at ae⊢;refine rx @eQ2 ?_;refine rx @ZwZ ?_;refine cd (λh0=>?_) (λh0=>?_);refine rg ?_;exact hF.ret _ _ rfl φ (ZH3 _) ZH2 ⟨rfl,false,rfl,λh=>by simp at h⟩;refine rg ?_;refine Zd (fr (I d.msgs) (λi Q=>i<=I d.msgs->Q [(2,.loc 2 0),(3,.loc 3 0),(5,.d (.int .i64 i))] [(2,[.str d.name,YY d.msgs,.str d.start]),(3,[.str v.name,.int .i64 v.int,Zo v.bytes,Ym v.hdrs,Z7 v.parts])] st) (λn u=>?_) λal=>?_);intro i hn hi;refine rx @ZwZ ?_;refine cd (λh1=>?_) (λh1=>?_);have ag:i<I d.msgs:=by simp at h1;omega
 have ai:=hw.msgs _ (Zu ag);have ah:=ai.nfields;unfold big at ah;generalize hm:d.msgs.getD i dE=m at *;refine xA (nd2 @atM (nd2 @hm @eQ3)) ?_;refine rx @Zdk ?_;refine cd (λh2=>?_) (λh2=>?_);refine rg ?_;exact hF.ret _ _ rfl φ (ZH3 _) ZH2 ⟨rfl,false,rfl,λh=>by simp at h⟩;refine rg ?_;refine Zd (fr (I m.fields) (λk Q=>k<=I m.fields->Q [(2,.loc 2 0),(3,.loc 3 0),(5,.d (.int .i64 i)),(6,.loc 6 0),(7,.d (.int .i64 k))] [(2,[.str d.name,YY d.msgs,.str d.start]),(3,[.str v.name,.int .i64 v.int,Zo v.bytes,Ym v.hdrs,Z7 v.parts]),(6,[.str m.name,Zq m.fields])] st) (λn t=>?_) λaf=>?_);intro k ac hk;refine rx @Zdk ?_;refine cd (λh3=>?_) (λh3=>?_);have ab:k<I m.fields:=by simp at h3;omega
 generalize hf:m.fields.getD k dE=f at *;refine xA (nd2 @atF (nd2 @hf (nd2 @eQ0 (nd2 @ZzQ @ZA7)))) ?_;refine cd (λh4=>?_) (λh4=>?_);refine rg ?_;exact hF.ret _ _ rfl φ (ZH3 _) ZH2 ⟨rfl,false,rfl,λh=>by simp at h⟩;refine gA ?_;refine Ze ?_;exact t ((I m.fields)-(k+1)) ω (k+1) rfl ω;have ab:k=I m.fields:=by simp at h3;omega
 subst ab;refine gA ?_;refine Ze ?_;exact u ((I d.msgs)-(i+1)) ω (i+1) rfl ω;exact af _ 0 rfl ω;refine rg ?_;refine cl (ae) ?_;exact hF.ret _ _ rfl φ (ZH3 _) ZH2 ⟨rfl,dC (wt<=5000),rfl,λh aj=>by
  have h1:=(ac aj).2.2 (of_decide_eq_true h);have h2:wt<=5000:=of_decide_eq_true h;exact⟨ω,ω⟩⟩
 exact al _ 0 rfl ω
def ZtD(e):Zf ZH1 9 [.int .i64 e] (.int .i64 e):=by
 refine Zh (cR 9 f9) λF st i=>?_;refine gG ?_;refine ro i ?_;rfl
def Zm8(d:Dfn)(s:Str)(v:Val):List UInt8:=(if (WX d s v).2=0 then JA d 51 (Zj d s) v [] else noW).b
def ZvA{d s v}(h:(WX d s v).2=0):Wo d=true:=by
 unfold WX at h;split at h;rename_i i;rw[ZIb]at i;exact i.1;simp at h
def Zp3{d s v}(hs:ZX v=true->wtN v<=5000/\ZP v<=51):((Zm8 d s v).length:Int)=ZiC d s v/\(Zm8 d s v).length<=100000000:=by
 unfold Zm8 ZiC;by_cases h:(WX d s v).2=0;rw[if_pos h,if_pos h];obtain⟨hd,hv,hf,hm⟩:=Zlo h;have ab:=ZvA h;obtain⟨t,hvh⟩:=Zch hv hs;have i:=(KZ hf).2;have u:d.msgs.getD (ixS d s) dE=Zj d s:=rfl;have hL:=Zdf hd.dref 51 (Zj d s) v [] (hd.dref _ (Zu i)) t.ok hm;have h1:=Zni ab 51 (ixS d s) v [] i (by rw[u];exact hL);have h2:=Zbc hd.dok 51 (Zj d s) v (hd.dok _ (Zu i)) t.ok;have h3:=t.wt;rw[u]at h1;refine⟨h1.1,?_⟩;have:=h1.1;omega;rw[if_neg h,if_neg h];exact⟨rfl,Nat.zero_le _⟩
def Zmk(hI:Qm)(d:Dfn)(s:Str)(v:Val)(hs:ZX v=true->wtN v<=5000/\ZP v<=51):
  Zf ZH1 6 [.agg d.cells,.str s,.agg v.cells] (.tup [Zo (Zm8 d s v),.int .i64 (WX d s v).2]):=by
 refine ZlT hI d s v (JA d 51 (Zj d s) v []) hs (λh=>(Zlo h).2.2.1) (λh T=>?_) (λh=>?_);obtain⟨hd,hv,hf,hm⟩:=Zlo h;obtain⟨u,hvh⟩:=Zch hv hs;have t:=(KZ hf).2;have i:d.msgs.getD (ixS d s) dE=Zj d s:=rfl;have:=Zq8 (ZvA h) 51 (ixS d s) v [] [] t (by rw[i];exact hm) u ψ T;rw[i]at this;exact this;have:=(Zp3 (d:=d) (s:=s) hs).2;unfold Zm8 at this;rw[if_pos h]at this;omega
def ZfW(hI:Qm)(hk:Zf ZH1 5 [] (.bool true))(d:Dfn)(s:Str)(v:Val):Zf ZH1 3 [.agg d.cells,.str s,.agg v.cells] (.bool true):=by
 refine Zh (cR 3 f3) λF st ae=>?_;have ao:=Zqb d v st;have ac:=λe=>ZtD e;have ab:=Zmk hI d s v;have u:=Zgq hI d s v;have ar:=Zp3 (d:=d) (s:=s) (v:=v);have t:=Zr0 hI d s v;have al:=ZuK (d:=d) (s:=s) (v:=v);have am:=Zyt (d:=d) (s:=s) (v:=v);generalize aw:WX d s v=W at *;generalize Zcy d s v=X at *;generalize Zm8 d s v=B at *;generalize ZiC d s v=N at *;obtain⟨⟨wp,wc⟩,we⟩:=W;obtain⟨xd,xe⟩:=X;simp only at ab u t al am;rw[ZIq]at ao ab u t⊢;refine rx @eQ2 ?_;refine rg ?_;refine cV (ao) ?_ ?_;rintro dd S ⟨rfl,b,hr,hs⟩;cases hr;refine gR0 ?_;refine cd (λh1=>?_) (λh1=>?_);refine rg ?_;refine cl (hk) ?_;refine rb ae ?_;rfl;have hb:b=true:=by simp at h1;exact h1.1
 have ad:=hs hb;have ak:=ab ad;have aj:=u ad;have i:=t ad;have ai:=al ad;have ag:=(ar ad).1;clear ab u t al hs ao ar;refine rx @eQ2 ?_;refine cl (ak) ?_;refine rx @eQ2 ?_;refine cl (aj) ?_;refine rx @KH ?_;refine Zl rfl trivial (λh=>by simp[ag]at h) (λ_=>?_);refine rx @eQ2 ?_;by_cases hx:xe=0;obtain⟨w,a3,hvv,hvw,af,au,az,a0,ay⟩:=ai hx;subst a3 hx;have aq:=Zmk hI d s w af;have ap:=Zgq hI d s w af;have ah:=(Zp3 (d:=d) (s:=s) af).1;generalize Zm8 d s w=Bw at *;rw[au]at aq ap;generalize ZiC d s w=Nw at *;rw[ZIq w]at *;have ax:dC ((Bw.length:Int)=Nw)=true:=decide_eq_true ah;have av:(0:Int)+0=0:=rfl;clear ag az a0 aw ah au ay ad af ai am;refine cl (i) ?_;refine aa ?_;refine rg ?_;refine cl (ac 0) ?_;refine i1 ?_;refine rx @eQ2 ?_;refine cl (aq) ?_;refine rx @eQ2 ?_;refine cl (ap) ?_;refine rg ?_;refine cl (ac 0) ?_;refine cX (nd2 @av (nd2 @KH @ax)) (ac 0) ?_;refine aa ?_;refine cG (hk) ?_;refine rb ae ?_;rfl;have hz:=am hx;subst hz;unfold ZpG at i;refine cl (i) ?_;refine aa ?_;refine rg ?_;refine cl (ac xe) ?_;refine Zl rfl trivial (λh=>by simp at h;exact absurd h hx) (λ_=>?_);refine rg ?_;refine cl (hk) ?_;refine rb ae ?_;rfl;rintro dd S ⟨_,b,hr,_⟩;cases hr
end Go.DL
namespace Go.DL
open Go
variable [ZsL]
variable {kp:Option (List Nat)}{L:Loc}{H:Env}{s:St}{w:World}{os:List DOp}{ds:List D}{B:List (Nat × Rd)}{dst:Option Nat}{tmps:Array Value}{g:G}{Φ:Res->St->Prop}{Z:Nat->Nat}{xs:List Opd}{side:Prop}{row:Nat->List D}
inductive V where
 |int (k:IntKind) (n:Int)
 |bool (b:Bool)
 |str (s:List Nat)
 |agg (cs:List V)
 |tup (vs:List V)
 |nilsl
 |sl (t n s:Nat) (rows:List V)
 |ep (cs:List V) (off:Nat)
 |nilptr
 |ptr (b off:Nat)
 |msl (b off n:Nat) (cap:Option Nat) (s:Nat)
 |map (b:Nat)
 |nilmap
 |fn (f:FuncId) (first caps:List V)
 |yield (l:Nat)
 |nilfn
 |iface (t:TypeId) (v:V)
 |niliface
 |stamp (n:Nat)
abbrev V.i(n:Int):V:=.int .i64 n
def J5{α:Type}(a:α):Option (List α)->Option (List α)
 |some l=>sO (a::l)
 |none=>nO
def KN{α a}{x:Option (List α)}{r:List α}(h:J5 a x=sO r):∃q,x=sO q/\r=a::q:=by
 cases x with
 |none=>cases h
 |some q=>simp[J5]at h;exact⟨q,rfl,h.symm⟩
def ZpT{α:Type}(n:Nat)(x y:List α):List α :=
 Nat.rec (motive:=λ_=>List α->List α) (λ_=>y) (λ_ ih l=>match l with
  | []=>y
  |a::t=>a::ih t) n x
def Zho{α}:∀{n} {x y:List α},I x=n->ZpT n x y=x++y
 |0,[],y,_=>rfl
 |0,a::x,y,h=>by grind
 |n+1,[],y,h=>by grind
 |n+1,a::x,y,h=>congrArg (a::·) (Zho (n:=n) (x:=x) (y:=y) (by grind))
def Ziu{α:Type}(n:Nat):List α->Option α :=
 Nat.rec (motive:=λ_=>List α->Option α) (λl=>match l with
  | []=>nO
  |a::_=>sO a) (λ_ ih l=>match l with
  | []=>nO
  |_::t=>ih t) n
def Zlq{α}:∀(n) (l:List α),Ziu n l=l[n]?
 |0,[]=>rfl
 |0,a::l=>rfl
 |n+1,[]=>rfl
 |n+1,a::l=>(Zlq n l).trans ψ
def ZbD{α:Type}(n:Nat):List α->List α :=
 Nat.rec (motive:=λ_=>List α->List α) (λl=>l) (λ_ ih l=>match l with
  | []=>[]
  |_::t=>ih t) n
def Ju{α}:∀(n) (l:List α),ZbD n l=l.drop n
 |0,l=>rfl
 |n+1,[]=>rfl
 |n+1,a::l=>(Ju n l).trans ψ
def Zbj{α:Type}(n:Nat):List α->Option (List α) :=
 Nat.rec (motive:=λ_=>List α->Option (List α)) (λ_=>sO []) (λ_ ih l=>match l with
  | []=>nO
  |a::t=>J5 a (ih t)) n
def Zaj{α}:∀{n} {l r:List α},Zbj n l=sO r->n<=I l/\r=l.take n
 |0,l,r,h=>by have i:sO []=sO r:=h;grind
 |n+1,[],r,h=>by have i:(nO:Option (List α))=sO r:=h;simp at i
 |n+1,a::l,r,h=>by obtain⟨q,t,rfl⟩:=KN (show J5 a (Zbj n l)=sO r from h);obtain⟨h1,h2⟩:=Zaj t;grind
def Zsm{α:Type}(o n:Nat)(l:List α):Option (List α):=match Nat.ble 1 n with
 |true=>Zbj n (ZbD o l)
 |false=>nO
def ZAH{α o n}{l r:List α}(h:Zsm o n l=sO r):o+n<=I l/\r=(l.drop o).take n:=by
 unfold Zsm at h;split at h;rename_i i;rw[Nat.ble_eq]at i;rw[Ju]at h;obtain⟨h1,h2⟩:=Zaj h;grind;grind
def Zw9{α:Type}(n:Nat):List α->List α->Option (List α) :=
 Nat.rec (motive:=λ_=>List α->List α->Option (List α)) (λxs l=>match xs with
  | []=>sO l
  |_::_=>nO) (λ_ ih xs l=>match xs with
  | []=>nO
  |x::xs=>match l with
   | []=>nO
   |_::t=>J5 x (ih xs t)) n
def ZkQ{α:Type}(o n:Nat)(xs:List α):List α->Option (List α) :=
 Nat.rec (motive:=λ_=>List α->Option (List α)) (λl=>Zw9 n xs l) (λ_ ih l=>match l with
  | []=>nO
  |a::t=>J5 a (ih t)) o
def ZtY{α}:∀{n} {xs l r:List α},Zw9 n xs l=sO r->I xs=n/\n<=I l/\r=xs++l.drop n
 |0,[],l,r,h=>by have i:sO l=sO r:=h;simp_all
 |0,x::xs,l,r,h=>by have i:(nO:Option (List α))=sO r:=h;simp at i
 |n+1,[],l,r,h=>by have i:(nO:Option (List α))=sO r:=h;simp at i
 |n+1,x::xs,[],r,h=>by have i:(nO:Option (List α))=sO r:=h;simp at i
 |n+1,x::xs,a::l,r,h=>by obtain⟨q,hx,rfl⟩:=KN (show J5 x (Zw9 n xs l)=sO r from h);obtain⟨t,u,h3⟩:=ZtY hx;subst h3;simp[t,u]
def Zqo{α}:∀{o n} {xs l r:List α},ZkQ o n xs l=sO r->I xs=n/\o+n<=I l/\r=l.take o++xs++l.drop (o+n)
 |0,n,xs,l,r,h=>by obtain⟨t,u,h3⟩:=ZtY (n:=n) (xs:=xs) (l:=l) (r:=r) h;grind
 |o+1,n,xs,[],r,h=>by have i:(nO:Option (List α))=sO r:=h;simp at i
 |o+1,n,xs,a::l,r,h=>by obtain⟨q,hx,rfl⟩:=KN (show J5 a (ZkQ o n xs l)=sO r from h);obtain⟨t,u,h3⟩:=Zqo hx;grind
structure Bx(α:Type) where
 run:α
structure N8(α:Type) where
 a:α
 b:α
 c:α
 d:α
 e:α
 f:α
 g:α
 h:α
def N8.all{α:Type}(x:α):N8 α:=⟨x,x,x,x,x,x,x,x⟩
def ZbN{α:Type}:Nat->Bx (N8 α->α)
 |0=>⟨λt=>t.a⟩
 |1=>⟨λt=>t.b⟩
 |2=>⟨λt=>t.c⟩
 |3=>⟨λt=>t.d⟩
 |4=>⟨λt=>t.e⟩
 |5=>⟨λt=>t.f⟩
 |6=>⟨λt=>t.g⟩
 |_=>⟨λt=>t.h⟩
def Zko{α:Type}:Nat->Bx ((α->α)->N8 α->N8 α)
 |0=>⟨λu t=>N8.casesOn t λa b c d e f g h=>⟨u a,b,c,d,e,f,g,h⟩⟩
 |1=>⟨λu t=>N8.casesOn t λa b c d e f g h=>⟨a,u b,c,d,e,f,g,h⟩⟩
 |2=>⟨λu t=>N8.casesOn t λa b c d e f g h=>⟨a,b,u c,d,e,f,g,h⟩⟩
 |3=>⟨λu t=>N8.casesOn t λa b c d e f g h=>⟨a,b,c,u d,e,f,g,h⟩⟩
 |4=>⟨λu t=>N8.casesOn t λa b c d e f g h=>⟨a,b,c,d,u e,f,g,h⟩⟩
 |5=>⟨λu t=>N8.casesOn t λa b c d e f g h=>⟨a,b,c,d,e,u f,g,h⟩⟩
 |6=>⟨λu t=>N8.casesOn t λa b c d e f g h=>⟨a,b,c,d,e,f,u g,h⟩⟩
 |_=>⟨λu t=>N8.casesOn t λa b c d e f g h=>⟨a,b,c,d,e,f,g,u h⟩⟩
abbrev T(α:Type):=N8 (N8 (N8 (N8 (N8 (Option α)))))
def T.nil{α:Type}:T α:=N8.all (N8.all (N8.all (N8.all (N8.all nO))))
def T.getF{α:Type}(k:Nat):Bx (T α->Option α) :=
 match Nat.blt k 32768 with
 |true=>⟨λt=>(ZbN (Nat.mod k 8)).run ((ZbN (Nat.mod (Nat.div k 8) 8)).run ((ZbN (Nat.mod (Nat.div k 64) 8)).run ((ZbN (Nat.mod (Nat.div k 512) 8)).run ((ZbN (Nat.mod (Nat.div k 4096) 8)).run t))))⟩
 |false=>⟨λ_=>nO⟩
def T.setF{α:Type}(k:Nat):Bx (Option α->T α->T α) :=
 match Nat.blt k 32768 with
 |true=>⟨λx=>(Zko (Nat.mod (Nat.div k 4096) 8)).run ((Zko (Nat.mod (Nat.div k 512) 8)).run ((Zko (Nat.mod (Nat.div k 64) 8)).run ((Zko (Nat.mod (Nat.div k 8) 8)).run ((Zko (Nat.mod k 8)).run λ_=>x))))⟩
 |false=>⟨λ_ t=>t⟩
def T.get{α:Type}(t:T α)(k:Nat):Option α:=(T.getF k).run t
def T.set{α:Type}(x:Option α)(t:T α)(k:Nat):T α:=(T.setF k).run x t
def ZBK{α u}{t:N8 α}:∀{i j:Nat},i<8->j<8->(ZbN i).run ((Zko j).run u t)=if i=j then u ((ZbN i).run t) else (ZbN i).run t:=by
 intro i j hi hj;have ab:∀i:Fin 8,∀j:Fin 8,(ZbN i.val).run ((Zko j.val).run u t)=if i.val=j.val then u ((ZbN i.val).run t) else (ZbN i.val).run t:=by intro i j;rcases i with _|_|_|_|_|_|_|_|i<;>(try omega)<;>rcases j with _|_|_|_|_|_|_|_|j<;>(try omega)<;>rfl
 exact ab ⟨i,hi⟩ ⟨j,hj⟩
def T.get_set{α}{x}{a}{t:T α}{k k'}(h:(t.set x k).get k'=sO a):(k'=k/\x=sO a)\/(k'≠k/\t.get k'=sO a):=by
 unfold T.get at h⊢;cases hb:Nat.blt k' 32768 with
 |false=>simp[T.getF,hb]at h
 |true =>
 have i:=hb;simp at i;unfold T.set T.setF at h;split at h;rename_i hk;simp at hk;have m (n:Nat):Nat.mod n 8<8:=Nat.mod_lt _ ω;have dp:∀{β:Type} {u:β->β} {t:N8 β} (n n':Nat),(ZbN (Nat.mod n 8)).run ((Zko (Nat.mod n' 8)).run u t)=if Nat.mod n 8=Nat.mod n' 8 then u ((ZbN (Nat.mod n 8)).run t) else (ZbN (Nat.mod n 8)).run t:=λn n'=>ZBK (m n) (m n')
 simp[T.getF,hb]at h⊢;rw[dp]at h;by_cases h5:Nat.mod (Nat.div k' 4096) 8=Nat.mod (Nat.div k 4096) 8;rw[if_pos h5,dp]at h;by_cases h4:Nat.mod (Nat.div k' 512) 8=Nat.mod (Nat.div k 512) 8;rw[if_pos h4,dp]at h;by_cases h3:Nat.mod (Nat.div k' 64) 8=Nat.mod (Nat.div k 64) 8;rw[if_pos h3,dp]at h;by_cases h2:Nat.mod (Nat.div k' 8) 8=Nat.mod (Nat.div k 8) 8;rw[if_pos h2,dp]at h;by_cases h1:Nat.mod k' 8=Nat.mod k 8;rw[if_pos h1]at h;refine .inl ⟨?_,h⟩;have e1 (a b:Nat):Nat.mod a b=a % b:=rfl;have e2 (a b:Nat):Nat.div a b=a / b:=rfl;simp[e1,e2]at h1 h2 h3 h4 h5;omega;rw[if_neg h1]at h;exact .inr ⟨λe=>h1 (by rw[e]),h⟩;rw[if_neg h2]at h;exact .inr ⟨λe=>h2 (by rw[e]),h⟩;rw[if_neg h3]at h;exact .inr ⟨λe=>h3 (by rw[e]),h⟩;rw[if_neg h4]at h;exact .inr ⟨λe=>h4 (by rw[e]),h⟩;rw[if_neg h5]at h;exact .inr ⟨λe=>h5 (by rw[e]),h⟩;by_cases e:k'=k;simp_all;exact .inr ⟨e,h⟩
def T.get_nil{α k}:(T.nil:T α).get k=nO:=by
 have this:∀{β:Type} (x:β) (n:Nat),(ZbN n).run (N8.all x)=x:=λx n=>by rcases n with _|_|_|_|_|_|_|n<;>rfl
 unfold T.get T.getF;split;simp[T.nil,this];rfl
mutual
def ofD:D->Option V
 |.int k n=>sO (.int k n)
 |.bool b=>sO (.bool b)
 |.str s=>sO (.str (s.map UInt8.toNat))
 |.agg cs=>(ofDs cs).map .agg
 |.nilsl=>sO .nilsl
 |.nilptr=>sO .nilptr
 |.nilmap=>sO .nilmap
 |.fn (.func f) [] []=>sO (.fn f [] [])
 |.nilfn=>sO .nilfn
 |.niliface=>sO .niliface
 |.ep cs o=>(ofDs cs).map (.ep · o)
 |_=>nO
def ofDs:List D->Option (List V)
 | []=>sO []
 |d::r=>match ofD d,ofDs r with
  |some v,sO vs=>sO (v::vs)
  |_,_=>nO
end
def leI:Int->Int->Bool
 |.ofNat a,b=>match b with
  |.ofNat b=>Nat.ble a b
  |.negSucc _=>false
 |.negSucc a,b=>match b with
  |.ofNat _=>true
  |.negSucc b=>Nat.ble b a
def eqI:Int->Int->Bool
 |.ofNat a,b=>match b with
  |.ofNat b=>Nat.beq a b
  |.negSucc _=>false
 |.negSucc a,b=>match b with
  |.ofNat _=>false
  |.negSucc b=>Nat.beq a b
def ZhD(a b):leI a b=dC (a<=b):=by
 rw[Bool.eq_iff_iff,decide_eq_true_eq];cases a<;>cases b<;>simp[leI]<;>omega
def ZjP(a b):eqI a b=dC (a=b):=by
 rw[Bool.eq_iff_iff,decide_eq_true_eq];cases a<;>cases b<;>simp[eqI]<;>omega
def ZA8:IntKind->Nat
 |.i8=>127|.i16=>32767|.i32=>2147483647|.i64=>9223372036854775807
 |.u8=>255|.u16=>65535|.u32=>4294967295|.u64=>18446744073709551615
def ZwW(k:IntKind):Int->Bool
 |.ofNat n=>Nat.ble n (ZA8 k)
 |.negSucc n=>k.signed&&Nat.ble n (ZA8 k)
def ZvI{k n}(h:ZwW k n=true):inR k n:=by
 cases n<;>cases k<;>simp only[ZwW,ZA8,Nat.ble_eq,IntKind.signed,ZIE,ZIt,ZIz]at h <;>
  simp[inR,IntKind.min,IntKind.max,IntKind.signed,IntKind.bits]<;>omega
def ZgU(k:IntKind)(n:Int):Option V:=match ZwW k n with
 |true=>sO (.int k n)
 |false=>nO
def ZwX:IntKind->Nat
 |.i8=>0|.i16=>1|.i32=>2|.i64=>3|.u8=>4|.u16=>5|.u32=>6|.u64=>7
def Zgh(k k':IntKind):Bool:=Nat.beq (ZwX k) (ZwX k')
def Zfl{k k'}(h:Zgh k k'=true):k=k':=by
 cases k<;>cases k'<;>first|rfl|(simp[Zgh,ZwX]at h)
def ZAN(op:BinOp):IntKind->Int->Int->Option V :=
 match op with
 |.add=>λk a b=>ZgU k (Int.add a b)
 |.sub=>λk a b=>ZgU k (Int.sub a b)
 |.mul=>λk a b=>ZgU k (Int.mul a b)
 |.quo=>λk a b=>match eqI b 0 with
  |true=>nO
  |false=>ZgU k (a.tdiv b)
 |.rem=>λk a b=>match eqI b 0 with
  |true=>nO
  |false=>ZgU k (a.tmod b)
 |.and=>λk a b=>sO (.int k (Qh .and k a b))
 |.or=>λk a b=>sO (.int k (Qh .or k a b))
 |.xor=>λk a b=>sO (.int k (Qh .xor k a b))
 |.andNot=>λk a b=>sO (.int k (Qh .andNot k a b))
 |.eql=>λ_ a b=>sO (.bool (eqI a b))
 |.neq=>λ_ a b=>sO (.bool (!eqI a b))
 |.lss=>λ_ a b=>sO (.bool (!leI b a))
 |.leq=>λ_ a b=>sO (.bool (leI a b))
 |.gtr=>λ_ a b=>sO (.bool (!leI a b))
 |.geq=>λ_ a b=>sO (.bool (leI b a))
 |.shl=>λk a b=>match leI 0 b with
  |true=>ZgU k (Zah k a b)
  |false=>nO
 |.shr=>λk a b=>match leI 0 b with
  |true=>ZgU k (QI k a b)
  |false=>nO
def eqS:List Nat->List Nat->Bool
 | [],[]=>true
 |a::x,b::y=>if Nat.beq (a % 256) (b % 256) then eqS x y else false
 |_,_=>false
def ZdL:List Nat->List Nat->Bool
 |_,[]=>false
 | [],_::_=>true
 |a::x,b::y=>if Nat.blt (a % 256) (b % 256) then true else if Nat.beq (a % 256) (b % 256) then ZdL x y else false
def ZAO(op:BinOp):List Nat->List Nat->Option V :=
 match op with
 |.add=>λa b=>match Nat.ble (I a+I b) big with
  |true=>sO (.str (a++b))
  |false=>nO
 |.eql=>λa b=>sO (.bool (eqS a b))
 |.neq=>λa b=>sO (.bool (!eqS a b))
 |.lss=>λa b=>sO (.bool (ZdL a b))
 |.leq=>λa b=>sO (.bool (ZdL a b ||eqS a b))
 |.gtr=>λa b=>sO (.bool (!(ZdL a b ||eqS a b)))
 |.geq=>λa b=>sO (.bool (!ZdL a b))
 |_=>λ_ _=>nO
def ZlH:SK->V->V->Option Bool
 |.int,.int k a,.int k' b=>if Zgh k k' then sO (eqI a b) else nO
 |.str,.str a,.str b=>sO (eqS a b)
 |.bool,.bool a,.bool b=>sO (dC (a=b))
 |_,_,_=>nO
def Zhr(xs ys:List V):List (Nat×SK)->Option Bool
 | []=>sO true
 | (o,k)::r=>match xs[o]?,ys[o]? with
  |some x,sO y=>match ZlH k x y,Zhr xs ys r with
   |some b,sO c=>sO (b&&c)
   |_,_=>nO
  |_,_=>nO
def Zej:KP->V->V->Option Bool
 |.sc k,x,y=>ZlH k x y
 |.st l,.agg xs,.agg ys=>if (I xs)=I l/\I ys=I l then Zhr xs ys l else nO
 |_,_,_=>nO
def Zsn:Ze2->V->V->Option Bool
 |.bool,.bool a,.bool b=>sO (dC (a=b))
 |.sl,.nilsl,.nilsl=>sO true
 |.sl,.sl _ n _ _,.nilsl=>if 0<n then sO false else nO
 |.sl,.msl _ _ _ _ _,.nilsl=>sO false
 |.map,.nilmap,.nilmap=>sO true
 |.map,.map _,.nilmap=>sO false
 |.fn,.nilfn,.nilfn=>sO true
 |.fn,.fn _ _ _,.nilfn=>sO false
 |.fn,.yield _,.nilfn=>sO false
 |.ifc,.niliface,.niliface=>sO true
 |.ifc,.iface _ _,.niliface=>sO false
 |.ptr,.nilptr,.nilptr=>sO true
 |.ptr,.ptr _ _,.nilptr=>sO false
 |.ptr,.ep _ _,.nilptr=>sO false
 |.cells l,.agg xs,.agg ys=>Zhr xs ys l
 |_,_,_=>nO
def Zuh:BinOp->Bool
 |.shl|.shr=>true
 |_=>false
def Zt9(op:BinOp)(p:Option Ze2):V->V->Option V :=
 match p with
 |none=>λ_ _=>nO
 |some p=>match op with
  |.eql=>λx y=>match Zsn p x y with
   |some b=>sO (.bool b)
   |none=>nO
  |.neq=>λx y=>match Zsn p x y with
   |some b=>sO (.bool (!b))
   |none=>nO
  |_=>λ_ _=>nO
def Zt8(op:BinOp)(p:Option Ze2)(x y:V):Option V :=
 match x with
 |.int k a=>match y with
  |.int k' b=>match Zuh op ||Zgh k k' with
   |true=>ZAN op k a b
   |false=>nO
  |_=>nO
 |.str a=>match y with
  |.str b=>ZAO op a b
  |_=>nO
 |x=>Zt9 op p x y
inductive W where
 |v (x:V)
 |loc (l off:Nat)
 |skip
inductive O where
 |cells (vs:List V)
 |buf (vs:List V)
 |map (es:List (V×V))
 |tok (k:Nat)
 |mapE (kp:KP) (es:List (V×V)) (k:V) (n:Nat)
 |loop (f:FuncId) (n:Nat) (ps:List Nat) (a b:DC) (H:T W) (st:Option DC) (busy:Bool)
 |dfr
 |ro (o:O)
abbrev S:=T O
def cellsO:O->Option (List V)
 |.cells vs=>sO vs
 |.buf vs=>sO vs
 |.ro o=>match o with
  |.cells vs=>sO vs
  |.buf vs=>sO vs
  |_=>nO
 |_=>nO
def ZaY:Option O->Option (List V)
 |some o=>cellsO o
 |none=>nO
def mapO:Option O->Option (List (V×V))
 |some o=>match o with
  |.map es=>sO es
  |.ro o=>match o with
   |.map es=>sO es
   |_=>nO
  |_=>nO
 |none=>nO
def ZbQ:O->Bool
 |.ro _=>true
 |_=>false
def Zop(kp:KP)(k:V):List (V×V)->Option (Option V)
 | []=>sO nO
 |e::r=>match Zej kp k e.1 with
  |some true=>sO (sO e.2)
  |some false=>Zop kp k r
  |none=>nO
def ZqA(kp:KP)(k v:V):List (V×V)->Option (List (V×V))
 | []=>sO [(k,v)]
 |e::r=>match Zej kp k e.1 with
  |some true=>sO ((k,v)::r)
  |some false=>(ZqA kp k v r).map (e::·)
  |none=>nO
def Ztk(kp:KP)(k:V):List (V×V)->Option (List (V×V))
 | []=>sO []
 |e::r=>match Zej kp k e.1 with
  |some true=>sO r
  |some false=>(Ztk kp k r).map (e::·)
  |none=>nO
def Ztq(kp:KP)(k z:V):List (V×V)->Option V
 | []=>sO z
 |e::r=>match Zej kp k e.1 with
  |some true=>sO e.2
  |some false=>Ztq kp k z r
  |none=>nO
def Zsk(z:V)(ok:Bool):Option V->V
 |some v=>if ok then .tup [v,.bool true] else v
 |none=>if ok then .tup [z,.bool false] else z
def ZfS:V->List V
 |.agg cs=>cs
 |v=>[v]
def Zpz:V->Bool
 |.tup _=>false
 |_=>true
def ZxJ:V->Bool
 |.tup _|.agg _=>false
 |_=>true
def Zsg(cells:List V):List (Nat×Nat)->List V->Option (List V)
 | [],[]=>sO cells
 | (o,n)::ps,d::ds=>if Zpz d then match ZkQ o n (ZfS d) cells with
  |some cs=>Zsg cs ps ds
  |none=>nO
  else nO
 |_,_=>nO
def Zxp(s n:Nat):List V->Option (List V) :=
 Nat.rec (motive:=λ_=>List V->Option (List V)) (λ_=>sO []) (λ_ ih l=>match Zbj s l with
  |some r=>J5 (.agg r) (ih (ZbD s l))
  |none=>nO) n
def Zos(s:Nat)(n:Nat):List V->Option (List V) :=
 Nat.rec (motive:=λ_=>List V->Option (List V)) (λ_=>sO []) (λ_ ih l=>match l with
  |.agg cs::t=>match ih t with
   |some r=>sO (ZpT s cs r)
   |none=>nO
  |_=>nO) n
def ZnZ:List V->Option (List Nat)
 | []=>sO []
 |.int .u8 n::r=>J5 n.toNat (ZnZ r)
 |_::_=>nO
def ZsY:List V->Option (List Nat)
 | []=>sO []
 |.agg [.int .u8 n]::r=>J5 n.toNat (ZsY r)
 |_::_=>nO
def J8:List Bool->List V->Option (List (Option Int))
 | [],[]=>sO []
 |true::bs,.int _ n::r=>(J8 bs r).map (sO n::·)
 |false::bs,r=>(J8 bs r).map (nO::·)
 |_,_=>nO
def ZxF(t n:Nat)(l h:Int):Option Int->Nat
 |some m=>if eqI m h then 1 else 0
 |none=>if eqI h n then (if Nat.beq t 1 then 1 else if eqI l 0 then t else 0) else 0
def ZDa(h:Int)(n:Nat):Option Int->Bool
 |some m=>leI h m&&leI m n
 |none=>true
def Zuj(s:Nat)(lo hi mx:Option Int):V->Option V
 |.sl t n s' rs =>
  if Nat.beq s' s&&leI 0 (lo.getD 0)&&leI (lo.getD 0) (hi.getD n)&&leI (hi.getD n) n&&ZDa (hi.getD n) n mx then
   match Zbj (Int.sub (hi.getD n) (lo.getD 0)).toNat (ZbD (lo.getD 0).toNat rs) with
   |some r=>sO (.sl (ZxF t n (lo.getD 0) (hi.getD n) mx) (Int.sub (hi.getD n) (lo.getD 0)).toNat s r)
   |none=>nO
  else nO
 |.nilsl=>if eqI (lo.getD 0) 0&&eqI (hi.getD 0) 0&&eqI (mx.getD 0) 0 then sO .nilsl else nO
 |.msl b o n cap s' =>
  if Nat.beq s' s&&leI 0 (lo.getD 0)&&leI (lo.getD 0) (hi.getD n) then match cap with
   |some cap=>if leI (hi.getD n) (mx.getD cap)&&leI (mx.getD cap) cap then
     sO (.msl b (if eqI (mx.getD cap) (lo.getD 0) then o else o+(lo.getD 0).toNat*s) (Int.sub (hi.getD n) (lo.getD 0)).toNat (sO (Int.sub (mx.getD cap) (lo.getD 0)).toNat) s) else nO
   |none=>if leI (hi.getD n) n&&(eqI (lo.getD 0) 0||!leI n (lo.getD 0)) then match mx with
    |none=>sO (.msl b (o+(lo.getD 0).toNat*s) (Int.sub (hi.getD n) (lo.getD 0)).toNat nO s)
    |some m=>if leI (hi.getD n) m&&leI m n then sO (.msl b (if eqI m (lo.getD 0) then o else o+(lo.getD 0).toNat*s) (Int.sub (hi.getD n) (lo.getD 0)).toNat (sO (Int.sub m (lo.getD 0)).toNat) s) else nO
    else nO
  else nO
 |_=>nO
def a1(vs:List V)(f:V->Option V):Option V:=match vs with
 | [x]=>f x
 |_=>nO
def a2(vs:List V)(f:V->V->Option V):Option V:=match vs with
 | [x,y]=>f x y
 |_=>nO
def Zk3(cs:List V)(o n:Nat):Option V:=match Zsm o n cs with
 |some r=>sO (.agg r)
 |none=>nO
def Zjy(U:S)(b:Nat)(f:List V->Option V):Option V:=match ZaY (U.get b) with
 |some cs=>f cs
 |none=>nO
def Zgc(i:Int)(n:Nat)(r:Option V):Option V:=if leI 0 i&&!leI n i then r else nO
def noV{α:Type}(b:Bool)(r:Option α):Option α:=if b then r else nO
def qV:Q->S->List V->Option V
 |.mv=>λ_ vs=>a1 vs sO
 |.nilck=>λ_ vs=>a1 vs λx=>match x with
  |.ep _ _=>sO x
  |.ptr _ _=>sO x
  |.fn _ _ _=>sO x
  |.yield _=>sO x
  |_=>nO
 |.load1=>λU vs=>a1 vs λa=>match a with
  |.ep cs o=>Ziu o cs
  |.ptr b o=>Zjy U b λcs=>Ziu o cs
  |_=>nO
 |.loadN n=>λU vs=>a1 vs λa=>match a with
  |.ep cs o=>Zk3 cs o n
  |.ptr b o=>Zjy U b λcs=>Zk3 cs o n
  |_=>nO
 |.bin op p=>λ_ vs=>a2 vs (Zt8 op p)
 |.not=>λ_ vs=>a1 vs λx=>match x with
  |.bool b=>sO (.bool !b)
  |_=>nO
 |.neg=>λ_ vs=>a1 vs λx=>match x with
  |.int k n=>ZgU k (Int.neg n)
  |_=>nO
 |.xorm=>λ_ vs=>a1 vs λx=>match x with
  |.int k n=>sO (.int k (Qh .xor k (if k.signed then -1 else k.max) n))
  |_=>nO
 |.conv c=>match c with
  |.int k=>λ_ vs=>a1 vs λx=>match x with
   |.int k' n=>sO (if k=k' then .int k n else .int k (k.wrap n))
   |_=>nO
  |.str=>λ_ vs=>a1 vs λx=>match x with
   |.str s=>sO (.str s)
   |_=>nO
  |.i2s=>λ_ vs=>a1 vs λx=>match x with
   |.int _ n=>noV (Nat.ble (Utf8.encode n).data.toList.length big) (sO (.str ((Utf8.encode n).data.toList.map UInt8.toNat)))
   |_=>nO
  |.b2s=>λU vs=>a1 vs λx=>match x with
   |.nilsl=>sO (.str [])
   |.sl _ _ s rs=>noV (Nat.beq s 1) ((ZsY rs).map .str)
   |.msl b o n _ s=>noV (Nat.beq s 1) (Zjy U b λcs=>noV (Nat.ble (o+n) (I cs)) (match Zbj n (ZbD o cs) with
    |some r=>(ZnZ r).map .str
    |none=>nO))
   |_=>nO
 |.faddr off=>λ_ vs=>a1 vs λx=>match x with
  |.ep cs o=>sO (.ep cs (o+off))
  |.ptr b o=>sO (.ptr b (o+off))
  |_=>nO
 |.fld1 off=>λ_ vs=>a1 vs λx=>match x with
  |.agg cs=>Ziu off cs
  |_=>nO
 |.fldN off n=>λ_ vs=>a1 vs λx=>match x with
  |.agg cs=>Zk3 cs off n
  |_=>nO
 |.iaddr z=>λ_ vs=>a2 vs λx y=>match y with
  |.int _ i=>match x with
   |.sl _ n z' rs=>noV (Nat.beq z' z) (Zgc i n (match Ziu i.toNat rs with
    |some (.agg cs)=>sO (.ep cs 0)
    |_=>nO))
   |.msl b o n _ z'=>noV (Nat.beq z' z) (Zgc i n (sO (.ptr b (o+i.toNat*z))))
   |_=>nO
  |_=>nO
 |.iaddrA m z=>λ_ vs=>a2 vs λx y=>match y with
  |.int _ i=>match x with
   |.ptr b o=>Zgc i m (sO (.ptr b (o+i.toNat*z)))
   |.ep cs o=>Zgc i m (sO (.ep cs (o+i.toNat*z)))
   |_=>nO
  |_=>nO
 |.idxA m z one=>λ_ vs=>a2 vs λx y=>match y with
  |.int _ i=>match x with
   |.agg cs=>Zgc i m (if one then Ziu (i.toNat*z) cs else Zk3 cs (i.toNat*z) z)
   |_=>nO
  |_=>nO
 |.sliceA m z lo hi mx=>λ_ vs=>match vs with
  |.ptr b o::r=>match J8 [lo,hi,mx] r with
   |some [l,h,x]=>noV (leI 0 (l.getD 0)&&leI (l.getD 0) (h.getD m)&&leI (h.getD m) (x.getD m)&&leI (x.getD m) m&&Nat.ble m big)
     (sO (.msl b (if eqI (x.getD m) (l.getD 0) then o else o+(l.getD 0).toNat*z) (Int.sub (h.getD m) (l.getD 0)).toNat (sO (Int.sub (x.getD m) (l.getD 0)).toNat) z))
   |_=>nO
  |_=>nO
 |.idxS=>λ_ vs=>a2 vs λx y=>match y with
  |.int _ i=>match x with
   |.str s=>Zgc i (I s) (sO (.int .u8 (Int.ofNat (s.getD i.toNat 0 % 256))))
   |_=>nO
  |_=>nO
 |.lenS=>λ_ vs=>a1 vs λx=>match x with
  |.str s=>sO (.i (Int.ofNat (I s)))
  |_=>nO
 |.lenL=>λ_ vs=>a1 vs λx=>match x with
  |.sl _ n _ _=>sO (.i (Int.ofNat n))
  |.msl _ _ n _ _=>sO (.i (Int.ofNat n))
  |.nilsl=>sO (.i (Int.ofNat 0))
  |_=>nO
 |.lenA n=>λ_ vs=>a1 vs λ_=>noV (Nat.ble n big) (sO (.i (Int.ofNat n)))
 |.ext k=>λ_ vs=>a1 vs λx=>match x with
  |.tup vs=>Ziu k vs
  |_=>nO
 |.build zero parts=>match ofDs zero with
  |some z=>λ_ es=>(Zsg z parts es).map .agg
  |none=>λ_ _=>nO
 |.mkfn f k=>match f with
  |.func f=>λ_ es=>sO (.fn f (es.take k) (es.drop k))
  |_=>λ_ _=>nO
 |.mkif t=>λ_ vs=>a1 vs λx=>sO (.iface t x)
 |.sliceS lo hi=>λ_ vs=>match vs with
  |.str s::r=>match J8 [lo,hi,false] r with
   |some [l,h,_]=>noV (leI 0 (l.getD 0)&&leI (l.getD 0) (h.getD (I s))&&leI (h.getD (I s)) (I s))
     (sO (.str ((s.drop (l.getD 0).toNat).take ((h.getD (I s)).toNat-(l.getD 0).toNat))))
   |_=>nO
  |_=>nO
 |.slice s lo hi mx=>λ_ vs=>match vs with
  |x::r=>match J8 [lo,hi,mx] r with
   |some [l,h,m]=>Zuj s l h m x
   |_=>nO
  |_=>nO
 |.min=>λ_ vs=>a2 vs λx y=>match x with
  |.int k a=>match y with
   |.int k' b=>noV (Zgh k k') (sO (.int k (if leI a b then a else b)))
   |_=>nO
  |_=>nO
 |.max=>λ_ vs=>a2 vs λx y=>match x with
  |.int k a=>match y with
   |.int k' b=>noV (Zgh k k') (sO (.int k (if leI a b then b else a)))
   |_=>nO
  |_=>nO
 |.tassert t ok zero=>match ok with
  |true=>λ_ vs=>a1 vs λx=>match x with
   |.iface t' v=>noV (Nat.beq t' t) (sO (.tup [v,.bool true]))
   |.niliface=>(ofD zero).map λz=>.tup [z,.bool false]
   |_=>nO
  |false=>λ_ vs=>a1 vs λx=>match x with
   |.iface t' v=>noV (Nat.beq t' t) (sO v)
   |_=>nO
 |.lookup kp z ok=>match ofD z with
  |some z=>λU vs=>a2 vs λm k=>noV (Zej kp k k).isSome (match m with
   |.map b=>match mapO (U.get b) with
    |some es=>(Zop kp k es).map (Zsk z ok)
    |none=>nO
   |.nilmap=>sO (Zsk z ok nO)
   |_=>nO)
  |none=>λ_ _=>nO
 |.lenM=>λU vs=>a1 vs λx=>match x with
  |.map b=>match mapO (U.get b) with
   |some es=>noV (Nat.ble (I es) big) (sO (.i (Int.ofNat (I es))))
   |_=>nO
  |.nilmap=>sO (.i (Int.ofNat 0))
  |_=>nO
abbrev Nm:=Nat->Option Tok
def Nm.Sub(J J':Nm):Prop:=∀k t,J k=sO t->J' k=sO t
def Nm.Sub.refl(J:Nm):J.Sub J:=λ_ _ h=>h
def Nm.Sub.trans{a b c:Nm}(h:a.Sub b)(i:b.Sub c):a.Sub c:=λk t x=>i k t (h k t x)
mutual
inductive VR(J:Nm):V->D->Prop where
 |int (k:IntKind) (n:Int):VR J (.int k n) (.int k n)
 |bool (b:Bool):VR J (.bool b) (.bool b)
 |str (s:List Nat):VR J (.str s) (.str (s.map UInt8.ofNat))
 |agg (cs:List V) (ds:List D) (h:VRs J cs ds):VR J (.agg cs) (.agg ds)
 |tup (cs:List V) (ds:List D) (h:VRs J cs ds):VR J (.tup cs) (.tup ds)
 |nilsl:VR J .nilsl .nilsl
 |sl (t n s:Nat) (rs:List V) (τ:Tok) (row:Nat->List D) (h:VRr J s rs row) (hn:I rs=n) (ht:t=0\/J t=sO τ):VR J (.sl t n s rs) (.sl τ n s row)
 |ep (cs:List V) (o:Nat) (ds:List D) (h:VRs J cs ds):VR J (.ep cs o) (.ep ds o)
 |nilptr:VR J .nilptr .nilptr
 |ptr (k b o:Nat) (h:J k=sO (.tip b)):VR J (.ptr k o) (.ptr b o)
 |msl (k b o n cap s:Nat) (h:J k=sO (.tip b)):VR J (.msl k o n (sO cap) s) (.msl b o n cap s)
 |gsl (k b o n cap s c:Nat) (h:J k=sO (.tip b)) (h2:J (k+1)=sO (.tip c)) (hc:n<=cap) (hl:o+cap*s<=c):VR J (.msl k o n nO s) (.msl b o n cap s)
 |map (k b:Nat) (h:J k=sO (.tip b)):VR J (.map k) (.map b)
 |nilmap:VR J .nilmap .nilmap
 |fn (f:FuncId) (a c:List V) (da dc:List D) (ha:VRs J a da) (hc:VRs J c dc):VR J (.fn f a c) (.fn (.func f) da dc)
 |yield (k b:Nat) (h:J k=sO (.tip b)):VR J (.yield k) (.fn (.yield b) [] [])
 |nilfn:VR J .nilfn .nilfn
 |iface (t:TypeId) (v:V) (d:D) (h:VR J v d):VR J (.iface t v) (.iface t d)
 |niliface:VR J .niliface .niliface
 |stamp (k b:Nat) (h:J k=sO (.tip b)):VR J (.stamp k) (.stamp b)
inductive VRs(J:Nm):List V->List D->Prop where
 |nil:VRs J [] []
 |cons (v:V) (d:D) (vs:List V) (ds:List D) (h:VR J v d) (t:VRs J vs ds):VRs J (v::vs) (d::ds)
inductive VRr(J:Nm):Nat->List V->(Nat->List D)->Prop where
 |nil (s:Nat) (row:Nat->List D):VRr J s [] row
 |cons (s:Nat) (cs:List V) (rs:List V) (row:Nat->List D) (h:VRs J cs (row 0)) (hl:I cs=s) (t:VRr J s rs (λi=>row (i+1))):VRr J s (.agg cs::rs) row
end
mutual
def VR.mono{J J':Nm}(e:J.Sub J'):∀{v:V} {d:D},VR J v d->VR J' v d
 |_,_,.int k n=>.int k n
 |_,_,.bool b=>.bool b
 |_,_,.str s=>.str s
 |_,_,.agg cs ds h=>.agg cs ds (h.mono e)
 |_,_,.tup cs ds h=>.tup cs ds (h.mono e)
 |_,_,.nilsl=>.nilsl
 |_,_,.sl t n s rs τ row h hn ht=>.sl t n s rs τ row (h.mono e) hn (ht.imp id (e _ _))
 |_,_,.ep cs o ds h=>.ep cs o ds (h.mono e)
 |_,_,.nilptr=>.nilptr
 |_,_,.ptr k b o h=>.ptr k b o (e _ _ h)
 |_,_,.msl k b o n cap s h=>.msl k b o n cap s (e _ _ h)
 |_,_,.gsl k b o n cap s c h h2 hc hl=>.gsl k b o n cap s c (e _ _ h) (e _ _ h2) hc hl
 |_,_,.map k b h=>.map k b (e _ _ h)
 |_,_,.nilmap=>.nilmap
 |_,_,.fn f a c da dc ha hc=>.fn f a c da dc (ha.mono e) (hc.mono e)
 |_,_,.yield k b h=>.yield k b (e _ _ h)
 |_,_,.nilfn=>.nilfn
 |_,_,.iface t v d h=>.iface t v d (h.mono e)
 |_,_,.niliface=>.niliface
 |_,_,.stamp k b h=>.stamp k b (e _ _ h)
def VRs.mono{J J':Nm}(e:J.Sub J'):∀{v:List V} {d:List D},VRs J v d->VRs J' v d
 |_,_,.nil=>.nil
 |_,_,.cons v d vs ds h t=>.cons v d vs ds (h.mono e) (t.mono e)
def VRr.mono{J J':Nm}(e:J.Sub J'):∀{s:Nat} {v:List V} {r:Nat->List D},VRr J s v r->VRr J' s v r
 |_,_,_,.nil s row=>.nil s row
 |_,_,_,.cons s cs rs row h hl t=>.cons s cs rs row (h.mono e) hl (t.mono e)
end
section
variable {J:Nm}
def VRs.len:∀{vs ds},VRs J vs ds->I vs=I ds
 |_,_,.nil=>rfl
 |_,_,.cons _ _ _ _ _ t=>by simp[t.len]
def VRs.get:∀{vs ds},VRs J vs ds->∀{i:Nat} {v},vs[i]?=sO v->∃d,ds[i]?=sO d/\VR J v d
 |_,_,.nil,i,v,h=>by grind
 |_,_,.cons v d vs ds h t,0,v',h'=>by grind
 |_,_,.cons v d vs ds h t,i+1,v',h'=>by simp at h';simpa using t.get h'
def VRs.take:∀{vs ds},VRs J vs ds->∀n,VRs J (vs.take n) (ds.take n)
 |_,_,.nil,n=>by simp;exact .nil
 |_,_,.cons v d vs ds h t,0=>.nil
 |_,_,.cons v d vs ds h t,n+1=>.cons _ _ _ _ h (t.take n)
def VRs.drop:∀{vs ds},VRs J vs ds->∀n,VRs J (vs.drop n) (ds.drop n)
 |_,_,.nil,n=>by simp;exact .nil
 |_,_,.cons v d vs ds h t,0=>.cons _ _ _ _ h t
 |_,_,.cons v d vs ds h t,n+1=>t.drop n
def VRs.append:∀{vs vs' ds ds'},VRs J vs ds->VRs J vs' ds'->VRs J (vs++vs') (ds++ds')
 |_,_,_,_,.nil,h=>h
 |_,_,_,_,.cons v d vs ds h t,h'=>.cons _ _ _ _ h (t.append h')
def VRs.one{v d}(h:VR J v d):VRs J [v] [d]:=.cons _ _ _ _ h .nil
def VRs.inv{v vs ds}(h:VRs J (v::vs) ds):∃d ds',ds=d::ds'/\VR J v d/\VRs J vs ds':=by
 cases h with
 |cons _ d _ ds h t=>exact⟨d,ds,rfl,h,t⟩
def VRs.inv0{ds}(h:VRs J [] ds):ds=[]:=by cases h;rfl
def VRs.inv1{v ds}(h:VRs J [v] ds):∃d,ds=[d]/\VR J v d:=by
 obtain⟨d,ds',rfl,h1,i⟩:=h.inv;obtain rfl:=i.inv0;grind
def VRs.inv2{v t ds}(h:VRs J [v,t] ds):∃d i,ds=[d,i]/\VR J v d/\VR J t i:=by
 obtain⟨d,ds',rfl,h1,u⟩:=h.inv;obtain⟨i,rfl,h'⟩:=u.inv1;grind
def VRs.partv{vs r ds}(h:VRs J vs ds){o n}(t:Zsm o n vs=sO r):o+n<=I ds/\VRs J r (part ds o n):=by
 obtain⟨i,rfl⟩:=ZAH t;exact⟨by rw[<-h.len];exact i,(h.drop o).take n⟩
def VRs.over{vs xs r ds i}(h:VRs J vs ds)(u:VRs J xs i){o n}(hs:ZkQ o n xs vs=sO r):I xs=n/\o+n<=I ds/\VRs J r (Zt ds o i):=by
 obtain⟨t,h1,rfl⟩:=Zqo hs;refine⟨t,by rw[<-h.len];exact h1,?_⟩;unfold Zt;have e:I i=n:=by rw[<-u.len,t]
 rw[e];exact((h.take o).append u).append (h.drop _)
def VRr.inv{s v rs row}(h:VRr J s (v::rs) row):∃cs,v=.agg cs/\VRs J cs (row 0)/\I cs=s/\VRr J s rs (λi=>row (i+1)):=by
 cases h with
 |cons s cs rs row h hl t=>exact⟨cs,rfl,h,hl,t⟩
def VRr.get{s}:∀{rs row},VRr J s rs row->∀{i v},rs[i]?=sO v->∃t,v=.agg t/\VRs J t (row i)/\I t=s
 | [],row,h,i,v,hv=>by grind
 |r::rs,row,h,0,v,hv=>by obtain⟨t,rfl,u,h2,_⟩:=h.inv;grind
 |r::rs,row,h,i+1,v,hv=>by obtain⟨t,rfl,u,h2,h3⟩:=h.inv;exact h3.get (by grind)
def VRr.congr{s}:∀{rs row row'},VRr J s rs row->(∀i,i<I rs->row' i=row i)->VRr J s rs row'
 | [],row,row',h,e=>.nil s row'
 |r::rs,row,row',h,e=>by obtain⟨t,rfl,h1,u,h3⟩:=h.inv;exact .cons s t rs row' (by grind) u (h3.congr λi hi=>e (i+1) (by grind))
def VRr.drop{s}:∀{rs row},VRr J s rs row->∀k,VRr J s (rs.drop k) (λi=>row (k+i))
 |rs,row,h,0=>by grind
 | [],row,h,k+1=>by simp;exact .nil s _
 |r::rs,row,h,k+1=>by obtain⟨cs,rfl,h1,h2,t⟩:=h.inv;have:=t.drop k;grind
def VRr.take{s}:∀{rs row},VRr J s rs row->∀k,VRr J s (rs.take k) row
 |rs,row,h,0=>by simp;exact .nil s _
 | [],row,h,k+1=>by grind
 |r::rs,row,h,k+1=>by obtain⟨i,rfl,t,u,h3⟩:=h.inv;exact .cons s i _ row t u (h3.take k)
def VRr.append{s}:∀{rs t row row'},VRr J s rs row->VRr J s t row'->VRr J s (rs++t) (YW (I rs) row row')
 | [],t,row,row',h,h'=>h'.congr λi _=>by simp[YW]
 |r::rs,t,row,row',h,h'=>by obtain⟨u,rfl,h1,h2,h3⟩:=h.inv;refine .cons s u _ _ (by simpa[YW]using h1) h2 ((h3.append h').congr λi _=>?_);grind [YW]
def VRr.bytes:∀{rs row l},VRr J 1 rs row->ZsY rs=sO l->(∀i,i<I rs->Zp9 (row i))/\l.map UInt8.ofNat=(ZIf (I rs)).map λi=>Zc5 (row i)
 | [],row,l,h,hb=>by cases hb;simp
 |r::rs,row,l,h,hb=>by
  obtain⟨cs,rfl,t,u,h3⟩:=h.inv
  match cs,t,u,hb with
  | [.int .u8 n],t,u,hb =>
   obtain⟨q,hq,rfl⟩:=KN hb;obtain⟨i1,i2⟩:=h3.bytes hq;obtain⟨d,hd,hv⟩:=t.inv1;cases hv;refine⟨λi hi=>?_,?_⟩
   .cases i with
    |zero=>exact⟨n,hd⟩
    |succ i=>exact i1 i (by grind)
   simp only[ZIj,ZIi,List.range_succ_eq_map,List.map_map,i2];refine _root_.congr (congrArg _ ?_) rfl;rw[hd];rfl
def VRs.bytes:∀{vs ds l},VRs J vs ds->ZnZ vs=sO l->(∀i,i<I vs->Zp9 (part ds i 1))/\l.map UInt8.ofNat=(ZIf (I vs)).map λi=>Zc5 (part ds i 1)
 | [],ds,l,h,hb=>by cases hb;simp
 |v::vs,ds,l,h,hb=>by
  obtain⟨d,ds',rfl,t,u⟩:=h.inv
  match v,t,hb with
  |.int .u8 n,t,hb =>
   obtain⟨q,hq,rfl⟩:=KN hb;obtain⟨i1,i2⟩:=u.bytes hq;cases t;refine⟨λi hi=>?_,?_⟩
   .cases i with
    |zero=>exact⟨n,by simp[part]⟩
    |succ i=>simpa[part]using i1 i (by grind)
   simp only[ZIj,ZIi,List.range_succ_eq_map,List.map_map,i2];refine _root_.congr (congrArg _ ?_) ?_;simp[part,Zc5];apply List.map_congr_left;intro i _;simp[part]
def Zmx(s:List UInt8):(s.map UInt8.toNat).map UInt8.ofNat=s:=by
 rw[List.map_map];conv=>rhs;rw[<-List.map_id s]
 congr 1
 funext x;simp
mutual
def ZhE:∀{d:D} {v:V},ofD d=sO v->VR J v d
 |.int k n,v,h=>by cases h;exact .int k n
 |.bool b,v,h=>by cases h;exact .bool b
 |.str s,v,h=>by
  cases h;have:=VR.str (J:=J) (s.map UInt8.toNat)
  rwa [Zmx]at this
 |.agg cs,v,h=>by simp[ofD]at h;obtain⟨vs,h1,rfl⟩:=h;exact .agg _ _ (ofDs_ok h1)
 |.nilsl,v,h=>by cases h;exact .nilsl
 |.nilptr,v,h=>by cases h;exact .nilptr
 |.nilmap,v,h=>by cases h;exact .nilmap
 |.fn (.func f) [] [],v,h=>by cases h;exact .fn f [] [] [] [] .nil .nil
 |.nilfn,v,h=>by cases h;exact .nilfn
 |.niliface,v,h=>by cases h;exact .niliface
 |.ep cs o,v,h=>by simp[ofD]at h;obtain⟨vs,h1,rfl⟩:=h;exact .ep _ _ _ (ofDs_ok h1)
 |.fn (.func f) (_::_) _,v,h=>by cases h
 |.fn (.func f) [] (_::_),v,h=>by cases h
 |.tup _,v,h|.sl _ _ _ _,v,h|.ptr _ _,v,h|.msl _ _ _ _ _,v,h|.map _,v,h|.fn (.yield _) _ _,v,h|.iface _ _,v,h|.stamp _,v,h|.undef,v,h|.any,v,h=>by cases h
 |.fn (.method ..) _ _,v,h|.fn (.methodOf ..) _ _,v,h|.fn (.via ..) _ _,v,h=>by cases h
def ofDs_ok:∀{ds:List D} {vs:List V},ofDs ds=sO vs->VRs J vs ds
 | [],vs,h=>by cases h;exact .nil
 |d::r,vs,h=>by simp[ofDs]at h;split at h<;>simp at h;rename_i v vs' h1 h2;subst h;exact .cons _ _ _ _ (ZhE h1) (ofDs_ok h2)
end
end
end Go.DL
