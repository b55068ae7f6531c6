/- Lemmas: EvF, EvG, EvH, EvI, EvJ, EvK, EvL, EvM, EvN, EvO, EvP, EvQ, EvS, EvT, EvU, EvV, EvW, EvR, EvY, Z62, Z40, Z63, Z64, Z69, EvZ, EvLib, EvZa, EvZb, K16a, K16b, K16d. -/
import Derived.Test.YtacebeofikhepaaGreatDoorT05
set_option maxHeartbeats 16000000
set_option maxRecDepth 100000
set_option linter.all false
open List renaming length->I
open Option renaming some -> sO, none -> nO
open Inhabited renaming default -> dE
open Decidable renaming decide -> dC
open Go.Proofs.Tryz
open And renaming intro -> ZIA
open Array renaming getD_eq_getD_getElem? -> ZJm
open Bool renaming and_eq_true -> ZIJ, false_and -> ZJb, false_eq_true -> ZI7
open Go.DL.D.Le renaming refl -> ZIB
open Go.DL.St renaming sub_refl -> ZIz, upd -> ZJc, upd_ne -> ZIG
open Go.DL.Val renaming cells_eq -> ZI2
open Go.Proofs.Tryz renaming prog -> ZIy
open Int renaming reduceToNat -> ZIF
open List renaming append_assoc -> ZI1, append_nil -> ZI5, flatMap_cons -> ZJl, getD -> ZIN, getElem?_append_left -> ZI6, getElem?_eq_getElem -> ZI4, getElem?_eq_none -> ZJj, getElem?_take -> ZJf, length_append -> ZII, length_cons -> ZIP, length_drop -> ZI8, length_map -> ZIU, length_take -> ZIS, map_cons -> ZIQ, map_nil -> ZI9, mem_cons -> ZJd, range -> ZIM, take_length -> ZJa
open Nat renaming add_mul -> ZIX, le_refl -> ZIO, mul_le_mul_right -> ZIT, reduceAdd -> ZIH, reduceEqDiff -> ZIC, reduceLeDiff -> ZID
open Option renaming getD_some -> ZJe, map_eq_some_iff -> ZIL, map_some -> ZI3
open Option.some renaming injEq -> ZIx
open Prod.mk renaming injEq -> ZIK
namespace Go.DL
open Go
variable [Zs5]
variable {kp:Option (List Nat)}{L:Loc}{H:Env}{s:St}{w:World}{os:List DOp}{ds:List D}{B:List (Nat × Rd)}{dst:Option Nat}{tmps:Array Value}{g:G}{Φ:Res->St->Prop}{Z:Nat->Nat}{xs:List Opd}{side:Prop}{row:Nat->List D}{vs:List V}
def WQ{vs f v}(h:a1 vs f=sO v):∃x,vs=[x]/\f x=sO v:=by
 unfold a1 at h;split at h;exact⟨_,rfl,h⟩;grind
def ZdS{vs f v}(h:a2 vs f=sO v):∃x y,vs=[x,y]/\f x y=sO v:=by
 unfold a2 at h;split at h;exact⟨_,_,rfl,h⟩;grind
def ZD{α b}{r:Option α}{v:α}(h:noV b r=sO v):b=true/\r=sO v:=by
 cases b<;>simp[noV]at h;exact⟨rfl,h⟩
def Zcb{i n r v}(h:Zgk i n r=sO v):0<=i/\i<n/\r=sO v:=by
 unfold Zgk at h;split at h<;>(try(grind;done));rename_i t;simp[ZhJ]at t;exact⟨t.1,ω,h⟩
def Zag{a b}:Nat.ble a b=true↔a<=b:=by rw[Nat.ble_eq]
def Z1{a b}:Nat.beq a b=true↔a=b:=by rw[Nat.beq_eq]
def JE{a b}:leI a b=true↔a<=b:=by rw[ZhJ,decide_eq_true_eq]
def Q7{a b}:eqI a b=true↔a=b:=by rw[Zj6,decide_eq_true_eq]
def isub(a b):Int.sub a b=a-b:=rfl
section
variable {C:Px} {J:Nm} {U:S} {s:St} {L:Loc}
def ZeD{b f v}(h:ZjM U b f=sO v):∃cs,ZaW (U.get b)=sO cs/\f cs=sO v:=by
 unfold ZjM at h;split at h;rename_i t;exact⟨_,t,h⟩;grind
def Zil(hS:Sim C J U s){k b cs}(h:ZaW (U.get k)=sO cs)(hb:J k=sO (.tip b)):∃ds ex,Z2 s b=sO (ds++ex)/\VRs J cs ds:=by
 obtain⟨ds,ex,t,u⟩:=hS.cells h hb;exact⟨ds,ex,by simp[Z2,t],u⟩
def ZhG{cs ds}(ex)(h:VRs J cs ds){o v}(u:ZiG o cs=sO v):∃d,(ds++ex)[o]?=sO d/\VR J v d:=by
 rw[ZlK]at u;obtain⟨d,t,h2⟩:=h.get u;refine⟨d,?_,h2⟩;rw[ZI6 (List.getElem?_eq_some_iff.1 t).1];exact t
def Zul{ds ex o n}(h:o+n<=I ds):part (ds++ex) o n=part ds o n:=by
 unfold part;rw[List.drop_append_of_le_length ω,List.take_append_of_le_length (by simp;omega)]
def Zm0{ds ex t o}(h:o+I t<=I ds):Zy (ds++ex) o t=Zy ds o t++ex:=by
 unfold Zy;rw[List.take_append_of_le_length ω,List.drop_append_of_le_length ω,ZI1,ZI1,ZI1]
def Zl3{cs ds}(ex)(h:VRs J cs ds){o n v}(t:Zlj cs o n=sO v):o+n<=(ds++ex).length/\VR J v (.agg (part (ds++ex) o n)):=by
 unfold Zlj at t;split at t<;>simp at t;rename_i r hr;subst t;obtain⟨u,h2⟩:=h.partv hr;exact⟨by simp;omega,by rw[Zul u];exact .agg _ _ h2⟩
def Zbt:∀{bs vs ds r},VRs J vs ds->J3 bs vs=sO r->WA bs (ds.map .d)=sO r
 | [],vs,ds,r,hv,h=>by
  cases vs with
  |nil=>obtain rfl:=hv.inv0;simpa[J3,WA]using h
  |cons v vs=>cases h
 |true::bs,vs,ds,r,hv,h=>by
  cases vs with
  |nil=>cases h
  |cons v vs =>obtain⟨d,ds',rfl,u,h2⟩:=hv.inv;cases u<;>simp[J3]at h;obtain⟨q,t,rfl⟩:=h;simp[WA,Zbt h2 t]
 |false::bs,vs,ds,r,hv,h=>by simp[J3]at h;obtain⟨q,t,rfl⟩:=h;simp[WA,Zbt hv t]
def ZCY{t n τ}(h1:J 1=sO .full)(ht:t=0\/J t=sO τ){l h mx}:ZxN t n l h mx=0\/J (ZxN t n l h mx)=sO (Zbg τ n l h mx):=by
 unfold ZxN Zbg;cases mx with
 |some m =>simp only[Q7];split;exact .inr h1;exact .inl rfl
 |none =>simp only[Q7,Z1];split;split;rename_i u;subst u;rcases ht with h|h;simp at h;rw[h1]at h;cases h;exact .inr h1;split;rcases ht with h|h;exact .inl h;refine .inr ?_;cases τ<;>simp_all;exact .inl rfl;exact .inl rfl
def Zzu(h1:J 1=sO .full){z lo hi mx x v d}(hx:VR J x d)(h:ZuE z lo hi mx x=sO v):∃side r,Za1 z lo hi mx d=sO (side,r)/\side/\VR J v r:=by
 cases hx<;>simp only[ZuE,reduceCtorEq]at h;case nilsl =>split at h<;>simp only[ZIx,reduceCtorEq]at h;rename_i hc;subst h;simp only[ZIJ,Q7]at hc;exact⟨_,_,rfl,⟨hc.1.1,hc.1.2,hc.2⟩,.nilsl⟩
 case sl t n s rs τ row hr hn ht =>split at h<;>(try(simp at h;done));rename_i hc;split at h<;>simp only[ZIx,reduceCtorEq]at h;rename_i r ac;subst h;simp only[ZIJ,Z1,JE]at hc;obtain⟨⟨⟨⟨rfl,c1⟩,c2⟩,c3⟩,c4⟩:=hc;rw[Jp]at ac;obtain⟨l1,rfl⟩:=Zaa ac;simp only[Za1,if_true];refine⟨_,_,rfl,⟨c1,c2,c3,λm hm=>?_⟩,?_⟩;subst hm;simp only[ZDC,ZIJ,JE]at c4;exact c4;refine .sl _ _ _ _ _ _ ((hr.drop (lo.getD 0).toNat).take _) ?_ (ZCY h1 ht);rw[ZIS];exact Nat.min_eq_left l1
 case msl k b o n cap s hb =>split at h<;>(try(simp at h;done));rename_i hc;split at h<;>simp only[ZIx,reduceCtorEq]at h;rename_i u;subst h;simp only[ZIJ,Z1,JE]at hc u;obtain⟨⟨rfl,c1⟩,c2⟩:=hc;simp only[Za1,if_true];refine⟨_,_,rfl,⟨c1,c2,u.1,u.2⟩,?_⟩;by_cases he:mx.getD (cap:Int)=lo.getD 0;rw[if_pos he,if_pos (Q7.2 he)];exact .msl _ _ _ _ _ _ hb;rw[if_neg he,if_neg (λh=>he (Q7.1 h))];exact .msl _ _ _ _ _ _ hb
 case gsl k b o n cap s c hb hb2 hcap hl =>
  split at h<;>(try(simp at h;done));rename_i hc;split at h<;>(try(simp at h;done));rename_i u;simp[JE,Q7,ZhJ]at hc u;obtain⟨⟨rfl,c1⟩,c2⟩:=hc;obtain⟨c3,c4⟩:=u;simp only[Za1,if_true];cases mx with
  |none =>
   cases h;refine⟨_,_,rfl,⟨c1,c2,by simp only[Option.getD_none];omega,ψ⟩,?_⟩;simp only[Option.getD_none];by_cases he:(cap:Int)=lo.getD 0;rw[if_pos he];rcases c4 with c4|c4;rw[c4]at he⊢;simp only[Int.toNat_zero,Nat.zero_mul,Nat.add_zero];exact .gsl _ _ _ _ _ _ c hb hb2 (by rw[isub];omega) (by have:=Nat.le_trans (Nat.le_add_right o (cap*s)) hl;rw[he];simpa using this);omega;rw[if_neg he];refine .gsl _ _ _ _ _ _ c hb hb2 (by rw[isub];omega) ?_;have e:(lo.getD 0).toNat+((cap:Int)-lo.getD 0).toNat=cap:=ω
   calc o+(lo.getD 0).toNat*s+((cap:Int)-lo.getD 0).toNat*s=o+((lo.getD 0).toNat+((cap:Int)-lo.getD 0).toNat)*s:=by rw[ZIX];omega
    _=o+cap*s:=by rw[e]
    _<=c:=hl
  |some m =>simp only at h;split at h<;>simp at h;rename_i ab;simp only[ZIJ,JE]at ab;subst h;refine⟨_,_,rfl,⟨c1,c2,by simpa using ab.1,by simp only[ZJe];omega⟩,?_⟩;simp only[ZJe];by_cases he:m=lo.getD 0;rw[if_pos he,if_pos (Q7.2 he)];exact .msl _ _ _ _ _ _ hb;rw[if_neg he,if_neg (λh=>he (Q7.1 h))];exact .msl _ _ _ _ _ _ hb
def ZtP:∀{cells ps vs r cds ds},VRs J cells cds->VRs J vs ds->ZsB cells ps vs=sO r->∃rd,ZbC cds ps ds=sO rd/\VRs J r rd
 |cells,[],vs,r,cds,ds,hc,hv,h=>by
  cases vs with
  |nil =>obtain rfl:=hv.inv0;cases h;exact⟨_,rfl,hc⟩
  |cons v vs=>cases h
 |cells,(o,n)::ps,vs,r,cds,ds,hc,hv,h=>by
  cases vs with
  |nil=>cases h
  |cons v vs =>
   obtain⟨d,ds',rfl,h1,h2⟩:=hv.inv;simp only[ZsB]at h;split at h<;>(try(grind;done));rename_i hp;split at h<;>(try(grind;done));rename_i cs ab;have t:VRs J (Zf0 v) (cellsOf d):=by cases h1<;>first|exact .one (by constructor<;>assumption)|assumption
   have u:Kb d=true:=by cases h1<;>first|rfl|cases hp
   obtain⟨e0,e1,e2⟩:=hc.over t ab;obtain⟨rd,e3,e4⟩:=ZtP e2 h2 h;refine⟨rd,?_,e4⟩;simp only[ZbC];rw[if_pos ⟨u,by rw[<-t.len,e0],e1⟩];exact e3
def ZrF{b o n cap cs r ds ex l}(e0:Z2 s b=sO (ds++ex))(e1:VRs J cs ds)(u:o+n<=I cs)(hr:Zbf n (ZbB o cs)=sO r)(hl:Zoi r=sO l):
  ∃side d,qv L s (.conv .b2s) ([D.msl b o n cap 1].map .d)=sO (side,.d d)/\side/\VR J (.str l) d:=by
 rw[Jp]at hr;obtain⟨l1,rfl⟩:=Zaa hr;have hlen:o+n<=I ds:=by rw[<-e1.len];exact u
 obtain⟨i1,i2⟩:=((e1.drop o).take n).bytes hl;have hn:((cs.drop o).take n).length=n:=by rw[ZIS];exact Nat.min_eq_left l1
 rw[hn]at i1 i2;have hp:∀i,i<n->part (ds++ex) (o+i) 1=part ((ds.drop o).take n) i 1:=λi t=>by
  rw[Zul ω];unfold part;rw[List.drop_take,List.take_take,List.drop_drop]
  congr 1;omega
 refine⟨o+n<=(ds++ex).length/\∀i,i<n->Zki (part (ds++ex) (o+i) 1),.str ((ZIM n).map λi=>Zbm (part (ds++ex) (o+i) 1)),by simp[qv,e0],⟨by simp;omega,λi t=>by rw[hp i t];exact i1 i t⟩,?_⟩;have:((ZIM n).map λi=>Zbm (part (ds++ex) (o+i) 1))=l.map UInt8.ofNat:=by rw[i2];exact List.map_congr_left λi t=>by simp_all
 rw[this];exact .str _
def ZEu(a b):(if leI a b=true then a else b)=Min.min a b:=by simp[JE];exact(Int.min_def a b).symm
def ZEt(a b):(if leI a b=true then b else a)=Max.max a b:=by simp[JE];exact(Int.max_def a b).symm
def Zxm(hS:Sim C J U s)(h1:J 1=sO .full){q vs ds}(hv:VRs J vs ds){v}(h:qV q U vs=sO v):∃side d,qv L s q (ds.map .d)=sO (side,.d d)/\side/\VR J v d:=by
 cases q<;>(try simp only[qV]at h);case mv =>obtain⟨x,rfl,hh⟩:=WQ h;replace h:=hh;clear hh;obtain⟨d,rfl,hx⟩:=hv.inv1;simp only[ZIx]at h;subst h;exact⟨True,d,rfl,trivial,hx⟩
 case nilck =>obtain⟨x,rfl,hh⟩:=WQ h;replace h:=hh;clear hh;obtain⟨d,rfl,hx⟩:=hv.inv1;cases hx<;>simp only[reduceCtorEq,ZIx]at h<;>subst h;exact⟨True,_,rfl,trivial,by constructor;assumption⟩;exact⟨True,_,rfl,trivial,by constructor;assumption⟩;exact⟨True,_,rfl,trivial,by constructor<;>assumption⟩;exact⟨True,_,rfl,trivial,by constructor;assumption⟩
 case load1 =>
  obtain⟨x,rfl,hh⟩:=WQ h;replace h:=hh;clear hh;obtain⟨d,rfl,hx⟩:=hv.inv1;cases hx<;>simp only[reduceCtorEq]at h;case ep cs o ds hc =>obtain⟨d,e1,e2⟩:=ZhG [] hc h;rw[ZI5]at e1;exact⟨True,d,by simp only[ZIQ,ZI9,qv,Wn,e1,ZI3],trivial,e2⟩
  case ptr k b o hb =>obtain⟨cs,hg,hh⟩:=ZeD h;replace h:=hh;clear hh;obtain⟨ds,ex,e0,e1⟩:=Zil hS hg hb;obtain⟨d,e2,e3⟩:=ZhG ex e1 h;exact⟨True,d,by simp only[ZIQ,ZI9,qv,Wn,e0,e2,ZI3],trivial,e3⟩
 case loadN n =>
  obtain⟨x,rfl,hh⟩:=WQ h;replace h:=hh;clear hh;obtain⟨d,rfl,hx⟩:=hv.inv1;cases hx<;>simp only[reduceCtorEq]at h;case ep cs o ds hc =>obtain⟨e1,e2⟩:=Zl3 [] hc h;rw[ZI5]at e1 e2;exact⟨_,_,by simp only[ZIQ,ZI9,qv,Km,ZI3]<;>rfl,e1,e2⟩
  case ptr k b o hb =>obtain⟨cs,hg,hh⟩:=ZeD h;replace h:=hh;clear hh;obtain⟨ds,ex,e0,e1⟩:=Zil hS hg hb;obtain⟨e2,e3⟩:=Zl3 ex e1 h;exact⟨_,_,by simp only[ZIQ,ZI9,qv,Km,e0,ZI3]<;>rfl,e2,e3⟩
 case bin op p =>obtain⟨x,y,rfl,hh⟩:=ZdS h;replace h:=hh;clear hh;obtain⟨d,d',rfl,hx,hy⟩:=hv.inv2;obtain⟨side,r,e1,e2,e3⟩:=ZCC hx hy h;exact⟨side,r,by simp only[ZIQ,ZI9,qv,e1,ZI3],e2,e3⟩
 case not =>obtain⟨x,rfl,hh⟩:=WQ h;replace h:=hh;clear hh;obtain⟨d,rfl,hx⟩:=hv.inv1;cases hx<;>simp only[reduceCtorEq,ZIx]at h;subst h;exact⟨True,_,rfl,trivial,.bool _⟩
 case neg =>obtain⟨x,rfl,hh⟩:=WQ h;replace h:=hh;clear hh;obtain⟨d,rfl,hx⟩:=hv.inv1;cases hx<;>simp only[reduceCtorEq]at h;obtain⟨rfl,hr⟩:=Zcc h;exact⟨_,_,rfl,hr,.int _ _⟩
 case xorm =>obtain⟨x,rfl,hh⟩:=WQ h;replace h:=hh;clear hh;obtain⟨d,rfl,hx⟩:=hv.inv1;cases hx<;>simp only[reduceCtorEq,ZIx]at h;subst h;exact⟨True,_,rfl,trivial,.int _ _⟩
 case conv c =>
  cases c<;>simp only at h;case int k =>obtain⟨x,rfl,hh⟩:=WQ h;replace h:=hh;clear hh;obtain⟨d,rfl,hx⟩:=hv.inv1;cases hx<;>simp only[reduceCtorEq,ZIx]at h;subst h;simp only[ZIQ,ZI9,qv];split;exact⟨True,_,rfl,trivial,.int _ _⟩;exact⟨True,_,rfl,trivial,.int _ _⟩
  case str =>obtain⟨x,rfl,hh⟩:=WQ h;replace h:=hh;clear hh;obtain⟨d,rfl,hx⟩:=hv.inv1;cases hx<;>simp only[reduceCtorEq,ZIx]at h;subst h;exact⟨True,_,rfl,trivial,.str _⟩
  case i2s =>
   obtain⟨x,rfl,hh⟩:=WQ h;replace h:=hh;clear hh;obtain⟨d,rfl,hx⟩:=hv.inv1;cases hx<;>simp only[reduceCtorEq]at h;obtain⟨hb,hh⟩:=ZD h;replace h:=hh;clear hh;rw[Zag]at hb;simp only[ZIx]at h;subst h;refine⟨_,_,rfl,hb,?_⟩;have:=VR.str (J:=J) ((Utf8.encode ‹Int›).data.toList.map UInt8.toNat)
   rwa [ZmS]at this
  case b2s =>
   obtain⟨x,rfl,hh⟩:=WQ h;replace h:=hh;clear hh;obtain⟨d,rfl,hx⟩:=hv.inv1;cases hx<;>simp only[reduceCtorEq]at h;case nilsl =>simp only[ZIx]at h;subst h;exact⟨True,_,rfl,trivial,.str []⟩
   case sl t n z rs τ row hr hn ht =>obtain⟨hb,hh⟩:=ZD h;replace h:=hh;clear hh;rw[Z1]at hb;subst hb;simp only[ZIL]at h;obtain⟨l,hl,rfl⟩:=h;obtain⟨e1,e2⟩:=hr.bytes hl;subst hn;refine⟨_,_,by simp only[ZIQ,ZI9,qv,if_true]<;>rfl,e1,?_⟩;rw[<-e2];exact .str _
   case msl k b o n cap z hb =>obtain⟨hz,hh⟩:=ZD h;replace h:=hh;clear hh;rw[Z1]at hz;subst hz;obtain⟨cs,hg,hh⟩:=ZeD h;replace h:=hh;clear hh;obtain⟨ds,ex,e0,e1⟩:=Zil hS hg hb;obtain⟨ab,hh⟩:=ZD h;replace h:=hh;clear hh;rw[Zag]at ab;split at h<;>simp only[reduceCtorEq,ZIL]at h;rename_i r hr;obtain⟨l,hl,rfl⟩:=h;exact ZrF e0 e1 ab hr hl
   case gsl k b o n cap z c hb hb2 hcap hl =>obtain⟨hz,hh⟩:=ZD h;replace h:=hh;clear hh;rw[Z1]at hz;subst hz;obtain⟨cs,hg,hh⟩:=ZeD h;replace h:=hh;clear hh;obtain⟨ds,ex,e0,e1⟩:=Zil hS hg hb;obtain⟨ab,hh⟩:=ZD h;replace h:=hh;clear hh;rw[Zag]at ab;split at h<;>simp only[reduceCtorEq,ZIL]at h;rename_i r hr;obtain⟨l,hl,rfl⟩:=h;exact ZrF e0 e1 ab hr hl
 case faddr off =>obtain⟨x,rfl,hh⟩:=WQ h;replace h:=hh;clear hh;obtain⟨d,rfl,hx⟩:=hv.inv1;cases hx<;>simp only[reduceCtorEq,ZIx]at h<;>subst h;exact⟨True,_,rfl,trivial,by constructor;assumption⟩;exact⟨True,_,rfl,trivial,by constructor;assumption⟩
 case fld1 off =>obtain⟨x,rfl,hh⟩:=WQ h;replace h:=hh;clear hh;obtain⟨d,rfl,hx⟩:=hv.inv1;cases hx<;>simp only[reduceCtorEq]at h;rename_i cs ds hc;obtain⟨d,e1,e2⟩:=ZhG [] hc h;rw[ZI5]at e1;exact⟨True,d,by simp only[ZIQ,ZI9,qv,e1,ZI3],trivial,e2⟩
 case fldN off n =>obtain⟨x,rfl,hh⟩:=WQ h;replace h:=hh;clear hh;obtain⟨d,rfl,hx⟩:=hv.inv1;cases hx<;>simp only[reduceCtorEq]at h;rename_i cs ds hc;obtain⟨e1,e2⟩:=Zl3 [] hc h;rw[ZI5]at e1 e2;exact⟨_,_,rfl,e1,e2⟩
 case iaddr z =>
  obtain⟨x,y,rfl,hh⟩:=ZdS h;replace h:=hh;clear hh;obtain⟨d,d',rfl,hx,hy⟩:=hv.inv2;cases hy<;>simp only[reduceCtorEq]at h;cases hx<;>simp only[reduceCtorEq]at h;case int.sl k i t n z' rs τ row hr hn ht =>obtain⟨hz,hh⟩:=ZD h;replace h:=hh;clear hh;rw[Z1]at hz;obtain⟨i0,i1,hh⟩:=Zcb h;replace h:=hh;clear hh;split at h<;>simp only[reduceCtorEq,ZIx]at h;rename_i cs ae;rw[ZlK]at ae;obtain⟨cs',e1,e2,_⟩:=hr.get ae;simp only[V.agg.injEq]at e1;subst e1;subst h;exact⟨_,_,by simp only[ZIQ,ZI9,qv,hz,if_true]<;>rfl,ZIA i0 i1,.ep _ _ _ e2⟩
  case int.msl k i kb b o n cap z' hb =>obtain⟨hz,hh⟩:=ZD h;replace h:=hh;clear hh;rw[Z1]at hz;obtain⟨i0,i1,hh⟩:=Zcb h;replace h:=hh;clear hh;simp only[ZIx]at h;subst h;exact⟨_,_,by simp only[ZIQ,ZI9,qv,hz,if_true]<;>rfl,ZIA i0 i1,.ptr _ _ _ hb⟩
  case int.gsl k i kb b o n cap z' c hb hb2 hcap hl =>obtain⟨hz,hh⟩:=ZD h;replace h:=hh;clear hh;rw[Z1]at hz;obtain⟨i0,i1,hh⟩:=Zcb h;replace h:=hh;clear hh;simp only[ZIx]at h;subst h;exact⟨_,_,by simp only[ZIQ,ZI9,qv,hz,if_true]<;>rfl,ZIA i0 i1,.ptr _ _ _ hb⟩
 case iaddrA m z =>obtain⟨x,y,rfl,hh⟩:=ZdS h;replace h:=hh;clear hh;obtain⟨d,d',rfl,hx,hy⟩:=hv.inv2;cases hy<;>simp only[reduceCtorEq]at h;cases hx<;>simp only[reduceCtorEq]at h<;>obtain⟨i0,i1,h⟩:=Zcb h<;>simp only[ZIx]at h<;>subst h;exact⟨_,_,rfl,ZIA i0 i1,by constructor;assumption⟩;exact⟨_,_,rfl,ZIA i0 i1,by constructor;assumption⟩
 case idxA m z one =>obtain⟨x,y,rfl,hh⟩:=ZdS h;replace h:=hh;clear hh;obtain⟨d,d',rfl,hx,hy⟩:=hv.inv2;cases hy<;>simp only[reduceCtorEq]at h;cases hx<;>simp only[reduceCtorEq]at h;rename_i k i cs ds hc;obtain⟨i0,i1,hh⟩:=Zcb h;replace h:=hh;clear hh;cases one;simp only[ZI7,if_false]at h;obtain⟨e1,e2⟩:=Zl3 [] hc h;rw[ZI5]at e1 e2;exact⟨_,_,rfl,⟨i0,i1,e1⟩,e2⟩;simp only[if_true]at h;obtain⟨d,e1,e2⟩:=ZhG [] hc h;rw[ZI5]at e1;exact⟨_,d,by simp only[ZIQ,ZI9,qv,e1,ZI3]<;>rfl,ZIA i0 i1,e2⟩
 case sliceA m z lo hi mx =>
  cases vs with
  |nil=>simp at h
  |cons x r =>
  obtain⟨d,ad,rfl,hx,hr⟩:=hv.inv;cases hx<;>simp only[reduceCtorEq]at h;rename_i k b o hb;split at h<;>(try(simp at h;done));rename_i l hh mm u;obtain⟨hc,hh⟩:=ZD h;replace h:=hh;clear hh;simp only[ZIx]at h;subst h;simp only[ZIJ,JE,Zag]at hc;have e:=Zbt hr u;simp only[ZIQ,qv,e];refine⟨_,_,rfl,⟨hc.1.1.1.1,hc.1.1.1.2,hc.1.1.2,hc.1.2,hc.2⟩,?_⟩;by_cases he:mm.getD (m:Int)=l.getD 0;rw[if_pos he,if_pos (Q7.2 he)];exact .msl _ _ _ _ _ _ hb;rw[if_neg he,if_neg (λh=>he (Q7.1 h))];exact .msl _ _ _ _ _ _ hb
 case idxS =>
  obtain⟨x,y,rfl,hh⟩:=ZdS h;replace h:=hh;clear hh;obtain⟨d,d',rfl,hx,hy⟩:=hv.inv2;cases hy<;>simp only[reduceCtorEq]at h;cases hx<;>simp only[reduceCtorEq]at h;rename_i k i l;obtain⟨i0,i1,hh⟩:=Zcb h;replace h:=hh;clear hh;simp only[ZIx]at h;subst h;refine⟨_,_,rfl,⟨i0,by simpa using i1⟩,?_⟩;have:(((l.map UInt8.ofNat).getD i.toNat 0).toNat:Int)=Int.ofNat (l.getD i.toNat 0 % 256):=by simp only[ZIN,List.getElem?_map];cases l[i.toNat]?<;>simp
  rw[this];exact .int _ _
 case lenS =>obtain⟨x,rfl,hh⟩:=WQ h;replace h:=hh;clear hh;obtain⟨d,rfl,hx⟩:=hv.inv1;cases hx<;>simp only[reduceCtorEq,ZIx]at h;subst h;refine⟨True,_,rfl,trivial,?_⟩;rw[ZIU];exact .int _ _
 case lenL =>obtain⟨x,rfl,hh⟩:=WQ h;replace h:=hh;clear hh;obtain⟨d,rfl,hx⟩:=hv.inv1;cases hx<;>simp only[reduceCtorEq,ZIx]at h<;>subst h<;>exact⟨True,_,rfl,trivial,.int _ _⟩
 case lenA n =>obtain⟨x,rfl,hh⟩:=WQ h;replace h:=hh;clear hh;obtain⟨d,rfl,hx⟩:=hv.inv1;obtain⟨hb,hh⟩:=ZD h;replace h:=hh;clear hh;rw[Zag]at hb;simp only[ZIx]at h;subst h;exact⟨_,_,rfl,KW hb,.int _ _⟩
 case ext k =>obtain⟨x,rfl,hh⟩:=WQ h;replace h:=hh;clear hh;obtain⟨d,rfl,hx⟩:=hv.inv1;cases hx<;>simp only[reduceCtorEq]at h;rename_i cs ds hc;obtain⟨d,e1,e2⟩:=ZhG [] hc h;rw[ZI5]at e1;exact⟨True,d,by simp only[ZIQ,ZI9,qv,e1,ZI3],trivial,e2⟩
 case build zero parts =>cases hz:ofDs zero<;>simp only[hz,reduceCtorEq,ZIL]at h;rename_i z;obtain⟨r,hr,rfl⟩:=h;obtain⟨rd,e1,e2⟩:=ZtP (ofDs_ok hz) hv hr;exact⟨True,_,by simp only[qv,ZaO,e1,ZI3]<;>rfl,trivial,.agg _ _ e2⟩
 case mkfn f k =>cases f<;>simp only[reduceCtorEq,ZIx]at h;subst h;exact⟨True,_,by simp only[qv,ZaO,ZI3]<;>rfl,trivial,.fn _ _ _ _ _ (hv.take k) (hv.drop k)⟩
 case mkif t =>obtain⟨x,rfl,hh⟩:=WQ h;replace h:=hh;clear hh;obtain⟨d,rfl,hx⟩:=hv.inv1;simp only[ZIx]at h;subst h;exact⟨True,_,rfl,trivial,.iface _ _ _ hx⟩
 case sliceS lo hi =>
  cases vs with
  |nil=>simp at h
  |cons x r =>
  obtain⟨d,ad,rfl,hx,hr⟩:=hv.inv;cases hx<;>simp only[reduceCtorEq]at h;rename_i l;split at h<;>(try(simp at h;done));rename_i a b c u;obtain⟨hc,hh⟩:=ZD h;replace h:=hh;clear hh;simp only[ZIx]at h;subst h;simp only[ZIJ,JE]at hc;have e:=Zbt hr u;simp only[ZIQ,qv,e,ZIU];refine⟨_,_,rfl,⟨hc.1.1,hc.1.2,hc.2⟩,?_⟩;rw[<-List.map_drop,<-List.map_take];exact .str _
 case slice z lo hi mx =>
  cases vs with
  |nil=>simp at h
  |cons x r =>
  obtain⟨d,ad,rfl,hx,hr⟩:=hv.inv;simp only at h;split at h<;>(try(simp at h;done));rename_i l hh m u;have e:=Zbt hr u;obtain⟨side,r',e1,e2,e3⟩:=Zzu h1 hx h;exact⟨side,r',by simp only[ZIQ,qv,e,e1,ZI3],e2,e3⟩
 case min =>obtain⟨x,y,rfl,hh⟩:=ZdS h;replace h:=hh;clear hh;obtain⟨d,d',rfl,hx,hy⟩:=hv.inv2;cases hx<;>simp only[reduceCtorEq]at h;cases hy<;>simp only[reduceCtorEq]at h;obtain⟨hk,hh⟩:=ZD h;replace h:=hh;clear hh;obtain rfl:=Zfx hk;simp only[ZIx]at h;subst h;refine⟨True,_,by simp only[ZIQ,ZI9,qv,if_true]<;>rfl,trivial,?_⟩;rw[ZEu];exact .int _ _
 case max =>obtain⟨x,y,rfl,hh⟩:=ZdS h;replace h:=hh;clear hh;obtain⟨d,d',rfl,hx,hy⟩:=hv.inv2;cases hx<;>simp only[reduceCtorEq]at h;cases hy<;>simp only[reduceCtorEq]at h;obtain⟨hk,hh⟩:=ZD h;replace h:=hh;clear hh;obtain rfl:=Zfx hk;simp only[ZIx]at h;subst h;refine⟨True,_,by simp only[ZIQ,ZI9,qv,if_true]<;>rfl,trivial,?_⟩;rw[ZEt];exact .int _ _
 case tassert t ok zero =>cases ok<;>simp only at h;obtain⟨x,rfl,hh⟩:=WQ h;replace h:=hh;clear hh;obtain⟨d,rfl,hx⟩:=hv.inv1;cases hx<;>simp only[reduceCtorEq]at h;obtain⟨ht,hh⟩:=ZD h;replace h:=hh;clear hh;rw[Z1]at ht;simp only[ZIx]at h;subst h;exact⟨True,_,by simp only[ZIQ,ZI9,qv,ht,if_true]<;>rfl,trivial,by assumption⟩;obtain⟨x,rfl,hh⟩:=WQ h;replace h:=hh;clear hh;obtain⟨d,rfl,hx⟩:=hv.inv1;cases hx<;>simp only[reduceCtorEq]at h;obtain⟨ht,hh⟩:=ZD h;replace h:=hh;clear hh;rw[Z1]at ht;simp only[ZIx]at h;subst h;exact⟨True,_,by simp only[ZIQ,ZI9,qv,ht,if_true]<;>rfl,trivial,.tup _ _ (.cons _ _ _ _ ‹_› (.one (.bool _)))⟩;simp only[ZIL]at h;obtain⟨z,hz,rfl⟩:=h;exact⟨True,_,rfl,trivial,.tup _ _ (.cons _ _ _ _ (ZhK hz) (.one (.bool _)))⟩
 case lookup kp zero ok =>cases hz:ofD zero<;>simp only[hz,reduceCtorEq]at h;rename_i z;obtain⟨x,y,rfl,hh⟩:=ZdS h;replace h:=hh;clear hh;obtain⟨d,d',rfl,hx,hy⟩:=hv.inv2;obtain⟨hk,hh⟩:=ZD h;replace h:=hh;clear hh;have af:=Zgo hy hk;cases hx<;>simp only[reduceCtorEq]at h;rename_i k b hb;split at h<;>simp only[reduceCtorEq,ZIL]at h;rename_i es ac;obtain⟨r,hr,rfl⟩:=h;obtain⟨ag,e1,e2⟩:=hS.mapO ac hb;obtain⟨r',e3,e4⟩:=ZtS hy e2 hr;exact⟨_,_,by simp only[ZIQ,ZI9,qv,KY,e1,e3,ZI3]<;>rfl,af,Zt6 (ZhK hz) e4⟩;simp only[ZIx]at h;subst h;exact⟨_,_,rfl,af,Zt6 (r':=nO) (ZhK hz) trivial⟩
 case lenM =>
  obtain⟨x,rfl,hh⟩:=WQ h;replace h:=hh;clear hh;obtain⟨d,rfl,hx⟩:=hv.inv1;cases hx<;>simp only[reduceCtorEq]at h;·rename_i k b hb;split at h<;>(try(simp at h;done));rename_i es ac;obtain⟨hl,hh⟩:=ZD h;replace h:=hh;clear hh;rw[Zag]at hl;simp only[ZIx]at h;subst h;obtain⟨ag,e1,e2⟩:=hS.mapO ac hb;refine⟨_,_,by simp only[ZIQ,ZI9,qv,KY,e1]<;>rfl,by rw[<-e2.len];exact hl,?_⟩;rw[<-e2.len];exact .int _ _
  simp only[ZIx]at h;subst h;exact⟨True,_,rfl,trivial,.int _ _⟩
end
section
variable {C:Px} {J:Nm} {U:S} {s:St} {L:Loc} {H:T W} {ρd:Env} {nx:Nat}
def ZzH:∀(l:List Nat) (k),VRr J 1 (u8V (l.drop k)) (λi=>[D.int .u8 (((l.map UInt8.ofNat).getD (k+i) 0).toNat:Int)])
 |l,k=>by
  have key:∀(m:List Nat) (k:Nat),l.drop k=m->VRr J 1 (u8V m) (λi=>[D.int .u8 (((l.map UInt8.ofNat).getD (k+i) 0).toNat:Int)]):=by
   intro m;induction m with
   |nil=>intro k _;exact .nil _ _
   |cons a m ih =>
    intro k t;have u:l[k]?=sO a:=by have:=congrArg (λx=>x[0]?) t;simpa using this
    have h2:l.drop (k+1)=m:=by have:=congrArg List.tail t;simpa using this
    refine .cons 1 _ _ _ ?_ rfl ((ih (k+1) h2).congr λi _=>by rw[show k+1+i=k+(i+1) by omega]);have:(((l.map UInt8.ofNat).getD (k+0) 0).toNat:Int)=Int.ofNat (a % 256):=by simp[u]
    rw[this];exact .one (.int _ _)
  exact key _ k rfl
def Zv5{z u}(t:VRs J z u){i}:∀{is:List Nat} {vs ds},VRs J vs ds->VRs J (Zg6 z (is.zip vs) i) (ZV u (is.zip ds) i)
 | [],vs,ds,h=>by simpa[Zg6,ZV]using t
 |k::is,vs,ds,h=>by
  cases vs with
  |nil=>obtain rfl:=h.inv0;simpa[Zg6,ZV]using t
  |cons v vs =>
   obtain⟨d,ds',rfl,h1,h2⟩:=h.inv;simp[Zg6,ZV];by_cases hk:k=i;simp_all;cases h1<;>first|exact .one (by constructor<;>assumption)|assumption
   simp_all;exact Zv5 t h2
def Zlo{v}{d}(h:VR J v d):VRs J (Zf0 v) (cellsOf d):=by
 cases h<;>first|exact .one (by constructor<;>assumption)|assumption
def Zn2{v d}(h:VR J v d)(t:ZpK v=true):Kb d=true:=by
 cases h<;>first|rfl|cases t
def ZuP{v d}(h:VR J v d)(t:ZxR v=true):QU d=true:=by
 cases h<;>first|rfl|cases t
def ZkA{n}:∀{vs ds},VRs J vs ds->ZfG n vs=true->Qd n ds=true
 | [],ds,h,hp=>by obtain rfl:=h.inv0;rfl
 |v::vs,ds,h,hp=>by obtain⟨d,ds',rfl,t,u⟩:=h.inv;simp[ZfG]at hp;simp[Qd];exact⟨⟨Zn2 t hp.1.1,by rw[<-(Zlo t).len];exact hp.1.2⟩,ZkA u hp.2⟩
def Zt5{n z}(t:I z=n){i}:∀{is:List Nat} {vs},ZfG n vs=true->(Zg6 z (is.zip vs) i).length=n
 | [],vs,_=>by simpa[Zg6]using t
 |k::is,[],_=>by simpa[Zg6]using t
 |k::is,v::vs,hp=>by simp[ZfG]at hp;simp[Zg6];split;exact hp.1.2;exact Zt5 t hp.2
def ZnI{n z zd}(hz:VRs J z zd)(t:I z=n){is:List Nat}{vs ds}(hv:VRs J vs ds)(u:ZfG n vs=true):∀(len i),VRr J n (ZlO z (is.zip vs) len i) (λj=>ZV zd (is.zip ds) (i+j))/\(ZlO z (is.zip vs) len i).length=len
 |0,i=>⟨.nil _ _,rfl⟩
 |len+1,i=>by obtain⟨h1,h2⟩:=ZnI hz t hv u len (i+1);refine⟨.cons _ _ _ _ (Zv5 hz hv) (Zt5 t u) (h1.congr λj _=>by rw[show i+1+j=i+(j+1) by omega]),by simp[ZlO,h2]⟩
def ZrH(hS:Sim C J U s)(h1:J 1=sO .full)(hρ:Z5 J L H ρd){dst g}(hg:Zj ρd g=sO true){k r}(hk:YC k=true){db}(h:(opF false db k).run H U nx=sO r):
  r.U=U/\r.nx=nx/\∃side e,side/\ZF ⟨dst,g,k⟩ ρd L s=.ok side (Zx ρd dst e) L s/\WR J L (.v r.v) e:=by
 have fin:∀{side:Prop} {d:D} {v:V},side->VR J v d->ZF ⟨dst,g,k⟩ ρd L s=(match g with
   |none=>.ok side (Zx ρd dst (.d d)) L s
   |some _=>.ok (true=true->side) (Zx ρd dst (.when true (.d d))) L s)->∃side e,side/\ZF ⟨dst,g,k⟩ ρd L s=.ok side (Zx ρd dst e) L s/\WR J L (.v v) e:=by
  intro side d v hs hv u;cases g with
  |none=>exact⟨side,.d d,hs,u,d,hv,.inl rfl⟩
  |some x=>exact⟨_,.when true (.d d),λ_=>hs,u,d,hv,.inr rfl⟩
 cases k<;>simp only[YC,ZI7]at hk;case q q xs =>simp only[opF]at h;split at h<;>(try(simp at h;done));rename_i vs t;split at h<;>simp only[ZIx,reduceCtorEq]at h;rename_i v hv;subst h;obtain⟨p,ds,a1,a2,a3⟩:=ZaH hρ t;obtain⟨side,d,b1,b2,b3⟩:=Zxm (L:=L) hS h1 a3 hv;refine⟨rfl,rfl,fin (side:=p/\side) ⟨a2,b2⟩ b3 ?_⟩;unfold ZF;simp only[hg,a1,b1];cases g<;>rfl
 case pick c a b =>
  simp only[opF]at h;unfold mp2 at h;split at h<;>(try(simp at h;done));rename_i cv hc;obtain⟨pc,dc,c1,c2,c3⟩:=KE hρ hc;cases c3<;>simp only[reduceCtorEq]at h;rename_i cb;have ab:∀{x y:Opd} {yb:Bool},(Zky x).run H=true->(YN y).run H=sO (.bool yb)->(∃p z,ZC ρd false x=sO (p,.d (.bool z))/\p)/\∃p,ZC ρd true y=sO (p,.d (.bool yb))/\p:=by intro x y yb hx hy;obtain⟨p,d,e1,e2,e3⟩:=KE hρ hy;cases e3;exact⟨Zy7 hρ hx rfl,p,e1,e2⟩
  cases cb;·simp only at h;obtain⟨hb,h⟩:=ZD h;split at h<;>(try(simp at h;done));rename_i yv hy;split at h<;>cases h;obtain⟨⟨p1,z,e1,e2⟩,p2,e3,e4⟩:=ab hb hy;refine⟨rfl,rfl,fin (side:=pc/\p1/\p2) ⟨c2,e2,e4⟩ (.bool _) ?_⟩;unfold ZF ZdO;simp[hg,c1,e1,e3];cases g<;>rfl
  simp only at h;obtain⟨hb,h⟩:=ZD h;split at h<;>(try(simp at h;done));rename_i yv hy;split at h<;>cases h;obtain⟨⟨p1,z,e1,e2⟩,p2,e3,e4⟩:=ab hb hy;refine⟨rfl,rfl,fin (side:=pc/\p2/\p1) ⟨c2,e4,e2⟩ (.bool _) ?_⟩;unfold ZF ZdO;simp[hg,c1,e1,e3];cases g<;>rfl
 case bsl len n z is xs =>simp only[opF]at h;cases hz:ofDs z<;>simp only[hz,reduceCtorEq]at h;rename_i zv;split at h<;>(try(simp at h;done));rename_i vs t;obtain⟨hb,h⟩:=ZD h;cases h;simp only[ZIJ,Z1]at hb;obtain⟨p,ds,a1,a2,a3⟩:=ZaH hρ t;obtain⟨l1,l2⟩:=ZnI (is:=is) (ofDs_ok hz) hb.2 a3 hb.1 len 0;refine⟨rfl,rfl,fin (side:=p/\Qd n ds=true) ⟨a2,ZkA a3 hb.1⟩ (.sl 1 len n _ .full (ZV z (is.zip ds)) (l1.congr λi _=>by rw[Nat.zero_add]) l2 (.inr h1)) ?_⟩;unfold ZF;simp only[hg,a1,ZaO];cases g<;>rfl
 case s2b x =>simp only[opF]at h;unfold mp2 at h;split at h<;>(try(simp at h;done));rename_i xv hx;obtain⟨p,d,a1,a2,a3⟩:=KE hρ hx;cases a3<;>simp only[reduceCtorEq,ZIx]at h;rename_i l;subst h;refine⟨rfl,rfl,fin (side:=p) a2 (.sl 0 (I l) 1 (u8V l) .none _ (ZzH l 0) (by simp[u8V]) (.inl rfl)) ?_⟩;unfold ZF;simp only[hg,a1,ZIU,Nat.zero_add];cases g<;>rfl
end
def Y0(C:Px)(J:Nm)(r:R3)(e:E)(s2:St):Prop:=∃J',J.Sub J'/\Yu J' r.nx/\Sim C J' r.U s2/\∃d,VR J' r.v d/\e=.d d
def OR.cells0{C J k vs ds}(h:VRs J vs ds):OR C J k (.cells vs) (.cells ds):=by
 simpa using OR.cells (C:=C) (k0:=k) vs ds [] h
def Zvd{cs t o}(h:o+I t<=I cs):(Zy cs o t).length=I cs:=by
 simp[Zy];omega
def JB{s b cs}(h:s b=sO (.cells cs)):Z2 s b=sO cs:=by simp[Z2,h]
section
variable {C:Px} {J:Nm} {U:S} {s:St} {L:Loc} {H:T W} {ρd:Env} {nx:Nat}
def WB{x f r}(h:mp2 x f=sO r):∃v,x=sO v/\f v=sO r:=by
 cases x with
 |none=>cases h
 |some v=>exact⟨v,rfl,h⟩
def ZuO{x v r}(h:up x v nx=sO r):∃U',x=sO U'/\r=⟨v,U',nx⟩:=by
 cases x with
 |none=>cases h
 |some U'=>simp[up]at h;exact⟨U',rfl,h.symm⟩
def Y0.new(hS:Sim C J U s)(hN:Yu J nx){b}(hb:s b=nO){o d}(ho:OR C (J.put nx (.tip b)) nx o d){v e}(hv:VR (J.put nx (.tip b)) v e)(hr:ZbS o=false:=by rfl):Y0 C J ⟨v,U.set (sO o) nx,nx+1⟩ (.d e) (s.upd b d) :=
 ⟨_,Nm.put_sub (hN.free nx (ZIO _)) _,hN.put _,hS.new (hN.free nx (ZIO _)) hb ho hr,e,hv,rfl⟩
def Y0.turn(hS:Sim C J U s)(hN:Yu J nx){k b o o' d}(h:U.get k=sO o)(hb:J k=sO (.tip b))(ho:OR C J k o' d){v e}(hv:VR J v e)(hr:ZbS o=false:=by rfl)(hr':ZbS o'=false:=by rfl):Y0 C J ⟨v,U.set (sO o') k,nx⟩ (.d e) (s.upd b d) :=
 ⟨J,Nm.Sub.refl _,hN,hS.upd h hb ho hr hr',e,hv,rfl⟩
def Zli(hS:Sim C J U s){a n xs U'}(h:ZhY U a n xs=sO U'){da}(ha:VR J a da){ys}(hx:VRs J xs ys):
  ∃b off cs,da=.ptr b off/\Z2 s b=sO cs/\off+I ys<=I cs/\I ys=n/\Sim C J U' (s.upd b (.cells (Zy cs off ys))):=by
 cases ha<;>simp only[ZhY,reduceCtorEq]at h;rename_i k b o hb;split at h<;>(try(simp at h;done));all_goals
  rename_i cs t;split at h<;>simp at h;rename_i cs' ac;subst h;obtain⟨ds,ex,e1,e2⟩:=hS.cells (vs:=cs) (by rw[t];rfl) hb;obtain⟨f0,f1,f2⟩:=e2.over hx ac;have hl:I ys=n:=by rw[<-hx.len,f0]
  have u:Zy (ds++ex) o ys=Zy ds o ys++ex:=Zm0 ω;refine⟨b,o,_,rfl,JB e1,by simp;omega,hl,?_⟩;rw[u]
 exact hS.upd t hb (.cells _ _ _ f2);refine hS.upd t hb (.buf _ _ _ f2 ?_);obtain⟨b',d,g1,g2,g3⟩:=hS.get t (λn=>by simp);rw[hb]at g1;cases g1;rw[e1]at g2;cases g2;generalize ab:(QO.cells (ds++ex))=dd at g3;cases g3 with
 |buf _ ds2 ex2 _ hc =>
  simp only[QO.cells.injEq]at ab;rw[hc];have:(Zy ds o ys++ex).length=(ds2++ex2).length:=by rw[<-ab,ZII,ZII,Zvd ω]
  rw[this]
variable {P:Program} {F:Fr P} {kp:Option (List Nat)} {dk:List WY} {os:List DOp} {H':Env} {L':Loc}
def Wz(hρ:Z5 J L H ρd){x v}(h:(YN x).run H=sO v)(t:ZA ρd H' (ZR x)):∃p d,ZC H' true x=sO (p,.d d)/\p/\VR J v d:=by
 obtain⟨p,d,u,h2,h3⟩:=KE hρ h;exact⟨p,d,by rw[ZQ t];exact u,h2,h3⟩
def Zyu(hS:Sim C J U s)(hN:Yu J nx){dst z mu r}(h:(opF mu dst.isSome (.alloc z)).run H U nx=sO r)(hc:∀e s2,Y0 C J r e s2->DO F kp dk os (Zx H' dst e) L' s2):DO F kp dk (⟨dst,nO,.alloc z⟩::os) H' L' s:=by
 simp[opF]at h;cases hz:ofDs z<;>simp[hz]at h;obtain⟨hd,u⟩:=ZD h;replace h:=u;clear u;cases h;cases dst with
 |none=>grind
 |some t=>exact ZxZ rfl rfl rfl λb hb=>hc (.d (.ptr b 0)) _ (Y0.new hS hN hb (OR.cells0 (ofDs_ok hz)) (.ptr _ _ _ Nm.put_same))
def ZCg(hS:Sim C J U s)(hN:Yu J nx)(hρ:Z5 J L H ρd){dst x mu r}(h:(opF mu dst.isSome (.box x)).run H U nx=sO r)(hag:ZA ρd H' (ZR x))(hc:∀e s2,Y0 C J r e s2->DO F kp dk os (Zx H' dst e) L' s2):DO F kp dk (⟨dst,nO,.box x⟩::os) H' L' s:=by
 obtain⟨hd,u⟩:=ZD h;replace h:=u;clear u;obtain⟨v,hv,u⟩:=WB h;replace h:=u;clear u;obtain⟨hp,u⟩:=ZD h;replace h:=u;clear u;cases h;obtain⟨p,d,a1,a2,a3⟩:=Wz hρ hv hag;cases dst with
 |none=>grind
 |some t=>exact ZBI rfl rfl rfl a1 a2 (Zn2 a3 hp) λb hb=>hc (.d (.ptr b 0)) _ (Y0.new hS hN hb (OR.cells0 ((Zlo a3).mono (Nm.put_sub (hN.free nx (ZIO _)) _))) (.ptr _ _ _ Nm.put_same))
def ZwY(hS:Sim C J U s)(hN:Yu J nx)(hρ:Z5 J L H ρd){dst a v mu r}(h:(opF mu dst.isSome (.store1 a v)).run H U nx=sO r)(hag:ZA ρd H' (ZR a++ZR v))(hc:∀e s2,Y0 C J r e s2->DO F kp dk os (Zx H' dst e) L' s2):DO F kp dk (⟨dst,nO,.store1 a v⟩::os) H' L' s:=by
 obtain⟨hd,hh⟩:=ZD h;replace h:=hh;clear hh;obtain⟨av,ha,hh⟩:=WB h;replace h:=hh;clear hh;obtain⟨xv,hx,hh⟩:=WB h;replace h:=hh;clear hh;obtain⟨ac,hh⟩:=ZD h;replace h:=hh;clear hh;obtain⟨U',ad,rfl⟩:=ZuO h;obtain⟨p,da,a1,a2,a3⟩:=Wz hρ ha (λt ht=>hag t (by simp[ht]));obtain⟨q,dx,b1,b2,b3⟩:=Wz hρ hx (λt ht=>hag t (by simp[ht]));have ab:=ZuP b3 ac;have u:cellsOf dx=[dx]:=by cases dx<;>first|rfl|cases ab
 obtain⟨b,off,cs,rfl,c1,c2,c3,c4⟩:=Zli hS ad a3 (.one b3);cases dst with
 |some t=>grind
 |none =>refine Zga rfl (.inl ⟨rfl,trivial⟩) a1 b1 a2 b2 c1 (λ_=>ab) (λn hn=>by grind) (by rw[u];exact c2) rfl ?_;rw[u];exact hc (.d .nilsl) _ ⟨J,Nm.Sub.refl _,hN,c4,.nilsl,.nilsl,rfl⟩
def ZwZ(hS:Sim C J U s)(hN:Yu J nx)(hρ:Z5 J L H ρd){dst a v n mu r}(h:(opF mu dst.isSome (.storeN n a v)).run H U nx=sO r)(hag:ZA ρd H' (ZR a++ZR v))(hc:∀e s2,Y0 C J r e s2->DO F kp dk os (Zx H' dst e) L' s2):DO F kp dk (⟨dst,nO,.storeN n a v⟩::os) H' L' s:=by
 obtain⟨hd,hh⟩:=ZD h;replace h:=hh;clear hh;obtain⟨av,ha,hh⟩:=WB h;replace h:=hh;clear hh;obtain⟨xv,hx,hh⟩:=WB h;replace h:=hh;clear hh;obtain⟨p,da,a1,a2,a3⟩:=Wz hρ ha (λt ht=>hag t (by simp[ht]));obtain⟨q,dx,b1,b2,b3⟩:=Wz hρ hx (λt ht=>hag t (by simp[ht]));cases b3<;>simp at h;rename_i xs ys ab;obtain⟨U',u,rfl⟩:=ZuO h;obtain⟨b,off,cs,rfl,c1,c2,c3,c4⟩:=Zli hS u a3 ab;cases dst with
 |some t=>grind
 |none =>refine Zga rfl (.inr ⟨n,rfl⟩) a1 b1 a2 b2 c1 (λhn=>by grind) (λm hm=>?_) c2 rfl ?_;simp only[K.storeN.injEq]at hm;exact⟨⟨_,rfl⟩,by rw[<-hm.1];exact c3⟩;exact hc (.d .nilsl) _ ⟨J,Nm.Sub.refl _,hN,c4,.nilsl,.nilsl,rfl⟩
def Zyx(hS:Sim C J U s)(hN:Yu J nx){dst mu r}(h:(opF mu dst.isSome .mkmap).run H U nx=sO r)(hc:∀e s2,Y0 C J r e s2->DO F kp dk os (Zx H' dst e) L' s2):DO F kp dk (⟨dst,nO,.mkmap⟩::os) H' L' s:=by
 obtain⟨hd,u⟩:=ZD h;replace h:=u;clear u;cases h;cases dst with
 |none=>grind
 |some t=>exact ZsU rfl rfl rfl λb hb=>hc (.d (.map b)) _ (Y0.new hS hN hb (.map [] [] .nil) (.map _ _ Nm.put_same))
def Zlt{z}{zd}(hz:VRs J z zd):∀n,VRs J (Zh8 z n) (W3 zd n)
 |0=>by simp[Zh8];exact .nil
 |n+1=>by exact hz.append (Zlt hz n)
def Zu2(hS:Sim C J U s)(hN:Yu J nx)(hρ:Z5 J L H ρd){dst e n bytes z l hx mu r}(h:(opF mu dst.isSome (.mkslice e n bytes z l hx)).run H U nx=sO r)(hag:ZA ρd H' (ZR l++ZR hx))(hc:∀e s2,Y0 C J r e s2->DO F kp dk os (Zx H' dst e) L' s2):DO F kp dk (⟨dst,nO,.mkslice e n bytes z l hx⟩::os) H' L' s:=by
 simp[opF]at h;cases hz:ofDs z<;>simp[hz]at h;obtain⟨hd,hh⟩:=ZD h;replace h:=hh;clear hh;obtain⟨lv,hl,hh⟩:=WB h;replace h:=hh;clear hh;obtain⟨hv,hh,hh⟩:=WB h;replace h:=hh;clear hh;obtain⟨p,dl,a1,a2,a3⟩:=Wz hρ hl (λt ht=>hag t (by simp[ht]));obtain⟨q,dh,b1,b2,b3⟩:=Wz hρ hh (λt ht=>hag t (by simp[ht]));cases a3<;>simp at h;cases b3<;>simp at h;obtain⟨hb,hh⟩:=ZD h;replace h:=hh;clear hh;cases h;simp[JE]at hb;cases dst with
 |none=>grind
 |some t =>refine Zn8 rfl rfl rfl a1 b1 a2 b2 hb.1.1.1 hb.1.1.2 hb.1.2 hb.2 λb u=>hc (.d (.msl b 0 _ _ n)) _ (Y0.new hS hN u (OR.cells0 (Zlt (ofDs_ok hz) _)) (.msl _ _ _ _ _ _ Nm.put_same))
def ZwX(hS:Sim C J U s)(hN:Yu J nx)(hρ:Z5 J L H ρd){dst mk m k v mu r}(h:(opF mu dst.isSome (.mapupd mk m k v)).run H U nx=sO r)(hag:ZA ρd H' (ZR m++ZR k++ZR v))(hc:∀e s2,Y0 C J r e s2->DO F kp dk os (Zx H' dst e) L' s2):DO F kp dk (⟨dst,nO,.mapupd mk m k v⟩::os) H' L' s:=by
 simp only[opF]at h;obtain⟨hd,hh⟩:=ZD h;replace h:=hh;clear hh;obtain⟨mv,hm,hh⟩:=WB h;replace h:=hh;clear hh;obtain⟨kv,hk,hh⟩:=WB h;replace h:=hh;clear hh;obtain⟨vv,hv,hh⟩:=WB h;replace h:=hh;clear hh;obtain⟨p,dm,a1,a2,a3⟩:=Wz hρ hm (λt ht=>hag t (by simp[ht]));obtain⟨q,dk',b1,b2,b3⟩:=Wz hρ hk (λt ht=>hag t (by simp[ht]));obtain⟨q',dv,c1,c2,c3⟩:=Wz hρ hv (λt ht=>hag t (by simp[ht]));cases a3<;>simp only[reduceCtorEq]at h;rename_i kb b hb;split at h<;>(try(simp at h;done));rename_i es u;obtain⟨ac,hh⟩:=ZD h;replace h:=hh;clear hh;split at h<;>simp only[ZIx,reduceCtorEq]at h;rename_i es' ab;subst h;obtain⟨ds,e1,e2⟩:=hS.map u hb;obtain⟨ds',e3,e4⟩:=ZqN b3 c3 e2 ab;cases dst with
 |some t=>simp at hd
 |none=>exact Zq1 rfl rfl rfl a1 b1 c1 a2 b2 c2 (by simp only[KY,e1]) e3 (Zgo b3 ac) (hc (.d .nilsl) _ (Y0.turn hS hN u hb (.map _ _ e4) .nilsl))
def ZwV(hS:Sim C J U s)(hN:Yu J nx)(hρ:Z5 J L H ρd){dst mk m k mu r}(h:(opF mu dst.isSome (.delete mk m k)).run H U nx=sO r)(hag:ZA ρd H' (ZR m++ZR k))(hc:∀e s2,Y0 C J r e s2->DO F kp dk os (Zx H' dst e) L' s2):DO F kp dk (⟨dst,nO,.delete mk m k⟩::os) H' L' s:=by
 obtain⟨hd,hh⟩:=ZD h;replace h:=hh;clear hh;obtain⟨mv,hm,hh⟩:=WB h;replace h:=hh;clear hh;obtain⟨kv,hk,hh⟩:=WB h;replace h:=hh;clear hh;obtain⟨p,dm,a1,a2,a3⟩:=Wz hρ hm (λt ht=>hag t (by simp[ht]));obtain⟨q,dk',b1,b2,b3⟩:=Wz hρ hk (λt ht=>hag t (by simp[ht]));cases a3<;>simp only[reduceCtorEq]at h;rename_i kb b hb;split at h<;>(try(simp at h;done));rename_i es u;obtain⟨ac,hh⟩:=ZD h;replace h:=hh;clear hh;split at h<;>simp only[ZIx,reduceCtorEq]at h;rename_i es' ab;subst h;obtain⟨ds,e1,e2⟩:=hS.map u hb;obtain⟨ds',e3,e4⟩:=ZvN b3 e2 ab;cases dst with
 |some t=>simp at hd
 |none=>exact ZqZ rfl rfl rfl a1 b1 a2 b2 (by simp only[KY,e1]) e3 (Zgo b3 ac) (hc (.d .nilsl) _ (Y0.turn hS hN u hb (.map _ _ e4) .nilsl))
def ZwW(hS:Sim C J U s)(hN:Yu J nx)(hρ:Z5 J L H ρd){dst mk z m k mu r}(h:(opF mu dst.isSome (.mapent mk z m k)).run H U nx=sO r)(hag:ZA ρd H' (ZR m++ZR k))(hc:∀e s2,Y0 C J r e s2->DO F kp dk os (Zx H' dst e) L' s2):DO F kp dk (⟨dst,nO,.mapent mk z m k⟩::os) H' L' s:=by
 simp[opF]at h;cases hz:ofD z<;>simp[hz]at h;obtain⟨hd,hh⟩:=ZD h;replace h:=hh;clear hh;obtain⟨mv,hm,hh⟩:=WB h;replace h:=hh;clear hh;obtain⟨kv,hk,hh⟩:=WB h;replace h:=hh;clear hh;obtain⟨p,dm,a1,a2,a3⟩:=Wz hρ hm (λt ht=>hag t (by simp[ht]));obtain⟨q,dk',b1,b2,b3⟩:=Wz hρ hk (λt ht=>hag t (by simp[ht]));cases a3<;>simp at h;rename_i kb b hb;split at h<;>(try(grind;done));rename_i es ab;obtain⟨ac,hh⟩:=ZD h;replace h:=hh;clear hh;split at h<;>simp at h;rename_i v hv;subst h;obtain⟨ds,e1,e2⟩:=hS.map ab hb;obtain⟨d,e3,e4⟩:=ZvR b3 (ZhK hz) e2 hv;cases dst with
 |none=>grind
 |some t =>refine Zq0 rfl rfl rfl a1 b1 a2 b2 (by simp[KY,e1]) e3 (Zgo b3 ac) λn=>hc (.d (.tup [d,.stamp n])) _ ?_;have u:=Nm.put_sub (hN.free nx (ZIO _)) (.tip n);exact⟨_,u,hN.put _,(hS.mono u).upd ab (u _ _ hb) (.mapE _ _ _ _ _ _ _ (e2.imp λ_ _ m=>m.mono u) (b3.mono u) Nm.put_same),_,.tup _ _ (.cons _ _ _ _ (e4.mono u) (.one (.stamp _ _ Nm.put_same))),rfl⟩
def Zyw(hS:Sim C J U s)(hN:Yu J nx)(hρ:Z5 J L H ρd){dst m st v mu r}(h:(opF mu dst.isSome (.entst m st v)).run H U nx=sO r)(hag:ZA ρd H' (ZR m++ZR st++ZR v))(hc:∀e s2,Y0 C J r e s2->DO F kp dk os (Zx H' dst e) L' s2):DO F kp dk (⟨dst,nO,.entst m st v⟩::os) H' L' s:=by
 simp only[opF]at h;obtain⟨hd,hh⟩:=ZD h;replace h:=hh;clear hh;obtain⟨mv,hm,hh⟩:=WB h;replace h:=hh;clear hh;obtain⟨kv,hk,hh⟩:=WB h;replace h:=hh;clear hh;obtain⟨vv,hv,hh⟩:=WB h;replace h:=hh;clear hh;obtain⟨p,dm,a1,a2,a3⟩:=Wz hρ hm (λt ht=>hag t (by simp[ht]));obtain⟨q,dk',b1,b2,b3⟩:=Wz hρ hk (λt ht=>hag t (by simp[ht]));obtain⟨q',dv,c1,c2,c3⟩:=Wz hρ hv (λt ht=>hag t (by simp[ht]));cases a3<;>simp only[reduceCtorEq]at h;rename_i kb b hb;cases b3<;>simp only[reduceCtorEq]at h;rename_i kn n hn;split at h<;>(try(simp at h;done));rename_i mk es key n' u;obtain⟨ac,hh⟩:=ZD h;replace h:=hh;clear hh;rw[Z1]at ac;subst ac;split at h<;>simp only[ZIx,reduceCtorEq]at h;rename_i es' ab;subst h;obtain⟨b',d,e0,e1,e2⟩:=hS.get u (λn=>by simp);rw[hb]at e0;simp only[ZIx,Tok.tip.injEq]at e0;subst e0;cases e2 with
 |mapE _ _ ds _ dkey _ m' g1 g2 g3 =>
  rw[hn]at g3;simp only[ZIx,Tok.tip.injEq]at g3;subst g3;obtain⟨ds',e3,e4⟩:=ZqN g2 c3 g1 ab;cases dst with
  |some t=>simp at hd
  |none=>exact ZsT rfl rfl rfl a1 b1 c1 a2 b2 c2 e1 e3 (hc (.d .nilsl) _ (Y0.turn hS hN u hb (.map _ _ e4) .nilsl))
end
def St.del_upd(s:St)(b d):(s.del b).upd b d=s.upd b d:=by
 funext c;simp[ZJc,St.del];split<;>rfl
def St.upd_del{b d}(h:s b=sO d):(s.del b).upd b d=s:=by
 funext c;simp[ZJc,St.del];split;rename_i t;rw[t,h];rfl
section
variable {C:Px} {J:Nm} {U:S} {s:St}
def Sim.take(x:Sim C J U s){k b:Nat}{o:O}(h:U.get k=sO o)(hb:J k=sO (.tip b))(hr:ZbS o=false:=by rfl):Sim C J (U.set nO k) (s.del b) where
 obj k' o' h':=by obtain⟨ab,h1⟩:=ZvX h';obtain⟨t,e1,⟨b',d',rfl,e2,e3⟩|e2⟩:=x.obj k' o' h1;refine⟨_,e1,.inl ⟨b',d',rfl,?_,e3⟩⟩;have:b'≠b:=λu=>ab (x.inj k' k _ _ b h1 h (by rw[<-u];exact e1) hb);simp[St.del,this];exact e2;exact⟨t,e1,.inr e2⟩
 inj:=(x.forget k).inj
 kp c e hc:=by obtain⟨h1,h2⟩:=(x.forget k).kp c e hc;have:c≠b:=λec=>(x.kp c e hc).2 k o h hr (by rw[ec];exact hb);exact⟨by simp[St.del,this];exact h1,h2⟩
 ro:=(x.forget k).ro
def Sim.newFull(x:Sim C J U s){nx}(hn:J nx=nO)(m):Sim C (J.put nx .full) (U.set (sO (.tok m)) nx) s:=by
 have x':=x.mono (Nm.put_sub hn .full);have t:∀k o1 b,(U.set (sO (O.tok m)) nx).get k=sO o1->(J.put nx .full) k=sO (.tip b)->U.get k=sO o1:=λk o1 b h e=>by
  have u:k≠nx:=λhk=>by rw[hk,Nm.put_same]at e;grind
  rcases T.get_set h with ⟨rfl,_⟩|⟨_,h⟩;exact absurd rfl u;exact h
 refine⟨λk o h=>?_,λk1 k2 o1 o2 b h1 h2 e1 e2=>x'.inj k1 k2 o1 o2 b (t _ _ _ h1 e1) (t _ _ _ h2 e2) e1 e2,λc e hc=>⟨(x'.kp c e hc).1,λk o1 h hr e1=>(x'.kp c e hc).2 k o1 (t _ _ _ h e1) hr e1⟩,λk o1 c h e=>x'.ro k o1 c (t _ _ _ h e) e⟩;rcases T.get_set h with ⟨rfl,h1⟩|⟨_,h1⟩;cases h1;exact⟨_,Nm.put_same,.inr ⟨m,rfl,rfl⟩⟩;exact x'.obj k o h1
def Zxo(row:Nat->List D)(m):(ZIM (m+1)).flatMap row=row 0++(ZIM m).flatMap λi=>row (i+1):=by
 rw[List.range_succ_eq_map,ZJl,List.flatMap_map]
def VRr.flat{z}:∀{m rs cs row},VRr J z rs row->ZoM z m rs=sO cs->VRs J cs ((ZIM m).flatMap row)/\I cs=m*z
 |0,rs,cs,row,_,h=>by have:sO []=sO cs:=h;cases this;exact⟨.nil,ψ⟩
 |m+1,rs,cs,row,hr,h=>by
  cases hr with
  |nil=>cases h
  |cons _ c rs row h1 hl t =>
   have u:(match ZoM z m rs with
    |some r=>sO (Zp4 z c r)
    |none=>nO)=sO cs:=h
   split at u<;>simp at u;rename_i r hr;subst u;obtain⟨g1,g2⟩:=t.flat hr;rw[Zht hl,Zxo];exact⟨h1.append g1,by rw[ZII,g2,hl,ZIX];omega⟩
def ZnQ{z}:∀{n vs rs ds},VRs J vs ds->Zxx z n vs=sO rs->VRr J z rs (λi=>part ds (i*z) z)/\I rs=n/\n*z<=I ds
 |0,vs,rs,ds,_,h=>by have:sO []=sO rs:=h;cases this;exact⟨.nil _ _,rfl,ω⟩
 |n+1,vs,rs,ds,hv,h=>by
  have t:(match Zbf z vs with
   |some r=>J0 (.agg r) (Zxx z n (ZbB z vs))
   |none=>nO)=sO rs:=h
  split at t<;>(try(simp at t;done));rename_i r hr;obtain⟨q,u,rfl⟩:=KO t;obtain⟨t1,rfl⟩:=Zaa hr;rw[Jp]at u;obtain⟨g1,g2,g3⟩:=ZnQ (hv.drop z) u;have hlen:=hv.len;rw[ZI8]at g3;refine⟨.cons _ _ _ _ ?_ (by rw[ZIS];omega) (g1.congr λi _=>?_),by simp[g2],by rw[ZIX];omega⟩;simpa[part]using hv.take z;simp[part]
  congr 2
  rw[ZIX];omega
def ZCR{P}(hS:Sim C J U s){z v d}(hv:VR J v d){m rs}(h:ZBp U z v=sO (m,rs)):∃row,WZ P s z d m row/\VRr J z rs row/\I rs=m:=by
 cases hv<;>simp only[ZBp,reduceCtorEq]at h;case nilsl =>cases h;exact⟨λ_=>[],WZ.elems rfl,.nil _ _,rfl⟩
 case sl t n z' rs' τ row h1 h2 h3 =>obtain⟨hz,hh⟩:=ZD h;rw[Z1]at hz;subst hz;cases hh;exact⟨row,WZ.elems (by simp[ZaP]),h1,h2⟩
 case str l =>obtain⟨hz,hh⟩:=ZD h;rw[Z1]at hz;subst hz;cases hh;refine⟨λi=>[D.int .u8 (((l.map UInt8.ofNat).getD i 0).toNat:Int)],WZ.elems (m:=I l) (by simp[ZaP]),?_,by simp[u8V]⟩;have:=ZzH (J:=J) l 0;simpa using this
 case msl k b o n cap z' hb =>
  split at h<;>(try(grind;done));rename_i cs u;obtain⟨hc,hh⟩:=ZD h;simp at hc;obtain⟨rfl,hc⟩:=hc;split at hh<;>simp at hh;rename_i r hr;obtain⟨rfl,rfl⟩:=hh;obtain⟨ds,ex,e1,e2⟩:=hS.cells u hb;rw[Jp]at hr;obtain⟨g1,g2,g3⟩:=ZnQ (e2.drop o) hr;have hl:=e2.len;refine⟨_,WZ.msl (JB e1) (by rw[ZII];omega),g1.congr λi hi=>?_,g2⟩;have h1:i*z'+z'<=n*z':=by rw[<-Nat.succ_mul];exact ZIT _ ω
  simp[part];rw[List.drop_append_of_le_length ω,List.take_append_of_le_length (by rw[ZI8];omega)]
 case gsl k b o n cap z' c hb h2 hcap hl0 =>
  split at h<;>(try(grind;done));rename_i cs u;obtain⟨hc,hh⟩:=ZD h;simp at hc;obtain⟨rfl,hc⟩:=hc;split at hh<;>simp at hh;rename_i r hr;obtain⟨rfl,rfl⟩:=hh;obtain⟨ds,ex,e1,e2⟩:=hS.cells u hb;rw[Jp]at hr;obtain⟨g1,g2,g3⟩:=ZnQ (e2.drop o) hr;have hl:=e2.len;refine⟨_,WZ.msl (JB e1) (by rw[ZII];omega),g1.congr λi hi=>?_,g2⟩;have h1:i*z'+z'<=n*z':=by rw[<-Nat.succ_mul];exact ZIT _ ω
  simp[part];rw[List.drop_append_of_le_length ω,List.take_append_of_le_length (by rw[ZI8];omega)]
end
section
variable {C:Px} {J:Nm} {U:S} {s:St} {L:Loc} {H:T W} {ρd:Env} {nx:Nat}
variable {P:Program} {F:Fr P} {kp:Option (List Nat)} {dk:List WY} {os:List DOp} {H':Env} {L':Loc}
def Zyv(hS:Sim C J U s)(hN:Yu J nx)(hρ:Z5 J L H ρd){dst g}(hg:Zj H' g=sO true){n0 z x mu r db}(h:(opF mu db (.clear n0 z x)).run H U nx=sO r)(hag:ZA ρd H' (ZR x))(hc:∀e s2,Y0 C J r e s2->DO F kp dk os (Zx H' dst e) L' s2):DO F kp dk (⟨dst,g,.clear n0 z x⟩::os) H' L' s:=by
 simp[opF]at h;cases hz:ofDs z<;>simp[hz]at h;rename_i zv;obtain⟨v,hv,hh⟩:=WB h;replace h:=hh;clear hh;obtain⟨p,d,a1,a2,a3⟩:=Wz hρ hv hag;have fin:∀{k b o n cap:Nat} {z':Nat} ,VR J (.ptr k o) (.ptr b o)->d=.msl b o n cap z'->noV (Nat.beq z' n0) (up (ZhY U (.ptr k o) (n*n0) (Zh8 zv n)) (.tup []) nx)=sO r->DO F kp dk (⟨dst,g,.clear n0 z x⟩::os) H' L' s:=by intro k b o n cap z' hp hd h;obtain⟨t,hh⟩:=ZD h;replace h:=hh;clear hh;rw[Z1]at t;subst t;obtain⟨U',u,rfl⟩:=ZuO h;obtain⟨b',off,cs,e1,c1,c2,c3,c4⟩:=Zli hS u hp (Zlt (ofDs_ok hz) n);cases e1;subst hd;exact Zm7 hg rfl a1 a2 c1 ω (hc (.d (.tup [])) _ ⟨J,Nm.Sub.refl _,hN,c4,_,.tup _ _ .nil,rfl⟩)
 cases a3<;>simp at h;case msl k b o n cap z' hb=>exact fin (.ptr _ _ _ hb) rfl h
 case gsl k b o n cap z' c hb h2 hcap hl0=>exact fin (.ptr _ _ _ hb) rfl h
def Y0.buf(hS:Sim C J U s)(t:Yu J nx){b}(hb:s b=nO){z m cap cs ds ex}(hv:VRs J cs ds)(hm:m<=cap)(hl:(ds++ex).length=cap*z){r}(h:ZjK z U nx m cs=sO r):Y0 C J r (.d (.msl b 0 m cap z)) (s.upd b (.cells (ds++ex))):=by
 cases h;have f0:=t.free nx (ZIO _);have f1:=t.free (nx+1) ω;have s1:J.Sub (J.put (nx+1) (.tip (ds++ex).length)):=Nm.put_sub f1 _;have f2:(J.put (nx+1) (.tip (ds++ex).length)) nx=nO:=by simp only[Nm.put];rw[if_neg ω];exact f0
 have u:=Nm.put_sub f2 (.tip b);have hx:((J.put (nx+1) (.tip (ds++ex).length)).put nx (.tip b)) (nx+1)=sO (.tip (ds++ex).length):=by simp[Nm.put]
 refine⟨_,s1.trans u,⟨?_,?_,?_,?_⟩,(hS.mono s1).new f2 hb (.buf _ _ _ ((hv.mono s1).mono u) hx),_,.gsl _ _ _ _ _ _ _ Nm.put_same hx hm ω,rfl⟩;exact u _ _ (s1 _ _ t.z);exact u _ _ (s1 _ _ t.o);have:=t.two;show 2<=nx+2;omega;intro k hk;have hk:nx+2<=k:=hk;simp[Nm.put];rw[if_neg ω,if_neg ω];exact t.free k ω
def Y0.bufMove(hS:Sim C J U s)(t:Yu J nx){k b o}(u:U.get k=sO o)(hb:J k=sO (.tip b))(hr:ZbS o=false){z m cap cs ds ex}(hv:VRs J cs ds)(hm:m<=cap)(hl:cap*z<=(ds++ex).length){r}(h:ZjK z (U.set nO k) nx m cs=sO r):Y0 C J r (.d (.msl b 0 m cap z)) (s.upd b (.cells (ds++ex))):=by
 rw[<-St.del_upd s b];cases h;have f0:=t.free nx (ZIO _);have f1:=t.free (nx+1) ω;have s1:J.Sub (J.put (nx+1) (.tip (ds++ex).length)):=Nm.put_sub f1 _;have f2:(J.put (nx+1) (.tip (ds++ex).length)) nx=nO:=by simp only[Nm.put];rw[if_neg ω];exact f0
 have s2:=Nm.put_sub f2 (.tip b);have hx:((J.put (nx+1) (.tip (ds++ex).length)).put nx (.tip b)) (nx+1)=sO (.tip (ds++ex).length):=by simp[Nm.put]
 refine⟨_,s1.trans s2,⟨?_,?_,?_,?_⟩,((hS.take u hb hr).mono s1).new f2 (by simp[St.del]) (.buf _ _ _ ((hv.mono s1).mono s2) hx),_,.gsl _ _ _ _ _ _ _ Nm.put_same hx hm ω,rfl⟩;exact s2 _ _ (s1 _ _ t.z);exact s2 _ _ (s1 _ _ t.o);have:=t.two;show 2<=nx+2;omega;intro k u;have u:nx+2<=k:=u;simp[Nm.put];rw[if_neg ω,if_neg ω];exact t.free k ω
end
section
variable {C:Px} {J:Nm} {U:S} {s:St} {L:Loc} {H:T W} {ρd:Env} {nx:Nat}
variable {P:Program} {F:Fr P} {kp:Option (List Nat)} {dk:List WY} {os:List DOp} {H':Env} {L':Loc}
def ZxM(hS:Sim C J U s)(hN:Yu J nx){t k τ U'}(ht:t=0\/J t=sO τ)(h:ZqK U t k=sO U'):
  ∃s0,s=s0.own τ k/\τ.okIn s0/\Sim C J U' s0:=by
 unfold ZqK at h;split at h;rename_i h1;rw[Z1]at h1;subst h1;cases h;have:=ht.resolve_left ω;rw[hN.o]at this;cases this;exact⟨s,rfl,trivial,hS⟩;split at h<;>(try(grind;done));rename_i m hm;obtain⟨hk,hh⟩:=ZD h;rw[Z1]at hk;subst hk;cases hh;obtain⟨t0,u,e1⟩:=hS.obj t _ hm;have hτ:τ=t0:=by rcases ht with rfl|ht;rw[hN.z]at u;cases u;obtain⟨_,_,h,_⟩|⟨_,_,h⟩:=e1<;>grind;rw[u]at ht;simpa using ht.symm
 subst hτ;obtain⟨b,d,rfl,g1,g2⟩|⟨n,g1,rfl⟩:=e1;cases g2;refine⟨s.del b,?_,by simp[Tok.okIn,St.del],hS.take hm u⟩;exact(St.upd_del g1).symm;exact⟨s,rfl,trivial,hS.forget t⟩
def Y0.tok{s0 U'}(hS:Sim C J U' s0)(hN:Yu J nx){u}(ht:u.okIn s0){n z rs row}(hr:VRr J z rs row)(hl:I rs=n):
  Y0 C J ⟨.sl nx n z rs,U'.set (sO (.tok (n*z))) nx,nx+1⟩ (.d (.sl u n z row)) (s0.own u (n*z)):=by
 have f0:=hN.free nx (ZIO _);have t:=Nm.put_sub f0 u;refine⟨_,t,hN.put _,?_,_,.sl _ _ _ _ _ _ (hr.mono t) hl (.inr Nm.put_same),rfl⟩;cases u with
 |tip b=>exact hS.new f0 ht (.tok _)
 |full=>exact hS.newFull f0 _
 |none=>exact ht.elim
def Zox(hS:Sim C J U s)(hN:Yu J nx){dst g}(hg:Zj H' g=sO true){e z b zd x y p q dx dy}(hx:ZC H' true x=sO (p,.d dx))(hy:ZC H' true y=sO (q,.d dy))(hp:p)(hq:q){t n m τ row row2 rs rs2}(hsl:Zeh z dx=sO (τ,n,row))(ht:t=0\/J t=sO τ)(hr:VRr J z rs row)(hl:I rs=n)(hel:WZ P s z dy m row2)(hr2:VRr J z rs2 row2)(hl2:I rs2=m){r}(h:Ztf z b U nx t n m rs rs2=sO r)(hc:∀e s2,Y0 C J r e s2->DO F kp dk os (Zx H' dst e) L' s2):DO F kp dk (⟨dst,g,.append e z b zd x y⟩::os) H' L' s:=by
 obtain⟨hb,hh⟩:=ZD h;replace h:=hh;clear hh;simp at hb;split at h<;>simp at h;rename_i U' hσ;subst h;obtain⟨s0,rfl,ab,u⟩:=ZxM hS hN ht hσ;refine Zwy hg rfl hx hsl hy hp hq hel ab hb.1 hb.2 λt' ac=>hc _ _ ?_;have:=hr.append hr2;rw[hl]at this;rw[Zht hl];exact Y0.tok u hN ac this (by simp[hl,hl2])
def Zow(hS:Sim C J U s)(hN:Yu J nx){dst g}(hg:Zj H' g=sO true){e z b zd x y p q dx dy}(hx:ZC H' true x=sO (p,.d dx))(hy:ZC H' true y=sO (q,.d dy))(hp:p)(hq:q){m row row2 rs2}(hsl:Zeh z dx=sO (.full,0,row))(hm:0<m)(hel:WZ P s z dy m row2)(hr2:VRr J z rs2 row2){r}(h:Zte z b U nx m rs2=sO r)(hc:∀e s2,Y0 C J r e s2->DO F kp dk os (Zx H' dst e) L' s2):DO F kp dk (⟨dst,g,.append e z b zd x y⟩::os) H' L' s:=by
 obtain⟨hb,hh⟩:=ZD h;replace h:=hh;clear hh;simp at hb;split at h<;>(try(grind;done));rename_i cs ab;obtain⟨g1,g2⟩:=hr2.flat ab;refine Zm6 hg rfl hx hsl hy hel hp hq hm hb.1 hb.2 λc cap u t=>hc _ _ (Y0.buf hS hN u g1 t ?_ h);have:=g1.len;have e1:m*z+(cap-m)*z=cap*z:=by rw[<-ZIX];congr 1;omega
 simp_all
def Zxy{cs o xs}:Zy cs o xs=cs.take o++xs++cs.drop (o+I xs):=rfl
def ZtK(hS:Sim C J U s)(hN:Yu J nx){dst g}(hg:Zj H' g=sO true){e z bt zd x y p q dx dy}(hx:ZC H' true x=sO (p,.d dx))(hy:ZC H' true y=sO (q,.d dy))(hp:p)(hq:q){k o n m cap z' row2 rs2}(hv:VR J (.msl k o n cap z') dx)(hel:WZ P s z dy m row2)(hr2:VRr J z rs2 row2){mu}{r}(h:Zz0 mu z bt U nx (.msl k o n cap z') m rs2=sO r)(hc:∀e s2,Y0 C J r e s2->DO F kp dk os (Zx H' dst e) L' s2):DO F kp dk (⟨dst,g,.append e z bt zd x y⟩::os) H' L' s:=by
 obtain⟨hb,hh⟩:=ZD h;replace h:=hh;clear hh;simp at hb;obtain⟨⟨rfl,ad⟩,ae⟩:=hb;split at h<;>(try(simp at h;done));rename_i ap ak;obtain⟨g1,g2⟩:=hr2.flat ak;have ah:((ZIM m).flatMap row2).length=m*z':=by rw[<-g1.len,g2]
 cases hv with
 |gsl _ b _ _ cap' _ c hb h2 hcap hlc =>
  simp only at h;split at h<;>(try(simp at h;done));rename_i cs ac;obtain⟨ho,hh⟩:=ZD h;replace h:=hh;clear hh;rw[Z1]at ho;subst ho;split at h<;>(try(simp at h;done));rename_i c1 ag;obtain⟨t1,rfl⟩:=Zaa ag;obtain⟨b',d,e0,e1,e2⟩:=hS.get ac (λn=>by simp);rw[hb]at e0;cases e0;cases e2 with
  |buf _ ds ex hds hce =>
   rw[h2]at hce;cases hce;have hl:=hds.len;have ai:(cs.take (n*z')).length=n*z':=by rw[ZIS];omega
   rw[Zht ai]at h;have hnc:n*z'<=cap'*z':=ZIT _ hcap;have aj:(n+m)*z'=n*z'+m*z':=ZIX _ _ _;have ao:VRs J (cs.take (n*z')++ap) ((ds++ex).take (n*z')++(ZIM m).flatMap row2):=by rw[List.take_append_of_le_length ω];exact(hds.take _).append g1
   refine Zlx hg rfl hx hy hp hq (JB e1) ω hel (λu=>⟨rfl,?_⟩) ad ae (λu=>?_) (λc t _ af ab=>?_);have:=ZIT z' u;omega;rw[Zxy];refine hc _ _ (Y0.bufMove hS hN ac hb rfl ao u ?_ h);simp at hlc⊢;omega;have al:part (ds++ex) 0 (n*z')=(ds++ex).take (n*z'):=by simp[part]
   refine hc _ _ (Y0.buf (hS.forget k) hN af ao ab ?_ h);have e1:(n+m)*z'+(t-(n+m))*z'=t*z':=by rw[<-ZIX];congr 1;omega
   simp[ah]at hlc⊢;omega
 |msl _ b _ _ cap _ hb =>
  simp only at h;split at h<;>(try(simp at h;done));rename_i cs ac;obtain⟨ds,ex,e1,e2⟩:=hS.cells (vs:=cs) (by rw[ac];rfl) hb;have hl:=e2.len;have aj:(n+m)*z'=n*z'+m*z':=ZIX _ _ _;split at h;rename_i u;rw[Zag]at u;obtain⟨ho,hh⟩:=ZD h;replace h:=hh;clear hh;rw[Z1]at ho;subst ho;split at h<;>simp at h;rename_i cs' am;subst h;obtain⟨f0,f1,f2⟩:=e2.over g1 am;refine Zlx hg rfl hx hy hp hq (JB e1) (by simp;omega) hel (λ_=>⟨rfl,by simp;omega⟩) ad ae (λ_=>?_) (λc t hlt _ _=>by omega);rw[Zm0 (by rw[ah];omega)];exact hc _ _ (Y0.turn hS hN ac hb (.cells _ _ _ f2) (.msl _ _ _ _ _ _ hb));rename_i u;have u:cap<n+m:=by have:¬n+m<=cap:=λh=>u (Zag.2 h);omega
  obtain⟨ho,hh⟩:=ZD h;replace h:=hh;clear hh;rw[Zag]at ho;split at h<;>(try(simp at h;done));rename_i c1 ag;obtain⟨t1,rfl⟩:=Zaa ag;rw[Jp]at h t1;have ai:((cs.drop o).take (n*z')).length=n*z':=by rw[ZIS];omega
  rw[Zht ai]at h;have al:part (ds++ex) o (n*z')=(ds.drop o).take (n*z'):=by simp only[part];rw[List.drop_append_of_le_length ω,List.take_append_of_le_length (by rw[ZI8];omega)]
  refine Zlx hg rfl hx hy hp hq (JB e1) (by simp;omega) hel (λh=>by omega) ad ae (λh=>by omega) (λc t _ af ab=>?_);rw[al];refine hc _ _ (Y0.buf hS hN af (((e2.drop o).take _).append g1) ab ?_ h);have e1:(n+m)*z'+(t-(n+m))*z'=t*z':=by rw[<-ZIX];congr 1;omega
  have:((ds.drop o).take (n*z')).length=n*z':=by rw[ZIS,ZI8];omega
  simp[ah];omega
def ZwU(hS:Sim C J U s)(hN:Yu J nx)(hρ:Z5 J L H ρd){dst g}(hg:Zj H' g=sO true){e z b zd x y mu db r}(h:(opF mu db (.append e z b zd x y)).run H U nx=sO r)(hag:ZA ρd H' (ZR x++ZR y))(hc:∀e s2,Y0 C J r e s2->DO F kp dk os (Zx H' dst e) L' s2):DO F kp dk (⟨dst,g,.append e z b zd x y⟩::os) H' L' s:=by
 obtain⟨xv,hx,hh⟩:=WB h;replace h:=hh;clear hh;obtain⟨yv,hy,hh⟩:=WB h;replace h:=hh;clear hh;split at h<;>(try(grind;done));rename_i m rs2 ad;obtain⟨p,dx,a1,a2,a3⟩:=Wz hρ hx (λt ht=>hag t (by simp[ht]));obtain⟨q,dy,b1,b2,b3⟩:=Wz hρ hy (λt ht=>hag t (by simp[ht]));obtain⟨row2,u,ab,ac⟩:=ZCR (P:=P) hS b3 ad;cases a3<;>(try(cases h;done));case nilsl =>simp only[Zz0]at h;split at h;rename_i hm;simp at hm;exact Zow hS hN hg a1 b1 a2 b2 rfl ω u ab h hc;exact Zox hS hN hg a1 b1 a2 b2 rfl (.inr hN.o) (.nil _ _) rfl u ab ac h hc
 case sl t n z' rs τ row h1 h2 h3 =>obtain⟨hz,hh⟩:=ZD h;replace h:=hh;clear hh;rw[Z1]at hz;subst hz;split at h;rename_i hm;simp at hm;obtain⟨⟨⟨_,hm⟩,rfl⟩,rfl⟩:=hm;have hτ:=h3.resolve_left ω;rw[hN.o]at hτ;cases hτ;exact Zow (row:=row) hS hN hg a1 b1 a2 b2 (by simp[Zeh]) ω u ab h hc;exact Zox hS hN hg a1 b1 a2 b2 (by simp[Zeh]) h3 h1 h2 u ab ac h hc
 case msl k b' o n cap z' hb=>exact ZtK hS hN hg a1 b1 a2 b2 (.msl _ _ _ _ _ _ hb) u ab h hc
 case gsl k b' o n cap z' c hb h2 hcap hl0=>exact ZtK hS hN hg a1 b1 a2 b2 (.gsl _ _ _ _ _ _ _ hb h2 hcap hl0) u ab h hc
def ZAm(hS:Sim C J U s)(hN:Yu J nx)(hρ:Z5 J L H ρd){dst g}(hg:Zj H' g=sO true){len n z is xs mu db r}(h:(opF mu db (.bsl len n z is xs)).run H U nx=sO r)(hag:ZA ρd H' (Zba xs))(hmu:(mu&&db&&Nat.ble 1 len)=true)(hc:∀e s2,Y0 C J r e s2->DO F kp dk os (Zx H' dst e) L' s2):DO F kp dk (⟨dst,g,.bsl len n z is xs⟩::os) H' L' s:=by
 simp only[opF]at h;cases hz:ofDs z<;>simp only[hz,reduceCtorEq]at h;split at h<;>(try(grind;done));rename_i vs u;obtain⟨hp,hh⟩:=ZD h;replace h:=hh;clear hh;rw[hmu,if_pos rfl]at h;split at h<;>simp at h;rename_i cs t;subst h;simp at hp hmu;obtain⟨p,ds,a1,a2,a3⟩:=ZaH hρ u;rw[<-W7 hag]at a1;obtain⟨g1,g2⟩:=ZnI (is:=is) (ofDs_ok hz) hp.2 a3 hp.1 len 0;obtain⟨g3,g4⟩:=g1.flat t;simp at g3;exact Zvx hg rfl a1 (ZaO ds) a2 (ZkA a3 hp.1) hmu.2 λb hb=>hc _ _ (Y0.new hS hN hb (OR.cells0 (g3.mono (Nm.put_sub (hN.free nx (ZIO _)) _))) (.msl _ _ _ _ _ _ Nm.put_same))
end
section
variable {C:Px} {J:Nm} {U:S} {s:St} {L:Loc} {H:T W} {ρd:Env} {nx:Nat}
variable {P:Program} {F:Fr P} {kp:Option (List Nat)} {dk:List WY} {os:List DOp} {H':Env} {L':Loc}
def Zyy(hS:Sim C J U s)(hN:Yu J nx)(hρ:Z5 J L H ρd){dst g k}(hg:Zj H' g=sO true)(hgk:(gk k ||g.isNone)=true)(hk:YC k=false)(hf:Zku k=true){mu r}(h:(opF mu dst.isSome k).run H U nx=sO r)(hag:ZA ρd H' (ZB ⟨dst,g,k⟩))(hc:∀e s2,Y0 C J r e s2->DO F kp dk os (Zx H' dst e) L' s2):DO F kp dk (⟨dst,g,k⟩::os) H' L' s:=by
 have hag:ZA ρd H' (Yh k):=λt ht=>hag t (by simp[ZB,ht]);have u:gk k=false->g=nO:=λhh=>by rw[hh,Bool.false_or]at hgk;cases g<;>simp_all
 cases k<;>simp only[YC,Bool.true_eq_false]at hk;case alloc z=>obtain rfl:=u rfl;exact Zyu hS hN h hc
 case box x=>obtain rfl:=u rfl;exact ZCg hS hN hρ h hag hc
 case store1 a v=>obtain rfl:=u rfl;exact ZwY hS hN hρ h hag hc
 case storeN n a v=>obtain rfl:=u rfl;exact ZwZ hS hN hρ h hag hc
 case append e z b zd x y=>exact ZwU hS hN hρ hg h hag hc
 case mkmap=>obtain rfl:=u rfl;exact Zyx hS hN h hc
 case mapupd kp' m k v=>obtain rfl:=u rfl;exact ZwX hS hN hρ h hag hc
 case mapent kp' z m k=>obtain rfl:=u rfl;exact ZwW hS hN hρ h hag hc
 case entst m st v=>obtain rfl:=u rfl;exact Zyw hS hN hρ h hag hc
 case mkslice e n b z l c=>obtain rfl:=u rfl;exact Zu2 hS hN hρ h hag hc
 case delete kp' m k=>obtain rfl:=u rfl;exact ZwV hS hN hρ h hag hc
 case clear n z x=>exact Zyv hS hN hρ hg h hag hc
 case fork k=>simp[Zku]at hf
 all_goals simp[opF]at h
def ZDH{u t k}(hk:YC k=true)(hb:(∃len n z is xs,k=.bsl len n z is xs/\(u&&t&&Nat.ble 1 len)=true)->False){r}(h:(opF u t k).run H U nx=sO r):(opF false t k).run H U nx=sO r:=by
 cases k<;>simp only[YC,ZI7]at hk;case bsl len n z is xs =>
  have hm:(u&&t&&Nat.ble 1 len)=false:=by cases hh:(u&&t&&Nat.ble 1 len);rfl;exact(hb ⟨_,_,_,_,_,rfl,hh⟩).elim
  simp only[opF]at h⊢;cases hz:ofDs z<;>simp only[hz,reduceCtorEq]at h⊢;simp only[hm,ZI7,if_false]at h;simpa only[ZJb,ZI7,if_false]using h
 all_goals exact h
def Zog{H l}:ZA H H l:=λ_ _=>rfl
def ZEj(hS:Sim C J U s)(u:Yu J nx)(hρ:Z5 J L H ρd){dst g k}(hg:Zj ρd g=sO true)(hgk:(gk k ||g.isNone)=true)(hf:Zku k=true){mu r}(h:(opF mu dst.isSome k).run H U nx=sO r)(hc:∀J' e s2,J.Sub J'->Yu J' r.nx->Sim C J' r.U s2->WR J' L (.v r.v) e->DO F kp dk os (Zx ρd dst e) L s2):DO F kp dk (⟨dst,g,k⟩::os) ρd L s:=by
 have t:∀e s2,Y0 C J r e s2->DO F kp dk os (Zx ρd dst e) L s2:=λe s2 hr=>by obtain⟨J',h1,h2,h3,d,h4,rfl⟩:=hr;exact hc J' _ s2 h1 h2 h3 ⟨d,h4,.inl rfl⟩
 cases hk:YC k with
 |false=>exact Zyy hS u hρ hg hgk hk hf h Zog t
 |true =>by_cases hb:∃len n z is xs,k=.bsl len n z is xs/\(mu&&dst.isSome&&Nat.ble 1 len)=true;obtain⟨len,n,z,is,xs,rfl,hm⟩:=hb;exact ZAm hS u hρ hg h Zog hm t;obtain⟨e1,e2,side,e,e3,e4,e5⟩:=ZrH (L:=L) hS u.o hρ hg hk (ZDH hk hb h);exact QJ e4 e3 (hc J e s (Nm.Sub.refl _) (by rw[e2];exact u) (by rw[e1];exact hS) e5)
end
def T.get_lt{α}{t:T α}{k a}(h:t.get k=sO a):k<32768:=by
 unfold T.get T.getF at h;cases u:Nat.blt k 32768 with
 |false=>rw[u]at h;grind
 |true=>simpa using u
def Jt{H t e}(u:ZM H t=sO e):∀{ks},t∈ks->ZM (Yn H ks) t=sO e
 | [],h=>by grind
 |k::ks,h=>by
  simp[Yn];by_cases hk:k=t;subst hk;simp[u,ZM];have ht:t∈ks:=by simpa[Ne.symm hk]using h
  split;simp[ZM,hk];exact Jt u ht;exact Jt u ht
def Zfv{t e}(hl:Ks e=[]):∀{H},ZM H t=sO e->ZM (Jd H) t=sO e
 | [],h=>by cases h
 | (k,x)::r,h=>by simp[ZM]at h;simp[Jd];by_cases u:k=t;simp[u]at h;subst h;simp[hl,ZM,u];simp[u]at h;split;simp[ZM,u];exact Zfv hl h;exact Zfv hl h
section
variable {J:Nm} {L:Loc} {H:T W} {ρd:Env}
def WR.locs{w e}(h:WR J [] w e)(u:live [] w=true):Ks e=[]:=by
 cases w with
 |v x =>obtain⟨d,_,rfl|rfl⟩:=h<;>rfl
 |loc l o=>cases u
 |skip =>have t:e=.when false (.d (.bool false)):=h;subst t;rfl
def Z5.keep(h:Z5 J L H ρd):Z5 J L H (Yn ρd Zp1):=λt w u hl=>by
 obtain⟨e,h1,h2⟩:=h t w u hl;exact⟨e,Jt h1 (List.mem_range.2 (T.get_lt u)),h2⟩
def Z5.round(h:Z5 J [] H ρd):Z5 J [] H (Ki Zp1 ρd):=λt w hw hl=>by
 obtain⟨e,h1,u⟩:=h.keep t w hw hl;exact⟨e,Zfv (u.locs hl) h1,u⟩
def Z5.nil:Z5 J L T.nil ρd:=λt w u=>by simp[T.get_nil]at u
def Z5.set(h:Z5 J L H ρd){v d}(hv:VR J v d)(t):Z5 J L (H.set (sO (.v v)) t) ((t,.d d)::ρd):=λt' w hw hl=>by
 rcases T.get_set hw with ⟨rfl,h1⟩|⟨u,h1⟩;cases h1;exact⟨.d d,by simp[ZM],d,hv,.inl rfl⟩;obtain⟨e,h2,h3⟩:=h t' w h1 hl;exact⟨e,by simp[ZM];rw[if_neg (Ne.symm u)];exact h2,h3⟩
def ZrM:∀{ts} {vs} {ds} {H} {ρd},Z5 J L H ρd->VRs J vs ds->Z5 J L (ZfH ts vs H) (WN ts ds ρd)
 | [],_,_,_,_,h,_=>by simpa[ZfH,WN]using h
 |_::_,[],_,_,_,h,hv=>by cases hv;simpa[ZfH,WN]using h
 |t::ts,v::vs,_,_,_,h,hv=>by obtain⟨d,ds,rfl,u,h2⟩:=hv.inv;exact ZrM (ts:=ts) (h.set u t) h2
def Zrv:∀{vs i H t w},(ZoU i vs H).get t=sO w->(∃j v,t=i+j/\vs[j]?=sO v/\w=.v v)\/H.get t=sO w
 | [],i,H,t,w,h=>.inr h
 |v::vs,i,H,t,w,h=>by rcases Zrv (vs:=vs) (i:=i+1) h with ⟨j,v',rfl,h1,u⟩|h1;exact .inl ⟨j+1,v',ω,by simpa using h1,u⟩;rcases T.get_set h1 with ⟨rfl,u⟩|⟨_,u⟩;simp at u;exact .inl ⟨0,v,rfl,rfl,u.symm⟩;exact .inr u
def ZmK:∀{ds i j d},ds[j]?=sO d->ZM (Qa i ds) (i+j)=sO (.d d)
 | [],i,j,d,h=>by grind
 |x::ds,i,0,d,h=>by cases h;simp[Qa,ZM]
 |x::ds,i,j+1,d,h=>by have:=ZmK (ds:=ds) (i:=i+1) (j:=j) (by simpa using h);simp only[Qa,ZM];rw[if_neg ω,show i+(j+1)=i+1+j by omega];exact this
def ZyR{vs ds}(hv:VRs J vs ds):Z5 J L (ZoU 0 vs T.nil) (Qa 0 ds):=λt w hw _=>by
 rcases Zrv hw with ⟨j,v,rfl,u,rfl⟩|h;obtain⟨d,h2,h3⟩:=hv.get u;exact⟨.d d,ZmK h2,d,h3,.inl rfl⟩;simp[T.get_nil]at h
end
def ZDE:E->E
 |.when c e=>match c,e with
  |true,.d d=>.d d
  |c,e=>.when c e
 |e=>e
def nrm:Env->Env
 | []=>[]
 | (t,e)::r=>(t,ZDE e)::nrm r
def ZiF:∀(H t),ZM (nrm H) t=(ZM H t).map ZDE
 | [],t=>rfl
 | (k,e)::r,t=>by simp[nrm,ZM];split;rfl;exact ZiF r t
def Zu.nrm(m:Zu g Z w tmps H L s):Zu g Z w tmps (nrm H) L s:={
 st:=m.st
 loc:=m.loc
 locKept:=m.locKept
 locSt:=m.locSt
 inj:=m.inj
 env t e h:=by
  rw[ZiF]at h;simp at h;obtain⟨e0,h1,rfl⟩:=h;have u:=m.env t e0 h1;cases e0 with
  |d d=>exact u
  |loc l o=>exact u
  |when c e =>
   cases c with
   |false=>exact u
   |true =>
    cases e with
    |d d=>exact u.1 rfl
    |loc l o=>exact u
    |when c e=>exact u }
def ZsY{P}{F:Fr P}{dk H L s}(h:Zt F dk (nrm H) L s):Zt F dk H L s :=
 λk u g Z w tmps t m=>h k u g Z w tmps t m.nrm
def ZwE{P}{F:Fr P}{H L d s}(h:Y3 F (nrm H) L d s):Y3 F H L d s :=
 λg Z w v t tmps u m hr=>h g Z w v t tmps u m.nrm hr
def ZpV(J:Nm)(H:T W)(ρd:Env):Prop:=∀t x,H.get t=sO (.v x)->∃d,ZM ρd t=sO (.d d)/\VR J x d
section
variable {C:Px} {J:Nm} {U:S} {s:St} {L:Loc} {H:T W} {ρd:Env} {nx:Nat}
def Z5.nrm(h:Z5 J L H ρd):ZpV J H (nrm ρd):=λt x hx=>by
 obtain⟨e,u,d,h2,rfl|rfl⟩:=h t _ hx rfl;exact⟨d,by rw[ZiF,u];rfl,h2⟩;exact⟨d,by rw[ZiF,u];rfl,h2⟩
def ZpV.mono{J'}(h:ZpV J H ρd)(hs:J.Sub J'):ZpV J' H ρd:=λt x hx=>by
 obtain⟨d,u,h2⟩:=h t x hx;exact⟨d,u,h2.mono hs⟩
def ZDS(hS:Sim C J U s)(h1:J 1=sO .full)(hρ:ZpV J H ρd){r v}(h:rvV H U r=sO v):∃p d,Kt ρd [] s r=sO (p,d)/\p/\VR J v d:=by
 have u:∀{t:Nat} {a:V},(YN (.tmp t)).run H=sO a->∃d,ZM ρd t=sO (.d d)/\VR J a d:=λ{t a} ha=>hρ t a (ZBF (x:=H.get t) ha);cases r with
 |tmp t =>obtain⟨d,a1,a2⟩:=u h;exact⟨True,d,by simp[Kt,a1],trivial,a2⟩
 |cell1 t =>simp[rvV]at h;split at h<;>(try(grind;done));rename_i a ha;obtain⟨d,a1,a2⟩:=u ha;obtain⟨side,e,b1,b2,b3⟩:=Zxm (L:=[]) hS h1 (.one a2) h;simp only[ZIQ,ZI9,qv,ZIL,ZIK,E.d.injEq]at b1;obtain⟨x,c1,c2,rfl⟩:=b1;exact⟨True,x,by simp[Kt,a1,c1],trivial,b3⟩
 |cellN t n =>simp[rvV]at h;split at h<;>(try(grind;done));rename_i a ha;obtain⟨d,a1,a2⟩:=u ha;obtain⟨side,e,b1,b2,b3⟩:=Zxm (L:=[]) hS h1 (.one a2) h;simp only[ZIQ,ZI9,qv,ZIL]at b1;obtain⟨x,c1,rfl,rfl⟩:=b1;exact⟨x.1,.agg x.2,by simp[Kt,a1,c1],b2,b3⟩
def Zqv(hS:Sim C J U s)(u:J 1=sO .full)(hρ:ZpV J H ρd):∀{rs vs},ZuA H U rs=sO vs->∃p ds,YD ρd [] s rs=sO (p,ds)/\p/\VRs J vs ds
 | [],vs,h=>by cases h;exact⟨True,[],rfl,trivial,.nil⟩
 |r::rs,vs,h=>by simp[ZuA]at h;split at h<;>(try(grind;done));rename_i v hv;split at h<;>simp at h;rename_i vs' t;subst h;obtain⟨p,d,a1,a2,a3⟩:=ZDS hS u hρ hv;obtain⟨q,ds,b1,b2,b3⟩:=Zqv hS u hρ t;exact⟨p/\q,d::ds,by simp[YD,a1,b1],⟨a2,b2⟩,.cons _ _ _ _ a3 b3⟩
def Zy2{vs}{ds}(h:VRs J vs ds):VR J (mkV vs) (Qb ds):=by
 cases h with
 |nil=>exact .tup _ _ .nil
 |cons v d vs ds h t =>
  cases t with
  |nil=>exact h
  |cons v' d' vs ds h' t=>exact .tup _ _ (.cons _ _ _ _ h (.cons _ _ _ _ h' t))
def Zwl{v d}(h:VR J v d)(t:Zxw v=true):ZfL d:=by
 cases h<;>simp only[Zxw,ZI7]at t<;>simp[ZfL,Zaq];exact Zv0 t;rw[Zag]at t;simpa using t
def ZiY:∀{vs ds},VRs J vs ds->Zl0 vs=true->Zby ds
 | [],_,h,_=>by cases h;trivial
 |v::vs,_,h,hr=>by obtain⟨d,ds,rfl,t,u⟩:=h.inv;simp[Zl0]at hr;exact⟨Zwl t hr.1,ZiY u hr.2⟩
def ZgO(C:Px)(J:Nm)(o:Out)(r:Res)(s:St):Prop :=
 ∃J' d,J.Sub J'/\Yu J' o.nx/\Sim C J' o.U s/\VR J' o.v d/\r=if o.pan then .panic d else .ret d
def ZgO.mono{J' o r}(h:ZgO C J' o r s)(hs:J.Sub J'):ZgO C J o r s:=by
 obtain⟨η2,d,t,u⟩:=h;exact⟨η2,d,hs.trans t,u⟩
inductive DdR(J:Nm):List Dd->List DD->Prop where
 |nil:DdR J [] []
 |mark (q b:Nat) (r:List Dd) (r':List DD) (h:J q=some (.tip b)) (t:DdR J r r'):DdR J (.mark q::r) (.mark b::r')
 |fn (i:FuncId) (a c:List V) (da dc:List D) (r:List Dd) (r':List DD) (ha:VRs J a da) (hc:VRs J c dc) (h1:Zby da) (h2:Zby dc) (t:DdR J r r'):DdR J (.fn i a c::r) (.fn i da dc::r')
def DdR.mono{J'}(hs:J.Sub J'):∀{r r'},DdR J r r'->DdR J' r r'
 |_,_,.nil=>.nil
 |_,_,.mark q b r r' h t=>.mark q b r r' (hs _ _ h) (t.mono hs)
 |_,_,.fn i a c da dc r r' ha hc h1 h2 t=>.fn i a c da dc r r' (ha.mono hs) (hc.mono hs) h1 h2 (t.mono hs)
def FmR(C:Px)(J:Nm)(fm:Fm)(o:Out)(F:Fr C.P):Prop :=
 F.b.fn=fm.f/\F.N=fm.n/\F.an=C.an fm.f/\match fm.k with
  |.fn res=>∃Φ dds,YL F res Φ dds/\DdR J fm.ds dds/\∀r s,ZgO C J o r s->Φ r s
  |.rnd l=>∃b Φ,J l=sO (.tip b)/\K9 F b Φ/\∀r s,ZgO C J o r s->Φ r s
  |.dfd pd rec=>∃m Ψ,Zas F m Ψ rec/\(match pd,m with
    |some v,sO d=>VR J v d
    |none,nO=>True
    |_,_=>False)/\∀s b,o.pan=false->o.v=.bool b->ZgO C J o (.ret (.bool b)) s->Ψ b s
end
section
variable {P:Program}
def Zr4{an l N r s da db args Φ}(hs:s l=sO (.loop r .ready))(hlen:I args=I r.params)(ha:cc P an N r.assign=sO da)(hb:cc P an N r.body=sO db)(hN:r.N=N)(hp:∀t∈r.params,t<N)(h:∀F:Fr P,K9 F l Φ->F.b.fn=r.fn->F.N=N->F.an=an->Zt F [.code da,.beginR,.code db] (WN r.params args r.H) [] s):WP P (.fn (.yield l) [] []) args s Φ:=by
 intro g w fv vs ac hf u;cases hf with
 |fn _ fs ad _ _ hn1 hn2 h1 h2 =>
 obtain rfl:fs=[]:=by simpa using hn1
 obtain⟨hp0,l0,a1,a2,a3,a4,a5,a6,a7,a8,a9,a10⟩:=ac.obj l _ hs;have ab:vs.toArray.size=l0.params.size:=by
  have e1:=u.len;have e2:I l0.params.toList=I r.params:=by rw[a3]
  simp at e2⊢;omega
 refine⟨_,_,_,by simp[Deferred.ofValue];rfl,by simp[invoke,Instr.yield,Instr.getLoop,Je a1,ab];rfl,rfl,λc cs=>?_⟩;have M:Zu g (λ_=>0) w l0.tmps r.H [] s:=⟨ac,λl cs h=>by simp[Zh]at h,λl cs h=>by simp[Zh]at h,λl cs h=>by simp[Zh]at h,λl l' cs ad h=>by simp[Zh]at h,a8⟩;obtain⟨ae,M'⟩:=ZiU M u hlen (by rw[hN]at *;exact hp) (by rw[<-hN];exact a7);have:=h (Zbb P an r.fn N l c cs Φ) ⟨an,r.fn,N,c,cs,rfl⟩ rfl rfl rfl [.code r.assign,.beginRound,.code r.body] (.code ha (.beginR (.code hb .nil))) g (λ_=>0) w _ ae M';have af:(Zbb P an r.fn N l c cs Φ).b.atR { tmps:=(r.params.zip vs).foldl (λtmps (x:Nat×Value)=>tmps.setIfInBounds x.1 x.2) l0.tmps,defers:=[] } [.code r.assign,.beginRound,.code r.body] =
   Frame.round l l0.fn ((l0.params.zip vs.toArray).foldl (λtmps (x:Nat×Value)=>tmps.setIfInBounds x.1 x.2) l0.tmps) l0.assign l0.body .normal:=by
  simp only[Frame.atR,a2,a4,a5,<-a3]
  congr 1
  rw[<-Array.foldl_toList];simp
 have e:(Zbb P an r.fn N l c cs Φ).ds=[]:=rfl;rw[e,af]at this;have e2:(l0.params.zip vs.toArray).size=l0.params.size:=by simp at ab⊢;omega
 rw[e2]at this;exact this
def Zr2{an i df}(hf:cf P an i=sO df)(hres:df.res=[]){args m s Ψ}(hm:∀d,m=sO d->ZkK d)(h:∀F:Fr P,Zas F m Ψ false->F.b.fn=i->F.N=df.n->F.an=an->Zt F [.code df.body] (Qa 0 args) [] s):JV P i args m s Ψ:=by
 have ai:=hf;unfold cf at hf;split at hf<;>(try(grind;done));rename_i fn ae;split at hf<;>(try(grind;done));rename_i c hc;split at hf<;>(try(grind;done));rename_i ac;split at hf<;>simp at hf;rename_i rs d hrs hd;subst hf;refine⟨⟨fn,ae,by simp[hc],by simpa using ac⟩,λg w vs t cs hs ha u=>?_⟩;obtain⟨v,af,aj⟩:∃v,t.mode=Q6 m v false/\∀d,m=sO d->∀g w,Rep g w v d:=by
  cases m with
  |none=>exact⟨undef,u,λd hd=>by simp at hd⟩
  |some d =>obtain⟨v,h1,h2⟩:=u;obtain⟨v',r1,r2⟩:=ZrQ (hm d rfl);have:=r2 g w v h2;subst this;exact⟨v,h1,λd' ad=>by simp at ad;subst ad;exact r1⟩
 have ag:({ t with mode:=Q6 m v false }:Frame)=t:=by rw[<-af]
 have ab:Frame.enter P i vs.toArray .deferred=(Y8 P an i fn.ntmps t cs Ψ m v false).b.atR { tmps:=vs.toArray++Array.replicate (fn.ntmps-I vs) undef,defers:=[] } [.code c]:=by simp[Frame.enter,Frame.atR,ae,hc,Y8]
 have:=h _ ⟨an,i,_,t,cs,v,ai,hres,af,aj,rfl⟩ rfl rfl rfl [.code c] (.code hd .nil) g (λ_=>0) w (vs.toArray++Array.replicate (fn.ntmps-I vs) undef) (by simp[Y8];omega) (Zg9 hs ha);obtain⟨g',w',s',b,a1,a2,a3,a4⟩:=this;refine⟨g',w',s',b,a1,a2,a3,?_⟩;rw[ab];have ah:(Y8 P an i fn.ntmps t cs Ψ m v false).cs=t::cs:=by simp[Y8,ag]
 rw[ah]at a4;exact a4
def ZuT{an f df}(t:cf P an f=sO df){args s Φ}(h:∀F:Fr P,YL F df.res Φ []->F.b.fn=f->F.N=df.n->F.an=an->Zt F [.code df.body] (Qa 0 args) [] s):Za P f args s Φ :=
 Zjv t λu=>h _ ⟨an,f,df,u,t,rfl,rfl⟩ rfl rfl rfl
end
def ZzR(C:Px)(ih:Ih):Prop:=∀fm dk H U nx o,ih fm dk H U nx=sO o->∀(F:Fr C.P) J ρd s,FmR C J fm o F->Z5 J [] H ρd->Yu J nx->Sim C J U s->Zt F dk ρd [] s
def Jm(C:Px)(ih:Ih):Prop:=∀t,ZzR ⟨C.toCx,t⟩ ih
def Jm.at{C ih}(h:Jm C ih):ZzR C ih:=h C.t
def Znb(J:Nm):Option V->Option D->Prop
 |some v,sO d=>VR J v d
 |none,nO=>True
 |_,_=>False
section
variable {C:Px} {ih:Ih}
def ZBi{J m md}(h:Znb J m md)(hr:Zxv m=true):∀d,md=sO d->ZkK d:=λd hd=>by
 subst hd;cases m with
 |none=>exact h.elim
 |some v =>have hv:VR J v d:=h;cases hv<;>simp[Zxv]at hr;rename_i t v d hv;have u:=hv;cases hv<;>first|exact ZiY (by assumption) hr|exact Zwl u hr
def Zh1(hih:Jm C ih):∀{ds m U nx m' U' nx'},Zn0 C ih ds m U nx=sO (m',U',nx')->∀{J dds md s},DdR J ds dds->Yu J nx->Sim C J U s->Znb J m md ->
  ∀{Ψ},(∀J' md' s',J.Sub J'->Yu J' nx'->Sim C J' U' s'->Znb J' m' md'->Ψ md' s')->Unw C.P dds md s Ψ
 | [],m,U,nx,m',U',nx',h,J,dds,md,s,hd,hN,hS,hm,Ψ,hΨ=>by cases h;cases hd;exact hΨ J md s (Nm.Sub.refl _) hN hS hm
 |.mark q::r,m,U,nx,m',U',nx',h,J,dds,md,s,hd,hN,hS,hm,Ψ,hΨ=>by
  simp only[Zn0]at h;split at h<;>(try(simp at h;done));rename_i hq;cases hd with
  |mark _ b _ r' hb t =>obtain⟨b',d,e0,e1,e2⟩:=hS.get hq (λn=>by simp);rw[hb]at e0;cases e0;cases e2;exact⟨e1,Zh1 hih h t hN (hS.take hq hb) hm hΨ⟩
 |.fn i args caps::r,m,U,nx,m',U',nx',h,J,dds,md,s,hd,hN,hS,hm,Ψ,hΨ=>by
  simp only[Zn0]at h;split at h<;>(try(simp at h;done));rename_i n body ac;obtain⟨hr,hh⟩:=ZD h;replace h:=hh;clear hh;split at h<;>(try(simp at h;done));rename_i b σ1 nx1 ab;cases hd with
  |fn _ _ _ da dc _ r' ha hc h1 h2 t =>
   refine⟨h1,h2,Zr2 (an:=C.an i) ac rfl (ZBi hm hr) λF hF e1 e2 e3=>?_⟩;refine hih.at _ _ _ _ _ _ ab F J _ s ⟨e1,e2,e3,md,_,hF,hm,?_⟩ (ZyR (ha.append hc)) hN hS;intro s1 b1 _ u hp;obtain⟨η1,d,g1,g2,g3,g4,g5⟩:=hp;simp only[V.bool.injEq]at u;subst u;exact Zh1 hih h (t.mono g1) g2 g3 (by
    cases b with
    |true=>trivial
    |false =>
     cases m<;>cases md<;>first|trivial|exact hm.elim|exact VR.mono g1 hm) λη2 ad s2 k1 k2 k3 k4=>hΨ η2 ad s2 (g1.trans k1) k2 k3 k4
end
def ZEn(C:Cx)(r:Zb8)(st:Option DC)(busy:Bool)(lst:LSt):Prop:=match st,busy,lst with
 |none,false,.ready=>True
 |none,true,.busy=>True
 |some dj,false,.done j=>cc C.P (C.an r.fn) r.N j=sO dj
 |_,_,_=>False
section
variable {C:Px} {ih:Ih} {J:Nm} {U:S} {s:St} {H:T W} {ρd:Env} {nx:Nat}
def Zkn(hS:Sim C J U s){l b}(hb:J l=sO (.tip b)){st now busy U'}(h:loopTo U l st now busy=sO U'):
  ∃r lst,s b=sO (.loop r lst)/\(now=false->lst=.ready)/\(now=true->lst=.busy)/\∀lst',ZEn C r st busy lst'->Sim C J U' (s.upd b (.loop r lst')):=by
 unfold loopTo at h;split at h<;>(try(grind;done));rename_i f n ps a b0 ρ0 bs hl;obtain⟨ac,hh⟩:=ZD h;replace h:=hh;clear hh;cases h;obtain⟨b',d,e0,e1,e2⟩:=hS.get hl (λn=>by simp);rw[hb]at e0;cases e0;have u:bs=now:=by simpa using ac
 subst u;cases e2 with
 |loop _ _ _ _ _ _ _ _ r lst hf hn hps hlt ha hbb hρ hst =>
  subst hf;subst hn;refine⟨r,lst,e1,λt=>?_,λt=>?_,λlst' ab=>hS.upd hl hb (.loop _ _ _ _ _ _ _ _ r lst' rfl rfl hps hlt ha hbb hρ ?_)⟩;subst t;cases lst<;>first|rfl|exact hst.elim
  subst t;cases lst<;>first|rfl|exact hst.elim
  cases st<;>cases busy<;>cases lst'<;>exact ab
def Zwk(hih:Jm C ih){fm fell o}(h:Zxu C ih fm H U nx fell=sO o){F}(hF:FmR C J fm o F)(hρ:Z5 J [] H ρd)(hN:Yu J nx)(hS:Sim C J U s):
  (fell=true->Zt F [] ρd [] s)/\(fell=false->∀dk,Zt F (.code .ret::dk) ρd [] s):=by
 obtain⟨_,_,_,hk⟩:=hF;unfold Zxu at h;split at h
 .rename_i res t;rw[t]at hk;obtain⟨Φ,ab,hI,ac,hΦ⟩:=hk;split at h<;>(try(grind;done));rename_i σ1 nx1 hu;split at h<;>simp at h;rename_i vs ad;subst h;have hU:Unw C.P ab nO s (ZlA (nrm ρd) [] res Φ):=Zh1 hih hu ac hN hS (md:=nO) trivial λη1 ae s1 k1 k2 k3 k4=>by
   cases ae with
   |some d=>exact k4.elim
   |none =>obtain⟨p,ds,g1,g2,g3⟩:=Zqv k3 k2.o (hρ.nrm.mono k1) ad;exact⟨p,ds,_,s1,g1,g2,ZIB _,ZIz,hΦ _ _ ⟨η1,_,k1,k2,k3,Zy2 g3,rfl⟩⟩
  exact⟨λ_=>ZsY (hI.finU hU),λ_ dk=>ZsY (hI.retU hU)⟩
 rename_i l t;rw[t]at hk;obtain⟨b,Φ,hb,hI,hΦ⟩:=hk;split at h<;>simp at h;rename_i σ1 hl;subst h;obtain⟨r,lst,e1,_,e2,e3⟩:=Zkn hS hb hl;obtain rfl:=e2 rfl;refine⟨λhf=>?_,λhf dk=>?_⟩;subst hf;exact hI.fin e1 ZIz (hΦ _ _ ⟨J,_,Nm.Sub.refl _,hN,e3 .ready trivial,.bool true,rfl⟩);subst hf;exact hI.ret e1 ZIz (hΦ _ _ ⟨J,_,Nm.Sub.refl _,hN,e3 (.done .ret) rfl,.bool false,rfl⟩);rename_i pd rec t;rw[t]at hk;obtain⟨m,Ψ,hI,hm,hΨ⟩:=hk;split at h<;>cases h;have u:pd.isNone=m.isNone:=by cases pd<;>cases m<;>first|rfl|exact hm.elim
 have hq:Ψ (m.isNone ||rec) s:=hΨ s _ rfl (by simp[u]) ⟨J,_,Nm.Sub.refl _,hN,hS,by rw[u];exact .bool _,rfl⟩;exact⟨λ_=>hI.fin ZIz hq,λ_ dk=>hI.ret ZIz hq⟩
def ZhM(hih:Jm C ih){fm v d o}(h:ZnM C ih fm H v U nx=sO o){F}(hF:FmR C J fm o F)(hρ:Z5 J [] H ρd)(hN:Yu J nx)(hS:Sim C J U s)(hv:VR J v d):Y3 F ρd [] d s:=by
 obtain⟨af,_,_,hk⟩:=hF;unfold ZnM at h;split at h
 .rename_i res t;rw[t]at hk;obtain⟨Φ,dds,hI,ab,hΦ⟩:=hk;refine ZwE (hI.panU ?_);split at h<;>(try(grind;done))
  .rename_i σ1 ah hu;split at h<;>simp at h;rename_i vs ag;subst h;exact Zh1 hih hu ab hN hS (md:=sO d) hv λη1 u s1 k1 k2 k3 k4=>by
    cases u with
    |some d=>exact k4.elim
    |none =>obtain⟨p,ds,g1,g2,g3⟩:=Zqv k3 k2.o (hρ.nrm.mono k1) ag;exact⟨p,ds,_,s1,g1,g2,ZIB _,ZIz,hΦ _ _ ⟨η1,_,k1,k2,k3,Zy2 g3,rfl⟩⟩
  rename_i v1 σ1 ah hu;cases h;exact Zh1 hih hu ab hN hS (md:=sO d) hv λη1 u s1 k1 k2 k3 k4=>by
   cases u with
   |none=>exact k4.elim
   |some d1=>exact⟨d1,s1,ZIB _,ZIz,hΦ _ _ ⟨η1,d1,k1,k2,k3,k4,rfl⟩⟩
 rename_i l t;rw[t]at hk;obtain⟨b,Φ,hb,hI,hΦ⟩:=hk;split at h<;>simp at h;rename_i ad ac;subst h;refine hI.pan ZIz (hΦ _ _ ⟨J,d,Nm.Sub.refl _,hN,hS,hv,rfl⟩) λan fn N c cs ae=>?_;subst ae;have:fn=fm.f:=af;rw[this];exact⟨ad,ac⟩;grind
end
section
variable {P:Program}
def ZuU{F:Fr P}{d Ψ}(hF:Zas F (sO d) Ψ false){kp dk o os H L s}(hg:o.guard=nO)(hk:o.k=.recover)(h:∀F':Fr P,Zas F' (sO d) Ψ true->F'.b=F.b->F'.N=F.N->F'.an=F.an->DO F' kp dk os (Zx H o.dst (.d d)) L s):DO F kp dk (o::os) H L s:=by
 obtain⟨an,f,df,t,cs,v,hf,aj,ad,ab,rfl⟩:=hF;refine Y7 λoo g Z w tmps u j r k ai ac al ag hd hN m hr am=>?_;have hw:=Z7 m al (c:=true) (by rw[hg];rfl);have ao:=Yb ac (by rw[hk];rfl);rw[hk]at ac;obtain⟨args,ats,ap⟩:=Zio ac;have ak:(execOp (Act.mk tmps []).eval oo).run P w=.ok .recover w:=by simp[execOp,ap,resolve,invoke,builtin]
 have ae:_root_.Go.step P (lone ((Y8 P an f df.n t cs Ψ (sO d) v false).b.atR ⟨tmps,[]⟩ (.inRegion u (j::r)::k)) (Y8 P an f df.n t cs Ψ (sO d) v false).cs w) =
   .next (lone ((Y8 P an f df.n t cs Ψ (sO d) v true).b.atR ((Act.mk tmps []).put oo.dst v) (.inRegion u r::k)) (Y8 P an f df.n t cs Ψ (sO d) v true).cs w):=by
  refine step_lone_go ?_;rw[stepGR_op ai hw,Oper.semAt_eq _ _ _ ao];have ah:((Y8 P an f df.n t cs Ψ (sO d) v false).b.atR ⟨tmps,[]⟩ (.inRegion u (j::r)::k)).finish v=(Y8 P an f df.n t cs Ψ (sO d) v true).b.atR ((Act.mk tmps []).put oo.dst v) (.inRegion u r::k):=by rw[Frame.finish_atR,ai];rfl
  rw[<-ah];simp[stepG.apply,ak,Frame.atR,Y8,tryRecover,Q6]
 refine(ZeY P t cs Ψ).back _ _ _ _ (.one ae) ?_;obtain⟨af,e1,e2,m'⟩:=ZfJ m hN hd (v:=v) (e:=.d d) (ab d rfl g w) [];rw[ag,e1];exact h _ ⟨an,f,df,t,cs,v,hf,aj,ad,ab,rfl⟩ rfl rfl rfl u r k hr am g Z w af e2 m'
end
def WR.val{J L v d}(h:VR J v d):WR J L (.v v) (.d d):=⟨d,h,.inl rfl⟩
def WR.skp{J L}:WR J L .skip (.when false (.d (.bool false))):=rfl
def ZsO(J:Nm)(U:S)(s:St):Prop:=∀(k b:Nat) (vs:List V),ZaW (U.get k)=sO vs->J k=sO (.tip b)->∃ds ex,s b=sO (.cells (ds++ex))/\VRs J vs ds
def QY(C:Px):Prop:=∀f g U vs v,C.lib f=sO g->g U vs=sO v->∀(J:Nm) ds s,VRs J vs ds->ZsO J U s->∃d,VR J v d/\Za C.P f ds s λr s'=>r=.ret d/\s'=s
section
variable {C:Px} {ih:Ih} {J:Nm} {U:S} {s:St} {H:T W} {ρd:Env} {nx:Nat}
def Znb.mono{J'}(t:J.Sub J'){a b}(h:Znb J a b):Znb J' a b:=by
 cases a<;>cases b<;>first|trivial|exact h.elim|exact VR.mono t h
def FmR.mono{J'}(u:J.Sub J'){fm o F}(h:FmR C J fm o F):FmR C J' fm o F:=by
 obtain⟨h1,h2,h3,h4⟩:=h;refine⟨h1,h2,h3,?_⟩;split at h4;obtain⟨Φ,t,a,b,c⟩:=h4;exact⟨Φ,t,a,b.mono u,λr s hp=>c r s (hp.mono u)⟩;obtain⟨b,Φ,a,c,d⟩:=h4;exact⟨b,Φ,u _ _ a,c,λr s hp=>d r s (hp.mono u)⟩;obtain⟨m,Ψ,a,c,d⟩:=h4;exact⟨m,Ψ,a,Znb.mono u c,λs b e1 e2 hp=>d s b e1 e2 (hp.mono u)⟩
def Ztl(u:Jm C ih){f args ds o}(h:(Zsz C f).run ih args U nx=sO o)(ha:VRs J args ds)(hN:Yu J nx)(hS:Sim C J U s):Za C.P f ds s (ZgO C J o):=by
 unfold Zsz at h;split at h;rename_i df t;exact ZuT (an:=C.an f) t λF hI e1 e2 e3=>u.at _ _ _ _ _ _ h F J _ s ⟨e1,e2,e3,_,[],hI,.nil,λ_ _ h=>h⟩ (ZyR ha) hN hS;grind
def Znl(u:QY C)(t:Jm C ih){f args ds o}(h:(Zik C f).run ih args U nx=sO o)(ha:VRs J args ds)(hN:Yu J nx)(hS:Sim C J U s):Za C.P f ds s (ZgO C J o):=by
 unfold Zik at h;split at h;rename_i g hg;simp only at h;split at h;simp at h;rename_i v hv;subst h;obtain⟨d,h1,h2⟩:=u f g U args v hg hv J ds s ha λ_ _ _ h hb=>hS.cells h hb;exact h2.mono λr s' ⟨e1,e2⟩=>by subst e1;subst e2;exact⟨J,d,Nm.Sub.refl _,hN,hS,h1,rfl⟩
 exact Ztl t h ha hN hS;exact Ztl t h ha hN hS
def Znm(hlib:QY C)(u:Jm C ih){fv args fd ds o}(h:Zoj C ih fv args U nx=sO o)(hf:VR J fv fd)(ha:VRs J args ds)(hN:Yu J nx)(hS:Sim C J U s):WP C.P fd ds s (ZgO C J o):=by
 cases hf<;>simp only[Zoj,reduceCtorEq]at h;case fn f a c da dc h1 h2 =>refine Za.V (Znl hlib u h ?_ hN hS);rw[ZI1];exact h1.append (ha.append h2)
 case yield l b hb =>
  split at h<;>(try(simp at h;done));rename_i f n ps a b0 ρ0 hl;obtain⟨t,hh⟩:=ZD h;replace h:=hh;clear hh;rw[Z1]at t;obtain⟨b',d,e0,e1,e2⟩:=hS.get hl (λn=>by simp);rw[hb]at e0;cases e0;cases e2 with
  |loop _ _ _ _ _ _ _ _ r lst hf hn hps hlt hca hcb hρ hst =>
   subst hf;subst hn;subst hps;have hr:lst=.ready:=by cases lst<;>first|rfl|exact hst.elim
   subst hr;refine Zr4 (an:=C.an r.fn) e1 (by rw[<-ha.len];exact t) hca hcb rfl hlt λF hI e2 e3 e4=>?_;exact u.at _ _ _ _ _ _ h F J _ s ⟨e2,e3,e4,b,_,hb,hI,λ_ _ h=>h⟩ (ZrM hρ ha) hN hS
def Zx6(C:Px)(ih:Ih)(rest:Bx Rg)(dk:List WY)(os:List DOp):Prop :=
 ∀fm H U nx o,rest.run ih dk fm H U nx=sO o->∀(F:Fr C.P) J ρd s,FmR C J fm o F->Z5 J [] H ρd->Yu J nx->Sim C J U s->DO F nO dk os ρd [] s
def ZyO(hlib:QY C)(hih:Jm C ih){rest dk os}(hrest:Zx6 C ih rest dk os){fm f dst g k}(hfk:Zku k=true){o}(h:(goF C f rest dst g k).run ih dk fm H U nx=sO o){F}(hg:Zj ρd g=sO true)(hF:FmR C J fm o F)(hρ:Z5 J [] H ρd)(hN:Yu J nx)(hS:Sim C J U s):DO F nO dk (⟨dst,g,k⟩::os) ρd [] s:=by
 have ag:∀{k:K},Zku k=true->(gk k ||g.isNone)=true->(match (opF (C.mu f dst) dst.isSome k).run H U nx with
   |some ⟨v,U',ae⟩=>rest.run ih dk fm ((ZcR dst).run H (.v v)) U' ae
   |none=>nO)=sO o->DO F nO dk (⟨dst,g,k⟩::os) ρd [] s:=by
  intro k hfk ac h;split at h<;>(try(simp at h;done));rename_i v U' ae ai;exact ZEj hS hN hρ hg ac hfk ai λJ' e s2 k1 k2 k3 k4=>hrest _ _ _ _ _ h F J' _ s2 (hF.mono k1) (JH (hρ.mono k1) k4 dst) k2 k3
 cases k;case call fx xs =>
  simp only[goF]at h;split at h<;>(try(simp at h;done));rename_i fv ab;split at h<;>(try(simp at h;done));rename_i vs ad;split at h<;>(try(simp at h;done));rename_i pan v U' ae u;obtain⟨p,fd,a1,a2,a3⟩:=KE hρ ab;obtain⟨q,ds,b1,b2,b3⟩:=ZaH hρ ad;have hV:=Znm hlib hih u a3 b3 hN hS;refine ZbL hg rfl a1 b1 (ZaO ds) b2 a2 hV (λd s' hp=>?_) (λd s' hp=>?_)
  .obtain⟨η1,d1,k1,k2,k3,k4,k5⟩:=hp;cases pan with
   |true=>simp at k5
   |false =>cases k5;exact hrest _ _ _ _ _ h F η1 _ s' (hF.mono k1) (JH (hρ.mono k1) (WR.val k4) dst) k2 k3
  obtain⟨η1,d1,k1,k2,k3,k4,k5⟩:=hp;cases pan with
  |false=>simp at k5
  |true =>cases k5;exact ZhM hih h (hF.mono k1) (hρ.mono k1) k2 k3 k4
 case panic x =>
  simp only[goF]at h;split at h<;>(try(simp at h;done));rename_i t v hv;obtain⟨p,d,a1,a2,a3⟩:=KE hρ hv;cases a3 with
  |iface _ _ d hd=>exact Zm9 hg rfl a1 a2 (ZhM hih h hF hρ hN hS (.iface _ _ _ hd))
 case defer fx xs =>
  simp only[goF]at h;split at h
  .simp only at h;split at h<;>(try(simp at h;done));rename_i j first caps vs ab ad
   split at h<;>(try(simp at h;done));rename_i res hk;obtain⟨hr,hh⟩:=ZD h;replace h:=hh;clear hh;simp only[ZIJ]at hr;obtain⟨p,fd,a1,a2,a3⟩:=KE hρ ab;obtain⟨q,ds,b1,b2,b3⟩:=ZaH hρ ad;cases a3 with
   |fn _ _ _ da dc h1 h2 =>obtain⟨f1,f2,f3,f4⟩:=hF;rw[hk]at f4;obtain⟨Φ,dds,hI,hd,hΦ⟩:=f4;have r1:=ZiY (h1.append b3) hr.1;have r2:=ZiY h2 hr.2;refine Zm8 hI.roundOf rfl rfl rfl a1 b1 (ZaO ds) b2 a2 r1 r2 (hrest _ _ _ _ _ h _ J _ s ⟨f1,f2,f3,?_⟩ hρ hN hS);simp only[hk];exact⟨Φ,_,hI.defer j (da++ds) dc,.fn _ _ _ _ _ _ _ (h1.append b3) h2 r1 r2 hd,hΦ⟩
  simp at h
 case recover =>
  simp only[goF]at h;split at h
  .simp only at h;obtain⟨f1,f2,f3,f4⟩:=hF;split at h
   .rename_i v hk;rw[hk]at f4;obtain⟨m,Ψ,hI,hm,hΨ⟩:=f4;cases m with
    |none=>exact hm.elim
    |some d =>refine ZuU hI rfl rfl λF' ah e1 e2 e3=>hrest _ _ _ _ _ h F' J _ s ⟨by rw[e1];exact f1,by rw[e2];exact f2,by rw[e3];exact f3,?_⟩ (JH hρ (WR.val hm) dst) hN hS;exact⟨sO d,Ψ,ah,hm,hΨ⟩
   .rename_i rec hk;have af:=f4;rw[hk]at f4;obtain⟨m,Ψ,hI,hm,hΨ⟩:=f4;cases m with
    |some d=>exact hm.elim
    |none=>exact ZgN hI rfl rfl (hrest _ _ _ _ _ h F J _ s ⟨f1,f2,f3,af⟩ (JH hρ (WR.val .niliface) dst) hN hS)
   simp at h
  simp at h
 all_goals
  simp only[goF]at h;split at h;rename_i ac;exact ag hfk ac h;simp at h
def Zwj(t:QY C)(u:Jm C ih){dk f}:∀{os},(os.all λo=>Zku o.k)=true->Zx6 C ih (Zqt C f os) dk os
 | [],_=>λfm H U nx o h F J ρd s hF hρ hN hS=>Ze8 (u.at _ _ _ _ _ _ h F J ρd s hF hρ hN hS)
 |⟨dst,g,k⟩::os,hfk=>λfm H U nx o h F J ρd s hF hρ hN hS=>by simp only[List.all_cons,ZIJ]at hfk;have IH:=Zwj t u (dk:=dk) (f:=f) hfk.2;simp[Zqt]at h;split at h;exact ZyO t u IH hfk.1 h rfl hF hρ hN hS;simp only at h;split at h<;>(try(grind;done));rename_i b hb;have hg:=Zrs hρ hb;split at h;exact ZyO t u IH hfk.1 h hg hF hρ hN hS;exact Jw (e:=.d (.bool false)) hg (IH _ _ _ _ _ h F J _ s hF (JH hρ WR.skp dst) hN hS)
end
section
variable {P:Program}
def Zs0{F:Fr P}(hr:F.b.roundOf=nO){o ps da db dk H L s p fv}(hf:ZC H true o=sO (p,.d fv))(hp:p)(ks)(hks:(Yn H ks).map (·.1) |>.Nodup)(h:∀q l r,s q=nO->s l=nO->q≠l->r.H=Ki ks H->r.params=ps->r.fn=F.b.fn->cc P F.an F.N r.assign=sO da->cc P F.an F.N r.body=sO db->r.N=F.N->(∀t∈ps,t<F.N) ->
   ∃Ψ,WP P fv [.fn (.yield l) [] []] ((s.upd q .dfr).upd l (.loop r .ready)) Ψ/\(∀d s',Ψ (.ret d) s'->∃r',ZjF (F.mark q) l r' dk H L s')/\(∀d s',Ψ (.panic d) s'->Y3 (F.mark q) H L d s')):
  Zt F (.code (.rangeF o ps da db)::dk) H L s:=by
 intro k hk;cases hk with
 | @code _ _ kt _ hc ht =>
 obtain⟨f',am,a',b',rfl,au,az,ha,hb,ax⟩:=Zq8 hc;intro g Z w tmps hN m;have av:Rep g w _ fv:=ZY m au rfl hf hp F.ds;have ai:=J2 (g:=g) (w:=w) (.deferred (sO [])) m.st.fresh;have ag:=ai.ext m.st.fresh;obtain⟨hq,m1⟩:=m.newObj ai (o:=.dfr) ⟨(m.st.fresh _ (ZIO _)).1,Kk w⟩;let w1:=w.alloc (.deferred (sO []));let lp:Go.Loop:={ state:=.ready,pending:=nO,fn:=F.b.fn,tmps:=tmps,params:=am,assign:=a',body:=b',defers:=w.heap.size };let r:Zb8:={ fn:=F.b.fn,params:=ps,assign:=a',body:=b',defers:=w.heap.size,H:=Ki ks H,N:=F.N };have aj:=J2 (g:=g) (w:=w1) (.loop lp) m1.st.fresh;have ae:=aj.ext m1.st.fresh;obtain⟨hl,m2⟩:=m1.newObj aj (o:=.loop r .ready) ⟨(m1.st.fresh _ (ZIO _)).1,lp,Kk w1,rfl,az,rfl,rfl,rfl,hN,λt e ar=>by
  obtain⟨h1,h2⟩:=ZeG hks ar;exact Zph (((m1.env t e (ZdY H ks t e h1))).mono ae) h2,rfl,rfl⟩
 have hqsz:w1.heap.size=w.heap.size+1:=by simp[w1]
 have aw:s w1.heap.size=nO:=by have ay:¬w1.heap.size=w.heap.size:=ω;have h0:(s.upd w.heap.size .dfr) w1.heap.size=nO:=hl;simp[ZJc,ay]at h0;exact h0
 obtain⟨Ψ,hV,al,ak⟩:=h w.heap.size w1.heap.size r hq aw ω rfl rfl rfl ha hb rfl ax;have af:Rep g (w1.alloc (.loop lp)) _ fv:=(av.mono ag).mono ae;obtain⟨d,nx,fr,ao,ap,aq,hC⟩:=hV (Zgd g Z L) (w1.alloc (.loop lp)) _ [.func (.yield w1.heap.size) #[] #[]] m2.callSt (Wu af rfl) (.cons (.fn (.yield w1.heap.size) [] [] [] [] rfl rfl ψ ψ) .nil);have ad:(Instr.enterLoop F.b.fn tmps am a' b' F.b.roundOf).run P w=.ok (w1.heap.size,[{ target:=.collected w.heap.size,args:=#[] }]) (w1.alloc (.loop lp)):=by rw[hr];simp[Instr.enterLoop,w1,lp]
 have ac:=ZhX (P:=P) (b:=F.b) (a:=⟨tmps,F.ds⟩) (k:=kt) (cs:=F.cs) ad ao ap aq;obtain⟨e,w',⟨g',s',res,x1,x2,x3,x4⟩,u⟩:=hC (F.b.atR { tmps:=tmps,defers:=[{ target:=.collected w.heap.size,args:=#[] }]++F.ds } (.inRangeFunc w1.heap.size::kt)) F.cs;obtain⟨ah,hm⟩:=m2.afterCall x1 x2;have ab:=(ag.trans ae).trans ah;cases e with
 |returned v =>
  cases res with
  |panic d=>exact x3.elim
  |ret d =>refine F.T.back _ _ _ _ (.head ac u) ?_;exact F.T.ext _ _ _ _ _ ab ((al d s' x4).elim λ_ a0=>Zpf (F:=F.mark w.heap.size) ht hN hm a0)
 |panicked ch =>
  cases res with
  |ret d=>exact x3.elim
  |panic d =>obtain⟨v,rfl,hv⟩:=x3;refine F.T.back _ _ _ _ (.head ac u) ?_;exact F.T.ext _ _ _ _ _ ab (ak d s' x4 _ _ _ v _ _ hN hm (Wu hv rfl))
 |outgrown=>exact u.elim
end
def ZiH{H}:∀{ks t},t∈(Yn H ks).map (·.1)->t∈ks
 | [],t,h=>by cases h
 |k::ks,t,h=>by simp only[Yn]at h;split at h;simp only[ZIQ,ZJd]at h;rcases h with rfl|h;simp;exact List.mem_cons_of_mem _ (ZiH h);exact List.mem_cons_of_mem _ (ZiH h)
def Zg2{H}:∀{ks},ks.Nodup->((Yn H ks).map (·.1)).Nodup
 | [],_=>by simp[Yn]
 |k::ks,h=>by simp at h;simp[Yn];split;simp only[ZIQ,List.nodup_cons];exact⟨λt=>h.1 (ZiH t),Zg2 h.2⟩;exact Zg2 h.2
section
variable {C:Px} {ih:Ih}
def ZsP(C:Px)(ih:Ih)(f:FuncId)(c:DC):Prop :=
 ∀fm k H U nx o,(Zat C f c).run ih fm k H U nx=sO o->fm.f=f->∀(F:Fr C.P) J ρd s,FmR C J fm o F->Z5 J [] H ρd->Yu J nx->Sim C J U s->Zt F (.code c::k) ρd [] s
def Zoc(C:Px)(ih:Ih):Prop:=∀f order ops kp,ZsP C ih f (.regD order ops kp)
def Zzd(hlib:QY C)(hih:Jm C ih){f g ps a b}:ZsP C ih f (.rangeF g ps a b):=by
 intro fm k H U nx o h hf F J ρd s hF hρ hN hS;simp[Zat]at h;split at h<;>(try(grind;done));rename_i res hk;split at h<;>(try(grind;done));rename_i fv ak;split at h<;>(try(grind;done));rename_i pan v U' nx' ac;obtain⟨p,fd,a1,a2,a3⟩:=KE hρ ak;obtain⟨f1,f2,f3,f4⟩:=hF;rw[hk]at f4;obtain⟨Φ,dds,hI,aj,hΦ⟩:=f4;refine Zs0 hI.roundOf a1 a2 Zp1 (Zg2 List.nodup_range) λq l r hq hl ap hr ao hfn ah ai hrN am=>?_;have f0:=hN.free nx (ZIO _);have n1:J.Sub (J.put nx (.tip q)):=Nm.put_sub f0 _;have ae:=hN.put (.tip q);have S1:Sim C (J.put nx (.tip q)) (U.set (sO .dfr) nx) (s.upd q .dfr):=hS.new f0 hq .dfr;have ad:=ae.free (nx+1) (ZIO _);have n2:(J.put nx (.tip q)).Sub ((J.put nx (.tip q)).put (nx+1) (.tip l)):=Nm.put_sub ad _;have ag:=ae.put (.tip l);have al:(s.upd q .dfr) l=nO:=by rw[ZIG s _ (Ne.symm ap)];exact hl
 have S2:=S1.new ad al (o:=.loop fm.f fm.n ps a b H nO false) (d:=.loop r .ready)
  (.loop _ _ _ _ _ _ _ _ r .ready (by simp_all) (by simp_all) ao (by rw[<-f2];exact am) (by rw[<-f3,<-f2];exact ah) (by rw[<-f3,<-f2];exact ai) (by rw[hr];exact(hρ.round.mono n1).mono n2) trivial)
 have hV:=Znm hlib hih ac ((a3.mono n1).mono n2) (.one (.yield _ _ Nm.put_same)) ag S2;have ab:∀{J':Nm},((J.put nx (.tip q)).put (nx+1) (.tip l)).Sub J'->FmR C J' { fm with ds:=.mark nx::fm.ds } o (F.mark q):=λ{J'} hs=>by refine⟨f1,f2,f3,?_⟩;simp[hk];exact⟨Φ,_,hI.mark q,.mark _ _ _ _ (hs _ _ (n2 _ _ Nm.put_same)) (aj.mono (n1.trans (n2.trans hs))),λr s hp=>hΦ r s (hp.mono (n1.trans (n2.trans hs)))⟩
 refine⟨_,hV,λd s' hp=>?_,λd s' hp=>?_⟩
 .obtain⟨η1,d1,k1,k2,k3,k4,k5⟩:=hp;cases pan with
  |true=>grind
  |false =>
   simp only at h;have u:η1 (nx+1)=sO (.tip l):=k1 _ _ Nm.put_same;have af:Z5 η1 [] H ρd:=hρ.mono (n1.trans (n2.trans k1));split at h<;>(try(grind;done))
   .rename_i t;obtain⟨b',dd,e0,e1,e2⟩:=k3.get t (λn=>by simp);rw[u]at e0;cases e0;cases e2 with
    |loop _ _ _ _ _ _ _ _ r' lst hf' hn' hps' hlt' ha' hb' hρ' hst =>
     have aq:lst=.ready:=by cases lst<;>first|rfl|exact hst.elim
     subst aq;exact⟨r',.inl ⟨e1,hih.at _ _ _ _ _ _ h (F.mark q) η1 ρd _ (ab k1) af k2 (k3.take t u)⟩⟩
   rename_i f' n' _ _ _ _ j t;obtain⟨hc,hh⟩:=ZD h;replace h:=hh;clear hh;simp at hc;obtain⟨rfl,rfl⟩:=hc;obtain⟨b',dd,e0,e1,e2⟩:=k3.get t (λn=>by simp);rw[u]at e0;cases e0;cases e2 with
   |loop _ _ _ _ _ _ _ _ r' lst hf' hn' hps' hlt' ha' hb' hρ' hst =>
    cases lst with
    |done j'=>exact⟨r',.inr ⟨j',j,e1,by show cc C.P F.an F.N j'=_;rw[f3,f2];exact hst,hih.at _ _ _ _ _ _ h (F.mark q) η1 ρd _ (ab k1) af k2 (k3.take t u)⟩⟩
    |_=>exact hst.elim
 obtain⟨η1,d1,k1,k2,k3,k4,k5⟩:=hp;cases pan with
 |false=>grind
 |true =>cases k5;exact ZhM hih h (ab k1) (hρ.mono (n1.trans (n2.trans k1))) k2 k3 k4
def ZaM(hlib:QY C)(hih:Jm C ih)(hD:Zoc C ih){f}:∀c,ZsP C ih f c
 |.skip=>λfm k H U nx o h hf F J ρd s hF hρ hN hS=>ZK (hih.at _ _ _ _ _ _ h F J ρd s hF hρ hN hS)
 |.label _=>λfm k H U nx o h hf F J ρd s hF hρ hN hS=>Yx (hih.at _ _ _ _ _ _ h F J ρd s hF hρ hN hS)
 |.seq a b=>λfm k H U nx o h hf F J ρd s hF hρ hN hS=>Zc (ZaM hlib hih hD a _ _ _ _ _ _ h hf F J ρd s hF hρ hN hS)
 |.block id a=>λfm k H U nx o h hf F J ρd s hF hρ hN hS=>Ze (ZaM hlib hih hD a _ _ _ _ _ _ h hf F J ρd s hF hρ hN hS)
 |.loop a=>λfm k H U nx o h hf F J ρd s hF hρ hN hS=>ZaF (ZaM hlib hih hD a _ _ _ _ _ _ h hf F J ρd s hF hρ hN hS)
 |.scope a=>λfm k H U nx o h hf F J ρd s hF hρ hN hS=>Ys (ZaM hlib hih hD a _ _ _ _ _ _ h hf F J ρd s hF hρ hN hS)
 |.cond c a b=>λfm k H U nx o h hf F J ρd s hF hρ hN hS=>by
  simp[Zat]at h;split at h<;>(try(grind;done));rename_i v hv;obtain⟨p,d,a1,a2,a3⟩:=KE hρ hv;cases a3<;>simp at h;rename_i t;cases t with
  |true=>exact Zl a1 a2 (λ_=>ZaM hlib hih hD a _ _ _ _ _ _ h hf F J ρd s hF hρ hN hS) (λh=>by grind)
  |false=>exact Zl a1 a2 (λh=>by grind) (λ_=>ZaM hlib hih hD b _ _ _ _ _ _ h hf F J ρd s hF hρ hN hS)
 |.goto l=>λfm k H U nx o h hf F J ρd s hF hρ hN hS=>by simp[Zat]at h;split at h<;>(try(grind;done));rename_i k' u;exact Zx4 u (hih.at _ _ _ _ _ _ h F J ρd s hF hρ hN hS)
 |.ret=>λfm k H U nx o h hf F J ρd s hF hρ hN hS=>(Zwk hih h hF hρ hN hS).2 rfl k
 |.exit id=>λfm k H U nx o h hf F J ρd s hF hρ hN hS=>by simp[Zat]at h;split at h;rename_i k' u;exact ZT u (hih.at _ _ _ _ _ _ h F J ρd s hF hρ hN hS);rename_i hx;split at h<;>(try(grind;done));rename_i l hk;split at h<;>simp at h;rename_i σ1 hl;subst h;obtain⟨f1,f2,f3,f4⟩:=hF;rw[hk]at f4;obtain⟨b,Φ,hb,hI,hΦ⟩:=f4;obtain⟨r,lst,e1,_,e2,e3⟩:=Zkn hS hb hl;obtain rfl:=e2 rfl;exact hI.exit hx e1 ZIz (hΦ _ _ ⟨J,_,Nm.Sub.refl _,hN,e3 (.done (.exit id)) rfl,.bool false,rfl⟩)
 |.reg ops kp=>λfm k H U nx o h hf F J ρd s hF hρ hN hS=>by simp[Zat]at h;split at h<;>(try(grind;done));split at h<;>(try(grind;done));rename_i ab;exact Zic (Zwj hlib hih ab _ _ _ _ _ h F J ρd s hF hρ hN hS)
 |.regD order ops kp=>hD f order ops kp
 |.rangeF g ps a b=>Zzd hlib hih
def ZCT(hlib:QY C)(u:Jm C ih)(hD:Zoc C ih):ZzR C (step C ih):=by
 intro fm dk H U nx o h F J ρd s hF hρ hN hS;unfold step at h;split at h;exact(Zwk u h hF hρ hN hS).1 rfl;split at h;exact Zr (u.at _ _ _ _ _ _ h F J ρd s hF hρ hN hS);exact Z4 (u.at _ _ _ _ _ _ h F J ρd s hF hρ hN hS);exact Zf (ZaM hlib u hD _ _ _ _ _ _ _ h rfl F J ρd s hF hρ hN hS);·split at h<;>(try(grind;done));rename_i l hk;split at h<;>(try(grind;done));rename_i σ1 hl;have t:=hF;obtain⟨f1,f2,f3,f4⟩:=hF;rw[hk]at f4;obtain⟨b,Φ,hb,hI,hΦ⟩:=f4;obtain⟨r,lst,e1,e2,_,e3⟩:=Zkn hS hb hl;obtain rfl:=e2 rfl;exact hI.begin e1 (u.at _ _ _ _ _ _ h F J ρd _ t hρ hN (e3 .busy trivial))
 exact ZaM hlib u hD _ _ _ _ _ _ _ h rfl F J ρd s hF hρ hN hS
def Zpk{C}(hlib:∀t,QY ⟨C,t⟩)(hD:∀(C':Px) ih,C'.toCx=C->Jm C' ih->Zoc C' ih):∀n t,Jm ⟨C,t⟩ (run C n)
 |0,_=>λ_ fm dk H U nx o h=>by cases h
 |n+1,_=>λt=>ZCT (hlib t) (Zpk hlib hD n t) (hD ⟨C,t⟩ _ rfl (Zpk hlib hD n t))
end
def Zkj{s s' L L'}:∀{B},(∀n b,(n,.blk b)∈B->s' b=s b)->(∀n l,(n,.loc l)∈B->Zh L' l=Zh L l)->K2 s s' L L' B
 | [],_,_=>trivial
 | (n,.blk b)::B,h1,h2=>⟨h1 n b ψ,Zkj (λm b t=>h1 m b (by simp[t])) (λm l u=>h2 m l (by simp[u]))⟩
 | (n,.loc l)::B,h1,h2=>⟨h2 n l ψ,Zkj (λm b t=>h1 m b (by simp[t])) (λm l u=>h2 m l (by simp[u]))⟩
def ZfE{n}:∀{l},Zam n l=true↔n∈l
 | []=>by simp[Zam]
 |a::r=>by simp[Zam,ZfE (l:=r)];constructor;rintro(h|h);exact .inl h.symm;exact .inr h;rintro(h|h);exact .inl h.symm;exact .inr h
def Zgn{fl s s' L L' B}(u:∀n b,n∈fl->(n,.blk b)∈B->s' b=s b)(h2:∀n l,n∈fl->(n,.loc l)∈B->Zh L' l=Zh L l):Wi fl s s' L L' B :=
 Zkj (λn b t=>u n b (ZfE.1 (QH.1 t).1) (QH.1 t).2) (λn b t=>h2 n b (ZfE.1 (QH.1 t).1) (QH.1 t).2)
def Zdn{n}:∀{l},Zg7 n l=true↔n∈l
 | []=>by simp[Zg7]
 |a::r=>by simp only[Zg7];split;rename_i h;rw[Z1]at h;simp[h];rename_i h;have:¬n=a:=λe=>h (by simp_all);rw[Zdn];simp[this]
def Zs8{n m l}(h:m=n\/m∈l):m∈ZzW n l:=by
 unfold ZzW;split;rename_i hm;rcases h with rfl|h;exact Zdn.1 hm;exact h;rcases h with rfl|h<;>simp[*]
def ZfQ{fl n k}(u:n∈fl):∀{l},(n,k)∈l->k∈ZnU fl l
 | [],h=>by grind
 | (t,m)::r,h=>by simp[ZnU];rcases List.mem_cons.1 h with h|h;cases h;rw[if_pos (Zdn.2 u)];exact Zs8 (.inl rfl);split;exact Zs8 (.inr (ZfQ u h));exact ZfQ u h
def Zgm{fl n k}(u:n∈fl):∀{l},(n,k)∈l->(n,k)∈Zgl fl l
 | [],h=>by grind
 | (t,m)::r,h=>by simp[Zgl];rcases List.mem_cons.1 h with h|h;cases h;rw[if_pos (Zdn.2 u)];simp;split;exact List.mem_cons_of_mem _ (Zgm u h);exact Zgm u h
def Zrp{u}:∀{r},Zkb u r=nO->∀x∈r,x.1≠u
 | [],_,x,h=>by grind
 | (t,a)::r,hn,x,h=>by simp only[Zkb]at hn;split at hn;grind;rename_i ht;rcases List.mem_cons.1 h with rfl|h;exact λe=>ht (Z1.2 e);exact Zrp hn x h
def ZnC{u a}:∀{r},Zkb u r=sO a->(u,a)∈r
 | [],h=>by cases h
 | (t,b)::r,h=>by simp only[Zkb]at h;split at h;rename_i ht;rw[Z1]at ht;cases h;subst ht;simp;exact List.mem_cons_of_mem _ (ZnC h)
def ZnD{l vs x}:∀{r},Ky x (Zk3 l vs r)=if x=l then (match Ky l r with
  |some _=>sO vs
  |none=>nO) else Ky x r
 | []=>by simp[Zk3,Ky]
 | (t,c)::r=>by simp[Zk3];by_cases ht:t=l;subst ht;simp_all;simp[Ky];by_cases u:x=t;subst u;simp;simp_all;have:¬Nat.beq t x=true:=λh=>u (Z1.1 h).symm;simp_all;simp_all;simp[Ky];rw[ZnD (r:=r)];by_cases u:x=l;subst u;simp_all;simp[u]
def ZrT{l vs}:∀{r},(Zk3 l vs r).map (·.1)=r.map (·.1)
 | []=>rfl
 | (t,c)::r=>by simp[Zk3];split;simp;simp[ZrT (r:=r)]
def Zrq{l}:∀{r},Ky l r=nO->l∉r.map (·.1)
 | [],_=>by simp
 | (t,c)::r,h=>by simp only[Ky]at h;split at h;grind;rename_i u;simp only[ZIQ,ZJd,not_or];exact⟨λe=>u (Z1.2 e.symm),Zrq h⟩
def Zcg{o}(h:ZkM o=true):ZbS o=false/\∀n,o≠.tok n:=by
 cases o<;>simp[ZkM]at h<;>exact⟨rfl,λn=>by simp⟩
def ZlT:∀{ks U σ0 l},Zkz ks U=sO (σ0,l) ->
  (∀k o,σ0.get k=sO o->(U.get k=sO o/\∀u,(k,u)∉l)\/∃u,o=.ro u/\(k,u)∈l)/\(∀k o,(k,o)∈l->U.get k=sO o/\ZkM o=true)/\∀k∈ks,(∃o,(k,o)∈l)\/∃o,U.get k=sO (.ro o)
 | [],U,σ0,l,h=>by cases h;exact⟨λk o h=>.inl ⟨h,λ_ h=>by simp at h⟩,λk o h=>by simp at h,λk h=>by simp at h⟩
 |k::ks,U,σ0,l,h=>by simp[Zkz]at h;split at h<;>(try(grind;done));rename_i o ho;split at h;rename_i t;split at h<;>simp at h;rename_i U' l' hr;obtain⟨rfl,rfl⟩:=h;obtain⟨h1,h2,h3⟩:=ZlT hr;refine⟨λk' u h=>?_,λk' u h=>?_,λk' h=>?_⟩;rcases h1 k' u h with ⟨h4,h5⟩|⟨o2,rfl,h4⟩;rcases T.get_set h4 with ⟨rfl,h6⟩|⟨h0,h6⟩;simp at h6;exact .inr ⟨o,h6.symm,ψ⟩;refine .inl ⟨h6,λo2 hm=>?_⟩;rcases List.mem_cons.1 hm with hm|hm;simp at hm;exact h0 hm.1;exact h5 o2 hm;exact .inr ⟨o2,rfl,by simp[h4]⟩;rcases List.mem_cons.1 h with h|h;cases h;exact⟨ho,t⟩;obtain⟨h4,h5⟩:=h2 k' u h;rcases T.get_set h4 with ⟨rfl,h6⟩|⟨_,h6⟩;cases h6;cases h5;exact⟨h6,h5⟩;rcases List.mem_cons.1 h with rfl|h;exact .inl ⟨o,ψ⟩;rcases h3 k' h with ⟨u,h⟩|⟨u,h⟩;exact .inl ⟨u,by simp[h]⟩;rcases T.get_set h with ⟨rfl,_⟩|⟨_,h⟩;exact .inl ⟨o,ψ⟩;exact .inr ⟨u,h⟩;split at h<;>(try(grind;done));rename_i t;obtain⟨h1,h2,h3⟩:=ZlT h;refine⟨h1,h2,λk' hk=>?_⟩;rcases List.mem_cons.1 hk with rfl|hk;cases o<;>cases t;exact .inr ⟨_,ho⟩;exact h3 k' hk
def Ztj:∀{l U σ2},ZlD l U=sO σ2->(∀k o,σ2.get k=sO o->(k,o)∈l\/(U.get k=sO o/\∀o',(k,o')∉l))/\∀k o,(k,o)∈l->∃o',U.get k=sO (.ro o')
 | [],U,σ2,h=>by cases h;exact⟨λk o h=>.inr ⟨h,λ_ h=>by simp at h⟩,λk o h=>by simp at h⟩
 | (k',o')::l,U,σ2,h=>by simp[ZlD]at h;split at h<;>(try(grind;done));rename_i o1 ho;split at h<;>simp at h;rename_i U' hb;subst h;obtain⟨h1,h2⟩:=Ztj hb;refine⟨λk o h=>?_,λk o h=>?_⟩;rcases T.get_set h with ⟨rfl,t⟩|⟨h0,t⟩;cases t;exact .inl ψ;rcases h1 k o t with u|⟨u,h5⟩;exact .inl (by simp[u]);refine .inr ⟨u,λo2 hm=>?_⟩;rcases List.mem_cons.1 hm with hm|hm;simp at hm;exact h0 hm.1;exact h5 o2 hm;rcases List.mem_cons.1 h with h|h;cases h;exact⟨o1,ho⟩;exact h2 k o h
section
variable {C:Px} {J J':Nm} {U σ0 U' σ2:S} {s s':St}
def Zs3(C:Px)(J:Nm)(l:List (Nat×O))(s t:St):Prop :=
 (∀b d,C.t b=sO d->t b=sO d)/\(∀k o b,(k,o)∈l->J k=sO (.tip b)->t b=s b)/\∀b d,t b=sO d->C.t b=sO d\/∃k o,(k,o)∈l/\J k=sO (.tip b)
open Classical in
def Sim.lend(hS:Sim C J U s){ks l}(h:Zkz ks U=sO (σ0,l)):∃t,Sim ⟨C.toCx,t⟩ J σ0 s/\Zs3 C J l s t:=by
 obtain⟨h1,h2,_⟩:=ZlT h;have hM:∀b k o,(k,o)∈l->J k=sO (.tip b)->∃d,s b=sO d/\OR C J k o d:=λb k o hm hb=>by obtain⟨g1,g2⟩:=h2 k o hm;obtain⟨b',d,e1,e2,e3⟩:=hS.get g1 (Zcg g2).2;rw[hb]at e1;simp only[ZIx,Tok.tip.injEq]at e1;subst e1;exact⟨d,e2,e3⟩
 have ac:∀k o,σ0.get k=sO o->∃o',U.get k=sO o':=λk o hk=>by rcases h1 k o hk with ⟨g,_⟩|⟨o',_,g⟩;exact⟨o,g⟩;exact⟨o',(h2 k o' g).1⟩
 let t:St:=λb=>if ∃k o,(k,o)∈l/\J k=sO (.tip b) then s b else C.t b
 have u:∀b,(∃k o,(k,o)∈l/\J k=sO (.tip b))->t b=s b:=λb hb=>by simp only[t];rw[if_pos hb]
 have ab:∀b,¬(∃k o,(k,o)∈l/\J k=sO (.tip b))->t b=C.t b:=λb hb=>by simp only[t];rw[if_neg hb]
 have hL:Zs3 C J l s t:=by refine⟨λb d hb=>?_,λk o b hm hb=>u b ⟨k,o,hm,hb⟩,λb d hb=>?_⟩;by_cases hm:∃k o,(k,o)∈l/\J k=sO (.tip b);rw[u b hm];exact(hS.kp b d hb).1;rw[ab b hm];exact hb;by_cases hm:∃k o,(k,o)∈l/\J k=sO (.tip b);exact .inr hm;rw[ab b hm]at hb;exact .inl hb
 refine⟨t,⟨λk o hk=>?_,λk k' o o' b hk ad e e'=>?_,λb d hb=>?_,λk o b hk e=>?_⟩,hL⟩;rcases h1 k o hk with ⟨g,_⟩|⟨o',rfl,g⟩;exact hS.obj k o g;obtain⟨g1,g2⟩:=h2 k o' g;obtain⟨b,d,e1,e2,e3⟩:=hS.get g1 (Zcg g2).2;exact⟨_,e1,.inl ⟨b,d,rfl,e2,.ro o' d e3 (Zcg g2).1 (Zcg g2).2⟩⟩;obtain⟨o1,g1⟩:=ac _ _ hk;obtain⟨o2,g2⟩:=ac _ _ ad;exact hS.inj k k' o1 o2 b g1 g2 e e';have hb:t b=sO d:=hb;by_cases hm:∃k o,(k,o)∈l/\J k=sO (.tip b);refine⟨by rw[<-u b hm];exact hb,λk' o' hk hr e=>?_⟩;obtain⟨k,o,hm,hb⟩:=hm;rcases h1 k' o' hk with ⟨g,g'⟩|⟨o2,rfl,_⟩;have:=hS.inj k k' o o' b (h2 k o hm).1 g hb e;subst this;exact g' o hm;simp[ZbS]at hr;rw[ab b hm]at hb;refine⟨(hS.kp b d hb).1,λk' o' hk hr e=>?_⟩;rcases h1 k' o' hk with ⟨g,_⟩|⟨o2,rfl,_⟩;exact(hS.kp b d hb).2 k' o' g hr e;simp[ZbS]at hr;show ∃d,t b=sO d;rcases h1 k _ hk with ⟨g,_⟩|⟨o',e0,g⟩;obtain⟨d,hd⟩:=hS.ro k o b g e;exact⟨d,hL.1 b d hd⟩;simp only[O.ro.injEq]at e0;subst e0;obtain⟨d,hd,_⟩:=hM b k o g e;exact⟨d,by rw[hL.2.1 k o b g e];exact hd⟩
def Sim.unlend(hS:Sim C J U s){ks l}(h:Zkz ks U=sO (σ0,l)){t}(hL:Zs3 C J l s t)(hs:J.Sub J')(hS':Sim ⟨C.toCx,t⟩ J' U' s')(hb:ZlD l U'=sO σ2):
  Sim C J' σ2 s'/\∀k b,k∈ks->J k=sO (.tip b)->s' b=s b:=by
 obtain⟨h1,h2,h3⟩:=ZlT h;obtain⟨b1,b2⟩:=Ztj hb;obtain⟨l1,l2,l3⟩:=hL;have hM:∀k o b,(k,o)∈l->J k=sO (.tip b)->∃d,s b=sO d/\s' b=sO d/\OR C J k o d:=λk o b hm hb=>by obtain⟨g1,g2⟩:=h2 k o hm;obtain⟨b',d,e1,e2,e3⟩:=hS.get g1 (Zcg g2).2;rw[hb]at e1;cases e1;exact⟨d,e2,(hS'.kp b d (by show t b=_;rw[l2 k o b hm hb];exact e2)).1,e3⟩
 have u:∀k o,σ2.get k=sO o->∃o',U'.get k=sO o':=λk o hk=>by rcases b1 k o hk with g|⟨g,_⟩;obtain⟨o',g⟩:=b2 k o g;exact⟨_,g⟩;exact⟨o,g⟩
 refine⟨⟨λk o hk=>?_,λk k' o o' b hk ac e e'=>?_,λb d hb=>?_,λk o b hk e=>?_⟩,λk b hk hb=>?_⟩;rcases b1 k o hk with g|⟨g,_⟩;obtain⟨g1,g2⟩:=h2 k o g;obtain⟨b,d,e1,e2,e3⟩:=hS.get g1 (Zcg g2).2;obtain⟨d',f1,f2,f3⟩:=hM k o b g e1;exact⟨_,hs _ _ e1,.inl ⟨b,d',rfl,f2,f3.mono hs⟩⟩;exact hS'.obj k o g;obtain⟨o1,g1⟩:=u _ _ hk;obtain⟨o2,g2⟩:=u _ _ ac;exact hS'.inj k k' o1 o2 b g1 g2 e e';obtain⟨e1,e2⟩:=hS'.kp b d (l1 b d hb);refine⟨e1,λk o hk hr e=>?_⟩;rcases b1 k o hk with g|⟨g,_⟩;exact(hS.kp b d hb).2 k o (h2 k o g).1 hr (hS.name hs (h2 k o g).1 e);exact e2 k o g hr e;rcases b1 k _ hk with g|⟨g,g'⟩;have:=(h2 k _ g).2;simp[ZkM]at this;obtain⟨d,hd⟩:=hS'.ro k o b g e;rcases l3 b d hd with hd|⟨k0,o0,hm,ab⟩;exact⟨d,hd⟩;obtain⟨o1,g1⟩:=b2 k0 o0 hm;have:=hS'.inj k k0 _ _ b g g1 e (hs _ _ ab);subst this;exact absurd hm (g' o0);rcases h3 k hk with ⟨o,hm⟩|⟨o,ho⟩;obtain⟨d,f1,f2,_⟩:=hM k o b hm hb;rw[f1,f2];obtain⟨d,hd⟩:=hS.ro k o b ho hb;rw[(hS.kp b d hd).1,(hS'.kp b d (l1 b d hd)).1]
end
def Zez(ρd:Env)(u l o:Nat):Prop:=ZM ρd u=sO (.loc l o)\/ZM ρd u=sO (.when true (.loc l o))
structure Wg(J:Nm)(r:Rl)(ρd:Env)(L:Loc)(B:List (Nat×Rd)):Prop where
 cs:∀l vs,Ky l r.cs=some vs->∃ds,Zh L l=some ds/\VRs J vs ds
 no:∀l,Ky l r.cs=none->Zh L l=none
 nd:(r.cs.map (·.1)).Nodup
 ad:∀u l o,(u,l,o)∈r.ad->Zez ρd u l o
 lt:∀u l o,(u,l,o)∈r.ad->u<32768
 bn:∀n b,(n,.blk b)∈B->∃k,(n,k)∈r.bn/\J k=some (.tip b)
 bl:∀n l,(n,.loc l)∈B->(n,l)∈r.bl
def Wg.nil{J:Nm}{ρd:Env}:Wg J Rl.nil ρd [] []:={
 cs l vs h:=by cases h
 no l _:=rfl
 nd:=by simp[Rl.nil]
 ad u l o h:=by cases h
 lt u l o h:=by cases h
 bn n b h:=by grind
 bl n l h:=by grind }
section
variable {J J':Nm} {r:Rl} {ρd:Env} {L:Loc} {B:List (Nat × Rd)}
def Wg.mono(h:Wg J r ρd L B)(t:J.Sub J'):Wg J' r ρd L B:={
 cs l vs hl:=by obtain⟨ds,a,b⟩:=h.cs l vs hl;exact⟨ds,a,b.mono t⟩
 no:=h.no
 nd:=h.nd
 ad:=h.ad
 lt:=h.lt
 bn n b hb:=by obtain⟨k,a,c⟩:=h.bn n b hb;exact⟨k,a,t _ _ c⟩
 bl:=h.bl }
def Zez.put{u l o}(h:Zez ρd u l o){dst}(t:dst≠sO u){e}:Zez (Zx ρd dst e) u l o:=by
 unfold Zez;rw[WH,if_neg t];exact h
def Zy6{t}(h:noA t r=true):∀u l o,(u,l,o)∈r.ad->t≠u:=λu l o hm e=>by
 unfold noA at h;split at h;exact Zrp ‹_› _ hm e.symm;grind
def ZDD{t}(h:noA t r=true):t<32768:=by
 unfold noA at h;split at h;simpa using h;grind
def ZAU{dst}(h:ZeM dst r=true):∀u l o,(u,l,o)∈r.ad->dst≠sO u:=λu l o hm e=>by
 subst e;exact Zy6 h u l o hm rfl
def Wg.put(h:Wg J r ρd L B){dst}(t:ZeM dst r=true)(e):Wg J r (Zx ρd dst e) L B :=
 { h with ad:=λu l o hm=>(h.ad u l o hm).put (ZAU t u l o hm) }
def Wg.next(h:Wg J r ρd L B)(fl):Wg J (ZlQ fl r) ρd L (YY fl B):=by
 have h1:∀{fl:List Nat} n b,(n,.blk b)∈YY fl B->∃k,(n,k)∈Zgl fl r.bn/\J k=sO (.tip b):=λ{fl} n b t=>by obtain⟨u,e2⟩:=QH.1 t;obtain⟨k,a,c⟩:=h.bn n b e2;exact⟨k,Zgm (ZfE.1 u) a,c⟩
 have h2:∀{fl:List Nat} n l,(n,.loc l)∈YY fl B->(n,l)∈Zgl fl r.bl:=λ{fl} n l t=>by obtain⟨u,e2⟩:=QH.1 t;exact Zgm (ZfE.1 u) (h.bl n l e2)
 cases fl with
 |nil=>rw[Zkt];exact{ cs:=h.cs,no:=h.no,nd:=h.nd,ad:=h.ad,lt:=h.lt,bn:=λn b t=>by simp at t,bl:=λn b t=>by simp at t }
 |cons a fl=>exact{ cs:=h.cs,no:=h.no,nd:=h.nd,ad:=h.ad,lt:=h.lt,bn:=h1,bl:=h2 }
def ZpY(h:Wg J r ρd L B){x l o}(u:Zs7 x r=sO (l,o)):∃p,ZC ρd true x=sO (p,.loc l o)/\p:=by
 cases x with
 |cst d=>cases u
 |tmp t =>rcases h.ad t l o (ZnC u) with h|h;exact⟨True,by simp[ZC,h],trivial⟩;exact⟨True->True,by simp[ZC,h],λ_=>trivial⟩
def Wg.addr(h:Wg J r ρd L B){u l o}(hn:noA u r=true){e}(he:e=.loc l o\/e=.when true (.loc l o)):Wg J ⟨r.cs,(u,l,o)::r.ad,r.bn,r.bl⟩ (Zx ρd (sO u) e) L B :=
 { h with
  ad:=λu' l' t hm=>by rcases List.mem_cons.1 hm with hm|hm;cases hm;unfold Zez;rw[WH,if_pos rfl];exact he.imp (by rintro rfl;rfl) (by rintro rfl;rfl);exact(h.ad u' l' t hm).put (λhu=>Zy6 hn u' l' t hm (by simpa using hu))
  lt:=λu' l' t hm=>by
   rcases List.mem_cons.1 hm with hm|hm;simp at hm;rw[hm.1];exact ZDD hn;exact h.lt u' l' t hm }
def Z5.off{H}(h:Z5 J [] H ρd)(u e):Z5 J [] (H.set nO u) (Zx ρd (sO u) e):=λt w hw hl=>by
 rcases T.get_set hw with ⟨_,h1⟩|⟨ab,h1⟩;grind;obtain⟨e',h2,h3⟩:=h t w h1 hl;exact⟨e',by rw[WH,if_neg (by simpa using Ne.symm ab)];exact h2,h3⟩
def Wg.reads(h:Wg J r ρd L B){R bn bl}(t:∀k,k∈r.bn->k∈bn)(u:∀k,k∈r.bl->k∈bl)(h3:∀n b,(n,.blk b)∈R->∃k,(n,k)∈bn/\J k=sO (.tip b))(h4:∀n l,(n,.loc l)∈R->(n,l)∈bl):Wg J ⟨r.cs,r.ad,bn,bl⟩ ρd L (R++B) :=
 { h with
  bn:=λn b hb=>by rcases List.mem_append.1 hb with hb|hb;exact h3 n b hb;obtain⟨k,a,c⟩:=h.bn n b hb;exact⟨k,t _ a,c⟩
  bl:=λn l hb=>by
   rcases List.mem_append.1 hb with hb|hb;exact h4 n l hb;exact u _ (h.bl n l hb) }
end
section
variable {C:Px} {ih:Ih} {dk:List WY} {os:List (DOp × List Nat)} {rest:Bx RgD}
def Zcl(C:Px)(ih:Ih)(rest:Bx RgD)(dk:List WY)(os:List (DOp×List Nat)):Prop :=
 ∀r fm H U nx o,rest.run r ih dk fm H U nx=sO o->∀(F:Fr C.P) J ρd L s B,FmR C J fm o F->Z5 J [] H ρd->Yu J nx->Sim C J U s->Wg J r ρd L B->DOA F nO dk os ρd L s B
variable {r:Rl} {fm:Fm} {H:T W} {U:S} {nx:Nat} {o:Out} {F:Fr C.P} {J:Nm} {ρd:Env} {L:Loc} {s:St} {B:List (Nat × Rd)}
def ZAS{t v d}(hv:VR J v d)(h:Wg J r ρd L B):Wg J (ZBA t v r) ρd L ((K3 (.d d)).map (λb=>(t,b))++B):=by
 have ab:∀{k b:Nat},J k=sO (.tip b)->Wg J ⟨r.cs,r.ad,(t,k)::r.bn,r.bl⟩ ρd L ([(t,.blk b)]++B):=λ{k b} hb =>
  h.reads (λ_ hm=>List.mem_cons_of_mem _ hm) (λ_ hm=>hm) (λn b' u=>⟨k,by
   simp at u;rw[u.1,u.2];exact⟨ψ,hb⟩⟩) (λn l hl=>by grind)
 cases hv<;>first|exact h|exact ab ‹_›
def Zx8{x xs vs}(h:(Zcs (x::xs)).run H=sO vs):∃v u,(YN x).run H=sO v/\(Zcs xs).run H=sO u/\vs=v::u:=by
 simp[Zcs]at h;split at h<;>(try(simp at h;done));rename_i v hv;split at h<;>simp at h;rename_i u t;exact⟨v,u,hv,t,h.symm⟩
def ZDN(hρ:Z5 J [] H ρd){dst g k}(hg:Zj ρd g=sO true){db r3}(h:(opF false db k).run H U nx=sO r3){ρd'}(u:Wg J r ρd' L B):
  Wg J ((rdR (dst.getD 0) k).run H r) ρd' L (Kn ⟨dst,g,k⟩ ρd++B):=by
 cases k;case q q xs =>
  cases hr:YP (.q q xs) with
  |false=>simpa[rdR,Kn,Y5,hr]using u
  |true =>
   simp[rdR,Kn,Y5,hr,hg];cases xs with
   |nil=>exact u
   |cons x ys =>simp[opF]at h;split at h<;>(try(grind;done));rename_i vs t;obtain⟨p,ds,a1,a2,a3⟩:=ZaH hρ t;obtain⟨v,vs',hv,_,rfl⟩:=Zx8 t;obtain⟨d,ds',rfl,b1,b2⟩:=a3.inv;simp[a1,hv];exact ZAS b1 u
 all_goals exact u
def ZkF(hrest:Zcl C ih rest dk os){dst g fl k}(hk:YC k=true)(h:(ZkE rest dst k).run r ih dk fm H U nx=sO o)(hg:Zj ρd g=sO true)(hF:FmR C J fm o F)(hρ:Z5 J [] H ρd)(hN:Yu J nx)(hS:Sim C J U s)(hR:Wg J r ρd L B):DOA F nO dk ((⟨dst,g,k⟩,fl)::os) ρd L s B:=by
 simp[ZkE]at h;split at h<;>(try(grind;done));rename_i v σ1 nx1 t;obtain⟨hd,hh⟩:=ZD h;obtain⟨e1,e2,side,e,e3,e4,e5⟩:=ZrH (L:=L) (dst:=dst) hS hN.o hρ.anyL hg hk t;have u:Y1 k=true:=by cases k<;>simp[YC]at hk<;>rfl
 refine Jj e4 e3 ?_;simp[u];exact hrest _ _ _ _ _ _ hh F J _ L s _ hF (JH hρ (show WR J [] (.v v) e from e5) dst) hN hS (ZDN hρ hg t (hR.put hd e))
def Zwd{fl σ0 l}(h:ZAW fl r U=sO (σ0,l)):∃ks,Zkz ks U=sO (σ0,l)/\∀n k,n∈fl->(n,k)∈r.bn->k∈ks:=by
 cases fl with
 |nil=>exact⟨[],h,λ_ _ h=>by simp at h⟩
 |cons a fl=>exact⟨_,h,λn k u t=>ZfQ u t⟩
def Zqc(hrest:Zcl C ih rest dk os){f dst g fl k}(hk:YC k=false)(hp:Y1 k=false)(hnf:Zku k=true)(h:(ZtJ C f rest dst g fl k).run r ih dk fm H U nx=sO o)(hg:Zj ρd g=sO true)(hF:FmR C J fm o F)(hρ:Z5 J [] H ρd)(hN:Yu J nx)(hS:Sim C J U s)(hR:Wg J r ρd L B):DOA F nO dk ((⟨dst,g,k⟩,fl)::os) ρd L s B:=by
 unfold ZtJ at h;split at h<;>(try(grind;done));rename_i ae;simp only at h;split at h<;>(try(grind;done));rename_i σ0 l ac;split at h<;>(try(grind;done));rename_i v σ1 ag af;split at h<;>(try(grind;done));rename_i σ2 u;obtain⟨hd,hh⟩:=ZD h;obtain⟨ks,o1,o2⟩:=Zwd ac;obtain⟨t,ad,hL⟩:=hS.lend o1;refine Zb6 (Y0 ⟨C.toCx,t⟩ J ⟨v,σ1,ag⟩) hp (λH' L' os' ab hc=>?_) (λe s2 hr=>?_);exact Zyy ad hN hρ (by rw[YW (λt ht=>ab t (by simp[ZB,ht]))];exact hg) ae hk hnf af ab hc;obtain⟨J',k1,k2,k3,d,k4,rfl⟩:=hr;obtain⟨u1,u2⟩:=hS.unlend o1 hL k1 k3 u;refine⟨Zgn (λn b hf hb=>?_) (λ_ _ _ _=>rfl),hrest _ _ _ _ _ _ hh F J' _ L s2 _ (hF.mono k1) (JH (hρ.mono k1) (WR.val k4) dst) k2 u1 (((hR.put hd _).next fl).mono k1)⟩;obtain⟨kn,n1,n2⟩:=hR.bn n b hb;exact u2 kn b (o2 n kn hf n1) n2
def Zz3(hlib:QY C)(hih:Jm C ih)(hrest:Zcl C ih rest dk os){f dst g fl fx xs}(h:(goD C f rest dst g fl (.call fx xs)).run r ih dk fm H U nx=sO o)(hg:Zj ρd g=sO true)(hF:FmR C J fm o F)(hρ:Z5 J [] H ρd)(hN:Yu J nx)(hS:Sim C J U s)(hR:Wg J r ρd L B):DOA F nO dk ((⟨dst,g,.call fx xs⟩,fl)::os) ρd L s B:=by
 simp[goD]at h;split at h<;>(try(grind;done));rename_i fv ae;split at h<;>(try(grind;done));rename_i vs af;split at h<;>(try(grind;done));rename_i σ0 l ac;split at h<;>(try(grind;done));rename_i pan v U' ag ab;split at h<;>(try(grind;done));rename_i σ2 u;obtain⟨ks,o1,o2⟩:=Zwd ac;obtain⟨t,ad,hL⟩:=hS.lend o1;obtain⟨p,fd,a1,a2,a3⟩:=KE hρ ae;obtain⟨q,ds,b1,b2,b3⟩:=ZaH hρ af;have hV:WP C.P fd ds s (ZgO ⟨C.toCx,t⟩ J ⟨pan,v,U',ag⟩):=Znm (C:=⟨C.toCx,t⟩) hlib hih ab a3 b3 hN ad;refine Zf9 hg rfl a1 b1 (ZaO ds) b2 a2 hV (λd S1 hp=>?_) (λd S1 hp=>?_)
 .obtain⟨η1,d1,k1,k2,k3,k4,k5⟩:=hp;cases pan with
  |true=>grind
  |false =>cases k5;obtain⟨hd,hh⟩:=ZD h;obtain⟨u1,u2⟩:=hS.unlend o1 hL k1 k3 u;refine⟨Zgn (λn b hf hb=>?_) (λ_ _ _ _=>rfl),hrest _ _ _ _ _ _ hh F η1 _ L S1 _ (hF.mono k1) (JH (hρ.mono k1) (WR.val k4) dst) k2 u1 (((hR.put hd _).next fl).mono k1)⟩;obtain⟨kn,n1,n2⟩:=hR.bn n b hb;exact u2 kn b (o2 n kn hf n1) n2
 obtain⟨η1,d1,k1,k2,k3,k4,k5⟩:=hp;cases pan with
 |false=>grind
 |true =>cases k5;exact ZhM hih h (hF.mono k1) Z5.nil k2 (hS.unlend o1 hL k1 k3 u).1 k4
end
section
variable {C:Px} {ih:Ih} {dk:List WY} {os:List (DOp × List Nat)} {rest:Bx RgD}
variable {r:Rl} {fm:Fm} {H:T W} {U:S} {nx:Nat} {o:Out} {F:Fr C.P} {J:Nm} {ρd:Env} {L:Loc} {s:St} {B:List (Nat × Rd)}
def ZkD{dst g}(u:Zj ρd g=sO true){xs es p}(t:Z8 ρd true xs=sO (p,es))(hp:p){q side e}(hq:qv L s q es=sO (side,e))(hs:side):
  ∃side' e',side'/\ZF ⟨dst,g,.q q xs⟩ ρd L s=.ok side' (Zx ρd dst e') L s/\(e'=e\/e'=.when true e):=by
 cases g with
 |none=>exact⟨p/\side,e,ZIA hp hs,by unfold ZF;simp[u,t,hq],.inl rfl⟩
 |some x=>exact⟨true=true->p/\side,.when true e,λ_=>ZIA hp hs,by unfold ZF;simp[u,t,hq],.inr rfl⟩
def Zof(hrest:Zcl C ih rest dk os){dst g fl l off}(h:(adD rest dst l off).run r ih dk fm H U nx=sO o){q xs}(hrd:YP (.q q xs)=false){side e'}(hside:side)(hst:ZF ⟨dst,g,.q q xs⟩ ρd L s=.ok side (Zx ρd dst e') L s)(he:e'=.loc l off\/e'=.when true (.loc l off))(hF:FmR C J fm o F)(hρ:Z5 J [] H ρd)(hN:Yu J nx)(hS:Sim C J U s)(hR:Wg J r ρd L B):DOA F nO dk ((⟨dst,g,.q q xs⟩,fl)::os) ρd L s B:=by
 unfold adD at h;split at h<;>(try(grind;done));rename_i u;obtain⟨hn,hh⟩:=ZD h;refine Jj hst hside ?_;have t:Kn ⟨sO u,g,.q q xs⟩ ρd=[]:=by simp[Kn,Y5,hrd]
 simp[t];exact hrest _ _ _ _ _ _ hh F J _ L s _ hF (hρ.off u e') hN hS (hR.addr hn he)
def Zzj{dst g q xs es p l off}(t:YP (.q q xs)=true)(hg:Zj ρd g=sO true)(u:Z8 ρd true xs=sO (p,.loc l off::es)):Kn ⟨dst,g,.q q xs⟩ ρd=[(dst.getD 0,.loc l)]:=by
 simp[Kn,Y5,t,hg,u,K3,Zb3]
def ZCu(hrest:Zcl C ih rest dk os){dst g fl q x ys l off}(hx:Zs7 x r=sO (l,off))(h:(ZAM rest dst q ys).run l off r ih dk fm H U nx=sO o)(hg:Zj ρd g=sO true)(hF:FmR C J fm o F)(hρ:Z5 J [] H ρd)(hN:Yu J nx)(hS:Sim C J U s)(hR:Wg J r ρd L B):DOA F nO dk ((⟨dst,g,.q q (x::ys)⟩,fl)::os) ρd L s B:=by
 obtain⟨p,a1,a2⟩:=ZpY hR hx;have u:Z8 ρd true [x]=sO (p/\True,[.loc l off]):=by simp[Z8,a1]
 have ld:∀{q:Q} {v:V} {d:D} {side:Prop},YP (.q q [x])=true->VR J v d->side->qv L s q [.loc l off]=sO (side,.d d)->noV (ZeM dst r) (rest.run ⟨r.cs,r.ad,r.bn,(dst.getD 0,l)::r.bl⟩ ih dk fm ((ZcR dst).run H (.v v)) U nx)=sO o->DOA F nO dk ((⟨dst,g,.q q [x]⟩,fl)::os) ρd L s B:=by intro q v d side ae hv hs hq h;obtain⟨hd,hh⟩:=ZD h;obtain⟨t,e',h1,h2,h3⟩:=ZkD (dst:=dst) hg u ⟨a2,trivial⟩ hq hs;refine Jj h2 h1 ?_;simp only[Y1,Zzj (dst:=dst) ae hg u];refine hrest _ _ _ _ _ _ hh F J _ L s _ hF (JH hρ (show WR J [] (.v v) e' from⟨d,hv,h3⟩) dst) hN hS ((hR.put hd e').reads (λ_ h=>h) (λ_ hm=>List.mem_cons_of_mem _ hm) (λn b hb=>by grind) (λn l' hl=>?_));simp at hl;rw[hl.1,hl.2];simp
 unfold ZAM at h;split at h;·split at h<;>(try(grind;done));obtain⟨t,e',h1,h2,h3⟩:=ZkD (L:=L) (s:=s) (dst:=dst) hg u ⟨a2,trivial⟩ (q:=.mv) rfl trivial;exact Zof hrest h rfl h1 h2 h3 hF hρ hN hS hR
 .split at h<;>(try(grind;done));obtain⟨t,e',h1,h2,h3⟩:=ZkD (L:=L) (s:=s) (dst:=dst) hg u ⟨a2,trivial⟩ (q:=.nilck) rfl trivial;exact Zof hrest h rfl h1 h2 h3 hF hρ hN hS hR
 .rename_i o1;split at h<;>(try(grind;done));obtain⟨t,e',h1,h2,h3⟩:=ZkD (L:=L) (s:=s) (dst:=dst) hg u ⟨a2,trivial⟩ (q:=.faddr o1) rfl trivial;exact Zof hrest h rfl h1 h2 h3 hF hρ hN hS hR
 .rename_i m z;split at h<;>(try(grind;done));rename_i y;simp only at h;split at h<;>(try(grind;done));rename_i kk i hy;obtain⟨hb,hh⟩:=ZD h;simp[JE,<-Bool.not_eq_true]at hb;obtain⟨p2,d,b1,b2,b3⟩:=KE hρ hy;cases b3;have ac:Z8 ρd true [x,y]=sO (p/\p2/\True,[.loc l off,.d (.int kk i)]):=by simp[Z8,a1,b1]
  obtain⟨t,e',h1,h2,h3⟩:=ZkD (L:=L) (s:=s) (dst:=dst) hg ac ⟨a2,b2,trivial⟩ (q:=.iaddrA m z) rfl ⟨hb.1,ω⟩;exact Zof hrest hh rfl h1 h2 h3 hF hρ hN hS hR
 .split at h<;>(try(grind;done));simp only at h;split at h<;>(try(grind;done));rename_i cs ab;split at h<;>(try(grind;done));rename_i v hv;obtain⟨ds,c1,c2⟩:=hR.cs l cs ab;rw[ZlK]at hv;obtain⟨d,d1,d2⟩:=c2.get hv;exact ld rfl d2 trivial (by simp[qv,Wn,c1,d1]) h
 .rename_i n;split at h<;>(try(grind;done));simp only at h;split at h<;>(try(grind;done));rename_i cs ab;split at h<;>(try(grind;done));rename_i v hv;obtain⟨ds,c1,c2⟩:=hR.cs l cs ab;unfold Zlj at hv;split at hv<;>simp at hv;rename_i rr af;subst hv;obtain⟨d1,d2⟩:=c2.partv af;exact ld rfl (.agg _ _ d2) d1 (by simp[qv,Km,c1]) h
 grind
def Wg.cell(hR:Wg J r ρd L B){l vs0 vs}(hl:Ky l r.cs=sO vs0){ds}(hv:VRs J vs ds):Wg J ⟨Zk3 l vs r.cs,r.ad,r.bn,r.bl⟩ ρd ((l,ds)::L) B :=
 { hR with
  cs:=λl' t u=>by rw[ZnD]at u;by_cases he:l'=l;subst he;simp[hl]at u;subst u;exact⟨ds,by simp[Zh],hv⟩;rw[if_neg he]at u;obtain⟨d,d1,d2⟩:=hR.cs l' t u;exact⟨d,by simp[Zh];rw[if_neg (Ne.symm he)];exact d1,d2⟩
  no:=λl' u=>by rw[ZnD]at u;by_cases he:l'=l;subst he;simp[hl]at u;rw[if_neg he]at u;simp[Zh];rw[if_neg (Ne.symm he)];exact hR.no l' u
  nd:=by rw[ZrT];exact hR.nd }
def Zwo(hrest:Zcl C ih rest dk os){fl l off n xs k}(h:ZuK rest fl l off n xs r ih dk fm H U nx=sO o)(hpk:Y1 k=false)(hrk:Kn ⟨nO,nO,k⟩ ρd=[]){ys}(hx:VRs J xs ys){p q ok}(hp:p)(hq:q)(hok:ok)(hst:ZF ⟨nO,nO,k⟩ ρd L s=K8 ρd L s p q ok (.loc l off) n ys)(hF:FmR C J fm o F)(hρ:Z5 J [] H ρd)(hN:Yu J nx)(hS:Sim C J U s)(hR:Wg J r ρd L B):DOA F nO dk ((⟨nO,nO,k⟩,fl)::os) ρd L s B:=by
 unfold ZuK at h;split at h<;>(try(grind;done));rename_i cs t;split at h<;>(try(grind;done));rename_i cs' u;obtain⟨hb,hh⟩:=ZD h;obtain⟨ds,c1,c2⟩:=hR.cs l cs t;obtain⟨f0,f1,f2⟩:=c2.over hx u;have ab:ZF ⟨nO,nO,k⟩ ρd L s=.ok (p/\q/\off+n<=I ds/\ok) ρd ((l,Zy ds off ys)::L) s:=by rw[hst];simp[K8,c1]
 refine Jj ab ⟨hp,hq,f1,hok⟩ ?_;simp[hpk,hrk];refine⟨Zgn (λ_ _ _ _=>rfl) (λn l' hf ac=>?_),hrest _ _ _ _ _ _ hh F J ρd _ s _ hF hρ hN hS ((hR.cell t f2).next fl)⟩;have hm:=hR.bl n l' ac;have:¬l=l':=λe=>by subst e;rw[Zdn.2 (ZfQ hf hm)]at hb;grind
 simp[Zh,this]
def Wg.more(hR:Wg J r ρd L B){t}(ht:Zxh t r=true){vs ds}(hv:VRs J vs ds):Zh L t=nO/\Wg J ⟨(t,vs)::r.cs,(t,t,0)::r.ad,r.bn,r.bl⟩ ((t,.loc t 0)::ρd) ((t,ds)::L) B:=by
 unfold Zxh at ht;simp at ht;obtain⟨h1,h2⟩:=ht;split at h1<;>(try(grind;done));rename_i hc;have hA:=hR.addr (e:=.loc t 0) h2 (.inl rfl);refine⟨hR.no t hc,{ hA with
  cs:=λl u h'=>?_
  no:=λl h'=>?_
  nd:=?_ }⟩
 simp only[Ky]at h';by_cases he:t=l;subst he;simp at h';subst h';exact⟨ds,by simp[Zh],hv⟩;rw[if_neg (λh=>he (Z1.1 h))]at h';obtain⟨d,d1,d2⟩:=hR.cs l u h';exact⟨d,by simp[Zh];rw[if_neg he];exact d1,d2⟩;simp only[Ky]at h';by_cases he:t=l;subst he;rw[if_pos (Z1.2 rfl)]at h';simp at h';rw[if_neg (λh=>he (Z1.1 h))]at h';simp[Zh];simp_all;exact hR.no l h';simp only[ZIQ,List.nodup_cons];exact⟨Zrq hc,hR.nd⟩
def Zx7(hrest:Zcl C ih rest dk os){f dst g fl z}(h:(goD C f rest dst g fl (.alloc z)).run r ih dk fm H U nx=sO o)(hF:FmR C J fm o F)(hρ:Z5 J [] H ρd)(hN:Yu J nx)(hS:Sim C J U s)(hR:Wg J r ρd L B):DOA F nO dk ((⟨dst,g,.alloc z⟩,fl)::os) ρd L s B:=by
 simp[goD]at h;split at h<;>(try(grind;done));rename_i t zv hz;obtain⟨hn,hh⟩:=ZD h;obtain⟨hl,u⟩:=hR.more hn (ofDs_ok hz);refine Jj (side:=Zal L t=false) (ρ1:=(t,.loc t 0)::ρd) (L1:=(t,z)::L) (s1:=s) (by unfold ZF;simp[Zj]) (by simp[Zal,hl]) ?_;exact hrest _ _ _ _ _ _ hh F J _ _ s _ hF (hρ.off t (.loc t 0)) hN hS u
def ZBT(hrest:Zcl C ih rest dk os){f dst g fl x}(h:(goD C f rest dst g fl (.box x)).run r ih dk fm H U nx=sO o)(hF:FmR C J fm o F)(hρ:Z5 J [] H ρd)(hN:Yu J nx)(hS:Sim C J U s)(hR:Wg J r ρd L B):DOA F nO dk ((⟨dst,g,.box x⟩,fl)::os) ρd L s B:=by
 simp[goD]at h;split at h<;>(try(grind;done));rename_i t;simp only at h;split at h<;>(try(grind;done));rename_i v hv;obtain⟨hb,hh⟩:=ZD h;simp at hb;obtain⟨⟨hp,hn⟩,hm⟩:=hb;obtain⟨p,d,a1,a2,a3⟩:=KE hρ hv;obtain⟨hl,u⟩:=hR.more hn (Zlo a3);refine Jj (side:=p/\Zal L t=false/\Kb d=true) (ρ1:=(t,.loc t 0)::ρd) (L1:=(t,cellsOf d)::L) (s1:=s) (by unfold ZF;simp[Zj,a1]) ⟨a2,by simp[Zal,hl],Zn2 a3 hp⟩ ?_;refine⟨Zgn (λ_ _ _ _=>rfl) (λn l' hf ab=>?_),hrest _ _ _ _ _ _ hh F J _ _ s _ hF (hρ.off t (.loc t 0)) hN hS (u.next fl)⟩;have:¬t=l':=λe=>by subst e;rw[Zdn.2 (ZfQ hf (hR.bl _ _ ab))]at hm;grind
 simp[Zh,this]
def ZyN(hlib:QY C)(hih:Jm C ih)(hrest:Zcl C ih rest dk os){f dst g fl k}(h:(goD C f rest dst g fl k).run r ih dk fm H U nx=sO o)(hg:Zj ρd g=sO true)(hF:FmR C J fm o F)(hρ:Z5 J [] H ρd)(hN:Yu J nx)(hS:Sim C J U s)(hR:Wg J r ρd L B):DOA F nO dk ((⟨dst,g,k⟩,fl)::os) ρd L s B:=by
 cases k;case call fx xs=>exact Zz3 hlib hih hrest h hg hF hρ hN hS hR
 case alloc z=>exact Zx7 hrest h hF hρ hN hS hR
 case box x=>exact ZBT hrest h hF hρ hN hS hR
 case panic x =>
  simp[goD]at h;split at h<;>(try(grind;done));rename_i t v hv;obtain⟨p,d,a1,a2,a3⟩:=KE hρ hv;cases a3 with
  |iface _ _ d hd=>exact ZqY hg rfl a1 a2 (ZhM hih h hF Z5.nil hN hS (.iface _ _ _ hd))
 case defer fx xs=>cases h
 case recover=>cases h
 case fork k=>cases h
 case store1 a v =>
  simp[goD]at h;split at h<;>(try(grind;done));simp only at h;split at h;·rename_i l off ha;split at h<;>(try(grind;done));rename_i x hx;obtain⟨hc,hh⟩:=ZD h;obtain⟨p,a1,a2⟩:=ZpY hR ha;obtain⟨q,d,b1,b2,b3⟩:=KE hρ hx;exact Zwo hrest hh rfl rfl (.one b3) a2 b2 (ZuP b3 hc) (by unfold ZF;simp[Zj,a1,b1]) hF hρ hN hS hR
  exact Zqc hrest rfl rfl rfl h hg hF hρ hN hS hR
 case storeN n a v =>
  simp[goD]at h;split at h<;>(try(grind;done));simp only at h;split at h
  .rename_i l off ha;split at h<;>(try(grind;done));rename_i xs hx;obtain⟨p,a1,a2⟩:=ZpY hR ha;obtain⟨q,d,b1,b2,b3⟩:=KE hρ hx;cases b3 with
   |agg _ ys hxs =>
   have u:I ys=n:=by unfold ZuK at h;split at h<;>(try(grind;done));split at h<;>(try(grind;done));rename_i ab;rw[<-hxs.len];exact(Zqz ab).1
   exact Zwo hrest h rfl rfl hxs a2 b2 u (by unfold ZF;simp[Zj,a1,b1]) hF hρ hN hS hR
  exact Zqc hrest rfl rfl rfl h hg hF hρ hN hS hR
 case q q xs =>simp[goD]at h;split at h;rename_i x ys;simp only at h;split at h;rename_i l off hx;exact ZCu hrest hx h hg hF hρ hN hS hR;exact ZkF hrest rfl h hg hF hρ hN hS hR;exact ZkF hrest rfl h hg hF hρ hN hS hR
 all_goals
  simp[goD]at h;first
   |exact ZkF hrest rfl h hg hF hρ hN hS hR
   |exact Zqc hrest rfl rfl rfl h hg hF hρ hN hS hR
end
def ZnE:∀{H t e},ZM H t=sO e->(t,e)∈H
 | [],t,e,h=>by cases h
 | (k,x)::r,t,e,h=>by simp[ZM]at h;split at h;rename_i u;cases h;subst u;simp;exact List.mem_cons_of_mem _ (ZnE h)
def ZAv:∀{L},(∀l,Zh L l=nO)->L=[]
 | [],_=>rfl
 | (k,c)::r,h=>by have:=h k;simp[Zh]at this
def ZkB{t nx}:∀{ad H u w},(Zpe ad t nx H).get u=sO w->(∃o,(u,t,o)∈ad/\w=.v (.ptr nx o))\/H.get u=sO w
 | [],H,u,w,h=>.inr h
 | (u',l,o)::r,H,u,w,h=>by simp only[Zpe]at h;split at h;rename_i hl;rw[Z1]at hl;subst hl;rcases T.get_set h with ⟨rfl,h3⟩|⟨_,h3⟩;simp at h3;exact .inl ⟨o,ψ,h3.symm⟩;rcases ZkB h3 with ⟨o',h1,h2⟩|h3;exact .inl ⟨o',by simp[h1],h2⟩;exact .inr h3;rcases ZkB h with ⟨o',h1,h2⟩|h;exact .inl ⟨o',by simp[h1],h2⟩;exact .inr h
section
variable {C:Px} {ih:Ih} {dk:List WY}
def ZvS(hih:Jm C ih):∀{cs ad fm H U nx o},ZtQ cs ad ih dk fm H U nx=sO o ->
  ∀{F J ρd L s},FmR C J fm o F->Z5 J [] H ρd->Yu J nx->Sim C J U s->(∀l vs,Ky l cs=sO vs->(∃u o,(u,l,o)∈ad)->∃ds,Zh L l=sO ds/\VRs J vs ds) ->
   (∀l,Ky l cs=nO->Zh L l=nO)->(cs.map (·.1)).Nodup->(∀u l o,(u,l,o)∈ad->(Ky l cs).isSome=true->Zez ρd u l o)->Zt F dk ρd L s
 | [],ad,fm,H,U,nx,o,h,F,J,ρd,L,s,hF,hρ,hN,hS,hc,hn,hd,ha=>by obtain rfl:=ZAv λl=>hn l rfl;exact hih.at _ _ _ _ _ _ h F J ρd s hF hρ hN hS
 | (t,vs)::cs,ad,fm,H,U,nx,o,h,F,J,ρd,L,s,hF,hρ,hN,hS,hc,hn,hd,ha=>by
  simp[ZtQ]at h;split at h<;>(try(grind;done));rename_i l' o' ag;obtain⟨hl,hh⟩:=ZD h;rw[Z1]at hl;subst hl;have ae:Ky l' ((l',vs)::cs)=sO vs:=by simp[Ky]
  obtain⟨ds,d1,d2⟩:=hc l' vs ae ⟨_,_,ZnC ag⟩;simp only[ZIQ,List.nodup_cons]at hd;have ac:∀{l:Nat},l≠l'->Ky l ((l',vs)::cs)=Ky l cs:=λ{l} ab=>by simp only[Ky];rw[if_neg (λh=>ab (Z1.1 h).symm)]
  have af:∀{l:Nat} {x:List V},Ky l cs=sO x->l≠l':=λ{l x} hx e=>by
   subst e;have:∀{r:List (Nat×List V)} {x:List V},Ky l r=sO x->l∈r.map (·.1):=λ{r}=>by
    induction r with
    |nil=>intro x h;cases h
    |cons a r ih =>intro x h;simp only[Ky]at h;split at h;rename_i ht;rw[Z1]at ht;simp[ht];simp only[ZIQ,ZJd];exact .inr (ih h)
   exact hd.1 (this hx)
  refine Zdz l' d1 λb hb=>?_;have f0:=hN.free nx (ZIO _);have n1:J.Sub (J.put nx (.tip b)):=Nm.put_sub f0 _;refine ZvS hih hh (J:=J.put nx (.tip b)) (hF.mono n1) ?_ (hN.put _) (hS.new f0 hb (OR.cells0 (d2.mono n1))) ?_ ?_ hd.2 ?_
  .intro u w hw ah;rw[ZdE];rcases ZkB hw with ⟨o2,h1,rfl⟩|h1;rcases ha u l' o2 h1 (by rw[ae];rfl) with h2|h2;exact⟨.d (.ptr b o2),by rw[h2];simp[Q8],.ptr b o2,.ptr _ _ _ Nm.put_same,.inl rfl⟩;exact⟨.when true (.d (.ptr b o2)),by rw[h2];simp[Q8],.ptr b o2,.ptr _ _ _ Nm.put_same,.inr rfl⟩;obtain⟨e,h2,h3⟩:=hρ u w h1 ah;cases w with
   |v x =>obtain⟨d,h4,rfl|rfl⟩:=h3;exact⟨_,by rw[h2];rfl,d,h4.mono n1,.inl rfl⟩;exact⟨_,by rw[h2];rfl,d,h4.mono n1,.inr rfl⟩
   |loc l o=>cases ah
   |skip =>have aj:e=.when false (.d (.bool false)):=h3;subst aj;exact⟨_,by rw[h2];rfl,rfl⟩
  intro l ak hl hx;have ab:=af hl;obtain⟨ai,g1,g2⟩:=hc l ak (by rw[ac ab];exact hl) hx;exact⟨ai,by rw[Zdh,if_neg ab];exact g1,g2.mono n1⟩;intro l hl;rw[Zdh];by_cases ab:l=l';simp_all;rw[if_neg ab];exact hn l (by rw[ac ab];exact hl);intro u l o2 hm hs;obtain⟨x,hx⟩:=Option.isSome_iff_exists.1 hs;have ab:=af hx;unfold Zez;rw[ZdE];rcases ha u l o2 hm (by rw[ac ab];exact hs) with h2|h2;exact .inl (by rw[h2];simp[Q8,ab]);exact .inr (by rw[h2];simp[Q8,ab])
def ZCh(hih:Jm C ih):Zcl C ih ⟨λr ih dk fm H U nx=>ZtQ r.cs r.ad ih dk fm H U nx⟩ dk []:=by
 intro r fm H U nx o h F J ρd L s B hF hρ hN hS hR;refine ZpT (ZvS hih h hF hρ.keep hN hS (λl vs hl hx=>?_) (λl hl=>?_) hR.nd (λu l o hm _=>?_));obtain⟨u,o',hm⟩:=hx;obtain⟨ds,d1,d2⟩:=hR.cs l vs hl;refine⟨ds,?_,d2⟩;have t:Zez (Yn ρd Zp1) u l o':=(hR.ad u l o' hm).imp (λh=>Jt h (List.mem_range.2 (hR.lt u l o' hm))) (λh=>Jt h (List.mem_range.2 (hR.lt u l o' hm)));refine ZgG L _ l ds ?_ d1;rw[List.mem_flatMap];rcases t with h|h;exact⟨_,ZnE h,by simp[Ks]⟩;exact⟨_,ZnE h,by simp[Ks]⟩
 .cases hg:Zh (Za7 (Yn ρd Zp1) L) l with
  |none=>rfl
  |some cs =>have:=JR L _ l cs hg;rw[hR.no l hl]at this;grind
 exact(hR.ad u l o hm).imp (λh=>Jt h (List.mem_range.2 (hR.lt u l o hm))) (λh=>Jt h (List.mem_range.2 (hR.lt u l o hm)))
end
section
variable {C:Px} {ih:Ih} {dk:List WY} {os:List (DOp × List Nat)} {rest:Bx RgD}
variable {r:Rl} {fm:Fm} {H:T W} {U:S} {nx:Nat} {o:Out} {F:Fr C.P} {J:Nm} {ρd:Env} {L:Loc} {s:St} {B:List (Nat × Rd)}
end
section
variable {C:Px} {ih:Ih} {dk:List WY} {os:List (DOp × List Nat)} {rest:Bx RgD}
variable {r:Rl} {fm:Fm} {H:T W} {U:S} {nx:Nat} {o:Out} {F:Fr C.P} {J:Nm} {ρd:Env} {L:Loc} {s:St} {B:List (Nat × Rd)}
def Zuz(hlib:QY C)(hih:Jm C ih){f}:∀{os},Zcl C ih (ZlV C f os) dk os
 | []=>ZCh hih
 | (⟨dst,g,k⟩,fl)::os=>λr fm H U nx o h F J ρd L s B hF hρ hN hS hR=>by
  unfold ZlV at h;split at h;grind;rename_i u;have IH:=Zuz hlib hih (f:=f) (os:=os);split at h;exact ZyN hlib hih IH h rfl hF hρ hN hS hR;rename_i g0;simp only at h;split at h<;>(try(grind;done));rename_i b hb;have hg:=Zrs hρ hb;split at h;exact ZyN hlib hih IH h hg hF hρ hN hS hR;split at h<;>(try(grind;done));rename_i t;obtain⟨hd,hh⟩:=ZD h;cases hq:YC k with
  |true =>rw[hq,if_pos rfl]at hh;exact ZxY hg hq (.d (.bool false)) (IH _ _ _ _ _ _ hh F J _ L s _ hF (JH hρ WR.skp dst) hN hS (hR.put hd _))
  |false =>
   rw[hq]at hh;have hp:Y1 k=false:=by cases k<;>simp[YC]at hq<;>first|rfl|exact absurd rfl (t _)|exact absurd rfl (u _)
   exact Ze7 (e:=.d (.bool false)) hg hp (IH _ _ _ _ _ _ hh F J _ L s _ hF (JH hρ WR.skp dst) hN hS ((hR.put hd _).next fl))
def Zwi(u:QY C)(hih:Jm C ih):Zoc C ih:=by
 intro f order t kp fm k H U nx o h hf F J ρd s hF hρ hN hS;exact ZjB (show DOA F nO k t ρd [] s [] from Zuz u hih _ _ _ _ _ _ h F J ρd [] s [] hF hρ hN hS Wg.nil)
end
section
variable {P:Program}
def Za.subM{f args s Φ Φ'}(h:Za P f args s Φ)(hp:∀r s',Φ r s'->∃s2,St.sub s2 s'/\Φ' r s2):Za P f args s Φ' :=
 ⟨h.1,λg w vs hs u=>(h.2 g w vs hs u).mono λ_ _ ⟨t,s',r,a,b,c,d⟩=>let ⟨s2,e1,e2⟩:=hp r s' d;⟨t,s2,r,a,b.sub e1,c,e2⟩⟩
def St.emp:St:=λ_=>nO
def Zyz(s):St.emp.or s=s:=by funext b;simp[St.or,St.emp]
def Zob{f args d}(h:Za P f args St.emp λr _=>r=.ret d):Zd P f args d:=λs=>by
 have h1:Za P f args St.emp λr s'=>r=.ret d/\s'=St.emp:=h.subM λr s' hr=>⟨St.emp,λb o hb=>by simp[St.emp]at hb,hr,rfl⟩;have t:Z6 St.emp s:=λb o _=>rfl;have u:=h1.frame t;rw[Zyz]at u;refine u.mono λr S ⟨s',⟨e1,e2⟩,_,e3⟩=>⟨e1,?_⟩;rw[e3,e2,Zyz]
end
def nm0:Nm:=λk=>if k=0 then sO .none else if k=1 then sO .full else nO
def Zy5:Yu nm0 2:={
 z:=rfl
 o:=rfl
 two:=ZIO _
 free k hk:=by simp only[nm0];rw[if_neg ω,if_neg ω] }
def ZBn(C:Cx)(J:Nm)(s:St):Sim ⟨C,St.emp⟩ J T.nil s:={
 obj k o h:=by simp[T.get_nil]at h
 inj k k' o o' b h:=by simp[T.get_nil]at h
 kp b d h:=by simp[St.emp]at h
 ro k o b h:=by simp[T.get_nil]at h }
section
variable {P:Program}
def Zjz{F:Fr P}{kp dk o os H L s}(hg:Zj H o.guard=sO true){n xs}(hk:o.k=.call (.cst (.fn (.func n) [] [])) xs){p es ds}(ha:Z8 H true xs=sO (p,es))(hds:Ka es=sO ds)(hp:p){fn}(h0:P.funcs[n]?=sO fn)(h1:fn.body=nO)(h2:(fn.name == "runtime.NumGoroutine")=false)(h3:Extern.findNext fn=nO){e}(h4:Extern.find fn=sO e){d}(he:∀g w vs,ZI (Rep g w) vs ds->∃v,(e vs.toArray).run P w=.ok v w/\Rep g w v d)(h:DO F kp dk os (Zx H o.dst (.d d)) L s):DO F kp dk (o::os) H L s:=by
 refine Y7 λoo g Z w tmps av i r k ao ac ai ad hd hN m hr al=>?_;have hw:=Z7 m ai hg;have am:=Yb ac (by rw[hk];rfl);rw[hk]at ac;obtain⟨f',t,ats,ap,aj,au⟩:=ZvJ ac;have ae:Rep g w _ _:=ZY (H:=H) m aj rfl rfl trivial F.ds;have u:=K5 (Zce m rfl F.ds au ha hp) hds;obtain⟨v,aq,ar⟩:=he g w _ u;generalize ak:(Act.mk tmps F.ds).eval f'=fv at ae;have af:fv=.func (.func n) #[] #[]:=by
  cases ae with
  |fn _ fs cs _ _ e1 e2 _ _ =>
   obtain rfl:fs=[]:=by simpa using e1
   obtain rfl:cs=[]:=by simpa using e2
   rfl
 subst af;have ag:(Array.map (Act.mk tmps F.ds).eval t)=(t.toList.map (Act.mk tmps F.ds).eval).toArray:=by apply Array.ext';simp
 refine ZoT (e:=.d d) hN m ao ad hd hw am ⟨v,?_,ar⟩ (h av r k hr al);have ab:(callFunc n ((t.toList.map (Act.mk tmps F.ds).eval).toArray++#[])).run P w=.ok (.value v) w:=by
  have ah:¬fn.name = "runtime.NumGoroutine":=by simpa using h2
  simp[callFunc,h0,ah,h1,h3,h4,aq]
 simp[execOp,ap,resolve,ak,ag,Deferred.ofValue,invoke];simpa using ab
def Zt0(c:Nat):List Nat->Int
 | []=>-1
 |b::l=>if Nat.beq (b % 256) (c % 256) then 0 else match Zt0 c l with
  |.ofNat n=>.ofNat (n+1)
  |.negSucc _=>-1
def ZvZ(c):∀(l),Zt0 c l=Lib.indexByte (l.map UInt8.ofNat) (UInt8.ofNat c)
 | []=>rfl
 |b::l=>by
  have ih:=ZvZ c l;simp only[Zt0,ZIQ,Lib.indexByte];have u:Nat.beq (b % 256) (c % 256)=(UInt8.ofNat b==UInt8.ofNat c):=by rw[Bool.eq_iff_iff,Nat.beq_eq,beq_iff_eq];constructor;intro h;apply UInt8.toNat_inj.1;simpa using h;intro h;have:=congrArg UInt8.toNat h;simpa using this
  rw[u];split;rfl;have t:=Lib.indexByte_ge (l.map UInt8.ofNat) (UInt8.ofNat c);rw[<-ih]at t⊢;cases hx:Zt0 c l with
  |ofNat n =>
   have:(Int.ofNat n==-1)=false:=by rw[beq_eq_false_iff_ne];simp only[Int.ofNat_eq_natCast,ne_eq];omega
   rw[this];rfl
  |negSucc n =>
   rw[hx]at t;have:n=0:=by have e:=Int.negSucc_eq n;omega
   subst this;rfl
def Zkg:∀(l c),Lib.indexByte l c<I l\/Lib.indexByte l c=-1
 | [],c=>.inr rfl
 |b::l,c=>by simp only[Lib.indexByte];split;left;simp;split;exact .inr rfl;rename_i h;rcases Zkg l c with h1|h1;left;simp;omega;rw[h1]at h;simp at h
def ZDy(n:FuncId):DF:=⟨8,[.tmp 4],.seq (.reg [⟨sO 4,nO,.q .mv [.cst (.i 0)]⟩] nO) (.seq (.reg [⟨sO 5,nO,.q .mv [.tmp 0]⟩,⟨sO 6,nO,.q .mv [.tmp 1]⟩,⟨sO 7,nO,.call (.cst (.fn (.func n) [] [])) [.tmp 5,.tmp 6]⟩,⟨sO 4,nO,.q .mv [.tmp 7]⟩] nO) .ret)⟩
def Zt2{an f n}(hf:cf P an f=sO (ZDy n)){u}(h0:P.funcs[n]?=sO u)(h1:u.body=nO)(h2:(u.name == "runtime.NumGoroutine")=false)(h3:Extern.findNext u=nO)(h4:Extern.find u=sO Extern.BytealgIndexByte.indexByte){l c}:
  Zd P f [.str l,.int .u8 c] (.i (Lib.indexByte l c.toNat.toUInt8)):=by
 refine Zg hf λF s t=>?_;refine Zc (Zic (QJ rfl (by repeat(first|trivial|constructor)) (Ze8 (Zc (Zic (QJ rfl (by repeat(first|trivial|constructor)) (QJ rfl (by repeat(first|trivial|constructor)) (Zjz rfl rfl rfl rfl (by repeat(first|trivial|constructor)) h0 h1 h2 h3 h4 (d:=.int .i64 (Lib.indexByte l c.toNat.toUInt8)) (λg w vs ha=>?_)
  (QJ rfl (by repeat(first|trivial|constructor)) (Ze8 (t rfl (by repeat(first|trivial|constructor)) (ZIB _) ZIz)))))))))))
 cases ha with
 |cons a1 ha =>
 cases ha with
 |cons a2 ha =>
 cases ha;cases a1 with
 |str s _ hs hb =>
 cases a2 with
 |int _ _ hc =>
 subst hs;refine⟨_,Lib.run_indexByteString s c w,.int _ _ ?_⟩;have h1:=Lib.indexByte_ge s.data.toList c.toNat.toUInt8;have h2:=Zkg s.data.toList c.toNat.toUInt8;simp only[big]at hb;simp only[inR,IntKind.min,IntKind.max,IntKind.signed,IntKind.bits];generalize Lib.indexByte s.data.toList c.toNat.toUInt8=z at h1 h2⊢;rcases h2 with h2|h2<;>simp<;>omega
end
end Go.DL
namespace Go.DL
open Go Go.Proofs
variable {kp:Option (List Nat)}{L:Loc}{H:Env}{s:St}{w:World}{os:List DOp}{ds:List D}{B:List (Nat × Rd)}{dst:Option Nat}{tmps:Array Value}{g:G}{Φ:Res->St->Prop}{Z:Nat->Nat}{xs:List Opd}{side:Prop}{row:Nat->List D}{vs:List V}
def Zhw:∀a b:Str,Lib.compareBytes a b=YT a b
 | [],[]=>rfl
 | [],y::b=>by simp only[Lib.compareBytes,YT,Qy,List.length_nil,ZIP];rw[if_pos ω]
 |x::a,[]=>by simp only[Lib.compareBytes,YT,Qy,List.length_nil,ZIP];rw[if_neg ω,if_pos ω]
 |x::a,y::b=>by unfold Lib.compareBytes YT;simp only[UInt8.lt_iff_toNat_lt];rw[Zhw a b]
def Zwq:∀a b:Str,YT a b=-1\/YT a b=0\/YT a b=1
 | [],[]=>.inr (.inl rfl)
 | [],y::b=>by rw[<-Zhw];exact .inl rfl
 |x::a,[]=>by rw[<-Zhw];exact .inr (.inr rfl)
 |x::a,y::b=>by unfold YT;split;exact .inl rfl;split;exact .inr (.inr rfl);exact Zwq a b
def ZuM{a b:Str}:inR .i64 (YT a b):=by
 have h1:IntKind.i64.min=-9223372036854775808:=rfl;have h2:IntKind.i64.max=9223372036854775807:=rfl;unfold inR;rcases Zwq a b with h|h|h<;>rw[h]<;>omega
def Zff(a b:Str):Zd ZIy 57 [.str a,.str b] (.i (YT a b)):=by
 refine Zg (cR 57 f57) λF st t=>?_;refine gG ?_;refine Zjz rfl rfl rfl rfl (by repeat(first|trivial|constructor)) Tryz.func92 (by kernel_rfl) (by kernel_rfl) (by kernel_rfl) (e:=Extern.BytealgCompare.compare) (by kernel_rfl) (d:=.int .i64 (YT a b)) (λg w vs u=>?_) (Zm ?_)
 .cases u with
  |cons a1 u =>
  cases u with
  |cons a2 u =>
  cases u;cases a1 with
  |str s1 _ hs1 hb1 =>
  cases a2 with
  |str s2 _ hs2 hb2 =>
  subst hs1 hs2;refine⟨_,Lib.run_compareString s1 s2 w,?_⟩;rw[Zhw];exact .int _ _ ZuM
 simp only[Eqs,reduceCtorEq,ZIF,reduceIte,ZIC,ZIH,ZID];refine ri t ?_;rfl
def Za2(a b:Str):Zd ZIy 27 [.str a,.str b] (.i (YT a b)):=by
 refine Zg (cR 27 f27) λF st t=>?_;refine gG ?_;refine cl (Zff a b) ?_;refine ri t ?_;rfl
def ZmB{P:Program}{v:Value}{l:Str}(h:Rep g w v (Zk l)):∃s:ByteArray,s.data.toList=l/\(Extern.Bytes.bytesOf v).run P w=.ok s w:=by
 unfold Zk slD at h;generalize hn:I l=n at h;cases h with
 |sl0 a _ _ _ ht =>
  have h0:l=[]:=List.eq_nil_of_length_eq_zero hn;subst h0;refine⟨.empty,rfl,?_⟩;cases a with
  |none=>rfl
  |some a=>rfl
 |sl b o _ cap _ _ _ f hl hc hp hr one ht hcap hb =>
  have hx:=Lib.run_loadBytesX (P:=P) w (l.map λc:UInt8=>(c.toNat:Int)) ⟨b,o,nO⟩ .empty (λj x u=>by
   rw[List.getElem?_map]at u;have t:j<I l:=by rcases Nat.lt_or_ge j (I l) with h1|h1;exact h1;rw[ZJj h1]at u;simp at u
   have h3:=hr j 0 (.int .u8 (l.getD j dE).toNat) ω rfl;have h4:=hc j 0 ω (by decide);cases hf:f j 0<;>rw[hf]at h3<;>cases h3;rw[hf]at h4;rw[Nat.mul_one,Nat.add_zero]at h4;rw[ZI4 t]at u;simp only[ZI3,ZIx]at u;subst u;have:l.getD j dE=l[j]:=by simp[ZIN,t]
   rw[this]at h4;have e:(Addr.mk b o nO).add j=⟨b,o+j,nO⟩:=by unfold Addr.add;by_cases h0:j=0;subst h0;simp;simp[h0]
   rw[e];exact h4)
  rw[ZIU,hn]at hx;refine⟨_,?_,hx⟩;have:Lib.bytesOf (l.map λc:UInt8=>(c.toNat:Int))=l:=by
   unfold Lib.bytesOf;rw[List.map_map];conv=>rhs;rw[<-List.map_id l]
   apply List.map_congr_left;intro c _;simp
  rw[this];simp
def Znk(a b:Str):Zd ZIy 29 [Zk a,Zk b] (.i (YT a b)):=by
 refine Zg (cR 29 f29) λF st t=>?_;refine gG ?_;refine Zjz rfl rfl rfl rfl (by repeat(first|trivial|constructor)) Tryz.func59 (by kernel_rfl) (by kernel_rfl) (by kernel_rfl) (e:=Extern.BytealgCompare.compare) (by kernel_rfl) (d:=.int .i64 (YT a b)) (λg w vs ha=>?_) (Zm ?_)
 .match vs,ha with
  | [v1,v2],.cons a1 (.cons a2 .nil) =>obtain⟨s1,ac,u⟩:=ZmB (P:=ZIy) a1;obtain⟨s2,ad,ab⟩:=ZmB (P:=ZIy) a2;subst ac ad;refine⟨.i (YT s1.data.toList s2.data.toList),?_,.int _ _ ZuM⟩;change Sem.run _ (do pure (goInt (Extern.BytealgCompare.cmp (<-Extern.Bytes.bytesOf v1) (<-Extern.Bytes.bytesOf v2)))) w=_;simp only[Sem.run_bind,u,ab,Sem.run_pure,Result.andThen];rw[Lib.cmp_eq,Zhw];rfl
 simp only[Eqs,reduceCtorEq,ZIF,reduceIte,ZIC,ZIH,ZID];refine ri t ?_;rfl
def ZjW(a:Int):Zd ZIy 58 [.i a] (.bool false):=by
 refine Zg (cR 58 f58) λF st t=>?_;refine gG ?_;refine rb t ?_;simp
def ZaL(a b:Int):Zd ZIy 28 [.i a,.i b] (.i (Qy a b)):=by
 refine Zg (cR 28 f28) λF st t=>?_;have u:=Qy.eq_1 a b;refine gG ?_;refine cl (ZjW a) ?_;refine rg ?_;refine cl (ZjW b) ?_;refine rg ?_;refine iG ?_;refine iG ?_;refine cd (λh1=>?_) (λh1=>?_);rw[if_pos (by simpa using h1)]at u;refine rg ?_;refine ri t ?_;exact u.symm;rw[if_neg (by simpa using h1)]at u;refine rg ?_;refine cd (λh2=>?_) (λh2=>?_);rw[if_pos (by simpa using h2)]at u;refine rg ?_;refine ri t ?_;exact u.symm;rw[if_neg (by simpa using h2)]at u;refine rg ?_;refine ri t ?_;exact u.symm
def ZD7{L s}(l i):qv L s (.iaddr 1) [.d (KA l),.d (.i i)]=sO (0<=i/\i<I l,.d (.ep (itC (l.getD i.toNat dE)) 0)):=rfl
def ZDz{L s}(l):qv L s .lenL [.d (KA l)]=sO (True,.d (.i (I l))):=rfl
def orI:List Int->Int
 | []=>0
 |x::l=>if x≠0 then x else orI l
def ZAV{l:List Int}{i}(h:i<I l):orI (l.drop i)=if l.getD i dE≠0 then l.getD i dE else orI (l.drop (i+1)):=by
 rw[List.drop_eq_getElem_cons h];simp[orI,ZIN,h]
def Zji{l:List Int}(hb:I l<=1000):Zd ZIy 26 [KA l] (.i (orI l)):=by
 refine Zg (cR 26 f26) λF st t=>?_;refine gG ?_;refine rx @ZDz ?_;refine Ze (fr (I l) (λi Q=>orI l=orI (l.drop i)->i<=I l->Q [(3,.d (.i 0)),(6,.d (KA l)),(7,.d (.i (I l))),(8,.d (.i i))] [] st) (λn u=>?_) λab=>?_);intro i hn he hi;refine rg ?_;refine Zc (Zl rfl trivial (λhd=>?_) (λhd=>?_));simp only[decide_eq_true_eq]at hd;have hs:=ZAV (l:=l) (i:=i) ω;rw[he]at t;refine rx (nd2 @ZD7 @itC.eq_1) ?_;generalize l.getD i dE=x at *;refine aa ?_;refine rg ?_;refine cd (λh1=>?_) (λh1=>?_);refine rg ?_;refine ri t ?_;rw[hs,if_pos (by simpa using h1)];refine gA ?_;refine Zf ?_;exact u ((I l)-(i+1)) ω (i+1) rfl (by rw[he,hs,if_neg (by simpa using h1)]) ω;simp only[decide_eq_false_iff_not]at hd;obtain rfl:i=I l:=ω;refine rg ?_;refine ri t ?_;rw[he,List.drop_length];rfl;exact ab _ 0 rfl rfl ω
def ZEh{a b:Int}:(D.sl .full 2 1 (ZV [.i 0] ([0,1].zip [.i a,.i b]))).Le (KA [a,b]):=Zgb rfl λi hi=>by
 rcases(by omega:i=0\/i=1) with rfl|rfl<;>rfl
def hdC(x y:Hdr):Int:=orI [YT x.name y.name,YT x.text y.text]
def Zn4(x y:Hdr):Zd ZIy 31 [.agg x.cells,.agg y.cells] (.i (hdC x y)):=by
 refine Zg (cR 31 f31) λF st t=>?_;have u:Zd ZIy 26 [D.sl .full 2 1 (ZV [.i 0] ([0,1].zip [.i (YT x.name y.name),.i (YT x.text y.text)]))] (.i (hdC x y)):=λT=>Za.leA (.cons ZEh .nil) (Zji ψ T);unfold Hdr.cells;refine gG ?_;refine clD (Za2 x.name y.name) ?_;refine clD (Za2 x.text y.text) ?_;refine clD (u) ?_;refine ri t ?_;rfl
def Zh2(a b):Zd ZIy 30 [Yg a,Yg b,.fn (.func 31) [] []] (.i (JC a b)):=by
 refine Wc (cR 30 f30) λab F st t=>?_;have ha:=(Wm (ab (Yg a) ψ)).1;have hb:=(Wm (ab (Yg b) ψ)).1;unfold big at ha hb;clear ab;refine rg ?_;refine rx @Zg5 ?_;refine Ze (fr (I a) (λi Q=>JC a b=JC (a.drop i) (b.drop i)->i<=I a->i<=I b->Q [(0,.d (Yg a)),(1,.d (Yg b)),(2,.d (.fn (.func 31) [] [])),(13,.d (.i (min (I a:Int) (I b)))),(14,.d (.i i))] [] st) (λn u=>?_) λae=>?_);intro i hn he ac ad;refine rg ?_;refine Zc (Zl rfl trivial (λhd=>?_) (λhd=>?_));simp only[decide_eq_true_eq]at hd;have hs:=ZyP (a:=a) (b:=b) (i:=i) ω ω;rw[he]at t;generalize hx:a.getD i dE=x at *;generalize hy:b.getD i dE=y at *;refine rg ?_;refine xA (nd2 @atH (nd2 @hx (nd2 @hy @Hdr.cells.eq_1))) ?_;refine cW0 ((Zn4 x y).VT (first:=[]) (args:=[_,_]) (caps:=[]) _) ?_;refine rg ?_;refine cd (λh1=>?_) (λh1=>?_);refine rg ?_;refine ri t ?_;rw[hs];simp only[hdC,orI]at h1⊢;split<;>simp_all;refine gA ?_;refine Zf ?_;exact u ((I a)-(i+1)) ω (i+1) rfl (by rw[he,hs];simp only[hdC,orI]at h1;split<;>simp_all) ω ω;simp only[decide_eq_false_iff_not]at hd;refine rx @Zg5 ?_;refine cl (ZaL (I a) (I b)) ?_;refine ri t ?_;rw[he,ZAz ac ad ω];exact ae _ 0 rfl ψ ω ω
def Zje{a b}(ih:∀x∈a,∀w:Val,Zd ZIy 17 [.agg x.cells,.agg w.cells] (.i (Zev x w))):Zd ZIy 32 [ZZ a,ZZ b,.fn (.func 17) [] []] (.i (vcmpL a b)):=by
 refine Wc (cR 32 f32) λac F st u=>?_;have ha:=Zjg (ac (ZZ a) ψ);have hb:=Zjg (ac (ZZ b) ψ);unfold big at ha hb;clear ac;refine rg ?_;refine rx @ZbT ?_;refine Ze (fr (I a) (λi Q=>vcmpL a b=vcmpL (a.drop i) (b.drop i)->i<=I a->i<=I b->Q [(0,.d (ZZ a)),(1,.d (ZZ b)),(2,.d (.fn (.func 17) [] [])),(13,.d (.i (min (I a:Int) (I b)))),(14,.d (.i i))] [] st) (λn ab=>?_) λah=>?_);intro i hn he ad ae;refine rg ?_;refine Zc (Zl rfl trivial (λhd=>?_) (λhd=>?_));simp only[decide_eq_true_eq]at hd;have h1:i<I a:=ω;have h2:i<I b:=ω;have af:=K6 h1;have ag:=K6 h2;have hs:=ZxS h1 h2;have t:=ih _ (ZE h1) (b.getD i dE);rw[ZI2,ZI2]at t;rw[he]at u;generalize a.getD i dE=x at *;generalize b.getD i dE=y at *;refine rg ?_;refine xA (nd2 @atV (nd2 @af @ag)) ?_;refine cW0 (t.VT (first:=[]) (args:=[_,_]) (caps:=[]) _) ?_;refine rg ?_;refine cd (λh1=>?_) (λh1=>?_);refine rg ?_;refine ri u ?_;rw[hs,if_pos (by simpa using h1)];refine gA ?_;refine Zf ?_;exact ab ((I a)-(i+1)) ω (i+1) rfl (by rw[he,hs,if_neg (by simpa using h1)]) ω ω;simp only[decide_eq_false_iff_not]at hd;refine rx @ZbT ?_;refine cl (ZaL (I a) (I b)) ?_;refine ri u ?_;rw[he,ZzL ad ae ω];exact ah _ 0 rfl ψ ω ω
def vC(v w:Val):Int:=orI [YT v.name w.name,Qy v.int w.int,YT v.bytes w.bytes,JC v.hdrs w.hdrs]
def ZEm(v w):Zev v w=if vC v w≠0 then vC v w else vcmpL v.parts w.parts:=by
 rw[Zws];simp only[vC,orI]
 repeat' split
 all_goals first|rfl|(exfalso;simp_all;done)|simp_all
def Zn3(v):∀w:Val,Zd ZIy 17 [.agg v.cells,.agg w.cells] (.i (Zev v w)):=by
 induction v using Val.ind with
 |h v ih =>intro w;refine Zg (cR 17 f17) λF st t=>?_;have u:Zd ZIy 26 [D.sl .full 4 1 (ZV [.i 0] ([0,1,2,3].zip [.i (YT v.name w.name),.i (Qy v.int w.int),.i (YT v.bytes w.bytes),.i (JC v.hdrs w.hdrs)]))] (.i (vC v w)):=λT=>Za.leA (.cons (ZBz _ _ _ _) .nil) (Zji ψ T);rw[ZEm]at t;rw[v.cells_eq,w.cells_eq];refine gG ?_;refine clD (Za2 v.name w.name) ?_;refine clD (ZaL v.int w.int) ?_;refine clD (Znk v.bytes w.bytes) ?_;refine clD (Zh2 v.hdrs w.hdrs) ?_;refine clD (u) ?_;refine rg ?_;refine cd (λh1=>?_) (λh1=>?_);refine rg ?_;refine ri t ?_;rw[if_pos (by simpa using h1)];refine rg ?_;refine cl (Zje ih) ?_;refine ri t ?_;rw[if_neg (by simpa using h1)]
def ZqP(v w:Val):Zd ZIy 8 [.agg v.cells,.agg w.cells] (.bool (dC (Zev v w=0))):=by
 refine Zg (cR 8 f8) λF st t=>?_;have h:=Zn3 v w;rw[v.cells_eq,w.cells_eq]at h⊢;refine gG ?_;refine cl (h) ?_;refine ro t ?_;rfl
def Zs6(A B:List UInt8)(v w:Val):Prop:=A.take (min A.length B.length)=B.take (min A.length B.length)↔v=w
def JZ(r:Str×Int):Prop:=0<=r.2/\r.2<=9
def Zka{g:Nat->Str×Int}(h:∀i,JZ (g i)):∀{l q},JZ ((WG g l).getD (q,0))
 | [],_=>by simp[WG,JZ]
 |a::l,q=>by unfold WG;split;exact Zka h;exact h a
def Zxz(q:Str)(a b):JZ (q,Kq a b):=by
 unfold Kq JZ;split;simp;split<;>simp
def ZCz{mis d of x q}(h:∀m v p,JZ (mis m v p)):JZ (Zan mis d of x q):=by
 unfold Zan;split;exact h _ _ _;simp[JZ]
def ZAY{mis len d f x q l}(h:∀m v p,JZ (mis m v p)):JZ (Qc mis len d f x q l):=by
 have t:=Zxz q;have u:=λof=>ZCz (mis:=mis) (d:=d) (of:=of) (x:=x) (q:=q) h;unfold Qc
 repeat' split
 all_goals first|exact t _ _|exact u _|(simp[JZ];done)|exact Zka λi=>h _ _ _
def ZrE{d}:∀n m v p,JZ (Z3 d n m v p)
 |0,_,_,_=>by simp[Z3,JZ]
 |n+1,m,v,p=>by unfold Z3;split;refine Zka λk=>?_;split;simp[JZ];exact ZAY (ZrE n);simp[JZ]
def ZoL{d s v}:0<=(WM d s v).2/\(WM d s v).2<=9:=by
 unfold WM;split;split;simp;exact ZrE _ _ _ _;simp
def ZAh(l:Str)(n:Nat):D:=.sl (Zbg .none (I l) 0 n nO) ((n:Int)-0).toNat 1 (λi=>u8C (l.getD ((0:Int).toNat+i) dE))
def ZEq{L s}(l:Str)(n:Nat):qv L s (.slice 1 false true false) [.d (Zk l),.d (.i n)]=sO ((0:Int)<=0/\(0:Int)<=n/\(n:Int)<=I l/\(∀m∈(nO:Option Int),(n:Int)<=m/\m<=I l),.d (ZAh l n)):=rfl
def ZDX{L s}(l:Str)(n:Nat)(hn:n<=I l):qv L s (.conv .b2s) [.d (ZAh l n)]=sO (∀i,i<((n:Int)-0).toNat->Zki (u8C (l.getD ((0:Int).toNat+i) dE)),.d (.str (l.take n))):=by
 have h:qv L s (.conv .b2s) [.d (ZAh l n)]=sO (∀i,i<((n:Int)-0).toNat->Zki (u8C (l.getD ((0:Int).toNat+i) dE)),.d (.str ((ZIM ((n:Int)-0).toNat).map λi=>Zbm (u8C (l.getD ((0:Int).toNat+i) dE))))):=rfl;rw[h]
 congr 4
 refine List.ext_getElem (by simp;omega) λi t h2=>?_;have u:i<I l:=by simp at t;omega
 have:=l[i].toNat_lt;simp[ZIN,u,u8C,Zbm]
def ZiM(hI:Jx)(hk:Zd ZIy 5 [] (.bool true))(d:Dfn)(s:Str)(v w:Val)(hT:(Ww v=true->wtN v<=5100/\Yy v<=51)->(Ww w=true->wtN w<=5100/\Yy w<=51)->(WM d s v).2=0->(WM d s w).2=0->Zs6 (Zcw d s v) (Zcw d s w) v w):
  Zd ZIy 3 [.agg d.cells,.str s,.agg v.cells,.agg w.cells] (.bool true):=by
 refine Zg (cR 3 f3) λF st t=>?_;have af:=ZhI d v st;have ag:=ZhI d w st;have ab:=ZmE hI d s v;have ac:=ZmE hI d s w;have u:=ZqP v w;have ak:=Zqd (d:=d) (s:=s) (v:=v);have al:=Zqd (d:=d) (s:=s) (v:=w);have hev:=ZoL (d:=d) (s:=s) (v:=v);have hew:=ZoL (d:=d) (s:=s) (v:=w);unfold Zs6 at hT;have ao:v=w->Zcw d s v=Zcw d s w:=λh=>by rw[h]
 generalize (WM d s v).2=ev at *;generalize (WM d s w).2=ew at *;generalize Zcw d s v=A at *;generalize Zcw d s w=B at *;rw[v.cells_eq]at af ab u⊢;rw[w.cells_eq]at ag ac u⊢;refine rx @eQ2 ?_;refine rg ?_;refine cV (af) ?_ ?_
 .rintro dd S ⟨hS,b,hr,hs⟩;obtain rfl:=hS.symm;cases hr;refine gR0 ?_;cases b with
  |false =>refine Jw rfl (e:=.d (.bool false)) (Zm ?_);simp only[Eqs,reduceCtorEq,ZIF,reduceIte,ZIC,ZIH,ZID];refine i1 ?_;refine rg ?_;refine cl (hk) ?_;refine rb t ?_;rfl
  |true =>
   refine cV (ag) ?_ ?_;rintro dd S ⟨hS,b2,hr,am⟩;obtain rfl:=hS.symm;cases hr;refine gR0 ?_;refine cd (λh1=>?_) (λh1=>?_);refine rg ?_;refine cl (hk) ?_;refine rb t ?_;rfl;have aq:b2=true:=by simp at h1;exact h1.1
   have ad:=hs rfl;have ae:=am aq;have ap:=hT ad ae;have ah:=ab ad;have ai:=ac ae;have hlv2:=(ak ad).2;have hlw2:=(al ae).2;clear hs am af ag hT ab ac ak al;refine rx @eQ2 ?_;refine cl (ah) ?_;refine rx @eQ2 ?_;refine cl (ai) ?_;refine rg ?_;refine cl (Zkl ev) ?_;refine cl (Zkl ew) ?_;refine aa ?_;refine cd (λh2=>?_) (λh2=>?_);refine rg ?_;refine cl (hk) ?_;refine rb t ?_;rfl;have he:ev=0/\ew=0:=by simp at h2;omega
   have aj:=ap he.1 he.2;have aw:min (A.length:Int) B.length=(min A.length B.length:Nat):=ω;generalize hN:min A.length B.length=N at *;have ar:=λ(L:Loc) (s:St)=>ZDX (L:=L) (s:=s) A N ω;have au:=λ(L:Loc) (s:St)=>ZDX (L:=L) (s:=s) B N ω;refine rx (nd2 @KX @aw) ?_;refine rx (nd2 @ZEq (nd2 @ar @au)) ?_;refine⟨ω,ω,ω,λi _=>⟨_,rfl⟩,ω,ω,ω,λi _=>⟨_,rfl⟩,?_⟩;refine clD (u) ?_;refine Zn6 rfl rfl rfl rfl rfl (λav=>⟨by first|trivial|(simpa[ZgJ]using av),trivial,u⟩) (Yp ?_);simp only[Eqs,reduceCtorEq,ZIF,reduceIte,ZIC,ZIH,ZID,KX];refine cGD (hk) ?_;have hz:=ZzM v w;by_cases h3:v=w;have h4:=aj.2 h3;have h5:=hz.2 h3;have h6:=ao h3;refine rb t ?_;simp[h4,h5,h6];have h4:¬(A.take N=B.take N):=λh=>h3 (aj.1 h);have h5:¬(Zev v w=0):=λh=>h3 (hz.1 h);refine rb t ?_;simp[h4,h5];rintro dd S ⟨_,b,hr,_⟩;cases hr
 rintro dd S ⟨_,b,hr,_⟩;cases hr
def Zkp{d n m v p}(h:(Z3 d (n+1) m v p).2=0):v.name=m.name/\v.int=0/\v.bytes=[]/\v.hdrs=[]/\JJ m v.parts=true/\∀k,k<I v.parts->(ZcL d n m v p k).2=0:=by
 rw[Zko]at h;split at h;rename_i t;simp only[ZIJ,decide_eq_true_eq]at t;obtain⟨u,h2,h3,h4,h5⟩:=t;exact⟨u,h2,List.eq_nil_of_length_eq_zero h3,List.eq_nil_of_length_eq_zero h4,h5,Zca h⟩;simp at h
def ZrD{d n m v p k}(h:(ZcL d n m v p k).2=0):(Qc (Z3 d n) (lenS d n) d ((vfs m.fields).getD k dE) (v.parts.getD k dE) (ZN p (Ym v.parts k)) (ZbH m v.parts)).2=0:=by
 unfold ZcL at h;split at h;simp at h;exact h
def ZvV{d}(hal:Wk d=true):∀(n j v w p q p0 q0),j<I d.msgs->(Z3 d n (d.msgs.getD j dE) v p0).2=0->(Z3 d n (d.msgs.getD j dE) w q0).2=0->VOk v->VOk w ->
  v=w\/Wx (Yd d n (d.msgs.getD j dE) v p).b (Yd d n (d.msgs.getD j dE) w q).b
 |0,_,_,_,_,_,_,_,_,h,_,_,_=>by simp[Z3]at h
 |n+1,j,v,w,p,q,p0,q0,hj,hmv,hmw,hov,how=>by
  obtain⟨hFv,hA⟩:=ZnB hal hj hmv hov;obtain⟨ab,_⟩:=ZnB hal hj hmw how;have a8:=Q5 hal;have au:∀f∈(d.msgs.getD j dE).fields,Zeg d f:=a8.dref _ (ZE hj);have az:=(Zdf hal (n+1) j v p hj hFv.len).2.1;have a0:=(Zdf hal (n+1) j w q hj ab.len).2.1;have hr:∀{v:Val},Fit d n (d.msgs.getD j dE) v->∀x∈v.parts,∀y∈x.parts,∀p,((Yd d n (Zn d y.name) y p).b.length:Int)=lenS d n (Zn d y.name) y/\(Yd d n (Zn d y.name) y p).sums.length<=40*wtN y:=λhF x hx y hy p=>by obtain⟨k,hk,rfl⟩:=ZcK hx;obtain⟨h1,h2⟩:=(hF.len.2 k hk).2 y hy;have:=Zdf hal n (ixS d y.name) y p (by have:=QS h1;omega) h2;exact⟨this.1,this.2.2⟩
  have a4:=hr hFv;have a5:=hr ab;obtain⟨v1,v2,v3,v4,v5,v6⟩:=Zkp hmv;obtain⟨w1,w2,w3,w4,w5,w6⟩:=Zkp hmw;clear hmv hmw hr;have al:∀(u:Val) p,(Yd d n (Zn d u.name) u p).b=(Yd d n (Zn d u.name) u []).b:=λu p=>(Zgh n _ u p []).1;have ay:=λof (h0:0<=Zz d of (I d.msgs)) u u' p p' (hu:(Z3 d n (Zn d of) u p).2=0) (ah:(Z3 d n (Zn d of) u' p').2=0) (ho:VOk u) (a3:VOk u')=>ZvV hal n (ixS d of) u u' [] [] p p' (QS h0).2 hu ah ho a3;unfold Yd at az a0⊢;generalize d.msgs.getD j dE=m at *;have av:=λi (hi:i<=I m.fields)=>ZhW (rec:=λy p=>Yd d n (Zn d y.name) y p) (L:=λy=>lenS d n (Zn d y.name) y) (path:=p) hA hFv.len a4 hi;have aw:=λi (hi:i<=I m.fields)=>ZhW (rec:=λy p=>Yd d n (Zn d y.name) y p) (L:=λy=>lenS d n (Zn d y.name) y) (path:=q) hA ab.len a5 hi;have hlv:(vfs m.fields).length=I v.parts:=hFv.len.1;have hlw:(vfs m.fields).length=I w.parts:=ab.len.1;have a9:∀i,i<=I m.fields ->
    ZOk (stF (λy p=>Yd d n (Zn d y.name) y p) p m.fields v.parts i).2.b (stF (λy p=>Yd d n (Zn d y.name) y p) p m.fields v.parts i).2.n /\
    ZOk (stF (λy p=>Yd d n (Zn d y.name) y p) q m.fields w.parts i).2.b (stF (λy p=>Yd d n (Zn d y.name) y p) q m.fields w.parts i).2.n /\
    (((∀k,k<(vfs (m.fields.take i)).length->v.parts.getD k dE=w.parts.getD k dE)/\(stF (λy p=>Yd d n (Zn d y.name) y p) p m.fields v.parts i).1=(stF (λy p=>Yd d n (Zn d y.name) y p) q m.fields w.parts i).1 /\
     WEq (stF (λy p=>Yd d n (Zn d y.name) y p) p m.fields v.parts i).2 (stF (λy p=>Yd d n (Zn d y.name) y p) q m.fields w.parts i).2) \/
     Zid (stF (λy p=>Yd d n (Zn d y.name) y p) p m.fields v.parts i).2 (stF (λy p=>Yd d n (Zn d y.name) y p) q m.fields w.parts i).2):=by
   intro i;induction i with
   |zero =>intro _;exact⟨λk _=>Zig (Nat.zero_le _),λk _=>Zig (Nat.zero_le _),.inl ⟨λk hk=>absurd hk (Nat.not_lt_zero _),rfl,rfl,rfl⟩⟩
   |succ i ihi =>
    intro hi1;have hi:i<I m.fields:=ω;obtain⟨Zv,Zw,hC⟩:=ihi ω;have Sv:=av i ω;have Sw:=aw i ω;have ae:=Zwc hA hi;rw[J9,J9];unfold stE;have af:=hA.fld i hi;have ar:=au _ (ZE hi);have fv:=Jh hFv.len hi;have fw:=Jh ab.len hi;have gv:∀y∈(xAt m.fields v.parts i).parts,∀p,(Yd d n (Zn d y.name) y p).b=(Yd d n (Zn d y.name) y []).b:=λy _ p=>al y p;have gw:∀y∈(xAt m.fields w.parts i).parts,∀p,(Yd d n (Zn d y.name) y p).b=(Yd d n (Zn d y.name) y []).b:=λy _ p=>al y p;have nv:=λE w'=>Zlq (E:=E) (w:=w') hA hFv.len hi;have nw:=λE w'=>Zlq (E:=E) (w:=w') hA ab.len hi;have bv:=Sv.bok;have bw:=Sw.bok;have ov:=Sv.off;have ow:=Sw.off;have ac:=Zjf hi;have ao:=xAt.eq_1 m.fields v.parts i;have ap:=xAt.eq_1 m.fields w.parts i;generalize stF (λy p=>Yd d n (Zn d y.name) y p) p m.fields v.parts i=SV at *;generalize stF (λy p=>Yd d n (Zn d y.name) y p) q m.fields w.parts i=SW at *;obtain⟨EV,WV⟩:=SV;obtain⟨EW,WW⟩:=SW;simp only at bv bw ov ow Zv Zw hC⊢;have ai:KK (m.fields.getD i dE)=true->WV.n % 8=0:=λh=>by have:=ae h;omega
    have aq:KK (m.fields.getD i dE)=true->WW.n % 8=0:=λh=>by have:=ae h;omega
    have xv:=λE=>ZtU (path:=p) (nv E WV) bv Zv ai gv;have xw:=λE=>ZtU (path:=q) (nw E WW) bw Zw aq gw;refine⟨(xv _).2,(xw _).2,?_⟩;rcases hC with ⟨hp,hE,hW⟩|hD;subst hE;have ax:=hW.2;rw[ax];by_cases hv:YG (m.fields.getD i dE)=true;rw[if_pos hv]at ao ap ac;have aj:=((fv).1 hv).2;have ak:=((fw).1 hv).2;obtain⟨hk1,ag⟩:=Zef rfl hi hv;have mv:=ZrD (v6 (vfs (m.fields.take i)).length ω);have mw:=ZrD (w6 (vfs (m.fields.take i)).length ω);rw[ag]at mv mw;have bc:=(ZeQ hA.nm v5 (k:=(vfs (m.fields.take i)).length) ω).2;have be:=(ZeQ hA.nm w5 (k:=(vfs (m.fields.take i)).length) ω).2;have ba:v.parts.getD (vfs (m.fields.take i)).length dE∈v.parts:=ZE ω;have bb:w.parts.getD (vfs (m.fields.take i)).length dE∈w.parts:=ZE ω;have ad:∀a,a<i->YB (m.fields.getD a dE)=true->WO (m.fields.getD a dE).name (ZbH m v.parts)=WO (m.fields.getD a dE).name (ZbH m w.parts):=λa ha hn=>by
     have c1:YG (m.fields.getD a dE)=true->(vfs (m.fields.take a)).length<I v.parts:=λh=>by have:=Zh3 ha hi h;omega
     have c2:YG (m.fields.getD a dE)=true->(vfs (m.fields.take a)).length<I w.parts:=λh=>by have:=Zh3 ha hi h;omega
     unfold ZbH;rw[ZhZ ω hA.nm hn c1,ZhZ ω hA.nm hn c2];unfold ZbG;split;rfl;rename_i h2;rw[hp _ (Zh3 ha hi (ZeH hn h2))]
    have a6:(m.fields.getD i dE).kind=4\/(m.fields.getD i dE).kind=7\/(m.fields.getD i dE).kind=12->Zbd (m.fields.getD i dE).size (ZbH m v.parts)=Zbd (m.fields.getD i dE).size (ZbH m w.parts):=λhz=>by unfold Zbd;rw[Zjd λt ht=>?_];obtain⟨a,h1,h2,h3⟩:=(af.size hi hz).2 t ht;rw[<-h2];exact ad a h1 h3
    have a7:(m.fields.getD i dE).kind=9->WO (m.fields.getD i dE).tag (ZbH m v.parts)=WO (m.fields.getD i dE).tag (ZbH m w.parts):=λh9=>by obtain⟨a,h1,h2,h3⟩:=af.tag hi h9;rw[<-h2];exact ad a h1 h3
    rw[ao]at gv aj⊢;rw[ap]at gw ak⊢;rcases ZDo (g:=λu=>(Yd d n (Zn d u.name) u []).b) (path:=p) (path':=q) (E:=YK (m.fields.getD i dE).name ((WW.n / 8:Nat):Int) EV) hW bv Zv ai af ar hv gv gw (by rw[bc,be]) aj ak mv mw a6 a7 (λof u u' p p' hu ah h0 h1 h2=>by
     have e1:u.name=of:=by rw[ZdJ h1,ZeK h0]
     have e2:u'.name=of:=by rw[ZdJ h2,ZeK h0]
     simp only[e1,e2];exact ay of h0 u u' p p' h1 h2 ((hov.part ba).part hu) ((how.part bb).part ah)) with h|h
    left;refine⟨λk hk=>?_,rfl,?_⟩;rw[ac,ZII]at hk;by_cases ag:k<(vfs (m.fields.take i)).length;exact hp k ag;obtain rfl:k=(vfs (m.fields.take i)).length:=by simp only[ZIP,List.length_nil]at hk;omega
    exact h;rw[h];exact Zqi hW λy _ p p'=>Zgh n _ y p p';exact .inr h;have am:YG (m.fields.getD i dE)=false:=by simpa using hv
    rw[if_neg hv,ZI5]at ac;rw[fv.2 am,fw.2 am,ac];exact .inl ⟨hp,rfl,Zqi hW λy _ p p'=>Zgh n _ y p p'⟩;exact .inr (hD.ext (xv _).1 (xw _).1)
  obtain⟨_,_,h|h⟩:=a9 _ (ZIO _);left;refine Zdw (by rw[v1,w1]) (by rw[v2,w2]) (by rw[v3,w3]) (by rw[v4,w4]) (List.ext_getElem ω λk h1 h2=>?_);have:=h.1 k (by rw[ZJa];omega);simpa[ZIN,h1,h2]using this;right;obtain⟨k,h1,h2,h3⟩:=h;exact Wx.of_bits ω ω h3
def Zyp{A B:List UInt8}(h:A.take (min A.length B.length)=B.take (min A.length B.length)):¬Wx A B:=λ⟨i,h1,h2,t⟩=>by
 have:=congrArg (λl:List UInt8=>l.getD i 0) h;simp only[ZIN,List.getElem?_take_of_lt (show i<min A.length B.length by omega)]at this;exact t this
def ZyA{d s v w}(hs:Ww v=true->wtN v<=5100/\Yy v<=51)(hs':Ww w=true->wtN w<=5100/\Yy w<=51)(h:(WM d s v).2=0)(h':(WM d s w).2=0):Zs6 (Zcw d s v) (Zcw d s w) v w:=by
 refine⟨λht=>?_,λe=>by rw[e]⟩;obtain⟨hd,hv,hf,hm⟩:=ZhE h;obtain⟨_,ac,_,ab⟩:=ZhE h';have u:=Zqh h;obtain⟨ad,_⟩:=Zee hv hs;obtain⟨t,_⟩:=Zee ac hs';have hn:=Zyp ht;unfold Zcw at hn;rw[if_pos h,if_pos h']at hn;rcases ZvV u 51 (ixS d s) v w [] [] [] [] (QS hf).2 hm ab ad t with e|e;exact e;exact absurd e hn
def ZiN(hI:Jx)(hk:Zd ZIy 5 [] (.bool true))(d:Dfn)(s:Str)(v w:Val):Zd ZIy 3 [.agg d.cells,.str s,.agg v.cells,.agg w.cells] (.bool true) :=
 ZiM hI hk d s v w λhs t h u=>ZyA hs t h u
end Go.DL
namespace Go.DL
open Go
variable [Zs5]
variable {kp:Option (List Nat)}{L:Loc}{H:Env}{s:St}{w:World}{os:List DOp}{ds:List D}{B:List (Nat × Rd)}{dst:Option Nat}{tmps:Array Value}{g:G}{Φ:Res->St->Prop}{Z:Nat->Nat}{xs:List Opd}{side:Prop}{row:Nat->List D}{vs:List V}
def Zaj(f:V->V->Bool):List V->List V->Bool
 | [],[]=>true
 |a::x,b::y=>if f a b then Zaj f x y else false
 |_,_=>false
def ZAN(ih:V->V->Bool)(k v:V):Bool:=match k with
 |.int i a=>match v with
  |.int j b=>Zgp i j&&eqI a b
  |_=>false
 |.bool a=>match v with
  |.bool b=>a==b
  |_=>false
 |.str a=>match v with
  |.str b=>eqS a b
  |_=>false
 |.agg a=>match v with
  |.agg b=>Zaj ih a b
  |_=>false
 |.nilsl=>match v with
  |.nilsl=>true
  |_=>false
 |.sl _ m s a=>match v with
  |.sl _ m' s' b=>Nat.beq m m'&&Nat.beq s s'&&Zaj ih a b
  |_=>false
 |.nilptr=>match v with
  |.nilptr=>true
  |_=>false
 |.nilmap=>match v with
  |.nilmap=>true
  |_=>false
 |.niliface=>match v with
  |.niliface=>true
  |_=>false
 |_=>false
def ZfD(n:Nat):V->V->Bool:=Nat.rec (motive:=λ_=>V->V->Bool) (λ_ _=>false) (λ_ ih=>ZAN ih) n
def zV(n:Nat):V->V:=Nat.rec (motive:=λ_=>V->V) (λk=>k) (λ_ ih k=>match k with
 |.agg a=>.agg (a.map ih)
 |.sl _ m s a=>.sl 0 m s (a.map ih)
 |k=>k) n
def ZyZ{J J'}:∀(n) {k v d},ZfD n k v=true->VR J v d->VR J' (zV n k) d
 |0,k,v,d,h,_=>by simp[ZfD]at h
 |n+1,k,v,d,h,hv=>by
  have ih:=λ{k v:V} {d:D}=>ZyZ (J:=J) (J':=J') n (k:=k) (v:=v) (d:=d);have ac:∀{a b:List V} {ds:List D},Zaj (ZfD n) a b=true->VRs J b ds->VRs J' (a.map (zV n)) ds:=by
   intro a;induction a with
   |nil =>
    intro b ds h hb;cases b with
    |nil=>obtain rfl:=hb.inv0;exact .nil
    |cons _ _=>simp[Zaj]at h
   |cons x a iha =>
    intro b ds h hb;cases b with
    |nil=>simp[Zaj]at h
    |cons y b =>simp only[Zaj]at h;split at h<;>(try(simp at h;done));rename_i hx;obtain⟨d,ds',rfl,h1,h2⟩:=hb.inv;exact .cons _ _ _ _ (ih hx h1) (iha h h2)
  have ab:∀{s:Nat} {a b:List V} {row:Nat->List D},Zaj (ZfD n) a b=true->VRr J s b row->VRr J' s (a.map (zV n)) row/\I a=I b:=by
   intro s a;induction a with
   |nil =>
    intro b row h hb;cases b with
    |nil=>exact⟨.nil _ _,rfl⟩
    |cons _ _=>simp[Zaj]at h
   |cons x a iha =>
    intro b row h hb;cases b with
    |nil=>simp[Zaj]at h
    |cons y b =>
     simp only[Zaj]at h;split at h<;>(try(simp at h;done));rename_i hx;obtain⟨cs,rfl,h1,h2,h3⟩:=hb.inv;obtain⟨g1,g2⟩:=iha h h3;have hz:=ih hx (.agg _ _ h1);obtain⟨t,u,hl⟩:∃t,zV n x=.agg t/\VRs J' t (row 0):=by
      generalize he:zV n x=z at hz;cases hz with
      |agg t _ h=>exact⟨t,rfl,h⟩
     refine⟨?_,by simp[g2]⟩;rw[ZIQ,u];exact .cons _ _ _ _ hl (by rw[hl.len,<-h1.len,h2]) g1
  have h':ZAN (ZfD n) k v=true:=h;cases k<;>simp only[ZAN,ZI7]at h'<;>cases hv<;>simp only[ZI7]at h';case int =>simp only[ZIJ,Q7]at h';obtain⟨h1,rfl⟩:=h';obtain rfl:=Zfx h1;exact .int _ _
  case bool=>simp only[beq_iff_eq]at h';subst h';exact .bool _
  case str a b =>rw[ZoC,decide_eq_true_eq]at h';show VR J' (.str a) _;rw[<-h'];exact .str _
  case agg a b ds hb=>exact .agg _ _ (ac h' hb)
  case nilsl=>exact .nilsl
  case sl =>simp only[ZIJ,Z1]at h';obtain⟨⟨rfl,rfl⟩,h3⟩:=h';obtain⟨g1,g2⟩:=ab h3 ‹VRr J _ _ _›;exact .sl _ _ _ _ _ _ g1 (by rw[ZIU,g2];assumption) (.inl rfl)
  case nilptr=>exact .nilptr
  case nilmap=>exact .nilmap
  case niliface=>exact .niliface
def ZoW:Option Out->Bool
 |some o=>match o.pan with
  |false=>match o.v with
   |.bool b=>b
   |_=>false
  |true=>false
 |none=>false
def ZyS{x}(h:ZoW x=true):∃U nx,x=sO ⟨false,.bool true,U,nx⟩:=by
 cases x with
 |none=>simp[ZoW]at h
 |some o =>obtain⟨pan,v,U,nx⟩:=o;cases pan<;>cases v<;>simp[ZoW]at h;subst h;exact⟨U,nx,rfl⟩
def ZfA(f0:FuncId)(f:FuncId):Option (S->List V->Option V):=match Nat.beq f f0 with
 |true=>sO λ_ vs=>match vs with
  | [.str s,.int k c]=>match k with
   |.u8=>sO (.i (Zt0 c.toNat s))
   |_=>nO
  |_=>nO
 |false=>nO
def ZCs{P:Program}{mu:FuncId->Option Nat->Bool}{f0 n:FuncId}(hf:cf P [] f0=sO (ZDy n)){fn:Func}(h0:P.funcs[n]?=sO fn)(h1:fn.body=nO)(h2:(fn.name == "runtime.NumGoroutine")=false)(h3:Extern.findNext fn=nO)(h4:Extern.find fn=sO Extern.BytealgIndexByte.indexByte)(t:St):QY ⟨⟨P,ZfA f0,mu⟩,t⟩:=by
 intro f g U vs v u hg J ds s hv hS;simp only[ZfA]at u;split at u<;>simp only[ZIx,reduceCtorEq]at u;rename_i hb;rw[Z1]at hb;subst hb;subst u;simp only at hg;split at hg<;>(try(simp at hg;done));split at hg<;>simp only[ZIx,reduceCtorEq]at hg;subst hg;obtain⟨d,d',rfl,a1,a2⟩:=hv.inv2;cases a1;cases a2;refine⟨_,.int _ _,?_⟩;rename_i l c;rw[ZvZ];exact Zt2 hf h0 h1 h2 h3 h4 s
def ZC0{C:Cx}(hlib:∀t,QY ⟨C,t⟩){f:FuncId}{m:Nat}(h:ZoW ((Zik C f).run (run C m) [] T.nil 2)=true):Zd C.P f [] (.bool true):=by
 obtain⟨U,nx,h⟩:=ZyS h;refine Zob ?_;have u:=Zpk hlib (λC' ih he u=>Zwi (by subst he;exact hlib _) u) m St.emp;refine(Znl (C:=⟨C,St.emp⟩) (hlib _) u h .nil Zy5 (ZBn C nm0 St.emp)).mono λr s hp=>?_;obtain⟨J',d',k1,k2,k3,k4,k5⟩:=hp;cases k4;exact k5
def Ya.mslo{t Ln b o n cap sz ds row}(hb:b∈Ln)(ht:t b=sO (.cells ds))(hlen:n*sz<=I ds-o)(hrow:∀i,i<n->LdC t Ln ((ds.drop (o+i*sz)).take sz) (row i)):Ya t Ln (.msl b o n cap sz) (.sl .none n sz row):=by
 intro g w v hf hr;obtain⟨vs,T,hh,hsz,hc,one,hp⟩:=hf b hb ds ht;cases hr with
 |mslx a _ _ _=>exact .sl0 _ _ _ _ ψ
 |msl _ _ _ _ _ hcap hbig =>
 have ab:∀i j,i<n->j<sz->o+i*sz+j<I ds:=λi j hi hj=>by have:(i+1)*sz<=n*sz:=ZIT _ hi;rw[ZIX,Nat.one_mul]at this;omega
 have u:∀i j,i<n->j<sz->vs[o+i*sz+j]?=sO (vs.getD (o+i*sz+j) undef):=λi j hi hj=>by have h1:=ab i j hi hj;simp[Array.getElem?_eq_getElem (show o+i*sz+j<vs.size by omega)]
 have ac:∀i j,i<n->j<sz->vs.getD (o+i*sz+j) undef∈vs:=λi j hi hj=>by have h1:=ab i j hi hj;simp only[ZJm,Array.getElem?_eq_getElem (show o+i*sz+j<vs.size by omega)];exact Array.getElem_mem _
 have ad:∀i,i<n->(row i).length=sz:=λi hi=>by rw[<-(hrow i hi).len,ZIS,ZI8];have:(i+1)*sz<=n*sz:=ZIT _ hi;rw[ZIX,Nat.one_mul]at this;omega
 refine .sl b o n cap sz row .none (λi j=>vs.getD (o+i*sz+j) undef) ad (λi j hi hj=>?_) (λi j hi hj=>?_) (λi j d hi hd=>?_) (λi j hi hj=>one _ (ac i j hi hj)) trivial hcap hbig;rw[JO hh];exact u i j hi hj;have:=ab i j hi hj;omega;have hj:j<sz:=by rw[<-ad i hi];exact(List.getElem?_eq_some_iff.1 hd).1
 obtain⟨x,hx,ae⟩:=(hrow i hi).get hd;rw[ZJf,if_pos hj,List.getElem?_drop]at hx;exact ae g w _ hf (hc _ _ x (u i j hi hj) hx)
def Ya.tup{t Ln l l'}(h:LdC t Ln l l'):Ya t Ln (.tup l) (.tup l'):=by
 intro g w v hf hr;cases hr with
 |tup vs _ hn hc =>refine .tup vs _ (hn.trans h.len) (λi v d hv hd=>?_);obtain⟨x,hx,u⟩:=h.get hd;exact u g w v hf (hc i v x hv hx)
def Ya.iface{t Ln T d u}(h:Ya t Ln d u):Ya t Ln (.iface T d) (.iface T u):=by
 intro g w v hf hr;cases hr with
 |iface _ v _ hv=>exact .iface T v u (h g w v hf hv)
def Ya.sl{t}{Ln}{τ}{n sz}{row row'}(hrow:∀i,i<n->LdC t Ln (row i) (row' i)):Ya t Ln (.sl τ n sz row) (.sl .none n sz row'):=by
 intro g w v hf hr;cases hr with
 |sl0 a _ _ _ _=>exact .sl0 a _ _ _ ψ
 |sl b o _ cap _ _ _ f hl hc hp hrr one ht hcap hb =>refine .sl b o n cap sz row' .none f (λi hi=>by rw[<-(hrow i hi).len];exact hl i hi) hc hp (λi j d hi hd=>?_) one trivial hcap hb;obtain⟨x,hx,u⟩:=(hrow i hi).get hd;exact u g w _ hf (hrr i j x hi hx)
def Ya.more{t Ln Ln' d u}(h:Ya t Ln d u)(hs:∀b∈Ln,b∈Ln'):Ya t Ln' d u:=λg w v hf hr=>h g w v (λb hb=>hf b (hs b hb)) hr
def LdC.more{t Ln Ln' l l'}(h:LdC t Ln l l')(u:∀b∈Ln,b∈Ln'):LdC t Ln' l l':=by
 induction h with
 |nil=>exact .nil
 |cons h _ ih=>exact .cons (h.more u) ih
def Yf.frz{g s w}(m:Yf g s w){Ln}(hL:∀b∈Ln,∃ds,s b=sO (.cells ds)):Yf (KF g s Ln) (s.delL Ln) w:=by
 have hx:=Js m hL;have u:∀c,c∉Ln->(KF g s Ln).prot c=g.prot c:=λc hc=>by simp[KF,if_neg hc]
 refine⟨λc x t=>?_,λc x t=>?_,λc hc=>?_,λn cs hc=>(m.tabs n cs hc).mono hx⟩;simp[St.delL]at t;by_cases hc:c∈Ln;simp[hc]at t;simp[hc]at t;exact(m.obj c x t).mono hx rfl (u c hc);simp[St.delL]at t;by_cases hc:c∈Ln;simp[hc]at t;simp[hc]at t;exact m.kept c x t;have h1:=m.fresh c hc;refine⟨(u c λh=>?_).trans h1.1,h1.2⟩;obtain⟨ds,hd⟩:=hL c h;have:=(m.obj c _ hd).lt;omega
def Za.frz{P f args s Φ d0}(h:Za P f args s Φ)(hp:∀r s',Φ r s'->∃d Ln,r=.ret d/\(∀b∈Ln,∃ds,s' b=sO (.cells ds))/\Ya s' Ln d d0):Za P f args s λr _=>r=.ret d0:=by
 refine⟨h.1,λg w vs hs ha=>(h.2 g w vs hs ha).mono λe w' ⟨g',s',r,hx,t,hr,hΦ⟩=>?_⟩;obtain⟨d,Ln,rfl,hL,u⟩:=hp r s' hΦ;refine⟨KF g' s' Ln,s'.delL Ln,.ret d0,hx.trans (Js t hL),t.frz hL,?_,rfl⟩;cases e with
 |returned v=>exact u _ w' v (ZeZ t hL) (Rep.mono hr (Js t hL))
 |_=>exact hr.elim
def rdL(f:V->Option V):List V->Option (List V)
 | []=>sO []
 |v::l=>match f v with
  |some r=>J0 r (rdL f l)
  |none=>nO
def Zd4(f:V->Option V)(s:Nat):List V->Option (List V)
 | []=>sO []
 |.agg cs::l=>match Nat.beq (I cs) s with
  |true=>match rdL f cs with
   |some r=>J0 (.agg r) (Zd4 f s l)
   |none=>nO
  |false=>nO
 |_::_=>nO
def Zfm(s:Nat):Nat->List V->Option (List V)
 |0,_=>sO []
 |n+1,l=>match Zbf s l with
  |some c=>J0 (.agg c) (Zfm s n (ZbB s l))
  |none=>nO
def rd(U:S):Nat->V->Option V
 |0,_=>nO
 |n+1,v=>match v with
  |.int k a=>sO (.int k a)
  |.bool b=>sO (.bool b)
  |.str s=>sO (.str s)
  |.nilsl=>sO .nilsl
  |.nilptr=>sO .nilptr
  |.nilmap=>sO .nilmap
  |.nilfn=>sO .nilfn
  |.niliface=>sO .niliface
  |.agg cs=>match rdL (rd U n) cs with
   |some r=>sO (.agg r)
   |none=>nO
  |.tup cs=>match rdL (rd U n) cs with
   |some r=>sO (.tup r)
   |none=>nO
  |.iface t x=>match rd U n x with
   |some r=>sO (.iface t r)
   |none=>nO
  |.sl _ m s rs=>match Nat.beq (I rs) m with
   |true=>match Zd4 (rd U n) s rs with
    |some r=>sO (.sl 0 m s r)
    |none=>nO
   |false=>nO
  |.msl k o m _ s=>match ZaW (U.get k) with
   |some vs=>match Zbf (m*s) (ZbB o vs) with
    |some cs=>match Zfm s m cs with
     |some rs=>match Zd4 (rd U n) s rs with
      |some r=>sO (.sl 0 m s r)
      |none=>nO
     |none=>nO
    |none=>nO
   |none=>nO
  |_=>nO
def dV:Nat->V->D
 |0,_=>.undef
 |n+1,v=>match v with
  |.int k a=>.int k a
  |.bool b=>.bool b
  |.str s=>.str (s.map UInt8.ofNat)
  |.nilsl=>.nilsl
  |.nilptr=>.nilptr
  |.nilmap=>.nilmap
  |.nilfn=>.nilfn
  |.niliface=>.niliface
  |.agg cs=>.agg (cs.map (dV n))
  |.tup cs=>.tup (cs.map (dV n))
  |.iface t x=>.iface t (dV n x)
  |.sl _ m s rs=>.sl .none m s λi=>match rs[i]? with
   |some (.agg cs)=>cs.map (dV n)
   |_=>[]
  |_=>.undef
def ZBk(n:Nat)(rs:List V)(i:Nat):List D:=match rs[i]? with
 |some (.agg cs)=>cs.map (dV n)
 |_=>[]
def Zwg{f}:∀{vs rs},rdL f vs=sO rs->I rs=I vs
 | [],rs,h=>by cases h;rfl
 |v::vs,rs,h=>by simp[rdL]at h;split at h<;>(try(grind;done));obtain⟨q,t,rfl⟩:=KO h;simp[Zwg t]
def ZfK{U n}(ih:∀v r,rd U n v=sO r->∀J,VR J r (dV n r)):∀{vs rs},rdL (rd U n) vs=sO rs->∀J,VRs J rs (rs.map (dV n))
 | [],rs,h,J=>by cases h;exact .nil
 |v::vs,rs,h,J=>by simp[rdL]at h;split at h<;>(try(grind;done));rename_i r u;obtain⟨q,t,rfl⟩:=KO h;exact .cons _ _ _ _ (ih v r u J) (ZfK ih t J)
def Zhe{U n sz}(ih:∀v r,rd U n v=sO r->∀J,VR J r (dV n r)):∀{vs rs},Zd4 (rd U n) sz vs=sO rs->I rs=I vs/\∀J,VRr J sz rs (ZBk n rs)
 | [],rs,h=>by cases h;exact⟨rfl,λ_=>.nil _ _⟩
 |v::vs,rs,h=>by cases v<;>simp[Zd4]at h;split at h<;>(try(grind;done));rename_i t;rw[Z1]at t;split at h<;>(try(grind;done));rename_i r u;obtain⟨q,hq,rfl⟩:=KO h;obtain⟨h1,h2⟩:=Zhe ih hq;exact⟨by simp[h1],λJ=>.cons _ _ _ _ (ZfK ih u J) (by rw[Zwg u,t]) (h2 J)⟩
def Zol{sz}:∀{m cs rs},Zfm sz m cs=sO rs->I rs=m
 |0,cs,rs,h=>by cases h;rfl
 |m+1,cs,rs,h=>by simp[Zfm]at h;split at h<;>(try(grind;done));obtain⟨q,hq,rfl⟩:=KO h;simp[Zol hq]
def ZlU{U}:∀(n v r),rd U n v=sO r->∀J,VR J r (dV n r)
 |0,v,r,h=>by simp[rd]at h
 |n+1,v,r,h=>λJ=>by
  have ih:=ZlU (U:=U) n;cases v<;>simp only[rd,ZIx,reduceCtorEq]at h;case int=>subst h;exact .int _ _
  case bool=>subst h;exact .bool _
  case str=>subst h;exact .str _
  case nilsl=>subst h;exact .nilsl
  case nilptr=>subst h;exact .nilptr
  case nilmap=>subst h;exact .nilmap
  case nilfn=>subst h;exact .nilfn
  case niliface=>subst h;exact .niliface
  case agg cs =>split at h<;>simp only[ZIx,reduceCtorEq]at h;rename_i q hq;subst h;exact .agg _ _ (ZfK ih hq J)
  case tup cs =>split at h<;>simp only[ZIx,reduceCtorEq]at h;rename_i q hq;subst h;exact .tup _ _ (ZfK ih hq J)
  case iface t x =>split at h<;>simp only[ZIx,reduceCtorEq]at h;rename_i q hq;subst h;exact .iface _ _ _ (ih x q hq J)
  case sl t m sz rs =>split at h<;>(try(simp only[reduceCtorEq]at h;done));rename_i hb;rw[Z1]at hb;split at h<;>simp only[ZIx,reduceCtorEq]at h;rename_i q hq;subst h;obtain⟨h1,h2⟩:=Zhe ih hq;exact .sl _ _ _ _ _ _ (h2 J) (h1.trans hb) (.inl rfl)
  case msl k o m cap sz =>split at h<;>(try(simp only[reduceCtorEq]at h;done));split at h<;>(try(simp only[reduceCtorEq]at h;done));split at h<;>(try(simp only[reduceCtorEq]at h;done));rename_i rs u;split at h<;>simp only[ZIx,reduceCtorEq]at h;rename_i q hq;subst h;obtain⟨h1,h2⟩:=Zhe ih hq;exact .sl _ _ _ _ _ _ (h2 J) (h1.trans (Zol u)) (.inl rfl)
def ZwG(J:Nm)(U:S)(s:St)(n:Nat):Prop:=∀v r d,rd U n v=sO r->VR J v d->∃Ln,(∀b∈Ln,∃ds,s b=sO (.cells ds))/\Ya s Ln d (dV n r)
def ZhO{J U s n}(ih:ZwG J U s n):∀{vs rs ds},rdL (rd U n) vs=sO rs->VRs J vs ds ->
  ∃Ln,(∀b∈Ln,∃ds,s b=sO (.cells ds))/\LdC s Ln ds (rs.map (dV n))
 | [],rs,ds,h,hv=>by obtain rfl:=hv.inv0;cases h;exact⟨[],ψ,.nil⟩
 |v::vs,rs,ds,h,hv=>by obtain⟨d,ds',rfl,h1,h2⟩:=hv.inv;simp[rdL]at h;split at h<;>(try(grind;done));rename_i r hr;obtain⟨q,hq,rfl⟩:=KO h;obtain⟨L1,a1,a2⟩:=ih v r d hr h1;obtain⟨L2,t,u⟩:=ZhO ih hq h2;refine⟨L1++L2,λb hb=>?_,.cons (a2.more λb hb=>by simp[hb]) (u.more λb hb=>by simp[hb])⟩;rcases List.mem_append.1 hb with hb|hb;exact a1 b hb;exact t b hb
def ZkH{J}{U}{s}{n sz}(ih:ZwG J U s n):∀{vs rs} {row},Zd4 (rd U n) sz vs=sO rs->VRr J sz vs row ->
  ∃Ln,(∀b∈Ln,∃ds,s b=sO (.cells ds))/\∀i,i<I vs->LdC s Ln (row i) (ZBk n rs i)
 | [],rs,row,h,hv=>⟨[],ψ,ψ⟩
 |v::vs,rs,row,h,hv=>by
  obtain⟨cs,rfl,h1,h2,h3⟩:=hv.inv;simp[Zd4]at h;split at h<;>(try(grind;done));split at h<;>(try(grind;done));rename_i r hr;obtain⟨q,hq,rfl⟩:=KO h;obtain⟨L1,a1,a2⟩:=ZhO ih hr h1;obtain⟨L2,t,u⟩:=ZkH ih hq h3;refine⟨L1++L2,λb hb=>?_,λi hi=>?_⟩;rcases List.mem_append.1 hb with hb|hb;exact a1 b hb;exact t b hb;cases i with
  |zero=>exact a2.more λb hb=>by simp[hb]
  |succ i =>have:=u i (by simpa using hi);exact LdC.more this λb hb=>by simp[hb]
def Zq9{J sz}:∀{m cs rs ds},Zfm sz m cs=sO rs->VRs J cs ds->I rs=m/\VRr J sz rs λi=>(ds.drop (i*sz)).take sz
 |0,cs,rs,ds,h,hv=>by cases h;exact⟨rfl,.nil _ _⟩
 |m+1,cs,rs,ds,h,hv=>by
  simp[Zfm]at h;split at h<;>(try(grind;done));rename_i c hc;obtain⟨q,hq,rfl⟩:=KO h;obtain⟨c1,rfl⟩:=Zaa hc;rw[Jp]at hq;obtain⟨u,t⟩:=Zq9 hq (hv.drop sz);refine⟨by simp[u],.cons _ _ _ _ (by simpa using hv.take sz) (by simp;omega) ?_⟩;have e:(λi=>((ds.drop sz).drop (i*sz)).take sz)=λi=>(ds.drop ((i+1)*sz)).take sz:=by funext i;rw[List.drop_drop,ZIX,Nat.one_mul,Nat.add_comm]
  rw[e]at t;exact t
def Zzf{J U s n}(ih:ZwG J U s n)(hS:ZsO J U s){k b o m cap sz cv cs rs q}(hk:J k=sO (.tip b))(hcv:ZaW (U.get k)=sO cv)(t:Zbf (m*sz) (ZbB o cv)=sO cs)(hrs:Zfm sz m cs=sO rs)(hq:Zd4 (rd U n) sz rs=sO q):
  ∃Ln,(∀b∈Ln,∃ds,s b=sO (.cells ds))/\Ya s Ln (.msl b o m cap sz) (.sl .none m sz (ZBk n q)):=by
 obtain⟨ds,ex,u,hv⟩:=hS _ _ _ hcv hk;rw[Jp]at t;obtain⟨c1,rfl⟩:=Zaa t;obtain⟨e1,e2⟩:=Zq9 hrs ((hv.drop o).take (m*sz));obtain⟨L,a1,a2⟩:=ZkH ih hq e2;have hl:=hv.len;rw[ZI8,hl]at c1;refine⟨b::L,λc hc=>?_,Ya.mslo (ds:=ds++ex) ψ u (by rw[ZII];omega) (λi hi=>?_)⟩;rcases List.mem_cons.1 hc with rfl|hc;exact⟨_,u⟩;exact a1 c hc;have h1:=a2 i ω;have hm:(i+1)*sz<=m*sz:=ZIT _ hi;rw[ZIX,Nat.one_mul]at hm;have e:((((ds.drop o).take (m*sz)).drop (i*sz)).take sz)=((ds++ex).drop (o+i*sz)).take sz:=by rw[List.drop_take,List.take_take,List.drop_drop,Nat.min_eq_left ω,List.drop_append,List.take_append_of_le_length (by rw[ZI8];omega)]
 rw[e]at h1;exact h1.more λb u=>by simp[u]
def ZsJ{J U s}(hS:ZsO J U s):∀n,ZwG J U s n
 |0=>λv r d h _=>by simp[rd]at h
 |n+1=>λv r d h hv=>by
  have ih:=ZsJ hS n;have nn:∀b∈([]:List Nat),∃ds,s b=sO (.cells ds):=by simp
  cases hv<;>simp only[rd,ZIx,reduceCtorEq]at h;case int=>subst h;exact⟨[],nn,Ya.refl _⟩
  case bool=>subst h;exact⟨[],nn,Ya.refl _⟩
  case str=>subst h;exact⟨[],nn,Ya.refl _⟩
  case nilsl=>subst h;exact⟨[],nn,Ya.refl _⟩
  case nilptr=>subst h;exact⟨[],nn,Ya.refl _⟩
  case nilmap=>subst h;exact⟨[],nn,Ya.refl _⟩
  case nilfn=>subst h;exact⟨[],nn,Ya.refl _⟩
  case niliface=>subst h;exact⟨[],nn,Ya.refl _⟩
  case agg cs ds hc =>split at h<;>simp only[ZIx,reduceCtorEq]at h;rename_i q hq;subst h;obtain⟨L,a1,a2⟩:=ZhO ih hq hc;exact⟨L,a1,Ya.agg a2⟩
  case tup cs ds hc =>split at h<;>simp only[ZIx,reduceCtorEq]at h;rename_i q hq;subst h;obtain⟨L,a1,a2⟩:=ZhO ih hq hc;exact⟨L,a1,Ya.tup a2⟩
  case iface t x d hx =>split at h<;>simp only[ZIx,reduceCtorEq]at h;rename_i q hq;subst h;obtain⟨L,a1,a2⟩:=ih x q d hq hx;exact⟨L,a1,Ya.iface a2⟩
  case sl t m sz rs τ row hr hn ht =>split at h<;>(try(simp only[reduceCtorEq]at h;done));split at h<;>simp only[ZIx,reduceCtorEq]at h;rename_i q hq;subst h;obtain⟨L,a1,a2⟩:=ZkH ih hq hr;exact⟨L,a1,Ya.sl (λi hi=>a2 i ω)⟩
  case msl k b o m cap sz hk =>split at h<;>(try(simp only[reduceCtorEq]at h;done));rename_i cv ab;split at h<;>(try(simp only[reduceCtorEq]at h;done));rename_i cs u;split at h<;>(try(simp only[reduceCtorEq]at h;done));rename_i rs ac;split at h<;>simp only[ZIx,reduceCtorEq]at h;rename_i q hq;subst h;exact Zzf ih hS hk ab u ac hq
  case gsl k b o m cap sz c hk _ _ _ =>split at h<;>(try(simp only[reduceCtorEq]at h;done));rename_i cv ab;split at h<;>(try(simp only[reduceCtorEq]at h;done));rename_i cs u;split at h<;>(try(simp only[reduceCtorEq]at h;done));rename_i rs ac;split at h<;>simp only[ZIx,reduceCtorEq]at h;rename_i q hq;subst h;exact Zzf ih hS hk ab u ac hq
def ZBh(n:Nat):Option Out->Option V
 |some o=>match o.pan with
  |false=>rd o.U n o.v
  |true=>nO
 |none=>nO
def Zqo{J J' a}:∀{ks vs ds},Zaj (ZfD a) ks vs=true->VRs J vs ds->VRs J' (ks.map (zV a)) ds
 | [],[],ds,_,hb=>by obtain rfl:=hb.inv0;exact .nil
 | [],_::_,ds,h,_=>by cases h
 |_::_,[],ds,h,_=>by cases h
 |x::ks,y::vs,ds,h,hb=>by simp only[Zaj]at h;split at h<;>(try(grind;done));rename_i hx;obtain⟨d,ds',rfl,t,u⟩:=hb.inv;exact .cons _ _ _ _ (ZyZ a hx t) (Zqo h u)
structure Zc7 where
 f:FuncId
 a:Nat
 n:Nat
 ks:List V
 r:V
def Zbo(P:Program)(k:Zc7):Prop:=∀(vs:List V) (J:Nm) (ds:List D),Zaj (ZfD k.a) k.ks vs=true->VRs J vs ds->Zd P k.f ds (dV k.n k.r)/\VR J k.r (dV k.n k.r)
def ZlN{C}(hlib:∀t,QY ⟨C,t⟩)(k){m}(h:ZBh k.n ((Zik C k.f).run (run C m) (k.ks.map (zV k.a)) T.nil 2)=sO k.r):Zbo C.P k:=by
 intro vs J ds hm hv;cases ho:(Zik C k.f).run (run C m) (k.ks.map (zV k.a)) T.nil 2 with
 |none=>rw[ho]at h;cases h
 |some o =>rw[ho]at h;simp[ZBh]at h;split at h<;>(try(grind;done));rename_i ac;have ab:=Zpk hlib (λC' ih he ab=>Zwi (by subst he;exact hlib _) ab) m St.emp;have u:=Znl (C:=⟨C,St.emp⟩) (hlib _) ab ho (Zqo hm hv) Zy5 (ZBn C nm0 St.emp);refine⟨Zob (u.frz λr s hp=>?_),?_⟩;obtain⟨J',d',k1,k2,k3,k4,k5⟩:=hp;rw[ac]at k5;obtain⟨Ln,a1,a2⟩:=ZsJ (λ_ _ _ h hb=>k3.cells h hb) k.n o.v k.r d' h k4;exact⟨d',Ln,k5,a1,a2⟩;exact ZlU k.n o.v k.r h J
def Zqy(f:FuncId):List Zc7->List Zc7
 | []=>[]
 |k::l=>match Nat.beq f k.f with
  |true=>k::Zqy f l
  |false=>Zqy f l
def Zix:List Zc7->List V->Option V
 | [],_=>nO
 |k::l,vs=>match Zaj (ZfD k.a) k.ks vs with
  |true=>sO k.r
  |false=>Zix l vs
def Zw1(ih:V->Bool):V->Bool
 |.int _ _=>true
 |.bool _=>true
 |.str _=>true
 |.nilsl=>true
 |.nilptr=>true
 |.nilmap=>true
 |.nilfn=>true
 |.niliface=>true
 |.agg cs=>cs.all ih
 |.tup cs=>cs.all ih
 |_=>false
def ZsC(n:Nat):V->Bool:=Nat.rec (motive:=λ_=>V->Bool) (λ_=>false) (λ_ ih=>Zw1 ih) n
def ZvU{N m}:∀(n) {v},ZsC n v=true->SC N (dV m v)
 |0,v,h=>by cases h
 |n+1,v,h=>by
  have h':Zw1 (ZsC n) v=true:=h;cases m with
  |zero=>exact .undef
  |succ m =>
   have t:∀{cs:List V},cs.all (ZsC n)=true->∀c∈cs.map (dV m),SC N c:=λ{cs} hc c hm=>by obtain⟨x,u,rfl⟩:=List.mem_map.1 hm;exact ZvU n (List.all_eq_true.1 hc x u)
   cases v<;>simp only[Zw1,ZI7]at h'<;>simp[dV];case int=>exact .int _ _
   case bool=>exact .bool _
   case str=>exact .str _
   case nilsl=>exact .nilsl
   case nilptr=>exact .nilptr
   case nilmap=>exact .nilmap
   case nilfn=>exact .nilfn
   case niliface=>exact .niliface
   case agg cs=>exact .agg _ (t h')
   case tup cs=>exact .tup _ (t h')
def ZAL(f0:FuncId)(K:List Zc7)(f:FuncId):Option (S->List V->Option V):=match Zqy f K with
 | []=>ZfA f0 f
 |k::l=>sO λU vs=>match Zix (k::l) vs with
  |some r=>sO r
  |none=>match rdL (rd U 40) vs with
   |some ws=>match Zix (k::l) ws with
    |some r=>noV (ZsC 40 r) (sO r)
    |none=>nO
   |none=>nO
def ZfP{f}:∀{K k},k∈Zqy f K->k∈K/\k.f=f
 | [],k,h=>by simp[Zqy]at h
 |x::K,k,h=>by simp only[Zqy]at h;split at h;rename_i t;rw[Z1]at t;rcases List.mem_cons.1 h with rfl|h;exact⟨ψ,t.symm⟩;exact⟨by simp[(ZfP h).1],(ZfP h).2⟩;exact⟨by simp[(ZfP h).1],(ZfP h).2⟩
def Zrj{vs v}:∀{K},Zix K vs=sO v->∃k∈K,Zaj (ZfD k.a) k.ks vs=true/\v=k.r
 | [],h=>by simp[Zix]at h
 |x::K,h=>by simp only[Zix]at h;split at h;rename_i hm;simp only[ZIx]at h;exact⟨x,ψ,hm,h.symm⟩;obtain⟨k,t,u⟩:=Zrj h;exact⟨k,by simp[t],u⟩
def Zze{U n vs rs}(h:rdL (rd U n) vs=sO rs)(J):VRs J rs (rs.map (dV n)):=ZfK (λv r h J=>ZlU n v r h J) h J
def ZCt{P mu f0 K}(h0:∀t,QY ⟨⟨P,ZfA f0,mu⟩,t⟩)(hK:∀k∈K,Zbo P k)(t):QY ⟨⟨P,ZAL f0 K,mu⟩,t⟩:=by
 intro f g U vs v u hg J ds s hv hS;simp[ZAL]at u;split at u;exact h0 t f g U vs v u hg J ds s hv hS;rename_i k l hs;cases u;have ac:∀{ws:List V} {v:V},Zix (k::l) ws=sO v->∃k':Zc7,f=k'.f/\v=k'.r/\∀(J:Nm) (ds:List D),VRs J ws ds->Zd P k'.f ds (dV k'.n k'.r)/\VR J k'.r (dV k'.n k'.r):=λ{ws v} hk=>by obtain⟨k',h1,h2,rfl⟩:=Zrj hk;rw[<-hs]at h1;obtain⟨h3,rfl⟩:=ZfP h1;exact⟨k',rfl,rfl,λJ ds hv=>hK k' h3 ws J ds h2 hv⟩
 simp only at hg;split at hg;rename_i r hr;cases hg;obtain⟨k',rfl,rfl,hk⟩:=ac hr;obtain⟨h4,h5⟩:=hk J ds hv;exact⟨_,h5,h4 s⟩;split at hg<;>(try(grind;done));rename_i ws ab;split at hg<;>(try(grind;done));rename_i r hr;unfold noV at hg;split at hg<;>simp at hg;rename_i ad;subst hg;obtain⟨k',rfl,rfl,hk⟩:=ac hr;obtain⟨Ln,a1,a2⟩:=ZhO (ZsJ hS 40) ab hv;obtain⟨h4,h5⟩:=hk J _ (Zze ab J);refine⟨_,h5,(Za.lend a1 a2 (h4 _) ?_).mono ?_⟩;rintro r S ⟨rfl,rfl⟩;exact⟨ZvU 40 ad,λb o hb=>by simp at hb⟩;rintro r S ⟨S',⟨rfl,rfl⟩,_,rfl⟩;exact⟨rfl,rfl⟩
def LdC.le0{Ln l l'}(h:LdC St.emp Ln l l'):LeC l l':=by
 induction h with
 |nil=>exact .nil
 |cons h _ ih=>exact .cons (λg w v u=>h g w v (λb _ ds t=>by simp[St.emp]at t) u) ih
def Zrz{P}{k}(hc:Zd P k.f (k.ks.map (dV 40)) (dV k.n k.r))(t:rdL (rd T.nil 40) (k.ks.map (zV k.a))=sO k.ks)(u:rd T.nil k.n k.r=sO k.r):Zbo P k:=by
 intro vs J ds hm hv;obtain⟨Ln,_,a2⟩:=ZhO (s:=St.emp) (ZsJ (λ_ _ _ h hb=>(ZBn ⟨P,λ_=>nO,λ_ _=>false⟩ nm0 St.emp).cells h hb) 40) t (Zqo (J':=nm0) hm hv);exact⟨hc.leA a2.le0,ZlU k.n k.r k.r u J⟩
end Go.DL
namespace Go.DL
open Go Go.Proofs
variable {kp:Option (List Nat)}{L:Loc}{H:Env}{s:St}{w:World}{os:List DOp}{ds:List D}{B:List (Nat × Rd)}{dst:Option Nat}{tmps:Array Value}{g:G}{Φ:Res->St->Prop}{Z:Nat->Nat}{xs:List Opd}{side:Prop}{row:Nat->List D}{vs:List V}
def Zkq(f:FuncId)(_:Option Nat):Bool:=Zg7 f [16,23,42,43,75,76,78,79,106,107,108,109,110,123,124,137,138,141,143,144,145,146,147,148,149,151,152,153,154,155,156,157,159,160,190,195,196,275]
def Zfz(t:St):QY ⟨⟨ZIy,ZfA 100,Zkq⟩,t⟩ :=
 ZCs (n:=130) (by kernel_rfl) Tryz.func130 (by kernel_rfl) (by kernel_rfl) (by kernel_rfl) (by kernel_rfl) t
def ZEr:V:=.agg [.str [100],.sl 0 1 2 [.agg [.str [109],.sl 0 4 15 [.agg [.str [97],.i 1,.i 4,.bool false,.bool false,.i 0,.i 15,.i 0,.nilsl,.str [],.str [],.str [],.nilsl,.i 0,.i 0],.agg [.str [107],.i 2,.i 4,.bool false,.bool false,.i 5,.i 0,.i 0,.nilsl,.str [],.str [],.str [],.nilsl,.i 0,.i 0],.agg [.str [98],.i 5,.i 0,.bool false,.bool false,.i 0,.i 3,.i 0,.nilsl,.str [],.str [],.str [],.nilsl,.i 0,.i 0],.agg [.str [115],.i 11,.i 0,.bool false,.bool false,.i 0,.i 0,.i 0,.nilsl,.str [],.str [],.str [97],.nilsl,.i 1,.i 0]]]],.str [109]]
def kf0:Zc7:=⟨74,40,40,[ZEr],.bool true⟩
def kf1:Zc7:=⟨188,40,40,[.sl 0 1 1 [.agg [.str [97]]],.str [46]],.str [97]⟩
def kf2:Zc7:=⟨188,40,40,[.sl 0 1 1 [.agg [.str [98]]],.str [46]],.str [98]⟩
def kf3:Zc7:=⟨10,40,40,[.str [109,40,97,61,49,50,32,98,35,54,49,54,50,41]],.tup [.agg [.str [109],.i 0,.nilsl,.nilsl,.sl 0 2 5 [.agg [.str [97],.i 12,.nilsl,.nilsl,.nilsl],.agg [.str [98],.i 0,.sl 0 2 1 [.agg [.int .u8 97],.agg [.int .u8 98]],.nilsl,.nilsl]]],.i 0]⟩
def kf4:Zc7:=⟨10,40,40,[.str [109,40,97,61,49,54,32,98,41]],.tup [.agg [.str [109],.i 0,.nilsl,.nilsl,.sl 0 2 5 [.agg [.str [97],.i 16,.nilsl,.nilsl,.nilsl],.agg [.str [98],.i 0,.nilsl,.nilsl,.nilsl]]],.i 0]⟩
def Zv1(l:List Str)(hn:I l<=100)(hj:(joinL l [46]).length<=1000)(hr:∀i,i<I l->row i=[.str (l.getD i dE)]){n:Nat}(u:n=I l){r:List UInt8}(t:r=joinL l [46]):Zd ZIy 188 [.sl .none n 1 row,.str [46]] (.str r):=by
 subst u;subst t;have h:ZX Zb1 row l:=hr;exact(Zc1 l ω ω).leA (LeC.two (h.le rfl) (ZIB _))
def ZEc:Zbo ZIy kf1:=Zrz (Zv1 [[97]] (by decide) (by decide) (λi t=>by match i,t with|0,_=>rfl) rfl rfl) (by kernel_rfl) (by kernel_rfl)
def ZEd:Zbo ZIy kf2:=Zrz (Zv1 [[98]] (by decide) (by decide) (λi t=>by match i,t with|0,_=>rfl) rfl rfl) (by kernel_rfl) (by kernel_rfl)
def ZEs:Zbo ZIy kf0:=ZlN (C:=⟨ZIy,ZfA 100,Zkq⟩) Zfz kf0 (m:=20000) (by kernel_rfl)
def ZEe:Zbo ZIy kf3:=ZlN (C:=⟨ZIy,ZfA 100,Zkq⟩) Zfz kf3 (m:=20000) (by kernel_rfl)
def ZEf:Zbo ZIy kf4:=ZlN (C:=⟨ZIy,ZfA 100,Zkq⟩) Zfz kf4 (m:=20000) (by kernel_rfl)
def ZCn:∀k∈([kf0,kf1,kf2,kf3,kf4]:List Zc7),Zbo ZIy k:=by
 intro k t;simp only[ZJd,List.not_mem_nil,or_false]at t;rcases t with rfl|rfl|rfl|rfl|rfl;exact ZEs;exact ZEc;exact ZEd;exact ZEe;exact ZEf
def Zqm:Zd ZIy 5 [] (.bool true):=ZC0 (C:=⟨ZIy,ZAL 100 [kf0,kf1,kf2,kf3,kf4],Zkq⟩) (ZCt Zfz ZCn) (m:=100000) (by kernel_rfl)
end Go.DL
