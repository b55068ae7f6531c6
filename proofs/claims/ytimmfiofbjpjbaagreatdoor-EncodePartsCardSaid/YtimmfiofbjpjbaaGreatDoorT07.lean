/- Lemmas: K16i, Top1, TopV, TopI, C16t. -/
import Derived.Test.YtimmfiofbjpjbaaGreatDoorT06
import Derived.Test.YtimmfiofbjpjbaaGreatDoorRows
set_option maxHeartbeats 16000000
set_option maxRecDepth 100000
set_option linter.all false
open List renaming length->I
open Option renaming some -> sO, none -> nO
open Inhabited renaming default -> dE
open Decidable renaming decide -> dC
open Bool renaming and_eq_true -> ZHG
open Go.Proofs.Tryz renaming prog -> ZHv
open Option.some renaming injEq -> ZHu
namespace Go.DL
open Go Go.Proofs
variable {kp:Option (List Nat)}{L:Loc}{H:Env}{s:St}{w:World}{os:List DOp}{ds:List D}{B:List (Nat × Rd)}{dst:Option Nat}{tmps:Array Value}{g:G}{Φ:Res->St->Prop}{Z:Nat->Nat}{xs:List Opd}{side:Prop}{row:Nat->List D}{vs:List V}
def Zpq(n:Nat):List Nat:=if n<10 then [48+n] else if n<100 then [48+n / 10,48+n % 10] else [48+n / 100,48+n / 10 % 10,48+n % 10]
def ZBb{n:Nat}(h:n<510):(Zpq n).map UInt8.ofNat=ZaI n:=by
 unfold Zpq;split;rename_i i;rw[KN i];rfl;rename_i i;rw[ZhU i,KN (n:=n % 10) ω];split;rw[KN (n:=n / 10) ω];rfl;rw[ZhU (n:=n / 10) ω,KN (n:=n / 10 / 10) ω,KN (n:=n / 10 % 10) ω,Nat.div_div_eq_div_mul];rfl
def eqN:List Nat->List Nat->Bool
 | [],[]=>true
 |a::r,b::t=>Nat.beq a b&&eqN r t
 |_,_=>false
def ZxF:∀{a b:List Nat},eqN a b=true->a=b
 | [],[],_=>rfl
 | [],_::_,h=>by simp[eqN]at h
 |_::_,[],h=>by simp[eqN]at h
 |a::r,b::t,h=>by simp only[eqN,ZHG]at h;rw[Nat.eq_of_beq_eq_true h.1,ZxF h.2]
def isT(n:Nat):Option V->Bool
 |some (.str s)=>eqN s (Zpq n)
 |_=>false
def ZCE{n:Nat}:∀{o:Option V},isT n o=true->o=sO (.str (Zpq n))
 |some (.str s),h=>by rw[ZxF h]
def ZvO(f:Nat->Option V):Nat->Bool
 |0=>true
 |n+1=>isT n (f n)&&ZvO f n
def ZuO{f:Nat->Option V}:∀{n i:Nat},ZvO f n=true->i<n->f i=sO (.str (Zpq i))
 |n+1,i,h,hi=>by simp only[ZvO,ZHG]at h;by_cases e:i=n;rw[e];exact ZCE h.1;exact ZuO h.2 ω
def kI(n:Nat):ZcT:=⟨116,40,40,[.i (Int.ofNat n)],.str (Zpq n)⟩
def ZxW{n:Nat}(h:Zbf ZHv (kI n))(u:n<510):Zf ZHv 116 [.i n] (.str (ZaI n)):=by
 have t:=(h [.i n] nm0 [.i n] (by
  have i:Zfg 40 (.i n) (.i n)=true:=by show(Zf2 .i64 .i64&&eqI n n)=true;rw[Q9.2 rfl];rfl
  show Zak (Zfg 40) [.i n] [.i n]=true;simp only[Zak,i,if_true]) (.cons _ _ _ _ (.int _ _) .nil)).1
 rw[<-ZBb u];exact t
def ZzN:ZvO (λn=>ZAj (kI n).n ((ZhP ⟨ZHv,Zfd 87,ZjQ⟩ (kI n).f).run (run ⟨ZHv,Zfd 87,ZjQ⟩ 1000) ((kI n).ks.map (zV (kI n).a)) T.nil 2)) 510=true:=by kernel_rfl
def ZBq:Jd:=λn i=>by
 have h:=ZuO ZzN i;have t:=Zk7 (C:=⟨ZHv,Zfd 87,ZjQ⟩) Zfc (kI n) (m:=1000) h;exact ZxW t i
section
variable {H:Type} {enc:TypeId × Value->H} {w:World}
def ZBQ:ZaX enc ZHv w 298 λds=>∃x:Yw,ds=x.cells:=by
 refine(K0 (P:=ZHv) (q:=λ_=>True) Tryz.underlying298 (Rs:=[_,_]) (.cons (QH Tryz.underlying9) (.cons (JW Tryz.underlying3) .nil)) (by kernel_rfl)).imp ?_;rintro ds ⟨_,_,rfl,⟨a,rfl⟩,_,_,rfl,⟨b,rfl⟩,rfl⟩;exact⟨⟨a,b⟩,rfl⟩
def ZAg:ZaX enc ZHv w 40 λds=>∃l:List Yw,ds=[Yj l] :=
 Zai (q:=λ_=>True) (f:=Yw.cells) Tryz.underlying40 (by kernel_rfl) (by decide) (λ_=>rfl) ZBQ
def ZBP:ZaX enc ZHv w 42 λds=>∃x:ZbA,ds=x.cells:=by
 refine(K0 (P:=ZHv) (q:=λ_=>True) Tryz.underlying42 (Rs:=[_,_]) (.cons (JW Tryz.underlying3) (.cons ZAg .nil)) (by kernel_rfl)).imp ?_;rintro ds ⟨_,_,rfl,⟨a,rfl⟩,_,_,rfl,⟨b,rfl⟩,rfl⟩;exact⟨⟨a,b⟩,rfl⟩
def ZBL:ZaX enc ZHv w 220 λds=>∃x:Y6,ds=x.cells:=by
 refine(K0 (P:=ZHv) (q:=λ_=>True) Tryz.underlying220 (Rs:=[_,_,_]) (.cons (JW Tryz.underlying3) (.cons (JW Tryz.underlying3) (.cons (QH Tryz.underlying9) .nil))) (by kernel_rfl)).imp ?_;rintro ds ⟨_,_,rfl,⟨a,rfl⟩,_,_,rfl,⟨b,rfl⟩,_,_,rfl,⟨c,rfl⟩,rfl⟩;exact⟨⟨a,b,c⟩,rfl⟩
def ZAf:ZaX enc ZHv w 43 λds=>∃l:List Y6,ds=[WP l] :=
 Zai (q:=λ_=>True) (f:=Y6.cells) Tryz.underlying43 (by kernel_rfl) (by decide) (λ_=>rfl) ZBL
def ZCW:ZaX enc ZHv w 45 λds=>∃x:Fld,ds=x.cells:=by
 have u:=QH (p:=λ_=>True) (enc:=enc) (P:=ZHv) (w:=w) Tryz.underlying9;have t:=JW (p:=λ_=>True) (enc:=enc) (P:=ZHv) (w:=w) Tryz.underlying3;have hb:=ZwB (p:=λ_=>True) (enc:=enc) (P:=ZHv) (w:=w) Tryz.underlying4;have hk:=JW (p:=λ_=>True) (enc:=enc) (P:=ZHv) (w:=w) Tryz.underlying39;refine(K0 (P:=ZHv) (q:=λ_=>True) Tryz.underlying45 (Rs:=[_,_,_,_,_,_,_,_,_,_,_,_,_,_]) (.cons u (.cons hk (.cons t (.cons hb (.cons hb (.cons t (.cons t (.cons ZBP (.cons u (.cons u (.cons u (.cons ZAf (.cons t (.cons t .nil)))))))))))))) (by kernel_rfl)).imp ?_;rintro ds ⟨_,_,rfl,⟨a,rfl⟩,_,_,rfl,⟨b,rfl⟩,_,_,rfl,⟨c,rfl⟩,_,_,rfl,⟨d,rfl⟩,_,_,rfl,⟨e,rfl⟩,_,_,rfl,⟨f,rfl⟩,_,_,rfl,⟨g,rfl⟩,_,_,rfl,⟨h,rfl⟩,_,_,rfl,⟨i,rfl⟩,_,_,rfl,⟨j,rfl⟩,_,_,rfl,⟨k,rfl⟩,_,_,rfl,⟨l,rfl⟩,_,_,rfl,⟨m,rfl⟩,_,_,rfl,⟨n,rfl⟩,rfl⟩;exact⟨⟨a,b,c,d,e,f,g,h,i,j,k,l,m,n⟩,rfl⟩
def ZBM:ZaX enc ZHv w 36 λds=>∃l:List Fld,ds=[Zr l] :=
 Zai (q:=λ_=>True) (f:=Fld.cells) Tryz.underlying36 (by kernel_rfl) (by decide) (λ_=>rfl) ZCW
def ZCX:ZaX enc ZHv w 38 λds=>∃x:Msg,ds=x.cells:=by
 refine(K0 (P:=ZHv) (q:=λ_=>True) Tryz.underlying38 (Rs:=[_,_]) (.cons (QH Tryz.underlying9) (.cons ZBM .nil)) (by kernel_rfl)).imp ?_;rintro ds ⟨_,_,rfl,⟨a,rfl⟩,_,_,rfl,⟨b,rfl⟩,rfl⟩;exact⟨⟨a,b⟩,rfl⟩
def ZBO:ZaX enc ZHv w 22 λds=>∃l:List Msg,ds=[YF l] :=
 Zai (q:=λ_=>True) (f:=Msg.cells) Tryz.underlying22 (by kernel_rfl) (by decide) (λ_=>rfl) ZCX
def ZCV:ZaX enc ZHv w 24 λds=>∃x:Dfn,ds=x.cells:=by
 refine(K0 (P:=ZHv) (q:=λ_=>True) Tryz.underlying24 (Rs:=[_,_,_]) (.cons (QH Tryz.underlying9) (.cons ZBO (.cons (QH Tryz.underlying9) .nil))) (by kernel_rfl)).imp ?_;rintro ds ⟨_,_,rfl,⟨a,rfl⟩,_,_,rfl,⟨b,rfl⟩,_,_,rfl,⟨c,rfl⟩,rfl⟩;exact⟨⟨a,b,c⟩,rfl⟩
end
section
variable {H:Type} {enc:TypeId × Value->H} {w:World} {p:Nat->Prop}
def ZAh:Ke p enc ZHv w 25 λds=>∃b:Str,ds=[Zh b] :=
 Zai (q:=λ_=>True) (f:=u8C) Tryz.underlying25 (by kernel_rfl) (by decide) (λ_=>rfl) ((Zir Tryz.underlying5).imp λds ⟨n,i,h⟩=>⟨UInt8.ofNat n.toNat,by
  subst h;unfold inR IntKind.min IntKind.max at i;simp[IntKind.signed,IntKind.bits]at i;simp only[u8C,UInt8.toNat_ofNat',List.cons.injEq,D.int.injEq,true_and,and_true];omega⟩)
def ZBN:Ke p enc ZHv w 26 λds=>∃l:List Hdr,ds=[Yc l]:=by
 refine Zai (q:=λ_=>True) (f:=Hdr.cells) Tryz.underlying26 (by kernel_rfl) (by decide) (λ_=>rfl) ((K0 (P:=ZHv) (q:=λ_=>True) Tryz.underlying70 (Rs:=[_,_]) (.cons (QH Tryz.underlying9) (.cons (QH Tryz.underlying9) .nil)) (by kernel_rfl)).imp ?_);rintro ds ⟨_,_,rfl,⟨a,rfl⟩,_,_,rfl,⟨b,rfl⟩,rfl⟩;exact⟨⟨a,b⟩,rfl⟩
def Zvm:∀N:Nat,Ke (λn=>n<N) enc ZHv w 29 λds=>∃x:Val,ds=x.cells
 |0=>λfuel cs x h=>absurd h (Nat.not_lt_zero _)
 |N+1=>by
  refine(K0 (P:=ZHv) (q:=λn=>n<N) Tryz.underlying29 (Rs:=[_,_,_,_,_]) (.cons (QH Tryz.underlying9) (.cons (JW Tryz.underlying3) (.cons ZAh (.cons ZBN
   (.cons (Zj9 (q:=λn=>n<N) (f:=Val.cells) (row:=Zbv) (λl i h=>Zb3 h) Tryz.underlying27 (by kernel_rfl) (by decide) Val.len (Zvm N) (λn h=>by omega)) .nil))))) (by kernel_rfl) (λn h=>by omega)).imp ?_
  rintro ds ⟨_,_,rfl,⟨a,rfl⟩,_,_,rfl,⟨b,rfl⟩,_,_,rfl,⟨c,rfl⟩,_,_,rfl,⟨d,rfl⟩,_,_,rfl,⟨e,rfl⟩,rfl⟩;exact⟨.mk a b c d e,rfl⟩
def ZCY:ZaX enc ZHv w 29 λds=>∃x:Val,ds=x.cells:=λi t x _ h=>Zvm (i+1) i t x (Nat.lt_succ_self _) h
end
end Go.DL
namespace Go.DL
open Go Go.ChangeShapes Go.RowKit Go.WideShapes Go.ChangeAt
variable [Zsc] {P:Program} {H:Type} {enc:TypeId × Value->H}
def ZiL{t k}(u:P.underlying t=sO (.int k)):ZcR enc P t λx=>∃n,inR k n/\x=.int k n :=
 ZeV (λW base v i=>by obtain⟨a,rfl⟩:=okWide_int u i;rfl) (λW=>Zir u) λds ⟨n,hr,hn⟩=>⟨_,hn,n,hr,rfl⟩
end Go.DL
namespace Go.Proofs.YtimmfiofbjpjbaaGreatDoor
open Go Go.DL Go.ChangeShapes Go.WideShapes Go.ChangeAt Go.RowKit Go.Lib
set_option linter.unusedVariables false
def own:ownKnob Tryz.prog.godebug=nO:=by kernel_rfl
def laidOut:laidOutB ZHv=true:=by kernel_rfl
def tabsOk{W:World}(h:laidMet ZHv Rows.encodePartsRow.laid W):Zns W:=by
 intro n cs hn;have i:(match Nat.beq n 3 with
  |true=>sO (Zty.map λz=>D.int .u64 z)
  |false=>nO)=sO cs:=hn
 split at i;rename_i u;obtain rfl:n=3:=Nat.eq_of_beq_eq_true u;simp only[ZHu]at i;subst i;have ht:TabIs ZHv W "internal/strconv.uint64pow10" .u64 Zty :=
  tabIs_of_head (g:=3) (t:=279) (e:=192) (n:=20) (by kernel_rfl) (by kernel_rfl) Tryz.underlying279 Tryz.underlying192 (by kernel_rfl) (by kernel_rfl) h.tail.tail
 exact ZB1 ht (by kernel_rfl) (by unfold inR;decide);simp at i
end Go.Proofs.YtimmfiofbjpjbaaGreatDoor
