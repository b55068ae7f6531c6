/- Lemmas: Top1, TopV, Y02, TopW, C16t. -/
import Derived.Test.YtnkifankoijebaaGreatDoorT06
import Derived.Test.YtnkifankoijebaaGreatDoorRows
set_option maxHeartbeats 16000000
set_option maxRecDepth 100000
set_option linter.all false
open List renaming length->I
open Option renaming some -> sO, none -> nO
open Inhabited renaming default -> dE
open Decidable renaming decide -> dC
open Go.Proofs.Tryz renaming prog -> ZHP
open Option.some renaming injEq -> ZHQ
namespace Go.DL
open Go Go.Proofs
variable {kp:Option (List Nat)}{L:Loc}{H:Env}{s:St}{w:World}{os:List DOp}{ds:List D}{B:List (Nat × Rd)}{dst:Option Nat}{tmps:Array Value}{g:G}{Φ:Res->St->Prop}{Z:Nat->Nat}{xs:List Opd}{side:Prop}{row:Nat->List D}
section
variable {H:Type} {enc:TypeId × Value->H} {w:World}
def ZAE:Za2 enc ZHP w 195 λds=>∃x:YF,ds=x.cells:=by
 refine(Kq (P:=ZHP) (q:=λ_=>True) Tryz.underlying195 (Rs:=[_,_]) (.cons (KH Tryz.underlying9) (.cons (JP Tryz.underlying3) .nil)) (by kernel_rfl)).imp ?_;rintro ds ⟨_,_,rfl,⟨a,rfl⟩,_,_,rfl,⟨b,rfl⟩,rfl⟩;exact⟨⟨a,b⟩,rfl⟩
def Zzo:Za2 enc ZHP w 53 λds=>∃l:List YF,ds=[Z4 l] :=
 ZaW (q:=λ_=>True) (f:=YF.cells) Tryz.underlying53 (by kernel_rfl) (by decide) (λ_=>rfl) ZAE
def ZAD:Za2 enc ZHP w 55 λds=>∃x:JX,ds=x.cells:=by
 refine(Kq (P:=ZHP) (q:=λ_=>True) Tryz.underlying55 (Rs:=[_,_]) (.cons (JP Tryz.underlying3) (.cons Zzo .nil)) (by kernel_rfl)).imp ?_;rintro ds ⟨_,_,rfl,⟨a,rfl⟩,_,_,rfl,⟨b,rfl⟩,rfl⟩;exact⟨⟨a,b⟩,rfl⟩
def ZAz:Za2 enc ZHP w 150 λds=>∃x:YE,ds=x.cells:=by
 refine(Kq (P:=ZHP) (q:=λ_=>True) Tryz.underlying150 (Rs:=[_,_,_]) (.cons (JP Tryz.underlying3) (.cons (JP Tryz.underlying3) (.cons (KH Tryz.underlying9) .nil))) (by kernel_rfl)).imp ?_;rintro ds ⟨_,_,rfl,⟨a,rfl⟩,_,_,rfl,⟨b,rfl⟩,_,_,rfl,⟨c,rfl⟩,rfl⟩;exact⟨⟨a,b,c⟩,rfl⟩
def Zzm:Za2 enc ZHP w 56 λds=>∃l:List YE,ds=[Z2 l] :=
 ZaW (q:=λ_=>True) (f:=YE.cells) Tryz.underlying56 (by kernel_rfl) (by decide) (λ_=>rfl) ZAz
def ZBG:Za2 enc ZHP w 58 λds=>∃x:Fld,ds=x.cells:=by
 have r:=KH (p:=λ_=>True) (enc:=enc) (P:=ZHP) (w:=w) Tryz.underlying9;have o:=JP (p:=λ_=>True) (enc:=enc) (P:=ZHP) (w:=w) Tryz.underlying3;have t:=Zv5 (p:=λ_=>True) (enc:=enc) (P:=ZHP) (w:=w) Tryz.underlying4;have u:=JP (p:=λ_=>True) (enc:=enc) (P:=ZHP) (w:=w) Tryz.underlying52;refine(Kq (P:=ZHP) (q:=λ_=>True) Tryz.underlying58 (Rs:=[_,_,_,_,_,_,_,_,_,_,_,_,_,_]) (.cons r (.cons u (.cons o (.cons t (.cons t (.cons o (.cons o (.cons ZAD (.cons r (.cons r (.cons r (.cons Zzm (.cons o (.cons o .nil)))))))))))))) (by kernel_rfl)).imp ?_;rintro ds ⟨_,_,rfl,⟨a,rfl⟩,_,_,rfl,⟨b,rfl⟩,_,_,rfl,⟨c,rfl⟩,_,_,rfl,⟨d,rfl⟩,_,_,rfl,⟨e,rfl⟩,_,_,rfl,⟨f,rfl⟩,_,_,rfl,⟨g,rfl⟩,_,_,rfl,⟨h,rfl⟩,_,_,rfl,⟨i,rfl⟩,_,_,rfl,⟨j,rfl⟩,_,_,rfl,⟨k,rfl⟩,_,_,rfl,⟨l,rfl⟩,_,_,rfl,⟨m,rfl⟩,_,_,rfl,⟨n,rfl⟩,rfl⟩;exact⟨⟨a,b,c,d,e,f,g,h,i,j,k,l,m,n⟩,rfl⟩
def ZAA:Za2 enc ZHP w 49 λds=>∃l:List Fld,ds=[Zp l] :=
 ZaW (q:=λ_=>True) (f:=Fld.cells) Tryz.underlying49 (by kernel_rfl) (by decide) (λ_=>rfl) ZBG
def ZBH:Za2 enc ZHP w 51 λds=>∃x:Msg,ds=x.cells:=by
 refine(Kq (P:=ZHP) (q:=λ_=>True) Tryz.underlying51 (Rs:=[_,_]) (.cons (KH Tryz.underlying9) (.cons ZAA .nil)) (by kernel_rfl)).imp ?_;rintro ds ⟨_,_,rfl,⟨a,rfl⟩,_,_,rfl,⟨b,rfl⟩,rfl⟩;exact⟨⟨a,b⟩,rfl⟩
def ZAC:Za2 enc ZHP w 22 λds=>∃l:List Msg,ds=[Z0 l] :=
 ZaW (q:=λ_=>True) (f:=Msg.cells) Tryz.underlying22 (by kernel_rfl) (by decide) (λ_=>rfl) ZBH
def ZxB:Za2 enc ZHP w 24 λds=>∃x:Dfn,ds=x.cells:=by
 refine(Kq (P:=ZHP) (q:=λ_=>True) Tryz.underlying24 (Rs:=[_,_,_]) (.cons (KH Tryz.underlying9) (.cons ZAC (.cons (KH Tryz.underlying9) .nil))) (by kernel_rfl)).imp ?_;rintro ds ⟨_,_,rfl,⟨a,rfl⟩,_,_,rfl,⟨b,rfl⟩,_,_,rfl,⟨c,rfl⟩,rfl⟩;exact⟨⟨a,b,c⟩,rfl⟩
end
section
variable {H:Type} {enc:TypeId × Value->H} {w:World} {p:Nat->Prop}
def Zzp:WX p enc ZHP w 25 λds=>∃b:Str,ds=[Zg b] :=
 ZaW (q:=λ_=>True) (f:=u8C) Tryz.underlying25 (by kernel_rfl) (by decide) (λ_=>rfl) ((Ziw Tryz.underlying5).imp λds ⟨n,i,h⟩=>⟨UInt8.ofNat n.toNat,by
  subst h;unfold inR IntKind.min IntKind.max at i;simp[IntKind.signed,IntKind.bits]at i;simp only[u8C,UInt8.toNat_ofNat',List.cons.injEq,D.int.injEq,true_and,and_true];omega⟩)
def ZAB:WX p enc ZHP w 26 λds=>∃l:List Hdr,ds=[Zx l]:=by
 refine ZaW (q:=λ_=>True) (f:=Hdr.cells) Tryz.underlying26 (by kernel_rfl) (by decide) (λ_=>rfl) ((Kq (P:=ZHP) (q:=λ_=>True) Tryz.underlying82 (Rs:=[_,_]) (.cons (KH Tryz.underlying9) (.cons (KH Tryz.underlying9) .nil)) (by kernel_rfl)).imp ?_);rintro ds ⟨_,_,rfl,⟨a,rfl⟩,_,_,rfl,⟨b,rfl⟩,rfl⟩;exact⟨⟨a,b⟩,rfl⟩
def Zu5:∀N:Nat,WX (λn=>n<N) enc ZHP w 29 λds=>∃x:Val,ds=x.cells
 |0=>λfuel cs x h=>absurd h (Nat.not_lt_zero _)
 |N+1=>by
  refine(Kq (P:=ZHP) (q:=λn=>n<N) Tryz.underlying29 (Rs:=[_,_,_,_,_]) (.cons (KH Tryz.underlying9) (.cons (JP Tryz.underlying3) (.cons Zzp (.cons ZAB
   (.cons (Zkb (q:=λn=>n<N) (f:=Val.cells) (row:=Za8) (λl i h=>ZcP h) Tryz.underlying27 (by kernel_rfl) (by decide) Val.len (Zu5 N) (λn h=>by omega)) .nil))))) (by kernel_rfl) (λn h=>by omega)).imp ?_
  rintro ds ⟨_,_,rfl,⟨a,rfl⟩,_,_,rfl,⟨b,rfl⟩,_,_,rfl,⟨c,rfl⟩,_,_,rfl,⟨d,rfl⟩,_,_,rfl,⟨e,rfl⟩,rfl⟩;exact⟨.mk a b c d e,rfl⟩
def ZBI:Za2 enc ZHP w 29 λds=>∃x:Val,ds=x.cells:=λi o x _ h=>Zu5 (i+1) i o x (Nat.lt_succ_self _) h
end
section
variable {H:Type} {enc:TypeId × Value->H} {w:World} {p:Nat->Prop}
def ZxC:WX p enc ZHP w 25 λds=>∃b:Str,I b<=140737488351232/\ds=[Zg b]:=by
 refine(Zck (n:=1) (q:=λ_=>True) (f:=u8C) (Qx:=λ_=>True) (row:=λl i=>u8C (l.getD i dE)) (λ_ _ _=>rfl) Tryz.underlying25 (by kernel_rfl) (by decide) (λ_=>rfl) ((Ziw Tryz.underlying5).imp λds ⟨n,r,h⟩=>⟨UInt8.ofNat n.toNat,trivial,by
  subst h;unfold inR IntKind.min IntKind.max at r;simp[IntKind.signed,IntKind.bits]at r;simp only[u8C,UInt8.toNat_ofNat',List.cons.injEq,D.int.injEq,true_and,and_true];omega⟩)).imp ?_
 rintro ds ⟨l,_,o,rfl⟩;rw[show Program.bytesOf ZHP 5=1 by kernel_rfl,Nat.mul_one]at o;exact⟨l,o,rfl⟩
def Zzn:WX p enc ZHP w 26 λds=>∃l:List Hdr,I l*32<=140737488351232/\ds=[Zx l]:=by
 refine(Zck (n:=2) (q:=λ_=>True) (f:=Hdr.cells) (Qx:=λ_=>True) (row:=λl i=>Hdr.cells (l.getD i dE)) (λ_ _ _=>rfl) Tryz.underlying26 (by kernel_rfl) (by decide) (λ_=>rfl) ((Kq (P:=ZHP) (q:=λ_=>True) Tryz.underlying82 (Rs:=[_,_]) (.cons (KH Tryz.underlying9) (.cons (KH Tryz.underlying9) .nil)) (by kernel_rfl)).imp ?_)).imp ?_;rintro ds ⟨_,_,rfl,⟨a,rfl⟩,_,_,rfl,⟨b,rfl⟩,rfl⟩;exact⟨⟨a,b⟩,trivial,rfl⟩;rintro ds ⟨l,_,o,rfl⟩;rw[show Program.bytesOf ZHP 82=32 by kernel_rfl]at o;exact⟨l,o,rfl⟩
def Ztl:∀N:Nat,WX (λn=>n<N) enc ZHP w 29 λds=>∃x:Val,ZeB x/\ds=x.cells
 |0=>λfuel cs x h=>absurd h (Nat.not_lt_zero _)
 |N+1=>by
  refine(Kq (P:=ZHP) (q:=λn=>n<N) Tryz.underlying29 (Rs:=[_,_,_,_,_]) (.cons (KH Tryz.underlying9) (.cons (JP Tryz.underlying3) (.cons (ZxC) (.cons Zzn
   (.cons (Zck (n:=5) (q:=λn=>n<N) (f:=Val.cells) (Qx:=ZeB) (row:=Za8) (λl i h=>ZcP h) Tryz.underlying27 (by kernel_rfl) (by decide) Val.len (Ztl N) (λn h=>by omega)) .nil))))) (by kernel_rfl) (λn h=>by omega)).imp ?_
  rintro ds ⟨_,_,rfl,⟨a,rfl⟩,_,_,rfl,⟨b,rfl⟩,_,_,rfl,⟨c,hc,rfl⟩,_,_,rfl,⟨d,hd,rfl⟩,_,_,rfl,⟨e,he,hb,rfl⟩,rfl⟩;rw[show Program.bytesOf ZHP 29=96 by kernel_rfl]at hb;exact⟨.mk a b c d e,Ziv.2 ⟨⟨hc,hd,hb⟩,he⟩,rfl⟩
def ZAF:Za2 enc ZHP w 29 λds=>∃x:Val,ZeB x/\ds=x.cells:=λi o x _ h=>Ztl (i+1) i o x (Nat.lt_succ_self _) h
end
end Go.DL
namespace Go.Proofs.YtnkifankoijebaaGreatDoor
open Go Go.DL Go.ChangeShapes Go.WideShapes Go.ChangeAt Go.RowKit Go.Lib
set_option linter.unusedVariables false
def own:ownKnob Tryz.prog.godebug=nO:=by kernel_rfl
def laidOut:laidOutB ZHP=true:=by kernel_rfl
def tabsOk{W:World}(h:laidMet ZHP Rows.encodeWritesRow.laid W):Znm W:=by
 intro n cs r;have i:(match Nat.beq n 3 with
  |true=>sO (ZhB.map λz=>D.int .u64 z)
  |false=>nO)=sO cs:=r
 split at i;rename_i o;obtain rfl:n=3:=Nat.eq_of_beq_eq_true o;simp only[ZHQ]at i;subst i;have u:TabIs ZHP W "internal/strconv.uint64pow10" .u64 ZhB :=
  tabIs_of_head (g:=3) (t:=334) (e:=246) (n:=20) (by kernel_rfl) (by kernel_rfl) Tryz.underlying334 Tryz.underlying246 (by kernel_rfl) (by kernel_rfl) h.tail.tail
 exact ZAS u (by kernel_rfl) (by unfold inR;decide);simp at i
end Go.Proofs.YtnkifankoijebaaGreatDoor
