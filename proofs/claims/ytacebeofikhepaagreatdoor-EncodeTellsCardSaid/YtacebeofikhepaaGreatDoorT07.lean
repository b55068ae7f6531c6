/- Lemmas: K16i, Top1, TopV, C16t. -/
import Derived.Test.YtacebeofikhepaaGreatDoorT06
import Derived.Test.YtacebeofikhepaaGreatDoorRows
set_option maxHeartbeats 16000000
set_option maxRecDepth 100000
set_option linter.all false
open List renaming length->I
open Option renaming some -> sO, none -> nO
open Inhabited renaming default -> dE
open Decidable renaming decide -> dC
open Bool renaming and_eq_true -> ZIJ
open Go.Proofs.Tryz renaming prog -> ZIy
open Option.some renaming injEq -> ZIx
namespace Go.DL
open Go Go.Proofs
variable {kp:Option (List Nat)}{L:Loc}{H:Env}{s:St}{w:World}{os:List DOp}{ds:List D}{B:List (Nat × Rd)}{dst:Option Nat}{tmps:Array Value}{g:G}{Φ:Res->St->Prop}{Z:Nat->Nat}{xs:List Opd}{side:Prop}{row:Nat->List D}{vs:List V}
def Zp9(n:Nat):List Nat:=if n<10 then [48+n] else if n<100 then [48+n / 10,48+n % 10] else [48+n / 100,48+n / 10 % 10,48+n % 10]
def ZCa{n:Nat}(h:n<510):(Zp9 n).map UInt8.ofNat=ZaN n:=by
 unfold Zp9;split;rename_i t;rw[KU t];rfl;rename_i t;rw[Zip t,KU (n:=n % 10) ω];split;rw[KU (n:=n / 10) ω];rfl;rw[Zip (n:=n / 10) ω,KU (n:=n / 10 / 10) ω,KU (n:=n / 10 % 10) ω,Nat.div_div_eq_div_mul];rfl
def eqN:List Nat->List Nat->Bool
 | [],[]=>true
 |a::r,b::t=>Nat.beq a b&&eqN r t
 |_,_=>false
def ZyB:∀{a b:List Nat},eqN a b=true->a=b
 | [],[],_=>rfl
 | [],_::_,h=>by simp[eqN]at h
 |_::_,[],h=>by simp[eqN]at h
 |a::r,b::t,h=>by simp only[eqN,ZIJ]at h;rw[Nat.eq_of_beq_eq_true h.1,ZyB h.2]
def isT(n:Nat):Option V->Bool
 |some (.str s)=>eqN s (Zp9 n)
 |_=>false
def ZDw{n:Nat}:∀{o:Option V},isT n o=true->o=sO (.str (Zp9 n))
 |some (.str s),h=>by rw[ZyB h]
def ZwH(f:Nat->Option V):Nat->Bool
 |0=>true
 |n+1=>isT n (f n)&&ZwH f n
def ZvE{f:Nat->Option V}:∀{n i:Nat},ZwH f n=true->i<n->f i=sO (.str (Zp9 i))
 |n+1,i,h,hi=>by simp only[ZwH,ZIJ]at h;by_cases e:i=n;rw[e];exact ZDw h.1;exact ZvE h.2 ω
def kI(n:Nat):Zc7:=⟨129,40,40,[.i (Int.ofNat n)],.str (Zp9 n)⟩
def ZyT{n:Nat}(h:Zbo ZIy (kI n))(hn:n<510):Zd ZIy 129 [.i n] (.str (ZaN n)):=by
 have u:=(h [.i n] nm0 [.i n] (by
  have t:ZfD 40 (.i n) (.i n)=true:=by show(Zgp .i64 .i64&&eqI n n)=true;rw[Q7.2 rfl];rfl
  show Zaj (ZfD 40) [.i n] [.i n]=true;simp only[Zaj,t,if_true]) (.cons _ _ _ _ (.int _ _) .nil)).1
 rw[<-ZCa hn];exact u
def ZAG:ZwH (λn=>ZBh (kI n).n ((Zik ⟨ZIy,ZfA 100,Zkq⟩ (kI n).f).run (run ⟨ZIy,ZfA 100,Zkq⟩ 1000) ((kI n).ks.map (zV (kI n).a)) T.nil 2)) 510=true:=by kernel_rfl
def ZCm:Jx:=λn t=>by
 have h:=ZvE ZAG t;have u:=ZlN (C:=⟨ZIy,ZfA 100,Zkq⟩) Zfz (kI n) (m:=1000) h;exact ZyT u t
section
variable {H:Type} {enc:TypeId × Value->H} {w:World}
def ZCM:Za4 enc ZIy w 306 λds=>∃x:Yw,ds=x.cells:=by
 refine(K4 (P:=ZIy) (q:=λ_=>True) Tryz.underlying306 (Rs:=[_,_]) (.cons (QI Tryz.underlying9) (.cons (JT Tryz.underlying3) .nil)) (by kernel_rfl)).imp ?_;rintro ds ⟨_,_,rfl,⟨a,rfl⟩,_,_,rfl,⟨b,rfl⟩,rfl⟩;exact⟨⟨a,b⟩,rfl⟩
def ZBe:Za4 enc ZIy w 42 λds=>∃l:List Yw,ds=[Yi l] :=
 Zah (q:=λ_=>True) (f:=Yw.cells) Tryz.underlying42 (by kernel_rfl) (by decide) (λ_=>rfl) ZCM
def ZCL:Za4 enc ZIy w 44 λds=>∃x:ZbN,ds=x.cells:=by
 refine(K4 (P:=ZIy) (q:=λ_=>True) Tryz.underlying44 (Rs:=[_,_]) (.cons (JT Tryz.underlying3) (.cons ZBe .nil)) (by kernel_rfl)).imp ?_;rintro ds ⟨_,_,rfl,⟨a,rfl⟩,_,_,rfl,⟨b,rfl⟩,rfl⟩;exact⟨⟨a,b⟩,rfl⟩
def ZCH:Za4 enc ZIy w 230 λds=>∃x:Y6,ds=x.cells:=by
 refine(K4 (P:=ZIy) (q:=λ_=>True) Tryz.underlying230 (Rs:=[_,_,_]) (.cons (JT Tryz.underlying3) (.cons (JT Tryz.underlying3) (.cons (QI Tryz.underlying9) .nil))) (by kernel_rfl)).imp ?_;rintro ds ⟨_,_,rfl,⟨a,rfl⟩,_,_,rfl,⟨b,rfl⟩,_,_,rfl,⟨c,rfl⟩,rfl⟩;exact⟨⟨a,b,c⟩,rfl⟩
def ZBd:Za4 enc ZIy w 45 λds=>∃l:List Y6,ds=[WS l] :=
 Zah (q:=λ_=>True) (f:=Y6.cells) Tryz.underlying45 (by kernel_rfl) (by decide) (λ_=>rfl) ZCH
def ZDP:Za4 enc ZIy w 47 λds=>∃x:Fld,ds=x.cells:=by
 have u:=QI (p:=λ_=>True) (enc:=enc) (P:=ZIy) (w:=w) Tryz.underlying9;have t:=JT (p:=λ_=>True) (enc:=enc) (P:=ZIy) (w:=w) Tryz.underlying3;have hb:=Zxr (p:=λ_=>True) (enc:=enc) (P:=ZIy) (w:=w) Tryz.underlying4;have hk:=JT (p:=λ_=>True) (enc:=enc) (P:=ZIy) (w:=w) Tryz.underlying41;refine(K4 (P:=ZIy) (q:=λ_=>True) Tryz.underlying47 (Rs:=[_,_,_,_,_,_,_,_,_,_,_,_,_,_]) (.cons u (.cons hk (.cons t (.cons hb (.cons hb (.cons t (.cons t (.cons ZCL (.cons u (.cons u (.cons u (.cons ZBd (.cons t (.cons t .nil)))))))))))))) (by kernel_rfl)).imp ?_;rintro ds ⟨_,_,rfl,⟨a,rfl⟩,_,_,rfl,⟨b,rfl⟩,_,_,rfl,⟨c,rfl⟩,_,_,rfl,⟨d,rfl⟩,_,_,rfl,⟨e,rfl⟩,_,_,rfl,⟨f,rfl⟩,_,_,rfl,⟨g,rfl⟩,_,_,rfl,⟨h,rfl⟩,_,_,rfl,⟨i,rfl⟩,_,_,rfl,⟨j,rfl⟩,_,_,rfl,⟨k,rfl⟩,_,_,rfl,⟨l,rfl⟩,_,_,rfl,⟨m,rfl⟩,_,_,rfl,⟨n,rfl⟩,rfl⟩;exact⟨⟨a,b,c,d,e,f,g,h,i,j,k,l,m,n⟩,rfl⟩
def ZCI:Za4 enc ZIy w 38 λds=>∃l:List Fld,ds=[Zq l] :=
 Zah (q:=λ_=>True) (f:=Fld.cells) Tryz.underlying38 (by kernel_rfl) (by decide) (λ_=>rfl) ZDP
def ZDQ:Za4 enc ZIy w 40 λds=>∃x:Msg,ds=x.cells:=by
 refine(K4 (P:=ZIy) (q:=λ_=>True) Tryz.underlying40 (Rs:=[_,_]) (.cons (QI Tryz.underlying9) (.cons ZCI .nil)) (by kernel_rfl)).imp ?_;rintro ds ⟨_,_,rfl,⟨a,rfl⟩,_,_,rfl,⟨b,rfl⟩,rfl⟩;exact⟨⟨a,b⟩,rfl⟩
def ZCK:Za4 enc ZIy w 22 λds=>∃l:List Msg,ds=[YX l] :=
 Zah (q:=λ_=>True) (f:=Msg.cells) Tryz.underlying22 (by kernel_rfl) (by decide) (λ_=>rfl) ZDQ
def ZDO:Za4 enc ZIy w 24 λds=>∃x:Dfn,ds=x.cells:=by
 refine(K4 (P:=ZIy) (q:=λ_=>True) Tryz.underlying24 (Rs:=[_,_,_]) (.cons (QI Tryz.underlying9) (.cons ZCK (.cons (QI Tryz.underlying9) .nil))) (by kernel_rfl)).imp ?_;rintro ds ⟨_,_,rfl,⟨a,rfl⟩,_,_,rfl,⟨b,rfl⟩,_,_,rfl,⟨c,rfl⟩,rfl⟩;exact⟨⟨a,b,c⟩,rfl⟩
end
section
variable {H:Type} {enc:TypeId × Value->H} {w:World} {p:Nat->Prop}
def ZBf:Kj p enc ZIy w 25 λds=>∃b:Str,ds=[Zk b] :=
 Zah (q:=λ_=>True) (f:=u8C) Tryz.underlying25 (by kernel_rfl) (by decide) (λ_=>rfl) ((Zpg Tryz.underlying5).imp λds ⟨n,t,h⟩=>⟨UInt8.ofNat n.toNat,by
  subst h;unfold inR IntKind.min IntKind.max at t;simp[IntKind.signed,IntKind.bits]at t;simp only[u8C,UInt8.toNat_ofNat',List.cons.injEq,D.int.injEq,true_and,and_true];omega⟩)
def ZCJ:Kj p enc ZIy w 26 λds=>∃l:List Hdr,ds=[Yg l]:=by
 refine Zah (q:=λ_=>True) (f:=Hdr.cells) Tryz.underlying26 (by kernel_rfl) (by decide) (λ_=>rfl) ((K4 (P:=ZIy) (q:=λ_=>True) Tryz.underlying72 (Rs:=[_,_]) (.cons (QI Tryz.underlying9) (.cons (QI Tryz.underlying9) .nil)) (by kernel_rfl)).imp ?_);rintro ds ⟨_,_,rfl,⟨a,rfl⟩,_,_,rfl,⟨b,rfl⟩,rfl⟩;exact⟨⟨a,b⟩,rfl⟩
def Zwh:∀N:Nat,Kj (λn=>n<N) enc ZIy w 29 λds=>∃x:Val,ds=x.cells
 |0=>λfuel cs x h=>absurd h (Nat.not_lt_zero _)
 |N+1=>by
  refine(K4 (P:=ZIy) (q:=λn=>n<N) Tryz.underlying29 (Rs:=[_,_,_,_,_]) (.cons (QI Tryz.underlying9) (.cons (JT Tryz.underlying3) (.cons ZBf (.cons ZCJ
   (.cons (ZkJ (q:=λn=>n<N) (f:=Val.cells) (row:=ZcS) (λl i h=>Zgv h) Tryz.underlying27 (by kernel_rfl) (by decide) Val.len (Zwh N) (λn h=>by omega)) .nil))))) (by kernel_rfl) (λn h=>by omega)).imp ?_
  rintro ds ⟨_,_,rfl,⟨a,rfl⟩,_,_,rfl,⟨b,rfl⟩,_,_,rfl,⟨c,rfl⟩,_,_,rfl,⟨d,rfl⟩,_,_,rfl,⟨e,rfl⟩,rfl⟩;exact⟨.mk a b c d e,rfl⟩
def Zzg:Za4 enc ZIy w 29 λds=>∃x:Val,ds=x.cells:=λt u x _ h=>Zwh (t+1) t u x (Nat.lt_succ_self _) h
end
end Go.DL
namespace Go.Proofs.YtacebeofikhepaaGreatDoor
open Go Go.DL Go.ChangeShapes Go.WideShapes Go.ChangeAt Go.RowKit Go.Lib
set_option linter.unusedVariables false
def own:ownKnob Tryz.prog.godebug=nO:=by kernel_rfl
def laidOut:laidOutB ZIy=true:=by kernel_rfl
def tabsOk{W:World}(h:laidMet ZIy Rows.encodeTellsRow.laid W):Zoe W:=by
 intro n cs hn;have u:(match Nat.beq n 3 with
  |true=>sO (Zup.map λz=>D.int .u64 z)
  |false=>nO)=sO cs:=hn
 split at u;rename_i hb;obtain rfl:n=3:=Nat.eq_of_beq_eq_true hb;simp only[ZIx]at u;subst u;have ht:TabIs ZIy W "internal/strconv.uint64pow10" .u64 Zup :=
  tabIs_of_head (g:=3) (t:=287) (e:=202) (n:=20) (by kernel_rfl) (by kernel_rfl) Tryz.underlying287 Tryz.underlying202 (by kernel_rfl) (by kernel_rfl) h.tail.tail
 exact ZCX ht (by kernel_rfl) (by unfold inR;decide);simp at u
end Go.Proofs.YtacebeofikhepaaGreatDoor
