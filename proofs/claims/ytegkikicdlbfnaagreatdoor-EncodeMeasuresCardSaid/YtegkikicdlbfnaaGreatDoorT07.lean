/- Lemmas: K16i, Top1, TopV, C16t. -/
import Derived.Test.YtegkikicdlbfnaaGreatDoorT06
import Derived.Test.YtegkikicdlbfnaaGreatDoorRows
set_option maxHeartbeats 16000000
set_option maxRecDepth 100000
set_option linter.all false
open List renaming length->I
open Option renaming some -> sO, none -> nO
open Inhabited renaming default -> dE
open Decidable renaming decide -> dC
open Bool renaming and_eq_true -> ZIb
open Go.Proofs.Tryz renaming prog -> ZH1
open Option.some renaming injEq -> ZH0
namespace Go.DL
open Go Go.Proofs
variable {kp:Option (List Nat)}{L:Loc}{H:Env}{s:St}{w:World}{os:List DOp}{ds:List D}{B:List (Nat × Rd)}{dst:Option Nat}{tmps:Array Value}{g:G}{Φ:Res->St->Prop}{Z:Nat->Nat}{xs:List Opd}{side:Prop}{row:Nat->List D}{vs:List V}
def Zp0(n:Nat):List Nat:=if n<10 then [48+n] else if n<100 then [48+n / 10,48+n % 10] else [48+n / 100,48+n / 10 % 10,48+n % 10]
def ZBJ{n:Nat}(h:n<500):(Zp0 n).map UInt8.ofNat=ZaR n:=by
 unfold Zp0;split;rename_i i;rw[KQ i];rfl;rename_i i;rw[Zig i,KQ (n:=n % 10) ω];split;rw[KQ (n:=n / 10) ω];rfl;rw[Zig (n:=n / 10) ω,KQ (n:=n / 10 / 10) ω,KQ (n:=n / 10 % 10) ω,Nat.div_div_eq_div_mul];rfl
def eqN:List Nat->List Nat->Bool
 | [],[]=>true
 |a::r,b::t=>Nat.beq a b&&eqN r t
 |_,_=>false
def Zyq:∀{a b:List Nat},eqN a b=true->a=b
 | [],[],_=>rfl
 | [],_::_,h=>by simp[eqN]at h
 |_::_,[],h=>by simp[eqN]at h
 |a::r,b::t,h=>by simp only[eqN,ZIb]at h;rw[Nat.eq_of_beq_eq_true h.1,Zyq h.2]
def isT(n:Nat):Option V->Bool
 |some (.str s)=>eqN s (Zp0 n)
 |_=>false
def ZC6{n:Nat}:∀{o:Option V},isT n o=true->o=sO (.str (Zp0 n))
 |some (.str s),h=>by rw[Zyq h]
def Zws(f:Nat->Option V):Nat->Bool
 |0=>true
 |n+1=>isT n (f n)&&Zws f n
def Zvl{f:Nat->Option V}:∀{n i:Nat},Zws f n=true->i<n->f i=sO (.str (Zp0 i))
 |n+1,i,h,hi=>by simp only[Zws,ZIb]at h;by_cases e:i=n;rw[e];exact ZC6 h.1;exact Zvl h.2 ω
def kI(n:Nat):Zc8:=⟨199,40,40,[.i (Int.ofNat n)],.str (Zp0 n)⟩
def ZyG{n:Nat}(h:Zbr ZH1 (kI n))(u:n<500):Zf ZH1 199 [.i n] (.str (ZaR n)):=by
 have t:=(h [.i n] nm0 [.i n] (by
  have i:Zfq 40 (.i n) (.i n)=true:=by show(Zgh .i64 .i64&&eqI n n)=true;rw[Jb.2 rfl];rfl
  show Zat (Zfq 40) [.i n] [.i n]=true;simp only[Zat,i,if_true]) (.cons _ _ _ _ (.int _ _) .nil)).1
 rw[<-ZBJ u];exact t
def ZAq:Zws (λn=>ZAU (kI n).n ((Zia ⟨ZH1,Zfn 156,Zj9⟩ (kI n).f).run (run ⟨ZH1,Zfn 156,Zj9⟩ 1000) ((kI n).ks.map (zV (kI n).a)) T.nil 2)) 500=true:=by kernel_rfl
def ZBU:Qm:=λn i=>by
 have h:=Zvl ZAq i;have t:=Zls (C:=⟨ZH1,Zfn 156,Zj9⟩) Zfm (kI n) (m:=1000) h;exact ZyG t i
section
variable {H:Type} {enc:TypeId × Value->H} {w:World}
def ZCk:Za6 enc ZH1 w 114 λds=>∃x:Yb,ds=x.cells:=by
 refine(K2 (P:=ZH1) (q:=λ_=>True) Tryz.underlying114 (Rs:=[_,_]) (.cons (QN Tryz.underlying9) (.cons (JZ Tryz.underlying3) .nil)) (by kernel_rfl)).imp ?_;rintro ds ⟨_,_,rfl,⟨a,rfl⟩,_,_,rfl,⟨b,rfl⟩,rfl⟩;exact⟨⟨a,b⟩,rfl⟩
def ZAR:Za6 enc ZH1 w 45 λds=>∃l:List Yb,ds=[Ye l] :=
 Zar (q:=λ_=>True) (f:=Yb.cells) Tryz.underlying45 (by kernel_rfl) (by decide) (λ_=>rfl) ZCk
def ZCj:Za6 enc ZH1 w 47 λds=>∃x:Zbo,ds=x.cells:=by
 refine(K2 (P:=ZH1) (q:=λ_=>True) Tryz.underlying47 (Rs:=[_,_]) (.cons (JZ Tryz.underlying3) (.cons ZAR .nil)) (by kernel_rfl)).imp ?_;rintro ds ⟨_,_,rfl,⟨a,rfl⟩,_,_,rfl,⟨b,rfl⟩,rfl⟩;exact⟨⟨a,b⟩,rfl⟩
def ZCf:Za6 enc ZH1 w 119 λds=>∃x:YB,ds=x.cells:=by
 refine(K2 (P:=ZH1) (q:=λ_=>True) Tryz.underlying119 (Rs:=[_,_,_]) (.cons (JZ Tryz.underlying3) (.cons (JZ Tryz.underlying3) (.cons (QN Tryz.underlying9) .nil))) (by kernel_rfl)).imp ?_;rintro ds ⟨_,_,rfl,⟨a,rfl⟩,_,_,rfl,⟨b,rfl⟩,_,_,rfl,⟨c,rfl⟩,rfl⟩;exact⟨⟨a,b,c⟩,rfl⟩
def ZAQ:Za6 enc ZH1 w 48 λds=>∃l:List YB,ds=[WE l] :=
 Zar (q:=λ_=>True) (f:=YB.cells) Tryz.underlying48 (by kernel_rfl) (by decide) (λ_=>rfl) ZCf
def ZDo:Za6 enc ZH1 w 50 λds=>∃x:Fld,ds=x.cells:=by
 have u:=QN (p:=λ_=>True) (enc:=enc) (P:=ZH1) (w:=w) Tryz.underlying9;have t:=JZ (p:=λ_=>True) (enc:=enc) (P:=ZH1) (w:=w) Tryz.underlying3;have hb:=Zxj (p:=λ_=>True) (enc:=enc) (P:=ZH1) (w:=w) Tryz.underlying4;have hk:=JZ (p:=λ_=>True) (enc:=enc) (P:=ZH1) (w:=w) Tryz.underlying44;refine(K2 (P:=ZH1) (q:=λ_=>True) Tryz.underlying50 (Rs:=[_,_,_,_,_,_,_,_,_,_,_,_,_,_]) (.cons u (.cons hk (.cons t (.cons hb (.cons hb (.cons t (.cons t (.cons ZCj (.cons u (.cons u (.cons u (.cons ZAQ (.cons t (.cons t .nil)))))))))))))) (by kernel_rfl)).imp ?_;rintro ds ⟨_,_,rfl,⟨a,rfl⟩,_,_,rfl,⟨b,rfl⟩,_,_,rfl,⟨c,rfl⟩,_,_,rfl,⟨d,rfl⟩,_,_,rfl,⟨e,rfl⟩,_,_,rfl,⟨f,rfl⟩,_,_,rfl,⟨g,rfl⟩,_,_,rfl,⟨h,rfl⟩,_,_,rfl,⟨i,rfl⟩,_,_,rfl,⟨j,rfl⟩,_,_,rfl,⟨k,rfl⟩,_,_,rfl,⟨l,rfl⟩,_,_,rfl,⟨m,rfl⟩,_,_,rfl,⟨n,rfl⟩,rfl⟩;exact⟨⟨a,b,c,d,e,f,g,h,i,j,k,l,m,n⟩,rfl⟩
def ZCg:Za6 enc ZH1 w 41 λds=>∃l:List Fld,ds=[Zq l] :=
 Zar (q:=λ_=>True) (f:=Fld.cells) Tryz.underlying41 (by kernel_rfl) (by decide) (λ_=>rfl) ZDo
def ZDp:Za6 enc ZH1 w 43 λds=>∃x:Msg,ds=x.cells:=by
 refine(K2 (P:=ZH1) (q:=λ_=>True) Tryz.underlying43 (Rs:=[_,_]) (.cons (QN Tryz.underlying9) (.cons ZCg .nil)) (by kernel_rfl)).imp ?_;rintro ds ⟨_,_,rfl,⟨a,rfl⟩,_,_,rfl,⟨b,rfl⟩,rfl⟩;exact⟨⟨a,b⟩,rfl⟩
def ZCi:Za6 enc ZH1 w 22 λds=>∃l:List Msg,ds=[YY l] :=
 Zar (q:=λ_=>True) (f:=Msg.cells) Tryz.underlying22 (by kernel_rfl) (by decide) (λ_=>rfl) ZDp
def ZDn:Za6 enc ZH1 w 24 λds=>∃x:Dfn,ds=x.cells:=by
 refine(K2 (P:=ZH1) (q:=λ_=>True) Tryz.underlying24 (Rs:=[_,_,_]) (.cons (QN Tryz.underlying9) (.cons ZCi (.cons (QN Tryz.underlying9) .nil))) (by kernel_rfl)).imp ?_;rintro ds ⟨_,_,rfl,⟨a,rfl⟩,_,_,rfl,⟨b,rfl⟩,_,_,rfl,⟨c,rfl⟩,rfl⟩;exact⟨⟨a,b,c⟩,rfl⟩
end
section
variable {H:Type} {enc:TypeId × Value->H} {w:World} {p:Nat->Prop}
def ZAS:Kk p enc ZH1 w 25 λds=>∃b:Str,ds=[Zo b] :=
 Zar (q:=λ_=>True) (f:=u8C) Tryz.underlying25 (by kernel_rfl) (by decide) (λ_=>rfl) ((ZoZ Tryz.underlying5).imp λds ⟨n,i,h⟩=>⟨UInt8.ofNat n.toNat,by
  subst h;unfold inR IntKind.min IntKind.max at i;simp[IntKind.signed,IntKind.bits]at i;simp only[u8C,UInt8.toNat_ofNat',List.cons.injEq,D.int.injEq,true_and,and_true];omega⟩)
def ZCh:Kk p enc ZH1 w 26 λds=>∃l:List Hdr,ds=[Ym l]:=by
 refine Zar (q:=λ_=>True) (f:=Hdr.cells) Tryz.underlying26 (by kernel_rfl) (by decide) (λ_=>rfl) ((K2 (P:=ZH1) (q:=λ_=>True) Tryz.underlying84 (Rs:=[_,_]) (.cons (QN Tryz.underlying9) (.cons (QN Tryz.underlying9) .nil)) (by kernel_rfl)).imp ?_);rintro ds ⟨_,_,rfl,⟨a,rfl⟩,_,_,rfl,⟨b,rfl⟩,rfl⟩;exact⟨⟨a,b⟩,rfl⟩
def Zv1:∀N:Nat,Kk (λn=>n<N) enc ZH1 w 29 λds=>∃x:Val,ds=x.cells
 |0=>λfuel cs x h=>absurd h (Nat.not_lt_zero _)
 |N+1=>by
  refine(K2 (P:=ZH1) (q:=λn=>n<N) Tryz.underlying29 (Rs:=[_,_,_,_,_]) (.cons (QN Tryz.underlying9) (.cons (JZ Tryz.underlying3) (.cons ZAS (.cons ZCh
   (.cons (Zkv (q:=λn=>n<N) (f:=Val.cells) (row:=ZcP) (λl i h=>Zgn h) Tryz.underlying27 (by kernel_rfl) (by decide) Val.len (Zv1 N) (λn h=>by omega)) .nil))))) (by kernel_rfl) (λn h=>by omega)).imp ?_
  rintro ds ⟨_,_,rfl,⟨a,rfl⟩,_,_,rfl,⟨b,rfl⟩,_,_,rfl,⟨c,rfl⟩,_,_,rfl,⟨d,rfl⟩,_,_,rfl,⟨e,rfl⟩,rfl⟩;exact⟨.mk a b c d e,rfl⟩
def ZDq:Za6 enc ZH1 w 29 λds=>∃x:Val,ds=x.cells:=λi t x _ h=>Zv1 (i+1) i t x (Nat.lt_succ_self _) h
end
end Go.DL
namespace Go.Proofs.YtegkikicdlbfnaaGreatDoor
open Go Go.DL Go.ChangeShapes Go.WideShapes Go.ChangeAt Go.RowKit Go.Lib
set_option linter.unusedVariables false
def own:ownKnob Tryz.prog.godebug=nO:=by kernel_rfl
def laidOut:laidOutB ZH1=true:=by kernel_rfl
def tabsOk{W:World}(h:laidMet ZH1 Rows.encodeMeasuresRow.laid W):ZnV W:=by
 intro n cs hn;have i:(match Nat.beq n 3 with
  |true=>sO (Zt3.map λz=>D.int .u64 z)
  |false=>nO)=sO cs:=hn
 split at i;rename_i u;obtain rfl:n=3:=Nat.eq_of_beq_eq_true u;simp only[ZH0]at i;subst i;have ht:TabIs ZH1 W "internal/strconv.uint64pow10" .u64 Zt3 :=
  tabIs_of_head (g:=3) (t:=325) (e:=267) (n:=20) (by kernel_rfl) (by kernel_rfl) Tryz.underlying325 Tryz.underlying267 (by kernel_rfl) (by kernel_rfl) h.tail.tail
 exact ZCv ht (by kernel_rfl) (by unfold inR;decide);simp at i
end Go.Proofs.YtegkikicdlbfnaaGreatDoor
