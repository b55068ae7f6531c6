/- Lemmas: K15i, K15t, Top1, TopV, C15t. -/
import Derived.Test.YtjahcdhapcomnaaGreatDoorT06
import Derived.Test.YtjahcdhapcomnaaGreatDoorRows
set_option maxHeartbeats 16000000
set_option maxRecDepth 100000
set_option linter.all false
open Option renaming some → sO, none → nO
open Inhabited renaming default → dE
open Decidable renaming decide → dC
open Bool renaming and_eq_true → ZEK, false_eq_true → ZE3
open Go.Proofs.Tryz renaming prog → ZEA
open List renaming map_cons → ZEQ
open Option.some renaming injEq → ZEz
namespace Go.DL
open Go Go.Proofs
variable {kp:Option (List Nat)}{L:Loc}{ρ:Env}{s:St}{w:World}{os:List DOp}{ds:List D}{B:List (Nat × Rd)}{dst:Option Nat}{tmps:Array Value}{g:G}{Φ:Res→St→Prop}{ν:Nat→Nat}{xs:List Opd}{side:Prop}{row:Nat→List D}{vs:List V}
def ZnZ(n:Nat):List Nat:=if n<10 then [48+n] else if n<100 then [48+n / 10,48+n % 10] else [48+n / 100,48+n / 10 % 10,48+n % 10]
theorem ZyZ{n:Nat}(h:n<510):(ZnZ n).map UInt8.ofNat=Wz n:=by
 unfold ZnZ
 split
 ·rename_i h1;rw[Kx h1];rfl
 ·rename_i h1
  rw[Zen h1,Kx (n:=n % 10) (by omega)]
  split
  ·rw[Kx (n:=n / 10) (by omega)];rfl
  ·rw[Zen (n:=n / 10) (by omega),Kx (n:=n / 10 / 10) (by omega),Kx (n:=n / 10 % 10) (by omega),Nat.div_div_eq_div_mul];rfl
def eqN:List Nat→List Nat→Bool
 | [],[]=>true
 |a::r,b::t=>Nat.beq a b&&eqN r t
 |_,_=>false
theorem ZvU:∀{a b:List Nat},eqN a b=true→a=b
 | [],[],_=>rfl
 | [],_::_,h=>by simp[eqN]at h
 |_::_,[],h=>by simp[eqN]at h
 |a::r,b::t,h=>by
  simp only[eqN,ZEK]at h
  rw[Nat.eq_of_beq_eq_true h.1,ZvU h.2]
def isT(n:Nat):Option V→Bool
 |some (.str s)=>eqN s (ZnZ n)
 |_=>false
theorem Zz9{n:Nat}:∀{o:Option V},isT n o=true→o=sO (.str (ZnZ n))
 |some (.str s),h=>by rw[ZvU h]
def Zt2(f:Nat→Option V):Nat→Bool
 |0=>true
 |n+1=>isT n (f n)&&Zt2 f n
theorem Ztb{f:Nat→Option V}:∀{n i:Nat},Zt2 f n=true→i<n→f i=sO (.str (ZnZ i))
 |n+1,i,h,hi=>by
  simp only[Zt2,ZEK]at h
  by_cases e:i=n
  ·rw[e];exact Zz9 h.1
  ·exact Ztb h.2 (by omega)
def kI(n:Nat):KW:=⟨38,40,40,[.int .i64 (Int.ofNat n)],.str (ZnZ n)⟩
theorem Zv6{n:Nat}(h:WT ZEA (kI n))(hn:n<510):Ze ZEA 38 [.int .i64 n] (.str (Wz n)):=by
 have h1:=(h [.int .i64 n] nm0 [.int .i64 n] (by
  have h0:Zew 40 (.int .i64 n) (.int .i64 n)=true:=by show(Zfl .i64 .i64&&eqI n n)=true;rw[QH.2 rfl];rfl
  show J0 (Zew 40) [.int .i64 n] [.int .i64 n]=true
  simp only[J0,h0,if_true]) (.cons _ _ _ _ (.int _ _) .nil)).1
 rw[←ZyZ hn]
 exact h1
theorem ZxI:Zt2 (fun n=>ZuX (kI n).n ((Zfa ⟨ZEA,Jl 149,Zaw⟩ (kI n).f).run (run ⟨ZEA,Jl 149,Zaw⟩ 1000) ((kI n).ks.map (zV (kI n).a)) T.nil 2)) 510=true:=by kernel_rfl
theorem Zza:Zaj:=fun n hn=>by
 have h:=Ztb ZxI hn
 have h2:=Jj (C:=⟨ZEA,Jl 149,Zaw⟩) Kv (kI n) (m:=1000) h
 exact Zv6 h2 hn
theorem ZmC(c:UInt8):∀s:Str,Zlw c.toNat (s.map (·.toNat))=Zg (fun b=>dC (b=c)) s
 | []=>rfl
 |b::r=>by
  have ih:=ZmC c r
  have hg:=Jw (fun b=>dC (b=c)) r
  simp only[ZEQ,Zlw,Zg]
  have h1:=b.toNat_lt
  have h2:=c.toNat_lt
  rw[Nat.mod_eq_of_lt h1,Nat.mod_eq_of_lt h2,ih]
  by_cases e:b=c
  ·subst e;simp
  ·have e2:Nat.beq b.toNat c.toNat=false:=by
    cases h:Nat.beq b.toNat c.toNat with
    |false=>rfl
    |true=>exact absurd (UInt8.toNat_inj.1 (Nat.eq_of_beq_eq_true h)) e
   simp only[e2,decide_eq_false e,ZE3,if_false]
   generalize Zg (fun b=>dC (b=c)) r=n at *
   cases n with
   |ofNat n=>rw[if_neg (by simp)];rfl
   |negSucc n=>rw[if_pos (by omega)]
theorem ZAO:Zea:=fun s c=>ZgS (by
 have hm:(s.map (·.toNat)).map UInt8.ofNat=s:=by rw[List.map_map];simp[Function.comp_def]
 have hv:VRs nm0 [.str (s.map (·.toNat)),.int .u8 c.toNat] [.str s,.int .u8 c.toNat]:=.cons _ _ _ _ (by have:=VR.str (η:=nm0) (s.map (·.toNat));rwa [hm]at this) (.cons _ _ _ _ (.int _ _) .nil)
 obtain⟨d,h1,h2⟩:=Kv St.emp 149 _ T.nil [.str (s.map (·.toNat)),.int .u8 c.toNat] _ rfl rfl nm0 _ St.emp hv (fun k b vs h _=>by simp[T.get_nil,JM]at h)
 rw[show(((c.toNat:Int)).toNat)=c.toNat from rfl,ZmC]at h1
 cases h1
 exact h2.mono fun r s h=>h.1)
def kA:KW:=⟨137,400,400,[.str [48,49,50,51,52,53,54,55,56,57]],.tup [.agg (List.replicate 48 (.bool false)++List.replicate 10 (.bool true)++List.replicate 198 (.bool false)),.bool true]⟩
theorem ZzV:ZuX kA.n ((Zfa ⟨ZEA,Jl 149,Zaw⟩ kA.f).run (run ⟨ZEA,Jl 149,Zaw⟩ 1000) (kA.ks.map (zV kA.a)) T.nil 2)=sO kA.r:=by kernel_rfl
theorem ZAK:Zh1:=by
 have h:=Jj (C:=⟨ZEA,Jl 149,Zaw⟩) Kv kA (m:=1000) ZzV
 exact(h kA.ks nm0 [.str Zud] (by decide) (.cons _ _ _ _ (.str _) .nil)).1
section
variable {H:Type} {enc:TypeId × Value→H} {w:World}
theorem Zzw:ZaD enc ZEA w 85 fun ds=>∃x:Yp,ds=x.cells:=by
 refine(KG (P:=ZEA) (q:=fun _=>True) Tryz.underlying85 (Rs:=[_,_]) (.cons (Qf Tryz.underlying9) (.cons (Jz Tryz.underlying3) .nil)) (by kernel_rfl)).imp ?_
 rintro ds ⟨_,_,rfl,⟨a,rfl⟩,_,_,rfl,⟨b,rfl⟩,rfl⟩
 exact⟨⟨a,b⟩,rfl⟩
theorem Zyb:ZaD enc ZEA w 36 fun ds=>∃l:List Yp,ds=[YC l] :=
 JY (q:=fun _=>True) (f:=Yp.cells) Tryz.underlying36 (by kernel_rfl) (by decide) (fun _=>rfl) Zzw
theorem Zzv:ZaD enc ZEA w 38 fun ds=>∃x:Zbh,ds=x.cells:=by
 refine(KG (P:=ZEA) (q:=fun _=>True) Tryz.underlying38 (Rs:=[_,_]) (.cons (Jz Tryz.underlying3) (.cons Zyb .nil)) (by kernel_rfl)).imp ?_
 rintro ds ⟨_,_,rfl,⟨a,rfl⟩,_,_,rfl,⟨b,rfl⟩,rfl⟩
 exact⟨⟨a,b⟩,rfl⟩
theorem Zzr:ZaD enc ZEA w 87 fun ds=>∃x:YX,ds=x.cells:=by
 refine(KG (P:=ZEA) (q:=fun _=>True) Tryz.underlying87 (Rs:=[_,_,_]) (.cons (Jz Tryz.underlying3) (.cons (Jz Tryz.underlying3) (.cons (Qf Tryz.underlying9) .nil))) (by kernel_rfl)).imp ?_
 rintro ds ⟨_,_,rfl,⟨a,rfl⟩,_,_,rfl,⟨b,rfl⟩,_,_,rfl,⟨c,rfl⟩,rfl⟩
 exact⟨⟨a,b,c⟩,rfl⟩
theorem Zya:ZaD enc ZEA w 39 fun ds=>∃l:List YX,ds=[KC l] :=
 JY (q:=fun _=>True) (f:=YX.cells) Tryz.underlying39 (by kernel_rfl) (by decide) (fun _=>rfl) Zzr
theorem ZAw:ZaD enc ZEA w 41 fun ds=>∃x:Fld,ds=x.cells:=by
 have hs:=Qf (p:=fun _=>True) (enc:=enc) (P:=ZEA) (w:=w) Tryz.underlying9
 have hi:=Jz (p:=fun _=>True) (enc:=enc) (P:=ZEA) (w:=w) Tryz.underlying3
 have hb:=ZuV (p:=fun _=>True) (enc:=enc) (P:=ZEA) (w:=w) Tryz.underlying4
 have hk:=Jz (p:=fun _=>True) (enc:=enc) (P:=ZEA) (w:=w) Tryz.underlying35
 refine(KG (P:=ZEA) (q:=fun _=>True) Tryz.underlying41 (Rs:=[_,_,_,_,_,_,_,_,_,_,_,_,_,_]) (.cons hs (.cons hk (.cons hi (.cons hb (.cons hb (.cons hi (.cons hi (.cons Zzv (.cons hs (.cons hs (.cons hs (.cons Zya (.cons hi (.cons hi .nil)))))))))))))) (by kernel_rfl)).imp ?_
 rintro ds ⟨_,_,rfl,⟨a,rfl⟩,_,_,rfl,⟨b,rfl⟩,_,_,rfl,⟨c,rfl⟩,_,_,rfl,⟨d,rfl⟩,_,_,rfl,⟨e,rfl⟩,_,_,rfl,⟨f,rfl⟩,_,_,rfl,⟨g,rfl⟩,_,_,rfl,⟨h,rfl⟩,_,_,rfl,⟨i,rfl⟩,_,_,rfl,⟨j,rfl⟩,_,_,rfl,⟨k,rfl⟩,_,_,rfl,⟨l,rfl⟩,_,_,rfl,⟨m,rfl⟩,_,_,rfl,⟨n,rfl⟩,rfl⟩
 exact⟨⟨a,b,c,d,e,f,g,h,i,j,k,l,m,n⟩,rfl⟩
theorem Zzs:ZaD enc ZEA w 32 fun ds=>∃l:List Fld,ds=[Zr l] :=
 JY (q:=fun _=>True) (f:=Fld.cells) Tryz.underlying32 (by kernel_rfl) (by decide) (fun _=>rfl) ZAw
theorem ZAx:ZaD enc ZEA w 34 fun ds=>∃x:Msg,ds=x.cells:=by
 refine(KG (P:=ZEA) (q:=fun _=>True) Tryz.underlying34 (Rs:=[_,_]) (.cons (Qf Tryz.underlying9) (.cons Zzs .nil)) (by kernel_rfl)).imp ?_
 rintro ds ⟨_,_,rfl,⟨a,rfl⟩,_,_,rfl,⟨b,rfl⟩,rfl⟩
 exact⟨⟨a,b⟩,rfl⟩
theorem Zzu:ZaD enc ZEA w 22 fun ds=>∃l:List Msg,ds=[Wh l] :=
 JY (q:=fun _=>True) (f:=Msg.cells) Tryz.underlying22 (by kernel_rfl) (by decide) (fun _=>rfl) ZAx
theorem ZAv:ZaD enc ZEA w 24 fun ds=>∃x:Dfn,ds=x.cells:=by
 refine(KG (P:=ZEA) (q:=fun _=>True) Tryz.underlying24 (Rs:=[_,_,_]) (.cons (Qf Tryz.underlying9) (.cons Zzu (.cons (Qf Tryz.underlying9) .nil))) (by kernel_rfl)).imp ?_
 rintro ds ⟨_,_,rfl,⟨a,rfl⟩,_,_,rfl,⟨b,rfl⟩,_,_,rfl,⟨c,rfl⟩,rfl⟩
 exact⟨⟨a,b,c⟩,rfl⟩
end
section
variable {H:Type} {enc:TypeId × Value→H} {w:World} {p:Nat→Prop}
theorem Zyc:W8 p enc ZEA w 25 fun ds=>∃b:Str,ds=[ZL b] :=
 JY (q:=fun _=>True) (f:=u8C) Tryz.underlying25 (by kernel_rfl) (by decide) (fun _=>rfl) ((Zm2 Tryz.underlying5).imp fun ds ⟨n,hn,h⟩=>⟨UInt8.ofNat n.toNat,by
  subst h
  unfold inR IntKind.min IntKind.max at hn
  simp[IntKind.signed,IntKind.bits]at hn
  simp only[u8C,UInt8.toNat_ofNat',List.cons.injEq,D.int.injEq,true_and,and_true]
  omega⟩)
theorem Zzt:W8 p enc ZEA w 26 fun ds=>∃l:List Hdr,ds=[Z9 l]:=by
 refine JY (q:=fun _=>True) (f:=Hdr.cells) Tryz.underlying26 (by kernel_rfl) (by decide) (fun _=>rfl) ((KG (P:=ZEA) (q:=fun _=>True) Tryz.underlying74 (Rs:=[_,_]) (.cons (Qf Tryz.underlying9) (.cons (Qf Tryz.underlying9) .nil)) (by kernel_rfl)).imp ?_)
 rintro ds ⟨_,_,rfl,⟨a,rfl⟩,_,_,rfl,⟨b,rfl⟩,rfl⟩
 exact⟨⟨a,b⟩,rfl⟩
theorem ZtB:∀N:Nat,W8 (fun n=>n<N) enc ZEA w 29 fun ds=>∃x:Val,ds=x.cells
 |0=>fun fuel cs x h=>absurd h (Nat.not_lt_zero _)
 |N+1=>by
  refine(KG (P:=ZEA) (q:=fun n=>n<N) Tryz.underlying29 (Rs:=[_,_,_,_,_]) (.cons (Qf Tryz.underlying9) (.cons (Jz Tryz.underlying3) (.cons Zyc (.cons Zzt
   (.cons (Zi0 (q:=fun n=>n<N) (f:=Val.cells) (row:=Zb5) (fun l i h=>Zft h) Tryz.underlying27 (by kernel_rfl) (by decide) Val.len (ZtB N) (fun n h=>by omega)) .nil))))) (by kernel_rfl) (fun n h=>by omega)).imp ?_
  rintro ds ⟨_,_,rfl,⟨a,rfl⟩,_,_,rfl,⟨b,rfl⟩,_,_,rfl,⟨c,rfl⟩,_,_,rfl,⟨d,rfl⟩,_,_,rfl,⟨e,rfl⟩,rfl⟩
  exact⟨.mk a b c d e,rfl⟩
theorem ZAy:ZaD enc ZEA w 29 fun ds=>∃x:Val,ds=x.cells:=fun fuel cs x _ h=>ZtB (fuel+1) fuel cs x (Nat.lt_succ_self _) h
end
end Go.DL
namespace Go.Proofs.YtjahcdhapcomnaaGreatDoor
open Go Go.DL Go.ChangeShapes Go.WideShapes Go.ChangeAt Go.RowKit Go.Lib
set_option linter.unusedVariables false
theorem own:ownKnob Tryz.prog.godebug=nO:=by kernel_rfl
theorem laidOut:laidOutB ZEA=true:=by kernel_rfl
theorem tabsOk{W:World}(h:laidMet ZEA Rows.shapeSpoilsRow.laid W):Zl4 W:=by
 intro n cs hn
 have hn':(match Nat.beq n 2 with
  |true=>sO (ZrS.map fun z=>D.int .u64 z)
  |false=>nO)=sO cs:=hn
 split at hn'
 ·rename_i hb
  obtain rfl:n=2:=Nat.eq_of_beq_eq_true hb
  simp only[ZEz]at hn'
  subst hn'
  have ht:TabIs ZEA W "internal/strconv.uint64pow10" .u64 ZrS :=
   tabIs_of_head (g:=2) (t:=283) (e:=226) (n:=20) (by kernel_rfl) (by kernel_rfl) Tryz.underlying283 Tryz.underlying226 (by kernel_rfl) (by kernel_rfl) h.tail.tail
  exact ZzF ht (by kernel_rfl) (by unfold inR;decide)
 ·simp at hn'
end Go.Proofs.YtjahcdhapcomnaaGreatDoor
