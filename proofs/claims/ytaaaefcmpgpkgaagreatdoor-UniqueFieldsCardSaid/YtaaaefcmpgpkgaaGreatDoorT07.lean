/- For every definition and every number of iterations, the law UniqueFields returns true: the program's loop over the ambiguous fields yields just those of the reference, also when it is left early, and it tells whether the definition is unique. No condition beyond the card's own. -/
import Derived.Test.YtaaaefcmpgpkgaaGreatDoorT06
import Derived.Test.YtaaaefcmpgpkgaaGreatDoorRows
import Derived.Test.YtaaaefcmpgpkgaaGreatDoorCards
import Derived.Test.YtaaaefcmpgpkgaaGreatDoorTie
set_option maxHeartbeats 16000000
set_option linter.all false
open Option renaming some → sO, none → nO
open Inhabited renaming default → dE
open Decidable renaming decide → dC
open And renaming intro → Zyf
open Bool renaming and_eq_true → Zyk
open Go.Proofs.Tryz renaming prog → Zyg
open List renaming mem_cons → ZyP
open Option.some renaming injEq → Zyd
namespace Go.DL
open Go Go.Proofs
variable {kp:Option (List Nat)}{L:Loc}{ρ:Env}{s:St}{w:World}{os:List DOp}{ds:List D}{B:List (Nat × Rd)}{dst:Option Nat}{tmps:Array Value}{g:G}{Φ:Res→St→Prop}{ν:Nat→Nat}{xs:List Opd}{side:Prop}{row:Nat→List D}{vs:List V}
theorem ZhO:∀k∈([kq0,kq1,kq5,kq6,kq7,kq8,kq9,ZeR,ZeS]:List QX),Qq Zyg k:=by
 intro k hk
 simp only[ZyP,List.not_mem_nil,or_false]at hk
 rcases hk with rfl|rfl|rfl|rfl|rfl|rfl|rfl|rfl|rfl
 ·exact ZoR
 ·exact ZoS
 ·exact ZoT
 ·exact ZoU
 ·exact ZoV
 ·exact ZoW
 ·exact ZoX
 ·exact ZoY
 ·exact ZoZ
theorem ZxU:Qq Zyg ZsQ:=Za8 (C:=⟨Zyg,ZhT 120 [kq0,kq1,kq5,kq6,kq7,kq8,kq9,ZeR,ZeS],Zd1⟩) (ZdZ Zab ZhO) ZsQ (m:=20000) (by kernel_rfl)
theorem ZxV:Qq Zyg ZsR:=Za8 (C:=⟨Zyg,ZhT 120 [kq0,kq1,kq5,kq6,kq7,kq8,kq9,ZeR,ZeS],Zd1⟩) (ZdZ Zab ZhO) ZsR (m:=20000) (by kernel_rfl)
theorem ZxW:Qq Zyg ZsS:=Za8 (C:=⟨Zyg,ZhT 120 [kq0,kq1,kq5,kq6,kq7,kq8,kq9,ZeR,ZeS],Zd1⟩) (ZdZ Zab ZhO) ZsS (m:=20000) (by kernel_rfl)
theorem ZxX:Qq Zyg ZsT:=Za8 (C:=⟨Zyg,ZhT 120 [kq0,kq1,kq5,kq6,kq7,kq8,kq9,ZeR,ZeS],Zd1⟩) (ZdZ Zab ZhO) ZsT (m:=20000) (by kernel_rfl)
theorem Zvt:∀k∈([kq0,kq1,kq2,kq3,kq4,kq5,kq6,kq7,kq8,kq9,ZeR,ZeS]:List QX),Qq Zyg k:=by
 intro k hk
 simp only[ZyP,List.not_mem_nil,or_false]at hk
 rcases hk with rfl|rfl|rfl|rfl|rfl|rfl|rfl|rfl|rfl|rfl|rfl|rfl
 ·exact ZoR
 ·exact ZoS
 ·exact ZsM
 ·exact ZsN
 ·exact ZsO
 ·exact ZoT
 ·exact ZoU
 ·exact ZoV
 ·exact ZoW
 ·exact ZoX
 ·exact ZoY
 ·exact ZoZ
theorem ZxY:Qq Zyg ZsU:=Za8 (C:=⟨Zyg,ZhT 120 [kq0,kq1,kq2,kq3,kq4,kq5,kq6,kq7,kq8,kq9,ZeR,ZeS],Zd1⟩) (ZdZ Zab Zvt) ZsU (m:=20000) (by kernel_rfl)
theorem Zvu:∀k∈([kq0,kq1,kq2,kq3,kq4,kq5,kq6,kq7,kq8,kq9,ZeR,ZeS]:List QX),Qq Zyg k:=by
 intro k hk
 simp only[ZyP,List.not_mem_nil,or_false]at hk
 rcases hk with rfl|rfl|rfl|rfl|rfl|rfl|rfl|rfl|rfl|rfl|rfl|rfl
 ·exact ZoR
 ·exact ZoS
 ·exact ZsM
 ·exact ZsN
 ·exact ZsO
 ·exact ZoT
 ·exact ZoU
 ·exact ZoV
 ·exact ZoW
 ·exact ZoX
 ·exact ZoY
 ·exact ZoZ
theorem ZxZ:Qq Zyg ZsV:=Za8 (C:=⟨Zyg,ZhT 120 [kq0,kq1,kq2,kq3,kq4,kq5,kq6,kq7,kq8,kq9,ZeR,ZeS],Zd1⟩) (ZdZ Zab Zvu) ZsV (m:=20000) (by kernel_rfl)
theorem ZwC:∀k∈([kq0,kq1,kq2,kq3,kq4,kq5,kq6,kq7,kq8,kq9,ZeR,ZeS,ZsQ,ZsR,ZsS,ZsT,ZsU,ZsV]:List QX),Qq Zyg k:=by
 intro k hk
 simp only[ZyP,List.not_mem_nil,or_false]at hk
 rcases hk with rfl|rfl|rfl|rfl|rfl|rfl|rfl|rfl|rfl|rfl|rfl|rfl|rfl|rfl|rfl|rfl|rfl|rfl
 ·exact ZoR
 ·exact ZoS
 ·exact ZsM
 ·exact ZsN
 ·exact ZsO
 ·exact ZoT
 ·exact ZoU
 ·exact ZoV
 ·exact ZoW
 ·exact ZoX
 ·exact ZoY
 ·exact ZoZ
 ·exact ZxU
 ·exact ZxV
 ·exact ZxW
 ·exact ZxX
 ·exact ZxY
 ·exact ZxZ
theorem Znh:ZA Zyg 6 [] (.bool true):=Zw3 (C:=⟨Zyg,ZhT 120 [kq0,kq1,kq2,kq3,kq4,kq5,kq6,kq7,kq8,kq9,ZeR,ZeS,ZsQ,ZsR,ZsS,ZsT,ZsU,ZsV],Zd1⟩) (ZdZ Zab ZwC) (m:=100000) (by kernel_rfl)
section
variable {H:Type} {enc:TypeId × Value→H} {w:World}
theorem ZwV:ZcM enc Zyg w 51 fun ds=>∃x:YN,ds=x.cells:=by
 refine(Zbd (P:=Zyg) (q:=fun _=>True) Tryz.underlying51 (Rs:=[_,_]) (.cons (Zdd Tryz.underlying9) (.cons (Zce Tryz.underlying3) .nil)) (by kernel_rfl)).imp ?_
 rintro ds ⟨_,_,rfl,⟨a,rfl⟩,_,_,rfl,⟨b,rfl⟩,rfl⟩
 exact⟨⟨a,b⟩,rfl⟩
theorem ZvN:ZcM enc Zyg w 43 fun ds=>∃l:List YN,ds=[Qk l] :=
 Zem (q:=fun _=>True) (f:=YN.cells) Tryz.underlying43 (by kernel_rfl) (by decide) (fun _=>rfl) ZwV
theorem ZwU:ZcM enc Zyg w 45 fun ds=>∃x:Qr,ds=x.cells:=by
 refine(Zbd (P:=Zyg) (q:=fun _=>True) Tryz.underlying45 (Rs:=[_,_]) (.cons (Zce Tryz.underlying3) (.cons ZvN .nil)) (by kernel_rfl)).imp ?_
 rintro ds ⟨_,_,rfl,⟨a,rfl⟩,_,_,rfl,⟨b,rfl⟩,rfl⟩
 exact⟨⟨a,b⟩,rfl⟩
theorem ZwR:ZcM enc Zyg w 83 fun ds=>∃x:QB,ds=x.cells:=by
 refine(Zbd (P:=Zyg) (q:=fun _=>True) Tryz.underlying83 (Rs:=[_,_,_]) (.cons (Zce Tryz.underlying3) (.cons (Zce Tryz.underlying3) (.cons (Zdd Tryz.underlying9) .nil))) (by kernel_rfl)).imp ?_
 rintro ds ⟨_,_,rfl,⟨a,rfl⟩,_,_,rfl,⟨b,rfl⟩,_,_,rfl,⟨c,rfl⟩,rfl⟩
 exact⟨⟨a,b,c⟩,rfl⟩
theorem ZvM:ZcM enc Zyg w 46 fun ds=>∃l:List QB,ds=[K3 l] :=
 Zem (q:=fun _=>True) (f:=QB.cells) Tryz.underlying46 (by kernel_rfl) (by decide) (fun _=>rfl) ZwR
theorem ZxG:ZcM enc Zyg w 48 fun ds=>∃x:Fld,ds=x.cells:=by
 have hs:=Zdd (p:=fun _=>True) (enc:=enc) (P:=Zyg) (w:=w) Tryz.underlying9
 have hi:=Zce (p:=fun _=>True) (enc:=enc) (P:=Zyg) (w:=w) Tryz.underlying3
 have hb:=Zs9 (p:=fun _=>True) (enc:=enc) (P:=Zyg) (w:=w) Tryz.underlying4
 have hk:=Zce (p:=fun _=>True) (enc:=enc) (P:=Zyg) (w:=w) Tryz.underlying42
 refine(Zbd (P:=Zyg) (q:=fun _=>True) Tryz.underlying48 (Rs:=[_,_,_,_,_,_,_,_,_,_,_,_,_,_]) (.cons hs (.cons hk (.cons hi (.cons hb (.cons hb (.cons hi (.cons hi (.cons ZwU (.cons hs (.cons hs (.cons hs (.cons ZvM (.cons hi (.cons hi .nil)))))))))))))) (by kernel_rfl)).imp ?_
 rintro ds ⟨_,_,rfl,⟨a,rfl⟩,_,_,rfl,⟨b,rfl⟩,_,_,rfl,⟨c,rfl⟩,_,_,rfl,⟨d,rfl⟩,_,_,rfl,⟨e,rfl⟩,_,_,rfl,⟨f,rfl⟩,_,_,rfl,⟨g,rfl⟩,_,_,rfl,⟨h,rfl⟩,_,_,rfl,⟨i,rfl⟩,_,_,rfl,⟨j,rfl⟩,_,_,rfl,⟨k,rfl⟩,_,_,rfl,⟨l,rfl⟩,_,_,rfl,⟨m,rfl⟩,_,_,rfl,⟨n,rfl⟩,rfl⟩
 exact⟨⟨a,b,c,d,e,f,g,h,i,j,k,l,m,n⟩,rfl⟩
theorem ZwS:ZcM enc Zyg w 39 fun ds=>∃l:List Fld,ds=[Z0 l] :=
 Zem (q:=fun _=>True) (f:=Fld.cells) Tryz.underlying39 (by kernel_rfl) (by decide) (fun _=>rfl) ZxG
theorem ZxH:ZcM enc Zyg w 41 fun ds=>∃x:Msg,ds=x.cells:=by
 refine(Zbd (P:=Zyg) (q:=fun _=>True) Tryz.underlying41 (Rs:=[_,_]) (.cons (Zdd Tryz.underlying9) (.cons ZwS .nil)) (by kernel_rfl)).imp ?_
 rintro ds ⟨_,_,rfl,⟨a,rfl⟩,_,_,rfl,⟨b,rfl⟩,rfl⟩
 exact⟨⟨a,b⟩,rfl⟩
theorem ZwT:ZcM enc Zyg w 22 fun ds=>∃l:List Msg,ds=[Ka l] :=
 Zem (q:=fun _=>True) (f:=Msg.cells) Tryz.underlying22 (by kernel_rfl) (by decide) (fun _=>rfl) ZxH
theorem ZxF:ZcM enc Zyg w 24 fun ds=>∃x:Dfn,ds=x.cells:=by
 refine(Zbd (P:=Zyg) (q:=fun _=>True) Tryz.underlying24 (Rs:=[_,_,_]) (.cons (Zdd Tryz.underlying9) (.cons ZwT (.cons (Zdd Tryz.underlying9) .nil))) (by kernel_rfl)).imp ?_
 rintro ds ⟨_,_,rfl,⟨a,rfl⟩,_,_,rfl,⟨b,rfl⟩,_,_,rfl,⟨c,rfl⟩,rfl⟩
 exact⟨⟨a,b,c⟩,rfl⟩
end
end Go.DL
namespace Go.Proofs.YtaaaefcmpgpkgaaGreatDoor
open Go Go.DL Go.ChangeShapes Go.WideShapes Go.ChangeAt Go.RowKit Go.Lib
set_option linter.unusedVariables false
theorem own:ownKnob Tryz.prog.godebug=nO:=by kernel_rfl
theorem laidOut:laidOutB Zyg=true:=by kernel_rfl
theorem tabsOk{W:World}(h:laidMet Zyg Rows.uniqueOccursRow.laid W):ZlH W:=by
 intro n cs hn
 have hn':(match Nat.beq n 3 with
  |true=>sO (Zqt.map fun z=>D.int .u64 z)
  |false=>nO)=sO cs:=hn
 split at hn'
 ·rename_i hb
  obtain rfl:n=3:=Nat.eq_of_beq_eq_true hb
  simp only[Zyd]at hn'
  subst hn'
  have ht:TabIs Zyg W "internal/strconv.uint64pow10" .u64 Zqt :=
   tabIs_of_head (g:=3) (t:=336) (e:=221) (n:=20) (by kernel_rfl) (by kernel_rfl) Tryz.underlying336 Tryz.underlying221 (by kernel_rfl) (by kernel_rfl) h.tail.tail
  exact Zw0 ht (by kernel_rfl) (by unfold inR;decide)
 ·simp at hn'
end Go.Proofs.YtaaaefcmpgpkgaaGreatDoor
namespace Go.Proofs.YtaaaefcmpgpkgaaGreatDoor
open Go Go.DL Go.ChangeShapes Go.WideShapes Go.ChangeAt Go.RowKit Go.Lib
set_option linter.unusedVariables false
set_option maxRecDepth 100000 in
theorem fields_lifted(os:Os)(started:os.Started)(H:Type)(enc:TypeId×Value→H) :
  ReturnsInHanded {} Tryz.checked os 3 .any (fun w args=>(Rows.uniqueFieldsSpec.pre enc Zyg Tryz.f3 [] false w args∧laidMetH Zyg Rows.uniqueFieldsRow.laid w)∧sizedMet enc Zyg Tryz.f3 (OpenSpec.ofChange Rows.uniqueFieldsSpec) false w args)
   (Rows.uniqueFieldsSpec.post enc Zyg Tryz.f3 false true false false):=by
 refine returnsInHanded_of_change_and (C:=Tryz.checked) (X:=fun w _=>laidMetH Zyg Rows.uniqueFieldsRow.laid w) (fun _ _ _ hh h=>h.of_heap hh) own started (by kernel_rfl) Tryz.func3
  (ChangeSpec.witness_shaped (enc:=enc) (C:=Tryz.checked) (os:=os) (X:=fun w _=>laidMetH Zyg Rows.uniqueFieldsRow.laid w) false (World.laidAll Zyg os Rows.uniqueFieldsRow.laid) #[.agg #[.string ⟨#[]⟩,.slice nO 0 0,.string ⟨#[]⟩],.int .i64 0] 8 (World.laidAll_os _ _ _)
   (World.shaped_of_ZipB (by kernel_rfl) (by kernel_rfl)) (by kernel_rfl) (by kernel_rfl) (by kernel_rfl)
   (by rw[MakeChecks.laidMetH_plain _ _ _ (by kernel_rfl)];exact laidMet_laidAll _ (by kernel_rfl) (by kernel_rfl))) ?_
 intro W base args ds gs before hval hW h1 h2 h3 h4
 have hp:Tryz.f3.params.toList=[24,3]:=by rw[Tryz.params3]
 have hlaid:laidMet Zyg Rows.uniqueFieldsRow.laid W:=by rw[←MakeChecks.laidMetH_plain _ _ _ (by kernel_rfl)];first|exact h1|exact h2|exact h3|exact h4
 refine Zqc (P:=Zyg) (tb:=4) (Qs:=[fun x=>∃ds:List D,(∃d:Dfn,ds=d.cells)∧x=.agg ds,fun x=>∃n:Int,x=.int .i64 n]) rfl laidOut (fun t ht=>?_) (by kernel_rfl) Tryz.underlying4 (fun ds hds=>?_) (by
  rw[hp]
  refine .cons (ZlP Tryz.underlying24 fun W=>ZxF) (.cons (Zps Tryz.underlying3) .nil)) (fun xs hxs=>?_) W (tabsOk (show laidMet Zyg Rows.uniqueOccursRow.laid W from hlaid)) base args ds gs before hval hW
 ·rw[hp]at ht
  simp only[ZyP,List.not_mem_nil,or_false]at ht
  rcases ht with rfl|rfl<;>exact⟨by kernel_rfl,of_decide_eq_true (by kernel_rfl)⟩
 ·rw[hp]at hds
  match ds,hds with
  | [a,b],_=>rfl
 ·cases hxs with|cons h1 hxs =>
  cases hxs with|cons h2 hxs =>
  cases hxs
  obtain⟨_,⟨d,rfl⟩,rfl⟩:=h1
  obtain⟨s,rfl⟩:=h2
  exact Zg4 Znh d s
theorem fields_facts:joinedFacts Zyg 3 Tryz.f3 Rows.uniqueFieldsSpec Rows.uniqueFieldsRow=true:=by
 unfold joinedFacts
 simp only[Zyk]
 repeat' apply Zyf
 all_goals decide +kernel
theorem fields_row:Rows.UniqueFieldsSaid :=
 OpenClaim.holds_of_wide 3 Tryz.f3 rfl rfl rfl rfl rfl rfl rfl ⟨rfl,rfl,rfl,rfl,rfl⟩ rfl rfl rfl rfl rfl (by kernel_rfl) Tryz.func3 fields_facts
  (of_decide_eq_true (by kernel_rfl)) (by unfold Func.isWrapper;first|(rw[if_pos (by decide +kernel)];kernel_rfl)|(rw[if_neg (by decide +kernel)];exact⟨rfl,rfl⟩))
  (fun os started H enc _=>fields_lifted os started H enc)
end Go.Proofs.YtaaaefcmpgpkgaaGreatDoor
namespace Go.Proofs.YtaaaefcmpgpkgaaGreatDoor
open Go
theorem goes_none{P:Program}(h:P.funcs.any Func.goes=false)(c:OpenClaim)(hs:c.start=.entering):c.goesBy P=false:=by
 have h1:∀f,P.goes f=false:=fun f=>by
  unfold Program.goes
  rw[h,Bool.and_false,Bool.or_false,List.any_eq_false]
  intro g _
  cases hg:P.funcs[g]? with
  |none=>simp
  |some fn =>
   have hm:fn∈P.funcs:=Array.mem_of_getElem? hg
   rw[Array.any_eq_false']at h
   simpa using h fn hm
 unfold OpenClaim.goesBy Program.goesAt Program.goesFrom
 rw[hs]
 cases P.funcNamed c.func<;>simp[h1]
theorem fields_goes:false=Rows.uniqueFieldsRow.goesBy Zyg:=(goes_none (by kernel_rfl) _ rfl).symm
theorem Zew:Rows.uniqueFieldsRow.wfByText (OpenSpec.ofChange Rows.uniqueFieldsSpec)=true:=by kernel_rfl
theorem fields_main:Tryz.prog.mainIs=sO (true,"b519238da398f7d76529939115582c160177ceece40f13cb2ec7f36528bad88e".toList):=by kernel_rfl
theorem fields_looks:true=Tryz.prog.looks []:=by kernel_rfl
theorem fields_holds:Rows.UniqueFieldsCardSaid :=
 Claim7.holds_tied_plain_at .later [] [.data,.data,.data,.data,.sentinel,.sentinel,.pinned] true (true,"b519238da398f7d76529939115582c160177ceece40f13cb2ec7f36528bad88e") true
  fields_row (fun _ h=>by cases h) Zew (fun _ h=>by cases h) uniqueFields_row_tie rfl ⟨rfl,rfl⟩ fields_main rfl
  (fun f fn hf hfn=>by
   obtain rfl:f=3:=Option.some.inj ((show Tryz.prog.funcNamed "phrasebook/phrasebooklaw22.UniqueFields" = sO 3 by kernel_rfl).symm.trans hf) |>.symm
   obtain rfl:fn=Tryz.f3:=(Option.some.inj (Tryz.func3.symm.trans hfn)).symm
   exact⟨fields_looks,fun j t ht=>by
    rw[Tryz.params3]at ht
    have hm:t∈[24,3]:=by simpa using Array.mem_of_getElem? ht
    have hall:([24,3].all fun u=>!Tryz.prog.wantsStandIn u)=true:=by kernel_rfl
    exact(show Tryz.prog.wantsStandIn t=false by simpa using List.all_eq_true.1 hall t hm)⟩)
  fields_goes
end Go.Proofs.YtaaaefcmpgpkgaaGreatDoor
