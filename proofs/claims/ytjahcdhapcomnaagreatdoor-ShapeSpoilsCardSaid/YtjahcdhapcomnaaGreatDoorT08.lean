/- For every definition, name of a message and value, the law returns true. No condition beyond those of the card. -/
import Derived.Test.YtjahcdhapcomnaaGreatDoorT07
import Derived.Test.YtjahcdhapcomnaaGreatDoorRows
import Derived.Test.YtjahcdhapcomnaaGreatDoorCards
import Derived.Test.YtjahcdhapcomnaaGreatDoorTie
set_option maxHeartbeats 16000000
set_option maxRecDepth 100000
set_option linter.all false
open Option renaming some → sO, none → nO
open Inhabited renaming default → dE
open Decidable renaming decide → dC
open And renaming intro → ZEC
open Bool renaming and_eq_true → ZEK
open Go.Proofs.Tryz renaming prog → ZEA
open List renaming mem_cons → ZFd
namespace Go.Proofs.YtjahcdhapcomnaaGreatDoor
open Go Go.DL Go.ChangeShapes Go.WideShapes Go.ChangeAt Go.RowKit Go.Lib
set_option linter.unusedVariables false
set_option maxRecDepth 100000 in
theorem spoils_lifted(os:Os)(started:os.Started)(H:Type)(enc:TypeId×Value→H) :
  ReturnsInHanded {} Tryz.checked os 3 .any (fun w args=>(Rows.shapeSpoilsSpec.pre enc ZEA Tryz.f3 [] false w args∧laidMetH ZEA Rows.shapeSpoilsRow.laid w)∧sizedMet enc ZEA Tryz.f3 (OpenSpec.ofChange Rows.shapeSpoilsSpec) false w args)
   (Rows.shapeSpoilsSpec.post enc ZEA Tryz.f3 false true false false):=by
 refine returnsInHanded_of_change_and (C:=Tryz.checked) (X:=fun w _=>laidMetH ZEA Rows.shapeSpoilsRow.laid w) (fun _ _ _ hh h=>h.of_heap hh) own started (by kernel_rfl) Tryz.func3
  (ChangeSpec.witness_shaped (enc:=enc) (C:=Tryz.checked) (os:=os) (X:=fun w _=>laidMetH ZEA Rows.shapeSpoilsRow.laid w) false (World.laidAll ZEA os Rows.shapeSpoilsRow.laid) #[.agg #[.string ⟨#[]⟩,.slice nO 0 0,.string ⟨#[]⟩],.string ⟨#[]⟩,.agg #[.string ⟨#[]⟩,.int .i64 0,.slice nO 0 0,.slice nO 0 0,.slice nO 0 0],.int .i64 0] 8 (World.laidAll_os _ _ _)
   (World.shaped_of_ZipB (by kernel_rfl) (by kernel_rfl)) (by kernel_rfl) (by kernel_rfl) (by kernel_rfl)
   (by rw[MakeChecks.laidMetH_plain _ _ _ (by kernel_rfl)];exact laidMet_laidAll _ (by kernel_rfl) (by kernel_rfl))) ?_
 intro W base args ds gs before hval hW h1 h2 h3 h4
 have hp:Tryz.f3.params.toList=[24,9,29,3]:=by rw[Tryz.params3]
 have hlaid:laidMet ZEA Rows.shapeSpoilsRow.laid W:=by rw[←MakeChecks.laidMetH_plain _ _ _ (by kernel_rfl)];first|exact h1|exact h2|exact h3|exact h4
 refine Zrs (P:=ZEA) (tb:=4) (Qs:=[fun x=>∃ds:List D,(∃d:Dfn,ds=d.cells)∧x=.agg ds,fun x=>∃s:Str,x=.str s,fun x=>∃ds:List D,(∃v:Val,ds=v.cells)∧x=.agg ds,fun x=>∃n:Int,x=.int .i64 n]) rfl laidOut (fun t ht=>?_) (by kernel_rfl) Tryz.underlying4 (fun ds hds=>?_) (by
  rw[hp]
  refine .cons (Ze9 Tryz.underlying24 fun W=>ZAv) (.cons (ZqK Tryz.underlying9) (.cons (Ze9 Tryz.underlying29 fun W=>ZAy) (.cons (ZqJ Tryz.underlying3) .nil)))) (fun xs hxs=>?_) W (tabsOk (show laidMet ZEA Rows.shapeSpoilsRow.laid W from hlaid)) base args ds gs before hval hW (by first|exact h1|exact h2|exact h3|exact h4)
 ·rw[hp]at ht
  simp only[ZFd,List.not_mem_nil,or_false]at ht
  rcases ht with rfl|rfl|rfl|rfl<;>exact⟨by kernel_rfl,of_decide_eq_true (by kernel_rfl)⟩
 ·rw[hp]at hds
  match ds,hds with
  | [a,b,c,e],_=>rfl
 ·cases hxs with|cons h1 hxs =>
  cases hxs with|cons h2 hxs =>
  cases hxs with|cons h3 hxs =>
  cases hxs with|cons h4 hxs =>
  cases hxs
  obtain⟨_,⟨d,rfl⟩,rfl⟩:=h1
  obtain⟨s,rfl⟩:=h2
  obtain⟨_,⟨v,rfl⟩,rfl⟩:=h3
  obtain⟨n,rfl⟩:=h4
  exact Zhh Zza ZAO ZAK Zn6 d s v n
theorem spoils_facts:joinedFacts ZEA 3 Tryz.f3 Rows.shapeSpoilsSpec Rows.shapeSpoilsRow=true:=by
 unfold joinedFacts
 simp only[ZEK]
 repeat' apply ZEC
 all_goals decide +kernel
theorem spoils_row:Rows.ShapeSpoilsSaid :=
 OpenClaim.holds_of_wide 3 Tryz.f3 rfl rfl rfl rfl rfl rfl rfl ⟨rfl,rfl,rfl,rfl,rfl⟩ rfl rfl rfl rfl rfl (by kernel_rfl) Tryz.func3 spoils_facts
  (of_decide_eq_true (by kernel_rfl)) (by unfold Func.isWrapper;first|(rw[if_pos (by decide +kernel)];kernel_rfl)|(rw[if_neg (by decide +kernel)];exact⟨rfl,rfl⟩))
  (fun os started H enc _=>spoils_lifted os started H enc)
end Go.Proofs.YtjahcdhapcomnaaGreatDoor
namespace Go.Proofs.YtjahcdhapcomnaaGreatDoor
open Go
theorem goes_noneS{P:Program}(h:P.funcs.any Func.goes=false)(c:OpenClaim)(hs:c.start=.entering):c.goesBy P=false:=by
 have h1:∀f,P.goes f=false:=fun f=>by
  unfold Program.goes
  rw[h,Bool.and_false,Bool.or_false,List.any_eq_false]
  intro g _
  cases hg:P.funcs[g]? with
  |none=>simp
  |some fn =>
   have hm:fn∈P.funcs:=Array.mem_of_getElem? hg
   rw[Array.any_eq_false']at h
   simpa using h fn hm
 unfold OpenClaim.goesBy Program.goesAt Program.goesFrom
 rw[hs]
 cases P.funcNamed c.func<;>simp[h1]
theorem spoils_goes:false=Rows.shapeSpoilsRow.goesBy ZEA:=(goes_noneS (by kernel_rfl) _ rfl).symm
theorem spoils_wf:Rows.shapeSpoilsRow.wfByText (OpenSpec.ofChange Rows.shapeSpoilsSpec)=true:=by kernel_rfl
theorem spoils_main:Tryz.prog.mainIs=sO (true,"25369382f4039bc50c5d6ffa0c709c2f887ba9e09ed923f9573334fcc0924faf".toList):=by kernel_rfl
theorem spoils_looks:true=Tryz.prog.looks []:=by kernel_rfl
theorem spoils_holds:Rows.ShapeSpoilsCardSaid :=
 Claim7.holds_tied_plain_at .later [] [.data,.data,.data,.data,.sentinel,.sentinel,.pinned] true (true,"25369382f4039bc50c5d6ffa0c709c2f887ba9e09ed923f9573334fcc0924faf") true
  spoils_row (fun _ h=>by cases h) spoils_wf (fun _ h=>by cases h) shapeSpoils_row_tie rfl ⟨rfl,rfl⟩ spoils_main rfl
  (fun f fn hf hfn=>by
   obtain rfl:f=3:=Option.some.inj ((show Tryz.prog.funcNamed "phrasebook/phrasebooklaw15.ShapeSpoils" = sO 3 by kernel_rfl).symm.trans hf) |>.symm
   obtain rfl:fn=Tryz.f3:=(Option.some.inj (Tryz.func3.symm.trans hfn)).symm
   exact⟨spoils_looks,fun j t ht=>by
    rw[Tryz.params3]at ht
    have hm:t∈[24,9,29,3]:=by simpa using Array.mem_of_getElem? ht
    have hall:([24,9,29,3].all fun u=>!Tryz.prog.wantsStandIn u)=true:=by kernel_rfl
    exact(show Tryz.prog.wantsStandIn t=false by simpa using List.all_eq_true.1 hall t hm)⟩)
  spoils_goes
end Go.Proofs.YtjahcdhapcomnaaGreatDoor
