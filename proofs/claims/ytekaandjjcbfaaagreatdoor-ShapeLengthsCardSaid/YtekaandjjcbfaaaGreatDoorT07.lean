/- For every definition, name of a message and value, the law ShapeLengths returns true: the length of the value, or the error, is that of the reference. No condition beyond the card's own. -/
import Derived.Test.YtekaandjjcbfaaaGreatDoorT06
import Derived.Test.YtekaandjjcbfaaaGreatDoorRows
import Derived.Test.YtekaandjjcbfaaaGreatDoorCards
import Derived.Test.YtekaandjjcbfaaaGreatDoorTie
set_option maxHeartbeats 16000000
set_option maxRecDepth 100000
set_option linter.all false
open Option renaming some → sO, none → nO
open Inhabited renaming default → dE
open Decidable renaming decide → dC
open And renaming intro → ZER
open Bool renaming and_eq_true → ZEY
open Go.Proofs.Tryz renaming prog → ZEQ
open List renaming mem_cons → ZFv
namespace Go.Proofs.YtekaandjjcbfaaaGreatDoor
open Go Go.DL Go.ChangeShapes Go.WideShapes Go.ChangeAt Go.RowKit Go.Lib
set_option linter.unusedVariables false
set_option maxRecDepth 100000 in
theorem lengths_lifted(os:Os)(started:os.Started)(H:Type)(enc:TypeId×Value→H) :
  ReturnsInHanded {} Tryz.checked os 4 .any (fun w args=>(Rows.shapeLengthsSpec.pre enc ZEQ Tryz.f4 [] false w args∧laidMetH ZEQ Rows.shapeLengthsRow.laid w)∧sizedMet enc ZEQ Tryz.f4 (OpenSpec.ofChange Rows.shapeLengthsSpec) false w args)
   (Rows.shapeLengthsSpec.post enc ZEQ Tryz.f4 false true false false):=by
 refine returnsInHanded_of_change_and (C:=Tryz.checked) (X:=fun w _=>laidMetH ZEQ Rows.shapeLengthsRow.laid w) (fun _ _ _ hh h=>h.of_heap hh) own started (by kernel_rfl) Tryz.func4
  (ChangeSpec.witness_shaped (enc:=enc) (C:=Tryz.checked) (os:=os) (X:=fun w _=>laidMetH ZEQ Rows.shapeLengthsRow.laid w) false (World.laidAll ZEQ os Rows.shapeLengthsRow.laid) #[.agg #[.string ⟨#[]⟩,.slice nO 0 0,.string ⟨#[]⟩],.string ⟨#[]⟩,.agg #[.string ⟨#[]⟩,.int .i64 0,.slice nO 0 0,.slice nO 0 0,.slice nO 0 0]] 8 (World.laidAll_os _ _ _)
   (World.shaped_of_ZipB (by kernel_rfl) (by kernel_rfl)) (by kernel_rfl) (by kernel_rfl) (by kernel_rfl)
   (by rw[MakeChecks.laidMetH_plain _ _ _ (by kernel_rfl)];exact laidMet_laidAll _ (by kernel_rfl) (by kernel_rfl))) ?_
 intro W u args ds gs j z hW h1 h2 h3 h4
 have hp:Tryz.f4.params.toList=[24,9,29]:=by rw[Tryz.params4]
 have n:laidMet ZEQ Rows.shapeLengthsRow.laid W:=by rw[←MakeChecks.laidMetH_plain _ _ _ (by kernel_rfl)];first|exact h1|exact h2|exact h3|exact h4
 refine Zit (P:=ZEQ) (tb:=4) (Qs:=[fun x=>∃ds:List D,(∃d:Dfn,ds=d.cells)∧x=.agg ds,fun x=>∃s:Str,x=.str s,fun x=>∃ds:List D,(∃v:Val,ds=v.cells)∧x=.agg ds]) rfl laidOut (fun t ht=>?_) (by kernel_rfl) Tryz.underlying4 (fun ds y=>?_) (by
  rw[hp]
  refine .cons (Zap Tryz.underlying24 fun W=>Zwz) (.cons (Zh3 Tryz.underlying9) (.cons (Zap Tryz.underlying29 fun W=>ZwA) .nil))) (fun xs i=>?_) W (tabsOk (show laidMet ZEQ Rows.shapeLengthsRow.laid W from n)) u args ds gs j z hW
 ·rw[hp]at ht
  simp only[ZFv,List.not_mem_nil,or_false]at ht
  rcases ht with rfl|rfl|rfl<;>exact⟨by kernel_rfl,of_decide_eq_true (by kernel_rfl)⟩
 ·rw[hp]at y
  match ds,y with
  | [a,b,c],_=>rfl
 cases i with|cons h1 i =>
 cases i with|cons h2 i =>
 cases i with|cons h3 i =>
 cases i
 obtain⟨_,⟨d,rfl⟩,rfl⟩:=h1
 obtain⟨s,rfl⟩:=h2
 obtain⟨_,⟨v,rfl⟩,rfl⟩:=h3
 exact Zgp Zty Zgq d s v
theorem lengths_facts:joinedFacts ZEQ 4 Tryz.f4 Rows.shapeLengthsSpec Rows.shapeLengthsRow=true:=by
 unfold joinedFacts
 simp only[ZEY]
 repeat' apply ZER
 all_goals decide +kernel
theorem lengths_row:Rows.ShapeLengthsSaid :=
 OpenClaim.holds_of_wide 4 Tryz.f4 rfl rfl rfl rfl rfl rfl rfl ⟨rfl,rfl,rfl,rfl,rfl⟩ rfl rfl rfl rfl rfl (by kernel_rfl) Tryz.func4 lengths_facts
  (of_decide_eq_true (by kernel_rfl)) (by unfold Func.isWrapper;first|(rw[if_pos (by decide +kernel)];kernel_rfl)|(rw[if_neg (by decide +kernel)];exact⟨rfl,rfl⟩))
  (fun os c H enc _=>lengths_lifted os c H enc)
end Go.Proofs.YtekaandjjcbfaaaGreatDoor
namespace Go.Proofs.YtekaandjjcbfaaaGreatDoor
open Go
theorem goes_noneL{P:Program}(h:P.funcs.any Func.goes=false)(c:OpenClaim)(hs:c.start=.entering):c.goesBy P=false:=by
 have h1:∀f,P.goes f=false:=fun f=>by
  unfold Program.goes
  rw[h,Bool.and_false,Bool.or_false,List.any_eq_false]
  intro g _
  cases hg:P.funcs[g]? with
  |none=>simp
  |some fn =>
   have hm:fn∈P.funcs:=Array.mem_of_getElem? hg
   rw[Array.any_eq_false']at h
   simpa using h fn hm
 unfold OpenClaim.goesBy Program.goesAt Program.goesFrom
 rw[hs]
 cases P.funcNamed c.func<;>simp[h1]
theorem lengths_goes:false=Rows.shapeLengthsRow.goesBy ZEQ:=(goes_noneL (by kernel_rfl) _ rfl).symm
theorem lengths_wf:Rows.shapeLengthsRow.wfByText (OpenSpec.ofChange Rows.shapeLengthsSpec)=true:=by kernel_rfl
theorem lengths_main:Tryz.prog.mainIs=sO (true,"ee19e8d8e77850d3b2afecd9abf96dd53b93f1bde7eaf030e3f5b2ccea26dfee".toList):=by kernel_rfl
theorem lengths_looks:true=Tryz.prog.looks []:=by kernel_rfl
theorem lengths_holds:Rows.ShapeLengthsCardSaid :=
 Claim7.holds_tied_plain_at .later [] [.data,.data,.data,.data,.sentinel,.sentinel,.pinned] true (true,"ee19e8d8e77850d3b2afecd9abf96dd53b93f1bde7eaf030e3f5b2ccea26dfee") true
  lengths_row (fun _ h=>by cases h) lengths_wf (fun _ h=>by cases h) shapeLengths_row_tie rfl ⟨rfl,rfl⟩ lengths_main rfl
  (fun f fn hf i=>by
   obtain rfl:f=4:=Option.some.inj ((show Tryz.prog.funcNamed "phrasebook/phrasebooklaw15.ShapeLengths" = sO 4 by kernel_rfl).symm.trans hf) |>.symm
   obtain rfl:fn=Tryz.f4:=(Option.some.inj (Tryz.func4.symm.trans i)).symm
   exact⟨lengths_looks,fun j t ht=>by
    rw[Tryz.params4]at ht
    have hm:t∈[24,9,29]:=by simpa using Array.mem_of_getElem? ht
    have c:([24,9,29].all fun u=>!Tryz.prog.wantsStandIn u)=true:=by kernel_rfl
    exact(show Tryz.prog.wantsStandIn t=false by simpa using List.all_eq_true.1 c t hm)⟩)
  lengths_goes
end Go.Proofs.YtekaandjjcbfaaaGreatDoor
