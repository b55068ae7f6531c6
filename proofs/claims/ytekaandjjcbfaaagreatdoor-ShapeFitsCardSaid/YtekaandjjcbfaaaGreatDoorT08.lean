/- For every definition, name of a message and value, the law ShapeFits returns true: the first misfit of the value, or the error, is that of the reference. No condition beyond the card's own. -/
import Derived.Test.YtekaandjjcbfaaaGreatDoorT06
import Derived.Test.YtekaandjjcbfaaaGreatDoorRows
import Derived.Test.YtekaandjjcbfaaaGreatDoorCards
import Derived.Test.YtekaandjjcbfaaaGreatDoorTie
set_option maxHeartbeats 16000000
set_option maxRecDepth 100000
set_option linter.all false
open Option renaming some → sO, none → nO
open Inhabited renaming default → dE
open Decidable renaming decide → dC
open And renaming intro → ZER
open Bool renaming and_eq_true → ZEY
open Go.Proofs.Tryz renaming prog → ZEQ
open List renaming mem_cons → ZFv
namespace Go.Proofs.YtekaandjjcbfaaaGreatDoor
open Go Go.DL Go.ChangeShapes Go.WideShapes Go.ChangeAt Go.RowKit Go.Lib
set_option linter.unusedVariables false
set_option maxRecDepth 100000 in
theorem fits_lifted(os:Os)(started:os.Started)(H:Type)(enc:TypeId×Value→H) :
  ReturnsInHanded {} Tryz.checked os 3 .any (fun w args=>(Rows.shapeFitsSpec.pre enc ZEQ Tryz.f3 [] false w args∧laidMetH ZEQ Rows.shapeFitsRow.laid w)∧sizedMet enc ZEQ Tryz.f3 (OpenSpec.ofChange Rows.shapeFitsSpec) false w args)
   (Rows.shapeFitsSpec.post enc ZEQ Tryz.f3 false true false false):=by
 refine returnsInHanded_of_change_and (C:=Tryz.checked) (X:=fun w _=>laidMetH ZEQ Rows.shapeFitsRow.laid w) (fun _ _ _ hh h=>h.of_heap hh) own started (by kernel_rfl) Tryz.func3
  (ChangeSpec.witness_shaped (enc:=enc) (C:=Tryz.checked) (os:=os) (X:=fun w _=>laidMetH ZEQ Rows.shapeFitsRow.laid w) false (World.laidAll ZEQ os Rows.shapeFitsRow.laid) #[.agg #[.string ⟨#[]⟩,.slice nO 0 0,.string ⟨#[]⟩],.string ⟨#[]⟩,.agg #[.string ⟨#[]⟩,.int .i64 0,.slice nO 0 0,.slice nO 0 0,.slice nO 0 0]] 8 (World.laidAll_os _ _ _)
   (World.shaped_of_ZipB (by kernel_rfl) (by kernel_rfl)) (by kernel_rfl) (by kernel_rfl) (by kernel_rfl)
   (by rw[MakeChecks.laidMetH_plain _ _ _ (by kernel_rfl)];exact laidMet_laidAll _ (by kernel_rfl) (by kernel_rfl))) ?_
 intro W u args ds gs j z hW h1 h2 h3 h4
 have hp:Tryz.f3.params.toList=[24,9,29]:=by rw[Tryz.params3]
 have n:laidMet ZEQ Rows.shapeFitsRow.laid W:=by rw[←MakeChecks.laidMetH_plain _ _ _ (by kernel_rfl)];first|exact h1|exact h2|exact h3|exact h4
 refine Zit (P:=ZEQ) (tb:=4) (Qs:=[fun x=>∃ds:List D,(∃d:Dfn,ds=d.cells)∧x=.agg ds,fun x=>∃s:Str,x=.str s,fun x=>∃ds:List D,(∃v:Val,ds=v.cells)∧x=.agg ds]) rfl laidOut (fun t ht=>?_) (by kernel_rfl) Tryz.underlying4 (fun ds y=>?_) (by
  rw[hp]
  refine .cons (Zap Tryz.underlying24 fun W=>Zwz) (.cons (Zh3 Tryz.underlying9) (.cons (Zap Tryz.underlying29 fun W=>ZwA) .nil))) (fun xs i=>?_) W (tabsOk (show laidMet ZEQ Rows.shapeLengthsRow.laid W from n)) u args ds gs j z hW
 ·rw[hp]at ht
  simp only[ZFv,List.not_mem_nil,or_false]at ht
  rcases ht with rfl|rfl|rfl<;>exact⟨by kernel_rfl,of_decide_eq_true (by kernel_rfl)⟩
 ·rw[hp]at y
  match ds,y with
  | [a,b,c],_=>rfl
 cases i with|cons h1 i =>
 cases i with|cons h2 i =>
 cases i with|cons h3 i =>
 cases i
 obtain⟨_,⟨d,rfl⟩,rfl⟩:=h1
 obtain⟨s,rfl⟩:=h2
 obtain⟨_,⟨v,rfl⟩,rfl⟩:=h3
 exact Zir Zty Zgq d s v
theorem fits_facts:joinedFacts ZEQ 3 Tryz.f3 Rows.shapeFitsSpec Rows.shapeFitsRow=true:=by
 unfold joinedFacts
 simp only[ZEY]
 repeat' apply ZER
 all_goals decide +kernel
theorem fits_row:Rows.ShapeFitsSaid :=
 OpenClaim.holds_of_wide 3 Tryz.f3 rfl rfl rfl rfl rfl rfl rfl ⟨rfl,rfl,rfl,rfl,rfl⟩ rfl rfl rfl rfl rfl (by kernel_rfl) Tryz.func3 fits_facts
  (of_decide_eq_true (by kernel_rfl)) (by unfold Func.isWrapper;first|(rw[if_pos (by decide +kernel)];kernel_rfl)|(rw[if_neg (by decide +kernel)];exact⟨rfl,rfl⟩))
  (fun os c H enc _=>fits_lifted os c H enc)
end Go.Proofs.YtekaandjjcbfaaaGreatDoor
namespace Go.Proofs.YtekaandjjcbfaaaGreatDoor
open Go
theorem goes_noneF{P:Program}(h:P.funcs.any Func.goes=false)(c:OpenClaim)(hs:c.start=.entering):c.goesBy P=false:=by
 have h1:∀f,P.goes f=false:=fun f=>by
  unfold Program.goes
  rw[h,Bool.and_false,Bool.or_false,List.any_eq_false]
  intro g _
  cases hg:P.funcs[g]? with
  |none=>simp
  |some fn =>
   have hm:fn∈P.funcs:=Array.mem_of_getElem? hg
   rw[Array.any_eq_false']at h
   simpa using h fn hm
 unfold OpenClaim.goesBy Program.goesAt Program.goesFrom
 rw[hs]
 cases P.funcNamed c.func<;>simp[h1]
theorem fits_goes:false=Rows.shapeFitsRow.goesBy ZEQ:=(goes_noneF (by kernel_rfl) _ rfl).symm
theorem fits_wf:Rows.shapeFitsRow.wfByText (OpenSpec.ofChange Rows.shapeFitsSpec)=true:=by kernel_rfl
theorem fits_main:Tryz.prog.mainIs=sO (true,"ee19e8d8e77850d3b2afecd9abf96dd53b93f1bde7eaf030e3f5b2ccea26dfee".toList):=by kernel_rfl
theorem fits_looks:true=Tryz.prog.looks []:=by kernel_rfl
theorem fits_holds:Rows.ShapeFitsCardSaid :=
 Claim7.holds_tied_plain_at .later [] [.data,.data,.data,.data,.sentinel,.sentinel,.pinned] true (true,"ee19e8d8e77850d3b2afecd9abf96dd53b93f1bde7eaf030e3f5b2ccea26dfee") true
  fits_row (fun _ h=>by cases h) fits_wf (fun _ h=>by cases h) shapeFits_row_tie rfl ⟨rfl,rfl⟩ fits_main rfl
  (fun f fn hf i=>by
   obtain rfl:f=3:=Option.some.inj ((show Tryz.prog.funcNamed "phrasebook/phrasebooklaw15.ShapeFits" = sO 3 by kernel_rfl).symm.trans hf) |>.symm
   obtain rfl:fn=Tryz.f3:=(Option.some.inj (Tryz.func3.symm.trans i)).symm
   exact⟨fits_looks,fun j t ht=>by
    rw[Tryz.params3]at ht
    have hm:t∈[24,9,29]:=by simpa using Array.mem_of_getElem? ht
    have c:([24,9,29].all fun u=>!Tryz.prog.wantsStandIn u)=true:=by kernel_rfl
    exact(show Tryz.prog.wantsStandIn t=false by simpa using List.all_eq_true.1 c t hm)⟩)
  fits_goes
end Go.Proofs.YtekaandjjcbfaaaGreatDoor
