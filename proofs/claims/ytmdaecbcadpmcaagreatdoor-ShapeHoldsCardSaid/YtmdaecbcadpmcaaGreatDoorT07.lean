/- For every definition, name of a message and value, the law returns true. No condition beyond those of the card. -/
import Derived.Test.YtmdaecbcadpmcaaGreatDoorT06
import Derived.Test.YtmdaecbcadpmcaaGreatDoorRows
import Derived.Test.YtmdaecbcadpmcaaGreatDoorCards
import Derived.Test.YtmdaecbcadpmcaaGreatDoorTie
set_option maxHeartbeats 16000000
set_option maxRecDepth 100000
set_option linter.all false
open Option renaming some → sO, none → nO
open Inhabited renaming default → dE
open Decidable renaming decide → dC
open And renaming intro → ZDX
open Bool renaming and_eq_true → ZD5
open Go.Proofs.Tryz renaming prog → ZDW
open List renaming mem_cons → ZEz
namespace Go.Proofs.YtmdaecbcadpmcaaGreatDoor
open Go Go.DL Go.ChangeShapes Go.WideShapes Go.ChangeAt Go.RowKit Go.Lib
set_option linter.unusedVariables false
set_option maxRecDepth 100000 in
theorem holds_lifted(os:Os)(started:os.Started)(H:Type)(enc:TypeId×Value→H) :
  ReturnsInHanded {} Tryz.checked os 4 .any (fun w args=>(Rows.shapeHoldsSpec.pre enc ZDW Tryz.f4 [] false w args∧laidMetH ZDW Rows.shapeHoldsRow.laid w)∧sizedMet enc ZDW Tryz.f4 (OpenSpec.ofChange Rows.shapeHoldsSpec) false w args)
   (Rows.shapeHoldsSpec.post enc ZDW Tryz.f4 false true false false):=by
 refine returnsInHanded_of_change_and (C:=Tryz.checked) (X:=fun w _=>laidMetH ZDW Rows.shapeHoldsRow.laid w) (fun _ _ _ hh h=>h.of_heap hh) own started (by kernel_rfl) Tryz.func4
  (ChangeSpec.witness_shaped (enc:=enc) (C:=Tryz.checked) (os:=os) (X:=fun w _=>laidMetH ZDW Rows.shapeHoldsRow.laid w) false (World.laidAll ZDW os Rows.shapeHoldsRow.laid) #[.agg #[.string ⟨#[]⟩,.slice nO 0 0,.string ⟨#[]⟩],.string ⟨#[]⟩,.agg #[.string ⟨#[]⟩,.int .i64 0,.slice nO 0 0,.slice nO 0 0,.slice nO 0 0]] 8 (World.laidAll_os _ _ _)
   (World.shaped_of_ZipB (by kernel_rfl) (by kernel_rfl)) (by kernel_rfl) (by kernel_rfl) (by kernel_rfl)
   (by rw[MakeChecks.laidMetH_plain _ _ _ (by kernel_rfl)];exact laidMet_laidAll _ (by kernel_rfl) (by kernel_rfl))) ?_
 intro W ab args ds gs j z hW h1 h2 h3 h4;have hp:Tryz.f4.params.toList=[24,9,29]:=by rw[Tryz.params4]
 have n:laidMet ZDW Rows.shapeHoldsRow.laid W:=by rw[←MakeChecks.laidMetH_plain _ _ _ (by kernel_rfl)];first|exact h1|exact h2|exact h3|exact h4
 refine Zrc (P:=ZDW) (tb:=4) (Qs:=[fun x=>∃ds:List D,(∃d:Dfn,ds=d.cells)∧x=.agg ds,fun x=>∃s:Str,x=.str s,fun x=>∃ds:List D,(∃v:Val,ds=v.cells)∧x=.agg ds]) rfl laidOut (fun t ht=>?_) (by kernel_rfl) Tryz.underlying4 (fun ds u=>?_) (by
  rw[hp];refine .cons (Ze7 Tryz.underlying24 fun W=>ZzY) (.cons (Zqu Tryz.underlying9) (.cons (Ze7 Tryz.underlying29 fun W=>Zz1) .nil))) (fun xs i=>?_) W (tabsOk (show laidMet ZDW Rows.shapeHoldsRow.laid W from n)) ab args ds gs j z hW (by first|exact h1|exact h2|exact h3|exact h4)
 rw[hp]at ht;simp only[ZEz,List.not_mem_nil,or_false]at ht;rcases ht with rfl|rfl|rfl<;>exact⟨by kernel_rfl,of_decide_eq_true (by kernel_rfl)⟩
 ·rw[hp]at u
  match ds,u with
  | [a,b,c],_=>rfl
 cases i with|cons h1 i =>
 cases i with|cons h2 i =>
 cases i with|cons h3 i =>
 cases i;obtain⟨_,⟨d,rfl⟩,rfl⟩:=h1;obtain⟨s,rfl⟩:=h2;obtain⟨_,⟨v,rfl⟩,rfl⟩:=h3;exact ZhS ZyD Zn0 d s v
theorem holds_facts:joinedFacts ZDW 4 Tryz.f4 Rows.shapeHoldsSpec Rows.shapeHoldsRow=true:=by
 unfold joinedFacts;simp only[ZD5]
 repeat' apply ZDX
 all_goals decide +kernel
theorem holds_row:Rows.ShapeHoldsSaid :=
 OpenClaim.holds_of_wide 4 Tryz.f4 rfl rfl rfl rfl rfl rfl rfl ⟨rfl,rfl,rfl,rfl,rfl⟩ rfl rfl rfl rfl rfl (by kernel_rfl) Tryz.func4 holds_facts
  (of_decide_eq_true (by kernel_rfl)) (by unfold Func.isWrapper;first|(rw[if_pos (by decide +kernel)];kernel_rfl)|(rw[if_neg (by decide +kernel)];exact⟨rfl,rfl⟩))
  (fun os i H enc _=>holds_lifted os i H enc)
end Go.Proofs.YtmdaecbcadpmcaaGreatDoor
namespace Go.Proofs.YtmdaecbcadpmcaaGreatDoor
open Go
theorem goes_noneH{P:Program}(h:P.funcs.any Func.goes=false)(c:OpenClaim)(hs:c.start=.entering):c.goesBy P=false:=by
 have h1:∀f,P.goes f=false:=fun f=>by
  unfold Program.goes;rw[h,Bool.and_false,Bool.or_false,List.any_eq_false];intro g _;cases hg:P.funcs[g]? with
  |none=>simp
  |some fn =>have hm:fn∈P.funcs:=Array.mem_of_getElem? hg;rw[Array.any_eq_false']at h;simpa using h fn hm
 unfold OpenClaim.goesBy Program.goesAt Program.goesFrom;rw[hs];cases P.funcNamed c.func<;>simp[h1]
theorem holds_goes:false=Rows.shapeHoldsRow.goesBy ZDW:=(goes_noneH (by kernel_rfl) _ rfl).symm
theorem holds_wf:Rows.shapeHoldsRow.wfByText (OpenSpec.ofChange Rows.shapeHoldsSpec)=true:=by kernel_rfl
theorem holds_main:Tryz.prog.mainIs=sO (true,"28bf4c03c572d70851297e99e76252c46895b364c90fc71e2d2624c402d85dbf".toList):=by kernel_rfl
theorem holds_looks:true=Tryz.prog.looks []:=by kernel_rfl
theorem holds_holds:Rows.ShapeHoldsCardSaid :=
 Claim7.holds_tied_plain_at .later [] [.data,.data,.data,.data,.sentinel,.sentinel,.pinned] true (true,"28bf4c03c572d70851297e99e76252c46895b364c90fc71e2d2624c402d85dbf") true
  holds_row (fun _ h=>by cases h) holds_wf (fun _ h=>by cases h) shapeHolds_row_tie rfl ⟨rfl,rfl⟩ holds_main rfl
  (fun f fn hf n=>by
   obtain rfl:f=4:=Option.some.inj ((show Tryz.prog.funcNamed "phrasebook/phrasebooklaw15.ShapeHolds" = sO 4 by kernel_rfl).symm.trans hf) |>.symm;obtain rfl:fn=Tryz.f4:=(Option.some.inj (Tryz.func4.symm.trans n)).symm;exact⟨holds_looks,fun j t ht=>by
    rw[Tryz.params4]at ht;have hm:t∈[24,9,29]:=by simpa using Array.mem_of_getElem? ht
    have i:([24,9,29].all fun u=>!Tryz.prog.wantsStandIn u)=true:=by kernel_rfl
    exact(show Tryz.prog.wantsStandIn t=false by simpa using List.all_eq_true.1 i t hm)⟩)
  holds_goes
end Go.Proofs.YtmdaecbcadpmcaaGreatDoor
