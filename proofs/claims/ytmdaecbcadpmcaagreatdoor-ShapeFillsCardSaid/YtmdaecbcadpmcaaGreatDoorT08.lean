/- For every definition, name of a message and value, the law returns true. No condition beyond those of the card. -/
import Derived.Test.YtmdaecbcadpmcaaGreatDoorT07
import Derived.Test.YtmdaecbcadpmcaaGreatDoorRows
import Derived.Test.YtmdaecbcadpmcaaGreatDoorCards
import Derived.Test.YtmdaecbcadpmcaaGreatDoorTie
set_option maxHeartbeats 16000000
set_option maxRecDepth 100000
set_option linter.all false
open List renaming length->I
open Option renaming some -> sO, none -> nO
open Inhabited renaming default -> dE
open Decidable renaming decide -> dC
open And renaming intro -> ZHG
open Bool renaming and_eq_true -> ZHN
open Go.Proofs.Tryz renaming prog -> ZHF
open List renaming mem_cons -> ZIj
namespace Go.Proofs.YtmdaecbcadpmcaaGreatDoor
open Go Go.DL Go.ChangeShapes Go.WideShapes Go.ChangeAt Go.RowKit Go.Lib
set_option linter.unusedVariables false
set_option maxRecDepth 100000 in
def fills_lifted(os:Os)(started:os.Started)(H:Type)(enc:TypeId×Value->H) :
  ReturnsInHanded {} Tryz.checked os 3 .any (λw args=>(Rows.shapeFillsSpec.pre enc ZHF Tryz.f3 [] false w args/\laidMetH ZHF Rows.shapeFillsRow.laid w)/\sizedMet enc ZHF Tryz.f3 (OpenSpec.ofChange Rows.shapeFillsSpec) false w args)
   (Rows.shapeFillsSpec.post enc ZHF Tryz.f3 false true false false):=by
 refine returnsInHanded_of_change_and (C:=Tryz.checked) (X:=λw _=>laidMetH ZHF Rows.shapeFillsRow.laid w) (λ_ _ _ hh h=>h.of_heap hh) own started (by kernel_rfl) Tryz.func3
  (ChangeSpec.witness_shaped (enc:=enc) (C:=Tryz.checked) (os:=os) (X:=λw _=>laidMetH ZHF Rows.shapeFillsRow.laid w) false (World.laidAll ZHF os Rows.shapeFillsRow.laid) #[.agg #[.string ⟨#[]⟩,.slice nO 0 0,.string ⟨#[]⟩],.string ⟨#[]⟩,.agg #[.string ⟨#[]⟩,.i 0,.slice nO 0 0,.slice nO 0 0,.slice nO 0 0]] 8 (World.laidAll_os _ _ _)
   (World.shaped_of_ZipB (by kernel_rfl) (by kernel_rfl)) (by kernel_rfl) (by kernel_rfl) (by kernel_rfl)
   (by rw[MakeChecks.laidMetH_plain _ _ _ (by kernel_rfl)];exact laidMet_laidAll _ (by kernel_rfl) (by kernel_rfl))) ?_
 intro W z args ds gs j ab hW h1 h2 h3 h4;have hp:Tryz.f3.params.toList=[24,9,29]:=by rw[Tryz.params3]
 have n:laidMet ZHF Rows.shapeFillsRow.laid W:=by rw[<-MakeChecks.laidMetH_plain _ _ _ (by kernel_rfl)];first|exact h1|exact h2|exact h3|exact h4
 refine Ztp (P:=ZHF) (tb:=4) (Qs:=[λx=>∃ds:List D,(∃d:Dfn,ds=d.cells)/\x=.agg ds,λx=>∃s:Str,x=.str s,λx=>∃ds:List D,(∃v:Val,Zdd v/\ds=v.cells)/\x=.agg ds]) rfl laidOut (λt ht=>?_) (by kernel_rfl) Tryz.underlying4 (λds u=>?_) (by
  rw[hp];refine .cons (Zgi Tryz.underlying24 λW=>ZCL) (.cons (ZsC Tryz.underlying9) (.cons (Zgi Tryz.underlying29 λW=>ZBO) .nil))) (λxs i=>?_) W (tabsOk (show laidMet ZHF Rows.shapeHoldsRow.laid W from n)) z args ds gs j ab hW (by first|exact h1|exact h2|exact h3|exact h4)
 rw[hp]at ht;simp only[ZIj,List.not_mem_nil,or_false]at ht;rcases ht with rfl|rfl|rfl<;>exact⟨by kernel_rfl,of_decide_eq_true (by kernel_rfl)⟩
 .rw[hp]at u
  match ds,u with
  | [a,b,c],_=>rfl
 cases i with|cons h1 i =>
 cases i with|cons h2 i =>
 cases i with|cons h3 i =>
 cases i;obtain⟨_,⟨d,rfl⟩,rfl⟩:=h1;obtain⟨s,rfl⟩:=h2;obtain⟨_,⟨v,hr,rfl⟩,rfl⟩:=h3;exact Zjd ZBs ZpI d s v hr
def fills_facts:joinedFacts ZHF 3 Tryz.f3 Rows.shapeFillsSpec Rows.shapeFillsRow=true:=by
 unfold joinedFacts;simp only[ZHN]
 repeat' apply ZHG
 all_goals decide +kernel
def fills_row:Rows.ShapeFillsSaid :=
 OpenClaim.holds_of_wide 3 Tryz.f3 rfl rfl rfl rfl rfl rfl rfl ⟨rfl,rfl,rfl,rfl,rfl⟩ rfl rfl rfl rfl rfl (by kernel_rfl) Tryz.func3 fills_facts
  (of_decide_eq_true (by kernel_rfl)) (by unfold Func.isWrapper;first|(rw[if_pos (by decide +kernel)];kernel_rfl)|(rw[if_neg (by decide +kernel)];exact⟨rfl,rfl⟩))
  (λos i H enc _=>fills_lifted os i H enc)
end Go.Proofs.YtmdaecbcadpmcaaGreatDoor
namespace Go.Proofs.YtmdaecbcadpmcaaGreatDoor
open Go
def goes_noneG{P:Program}(h:P.funcs.any Func.goes=false)(c:OpenClaim)(j:c.start=.entering):c.goesBy P=false:=by
 have n:∀f,P.goes f=false:=λf=>by
  unfold Program.goes;rw[h,Bool.and_false,Bool.or_false,List.any_eq_false];intro g _;cases i:P.funcs[g]? with
  |none=>simp
  |some fn =>have hm:fn∈P.funcs:=Array.mem_of_getElem? i;rw[Array.any_eq_false']at h;simpa using h fn hm
 unfold OpenClaim.goesBy Program.goesAt Program.goesFrom;rw[j];cases P.funcNamed c.func<;>simp[n]
def fills_goes:false=Rows.shapeFillsRow.goesBy ZHF:=(goes_noneG (by kernel_rfl) _ rfl).symm
def fills_wf:Rows.shapeFillsRow.wfByText (OpenSpec.ofChange Rows.shapeFillsSpec)=true:=by kernel_rfl
def fills_main:Tryz.prog.mainIs=sO (true,"28bf4c03c572d70851297e99e76252c46895b364c90fc71e2d2624c402d85dbf".toList):=by kernel_rfl
def fills_looks:true=Tryz.prog.looks []:=by kernel_rfl
theorem fills_holds:Rows.ShapeFillsCardSaid :=
 Claim7.holds_tied_plain_at .later [] [.data,.data,.data,.data,.sentinel,.sentinel,.pinned] true (true,"28bf4c03c572d70851297e99e76252c46895b364c90fc71e2d2624c402d85dbf") true
  fills_row (λ_ h=>by cases h) fills_wf (λ_ h=>by cases h) shapeFills_row_tie rfl ⟨rfl,rfl⟩ fills_main rfl
  (λf fn hf n=>by
   obtain rfl:f=3:=Option.some.inj ((show Tryz.prog.funcNamed "phrasebook/phrasebooklaw15.ShapeFills" = sO 3 by kernel_rfl).symm.trans hf) |>.symm;obtain rfl:fn=Tryz.f3:=(Option.some.inj (Tryz.func3.symm.trans n)).symm;exact⟨fills_looks,λj t z=>by
    rw[Tryz.params3]at z;have hm:t∈[24,9,29]:=by simpa using Array.mem_of_getElem? z
    have i:([24,9,29].all λu=>!Tryz.prog.wantsStandIn u)=true:=by kernel_rfl
    exact(show Tryz.prog.wantsStandIn t=false by simpa using List.all_eq_true.1 i t hm)⟩)
  fills_goes
end Go.Proofs.YtmdaecbcadpmcaaGreatDoor
