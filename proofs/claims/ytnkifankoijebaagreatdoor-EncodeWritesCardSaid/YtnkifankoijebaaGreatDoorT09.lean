/- For every definition, name of a message and value, the law returns true. No condition beyond those of the card. -/
import Derived.Test.YtnkifankoijebaaGreatDoorT07
import Derived.Test.YtnkifankoijebaaGreatDoorRows
import Derived.Test.YtnkifankoijebaaGreatDoorCards
import Derived.Test.YtnkifankoijebaaGreatDoorTie
set_option maxHeartbeats 16000000
set_option maxRecDepth 100000
set_option linter.all false
open List renaming length->I
open Option renaming some -> sO, none -> nO
open Inhabited renaming default -> dE
open Decidable renaming decide -> dC
open And renaming intro -> ZHZ
open Bool renaming and_eq_true -> ZH1
open Go.Proofs.Tryz renaming prog -> ZHP
open List renaming mem_cons -> ZIs
namespace Go.Proofs.YtnkifankoijebaaGreatDoor
open Go Go.DL Go.ChangeShapes Go.WideShapes Go.ChangeAt Go.RowKit Go.Lib
set_option linter.unusedVariables false
set_option maxRecDepth 100000 in
def writes_lifted(os:Os)(started:os.Started)(H:Type)(enc:TypeId×Value->H) :
  ReturnsInHanded {} Tryz.checked os 3 .any (λw args=>(Rows.encodeWritesSpec.pre enc ZHP Tryz.f3 [] false w args/\laidMetH ZHP Rows.encodeWritesRow.laid w)/\sizedMet enc ZHP Tryz.f3 (OpenSpec.ofChange Rows.encodeWritesSpec) false w args)
   (Rows.encodeWritesSpec.post enc ZHP Tryz.f3 false true false false):=by
 refine returnsInHanded_of_change_and (C:=Tryz.checked) (X:=λw _=>laidMetH ZHP Rows.encodeWritesRow.laid w) (λ_ _ _ hh h=>h.of_heap hh) own started (by kernel_rfl) Tryz.func3
  (ChangeSpec.witness_shaped (enc:=enc) (C:=Tryz.checked) (os:=os) (X:=λw _=>laidMetH ZHP Rows.encodeWritesRow.laid w) false (World.laidAll ZHP os Rows.encodeWritesRow.laid) #[.agg #[.string ⟨#[]⟩,.slice nO 0 0,.string ⟨#[]⟩],.string ⟨#[]⟩,.agg #[.string ⟨#[]⟩,.i 0,.slice nO 0 0,.slice nO 0 0,.slice nO 0 0]] 8 (World.laidAll_os _ _ _)
   (World.shaped_of_ZipB (by kernel_rfl) (by kernel_rfl)) (by kernel_rfl) (by kernel_rfl) (by kernel_rfl)
   (by rw[MakeChecks.laidMetH_plain _ _ _ (by kernel_rfl)];exact laidMet_laidAll _ (by kernel_rfl) (by kernel_rfl))) ?_
 intro W u args ds gs o ac hW h1 h2 h3 h4;have hp:Tryz.f3.params.toList=[24,9,29]:=by rw[Tryz.params3]
 have r:laidMet ZHP Rows.encodeWritesRow.laid W:=by rw[<-MakeChecks.laidMetH_plain _ _ _ (by kernel_rfl)];first|exact h1|exact h2|exact h3|exact h4
 refine ZjU (P:=ZHP) (tb:=4) (Qs:=[λx=>∃ds:List D,(∃d:Dfn,ds=d.cells)/\x=.agg ds,λx=>∃s:Str,x=.str s,λx=>∃ds:List D,(∃v:Val,ds=v.cells)/\x=.agg ds]) rfl laidOut (λt ht=>?_) (by kernel_rfl) Tryz.underlying4 (λds ab=>?_) (by
  rw[hp];refine .cons (Za3 Tryz.underlying24 λW=>ZxB) (.cons (Zjr Tryz.underlying9) (.cons (Za3 Tryz.underlying29 λW=>ZBI) .nil))) (λxs i=>?_) W (tabsOk (show laidMet ZHP Rows.encodeWritesRow.laid W from r)) u args ds gs o ac hW (by first|exact h1|exact h2|exact h3|exact h4)
 rw[hp]at ht;simp only[ZIs,List.not_mem_nil,or_false]at ht;rcases ht with rfl|rfl|rfl<;>exact⟨by kernel_rfl,of_decide_eq_true (by kernel_rfl)⟩
 .rw[hp]at ab
  match ds,ab with
  | [a,b,c],_=>rfl
 cases i with|cons h1 i =>
 cases i with|cons h2 i =>
 cases i with|cons h3 i =>
 cases i;obtain⟨_,⟨d,rfl⟩,rfl⟩:=h1;obtain⟨s,rfl⟩:=h2;obtain⟨_,⟨v,rfl⟩,rfl⟩:=h3;exact Zhx Zgl (ZfC Zgl ZuT) d s v
def writes_facts:joinedFacts ZHP 3 Tryz.f3 Rows.encodeWritesSpec Rows.encodeWritesRow=true:=by
 unfold joinedFacts;simp only[ZH1]
 repeat' apply ZHZ
 all_goals decide +kernel
def writes_row:Rows.EncodeWritesSaid :=
 OpenClaim.holds_of_wide 3 Tryz.f3 rfl rfl rfl rfl rfl rfl rfl ⟨rfl,rfl,rfl,rfl,rfl⟩ rfl rfl rfl rfl rfl (by kernel_rfl) Tryz.func3 writes_facts
  (of_decide_eq_true (by kernel_rfl)) (by unfold Func.isWrapper;first|(rw[if_pos (by decide +kernel)];kernel_rfl)|(rw[if_neg (by decide +kernel)];exact⟨rfl,rfl⟩))
  (λos i H enc _=>writes_lifted os i H enc)
end Go.Proofs.YtnkifankoijebaaGreatDoor
namespace Go.Proofs.YtnkifankoijebaaGreatDoor
open Go
def goes_noneW{P:Program}(h:P.funcs.any Func.goes=false)(c:OpenClaim)(r:c.start=.entering):c.goesBy P=false:=by
 have i:∀f,P.goes f=false:=λf=>by
  unfold Program.goes;rw[h,Bool.and_false,Bool.or_false,List.any_eq_false];intro g _;cases o:P.funcs[g]? with
  |none=>simp
  |some fn =>have hm:fn∈P.funcs:=Array.mem_of_getElem? o;rw[Array.any_eq_false']at h;simpa using h fn hm
 unfold OpenClaim.goesBy Program.goesAt Program.goesFrom;rw[r];cases P.funcNamed c.func<;>simp[i]
def writes_goes:false=Rows.encodeWritesRow.goesBy ZHP:=(goes_noneW (by kernel_rfl) _ rfl).symm
def writes_wf:Rows.encodeWritesRow.wfByText (OpenSpec.ofChange Rows.encodeWritesSpec)=true:=by kernel_rfl
def writes_main:Tryz.prog.mainIs=sO (true,"29a02dafdef3fe7ebb6ef92b994e839f5a2cff58fe10aa02660bac523fe36093".toList):=by kernel_rfl
def writes_looks:true=Tryz.prog.looks []:=by kernel_rfl
theorem writes_holds:Rows.EncodeWritesCardSaid :=
 Claim7.holds_tied_plain_at .later [] [.data,.data,.data,.data,.sentinel,.sentinel,.pinned] true (true,"29a02dafdef3fe7ebb6ef92b994e839f5a2cff58fe10aa02660bac523fe36093") true
  writes_row (λ_ h=>by cases h) writes_wf (λ_ h=>by cases h) encodeWrites_row_tie rfl ⟨rfl,rfl⟩ writes_main rfl
  (λf fn hf o=>by
   obtain rfl:f=3:=Option.some.inj ((show Tryz.prog.funcNamed "phrasebook/phrasebooklaw16.EncodeWrites" = sO 3 by kernel_rfl).symm.trans hf) |>.symm;obtain rfl:fn=Tryz.f3:=(Option.some.inj (Tryz.func3.symm.trans o)).symm;exact⟨writes_looks,λj t r=>by
    rw[Tryz.params3]at r;have hm:t∈[24,9,29]:=by simpa using Array.mem_of_getElem? r
    have i:([24,9,29].all λu=>!Tryz.prog.wantsStandIn u)=true:=by kernel_rfl
    exact(show Tryz.prog.wantsStandIn t=false by simpa using List.all_eq_true.1 i t hm)⟩)
  writes_goes
end Go.Proofs.YtnkifankoijebaaGreatDoor
