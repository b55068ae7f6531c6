/- For every definition, name of a message and value, the law returns true. No condition beyond those of the card. -/
import Derived.Test.YtegkikicdlbfnaaGreatDoorT07
import Derived.Test.YtegkikicdlbfnaaGreatDoorRows
import Derived.Test.YtegkikicdlbfnaaGreatDoorCards
import Derived.Test.YtegkikicdlbfnaaGreatDoorTie
set_option maxHeartbeats 16000000
set_option maxRecDepth 100000
set_option linter.all false
open List renaming length->I
open Option renaming some -> sO, none -> nO
open Inhabited renaming default -> dE
open Decidable renaming decide -> dC
open And renaming intro -> ZH4
open Bool renaming and_eq_true -> ZIb
open Go.Proofs.Tryz renaming prog -> ZH1
open List renaming mem_cons -> ZIF
namespace Go.Proofs.YtegkikicdlbfnaaGreatDoor
open Go Go.DL Go.ChangeShapes Go.WideShapes Go.ChangeAt Go.RowKit Go.Lib
set_option linter.unusedVariables false
set_option maxRecDepth 100000 in
def measures_lifted(os:Os)(started:os.Started)(H:Type)(enc:TypeId×Value->H) :
  ReturnsInHanded {} Tryz.checked os 3 .any (λw args=>(Rows.encodeMeasuresSpec.pre enc ZH1 Tryz.f3 [] false w args/\laidMetH ZH1 Rows.encodeMeasuresRow.laid w)/\sizedMet enc ZH1 Tryz.f3 (OpenSpec.ofChange Rows.encodeMeasuresSpec) false w args)
   (Rows.encodeMeasuresSpec.post enc ZH1 Tryz.f3 false true false false):=by
 refine returnsInHanded_of_change_and (C:=Tryz.checked) (X:=λw _=>laidMetH ZH1 Rows.encodeMeasuresRow.laid w) (λ_ _ _ hh h=>h.of_heap hh) own started (by kernel_rfl) Tryz.func3
  (ChangeSpec.witness_shaped (enc:=enc) (C:=Tryz.checked) (os:=os) (X:=λw _=>laidMetH ZH1 Rows.encodeMeasuresRow.laid w) false (World.laidAll ZH1 os Rows.encodeMeasuresRow.laid) #[.agg #[.string ⟨#[]⟩,.slice nO 0 0,.string ⟨#[]⟩],.string ⟨#[]⟩,.agg #[.string ⟨#[]⟩,.i 0,.slice nO 0 0,.slice nO 0 0,.slice nO 0 0]] 8 (World.laidAll_os _ _ _)
   (World.shaped_of_ZipB (by kernel_rfl) (by kernel_rfl)) (by kernel_rfl) (by kernel_rfl) (by kernel_rfl)
   (by rw[MakeChecks.laidMetH_plain _ _ _ (by kernel_rfl)];exact laidMet_laidAll _ (by kernel_rfl) (by kernel_rfl))) ?_
 intro W ac args ds gs u ae hW h1 h2 h3 h4;have hp:Tryz.f3.params.toList=[24,9,29]:=by rw[Tryz.params3]
 have ab:laidMet ZH1 Rows.encodeMeasuresRow.laid W:=by rw[<-MakeChecks.laidMetH_plain _ _ _ (by kernel_rfl)];first|exact h1|exact h2|exact h3|exact h4
 refine ZtE (P:=ZH1) (tb:=4) (Qs:=[λx=>∃ds:List D,(∃d:Dfn,ds=d.cells)/\x=.agg ds,λx=>∃s:Str,x=.str s,λx=>∃ds:List D,(∃v:Val,ds=v.cells)/\x=.agg ds]) rfl laidOut (λt ht=>?_) (by kernel_rfl) Tryz.underlying4 (λds ad=>?_) (by
  rw[hp];refine .cons (Zf5 Tryz.underlying24 λW=>ZDn) (.cons (ZsW Tryz.underlying9) (.cons (Zf5 Tryz.underlying29 λW=>ZDq) .nil))) (λxs i=>?_) W (tabsOk (show laidMet ZH1 Rows.encodeMeasuresRow.laid W from ab)) ac args ds gs u ae hW (by first|exact h1|exact h2|exact h3|exact h4)
 rw[hp]at ht;simp only[ZIF,List.not_mem_nil,or_false]at ht;rcases ht with rfl|rfl|rfl<;>exact⟨by kernel_rfl,of_decide_eq_true (by kernel_rfl)⟩
 .rw[hp]at ad
  match ds,ad with
  | [a,b,c],_=>rfl
 cases i with|cons h1 i =>
 cases i with|cons h2 i =>
 cases i with|cons h3 i =>
 cases i;obtain⟨_,⟨d,rfl⟩,rfl⟩:=h1;obtain⟨s,rfl⟩:=h2;obtain⟨_,⟨v,rfl⟩,rfl⟩:=h3;exact ZfW ZBU Zqa d s v
def measures_facts:joinedFacts ZH1 3 Tryz.f3 Rows.encodeMeasuresSpec Rows.encodeMeasuresRow=true:=by
 unfold joinedFacts;simp only[ZIb]
 repeat' apply ZH4
 all_goals decide +kernel
def measures_row:Rows.EncodeMeasuresSaid :=
 OpenClaim.holds_of_wide 3 Tryz.f3 rfl rfl rfl rfl rfl rfl rfl ⟨rfl,rfl,rfl,rfl,rfl⟩ rfl rfl rfl rfl rfl (by kernel_rfl) Tryz.func3 measures_facts
  (of_decide_eq_true (by kernel_rfl)) (by unfold Func.isWrapper;first|(rw[if_pos (by decide +kernel)];kernel_rfl)|(rw[if_neg (by decide +kernel)];exact⟨rfl,rfl⟩))
  (λos i H enc _=>measures_lifted os i H enc)
end Go.Proofs.YtegkikicdlbfnaaGreatDoor
namespace Go.Proofs.YtegkikicdlbfnaaGreatDoor
open Go
def goes_noneM{P:Program}(h:P.funcs.any Func.goes=false)(c:OpenClaim)(u:c.start=.entering):c.goesBy P=false:=by
 have i:∀f,P.goes f=false:=λf=>by
  unfold Program.goes;rw[h,Bool.and_false,Bool.or_false,List.any_eq_false];intro g _;cases t:P.funcs[g]? with
  |none=>simp
  |some fn =>have hm:fn∈P.funcs:=Array.mem_of_getElem? t;rw[Array.any_eq_false']at h;simpa using h fn hm
 unfold OpenClaim.goesBy Program.goesAt Program.goesFrom;rw[u];cases P.funcNamed c.func<;>simp[i]
def measures_goes:false=Rows.encodeMeasuresRow.goesBy ZH1:=(goes_noneM (by kernel_rfl) _ rfl).symm
def measures_wf:Rows.encodeMeasuresRow.wfByText (OpenSpec.ofChange Rows.encodeMeasuresSpec)=true:=by kernel_rfl
def measures_main:Tryz.prog.mainIs=sO (true,"de68f68da4fa89e4e3d8af58797dbdb5bf281cd2c5a9af4923ad833ad98279df".toList):=by kernel_rfl
def measures_looks:true=Tryz.prog.looks []:=by kernel_rfl
theorem measures_holds:Rows.EncodeMeasuresCardSaid :=
 Claim7.holds_tied_plain_at .later [] [.data,.data,.data,.data,.sentinel,.sentinel,.pinned] true (true,"de68f68da4fa89e4e3d8af58797dbdb5bf281cd2c5a9af4923ad833ad98279df") true
  measures_row (λ_ h=>by cases h) measures_wf (λ_ h=>by cases h) encodeMeasures_row_tie rfl ⟨rfl,rfl⟩ measures_main rfl
  (λf fn hf ab=>by
   obtain rfl:f=3:=Option.some.inj ((show Tryz.prog.funcNamed "phrasebook/phrasebooklaw16.EncodeMeasures" = sO 3 by kernel_rfl).symm.trans hf) |>.symm;obtain rfl:fn=Tryz.f3:=(Option.some.inj (Tryz.func3.symm.trans ab)).symm;exact⟨measures_looks,λj t ht=>by
    rw[Tryz.params3]at ht;have hm:t∈[24,9,29]:=by simpa using Array.mem_of_getElem? ht
    have i:([24,9,29].all λu=>!Tryz.prog.wantsStandIn u)=true:=by kernel_rfl
    exact(show Tryz.prog.wantsStandIn t=false by simpa using List.all_eq_true.1 i t hm)⟩)
  measures_goes
end Go.Proofs.YtegkikicdlbfnaaGreatDoor
