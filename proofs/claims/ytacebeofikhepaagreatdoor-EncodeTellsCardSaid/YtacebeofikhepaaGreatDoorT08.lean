/- For every definition, name of a message and value, the law returns true. No condition beyond those of the card. -/
import Derived.Test.YtacebeofikhepaaGreatDoorT07
import Derived.Test.YtacebeofikhepaaGreatDoorRows
import Derived.Test.YtacebeofikhepaaGreatDoorCards
import Derived.Test.YtacebeofikhepaaGreatDoorTie
set_option maxHeartbeats 16000000
set_option maxRecDepth 100000
set_option linter.all false
open List renaming length->I
open Option renaming some -> sO, none -> nO
open Inhabited renaming default -> dE
open Decidable renaming decide -> dC
open And renaming intro -> ZIA
open Bool renaming and_eq_true -> ZIJ
open Go.Proofs.Tryz renaming prog -> ZIy
open List renaming mem_cons -> ZJd
namespace Go.Proofs.YtacebeofikhepaaGreatDoor
open Go Go.DL Go.ChangeShapes Go.WideShapes Go.ChangeAt Go.RowKit Go.Lib
set_option linter.unusedVariables false
set_option maxRecDepth 100000 in
def tells_lifted(os:Os)(started:os.Started)(H:Type)(enc:TypeId×Value->H) :
  ReturnsInHanded {} Tryz.checked os 3 .any (λw args=>(Rows.encodeTellsSpec.pre enc ZIy Tryz.f3 [] false w args/\laidMetH ZIy Rows.encodeTellsRow.laid w)/\sizedMet enc ZIy Tryz.f3 (OpenSpec.ofChange Rows.encodeTellsSpec) false w args)
   (Rows.encodeTellsSpec.post enc ZIy Tryz.f3 false true false false):=by
 refine returnsInHanded_of_change_and (C:=Tryz.checked) (X:=λw _=>laidMetH ZIy Rows.encodeTellsRow.laid w) (λ_ _ _ hh h=>h.of_heap hh) own started (by kernel_rfl) Tryz.func3
  (ChangeSpec.witness_shaped (enc:=enc) (C:=Tryz.checked) (os:=os) (X:=λw _=>laidMetH ZIy Rows.encodeTellsRow.laid w) false (World.laidAll ZIy os Rows.encodeTellsRow.laid) #[.agg #[.string ⟨#[]⟩,.slice nO 0 0,.string ⟨#[]⟩],.string ⟨#[]⟩,.agg #[.string ⟨#[]⟩,.i 0,.slice nO 0 0,.slice nO 0 0,.slice nO 0 0],.agg #[.string ⟨#[]⟩,.i 0,.slice nO 0 0,.slice nO 0 0,.slice nO 0 0]] 8 (World.laidAll_os _ _ _)
   (World.shaped_of_ZipB (by kernel_rfl) (by kernel_rfl)) (by kernel_rfl) (by kernel_rfl) (by kernel_rfl)
   (by rw[MakeChecks.laidMetH_plain _ _ _ (by kernel_rfl)];exact laidMet_laidAll _ (by kernel_rfl) (by kernel_rfl))) ?_
 intro W ad args ds gs ab af hW h1 h2 h3 h4;have hp:Tryz.f3.params.toList=[24,9,29,29]:=by rw[Tryz.params3]
 have ac:laidMet ZIy Rows.encodeTellsRow.laid W:=by rw[<-MakeChecks.laidMetH_plain _ _ _ (by kernel_rfl)];first|exact h1|exact h2|exact h3|exact h4
 refine Zt3 (P:=ZIy) (tb:=4) (Qs:=[λx=>∃ds:List D,(∃d:Dfn,ds=d.cells)/\x=.agg ds,λx=>∃s:Str,x=.str s,λx=>∃ds:List D,(∃v:Val,ds=v.cells)/\x=.agg ds,λx=>∃ds:List D,(∃v:Val,ds=v.cells)/\x=.agg ds]) rfl laidOut (λt ht=>?_) (by kernel_rfl) Tryz.underlying4 (λds ae=>?_) (by
  rw[hp];refine .cons (Zcr Tryz.underlying24 λW=>ZDO) (.cons (Zti Tryz.underlying9) (.cons (Zcr Tryz.underlying29 λW=>Zzg) (.cons (Zcr Tryz.underlying29 λW=>Zzg) .nil)))) (λxs u=>?_) W (tabsOk (show laidMet ZIy Rows.encodeTellsRow.laid W from ac)) ad args ds gs ab af hW (by first|exact h1|exact h2|exact h3|exact h4)
 rw[hp]at ht;simp only[ZJd,List.not_mem_nil,or_false]at ht;rcases ht with rfl|rfl|rfl|rfl<;>exact⟨by kernel_rfl,of_decide_eq_true (by kernel_rfl)⟩
 .rw[hp]at ae
  match ds,ae with
  | [a,b,c,x],_=>rfl
 cases u with|cons h1 u =>
 cases u with|cons h2 u =>
 cases u with|cons h3 u =>
 cases u with|cons h6 u =>
 cases u;obtain⟨_,⟨d,rfl⟩,rfl⟩:=h1;obtain⟨s,rfl⟩:=h2;obtain⟨_,⟨v,rfl⟩,rfl⟩:=h3;obtain⟨_,⟨v2,rfl⟩,rfl⟩:=h6;exact ZiN ZCm Zqm d s v v2
def tells_facts:joinedFacts ZIy 3 Tryz.f3 Rows.encodeTellsSpec Rows.encodeTellsRow=true:=by
 unfold joinedFacts;simp only[ZIJ]
 repeat' apply ZIA
 all_goals decide +kernel
def tells_row:Rows.EncodeTellsSaid :=
 OpenClaim.holds_of_wide 3 Tryz.f3 rfl rfl rfl rfl rfl rfl rfl ⟨rfl,rfl,rfl,rfl,rfl⟩ rfl rfl rfl rfl rfl (by kernel_rfl) Tryz.func3 tells_facts
  (of_decide_eq_true (by kernel_rfl)) (by unfold Func.isWrapper;first|(rw[if_pos (by decide +kernel)];kernel_rfl)|(rw[if_neg (by decide +kernel)];exact⟨rfl,rfl⟩))
  (λos t H enc _=>tells_lifted os t H enc)
end Go.Proofs.YtacebeofikhepaaGreatDoor
namespace Go.Proofs.YtacebeofikhepaaGreatDoor
open Go
def goes_noneT2{P:Program}(h:P.funcs.any Func.goes=false)(c:OpenClaim)(hs:c.start=.entering):c.goesBy P=false:=by
 have t:∀f,P.goes f=false:=λf=>by
  unfold Program.goes;rw[h,Bool.and_false,Bool.or_false,List.any_eq_false];intro g _;cases u:P.funcs[g]? with
  |none=>simp
  |some fn =>have hm:fn∈P.funcs:=Array.mem_of_getElem? u;rw[Array.any_eq_false']at h;simpa using h fn hm
 unfold OpenClaim.goesBy Program.goesAt Program.goesFrom;rw[hs];cases P.funcNamed c.func<;>simp[t]
def tells_goes:false=Rows.encodeTellsRow.goesBy ZIy:=(goes_noneT2 (by kernel_rfl) _ rfl).symm
def tells_wf:Rows.encodeTellsRow.wfByText (OpenSpec.ofChange Rows.encodeTellsSpec)=true:=by kernel_rfl
def tells_main:Tryz.prog.mainIs=sO (true,"2c78e0fa3799b0422e5a00a9b32f92ec146f7622a502b0ddf6c2a4d275e24687".toList):=by kernel_rfl
def tells_looks:true=Tryz.prog.looks []:=by kernel_rfl
theorem tells_holds:Rows.EncodeTellsCardSaid :=
 Claim7.holds_tied_plain_at .later [] [.data,.data,.data,.data,.sentinel,.sentinel,.pinned] true (true,"2c78e0fa3799b0422e5a00a9b32f92ec146f7622a502b0ddf6c2a4d275e24687") true
  tells_row (λ_ h=>by cases h) tells_wf (λ_ h=>by cases h) encodeTells_row_tie rfl ⟨rfl,rfl⟩ tells_main rfl
  (λf fn hf ac=>by
   obtain rfl:f=3:=Option.some.inj ((show Tryz.prog.funcNamed "phrasebook/phrasebooklaw16.EncodeTells" = sO 3 by kernel_rfl).symm.trans hf) |>.symm;obtain rfl:fn=Tryz.f3:=(Option.some.inj (Tryz.func3.symm.trans ac)).symm;exact⟨tells_looks,λj t ht=>by
    rw[Tryz.params3]at ht;have hm:t∈[24,9,29,29]:=by simpa using Array.mem_of_getElem? ht
    have ab:([24,9,29,29].all λu=>!Tryz.prog.wantsStandIn u)=true:=by kernel_rfl
    exact(show Tryz.prog.wantsStandIn t=false by simpa using List.all_eq_true.1 ab t hm)⟩)
  tells_goes
end Go.Proofs.YtacebeofikhepaaGreatDoor
