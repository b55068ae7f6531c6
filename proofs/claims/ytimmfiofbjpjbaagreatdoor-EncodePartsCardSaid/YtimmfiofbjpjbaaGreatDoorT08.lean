/- For every definition, name of a message, value and two bytes, the law returns true. No condition beyond those of the card. -/
import Derived.Test.YtimmfiofbjpjbaaGreatDoorT07
import Derived.Test.YtimmfiofbjpjbaaGreatDoorRows
import Derived.Test.YtimmfiofbjpjbaaGreatDoorCards
import Derived.Test.YtimmfiofbjpjbaaGreatDoorTie
set_option maxHeartbeats 16000000
set_option maxRecDepth 100000
set_option linter.all false
open List renaming length->I
open Option renaming some -> sO, none -> nO
open Inhabited renaming default -> dE
open Decidable renaming decide -> dC
open And renaming intro -> ZHy
open Bool renaming and_eq_true -> ZHG
open Go.Proofs.Tryz renaming prog -> ZHv
open List renaming mem_cons -> ZIa
namespace Go.Proofs.YtimmfiofbjpjbaaGreatDoor
open Go Go.DL Go.ChangeShapes Go.WideShapes Go.ChangeAt Go.RowKit Go.Lib
set_option linter.unusedVariables false
set_option maxRecDepth 100000 in
def parts_lifted(os:Os)(started:os.Started)(H:Type)(enc:TypeId×Value->H) :
  ReturnsInHanded {} Tryz.checked os 3 .any (λw args=>(Rows.encodePartsSpec.pre enc ZHv Tryz.f3 [] false w args/\laidMetH ZHv Rows.encodePartsRow.laid w)/\sizedMet enc ZHv Tryz.f3 (OpenSpec.ofChange Rows.encodePartsSpec) false w args)
   (Rows.encodePartsSpec.post enc ZHv Tryz.f3 false true false false):=by
 refine returnsInHanded_of_change_and (C:=Tryz.checked) (X:=λw _=>laidMetH ZHv Rows.encodePartsRow.laid w) (λ_ _ _ hh h=>h.of_heap hh) own started (by kernel_rfl) Tryz.func3
  (ChangeSpec.witness_shaped (enc:=enc) (C:=Tryz.checked) (os:=os) (X:=λw _=>laidMetH ZHv Rows.encodePartsRow.laid w) false (World.laidAll ZHv os Rows.encodePartsRow.laid) #[.agg #[.string ⟨#[]⟩,.slice nO 0 0,.string ⟨#[]⟩],.string ⟨#[]⟩,.agg #[.string ⟨#[]⟩,.i 0,.slice nO 0 0,.slice nO 0 0,.slice nO 0 0],.int .u8 0,.int .u8 0] 8 (World.laidAll_os _ _ _)
   (World.shaped_of_ZipB (by kernel_rfl) (by kernel_rfl)) (by kernel_rfl) (by kernel_rfl) (by kernel_rfl)
   (by rw[MakeChecks.laidMetH_plain _ _ _ (by kernel_rfl)];exact laidMet_laidAll _ (by kernel_rfl) (by kernel_rfl))) ?_
 intro W ac args ds gs u ae hW h1 h2 h3 h4;have hp:Tryz.f3.params.toList=[24,9,29,5,5]:=by rw[Tryz.params3]
 have ab:laidMet ZHv Rows.encodePartsRow.laid W:=by rw[<-MakeChecks.laidMetH_plain _ _ _ (by kernel_rfl)];first|exact h1|exact h2|exact h3|exact h4
 refine Zta (P:=ZHv) (tb:=4) (Qs:=[λx=>∃ds:List D,(∃d:Dfn,ds=d.cells)/\x=.agg ds,λx=>∃s:Str,x=.str s,λx=>∃ds:List D,(∃v:Val,ds=v.cells)/\x=.agg ds,λx=>∃n,inR .u8 n/\x=.int .u8 n,λx=>∃n,inR .u8 n/\x=.int .u8 n]) rfl laidOut (λt ht=>?_) (by kernel_rfl) Tryz.underlying4 (λds ad=>?_) (by
  rw[hp];refine .cons (ZfQ Tryz.underlying24 λW=>ZCV) (.cons (Zsn Tryz.underlying9) (.cons (ZfQ Tryz.underlying29 λW=>ZCY) (.cons (ZiL Tryz.underlying5) (.cons (ZiL Tryz.underlying5) .nil))))) (λxs i=>?_) W (tabsOk (show laidMet ZHv Rows.encodePartsRow.laid W from ab)) ac args ds gs u ae hW (by first|exact h1|exact h2|exact h3|exact h4)
 rw[hp]at ht;simp only[ZIa,List.not_mem_nil,or_false]at ht;rcases ht with rfl|rfl|rfl|rfl|rfl<;>exact⟨by kernel_rfl,of_decide_eq_true (by kernel_rfl)⟩
 .rw[hp]at ad
  match ds,ad with
  | [a,b,c,x,y],_=>rfl
 cases i with|cons h1 i =>
 cases i with|cons h2 i =>
 cases i with|cons h3 i =>
 cases i with|cons h6 i =>
 cases i with|cons h7 i =>
 cases i;obtain⟨_,⟨d,rfl⟩,rfl⟩:=h1;obtain⟨s,rfl⟩:=h2;obtain⟨_,⟨v,rfl⟩,rfl⟩:=h3;obtain⟨a,ha,rfl⟩:=h6;obtain⟨z,hz,rfl⟩:=h7;obtain⟨a,rfl⟩:=Int.eq_ofNat_of_zero_le ha.1;obtain⟨z,rfl⟩:=Int.eq_ofNat_of_zero_le hz.1;exact Zih ZBq ZpA d s v (by have h:(a:Int)<=255:=ha.2;omega) (by have h:(z:Int)<=255:=hz.2;omega)
def parts_facts:joinedFacts ZHv 3 Tryz.f3 Rows.encodePartsSpec Rows.encodePartsRow=true:=by
 unfold joinedFacts;simp only[ZHG]
 repeat' apply ZHy
 all_goals decide +kernel
def parts_row:Rows.EncodePartsSaid :=
 OpenClaim.holds_of_wide 3 Tryz.f3 rfl rfl rfl rfl rfl rfl rfl ⟨rfl,rfl,rfl,rfl,rfl⟩ rfl rfl rfl rfl rfl (by kernel_rfl) Tryz.func3 parts_facts
  (of_decide_eq_true (by kernel_rfl)) (by unfold Func.isWrapper;first|(rw[if_pos (by decide +kernel)];kernel_rfl)|(rw[if_neg (by decide +kernel)];exact⟨rfl,rfl⟩))
  (λos i H enc _=>parts_lifted os i H enc)
end Go.Proofs.YtimmfiofbjpjbaaGreatDoor
namespace Go.Proofs.YtimmfiofbjpjbaaGreatDoor
open Go
def goes_noneP{P:Program}(h:P.funcs.any Func.goes=false)(c:OpenClaim)(u:c.start=.entering):c.goesBy P=false:=by
 have i:∀f,P.goes f=false:=λf=>by
  unfold Program.goes;rw[h,Bool.and_false,Bool.or_false,List.any_eq_false];intro g _;cases t:P.funcs[g]? with
  |none=>simp
  |some fn =>have hm:fn∈P.funcs:=Array.mem_of_getElem? t;rw[Array.any_eq_false']at h;simpa using h fn hm
 unfold OpenClaim.goesBy Program.goesAt Program.goesFrom;rw[u];cases P.funcNamed c.func<;>simp[i]
def parts_goes:false=Rows.encodePartsRow.goesBy ZHv:=(goes_noneP (by kernel_rfl) _ rfl).symm
def parts_wf:Rows.encodePartsRow.wfByText (OpenSpec.ofChange Rows.encodePartsSpec)=true:=by kernel_rfl
def parts_main:Tryz.prog.mainIs=sO (true,"1e02df68c0d7651a28482cb465a154a00de085ad78f5f39fb06b1854af339679".toList):=by kernel_rfl
def parts_looks:true=Tryz.prog.looks []:=by kernel_rfl
theorem parts_holds:Rows.EncodePartsCardSaid :=
 Claim7.holds_tied_plain_at .later [] [.data,.data,.data,.data,.sentinel,.sentinel,.pinned] true (true,"1e02df68c0d7651a28482cb465a154a00de085ad78f5f39fb06b1854af339679") true
  parts_row (λ_ h=>by cases h) parts_wf (λ_ h=>by cases h) encodeParts_row_tie rfl ⟨rfl,rfl⟩ parts_main rfl
  (λf fn hf ab=>by
   obtain rfl:f=3:=Option.some.inj ((show Tryz.prog.funcNamed "phrasebook/phrasebooklaw16.EncodeParts" = sO 3 by kernel_rfl).symm.trans hf) |>.symm;obtain rfl:fn=Tryz.f3:=(Option.some.inj (Tryz.func3.symm.trans ab)).symm;exact⟨parts_looks,λj t ht=>by
    rw[Tryz.params3]at ht;have hm:t∈[24,9,29,5,5]:=by simpa using Array.mem_of_getElem? ht
    have i:([24,9,29,5,5].all λu=>!Tryz.prog.wantsStandIn u)=true:=by kernel_rfl
    exact(show Tryz.prog.wantsStandIn t=false by simpa using List.all_eq_true.1 i t hm)⟩)
  parts_goes
end Go.Proofs.YtimmfiofbjpjbaaGreatDoor
