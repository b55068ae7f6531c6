/- The law CompatDiffers of this program is proved: at any two definitions the program's function CompatDiffers ends and answers true. No condition beyond the statement's own. -/
import Derived.Test.YtmnhlhenahlilaaGreatT06
import Derived.Test.YtmnhlhenahlilaaGreatRows
set_option maxHeartbeats 16000000
set_option linter.all false
open And renaming intro → Zut
open Bool renaming and_eq_true → ZuA, true_and → ZuP
open Go.DL.D.Le renaming refl → Zux
open Go.DL.Dfn renaming cells → ZuM
open Go.DL.St renaming sub_refl → Zuw
open Go.Proofs.Tryz renaming prog → Zuv
open Nat renaming reduceAdd → Zur, reduceEqDiff → Zuq, reduceLeDiff → Zus
namespace Go.DL
open Go Go.Proofs
def ZsG.r0:=[qB 2 0,qB 3 1,qb 4 false]
def ZsG.r1:=[qL 13 3 2,qf 14 7 [.tmp 13],qm 15 14,qn 15 (qL 16 3 3),qn 15 (qf 17 7 [.tmp 16]),qo 18 15 17]
def ZsG.r2:=[qf 19 8 [],qm 4 19]
def ZsG.r3:=[qL 21 3 2,qL 22 3 3,qf 23 9 [.tmp 21,.tmp 22],qm 20 23,qx 24 0 20,qx 25 1 20,qm 5 24,qm 6 25]
def ZsG.r4:List DOp:=[qL 27 3 2,qL 28 3 3,qf 29 10 [.tmp 27,.tmp 28],qm 26 29,qx 30 0 26,qx 31 1 26,qx 32 2 26,⟨some 7,none,.alloc [.str [],.int .i64 0]⟩,qS 2 7 30,qm 8 31,qm 9 32]
def ZsG.r5:=[qL 34 3 2,qL 35 3 3,qf 36 11 [.tmp 34,.tmp 35],qm 33 36,qx 37 0 33,qx 38 1 33,qm 10 37,qm 11 38]
def ZsG.r6:=[qL 39 3 2,qf 40 12 [.tmp 39],qk 41 .not 40,qm 42 41,qn 42 (qL 43 3 3),qn 42 (qf 44 12 [.tmp 43]),qn 42 (qk 45 .not 44),qo 46 42 45]
def ZsG.r7:=[qm 47 5,qk 48 .not 47,qm 49 48,qy 49 (qm 50 8),qy 49 (qk 51 .not 50),qO 52 49 51,qm 53 52,qy 53 (qL 54 2 7),qy 53 ⟨some 55,none,.q (.build [.str [],.int .i64 0] []) []⟩,qy 53 ⟨some 56,none,.q (.bin .eql (some (.cells [(0,.str),(1,.int)]))) [.tmp 54,.tmp 55]⟩,qO 57 53 56,qm 58 57,qy 58 (qm 59 6),qy 58 (qe 60 .eql 59 2),qO 61 58 60,qm 62 61,qy 62 (qm 63 9),qy 62 (qe 64 .eql 63 2),qO 65 62 64,qm 66 65,qy 66 (qm 67 11),qO 68 66 67,qm 69 68,qy 69 (qm 70 10),qy 69 (qk 71 .lenL 70),qy 69 (qe 72 .eql 71 0),qO 73 69 72,qm 74 73,qy 74 (qf 75 8 []),qO 76 74 75,qm 4 76]
def ZsG.r8:=[qL 77 3 2,qL 78 3 3,qf 79 13 [.tmp 77,.tmp 78],qm 12 79]
def ZsG.r9:=[qm 80 6,qf 81 14 [.tmp 80],qm 82 9,qf 83 14 [.tmp 82],qd 84 .add 81 83,qe 85 .neq 84 0,qm 86 85,qn 86 (qm 87 11),qn 86 (qk 88 .not 87),qo 89 86 88,qm 90 89,qn 90 (qm 91 10),qn 90 (qm 92 12),qn 90 (qf 93 15 [.tmp 91,.tmp 92]),qn 90 (qk 94 .not 93),qo 95 90 94,qm 96 95,qn 96 (qm 97 5),qn 96 (qm 98 12),qn 96 (qk 99 .lenL 98),qn 96 (qe 100 .eql 99 0),qn 96 ⟨some 101,none,.q (.bin .neq (some .bool)) [.tmp 97,.tmp 100]⟩,qo 102 96 101,qm 103 102,qn 103 (qm 104 8),qn 103 (qm 105 5),qn 103 ⟨some 106,none,.q (.bin .eql (some .bool)) [.tmp 104,.tmp 105]⟩,qo 107 103 106]
def ZsG.r10:=[qb 4 false]
def ZsG.r11:=[qm 108 8,qk 109 .not 108,qm 110 109,qy 110 (qL 111 2 7),qy 110 ⟨some 112,none,.q (.build [.str [],.int .i64 0] []) []⟩,qy 110 ⟨some 113,none,.q (.bin .eql (some (.cells [(0,.str),(1,.int)]))) [.tmp 111,.tmp 112]⟩,qO 114 110 113,qm 115 114,qn 115 (qm 116 8),qn 115 (qm 117 116),qy 117 (qL 118 2 7),qy 117 (qm 119 12),qy 117 ⟨some 120,none,.q (.iaddr 2) [.tmp 119,.cst (.int .i64 0)]⟩,qy 117 (qL 121 2 120),qy 117 ⟨some 122,none,.q (.bin .eql (some (.cells [(0,.str),(1,.int)]))) [.tmp 118,.tmp 121]⟩,qn 115 (qO 123 117 122),qo 124 115 123,qm 125 124,qy 125 (qf 126 8 []),qO 127 125 126,qm 4 127]
abbrev ZsG.id:Nat:=3
def ZsG.an:Ann:=[(0,[2,3]),(1,[2,3,18]),(2,[4]),(3,[2,3,5,6]),(4,[2,3,5,6,7,8,9]),(5,[2,3,5,6,7,8,9,10,11]),(6,[2,3,5,6,7,8,9,10,11,46]),(7,[4]),(8,[5,6,7,8,9,10,11,12]),(9,[7,8,12,107]),(10,[4]),(11,[4]),(1000011,[0,1,2,3,4,5,6,7,8,9,10,11,12,13,14,15,16,17,18,19,20])]
def ZsG.body:DC:=.seq (qR ZsG.r0 [2,3]) (.seq (.seq (qR ZsG.r1 [2,3,18]) (qC 18 (.seq (qR ZsG.r2 [4]) .ret) .skip)) (.seq (qR ZsG.r3 [2,3,5,6]) (.seq (qR ZsG.r4 [2,3,5,6,7,8,9]) (.seq (qR ZsG.r5 [2,3,5,6,7,8,9,10,11]) (.seq (.seq (qR ZsG.r6 [2,3,5,6,7,8,9,10,11,46]) (qC 46 (.seq (qR ZsG.r7 [4]) .ret) .skip)) (.seq (qR ZsG.r8 [5,6,7,8,9,10,11,12]) (.seq (.seq (qR ZsG.r9 [7,8,12,107]) (qC 107 (.seq (qR ZsG.r10 [4]) .ret) .skip)) (.seq (.regD [0,1,2,3,4,5,6,7,8,9,10,11,12,13,14,15,16,17,18,19,20] (Jb ZsG.r11) (some [4])) .ret))))))))
def ZsG.df:DF:=⟨128,[.tmp 4],ZsG.body⟩
theorem ZsG.ok:cf Zuv ZsG.an ZsG.id=some ZsG.df:=by kernel_rfl
def ZsH.r0:=[qB 3 0,qB 4 1,qB 5 2,qb 6 false]
def ZsH.r1:=[qL 15 3 3,qf 16 7 [.tmp 15],qm 17 16,qn 17 (qL 18 3 4),qn 17 (qf 19 7 [.tmp 18]),qo 20 17 19,qm 21 20,qn 21 (qL 22 3 5),qn 21 (qf 23 7 [.tmp 22]),qo 24 21 23]
def ZsH.r2:=[qf 25 8 [],qm 6 25]
def ZsH.r3:=[qL 27 3 3,qL 28 3 3,qf 29 9 [.tmp 27,.tmp 28],qm 26 29,qx 30 0 26,qx 31 1 26,qm 7 30,qm 8 31]
def ZsH.r4:=[qL 33 3 3,qL 34 3 4,qf 35 9 [.tmp 33,.tmp 34],qm 32 35,qx 36 0 32,qx 37 1 32,qm 9 36,qm 10 37]
def ZsH.r5:=[qL 39 3 4,qL 40 3 5,qf 41 9 [.tmp 39,.tmp 40],qm 38 41,qx 42 0 38,qx 43 1 38,qm 11 42,qm 12 43]
def ZsH.r6:=[qL 45 3 3,qL 46 3 5,qf 47 9 [.tmp 45,.tmp 46],qm 44 47,qx 48 0 44,qx 49 1 44,qm 13 48,qm 14 49]
def ZsH.r7:=[qm 50 8,qf 51 14 [.tmp 50],qe 52 .eql 51 0,qm 53 52,qy 53 (qm 54 7),qy 53 (qk 55 .not 54),qO 56 53 55]
def ZsH.r8:=[qb 6 false]
def ZsH.r9:=[qm 57 10,qf 58 14 [.tmp 57],qm 59 12,qf 60 14 [.tmp 59],qd 61 .add 58 60,qm 62 14,qf 63 14 [.tmp 62],qd 64 .add 61 63,qe 65 .neq 64 0,qm 66 65,qn 66 (qm 67 9),qn 66 (qk 68 .not 67),qo 69 66 68,qm 70 69,qn 70 (qm 71 11),qn 70 (qk 72 .not 71),qo 73 70 72,qm 74 73,qn 74 (qm 75 13),qo 76 74 75,qm 77 76,qy 77 (qf 78 8 []),qO 79 77 78,qm 6 79]
abbrev ZsH.id:Nat:=6
def ZsH.an:Ann:=[(0,[3,4,5]),(1,[3,4,5,24]),(2,[6]),(3,[3,4,5,7,8]),(4,[3,4,5,7,8,9,10]),(5,[3,5,7,8,9,10,11,12]),(6,[7,8,9,10,11,12,13,14]),(7,[9,10,11,12,13,14,56]),(8,[6]),(9,[6])]
def ZsH.body:DC:=.seq (qR ZsH.r0 [3,4,5]) (.seq (.seq (qR ZsH.r1 [3,4,5,24]) (qC 24 (.seq (qR ZsH.r2 [6]) .ret) .skip)) (.seq (qR ZsH.r3 [3,4,5,7,8]) (.seq (qR ZsH.r4 [3,4,5,7,8,9,10]) (.seq (qR ZsH.r5 [3,5,7,8,9,10,11,12]) (.seq (qR ZsH.r6 [7,8,9,10,11,12,13,14]) (.seq (.seq (qR ZsH.r7 [9,10,11,12,13,14,56]) (qC 56 (.seq (qR ZsH.r8 [6]) .ret) .skip)) (.seq (qR ZsH.r9 [6]) .ret)))))))
def ZsH.df:DF:=⟨80,[.tmp 6],ZsH.body⟩
theorem ZsH.ok:cf Zuv ZsH.an ZsH.id=some ZsH.df:=by kernel_rfl
end Go.DL
namespace Go.Proofs.YtmnhlhenahlilaaGreat
open Go Go.DL Go.ChangeShapes Go.WideShapes Go.ChangeAt Go.RowKit
set_option linter.unusedVariables false
theorem arg_Dfn {H:Type} {enc:TypeId × Value→H}:ZlT enc Zuv 24 fun x=>∃ ds,(∃ d:Dfn,ds=d.cells)∧x = .agg ds:=Zq2 Tryz.underlying24 fun W=>ZsE
end Go.Proofs.YtmnhlhenahlilaaGreat
namespace Go.DL
open Go Go.Proofs
theorem ZsJ (a b c:Dfn) (hrefl:Zdg a a=0→Zap a a=true) (htrans:Zap a b=true→Zap b c=true→Zap a c=true):ZR Zuv ZsH.id [.agg a.cells,.agg b.cells,.agg c.cells] (.bool true):=by
 refine Z0 ZsH.ok fun F st hret=>?_
 refine Za (Zb (Zc ?_))
 simp only [Eqs,reduceCtorEq,reduceIte,Zuq,Zur,ZsH.r0,ZuM]
 refine Za (Za (Zb (Zc ?_)))
 simp only [Eqs,reduceIte,Zuq,Zur,Zus,ZsH.r1]
 rw [ZcN]
 refine ZW rfl rfl rfl rfl rfl (by trivial) (by trivial) (by exact Zrw a) (Zc ?_)
 simp only [Eqs,reduceIte,Zuq,Zur,Zus]
 rw [ZcN]
 refine KA rfl rfl rfl rfl rfl (fun hcg=>⟨by first | trivial | (simpa [Qu] using hcg),trivial,Zrw b⟩) (Zc ?_)
 simp only [Eqs,reduceIte,Zuq,Zur,Zus]
 rw [ZcN]
 refine KA rfl rfl rfl rfl rfl (fun hcg=>⟨by first | trivial | (simpa [Qu] using hcg),trivial,Zrw c⟩) (Zc ?_)
 simp only [Eqs,reduceIte,Zuq]
 refine Ze rfl trivial (fun h1=>?_) (fun h1=>?_)
 ·refine Za (Zb (Zc ?_))
  simp only [Eqs,ZsH.r2]
  refine ZW rfl rfl rfl rfl rfl (by trivial) (by trivial) (by exact Zrv) (Zc ?_)
  simp only [Eqs,reduceIte,Zuq]
  exact hret rfl (by trivial) (Zux _) (Zuw _)
 ·refine Zg ?_
  refine Za (Zb (Zc ?_))
  simp only [Eqs,reduceIte,Zuq,Zur,Zus,ZsH.r3]
  rw [ZcN]
  refine Wn rfl rfl rfl rfl rfl (by trivial) (by trivial) (by exact ZcM a a _) (Zc ?_)
  simp only [Eqs,reduceIte,Zuq]
  refine Za (Zb (Zc ?_))
  simp only [Eqs,reduceIte,Zuq,Zur,Zus,ZsH.r4]
  rw [ZcN,ZcN]
  refine Wn rfl rfl rfl rfl rfl (by trivial) (by trivial) (by exact ZcM a b _) (Zc ?_)
  simp only [Eqs,reduceIte,Zuq]
  refine Za (Zb (Zc ?_))
  simp only [Eqs,reduceIte,Zuq,Zur,Zus,ZsH.r5]
  rw [ZcN,ZcN]
  refine Wn rfl rfl rfl rfl rfl (by trivial) (by trivial) (by exact ZcM b c _) (Zc ?_)
  simp only [Eqs,reduceIte,Zuq]
  refine Za (Zb (Zc ?_))
  simp only [Eqs,reduceIte,Zuq,Zur,Zus,ZsH.r6]
  rw [ZcN,ZcN]
  refine Wn rfl rfl rfl rfl rfl (by trivial) (by trivial) (by exact ZcM a c _) (Zc ?_)
  simp only [Eqs,reduceIte,Zuq]
  refine Za (Za (Zb (Zc ?_)))
  simp only [Eqs,reduceIte,Zuq,ZsH.r7]
  refine ZW rfl rfl rfl rfl rfl (by trivial) (by trivial) (by exact ZbK _) (Zc ?_)
  simp only [Eqs,reduceIte,Zuq]
  have hno:(decide (Zdg a a=0) && !Zap a a)=false:=by
   by_cases he:Zdg a a=0
   ·rw [hrefl he]; simp
   ·rw [decide_eq_false he]; rfl
  refine Ze rfl trivial (fun h=>by (rw [hno] at h; simp at h)) (fun _=>?_)
  refine Zg ?_
  refine Za (Zb (Zc ?_))
  simp only [Eqs,reduceIte,Zuq,ZsH.r9]
  refine ZW rfl rfl rfl rfl rfl (by trivial) (by trivial) (by exact ZbK _) (Zc ?_)
  simp only [Eqs,reduceIte,Zuq]
  refine ZW rfl rfl rfl rfl rfl (by trivial) (by trivial) (by exact ZbK _) (Zc ?_)
  simp only [Eqs,reduceIte,Zuq]
  have hab:=Zn4 a b
  have hbc:=Zn4 b c
  have hac:=Zn4 a c
  refine ⟨by omega,by omega,?_⟩
  refine ZW rfl rfl rfl rfl rfl (by trivial) (by trivial) (by exact ZbK _) (Zc ?_)
  simp only [Eqs,reduceIte,Zuq]
  refine ⟨by omega,by omega,?_⟩
  have hfin:(!decide (Zdg a b + Zdg b c + Zdg a c=0) || !Zap a b || !Zap b c || Zap a c)=true:=by
   cases h1:Zap a b <;> cases h2:Zap b c <;> simp [h1]
   exact .inr (htrans h1 h2)
  refine KA rfl rfl rfl rfl rfl (fun hcg=>⟨by first | trivial | (simpa [Qu] using hcg),trivial,Zrv⟩) (Zc ?_)
  simp only [Eqs,reduceIte,Zuq,hfin]
  exact hret rfl (by trivial) (Zux _) (Zuw _)
theorem ZsI (w r:Dfn):ZR Zuv ZsG.id [.agg w.cells,.agg r.cells] (.bool true):=by
 refine Z0 ZsG.ok fun F st hret=>?_
 refine Za (Zb (Zc ?_))
 simp only [Eqs,reduceCtorEq,reduceIte,Zuq,Zur,ZsG.r0,ZuM]
 refine Za (Za (Zb (Zc ?_)))
 simp only [Eqs,reduceIte,Zuq,Zur,Zus,ZsG.r1]
 rw [ZcN]
 refine ZW rfl rfl rfl rfl rfl (by trivial) (by trivial) (by exact Zrw w) (Zc ?_)
 simp only [Eqs,reduceIte,Zuq,Zur,Zus]
 rw [ZcN]
 refine KA rfl rfl rfl rfl rfl (fun hcg=>⟨by first | trivial | (simpa [Qu] using hcg),trivial,Zrw r⟩) (Zc ?_)
 simp only [Eqs,reduceIte,Zuq]
 refine Ze rfl trivial (fun h1=>?_) (fun h1=>?_)
 ·refine Za (Zb (Zc ?_))
  simp only [Eqs,ZsG.r2]
  refine ZW rfl rfl rfl rfl rfl (by trivial) (by trivial) (by exact Zrv) (Zc ?_)
  simp only [Eqs,reduceIte,Zuq]
  exact hret rfl (by trivial) (Zux _) (Zuw _)
 ·refine Zg ?_
  refine Za (Zb (Zc ?_))
  simp only [Eqs,reduceIte,Zuq,Zur,Zus,ZsG.r3]
  rw [ZcN,ZcN]
  refine Wn rfl rfl rfl rfl rfl (by trivial) (by trivial) (by exact ZcM w r _) (Zc ?_)
  simp only [Eqs,reduceIte,Zuq]
  refine Za (Zb (Zc ?_))
  simp only [Eqs,reduceIte,Zuq,Zur,Zus,ZsG.r4]
  rw [ZcN,ZcN]
  have hF1:=ZcL w r st
  have hfd:=Zey.eq_1 w r
  have hrd:=Zap.eq_1 w r
  have her:=Zdg.eq_1 w r
  have had:=Zfb.eq_1 w r
  by_cases hv:(Wt w && Wt r)=true
  ·rw [if_pos hv] at hfd her had
   rw [hv,ZuP] at hrd
   rw [hfd] at hF1
   rw [ZuA] at hv
   cases hl:KZ w r with
   | nil =>
    rw [hl] at hF1 had hrd
    refine Wn rfl rfl rfl rfl rfl (by trivial) (by trivial) (by exact hF1) (Zc ?_)
    simp only [Eqs,reduceIte,Zuq,Zur,Zus,ZdA,List.isEmpty_nil]
    refine Za (Zb (Zc ?_))
    simp only [Eqs,reduceIte,Zuq,Zur,Zus,ZsG.r5]
    rw [ZcN,ZcN]
    refine Wn rfl rfl rfl rfl rfl (by trivial) (by trivial) (by exact ZlD w r _) (Zc ?_)
    simp only [Eqs,reduceIte,Zuq]
    rw [had,hrd,her]
    refine Za (Za (Zb (Zc ?_)))
    simp only [Eqs,reduceIte,Zuq,Zur,Zus,ZsG.r6]
    rw [ZcN]
    refine ZW rfl rfl rfl rfl rfl (by trivial) (by trivial) (by exact Zsk w) (Zc ?_)
    simp only [Eqs,reduceIte,Zuq,Zur,Zus]
    rw [ZcN]
    refine KA rfl rfl rfl rfl rfl (fun hcg=>⟨by first | trivial | (simpa [Qu] using hcg),trivial,Zsk r⟩) (Zc ?_)
    simp only [Eqs,reduceIte,Zuq]
    refine Ze rfl trivial (fun h=>by (rw [hv.1,hv.2] at h; simp at h)) (fun _=>?_)
    refine Zg ?_
    refine Za (Zb (Zc ?_))
    simp only [Eqs,reduceIte,Zuq,Zur,Zus,ZsG.r8]
    rw [ZcN,ZcN]
    refine ZW rfl rfl rfl rfl rfl (by trivial) (by trivial) (by exact Zsw w r (ZcE hv.1) (ZcE hv.2)) (Zc ?_)
    simp only [Eqs,reduceIte,Zuq]
    rw [hl]
    refine Za (Za (Zb (Zc ?_)))
    simp only [Eqs,reduceIte,Zuq,ZsG.r9,Q6,slD,List.isEmpty_nil]
    refine ZW rfl rfl rfl rfl rfl (by trivial) (by trivial) (by exact ZbK _) (Zc ?_)
    simp only [Eqs,reduceIte,Zuq]
    refine ZW rfl rfl rfl rfl rfl (by trivial) (by trivial) (by exact ZbK _) (Zc ?_)
    simp only [Eqs,reduceIte,Zuq]
    repeat (refine Zut (by decide) ?_)
    refine ZW rfl rfl rfl rfl rfl (by trivial) (by trivial) (by exact ZlE [] []) (Zc ?_)
    simp only [Eqs,reduceIte,Zuq]
    refine Ze rfl trivial (fun h=>by simp at h) (fun _=>?_)
    refine Zg ?_
    refine Za (WB (Wj ?_))
    simp only [Eqs,reduceIte,Zuq,Zur,Zus,ZsG.r11,eq_self,Dif.cells,Bool.and_self]
    refine ZfO rfl rfl rfl rfl rfl (by trivial) (by trivial) (by exact Zrv) (Wj ?_)
    simp only [Eqs,reduceIte,Zuq]
    exact hret rfl (by trivial) (Zux _) (Zuw _)
   | cons x l =>
    rw [hl] at hF1 had hrd
    refine Wn rfl rfl rfl rfl rfl (by trivial) (by trivial) (by exact hF1) (Zc ?_)
    simp only [Eqs,reduceIte,Zuq,Zur,Zus,ZdA,Dif.cells,List.isEmpty_cons]
    refine Za (Zb (Zc ?_))
    simp only [Eqs,reduceIte,Zuq,Zur,Zus,ZsG.r5]
    rw [ZcN,ZcN]
    refine Wn rfl rfl rfl rfl rfl (by trivial) (by trivial) (by exact ZlD w r _) (Zc ?_)
    simp only [Eqs,reduceIte,Zuq]
    rw [had,hrd,her]
    refine Za (Za (Zb (Zc ?_)))
    simp only [Eqs,reduceIte,Zuq,Zur,Zus,ZsG.r6]
    rw [ZcN]
    refine ZW rfl rfl rfl rfl rfl (by trivial) (by trivial) (by exact Zsk w) (Zc ?_)
    simp only [Eqs,reduceIte,Zuq,Zur,Zus]
    rw [ZcN]
    refine KA rfl rfl rfl rfl rfl (fun hcg=>⟨by first | trivial | (simpa [Qu] using hcg),trivial,Zsk r⟩) (Zc ?_)
    simp only [Eqs,reduceIte,Zuq]
    refine Ze rfl trivial (fun h=>by (rw [hv.1,hv.2] at h; simp at h)) (fun _=>?_)
    refine Zg ?_
    refine Za (Zb (Zc ?_))
    simp only [Eqs,reduceIte,Zuq,Zur,Zus,ZsG.r8]
    rw [ZcN,ZcN]
    refine ZW rfl rfl rfl rfl rfl (by trivial) (by trivial) (by exact Zsw w r (ZcE hv.1) (ZcE hv.2)) (Zc ?_)
    simp only [Eqs,reduceIte,Zuq]
    rw [hl]
    refine Za (Za (Zb (Zc ?_)))
    simp only [Eqs,reduceIte,Zuq,ZsG.r9,Q6,slD,List.isEmpty_cons]
    refine ZW rfl rfl rfl rfl rfl (by trivial) (by trivial) (by exact ZbK _) (Zc ?_)
    simp only [Eqs,reduceIte,Zuq]
    refine ZW rfl rfl rfl rfl rfl (by trivial) (by trivial) (by exact ZbK _) (Zc ?_)
    simp only [Eqs,reduceIte,Zuq]
    repeat (refine Zut (by decide) ?_)
    refine ZW rfl rfl rfl rfl rfl (by trivial) (by trivial) (by exact ZlE (x :: l) (x :: l)) (Zc ?_)
    simp only [Eqs,reduceCtorEq,reduceIte,Zuq]
    refine Ze rfl trivial (fun h=>by (simp at h; try omega)) (fun _=>?_)
    refine Zg ?_
    refine Za (WB (Wj ?_))
    simp only [Eqs,reduceIte,Zuq,Zur,Zus,ZsG.r11,Dif.cells,List.getD_cons_zero,eq_self]
    refine ⟨by omega,by omega,?_⟩
    refine ZfO rfl rfl rfl rfl rfl (by trivial) (by trivial) (by exact Zrv) (Wj ?_)
    simp only [Eqs,reduceIte,Zuq]
    exact hret rfl (by trivial) (Zux _) (Zuw _)
  ·rw [if_neg hv] at hfd her had
   have hv2:(Wt w && Wt r)=false:=by simpa using hv
   rw [hv2,Bool.false_and] at hrd
   rw [hfd] at hF1
   refine Wn rfl rfl rfl rfl rfl (by trivial) (by trivial) (by exact hF1) (Zc ?_)
   simp only [Eqs,reduceIte,Zuq,Zur,Zus]
   refine Za (Zb (Zc ?_))
   simp only [Eqs,reduceIte,Zuq,Zur,Zus,ZsG.r5]
   rw [ZcN,ZcN]
   refine Wn rfl rfl rfl rfl rfl (by trivial) (by trivial) (by exact ZlD w r _) (Zc ?_)
   simp only [Eqs,reduceIte,Zuq]
   rw [had,hrd,her]
   refine Za (Za (Zb (Zc ?_)))
   simp only [Eqs,reduceIte,Zuq,Zur,Zus,ZsG.r6]
   rw [ZcN]
   refine ZW rfl rfl rfl rfl rfl (by trivial) (by trivial) (by exact Zsk w) (Zc ?_)
   simp only [Eqs,reduceIte,Zuq,Zur,Zus]
   rw [ZcN]
   refine KA rfl rfl rfl rfl rfl (fun hcg=>⟨by first | trivial | (simpa [Qu] using hcg),trivial,Zsk r⟩) (Zc ?_)
   simp only [Eqs,reduceIte,Zuq]
   refine Ze rfl trivial (fun _=>?_) (fun h=>by (rw [show (!Wt w || !Wt r)=true by rw [← Bool.not_and,hv2]; rfl] at h; simp at h))
   refine Za (Zb (Zc ?_))
   simp only [Eqs,reduceIte,Zuq,Zur,Zus,ZsG.r7,Q6,slD,eq_self]
   refine ZW rfl rfl rfl rfl rfl (by trivial) (by trivial) (by exact Zrv) (Zc ?_)
   simp only [Eqs,reduceIte,Zuq]
   exact hret rfl (by trivial) (Zux _) (Zuw _)
end Go.DL
namespace Go.Proofs.YtmnhlhenahlilaaGreat
open Go Go.DL Go.ChangeShapes Go.WideShapes Go.ChangeAt Go.RowKit
set_option linter.unusedVariables false
set_option maxRecDepth 100000 in
theorem differs_lifted (os:Os) (started:os.Started) (H:Type) (enc:TypeId × Value→H) :
  ReturnsInHanded {} Tryz.checked os 3 .any (Rows.compatDiffersSpec.pre6 enc Zuv Tryz.f3 Rows.compatDiffersRow.domain false) (Rows.compatDiffersSpec.post enc Zuv Tryz.f3 false true false false):=by
 refine returnsInHanded_of_change (C:=Tryz.checked) own started (by kernel_rfl) Tryz.func3
  (ChangeSpec.witness6 (enc:=enc) (C:=Tryz.checked) false ⟨#[],#[.agg #[.string ⟨#[]⟩,.slice none 0 0,.string ⟨#[]⟩],.agg #[.string ⟨#[]⟩,.slice none 0 0,.string ⟨#[]⟩]],[]⟩ 8 (by kernel_rfl) (by kernel_rfl) (by kernel_rfl) (by kernel_rfl)) ?_
 intro W base args ds gs before hval hW _ _
 have hp:Tryz.f3.params.toList=[24,24]:=by rw [Tryz.params3]
 refine Zse (P:=Zuv) (tb:=4) (Qs:=[_,_]) rfl laidOut (fun t ht=>types_ok t ?_) (by kernel_rfl) Tryz.underlying4 (fun ds hds=>?_) (by rw [hp]; exact .cons arg_Dfn (.cons arg_Dfn .nil)) (fun xs hxs=>?_) W base args ds gs before hval hW
 ·rw [hp] at ht; simp at ht; simp [ht]
 ·rw [hp] at hds
  match ds,hds with
  | [a,b],_=>rfl
 ·cases hxs with | cons h1 hxs =>
  cases hxs with | cons h2 hxs =>
  cases hxs
  obtain ⟨_,⟨w,rfl⟩,rfl⟩:=h1
  obtain ⟨_,⟨r,rfl⟩,rfl⟩:=h2
  exact ZsI w r
theorem differs_holds:Rows.CompatDiffersSaid :=
 OpenClaim.holds_of_wide 3 Tryz.f3 rfl rfl rfl rfl rfl rfl rfl ⟨rfl,rfl,rfl,rfl,rfl⟩ rfl rfl rfl rfl rfl (by kernel_rfl) Tryz.func3 (by kernel_rfl)
  (of_decide_eq_true (by kernel_rfl)) (by unfold Func.isWrapper; first | (rw [if_pos (by decide +kernel)]; kernel_rfl) | (rw [if_neg (by decide +kernel)]; exact ⟨rfl,rfl⟩))
  (fun os started H enc _=>differs_lifted os started H enc)
end Go.Proofs.YtmnhlhenahlilaaGreat
