/- Lemmas: FCode2, FCode3, DlZJ, DlZK, DlZL, DlZM, DlZN, DlZO, DlZP, DlZQ, DlZR, DlZS, DlZT, DlZU, Api, R04a, Lst, R04b, R04c, Iv, R04d, R04e, R04f, R05a, R05b, R05c, R05d, R05e, R05f, R05g. -/
import Derived.Test.YtmnhlhenahlilaaGreatT02
set_option maxHeartbeats 16000000
set_option linter.all false
open And renaming intro → Zut
open Bool renaming and_eq_true → ZuA, or_eq_true → ZuL, true_and → ZuP
open Go.DL.D.Le renaming refl → Zux
open Go.DL.St renaming sub_refl → Zuw, sub_trans → ZuK, sub_upd → Zuy, upd_ne → ZuE, upd_same → ZuB
open Go.Proofs.Tryz renaming prog → Zuv
open List renaming getElem_of_mem → ZuJ, length_append → ZuF, length_cons → ZuI, take_length → ZuH
open Nat renaming le_refl → ZuO, reduceAdd → Zur, reduceEqDiff → Zuq, reduceLeDiff → Zus
open Option renaming map_eq_some_iff → ZuC
open Option.some renaming injEq → Zuu
namespace Go.DL
open Go Go.Proofs
def YF.r0:=[qB 1 0,qi 2 0]
def YF.r1:=[qa 4 2 1,ql 5 4,qe 6 .lss 5 1,qm 7 6,qn 7 (qa 8 2 1),qn 7 (ql 9 8),qn 7 (qe 10 .gtr 9 32),qo 11 7 10,qm 12 11,qn 12 (qa 13 3 1),qn 12 (ql 14 13),qn 12 (qm 15 14),qy 15 (qa 16 2 1),qy 15 (ql 17 16),qy 15 (qe 18 .neq 17 16),qn 12 (qO 19 15 18),qn 12 (qm 20 19),qy 20 (qa 21 2 1),qy 20 (ql 22 21),qy 20 (qe 23 .neq 22 24),qn 12 (qO 24 20 23),qn 12 (qm 25 24),qy 25 (qa 26 2 1),qy 25 (ql 27 26),qy 25 (qe 28 .neq 27 32),qn 12 (qO 29 25 28),qo 30 12 29]
def YF.r2:=[qi 2 6]
def YF.r3:=[qa 31 6 1,ql 32 31,qm 3 32]
def YF.r4:=[qa 33 1 1,ql 34 33,qe 35 .eql 34 2]
def YF.r5:=[qa 36 5 1,ql 37 36,qm 3 37]
def YF.r6:=[qa 38 5 1,ql 39 38,qe 40 .lss 39 0,qm 41 40,qn 41 (qa 42 5 1),qn 41 (ql 43 42),qn 41 (qm 44 3),qn 41 (qd 45 .gtr 43 44),qo 46 41 45,qm 47 46,qn 47 (qm 48 3),qn 47 (qa 49 2 1),qn 47 (ql 50 49),qn 47 ⟨some 51,none,.q (.bin .shl (none)) [.cst (.int .i64 1),.tmp 50]⟩,qn 47 (qd 52 .geq 48 51),qo 53 47 52]
def YF.r7:=[qi 2 7]
def YF.r8:=[qi 2 0]
abbrev YF.id:Nat:=81
def YF.an:Ann:=[(0,[1]),(1,[1,30]),(2,[2]),(3,[1,3]),(4,[1,3,35]),(5,[1,3]),(6,[53]),(7,[2]),(8,[2])]
def YF.body:DC:=.seq (qR YF.r0 [1]) (.seq (.seq (qR YF.r1 [1,30]) (qC 30 (.seq (qR YF.r2 [2]) .ret) .skip)) (.seq (qR YF.r3 [1,3]) (.seq (.seq (qR YF.r4 [1,3,35]) (qC 35 (qR YF.r5 [1,3]) .skip)) (.seq (.seq (qR YF.r6 [53]) (qC 53 (.seq (qR YF.r7 [2]) .ret) .skip)) (.seq (qR YF.r8 [2]) .ret)))))
def YF.df:DF:=⟨54,[.tmp 2],YF.body⟩
theorem YF.ok:cf Zuv YF.an YF.id=some YF.df:=by kernel_rfl
def QY.r0:=[qb 4 false]
def QY.r1:=[qm 5 0,qe 6 .geq 5 0,qm 7 6,qy 7 (qm 8 0),qy 7 (qm 9 1),qy 7 (qd 10 .leq 8 9),qO 11 7 10,qm 12 11,qy 12 (qm 13 1),qy 12 (qe 14 .lss 13 34359738368),qO 15 12 14,qm 4 15]
abbrev QY.id:Nat:=82
def QY.an:Ann:=[(0,[0,1]),(1,[4])]
def QY.body:DC:=.seq (qR QY.r0 [0,1]) (.seq (qR QY.r1 [4]) .ret)
def QY.df:DF:=⟨16,[.tmp 4],QY.body⟩
theorem QY.ok:cf Zuv QY.an QY.id=some QY.df:=by kernel_rfl
def ZY.r0:=[qB 2 0,qi 4 0]
def ZY.r1:List DOp:=[qa 14 1 2,ql 15 14,qm 16 1,qX 17 15 15 16,qa 18 7 17,qL 19 2 18,⟨some 5,none,.alloc [.int .i64 0,.nilsl]⟩,qS 2 5 19]
def ZY.r2:=[qL 20 2 5,qf 21 89 [.tmp 20],qk 22 .not 21]
def ZY.r3:=[qi 4 9]
def ZY.r4:List DOp:=[⟨some 6,none,.q .mv [.cst (.nilsl)]⟩]
def ZY.r5:=[qi 7 0]
def ZY.r6:=[qm 23 7,qa 24 1 5,ql 25 24,qk 26 .lenL 25,qd 27 .lss 23 26]
def ZY.r8:=[qL 30 2 2,qa 31 1 5,ql 32 31,qm 33 7,qX 34 2 32 33,qa 35 0 34,ql 36 35,qm 37 1,qf 38 49 [.tmp 30,.tmp 36,.tmp 37],qm 8 38]
def ZY.r9:=[qm 39 8,qe 40 .lss 39 0,qm 41 40,qn 41 (qa 42 1 2),qn 41 (ql 43 42),qn 41 (qm 44 8),qn 41 (qX 45 15 43 44),qn 41 (qL 46 15 45),qn 41 (qf 47 84 [.tmp 46]),qn 41 (qk 48 .not 47),qo 49 41 48]
def ZY.r10:=[qi 4 8]
def ZY.r11:=[qa 51 1 2,ql 52 51,qm 53 8,qX 54 15 52 53,qL 55 15 54,qf 56 86 [.tmp 55],qm 50 56,qx 57 0 50,qx 58 1 50,qm 9 57,qm 10 58]
def ZY.r12:List DOp:=[qm 59 6,qa 60 1 5,ql 61 60,qm 62 7,qX 63 2 61 62,qa 64 0 63,ql 65 64,qm 66 9,qm 67 10,⟨some 68,none,.q (.build [.str [],.int .i64 0,.int .i64 0] [(0,1),(1,1),(2,1)]) [.tmp 65,.tmp 66,.tmp 67]⟩,⟨some 69,none,.bsl 1 3 [.str [],.int .i64 0,.int .i64 0] [0] [.tmp 68]⟩,⟨some 70,none,.append 167 3 32 [.str [],.int .i64 0,.int .i64 0] (.tmp 59) (.tmp 69)⟩,qm 6 70]
def ZY.r7:=[qm 28 7,qe 29 .add 28 1,qm 7 29]
def ZY.l0:DC:=.seq (.seq (qR ZY.r6 [1,2,5,6,7,27]) (qC 27 .skip (.exit 0))) (.seq (.block 1 (.seq (.regD [0,1,2,3,4,5,6,7,8,9] (Jb ZY.r8) (some [1,2,5,6,7,8])) (.seq (.seq (qR ZY.r9 [1,2,5,6,7,8,49]) (qC 49 (.seq (qR ZY.r10 [4]) .ret) .skip)) (.seq (qR ZY.r11 [1,2,5,6,7,9,10]) (qR ZY.r12 [1,2,5,6,7]))))) (qR ZY.r7 [1,2,5,6,7]))
def ZY.r13:=[qL 72 2 5,qm 73 6,qf 74 92 [.tmp 72,.tmp 73],qm 71 74,qx 75 0 71,qx 76 1 71,qx 77 2 71,qm 11 75,qm 12 76,qm 13 77]
def ZY.r14:=[qm 78 13,qe 79 .neq 78 0,qm 80 79,qn 80 (qm 81 11),qn 80 (qe 82 .lss 81 0),qo 83 80 82,qm 84 83,qn 84 (qm 85 12),qn 84 (qe 86 .gtr 85 1048576),qo 87 84 86]
def ZY.r15:=[qi 4 9]
def ZY.r16:=[qi 4 0]
abbrev ZY.id:Nat:=83
def ZY.an:Ann:=[(0,[1,2]),(1,[1,2,5]),(2,[1,2,5,22]),(3,[4]),(4,[1,2,5,6]),(5,[1,2,5,6,7]),(6,[1,2,5,6,7,27]),(7,[1,2,5,6,7]),(8,[1,2,5,6,7,8]),(9,[1,2,5,6,7,8,49]),(10,[4]),(11,[1,2,5,6,7,9,10]),(12,[1,2,5,6,7]),(13,[11,12,13]),(14,[87]),(15,[4]),(16,[4]),(1000008,[0,1,2,3,4,5,6,7,8,9])]
def ZY.body:DC:=.seq (qR ZY.r0 [1,2]) (.seq (qR ZY.r1 [1,2,5]) (.seq (.seq (qR ZY.r2 [1,2,5,22]) (qC 22 (.seq (qR ZY.r3 [4]) .ret) .skip)) (.seq (qR ZY.r4 [1,2,5,6]) (.seq (.seq (qR ZY.r5 [1,2,5,6,7]) (.block 0 (.loop ZY.l0))) (.seq (qR ZY.r13 [11,12,13]) (.seq (.seq (qR ZY.r14 [87]) (qC 87 (.seq (qR ZY.r15 [4]) .ret) .skip)) (.seq (qR ZY.r16 [4]) .ret)))))))
def ZY.df:DF:=⟨88,[.tmp 4],ZY.body⟩
theorem ZY.ok:cf Zuv ZY.an ZY.id=some ZY.df:=by kernel_rfl
def Qq.r0:=[qB 1 0,qb 2 false]
def Qq.r1:=[qa 3 1 1,ql 4 3,qe 5 .geq 4 1,qm 6 5,qy 6 (qa 7 1 1),qy 6 (ql 8 7),qy 6 (qe 9 .leq 8 3),qO 10 6 9,qm 2 10]
abbrev Qq.id:Nat:=84
def Qq.an:Ann:=[(0,[1]),(1,[2])]
def Qq.body:DC:=.seq (qR Qq.r0 [1]) (.seq (qR Qq.r1 [2]) .ret)
def Qq.df:DF:=⟨11,[.tmp 2],Qq.body⟩
theorem Qq.ok:cf Zuv Qq.an Qq.id=some Qq.df:=by kernel_rfl
def YT.r0:=[qB 3 0,qb 6 false]
def YT.r1:=[qi 7 0]
def YT.r2:=[qm 8 7,qm 9 2,qd 10 .lss 8 9]
def YT.r4:=[qa 13 1 3,ql 14 13,qm 15 7,qX 16 15 14 15,qa 17 1 16,ql 18 17,qe 19 .eql 18 9,qm 20 19,qy 20 (qa 21 1 3),qy 20 (ql 22 21),qy 20 (qm 23 7),qy 20 (qX 24 15 22 23),qy 20 (qa 25 10 24),qy 20 (ql 26 25),qy 20 (qm 27 1),qy 20 (qd 28 .eql 26 27),qO 29 20 28]
def YT.r5:=[qb 6 true]
def YT.r3:=[qm 11 7,qe 12 .add 11 1,qm 7 12]
def YT.l0:DC:=.seq (.seq (qR YT.r2 [1,2,3,7,10]) (qC 10 .skip (.exit 0))) (.seq (.block 1 (.seq (qR YT.r4 [1,2,3,7,29]) (qC 29 (.seq (qR YT.r5 [6]) .ret) .skip))) (qR YT.r3 [1,2,3,7]))
def YT.r6:=[qb 6 false]
abbrev YT.id:Nat:=85
def YT.an:Ann:=[(0,[1,2,3]),(1,[1,2,3,7]),(2,[1,2,3,7,10]),(3,[1,2,3,7]),(4,[1,2,3,7,29]),(5,[6]),(6,[6])]
def YT.body:DC:=.seq (qR YT.r0 [1,2,3]) (.seq (.seq (qR YT.r1 [1,2,3,7]) (.block 0 (.loop YT.l0))) (.seq (qR YT.r6 [6]) .ret))
def YT.df:DF:=⟨30,[.tmp 6],YT.body⟩
theorem YT.ok:cf Zuv YT.an YT.id=some YT.df:=by kernel_rfl
def KI.r0:=[qB 1 0,qi 2 0,qi 3 0]
def KI.r1:=[qa 4 1 1,ql 5 4,qe 6 .eql 5 2]
def KI.r2:=[qa 7 5 1,ql 8 7,qa 9 5 1,ql 10 9,qm 2 8,qm 3 10]
def KI.r3:=[qa 11 5 1,ql 12 11,qa 13 6 1,ql 14 13,qm 2 12,qm 3 14]
abbrev KI.id:Nat:=86
def KI.an:Ann:=[(0,[1]),(1,[1,6]),(2,[2,3]),(3,[2,3]),(1000002,[0,1,2,3,4,5]),(1000003,[0,1,2,3,4,5])]
def KI.body:DC:=.seq (qR KI.r0 [1]) (.seq (.seq (qR KI.r1 [1,6]) (qC 6 (.seq (.regD [0,1,2,3,4,5] (Jb KI.r2) (some [2,3])) .ret) .skip)) (.seq (.regD [0,1,2,3,4,5] (Jb KI.r3) (some [2,3])) .ret))
def KI.df:DF:=⟨15,[.tmp 2,.tmp 3],KI.body⟩
theorem KI.ok:cf Zuv KI.an KI.id=some KI.df:=by kernel_rfl
def Yq.r0:=[qB 5 0,qB 7 2,qi 10 0]
def Yq.r1:=[qa 13 12 7,ql 14 13,qk 15 .lenL 14,qe 16 .lss 15 1,qm 17 16,qn 17 (qa 18 12 7),qn 17 (ql 19 18),qn 17 (qk 20 .lenL 19),qn 17 (qe 21 .gtr 20 40),qo 22 17 21]
def Yq.r2:=[qi 10 3]
def Yq.r3:=[qi 11 0]
def Yq.r4:=[qm 23 11,qa 24 12 7,ql 25 24,qk 26 .lenL 25,qd 27 .lss 23 26]
def Yq.r6:List DOp:=[qa 30 12 7,ql 31 30,qm 32 11,qX 33 3 31 32,qL 34 3 33,⟨some 12,none,.alloc [.int .i64 0,.int .i64 0,.str []]⟩,qS 3 12 34]
def Yq.r7:=[qa 35 0 12,ql 36 35,qm 37 3,qd 38 .lss 36 37,qm 39 38,qn 39 (qa 40 0 12),qn 39 (ql 41 40),qn 39 (qa 42 1 12),qn 39 (ql 43 42),qn 39 (qd 44 .gtr 41 43),qo 45 39 44,qm 46 45,qn 46 (qa 47 1 12),qn 46 (ql 48 47),qn 46 (qm 49 4),qn 46 (qd 50 .gtr 48 49),qo 51 46 50,qm 52 51,qn 52 (qm 53 11),qn 52 (qe 54 .gtr 53 0),qn 52 (qm 55 54),qy 55 (qa 56 0 12),qy 55 (ql 57 56),qy 55 (qa 58 12 7),qy 55 (ql 59 58),qy 55 (qm 60 11),qy 55 (qe 61 .sub 60 1),qy 55 (qX 62 3 59 61),qy 55 (qa 63 1 62),qy 55 (ql 64 63),qy 55 (qd 65 .leq 57 64),qn 52 (qO 66 55 65),qo 67 52 66]
def Yq.r8:=[qi 10 7]
def Yq.r9:=[qL 68 3 5,qa 69 2 12,ql 70 69,qm 71 1,qf 72 33 [.tmp 68,.tmp 70,.tmp 71],qe 73 .lss 72 0]
def Yq.r10:=[qi 10 8]
def Yq.r5:=[qm 28 11,qe 29 .add 28 1,qm 11 29]
def Yq.l0:DC:=.seq (.seq (qR Yq.r4 [1,3,4,5,7,11,27]) (qC 27 .skip (.exit 0))) (.seq (.block 1 (.seq (qR Yq.r6 [1,3,4,5,7,11,12]) (.seq (.seq (.regD [0,1,2,3,4,5,6,7,8,9,10,11,12,13,14,15,16,17,18,19,20,21,22,23,24,25,26,27,28,29,30,31,32] (Jb Yq.r7) (some [1,3,4,5,7,11,12,67])) (qC 67 (.seq (qR Yq.r8 [10]) .ret) .skip)) (.seq (qR Yq.r9 [1,3,4,5,7,11,73]) (qC 73 (.seq (qR Yq.r10 [10]) .ret) .skip))))) (qR Yq.r5 [1,3,4,5,7,11]))
def Yq.r11:=[qi 10 0]
abbrev Yq.id:Nat:=87
def Yq.an:Ann:=[(0,[1,3,4,5,7]),(1,[1,3,4,5,7,22]),(2,[10]),(3,[1,3,4,5,7,11]),(4,[1,3,4,5,7,11,27]),(5,[1,3,4,5,7,11]),(6,[1,3,4,5,7,11,12]),(7,[1,3,4,5,7,11,12,67]),(8,[10]),(9,[1,3,4,5,7,11,73]),(10,[10]),(11,[10]),(1000007,[0,1,2,3,4,5,6,7,8,9,10,11,12,13,14,15,16,17,18,19,20,21,22,23,24,25,26,27,28,29,30,31,32])]
def Yq.body:DC:=.seq (qR Yq.r0 [1,3,4,5,7]) (.seq (.seq (qR Yq.r1 [1,3,4,5,7,22]) (qC 22 (.seq (qR Yq.r2 [10]) .ret) .skip)) (.seq (.seq (qR Yq.r3 [1,3,4,5,7,11]) (.block 0 (.loop Yq.l0))) (.seq (qR Yq.r11 [10]) .ret)))
def Yq.df:DF:=⟨74,[.tmp 10],Yq.body⟩
theorem Yq.ok:cf Zuv Yq.an Yq.id=some Yq.df:=by kernel_rfl
def Zz.r0:List DOp:=[qB 2 0,⟨some 4,none,.q .mv [.cst (.nilsl)]⟩]
def Zz.r1:List DOp:=[⟨some 5,none,.q .mv [.cst (.nilsl)]⟩]
def Zz.r2:=[qi 6 0]
def Zz.r3:=[qm 11 6,qm 12 1,qd 13 .lss 11 12]
def Zz.r5:=[qb 7 true]
def Zz.r6:=[qi 8 0]
def Zz.r7:=[qm 16 8,qa 17 1 2,ql 18 17,qm 19 6,qX 20 2 18 19,qa 21 1 20,ql 22 21,qk 23 .lenL 22,qd 24 .lss 16 23]
def Zz.r9:=[qm 27 7,qm 28 27,qy 28 (qa 29 1 2),qy 28 (ql 30 29),qy 28 (qm 31 6),qy 28 (qX 32 2 30 31),qy 28 (qa 33 1 32),qy 28 (ql 34 33),qy 28 (qm 35 8),qy 28 (qX 36 15 34 35),qy 28 (qa 37 4 36),qy 28 (ql 38 37),qy 28 (qk 39 .not 38),qO 40 28 39,qm 7 40]
def Zz.r8:=[qm 25 8,qe 26 .add 25 1,qm 8 26]
def Zz.l1:DC:=.seq (.seq (qR Zz.r7 [1,2,5,6,7,8,24]) (qC 24 .skip (.exit 2))) (.seq (.block 3 (qR Zz.r9 [1,2,5,6,7,8])) (qR Zz.r8 [1,2,5,6,7,8]))
def Zz.r10:=[qa 41 1 2,ql 42 41,qm 43 6,qX 44 2 42 43,qL 45 2 44,qf 46 35 [.tmp 45],qm 9 46]
def Zz.r11:=[qi 10 0]
def Zz.r12:=[qm 47 10,qm 48 9,qk 49 .lenL 48,qd 50 .lss 47 49]
def Zz.r14:=[qm 53 7,qm 54 53,qy 54 (qm 55 5),qy 54 (qL 56 3 2),qy 54 (qm 57 9),qy 54 (qm 58 10),qy 54 (qX 59 1 57 58),qy 54 (ql 60 59),qy 54 (qm 61 6),qy 54 (qf 62 33 [.tmp 56,.tmp 60,.tmp 61]),qy 54 (qX 63 1 55 62),qy 54 (ql 64 63),qO 65 54 64,qm 7 65]
def Zz.r13:=[qm 51 10,qe 52 .add 51 1,qm 10 52]
def Zz.l2:DC:=.seq (.seq (qR Zz.r12 [1,2,5,6,7,9,10,50]) (qC 50 .skip (.exit 4))) (.seq (.block 5 (.regD [0,1,2,3,4,5,6,7,8,9,10,11,12,13] (Jb Zz.r14) (some [1,2,5,6,7,9,10]))) (qR Zz.r13 [1,2,5,6,7,9,10]))
def Zz.r15:List DOp:=[qm 66 5,qm 67 7,⟨some 68,none,.bsl 1 1 [.bool false] [0] [.tmp 67]⟩,⟨some 69,none,.append 4 1 1 [.bool false] (.tmp 66) (.tmp 68)⟩,qm 5 69]
def Zz.r4:=[qm 14 6,qe 15 .add 14 1,qm 6 15]
def Zz.l0:DC:=.seq (.seq (qR Zz.r3 [1,2,5,6,13]) (qC 13 .skip (.exit 0))) (.seq (.block 1 (.seq (qR Zz.r5 [1,2,5,6,7]) (.seq (.seq (qR Zz.r6 [1,2,5,6,7,8]) (.block 2 (.loop Zz.l1))) (.seq (qR Zz.r10 [1,2,5,6,7,9]) (.seq (.seq (qR Zz.r11 [1,2,5,6,7,9,10]) (.block 4 (.loop Zz.l2))) (qR Zz.r15 [1,2,5,6])))))) (qR Zz.r4 [1,2,5,6]))
def Zz.r16:=[qm 70 5,qm 4 70]
abbrev Zz.id:Nat:=88
def Zz.an:Ann:=[(0,[1,2]),(1,[1,2,5]),(2,[1,2,5,6]),(3,[1,2,5,6,13]),(4,[1,2,5,6]),(5,[1,2,5,6,7]),(6,[1,2,5,6,7,8]),(7,[1,2,5,6,7,8,24]),(8,[1,2,5,6,7,8]),(9,[1,2,5,6,7,8]),(10,[1,2,5,6,7,9]),(11,[1,2,5,6,7,9,10]),(12,[1,2,5,6,7,9,10,50]),(13,[1,2,5,6,7,9,10]),(14,[1,2,5,6,7,9,10]),(15,[1,2,5,6]),(16,[4]),(1000014,[0,1,2,3,4,5,6,7,8,9,10,11,12,13])]
def Zz.body:DC:=.seq (qR Zz.r0 [1,2]) (.seq (qR Zz.r1 [1,2,5]) (.seq (.seq (qR Zz.r2 [1,2,5,6]) (.block 0 (.loop Zz.l0))) (.seq (qR Zz.r16 [4]) .ret)))
def Zz.df:DF:=⟨71,[.tmp 4],Zz.body⟩
theorem Zz.ok:cf Zuv Zz.an Zz.id=some Zz.df:=by kernel_rfl
def Z1.r0:=[qB 1 0,qb 2 false]
def Z1.r1:=[qa 5 0 1,ql 6 5,qf 7 113 [.tmp 6],qk 8 .not 7,qm 9 8,qn 9 (qa 10 1 1),qn 9 (ql 11 10),qn 9 (qk 12 .lenL 11),qn 9 (qe 13 .gtr 12 4),qo 14 9 13]
def Z1.r2:=[qb 2 false]
def Z1.r3:=[qi 3 0]
def Z1.r4:=[qm 15 3,qa 16 1 1,ql 17 16,qk 18 .lenL 17,qd 19 .lss 15 18]
def Z1.r6:=[qa 22 1 1,ql 23 22,qm 24 3,qX 25 2 23 24,qa 26 0 25,ql 27 26,qf 28 32 [.tmp 27],qk 29 .not 28,qm 30 29,qn 30 (qa 31 1 1),qn 30 (ql 32 31),qn 30 (qm 33 3),qn 30 (qX 34 2 32 33),qn 30 (qa 35 1 34),qn 30 (ql 36 35),qn 30 (qe 37 .eql 36 0),qo 38 30 37,qm 39 38,qn 39 (qa 40 1 1),qn 39 (ql 41 40),qn 39 (qm 42 3),qn 39 (qX 43 2 41 42),qn 39 (qa 44 1 43),qn 39 (ql 45 44),qn 39 (qf 46 113 [.tmp 45]),qn 39 (qk 47 .not 46),qo 48 39 47]
def Z1.r7:=[qb 2 false]
def Z1.r8:=[qi 4 0]
def Z1.r9:=[qm 49 4,qm 50 3,qd 51 .lss 49 50]
def Z1.r11:=[qa 54 1 1,ql 55 54,qm 56 4,qX 57 2 55 56,qa 58 0 57,ql 59 58,qa 60 1 1,ql 61 60,qm 62 3,qX 63 2 61 62,qa 64 0 63,ql 65 64,qd 66 .eql 59 65]
def Z1.r12:=[qb 2 false]
def Z1.r10:=[qm 52 4,qe 53 .add 52 1,qm 4 53]
def Z1.l1:DC:=.seq (.seq (qR Z1.r9 [1,3,4,51]) (qC 51 .skip (.exit 2))) (.seq (.block 3 (.seq (.regD [0,1,2,3,4,5,6,7,8,9,10,11,12] (Jb Z1.r11) (some [1,3,4,66])) (qC 66 (.seq (qR Z1.r12 [2]) .ret) .skip))) (qR Z1.r10 [1,3,4]))
def Z1.r5:=[qm 20 3,qe 21 .add 20 1,qm 3 21]
def Z1.l0:DC:=.seq (.seq (qR Z1.r4 [1,3,19]) (qC 19 .skip (.exit 0))) (.seq (.block 1 (.seq (.seq (qR Z1.r6 [1,3,48]) (qC 48 (.seq (qR Z1.r7 [2]) .ret) .skip)) (.seq (qR Z1.r8 [1,3,4]) (.block 2 (.loop Z1.l1))))) (qR Z1.r5 [1,3]))
def Z1.r13:=[qb 2 true]
abbrev Z1.id:Nat:=89
def Z1.an:Ann:=[(0,[1]),(1,[1,14]),(2,[2]),(3,[1,3]),(4,[1,3,19]),(5,[1,3]),(6,[1,3,48]),(7,[2]),(8,[1,3,4]),(9,[1,3,4,51]),(10,[1,3,4]),(11,[1,3,4,66]),(12,[2]),(13,[2]),(1000011,[0,1,2,3,4,5,6,7,8,9,10,11,12])]
def Z1.body:DC:=.seq (qR Z1.r0 [1]) (.seq (.seq (qR Z1.r1 [1,14]) (qC 14 (.seq (qR Z1.r2 [2]) .ret) .skip)) (.seq (.seq (qR Z1.r3 [1,3]) (.block 0 (.loop Z1.l0))) (.seq (qR Z1.r13 [2]) .ret)))
def Z1.df:DF:=⟨67,[.tmp 2],Z1.body⟩
theorem Z1.ok:cf Zuv Z1.an Z1.id=some Z1.df:=by kernel_rfl
def Y9.r0:=[qB 2 0,qB 3 1,qb 4 false]
def Y9.r1:=[qa 6 0 2,ql 7 6,qa 8 0 3,ql 9 8,qd 10 .neq 7 9,qm 11 10,qn 11 (qa 12 1 2),qn 11 (ql 13 12),qn 11 (qk 14 .lenL 13),qn 11 (qa 15 1 3),qn 11 (ql 16 15),qn 11 (qk 17 .lenL 16),qn 11 (qd 18 .neq 14 17),qo 19 11 18]
def Y9.r2:=[qb 4 false]
def Y9.r3:=[qi 5 0]
def Y9.r4:=[qm 20 5,qa 21 1 2,ql 22 21,qk 23 .lenL 22,qd 24 .lss 20 23]
def Y9.r6:List DOp:=[qa 27 1 2,ql 28 27,qm 29 5,qX 30 2 28 29,qL 31 2 30,qa 32 1 3,ql 33 32,qm 34 5,qX 35 2 33 34,qL 36 2 35,⟨some 37,none,.q (.bin .neq (some (.cells [(0,.str),(1,.int)]))) [.tmp 31,.tmp 36]⟩]
def Y9.r7:=[qb 4 false]
def Y9.r5:=[qm 25 5,qe 26 .add 25 1,qm 5 26]
def Y9.l0:DC:=.seq (.seq (qR Y9.r4 [2,3,5,24]) (qC 24 .skip (.exit 0))) (.seq (.block 1 (.seq (.regD [0,1,2,3,4,5,6,7,8,9,10] (Jb Y9.r6) (some [2,3,5,37])) (qC 37 (.seq (qR Y9.r7 [4]) .ret) .skip))) (qR Y9.r5 [2,3,5]))
def Y9.r8:=[qb 4 true]
abbrev Y9.id:Nat:=90
def Y9.an:Ann:=[(0,[2,3]),(1,[2,3,19]),(2,[4]),(3,[2,3,5]),(4,[2,3,5,24]),(5,[2,3,5]),(6,[2,3,5,37]),(7,[4]),(8,[4]),(1000006,[0,1,2,3,4,5,6,7,8,9,10])]
def Y9.body:DC:=.seq (qR Y9.r0 [2,3]) (.seq (.seq (qR Y9.r1 [2,3,19]) (qC 19 (.seq (qR Y9.r2 [4]) .ret) .skip)) (.seq (.seq (qR Y9.r3 [2,3,5]) (.block 0 (.loop Y9.l0))) (.seq (qR Y9.r8 [4]) .ret)))
def Y9.df:DF:=⟨38,[.tmp 4],Y9.body⟩
theorem Y9.ok:cf Zuv Y9.an Y9.id=some Y9.df:=by kernel_rfl
def Z9.r0:List DOp:=[qB 1 0,⟨some 2,none,.alloc [.int .i64 0,.nilsl]⟩]
def Z9.r1:List DOp:=[qa 6 0 1,ql 7 6,⟨some 8,none,.q (.build [.int .i64 0,.nilsl] [(0,1)]) [.tmp 7]⟩,⟨some 3,none,.alloc [.int .i64 0,.nilsl]⟩,qS 2 3 8]
def Z9.r2:=[qi 4 0]
def Z9.r3:=[qm 9 4,qa 10 1 1,ql 11 10,qk 12 .lenL 11,qd 13 .lss 9 12]
def Z9.r5:=[qi 5 0]
def Z9.r6:=[qm 16 5,qa 17 1 3,ql 18 17,qk 19 .lenL 18,qd 20 .lss 16 19,qm 21 20,qy 21 (qa 22 1 3),qy 21 (ql 23 22),qy 21 (qm 24 5),qy 21 (qX 25 2 23 24),qy 21 (qa 26 0 25),qy 21 (ql 27 26),qy 21 (qa 28 1 1),qy 21 (ql 29 28),qy 21 (qm 30 4),qy 21 (qX 31 2 29 30),qy 21 (qa 32 0 31),qy 21 (ql 33 32),qy 21 (qd 34 .lss 27 33),qO 35 21 34]
def Z9.r7:=[qm 36 5,qe 37 .add 36 1,qm 5 37]
def Z9.l1:DC:=.seq (.seq (.regD [0,1,2,3,4,5,6,7,8,9,10,11,12,13,14,15,16,17,18,19] (Jb Z9.r6) (some [1,2,3,4,5,35])) (qC 35 .skip (.exit 2))) (.block 3 (qR Z9.r7 [1,2,3,4,5]))
def Z9.r8:List (DOp × Bool):=[(qa 38 1 3,false),(ql 39 38,false),(qm 40 5,false),(qm 41 5,false),(⟨some 42,none,.q (.slice 2 false true true) [.tmp 39,.tmp 40,.tmp 41]⟩,false),(qa 43 1 1,false),(ql 44 43,false),(qm 45 4,false),(qX 46 2 44 45,false),(qL 47 2 46,false),(⟨some 48,none,.bsl 1 2 [.str [],.int .i64 0] [0] [.tmp 47]⟩,false),(qa 49 1 3,false),(ql 50 49,false),(qm 51 5,false),(⟨some 52,none,.q (.slice 2 true false false) [.tmp 50,.tmp 51]⟩,false),(⟨some 53,none,.append 85 2 24 [.str [],.int .i64 0] (.tmp 48) (.tmp 52)⟩,true),(⟨some 54,none,.append 85 2 24 [.str [],.int .i64 0] (.tmp 42) (.tmp 53)⟩,false),(qa 55 1 3,false),(qs 55 54,false)]
def Z9.r4:=[qm 14 4,qe 15 .add 14 1,qm 4 15]
def Z9.l0:DC:=.seq (.seq (qR Z9.r3 [1,2,3,4,13]) (qC 13 .skip (.exit 0))) (.seq (.block 1 (.seq (qR Z9.r5 [1,2,3,4,5]) (.seq (.block 2 (.loop Z9.l1)) (.regD [0,1,2,3,4,5,6,7,8,9,10,11,12,13,14,15,16,17,18] Z9.r8 (some [1,2,3,4]))))) (qR Z9.r4 [1,2,3,4]))
def Z9.r9:=[qL 56 2 3,qS 2 2 56]
abbrev Z9.id:Nat:=91
def Z9.an:Ann:=[(0,[1,2]),(1,[1,2,3]),(2,[1,2,3,4]),(3,[1,2,3,4,13]),(4,[1,2,3,4]),(5,[1,2,3,4,5]),(6,[1,2,3,4,5,35]),(7,[1,2,3,4,5]),(8,[1,2,3,4]),(9,[2]),(1000006,[0,1,2,3,4,5,6,7,8,9,10,11,12,13,14,15,16,17,18,19]),(1000008,[0,1,2,3,4,5,6,7,8,9,10,11,12,13,14,15,16,17,18]),(2000008,[15])]
def Z9.body:DC:=.seq (qR Z9.r0 [1,2]) (.seq (qR Z9.r1 [1,2,3]) (.seq (.seq (qR Z9.r2 [1,2,3,4]) (.block 0 (.loop Z9.l0))) (.seq (qR Z9.r9 [2]) .ret)))
def Z9.df:DF:=⟨57,[.cellN 2 2],Z9.body⟩
theorem Z9.ok:cf Zuv Z9.an Z9.id=some Z9.df:=by kernel_rfl
def Zk.r0:=[qB 2 0,qi 4 0,qi 5 0,qi 6 0]
def Zk.r1:=[qL 17 2 2,qf 18 89 [.tmp 17],qk 19 .not 18]
def Zk.r2:=[qi 4 0,qi 5 0,qi 6 2]
def Zk.r3:=[qb 7 false]
def Zk.r4:=[qi 8 0]
def Zk.r5:=[qm 20 8,qa 21 1 2,ql 22 21,qk 23 .lenL 22,qd 24 .lss 20 23]
def Zk.r7:=[qm 27 1,qa 28 1 2,ql 29 28,qm 30 8,qX 31 2 29 30,qa 32 0 31,ql 33 32,qf 34 114 [.tmp 27,.tmp 33],qm 9 34]
def Zk.r8:=[qm 35 9,qe 36 .lss 35 0]
def Zk.r9:=[qb 7 true]
def Zk.r10:=[qm 37 1,qm 38 9,qX 39 3 37 38,qa 40 1 39,ql 41 40,qe 42 .lss 41 0,qm 43 42,qn 43 (qm 44 1),qn 43 (qm 45 9),qn 43 (qX 46 3 44 45),qn 43 (qa 47 1 46),qn 43 (ql 48 47),qn 43 (qm 49 1),qn 43 (qm 50 9),qn 43 (qX 51 3 49 50),qn 43 (qa 52 2 51),qn 43 (ql 53 52),qn 43 (qd 54 .gtr 48 53),qo 55 43 54,qm 56 55,qn 56 (qm 57 1),qn 56 (qm 58 9),qn 56 (qX 59 3 57 58),qn 56 (qa 60 2 59),qn 56 (ql 61 60),qn 56 (qe 62 .geq 61 34359738368),qo 63 56 62]
def Zk.r11:=[qi 4 0,qi 5 0,qi 6 2]
def Zk.r6:=[qm 25 8,qe 26 .add 25 1,qm 8 26]
def Zk.l0:DC:=.seq (.seq (qR Zk.r5 [1,2,7,8,24]) (qC 24 .skip (.exit 0))) (.seq (.block 1 (.seq (qR Zk.r7 [1,2,7,8,9]) (.seq (.seq (qR Zk.r8 [1,2,7,8,9,36]) (qC 36 (.seq (qR Zk.r9 [1,2,7,8]) (.exit 1)) .skip)) (.seq (.regD [0,1,2,3,4,5,6,7,8,9,10,11,12,13,14,15,16,17,18,19,20,21,22,23,24,25,26] (Jb Zk.r10) (some [1,2,7,8,63])) (qC 63 (.seq (qR Zk.r11 [4,5,6]) .ret) .skip))))) (qR Zk.r6 [1,2,7,8]))
def Zk.r12:=[qm 64 7]
def Zk.r13:=[qi 4 0,qi 5 0,qi 6 9]
def Zk.r14:=[qi 10 0,qi 11 0]
def Zk.r15:=[qi 12 0]
def Zk.r16:List DOp:=[qm 65 12,qa 66 1 2,ql 67 66,qk 68 .lenL 67,⟨some 69,none,.q (.bin .shl (none)) [.cst (.int .i64 1),.tmp 68]⟩,qd 70 .lss 65 69]
def Zk.r18:=[qa 73 0 2,ql 74 73,qm 13 74]
def Zk.r19:=[qi 14 0]
def Zk.r20:=[qm 75 14,qa 76 1 2,ql 77 76,qk 78 .lenL 77,qd 79 .lss 75 78]
def Zk.r22:List DOp:=[qm 82 1,qm 83 1,qa 84 1 2,ql 85 84,qm 86 14,qX 87 2 85 86,qa 88 0 87,ql 89 88,qf 90 114 [.tmp 83,.tmp 89],qX 91 3 82 90,qL 92 3 91,⟨some 15,none,.alloc [.str [],.int .i64 0,.int .i64 0]⟩,qS 3 15 92]
def Zk.r23:=[qa 93 1 15,ql 94 93,qm 16 94]
def Zk.r24:=[qm 95 12,qm 96 14,qd 97 .shr 95 96,qe 98 .rem 97 2,qe 99 .eql 98 1]
def Zk.r25:=[qa 100 2 15,ql 101 100,qm 16 101]
def Zk.r26:=[qm 102 13,qa 103 1 2,ql 104 103,qm 105 14,qX 106 2 104 105,qa 107 1 106,ql 108 107,qm 109 16,qd 110 .mul 108 109,qd 111 .add 102 110,qm 13 111]
def Zk.r21:=[qm 80 14,qe 81 .add 80 1,qm 14 81]
def Zk.l2:DC:=.seq (.seq (qR Zk.r20 [1,2,10,11,12,13,14,79]) (qC 79 .skip (.exit 4))) (.seq (.block 5 (.seq (qR Zk.r22 [1,2,10,11,12,13,14,15]) (.seq (qR Zk.r23 [1,2,10,11,12,13,14,15,16]) (.seq (.seq (qR Zk.r24 [1,2,10,11,12,13,14,15,16,99]) (qC 99 (qR Zk.r25 [1,2,10,11,12,13,14,16]) .skip)) (qR Zk.r26 [1,2,10,11,12,13,14]))))) (qR Zk.r21 [1,2,10,11,12,13,14]))
def Zk.r27:=[qm 112 12,qe 113 .eql 112 0,qm 114 113,qn 114 (qm 115 13),qn 114 (qm 116 10),qn 114 (qd 117 .lss 115 116),qo 118 114 117]
def Zk.r28:=[qm 119 13,qm 10 119]
def Zk.r29:=[qm 120 12,qe 121 .eql 120 0,qm 122 121,qn 122 (qm 123 13),qn 122 (qm 124 11),qn 122 (qd 125 .gtr 123 124),qo 126 122 125]
def Zk.r30:=[qm 127 13,qm 11 127]
def Zk.r17:=[qm 71 12,qe 72 .add 71 1,qm 12 72]
def Zk.l1:DC:=.seq (.seq (qR Zk.r16 [1,2,10,11,12,70]) (qC 70 .skip (.exit 2))) (.seq (.block 3 (.seq (qR Zk.r18 [1,2,10,11,12,13]) (.seq (.seq (qR Zk.r19 [1,2,10,11,12,13,14]) (.block 4 (.loop Zk.l2))) (.seq (.seq (qR Zk.r27 [1,2,10,11,12,13,118]) (qC 118 (qR Zk.r28 [1,2,10,11,12,13]) .skip)) (.seq (qR Zk.r29 [1,2,10,11,12,13,126]) (qC 126 (qR Zk.r30 [1,2,10,11,12]) .skip)))))) (qR Zk.r17 [1,2,10,11,12]))
def Zk.r31:=[qm 128 10,qm 129 11,qm 4 128,qm 5 129,qi 6 0]
abbrev Zk.id:Nat:=92
def Zk.an:Ann:=[(0,[1,2]),(1,[1,2,19]),(2,[4,5,6]),(3,[1,2,7]),(4,[1,2,7,8]),(5,[1,2,7,8,24]),(6,[1,2,7,8]),(7,[1,2,7,8,9]),(8,[1,2,7,8,9,36]),(9,[1,2,7,8]),(10,[1,2,7,8,63]),(11,[4,5,6]),(12,[1,2,64]),(13,[4,5,6]),(14,[1,2,10,11]),(15,[1,2,10,11,12]),(16,[1,2,10,11,12,70]),(17,[1,2,10,11,12]),(18,[1,2,10,11,12,13]),(19,[1,2,10,11,12,13,14]),(20,[1,2,10,11,12,13,14,79]),(21,[1,2,10,11,12,13,14]),(22,[1,2,10,11,12,13,14,15]),(23,[1,2,10,11,12,13,14,15,16]),(24,[1,2,10,11,12,13,14,15,16,99]),(25,[1,2,10,11,12,13,14,16]),(26,[1,2,10,11,12,13,14]),(27,[1,2,10,11,12,13,118]),(28,[1,2,10,11,12,13]),(29,[1,2,10,11,12,13,126]),(30,[1,2,10,11,12]),(31,[4,5,6]),(1000010,[0,1,2,3,4,5,6,7,8,9,10,11,12,13,14,15,16,17,18,19,20,21,22,23,24,25,26])]
def Zk.body:DC:=.seq (qR Zk.r0 [1,2]) (.seq (.seq (qR Zk.r1 [1,2,19]) (qC 19 (.seq (qR Zk.r2 [4,5,6]) .ret) .skip)) (.seq (qR Zk.r3 [1,2,7]) (.seq (.seq (qR Zk.r4 [1,2,7,8]) (.block 0 (.loop Zk.l0))) (.seq (.seq (qR Zk.r12 [1,2,64]) (qC 64 (.seq (qR Zk.r13 [4,5,6]) .ret) .skip)) (.seq (qR Zk.r14 [1,2,10,11]) (.seq (.seq (qR Zk.r15 [1,2,10,11,12]) (.block 2 (.loop Zk.l1))) (.seq (qR Zk.r31 [4,5,6]) .ret)))))))
def Zk.df:DF:=⟨130,[.tmp 4,.tmp 5,.tmp 6],Zk.body⟩
theorem Zk.ok:cf Zuv Zk.an Zk.id=some Zk.df:=by kernel_rfl
def KY.r0:=[qb 2 false]
def KY.r1:=[qm 3 0,qf 4 94 [.tmp 3],qk 5 .not 4,qm 6 5,qy 6 (qm 7 0),qy 6 (qf 8 95 [.tmp 7]),qy 6 (qk 9 .not 8),qO 10 6 9,qm 11 10,qy 11 (qm 12 0),qy 11 ⟨some 13,none,.q (.bin .neq (none)) [.tmp 12,.cst (.int .u8 95)]⟩,qO 14 11 13,qm 2 14]
abbrev KY.id:Nat:=93
def KY.an:Ann:=[(0,[0]),(1,[2])]
def KY.body:DC:=.seq (qR KY.r0 [0]) (.seq (qR KY.r1 [2]) .ret)
def KY.df:DF:=⟨15,[.tmp 2],KY.body⟩
theorem KY.ok:cf Zuv KY.an KY.id=some KY.df:=by kernel_rfl
def K9.r0:=[qb 2 false]
def K9.r1:List DOp:=[qm 3 0,⟨some 4,none,.q (.bin .geq (none)) [.tmp 3,.cst (.int .u8 65)]⟩,qm 5 4,qy 5 (qm 6 0),qy 5 ⟨some 7,none,.q (.bin .leq (none)) [.tmp 6,.cst (.int .u8 90)]⟩,qO 8 5 7,qm 9 8,qn 9 (qm 10 0),qn 9 ⟨some 11,none,.q (.bin .geq (none)) [.tmp 10,.cst (.int .u8 97)]⟩,qn 9 (qm 12 11),qy 12 (qm 13 0),qy 12 ⟨some 14,none,.q (.bin .leq (none)) [.tmp 13,.cst (.int .u8 122)]⟩,qn 9 (qO 15 12 14),qo 16 9 15,qm 2 16]
abbrev K9.id:Nat:=94
def K9.an:Ann:=[(0,[0]),(1,[2])]
def K9.body:DC:=.seq (qR K9.r0 [0]) (.seq (qR K9.r1 [2]) .ret)
def K9.df:DF:=⟨17,[.tmp 2],K9.body⟩
theorem K9.ok:cf Zuv K9.an K9.id=some K9.df:=by kernel_rfl
def Qr.r0:=[qb 2 false]
def Qr.r1:List DOp:=[qm 3 0,⟨some 4,none,.q (.bin .geq (none)) [.tmp 3,.cst (.int .u8 48)]⟩,qm 5 4,qy 5 (qm 6 0),qy 5 ⟨some 7,none,.q (.bin .leq (none)) [.tmp 6,.cst (.int .u8 57)]⟩,qO 8 5 7,qm 2 8]
abbrev Qr.id:Nat:=95
def Qr.an:Ann:=[(0,[0]),(1,[2])]
def Qr.body:DC:=.seq (qR Qr.r0 [0]) (.seq (qR Qr.r1 [2]) .ret)
def Qr.df:DF:=⟨9,[.tmp 2],Qr.body⟩
theorem Qr.ok:cf Zuv Qr.an Qr.id=some Qr.df:=by kernel_rfl
def QK.r0:=[qb 2 false]
def QK.r1:=[qm 3 0,qf 4 115 [.tmp 3,.cst (.bool false)],qk 5 .not 4,qm 2 5]
abbrev QK.id:Nat:=96
def QK.an:Ann:=[(0,[0]),(1,[2])]
def QK.body:DC:=.seq (qR QK.r0 [0]) (.seq (qR QK.r1 [2]) .ret)
def QK.df:DF:=⟨6,[.tmp 2],QK.body⟩
theorem QK.ok:cf Zuv QK.an QK.id=some QK.df:=by kernel_rfl
def Yw.r0:=[qb 4 false]
def Yw.r1:=[qm 5 0,qm 6 1,qf 7 116 [.tmp 5,.tmp 6],qe 8 .geq 7 0,qm 4 8]
abbrev Yw.id:Nat:=97
def Yw.an:Ann:=[(0,[0,1]),(1,[4])]
def Yw.body:DC:=.seq (qR Yw.r0 [0,1]) (.seq (qR Yw.r1 [4]) .ret)
def Yw.df:DF:=⟨9,[.tmp 4],Yw.body⟩
theorem Yw.ok:cf Zuv Yw.an Yw.id=some Yw.df:=by kernel_rfl
def ZA.r0:=[qB 3 1]
def ZA.r1:=[qm 8 0,qa 9 0 3,ql 10 9,qf 11 57 [.tmp 10],qf 12 56 [.tmp 8,.tmp 11,.cst (.int .i64 1)]]
def ZA.r2:List (DOp × Bool):=[(qm 14 0,false),(qa 17 0 3,false),(ql 18 17,false),(qf 15 118 [.tmp 14],true),(⟨some 16,none,.q (.build [.str [],.nilsl] [(1,1)]) [.tmp 15]⟩,false),(qf 19 117 [.tmp 16,.tmp 18],false),(qm 13 19,false),(qx 20 0 13,false),(qx 21 1 13,false),(qm 4 20,false),(qm 5 21,false)]
def ZA.r3:=[qm 22 0,qm 23 5,qk 24 .not 23,qf 25 56 [.tmp 22,.tmp 24,.cst (.int .i64 2)]]
def ZA.r4:List (DOp × Bool):=[(qa 28 1 3,false),(ql 29 28,false),(⟨some 6,none,.alloc [.nilfn,.nilfn]⟩,false),(qf 27 119 [],true),(⟨some 30,none,.q (.lookup (.sc .int) (.agg [.nilfn,.nilfn]) true) [.tmp 27,.tmp 29]⟩,false),(qm 26 30,false),(qx 31 0 26,false),(qx 32 1 26,false),(qS 2 6 31,false),(qm 5 32,false)]
def ZA.r5:=[qm 33 0,qm 34 5,qf 35 56 [.tmp 33,.tmp 34,.cst (.int .i64 4)]]
def ZA.r6:List DOp:=[qL 36 15 3,⟨some 7,none,.alloc [.str [],.int .i64 0,.int .i64 0,.bool false,.bool false,.int .i64 0,.int .i64 0,.int .i64 0,.nilsl,.str [],.str [],.str [],.nilsl,.int .i64 0,.int .i64 0]⟩,qS 15 7 36]
def ZA.r7:List DOp:=[qa 37 0 6,ql 38 37,⟨some 39,none,.call (.tmp 38) [.tmp 7]⟩]
def ZA.r8:List DOp:=[qm 40 0,qL 41 15 7,qa 42 0 3,ql 43 42,qa 44 1 3,ql 45 44,⟨some 46,none,.q (.build [.str [],.int .i64 0,.int .i64 0,.bool false,.bool false,.int .i64 0,.int .i64 0,.int .i64 0,.nilsl,.str [],.str [],.str [],.nilsl,.int .i64 0,.int .i64 0] [(0,1),(1,1)]) [.tmp 43,.tmp 45]⟩,qf 47 120 [.tmp 41,.tmp 46],qf 48 56 [.tmp 40,.tmp 47,.cst (.int .i64 5)]]
def ZA.r9:List DOp:=[qa 49 1 6,ql 50 49,qm 51 0,qL 52 15 3,⟨some 53,none,.call (.tmp 50) [.tmp 51,.tmp 52]⟩]
abbrev ZA.id:Nat:=98
def ZA.an:Ann:=[(0,[0,3]),(1,[0,3]),(2,[0,3,5]),(3,[0,3]),(4,[0,3,5,6]),(5,[0,3,6]),(6,[0,3,6,7]),(7,[0,3,6,7]),(8,[0,3,6]),(9,[]),(1000002,[0,3,4,1,2,5,6,7,8,9,10]),(1000004,[1,2,7,0,3,4,5,6,8,9]),(2000002,[1]),(2000004,[0])]
def ZA.body:DC:=.seq (qR ZA.r0 [0,3]) (.seq (qR ZA.r1 [0,3]) (.seq (.regD [0,3,4,1,2,5,6,7,8,9,10] ZA.r2 (some [0,3,5])) (.seq (qR ZA.r3 [0,3]) (.seq (.regD [1,2,7,0,3,4,5,6,8,9] ZA.r4 (some [0,3,5,6])) (.seq (qR ZA.r5 [0,3,6]) (.seq (qR ZA.r6 [0,3,6,7]) (.seq (qR ZA.r7 [0,3,6,7]) (.seq (qR ZA.r8 [0,3,6]) (qR ZA.r9 [])))))))))
def ZA.df:DF:=⟨54,[],ZA.body⟩
theorem ZA.ok:cf Zuv ZA.an ZA.id=some ZA.df:=by kernel_rfl
def Zr.r0:List DOp:=[qB 1 0,⟨some 2,none,.q .mv [.cst (.nilfn)]⟩]
def Zr.r1:List DOp:=[⟨some 3,none,.alloc [.nilsl]⟩]
def Zr.r2:=[qa 8 1 1,ql 9 8,qk 10 .lenL 9,qi 11 0]
def Zr.r3:=[qd 12 .lss 11 10]
def Zr.r4:List DOp:=[qX 13 15 9 11,qL 14 15 13,⟨some 5,none,.alloc [.str [],.int .i64 0,.int .i64 0,.bool false,.bool false,.int .i64 0,.int .i64 0,.int .i64 0,.nilsl,.str [],.str [],.str [],.nilsl,.int .i64 0,.int .i64 0]⟩,qS 15 5 14]
def Zr.r5:=[qa 15 1 5,ql 16 15]
def Zr.r6:=[qe 18 .eql 16 7,qm 17 18]
def Zr.r7:=[qe 19 .eql 16 8,qm 17 19]
def Zr.r8:=[qe 20 .eql 16 12,qm 17 20]
def Zr.r9:List DOp:=[ql 21 3,qa 22 9 5,ql 23 22,⟨some 24,none,.bsl 1 1 [.str []] [0] [.tmp 23]⟩,⟨some 25,none,.append 9 1 16 [.str []] (.tmp 21) (.tmp 24)⟩,qs 3 25]
def Zr.r10:=[qe 27 .eql 16 9,qm 26 27]
def Zr.r11:=[qa 28 12 5,ql 29 28,qk 30 .lenL 29,qi 31 0]
def Zr.r12:=[qd 32 .lss 31 30]
def Zr.r13:List DOp:=[qX 33 3 29 31,qL 34 3 33,⟨some 7,none,.alloc [.int .i64 0,.int .i64 0,.str []]⟩,qS 3 7 34]
def Zr.r14:List DOp:=[ql 35 3,qa 36 2 7,ql 37 36,⟨some 38,none,.bsl 1 1 [.str []] [0] [.tmp 37]⟩,⟨some 39,none,.append 9 1 16 [.str []] (.tmp 35) (.tmp 38)⟩,qs 3 39]
def Zr.r15:=[qe 40 .add 31 1,qm 31 40]
def Zr.l1:DC:=.seq (qR Zr.r12 [3,9,10,11,29,30,31,32]) (.seq (qC 32 .skip (.exit 3)) (.seq (.block 4 (.seq (qR Zr.r13 [3,7,9,10,11,29,30,31]) (qR Zr.r14 [3,9,10,11,29,30,31]))) (qR Zr.r15 [3,9,10,11,29,30,31])))
def Zr.r16:=[qe 41 .add 11 1,qm 11 41]
def Zr.l0:DC:=.seq (qR Zr.r3 [3,9,10,11,12]) (.seq (qC 12 .skip (.exit 0)) (.seq (.block 1 (.seq (qR Zr.r4 [3,5,9,10,11]) (.seq (qR Zr.r5 [3,5,9,10,11,16]) (.block 2 (.seq (.seq (qR Zr.r6 [3,5,9,10,11,16,17]) (qC 17 .skip (.seq (qR Zr.r7 [3,5,9,10,11,16,17]) (qC 17 .skip (qR Zr.r8 [3,5,9,10,11,16,17]))))) (qC 17 (qR Zr.r9 [3,9,10,11]) (.seq (qR Zr.r10 [3,5,9,10,11,26]) (qC 26 (.seq (qR Zr.r11 [3,9,10,11,29,30,31]) (.block 3 (.loop Zr.l1))) .skip)))))))) (qR Zr.r16 [3,9,10,11])))
def Zr.r17:List DOp:=[⟨some 42,none,.q (.mkfn (.func 121) 0) [.tmp 3]⟩,qm 2 42]
abbrev Zr.id:Nat:=99
def Zr.an:Ann:=[(0,[1]),(1,[1,3]),(2,[3,9,10,11]),(3,[3,9,10,11,12]),(4,[3,5,9,10,11]),(5,[3,5,9,10,11,16]),(6,[3,5,9,10,11,16,17]),(7,[3,5,9,10,11,16,17]),(8,[3,5,9,10,11,16,17]),(9,[3,9,10,11]),(10,[3,5,9,10,11,26]),(11,[3,9,10,11,29,30,31]),(12,[3,9,10,11,29,30,31,32]),(13,[3,7,9,10,11,29,30,31]),(14,[3,9,10,11,29,30,31]),(15,[3,9,10,11,29,30,31]),(16,[3,9,10,11]),(17,[2])]
def Zr.body:DC:=.seq (qR Zr.r0 [1]) (.seq (qR Zr.r1 [1,3]) (.seq (.seq (qR Zr.r2 [3,9,10,11]) (.block 0 (.loop Zr.l0))) (.seq (qR Zr.r17 [2]) .ret)))
def Zr.df:DF:=⟨43,[.tmp 2],Zr.body⟩
theorem Zr.ok:cf Zuv Zr.an Zr.id=some Zr.df:=by kernel_rfl
def Zx.r0:=[qi 4 0]
def Zx.r1:=[qm 6 0,qk 7 .lenL 6,qi 8 0]
def Zx.r2:=[qd 9 .lss 8 7]
def Zx.r3:=[qm 10 8,qm 5 10]
def Zx.r4:List DOp:=[qm 11 1,qm 12 0,qm 13 5,qX 14 2 12 13,qL 15 2 14,⟨some 16,none,.call (.tmp 11) [.tmp 15]⟩]
def Zx.r5:=[qm 17 5,qm 4 17]
def Zx.r6:=[qe 18 .add 8 1,qm 8 18]
def Zx.l0:DC:=.seq (qR Zx.r2 [0,1,7,8,9]) (.seq (qC 9 .skip (.exit 0)) (.seq (.block 1 (.seq (qR Zx.r3 [0,1,5,7,8]) (.seq (qR Zx.r4 [0,1,5,7,8,16]) (qC 16 (.seq (qR Zx.r5 [4]) .ret) .skip)))) (qR Zx.r6 [0,1,7,8])))
def Zx.r7:=[qi 4 (-1)]
abbrev Zx.id:Nat:=100
def Zx.an:Ann:=[(0,[0,1]),(1,[0,1,7,8]),(2,[0,1,7,8,9]),(3,[0,1,5,7,8]),(4,[0,1,5,7,8,16]),(5,[4]),(6,[0,1,7,8]),(7,[4])]
def Zx.body:DC:=.seq (qR Zx.r0 [0,1]) (.seq (.seq (qR Zx.r1 [0,1,7,8]) (.block 0 (.loop Zx.l0))) (.seq (qR Zx.r7 [4]) .ret))
def Zx.df:DF:=⟨19,[.tmp 4],Zx.body⟩
theorem Zx.ok:cf Zuv Zx.an Zx.id=some Zx.df:=by kernel_rfl
def K8.r0:List DOp:=[qB 1 0,⟨some 2,none,.alloc [.int .i64 0,.nilsl]⟩,qi 3 0]
def K8.r1:List DOp:=[qL 4 2 1,⟨some 5,none,.q (.build [.int .i64 0,.nilsl] []) []⟩,qf 6 125 [.tmp 4,.tmp 5],qx 7 0 6,qx 8 1 6,qS 2 2 7,qm 3 8]
abbrev K8.id:Nat:=103
def K8.an:Ann:=[(0,[1,2]),(1,[2,3])]
def K8.body:DC:=.seq (qR K8.r0 [1,2]) (.seq (qR K8.r1 [2,3]) .ret)
def K8.df:DF:=⟨9,[.cellN 2 2,.tmp 3],K8.body⟩
theorem K8.ok:cf Zuv K8.an K8.id=some K8.df:=by kernel_rfl
def Yc.r0:=[qi 2 0]
def Yc.r1:=[qi 3 0]
def Yc.r2:=[qm 6 0,qk 7 .lenL 6,qi 8 0]
def Yc.r3:=[qd 9 .lss 8 7]
def Yc.r4:=[qX 10 1 6 8,ql 11 10,qm 5 11]
def Yc.r5:=[qm 12 5,qm 13 3,qd 14 .neq 12 13]
def Yc.r6:=[qm 15 5,qm 2 15]
def Yc.r7:=[qe 16 .add 8 1,qm 8 16]
def Yc.l0:DC:=.seq (qR Yc.r3 [3,6,7,8,9]) (.seq (qC 9 .skip (.exit 0)) (.seq (.block 1 (.seq (qR Yc.r4 [3,5,6,7,8]) (.seq (qR Yc.r5 [3,5,6,7,8,14]) (qC 14 (.seq (qR Yc.r6 [2]) .ret) .skip)))) (qR Yc.r7 [3,6,7,8])))
def Yc.r8:=[qm 17 3,qm 2 17]
abbrev Yc.id:Nat:=104
def Yc.an:Ann:=[(0,[0]),(1,[0,3]),(2,[3,6,7,8]),(3,[3,6,7,8,9]),(4,[3,5,6,7,8]),(5,[3,5,6,7,8,14]),(6,[2]),(7,[3,6,7,8]),(8,[2])]
def Yc.body:DC:=.seq (qR Yc.r0 [0]) (.seq (qR Yc.r1 [0,3]) (.seq (.seq (qR Yc.r2 [3,6,7,8]) (.block 0 (.loop Yc.l0))) (.seq (qR Yc.r8 [2]) .ret)))
def Yc.df:DF:=⟨18,[.tmp 2],Yc.body⟩
theorem Yc.ok:cf Zuv Yc.an Yc.id=some Yc.df:=by kernel_rfl
def ZJ.r0:=[qb 4 false]
def ZJ.r1:=[qm 6 0,qk 7 .lenL 6,qm 8 1,qk 9 .lenL 8,qd 10 .neq 7 9]
def ZJ.r2:=[qb 4 false]
def ZJ.r3:=[qm 11 0,qk 12 .lenL 11,qi 13 0]
def ZJ.r4:=[qd 14 .lss 13 12]
def ZJ.r5:=[qm 15 13,qm 5 15]
def ZJ.r6:List DOp:=[qm 16 0,qm 17 5,qX 18 2 16 17,qL 19 2 18,qm 20 1,qm 21 5,qX 22 2 20 21,qL 23 2 22,⟨some 24,none,.q (.bin .neq (some (.cells [(0,.str),(1,.int)]))) [.tmp 19,.tmp 23]⟩]
def ZJ.r7:=[qb 4 false]
def ZJ.r8:=[qe 25 .add 13 1,qm 13 25]
def ZJ.l0:DC:=.seq (qR ZJ.r4 [0,1,12,13,14]) (.seq (qC 14 .skip (.exit 0)) (.seq (.block 1 (.seq (qR ZJ.r5 [0,1,5,12,13]) (.seq (.regD [0,1,2,3,4,5,6,7,8] (Jb ZJ.r6) (some [0,1,12,13,24])) (qC 24 (.seq (qR ZJ.r7 [4]) .ret) .skip)))) (qR ZJ.r8 [0,1,12,13])))
def ZJ.r9:=[qb 4 true]
abbrev ZJ.id:Nat:=105
def ZJ.an:Ann:=[(0,[0,1]),(1,[0,1,10]),(2,[4]),(3,[0,1,12,13]),(4,[0,1,12,13,14]),(5,[0,1,5,12,13]),(6,[0,1,12,13,24]),(7,[4]),(8,[0,1,12,13]),(9,[4]),(1000006,[0,1,2,3,4,5,6,7,8])]
def ZJ.body:DC:=.seq (qR ZJ.r0 [0,1]) (.seq (.seq (qR ZJ.r1 [0,1,10]) (qC 10 (.seq (qR ZJ.r2 [4]) .ret) .skip)) (.seq (.seq (qR ZJ.r3 [0,1,12,13]) (.block 0 (.loop ZJ.l0))) (.seq (qR ZJ.r9 [4]) .ret)))
def ZJ.df:DF:=⟨26,[.tmp 4],ZJ.body⟩
theorem ZJ.ok:cf Zuv ZJ.an ZJ.id=some ZJ.df:=by kernel_rfl
def K6.r0:=[qB 2 0,qB 3 1,qi 4 0,qb 5 false]
def K6.r1:List DOp:=[qa 6 12 2,ql 7 6,⟨some 8,none,.q (.mkfn (.func 127) 0) [.tmp 3]⟩,qf 9 126 [.tmp 7,.tmp 8],qx 10 0 9,qx 11 1 9,qm 4 10,qm 5 11]
abbrev K6.id:Nat:=106
def K6.an:Ann:=[(0,[2,3]),(1,[4,5])]
def K6.body:DC:=.seq (qR K6.r0 [2,3]) (.seq (qR K6.r1 [4,5]) .ret)
def K6.df:DF:=⟨12,[.tmp 4,.tmp 5],K6.body⟩
theorem K6.ok:cf Zuv K6.an K6.id=some K6.df:=by kernel_rfl
def Ws.r0:=[qB 1 0,qb 2 false]
def Ws.r1:List DOp:=[qa 3 0 1,ql 4 3,qe 5 .geq 4 0,qa 6 0 1,ql 7 6,qa 8 1 1,ql 9 8,qd 10 .leq 7 9,qa 11 1 1,ql 12 11,qe 13 .lss 12 34359738368,⟨some 14,none,.bsl 3 1 [.bool false] [0,1,2] [.tmp 5,.tmp 10,.tmp 13]⟩,qf 15 96 [.tmp 14],qm 2 15]
abbrev Ws.id:Nat:=107
def Ws.an:Ann:=[(0,[1]),(1,[2])]
def Ws.body:DC:=.seq (qR Ws.r0 [1]) (.seq (qR Ws.r1 [2]) .ret)
def Ws.df:DF:=⟨16,[.tmp 2],Ws.body⟩
theorem Ws.ok:cf Zuv Ws.an Ws.id=some Ws.df:=by kernel_rfl
def Zq.r0:List DOp:=[qB 4 0,qB 5 1,qB 6 2,qB 7 3,⟨some 8,none,.alloc [.int .i64 0]⟩]
def Zq.r1:=[qL 13 2 4,qf 14 128 [.tmp 13],qk 15 .not 14]
def Zq.r2:List DOp:=[⟨none,none,.store1 (.tmp 8) (.cst (.int .i64 2))⟩]
def Zq.r3:List DOp:=[⟨some 9,none,.alloc [.bool false]⟩,⟨none,none,.store1 (.tmp 9) (.cst (.bool false))⟩]
def Zq.r4:=[qL 16 2 4,qf 17 129 [.tmp 16]]
def Zq.r5:=[qm 10 18]
def Zq.r6:List DOp:=[ql 20 6,qm 21 10,⟨some 22,none,.q (.lookup (.sc .str) (.agg [.int .i64 0,.int .i64 0]) true) [.tmp 20,.tmp 21]⟩,qm 19 22,qx 23 0 19,qx 24 1 19,⟨some 11,none,.alloc [.int .i64 0,.int .i64 0]⟩,qS 2 11 23,qm 12 24]
def Zq.r7:=[qm 26 10,ql 27 5,qd 28 .eql 26 27,qm 25 28]
def Zq.r8:=[qm 30 12,qk 31 .not 30,qm 29 31]
def Zq.r9:List DOp:=[⟨none,none,.store1 (.tmp 9) (.cst (.bool true))⟩]
def Zq.r10:List DOp:=[ql 33 7,qL 34 2 11,⟨some 35,none,.call (.tmp 33) [.tmp 34]⟩,qk 36 .not 35,qm 32 36]
def Zq.r11:List DOp:=[⟨none,none,.store1 (.tmp 8) (.cst (.int .i64 2))⟩]
def Zq.a0:DC:=qR Zq.r5 [5,6,7,8,9,10,18]
def Zq.b0:DC:=.block 1 (.seq (qR Zq.r6 [5,6,7,8,9,10,11,12,18]) (.block 2 (.seq (qR Zq.r7 [5,6,7,8,9,11,12,18,25]) (qC 25 .skip (.seq (qR Zq.r8 [5,6,7,8,9,11,18,29]) (qC 29 (qR Zq.r9 [5,6,7,8,9,18]) (.seq (qR Zq.r10 [5,6,7,8,9,18,32]) (qC 32 (.seq (qR Zq.r11 [8]) .ret) .skip))))))))
def Zq.r12:=[ql 37 9]
def Zq.r13:List DOp:=[⟨none,none,.store1 (.tmp 8) (.cst (.int .i64 9))⟩]
def Zq.r14:List DOp:=[⟨none,none,.store1 (.tmp 8) (.cst (.int .i64 0))⟩]
abbrev Zq.id:Nat:=108
def Zq.an:Ann:=[(0,[4,5,6,7,8,18]),(1,[4,5,6,7,8,15,18]),(2,[8]),(3,[4,5,6,7,8,9,18]),(4,[5,6,7,8,9,17,18]),(5,[5,6,7,8,9,10,18]),(6,[5,6,7,8,9,10,11,12,18]),(7,[5,6,7,8,9,11,12,18,25]),(8,[5,6,7,8,9,11,18,29]),(9,[5,6,7,8,9,18]),(10,[5,6,7,8,9,18,32]),(11,[8]),(12,[8,37]),(13,[8]),(14,[8])]
def Zq.body:DC:=.seq (qR Zq.r0 [4,5,6,7,8,18]) (.seq (.seq (qR Zq.r1 [4,5,6,7,8,15,18]) (qC 15 (.seq (qR Zq.r2 [8]) .ret) .skip)) (.seq (qR Zq.r3 [4,5,6,7,8,9,18]) (.seq (.seq (qR Zq.r4 [5,6,7,8,9,17,18]) (.block 0 (.rangeF (.tmp 17) [18] Zq.a0 Zq.b0))) (.seq (.seq (qR Zq.r12 [8,37]) (qC 37 (.seq (qR Zq.r13 [8]) .ret) .skip)) (.seq (qR Zq.r14 [8]) .ret)))))
def Zq.df:DF:=⟨38,[.cell1 8],Zq.body⟩
theorem Zq.ok:cf Zuv Zq.an Zq.id=some Zq.df:=by kernel_rfl
def W2.r0:=[qB 3 0,qi 4 0]
def W2.r1:List DOp:=[qL 5 2 1,⟨some 6,none,.q (.mkfn (.func 111) 0) [.tmp 2,.tmp 3]⟩,qf 7 110 [.tmp 5,.tmp 6],qm 4 7]
abbrev W2.id:Nat:=109
def W2.an:Ann:=[(0,[1,2,3]),(1,[4])]
def W2.body:DC:=.seq (qR W2.r0 [1,2,3]) (.seq (qR W2.r1 [4]) .ret)
def W2.df:DF:=⟨8,[.tmp 4],W2.body⟩
theorem W2.ok:cf Zuv W2.an W2.id=some W2.df:=by kernel_rfl
def Yt.r0:=[qB 2 0,qi 4 0]
def Yt.r1:=[qa 8 0 2,ql 9 8,qm 5 9]
def Yt.r2:=[qa 10 1 2,ql 11 10,qk 12 .lenL 11,qi 13 0]
def Yt.r3:=[qd 14 .lss 13 12]
def Yt.r4:List DOp:=[qX 15 2 11 13,qL 16 2 15,⟨some 7,none,.alloc [.str [],.int .i64 0]⟩,qS 2 7 16]
def Yt.r5:List (DOp × Bool):=[(qm 17 5,false),(qa 18 1 7,false),(ql 19 18,false),(qm 20 1,false),(qL 21 2 7,false),(⟨some 22,none,.call (.tmp 20) [.tmp 21]⟩,true),(qd 23 .mul 19 22,false),(qd 24 .add 17 23,false),(qm 5 24,false)]
def Yt.r6:=[qe 25 .add 13 1,qm 13 25]
def Yt.l0:DC:=.seq (qR Yt.r3 [1,5,11,12,13,14]) (.seq (qC 14 .skip (.exit 0)) (.seq (.block 1 (.seq (qR Yt.r4 [1,5,7,11,12,13]) (.regD [0,1,2,3,4,5,6,7,8] Yt.r5 (some [1,5,11,12,13])))) (qR Yt.r6 [1,5,11,12,13])))
def Yt.r7:=[qm 26 5,qm 4 26]
abbrev Yt.id:Nat:=110
def Yt.an:Ann:=[(0,[1,2]),(1,[1,2,5]),(2,[1,5,11,12,13]),(3,[1,5,11,12,13,14]),(4,[1,5,7,11,12,13]),(5,[1,5,11,12,13]),(6,[1,5,11,12,13]),(7,[4]),(1000005,[0,1,2,3,4,5,6,7,8]),(2000005,[5])]
def Yt.body:DC:=.seq (qR Yt.r0 [1,2]) (.seq (qR Yt.r1 [1,2,5]) (.seq (.seq (qR Yt.r2 [1,5,11,12,13]) (.block 0 (.loop Yt.l0))) (.seq (qR Yt.r7 [4]) .ret)))
def Yt.df:DF:=⟨27,[.tmp 4],Yt.body⟩
theorem Yt.ok:cf Zuv Yt.an Yt.id=some Yt.df:=by kernel_rfl
def Yr.r0:=[qB 3 0,qi 4 0]
def Yr.r1:List DOp:=[ql 6 1,qa 7 0 3,ql 8 7,⟨some 9,none,.q (.lookup (.sc .str) (.agg [.int .i64 0,.int .i64 0]) false) [.tmp 6,.tmp 8]⟩,⟨some 5,none,.alloc [.int .i64 0,.int .i64 0]⟩,qS 2 5 9]
def Yr.r2:List DOp:=[ql 10 2,qa 11 1 3,ql 12 11,qe 13 .gtr 12 0,⟨some 14,none,.q (.bin .eql (some .bool)) [.tmp 10,.tmp 13]⟩]
def Yr.r3:=[qa 15 0 5,ql 16 15,qm 4 16]
def Yr.r4:List DOp:=[ql 17 1,qa 18 0 3,ql 19 18,⟨some 20,none,.q (.lookup (.sc .str) (.agg [.int .i64 0,.int .i64 0]) false) [.tmp 17,.tmp 19]⟩,qk 21 (.fld1 1) 20,qm 4 21]
abbrev Yr.id:Nat:=111
def Yr.an:Ann:=[(0,[1,2,3]),(1,[1,2,3,5]),(2,[1,3,5,14]),(3,[4]),(4,[4])]
def Yr.body:DC:=.seq (qR Yr.r0 [1,2,3]) (.seq (.seq (qR Yr.r1 [1,2,3,5]) (.seq (qR Yr.r2 [1,3,5,14]) (qC 14 (.seq (qR Yr.r3 [4]) .ret) .skip))) (.seq (qR Yr.r4 [4]) .ret))
def Yr.df:DF:=⟨22,[.tmp 4],Yr.body⟩
theorem Yr.ok:cf Zuv Yr.an Yr.id=some Yr.df:=by kernel_rfl
def ZZ.r0:List DOp:=[⟨some 2,none,.q .mv [.cst (.nilmap)]⟩]
def ZZ.r1:List DOp:=[⟨some 8,none,.mkmap⟩,qm 3 8]
def ZZ.r2:=[qm 9 0,qk 10 .lenL 9,qi 11 0]
def ZZ.r3:=[qd 12 .lss 11 10]
def ZZ.r4:List DOp:=[qX 13 15 9 11,qL 14 15 13,⟨some 5,none,.alloc [.str [],.int .i64 0,.int .i64 0,.bool false,.bool false,.int .i64 0,.int .i64 0,.int .i64 0,.nilsl,.str [],.str [],.str [],.nilsl,.int .i64 0,.int .i64 0]⟩,qS 15 5 14]
def ZZ.r5:List DOp:=[qL 16 15 5,qf 17 130 [.tmp 16],qm 15 17,qx 18 0 15,qx 19 1 15,⟨some 6,none,.alloc [.int .i64 0,.int .i64 0]⟩,qS 2 6 18,qm 7 19]
def ZZ.r6:=[qm 20 7,qe 21 .eql 20 0]
def ZZ.r7:List DOp:=[qm 22 3,qa 23 0 5,ql 24 23,qL 25 2 6,⟨none,none,.mapupd (.sc .str) (.tmp 22) (.tmp 24) (.tmp 25)⟩]
def ZZ.r8:=[qe 26 .add 11 1,qm 11 26]
def ZZ.l0:DC:=.seq (qR ZZ.r3 [3,9,10,11,12]) (.seq (qC 12 .skip (.exit 0)) (.seq (.block 1 (.seq (qR ZZ.r4 [3,5,9,10,11]) (.seq (qR ZZ.r5 [3,5,6,7,9,10,11]) (.seq (qR ZZ.r6 [3,5,6,9,10,11,21]) (qC 21 (qR ZZ.r7 [3,9,10,11]) .skip))))) (qR ZZ.r8 [3,9,10,11])))
def ZZ.r9:=[qm 27 3,qm 2 27]
abbrev ZZ.id:Nat:=112
def ZZ.an:Ann:=[(0,[0]),(1,[0,3]),(2,[3,9,10,11]),(3,[3,9,10,11,12]),(4,[3,5,9,10,11]),(5,[3,5,6,7,9,10,11]),(6,[3,5,6,9,10,11,21]),(7,[3,9,10,11]),(8,[3,9,10,11]),(9,[2])]
def ZZ.body:DC:=.seq (qR ZZ.r0 [0]) (.seq (qR ZZ.r1 [0,3]) (.seq (.seq (qR ZZ.r2 [3,9,10,11]) (.block 0 (.loop ZZ.l0))) (.seq (qR ZZ.r9 [2]) .ret)))
def ZZ.df:DF:=⟨28,[.tmp 2],ZZ.body⟩
theorem ZZ.ok:cf Zuv ZZ.an ZZ.id=some ZZ.df:=by kernel_rfl
def QH.r0:=[qb 2 false]
def QH.r1:List DOp:=[qm 3 0,⟨some 4,none,.q (.bin .geq (none)) [.tmp 3,.cst (.int .i64 (-1048576))]⟩,qm 5 4,qy 5 (qm 6 0),qy 5 (qe 7 .leq 6 1048576),qO 8 5 7,qm 2 8]
abbrev QH.id:Nat:=113
def QH.an:Ann:=[(0,[0]),(1,[2])]
def QH.body:DC:=.seq (qR QH.r0 [0]) (.seq (qR QH.r1 [2]) .ret)
def QH.df:DF:=⟨9,[.tmp 2],QH.body⟩
theorem QH.ok:cf Zuv QH.an QH.id=some QH.df:=by kernel_rfl
def Yb.r0:=[qi 4 0]
def Yb.r1:=[qi 5 (-1)]
def Yb.r2:=[qi 6 0]
def Yb.r3:=[qm 7 6,qm 8 0,qk 9 .lenL 8,qd 10 .lss 7 9]
def Yb.r5:=[qm 13 0,qm 14 6,qX 15 3 13 14,qa 16 0 15,ql 17 16,qm 18 1,qd 19 .eql 17 18]
def Yb.r6:=[qm 20 6,qm 5 20]
def Yb.r4:=[qm 11 6,qe 12 .add 11 1,qm 6 12]
def Yb.l0:DC:=.seq (.seq (qR Yb.r3 [0,1,5,6,10]) (qC 10 .skip (.exit 0))) (.seq (.block 1 (.seq (qR Yb.r5 [0,1,5,6,19]) (qC 19 (qR Yb.r6 [0,1,5,6]) .skip))) (qR Yb.r4 [0,1,5,6]))
def Yb.r7:=[qm 21 5,qm 4 21]
abbrev Yb.id:Nat:=114
def Yb.an:Ann:=[(0,[0,1]),(1,[0,1,5]),(2,[0,1,5,6]),(3,[0,1,5,6,10]),(4,[0,1,5,6]),(5,[0,1,5,6,19]),(6,[0,1,5,6]),(7,[4])]
def Yb.body:DC:=.seq (qR Yb.r0 [0,1]) (.seq (qR Yb.r1 [0,1,5]) (.seq (.seq (qR Yb.r2 [0,1,5,6]) (.block 0 (.loop Yb.l0))) (.seq (qR Yb.r7 [4]) .ret)))
def Yb.df:DF:=⟨22,[.tmp 4],Yb.body⟩
theorem Yb.ok:cf Zuv Yb.an Yb.id=some Yb.df:=by kernel_rfl
def Wd.r0:=[qb 4 false]
def Wd.r1:=[qm 5 0,qm 6 1,qf 7 131 [.tmp 5,.tmp 6],qe 8 .geq 7 0,qm 4 8]
abbrev Wd.id:Nat:=115
def Wd.an:Ann:=[(0,[0,1]),(1,[4])]
def Wd.body:DC:=.seq (qR Wd.r0 [0,1]) (.seq (qR Wd.r1 [4]) .ret)
def Wd.df:DF:=⟨9,[.tmp 4],Wd.body⟩
theorem Wd.ok:cf Zuv Wd.an Wd.id=some Wd.df:=by kernel_rfl
def ZG.r0:=[qi 4 0]
def ZG.r1:=[qm 6 0,qk 7 .lenL 6,qi 8 0]
def ZG.r2:=[qd 9 .lss 8 7]
def ZG.r3:=[qm 10 8,qm 5 10]
def ZG.r4:List DOp:=[qm 11 1,qm 12 0,qm 13 5,qX 14 1 12 13,ql 15 14,⟨some 16,none,.call (.tmp 11) [.tmp 15]⟩]
def ZG.r5:=[qm 17 5,qm 4 17]
def ZG.r6:=[qe 18 .add 8 1,qm 8 18]
def ZG.l0:DC:=.seq (qR ZG.r2 [0,1,7,8,9]) (.seq (qC 9 .skip (.exit 0)) (.seq (.block 1 (.seq (qR ZG.r3 [0,1,5,7,8]) (.seq (qR ZG.r4 [0,1,5,7,8,16]) (qC 16 (.seq (qR ZG.r5 [4]) .ret) .skip)))) (qR ZG.r6 [0,1,7,8])))
def ZG.r7:=[qi 4 (-1)]
abbrev ZG.id:Nat:=116
def ZG.an:Ann:=[(0,[0,1]),(1,[0,1,7,8]),(2,[0,1,7,8,9]),(3,[0,1,5,7,8]),(4,[0,1,5,7,8,16]),(5,[4]),(6,[0,1,7,8]),(7,[4])]
def ZG.body:DC:=.seq (qR ZG.r0 [0,1]) (.seq (.seq (qR ZG.r1 [0,1,7,8]) (.block 0 (.loop ZG.l0))) (.seq (qR ZG.r7 [4]) .ret))
def ZG.df:DF:=⟨19,[.tmp 4],ZG.body⟩
theorem ZG.ok:cf Zuv ZG.an ZG.id=some ZG.df:=by kernel_rfl
def KM.r0:=[qB 2 0,qB 3 1,qi 4 0,qb 5 false]
def KM.r1:List DOp:=[qa 6 1 2,ql 7 6,⟨some 8,none,.q (.mkfn (.func 133) 0) [.tmp 3]⟩,qf 9 132 [.tmp 7,.tmp 8],qx 10 0 9,qx 11 1 9,qm 4 10,qm 5 11]
abbrev KM.id:Nat:=117
def KM.an:Ann:=[(0,[2,3]),(1,[4,5])]
def KM.body:DC:=.seq (qR KM.r0 [2,3]) (.seq (qR KM.r1 [4,5]) .ret)
def KM.df:DF:=⟨12,[.tmp 4,.tmp 5],KM.body⟩
theorem KM.ok:cf Zuv KM.an KM.id=some KM.df:=by kernel_rfl
def Y1.r0:List DOp:=[⟨some 2,none,.q .mv [.cst (.nilsl)]⟩]
def Y1.r1:List DOp:=[qm 3 0,qk 4 .nilck 3,qa 5 7 4,qa 6 1 5,ql 7 6,qm 8 0,qk 9 .nilck 8,qa 10 6 9,ql 11 10,⟨some 12,none,.q (.slice 15 false true false) [.tmp 7,.tmp 11]⟩,qm 2 12]
abbrev Y1.id:Nat:=118
def Y1.an:Ann:=[(0,[0]),(1,[2]),(1000001,[0,1,2,3,4,5,6,7,8,9,10])]
def Y1.body:DC:=.seq (qR Y1.r0 [0]) (.seq (.regD [0,1,2,3,4,5,6,7,8,9,10] (Jb Y1.r1) (some [2])) .ret)
def Y1.df:DF:=⟨13,[.tmp 2],Y1.body⟩
theorem Y1.ok:cf Zuv Y1.an Y1.id=some Y1.df:=by kernel_rfl
def KN.r0:List DOp:=[⟨some 0,none,.q .mv [.cst (.nilmap)]⟩]
def KN.r1:List DOp:=[⟨some 1,none,.mkmap⟩,⟨some 2,none,.q (.build [.nilfn,.nilfn] [(0,1),(1,1)]) [.cst (.fn (.func 134) [] []),.cst (.fn (.func 135) [] [])]⟩,⟨none,none,.mapupd (.sc .int) (.tmp 1) (.cst (.int .i64 1)) (.tmp 2)⟩,⟨some 3,none,.q (.build [.nilfn,.nilfn] [(0,1),(1,1)]) [.cst (.fn (.func 138) [] []),.cst (.fn (.func 139) [] [])]⟩,⟨none,none,.mapupd (.sc .int) (.tmp 1) (.cst (.int .i64 2)) (.tmp 3)⟩,⟨some 4,none,.q (.build [.nilfn,.nilfn] [(0,1),(1,1)]) [.cst (.fn (.func 140) [] []),.cst (.fn (.func 141) [] [])]⟩,⟨none,none,.mapupd (.sc .int) (.tmp 1) (.cst (.int .i64 3)) (.tmp 4)⟩,⟨some 5,none,.q (.build [.nilfn,.nilfn] [(0,1),(1,1)]) [.cst (.fn (.func 142) [] []),.cst (.fn (.func 143) [] [])]⟩,⟨none,none,.mapupd (.sc .int) (.tmp 1) (.cst (.int .i64 4)) (.tmp 5)⟩,⟨some 6,none,.q (.build [.nilfn,.nilfn] [(0,1),(1,1)]) [.cst (.fn (.func 144) [] []),.cst (.fn (.func 145) [] [])]⟩,⟨none,none,.mapupd (.sc .int) (.tmp 1) (.cst (.int .i64 5)) (.tmp 6)⟩,⟨some 7,none,.q (.build [.nilfn,.nilfn] [(0,1),(1,1)]) [.cst (.fn (.func 146) [] []),.cst (.fn (.func 147) [] [])]⟩,⟨none,none,.mapupd (.sc .int) (.tmp 1) (.cst (.int .i64 6)) (.tmp 7)⟩,⟨some 8,none,.q (.build [.nilfn,.nilfn] [(0,1),(1,1)]) [.cst (.fn (.func 148) [] []),.cst (.fn (.func 149) [] [])]⟩,⟨none,none,.mapupd (.sc .int) (.tmp 1) (.cst (.int .i64 7)) (.tmp 8)⟩,⟨some 9,none,.q (.build [.nilfn,.nilfn] [(0,1),(1,1)]) [.cst (.fn (.func 151) [] []),.cst (.fn (.func 152) [] [])]⟩,⟨none,none,.mapupd (.sc .int) (.tmp 1) (.cst (.int .i64 8)) (.tmp 9)⟩,⟨some 10,none,.q (.build [.nilfn,.nilfn] [(0,1),(1,1)]) [.cst (.fn (.func 153) [] []),.cst (.fn (.func 154) [] [])]⟩,⟨none,none,.mapupd (.sc .int) (.tmp 1) (.cst (.int .i64 9)) (.tmp 10)⟩,⟨some 11,none,.q (.build [.nilfn,.nilfn] [(0,1),(1,1)]) [.cst (.fn (.func 155) [] []),.cst (.fn (.func 156) [] [])]⟩,⟨none,none,.mapupd (.sc .int) (.tmp 1) (.cst (.int .i64 10)) (.tmp 11)⟩,⟨some 12,none,.q (.build [.nilfn,.nilfn] [(0,1),(1,1)]) [.cst (.fn (.func 157) [] []),.cst (.fn (.func 158) [] [])]⟩,⟨none,none,.mapupd (.sc .int) (.tmp 1) (.cst (.int .i64 11)) (.tmp 12)⟩,⟨some 13,none,.q (.build [.nilfn,.nilfn] [(0,1),(1,1)]) [.cst (.fn (.func 159) [] []),.cst (.fn (.func 160) [] [])]⟩,⟨none,none,.mapupd (.sc .int) (.tmp 1) (.cst (.int .i64 12)) (.tmp 13)⟩,qm 14 1,qm 0 14]
abbrev KN.id:Nat:=119
def KN.an:Ann:=[(0,[]),(1,[0])]
def KN.body:DC:=.seq (qR KN.r0 []) (.seq (qR KN.r1 [0]) .ret)
def KN.df:DF:=⟨15,[.tmp 0],KN.body⟩
theorem KN.ok:cf Zuv KN.an KN.id=some KN.df:=by kernel_rfl
def WR.r0:=[qB 2 0,qB 3 1,qb 4 false]
def WR.r1:List (DOp × Bool):=[(qL 5 15 2,false),(qL 7 15 3,false),(qf 6 161 [.tmp 5],true),(qf 8 161 [.tmp 7],false),(⟨some 9,none,.q (.bin .eql (some (.cells [(0,.str),(1,.str),(2,.str),(3,.str),(4,.int),(5,.int),(6,.int),(7,.int),(8,.int),(9,.int),(10,.int),(11,.bool),(12,.bool)]))) [.tmp 6,.tmp 8]⟩,false),(qm 10 9,false),(qy 10 (qa 11 7 2),false),(qy 10 (qa 12 1 11),false),(qy 10 (ql 13 12),false),(qy 10 (qa 14 7 3),false),(qy 10 (qa 15 1 14),false),(qy 10 (ql 16 15),false),(qy 10 (qf 17 105 [.tmp 13,.tmp 16]),false),(qO 18 10 17,false),(qm 19 18,false),(qy 19 (qa 20 12 2),false),(qy 19 (ql 21 20),false),(qy 19 (qa 22 12 3),false),(qy 19 (ql 23 22),false),(qy 19 (qf 24 162 [.tmp 21,.tmp 23]),false),(qO 25 19 24,false),(qm 4 25,false)]
abbrev WR.id:Nat:=120
def WR.an:Ann:=[(0,[2,3]),(1,[4]),(1000001,[0,2,1,3,4,5,6,7,8,9,10,11,12,13,14,15,16,17,18,19,20,21]),(2000001,[1])]
def WR.body:DC:=.seq (qR WR.r0 [2,3]) (.seq (.regD [0,2,1,3,4,5,6,7,8,9,10,11,12,13,14,15,16,17,18,19,20,21] WR.r1 (some [4])) .ret)
def WR.df:DF:=⟨26,[.tmp 4],WR.body⟩
theorem WR.ok:cf Zuv WR.an WR.id=some WR.df:=by kernel_rfl
def Yh.r0:=[ql 5 1,qk 6 .lenL 5,qi 7 0]
def Yh.r1:=[qd 8 .lss 7 6]
def Yh.r2:=[qm 9 7,qX 10 1 5 7,ql 11 10,qm 3 9,qm 4 11]
def Yh.r3:List DOp:=[ql 12 1,qm 13 3,⟨some 14,none,.q (.slice 1 false true false) [.tmp 12,.tmp 13]⟩,qm 15 4,qf 16 122 [.tmp 14,.tmp 15],qk 17 .not 16,qm 18 17,qy 18 (qm 19 0),qy 18 (qm 20 4),qy 18 ⟨some 21,none,.call (.tmp 19) [.tmp 20]⟩,qy 18 (qk 22 .not 21),qO 23 18 22]
def Yh.r4:=[qe 24 .add 7 1,qm 7 24]
def Yh.l0:DC:=.seq (qR Yh.r1 [0,1,5,6,7,8]) (.seq (qC 8 .skip (.exit 0)) (.seq (.block 1 (.seq (qR Yh.r2 [0,1,3,4,5,6,7]) (.seq (qR Yh.r3 [0,1,5,6,7,23]) (qC 23 .ret .skip)))) (qR Yh.r4 [0,1,5,6,7])))
abbrev Yh.id:Nat:=121
def Yh.an:Ann:=[(0,[0,1,5,6,7]),(1,[0,1,5,6,7,8]),(2,[0,1,3,4,5,6,7]),(3,[0,1,5,6,7,23]),(4,[0,1,5,6,7])]
def Yh.body:DC:=.seq (qR Yh.r0 [0,1,5,6,7]) (.block 0 (.loop Yh.l0))
def Yh.df:DF:=⟨25,[],Yh.body⟩
theorem Yh.ok:cf Zuv Yh.an Yh.id=some Yh.df:=by kernel_rfl
def YM.r0:=[qb 4 false]
def YM.r1:=[qm 5 0,qm 6 1,qf 7 163 [.tmp 5,.tmp 6],qe 8 .geq 7 0,qm 4 8]
abbrev YM.id:Nat:=122
def YM.an:Ann:=[(0,[0,1]),(1,[4])]
def YM.body:DC:=.seq (qR YM.r0 [0,1]) (.seq (qR YM.r1 [4]) .ret)
def YM.df:DF:=⟨9,[.tmp 4],YM.body⟩
theorem YM.ok:cf Zuv YM.an YM.id=some YM.df:=by kernel_rfl
def Z3.r0:List DOp:=[qB 2 0,qB 3 1,⟨some 4,none,.alloc [.int .i64 0,.nilsl]⟩,qi 5 0]
def Z3.r1:List (DOp × Bool):=[(qL 10 2 2,false),(qL 12 2 3,false),(qf 11 128 [.tmp 10],true),(qf 13 128 [.tmp 12],false),(⟨some 14,none,.bsl 2 1 [.bool false] [0,1] [.tmp 11,.tmp 13]⟩,false),(qf 15 96 [.tmp 14],false),(qk 16 .not 15,false)]
def Z3.r2:List DOp:=[⟨some 17,none,.q (.build [.int .i64 0,.nilsl] []) []⟩,qS 2 4 17,qi 5 2]
def Z3.r3:List DOp:=[⟨some 18,none,.mkmap⟩,qm 6 18]
def Z3.r4:List DOp:=[qa 19 1 2,ql 20 19,qa 21 1 3,ql 22 21,⟨some 23,none,.bsl 2 1 [.nilsl] [0,1] [.tmp 20,.tmp 22]⟩,qf 24 164 [.tmp 23],qk 25 .lenL 24,qi 26 0]
def Z3.r5:=[qd 27 .lss 26 25]
def Z3.r6:List DOp:=[qX 28 2 24 26,qL 29 2 28,⟨some 8,none,.alloc [.str [],.int .i64 0]⟩,qS 2 8 29]
def Z3.r7:List DOp:=[qm 30 6,qa 31 0 8,ql 32 31,⟨some 33,none,.q (.lookup (.sc .str) (.int .i64 0) false) [.tmp 30,.tmp 32]⟩,qa 34 1 8,ql 35 34,qd 36 .add 33 35,⟨none,none,.mapupd (.sc .str) (.tmp 30) (.tmp 32) (.tmp 36)⟩]
def Z3.r8:List DOp:=[qm 37 6,qa 38 0 8,ql 39 38,⟨some 40,none,.q (.lookup (.sc .str) (.int .i64 0) false) [.tmp 37,.tmp 39]⟩,qe 41 .eql 40 0]
def Z3.r9:List DOp:=[qm 42 6,qa 43 0 8,ql 44 43,⟨none,none,.delete (.sc .str) (.tmp 42) (.tmp 44)⟩]
def Z3.r10:=[qe 45 .add 26 1,qm 26 45]
def Z3.l0:DC:=.seq (qR Z3.r5 [2,3,4,6,24,25,26,27]) (.seq (qC 27 .skip (.exit 0)) (.seq (.block 1 (.seq (qR Z3.r6 [2,3,4,6,8,24,25,26]) (.seq (qR Z3.r7 [2,3,4,6,8,24,25,26]) (.seq (qR Z3.r8 [2,3,4,6,8,24,25,26,41]) (qC 41 (qR Z3.r9 [2,3,4,6,24,25,26]) .skip))))) (qR Z3.r10 [2,3,4,6,24,25,26])))
def Z3.r11:List (DOp × Bool):=[(qa 46 0 2,false),(ql 47 46,false),(qa 48 0 3,false),(ql 49 48,false),(qd 50 .add 47 49,false),(qm 51 6,false),(⟨some 9,none,.alloc [.int .i64 0,.nilsl]⟩,false),(qf 52 165 [.tmp 51],true),(⟨some 53,none,.q (.build [.int .i64 0,.nilsl] [(0,1),(1,1)]) [.tmp 50,.tmp 52]⟩,false),(qS 2 9 53,false)]
def Z3.r12:=[qa 55 0 9,ql 56 55,qf 57 166 [.tmp 56],qk 58 .not 57,qm 59 58,qn 59 (qa 60 1 9),qn 59 (ql 61 60),qn 59 (qf 62 167 [.tmp 61,.cst (.fn (.func 168) [] [])]),qo 63 59 62,qm 54 63]
def Z3.r13:List DOp:=[⟨some 64,none,.q (.build [.int .i64 0,.nilsl] []) []⟩,qS 2 4 64,qi 5 3]
def Z3.r14:=[qa 66 1 9,ql 67 66,qk 68 .lenL 67,qe 69 .gtr 68 4,qm 65 69]
def Z3.r15:List DOp:=[⟨some 70,none,.q (.build [.int .i64 0,.nilsl] []) []⟩,qS 2 4 70,qi 5 7]
def Z3.r16:=[qL 71 2 9,qS 2 4 71,qi 5 0]
abbrev Z3.id:Nat:=125
def Z3.an:Ann:=[(0,[2,3,4]),(1,[2,3,4,16]),(2,[4,5]),(3,[2,3,4,6]),(4,[2,3,4,6,24,25,26]),(5,[2,3,4,6,24,25,26,27]),(6,[2,3,4,6,8,24,25,26]),(7,[2,3,4,6,8,24,25,26]),(8,[2,3,4,6,8,24,25,26,41]),(9,[2,3,4,6,24,25,26]),(10,[2,3,4,6,24,25,26]),(11,[4,9]),(12,[4,9,54]),(13,[4,5]),(14,[4,9,65]),(15,[4,5]),(16,[4,5]),(1000001,[0,2,1,3,4,5,6]),(1000011,[0,1,2,3,4,5,8,6,7,9]),(2000001,[1]),(2000011,[6])]
def Z3.body:DC:=.seq (qR Z3.r0 [2,3,4]) (.seq (.seq (.regD [0,2,1,3,4,5,6] Z3.r1 (some [2,3,4,16])) (qC 16 (.seq (qR Z3.r2 [4,5]) .ret) .skip)) (.seq (qR Z3.r3 [2,3,4,6]) (.seq (.seq (qR Z3.r4 [2,3,4,6,24,25,26]) (.block 0 (.loop Z3.l0))) (.seq (.regD [0,1,2,3,4,5,8,6,7,9] Z3.r11 (some [4,9])) (.seq (.block 2 (.seq (qR Z3.r12 [4,9,54]) (qC 54 (.seq (qR Z3.r13 [4,5]) .ret) (.seq (qR Z3.r14 [4,9,65]) (qC 65 (.seq (qR Z3.r15 [4,5]) .ret) .skip))))) (.seq (qR Z3.r16 [4,5]) .ret))))))
def Z3.df:DF:=⟨72,[.cellN 4 2,.tmp 5],Z3.body⟩
theorem Z3.ok:cf Zuv Z3.an Z3.id=some Z3.df:=by kernel_rfl
def Wc.r0:=[qi 4 0,qb 5 false]
def Wc.r1:=[qm 7 0,qm 8 1,qf 9 169 [.tmp 7,.tmp 8],qm 6 9]
def Wc.r2:List DOp:=[qm 10 6,⟨some 11,none,.q .max [.tmp 10,.cst (.int .i64 0)]⟩,qm 12 6,qe 13 .geq 12 0,qm 4 11,qm 5 13]
abbrev Wc.id:Nat:=126
def Wc.an:Ann:=[(0,[0,1]),(1,[6]),(2,[4,5])]
def Wc.body:DC:=.seq (qR Wc.r0 [0,1]) (.seq (qR Wc.r1 [6]) (.seq (qR Wc.r2 [4,5]) .ret))
def Wc.df:DF:=⟨14,[.tmp 4,.tmp 5],Wc.body⟩
theorem Wc.ok:cf Zuv Wc.an Wc.id=some Wc.df:=by kernel_rfl
def Kg.r0:=[qB 2 0,qb 3 false]
def Kg.r1:=[ql 4 1,qa 5 0 2,ql 6 5,qd 7 .geq 4 6,qm 8 7,qy 8 (ql 9 1),qy 8 (qa 10 1 2),qy 8 (ql 11 10),qy 8 (qd 12 .leq 9 11),qO 13 8 12,qm 3 13]
abbrev Kg.id:Nat:=127
def Kg.an:Ann:=[(0,[1,2]),(1,[3])]
def Kg.body:DC:=.seq (qR Kg.r0 [1,2]) (.seq (qR Kg.r1 [3]) .ret)
def Kg.df:DF:=⟨14,[.tmp 3],Kg.body⟩
theorem Kg.ok:cf Zuv Kg.an Kg.id=some Kg.df:=by kernel_rfl
def Kf.r0:=[qB 1 0,qb 2 false]
def Kf.r1:List DOp:=[⟨some 5,none,.mkmap⟩,⟨some 3,none,.alloc [.nilmap]⟩,qs 3 5]
def Kf.r2:List DOp:=[⟨some 6,none,.q (.mkfn (.func 170) 0) [.tmp 3]⟩,qm 4 6]
def Kf.r3:List (DOp × Bool):=[(qa 7 0 1,false),(ql 8 7,false),(qa 10 1 1,false),(ql 11 10,false),(qk 12 .lenL 11,false),(qe 13 .leq 12 4,false),(qf 9 166 [.tmp 8],true),(⟨some 14,none,.bsl 2 1 [.bool false] [0,1] [.tmp 9,.tmp 13]⟩,false),(qf 15 96 [.tmp 14],false),(qm 16 15,false),(qy 16 (qa 17 1 1),false),(qy 16 (ql 18 17),false),(qy 16 (qm 19 4),false),(qy 16 (qf 20 167 [.tmp 18,.tmp 19]),false),(qy 16 (qk 21 .not 20),false),(qO 22 16 21,false),(qm 2 22,false)]
abbrev Kf.id:Nat:=128
def Kf.an:Ann:=[(0,[1]),(1,[1,3]),(2,[1,4]),(3,[2]),(1000003,[0,1,3,4,5,6,2,7,8,9,10,11,12,13,14,15,16]),(2000003,[2])]
def Kf.body:DC:=.seq (qR Kf.r0 [1]) (.seq (qR Kf.r1 [1,3]) (.seq (qR Kf.r2 [1,4]) (.seq (.regD [0,1,3,4,5,6,2,7,8,9,10,11,12,13,14,15,16] Kf.r3 (some [2])) .ret)))
def Kf.df:DF:=⟨23,[.tmp 2],Kf.body⟩
theorem Kf.ok:cf Zuv Kf.an Kf.id=some Kf.df:=by kernel_rfl
def WY.r0:List DOp:=[qB 1 0,⟨some 2,none,.q .mv [.cst (.nilfn)]⟩]
def WY.r1:List DOp:=[⟨some 3,none,.alloc [.nilsl]⟩]
def WY.r2:=[qL 4 2 1,qf 5 128 [.tmp 4]]
def WY.r3:=[qa 6 1 1,ql 7 6,qf 8 171 [.tmp 7],qs 3 8]
def WY.r4:List DOp:=[⟨some 9,none,.q (.mkfn (.func 172) 0) [.tmp 3]⟩,qm 2 9]
abbrev WY.id:Nat:=129
def WY.an:Ann:=[(0,[1]),(1,[1,3]),(2,[1,3,5]),(3,[3]),(4,[2])]
def WY.body:DC:=.seq (qR WY.r0 [1]) (.seq (qR WY.r1 [1,3]) (.seq (.seq (qR WY.r2 [1,3,5]) (qC 5 (qR WY.r3 [3]) .skip)) (.seq (qR WY.r4 [2]) .ret)))
def WY.df:DF:=⟨10,[.tmp 2],WY.body⟩
theorem WY.ok:cf Zuv WY.an WY.id=some WY.df:=by kernel_rfl
def Y7.r0:List DOp:=[qB 1 0,⟨some 2,none,.alloc [.int .i64 0,.int .i64 0]⟩,qi 3 0]
def Y7.r1:=[qL 5 15 1,qf 6 173 [.tmp 5],qk 7 .not 6,qm 4 7]
def Y7.r2:List DOp:=[⟨some 8,none,.q (.build [.int .i64 0,.int .i64 0] []) []⟩,qS 2 2 8,qi 3 2]
def Y7.r3:=[qa 10 1 1,ql 11 10,qe 12 .eql 11 2,qm 9 12]
def Y7.r4:List DOp:=[qa 13 5 1,ql 14 13,qa 15 5 1,ql 16 15,⟨some 17,none,.q (.build [.int .i64 0,.int .i64 0] [(0,1),(1,1)]) [.tmp 14,.tmp 16]⟩,qS 2 2 17,qi 3 0]
def Y7.r5:List DOp:=[qa 18 5 1,ql 19 18,qa 20 6 1,ql 21 20,⟨some 22,none,.q (.build [.int .i64 0,.int .i64 0] [(0,1),(1,1)]) [.tmp 19,.tmp 21]⟩,qS 2 2 22,qi 3 0]
abbrev Y7.id:Nat:=130
def Y7.an:Ann:=[(0,[1,2]),(1,[1,2,4]),(2,[2,3]),(3,[1,2,9]),(4,[2,3]),(5,[2,3])]
def Y7.body:DC:=.seq (qR Y7.r0 [1,2]) (.seq (.block 0 (.seq (qR Y7.r1 [1,2,4]) (qC 4 (.seq (qR Y7.r2 [2,3]) .ret) (.seq (qR Y7.r3 [1,2,9]) (qC 9 (.seq (qR Y7.r4 [2,3]) .ret) .skip))))) (.seq (qR Y7.r5 [2,3]) .ret))
def Y7.df:DF:=⟨23,[.cellN 2 2,.tmp 3],Y7.body⟩
theorem Y7.ok:cf Zuv Y7.an Y7.id=some Y7.df:=by kernel_rfl
def ZS.r0:=[qi 4 0]
def ZS.r1:=[qm 6 0,qk 7 .lenL 6,qi 8 0]
def ZS.r2:=[qd 9 .lss 8 7]
def ZS.r3:=[qm 10 8,qm 5 10]
def ZS.r4:List DOp:=[qm 11 1,qm 12 0,qm 13 5,qX 14 1 12 13,ql 15 14,⟨some 16,none,.q (.bin .eql (some .bool)) [.tmp 11,.tmp 15]⟩]
def ZS.r5:=[qm 17 5,qm 4 17]
def ZS.r6:=[qe 18 .add 8 1,qm 8 18]
def ZS.l0:DC:=.seq (qR ZS.r2 [0,1,7,8,9]) (.seq (qC 9 .skip (.exit 0)) (.seq (.block 1 (.seq (qR ZS.r3 [0,1,5,7,8]) (.seq (qR ZS.r4 [0,1,5,7,8,16]) (qC 16 (.seq (qR ZS.r5 [4]) .ret) .skip)))) (qR ZS.r6 [0,1,7,8])))
def ZS.r7:=[qi 4 (-1)]
abbrev ZS.id:Nat:=131
def ZS.an:Ann:=[(0,[0,1]),(1,[0,1,7,8]),(2,[0,1,7,8,9]),(3,[0,1,5,7,8]),(4,[0,1,5,7,8,16]),(5,[4]),(6,[0,1,7,8]),(7,[4])]
def ZS.body:DC:=.seq (qR ZS.r0 [0,1]) (.seq (.seq (qR ZS.r1 [0,1,7,8]) (.block 0 (.loop ZS.l0))) (.seq (qR ZS.r7 [4]) .ret))
def ZS.df:DF:=⟨19,[.tmp 4],ZS.body⟩
theorem ZS.ok:cf Zuv ZS.an ZS.id=some ZS.df:=by kernel_rfl
def YY.r0:=[qi 4 0,qb 5 false]
def YY.r1:=[qm 7 0,qm 8 1,qf 9 174 [.tmp 7,.tmp 8],qm 6 9]
def YY.r2:List DOp:=[qm 10 6,⟨some 11,none,.q .max [.tmp 10,.cst (.int .i64 0)]⟩,qm 12 6,qe 13 .geq 12 0,qm 4 11,qm 5 13]
abbrev YY.id:Nat:=132
def YY.an:Ann:=[(0,[0,1]),(1,[6]),(2,[4,5])]
def YY.body:DC:=.seq (qR YY.r0 [0,1]) (.seq (qR YY.r1 [6]) (.seq (qR YY.r2 [4,5]) .ret))
def YY.df:DF:=⟨14,[.tmp 4,.tmp 5],YY.body⟩
theorem YY.ok:cf Zuv YY.an YY.id=some YY.df:=by kernel_rfl
def Ka.r0:=[qB 2 0,qb 3 false]
def Ka.r1:=[qa 4 0 2,ql 5 4,ql 6 1,qd 7 .eql 5 6,qm 3 7]
abbrev Ka.id:Nat:=133
def Ka.an:Ann:=[(0,[1,2]),(1,[3])]
def Ka.body:DC:=.seq (qR Ka.r0 [1,2]) (.seq (qR Ka.r1 [3]) .ret)
def Ka.df:DF:=⟨8,[.tmp 3],Ka.body⟩
theorem Ka.ok:cf Zuv Ka.an Ka.id=some Ka.df:=by kernel_rfl
def KD.r0:List DOp:=[qm 2 0,qm 3 0,qm 4 0,qm 5 0,qk 6 .nilck 2,qa 7 2 6,⟨none,none,.store1 (.tmp 7) (.cst (.int .i64 0))⟩,qk 8 .nilck 3,qa 9 3 8,⟨none,none,.store1 (.tmp 9) (.cst (.bool false))⟩,qk 10 .nilck 4,qa 11 5 10,⟨none,none,.store1 (.tmp 11) (.cst (.int .i64 0))⟩,qk 12 .nilck 5,qa 13 6 12,⟨none,none,.store1 (.tmp 13) (.cst (.int .i64 0))⟩]
abbrev KD.id:Nat:=134
def KD.an:Ann:=[(0,[])]
def KD.body:DC:=qR KD.r0 []
def KD.df:DF:=⟨14,[],KD.body⟩
theorem KD.ok:cf Zuv KD.an KD.id=some KD.df:=by kernel_rfl
def WH.r0:=[qB 3 1]
def WH.r1:=[qm 4 0,qL 5 15 3,qf 6 136 [.tmp 4,.tmp 5]]
def WH.r2:List DOp:=[qm 7 0,qa 8 2 3,ql 9 8,⟨some 10,none,.q (.bin .shl (none)) [.cst (.int .i64 1),.tmp 9]⟩,qe 11 .sub 10 1,qa 12 5 3,ql 13 12,qa 14 6 3,ql 15 14,⟨some 16,none,.bsl 2 1 [.int .i64 0] [0,1] [.tmp 13,.tmp 15]⟩,qf 17 137 [.tmp 7,.cst (.int .i64 0),.tmp 11,.tmp 16]]
abbrev WH.id:Nat:=135
def WH.an:Ann:=[(0,[0,3]),(1,[0,3]),(2,[]),(1000002,[0,1,2,3,4,5,6,7,8,9,10])]
def WH.body:DC:=.seq (qR WH.r0 [0,3]) (.seq (qR WH.r1 [0,3]) (.regD [0,1,2,3,4,5,6,7,8,9,10] (Jb WH.r2) (some [])))
def WH.df:DF:=⟨18,[],WH.body⟩
theorem WH.ok:cf Zuv WH.an WH.id=some WH.df:=by kernel_rfl
def Wl.r0:=[qB 3 1]
def Wl.r1:=[qm 4 0,qa 5 2 3,ql 6 5,qe 7 .geq 6 1,qm 8 7,qy 8 (qa 9 2 3),qy 8 (ql 10 9),qy 8 (qe 11 .leq 10 32),qO 12 8 11,qm 13 12,qy 13 (qa 14 3 3),qy 13 (ql 15 14),qy 13 (qk 16 .not 15),qy 13 (qm 17 16),qn 17 (qa 18 2 3),qn 17 (ql 19 18),qn 17 (qe 20 .gtr 19 8),qn 17 (qm 21 20),qy 21 (qa 22 2 3),qy 21 (ql 23 22),qy 21 (qe 24 .rem 23 8),qy 21 (qe 25 .eql 24 0),qn 17 (qO 26 21 25),qy 13 (qo 27 17 26),qO 28 13 27,qf 29 56 [.tmp 4,.tmp 28,.cst (.int .i64 6)]]
abbrev Wl.id:Nat:=136
def Wl.an:Ann:=[(0,[0,3]),(1,[])]
def Wl.body:DC:=.seq (qR Wl.r0 [0,3]) (qR Wl.r1 [])
def Wl.df:DF:=⟨30,[],Wl.body⟩
theorem Wl.ok:cf Zuv Wl.an Wl.id=some Wl.df:=by kernel_rfl
def ZN.r0:=[qm 10 3,qk 11 .lenL 10,qi 12 0]
def ZN.r1:=[qd 13 .lss 12 11]
def ZN.r2:=[qX 14 1 10 12,ql 15 14,qm 9 15]
def ZN.r3:=[qm 16 0,qm 17 9,qm 18 1,qd 19 .geq 17 18,qm 20 19,qy 20 (qm 21 9),qy 20 (qm 22 2),qy 20 (qd 23 .leq 21 22),qO 24 20 23,qf 25 56 [.tmp 16,.tmp 24,.cst (.int .i64 7)]]
def ZN.r4:=[qm 26 9,qm 1 26]
def ZN.r5:=[qe 27 .add 12 1,qm 12 27]
def ZN.l0:DC:=.seq (qR ZN.r1 [0,1,2,10,11,12,13]) (.seq (qC 13 .skip (.exit 0)) (.seq (.block 1 (.seq (qR ZN.r2 [0,1,2,9,10,11,12]) (.seq (qR ZN.r3 [0,2,9,10,11,12]) (qR ZN.r4 [0,1,2,10,11,12])))) (qR ZN.r5 [0,1,2,10,11,12])))
abbrev ZN.id:Nat:=137
def ZN.an:Ann:=[(0,[0,1,2,10,11,12]),(1,[0,1,2,10,11,12,13]),(2,[0,1,2,9,10,11,12]),(3,[0,2,9,10,11,12]),(4,[0,1,2,10,11,12]),(5,[0,1,2,10,11,12])]
def ZN.body:DC:=.seq (qR ZN.r0 [0,1,2,10,11,12]) (.block 0 (.loop ZN.l0))
def ZN.df:DF:=⟨28,[],ZN.body⟩
theorem ZN.ok:cf Zuv ZN.an ZN.id=some ZN.df:=by kernel_rfl
def KE.r0:List DOp:=[qm 2 0,qm 3 0,qm 4 0,qk 5 .nilck 2,qa 6 2 5,⟨none,none,.store1 (.tmp 6) (.cst (.int .i64 0))⟩,qk 7 .nilck 3,qa 8 3 7,⟨none,none,.store1 (.tmp 8) (.cst (.bool false))⟩,qk 9 .nilck 4,qa 10 5 9,⟨none,none,.store1 (.tmp 10) (.cst (.int .i64 0))⟩]
abbrev KE.id:Nat:=138
def KE.an:Ann:=[(0,[])]
def KE.body:DC:=qR KE.r0 []
def KE.df:DF:=⟨11,[],KE.body⟩
theorem KE.ok:cf Zuv KE.an KE.id=some KE.df:=by kernel_rfl
def WI.r0:=[qB 3 1]
def WI.r1:=[qm 4 0,qL 5 15 3,qf 6 136 [.tmp 4,.tmp 5]]
def WI.r2:List DOp:=[qm 7 0,qa 8 2 3,ql 9 8,⟨some 10,none,.q (.bin .shl (none)) [.cst (.int .i64 1),.tmp 9]⟩,qe 11 .sub 10 1,qa 12 5 3,ql 13 12,⟨some 14,none,.bsl 1 1 [.int .i64 0] [0] [.tmp 13]⟩,qf 15 137 [.tmp 7,.cst (.int .i64 0),.tmp 11,.tmp 14]]
abbrev WI.id:Nat:=139
def WI.an:Ann:=[(0,[0,3]),(1,[0,3]),(2,[]),(1000002,[0,1,2,3,4,5,6,7,8])]
def WI.body:DC:=.seq (qR WI.r0 [0,3]) (.seq (qR WI.r1 [0,3]) (.regD [0,1,2,3,4,5,6,7,8] (Jb WI.r2) (some [])))
def WI.df:DF:=⟨16,[],WI.body⟩
theorem WI.ok:cf Zuv WI.an WI.id=some WI.df:=by kernel_rfl
def KF.r0:List DOp:=[qm 2 0,qm 3 0,qm 4 0,qk 5 .nilck 2,qa 6 4 5,⟨none,none,.store1 (.tmp 6) (.cst (.bool false))⟩,qk 7 .nilck 3,qa 8 5 7,⟨none,none,.store1 (.tmp 8) (.cst (.int .i64 0))⟩,qk 9 .nilck 4,qa 10 6 9,⟨none,none,.store1 (.tmp 10) (.cst (.int .i64 0))⟩]
abbrev KF.id:Nat:=140
def KF.an:Ann:=[(0,[])]
def KF.body:DC:=qR KF.r0 []
def KF.df:DF:=⟨11,[],KF.body⟩
theorem KF.ok:cf Zuv KF.an KF.id=some KF.df:=by kernel_rfl
def Kc.r0:=[qB 3 1]
def Kc.r1:List DOp:=[qm 4 0,qa 5 5 3,ql 6 5,qa 7 6 3,ql 8 7,⟨some 9,none,.bsl 2 1 [.int .i64 0] [0,1] [.tmp 6,.tmp 8]⟩,qf 10 137 [.tmp 4,.cst (.int .i64 0),.cst (.int .i64 34359738367),.tmp 9]]
abbrev Kc.id:Nat:=141
def Kc.an:Ann:=[(0,[0,3]),(1,[])]
def Kc.body:DC:=.seq (qR Kc.r0 [0,3]) (qR Kc.r1 [])
def Kc.df:DF:=⟨11,[],Kc.body⟩
theorem Kc.ok:cf Zuv Kc.an Kc.id=some Kc.df:=by kernel_rfl
def KG.r0:List DOp:=[qm 2 0,⟨some 3,none,.q (.build [.int .i64 0,.nilsl] []) []⟩,qk 4 .nilck 2,qa 5 7 4,qS 2 5 3]
abbrev KG.id:Nat:=142
def KG.an:Ann:=[(0,[])]
def KG.body:DC:=qR KG.r0 []
def KG.df:DF:=⟨6,[],KG.body⟩
theorem KG.ok:cf Zuv KG.an KG.id=some KG.df:=by kernel_rfl
def ZE.r0:=[qB 2 0,qB 3 1]
def ZE.r1:=[(ql 10 2,false),(qa 11 7 3,false),(qL 12 2 11,false),(qf 13 128 [.tmp 12],true),(qf 14 56 [.tmp 10,.tmp 13,.cst (.int .i64 9)],false)]
def ZE.r2:List DOp:=[ql 15 2,qf 16 118 [.tmp 15],qf 17 112 [.tmp 16],⟨some 4,none,.alloc [.nilmap]⟩,qs 4 17]
def ZE.r3:=[qa 18 7 3,qL 19 2 18,qf 20 129 [.tmp 19]]
def ZE.r4:=[qm 5 21]
def ZE.r5:List DOp:=[ql 23 4,qm 24 5,⟨some 25,none,.q (.lookup (.sc .str) (.agg [.int .i64 0,.int .i64 0]) true) [.tmp 23,.tmp 24]⟩,qm 22 25,qx 26 0 22,qx 27 1 22,⟨some 6,none,.alloc [.int .i64 0,.int .i64 0]⟩,qS 2 6 26,qm 7 27]
def ZE.r6:=[ql 28 2,qm 29 7,qf 30 56 [.tmp 28,.tmp 29,.cst (.int .i64 8)]]
def ZE.a0:DC:=qR ZE.r4 [2,3,4,5,21]
def ZE.b0:DC:=.block 1 (.seq (qR ZE.r5 [2,3,4,7,21]) (qR ZE.r6 [2,3,4,21]))
def ZE.r7:List DOp:=[qa 32 7 3,qL 33 2 32,ql 34 4,qf 35 77 [.tmp 33,.tmp 34],qm 31 35,qx 36 0 31,qx 37 1 31,⟨some 8,none,.alloc [.int .i64 0,.int .i64 0]⟩,qS 2 8 36,qm 9 37]
def ZE.r8:=[ql 38 2,qm 39 9,qe 40 .eql 39 0,qm 41 40,qy 41 (qa 42 0 8),qy 41 (ql 43 42),qy 41 (qe 44 .geq 43 0),qO 45 41 44,qm 46 45,qy 46 (qa 47 1 8),qy 46 (ql 48 47),qy 46 (qe 49 .leq 48 1048576),qO 50 46 49,qf 51 56 [.tmp 38,.tmp 50,.cst (.int .i64 9)]]
abbrev ZE.id:Nat:=143
def ZE.an:Ann:=[(0,[2,3,21]),(1,[2,3,21]),(2,[2,3,4,21]),(3,[2,3,4,20,21]),(4,[2,3,4,5,21]),(5,[2,3,4,7,21]),(6,[2,3,4,21]),(7,[2,8,9]),(8,[]),(1000001,[0,1,2,3,4]),(2000001,[3])]
def ZE.body:DC:=.seq (qR ZE.r0 [2,3,21]) (.seq (.regD [0,1,2,3,4] ZE.r1 (some [2,3,21])) (.seq (qR ZE.r2 [2,3,4,21]) (.seq (.seq (qR ZE.r3 [2,3,4,20,21]) (.block 0 (.rangeF (.tmp 20) [21] ZE.a0 ZE.b0))) (.seq (qR ZE.r7 [2,8,9]) (qR ZE.r8 [])))))
def ZE.df:DF:=⟨52,[],ZE.body⟩
theorem ZE.ok:cf Zuv ZE.an ZE.id=some ZE.df:=by kernel_rfl
def KH.r0:List DOp:=[qm 2 0,qm 3 0,qk 4 .nilck 2,qa 5 5 4,⟨none,none,.store1 (.tmp 5) (.cst (.int .i64 0))⟩,qk 6 .nilck 3,qa 7 6 6,⟨none,none,.store1 (.tmp 7) (.cst (.int .i64 0))⟩]
abbrev KH.id:Nat:=144
def KH.an:Ann:=[(0,[])]
def KH.body:DC:=qR KH.r0 []
def KH.df:DF:=⟨8,[],KH.body⟩
theorem KH.ok:cf Zuv KH.an KH.id=some KH.df:=by kernel_rfl
def WJ.r0:=[qB 3 1]
def WJ.r1:List DOp:=[qm 4 0,qa 5 5 3,ql 6 5,⟨some 7,none,.bsl 1 1 [.int .i64 0] [0] [.tmp 6]⟩,qf 8 137 [.tmp 4,.cst (.int .i64 0),.cst (.int .i64 255),.tmp 7]]
def WJ.r2:List DOp:=[qm 9 0,qa 10 6 3,ql 11 10,⟨some 12,none,.bsl 1 1 [.int .i64 0] [0] [.tmp 11]⟩,qf 13 137 [.tmp 9,.cst (.int .i64 0),.cst (.int .i64 1048576),.tmp 12]]
abbrev WJ.id:Nat:=145
def WJ.an:Ann:=[(0,[0,3]),(1,[0,3]),(2,[])]
def WJ.body:DC:=.seq (qR WJ.r0 [0,3]) (.seq (qR WJ.r1 [0,3]) (qR WJ.r2 []))
def WJ.df:DF:=⟨14,[],WJ.body⟩
theorem WJ.ok:cf Zuv WJ.an WJ.id=some WJ.df:=by kernel_rfl
end Go.DL
namespace Go.DL
open Go Go.Proofs
def Kn.r0:List DOp:=[qm 2 0,qm 3 0,qk 4 .nilck 2,qa 5 4 4,⟨none,none,.store1 (.tmp 5) (.cst (.bool false))⟩,qk 6 .nilck 3,qa 7 6 6,⟨none,none,.store1 (.tmp 7) (.cst (.int .i64 0))⟩]
abbrev Kn.id:Nat:=146
def Kn.an:Ann:=[(0,[])]
def Kn.body:DC:=qR Kn.r0 []
def Kn.df:DF:=⟨8,[],Kn.body⟩
theorem Kn.ok:cf Zuv Kn.an Kn.id=some Kn.df:=by kernel_rfl
def WT.r0:=[qB 3 1]
def WT.r1:List DOp:=[qm 4 0,qa 5 6 3,ql 6 5,⟨some 7,none,.bsl 1 1 [.int .i64 0] [0] [.tmp 6]⟩,qf 8 137 [.tmp 4,.cst (.int .i64 2),.cst (.int .i64 1048576),.tmp 7]]
abbrev WT.id:Nat:=147
def WT.an:Ann:=[(0,[0,3]),(1,[])]
def WT.body:DC:=.seq (qR WT.r0 [0,3]) (qR WT.r1 [])
def WT.df:DF:=⟨9,[],WT.body⟩
theorem WT.ok:cf Zuv WT.an WT.id=some WT.df:=by kernel_rfl
def Ko.r0:List DOp:=[qm 2 0,qm 3 0,⟨some 4,none,.q (.build [.int .i64 0,.nilsl] []) []⟩,qk 5 .nilck 2,qa 6 9 5,⟨none,none,.store1 (.tmp 6) (.cst (.str []))⟩,qk 7 .nilck 3,qa 8 7 7,qS 2 8 4]
abbrev Ko.id:Nat:=148
def Ko.an:Ann:=[(0,[])]
def Ko.body:DC:=qR Ko.r0 []
def Ko.df:DF:=⟨9,[],Ko.body⟩
theorem Ko.ok:cf Zuv Ko.an Ko.id=some Ko.df:=by kernel_rfl
def Wr.r0:=[qB 3 1]
def Wr.r1:=[qm 4 0,qa 5 9 3,ql 6 5,qf 7 150 [.tmp 4,.tmp 6]]
def Wr.r2:=[qm 8 0,qL 9 15 3,qf 10 143 [.tmp 8,.tmp 9]]
abbrev Wr.id:Nat:=149
def Wr.an:Ann:=[(0,[0,3]),(1,[0,3]),(2,[])]
def Wr.body:DC:=.seq (qR Wr.r0 [0,3]) (.seq (qR Wr.r1 [0,3]) (qR Wr.r2 []))
def Wr.df:DF:=⟨11,[],Wr.body⟩
theorem Wr.ok:cf Zuv Wr.an Wr.id=some Wr.df:=by kernel_rfl
def Wb.r0:List DOp:=[qm 7 0,qk 8 .nilck 7,qa 9 3 8,ql 10 9,qm 11 1,⟨some 12,none,.q (.lookup (.sc .str) (.int .i64 0) true) [.tmp 10,.tmp 11]⟩,qm 6 12,qx 13 0 6,qx 14 1 6,qm 4 13,qm 5 14]
def Wb.r1:=[qm 15 0,qm 16 5,qf 17 56 [.tmp 15,.tmp 16,.cst (.int .i64 8)]]
abbrev Wb.id:Nat:=150
def Wb.an:Ann:=[(0,[0,5]),(1,[])]
def Wb.body:DC:=.seq (qR Wb.r0 [0,5]) (qR Wb.r1 [])
def Wb.df:DF:=⟨18,[],Wb.body⟩
theorem Wb.ok:cf Zuv Wb.an Wb.id=some Wb.df:=by kernel_rfl
def Kp.r0:List DOp:=[qm 2 0,qk 3 .nilck 2,qa 4 9 3,⟨none,none,.store1 (.tmp 4) (.cst (.str []))⟩]
abbrev Kp.id:Nat:=151
def Kp.an:Ann:=[(0,[])]
def Kp.body:DC:=qR Kp.r0 []
def Kp.df:DF:=⟨5,[],Kp.body⟩
theorem Kp.ok:cf Zuv Kp.an Kp.id=some Kp.df:=by kernel_rfl
def WU.r0:=[qB 3 1]
def WU.r1:=[qm 4 0,qa 5 9 3,ql 6 5,qf 7 150 [.tmp 4,.tmp 6]]
abbrev WU.id:Nat:=152
def WU.an:Ann:=[(0,[0,3]),(1,[])]
def WU.body:DC:=.seq (qR WU.r0 [0,3]) (qR WU.r1 [])
def WU.df:DF:=⟨8,[],WU.body⟩
theorem WU.ok:cf Zuv WU.an WU.id=some WU.df:=by kernel_rfl
def Kq.r0:List DOp:=[qm 2 0,qm 3 0,qk 4 .nilck 2,qa 5 10 4,⟨none,none,.store1 (.tmp 5) (.cst (.str []))⟩,qk 6 .nilck 3,qa 7 12 6,⟨none,none,.store1 (.tmp 7) (.cst (.nilsl))⟩]
abbrev Kq.id:Nat:=153
def Kq.an:Ann:=[(0,[])]
def Kq.body:DC:=qR Kq.r0 []
def Kq.df:DF:=⟨8,[],Kq.body⟩
theorem Kq.ok:cf Zuv Kq.an Kq.id=some Kq.df:=by kernel_rfl
def Zu.r0:=[qB 3 1]
def Zu.r1:List (DOp × Bool):=[(qm 11 0,false),(qa 14 10 3,false),(ql 15 14,false),(⟨some 4,none,.alloc [.int .i64 0,.int .i64 0]⟩,false),(qf 12 118 [.tmp 11],true),(qf 13 112 [.tmp 12],true),(⟨some 16,none,.q (.lookup (.sc .str) (.agg [.int .i64 0,.int .i64 0]) true) [.tmp 13,.tmp 15]⟩,false),(qm 10 16,false),(qx 17 0 10,false),(qx 18 1 10,false),(qS 2 4 17,false),(qm 5 18,false)]
def Zu.r2:List DOp:=[qm 19 0,qf 20 118 [.tmp 19],⟨some 21,none,.q (.mkfn (.func 176) 0) [.tmp 3]⟩,qf 22 175 [.tmp 20,.tmp 21],qm 6 22]
def Zu.r3:=[qm 23 0,qm 24 5,qm 25 24,qy 25 (qm 26 6),qy 25 (qk 27 .not 26),qO 28 25 27,qf 29 56 [.tmp 23,.tmp 28,.cst (.int .i64 8)]]
def Zu.r4:=[qm 30 0,qa 31 12 3,ql 32 31,qk 33 .lenL 32,qe 34 .geq 33 1,qm 35 34,qy 35 (qa 36 12 3),qy 35 (ql 37 36),qy 35 (qk 38 .lenL 37),qy 35 (qe 39 .leq 38 40),qO 40 35 39,qf 41 56 [.tmp 30,.tmp 40,.cst (.int .i64 3)]]
def Zu.r5:=[qa 42 0 4,ql 43 42,qm 7 43]
def Zu.r6:=[qa 44 12 3,ql 45 44,qk 46 .lenL 45,qi 47 0]
def Zu.r7:=[qd 48 .lss 47 46]
def Zu.r8:List DOp:=[qX 49 3 45 47,qL 50 3 49,⟨some 9,none,.alloc [.int .i64 0,.int .i64 0,.str []]⟩,qS 3 9 50]
def Zu.r9:List DOp:=[qm 51 0,qm 52 7,qa 53 1 4,ql 54 53,qa 55 0 9,ql 56 55,qa 57 1 9,ql 58 57,⟨some 59,none,.bsl 2 1 [.int .i64 0] [0,1] [.tmp 56,.tmp 58]⟩,qf 60 137 [.tmp 51,.tmp 52,.tmp 54,.tmp 59]]
def Zu.r10:=[qm 61 0,qa 62 2 9,ql 63 62,qf 64 150 [.tmp 61,.tmp 63]]
def Zu.r11:=[qa 65 1 9,ql 66 65,qe 67 .add 66 1,qm 7 67]
def Zu.r12:=[qe 68 .add 47 1,qm 47 68]
def Zu.l0:DC:=.seq (qR Zu.r7 [0,4,7,45,46,47,48]) (.seq (qC 48 .skip (.exit 0)) (.seq (.block 1 (.seq (qR Zu.r8 [0,4,7,9,45,46,47]) (.seq (qR Zu.r9 [0,4,9,45,46,47]) (.seq (qR Zu.r10 [0,4,9,45,46,47]) (qR Zu.r11 [0,4,7,45,46,47]))))) (qR Zu.r12 [0,4,7,45,46,47])))
abbrev Zu.id:Nat:=154
def Zu.an:Ann:=[(0,[0,3]),(1,[0,3,4,5]),(2,[0,3,4,5,6]),(3,[0,3,4]),(4,[0,3,4]),(5,[0,3,4,7]),(6,[0,4,7,45,46,47]),(7,[0,4,7,45,46,47,48]),(8,[0,4,7,9,45,46,47]),(9,[0,4,9,45,46,47]),(10,[0,4,9,45,46,47]),(11,[0,4,7,45,46,47]),(12,[0,4,7,45,46,47]),(1000001,[0,3,4,9,1,2,5,6,7,8,10,11]),(2000001,[1,2])]
def Zu.body:DC:=.seq (qR Zu.r0 [0,3]) (.seq (.regD [0,3,4,9,1,2,5,6,7,8,10,11] Zu.r1 (some [0,3,4,5])) (.seq (qR Zu.r2 [0,3,4,5,6]) (.seq (qR Zu.r3 [0,3,4]) (.seq (qR Zu.r4 [0,3,4]) (.seq (qR Zu.r5 [0,3,4,7]) (.seq (qR Zu.r6 [0,4,7,45,46,47]) (.block 0 (.loop Zu.l0))))))))
def Zu.df:DF:=⟨69,[],Zu.body⟩
theorem Zu.ok:cf Zuv Zu.an Zu.id=some Zu.df:=by kernel_rfl
def Kr.r0:List DOp:=[qm 2 0,qk 3 .nilck 2,qa 4 2 3,⟨none,none,.store1 (.tmp 4) (.cst (.int .i64 0))⟩]
abbrev Kr.id:Nat:=155
def Kr.an:Ann:=[(0,[])]
def Kr.body:DC:=qR Kr.r0 []
def Kr.df:DF:=⟨5,[],Kr.body⟩
theorem Kr.ok:cf Zuv Kr.an Kr.id=some Kr.df:=by kernel_rfl
def WV.r0:=[qB 3 1]
def WV.r1:=[qm 4 0,qa 5 2 3,ql 6 5,qe 7 .eql 6 2,qm 8 7,qn 8 (qa 9 2 3),qn 8 (ql 10 9),qn 8 (qe 11 .eql 10 4),qo 12 8 11,qm 13 12,qn 13 (qa 14 2 3),qn 13 (ql 15 14),qn 13 (qe 16 .geq 15 8),qn 13 (qm 17 16),qy 17 (qa 18 2 3),qy 17 (ql 19 18),qy 17 (qe 20 .leq 19 512),qn 13 (qO 21 17 20),qn 13 (qm 22 21),qy 22 (qa 23 2 3),qy 22 (ql 24 23),qy 22 (qe 25 .rem 24 8),qy 22 (qe 26 .eql 25 0),qn 13 (qO 27 22 26),qo 28 13 27,qf 29 56 [.tmp 4,.tmp 28,.cst (.int .i64 6)]]
abbrev WV.id:Nat:=156
def WV.an:Ann:=[(0,[0,3]),(1,[])]
def WV.body:DC:=.seq (qR WV.r0 [0,3]) (qR WV.r1 [])
def WV.df:DF:=⟨30,[],WV.body⟩
theorem WV.ok:cf Zuv WV.an WV.id=some WV.df:=by kernel_rfl
def Ks.r0:List DOp:=[qm 2 0,qm 3 0,qk 4 .nilck 2,qa 5 11 4,⟨none,none,.store1 (.tmp 5) (.cst (.str []))⟩,qk 6 .nilck 3,qa 7 13 6,⟨none,none,.store1 (.tmp 7) (.cst (.int .i64 0))⟩]
abbrev Ks.id:Nat:=157
def Ks.an:Ann:=[(0,[])]
def Ks.body:DC:=qR Ks.r0 []
def Ks.df:DF:=⟨8,[],Ks.body⟩
theorem Ks.ok:cf Zuv Ks.an Ks.id=some Ks.df:=by kernel_rfl
def YZ.r0:=[qB 3 1]
def YZ.r1:List DOp:=[qm 6 0,qa 7 13 3,ql 8 7,⟨some 9,none,.bsl 1 1 [.int .i64 0] [0] [.tmp 8]⟩,qf 10 137 [.tmp 6,.cst (.int .i64 1),.cst (.int .i64 3),.tmp 9]]
def YZ.r2:List (DOp × Bool):=[(qm 12 0,false),(qa 15 11 3,false),(ql 16 15,false),(qf 13 118 [.tmp 12],true),(⟨some 14,none,.q (.build [.str [],.nilsl] [(1,1)]) [.tmp 13]⟩,false),(qf 17 117 [.tmp 14,.tmp 16],false),(qm 11 17,false),(qx 18 0 11,false),(qx 19 1 11,false),(qm 4 18,false),(qm 5 19,false)]
def YZ.r3:=[qm 20 0,qm 21 5,qf 22 56 [.tmp 20,.tmp 21,.cst (.int .i64 8)]]
abbrev YZ.id:Nat:=158
def YZ.an:Ann:=[(0,[0,3]),(1,[0,3]),(2,[0,5]),(3,[]),(1000002,[0,3,4,1,2,5,6,7,8,9,10]),(2000002,[1])]
def YZ.body:DC:=.seq (qR YZ.r0 [0,3]) (.seq (qR YZ.r1 [0,3]) (.seq (.regD [0,3,4,1,2,5,6,7,8,9,10] YZ.r2 (some [0,5])) (qR YZ.r3 [])))
def YZ.df:DF:=⟨23,[],YZ.body⟩
theorem YZ.ok:cf Zuv YZ.an YZ.id=some YZ.df:=by kernel_rfl
def Kt.r0:List DOp:=[qm 2 0,qm 3 0,qm 4 0,⟨some 5,none,.q (.build [.int .i64 0,.nilsl] []) []⟩,qk 6 .nilck 2,qa 7 9 6,⟨none,none,.store1 (.tmp 7) (.cst (.str []))⟩,qk 8 .nilck 3,qa 9 7 8,qS 2 9 5,qk 10 .nilck 4,qa 11 14 10,⟨none,none,.store1 (.tmp 11) (.cst (.int .i64 0))⟩]
abbrev Kt.id:Nat:=159
def Kt.an:Ann:=[(0,[])]
def Kt.body:DC:=qR Kt.r0 []
def Kt.df:DF:=⟨12,[],Kt.body⟩
theorem Kt.ok:cf Zuv Kt.an Kt.id=some Kt.df:=by kernel_rfl
def Y0.r0:=[qB 3 1]
def Y0.r1:List DOp:=[qm 4 0,qa 5 14 3,ql 6 5,⟨some 7,none,.bsl 1 1 [.int .i64 0] [0] [.tmp 6]⟩,qf 8 137 [.tmp 4,.cst (.int .i64 0),.cst (.int .i64 4294967295),.tmp 7]]
def Y0.r2:List DOp:=[qm 9 0,qm 10 0,qk 11 .nilck 10,qa 12 4 11,ql 13 12,qa 14 9 3,ql 15 14,⟨some 16,none,.q (.lookup (.sc .str) (.bool false) false) [.tmp 13,.tmp 15]⟩,qf 17 56 [.tmp 9,.tmp 16,.cst (.int .i64 8)]]
def Y0.r3:=[qm 18 0,qL 19 15 3,qf 20 143 [.tmp 18,.tmp 19]]
abbrev Y0.id:Nat:=160
def Y0.an:Ann:=[(0,[0,3]),(1,[0,3]),(2,[0,3]),(3,[]),(1000002,[0,1,2,3,4,5,6,7,8])]
def Y0.body:DC:=.seq (qR Y0.r0 [0,3]) (.seq (qR Y0.r1 [0,3]) (.seq (.regD [0,1,2,3,4,5,6,7,8] (Jb Y0.r2) (some [0,3])) (qR Y0.r3 [])))
def Y0.df:DF:=⟨21,[],Y0.body⟩
theorem Y0.ok:cf Zuv Y0.an Y0.id=some Y0.df:=by kernel_rfl
def KO.r0:List DOp:=[qB 1 0,⟨some 2,none,.alloc [.str [],.str [],.str [],.str [],.int .i64 0,.int .i64 0,.int .i64 0,.int .i64 0,.int .i64 0,.int .i64 0,.int .i64 0,.bool false,.bool false]⟩]
def KO.r1:List DOp:=[qa 3 0 1,ql 4 3,qa 5 9 1,ql 6 5,qa 7 10 1,ql 8 7,qa 9 11 1,ql 10 9,qa 11 1 1,ql 12 11,qa 13 2 1,ql 14 13,qa 15 5 1,ql 16 15,qa 17 6 1,ql 18 17,qa 19 7 1,qa 20 0 19,ql 21 20,qa 22 13 1,ql 23 22,qa 24 14 1,ql 25 24,qa 26 3 1,ql 27 26,qa 28 4 1,ql 29 28,⟨some 30,none,.q (.build [.str [],.str [],.str [],.str [],.int .i64 0,.int .i64 0,.int .i64 0,.int .i64 0,.int .i64 0,.int .i64 0,.int .i64 0,.bool false,.bool false] [(0,1),(1,1),(2,1),(3,1),(4,1),(5,1),(6,1),(7,1),(8,1),(9,1),(10,1),(11,1),(12,1)]) [.tmp 4,.tmp 6,.tmp 8,.tmp 10,.tmp 12,.tmp 14,.tmp 16,.tmp 18,.tmp 21,.tmp 23,.tmp 25,.tmp 27,.tmp 29]⟩,qS 13 2 30]
abbrev KO.id:Nat:=161
def KO.an:Ann:=[(0,[1,2]),(1,[2])]
def KO.body:DC:=.seq (qR KO.r0 [1,2]) (.seq (qR KO.r1 [2]) .ret)
def KO.df:DF:=⟨31,[.cellN 2 13],KO.body⟩
theorem KO.ok:cf Zuv KO.an KO.id=some KO.df:=by kernel_rfl
def ZI.r0:=[qb 4 false]
def ZI.r1:=[qm 6 0,qk 7 .lenL 6,qm 8 1,qk 9 .lenL 8,qd 10 .neq 7 9]
def ZI.r2:=[qb 4 false]
def ZI.r3:=[qm 11 0,qk 12 .lenL 11,qi 13 0]
def ZI.r4:=[qd 14 .lss 13 12]
def ZI.r5:=[qm 15 13,qm 5 15]
def ZI.r6:List DOp:=[qm 16 0,qm 17 5,qX 18 3 16 17,qL 19 3 18,qm 20 1,qm 21 5,qX 22 3 20 21,qL 23 3 22,⟨some 24,none,.q (.bin .neq (some (.cells [(0,.int),(1,.int),(2,.str)]))) [.tmp 19,.tmp 23]⟩]
def ZI.r7:=[qb 4 false]
def ZI.r8:=[qe 25 .add 13 1,qm 13 25]
def ZI.l0:DC:=.seq (qR ZI.r4 [0,1,12,13,14]) (.seq (qC 14 .skip (.exit 0)) (.seq (.block 1 (.seq (qR ZI.r5 [0,1,5,12,13]) (.seq (.regD [0,1,2,3,4,5,6,7,8] (Jb ZI.r6) (some [0,1,12,13,24])) (qC 24 (.seq (qR ZI.r7 [4]) .ret) .skip)))) (qR ZI.r8 [0,1,12,13])))
def ZI.r9:=[qb 4 true]
abbrev ZI.id:Nat:=162
def ZI.an:Ann:=[(0,[0,1]),(1,[0,1,10]),(2,[4]),(3,[0,1,12,13]),(4,[0,1,12,13,14]),(5,[0,1,5,12,13]),(6,[0,1,12,13,24]),(7,[4]),(8,[0,1,12,13]),(9,[4]),(1000006,[0,1,2,3,4,5,6,7,8])]
def ZI.body:DC:=.seq (qR ZI.r0 [0,1]) (.seq (.seq (qR ZI.r1 [0,1,10]) (qC 10 (.seq (qR ZI.r2 [4]) .ret) .skip)) (.seq (.seq (qR ZI.r3 [0,1,12,13]) (.block 0 (.loop ZI.l0))) (.seq (qR ZI.r9 [4]) .ret)))
def ZI.df:DF:=⟨26,[.tmp 4],ZI.body⟩
theorem ZI.ok:cf Zuv ZI.an ZI.id=some ZI.df:=by kernel_rfl
def ZL.r0:=[qi 4 0]
def ZL.r1:=[qm 6 0,qk 7 .lenL 6,qi 8 0]
def ZL.r2:=[qd 9 .lss 8 7]
def ZL.r3:=[qm 10 8,qm 5 10]
def ZL.r4:=[qm 11 1,qm 12 0,qm 13 5,qX 14 1 12 13,ql 15 14,qd 16 .eql 11 15]
def ZL.r5:=[qm 17 5,qm 4 17]
def ZL.r6:=[qe 18 .add 8 1,qm 8 18]
def ZL.l0:DC:=.seq (qR ZL.r2 [0,1,7,8,9]) (.seq (qC 9 .skip (.exit 0)) (.seq (.block 1 (.seq (qR ZL.r3 [0,1,5,7,8]) (.seq (qR ZL.r4 [0,1,5,7,8,16]) (qC 16 (.seq (qR ZL.r5 [4]) .ret) .skip)))) (qR ZL.r6 [0,1,7,8])))
def ZL.r7:=[qi 4 (-1)]
abbrev ZL.id:Nat:=163
def ZL.an:Ann:=[(0,[0,1]),(1,[0,1,7,8]),(2,[0,1,7,8,9]),(3,[0,1,5,7,8]),(4,[0,1,5,7,8,16]),(5,[4]),(6,[0,1,7,8]),(7,[4])]
def ZL.body:DC:=.seq (qR ZL.r0 [0,1]) (.seq (.seq (qR ZL.r1 [0,1,7,8]) (.block 0 (.loop ZL.l0))) (.seq (qR ZL.r7 [4]) .ret))
def ZL.df:DF:=⟨19,[.tmp 4],ZL.body⟩
theorem ZL.ok:cf Zuv ZL.an ZL.id=some ZL.df:=by kernel_rfl
def Zo.r0:List DOp:=[⟨some 2,none,.q .mv [.cst (.nilsl)]⟩]
def Zo.r1:=[qi 3 0]
def Zo.r2:=[qm 9 0,qk 10 .lenL 9,qi 11 0]
def Zo.r3:=[qd 12 .lss 11 10]
def Zo.r4:=[qX 13 1 9 11,ql 14 13,qm 5 14]
def Zo.r5:=[qm 15 3,qm 16 5,qk 17 .lenL 16,qd 18 .add 15 17,qm 3 18]
def Zo.r6:=[qm 19 3,qe 20 .lss 19 0]
def Zo.r7:List DOp:=[⟨some 21,none,.q (.mkif 9) [.cst (.str [108,101,110,32,111,117,116,32,111,102,32,114,97,110,103,101])]⟩,⟨none,none,.panic (.tmp 21)⟩]
def Zo.r8:=[qe 22 .add 11 1,qm 11 22]
def Zo.l0:DC:=.seq (qR Zo.r3 [0,3,9,10,11,12]) (.seq (qC 12 .skip (.exit 0)) (.seq (.block 1 (.seq (qR Zo.r4 [0,3,5,9,10,11]) (.seq (qR Zo.r5 [0,3,9,10,11]) (.seq (qR Zo.r6 [0,3,9,10,11,20]) (qC 20 (qR Zo.r7 [0,3,9,10,11]) .skip))))) (qR Zo.r8 [0,3,9,10,11])))
def Zo.r9:=[qm 23 3,qf 24 177 [.cst (.nilsl),.tmp 23],qm 6 24]
def Zo.r10:=[qm 25 0,qk 26 .lenL 25,qi 27 0]
def Zo.r11:=[qd 28 .lss 27 26]
def Zo.r12:=[qX 29 1 25 27,ql 30 29,qm 8 30]
def Zo.r13:List DOp:=[qm 31 6,qm 32 8,⟨some 33,none,.append 85 2 24 [.str [],.int .i64 0] (.tmp 31) (.tmp 32)⟩,qm 6 33]
def Zo.r14:=[qe 34 .add 27 1,qm 27 34]
def Zo.l1:DC:=.seq (qR Zo.r11 [6,25,26,27,28]) (.seq (qC 28 .skip (.exit 2)) (.seq (.block 3 (.seq (qR Zo.r12 [6,8,25,26,27]) (qR Zo.r13 [6,25,26,27]))) (qR Zo.r14 [6,25,26,27])))
def Zo.r15:=[qm 35 6,qm 2 35]
abbrev Zo.id:Nat:=164
def Zo.an:Ann:=[(0,[0]),(1,[0,3]),(2,[0,3,9,10,11]),(3,[0,3,9,10,11,12]),(4,[0,3,5,9,10,11]),(5,[0,3,9,10,11]),(6,[0,3,9,10,11,20]),(7,[0,3,9,10,11]),(8,[0,3,9,10,11]),(9,[0,6]),(10,[6,25,26,27]),(11,[6,25,26,27,28]),(12,[6,8,25,26,27]),(13,[6,25,26,27]),(14,[6,25,26,27]),(15,[2])]
def Zo.body:DC:=.seq (qR Zo.r0 [0]) (.seq (qR Zo.r1 [0,3]) (.seq (.seq (qR Zo.r2 [0,3,9,10,11]) (.block 0 (.loop Zo.l0))) (.seq (qR Zo.r9 [0,6]) (.seq (.seq (qR Zo.r10 [6,25,26,27]) (.block 2 (.loop Zo.l1))) (.seq (qR Zo.r15 [2]) .ret)))))
def Zo.df:DF:=⟨36,[.tmp 2],Zo.body⟩
theorem Zo.ok:cf Zuv Zo.an Zo.id=some Zo.df:=by kernel_rfl
def YH.r0:List DOp:=[⟨some 2,none,.q .mv [.cst (.nilsl)]⟩]
def YH.r1:=[qm 5 0,qf 6 179 [.tmp 5],qf 7 178 [.tmp 6],qk 8 .lenL 7,qi 9 0]
def YH.r2:=[qd 10 .lss 9 8]
def YH.r3:=[qX 11 1 7 9,ql 12 11,qm 4 12]
def YH.r4:List DOp:=[qm 13 2,qm 14 4,qm 15 0,qm 16 4,⟨some 17,none,.q (.lookup (.sc .str) (.int .i64 0) false) [.tmp 15,.tmp 16]⟩,⟨some 18,none,.q (.build [.str [],.int .i64 0] [(0,1),(1,1)]) [.tmp 14,.tmp 17]⟩,⟨some 19,none,.bsl 1 2 [.str [],.int .i64 0] [0] [.tmp 18]⟩,⟨some 20,none,.append 85 2 24 [.str [],.int .i64 0] (.tmp 13) (.tmp 19)⟩,qm 2 20]
def YH.r5:=[qe 21 .add 9 1,qm 9 21]
def YH.l0:DC:=.seq (qR YH.r2 [0,2,7,8,9,10]) (.seq (qC 10 .skip (.exit 0)) (.seq (.block 1 (.seq (qR YH.r3 [0,2,4,7,8,9]) (qR YH.r4 [0,2,7,8,9]))) (qR YH.r5 [0,2,7,8,9])))
def YH.r6:=[qm 22 2,qm 2 22]
abbrev YH.id:Nat:=165
def YH.an:Ann:=[(0,[0,2]),(1,[0,2,7,8,9]),(2,[0,2,7,8,9,10]),(3,[0,2,4,7,8,9]),(4,[0,2,7,8,9]),(5,[0,2,7,8,9]),(6,[2])]
def YH.body:DC:=.seq (qR YH.r0 [0,2]) (.seq (.seq (qR YH.r1 [0,2,7,8,9]) (.block 0 (.loop YH.l0))) (.seq (qR YH.r6 [2]) .ret))
def YH.df:DF:=⟨23,[.tmp 2],YH.body⟩
theorem YH.ok:cf Zuv YH.an YH.id=some YH.df:=by kernel_rfl
def Qt.r0:=[qb 2 false]
def Qt.r1:List DOp:=[qm 3 0,⟨some 4,none,.q (.bin .geq (none)) [.tmp 3,.cst (.int .i64 (-1048576))]⟩,qm 5 4,qy 5 (qm 6 0),qy 5 (qe 7 .leq 6 1048576),qO 8 5 7,qm 2 8]
abbrev Qt.id:Nat:=166
def Qt.an:Ann:=[(0,[0]),(1,[2])]
def Qt.body:DC:=.seq (qR Qt.r0 [0]) (.seq (qR Qt.r1 [2]) .ret)
def Qt.df:DF:=⟨9,[.tmp 2],Qt.body⟩
theorem Qt.ok:cf Zuv Qt.an Qt.id=some Qt.df:=by kernel_rfl
def Yd.r0:=[qb 4 false]
def Yd.r1:=[qm 5 0,qm 6 1,qf 7 180 [.tmp 5,.tmp 6],qe 8 .geq 7 0,qm 4 8]
abbrev Yd.id:Nat:=167
def Yd.an:Ann:=[(0,[0,1]),(1,[4])]
def Yd.body:DC:=.seq (qR Yd.r0 [0,1]) (.seq (qR Yd.r1 [4]) .ret)
def Yd.df:DF:=⟨9,[.tmp 4],Yd.body⟩
theorem Yd.ok:cf Zuv Yd.an Yd.id=some Yd.df:=by kernel_rfl
def Qi.r0:=[qB 1 0,qb 2 false]
def Qi.r1:=[qa 3 1 1,ql 4 3,qf 5 166 [.tmp 4],qk 6 .not 5,qm 2 6]
abbrev Qi.id:Nat:=168
def Qi.an:Ann:=[(0,[1]),(1,[2])]
def Qi.body:DC:=.seq (qR Qi.r0 [1]) (.seq (qR Qi.r1 [2]) .ret)
def Qi.df:DF:=⟨7,[.tmp 2],Qi.body⟩
theorem Qi.ok:cf Zuv Qi.an Qi.id=some Qi.df:=by kernel_rfl
def ZF.r0:=[qi 4 0]
def ZF.r1:=[qm 6 0,qk 7 .lenL 6,qi 8 0]
def ZF.r2:=[qd 9 .lss 8 7]
def ZF.r3:=[qm 10 8,qm 5 10]
def ZF.r4:List DOp:=[qm 11 1,qm 12 0,qm 13 5,qX 14 3 12 13,qL 15 3 14,⟨some 16,none,.call (.tmp 11) [.tmp 15]⟩]
def ZF.r5:=[qm 17 5,qm 4 17]
def ZF.r6:=[qe 18 .add 8 1,qm 8 18]
def ZF.l0:DC:=.seq (qR ZF.r2 [0,1,7,8,9]) (.seq (qC 9 .skip (.exit 0)) (.seq (.block 1 (.seq (qR ZF.r3 [0,1,5,7,8]) (.seq (qR ZF.r4 [0,1,5,7,8,16]) (qC 16 (.seq (qR ZF.r5 [4]) .ret) .skip)))) (qR ZF.r6 [0,1,7,8])))
def ZF.r7:=[qi 4 (-1)]
abbrev ZF.id:Nat:=169
def ZF.an:Ann:=[(0,[0,1]),(1,[0,1,7,8]),(2,[0,1,7,8,9]),(3,[0,1,5,7,8]),(4,[0,1,5,7,8,16]),(5,[4]),(6,[0,1,7,8]),(7,[4])]
def ZF.body:DC:=.seq (qR ZF.r0 [0,1]) (.seq (.seq (qR ZF.r1 [0,1,7,8]) (.block 0 (.loop ZF.l0))) (.seq (qR ZF.r7 [4]) .ret))
def ZF.df:DF:=⟨19,[.tmp 4],ZF.body⟩
theorem ZF.ok:cf Zuv ZF.an ZF.id=some ZF.df:=by kernel_rfl
def WC.r0:=[qB 2 0,qb 3 false]
def WC.r1:List DOp:=[ql 5 1,qa 6 0 2,ql 7 6,⟨some 8,none,.q (.lookup (.sc .str) (.bool false) false) [.tmp 5,.tmp 7]⟩,qm 4 8]
def WC.r2:List DOp:=[ql 9 1,qa 10 0 2,ql 11 10,⟨none,none,.mapupd (.sc .str) (.tmp 9) (.tmp 11) (.cst (.bool true))⟩]
def WC.r3:=[(qm 12 4,false),(qm 13 12,false),(qn 13 (qa 14 0 2),false),(qn 13 (ql 15 14),false),(qn 13 (qa 17 1 2),false),(qn 13 (ql 18 17),false),(qn 13 (qe 19 .neq 18 0),false),(qn 13 (qa 20 1 2),false),(qn 13 (ql 21 20),false),(qn 13 (qf 16 57 [.tmp 15]),true),(qn 13 (qf 22 166 [.tmp 21]),true),(qn 13 ⟨some 23,none,.bsl 3 1 [.bool false] [0,1,2] [.tmp 16,.tmp 19,.tmp 22]⟩,false),(qn 13 (qf 24 96 [.tmp 23]),false),(qn 13 (qk 25 .not 24),false),(qo 26 13 25,false),(qm 3 26,false)]
abbrev WC.id:Nat:=170
def WC.an:Ann:=[(0,[1,2]),(1,[1,2,4]),(2,[2,4]),(3,[3]),(1000003,[0,1,2,3,5,6,7,8,9,4,10,11,12,13,14,15]),(2000003,[4,10])]
def WC.body:DC:=.seq (qR WC.r0 [1,2]) (.seq (qR WC.r1 [1,2,4]) (.seq (qR WC.r2 [2,4]) (.seq (.regD [0,1,2,3,5,6,7,8,9,4,10,11,12,13,14,15] WC.r3 (some [3])) .ret)))
def WC.df:DF:=⟨27,[.tmp 3],WC.body⟩
theorem WC.ok:cf Zuv WC.an WC.id=some WC.df:=by kernel_rfl
def Yp.r0:List DOp:=[⟨some 2,none,.q .mv [.cst (.nilsl)]⟩]
def Yp.r1:List DOp:=[qm 3 0,⟨some 4,none,.q (.bin .eql (some .sl)) [.tmp 3,.cst (.nilsl)]⟩]
def Yp.r2:List DOp:=[⟨some 2,none,.q .mv [.cst (.nilsl)]⟩]
def Yp.r3:List DOp:=[⟨some 5,none,.bsl 0 2 [.str [],.int .i64 0] [] []⟩,qm 6 0,⟨some 7,none,.append 85 2 24 [.str [],.int .i64 0] (.tmp 5) (.tmp 6)⟩,qm 2 7]
abbrev Yp.id:Nat:=171
def Yp.an:Ann:=[(0,[0]),(1,[0,4]),(2,[2]),(3,[2])]
def Yp.body:DC:=.seq (qR Yp.r0 [0]) (.seq (.seq (qR Yp.r1 [0,4]) (qC 4 (.seq (qR Yp.r2 [2]) .ret) .skip)) (.seq (qR Yp.r3 [2]) .ret))
def Yp.df:DF:=⟨8,[.tmp 2],Yp.body⟩
theorem Yp.ok:cf Zuv Yp.an Yp.id=some Yp.df:=by kernel_rfl
def YS.r0:=[ql 5 1,qk 6 .lenL 5,qi 7 0]
def YS.r1:=[qd 8 .lss 7 6]
def YS.r2:List DOp:=[qX 9 2 5 7,qL 10 2 9,⟨some 4,none,.alloc [.str [],.int .i64 0]⟩,qS 2 4 10]
def YS.r3:List DOp:=[qm 11 0,qa 12 0 4,ql 13 12,⟨some 14,none,.call (.tmp 11) [.tmp 13]⟩,qk 15 .not 14]
def YS.r4:=[qe 16 .add 7 1,qm 7 16]
def YS.l0:DC:=.seq (qR YS.r1 [0,5,6,7,8]) (.seq (qC 8 .skip (.exit 0)) (.seq (.block 1 (.seq (qR YS.r2 [0,4,5,6,7]) (.seq (qR YS.r3 [0,5,6,7,15]) (qC 15 .ret .skip)))) (qR YS.r4 [0,5,6,7])))
abbrev YS.id:Nat:=172
def YS.an:Ann:=[(0,[0,5,6,7]),(1,[0,5,6,7,8]),(2,[0,4,5,6,7]),(3,[0,5,6,7,15]),(4,[0,5,6,7])]
def YS.body:DC:=.seq (qR YS.r0 [0,5,6,7]) (.block 0 (.loop YS.l0))
def YS.df:DF:=⟨17,[],YS.body⟩
theorem YS.ok:cf Zuv YS.an YS.id=some YS.df:=by kernel_rfl
def Kw.r0:=[qB 1 0,qb 2 false]
def Kw.r1:=[qa 3 1 1,ql 4 3,qe 5 .eql 4 1,qm 6 5,qn 6 (qa 7 1 1),qn 6 (ql 8 7),qn 6 (qe 9 .eql 8 2),qo 10 6 9,qm 11 10,qn 11 (qa 12 1 1),qn 11 (ql 13 12),qn 11 (qe 14 .eql 13 3),qo 15 11 14,qm 2 15]
abbrev Kw.id:Nat:=173
def Kw.an:Ann:=[(0,[1]),(1,[2])]
def Kw.body:DC:=.seq (qR Kw.r0 [1]) (.seq (qR Kw.r1 [2]) .ret)
def Kw.df:DF:=⟨16,[.tmp 2],Kw.body⟩
theorem Kw.ok:cf Zuv Kw.an Kw.id=some Kw.df:=by kernel_rfl
def ZC.r0:=[qi 4 0]
def ZC.r1:=[qm 6 0,qk 7 .lenL 6,qi 8 0]
def ZC.r2:=[qd 9 .lss 8 7]
def ZC.r3:=[qm 10 8,qm 5 10]
def ZC.r4:List DOp:=[qm 11 1,qm 12 0,qm 13 5,qX 14 15 12 13,qL 15 15 14,⟨some 16,none,.call (.tmp 11) [.tmp 15]⟩]
def ZC.r5:=[qm 17 5,qm 4 17]
def ZC.r6:=[qe 18 .add 8 1,qm 8 18]
def ZC.l0:DC:=.seq (qR ZC.r2 [0,1,7,8,9]) (.seq (qC 9 .skip (.exit 0)) (.seq (.block 1 (.seq (qR ZC.r3 [0,1,5,7,8]) (.seq (qR ZC.r4 [0,1,5,7,8,16]) (qC 16 (.seq (qR ZC.r5 [4]) .ret) .skip)))) (qR ZC.r6 [0,1,7,8])))
def ZC.r7:=[qi 4 (-1)]
abbrev ZC.id:Nat:=174
def ZC.an:Ann:=[(0,[0,1]),(1,[0,1,7,8]),(2,[0,1,7,8,9]),(3,[0,1,5,7,8]),(4,[0,1,5,7,8,16]),(5,[4]),(6,[0,1,7,8]),(7,[4])]
def ZC.body:DC:=.seq (qR ZC.r0 [0,1]) (.seq (.seq (qR ZC.r1 [0,1,7,8]) (.block 0 (.loop ZC.l0))) (.seq (qR ZC.r7 [4]) .ret))
def ZC.df:DF:=⟨19,[.tmp 4],ZC.body⟩
theorem ZC.ok:cf Zuv ZC.an ZC.id=some ZC.df:=by kernel_rfl
def Yz.r0:=[qb 4 false]
def Yz.r1:=[qm 5 0,qm 6 1,qf 7 174 [.tmp 5,.tmp 6],qe 8 .geq 7 0,qm 4 8]
abbrev Yz.id:Nat:=175
def Yz.an:Ann:=[(0,[0,1]),(1,[4])]
def Yz.body:DC:=.seq (qR Yz.r0 [0,1]) (.seq (qR Yz.r1 [4]) .ret)
def Yz.df:DF:=⟨9,[.tmp 4],Yz.body⟩
theorem Yz.ok:cf Zuv Yz.an Yz.id=some Yz.df:=by kernel_rfl
def YL.r0:=[qB 2 0,qb 3 false]
def YL.r1:=[qa 4 1 2,ql 5 4,qe 6 .eql 5 9,qm 7 6,qy 7 (qa 8 10 2),qy 7 (ql 9 8),qy 7 (qa 10 10 1),qy 7 (ql 11 10),qy 7 (qd 12 .eql 9 11),qO 13 7 12,qm 3 13]
abbrev YL.id:Nat:=176
def YL.an:Ann:=[(0,[1,2]),(1,[3])]
def YL.body:DC:=.seq (qR YL.r0 [1,2]) (.seq (qR YL.r1 [3]) .ret)
def YL.df:DF:=⟨14,[.tmp 3],YL.body⟩
theorem YL.ok:cf Zuv YL.an YL.id=some YL.df:=by kernel_rfl
def Zt.r0:=[qi 4 0]
def Zt.r1:=[qm 6 0,qk 7 .lenL 6,qi 8 0]
def Zt.r2:=[qd 9 .lss 8 7]
def Zt.r3:=[qm 10 8,qm 5 10]
def Zt.r4:List DOp:=[qm 11 1,qm 12 0,qm 13 5,qX 14 2 12 13,qL 15 2 14,⟨some 16,none,.call (.tmp 11) [.tmp 15]⟩]
def Zt.r5:=[qm 17 5,qm 4 17]
def Zt.r6:=[qe 18 .add 8 1,qm 8 18]
def Zt.l0:DC:=.seq (qR Zt.r2 [0,1,7,8,9]) (.seq (qC 9 .skip (.exit 0)) (.seq (.block 1 (.seq (qR Zt.r3 [0,1,5,7,8]) (.seq (qR Zt.r4 [0,1,5,7,8,16]) (qC 16 (.seq (qR Zt.r5 [4]) .ret) .skip)))) (qR Zt.r6 [0,1,7,8])))
def Zt.r7:=[qi 4 (-1)]
abbrev Zt.id:Nat:=180
def Zt.an:Ann:=[(0,[0,1]),(1,[0,1,7,8]),(2,[0,1,7,8,9]),(3,[0,1,5,7,8]),(4,[0,1,5,7,8,16]),(5,[4]),(6,[0,1,7,8]),(7,[4])]
def Zt.body:DC:=.seq (qR Zt.r0 [0,1]) (.seq (.seq (qR Zt.r1 [0,1,7,8]) (.block 0 (.loop Zt.l0))) (.seq (qR Zt.r7 [4]) .ret))
def Zt.df:DF:=⟨19,[.tmp 4],Zt.body⟩
theorem Zt.ok:cf Zuv Zt.an Zt.id=some Zt.df:=by kernel_rfl
end Go.DL
namespace Go.DL
open Go
inductive LeC:List D→List D→Prop where
 | nil:LeC [] []
 | cons {d d':D} {l l':List D} (h:d.Le d') (t:LeC l l'):LeC (d :: l) (d' :: l')
theorem LeC.refl (l:List D):LeC l l:=by
 induction l with
 | nil=>exact .nil
 | cons d l ih=>exact .cons (Zux d) ih
theorem LeC.len {l l':List D} (h:LeC l l'):l.length=l'.length:=by
 induction h with
 | nil=>rfl
 | cons _ _ ih=>simp [ih]
theorem LeC.get {l l':List D} (h:LeC l l') {i:Nat} {d':D} (hi:l'[i]? = some d'):∃ d,l[i]? = some d∧d.Le d':=by
 induction h generalizing i with
 | nil=>simp at hi
 | cons h _ ih =>
  cases i with
  | zero=>simp at hi; subst hi; exact ⟨_,rfl,h⟩
  | succ i=>exact ih (by simpa using hi)
theorem Zjk {cs cs':List D} (h:LeC cs cs'):(D.agg cs).Le (.agg cs'):=by
 intro g w v hv
 cases hv with
 | agg vs _ hn hr one=>exact .agg vs _ (hn.trans h.len) (fun i v d' hv hd=>by obtain ⟨d,h1,h2⟩:=h.get hd; exact h2 _ _ _ (hr i v d hv h1)) one
theorem Zq9 {cs cs':List D} (h:LeC cs cs'):(D.tup cs).Le (.tup cs'):=by
 intro g w v hv
 cases hv with
 | tup vs _ hn hr=>exact .tup vs _ (hn.trans h.len) (fun i v d' hv hd=>by obtain ⟨d,h1,h2⟩:=h.get hd; exact h2 _ _ _ (hr i v d hv h1))
theorem ZhH {t:Tok} {n s:Nat} {row:Nat→List D}:(D.sl t n s row).Le (.sl .none n s row):=by
 intro g w v hv
 cases hv with
 | sl0 _ _ _ _ ht=>exact .sl0 _ _ _ _ (by simp)
 | sl b o n cap s row t f hl hc hp hr one ht hcap hb=>exact .sl b o n cap s row _ f hl hc hp hr one trivial hcap hb
theorem ZgH {t:Tok} {n s:Nat} {row row':Nat→List D} (h:∀ i,i < n→LeC (row i) (row' i)):(D.sl t n s row).Le (.sl t n s row'):=by
 intro g w v hv
 cases hv with
 | sl0 _ _ _ _ ht=>exact .sl0 _ _ _ _ ht
 | sl b o n cap s row t f hl hc hp hr one ht hcap hb =>
  exact .sl b o n cap s _ _ f (fun i hi=>(h i hi).len.symm.trans (hl i hi)) hc hp (fun i j d hi hd=>by obtain ⟨d',h1,h2⟩:=(h i hi).get hd; exact h2 _ _ _ (hr i j d' hi h1)) one ht hcap hb
theorem Qa {s:Nat} {row:Nat→List D} {t:Tok} (ht:∀ b,t≠.tip b):D.nilsl.Le (.sl t 0 s row):=by
 intro g w v hv; cases hv; exact .sl0 _ _ _ _ ht
theorem D.Le.trans {a b c:D} (h:a.Le b) (h':b.Le c):a.Le c:=fun g w v hv=>h' g w v (h g w v hv)
theorem Zss {t:Tok} {n n' s:Nat} {row row':Nat→List D} (hn:n=n') (h:∀ i,i < n→row i=row' i):(D.sl t n s row).Le (.sl .none n' s row'):=by
 subst hn
 exact ZhH.trans (ZgH fun i hi=>by rw [h i hi]; exact LeC.refl _)
inductive Zl2:E→E→Prop where
 | d {x y:D} (h:x.Le y):Zl2 (.d x) (.d y)
 | refl (e:E):Zl2 e e
inductive LeE:Env→Env→Prop where
 | nil:LeE [] []
 | cons {t:Nat} {e e':E} {ρ ρ':Env} (h:Zl2 e e') (r:LeE ρ ρ'):LeE ((t,e) :: ρ) ((t,e') :: ρ')
 | skip {t:Nat} {e:E} {ρ ρ':Env} (r:LeE ρ ρ'):LeE ((t,e) :: ρ) ((t,e) :: ρ')
inductive LeL:Loc→Loc→Prop where
 | nil:LeL [] []
 | cons {t:Nat} {c c':List D} {ρ ρ':Loc} (h:LeC c c') (r:LeL ρ ρ'):LeL ((t,c) :: ρ) ((t,c') :: ρ')
 | skip {t:Nat} {c:List D} {ρ ρ':Loc} (r:LeL ρ ρ'):LeL ((t,c) :: ρ) ((t,c) :: ρ')
theorem LeE.get {ρ ρ':Env} (h:LeE ρ ρ') {t:Nat} {e':E} (he:WN ρ' t=some e'):∃ e,WN ρ t=some e∧Zl2 e e':=by
 induction h with
 | nil=>simp [WN] at he
 | cons h _ ih =>
  simp only [WN] at he ⊢
  split at he
  ·simp at he; subst he; rename_i ht; rw [if_pos ht]; exact ⟨_,rfl,h⟩
  ·rename_i ht; rw [if_neg ht]; exact ih he
 | skip _ ih =>
  simp only [WN] at he ⊢
  split at he
  ·simp at he; subst he; rename_i ht; rw [if_pos ht]; exact ⟨_,rfl,.refl _⟩
  ·rename_i ht; rw [if_neg ht]; exact ih he
theorem LeL.get {ρ ρ':Loc} (h:LeL ρ ρ') {t:Nat} {e':List D} (he:ZU ρ' t=some e'):∃ e,ZU ρ t=some e∧LeC e e':=by
 induction h with
 | nil=>simp [ZU] at he
 | cons h _ ih =>
  simp only [ZU] at he ⊢
  split at he
  ·simp at he; subst he; rename_i ht; rw [if_pos ht]; exact ⟨_,rfl,h⟩
  ·rename_i ht; rw [if_neg ht]; exact ih he
 | skip _ ih =>
  simp only [ZU] at he ⊢
  split at he
  ·simp at he; subst he; rename_i ht; rw [if_pos ht]; exact ⟨_,rfl,LeC.refl _⟩
  ·rename_i ht; rw [if_neg ht]; exact ih he
theorem LeL.getI {ρ ρ':Loc} (h:LeL ρ ρ') {t:Nat} {e:List D} (he:ZU ρ t=some e):∃ e',ZU ρ' t=some e':=by
 induction h with
 | nil=>simp [ZU] at he
 | cons h _ ih =>
  simp only [ZU] at he ⊢
  split at he
  ·rename_i ht; rw [if_pos ht]; exact ⟨_,rfl⟩
  ·rename_i ht; rw [if_neg ht]; exact ih he
 | skip _ ih =>
  simp only [ZU] at he ⊢
  split at he
  ·rename_i ht; rw [if_pos ht]; exact ⟨_,rfl⟩
  ·rename_i ht; rw [if_neg ht]; exact ih he
theorem Qv.le {g:G} {w:World} {b:Nat} {ds ds':List D} (h:Qv g w b ds) (hl:LeC ds ds'):Qv g w b ds':=by
 obtain ⟨hp,vs,T,h1,h2,h3,h4⟩:=h
 exact ⟨hp,vs,T,h1,h2.trans hl.len,fun i v d' hv hd=>by obtain ⟨d,e1,e2⟩:=hl.get hd; exact e2 _ _ _ (h3 i v d hv e1),h4⟩
theorem YQ.le {g:G} {ν:Nat→Nat} {w:World} {L:Loc} {v:Value} {e e':E} (h:YQ g ν w L v e) (hl:Zl2 e e'):YQ g ν w L v e':=by
 cases hl with
 | refl=>exact h
 | d hd=>exact hd _ _ _ h
theorem Yg.le {g:G} {ν:Nat→Nat} {w:World} {tmps:Array Value} {ρ ρ':Env} {L L':Loc} {s:St} (m:Yg g ν w tmps ρ L s) (hρ:LeE ρ ρ') (hL:LeL L L'):Yg g ν w tmps ρ' L' s:={
 st:=m.st
 loc l cs h:=by obtain ⟨c,h1,h2⟩:=hL.get h; exact (m.loc l c h1).le h2
 locKept l cs h:=by obtain ⟨c,h1,_⟩:=hL.get h; exact m.locKept l c h1
 locSt l cs h:=by obtain ⟨c,h1,_⟩:=hL.get h; exact m.locSt l c h1
 inj l l' cs cs' h h' hν:=by obtain ⟨c,h1,_⟩:=hL.get h; obtain ⟨c',h1',_⟩:=hL.get h'; exact m.inj l l' c c' h1 h1' hν
 env t e h:=by
  obtain ⟨e0,h1,h2⟩:=hρ.get h
  exact ((m.env t e0 h1).le h2).locs fun l cs hc=>⟨hL.getI hc,rfl⟩ }
section
variable {P:Program}
theorem Qz {F:Fr P} {dk:List Z4} {ρ ρ':Env} {L L':Loc} {s:St} (hρ:LeE ρ ρ') (hL:LeL L L') (h:ZT F dk ρ' L' s):ZT F dk ρ L s :=
 fun k hk g ν w tmps hN m=>h k hk g ν w tmps hN (m.le hρ hL)
end
theorem Zai (ρ:Env):LeE ρ ρ:=by
 induction ρ with
 | nil=>exact .nil
 | cons a r ih=>obtain ⟨t,e⟩:=a; exact .cons (.refl _) ih
theorem Q9 (ρ:Loc):LeL ρ ρ:=by
 induction ρ with
 | nil=>exact .nil
 | cons a r ih=>obtain ⟨t,e⟩:=a; exact .cons (LeC.refl _) ih
theorem Zel {l:List D} {cs:List D} (hl:J8 l = .tup l) (h:LeC l cs):(J8 l).Le (.tup cs):=by rw [hl]; exact Zq9 h
theorem Zac {d d':D} (h:d.Le d'):(J8 [d]).Le d':=h
end Go.DL
namespace Go.DL
open Go
def Zb6:Bool→Bool→St→St→Loc→Loc→List Rd→Prop
 | true,_,_,_,_,_,_=>True
 | false,true,s,s',L,L',B=>Jy s s' L L' B
 | false,false,_,_,_,_,_=>True
def ZdC:Bool→Bool→List Rd→List Rd
 | true,_,B=>B
 | false,true,B=>B
 | false,false,_=>[]
def Zf0 (K:Env→Loc→St→Prop) (X:List (DOp × Bool)→Env→Loc→St→List Rd→Prop):List (DOp × Bool)→Env→Loc→St→List Rd→Prop
 | [],ρ,L,s,_=>K ρ L s
 | o :: os,ρ,L,s,B=>match Y8 o.1 ρ L s with
  | .ok side ρ' L' s'=>side∧Zb6 (Q0 o.1.k) o.2 s s' L L' B∧Zf0 K X os ρ' L' s' (Qn o.1 ρ++ZdC (Q0 o.1.k) o.2 B)
  | .all side pre ρ' s'=>side∧∀ b,pre b→Zb6 false o.2 s (s' b) L L B∧Zf0 K X os (ρ' b) L (s' b) (ZdC false o.2 B)
  | .stop=>X (o :: os) ρ L s B
theorem ZhN {K:Env→Loc→St→Prop} {X:List (DOp × Bool)→Env→Loc→St→List Rd→Prop}:∀ {os:List (DOp × Bool)} {ρ:Env} {L:Loc} {s:St} {B:List Rd},Zf0 K X os ρ L s B→ZfZ K X os ρ L s B
 | [],ρ,L,s,B,h=>h
 | o :: os,ρ,L,s,B,h=>by
  simp only [Zf0,ZfZ] at h ⊢
  split at h <;> rename_i hst <;> simp only [hst]
  ·cases hp:Q0 o.1.k
   ·rw [hp] at h
    cases hf:o.2 <;> rw [hf] at h <;> simp only [Zb6,ZdC,Qx,Jn] at h ⊢ <;> exact ⟨h.1,h.2.1,ZhN h.2.2⟩
   ·rw [hp] at h; simp only [Zb6,ZdC] at h; exact ⟨h.1,ZhN h.2.2⟩
  ·refine ⟨h.1,fun b hb=>?_⟩
   have:=h.2 b hb
   cases hf:o.2 <;> rw [hf] at this <;> simp only [Zb6,ZdC,Qx,Jn] at this ⊢ <;> exact ⟨this.1,ZhN this.2⟩
  ·exact h
section
variable {P:Program}
theorem ZM {F:Fr P} {ks:List Nat} {dk:List Z4} {os:List (DOp × Bool)} {ρ:Env} {L:Loc} {s:St} {B:List Rd}
  (h:Zf0 (fun ρ L s=>ZT F dk (QA ρ ks) (ZcT (QA ρ ks) L) s) (fun os ρ L s B=>DOA F (some ks) dk os ρ L s B) os ρ L s B):DOA F (some ks) dk os ρ L s B:=ZhG (ZhN h)
theorem JO {F:Fr P} {kp:Option (List Nat)} {dk:List Z4} {o:DOp} {os:List DOp} {ρ:Env} {L:Loc} {s0:St} (s:St) (t:Tok) (hg:Yu ρ o.guard=some true) {e sz b:Nat} {z:List D} {x y:Opd} (hk:o.k = .append e sz b z x y)
  {p q:Prop} {n m:Nat} {row row2:Nat→List D} {dy:D} {dx:D} (hx:YW ρ true x=some (p,.d dx)) (hsl:ZfS sz dx=some (t,n,row)) (hy:YW ρ true y=some (q,.d dy)) (hel:ZbI sz dy=some (m,row2)) (hp:p) (hq:q) (hs:s0=s.own t (n * sz)) (hok:t.okIn s)
  (hb:(n + m) * b≤140737488355328) (hbig:n + m≤big) (h:∀ t':Tok,t'.okIn s→DO F kp dk os (Wi ρ o.dst (.d (.sl t' (n + m) sz (QN n row row2)))) L (s.own t' ((n + m) * sz))) :
  DO F kp dk (o :: os) ρ L s0:=by
 subst hs; exact ZkU hg hk hx hsl hy hp hq hel hok hb hbig h
theorem Zp3 {F:Fr P} {kp:Option (List Nat)} {dk:List Z4} {o:DOp} {os:List DOp} {ρ:Env} {L:Loc} {s0:St} (s:St) (t:Tok) (hg:Yu ρ o.guard=some true) {e sz b:Nat} {z:List D} {x y:Opd} (hk:o.k = .append e sz b z x y)
  {p q:Prop} {n m:Nat} {row row2:Nat→List D} {dy:D} {dx:D} (hx:YW ρ true x=some (p,.d dx)) (hsl:ZfS sz dx=some (t,n,row)) (hy:YW ρ true y=some (q,.d dy)) (hel:ZbI sz dy=some (m,row2)) (hp:p) (hq:q) (hs:s0=s.own t (n * sz)) (hok:t.okIn s)
  (hb:(n + m) * b≤140737488355328) (hbig:n + m≤big) (h:∀ t':Tok,t'.okIn s→ZbX F kp dk os (Wi ρ o.dst (.d (.sl t' (n + m) sz (QN n row row2)))) L (s.own t' ((n + m) * sz))) :
  ZbX F kp dk (o :: os) ρ L s0:=by
 subst hs; exact Zm9 hg hk hx hsl hy hp hq hel hok hb hbig h
theorem ZhF {F:Fr P} {kp:Option (List Nat)} {dk:List Z4} {o:DOp} {fl:Bool} {os:List (DOp × Bool)} {ρ:Env} {L:Loc} {s0:St} {B:List Rd} (s:St) (t:Tok) (hg:Yu ρ o.guard=some true) {e sz b:Nat} {z:List D} {x y:Opd} (hk:o.k = .append e sz b z x y)
  {p q:Prop} {n m:Nat} {row row2:Nat→List D} {dy:D} {dx:D} (hx:YW ρ true x=some (p,.d dx)) (hsl:ZfS sz dx=some (t,n,row)) (hy:YW ρ true y=some (q,.d dy)) (hel:ZbI sz dy=some (m,row2)) (hp:p) (hq:q) (hs:s0=s.own t (n * sz)) (hok:t.okIn s)
  (hb:(n + m) * b≤140737488355328) (hbig:n + m≤big) (h:∀ t':Tok,t'.okIn s→Zb6 false fl s0 (s.own t' ((n + m) * sz)) L L B∧DOA F kp dk os (Wi ρ o.dst (.d (.sl t' (n + m) sz (QN n row row2)))) L (s.own t' ((n + m) * sz)) (ZdC false fl B)) :
  DOA F kp dk ((o,fl) :: os) ρ L s0 B:=by
 subst hs; refine Zjf hg hk hx hsl hy hp hq hel hok hb hbig fun t' ht'=>?_
 have:=h t' ht'
 cases fl <;> simpa only [Zb6,ZdC,Qx,Jn,if_true,if_false,Bool.false_eq_true] using this
end
end Go.DL
namespace Go.DL
open Go
section
variable {P:Program}
theorem Y4 {an:Ann} {f:FuncId} {df:DF} (hf:cf P an f=some df) {args:List D} {d:D} {s s':St}
  (h:(∀ a∈args,DWf a)→∀ (F:Fr P),(∀ {dk:List Z4} {ρ:Env} {L:Loc} {t:St} {p:Prop} {ds:List D},QQ ρ L t df.res=some (p,ds)→p→(J8 ds).Le d→s'.sub t→ZT F (.code .ret :: dk) ρ L t) →
   ZT F [.code df.body] (Zbs 0 args) [] s):Y3 P f args s d s' :=
 ZgD (ZlO hf) fun hw=>Z2 hf fun F hF=>h hw F fun h1 h2 h3 h4=>hF.ret d s' h1 h2 h3 h4 ⟨rfl,rfl⟩
def VT (P:Program) (f:D) (args:List D) (s:St) (d:D) (s':St):Prop:=J0 P f args s fun r t=>r = .ret d∧t=s'
theorem Y3.VT {f:FuncId} {first args caps:List D} {s s':St} {d:D} (h:Y3 P f (first++args++caps) s d s'):VT P (.fn (.func f) first caps) args s d s':=Yf.V h
theorem ZR.VT {f:FuncId} {first args caps:List D} {d:D} (h:ZR P f (first++args++caps) d) (s:St):VT P (.fn (.func f) first caps) args s d s:=Yf.V (h s)
theorem ZbP {F:Fr P} {kp:Option (List Nat)} {dk:List Z4} {o:DOp} {os:List DOp} {ρ:Env} {L:Loc} {s s':St} (hg:Yu ρ o.guard=some true) {fx:Opd} {xs:List Opd} (hk:o.k = .call fx xs)
  {p q:Prop} {f:D} {es:List E} {ds:List D} (hf:YW ρ true fx=some (q,.d f)) (ha:KT ρ true xs=some (p,es)) (hds:Q3 es=some ds) (hp:p) (hq:q)
  {d:D} (hc:VT P f ds s d s') (h:DO F kp dk os (Wi ρ o.dst (.d d)) L s'):DO F kp dk (o :: os) ρ L s:=Zo6 hg hk hf ha hds hp hq hc h
theorem ZrS {F:Fr P} {kp:Option (List Nat)} {dk:List Z4} {o:DOp} {f:Bool} {os:List (DOp × Bool)} {ρ:Env} {L:Loc} {s s':St} {B:List Rd} (hg:Yu ρ o.guard=some true) {fx:Opd} {xs:List Opd} (hk:o.k = .call fx xs)
  {p q:Prop} {fv:D} {es:List E} {ds:List D} (hf:YW ρ true fx=some (q,.d fv)) (ha:KT ρ true xs=some (p,es)) (hds:Q3 es=some ds) (hp:p) (hq:q)
  {d:D} (hc:VT P fv ds s d s') (hB:Qx f s s' L L B) (h:DOA F kp dk os (Wi ρ o.dst (.d d)) L s' (Jn f B)):DOA F kp dk ((o,f) :: os) ρ L s B :=
 ZeV hg hk hf ha hds hp hq hc (fun d' t ⟨h1,h2⟩=>by simp only [Res.ret.injEq] at h1; subst h1; subst h2; exact ⟨hB,h⟩) (fun d' t ⟨h1,_⟩=>by simp at h1)
theorem Wh.leC {g:G} {w:World} {vs:List Value} {a a':List D} (h:Wh (Rep g w) vs a) (hl:LeC a a'):Wh (Rep g w) vs a':=by
 induction hl generalizing vs with
 | nil=>exact h
 | cons hd _ ih=>cases h with
  | cons h1 h2=>exact .cons (hd g w _ h1) (ih h2)
theorem Yf.leA {f:FuncId} {args args':List D} {s:St} {Φ:Res→St→Prop} (hl:LeC args args') (h:Yf P f args' s Φ):Yf P f args s Φ :=
 ⟨h.1,fun g w vs hs ha=>h.2 g w vs hs (Wh.leC ha hl)⟩
theorem ZR.leA {f:FuncId} {args args':List D} {d:D} (hl:LeC args args') (h:ZR P f args' d):ZR P f args d:=fun s=>Yf.leA hl (h s)
theorem Y3.leA {f:FuncId} {args args':List D} {d:D} {s s':St} (hl:LeC args args') (h:Y3 P f args' s d s'):Y3 P f args s d s':=Yf.leA hl h
theorem LeC.one {d d':D} (h:d.Le d'):LeC [d] [d']:=.cons h .nil
theorem LeC.two {d d' e e':D} (h:d.Le d') (h2:e.Le e'):LeC [d,e] [d',e']:=.cons h (.cons h2 .nil)
end
end Go.DL
namespace Go.DL
open Go
def St.or (s t:St):St:=fun b=>match s b with
 | some o=>some o
 | none=>t b
theorem Zal (s t:St) (b:Nat) (o:KC):(s.or t).upd b o=(s.upd b o).or t:=by
 funext c; simp only [St.or,St.upd]; by_cases h:c=b <;> simp [h]
theorem Yv {s t:St} {b:Nat} {o:KC} (h:s b=some o):(s.or t) b=some o:=by simp [St.or,h]
theorem YR {s t:St} {b:Nat} (h:s b=none):(s.or t) b=t b:=by simp [St.or,h]
theorem Jf (s t:St):s.sub (s.or t):=fun b o h=>Yv h
def WX (s t:St):Prop:=∀ b o,t b=some o→s b=none
theorem or_assoc (s t u:St):(s.or t).or u=s.or (t.or u):=by
 funext b; simp only [St.or]; cases s b <;> rfl
theorem ZrC {s t:St} (h:WX s t):s.or t=t.or s:=by
 funext b; simp only [St.or]
 cases ht:t b with
 | none=>cases s b <;> rfl
 | some o=>rw [h b o ht]
def St.single (b:Nat) (o:KC):St:=fun c=>if c=b then some o else none
theorem Qh (b:Nat) (o:KC):(St.single b o) b=some o:=by simp [St.single]
theorem ZaN {b c:Nat} (o:KC) (h:c≠b):(St.single b o) c=none:=by simp [St.single,h]
theorem J2 {s:St} {b:Nat} {o:KC} (h:s b=none):s.upd b o=s.or (St.single b o):=by
 funext c; simp only [St.or,St.upd,St.single]
 by_cases hc:c=b
 ·subst hc; simp [h]
 ·simp only [hc,if_false]; cases s c <;> rfl
theorem J9 {s:St} {b:Nat} {o:KC} (h:s b=none):WX s (St.single b o):=fun c x hc=>by
 simp only [St.single] at hc; split at hc
 ·rename_i e; rw [e]; exact h
 ·simp at hc
def G.keep (g:G) (k:Nat→Prop):G:={ g with kept:=k }
theorem Zaq {g:G} {k:Nat→Prop} {w:World} {v:Value} {d:D} (h:Rep g w v d):Rep (g.keep k) w v d:=h.mono0 (fun _=>ZuO _) (fun _ _ _=>rfl) (fun _ _ h=>h)
theorem ZpM {g:G} {k:Nat→Prop} {ν:Nat→Nat} {w:World} {L:Loc} {v:Value} {e:E} (h:YQ g ν w L v e):YQ (g.keep k) ν w L v e:=by
 induction e with
 | d d=>exact Zaq h
 | loc l off=>exact h
 | when c e ih=>exact ⟨fun hc=>ih (h.1 hc),h.2⟩
theorem Zl8 {g:G} {k:Nat→Prop} {w:World} {b:Nat} {ds:List D} (h:Qv g w b ds):Qv (g.keep k) w b ds:=by
 obtain ⟨hp,vs,T,h1,h2,h4,h5⟩:=h
 exact ⟨hp,vs,T,h1,h2,fun i v d hv hd=>Zaq (h4 i v d hv hd),h5⟩
theorem Zj6 {g:G} {k:Nat→Prop} {w:World} {b:Nat} {o:KC} (h:Jk g w b o):Jk (g.keep k) w b o:=by
 cases o with
 | cells ds=>exact Zl8 h
 | map es =>
  obtain ⟨hp0,en,clock,h1,h2,h3,h4,h5,h6⟩:=h
  exact ⟨hp0,en,clock,h1,h2,fun i x d hv hd=>Zaq (h3 i x d hv hd),fun i x d hv hd=>Zaq (h4 i x d hv hd),h5,h6⟩
 | tip n=>exact h
 | mapE kp es kk n =>
  obtain ⟨hp0,io,hio,en,clock,h1,h2,h3,h4,h5,h6,h7⟩:=h
  exact ⟨hp0,io,hio,en,clock,h1,h2,fun i x d hi hv hd=>Zaq (h3 i x d hi hv hd),fun i x d hi hv hd=>Zaq (h4 i x d hi hv hd),fun e he=>⟨Zaq (h5 e he).1,(h5 e he).2⟩,h6,h7⟩
 | loop r st =>
  obtain ⟨hp,l,h1,h2,h3,h4,h5,h6,h7,h8,h9⟩:=h
  exact ⟨hp,l,h1,h2,h3,h4,h5,h6,h7,fun t e he=>ZpM (h8 t e he),h9⟩
 | dfr=>exact h
theorem Wh.imp {α β:Type} {R S:α→β→Prop} {as9:List α} {bs:List β} (h:Wh R as9 bs) (hi:∀ a b,R a b→S a b):Wh S as9 bs:=by
 induction h with
 | nil=>exact .nil
 | cons h _ ih=>exact .cons (hi _ _ h) ih
theorem Zqx {g:G} {w:World} {s t:St} (hd:WX s t) (h:KS g (s.or t) w):KS (g.keep fun b=>g.kept b∨(t b).isSome) s w:={
 obj b o hb:=Zj6 (h.obj b o (Yv hb))
 kept b o hb:=by
  rintro (hk | hk)
  ·exact h.kept b o (Yv hb) hk
  ·obtain ⟨x,hx⟩:=Option.isSome_iff_exists.1 hk
   rw [hd b x hx] at hb; simp at hb
 fresh b hb:=by
  have h1:=h.fresh b hb
  refine ⟨h1.1,?_⟩
  rintro (hk | hk)
  ·exact h1.2 hk
  ·obtain ⟨x,hx⟩:=Option.isSome_iff_exists.1 hk
   have:=(h.obj b x (by rw [YR (hd b x hx)]; exact hx)).lt
   omega }
theorem Zpu {g:G} {w w':World} {s t:St} {Φ:Res→St→Prop} {e:Ending} (hd:WX s t) (h:KS g (s.or t) w) (hp:Zfo (g.keep fun b=>g.kept b∨(t b).isSome) w Φ e w') :
  Zfo g w (fun r S=>∃ s',Φ r s'∧WX s' t∧S=s'.or t) e w':=by
 obtain ⟨g',s',r,he,hs,hr,hΦ⟩:=hp
 have hkeq:=he.keptEq
 have he':Ext g w (g'.keep g.kept) w':=⟨he.size,he.prot,he.cell,he.hdr,fun b hb=>he.kept b (.inl hb),fun b hb=>he.keptProt b (.inl hb),rfl,he.os,he.output,he.tape⟩
 have hd':WX s' t:=fun b o hb=>by
  cases hsb:s' b with
  | none=>rfl
  | some x=>exact absurd (by rw [hkeq]; exact .inr (by rw [hb]; rfl)) (hs.kept b x hsb)
 refine ⟨g'.keep g.kept,s'.or t,r,he',⟨fun b o hb=>?_,fun b o hb=>?_,fun b hb=>?_⟩,?_,s',hΦ,hd',rfl⟩
 ·cases hsb:s' b with
  | some x =>
   rw [Yv hsb] at hb; cases hb
   exact Zj6 (hs.obj b _ hsb)
  | none =>
   rw [YR hsb] at hb
   have h0:=h.obj b o (by rw [YR (hd b o hb)]; exact hb)
   have hk:(g.keep fun b=>g.kept b∨(t b).isSome).kept b:=.inr (by rw [hb]; rfl)
   exact h0.mono he' (he.kept b hk) (he.keptProt b hk)
 ·cases hsb:s' b with
  | some x=>exact fun hk=>hs.kept b x hsb (by rw [hkeq]; exact .inl hk)
  | none =>
   rw [YR hsb] at hb
   exact h.kept b o (by rw [YR (hd b o hb)]; exact hb)
 ·have:=hs.fresh b hb
  exact ⟨this.1,fun hk=>this.2 (by rw [hkeq]; exact .inl hk)⟩
 ·cases e <;> cases r <;> simp only [Zq1] at hr ⊢
  ·exact Zaq hr
  ·obtain ⟨v,h1,h2⟩:=hr; exact ⟨v,h1,Zaq h2⟩
section
variable {P:Program}
theorem J0.frame {f:D} {args:List D} {s t:St} {Φ:Res→St→Prop} (hd:WX s t) (h:J0 P f args s Φ):J0 P f args (s.or t) fun r S=>∃ s',Φ r s'∧WX s' t∧S=s'.or t:=by
 intro g w fv vs hs hf ha
 obtain ⟨d,nx,fr,h1,h2,h3,h4⟩:=h _ w fv vs (Zqx hd hs) (Zaq hf) (ha.imp fun _ _=>Zaq)
 refine ⟨d,nx,fr,h1,h2,h3,fun c cs=>?_⟩
 obtain ⟨e,w',h5,h6⟩:=h4 c cs
 exact ⟨e,w',Zpu hd hs h5,h6⟩
end
end Go.DL
namespace Go.DL
open Go
section
variable {P:Program}
theorem Zlt {an:Ann} {l N:Nat} {r:Jc} {s:St} {da db:DC} {args:List D} {Φ:Res→St→Prop} (hs:s l=some (.loop r .ready)) (hlen:args.length=r.params.length) (ha:cc P an N r.assign=some da) (hb:cc P an N r.body=some db) (hN:r.N=N)
  (hp:∀ t∈r.params,t < N) (h:∀ F:Fr P,ZaB F l Φ→F.b.fn=r.fn→ZT F [.code da,.beginR,.code db] (ZaE r.params args r.ρ) [] s):J0 P (.fn (.yield l) [] []) args s Φ:=by
 intro g w fv vs hst hf hargs
 cases hf with
 | fn _ fs cs' _ _ hn1 hn2 h1 h2 =>
 obtain rfl:fs=[]:=by simpa using hn1
 obtain rfl:cs'=[]:=by simpa using hn2
 obtain ⟨hp0,l0,a1,a2,a3,a4,a5,a6,a7,a8,a9,a10⟩:=hst.obj l _ hs
 have hsize:vs.toArray.size=l0.params.size:=by
  have e1:=hargs.len
  have e2:l0.params.toList.length=r.params.length:=by rw [a3]
  simp at e2 ⊢; omega
 refine ⟨_,_,_,by simp [Deferred.ofValue]; rfl,by simp [invoke,Instr.yield,Instr.getLoop,Zbw a1,hsize]; rfl,rfl,fun c cs=>?_⟩
 have M:Yg g (fun _=>0) w l0.tmps r.ρ [] s:=⟨hst,fun l cs h=>by simp [ZU] at h,fun l cs h=>by simp [ZU] at h,fun l cs h=>by simp [ZU] at h,fun l l' cs cs' h=>by simp [ZU] at h,a8⟩
 obtain ⟨hN',M'⟩:=Zkb M hargs hlen (by rw [hN] at *; exact hp) (by rw [← hN]; exact a7)
 have:=h (Zdn P an r.fn N l c cs Φ) ⟨an,r.fn,N,c,cs,rfl⟩ rfl [.code r.assign,.beginRound,.code r.body] (.code ha (.beginR (.code hb .nil))) g (fun _=>0) w _ hN' M'
 have hfr:(Zdn P an r.fn N l c cs Φ).b.atR { tmps:=(r.params.zip vs).foldl (fun tmps (x:Nat × Value)=>tmps.setIfInBounds x.1 x.2) l0.tmps,defers:=[] } [.code r.assign,.beginRound,.code r.body] =
   Frame.round l l0.fn ((l0.params.zip vs.toArray).foldl (fun tmps (x:Nat × Value)=>tmps.setIfInBounds x.1 x.2) l0.tmps) l0.assign l0.body .normal:=by
  simp only [Frame.atR,Frame.round,Zdn,a2,a4,a5,← a3]
  congr 1
  rw [← Array.foldl_toList]
  simp
 have e:(Zdn P an r.fn N l c cs Φ).ds=[]:=rfl
 rw [e,hfr] at this
 have e2:(l0.params.zip vs.toArray).size=l0.params.size:=by simp at hsize ⊢; omega
 rw [e2] at this
 exact this
theorem Zl1 {F:Fr P} (hr:F.b.roundOf=none) {o:Opd} {ps:List Nat} {da db:DC} {dk:List Z4} {ρ:Env} {L:Loc} {s:St} {p:Prop} {fv:D} (hf:YW ρ true o=some (p,.d fv)) (hp:p) (ks:List Nat) (hks:(QA ρ ks).map (·.1) |>.Nodup)
  (h:∀ q l r,s q=none→s l=none→q≠l→r.ρ=Zbe ks ρ→r.params=ps→r.fn=F.b.fn→cc P F.an F.N r.assign=some da→cc P F.an F.N r.body=some db→r.N=F.N→(∀ t∈ps,t < F.N) →
   ∃ Ψ,J0 P fv [.fn (.yield l) [] []] ((s.upd q .dfr).upd l (.loop r .ready)) Ψ∧(∀ d s',Ψ (.ret d) s'→ZkX (F.mark q) l r dk ρ L s')∧(∀ d s',Ψ (.panic d) s'→QM (F.mark q) ρ L d s')) :
  ZT F (.code (.rangeF o ps da db) :: dk) ρ L s:=by
 intro k hk
 cases hk with
 | @code _ _ kt _ hc ht =>
 obtain ⟨f',ps',a',b',rfl,hf',hps,ha,hb,hlt⟩:=Zpe hc
 intro g ν w tmps hN m
 have hfr:Rep g w _ fv:=K2 m hf' rfl hf hp F.ds
 have hg1:=Zdj (g:=g) (w:=w) (.deferred (some [])) m.st.fresh
 have he1:=hg1.ext m.st.fresh
 obtain ⟨hq,m1⟩:=m.newObj hg1 (o:=.dfr) ⟨(m.st.fresh _ (ZuO _)).1,ZbD w _⟩
 let w1:=w.alloc (.deferred (some []))
 let lp:Go.Loop:={ state:=.ready,pending:=none,fn:=F.b.fn,tmps:=tmps,params:=ps',assign:=a',body:=b',defers:=w.heap.size }
 let r:Jc:={ fn:=F.b.fn,params:=ps,assign:=a',body:=b',defers:=w.heap.size,ρ:=Zbe ks ρ,N:=F.N }
 have hg2:=Zdj (g:=g) (w:=w1) (.loop lp) m1.st.fresh
 have he2:=hg2.ext m1.st.fresh
 obtain ⟨hl,m2⟩:=m1.newObj hg2 (o:=.loop r .ready) ⟨(m1.st.fresh _ (ZuO _)).1,lp,ZbD w1 _,rfl,hps,rfl,rfl,rfl,hN,fun t e het=>by
  obtain ⟨h1,h2⟩:=Zf3 hks het
  exact ZoK (((m1.env t e (ZeY ρ ks t e h1))).mono he2) h2,rfl,rfl⟩
 have hqsz:w1.heap.size=w.heap.size + 1:=by simp [w1]
 have hl':s w1.heap.size=none:=by
  have hne:¬ w1.heap.size=w.heap.size:=by omega
  have h0:(s.upd w.heap.size .dfr) w1.heap.size=none:=hl
  simp only [St.upd,hne,if_false] at h0
  exact h0
 obtain ⟨Ψ,hV,hret,hpan⟩:=h w.heap.size w1.heap.size r hq hl' (by omega) rfl rfl rfl ha hb rfl hlt
 have hrep2:Rep g (w1.alloc (.loop lp)) _ fv:=(hfr.mono he1).mono he2
 obtain ⟨d,nx,fr,hd1,hd2,hd3,hC⟩:=hV (ZfT g ν L) (w1.alloc (.loop lp)) _ [.func (.yield w1.heap.size) #[] #[]] m2.callSt (Jp hrep2 rfl) (.cons (.fn (.yield w1.heap.size) [] [] [] [] rfl rfl (by simp) (by simp)) .nil)
 have henter:(Instr.enterLoop F.b.fn tmps ps' a' b' F.b.roundOf).run P w = .ok (w1.heap.size,[{ target:=.collected w.heap.size,args:=#[] }]) (w1.alloc (.loop lp)):=by
  rw [hr]; simp [Instr.enterLoop,w1,lp]
 have hstep:=ZkP (P:=P) (b:=F.b) (a:=⟨tmps,F.ds⟩) (k:=kt) (cs:=F.cs) henter hd1 hd2 hd3
 obtain ⟨e,w',⟨g',s',res,x1,x2,x3,x4⟩,hback⟩:=hC (F.b.atR { tmps:=tmps,defers:=[{ target:=.collected w.heap.size,args:=#[] }]++F.ds } (.inRangeFunc w1.heap.size :: kt)) F.cs
 obtain ⟨hext,hm⟩:=m2.afterCall x1 x2
 have hext':=(he1.trans he2).trans hext
 cases e with
 | returned v =>
  cases res with
  | panic d=>exact x3.elim
  | ret d =>
   refine F.T.back _ _ _ _ (.head hstep hback) ?_
   rw [finish_atR_inRangeFunc]
   exact F.T.ext _ _ _ _ _ hext' (ZoI (F:=F.mark w.heap.size) ht hN hm (hret d s' x4))
 | panicked ch =>
  cases res with
  | ret d=>exact x3.elim
  | panic d =>
   obtain ⟨v,rfl,hv⟩:=x3
   refine F.T.back _ _ _ _ (.head hstep hback) ?_
   rw [Frame.raise_atR]
   exact F.T.ext _ _ _ _ _ hext' (hpan d s' x4 _ _ _ v _ _ hN hm (Jp hv rfl))
 | outgrown=>exact hback.elim
theorem Zol {F:Fr P} {ρ:Env} {L:Loc} {d:D} {s s':St} (hs:s'.sub s) (h:QM F ρ L d s'):QM F ρ L d s :=
 fun g ν w v todo tmps hN m hr=>h g ν w v todo tmps hN (m.sub hs) hr
inductive Oc where
 | next
 | stop (c:Code)
 | pan (d:D)
def Oc.res:Oc→Res
 | .next=>.ret (.bool true)
 | .stop _=>.ret (.bool false)
 | .pan d=>.panic d
def Zdb (P:Program) (y:D) (n:Nat) (args:Nat→List D) (go:Nat→Oc) (A:Nat→St→Prop):Prop :=
 ∀ j,j < n→(∀ i,i < j→go i = .next)→∀ a,A j a→J0 P y (args j) a fun r a'=>r=(go j).res∧A (j + 1) a'
inductive Zjj (n:Nat) (go:Nat→Oc) (A:Nat→St→Prop) (a:St):Res→Prop where
 | all (h:∀ i,i < n→go i = .next) (ha:A n a):Zjj n go A a (.ret (.tup []))
 | stop (m:Nat) (c:Code) (hm:m < n) (h:∀ i,i < m→go i = .next) (hc:go m = .stop c) (ha:A (m + 1) a):Zjj n go A a (.ret (.tup []))
 | pan (m:Nat) (d:D) (hm:m < n) (h:∀ i,i < m→go i = .next) (hc:go m = .pan d) (ha:A (m + 1) a):Zjj n go A a (.panic d)
def Zcj (P:Program) (fv:D) (n:Nat) (args:Nat→List D) (t:St):Prop :=
 ∀ (y:D) (go:Nat→Oc) (A:Nat→St→Prop) (a0:St),Zdb P y n args go A→A 0 a0→WX a0 t→J0 P fv [y] (a0.or t) fun r S=>∃ a,Zjj n go A a r∧a.sub S
def lpS (q l:Nat) (r:Jc) (st:LSt):St:=(St.single q .dfr).or (St.single l (.loop r st))
structure Zl4 (F:Fr P) (busy:St) (E:Oc→St→Prop):Prop where
 fin:∀ {ρ:Env} {L:Loc} {S a:St},E .next a→WX a busy→(a.or busy).sub S→ZT F [] ρ L S
 ret:∀ {dk:List Z4} {ρ:Env} {L:Loc} {S a:St},E (.stop .ret) a→WX a busy→(a.or busy).sub S→ZT F (.code .ret :: dk) ρ L S
 exit:∀ {id:Nat} {dk:List Z4} {ρ:Env} {L:Loc} {S a:St},Zax id dk=none→E (.stop (.exit id)) a→WX a busy→(a.or busy).sub S→ZT F (.code (.exit id) :: dk) ρ L S
 pan:∀ {ρ:Env} {L:Loc} {d:D} {S a:St},E (.pan d) a→WX a busy→(a.or busy).sub S→QM F ρ L d S
theorem Ql.ex {F:Fr P} {rs:List RV} {Φ:Res→St→Prop} {dds:List DD} (hF:Ql F rs Φ dds):∃ f,P.funcs[F.b.fn]? = some f:=by
 obtain ⟨an,f,df,cs,hf,hrs,rfl⟩:=hF
 obtain ⟨fn,h,_⟩:=ZlO hf
 exact ⟨fn,h⟩
theorem Zbt {q l:Nat} {r:Jc} {st:LSt}:(lpS q l r st) q=some .dfr:=Yv (Qh _ _)
theorem J7 {q l:Nat} {r:Jc} {st:LSt} (h:q≠l):(lpS q l r st) l=some (.loop r st):=by
 unfold lpS; rw [YR (ZaN _ (Ne.symm h))]; exact Qh _ _
theorem ZeB {q l c:Nat} {r:Jc} {st:LSt} (h1:c≠q) (h2:c≠l):(lpS q l r st) c=none:=by
 unfold lpS; rw [YR (ZaN _ h1)]; exact ZaN _ h2
theorem ZmB {q l:Nat} {r r':Jc} {st st':LSt} {a:St} (h:WX a (lpS q l r st)) (hq:q≠l):WX a (lpS q l r' st'):=fun b o hb=>by
 by_cases h1:b=q
 ·rw [h1]; exact h q _ Zbt
 ·by_cases h2:b=l
  ·rw [h2]; exact h l _ (J7 hq)
  ·rw [ZeB h1 h2] at hb; simp at hb
theorem ZkB {q l:Nat} {r:Jc} {st st':LSt} {a S:St} (hq:q≠l) (hd:WX a (lpS q l r st)) (hs:(a.or (lpS q l r st)).sub S):(a.or (lpS q l r st')).sub (S.upd l (.loop r st')):=fun b o hb=>by
 by_cases h2:b=l
 ·subst h2
  rw [YR (hd b _ (J7 hq)),J7 hq] at hb
  rw [ZuB]; exact hb
 ·rw [ZuE _ _ h2]
  refine hs b o ?_
  by_cases h1:b=q
  ·subst h1
   rw [YR (hd b _ Zbt),Zbt] at hb ⊢; exact hb
  ·cases ha:a b with
   | some x=>rw [Yv ha] at hb ⊢; exact hb
   | none=>rw [YR ha,ZeB h1 h2] at hb; simp at hb
theorem ZnF {F:Fr P} {q l:Nat} {r:Jc} {Φ:Res→St→Prop} (hF:ZaB F l Φ) (hq:q≠l) (hex:∃ f,P.funcs[F.b.fn]? = some f) {E:Oc→St→Prop}
  (hΦ:∀ oc a,E oc a→WX a (lpS q l r .busy)→Φ oc.res (a.or (lpS q l r (match oc with | .next=>.ready | .stop c=>.done c | .pan _=>.busy)))):Zl4 F (lpS q l r .busy) E:={
 fin he hd hs:=hF.fin (s':=_) (hs l _ (by rw [YR (hd l _ (J7 hq))]; exact J7 hq)) (ZkB hq hd hs) (hΦ .next _ he hd)
 ret he hd hs:=hF.ret (hs l _ (by rw [YR (hd l _ (J7 hq))]; exact J7 hq)) (ZkB hq hd hs) (hΦ (.stop .ret) _ he hd)
 exit hx he hd hs:=hF.exit hx (hs l _ (by rw [YR (hd l _ (J7 hq))]; exact J7 hq)) (ZkB hq hd hs) (hΦ (.stop (.exit _)) _ he hd)
 pan he hd hs:=hF.pan hs (hΦ (.pan _) _ he hd) fun an fn N c cs e=>by
  obtain ⟨f,hf⟩:=hex
  refine ⟨f,?_⟩
  have:F.b.fn=fn:=by rw [e]; rfl
  rw [← this]; exact hf }
theorem ZbQ {F:Fr P} {rs:List RV} {Φ:Res→St→Prop} {dds:List DD} (hF:Ql F rs Φ dds) {o:Opd} {ps:List Nat} {da db:DC} {dk:List Z4} {ρ:Env} {L:Loc} {p:Prop} {fv:D} (hf:YW ρ true o=some (p,.d fv)) (hp:p)
  (ks:List Nat) (hks:(QA ρ ks).map (·.1) |>.Nodup) {a0 t:St} (hd:WX a0 t) {n:Nat} {args:Nat→List D} (hit:Zcj P fv n args t) (hlen:∀ j,j < n→(args j).length=ps.length) (go:Nat→Oc) (B:Nat→St→Prop) (h0:B 0 a0)
  (hbody:∀ j a,j < n→(∀ i,i < j→go i = .next)→B j a→∀ (F':Fr P) (ready busy:St),WX a ready →
   (∀ {dk:List Z4} {ρ:Env} {L:Loc},(WX a busy→ZT F' dk ρ L (a.or busy))→ZT F' (.beginR :: dk) ρ L (a.or ready)) →
   Zl4 F' busy (fun oc a'=>oc=go j∧B (j + 1) a')→ZT F' [.code da,.beginR,.code db] (ZaE ps (args j) (Zbe ks ρ)) [] (a.or ready))
  (hall:∀ q a,(∀ i,i < n→go i = .next)→B n a→a q=none→ZT (F.mark q) dk ρ L (a.upd q .dfr))
  (hret:∀ q a m,m < n→(∀ i,i < m→go i = .next)→go m = .stop .ret→B (m + 1) a→a q=none→ZT (F.mark q) (.code .ret :: dk) ρ L (a.upd q .dfr))
  (hexit:∀ q a m id,m < n→(∀ i,i < m→go i = .next)→go m = .stop (.exit id)→B (m + 1) a→a q=none→ZT (F.mark q) (.code (.exit id) :: dk) ρ L (a.upd q .dfr))
  (hpan:∀ q a m d,m < n→(∀ i,i < m→go i = .next)→go m = .pan d→B (m + 1) a→a q=none→QM (F.mark q) ρ L d (a.upd q .dfr))
  (hgo:∀ m c,go m = .stop c→c = .ret∨∃ id,c = .exit id) :
  ZT F (.code (.rangeF o ps da db) :: dk) ρ L (a0.or t):=by
 refine Zl1 hF.roundOf hf hp ks hks fun q l r hq hl hql hr1 hr2 hr3 hca hcb hr4 hps=>?_
 have hq1:a0 q=none:=by cases h:a0 q with | none=>rfl | some x=>rw [Yv h] at hq; simp at hq
 have hl1:a0 l=none:=by cases h:a0 l with | none=>rfl | some x=>rw [Yv h] at hl; simp at hl
 have hq2:t q=none:=by rw [YR hq1] at hq; exact hq
 have hl2:t l=none:=by rw [YR hl1] at hl; exact hl
 let stOf:Nat→LSt:=fun j=>match j with
  | 0=>.ready
  | j + 1=>match go j with
   | .next=>.ready
   | .stop c=>.done c
   | .pan _=>.busy
 let A:Nat→St→Prop:=fun j S=>∃ a,B j a∧WX a (lpS q l r .ready)∧S=a.or (lpS q l r (stOf j))
 have hd0:WX a0 (lpS q l r .ready):=fun b o hb=>by
  by_cases h1:b=q
  ·rw [h1]; exact hq1
  ·by_cases h2:b=l
   ·rw [h2]; exact hl1
   ·rw [ZeB h1 h2] at hb; simp at hb
 have hst:(((a0.or t).upd q .dfr).upd l (.loop r .ready))=(a0.or (lpS q l r .ready)).or t:=by
  funext b
  simp only [St.upd]
  by_cases h2:b=l
  ·subst h2; rw [if_pos rfl,Yv (s:=a0.or _) (by rw [YR hl1]; exact J7 hql)]
  ·rw [if_neg h2]
   by_cases h1:b=q
   ·subst h1; rw [if_pos rfl,Yv (s:=a0.or _) (by rw [YR hq1]; exact Zbt)]
   ·rw [if_neg h1]
    cases ha:a0 b with
    | some x=>rw [Yv ha,Yv (Yv ha)]
    | none=>rw [YR ha,YR (s:=a0.or _) (by rw [YR ha]; exact ZeB h1 h2)]
 have hd1:WX (a0.or (lpS q l r .ready)) t:=fun b o hb=>by
  rw [YR (hd b o hb)]
  exact ZeB (fun e=>by rw [e,hq2] at hb; simp at hb) (fun e=>by rw [e,hl2] at hb; simp at hb)
 have hex:=hF.ex
 have hcons:Zdb P (.fn (.yield l) [] []) n args go A:=by
  rintro j hj hnx S ⟨a,hBj,hda,rfl⟩
  have hsj:stOf j = .ready:=by
   cases j with
   | zero=>rfl
   | succ j=>simp only [stOf,hnx j (by omega)]
  rw [hsj]
  refine Zlt (an:=F.an) (N:=F.N) (r:=r) (by rw [YR (hda l _ (J7 hql))]; exact J7 hql) (by rw [hr2]; exact hlen j hj) hca hcb hr4 (by rw [hr2]; exact hps) fun F' hF' hfn=>?_
  rw [hr1,hr2]
  refine hbody j a hj hnx hBj F' (lpS q l r .ready) (lpS q l r .busy) hda (fun hk=>hF'.begin (r:=r) (by rw [YR (hda l _ (J7 hql))]; exact J7 hql) ?_) ?_
  ·have e:(a.or (lpS q l r .ready)).upd l (.loop r .busy)=a.or (lpS q l r .busy):=by
    funext b
    simp only [St.upd]
    by_cases h2:b=l
    ·subst h2; rw [if_pos rfl,YR (hda b _ (J7 hql)),J7 hql]
    ·rw [if_neg h2]
     by_cases h1:b=q
     ·subst h1; rw [YR (hda b _ Zbt),YR (hda b _ Zbt),Zbt,Zbt]
     ·cases ha:a b with
      | some x=>rw [Yv ha,Yv ha]
      | none=>rw [YR ha,YR ha,ZeB h1 h2,ZeB h1 h2]
   rw [e]; exact hk (ZmB hda hql)
  ·refine ZnF hF' hql (by rw [hfn,hr3]; exact hex) ?_
   rintro oc a' ⟨rfl,hB'⟩ hda'
   exact ⟨rfl,a',hB',ZmB hda' hql,rfl⟩
 refine ⟨_,by rw [hst]; exact hit _ go A _ hcons ⟨a0,h0,hd0,rfl⟩ hd1,?_,?_⟩
 ·rintro d S ⟨S',hend,hsub⟩
  have fin:∀ a,WX a (lpS q l r .ready)→∀ st,(a.or (lpS q l r st)).sub S→S l=some (.loop r st)∧(a.upd q .dfr).sub (S.del l)∧a q=none:=fun a hda st hs=>by
   refine ⟨hs l _ (by rw [YR (hda l _ (J7 hql))]; exact J7 hql),fun b o hb=>?_,hda q _ Zbt⟩
   have hbl:b≠l:=fun e=>by
    subst e
    rw [ZuE _ _ (Ne.symm hql),hda b _ (J7 hql)] at hb; simp at hb
   simp only [St.del,hbl,if_false]
   by_cases h1:b=q
   ·subst h1; rw [ZuB] at hb; exact hs b o (by rw [YR (hda b _ Zbt),Zbt]; exact hb)
   ·rw [ZuE _ _ h1] at hb; exact hs b o (Yv hb)
  cases hend with
  | all h ha =>
   obtain ⟨a,hB,hda,rfl⟩:=ha
   have hsn:stOf n = .ready:=by
    cases n with
    | zero=>rfl
    | succ n=>simp only [stOf,h n (by omega)]
   rw [hsn] at hsub
   obtain ⟨f1,f2,f3⟩:=fin a hda _ hsub
   exact .inl ⟨f1,Ku f2 (hall q a h hB f3)⟩
  | stop m c hm h hc ha =>
   obtain ⟨a,hB,hda,rfl⟩:=ha
   have hsn:stOf (m + 1) = .done c:=by simp only [stOf,hc]
   rw [hsn] at hsub
   obtain ⟨f1,f2,f3⟩:=fin a hda _ hsub
   rcases hgo m c hc with rfl | ⟨id,rfl⟩
   ·exact .inr ⟨.ret,.ret,f1,rfl,Ku f2 (hret q a m hm h hc hB f3)⟩
   ·exact .inr ⟨.exit id,.exit id,f1,rfl,Ku f2 (hexit q a m id hm h hc hB f3)⟩
 ·rintro d S ⟨S',hend,hsub⟩
  cases hend with
  | pan m d hm h hc ha =>
   obtain ⟨a,hB,hda,rfl⟩:=ha
   have hs:(a.upd q .dfr).sub S:=fun b o hb=>by
    by_cases h1:b=q
    ·subst h1; rw [ZuB] at hb; exact hsub b o (by rw [YR (hda b _ Zbt),Zbt]; exact hb)
    ·rw [ZuE _ _ h1] at hb; exact hsub b o (Yv hb)
   exact Zol hs (hpan q a m d hm h hc hB (hda q _ Zbt))
end
end Go.DL
namespace Go.DL
open Go Go.Lib
section
variable {P:Program}
theorem Zof {F:Fr P} {kp:Option (List Nat)} {dk:List Z4} {o:DOp} {os:List DOp} {ρ:Env} {L:Loc} {s:St} (hg:Yu ρ o.guard=some true) {e sz b:Nat} {z:List D} {x y:Opd} (hk:o.k = .append e sz b z x y)
  {p q:Prop} {t:Tok} {n m:Nat} {row row2:Nat→List D} {dy:D} {dx:D} (hx:YW ρ true x=some (p,.d dx)) (hsl:ZfS sz dx=some (t,n,row)) (hy:YW ρ true y=some (q,.d dy)) (hp:p) (hq:q) (hel:∀ g w v,Rep g w v dy→∃ news,Jr g w sz m news row2∧ZdK P w sz m v news) (hok:t.okIn s)
  (hb:(n + m) * b≤140737488355328) (hbig:n + m≤big) (h:∀ t':Tok,t'.okIn s→DO F kp dk os (Wi ρ o.dst (.d (.sl t' (n + m) sz (QN n row row2)))) L (s.own t' ((n + m) * sz))) :
  DO F kp dk (o :: os) ρ L (s.own t (n * sz)):=by
 refine Jt fun oo g ν w tmps ops i r k hoo hck hcg hdst hd hN M hr hkk=>?_
 have hw:=Qc M hcg hg
 have hnd:=Qw hck (by rw [hk]; rfl)
 rw [hk] at hck
 obtain ⟨x',y',args,ats,t1,t2,tu,hop,hargs,ha1,ha2,hu1,hu2,hnu,hsz,hz,hbb,hx',hy',h0,hzl⟩:=Zk0 hck
 subst hbb
 have hr1:Rep g w _ (.sl t n sz row):=ZnZ (K2 M hx' rfl hx hp F.ds) hsl
 have hr2:Rep g w _ _:=K2 M hy' rfl hy hq F.ds
 obtain ⟨zv,hz1,hz2,hz3,ie,hie,hzz⟩:=Zdw (g:=g) (w:=w) hz
 have hsize:ie.size=sz:=by simpa [WW,hie] using hsz
 have hzlen:zv.cells.size=sz:=by have:=hz2.len; simp at this; omega
 have hby:P.bytesOf e=ie.bytes:=by simp [Program.bytesOf,hie]
 rw [hby] at hb
 obtain ⟨news,hn1,hn2⟩:=hel _ _ _ hr2
 obtain ⟨v',w',g',t',a1,a2,a3,a4,a5,a6,a7⟩:=Zo9 (ty:=oo.type) hu1 hu2 hnu hie hzz hsize hzlen h0 M.st hok hr1 hn1 hn2 hb hbig
 have hne:∀ l cs,ZU L l=some cs→t≠.tip (ν l):=fun l cs hl ht=>by
  have:=M.locSt l cs hl
  rw [ht] at this
  simp [St.own,St.upd] at this
 have hsn:∀ l cs,ZU L l=some cs→s (ν l)=none:=fun l cs hl=>by
  cases hx:s (ν l) with
  | none=>rfl
  | some o=>have:=Zl (k:=n * sz) hok _ _ hx; rw [M.locSt l cs hl] at this; simp at this
 have mm:Yg g' ν w' tmps ρ L (s.own t' ((n + m) * sz)):=by
  refine ⟨a3,fun l cs hl=>(M.loc l cs hl).mono a2 (a6 (ν l) (M.loc l cs hl).lt (hne l cs hl)).1 (a6 (ν l) (M.loc l cs hl).lt (hne l cs hl)).2,fun l cs hl=>by rw [a2.keptEq]; exact M.locKept l cs hl,fun l cs hl=>?_,M.inj,fun t e he=>(M.env t e he).mono a2⟩
  cases t' with
  | tip b =>
   have:¬ ν l=b:=fun hb=>by
    rcases a7 b rfl with h1 | h1
    ·exact hne l cs hl (by rw [hb]; exact h1)
    ·have:=(M.loc l cs hl).lt; omega
   simp only [St.own,St.upd,this,if_false]; exact hsn l cs hl
  | _=>exact hsn l cs hl
 refine JL hN hoo hdst hd hw hnd (v:=v') (w':=w') (e:=.d (.sl t' (n + m) sz (QN n row row2))) ?_ a2 mm a5 (h t' a4 ops r k hr hkk)
 have hae:args = #[x',y']:=by apply Array.ext'; simpa using hargs
 have hats:∀ vs,Builtin.append_ ats oo.type vs=Builtin.append_ #[t1,t2] oo.type vs:=fun vs=>by
  unfold Builtin.append_; simp [ha1,ha2]
 unfold execOp
 simp only [hop,hae,resolve,invoke,builtin,Sem.run_bind,Sem.run_pure,Result.andThen_ok,List.map_toArray,List.map_cons,List.map_nil,hats,a1]
theorem ZpF {g:G} {w:World} {v:Value} {b off cap sz:Nat} (h:Rep g w v (.msl b off 0 cap sz)):∃ news,Jr g w sz 0 news (fun _=>[])∧ZdK P w sz 0 v news:=by
 cases h with
 | mslx a _ _ _=>exact ⟨[],⟨by simp,fun i hi=>by omega,fun i j v d hi=>by omega,by simp⟩,fun w2=>by simp [Builtin.lenOf],fun w2 _=>by simp [Builtin.firstCells,loadCells,loadCellsFrom]⟩
 | msl _ _ _ _ _ hn hb=>exact ⟨[],⟨by simp,fun i hi=>by omega,fun i j v d hi=>by omega,by simp⟩,fun w2=>by simp [Builtin.lenOf],fun w2 _=>run_firstCells_some (P:=P) w2 sz 0 ⟨b,off,none⟩ 0 cap [] (by simp) (fun k v hv=>by simp at hv)⟩
theorem Zoi {F:Fr P} {dk:List Z4} {ρ:Env} {L:Loc} {s:St} (t:Nat) {tk:Tok} {sz:Nat} {row:Nat→List D} (ht:WN ρ t=some (.d (.sl tk 0 sz row))) (h1:ZT F dk ((t,.d .nilsl) :: ρ) L s)
  (h2:∀ b off cap,ZT F dk ((t,.d (.msl b off 0 cap sz)) :: ρ) L s):ZT F dk ρ L s:=by
 intro k hk g ν w tmps hN m
 have hr:Rep g w (tmps.getD t undef) (.sl tk 0 sz row):=m.env t _ ht
 have key:∀ d,Rep g w (tmps.getD t undef) d→Yg g ν w tmps ((t,.d d) :: ρ) L s:=fun d hd=>⟨m.st,m.loc,m.locKept,m.locSt,m.inj,fun t' e' he=>by
  simp only [WN] at he
  split at he
  ·rename_i hx; subst hx; simp only [Zuu] at he; subst he; exact hd
  ·exact m.env t' e' he⟩
 generalize tmps.getD t undef=v at hr key
 cases hr with
 | sl0 a _ _ _ _ =>
  cases a with
  | none=>exact h1 k hk g ν w tmps hN (key _ .nilsl)
  | some a=>exact h2 0 0 0 k hk g ν w tmps hN (key _ (.mslx a 0 0 _))
 | sl b o n cap s row t f hl hc hp hr one ht hcap hb=>exact h2 b o cap k hk g ν w tmps hN (key _ (.msl _ _ _ _ _ hcap hb))
end
end Go.DL
namespace Go.DL
open Go
section
variable {P:Program}
theorem ZmI {a:St} {q:Nat} {o:KC} (h:a q=none):(a.or (St.single q o)).del q=a:=by
 funext b
 simp only [St.del]
 by_cases hb:b=q
 ·rw [if_pos hb,hb,h]
 ·rw [if_neg hb]
  cases ha:a b with
  | some x=>exact Yv ha
  | none=>rw [YR ha]; exact ZaN _ hb
theorem Ql.retM {F:Fr P} {rs:List RV} {Φ:Res→St→Prop} {dds:List DD} (hF:Ql F rs Φ dds) {q:Nat} {a:St} {dk:List Z4} {ρ:Env} {L:Loc} (hq:a q=none) (h:Unw P dds none a (Zji ρ L rs Φ)) :
  ZT (F.mark q) (.code .ret :: dk) ρ L (a.or (St.single q .dfr)) :=
 (hF.mark q).retU ⟨by rw [YR hq]; exact Qh _ _,by rw [ZmI hq]; exact h⟩
theorem Ql.ret1 {F:Fr P} {rs:List RV} {Φ:Res→St→Prop} (hF:Ql F rs Φ []) {q:Nat} {a:St} {dk:List Z4} {ρ:Env} {L:Loc} (hq:a q=none) {p:Prop} {ds:List D} (d:D) (s':St) (h1:QQ ρ L a rs=some (p,ds)) (h2:p) (h3:(J8 ds).Le d) (h4:s'.sub a) (h5:Φ (.ret d) s') :
  ZT (F.mark q) (.code .ret :: dk) ρ L (a.or (St.single q .dfr)):=hF.retM hq ⟨p,ds,d,s',h1,h2,h3,h4,h5⟩
theorem Ql.fin1 {F:Fr P} {rs:List RV} {Φ:Res→St→Prop} (hF:Ql F rs Φ []) {q:Nat} {a:St} {ρ:Env} {L:Loc} (hq:a q=none) {p:Prop} {ds:List D} (d:D) (s':St) (h1:QQ ρ L a rs=some (p,ds)) (h2:p) (h3:(J8 ds).Le d) (h4:s'.sub a) (h5:Φ (.ret d) s') :
  ZT (F.mark q) [] ρ L (a.or (St.single q .dfr)) :=
 (hF.mark q).finU ⟨by rw [YR hq]; exact Qh _ _,by rw [ZmI hq]; exact ⟨p,ds,d,s',h1,h2,h3,h4,h5⟩⟩
theorem Ql.pan1 {F:Fr P} {rs:List RV} {Φ:Res→St→Prop} (hF:Ql F rs Φ []) {q:Nat} {a:St} {ρ:Env} {L:Loc} {d:D} (hq:a q=none) (s':St) (h4:s'.sub a) (h5:Φ (.panic d) s'):QM (F.mark q) ρ L d (a.or (St.single q .dfr)) :=
 (hF.mark q).panU ⟨by rw [YR hq]; exact Qh _ _,by rw [ZmI hq]; exact ⟨d,s',Zux d,h4,h5⟩⟩
theorem Zk5 {a t:St} (h:WX a t) {q:Nat} {o:KC} (ht:t q=some o):a q=none:=h q o ht
end
end Go.DL
namespace Go.DL
open Go
section
variable {P:Program}
theorem JG {F:Fr P} {dk:List Z4} {ρ:Env} {L:Loc} {s:St} {b:Nat} {ds ds':List D} (h:s b=some (.cells ds)) (hl:LeC ds ds') (k:ZT F dk ρ L (s.upd b (.cells ds'))):ZT F dk ρ L s:=by
 intro kk hk g ν w tmps hN m
 have hc:Qv g w b ds:=m.st.obj b _ h
 exact k kk hk g ν w tmps hN ⟨m.st.updL (o:=.cells ds') (hc.le hl) (m.st.kept b _ h),m.loc,m.locKept,fun l cs hL=>by
  have hne:ν l≠b:=fun e=>by have:=m.locSt l cs hL; rw [e,h] at this; simp at this
  rw [ZuE _ _ hne]; exact m.locSt l cs hL,m.inj,m.env⟩
end
end Go.DL
namespace Go.DL
open Go
section
variable {P:Program}
theorem Zrq {s:St} {b:Nat} {o:KC} (h:s b=none):(s.upd b o).del b=s:=by
 funext c
 simp only [St.del,St.upd]
 by_cases hc:c=b
 ·subst hc; simp [h]
 ·simp [hc]
theorem Znc {F:Fr P} {dk:List Z4} {ρ:Env} {L:Loc} {s:St} (t:Nat) {b n cap sz:Nat} {ds:List D} {row:Nat→List D} (ht:WN ρ t=some (.d (.msl b 0 n cap sz))) (hb:s b=some (.cells ds)) (hlen:n * sz≤ds.length)
  (hrow:∀ i,i < n→row i=(ds.drop (i * sz)).take sz) (k:ZT F dk ((t,.d (.sl .none n sz row)) :: ρ) L (s.del b)):ZT F dk ρ L s:=by
 intro kk hk g ν w tmps hN m
 have hc:Qv g w b ds:=m.st.obj b _ hb
 have hnk:¬ g.kept b:=m.st.kept b _ hb
 have hlt:=hc.lt
 obtain ⟨hp0,vs,T,hh,hsz,hr,ho⟩:=hc
 have hx:Ext g w { g with prot:=fun c=>if c=b then ds.length else g.prot c } w:={
  size:=ZuO _
  prot:=fun c=>by
   simp only
   split
   ·rename_i h; subst h; omega
   ·exact ZuO _
  cell:=fun _ _ _=>rfl
  hdr:=fun _ _ h=>h
  kept:=fun _ _=>rfl
  keptProt:=fun c hc=>by
   simp only
   have hcb:c≠b:=fun e=>by rw [e] at hc; exact hnk hc
   rw [if_neg hcb]
  keptEq:=rfl
  os:=rfl
  output:=rfl
  tape:=rfl }
 have hpe:∀ c,c≠b→(if c=b then ds.length else g.prot c)=g.prot c:=fun c hc=>by rw [if_neg hc]
 refine F.T.ext _ _ _ _ _ hx (k kk hk _ ν w tmps hN ?_)
 refine ⟨⟨fun c x hx'=>?_,fun c x hx'=>?_,fun c hc=>?_⟩,fun l cs hl=>?_,m.locKept,fun l cs hl=>?_,m.inj,fun t' e he=>?_⟩
 ·simp only [St.del] at hx'
  by_cases hc:c=b
  ·simp [hc] at hx'
  ·simp only [hc,if_false] at hx'; exact (m.st.obj c x hx').mono hx rfl (hpe c hc)
 ·simp only [St.del] at hx'
  by_cases hc:c=b
  ·simp [hc] at hx'
  ·simp only [hc,if_false] at hx'; exact m.st.kept c x hx'
 ·have:=m.st.fresh c hc
  exact ⟨(hpe c (by omega)).trans this.1,this.2⟩
 ·have hne:ν l≠b:=fun h=>by have:=m.locSt l cs hl; rw [h,hb] at this; simp at this
  exact (m.loc l cs hl).mono hx rfl (hpe _ hne)
 ·simp only [St.del]
  split
  ·rfl
  ·exact m.locSt l cs hl
 ·by_cases htt:t=t'
  ·subst htt
   simp only [WN,if_true,Zuu] at he
   subst he
   have hrep:Rep g w _ (.msl b 0 n cap sz):=m.env t _ ht
   generalize tmps.getD t undef=v at hrep
   show Rep _ w v _
   cases hrep with
   | mslx a _ _ _=>exact .sl0 _ _ _ _ (by simp)
   | msl _ _ _ _ _ hcap hbig =>
   have hin:∀ i j,i < n→j < sz→i * sz + j < ds.length:=fun i j hi hj=>by
    have:(i + 1) * sz≤n * sz:=Nat.mul_le_mul_right _ hi
    rw [Nat.add_mul,Nat.one_mul] at this
    omega
   refine .sl b 0 n cap sz row .none (fun i j=>vs.getD (i * sz + j) undef) (fun i hi=>?_) (fun i j hi hj=>?_) (fun i j hi hj=>?_) (fun i j d hi hd=>?_) (fun i j hi hj=>?_) trivial hcap hbig
   ·rw [hrow i hi,List.length_take,List.length_drop]
    have:(i + 1) * sz≤n * sz:=Nat.mul_le_mul_right _ hi
    rw [Nat.add_mul,Nat.one_mul] at this
    omega
   ·have h1:=hin i j hi hj
    simp only [World.cell?,hh,Nat.zero_add,Option.isSome_none,Bool.false_eq_true,if_false]
    simp only [Array.getD_eq_getD_getElem?,Array.getElem?_eq_getElem (show i * sz + j < vs.size by omega),Option.getD_some]
   ·simp only [if_true]; have:=hin i j hi hj; omega
   ·rw [hrow i hi] at hd
    rw [List.getElem?_take] at hd
    split at hd
    ·rename_i hj
     rw [List.getElem?_drop] at hd
     have h1:=hin i j hi hj
     refine Rep.mono (hr (i * sz + j) _ d ?_ hd) hx
     simp only [Array.getD_eq_getD_getElem?,Array.getElem?_eq_getElem (show i * sz + j < vs.size by omega),Option.getD_some]
    ·simp at hd
   ·have h1:=hin i j hi hj
    refine ho _ ?_
    simp only [Array.getD_eq_getD_getElem?,Array.getElem?_eq_getElem (show i * sz + j < vs.size by omega),Option.getD_some]
    exact Array.getElem_mem _
  ·simp only [WN,htt,if_false] at he
   exact (m.env t' e he).mono hx
end
end Go.DL
namespace Go.DL
open Go
theorem ZpQ {s:Nat} {cs:List D} {r:Nat→List D}:∀ {len:Nat},cs.length=len * s→(∀ i,i < len→part cs (i * s) s=r i)→cs=(List.range len).flatMap r:=by
 intro len hl hr
 have key:∀ k,k≤len→cs.take (k * s)=(List.range k).flatMap r:=by
  intro k
  induction k with
  | zero=>intro _; simp
  | succ k ih =>
   intro hk
   rw [List.range_succ,List.flatMap_append,← ih (by omega),Nat.add_mul,Nat.one_mul,List.take_add]
   congr 1
   simp only [List.flatMap_cons,List.flatMap_nil,List.append_nil]
   rw [← hr k hk]; rfl
 have:=key len (ZuO _)
 rw [← hl,ZuH] at this; exact this
section
variable {P:Program}
theorem Zrf {g:G} {w:World} {len s:Nat} {z:List D} {t e:TypeId} {parts:List (Nat × Value)} {ds:List D} (hu:P.underlying t=some (.slice e)) (hsz:WW P e=some s) (hz:ZbU P e=some z)
  (hdis:J4 len (parts.map (·.1))=true) (hzl:z.length=s) (hs0:0 < s) (hbig:len * s≤2 ^ 24) (hl0:0 < len) (hd:Wh (Rep g w) (parts.map (·.2)) ds) (hp:Za1 s ds=true) :
  ∃ cv:Array Value,(Instr.buildSlice t len parts.toArray).run P w = .ok (.slice (some ⟨w.heap.size,0,none⟩) len len) (w.alloc (.cells cv e)) ∧
   Wh (Rep g w) cv.toList ((List.range len).flatMap (Wy z ((parts.map (·.1)).zip ds)))∧∀ v∈cv,v.one1=true:=by
 obtain ⟨zv,hz1,hz2,hz3,ie,hie,hzz⟩:=Zdw (g:=g) (w:=w) hz
 have hsize:ie.size=s:=by simpa [WW,hie] using hsz
 have hzlen:zv.cells.size=s:=by have:=hz2.len; simp at this; omega
 have hn:(parts.map (·.1)).length=ds.length:=by have:=hd.len; simpa using this
 let c0:Array Value:=(Array.range (len * s)).map (zv.cells[· % zv.cells.size]!)
 let d0:List D:=(List.range (len * s)).map fun i=>z.getD (i % s) .undef
 have hrep0:Wh (Rep g w) c0.toList d0:=by
  refine K5 (by simp [c0,d0]) (fun i v d hv hd=>?_)
  simp only [c0,d0,Array.toList_map,Array.toList_range,List.getElem?_map,ZuC] at hv hd
  obtain ⟨a,ha,rfl⟩:=hv
  obtain ⟨b,hb,rfl⟩:=hd
  rw [ha] at hb
  simp only [Zuu] at hb
  subst hb
  have hlt:a % s < s:=Nat.mod_lt _ hs0
  refine hz2.get (a % s) _ _ ?_ ?_
  ·rw [hzlen]; simp [getElem!_pos,hzlen,hlt]
  ·simp [List.getD,hzl,hlt]
 have hone0:∀ v∈c0,v.one1=true:=fun v hv=>by
  simp only [c0,Array.mem_map] at hv
  obtain ⟨a,_,rfl⟩:=hv
  have hlt:a % zv.cells.size < zv.cells.size:=Nat.mod_lt _ (by omega)
  rw [getElem!_pos zv.cells (a % zv.cells.size) hlt]
  exact hz3 _ (Array.getElem_mem hlt)
 have hlen0:d0.length=len * s:=by simp [d0]
 obtain ⟨cs,hfill,hcl,hrows⟩:=ZgZ (parts.map (·.1)) ds d0 hdis hn hp hlen0
 obtain ⟨cv,hf1,hf2,hf3⟩:=Zfz (g:=g) (w:=w) (fun i=>some (i * s,s)) parts ((parts.map (·.1)).map fun i=>(i * s,s)) ds cs d0 c0 (fun i x q hx hq=>by
  simp only [List.map_map,List.getElem?_map,hx,Option.map_some,Zuu,Function.comp_def] at hq
  rw [← hq]) (by simp) hd hrep0 hone0 hfill
 have hpos:¬ len * s=0:=by simp [Nat.mul_eq_zero]; omega
 have hrun:=run_buildSlice (P:=P) w t e len parts.toArray cv ie zv hu hie hzz (by rw [hsize]; omega) (by rw [hsize]; exact hpos) (by rw [hsize]; exact hf1)
 refine ⟨cv,hrun,?_,hf3⟩
 have:cs=(List.range len).flatMap (Wy z ((parts.map (·.1)).zip ds)):=ZpQ hcl fun i hi=>by
  rw [hrows i hi]
  have hzp:part d0 (i * s) s=z:=ZhE hzl hs0 hi
  rw [hzp]
 rw [← this]; exact hf2
theorem Zq7 {F:Fr P} {kp:Option (List Nat)} {dk:List Z4} {o:DOp} {os:List DOp} {ρ:Env} {L:Loc} {s:St} (hg:Yu ρ o.guard=some true) {len n:Nat} {z:List D} {is:List Nat} {xs:List Opd}
  (hk:o.k = .bsl len n z is xs) {p:Prop} {es:List E} {ds:List D} (ha:KT ρ true xs=some (p,es)) (hds:Q3 es=some ds) (hp:p) (hok:Za1 n ds=true) (hl0:0 < len)
  (h:∀ b,s b=none→DO F kp dk os (Wi ρ o.dst (.d (.msl b 0 len len n))) L (s.upd b (.cells ((List.range len).flatMap (Wy z (is.zip ds)))))):DO F kp dk (o :: os) ρ L s:=by
 refine Jt fun oo g ν w tmps ops i r k hoo hck hcg hdst hd hN m hr hkk=>?_
 have hw:=Qc m hcg hg
 have hnd:=Qw hck (by rw [hk]; rfl)
 rw [hk] at hck
 obtain ⟨t,e,parts,hop,hu,hsz,hz,hxs,rfl,hdis,hzl,hs0,hbig⟩:=Zpg hck
 have hargs:=Zen m rfl F.ds hxs ha hp
 have hreps:=Zar hargs hds
 obtain ⟨cv,h1,h2,h3⟩:=Zrf (P:=P) (g:=g) (w:=w) (parts:=parts.toList.map fun x=>(x.1,(Act.mk tmps F.ds).eval x.2)) hu hsz hz (by simpa [List.map_map,Function.comp_def] using hdis) hzl hs0 hbig hl0
  (by simpa [List.map_map,Function.comp_def] using hreps) hok
 have h2':Wh (Rep g w) cv.toList ((List.range len).flatMap (Wy z ((parts.toList.map (·.1)).zip ds))):=by simpa [List.map_map,Function.comp_def] using h2
 have hgr:=Zdj (g:=g) (w:=w) (.cells cv e) m.st.fresh
 have he:=hgr.ext m.st.fresh
 have hob:Jk g (w.alloc (.cells cv e)) w.heap.size (.cells ((List.range len).flatMap (Wy z ((parts.toList.map (·.1)).zip ds)))) :=
  ⟨(m.st.fresh _ (ZuO _)).1,_,e,ZbD w _,by rw [← h2'.len]; simp,fun i v d hv hd=>(h2'.get i v d (by simpa using hv) hd).mono he,h3⟩
 obtain ⟨hn,m'⟩:=m.newObj hgr hob
 have hrun:(execOp (Act.mk tmps F.ds).eval oo).run P w = .ok (.value (.slice (some ⟨w.heap.size,0,none⟩) len len)) (w.alloc (.cells cv e)):=by
  simp only [execOp,hop,Sem.run_bind]
  have e1:(parts.map fun x=>(x.1,(Act.mk tmps F.ds).eval x.2))=(parts.toList.map fun x=>(x.1,(Act.mk tmps F.ds).eval x.2)).toArray:=by apply Array.ext'; simp
  rw [e1,h1]
  rfl
 refine JL (L':=L) hN hoo hdst hd hw hnd (e:=.d (.msl w.heap.size 0 len len n)) hrun he m' (Rep.msl _ _ _ _ _ (ZuO _) ?_) ?_
 ·unfold big
  have:len≤len * n:=Nat.le_mul_of_pos_right _ hs0
  omega
 ·exact h _ hn ops r k hr hkk
def Zh1 (o:DOp) (ρ:Env) (L:Loc) (s:St):SR :=
 match o.k with
 | .bsl _ _ _ _ _=>.stop
 | _=>Y8 o ρ L s
def Zf1 (K:Env→Loc→St→Prop) (X:List DOp→Env→Loc→St→Prop):List DOp→Env→Loc→St→Prop
 | [],ρ,L,s=>K ρ L s
 | o :: os,ρ,L,s=>match Zh1 o ρ L s with
  | .ok side ρ' L' s'=>side∧Zf1 K X os ρ' L' s'
  | .all side pre ρ' s'=>side∧∀ b,pre b→Zf1 K X os (ρ' b) L (s' b)
  | .stop=>X (o :: os) ρ L s
theorem Zfn {F:Fr P} {kp:Option (List Nat)} {dk:List Z4}:∀ {os:List DOp} {ρ:Env} {L:Loc} {s:St},
  Zf1 (fun ρ L s=>ZT F dk (kept kp ρ) (ZjW kp ρ L) s) (fun os ρ L s=>DO F kp dk os ρ L s) os ρ L s→DO F kp dk os ρ L s
 | [],ρ,L,s,h=>ZlY h
 | o :: os,ρ,L,s,h=>by
  have hst:∀ r,Zh1 o ρ L s=r→r = .stop∨Y8 o ρ L s=r:=fun r hr=>by
   unfold Zh1 at hr
   split at hr
   ·exact .inl hr.symm
   ·exact .inr hr
  simp only [Zf1] at h
  split at h
  ·rename_i sd ρ' L' s' h1
   rcases hst _ h1 with h2 | h2
   ·cases h2
   ·exact Zek h2 h.1 (Zfn h.2)
  ·rename_i sd pre ρ' s' h1
   rcases hst _ h1 with h2 | h2
   ·cases h2
   ·exact ZlV h2 h.1 fun b hb=>Zfn (h.2 b hb)
  ·exact h
end
end Go.DL
namespace Go.DL
open Go
def ZqZ (g:G) (w:World) (b:Nat) (ds:List D):Prop :=
 ∃ (vs:Array Value) (T:TypeId),w.heap[b]? = some (.cells vs T (0,0))∧vs.size=ds.length∧(∀ (i:Nat) (v:Value) (d:D),vs[i]? = some v→ds[i]? = some d→Rep g w v d)∧(∀ v∈vs,v.one1=true)∧ds.length≤g.prot b
def Zd3 (t:St) (Ln:List Nat) (d d':D):Prop:=∀ g w v,(∀ b∈Ln,∀ ds,t b=some (.cells ds)→ZqZ g w b ds)→Rep g w v d→Rep g w v d'
inductive LdC (t:St) (Ln:List Nat):List D→List D→Prop where
 | nil:LdC t Ln [] []
 | cons {d d':D} {l l':List D} (h:Zd3 t Ln d d') (r:LdC t Ln l l'):LdC t Ln (d :: l) (d' :: l')
theorem Zd3.refl {t:St} {Ln:List Nat} (d:D):Zd3 t Ln d d:=fun _ _ _ _ h=>h
theorem LdC.refl {t:St} {Ln:List Nat}:∀ l:List D,LdC t Ln l l
 | []=>.nil
 | d :: l=>.cons (Zd3.refl d) (LdC.refl l)
theorem LdC.len {t:St} {Ln:List Nat} {l l':List D} (h:LdC t Ln l l'):l.length=l'.length:=by
 induction h with
 | nil=>rfl
 | cons _ _ ih=>simp [ih]
theorem LdC.get {t:St} {Ln:List Nat} {l l':List D} (h:LdC t Ln l l') {i:Nat} {d':D} (hi:l'[i]? = some d'):∃ d,l[i]? = some d∧Zd3 t Ln d d':=by
 induction h generalizing i with
 | nil=>simp at hi
 | cons h1 _ ih =>
  cases i with
  | zero=>simp at hi; subst hi; exact ⟨_,rfl,h1⟩
  | succ i=>simpa using ih (by simpa using hi)
theorem Zd3.msl {t:St} {Ln:List Nat} {b n cap sz:Nat} {ds:List D} {row:Nat→List D} (hb:b∈Ln) (ht:t b=some (.cells ds)) (hlen:n * sz≤ds.length)
  (hrow:∀ i,i < n→LdC t Ln ((ds.drop (i * sz)).take sz) (row i)):Zd3 t Ln (.msl b 0 n cap sz) (.sl .none n sz row):=by
 intro g w v hf hr
 obtain ⟨vs,T,hh,hsz,hc,one,hp⟩:=hf b hb ds ht
 cases hr with
 | mslx a _ _ _=>exact .sl0 _ _ _ _ (by simp)
 | msl _ _ _ _ _ hcap hbig =>
 have hin:∀ i j,i < n→j < sz→i * sz + j < ds.length:=fun i j hi hj=>by
  have:(i + 1) * sz≤n * sz:=Nat.mul_le_mul_right _ hi
  rw [Nat.add_mul,Nat.one_mul] at this
  omega
 have hget:∀ i j,i < n→j < sz→vs[i * sz + j]? = some (vs.getD (i * sz + j) undef):=fun i j hi hj=>by
  have h1:=hin i j hi hj
  simp only [Array.getD_eq_getD_getElem?,Array.getElem?_eq_getElem (show i * sz + j < vs.size by omega),Option.getD_some]
 have hmem:∀ i j,i < n→j < sz→vs.getD (i * sz + j) undef∈vs:=fun i j hi hj=>by
  have h1:=hin i j hi hj
  simp only [Array.getD_eq_getD_getElem?,Array.getElem?_eq_getElem (show i * sz + j < vs.size by omega),Option.getD_some]
  exact Array.getElem_mem _
 have hrl:∀ i,i < n→(row i).length=sz:=fun i hi=>by
  rw [← (hrow i hi).len,List.length_take,List.length_drop]
  have:(i + 1) * sz≤n * sz:=Nat.mul_le_mul_right _ hi
  rw [Nat.add_mul,Nat.one_mul] at this
  omega
 refine .sl b 0 n cap sz row .none (fun i j=>vs.getD (i * sz + j) undef) hrl (fun i j hi hj=>?_) (fun i j hi hj=>?_) (fun i j d hi hd=>?_) (fun i j hi hj=>one _ (hmem i j hi hj)) trivial hcap hbig
 ·rw [Nat.zero_add,Zcu hh]; exact hget i j hi hj
 ·have:=hin i j hi hj; omega
 ·have hj:j < sz:=by rw [← hrl i hi]; exact (List.getElem?_eq_some_iff.1 hd).1
  obtain ⟨x,hx,hle⟩:=(hrow i hi).get hd
  rw [List.getElem?_take,if_pos hj,List.getElem?_drop] at hx
  exact hle g w _ hf (hc _ _ x (hget i j hi hj) hx)
inductive LdE (t:St) (Ln:List Nat):Env→Env→Prop where
 | nil:LdE t Ln [] []
 | cons {k:Nat} {d d':D} {ρ ρ':Env} (h:Zd3 t Ln d d') (r:LdE t Ln ρ ρ'):LdE t Ln ((k,.d d) :: ρ) ((k,.d d') :: ρ')
 | skip {k:Nat} {e:E} {ρ ρ':Env} (r:LdE t Ln ρ ρ'):LdE t Ln ((k,e) :: ρ) ((k,e) :: ρ')
inductive LdL (t:St) (Ln:List Nat):Loc→Loc→Prop where
 | nil:LdL t Ln [] []
 | cons {k:Nat} {c c':List D} {L L':Loc} (h:LdC t Ln c c') (r:LdL t Ln L L'):LdL t Ln ((k,c) :: L) ((k,c') :: L')
theorem LdE.refl {t:St} {Ln:List Nat}:∀ ρ:Env,LdE t Ln ρ ρ
 | []=>.nil
 | _ :: ρ=>.skip (LdE.refl ρ)
theorem LdE.get {t:St} {Ln:List Nat} {ρ ρ':Env} (h:LdE t Ln ρ ρ') {k:Nat} {e':E} (he:WN ρ' k=some e'):∃ e,WN ρ k=some e∧(e=e'∨∃ x y,e = .d x∧e' = .d y∧Zd3 t Ln x y):=by
 induction h with
 | nil=>simp [WN] at he
 | cons h1 _ ih =>
  rename_i k' d d' ρ ρ' _
  simp only [WN] at he ⊢
  by_cases hk:k'=k
  ·simp only [hk,if_true,Zuu] at he ⊢
   exact ⟨_,rfl,.inr ⟨d,d',rfl,he.symm,h1⟩⟩
  ·simp only [hk,if_false] at he ⊢; exact ih he
 | skip _ ih =>
  rename_i k' e ρ ρ' _
  simp only [WN] at he ⊢
  by_cases hk:k'=k
  ·simp only [hk,if_true,Zuu] at he ⊢
   exact ⟨_,rfl,.inl he⟩
  ·simp only [hk,if_false] at he ⊢; exact ih he
theorem LdL.get {t:St} {Ln:List Nat} {L L':Loc} (h:LdL t Ln L L') {k:Nat} {c':List D} (he:ZU L' k=some c'):∃ c,ZU L k=some c∧LdC t Ln c c':=by
 induction h with
 | nil=>simp [ZU] at he
 | cons h1 _ ih =>
  rename_i k' c c' L L' _
  simp only [ZU] at he ⊢
  by_cases hk:k'=k
  ·simp only [hk,if_true,Zuu] at he ⊢; exact ⟨_,rfl,he ▸ h1⟩
  ·simp only [hk,if_false] at he ⊢; exact ih he
theorem LdL.getI {t:St} {Ln:List Nat} {L L':Loc} (h:LdL t Ln L L') {k:Nat} {c:List D} (he:ZU L k=some c):∃ c',ZU L' k=some c':=by
 induction h with
 | nil=>simp [ZU] at he
 | cons h1 _ ih =>
  rename_i k' c c' L L' _
  simp only [ZU] at he ⊢
  by_cases hk:k'=k
  ·simp only [hk,if_true]; exact ⟨_,rfl⟩
  ·simp only [hk,if_false] at he ⊢; exact ih he
def St.delL (s:St) (Ln:List Nat):St:=fun b=>if b∈Ln then none else s b
def ZiU (g:G) (t:St) (Ln:List Nat):G:={ g with prot:=fun b=>if b∈Ln then (match t b with | some (.cells ds)=>ds.length | _=>0) else g.prot b }
theorem Zmx {g:G} {w:World} {t:St} {Ln:List Nat} (hs:KS g t w) (hL:∀ b∈Ln,∃ ds,t b=some (.cells ds)):Ext g w (ZiU g t Ln) w:={
 size:=ZuO _
 prot b:=by
  simp only [ZiU]
  split
  ·rename_i h
   obtain ⟨ds,hd⟩:=hL b h
   have:=(hs.obj b _ hd).1
   omega
  ·exact ZuO _
 cell _ _ _:=rfl
 hdr _ _ h:=h
 kept _ _:=rfl
 keptProt b hb:=by
  simp only [ZiU]
  split
  ·rename_i h
   obtain ⟨ds,hd⟩:=hL b h
   exact absurd hb (hs.kept b _ hd)
  ·rfl
 keptEq:=rfl
 os:=rfl
 output:=rfl
 tape:=rfl }
theorem Zrr {g:G} {w:World} {t:St} {Ln:List Nat} (hs:KS g t w) (hL:∀ b∈Ln,∃ ds,t b=some (.cells ds)):∀ b∈Ln,∀ ds,t b=some (.cells ds)→ZqZ (ZiU g t Ln) w b ds:=by
 intro b hb ds hd
 obtain ⟨hp,vs,T,h1,h2,h3,h4⟩:=hs.obj b _ hd
 exact ⟨vs,T,h1,h2,fun i v d hv hdd=>(h3 i v d hv hdd).mono (Zmx hs hL),h4,by simp only [ZiU,if_pos hb,hd]; exact ZuO _⟩
section
variable {P:Program}
theorem Zl0 {F:Fr P} {dk:List Z4} {ρ ρ':Env} {L L':Loc} {s:St} (Ln:List Nat) (hL:∀ b∈Ln,∃ ds,s b=some (.cells ds)) (hE:LdE s Ln ρ ρ') (hLL:LdL s Ln L L') (k:ZT F dk ρ' L' (s.delL Ln)):ZT F dk ρ L s:=by
 intro kk hk g ν w tmps hN m
 have hx:=Zmx m.st hL
 have hat:=Zrr m.st hL
 have hpe:∀ c,c ∉ Ln→(ZiU g s Ln).prot c=g.prot c:=fun c hc=>by simp only [ZiU,if_neg hc]
 refine F.T.ext _ _ _ _ _ hx (k kk hk _ ν w tmps hN ?_)
 have hne:∀ l cs,ZU L l=some cs→ν l ∉ Ln:=fun l cs hl h=>by
  obtain ⟨ds,hd⟩:=hL _ h
  have:=m.locSt l cs hl
  rw [hd] at this; simp at this
 refine ⟨⟨fun c x hx'=>?_,fun c x hx'=>?_,fun c hc=>?_⟩,fun l cs hl=>?_,fun l cs hl=>?_,fun l cs hl=>?_,fun l l' cs cs' h1 h2=>?_,fun t' e he=>?_⟩
 ·simp only [St.delL] at hx'
  by_cases hc:c∈Ln
  ·simp [hc] at hx'
  ·simp only [hc,if_false] at hx'; exact (m.st.obj c x hx').mono hx rfl (hpe c hc)
 ·simp only [St.delL] at hx'
  by_cases hc:c∈Ln
  ·simp [hc] at hx'
  ·simp only [hc,if_false] at hx'; exact m.st.kept c x hx'
 ·have h1:=m.st.fresh c hc
  refine ⟨(hpe c fun h=>?_).trans h1.1,h1.2⟩
  obtain ⟨ds,hd⟩:=hL c h
  have:=(m.st.obj c _ hd).lt
  omega
 ·obtain ⟨c,hc,hle⟩:=hLL.get hl
  have hc0:=(m.loc l c hc).mono hx rfl (hpe _ (hne l c hc))
  obtain ⟨h1,vs,T,h2,h3,h4,h5⟩:=hc0
  refine ⟨h1,vs,T,h2,h3.trans hle.len,fun i v d hv hd=>?_,h5⟩
  obtain ⟨x,hx1,hx2⟩:=hle.get hd
  exact hx2 _ w v hat (h4 i v x hv hx1)
 ·obtain ⟨c,hc,_⟩:=hLL.get hl; exact m.locKept l c hc
 ·obtain ⟨c,hc,_⟩:=hLL.get hl
  simp only [St.delL]
  split
  ·rfl
  ·exact m.locSt l c hc
 ·obtain ⟨c,hc,_⟩:=hLL.get h1
  obtain ⟨c',hc',_⟩:=hLL.get h2
  exact m.inj l l' c c' hc hc'
 ·obtain ⟨e0,h0,h1⟩:=hE.get he
  have hr:=m.env t' e0 h0
  rcases h1 with h1 | ⟨x,y,h1,h2,h3⟩
  ·subst h1
   exact (hr.mono hx).locs fun l cs hl=>⟨(hLL.getI hl),rfl⟩
  ·subst h1; subst h2
   exact h3 _ w _ hat (Rep.mono hr hx)
end
end Go.DL
namespace Go.DL
open Go
set_option linter.defProp false
def Eqs:=Zut (Zut (Zut (Zut (Zut (Zut (Zut (Zut @Option.mem_def.{0} @Zuu.{0}) (Zut @forall_eq'.{1} @forall_eq'.{0})) (Zut (Zut @false_implies @decide_true) (Zut (@Int.sub_zero) (Zut @Int.sub_self @Zsa)))) (Zut (Zut (Zut @Zsu @Zsb) (Zut (@Zsc) (Zut @Zr9 @and_assoc))) (Zut (Zut @Int.toNat_zero @Bool.not_not) (Zut (@Zrt) (Zut @Zsd @implies_true.{1}))))) (Zut (Zut (Zut (Zut @implies_true.{0} @true_and) (Zut @and_true @and_self)) (Zut (Zut @List.drop_zero.{0} @List.drop_succ_cons.{0}) (Zut (@List.take_succ_cons.{0}) (Zut @List.take_zero.{0} @List.take_nil.{0})))) (Zut (Zut (Zut @Option.map_some.{0,0} @Option.map_none.{0,0}) (Zut (@Option.isSome_some.{0}) (Zut @Option.isSome_none.{0} @Option.getD_some.{0}))) (Zut (Zut @Option.getD_none.{0} @List.flatMap_cons.{0,0}) (Zut (@List.flatMap_nil.{0,0}) (Zut @List.append_nil.{0} @List.nil_append.{0})))))) (Zut (Zut (Zut (Zut (Zut @List.cons_append.{0} @List.getElem?_cons_zero.{0}) (Zut @List.getElem?_cons_succ.{0} @ZuI.{0})) (Zut (Zut @List.length_nil.{0} @Nat.zero_add) (Zut (@Nat.add_zero) (Zut @Int.toNat_natCast @forall_const.{1})))) (Zut (Zut (Zut @forall_const.{0} @imp_self) (Zut (@Bool.and_true) (Zut @ZuP @Bool.cond_false_right))) (Zut (Zut @Bool.false_eq_true @Bool.not_true) (Zut (@Bool.not_false) (Zut @if_true_right @ZgV.eq_1))))) (Zut (Zut (Zut (Zut @ZgV.eq_2 @Zf0.eq_1) (Zut @Zf0.eq_2 @Zb6.eq_1)) (Zut (Zut @Zb6.eq_2 @Zb6.eq_3) (Zut (@ZdC.eq_1) (Zut @ZdC.eq_2 @ZdC.eq_3)))) (Zut (Zut (Zut @Y8.eq_1 @Zau.eq_1) (Zut (@Zau.eq_2) (Zut @Zau.eq_3 @Zad.eq_1))) (Zut (Zut @ZaT.eq_1 @Qn.eq_1) (Zut (@Za2.eq_1) (Zut @Za2.eq_2 @Za2.eq_3))))))) (Zut (Zut (Zut (Zut (Zut (Zut @Za2.eq_4 @Jw.eq_1) (Zut @Jw.eq_2 @Jw.eq_3)) (Zut (Zut @Jw.eq_4 @Jw.eq_5) (Zut (@Q0.eq_1) (Zut @Q0.eq_2 @Q0.eq_3)))) (Zut (Zut (Zut @Q0.eq_4 @Q0.eq_5) (Zut (@Q0.eq_6) (Zut @Qx.eq_1 @Jy.eq_1))) (Zut (Zut @Jy.eq_2 @Jy.eq_3) (Zut (@Jn.eq_1) (Zut @ZaI.eq_1 @JM.eq_1))))) (Zut (Zut (Zut (Zut @JM.eq_2 @JM.eq_3) (Zut @JD.eq_1 @JD.eq_2)) (Zut (Zut @Zbo.eq_1 @Zbo.eq_2) (Zut (@Zbo.eq_3) (Zut @Zbo.eq_4 @Zbo.eq_5)))) (Zut (Zut (Zut @Zbo.eq_6 @Zbo.eq_7) (Zut (@Zbo.eq_8) (Zut @Zbo.eq_9 @Zbo.eq_10))) (Zut (Zut @Zbo.eq_11 @Yu.eq_1) (Zut (@Yu.eq_2) (Zut @YW.eq_1 @YW.eq_2)))))) (Zut (Zut (Zut (Zut (Zut @KT.eq_1 @KT.eq_2) (Zut @WN.eq_1 @WN.eq_2)) (Zut (Zut @qv.eq_1 @qv.eq_2) (Zut (@qv.eq_3) (Zut @qv.eq_4 @qv.eq_5)))) (Zut (Zut (Zut @qv.eq_6 @qv.eq_7) (Zut (@qv.eq_8) (Zut @qv.eq_9 @qv.eq_10))) (Zut (Zut @qv.eq_11 @qv.eq_12) (Zut (@qv.eq_13) (Zut @qv.eq_14 @qv.eq_15))))) (Zut (Zut (Zut (Zut @qv.eq_16 @qv.eq_17) (Zut (@qv.eq_18) (Zut @qv.eq_19 @qv.eq_20))) (Zut (Zut @qv.eq_21 @qv.eq_22) (Zut (@qv.eq_23) (Zut @qv.eq_24 @qv.eq_25)))) (Zut (Zut (Zut @qv.eq_26 @qv.eq_27) (Zut (@qv.eq_28) (Zut @qv.eq_29 @qv.eq_30))) (Zut (Zut @qv.eq_31 @qv.eq_32) (Zut (@qv.eq_33) (Zut @qv.eq_34 @qv.eq_35)))))))) (Zut (Zut (Zut (Zut (Zut (Zut (Zut @qv.eq_36 @qv.eq_37) (Zut @qv.eq_38 @qv.eq_39)) (Zut (Zut @qv.eq_40 @qv.eq_41) (Zut (@qv.eq_42) (Zut @qv.eq_43 @qv.eq_44)))) (Zut (Zut (Zut @qv.eq_45 @qv.eq_46) (Zut (@qv.eq_47) (Zut @qv.eq_48 @qv.eq_49))) (Zut (Zut @qv.eq_50 @Wi.eq_1) (Zut (@Wi.eq_2) (Zut @kept.eq_1 @kept.eq_2))))) (Zut (Zut (Zut (Zut @ZjW.eq_1 @ZjW.eq_2) (Zut @QA.eq_1 @QA.eq_2)) (Zut (Zut @ZcT.eq_1 @Zby.eq_1) (Zut (@Zby.eq_2) (Zut @ZaK.eq_1 @ZaK.eq_2)))) (Zut (Zut (Zut @ZaK.eq_3 @ZU.eq_1) (Zut (@ZU.eq_2) (Zut @Zff.eq_1 @Ze0.eq_1))) (Zut (Zut @Qu.eq_1 @Qu.eq_2) (Zut (@ZcI.eq_1) (Zut @ZcI.eq_2 @ZcI.eq_3)))))) (Zut (Zut (Zut (Zut (Zut @ZcI.eq_4 @ZcI.eq_5) (Zut @ZaR.eq_1 @ZaR.eq_2)) (Zut (Zut @ZaR.eq_3 @ZaR.eq_4) (Zut (@ZaR.eq_5) (Zut @ZaR.eq_6 @ZaR.eq_7)))) (Zut (Zut (Zut @ZaR.eq_8 @ZaR.eq_9) (Zut (@ZaR.eq_10) (Zut @ZaR.eq_11 @ZaR.eq_12))) (Zut (Zut @ZaR.eq_13 @ZaR.eq_14) (Zut (@ZaR.eq_15) (Zut @ZaR.eq_16 @ZaR.eq_17))))) (Zut (Zut (Zut (Zut @Zer.eq_1 @Zer.eq_2) (Zut @Zer.eq_3 @Zer.eq_4)) (Zut (Zut @Zer.eq_5 @Zer.eq_6) (Zut (@Zer.eq_7) (Zut @Zer.eq_8 @eqO.eq_1)))) (Zut (Zut (Zut @eqO.eq_2 @eqO.eq_3) (Zut (@Qb.eq_1) (Zut @Qb.eq_2 @Qb.eq_3))) (Zut (Zut @Qb.eq_4 @Qb.eq_5) (Zut (@Qb.eq_6) (Zut @Qb.eq_7 @Qb.eq_8))))))) (Zut (Zut (Zut (Zut (Zut (Zut @Qb.eq_9 @Qb.eq_10) (Zut @Qb.eq_11 @Qb.eq_12)) (Zut (Zut @Qb.eq_13 @Qb.eq_14) (Zut (@Qb.eq_15) (Zut @QV.eq_1 @QV.eq_2)))) (Zut (Zut (Zut @KV.eq_1 @KV.eq_2) (Zut (@KV.eq_3) (Zut @KV.eq_4 @Js.eq_1))) (Zut (Zut @Js.eq_2 @Js.eq_3) (Zut (@Js.eq_4) (Zut @JE.eq_1 @JE.eq_2))))) (Zut (Zut (Zut (Zut @JE.eq_3 @JE.eq_4) (Zut @KR.eq_1 @Q3.eq_1)) (Zut (Zut @Q3.eq_2 @Q3.eq_3) (Zut (@cellsOf.eq_1) (Zut @cellsOf.eq_2 @Za0.eq_1)))) (Zut (Zut (Zut @Za0.eq_2 @Za0.eq_3) (Zut (@Za0.eq_4) (Zut @Za0.eq_5 @ZaM.eq_1))) (Zut (Zut @ZaM.eq_2 @ZaM.eq_3) (Zut (@ZaM.eq_4) (Zut @ZcP.eq_1 @ZcP.eq_2)))))) (Zut (Zut (Zut (Zut (Zut @ZcP.eq_3 @Za1.eq_1) (Zut @Za1.eq_2 @Wy.eq_1)) (Zut (Zut @Wy.eq_2 @Zbs.eq_1) (Zut (@Zbs.eq_2) (Zut @JC.eq_1 @JC.eq_2)))) (Zut (Zut (Zut @JC.eq_3 @JC.eq_4) (Zut (@ZeL.eq_1) (Zut @ZeL.eq_2 @ZeL.eq_3))) (Zut (Zut @ZeL.eq_4 @ZdG.eq_1) (Zut (@ZdG.eq_2) (Zut @ZdG.eq_3 @ZdG.eq_4))))) (Zut (Zut (Zut (Zut @part.eq_1 @qm.eq_1) (Zut (@qi.eq_1) (Zut @qb.eq_1 @ql.eq_1))) (Zut (Zut @qL.eq_1 @qa.eq_1) (Zut (@qx.eq_1) (Zut @qX.eq_1 @qk.eq_1)))) (Zut (Zut (Zut @qd.eq_1 @qe.eq_1) (Zut (@qo.eq_1) (Zut @qO.eq_1 @qf.eq_1))) (Zut (Zut @qB.eq_1 @qS.eq_1) (Zut (@qs.eq_1) (Zut @qy.eq_1 @qn.eq_1))))))))
end Go.DL
namespace Go.DL
open Go
abbrev Str:=List UInt8
structure Z5 where
 field:Str
 factor:Int
deriving Inhabited,DecidableEq
structure Wu where
 base:Int
 terms:List Z5
deriving Inhabited,DecidableEq
structure WK where
 low:Int
 high:Int
 of:Str
deriving Inhabited,DecidableEq
structure Fld where
 name:Str
 kind:Int
 bits:Int
 little:Bool
 loose:Bool
 low:Int
 high:Int
 size:Wu
 of:Str
 tag:Str
 from_:Str
 cases:List WK
 check:Int
 key:Int
deriving Inhabited,DecidableEq
structure Msg where
 name:Str
 fields:List Fld
deriving Inhabited,DecidableEq
structure Dfn where
 name:Str
 msgs:List Msg
 start:Str
deriving Inhabited,DecidableEq
def slD {α:Type} [Inhabited α] (n:Nat) (f:α→List D) (l:List α):D:=.sl .none l.length n (fun i=>f (l.getD i default))
def Z5.cells (t:Z5):List D:=[.str t.field,.int .i64 t.factor]
def WK.cells (c:WK):List D:=[.int .i64 c.low,.int .i64 c.high,.str c.of]
def Yj (l:List Z5):D:=slD 2 Z5.cells l
def W0 (l:List WK):D:=slD 3 WK.cells l
def Wu.cells (s:Wu):List D:=[.int .i64 s.base,Yj s.terms]
def Fld.cells (f:Fld):List D:=[.str f.name,.int .i64 f.kind,.int .i64 f.bits,.bool f.little,.bool f.loose,.int .i64 f.low,.int .i64 f.high,.int .i64 f.size.base,Yj f.size.terms,.str f.of,.str f.tag,.str f.from_,W0 f.cases,.int .i64 f.check,.int .i64 f.key]
def Yo (l:List Fld):D:=slD 15 Fld.cells l
def Msg.cells (m:Msg):List D:=[.str m.name,Yo m.fields]
def We (l:List Msg):D:=slD 2 Msg.cells l
def Dfn.cells (d:Dfn):List D:=[.str d.name,We d.msgs,.str d.start]
theorem QD {α:Type} [Inhabited α] {n:Nat} {f:α→List D} {l:List α} (h:DWf (slD n f l)):l.length≤big∧∀ x∈l,∀ c∈f x,DWf c:=by
 obtain ⟨h1,h2,h3⟩:=h.sl_inv
 refine ⟨h1,fun x hx c hc=>?_⟩
 obtain ⟨i,hi,rfl⟩:=ZuJ hx
 exact h3 i hi c (by simpa [List.getD,hi] using hc)
structure Z5.Wf (t:Z5):Prop where
 field:t.field.length≤big
 factor:inR .i64 t.factor
structure WK.Wf (c:WK):Prop where
 low:inR .i64 c.low
 high:inR .i64 c.high
 of:c.of.length≤big
structure Wu.Wf (s:Wu):Prop where
 base:inR .i64 s.base
 nterms:s.terms.length≤big
 terms:∀ t∈s.terms,t.Wf
structure Fld.Wf (f:Fld):Prop where
 name:f.name.length≤big
 kind:inR .i64 f.kind
 bits:inR .i64 f.bits
 low:inR .i64 f.low
 high:inR .i64 f.high
 size:f.size.Wf
 of:f.of.length≤big
 tag:f.tag.length≤big
 from_:f.from_.length≤big
 ncases:f.cases.length≤big
 cases:∀ c∈f.cases,c.Wf
 check:inR .i64 f.check
 key:inR .i64 f.key
structure Msg.Wf (m:Msg):Prop where
 name:m.name.length≤big
 nfields:m.fields.length≤big
 fields:∀ f∈m.fields,f.Wf
structure Dfn.Wf (d:Dfn):Prop where
 name:d.name.length≤big
 nmsgs:d.msgs.length≤big
 msgs:∀ m∈d.msgs,m.Wf
 start:d.start.length≤big
theorem Z5.wf_of {t:Z5} (h:∀ c∈t.cells,DWf c):t.Wf:=by
 simp only [Z5.cells,List.mem_cons,List.not_mem_nil,or_false,forall_eq_or_imp,forall_eq] at h
 exact ⟨h.1.str_inv,h.2.int_inv⟩
theorem WK.wf_of {t:WK} (h:∀ c∈t.cells,DWf c):t.Wf:=by
 simp only [WK.cells,List.mem_cons,List.not_mem_nil,or_false,forall_eq_or_imp,forall_eq] at h
 exact ⟨h.1.int_inv,h.2.1.int_inv,h.2.2.str_inv⟩
theorem Zgp {l:List Z5} (h:DWf (Yj l)):l.length≤big∧∀ t∈l,t.Wf:=⟨(QD h).1,fun t ht=>Z5.wf_of ((QD h).2 t ht)⟩
theorem ZiP {l:List WK} (h:DWf (W0 l)):l.length≤big∧∀ t∈l,t.Wf:=⟨(QD h).1,fun t ht=>WK.wf_of ((QD h).2 t ht)⟩
theorem Wu.wf_of {s:Wu} (h:∀ c∈s.cells,DWf c):s.Wf:=by
 simp only [Wu.cells,List.mem_cons,List.not_mem_nil,or_false,forall_eq_or_imp,forall_eq] at h
 exact ⟨h.1.int_inv,(Zgp h.2).1,(Zgp h.2).2⟩
theorem Fld.wf_of {f:Fld} (h:∀ c∈f.cells,DWf c):f.Wf:=by
 simp only [Fld.cells,List.mem_cons,List.not_mem_nil,or_false,forall_eq_or_imp,forall_eq] at h
 obtain ⟨h1,h2,h3,h4,h5,h6,h7,h8,h9,h10,h11,h12,h13,h14,h15⟩:=h
 exact ⟨h1.str_inv,h2.int_inv,h3.int_inv,h6.int_inv,h7.int_inv,⟨h8.int_inv,(Zgp h9).1,(Zgp h9).2⟩,h10.str_inv,h11.str_inv,h12.str_inv,(ZiP h13).1,(ZiP h13).2,h14.int_inv,h15.int_inv⟩
theorem ZgY {l:List Fld} (h:DWf (Yo l)):l.length≤big∧∀ t∈l,t.Wf:=⟨(QD h).1,fun t ht=>Fld.wf_of ((QD h).2 t ht)⟩
theorem Msg.wf_of {m:Msg} (h:∀ c∈m.cells,DWf c):m.Wf:=by
 simp only [Msg.cells,List.mem_cons,List.not_mem_nil,or_false,forall_eq_or_imp,forall_eq] at h
 exact ⟨h.1.str_inv,(ZgY h.2).1,(ZgY h.2).2⟩
theorem Zn6 {l:List Msg} (h:DWf (We l)):l.length≤big∧∀ t∈l,t.Wf:=⟨(QD h).1,fun t ht=>Msg.wf_of ((QD h).2 t ht)⟩
theorem Dfn.wf_of {m:Dfn} (h:∀ c∈m.cells,DWf c):m.Wf:=by
 simp only [Dfn.cells,List.mem_cons,List.not_mem_nil,or_false,forall_eq_or_imp,forall_eq] at h
 exact ⟨h.1.str_inv,(Zn6 h.2.1).1,(Zn6 h.2.1).2,h.2.2.str_inv⟩
theorem ZkO {s:Wu} (h:DWf (.agg s.cells)):s.Wf:=Wu.wf_of h.agg_inv
theorem Zpt {s:Fld} (h:DWf (.agg s.cells)):s.Wf:=Fld.wf_of h.agg_inv
theorem ZdU {s:Msg} (h:DWf (.agg s.cells)):s.Wf:=Msg.wf_of h.agg_inv
theorem Zfw {s:Dfn} (h:DWf (.agg s.cells)):s.Wf:=Dfn.wf_of h.agg_inv
theorem Ki {α:Type} [Inhabited α] {l:List α} {i:Nat} (h:i < l.length):l.getD i default∈l:=by
 simp [List.getD,h]
end Go.DL
namespace Go.DL
open Go Go.Proofs
def ZdT (c:UInt8):Bool:=(decide ((65:Int)≤c.toNat) && decide ((c.toNat:Int)≤90)) || (decide ((97:Int)≤c.toNat) && decide ((c.toNat:Int)≤122))
def ZhM (c:UInt8):Bool:=decide ((48:Int)≤c.toNat) && decide ((c.toNat:Int)≤57)
def ZaL (c:UInt8):Bool:=ZdT c || ZhM c || decide ((c.toNat:Int)=95)
def K0 (s:Str):Bool:=match s with
 | []=>false
 | c :: _=>decide (s.length≤32) && ZdT c && s.all ZaL
def Q4 (v:Int):Bool:=decide (-1048576≤v) && decide (v≤1048576)
theorem Zgw (c:UInt8):ZR Zuv Qp.id [.int .u8 c.toNat] (.bool (ZdT c)):=by
 refine Z0 Qp.ok fun F st hret=>?_
 refine Za (Zb (Zc ?_))
 simp only [Eqs,reduceCtorEq,reduceIte,Qp.r0]
 refine Za (Zb (Zc ?_))
 simp only [Eqs,reduceCtorEq,reduceIte,Zuq,Qp.r1]
 refine hret rfl (by first | trivial | simp) (Yk ?_) (by first | exact Zuw _ | exact Zl (by first | trivial | assumption) | assumption | exact Zuy _ (by assumption))
 rfl
theorem ZmO (c:UInt8):ZR Zuv QG.id [.int .u8 c.toNat] (.bool (ZhM c)):=by
 refine Z0 QG.ok fun F st hret=>?_
 refine Za (Zb (Zc ?_))
 simp only [Eqs,reduceCtorEq,reduceIte,QG.r0]
 refine Za (Zb (Zc ?_))
 simp only [Eqs,reduceCtorEq,reduceIte,Zuq,QG.r1]
 refine hret rfl (by first | trivial | simp) (Yk ?_) (by first | exact Zuw _ | exact Zl (by first | trivial | assumption) | assumption | exact Zuy _ (by assumption))
 rfl
theorem Zha (v:Int):ZR Zuv QH.id [.int .i64 v] (.bool (Q4 v)):=by
 refine Z0 QH.ok fun F st hret=>?_
 refine Za (Zb (Zc ?_))
 simp only [Eqs,reduceCtorEq,reduceIte,QH.r0]
 refine Za (Zb (Zc ?_))
 simp only [Eqs,reduceCtorEq,reduceIte,Zuq,QH.r1]
 refine hret rfl (by first | trivial | simp) (Yk ?_) (by first | exact Zuw _ | exact Zl (by first | trivial | assumption) | assumption | exact Zuy _ (by assumption))
 simp only [Q4]
theorem Zqb (s:Str) (k:Nat) (h:k < s.length):(s.drop k).all ZaL=(ZaL (s.getD k 0) && (s.drop (k + 1)).all ZaL):=by
 rw [List.drop_eq_getElem_cons h,List.all_cons]; simp [List.getD,h]
theorem ZdE (s:Str):ZR Zuv Y5.id [.str s] (.bool (K0 s)):=by
 refine WD Y5.ok fun hwf F st hret=>?_
 have hs:=(hwf (.str s) (by simp)).str_inv
 unfold big at hs
 refine Za (Zb (Zc ?_))
 simp only [Eqs,reduceCtorEq,reduceIte,Y5.r0]
 refine Za (Za (Zb (Zc ?_)))
 simp only [Eqs,reduceCtorEq,reduceIte,Zuq,Y5.r1]
 repeat (refine Zut (by first | omega | trivial | (intro h0; simp at h0; omega)) ?_)
 refine KA rfl rfl rfl rfl rfl (fun hcg=>⟨by first | trivial | (simpa [Qu] using hcg),trivial,Zgw _⟩) (Zc ?_)
 simp only [Eqs,reduceCtorEq,reduceIte,Zuq]
 refine Ze rfl trivial (fun hc=>?_) (fun hc=>?_)
 ·refine Za (Zb (Zc ?_))
  simp only [Eqs,reduceCtorEq,reduceIte,Zuq,Y5.r2]
  refine hret rfl (by first | trivial | simp) (Yk ?_) (by first | exact Zuw _ | exact Zl (by first | trivial | assumption) | assumption | exact Zuy _ (by assumption))
  cases s with | nil=>rfl | cons c r=>(simp [K0] at hc ⊢; intro h1 h2; simp [h2] at hc; omega)
 ·refine Zg (Za (Za (Zb (Zc ?_))))
  simp only [Eqs,reduceCtorEq,reduceIte,Zuq,Y5.r3]
  have he:K0 s=(s.drop 0).all ZaL:=by
   cases s with
   | nil=>simp at hc
   | cons c r=>simp at hc; simp [K0,hc]; omega
  refine Zj (ZX ?_)
  have key:∀ n k,n + k=s.length→K0 s=(s.drop k).all ZaL→ZT F [.code (Y5.l0),.inLoop Y5.l0,.inBlock 0,.code (.seq (qR Y5.r8 [2]) .ret)] [(0,.d (.str s)),(3,.d (.int .i64 k))] [] st:=by
   intro n
   induction n with
   | zero =>
    intro k hk he
    refine Za (Za (Zb (Zc ?_)))
    simp only [Eqs,reduceCtorEq,reduceIte,Zuq,Y5.r4]
    refine Ze rfl trivial (fun hd=>?_) (fun hd=>?_)
    ·simp at hd; omega
    ·refine ZQ rfl (Za (Zb (Zc ?_)))
     simp only [Eqs,reduceCtorEq,reduceIte,Zuq,Y5.r8]
     refine hret rfl (by first | trivial | simp) (Yk ?_) (by first | exact Zuw _ | exact Zl (by first | trivial | assumption) | assumption | exact Zuy _ (by assumption))
     rw [he,show k=s.length by omega]; simp
   | succ n ih =>
    intro k hk he
    have hall:=Zqb s k (by omega)
    refine Za (Za (Zb (Zc ?_)))
    simp only [Eqs,reduceCtorEq,reduceIte,Zuq,Y5.r4]
    refine Ze rfl trivial (fun hd=>?_) (fun hd=>?_)
    ·refine Zg (Za (Zj (Za (Zb (Zc ?_)))))
     simp only [Eqs,reduceCtorEq,reduceIte,Zuq,Y5.r6]
     repeat (refine Zut (by first | omega | trivial | (intro h0; simp at h0; omega)) ?_)
     refine ZW rfl rfl rfl rfl rfl (by trivial) (by trivial) (by exact Zgw _) (Zc ?_)
     simp only [Eqs,reduceCtorEq,reduceIte,Zuq]
     repeat (refine Zut (by first | omega | trivial | (intro h0; simp at h0; omega)) ?_)
     refine KA rfl rfl rfl rfl rfl (fun hcg=>⟨by first | trivial | (simpa [Qu] using hcg),trivial,ZmO _⟩) (Zc ?_)
     simp only [Eqs,reduceCtorEq,reduceIte,Zuq]
     repeat (refine Zut (by first | omega | trivial | (intro h0; simp at h0; omega)) ?_)
     refine Ze rfl trivial (fun h3=>?_) (fun h3=>?_)
     ·refine Za (Zb (Zc ?_))
      simp only [Eqs,reduceCtorEq,reduceIte,Zuq,Y5.r7]
      have hn:ZaL (s.getD k 0)=false:=by
       cases h1:ZdT (s.getD k 0) <;> cases h2:ZhM (s.getD k 0) <;> simp_all [ZaL]
      refine hret rfl (by first | trivial | simp) (Yk ?_) (by first | exact Zuw _ | exact Zl (by first | trivial | assumption) | assumption | exact Zuy _ (by assumption))
      rw [he,hall,hn]; rfl
     ·refine Zg (Zm (Zb (Zc ?_)))
      simp only [Eqs,reduceCtorEq,reduceIte,Zuq,Y5.r5]
      repeat (refine Zut (by first | omega | trivial | (intro h0; simp at h0; omega)) ?_)
      refine Zy ?_
      have hn:ZaL (s.getD k 0)=true:=by
       cases h1:ZdT (s.getD k 0) <;> cases h2:ZhM (s.getD k 0) <;> simp_all [ZaL]
      exact ih (k + 1) (by omega) (by rw [he,hall,hn]; rfl)
    ·simp at hd; omega
  exact key s.length 0 (by omega) he
end Go.DL
namespace Go.DL
open Go
theorem Qf {α:Type} [Inhabited α] {l:List α} {k:Nat} (h:k < l.length):l.drop k=l.getD k default :: l.drop (k + 1):=by
 rw [List.drop_eq_getElem_cons h]; simp [List.getD,h]
theorem Wz {α:Type} [Inhabited α] {l:List α} {k:Nat} (h:k < l.length):l.take (k + 1)=l.take k++[l.getD k default]:=by
 rw [List.take_succ_eq_append_getElem h]; simp [List.getD,h]
theorem ZaC {α:Type} [Inhabited α] {l:List α} {k:Nat} {x:α} (hk:k≤l.length):x∈l.take k↔∃ j,j < k∧l.getD j default=x:=by
 constructor
 ·intro h
  obtain ⟨j,hj,rfl⟩:=ZuJ h
  simp only [List.length_take] at hj
  exact ⟨j,by omega,by simp [List.getD,show j < l.length by omega]⟩
 ·rintro ⟨j,hj,rfl⟩
  rw [List.mem_take_iff_getElem]
  exact ⟨j,by omega,by simp [List.getD,show j < l.length by omega]⟩
theorem Zg7 {α:Type} [Inhabited α] {β:Type} {f:α→β} {l:List α} {k:Nat} (hk:k≤l.length) (x:β):x∈(l.take k).map f↔∃ j,j < k∧f (l.getD j default)=x:=by
 simp only [List.mem_map]
 constructor
 ·rintro ⟨a,ha,rfl⟩
  obtain ⟨j,hj,rfl⟩:=(ZaC hk).1 ha
  exact ⟨j,hj,rfl⟩
 ·rintro ⟨j,hj,rfl⟩
  exact ⟨_,(ZaC hk).2 ⟨j,hj,rfl⟩,rfl⟩
def YE {α:Type} [Inhabited α] (f:α→List D) (row:Nat→List D) (l:List α):Prop:=∀ i,i < l.length→row i=f (l.getD i default)
section
variable {α:Type} [Inhabited α] {f:α→List D} {row row2:Nat→List D} {l a b:List α}
theorem YE.self:YE f (fun i=>f (l.getD i default)) l:=fun _ _=>rfl
theorem YE.nil:YE f row []:=fun i h=>absurd h (Nat.not_lt_zero i)
theorem YE.one {x:α} (h:row 0=f x):YE f row [x]:=fun i hi=>by
 obtain rfl:i=0:=by simp at hi; exact hi
 exact h
theorem YE.app {n:Nat} (h:YE f row a) (h2:YE f row2 b) (hn:n=a.length):YE f (QN n row row2) (a++b):=fun i hi=>by
 subst hn
 unfold QN
 split
 ·rename_i h1; rw [h i h1]; simp [List.getD,List.getElem?_append_left h1]
 ·rename_i h1
  rw [h2 (i - a.length) (by simp at hi; omega)]; simp [List.getD,List.getElem?_append_right (Nat.not_lt.1 h1)]
theorem YE.snoc {n:Nat} {x:α} (h:YE f row a) (h2:row2 0=f x) (hn:n=a.length):YE f (QN n row row2) (a++[x]):=h.app (.one h2) hn
theorem YE.drop (h:YE f row l) (k:Nat):YE f (fun i=>row (k + i)) (l.drop k):=fun i hi=>by
 simp at hi
 show row (k + i)=_
 rw [h (k + i) (by omega)]; simp [List.getD]
theorem YE.take (h:YE f row l) (k:Nat):YE f row (l.take k):=fun i hi=>by
 rw [List.length_take] at hi
 rw [h i (by omega)]; simp [List.getD,List.getElem?_take_of_lt (show i < k by omega)]
theorem YE.le {t:Tok} {n s:Nat} (h:YE f row l) (hn:n=l.length):(D.sl t n s row).Le (slD s f l):=Zss hn fun i hi=>h i (by omega)
theorem YE.leT {t:Tok} {n s:Nat} (h:YE f row l) (hn:n=l.length):(D.sl t n s row).Le (.sl t l.length s fun i=>f (l.getD i default)):=by
 subst hn; exact ZgH fun i hi=>by rw [h i hi]; exact LeC.refl _
end
end Go.DL
namespace Go.DL
open Go Go.Proofs
def Jq (t:Z5):Bool:=K0 t.field && !decide (t.factor=0) && Q4 t.factor
def QR:List Str→List Z5→Bool
 | _,[]=>true
 | seen,t :: r=>Jq t && !decide (t.field∈seen) && QR (seen++[t.field]) r
def YN (s:Wu):Bool:=Q4 s.base && decide (s.terms.length≤4) && QR [] s.terms
theorem ZcZ (s:Wu):ZR Zuv Z1.id [.agg s.cells] (.bool (YN s)):=by
 refine WD Z1.ok fun hwf F st hret=>?_
 have hw:=(ZkO (s:=s) (hwf _ (by simp))).nterms
 unfold big at hw
 clear hwf
 refine Za (Zb (Zc ?_))
 simp only [Eqs,reduceCtorEq,reduceIte,Zuq,Z1.r0,Wu.cells,Yj,slD]
 refine Za (Za (Zb (Zc ?_)))
 simp only [Eqs,reduceIte,Zuq,Z1.r1]
 refine ZW rfl rfl rfl rfl rfl (by trivial) (by trivial) (by exact Zha _) (Zc ?_)
 simp only [Eqs,reduceIte,Zuq]
 refine Ze rfl trivial (fun hc=>?_) (fun hc=>?_)
 ·refine Za (Zb (Zc ?_))
  simp only [Eqs,reduceIte,Zuq,Z1.r2]
  refine hret rfl (by first | trivial | simp) (Yk ?_) (by first | exact Zuw _ | exact Zl (by first | trivial | assumption) | assumption | exact Zuy _ (by assumption))
  simp [YN]; cases h:Q4 s.base <;> simp [h] at hc ⊢; intro h2; omega
 ·have he:YN s=QR ((s.terms.take 0).map (·.field)) (s.terms.drop 0):=by
   simp [YN] at hc ⊢; simp [hc]; intro h; omega
  refine Zg (Za (Za (Zb (Zc ?_))))
  simp only [Eqs,reduceIte,Zuq,Z1.r3]
  refine Zj (ZX ?_)
  have key:∀ n i,n + i=s.terms.length→YN s=QR ((s.terms.take i).map (·.field)) (s.terms.drop i)→ZT F [.code (Z1.l0),.inLoop Z1.l0,.inBlock 0,.code (.seq (qR Z1.r13 [2]) .ret)] [(1,.loc 1 0),(3,.d (.int .i64 i))] [(1,[.int .i64 s.base,.sl .none s.terms.length 2 fun i=>(s.terms.getD i default).cells])] st:=by
   intro n
   induction n with
   | zero =>
    intro i hi he
    refine Za (Za (Zb (Zc ?_)))
    simp only [Eqs,reduceIte,Zuq,Z1.r4]
    refine Ze rfl trivial (fun hd=>?_) (fun hd=>?_)
    ·simp at hd; omega
    ·refine ZQ rfl (Za (Zb (Zc ?_)))
     simp only [Eqs,reduceIte,Zuq,Z1.r13]
     refine hret rfl (by first | trivial | simp) (Yk ?_) (by first | exact Zuw _ | exact Zl (by first | trivial | assumption) | assumption | exact Zuy _ (by assumption))
     rw [he,show i=s.terms.length by omega]; simp [QR]
   | succ n ih =>
    intro i hi he
    have hdr:=Qf (l:=s.terms) (k:=i) (by omega)
    have htk:=Wz (l:=s.terms) (k:=i) (by omega)
    rw [hdr] at he
    simp only [QR] at he
    generalize hx:s.terms.getD i default=x at *
    refine Za (Za (Zb (Zc ?_)))
    simp only [Eqs,reduceIte,Zuq,Z1.r4]
    refine Ze rfl trivial (fun hd=>?_) (fun hd=>?_)
    ·refine Zg (Za (Zj (Za (Za (Zb (Zc ?_))))))
     simp only [Eqs,reduceIte,Zuq,Z1.r6,Z5.cells,hx]
     repeat (refine Zut (by first | omega | trivial | (intro h0; simp at h0; omega)) ?_)
     refine ZW rfl rfl rfl rfl rfl (by trivial) (by trivial) (by exact ZdE _) (Zc ?_)
     simp only [Eqs,reduceIte,Zuq]
     repeat (refine Zut (by first | omega | trivial | (intro h0; simp at h0; omega)) ?_)
     refine KA rfl rfl rfl rfl rfl (fun hcg=>⟨by first | trivial | (simpa [Qu] using hcg),trivial,Zha _⟩) (Zc ?_)
     simp only [Eqs,reduceIte,Zuq,hx]
     refine Ze rfl trivial (fun h3=>?_) (fun h3=>?_)
     ·refine Za (Zb (Zc ?_))
      simp only [Eqs,reduceIte,Zuq,Z1.r7]
      have:Jq x=false:=by revert h3; unfold Jq; generalize K0 x.field=a; generalize decide (x.factor=0)=b; generalize Q4 x.factor=c; cases a <;> cases b <;> cases c <;> decide
      refine hret rfl (by first | trivial | simp) (Yk ?_) (by first | exact Zuw _ | exact Zl (by first | trivial | assumption) | assumption | exact Zuy _ (by assumption))
      rw [he,this]; rfl
     ·have hok:Jq x=true:=by revert h3; unfold Jq; generalize K0 x.field=a; generalize decide (x.factor=0)=b; generalize Q4 x.factor=c; cases a <;> cases b <;> cases c <;> decide
      refine Zg (Za (Zb (Zc ?_)))
      simp only [Eqs,reduceIte,Zuq,Z1.r8]
      refine Zj (ZX ?_)
      have key2:∀ m j,m + j=i→(∀ j',j' < j→(s.terms.getD j' default).field≠x.field)→ZT F [.code (Z1.l1),.inLoop Z1.l1,.inBlock 2,.inBlock 1,.code (qR Z1.r5 [1,3]),.inLoop Z1.l0,.inBlock 0,.code (.seq (qR Z1.r13 [2]) .ret)] [(1,.loc 1 0),(3,.d (.int .i64 i)),(4,.d (.int .i64 j))] [(1,[.int .i64 s.base,.sl .none s.terms.length 2 fun i=>(s.terms.getD i default).cells])] st:=by
       intro m
       induction m with
       | zero =>
        intro j hj hno
        refine Za (Za (Zb (Zc ?_)))
        simp only [Eqs,reduceIte,Zuq,Z1.r9]
        refine Ze rfl trivial (fun h4=>?_) (fun h4=>?_)
        ·simp at h4; omega
        ·refine ZQ rfl (Zm (Zb (Zc ?_)))
         simp only [Eqs,reduceIte,Zuq,Z1.r5]
         repeat (refine Zut (by first | omega | trivial | (intro h0; simp at h0; omega)) ?_)
         refine Zy ?_
         refine ih (i + 1) (by omega) ?_
         have hnc:x.field ∉ (s.terms.take i).map (·.field):=by
          intro h
          obtain ⟨j',h1,h2⟩:=(Zg7 (f:=(·.field)) (l:=s.terms) (k:=i) (by omega) x.field).1 h
          exact hno j' (by omega) h2
         rw [he,hok,decide_eq_false hnc,htk]; simp
       | succ m ih2 =>
        intro j hj hno
        refine Za (Za (Zb (Zc ?_)))
        simp only [Eqs,reduceIte,Zuq,Z1.r9]
        refine Ze rfl trivial (fun h4=>?_) (fun h4=>?_)
        ·refine Zg (Za (Zj (Za (WB (Wj ?_)))))
         simp only [Eqs,reduceIte,Zuq,Z1.r11,Z5.cells,hx]
         repeat (refine Zut (by first | omega | trivial | (intro h0; simp at h0; omega)) ?_)
         refine Ze rfl trivial (fun h5=>?_) (fun h5=>?_)
         ·refine Za (Zb (Zc ?_))
          simp only [Eqs,reduceIte,Zuq,Z1.r12]
          have hnc:x.field∈(s.terms.take i).map (·.field):=(Zg7 (f:=(·.field)) (l:=s.terms) (k:=i) (by omega) x.field).2 ⟨j,by omega,by simpa using h5⟩
          refine hret rfl (by first | trivial | simp) (Yk ?_) (by first | exact Zuw _ | exact Zl (by first | trivial | assumption) | assumption | exact Zuy _ (by assumption))
          rw [he,decide_eq_true hnc]; simp
         ·refine Zg (Zm (Zb (Zc ?_)))
          simp only [Eqs,reduceIte,Zuq,Z1.r10]
          repeat (refine Zut (by first | omega | trivial | (intro h0; simp at h0; omega)) ?_)
          refine Zy ?_
          refine ih2 (j + 1) (by omega) fun j' hj'=>?_
          by_cases hjj:j'=j
          ·subst hjj; simpa using h5
          ·exact hno j' (by omega)
        ·simp at h4; omega
      exact key2 i 0 (by omega) (fun j' h=>by omega)
    ·simp at hd; omega
  exact key s.terms.length 0 (by omega) he
end Go.DL
namespace Go.DL
open Go Go.Proofs
structure Ran where
 name:Str
 low:Int
 high:Int
deriving Inhabited,DecidableEq
def Ran.cells (r:Ran):List D:=[.str r.name,.int .i64 r.low,.int .i64 r.high]
def Zbv (l:List Ran):D:=slD 3 Ran.cells l
def Kj (s:Str):List Ran→Int
 | []=>-1
 | x :: r=>if 0≤Kj s r then Kj s r + 1 else if x.name=s then 0 else -1
theorem ZiX (s:Str) (l:List Ran):-1≤Kj s l:=by
 induction l with
 | nil=>simp [Kj]
 | cons x r ih=>simp only [Kj]; split <;> (try split) <;> omega
theorem ZiY (s:Str) (l:List Ran):Kj s l < l.length:=by
 induction l with
 | nil=>simp [Kj]
 | cons x r ih=>simp only [Kj,ZuI]; split <;> (try split) <;> omega
theorem Zf8 (s:Str) (l:List Ran) (x:Ran):Kj s (l++[x])=if x.name=s then (l.length:Int) else Kj s l:=by
 induction l with
 | nil=>simp [Kj]
 | cons y r ih =>
  simp only [List.cons_append,Kj,ih,ZuI]
  have:=ZiX s r
  by_cases h:x.name=s <;> simp [h]
theorem ZeF (l:List Ran) (s:Str):ZR Zuv Yb.id [Zbv l,.str s] (.int .i64 (Kj s l)):=by
 refine WD Yb.ok fun hwf F st hret=>?_
 have hw:=(QD (hwf (Zbv l) (by simp))).1
 unfold big at hw
 clear hwf
 refine Za (Zb (Zc ?_))
 simp only [Eqs,reduceCtorEq,reduceIte,Zuq,Zur,Yb.r0,Zbv,slD]
 refine Za (Zb (Zc ?_))
 simp only [Eqs,reduceCtorEq,reduceIte,Zuq,Yb.r1]
 refine Za (Za (Zb (Zc ?_)))
 simp only [Eqs,reduceCtorEq,reduceIte,Zuq,Yb.r2]
 refine Zj (ZX ?_)
 have key:∀ (n i:Nat),(l.length) - i=n→i≤l.length→ZT F [.code (Yb.l0),.inLoop Yb.l0,.inBlock 0,.code (.seq (qR Yb.r7 [4]) .ret)] [(0,.d (Zbv l)),(1,.d (.str s)),(5,.d (.int .i64 (Kj s (l.take i)))),(6,.d (.int .i64 i))] [] st:=by
  intro n
  induction n using Nat.strongRecOn with
  | ind n ih_key =>
  intro i hn hi
  have hge:=ZiX s (l.take i)
  refine Za (Za (Zb (Zc ?_)))
  simp only [Eqs,reduceCtorEq,reduceIte,Zuq,Yb.r3,Zbv,slD]
  refine Ze rfl trivial (fun hd=>?_) (fun hd=>?_)
  ·simp at hd
   refine Zg (Za (Zj (Za (Zb (Zc ?_)))))
   simp only [Eqs,reduceCtorEq,reduceIte,Zuq,Yb.r5,Ran.cells]
   repeat (refine Zut (by first | omega | trivial | (intro h0; simp at h0; omega)) ?_)
   refine Ze rfl trivial (fun h5=>?_) (fun h5=>?_)
   ·refine Zb (Zc ?_)
    simp only [Eqs,reduceCtorEq,reduceIte,Zuq,Yb.r6]
    refine Zm (Zb (Zc ?_))
    simp only [Eqs,reduceCtorEq,reduceIte,Zuq,Yb.r4]
    repeat (refine Zut (by first | omega | trivial | (intro h0; simp at h0; omega)) ?_)
    have:Kj s (l.take (i + 1))=i:=by rw [Wz (by omega),Zf8,if_pos (by simpa using h5)]; simp; omega
    refine Zy ?_
    have hnext:=ih_key ((l.length) - (i + 1)) (by omega) (i + 1) rfl (by omega)
    rw [this] at hnext
    exact hnext
   ·refine Zg (Zm (Zb (Zc ?_)))
    simp only [Eqs,reduceCtorEq,reduceIte,Zuq,Yb.r4]
    repeat (refine Zut (by first | omega | trivial | (intro h0; simp at h0; omega)) ?_)
    have:Kj s (l.take (i + 1))=Kj s (l.take i):=by rw [Wz (by omega),Zf8,if_neg (by simpa using h5)]
    refine Zy ?_
    have hnext:=ih_key ((l.length) - (i + 1)) (by omega) (i + 1) rfl (by omega)
    rw [this] at hnext
    exact hnext
  ·refine ZQ rfl (Za (Zb (Zc ?_)))
   simp only [Eqs,reduceCtorEq,reduceIte,Zuq,Yb.r7]
   refine hret rfl (by first | trivial | simp) (YG ?_) (by first | exact Zuw _ | exact Zl (by first | trivial | assumption) | assumption | exact Zuy _ (by assumption))
   simp at hd; rw [List.take_of_length_le (by omega)]
 exact key _ 0 rfl (by omega)
end Go.DL
namespace Go.DL
open Go Go.Proofs
abbrev Jg:=Str→Option (Int × Int)
def Zan (r:Int × Int):Bool:=decide (r.1 < 0) || decide (r.2 < r.1) || decide (34359738368≤r.2)
def QP (look:Jg) (t:Z5):Bool:=match look t.field with | some r=>Zan r | none=>false
def KW (look:Jg) (t:Z5):Bool:=(look t.field).isNone
def ZaH (s:Wu) (look:Jg):Int:=if YN s=false then 2 else if s.terms.any (QP look) then 2 else if s.terms.any (KW look) then 9 else 0
def ZaA (look:Jg) (t:Z5):Int × Int:=(look t.field).getD (0,0)
def loT (look:Jg) (t:Z5):Int:=if 0 < t.factor then t.factor * (ZaA look t).1 else t.factor * (ZaA look t).2
def hiT (look:Jg) (t:Z5):Int:=if 0 < t.factor then t.factor * (ZaA look t).2 else t.factor * (ZaA look t).1
def loS (look:Jg):List Z5→Int
 | []=>0
 | t :: r=>loT look t + loS look r
def hiS (look:Jg):List Z5→Int
 | []=>0
 | t :: r=>hiT look t + hiS look r
def Km (s:Wu) (look:Jg):Int × Int × Int:=if ZaH s look=0 then (s.base + loS look s.terms,s.base + hiS look s.terms,0) else (0,0,ZaH s look)
def Zb1 (look:Jg) (t:Z5) (mix:Nat):Int:=t.factor * (if mix % 2=1 then (ZaA look t).2 else (ZaA look t).1)
def ZaY (look:Jg):List Z5→Nat→Int
 | [],_=>0
 | t :: r,mix=>Zb1 look t mix + ZaY look r (mix / 2)
structure ZiM (look:Jg) (t:Z5):Prop where
 le:(ZaA look t).1≤(ZaA look t).2
 lo:0≤(ZaA look t).1
 hi:(ZaA look t).2 < 34359738368
 f1:-1048576≤t.factor
 f2:t.factor≤1048576
theorem Zsh {f v:Int} (h1:-1048576≤f) (h2:f≤1048576) (h3:0≤v) (h4:v < 34359738368):-36028797018963968≤f * v∧f * v≤36028797018963968:=by
 have a:f * v≤1048576 * v:=Int.mul_le_mul_of_nonneg_right h2 h3
 have b:-1048576 * v≤f * v:=Int.mul_le_mul_of_nonneg_right h1 h3
 omega
theorem ZiM.ends_mix {look:Jg} {t:Z5} (h:ZiM look t) (m:Nat):-36028797018963968≤Zb1 look t m∧Zb1 look t m≤36028797018963968:=by
 have a:=h.le; have b:=h.lo; have c:=h.hi
 unfold Zb1; split
 ·exact Zsh h.f1 h.f2 (by omega) c
 ·exact Zsh h.f1 h.f2 b (by omega)
theorem ZiM.lo_le {look:Jg} {t:Z5} (h:ZiM look t) (m:Nat):loT look t≤Zb1 look t m∧Zb1 look t m≤hiT look t:=by
 have a:=h.le
 unfold loT hiT Zb1
 by_cases hf:0 < t.factor
 ·have:=Int.mul_le_mul_of_nonneg_left a (show 0≤t.factor by omega)
  simp only [hf,if_true]; split <;> omega
 ·have:=Int.mul_le_mul_of_nonpos_left (show t.factor≤0 by omega) a
  simp only [hf,if_false]; split <;> omega
theorem ZpC {look:Jg} {l:List Z5} (h:∀ t∈l,ZiM look t) (m:Nat):loS look l≤ZaY look l m∧ZaY look l m≤hiS look l:=by
 induction l generalizing m with
 | nil=>simp [loS,ZaY,hiS]
 | cons t r ih =>
  have:=(h t (by simp)).lo_le m
  have:=ih (fun t ht=>h t (by simp [ht])) (m / 2)
  simp only [loS,ZaY,hiS]; omega
theorem Zsv {look:Jg} (l:List Z5):(∃ m,m < 2 ^ l.length∧ZaY look l m=loS look l)∧∃ m,m < 2 ^ l.length∧ZaY look l m=hiS look l:=by
 induction l with
 | nil=>exact ⟨⟨0,by simp,rfl⟩,⟨0,by simp,rfl⟩⟩
 | cons t r ih =>
  obtain ⟨⟨m,hm,he⟩,⟨n,hn,hf⟩⟩:=ih
  simp only [ZuI,Nat.pow_succ,loS,ZaY,hiS,loT,hiT]
  by_cases hf':0 < t.factor
  ·refine ⟨⟨2 * m,by omega,?_⟩,⟨2 * n + 1,by omega,?_⟩⟩
   ·rw [show 2 * m / 2=m by omega,he]; simp [Zb1,hf']
   ·rw [show (2 * n + 1) / 2=n by omega,hf]; simp [Zb1,hf',show (2 * n + 1) % 2=1 by omega]
  ·refine ⟨⟨2 * m + 1,by omega,?_⟩,⟨2 * n,by omega,?_⟩⟩
   ·rw [show (2 * m + 1) / 2=m by omega,he]; simp [Zb1,hf',show (2 * m + 1) % 2=1 by omega]
   ·rw [show 2 * n / 2=n by omega,hf]; simp [Zb1,hf']
theorem ZpE {look:Jg} {l:List Z5} {i:Nat} (h:i < l.length) (m:Nat):ZaY look (l.drop i) (m / 2 ^ i)=Zb1 look (l.getD i default) (m / 2 ^ i) + ZaY look (l.drop (i + 1)) (m / 2 ^ (i + 1)):=by
 rw [Qf h,ZaY,Nat.div_div_eq_div_mul,Nat.pow_succ]
structure Zkq (look:Jg) (l:List Z5) (b:Int) (k:Nat) (low high:Int):Prop where
 zero:k=0→low=0∧high=0
 le:∀ m,m < k→low≤b + ZaY look l m∧b + ZaY look l m≤high
 ex:0 < k→(∃ m,m < k∧low=b + ZaY look l m)∧∃ m,m < k∧high=b + ZaY look l m
theorem Zkq.fin {look:Jg} {l:List Z5} {b low high:Int} (h:Zkq look l b (2 ^ l.length) low high) (hl:∀ t∈l,ZiM look t):low=b + loS look l∧high=b + hiS look l:=by
 obtain ⟨⟨m,hm,he⟩,⟨n,hn,hf⟩⟩:=Zsv (look:=look) l
 obtain ⟨⟨m',hm',he'⟩,⟨n',hn',hf'⟩⟩:=h.ex (Nat.two_pow_pos _)
 have h1:=h.le m hm
 have h2:=h.le n hn
 have h3:=ZpC hl m'
 have h4:=ZpC hl n'
 omega
theorem Zkq.step {look:Jg} {l:List Z5} {b low high:Int} {k:Nat} {n low' high':Int} (h:Zkq look l b k low high) (hn:n=b + ZaY look l k) (h1:low'=if k=0∨n < low then n else low) (h2:high'=if k=0∨high < n then n else high):Zkq look l b (k + 1) low' high':=by
 by_cases hk:k=0
 ·subst hk
  simp only [true_or,if_true] at h1 h2
  refine ⟨by omega,fun m hm=>?_,fun _=>⟨⟨0,by omega,by omega⟩,⟨0,by omega,by omega⟩⟩⟩
  obtain rfl:m=0:=by omega
  omega
 ·simp only [hk,false_or] at h1 h2
  obtain ⟨⟨m',hm',he'⟩,⟨n',hn',hf'⟩⟩:=h.ex (by omega)
  refine ⟨by omega,fun m hm=>?_,fun _=>⟨?_,?_⟩⟩
  ·rcases Nat.lt_succ_iff_lt_or_eq.1 hm with hm | rfl
   ·have:=h.le m hm
    constructor
    ·rw [h1]; split <;> omega
    ·rw [h2]; split <;> omega
   ·constructor
    ·rw [h1]; split <;> omega
    ·rw [h2]; split <;> omega
  ·rw [h1]; split
   ·exact ⟨k,by omega,hn⟩
   ·exact ⟨m',by omega,he'⟩
  ·rw [h2]; split
   ·exact ⟨k,by omega,hn⟩
   ·exact ⟨n',by omega,hf'⟩
theorem ZkR {seen:List Str} {l:List Z5} (h:QR seen l=true):∀ t∈l,Jq t=true:=by
 induction l generalizing seen with
 | nil=>simp
 | cons x r ih =>
  simp only [QR,ZuA] at h
  intro t ht
  rcases List.mem_cons.1 ht with rfl | ht
  ·exact h.1.1
  ·exact ih h.2 t ht
structure Zfp (s:Wu):Prop where
 b1:-1048576≤s.base
 b2:s.base≤1048576
 len:s.terms.length≤4
 f1:∀ t∈s.terms,-1048576≤t.factor
 f2:∀ t∈s.terms,t.factor≤1048576
 f0:∀ t∈s.terms,t.factor≠0
 nm:∀ t∈s.terms,K0 t.field=true
theorem Zfp.of {s:Wu} (h:YN s=true):Zfp s:=by
 simp only [YN,ZuA,decide_eq_true_eq,Q4] at h
 have ht:=ZkR h.2
 refine ⟨h.1.1.1,h.1.1.2,h.1.2,?_,?_,?_,?_⟩ <;> intro t h' <;> have:=ht t h' <;> simp [Jq,Q4] at this <;> simp_all
end Go.DL
namespace Go.DL
open Go Go.Proofs
def KU (l:List Ran):Jg:=fun s=>if Kj s l < 0 then none else some ((l.getD (Kj s l).toNat default).low,(l.getD (Kj s l).toNat default).high)
theorem ZfR {α:Type} [Inhabited α] {p:α→Bool} {l:List α} {i:Nat} (h:i < l.length):(l.take (i + 1)).any p=((l.take i).any p || p (l.getD i default)):=by
 rw [Wz h,List.any_append]; simp
theorem Zl7 {α:Type} [Inhabited α] {p:α→Bool} {l:List α} {i:Nat} (h:i < l.length) (hp:p (l.getD i default)=true):l.any p=true :=
 List.any_eq_true.2 ⟨_,Ki h,hp⟩
theorem Ze1 (s:Wu) (l:List Ran):ZR Zuv Zk.id [.agg s.cells,Zbv l] (.tup [.int .i64 (Km s (KU l)).1,.int .i64 (Km s (KU l)).2.1,.int .i64 (Km s (KU l)).2.2]):=by
 refine WD Zk.ok fun hwf F st hret=>?_
 have hw:=(ZkO (s:=s) (hwf _ (by simp))).nterms
 have hwl:=(QD (hwf (Zbv l) (by simp))).1
 unfold big at hw hwl
 clear hwf
 refine Za (Zb (Zc ?_))
 simp only [Eqs,reduceCtorEq,reduceIte,Zuq,Zur,Zk.r0,Wu.cells,Yj,slD]
 refine Za (Za (Zb (Zc ?_)))
 simp only [Eqs,reduceIte,Zuq,Zur,Zus,Zk.r1]
 refine ZW rfl rfl rfl rfl rfl (by trivial) (by trivial) (by exact ZcZ s) (Zc ?_)
 simp only [Eqs,reduceIte,Zuq]
 refine Ze rfl trivial (fun hc=>?_) (fun hc=>?_)
 ·refine Za (Zb (Zc ?_))
  simp only [Eqs,reduceIte,Zuq,Zk.r2]
  simp at hc
  refine hret rfl (by first | trivial | simp) (Qm ?_ rfl) (by first | exact Zuw _ | exact Zl (by first | trivial | assumption) | assumption | exact Zuy _ (by assumption))
  simp [Km,ZaH,hc]
 ·simp at hc
  have hv:=Zfp.of hc
  refine Zg (Za (Zb (Zc ?_)))
  simp only [Eqs,reduceIte,Zuq,Zk.r3]
  refine Za (Za (Zb (Zc ?_)))
  simp only [Eqs,reduceIte,Zuq,Zk.r4]
  refine Zj (ZX ?_)
  have key:∀ (n i:Nat),(s.terms.length) - i=n→i≤s.terms.length→(s.terms.take i).any (QP (KU l))=false→ZT F [.code (Zk.l0),.inLoop Zk.l0,.inBlock 0,.code (.seq (.seq (qR Zk.r12 [1,2,64]) (qC 64 (.seq (qR Zk.r13 [4,5,6]) .ret) .skip)) (.seq (qR Zk.r14 [1,2,10,11]) (.seq (.seq (qR Zk.r15 [1,2,10,11,12]) (.block 2 (.loop Zk.l1))) (.seq (qR Zk.r31 [4,5,6]) .ret))))] [(1,.d (Zbv l)),(2,.loc 2 0),(7,.d (.bool ((s.terms.take i).any (KW (KU l))))),(8,.d (.int .i64 i))] [(2,[.int .i64 s.base,Yj s.terms])] st:=by
   intro n
   induction n using Nat.strongRecOn with
   | ind n ih_key =>
   intro i hn hi hbad
   refine Za (Za (Zb (Zc ?_)))
   simp only [Eqs,reduceIte,Zuq,Zk.r5,Yj,slD]
   refine Ze rfl trivial (fun hd=>?_) (fun hd=>?_)
   ·simp at hd
    have hbs:=ZfR (p:=QP (KU l)) hd
    have hns:=ZfR (p:=KW (KU l)) hd
    refine Zg (Za (Zj (Za (Zb (Zc ?_)))))
    simp only [Eqs,reduceIte,Zuq,Zk.r7,Z5.cells]
    repeat (refine Zut (by first | omega | trivial | (intro h0; simp at h0; omega)) ?_)
    refine ZW rfl rfl rfl rfl rfl (by trivial) (by trivial) (by exact ZeF l _) (Zc ?_)
    simp only [Eqs,reduceIte,Zuq]
    refine Za (Za (Zb (Zc ?_)))
    simp only [Eqs,reduceIte,Zuq,Zk.r8]
    refine Ze rfl trivial (fun h5=>?_) (fun h5=>?_)
    ·refine Za (Zb (Zc ?_))
     simp only [Eqs,reduceIte,Zuq,Zk.r9]
     refine ZQ rfl (Zb (Zc ?_))
     simp only [Eqs,reduceIte,Zuq,Zk.r6]
     repeat (refine Zut (by first | omega | trivial | (intro h0; simp at h0; omega)) ?_)
     have hnn:KW (KU l) (s.terms.getD i default)=true:=by simp only [KW,KU]; rw [if_pos (of_decide_eq_true h5)]; rfl
     have hnb:QP (KU l) (s.terms.getD i default)=false:=by simp only [QP,KU]; rw [if_pos (of_decide_eq_true h5)]
     rw [hnn,Bool.or_true] at hns
     rw [hnb,Bool.or_false] at hbs
     refine Zy ?_
     have hnext:=ih_key ((s.terms.length) - (i + 1)) (by omega) (i + 1) rfl (by omega) (by rw [hbs,hbad])
     rw [hns] at hnext
     exact hnext
    ·have hge:=ZiY (s.terms.getD i default).field l
     have h5':¬ Kj (s.terms.getD i default).field l < 0:=of_decide_eq_false h5
     refine Zg (Za (WB (Wj ?_)))
     simp only [Eqs,reduceIte,Zuq,Zk.r10,Ran.cells,Zbv,slD]
     repeat (refine Zut (by first | omega | trivial | (intro h0; simp at h0; omega)) ?_)
     have hnn:KW (KU l) (s.terms.getD i default)=false:=by simp only [KW,KU]; rw [if_neg h5']; rfl
     have hnb:QP (KU l) (s.terms.getD i default)=Zan ((l.getD (Kj (s.terms.getD i default).field l).toNat default).low,(l.getD (Kj (s.terms.getD i default).field l).toNat default).high):=by simp only [QP,KU]; rw [if_neg h5']
     refine Ze rfl trivial (fun h6=>?_) (fun h6=>?_)
     ·refine Za (Zb (Zc ?_))
      simp only [Eqs,reduceIte,Zuq,Zk.r11]
      rw [← Zan.eq_1 (_,_)] at h6
      rw [h6] at hnb
      have:=Zl7 hd hnb
      refine hret rfl (by first | trivial | simp) (Qm ?_ rfl) (by first | exact Zuw _ | exact Zl (by first | trivial | assumption) | assumption | exact Zuy _ (by assumption))
      simp [Km,ZaH,hc,this]
     ·refine Zg (Zm (Zb (Zc ?_)))
      simp only [Eqs,reduceIte,Zuq,Zk.r6]
      repeat (refine Zut (by first | omega | trivial | (intro h0; simp at h0; omega)) ?_)
      rw [show Zan (_,_)=false from h6] at hnb
      rw [hnn,Bool.or_false] at hns
      rw [hnb,Bool.or_false] at hbs
      refine Zy ?_
      have hnext:=ih_key ((s.terms.length) - (i + 1)) (by omega) (i + 1) rfl (by omega) (by rw [hbs,hbad])
      rw [hns] at hnext
      exact hnext
   ·simp at hd
    obtain rfl:i=s.terms.length:=by omega
    rw [ZuH] at hbad
    rw [ZuH]
    refine ZQ rfl (Za (Za (Zb (Zc ?_))))
    simp only [Eqs,reduceIte,Zuq,Zk.r12]
    refine Ze rfl trivial (fun h7=>?_) (fun h7=>?_)
    ·refine Za (Zb (Zc ?_))
     simp only [Eqs,reduceIte,Zuq,Zk.r13]
     refine hret rfl (by first | trivial | simp) (Qm ?_ rfl) (by first | exact Zuw _ | exact Zl (by first | trivial | assumption) | assumption | exact Zuy _ (by assumption))
     simp [Km,ZaH,hc,hbad,h7]
    ·have hfine:∀ t∈s.terms,ZiM (KU l) t:=by
      intro t ht
      have h1:=List.any_eq_false.1 hbad t ht
      have h2:=List.any_eq_false.1 h7 t ht
      simp only [QP,KW,KU] at h1 h2
      have hlt:¬ Kj t.field l < 0:=fun h=>h2 (by rw [if_pos h]; rfl)
      rw [if_neg hlt] at h1
      simp [Zan] at h1
      refine ⟨?_,?_,?_,hv.f1 t ht,hv.f2 t ht⟩ <;> simp only [ZaA,KU] <;> rw [if_neg hlt] <;> simp <;> omega
     have he:ZaH s (KU l)=0:=by simp [ZaH,hc,hbad,h7]
     have hfound:∀ t∈s.terms,0≤Kj t.field l∧ZaA (KU l) t=((l.getD (Kj t.field l).toNat default).low,(l.getD (Kj t.field l).toNat default).high):=by
      intro t ht
      have h:=List.any_eq_false.1 h7 t ht
      simp only [KW,KU] at h
      by_cases hlt:Kj t.field l < 0
      ·rw [if_pos hlt] at h; simp at h
      ·simp only [ZaA,KU]; rw [if_neg hlt]; exact ⟨by omega,rfl⟩
     have hsh:Zi8 .i64 1 (s.terms.length:Int)=((2 ^ s.terms.length:Nat):Int):=by
      have:=hv.len
      generalize s.terms.length=n at this
      match n,this with
      | 0,_=>decide
      | 1,_=>decide
      | 2,_=>decide
      | 3,_=>decide
      | 4,_=>decide
      | n + 5,h=>omega
     have hle16:2 ^ s.terms.length≤16:=by
      have:=hv.len
      exact Nat.pow_le_pow_right (n:=2) (by omega) this
     clear ih_key hbad h7 hn hi hd
     refine Zg (Za (Zb (Zc ?_)))
     simp only [Eqs,reduceIte,Zuq,Zk.r14]
     refine Za (Za (Zb (Zc ?_)))
     simp only [Eqs,reduceIte,Zuq,Zk.r15]
     refine Zj (ZX ?_)
     have key2:∀ (n k:Nat),((2 ^ s.terms.length)) - k=n→∀ low high,k≤2 ^ s.terms.length→Zkq (KU l) s.terms s.base k low high→ZT F [.code (Zk.l1),.inLoop Zk.l1,.inBlock 2,.code (.seq (qR Zk.r31 [4,5,6]) .ret)] [(1,.d (Zbv l)),(2,.loc 2 0),(10,.d (.int .i64 low)),(11,.d (.int .i64 high)),(12,.d (.int .i64 k))] [(2,[.int .i64 s.base,Yj s.terms])] st:=by
      intro n
      induction n using Nat.strongRecOn with
      | ind n ih_key2 =>
      intro k hn low high hk hb
      have h2n:=Nat.two_pow_pos s.terms.length
      refine Za (Za (Zb (Zc ?_)))
      simp only [Eqs,reduceIte,Zuq,Zk.r16,Yj,slD,hsh]
      repeat (refine Zut (by first | omega | trivial | (intro h0; simp at h0; omega)) ?_)
      refine Ze rfl trivial (fun h8=>?_) (fun h8=>?_)
      ·have h8':k < 2 ^ s.terms.length:=by have:=of_decide_eq_true h8; omega
       clear h8
       refine Zg (Za (Zj (Za (Zb (Zc ?_)))))
       simp only [Eqs,reduceIte,Zuq,Zk.r18]
       refine Za (Za (Zb (Zc ?_)))
       simp only [Eqs,reduceIte,Zuq,Zk.r19]
       have hbase:∀ j,j≤s.terms.length→True:=fun _ _=>trivial
       refine Zj (ZX ?_)
       have key3:∀ (n j:Nat),(s.terms.length) - j=n→∀ x,j≤s.terms.length→x + ZaY (KU l) (s.terms.drop j) (k / 2 ^ j)=s.base + ZaY (KU l) s.terms k→-1048576 - j * 36028797018963968≤x→x≤1048576 + j * 36028797018963968→ZT F [.code (Zk.l2),.inLoop Zk.l2,.inBlock 4,.code (.seq (.seq (qR Zk.r27 [1,2,10,11,12,13,118]) (qC 118 (qR Zk.r28 [1,2,10,11,12,13]) .skip)) (.seq (qR Zk.r29 [1,2,10,11,12,13,126]) (qC 126 (qR Zk.r30 [1,2,10,11,12]) .skip))),.inBlock 3,.code (qR Zk.r17 [1,2,10,11,12]),.inLoop Zk.l1,.inBlock 2,.code (.seq (qR Zk.r31 [4,5,6]) .ret)] [(1,.d (Zbv l)),(2,.loc 2 0),(10,.d (.int .i64 low)),(11,.d (.int .i64 high)),(12,.d (.int .i64 k)),(13,.d (.int .i64 x)),(14,.d (.int .i64 j))] [(2,[.int .i64 s.base,Yj s.terms])] st:=by
        intro n
        induction n using Nat.strongRecOn with
        | ind n ih_key3 =>
        intro j hn3 x hj hx hx1 hx2
        have hlen:=hv.len
        refine Za (Za (Zb (Zc ?_)))
        simp only [Eqs,reduceIte,Zuq,Zk.r20,Yj,slD]
        refine Ze rfl trivial (fun h9=>?_) (fun h9=>?_)
        ·simp at h9
         have hstep:=ZpE (look:=KU l) h9 k
         have hf:=hfine _ (Ki h9)
         have hem:=hf.ends_mix (k / 2 ^ j)
         have hsome:=hfound _ (Ki h9)
         have hlt:=ZiY (s.terms.getD j default).field l
         have hshr:ZmZ .i64 (k:Int) (j:Int)=((k / 2 ^ j:Nat):Int):=by
          unfold ZmZ
          rw [Int.toNat_natCast,show Nat.min j IntKind.i64.bits=j from Nat.min_eq_left (show j≤IntKind.i64.bits by simp [IntKind.bits]; omega)]
          rw [Int.fdiv_eq_ediv_of_nonneg _ (by exact_mod_cast Nat.zero_le _)]
          simp
         have hk2:k / 2 ^ j≤k:=Nat.div_le_self _ _
         have hrem:Int.tmod ((k / 2 ^ j:Nat):Int) 2=((k / 2 ^ j % 2:Nat):Int):=by simp [Int.tmod]
         generalize hq:k / 2 ^ j=q at *
         refine Zg (Za (Zj (Za (Zb (Zc ?_)))))
         simp only [Eqs,reduceIte,Zuq,Zk.r22,Z5.cells]
         repeat (refine Zut (by first | omega | trivial | (intro h0; simp at h0; omega)) ?_)
         refine ZW rfl rfl rfl rfl rfl (by trivial) (by trivial) (by exact ZeF l _) (Zc ?_)
         simp only [Eqs,reduceIte,Zuq,Zur,Zus,Ran.cells,Zbv,slD]
         repeat (refine Zut (by first | omega | trivial | (intro h0; simp at h0; omega)) ?_)
         refine Za (Zb (Zc ?_))
         simp only [Eqs,reduceIte,Zuq,Zk.r23]
         refine Za (Za (Zb (Zc ?_)))
         simp only [Eqs,reduceIte,Zuq,Zk.r24,hshr,hrem]
         repeat (refine Zut (by first | omega | trivial | (intro h0; simp at h0; omega)) ?_)
         refine Ze rfl trivial (fun h10=>?_) (fun h10=>?_)
         ·simp at h10
          have hmt:Zb1 (KU l) (s.terms.getD j default) q=(s.terms.getD j default).factor * (l.getD (Kj (s.terms.getD j default).field l).toNat default).high:=by
           unfold Zb1; rw [hsome.2,if_pos (by omega)]
          refine Zb (Zc ?_)
          simp only [Eqs,reduceIte,Zuq,Zk.r25]
          refine Zb (Zc ?_)
          simp only [Eqs,reduceIte,Zuq,Zk.r26]
          rw [hmt] at hem hstep
          generalize (s.terms.getD j default).factor * (l.getD (Kj (s.terms.getD j default).field l).toNat default).high=p at *
          repeat (refine Zut (by first | omega | trivial | (intro h0; simp at h0; omega)) ?_)
          refine Zm (Zb (Zc ?_))
          simp only [Eqs,reduceIte,Zuq,Zk.r21]
          repeat (refine Zut (by first | omega | trivial | (intro h0; simp at h0; omega)) ?_)
          refine Zy ?_
          exact ih_key3 ((s.terms.length) - (j + 1)) (by omega) (j + 1) rfl _ (by omega) (by rw [← hx,hstep]; omega) (by omega) (by omega)
         ·simp at h10
          have hmt:Zb1 (KU l) (s.terms.getD j default) q=(s.terms.getD j default).factor * (l.getD (Kj (s.terms.getD j default).field l).toNat default).low:=by
           unfold Zb1; rw [hsome.2,if_neg (by omega)]
          refine Zg (Zb (Zc ?_))
          simp only [Eqs,reduceIte,Zuq,Zk.r26]
          rw [hmt] at hem hstep
          generalize (s.terms.getD j default).factor * (l.getD (Kj (s.terms.getD j default).field l).toNat default).low=p at *
          repeat (refine Zut (by first | omega | trivial | (intro h0; simp at h0; omega)) ?_)
          refine Zm (Zb (Zc ?_))
          simp only [Eqs,reduceIte,Zuq,Zk.r21]
          repeat (refine Zut (by first | omega | trivial | (intro h0; simp at h0; omega)) ?_)
          refine Zy ?_
          exact ih_key3 ((s.terms.length) - (j + 1)) (by omega) (j + 1) rfl _ (by omega) (by rw [← hx,hstep]; omega) (by omega) (by omega)
        ·simp at h9
         obtain rfl:j=s.terms.length:=by omega
         have hxx:x=s.base + ZaY (KU l) s.terms k:=by rw [List.drop_length,ZaY,Int.add_zero] at hx; exact hx
         refine ZQ rfl (Za (Za (Zb (Zc ?_))))
         simp only [Eqs,reduceIte,Zuq,Zk.r27]
         refine Ze rfl trivial (fun h11=>?_) (fun h11=>?_)
         ·refine Zb (Zc ?_)
          simp only [Eqs,reduceIte,Zuq,Zk.r28]
          refine Za (Zb (Zc ?_))
          simp only [Eqs,reduceIte,Zuq,Zk.r29]
          refine Ze rfl trivial (fun h12=>?_) (fun h12=>?_)
          ·refine Zb (Zc ?_)
           simp only [Eqs,reduceIte,Zuq,Zk.r30]
           refine Zm (Zb (Zc ?_))
           simp only [Eqs,reduceIte,Zuq,Zk.r17]
           repeat (refine Zut (by first | omega | trivial | (intro h0; simp at h0; omega)) ?_)
           refine Zy ?_
           exact ih_key2 (((2 ^ s.terms.length)) - (k + 1)) (by omega) (k + 1) rfl _ _ (by omega) (hb.step hxx (by simp at h11; simp [h11] <;> omega) (by simp at h12; simp [h12] <;> omega))
          ·refine Zg (Zm (Zb (Zc ?_)))
           simp only [Eqs,reduceIte,Zuq,Zk.r17]
           repeat (refine Zut (by first | omega | trivial | (intro h0; simp at h0; omega)) ?_)
           refine Zy ?_
           exact ih_key2 (((2 ^ s.terms.length)) - (k + 1)) (by omega) (k + 1) rfl _ _ (by omega) (hb.step hxx (by simp at h11; simp [h11] <;> omega) (by simp at h12; simp [h12] <;> omega))
         ·refine Zg (Za (Zb (Zc ?_)))
          simp only [Eqs,reduceIte,Zuq,Zk.r29]
          refine Ze rfl trivial (fun h12=>?_) (fun h12=>?_)
          ·refine Zb (Zc ?_)
           simp only [Eqs,reduceIte,Zuq,Zk.r30]
           refine Zm (Zb (Zc ?_))
           simp only [Eqs,reduceIte,Zuq,Zk.r17]
           repeat (refine Zut (by first | omega | trivial | (intro h0; simp at h0; omega)) ?_)
           refine Zy ?_
           exact ih_key2 (((2 ^ s.terms.length)) - (k + 1)) (by omega) (k + 1) rfl _ _ (by omega) (hb.step hxx (by simp at h11; simp [h11] <;> omega) (by simp at h12; simp [h12] <;> omega))
          ·refine Zg (Zm (Zb (Zc ?_)))
           simp only [Eqs,reduceIte,Zuq,Zk.r17]
           repeat (refine Zut (by first | omega | trivial | (intro h0; simp at h0; omega)) ?_)
           refine Zy ?_
           exact ih_key2 (((2 ^ s.terms.length)) - (k + 1)) (by omega) (k + 1) rfl _ _ (by omega) (hb.step hxx (by simp at h11; simp [h11] <;> omega) (by simp at h12; simp [h12] <;> omega))
       exact key3 _ 0 rfl s.base (by omega) (by simp) (by have:=hv.b1; omega) (by have:=hv.b2; omega)
      ·have h8':¬ k < 2 ^ s.terms.length:=fun h=>of_decide_eq_false h8 (by exact_mod_cast h)
       obtain rfl:k=2 ^ s.terms.length:=Nat.le_antisymm hk (Nat.not_lt.1 h8')
       obtain ⟨rfl,rfl⟩:=hb.fin hfine
       refine ZQ rfl (Za (Zb (Zc ?_)))
       simp only [Eqs,reduceIte,Zuq,Zk.r31]
       refine hret rfl (by first | trivial | simp) (Qm ?_ rfl) (by first | exact Zuw _ | exact Zl (by first | trivial | assumption) | assumption | exact Zuy _ (by assumption))
       unfold Km; rw [if_pos he]
     exact key2 _ 0 rfl 0 0 (Nat.zero_le _) ⟨by simp,by simp,by simp⟩
  exact key _ 0 rfl (by omega) (by simp)
end Go.DL
namespace Go.DL
open Go Go.Proofs
def QW (s:Str):List Z5→Nat
 | []=>0
 | x :: r=>if Op.bytesLess x.field s then QW s r + 1 else 0
def ZcS (l:List Z5) (t:Z5):List Z5:=l.take (QW t.field l)++t :: l.drop (QW t.field l)
def Zbu (l:List Z5):List Z5:=l.foldl ZcS []
def ZdD (s:Wu):Wu:=⟨s.base,Zbu s.terms⟩
theorem ZpI (s:Str) (l:List Z5):QW s l≤l.length:=by
 induction l with
 | nil=>simp [QW]
 | cons x r ih=>simp only [QW]; split <;> simp; omega
theorem Ziy (l:List Z5) (t:Z5):(ZcS l t).length=l.length + 1:=by
 have:=ZpI t.field l
 simp [ZcS]; omega
theorem ZjQ {α β:Type} [Inhabited α] {f:β→α→β} {b:β} {l:List α} {i:Nat} (h:i < l.length):(l.take (i + 1)).foldl f b=f ((l.take i).foldl f b) (l.getD i default):=by
 rw [Wz h,List.foldl_append]; rfl
theorem Zib (l a:List Z5):(l.foldl ZcS a).length=a.length + l.length:=by
 induction l generalizing a with
 | nil=>simp
 | cons x r ih=>simp [ih,Ziy]; omega
theorem Zno {s:Str} {l:List Z5} {k:Nat} (hk:k < l.length) (h:QW s l=k + QW s (l.drop k)):Op.bytesLess (l.getD k default).field s=true→QW s l=(k + 1) + QW s (l.drop (k + 1)):=by
 intro hb
 rw [Qf hk,QW,if_pos hb] at h; omega
theorem Znp {s:Str} {l:List Z5} {k:Nat} (hk:k < l.length) (h:QW s l=k + QW s (l.drop k)):Op.bytesLess (l.getD k default).field s=false→QW s l=k:=by
 intro hb
 rw [Qf hk,QW,hb] at h; simpa using h
theorem Zgv (s:Wu) (hn:s.terms.length≤4):ZR Zuv Z9.id [.agg s.cells] (.agg (ZdD s).cells):=by
 refine Z0 Z9.ok fun F st hret=>?_
 refine Za (Zb (Zc ?_))
 simp only [Eqs,reduceCtorEq,reduceIte,Zuq,Z9.r0,Wu.cells,Yj,slD]
 refine Za (Zb (Zc ?_))
 simp only [Eqs,reduceIte,Zuq,Zur,Zus,Z9.r1]
 refine Za (Za (Zb (Zc ?_)))
 simp only [Eqs,reduceIte,Zuq,Z9.r2]
 refine Ku (s':=st) (by first | exact Zuw _ | exact Zl (by first | trivial | assumption) | exact ZuK (Zl (by first | trivial | assumption)) (Zl (by first | trivial | assumption)) | assumption) (Qz (ρ':=[(1,.loc 1 0),(2,.loc 2 0),(3,.loc 3 0),(4,.d (.int .i64 (0:Nat)))]) (L':=[(1,[.int .i64 s.base,Yj s.terms]),(2,[.int .i64 0,.nilsl]),(3,[.int .i64 s.base,Yj []])]) ?_ ?_ ?_)
 ·exact Zai _
 ·exact .skip (.skip (.cons (.cons (.refl _) (.cons (Qa (by simp)) .nil)) .nil))
 refine Zj (ZX ?_)
 have key:∀ (n i:Nat),(s.terms.length) - i=n→i≤s.terms.length→ZT F [.code (Z9.l0),.inLoop Z9.l0,.inBlock 0,.code (.seq (qR Z9.r9 [2]) .ret)] [(1,.loc 1 0),(2,.loc 2 0),(3,.loc 3 0),(4,.d (.int .i64 i))] [(1,[.int .i64 s.base,Yj s.terms]),(2,[.int .i64 0,.nilsl]),(3,[.int .i64 s.base,Yj (Zbu (s.terms.take i))])] st:=by
  intro n
  induction n using Nat.strongRecOn with
  | ind n ih_key =>
  intro i hn hi
  have hol:(Zbu (s.terms.take i)).length=i:=by simp [Zbu,Zib]; omega
  refine Za (Za (Zb (Zc ?_)))
  simp only [Eqs,reduceIte,Zuq,Z9.r3,Yj,slD]
  refine Ze rfl trivial (fun hd=>?_) (fun hd=>?_)
  ·simp at hd
   have hstep:Zbu (s.terms.take (i + 1))=ZcS (Zbu (s.terms.take i)) (s.terms.getD i default):=ZjQ hd
   generalize Zbu (s.terms.take i)=out at *
   generalize hx:s.terms.getD i default=x at *
   refine Zg (Za (Zj (Za (Zb (Zc ?_)))))
   simp only [Eqs,reduceIte,Zuq,Z9.r5]
   refine Za (Zj (ZX ?_))
   have key2:∀ (n k:Nat),(out.length) - k=n→k≤out.length→QW x.field out=k + QW x.field (out.drop k)→ZT F [.code (Z9.l1),.inLoop Z9.l1,.inBlock 2,.code (.regD [0,1,2,3,4,5,6,7,8,9,10,11,12,13,14,15,16,17,18] Z9.r8 (some [1,2,3,4])),.inBlock 1,.code (qR Z9.r4 [1,2,3,4]),.inLoop Z9.l0,.inBlock 0,.code (.seq (qR Z9.r9 [2]) .ret)] [(1,.loc 1 0),(2,.loc 2 0),(3,.loc 3 0),(4,.d (.int .i64 i)),(5,.d (.int .i64 k))] [(1,[.int .i64 s.base,Yj s.terms]),(2,[.int .i64 0,.nilsl]),(3,[.int .i64 s.base,Yj out])] st:=by
    intro n
    induction n using Nat.strongRecOn with
    | ind n ih_key2 =>
    intro k hk hkl hpl
    refine Za (Za (WB (Wj ?_)))
    simp only [Eqs,reduceIte,Zuq,Z9.r6,Yj,slD,Z5.cells,hx]
    repeat (refine Zut (by first | omega | trivial | (intro h0; simp at h0; omega)) ?_)
    refine Ze rfl trivial (fun h4=>?_) (fun h4=>?_)
    ·simp only [ZuA,decide_eq_true_eq] at h4
     refine Zg (Zj (Zb (Zc ?_)))
     simp only [Eqs,reduceIte,Zuq,Z9.r7]
     repeat (refine Zut (by first | omega | trivial | (intro h0; simp at h0; omega)) ?_)
     refine Zm (Zy ?_)
     exact ih_key2 ((out.length) - (k + 1)) (by omega) (k + 1) rfl (by omega) (Zno (by omega) hpl h4.2)
    ·have hk:QW x.field out=k:=by
      by_cases hkk:k < out.length
      ·exact Znp hkk hpl (by simpa [hkk] using h4)
      ·rw [hpl,List.drop_of_length_le (by omega)]; rfl
     clear hpl h4
     refine ZQ rfl (Wq (ZM ?_))
     simp only [Eqs,reduceCtorEq,reduceIte,Zuq,Zur,Zus,Z9.r8,hx]
     repeat (refine Zut (by first | omega | trivial | (intro h0; simp at h0; omega)) ?_)
     refine ZhF (st) (.full) rfl rfl rfl rfl rfl rfl (by trivial) (by trivial) rfl (by first | trivial | assumption) (by (simp; omega)) (by (simp; unfold big; omega)) fun t1 ht1=>⟨by first | trivial | exact ⟨rfl,trivial⟩ | simp [Eqs,reduceCtorEq,Int.reduceToNat,reduceIte,Zuq,Zur,Zus],ZM ?_⟩
     simp only [Eqs]
     refine ZhF (st.own t1 ((1 + (out.length - k:Int).toNat) * 2)) (.full) rfl rfl rfl rfl rfl rfl (by trivial) (by trivial) rfl (by first | trivial | assumption) (by (simp; omega)) (by (simp; unfold big; omega)) fun t2 ht2=>⟨by first | trivial | exact ⟨rfl,trivial⟩ | simp [Eqs,reduceCtorEq,Int.reduceToNat,reduceIte,Zuq,Zur,Zus],ZM ?_⟩
     simp only [Eqs,reduceIte,Zuq,Zur,Zus]
     refine Zm (Zb (Zc ?_))
     simp only [Eqs,reduceIte,Zuq,Z9.r4]
     repeat (refine Zut (by first | omega | trivial | (intro h0; simp at h0; omega)) ?_)
     have hins:ZcS out x=out.take k++([x]++out.drop k):=by unfold ZcS; rw [hk]; rfl
     have hrow:=((YE.self (f:=Z5.cells) (l:=out)).take k).app ((YE.one (x:=x) (row:=Wy [.str [],.int .i64 0] ([0].zip [.agg [.str x.field,.int .i64 x.factor]])) rfl).app ((YE.self (f:=Z5.cells) (l:=out)).drop k) rfl) (show k=(out.take k).length by simp; omega)
     rw [← hins,← hstep] at hrow
     have hil:=Ziy out x
     refine Ku (s':=st) (by first | exact Zuw _ | exact Zl (by first | trivial | assumption) | exact ZuK (Zl (by first | trivial | assumption)) (Zl (by first | trivial | assumption)) | assumption) (Qz (ρ':=[(1,.loc 1 0),(2,.loc 2 0),(3,.loc 3 0),(4,.d (.int .i64 ((i + 1:Nat):Int)))]) (L':=[(1,[.int .i64 s.base,Yj s.terms]),(2,[.int .i64 0,.nilsl]),(3,[.int .i64 s.base,Yj (Zbu (s.terms.take (i + 1)))])]) ?_ ?_ ?_)
     ·exact Zai _
     ·exact .skip (.skip (.cons (.cons (.refl _) (.cons (hrow.le (by rw [hstep,hil]; omega)) .nil)) .nil))
     refine Zy ?_
     exact ih_key ((s.terms.length) - (i + 1)) (by omega) (i + 1) rfl (by omega)
   exact key2 _ 0 rfl (by omega) (by simp)
  ·refine ZQ rfl (Za (Zb (Zc ?_)))
   simp only [Eqs,reduceIte,Zuq,Zur,Zus,Z9.r9]
   simp at hd
   obtain rfl:i=s.terms.length:=by omega
   rw [ZuH] at hol
   refine hret rfl (by first | trivial | simp) (ZrX ?_) (by first | exact Zuw _ | exact Zl (by first | trivial | assumption) | assumption | exact Zuy _ (by assumption))
   simp [part,ZdD,Wu.cells,Yj,slD,hol]
 exact key _ 0 rfl (by omega)
end Go.DL
namespace Go.DL
open Go Go.Proofs
theorem ZoF {α:Type} [Inhabited α] {a b:List α} (hl:a.length=b.length) (h:∀ i,i < a.length→a.getD i default=b.getD i default):a=b:=by
 refine List.ext_getElem hl fun i h1 h2=>?_
 have:=h i h1
 simpa [List.getD,h1,h2] using this
theorem Z5.ext' {a b:Z5} (h:a.field=b.field) (h2:a.factor=b.factor):a=b:=by cases a; cases b; simp_all
theorem Wu.ext' {a b:Wu} (h:a.base=b.base) (h2:a.terms=b.terms):a=b:=by cases a; cases b; simp_all
theorem Znq (a b:Wu):ZR Zuv Y9.id [.agg a.cells,.agg b.cells] (.bool (decide (a=b))):=by
 refine WD Y9.ok fun hwf F st hret=>?_
 have hw:=(ZkO (s:=a) (hwf _ (by simp))).nterms
 unfold big at hw
 clear hwf
 refine Za (Zb (Zc ?_))
 simp only [Eqs,reduceCtorEq,reduceIte,Zuq,Zur,Y9.r0,Wu.cells,Yj,slD]
 refine Za (Za (Zb (Zc ?_)))
 simp only [Eqs,reduceIte,Zuq,Y9.r1]
 refine Ze rfl trivial (fun hc=>?_) (fun hc=>?_)
 ·refine Za (Zb (Zc ?_))
  simp only [Eqs,reduceIte,Zuq,Y9.r2]
  refine hret rfl (by first | trivial | simp) (Yk ?_) (by first | exact Zuw _ | exact Zl (by first | trivial | assumption) | assumption | exact Zuy _ (by assumption))
  simp at hc; simp; intro h; subst h; simp at hc
 ·simp at hc
  obtain ⟨hb,hl⟩:=hc
  have hl':a.terms.length=b.terms.length:=by omega
  refine Zg (Za (Za (Zb (Zc ?_))))
  simp only [Eqs,reduceIte,Zuq,Y9.r3]
  refine Zj (ZX ?_)
  have key:∀ (n i:Nat),(a.terms.length) - i=n→i≤a.terms.length→(∀ j,j < i→a.terms.getD j default=b.terms.getD j default)→ZT F [.code (Y9.l0),.inLoop Y9.l0,.inBlock 0,.code (.seq (qR Y9.r8 [4]) .ret)] [(2,.loc 2 0),(3,.loc 3 0),(5,.d (.int .i64 i))] [(2,a.cells),(3,b.cells)] st:=by
   intro n
   induction n using Nat.strongRecOn with
   | ind n ih_key =>
   intro i hn hi hj
   refine Za (Za (Zb (Zc ?_)))
   simp only [Eqs,reduceIte,Zuq,Y9.r4,Wu.cells,Yj,slD]
   refine Ze rfl trivial (fun hd=>?_) (fun hd=>?_)
   ·simp at hd
    refine Zg (Za (Zj (Za (WB (Wj ?_)))))
    simp only [Eqs,reduceIte,Zuq,Zur,Zus,Y9.r6,Z5.cells]
    repeat (refine Zut (by first | omega | trivial | (intro h0; simp at h0; omega)) ?_)
    refine Ze rfl trivial (fun h5=>?_) (fun h5=>?_)
    ·refine Za (Zb (Zc ?_))
     simp only [Eqs,reduceIte,Zuq,Y9.r7]
     refine hret rfl (by first | trivial | simp) (Yk ?_) (by first | exact Zuw _ | exact Zl (by first | trivial | assumption) | assumption | exact Zuy _ (by assumption))
     simp; intro h; subst h; simp at h5
    ·refine Zg (Zm (Zb (Zc ?_)))
     simp only [Eqs,reduceIte,Zuq,Y9.r5]
     repeat (refine Zut (by first | omega | trivial | (intro h0; simp at h0; omega)) ?_)
     have hj2:∀ j,j < i + 1→a.terms.getD j default=b.terms.getD j default:=by
      intro j h
      rcases Nat.lt_succ_iff_lt_or_eq.1 h with h | rfl
      ·exact hj j h
      ·simp only [Bool.not_eq_false',ZuA,decide_eq_true_eq] at h5
       exact Z5.ext' h5.1 h5.2
     refine Zy ?_
     exact ih_key ((a.terms.length) - (i + 1)) (by omega) (i + 1) rfl (by omega) hj2
   ·simp at hd
    refine ZQ rfl (Za (Zb (Zc ?_)))
    simp only [Eqs,reduceIte,Zuq,Y9.r8]
    obtain rfl:i=a.terms.length:=by omega
    have he:a=b:=Wu.ext' hb (ZoF hl' hj)
    refine hret rfl (by first | trivial | simp) (Yk ?_) (by first | exact Zuw _ | exact Zl (by first | trivial | assumption) | assumption | exact Zuy _ (by assumption))
    simp [he]
  exact key _ 0 rfl (by omega) (fun j h=>by omega)
def ZdV (a b:Wu):Bool:=YN a && (YN b && decide (ZdD a=ZdD b))
theorem ZmN (a b:Wu):ZR Zuv QF.id [.agg a.cells,.agg b.cells] (.bool (ZdV a b)):=by
 refine Z0 QF.ok fun F st hret=>?_
 refine Za (Zb (Zc ?_))
 simp only [Eqs,reduceCtorEq,reduceIte,Zuq,Zur,QF.r0,Wu.cells,Yj,slD]
 refine Za (Wq (ZM ?_))
 simp only [Eqs,reduceIte,Zuq,Zur,Zus,QF.r1]
 refine Kd rfl rfl rfl rfl rfl (by trivial) (by trivial) (by exact ZcZ a) (ZM ?_)
 simp only [Eqs,reduceIte,Zuq,Zur,Zus]
 refine Za7 rfl rfl rfl rfl rfl (fun hcg=>⟨by first | trivial | (simpa [Qu] using hcg),trivial,ZcZ b⟩) (ZM ?_)
 simp only [Eqs,reduceIte,Zuq,Zur,Zus]
 repeat (refine Zut (by first | omega | trivial | (intro h0; simp at h0; omega)) ?_)
 refine Za7 rfl rfl rfl rfl rfl (fun hcg=>⟨by first | trivial | (simpa [Qu] using hcg),trivial,Zgv a (Zfp.of (by have h:(YN a && YN b)=true:=hcg; simp at h; exact h.1)).len⟩) (ZM ?_)
 simp only [Eqs,reduceIte,Zuq,Wu.cells,Yj,slD]
 refine Za7 rfl rfl rfl rfl rfl (fun hcg=>⟨by first | trivial | (simpa [Qu] using hcg),trivial,Zgv b (Zfp.of (by have h:(YN a && YN b)=true:=hcg; simp at h; exact h.2)).len⟩) (ZM ?_)
 simp only [Eqs,reduceIte,Zuq,Wu.cells,Yj,slD]
 refine Za7 rfl rfl rfl rfl rfl (fun hcg=>⟨by first | trivial | (simpa [Qu] using hcg),trivial,Znq (ZdD a) (ZdD b)⟩) (ZM ?_)
 simp only [Eqs,reduceIte,Zuq]
 refine hret rfl (by first | trivial | simp) (Yk ?_) (by first | exact Zuw _ | exact Zl (by first | trivial | assumption) | assumption | exact Zuy _ (by assumption))
 simp [ZdV,Bool.and_assoc]
end Go.DL
namespace Go.DL
open Go Go.Proofs
def Z7 {α:Type} (p:α→Bool):List α→Int
 | []=>-1
 | x :: r=>if p x then 0 else if Z7 p r < 0 then -1 else Z7 p r + 1
theorem Ji {α:Type} {p:α→Bool} {l:List α} (h:∀ x∈l,p x=false):Z7 p l = -1:=by
 induction l with
 | nil=>rfl
 | cons x r ih=>simp [Z7,h x (by simp),ih (fun y hy=>h y (by simp [hy]))]
theorem JR {α:Type} [Inhabited α] {p:α→Bool} {l:List α} {i:Nat} (hi:i < l.length) (hp:p (l.getD i default)=true) (h:∀ j,j < i→p (l.getD j default)=false):Z7 p l=i:=by
 induction l generalizing i with
 | nil=>simp at hi
 | cons x r ih =>
  cases i with
  | zero=>simp at hp; simp [Z7,hp]
  | succ i =>
   have h0:=h 0 (by omega)
   have:=ih (i:=i) (by simpa using hi) (by simpa using hp) (fun j hj=>by simpa using h (j + 1) (by omega))
   simp at h0
   simp [Z7,h0,this]; omega
theorem Za6 {α:Type} (p:α→Bool) (l:List α):-1≤Z7 p l:=by
 induction l with
 | nil=>simp [Z7]
 | cons x r ih=>simp only [Z7]; split <;> (try split) <;> omega
theorem Zaa {α:Type} (p:α→Bool) (l:List α):Z7 p l < l.length:=by
 induction l with
 | nil=>simp [Z7]
 | cons x r ih=>simp only [Z7,ZuI]; split <;> (try split) <;> omega
theorem ZoA {α:Type} {p:α→Bool} {l:List α} (h:Z7 p l < 0):∀ x∈l,p x=false:=by
 induction l with
 | nil=>simp
 | cons x r ih =>
  have:=Za6 p r
  simp only [Z7] at h
  split at h
  ·omega
  ·rename_i hx
   split at h
   ·rename_i hr; intro y hy; rcases List.mem_cons.1 hy with rfl | hy
    ·simpa using hx
    ·exact ih hr y hy
   ·omega
theorem Zfd {α:Type} [Inhabited α] {p:α→Bool} {l:List α} (h:0≤Z7 p l):p (l.getD (Z7 p l).toNat default)=true∧∀ j,j < (Z7 p l).toNat→p (l.getD j default)=false:=by
 induction l with
 | nil=>simp [Z7] at h
 | cons x r ih =>
  have:=Za6 p r
  by_cases hx:p x=true
  ·simp [Z7,hx]
  ·simp only [Z7,hx,if_false,Bool.false_eq_true] at h ⊢
   by_cases hr:Z7 p r < 0
   ·simp [hr] at h
   ·rw [if_neg hr]
    obtain ⟨h1,h2⟩:=ih (by omega)
    rw [show (Z7 p r + 1).toNat=(Z7 p r).toNat + 1 by omega]
    refine ⟨by simpa using h1,fun j hj=>?_⟩
    cases j with
    | zero=>simpa using hx
    | succ j=>simpa using h2 j (by omega)
theorem Zbg {α:Type} [Inhabited α] {l:List α} {n j:Nat} (h:j < n):(l.take n).getD j default=l.getD j default:=by
 simp [List.getD,List.getElem?_take_of_lt h]
theorem ZfA {α:Type} [Inhabited α] {p:α→Bool} {l:List α} {i n:Nat} (hn:n≤l.length) (hi:i < n) (hp:p (l.getD i default)=true) (h:∀ j,j < i→p (l.getD j default)=false):Z7 p (l.take n)=i :=
 JR (by simp; omega) (by rw [Zbg hi]; exact hp) (fun j hj=>by rw [Zbg (by omega)]; exact h j hj)
theorem Zez {α:Type} [Inhabited α] {p:α→Bool} {l:List α} {n:Nat} (hn:n≤l.length) (h:∀ j,j < n→p (l.getD j default)=false):Z7 p (l.take n) = -1 :=
 Ji fun x hx=>by
  obtain ⟨j,hj,rfl⟩:=(ZaC hn).1 hx
  exact h j hj
def Z6 (d:Dfn) (s:Str) (n:Nat):Int:=Z7 (fun m=>decide (m.name=s)) (d.msgs.take n)
def Jl (m:Msg) (s:Str) (n:Nat):Int:=Z7 (fun f=>decide (f.name=s)) (m.fields.take n)
def Zec (f:Fld) (tag:Int):Int:=Z7 (fun c=>decide (c.low≤tag) && decide (tag≤c.high)) f.cases
def QZ (f:Fld):Bool:=decide (1≤f.kind) && decide (f.kind≤3)
def Kv (f:Fld):Int × Int:=if f.kind=2 then (f.low,f.low) else (f.low,f.high)
def Zgr (a b:Int):Bool:=decide (0≤a) && (decide (a≤b) && decide (b < 34359738368))
theorem Jj (d:Dfn) (s:Str) (sm:Nat) (hs:sm≤d.msgs.length):ZR Zuv WF.id [.agg d.cells,.str s,.int .i64 sm] (.int .i64 (Z6 d s sm)):=by
 refine WD WF.ok fun hwf F st hret=>?_
 have hw:=(Zfw (s:=d) (hwf _ (by simp))).nmsgs
 unfold big at hw
 clear hwf
 refine Za (Zb (Zc ?_))
 simp only [Eqs,reduceCtorEq,reduceIte,Zuq,Zur,WF.r0,Dfn.cells,We,slD]
 refine Za (Za (Zb (Zc ?_)))
 simp only [Eqs,reduceIte,Zuq,WF.r1]
 refine Zj (ZX ?_)
 have key:∀ (n i:Nat),(sm) - i=n→i≤sm→(∀ j,j < i→decide ((d.msgs.getD j default).name=s)=false)→ZT F [.code (WF.l0),.inLoop WF.l0,.inBlock 0,.code (.seq (qR WF.r6 [6]) .ret)] [(1,.d (.str s)),(2,.d (.int .i64 sm)),(3,.loc 3 0),(7,.d (.int .i64 i))] [(3,d.cells)] st:=by
  intro n
  induction n using Nat.strongRecOn with
  | ind n ih_key =>
  intro i hn hi hno
  refine Za (Za (Zb (Zc ?_)))
  simp only [Eqs,reduceIte,Zuq,WF.r2,Dfn.cells,We,slD]
  refine Ze rfl trivial (fun hd=>?_) (fun hd=>?_)
  ·simp at hd
   refine Zg (Za (Zj (Za (Zb (Zc ?_)))))
   simp only [Eqs,reduceIte,Zuq,WF.r4,Msg.cells]
   repeat (refine Zut (by first | omega | trivial | (intro h0; simp at h0; omega)) ?_)
   refine Ze rfl trivial (fun h5=>?_) (fun h5=>?_)
   ·refine Za (Zb (Zc ?_))
    simp only [Eqs,reduceIte,Zuq,WF.r5]
    refine hret rfl (by first | trivial | simp) (YG ?_) (by first | exact Zuw _ | exact Zl (by first | trivial | assumption) | assumption | exact Zuy _ (by assumption))
    exact (ZfA hs hd h5 hno).symm
   ·refine Zg (Zm (Zb (Zc ?_)))
    simp only [Eqs,reduceIte,Zuq,WF.r3]
    repeat (refine Zut (by first | omega | trivial | (intro h0; simp at h0; omega)) ?_)
    have hno2:∀ j,j < i + 1→decide ((d.msgs.getD j default).name=s)=false:=by
     intro j hj
     rcases Nat.lt_succ_iff_lt_or_eq.1 hj with hj | rfl
     ·exact hno j hj
     ·exact h5
    refine Zy ?_
    exact ih_key ((sm) - (i + 1)) (by omega) (i + 1) rfl (by omega) hno2
  ·simp at hd
   refine ZQ rfl (Za (Zb (Zc ?_)))
   simp only [Eqs,reduceIte,Zuq,WF.r6]
   refine hret rfl (by first | trivial | simp) (YG ?_) (by first | exact Zuw _ | exact Zl (by first | trivial | assumption) | assumption | exact Zuy _ (by assumption))
   exact (Zez hs (fun j hj=>hno j (by omega))).symm
 exact key _ 0 rfl (by omega) (fun j h=>by omega)
theorem Zc0 (m:Msg) (s:Str) (sm:Nat) (hs:sm≤m.fields.length):ZR Zuv Wg.id [.agg m.cells,.str s,.int .i64 sm] (.int .i64 (Jl m s sm)):=by
 refine WD Wg.ok fun hwf F st hret=>?_
 have hw:=(ZdU (s:=m) (hwf _ (by simp))).nfields
 unfold big at hw
 clear hwf
 refine Za (Zb (Zc ?_))
 simp only [Eqs,reduceCtorEq,reduceIte,Zuq,Zur,Wg.r0,Msg.cells,Yo,slD]
 refine Za (Za (Zb (Zc ?_)))
 simp only [Eqs,reduceIte,Zuq,Wg.r1]
 refine Zj (ZX ?_)
 have key:∀ (n i:Nat),(sm) - i=n→i≤sm→(∀ j,j < i→decide ((m.fields.getD j default).name=s)=false)→ZT F [.code (Wg.l0),.inLoop Wg.l0,.inBlock 0,.code (.seq (qR Wg.r6 [6]) .ret)] [(1,.d (.str s)),(2,.d (.int .i64 sm)),(3,.loc 3 0),(7,.d (.int .i64 i))] [(3,m.cells)] st:=by
  intro n
  induction n using Nat.strongRecOn with
  | ind n ih_key =>
  intro i hn hi hno
  refine Za (Za (Zb (Zc ?_)))
  simp only [Eqs,reduceIte,Zuq,Wg.r2,Msg.cells,Yo,slD]
  refine Ze rfl trivial (fun hd=>?_) (fun hd=>?_)
  ·simp at hd
   refine Zg (Za (Zj (Za (Zb (Zc ?_)))))
   simp only [Eqs,reduceIte,Zuq,Wg.r4,Fld.cells]
   repeat (refine Zut (by first | omega | trivial | (intro h0; simp at h0; omega)) ?_)
   refine Ze rfl trivial (fun h5=>?_) (fun h5=>?_)
   ·refine Za (Zb (Zc ?_))
    simp only [Eqs,reduceIte,Zuq,Wg.r5]
    refine hret rfl (by first | trivial | simp) (YG ?_) (by first | exact Zuw _ | exact Zl (by first | trivial | assumption) | assumption | exact Zuy _ (by assumption))
    exact (ZfA hs hd h5 hno).symm
   ·refine Zg (Zm (Zb (Zc ?_)))
    simp only [Eqs,reduceIte,Zuq,Wg.r3]
    repeat (refine Zut (by first | omega | trivial | (intro h0; simp at h0; omega)) ?_)
    have hno2:∀ j,j < i + 1→decide ((m.fields.getD j default).name=s)=false:=by
     intro j hj
     rcases Nat.lt_succ_iff_lt_or_eq.1 hj with hj | rfl
     ·exact hno j hj
     ·exact h5
    refine Zy ?_
    exact ih_key ((sm) - (i + 1)) (by omega) (i + 1) rfl (by omega) hno2
  ·simp at hd
   refine ZQ rfl (Za (Zb (Zc ?_)))
   simp only [Eqs,reduceIte,Zuq,Wg.r6]
   refine hret rfl (by first | trivial | simp) (YG ?_) (by first | exact Zuw _ | exact Zl (by first | trivial | assumption) | assumption | exact Zuy _ (by assumption))
   exact (Zez hs (fun j hj=>hno j (by omega))).symm
 exact key _ 0 rfl (by omega) (fun j h=>by omega)
theorem Zd6 (f:Fld):ZR Zuv Qq.id [.agg f.cells] (.bool (QZ f)):=by
 refine Z0 Qq.ok fun F st hret=>?_
 refine Za (Zb (Zc ?_))
 simp only [Eqs,reduceCtorEq,reduceIte,Zuq,Qq.r0,Fld.cells]
 refine Za (Zb (Zc ?_))
 simp only [Eqs,reduceIte,Zuq,Qq.r1]
 refine hret rfl (by first | trivial | simp) (Yk ?_) (by first | exact Zuw _ | exact Zl (by first | trivial | assumption) | assumption | exact Zuy _ (by assumption))
 rfl
theorem ZeG (f:Fld):ZR Zuv KI.id [.agg f.cells] (.tup [.int .i64 (Kv f).1,.int .i64 (Kv f).2]):=by
 refine Z0 KI.ok fun F st hret=>?_
 refine Za (Zb (Zc ?_))
 simp only [Eqs,reduceCtorEq,reduceIte,Zuq,KI.r0,Fld.cells]
 refine Za (Za (Zb (Zc ?_)))
 simp only [Eqs,reduceIte,Zuq,KI.r1]
 refine Ze rfl trivial (fun hc=>?_) (fun hc=>?_)
 ·refine Za (WB (Wj ?_))
  simp only [Eqs,reduceIte,Zuq,KI.r2]
  refine hret rfl (by first | trivial | simp) (Qm ?_ rfl) (by first | exact Zuw _ | exact Zl (by first | trivial | assumption) | assumption | exact Zuy _ (by assumption))
  simp at hc; simp [Kv,hc]
 ·refine Zg (Za (WB (Wj ?_)))
  simp only [Eqs,reduceIte,Zuq,KI.r3]
  refine hret rfl (by first | trivial | simp) (Qm ?_ rfl) (by first | exact Zuw _ | exact Zl (by first | trivial | assumption) | assumption | exact Zuy _ (by assumption))
  simp at hc; simp [Kv,hc]
theorem ZnB (a b:Int):ZR Zuv QY.id [.int .i64 a,.int .i64 b] (.bool (Zgr a b)):=by
 refine Z0 QY.ok fun F st hret=>?_
 refine Za (Zb (Zc ?_))
 simp only [Eqs,reduceCtorEq,reduceIte,Zuq,Zur,QY.r0]
 refine Za (Zb (Zc ?_))
 simp only [Eqs,reduceCtorEq,reduceIte,Zuq,QY.r1]
 refine hret rfl (by first | trivial | simp) (Yk ?_) (by first | exact Zuw _ | exact Zl (by first | trivial | assumption) | assumption | exact Zuy _ (by assumption))
 simp [Zgr,Bool.and_assoc]
end Go.DL
namespace Go.DL
open Go Go.Proofs
def ZlR:List Str:=[[],[98,108,120,104],[98,108,120],[111,120,104],[115],[120,104],[111,104],[102,115],[102],[116,99],[98],[114,107],[102,115,121]]
def ZdH (k:Int):Str:=ZlR.getD k.toNat []
theorem Znl {k:Int} (h0:0≤k) (h1:k < 13):Wy [D.str []] ([0,1,2,3,4,5,6,7,8,9,10,11,12].zip [D.str [],.str [98,108,120,104],.str [98,108,120],.str [111,120,104],.str [115],.str [120,104],.str [111,104],.str [102,115],.str [102],.str [116,99],.str [98],.str [114,107],.str [102,115,121]]) k.toNat=[.str (ZdH k)]:=by
 unfold ZdH
 have h:k.toNat < 13:=by omega
 generalize k.toNat=n at h
 match n,h with
 | 0,_ | 1,_ | 2,_ | 3,_ | 4,_ | 5,_ | 6,_ | 7,_ | 8,_ | 9,_ | 10,_ | 11,_ | 12,_=>rfl
 | n + 13,h=>omega
theorem ZnA (k:Int) (h0:0≤k) (h1:k < 13):ZR Zuv QX.id [.int .i64 k] (.str (ZdH k)):=by
 refine Z0 QX.ok fun F st hret=>?_
 have hl:=Znl h0 h1
 refine Za (Zb (Zc ?_))
 simp only [Eqs,reduceCtorEq,reduceIte,QX.r0]
 refine Za (Zb (Zc ?_))
 simp only [Eqs,reduceCtorEq,reduceIte,Zuq,QX.r1,hl]
 repeat (refine Zut (by first | omega | trivial | (intro h0; simp at h0; omega)) ?_)
 refine hret rfl (by first | trivial | simp) (Zl3 ?_) (by first | exact Zuw _ | exact Zl (by first | trivial | assumption) | assumption | exact Zuy _ (by assumption))
 rfl
def JB (s:Str) (c:UInt8):Bool:=decide (c∈s)
theorem ZqG {s:Str} {i:Nat} (h:i < s.length):s.getD i 0∈s:=by simp [List.getD,h]
theorem Q7 (s:Str) (c:UInt8):ZR Zuv WZ.id [.str s,.int .u8 (c.toNat:Int)] (.bool (JB s c)):=by
 refine WD WZ.ok fun hwf F st hret=>?_
 have hw:=(hwf (.str s) (by simp)).str_inv
 unfold big at hw
 clear hwf
 refine Za (Zb (Zc ?_))
 simp only [Eqs,reduceCtorEq,reduceIte,Zuq,Zur,WZ.r0]
 refine Za (Za (Zb (Zc ?_)))
 simp only [Eqs,reduceCtorEq,reduceIte,Zuq,WZ.r1]
 refine Zj (ZX ?_)
 have key:∀ (n i:Nat),(s.length) - i=n→i≤s.length→(∀ j,j < i→s.getD j 0≠c)→ZT F [.code (WZ.l0),.inLoop WZ.l0,.inBlock 0,.code (.seq (qR WZ.r6 [4]) .ret)] [(0,.d (.str s)),(1,.d (.int .u8 (c.toNat:Int))),(5,.d (.int .i64 i))] [] st:=by
  intro n
  induction n using Nat.strongRecOn with
  | ind n ih_key =>
  intro i hn hi hno
  refine Za (Za (Zb (Zc ?_)))
  simp only [Eqs,reduceCtorEq,reduceIte,Zuq,WZ.r2]
  refine Ze rfl trivial (fun hd=>?_) (fun hd=>?_)
  ·simp at hd
   refine Zg (Za (Zj (Za (Zb (Zc ?_)))))
   simp only [Eqs,reduceCtorEq,reduceIte,Zuq,WZ.r4]
   repeat (refine Zut (by first | omega | trivial | (intro h0; simp at h0; omega)) ?_)
   have hcc:=UInt8.toNat_inj (a:=s.getD i 0) (b:=c)
   refine Ze rfl trivial (fun h5=>?_) (fun h5=>?_)
   ·simp only [decide_eq_true_eq] at h5
    have h6:s.getD i 0=c:=hcc.1 (by omega)
    refine Za (Zb (Zc ?_))
    simp only [Eqs,reduceCtorEq,reduceIte,Zuq,WZ.r5]
    refine hret rfl (by first | trivial | simp) (Yk ?_) (by first | exact Zuw _ | exact Zl (by first | trivial | assumption) | assumption | exact Zuy _ (by assumption))
    simp only [JB]; exact (decide_eq_true (h6 ▸ ZqG hd)).symm
   ·simp only [decide_eq_false_iff_not] at h5
    refine Zg (Zm (Zb (Zc ?_)))
    simp only [Eqs,reduceCtorEq,reduceIte,Zuq,WZ.r3]
    repeat (refine Zut (by first | omega | trivial | (intro h0; simp at h0; omega)) ?_)
    have hno2:∀ j,j < i + 1→s.getD j 0≠c:=by
     intro j hj
     rcases Nat.lt_succ_iff_lt_or_eq.1 hj with hj | rfl
     ·exact hno j hj
     ·intro h; rw [h] at h5; exact h5 rfl
    refine Zy ?_
    exact ih_key ((s.length) - (i + 1)) (by omega) (i + 1) rfl (by omega) hno2
  ·simp at hd
   refine ZQ rfl (Za (Zb (Zc ?_)))
   simp only [Eqs,reduceCtorEq,reduceIte,Zuq,WZ.r6]
   refine hret rfl (by first | trivial | simp) (Yk ?_) (by first | exact Zuw _ | exact Zl (by first | trivial | assumption) | assumption | exact Zuy _ (by assumption))
   simp only [JB]; refine (decide_eq_false fun h=>?_).symm; obtain ⟨j,hj,he⟩:=ZuJ h; exact hno j (by omega) (by simp [List.getD,hj,he])
 exact key _ 0 rfl (by omega) (fun j h=>by omega)
end Go.DL
namespace Go.DL
open Go Go.Proofs
def zrA (u:Str) (f:Fld):Bool:=(JB u 98 || decide (f.bits=0)) && ((JB u 108 || !f.little) && ((JB u 111 || !f.loose) && ((JB u 120 || decide (f.low=0)) && (JB u 104 || decide (f.high=0)))))
def zrB (u:Str) (f:Fld):Bool:=(JB u 115 || (decide (f.size.base=0) && decide (f.size.terms.length=0))) && ((JB u 102 || decide (f.of=[])) && ((JB u 116 || decide (f.tag=[])) && (JB u 114 || decide (f.from_=[]))))
def zrC (u:Str) (f:Fld):Bool:=(JB u 99 || decide (f.cases.length=0)) && ((JB u 107 || decide (f.check=0)) && (JB u 121 || decide (f.key=0)))
def Zci (f:Fld):Bool:=zrA (ZdH f.kind) f && (zrB (ZdH f.kind) f && zrC (ZdH f.kind) f)
theorem Zp1 (u:Str) (f:Fld):zrA u f = !(!JB u 98 && !decide (f.bits=0) || !JB u 108 && f.little || !JB u 111 && f.loose || !JB u 120 && !decide (f.low=0) || !JB u 104 && !decide (f.high=0)):=by
 simp [zrA,Bool.and_assoc]
theorem Zp2 (u:Str) (f:Fld):zrB u f = !(!JB u 115 && (!decide (f.size.base=0) || !decide ((f.size.terms.length:Int)=0)) || !JB u 102 && !decide (f.of=[]) || !JB u 116 && !decide (f.tag=[]) || !JB u 114 && !decide (f.from_=[])):=by
 simp [zrB,Bool.and_assoc]
theorem ZnC (f:Fld) (h0:0≤f.kind) (h1:f.kind < 13):ZR Zuv W1.id [.agg f.cells] (.bool (Zci f)):=by
 refine Z0 W1.ok fun F st hret=>?_
 refine Za (Zb (Zc ?_))
 simp only [Eqs,reduceCtorEq,reduceIte,Zuq,W1.r0,Fld.cells,Yj,W0,slD]
 refine Za (Zb (Zc ?_))
 simp only [Eqs,reduceIte,Zuq,W1.r1]
 refine ZW rfl rfl rfl rfl rfl (by trivial) (by trivial) (by exact ZnA f.kind h0 h1) (Zc ?_)
 simp only [Eqs,reduceIte,Zuq]
 refine Za (Za (Zb (Zc ?_)))
 simp only [Eqs,reduceIte,Zuq,W1.r2]
 refine ZW rfl rfl rfl rfl rfl (by trivial) (by trivial) (by exact Q7 _ 98) (Zc ?_)
 simp only [Eqs,reduceIte,Zuq]
 refine KA rfl rfl rfl rfl rfl (fun hcg=>⟨by first | trivial | (simpa [Qu] using hcg),trivial,Q7 _ 108⟩) (Zc ?_)
 simp only [Eqs,reduceIte,Zuq]
 refine KA rfl rfl rfl rfl rfl (fun hcg=>⟨by first | trivial | (simpa [Qu] using hcg),trivial,Q7 _ 111⟩) (Zc ?_)
 simp only [Eqs,reduceIte,Zuq]
 refine KA rfl rfl rfl rfl rfl (fun hcg=>⟨by first | trivial | (simpa [Qu] using hcg),trivial,Q7 _ 120⟩) (Zc ?_)
 simp only [Eqs,reduceIte,Zuq]
 refine KA rfl rfl rfl rfl rfl (fun hcg=>⟨by first | trivial | (simpa [Qu] using hcg),trivial,Q7 _ 104⟩) (Zc ?_)
 simp only [Eqs,reduceIte,Zuq]
 generalize hu:ZdH f.kind=u
 refine Ze rfl trivial (fun hc=>?_) (fun hc=>?_)
 ·have hz:zrA u f=false:=by rw [Zp1,hc]; rfl
  refine Za (Zb (Zc ?_))
  simp only [Eqs,reduceIte,Zuq,W1.r3]
  refine hret rfl (by first | trivial | simp) (Yk ?_) (by first | exact Zuw _ | exact Zl (by first | trivial | assumption) | assumption | exact Zuy _ (by assumption))
  simp [Zci,hu,hz]
 ·have hz:zrA u f=true:=by rw [Zp1,hc]; rfl
  clear hc
  refine Zg (Za (Za (Zb (Zc ?_))))
  simp only [Eqs,reduceIte,Zuq,W1.r4]
  refine ZW rfl rfl rfl rfl rfl (by trivial) (by trivial) (by exact Q7 _ 115) (Zc ?_)
  simp only [Eqs,reduceIte,Zuq,Zur]
  refine KA rfl rfl rfl rfl rfl (fun hcg=>⟨by first | trivial | (simpa [Qu] using hcg),trivial,Q7 _ 102⟩) (Zc ?_)
  simp only [Eqs,reduceIte,Zuq]
  refine KA rfl rfl rfl rfl rfl (fun hcg=>⟨by first | trivial | (simpa [Qu] using hcg),trivial,Q7 _ 116⟩) (Zc ?_)
  simp only [Eqs,reduceIte,Zuq]
  refine KA rfl rfl rfl rfl rfl (fun hcg=>⟨by first | trivial | (simpa [Qu] using hcg),trivial,Q7 _ 114⟩) (Zc ?_)
  simp only [Eqs,reduceIte,Zuq]
  refine Ze rfl trivial (fun hd=>?_) (fun hd=>?_)
  ·have hz2:zrB u f=false:=by rw [Zp2,hd]; rfl
   refine Za (Zb (Zc ?_))
   simp only [Eqs,reduceIte,Zuq,W1.r5]
   refine hret rfl (by first | trivial | simp) (Yk ?_) (by first | exact Zuw _ | exact Zl (by first | trivial | assumption) | assumption | exact Zuy _ (by assumption))
   simp [Zci,hu,hz2]
  ·have hz2:zrB u f=true:=by rw [Zp2,hd]; rfl
   clear hd
   refine Zg (Za (Zb (Zc ?_)))
   simp only [Eqs,reduceIte,Zuq,W1.r6]
   refine ZW rfl rfl rfl rfl rfl (by trivial) (by trivial) (by exact Q7 _ 99) (Zc ?_)
   simp only [Eqs,reduceIte,Zuq]
   refine KA rfl rfl rfl rfl rfl (fun hcg=>⟨by first | trivial | (simpa [Qu] using hcg),trivial,Q7 _ 107⟩) (Zc ?_)
   simp only [Eqs,reduceIte,Zuq]
   refine KA rfl rfl rfl rfl rfl (fun hcg=>⟨by first | trivial | (simpa [Qu] using hcg),trivial,Q7 _ 121⟩) (Zc ?_)
   simp only [Eqs,reduceIte,Zuq]
   refine hret rfl (by first | trivial | simp) (Yk ?_) (by first | exact Zuw _ | exact Zl (by first | trivial | assumption) | assumption | exact Zuy _ (by assumption))
   simp only [Zci,hu,hz,hz2]; simp [zrC,Bool.and_assoc]
end Go.DL
namespace Go.DL
open Go Go.Proofs
def Zbm (f:Fld):Bool:=decide (f.bits < 1) || (decide (32 < f.bits) || (f.little && (!decide (f.bits=16) && (!decide (f.bits=24) && !decide (f.bits=32)))))
def Zfm (f:Fld):Int:=if f.kind=2 then f.low else f.high
def ZbM (f:Fld):Bool:=decide (f.low < 0) || (decide (Zfm f < f.low) || decide (2 ^ f.bits.toNat≤Zfm f))
def ZaD (f:Fld):Int:=if Zbm f then 6 else if ZbM f then 7 else 0
theorem ZqV {b:Int} (h0:0≤b) (h1:b≤32):Zi8 .i64 1 b=2 ^ b.toNat:=by
 unfold Zi8
 rw [show Nat.min b.toNat IntKind.i64.bits=b.toNat from Nat.min_eq_left (show b.toNat≤IntKind.i64.bits by simp [IntKind.bits]; omega)]
 simp
theorem ZcD {b:Int} (h0:0≤b) (h1:b≤32):(0:Int) < 2 ^ b.toNat∧(2:Int) ^ b.toNat≤4294967296:=by
 have h:=Nat.pow_le_pow_right (n:=2) (by omega) (show b.toNat≤32 by omega)
 have h2:=Nat.two_pow_pos b.toNat
 rw [show (2:Int) ^ b.toNat=((2 ^ b.toNat:Nat):Int) from (Int.natCast_pow 2 b.toNat).symm]
 generalize 2 ^ b.toNat=x at h h2 ⊢
 omega
theorem Zgy (f:Fld):ZR Zuv YF.id [.agg f.cells] (.int .i64 (ZaD f)):=by
 refine Z0 YF.ok fun F st hret=>?_
 refine Za (Zb (Zc ?_))
 simp only [Eqs,reduceCtorEq,reduceIte,Zuq,YF.r0,Fld.cells,Yj,W0,slD]
 refine Za (Za (Zb (Zc ?_)))
 simp only [Eqs,reduceIte,Zuq,YF.r1]
 refine Ze rfl trivial (fun hc=>?_) (fun hc=>?_)
 ·have hb:Zbm f=true:=by rw [← hc]; simp [Zbm,Bool.or_assoc,Bool.and_assoc]
  refine Za (Zb (Zc ?_))
  simp only [Eqs,reduceIte,Zuq,YF.r2]
  refine hret rfl (by first | trivial | simp) (YG ?_) (by first | exact Zuw _ | exact Zl (by first | trivial | assumption) | assumption | exact Zuy _ (by assumption))
  simp [ZaD,hb]
 ·have hb:Zbm f=false:=by rw [← hc]; simp [Zbm,Bool.or_assoc,Bool.and_assoc]
  have hb2:=hb
  simp [Zbm] at hb2
  have hsh:=ZqV (b:=f.bits) (by omega) (by omega)
  have h32:=ZcD (b:=f.bits) (by omega) (by omega)
  have hbits:1≤f.bits∧f.bits≤32:=by omega
  clear hc hb2
  refine Zg (Za (Zb (Zc ?_)))
  simp only [Eqs,reduceIte,Zuq,YF.r3]
  refine Za (Za (Zb (Zc ?_)))
  simp only [Eqs,reduceIte,Zuq,YF.r4]
  refine Ze rfl trivial (fun h2=>?_) (fun h2=>?_)
  ·have ht:Zfm f=f.low:=by simp at h2; simp [Zfm,h2]
   refine Zb (Zc ?_)
   simp only [Eqs,reduceIte,Zuq,YF.r5]
   refine Za (Za (Zb (Zc ?_)))
   simp only [Eqs,reduceIte,Zuq,YF.r6,hsh]
   refine Zut (fun _=>by omega) ?_
   refine Ze rfl trivial (fun h3=>?_) (fun h3=>?_)
   ·have hn:ZbM f=true:=by rw [← h3]; simp [ZbM,ht]
    refine Za (Zb (Zc ?_))
    simp only [Eqs,reduceIte,Zuq,YF.r7]
    refine hret rfl (by first | trivial | simp) (YG ?_) (by first | exact Zuw _ | exact Zl (by first | trivial | assumption) | assumption | exact Zuy _ (by assumption))
    simp [ZaD,hb,hn]
   ·have hn:ZbM f=false:=by rw [← h3]; simp [ZbM,ht]
    refine Zg (Za (Zb (Zc ?_)))
    simp only [Eqs,reduceIte,Zuq,YF.r8]
    refine hret rfl (by first | trivial | simp) (YG ?_) (by first | exact Zuw _ | exact Zl (by first | trivial | assumption) | assumption | exact Zuy _ (by assumption))
    simp [ZaD,hb,hn]
  ·have ht:Zfm f=f.high:=by simp at h2; simp [Zfm,h2]
   refine Zg (Za (Za (Zb (Zc ?_))))
   simp only [Eqs,reduceIte,Zuq,YF.r6,hsh]
   refine Zut (fun _=>by omega) ?_
   refine Ze rfl trivial (fun h3=>?_) (fun h3=>?_)
   ·have hn:ZbM f=true:=by rw [← h3]; simp [ZbM,ht,Bool.or_assoc]
    refine Za (Zb (Zc ?_))
    simp only [Eqs,reduceIte,Zuq,YF.r7]
    refine hret rfl (by first | trivial | simp) (YG ?_) (by first | exact Zuw _ | exact Zl (by first | trivial | assumption) | assumption | exact Zuy _ (by assumption))
    simp [ZaD,hb,hn]
   ·have hn:ZbM f=false:=by rw [← h3]; simp [ZbM,ht,Bool.or_assoc]
    refine Zg (Za (Zb (Zc ?_)))
    simp only [Eqs,reduceIte,Zuq,YF.r8]
    refine hret rfl (by first | trivial | simp) (YG ?_) (by first | exact Zuw _ | exact Zl (by first | trivial | assumption) | assumption | exact Zuy _ (by assumption))
    simp [ZaD,hb,hn]
def ZkQ (m:Msg) (s:Str) (n:Nat):Bool:=(m.fields.take n).any fun f=>decide (f.kind=9) && decide (f.tag=s)
theorem Zks {α:Type} [Inhabited α] {p:α→Bool} {l:List α} {n:Nat} (hn:n≤l.length) (h:∀ j,j < n→p (l.getD j default)=false):(l.take n).any p=false:=by
 rw [List.any_eq_false]; intro x hx
 obtain ⟨j,hj,rfl⟩:=(ZaC hn).1 hx
 rw [h j hj]; simp
theorem Zlu {α:Type} [Inhabited α] {p:α→Bool} {l:List α} {n i:Nat} (hn:n≤l.length) (hi:i < n) (h:p (l.getD i default)=true):(l.take n).any p=true :=
 List.any_eq_true.2 ⟨_,(ZaC hn).2 ⟨i,hi,rfl⟩,h⟩
theorem ZlG (m:Msg) (s:Str) (sm:Nat) (hs:sm≤m.fields.length):ZR Zuv YT.id [.agg m.cells,.str s,.int .i64 sm] (.bool (ZkQ m s sm)):=by
 refine WD YT.ok fun hwf F st hret=>?_
 have hw:=(ZdU (s:=m) (hwf _ (by simp))).nfields
 unfold big at hw
 clear hwf
 refine Za (Zb (Zc ?_))
 simp only [Eqs,reduceCtorEq,reduceIte,Zuq,Zur,YT.r0,Msg.cells,Yo,slD]
 refine Za (Za (Zb (Zc ?_)))
 simp only [Eqs,reduceIte,Zuq,YT.r1]
 refine Zj (ZX ?_)
 have key:∀ (n i:Nat),(sm) - i=n→i≤sm→(∀ j,j < i→(decide ((m.fields.getD j default).kind=9) && decide ((m.fields.getD j default).tag=s))=false)→ZT F [.code (YT.l0),.inLoop YT.l0,.inBlock 0,.code (.seq (qR YT.r6 [6]) .ret)] [(1,.d (.str s)),(2,.d (.int .i64 sm)),(3,.loc 3 0),(7,.d (.int .i64 i))] [(3,m.cells)] st:=by
  intro n
  induction n using Nat.strongRecOn with
  | ind n ih_key =>
  intro i hn hi hno
  refine Za (Za (Zb (Zc ?_)))
  simp only [Eqs,reduceIte,Zuq,YT.r2,Msg.cells,Yo,slD]
  refine Ze rfl trivial (fun hd=>?_) (fun hd=>?_)
  ·simp at hd
   refine Zg (Za (Zj (Za (Zb (Zc ?_)))))
   simp only [Eqs,reduceIte,Zuq,YT.r4,Fld.cells]
   repeat (refine Zut (by first | omega | trivial | (intro h0; simp at h0; omega)) ?_)
   refine Ze rfl trivial (fun h5=>?_) (fun h5=>?_)
   ·refine Za (Zb (Zc ?_))
    simp only [Eqs,reduceIte,Zuq,YT.r5]
    refine hret rfl (by first | trivial | simp) (Yk ?_) (by first | exact Zuw _ | exact Zl (by first | trivial | assumption) | assumption | exact Zuy _ (by assumption))
    exact (Zlu hs hd h5).symm
   ·refine Zg (Zm (Zb (Zc ?_)))
    simp only [Eqs,reduceIte,Zuq,YT.r3]
    repeat (refine Zut (by first | omega | trivial | (intro h0; simp at h0; omega)) ?_)
    have hno2:∀ j,j < i + 1→(decide ((m.fields.getD j default).kind=9) && decide ((m.fields.getD j default).tag=s))=false:=by
     intro j hj
     rcases Nat.lt_succ_iff_lt_or_eq.1 hj with hj | rfl
     ·exact hno j hj
     ·exact h5
    refine Zy ?_
    exact ih_key ((sm) - (i + 1)) (by omega) (i + 1) rfl (by omega) hno2
  ·simp at hd
   refine ZQ rfl (Za (Zb (Zc ?_)))
   simp only [Eqs,reduceIte,Zuq,YT.r6]
   refine hret rfl (by first | trivial | simp) (Yk ?_) (by first | exact Zuw _ | exact Zl (by first | trivial | assumption) | assumption | exact Zuy _ (by assumption))
   exact (Zks hs (fun j hj=>hno j (by omega))).symm
 exact key _ 0 rfl (by omega) (fun j h=>by omega)
end Go.DL
namespace Go.DL
open Go Go.Proofs
def ZaV (d:Dfn) (at_:Nat) (high:Int):Int→List WK→Int
 | _,[]=>0
 | low,c :: r=>if decide (c.low < low) || (decide (c.high < c.low) || decide (high < c.high)) then 7 else if Z6 d c.of at_ < 0 then 8 else ZaV d at_ high (c.high + 1) r
def ZcJ (d:Dfn) (at_:Nat) (f:Fld) (low high:Int):Int:=if decide (f.cases.length < 1) || decide (40 < f.cases.length) then 3 else ZaV d at_ high low f.cases
theorem ZmQ (d:Dfn) (at_:Nat) (f:Fld) (low high:Int) (ha:at_≤d.msgs.length):ZR Zuv Yq.id [.agg d.cells,.int .i64 at_,.agg f.cells,.int .i64 low,.int .i64 high] (.int .i64 (ZcJ d at_ f low high)):=by
 refine Z0 Yq.ok fun F st hret=>?_
 refine Za (Zb (Zc ?_))
 simp only [Eqs,reduceCtorEq,reduceIte,Zuq,Zur,Yq.r0,Fld.cells,Dfn.cells,Yj,W0,slD]
 refine Za (Za (Zb (Zc ?_)))
 simp only [Eqs,reduceIte,Zuq,Yq.r1]
 refine Ze rfl trivial (fun hc=>?_) (fun hc=>?_)
 ·refine Za (Zb (Zc ?_))
  simp only [Eqs,reduceIte,Zuq,Yq.r2]
  have hcc:(decide (f.cases.length < 1) || decide (40 < f.cases.length))=true:=by
   rw [ZuL,decide_eq_true_eq,decide_eq_true_eq] at hc ⊢; omega
  refine hret rfl (by first | trivial | simp) (YG ?_) (by first | exact Zuw _ | exact Zl (by first | trivial | assumption) | assumption | exact Zuy _ (by assumption))
  unfold ZcJ; rw [if_pos hcc]
 ·rw [Bool.or_eq_false_iff,decide_eq_false_iff_not,decide_eq_false_iff_not] at hc
  have hcc:¬ (decide (f.cases.length < 1) || decide (40 < f.cases.length))=true:=by
   rw [ZuL,decide_eq_true_eq,decide_eq_true_eq]; omega
  have he:ZcJ d at_ f low high=ZaV d at_ high low (f.cases.drop 0):=by unfold ZcJ; rw [if_neg hcc]; rfl
  have hlen:f.cases.length≤40:=by omega
  clear hc
  refine Zg (Za (Za (Zb (Zc ?_))))
  simp only [Eqs,reduceIte,Zuq,Yq.r3]
  refine Zj (ZX ?_)
  have key:∀ (n i:Nat),(f.cases.length) - i=n→∀ lo,i≤f.cases.length→ZcJ d at_ f low high=ZaV d at_ high lo (f.cases.drop i)→(low≤lo∧(i=0→lo=low)∧(0 < i→lo=(f.cases.getD (i - 1) default).high + 1))→ZT F [.code (Yq.l0),.inLoop Yq.l0,.inBlock 0,.code (.seq (qR Yq.r11 [10]) .ret)] [(1,.d (.int .i64 at_)),(3,.d (.int .i64 low)),(4,.d (.int .i64 high)),(5,.loc 5 0),(7,.loc 7 0),(11,.d (.int .i64 i))] [(5,d.cells),(7,f.cells)] st:=by
   intro n
   induction n using Nat.strongRecOn with
   | ind n ih_key =>
   intro i hn lo hi hcs hlo
   refine Za (Za (Zb (Zc ?_)))
   simp only [Eqs,reduceIte,Zuq,Yq.r4,Fld.cells,Dfn.cells,Yj,W0,slD]
   refine Ze rfl trivial (fun hd=>?_) (fun hd=>?_)
   ·simp at hd
    rw [Qf hd,ZaV] at hcs
    refine Zg (Za (Zj (Za (Zb (Zc ?_)))))
    simp only [Eqs,reduceIte,Zuq,Zur,Zus,Yq.r6,WK.cells]
    repeat (refine Zut (by first | omega | trivial | (intro h0; simp at h0; omega)) ?_)
    refine Za (Za (WB (Wj ?_)))
    simp only [Eqs,reduceIte,Zuq,Yq.r7]
    rw [show ((i:Int) - 1).toNat=i - 1 by omega]
    refine Zut (fun h=>by omega) (Zut (fun h=>by simp at h; omega) ?_)
    obtain ⟨hlo1,hlo2,hlo3⟩:=hlo
    have hcond:(decide ((f.cases.getD i default).low < low) || decide ((f.cases.getD i default).high < (f.cases.getD i default).low) || decide (high < (f.cases.getD i default).high) || decide (0 < (i:Int)) && decide ((f.cases.getD i default).low≤(f.cases.getD (i - 1) default).high))=(decide ((f.cases.getD i default).low < lo) || (decide ((f.cases.getD i default).high < (f.cases.getD i default).low) || decide (high < (f.cases.getD i default).high))):=by
     rw [Bool.eq_iff_iff]; simp only [ZuL,ZuA,decide_eq_true_eq]
     rcases Nat.eq_zero_or_pos i with h | h
     ·have:=hlo2 h; omega
     ·have:=hlo3 h; omega
    rw [hcond]
    generalize hx:f.cases.getD i default=x at *
    refine Ze rfl trivial (fun h4=>?_) (fun h4=>?_)
    ·rw [if_pos h4] at hcs
     refine Za (Zb (Zc ?_))
     simp only [Eqs,reduceIte,Zuq,Yq.r8]
     refine hret rfl (by first | trivial | simp) (YG ?_) (by first | exact Zuw _ | exact Zl (by first | trivial | assumption) | assumption | exact Zuy _ (by assumption))
     exact hcs.symm
    ·rw [h4,if_neg (by decide)] at hcs
     refine Zg (Za (Zb (Zc ?_)))
     simp only [Eqs,reduceIte,Zuq,Zur,Zus,Yq.r9]
     refine ZW rfl rfl rfl rfl rfl (by trivial) (by trivial) (by exact Jj d x.of at_ ha) (Zc ?_)
     simp only [Eqs,reduceIte,Zuq]
     refine Ze rfl trivial (fun h5=>?_) (fun h5=>?_)
     ·rw [if_pos (of_decide_eq_true h5)] at hcs
      refine Za (Zb (Zc ?_))
      simp only [Eqs,reduceIte,Zuq,Yq.r10]
      refine hret rfl (by first | trivial | simp) (YG ?_) (by first | exact Zuw _ | exact Zl (by first | trivial | assumption) | assumption | exact Zuy _ (by assumption))
      exact hcs.symm
     ·rw [if_neg (of_decide_eq_false h5)] at hcs
      simp at h4
      refine Zg (Zm (Zb (Zc ?_)))
      simp only [Eqs,reduceIte,Zuq,Yq.r5]
      repeat (refine Zut (by first | omega | trivial | (intro h0; simp at h0; omega)) ?_)
      refine Zy ?_
      exact ih_key ((f.cases.length) - (i + 1)) (by omega) (i + 1) rfl _ (by omega) hcs ⟨by omega,by omega,fun _=>by rw [show i + 1 - 1=i by omega,hx]⟩
   ·simp at hd
    rw [List.drop_of_length_le (by omega),ZaV] at hcs
    refine ZQ rfl (Za (Zb (Zc ?_)))
    simp only [Eqs,reduceIte,Zuq,Yq.r11]
    refine hret rfl (by first | trivial | simp) (YG ?_) (by first | exact Zuw _ | exact Zl (by first | trivial | assumption) | assumption | exact Zuy _ (by assumption))
    exact hcs.symm
  exact key _ 0 rfl low (by omega) he ⟨by omega,fun _=>rfl,fun h=>by omega⟩
end Go.DL
namespace Go.DL
open Go Go.Proofs
def WE (fs:List Fld):Jg:=fun s=>if Z7 (fun f=>decide (f.name=s)) fs < 0 then none else if QZ (fs.getD (Z7 (fun f=>decide (f.name=s)) fs).toNat default) then some (Kv (fs.getD (Z7 (fun f=>decide (f.name=s)) fs).toNat default)) else none
def Zcb (fs:List Fld) (s:Wu):Int:=if YN s=false then 9 else if s.terms.any (KW (WE fs)) then 8 else if !decide ((Km s (WE fs)).2.2=0) || (decide ((Km s (WE fs)).1 < 0) || decide (1048576 < (Km s (WE fs)).2.1)) then 9 else 0
theorem ZkY {α:Type} {p q:α→Bool} {l:List α} (h:∀ x∈l,p x=q x):l.any p=l.any q:=by
 induction l with
 | nil=>rfl
 | cons x r ih=>simp only [List.any_cons,h x (by simp),ih fun y hy=>h y (by simp [hy])]
theorem ZpB {look look':Jg} {l:List Z5} (h:∀ t∈l,look t.field=look' t.field):loS look l=loS look' l∧hiS look l=hiS look' l:=by
 induction l with
 | nil=>exact ⟨rfl,rfl⟩
 | cons x r ih =>
  have h1:=ih fun y hy=>h y (by simp [hy])
  have h2:=h x (by simp)
  simp only [loS,hiS,loT,hiT,ZaA,h1.1,h1.2,h2,and_self]
theorem ZjT {s:Wu} {look look':Jg} (h:∀ t∈s.terms,look t.field=look' t.field):Km s look=Km s look':=by
 have h1:=ZkY (p:=QP look) (q:=QP look') (l:=s.terms) fun t ht=>by simp only [QP,h t ht]
 have h2:=ZkY (p:=KW look) (q:=KW look') (l:=s.terms) fun t ht=>by simp only [KW,h t ht]
 have h3:=ZpB h
 unfold Km ZaH; rw [h1,h2,h3.1,h3.2]
theorem Zpz {s:Str} {l:List Z5} {g:Str→Int × Int} (h:∃ t∈l,t.field=s):KU (l.map fun t=>⟨t.field,(g t.field).1,(g t.field).2⟩) s=some (g s):=by
 have key:0≤Kj s (l.map fun t=>⟨t.field,(g t.field).1,(g t.field).2⟩)∧(((l.map fun t=>(⟨t.field,(g t.field).1,(g t.field).2⟩:Ran)).getD (Kj s (l.map fun t=>⟨t.field,(g t.field).1,(g t.field).2⟩)).toNat default).low,((l.map fun t=>(⟨t.field,(g t.field).1,(g t.field).2⟩:Ran)).getD (Kj s (l.map fun t=>⟨t.field,(g t.field).1,(g t.field).2⟩)).toNat default).high)=g s:=by
  induction l with
  | nil=>simp at h
  | cons x r ih =>
   simp only [List.map_cons,Kj]
   by_cases hr:0≤Kj s (r.map fun t=>⟨t.field,(g t.field).1,(g t.field).2⟩)
   ·have hex:∃ t∈r,t.field=s:=by
     apply Classical.byContradiction
     intro hno
     have:Kj s (r.map fun t=>⟨t.field,(g t.field).1,(g t.field).2⟩) = -1:=by
      clear ih h hr
      induction r with
      | nil=>rfl
      | cons y q ih2 =>
       have h1:=ih2 fun ⟨t,ht,he⟩=>hno ⟨t,by simp [ht],he⟩
       have h2:y.field≠s:=fun he=>hno ⟨y,by simp,he⟩
       simp [Kj,h1,h2]
     omega
    have h1:=ih hex
    rw [if_pos hr]
    refine ⟨by omega,?_⟩
    rw [show ((Kj s (r.map fun t=>⟨t.field,(g t.field).1,(g t.field).2⟩)) + 1).toNat=(Kj s (r.map fun t=>⟨t.field,(g t.field).1,(g t.field).2⟩)).toNat + 1 by omega]
    simpa using h1.2
   ·have hx:x.field=s:=by
     apply Classical.byContradiction
     intro hno
     obtain ⟨t,ht,he⟩:=h
     rcases List.mem_cons.1 ht with rfl | ht
     ·exact hno he
     ·exact hr (ih ⟨t,ht,he⟩).1
    rw [if_neg hr,if_pos hx]
    subst hx
    exact ⟨by omega,by simp⟩
 unfold KU
 rw [if_neg (by omega),key.2]
def Zce (look:Jg) (t:Z5):Ran:=⟨t.field,(ZaA look t).1,(ZaA look t).2⟩
theorem ZqR {look:Jg} {l:List Z5} {t:Z5} (ht:t∈l) (hs:KW look t=false):KU (l.map (Zce look)) t.field=look t.field:=by
 have:=Zpz (s:=t.field) (l:=l) (g:=fun s=>(look s).getD (0,0)) ⟨t,ht,rfl⟩
 rw [show (Zce look)=fun t=>⟨t.field,((look t.field).getD (0,0)).1,((look t.field).getD (0,0)).2⟩ from rfl,this]
 simp only [KW] at hs
 cases h:look t.field with
 | none=>rw [h] at hs; simp at hs
 | some r=>rfl
theorem QC (m:Msg) (i:Nat) (hi:i < m.fields.length):ZR Zuv ZY.id [.agg m.cells,.int .i64 i] (.int .i64 (Zcb (m.fields.take i) (m.fields.getD i default).size)):=by
 refine WD ZY.ok fun hwf F st hret=>?_
 have hw:=(ZdU (s:=m) (hwf _ (by simp))).nfields
 unfold big at hw
 clear hwf
 generalize hs:(m.fields.getD i default).size=s at *
 refine Za (Zb (Zc ?_))
 simp only [Eqs,reduceCtorEq,reduceIte,Zuq,Zur,ZY.r0,Msg.cells,Yo,slD]
 refine Za (Zb (Zc ?_))
 simp only [Eqs,reduceIte,Zuq,Zur,Zus,ZY.r1,Fld.cells,hs]
 repeat (refine Zut (by first | omega | trivial | (intro h0; simp at h0; omega)) ?_)
 refine Za (Za (Zb (Zc ?_)))
 simp only [Eqs,reduceIte,Zuq,Zur,Zus,ZY.r2]
 refine ZW rfl rfl rfl rfl rfl (by trivial) (by trivial) (by exact ZcZ s) (Zc ?_)
 simp only [Eqs,reduceIte,Zuq]
 refine Ze rfl trivial (fun hc=>?_) (fun hc=>?_)
 ·simp at hc
  refine Za (Zb (Zc ?_))
  simp only [Eqs,reduceIte,Zuq,ZY.r3]
  refine hret rfl (by first | trivial | simp) (YG ?_) (by first | exact Zuw _ | exact Zl (by first | trivial | assumption) | assumption | exact Zuy _ (by assumption))
  simp [Zcb,hc]
 ·simp at hc
  have hv:=Zfp.of hc
  have hlen:=hv.len
  refine Zg (Za (Zb (Zc ?_)))
  simp only [Eqs,reduceIte,Zuq,ZY.r4]
  refine Za (Za (Zb (Zc ?_)))
  simp only [Eqs,reduceIte,Zuq,ZY.r5]
  refine Ku (s':=st) (by first | exact Zuw _ | exact Zl (by first | trivial | assumption) | exact ZuK (Zl (by first | trivial | assumption)) (Zl (by first | trivial | assumption)) | assumption) (Qz (ρ':=[(1,.d (.int .i64 i)),(2,.loc 2 0),(5,.loc 5 0),(6,.d (.sl .full 0 3 fun _=>[])),(7,.d (.int .i64 (0:Nat)))]) (L':=[(2,m.cells),(5,s.cells)]) ?_ ?_ ?_)
  ·exact .skip (.skip (.skip (.cons (.d (Qa (by simp))) (.skip .nil))))
  ·exact Q9 _
  refine Zj (ZX ?_)
  have key:∀ (n k:Nat),(s.terms.length) - k=n→∀ tk row,tk.okIn st→YE Ran.cells row ((s.terms.take k).map (Zce (WE (m.fields.take i))))→k≤s.terms.length→(s.terms.take k).any (KW (WE (m.fields.take i)))=false→ZT F [.code (ZY.l0),.inLoop ZY.l0,.inBlock 0,.code (.seq (qR ZY.r13 [11,12,13]) (.seq (.seq (qR ZY.r14 [87]) (qC 87 (.seq (qR ZY.r15 [4]) .ret) .skip)) (.seq (qR ZY.r16 [4]) .ret)))] [(1,.d (.int .i64 i)),(2,.loc 2 0),(5,.loc 5 0),(6,.d (.sl tk k 3 row)),(7,.d (.int .i64 k))] [(2,m.cells),(5,s.cells)] (st.own tk (k * 3)):=by
   intro n
   induction n using Nat.strongRecOn with
   | ind n ih_key =>
   intro k hn tk row htk hrow hk hno
   refine Za (Za (Zb (Zc ?_)))
   simp only [Eqs,reduceIte,Zuq,ZY.r6,Wu.cells,Yj,slD]
   refine Ze rfl trivial (fun hd=>?_) (fun hd=>?_)
   ·simp at hd
    have hns:=ZfR (p:=KW (WE (m.fields.take i))) hd
    generalize hx:s.terms.getD k default=x at *
    refine Zg (Za (Zj (Za (WB (Wj ?_)))))
    simp only [Eqs,reduceIte,Zuq,Zur,Zus,ZY.r8,Msg.cells,Z5.cells,hx]
    repeat (refine Zut (by first | omega | trivial | (intro h0; simp at h0; omega)) ?_)
    refine ZfO rfl rfl rfl rfl rfl (by trivial) (by trivial) (by exact Zc0 m x.field i (by omega)) (Wj ?_)
    simp only [Eqs,reduceIte,Zuq]
    have hge:=Za6 (fun f=>decide (f.name=x.field)) (m.fields.take i)
    have hlt:=Zaa (fun f=>decide (f.name=x.field)) (m.fields.take i)
    rw [List.length_take] at hlt
    have hlk:WE (m.fields.take i) x.field=if Jl m x.field i < 0 then none else if QZ (m.fields.getD (Jl m x.field i).toNat default) then some (Kv (m.fields.getD (Jl m x.field i).toNat default)) else none:=by
     unfold WE Jl
     by_cases h:Z7 (fun f=>decide (f.name=x.field)) (m.fields.take i) < 0
     ·rw [if_pos h,if_pos h]
     ·rw [if_neg h,if_neg h,Zbg (by omega)]
    rw [show Z7 (fun f=>decide (f.name=x.field)) (m.fields.take i)=Jl m x.field i from rfl] at hge hlt
    generalize Jl m x.field i=q at *
    refine Za (Za (Zb (Zc ?_)))
    simp only [Eqs,reduceIte,Zuq,Zur,Zus,ZY.r9,Fld.cells,Yo,slD]
    repeat (refine Zut (by first | omega | trivial | (intro h0; simp at h0; omega)) ?_)
    refine KA rfl rfl rfl rfl rfl (fun hcg=>⟨by first | trivial | (simpa [Qu] using hcg),trivial,Zd6 (m.fields.getD q.toNat default)⟩) (Zc ?_)
    simp only [Eqs,reduceIte,Zuq]
    repeat (refine Zut (by first | omega | trivial | (intro h0; simp at h0; omega)) ?_)
    refine Ze rfl trivial (fun h5=>?_) (fun h5=>?_)
    ·have hnn:KW (WE (m.fields.take i)) x=true:=by
      unfold KW; rw [hlk]
      by_cases hq:q < 0
      ·rw [if_pos hq]; rfl
      ·rw [decide_eq_false hq,Bool.false_or,Bool.not_eq_true'] at h5; rw [if_neg hq,h5]; rfl
     have:=Zl7 (p:=KW (WE (m.fields.take i))) hd (by rw [hx]; exact hnn)
     refine Za (Zb (Zc ?_))
     simp only [Eqs,reduceIte,Zuq,ZY.r10]
     refine hret rfl (by first | trivial | simp) (YG ?_) (by first | exact Zuw _ | exact Zl (by first | trivial | assumption) | assumption | exact Zuy _ (by assumption))
     unfold Zcb; rw [hc,this]; rfl
    ·rw [Bool.or_eq_false_iff,decide_eq_false_iff_not] at h5
     obtain ⟨hq,hnum⟩:=h5
     rw [Bool.not_eq_false'] at hnum
     rw [if_neg hq,if_pos hnum] at hlk
     have hnn:KW (WE (m.fields.take i)) x=false:=by unfold KW; rw [hlk]; rfl
     rw [hnn,Bool.or_false] at hns
     refine Zg (Za (Zb (Zc ?_)))
     simp only [Eqs,reduceIte,Zuq,Zur,Zus,ZY.r11]
     repeat (refine Zut (by first | omega | trivial | (intro h0; simp at h0; omega)) ?_)
     refine ZW rfl rfl rfl rfl rfl (by trivial) (by trivial) (by exact ZeG (m.fields.getD q.toNat default)) (Zc ?_)
     simp only [Eqs,reduceIte,Zuq]
     refine Zb (Zc ?_)
     simp only [Eqs,reduceIte,Zuq,Zur,Zus,ZY.r12,Z5.cells,Yj,slD,hx]
     repeat (refine Zut (by first | omega | trivial | (intro h0; simp at h0; omega)) ?_)
     refine JO (st) (tk) rfl rfl rfl rfl rfl rfl (by trivial) (by trivial) rfl (by first | trivial | assumption) (by omega) (by (unfold big; omega)) fun t1 ht1=>Zc ?_
     simp only [Eqs,reduceIte,Zuq]
     refine Zm (Zb (Zc ?_))
     simp only [Eqs,reduceIte,Zuq,ZY.r7]
     repeat (refine Zut (by first | omega | trivial | (intro h0; simp at h0; omega)) ?_)
     have hmk:Zce (WE (m.fields.take i)) x=⟨x.field,(Kv (m.fields.getD q.toNat default)).1,(Kv (m.fields.getD q.toNat default)).2⟩:=by unfold Zce ZaA; rw [hlk]; rfl
     have hrow2:=hrow.snoc (x:=Zce (WE (m.fields.take i)) x) (row2:=Wy [.str [],.int .i64 0,.int .i64 0] ([0].zip [.agg [.str x.field,.int .i64 (Kv (m.fields.getD q.toNat default)).1,.int .i64 (Kv (m.fields.getD q.toNat default)).2]])) (by rw [hmk]; rfl) (show k=_ by simp; omega)
     rw [show (s.terms.take k).map (Zce (WE (m.fields.take i)))++[Zce (WE (m.fields.take i)) x]=(s.terms.take (k + 1)).map (Zce (WE (m.fields.take i))) by rw [Wz hd,hx]; simp] at hrow2
     refine Zy ?_
     exact ih_key ((s.terms.length) - (k + 1)) (by omega) (k + 1) rfl t1 _ ht1 hrow2 (by omega) (by rw [hns]; exact hno)
   ·simp at hd
    obtain rfl:k=s.terms.length:=by omega
    rw [ZuH] at hrow hno
    have hcg:Km s (KU (s.terms.map (Zce (WE (m.fields.take i)))))=Km s (WE (m.fields.take i)):=ZjT fun t ht=>ZqR ht (by have:=List.any_eq_false.1 hno t ht; simpa using this)
    have hok:=Ze1 s (s.terms.map (Zce (WE (m.fields.take i))))
    rw [hcg] at hok
    generalize hr:Km s (WE (m.fields.take i))=r at *
    obtain ⟨lo,hi2,er⟩:=r
    refine ZQ rfl (Za (JP [2,5,6] ?_))
    simp only [Eqs,reduceIte,Zuq]
    refine Ku (s':=st) (by first | exact Zuw _ | exact Zl (by first | trivial | assumption) | exact ZuK (Zl (by first | trivial | assumption)) (Zl (by first | trivial | assumption)) | assumption) (Qz (ρ':=[(2,.loc 2 0),(5,.loc 5 0),(6,.d (Zbv (s.terms.map (Zce (WE (m.fields.take i))))))]) (L':=[(2,m.cells),(5,s.cells)]) ?_ ?_ ?_)
    ·exact .skip (.skip (.cons (.d (hrow.le (by simp))) .nil))
    ·exact Q9 _
    refine Zb (Zc ?_)
    simp only [Eqs,reduceIte,Zuq,Zur,Zus,ZY.r13,Wu.cells,Msg.cells]
    refine ZW rfl rfl rfl rfl rfl (by trivial) (by trivial) (by exact hok) (Zc ?_)
    simp only [Eqs,reduceIte,Zuq]
    refine Za (Za (Zb (Zc ?_)))
    simp only [Eqs,reduceIte,Zuq,ZY.r14]
    have hf:Zcb (m.fields.take i) s=if !decide (er=0) || (decide (lo < 0) || decide (1048576 < hi2)) then 9 else 0:=by
     unfold Zcb; rw [hc,hno,hr]; rfl
    rw [← Bool.or_assoc] at hf
    refine Ze rfl trivial (fun h6=>?_) (fun h6=>?_)
    ·rw [h6] at hf
     refine Za (Zb (Zc ?_))
     simp only [Eqs,reduceIte,Zuq,ZY.r15]
     refine hret rfl (by first | trivial | simp) (YG ?_) (by first | exact Zuw _ | exact Zl (by first | trivial | assumption) | assumption | exact Zuy _ (by assumption))
     exact hf.symm
    ·rw [h6] at hf
     refine Zg (Za (Zb (Zc ?_)))
     simp only [Eqs,reduceIte,Zuq,ZY.r16]
     refine hret rfl (by first | trivial | simp) (YG ?_) (by first | exact Zuw _ | exact Zl (by first | trivial | assumption) | assumption | exact Zuy _ (by assumption))
     exact hf.symm
  exact key _ 0 rfl .full _ trivial YE.nil (by omega) (by simp)
end Go.DL
namespace Go.DL
open Go Go.Proofs
def Q8 (l:List Str):D:=slD 1 (fun s=>[.str s]) l
def Jz (f:Fld):List Str:=if decide (f.kind=7) || (decide (f.kind=8) || decide (f.kind=12)) then [f.of] else []
def Wk (f:Fld):List Str:=Jz f++if f.kind=9 then f.cases.map (·.of) else []
def Zay (out:List Str) (s:Str):List Str:=if s∈out then out else out++[s]
def Qe (m:Msg):List Str:=(m.fields.flatMap Wk).foldl Zay []
theorem Znd (out:List Str) (s:Str):(Zay out s).length≤out.length + 1:=by unfold Zay; split <;> simp
theorem J1 (l out:List Str):(l.foldl Zay out).length≤out.length + l.length:=by
 induction l generalizing out with
 | nil=>simp
 | cons x r ih=>have:=ih (Zay out x); have:=Znd out x; simp only [List.foldl_cons,ZuI]; omega
theorem Zbn (l:List Fld) (i:Nat):((l.take i).flatMap Wk).length≤(l.flatMap Wk).length:=by
 conv=>rhs; rw [← List.take_append_drop i l,List.flatMap_append,ZuF]
 omega
theorem Zd7 (l:List Fld) (i:Nat) (hi:i < l.length):(l.take (i + 1)).flatMap Wk=(l.take i).flatMap Wk++Wk (l.getD i default):=by
 rw [Wz hi,List.flatMap_append]; simp
theorem Zgx (m:Msg) (hb:(m.fields.flatMap Wk).length≤1000000):ZR Zuv Zp.id [.agg m.cells] (Q8 (Qe m)):=by
 refine WD Zp.ok fun hwf F st hret=>?_
 have hw:=(ZdU (s:=m) (hwf _ (by simp))).nfields
 have hfw:=(ZdU (s:=m) (hwf _ (by simp))).fields
 unfold big at hw
 clear hwf
 refine Za (Zb (Zc ?_))
 simp only [Eqs,reduceCtorEq,reduceIte,Zuq,Zp.r0,Msg.cells,Yo,slD]
 refine Za (Zb (Zc ?_))
 simp only [Eqs,reduceIte,Zuq,Zp.r1]
 refine Za (Za (Zb (Zc ?_)))
 simp only [Eqs,reduceIte,Zuq,Zp.r2]
 refine Ku (s':=st) (by first | exact Zuw _ | exact Zl (by first | trivial | assumption) | exact ZuK (Zl (by first | trivial | assumption)) (Zl (by first | trivial | assumption)) | assumption) (Qz (ρ':=[(1,.loc 1 0),(3,.d (.sl .full 0 1 fun _=>[])),(4,.d (.int .i64 (0:Nat)))]) (L':=[(1,m.cells)]) ?_ ?_ ?_)
 ·exact .skip (.cons (.d (Qa fun b h=>by cases h)) (.skip .nil))
 ·exact Q9 _
 refine Zj (ZX ?_)
 have key:∀ (n i:Nat),(m.fields.length) - i=n→∀ tk row out,tk.okIn st→YE (fun s=>[.str s]) row out→out=((m.fields.take i).flatMap Wk).foldl Zay []→i≤m.fields.length→ZT F [.code (Zp.l0),.inLoop Zp.l0,.inBlock 0,.code (.seq (qR Zp.r23 [2]) .ret)] [(1,.loc 1 0),(3,.d (.sl tk out.length 1 row)),(4,.d (.int .i64 i))] [(1,m.cells)] (st.own tk (out.length * 1)):=by
  intro n
  induction n using Nat.strongRecOn with
  | ind n ih_key =>
  intro i hn tk row out htk hrow hout hi
  have hlo:=J1 ((m.fields.take i).flatMap Wk) []
  have hlt:=Zbn m.fields i
  rw [← hout] at hlo
  simp only [List.length_nil,Nat.zero_add] at hlo
  refine Za (Za (Zb (Zc ?_)))
  simp only [Eqs,reduceIte,Zuq,Zp.r3,Msg.cells,Yo,slD]
  refine Ze rfl trivial (fun hd=>?_) (fun hd=>?_)
  ·simp at hd
   have hsucc:=Zd7 m.fields i hd
   have hlt2:=Zbn m.fields (i + 1)
   have hwf:=hfw _ (Ki hd)
   have hnc:=hwf.ncases
   unfold big at hnc
   generalize hf:m.fields.getD i default=f at *
   rw [hsucc,ZuF] at hlt2
   refine Zg (Za (Zj (Za (Zb (Zc ?_)))))
   simp only [Eqs,reduceIte,Zuq,Zur,Zus,Zp.r5,Fld.cells,hf]
   repeat (refine Zut (by first | omega | trivial | (intro h0; simp at h0; omega)) ?_)
   refine Za (Zb (Zc ?_))
   simp only [Eqs,reduceIte,Zuq,Zp.r6]
   refine Za (Za (Zb (Zc ?_)))
   simp only [Eqs,reduceIte,Zuq,Zp.r7]
   have jn:∀ tl rowl ll,tl.okIn (st.own tk (out.length * 1))→YE (fun s=>[.str s]) rowl ll→ll=Jz f→ZT F [.code (.seq (.seq (qR Zp.r9 [1,3,4,5,6,7]) (.block 2 (.loop Zp.l1))) (.seq (qR Zp.r13 [1,3,4,6,8]) (.block 4 (.loop Zp.l2)))),.inBlock 1,.code (qR Zp.r4 [1,3,4]),.inLoop Zp.l0,.inBlock 0,.code (.seq (qR Zp.r23 [2]) .ret)] [(1,.loc 1 0),(3,.d (.sl tk out.length 1 row)),(4,.d (.int .i64 i)),(5,.loc 5 0),(6,.d (.sl tl ll.length 1 rowl))] [(1,m.cells),(5,f.cells)] ((st.own tk (out.length * 1)).own tl (ll.length * 1)):=by
    intro tl rowl ll htl hrowl hll
    have hl1:ll.length≤1:=by rw [hll]; unfold Jz; split <;> simp
    refine Za (Za (Zb (Zc ?_)))
    simp only [Eqs,reduceIte,Zuq,Zp.r9,Fld.cells]
    refine Zj (ZX ?_)
    have key2:∀ (n k:Nat),(f.cases.length) - k=n→∀ tl rowl l,tl.okIn (st.own tk (out.length * 1))→YE (fun s=>[.str s]) rowl l→(l=ll++if f.kind=9 then (f.cases.take k).map (·.of) else [])→k≤f.cases.length→ZT F [.code (Zp.l1),.inLoop Zp.l1,.inBlock 2,.code (.seq (qR Zp.r13 [1,3,4,6,8]) (.block 4 (.loop Zp.l2))),.inBlock 1,.code (qR Zp.r4 [1,3,4]),.inLoop Zp.l0,.inBlock 0,.code (.seq (qR Zp.r23 [2]) .ret)] [(1,.loc 1 0),(3,.d (.sl tk out.length 1 row)),(4,.d (.int .i64 i)),(5,.loc 5 0),(6,.d (.sl tl l.length 1 rowl)),(7,.d (.int .i64 k))] [(1,m.cells),(5,f.cells)] ((st.own tk (out.length * 1)).own tl (l.length * 1)):=by
     intro n
     induction n using Nat.strongRecOn with
     | ind n ih_key2 =>
     clear hrowl htl rowl tl
     intro k hnk tl rowl l htl hrowl hl hk
     refine Za (Za (Zb (Zc ?_)))
     simp only [Eqs,reduceIte,Zuq,Zp.r10,Fld.cells,W0,slD]
     refine Ze rfl trivial (fun h4=>?_) (fun h4=>?_)
     ·simp only [ZuA,decide_eq_true_eq] at h4
      have hll2:l.length=ll.length + k:=by rw [hl,if_pos h4.1]; simp; omega
      have hcl:(Wk f).length=ll.length + f.cases.length:=by rw [hll,Wk,if_pos h4.1]; simp
      refine Zg (Za (Zj (Zb (Zc ?_))))
      simp only [Eqs,reduceIte,Zuq,Zp.r12,WK.cells]
      repeat (refine Zut (by first | omega | trivial | (intro h0; simp at h0; omega)) ?_)
      refine JO (st.own tk (out.length * 1)) (tl) rfl rfl rfl rfl rfl rfl (by trivial) (by trivial) rfl (by first | trivial | assumption) (by omega) (by (unfold big; omega)) fun t2 ht2=>Zc ?_
      simp only [Eqs,reduceIte,Zuq]
      refine Zm (Zb (Zc ?_))
      simp only [Eqs,reduceIte,Zuq,Zp.r11]
      repeat (refine Zut (by first | omega | trivial | (intro h0; simp at h0; omega)) ?_)
      have hrow2:=hrowl.snoc (x:=(f.cases.getD k default).of) (row2:=Wy [.str []] ([0].zip [.str (f.cases.getD k default).of])) rfl rfl
      refine Zy ?_
      have hnext:=ih_key2 ((f.cases.length) - (k + 1)) (by omega) (k + 1) rfl t2 _ (l++[(f.cases.getD k default).of]) ht2 hrow2 (by rw [hl,if_pos h4.1,if_pos h4.1,Wz (by omega)]; simp) (by omega)
      rw [ZuF] at hnext
      exact hnext
     ·have hlr:l=Wk f:=by
       rw [hl,hll,Wk]
       by_cases h9:f.kind=9
       ·have:k=f.cases.length:=by simp [h9] at h4; omega
        rw [if_pos h9,if_pos h9,this,ZuH]
       ·rw [if_neg h9,if_neg h9]
      clear ih_key2 h4 hl hll hl1 ll hk hnk
      have hll:l.length=(Wk f).length:=by rw [hlr]
      refine ZQ rfl (Za (Zb (Zc ?_)))
      simp only [Eqs,reduceIte,Zuq,Zp.r13]
      refine Ku (s':=st.own tk (out.length * 1)) (by first | exact Zuw _ | exact Zl (by first | trivial | assumption) | exact ZuK (Zl (by first | trivial | assumption)) (Zl (by first | trivial | assumption)) | assumption) (Qz (ρ':=[(1,.loc 1 0),(3,.d (.sl tk out.length 1 row)),(4,.d (.int .i64 i)),(6,.d (Q8 l)),(8,.d (.int .i64 (0:Nat)))]) (L':=[(1,m.cells)]) ?_ ?_ ?_)
      ·exact .skip (.skip (.skip (.cons (.d (hrowl.le rfl)) (.skip .nil))))
      ·exact Q9 _
      refine Zj (ZX ?_)
      have key3:∀ (n k:Nat),(l.length) - k=n→∀ tk row o,tk.okIn st→YE (fun s=>[.str s]) row o→o=(l.take k).foldl Zay out→k≤l.length→ZT F [.code (Zp.l2),.inLoop Zp.l2,.inBlock 4,.inBlock 1,.code (qR Zp.r4 [1,3,4]),.inLoop Zp.l0,.inBlock 0,.code (.seq (qR Zp.r23 [2]) .ret)] [(1,.loc 1 0),(3,.d (.sl tk o.length 1 row)),(4,.d (.int .i64 i)),(6,.d (Q8 l)),(8,.d (.int .i64 k))] [(1,m.cells)] (st.own tk (o.length * 1)):=by
       intro n
       induction n using Nat.strongRecOn with
       | ind n ih_key3 =>
       clear hrow htk hrowl htl tl
       intro k hnk tk row o htk hrow ho hk
       have hol:o.length≤out.length + k:=by have:=J1 (l.take k) out; rw [← ho,List.length_take] at this; omega
       refine Za (Za (Zb (Zc ?_)))
       simp only [Eqs,reduceIte,Zuq,Zp.r14,Q8,slD]
       refine Ze rfl trivial (fun h5=>?_) (fun h5=>?_)
       ·simp at h5
        have hstep:(l.take (k + 1)).foldl Zay out=Zay o (l.getD k default):=by rw [Wz h5,List.foldl_append,← ho]; rfl
        generalize hx:l.getD k default=x at *
        refine Zg (Za (Zj (Za (Zb (Zc ?_)))))
        simp only [Eqs,reduceIte,Zuq,Zp.r16]
        refine Za (Za (Zb (Zc ?_)))
        simp only [Eqs,reduceIte,Zuq,Zp.r17]
        refine Ku (s':=st.own tk (o.length * 1)) (by first | exact Zuw _ | exact Zl (by first | trivial | assumption) | exact ZuK (Zl (by first | trivial | assumption)) (Zl (by first | trivial | assumption)) | assumption) (Qz (ρ':=[(1,.loc 1 0),(3,.d (.sl tk o.length 1 row)),(4,.d (.int .i64 i)),(6,.d (Q8 l)),(8,.d (.int .i64 k)),(9,.d (.bool (decide (x∈o.take 0)))),(10,.d (.int .i64 (0:Nat)))]) (L':=[(1,m.cells)]) ?_ ?_ ?_)
        ·rw [show decide (x∈o.take 0)=false by simp]; exact Zai _
        ·exact Q9 _
        refine Zj (ZX ?_)
        have key4:∀ (n j:Nat),(o.length) - j=n→j≤o.length→ZT F [.code (Zp.l3),.inLoop Zp.l3,.inBlock 6,.code (.seq (qR Zp.r21 [1,3,4,6,8,87]) (qC 87 (qR Zp.r22 [1,3,4,6,8]) .skip)),.inBlock 5,.code (qR Zp.r15 [1,3,4,6,8]),.inLoop Zp.l2,.inBlock 4,.inBlock 1,.code (qR Zp.r4 [1,3,4]),.inLoop Zp.l0,.inBlock 0,.code (.seq (qR Zp.r23 [2]) .ret)] [(1,.loc 1 0),(3,.d (.sl tk o.length 1 row)),(4,.d (.int .i64 i)),(6,.d (Q8 l)),(8,.d (.int .i64 k)),(9,.d (.bool (decide (x∈o.take j)))),(10,.d (.int .i64 j))] [(1,m.cells)] (st.own tk (o.length * 1)):=by
         intro n
         induction n using Nat.strongRecOn with
         | ind n ih_key4 =>
         intro j hnj hj
         refine Za (Za (Zb (Zc ?_)))
         simp only [Eqs,reduceIte,Zuq,Zp.r18,Q8,slD]
         refine Ze rfl trivial (fun h6=>?_) (fun h6=>?_)
         ·simp at h6
          have hrj:=hrow j h6
          have hmem:decide (x∈o.take (j + 1))=(decide (x∈o.take j) || decide (o.getD j default=x)):=by
           rw [Wz h6,Bool.eq_iff_iff]; simp only [List.mem_append,List.mem_singleton,ZuL,decide_eq_true_eq]; exact or_congr Iff.rfl ⟨Eq.symm,Eq.symm⟩
          refine Zg (Za (Zj (WB (Wj ?_))))
          simp only [Eqs,reduceIte,Zuq,Zp.r20,hx,hrj]
          repeat (refine Zut (by first | omega | trivial | (intro h0; simp at h0; omega)) ?_)
          refine Zm (Zb (Zc ?_))
          simp only [Eqs,reduceIte,Zuq,Zp.r19]
          repeat (refine Zut (by first | omega | trivial | (intro h0; simp at h0; omega)) ?_)
          refine Zy ?_
          have hnext:=ih_key4 ((o.length) - (j + 1)) (by omega) (j + 1) rfl (by omega)
          rw [hmem] at hnext
          exact hnext
         ·simp at h6
          obtain rfl:j=o.length:=by omega
          rw [ZuH]
          refine ZQ rfl (Za (Zb (Zc ?_)))
          simp only [Eqs,reduceIte,Zuq,Zp.r21]
          refine Ze rfl trivial (fun h7=>?_) (fun h7=>?_)
          ·have hxo:x ∉ o:=by simpa using h7
           refine Zb (Zc ?_)
           simp only [Eqs,reduceIte,Zuq,Zp.r22,hx]
           repeat (refine Zut (by first | omega | trivial | (intro h0; simp at h0; omega)) ?_)
           refine JO (st) (tk) rfl rfl rfl rfl rfl rfl (by trivial) (by trivial) rfl (by first | trivial | assumption) (by omega) (by (unfold big; omega)) fun t3 ht3=>Zc ?_
           simp only [Eqs,reduceIte,Zuq]
           refine Zm (Zb (Zc ?_))
           simp only [Eqs,reduceIte,Zuq,Zp.r15]
           repeat (refine Zut (by first | omega | trivial | (intro h0; simp at h0; omega)) ?_)
           have hrow3:=hrow.snoc (x:=x) (row2:=Wy [.str []] ([0].zip [.str x])) rfl rfl
           have hnext:=ih_key3 (l.length - (k + 1)) (by omega) (k + 1) rfl t3 _ (o++[x]) ht3 hrow3 (by rw [hstep,Zay,if_neg hxo]) (by omega)
           rw [ZuF] at hnext
           refine Zy ?_
           exact hnext
          ·have hxo:x∈o:=by simpa using h7
           refine Zg (Zm (Zb (Zc ?_)))
           simp only [Eqs,reduceIte,Zuq,Zp.r15]
           repeat (refine Zut (by first | omega | trivial | (intro h0; simp at h0; omega)) ?_)
           have hnext:=ih_key3 (l.length - (k + 1)) (by omega) (k + 1) rfl tk row o htk hrow (by rw [hstep,Zay,if_pos hxo]) (by omega)
           refine Zy ?_
           exact hnext
        exact key4 _ 0 rfl (by omega)
       ·simp at h5
        obtain rfl:k=l.length:=by omega
        rw [ZuH] at ho
        refine ZQ rfl (Zm (Zb (Zc ?_)))
        simp only [Eqs,reduceIte,Zuq,Zp.r4]
        repeat (refine Zut (by first | omega | trivial | (intro h0; simp at h0; omega)) ?_)
        have hnext:=ih_key (m.fields.length - (i + 1)) (by omega) (i + 1) rfl tk row o htk hrow (by rw [hsucc,List.foldl_append,← hout,ho,hlr]) (by omega)
        refine Zy ?_
        exact hnext
      exact key3 _ 0 rfl tk row out htk hrow rfl (by omega)
    exact key2 _ 0 rfl tl rowl ll htl hrowl (by simp) (by omega)
   refine Ze rfl trivial (fun h3=>?_) (fun h3=>?_)
   ·refine Zb (Zc ?_)
    simp only [Eqs,reduceIte,Zuq,Zp.r8]
    refine JO (st.own tk (out.length * 1)) (.full) rfl rfl rfl rfl rfl rfl (by trivial) (by trivial) rfl (by first | trivial | assumption) (by decide) (by (unfold big; decide)) fun t2 ht2=>Zc ?_
    simp only [Eqs,reduceIte,Zuq]
    have hone:[f.of]=Jz f:=by unfold Jz; rw [if_pos (by rw [← Bool.or_assoc]; exact h3)]
    exact jn t2 _ [f.of] ht2 (YE.nil.snoc (x:=f.of) rfl rfl) hone
   ·refine Zg ?_
    refine JP [1,3,4,5,6] ?_
    simp only [Eqs,reduceIte,Zuq]
    refine Ku (s':=st.own tk (out.length * 1)) (by first | exact Zuw _ | exact Zl (by first | trivial | assumption) | exact ZuK (Zl (by first | trivial | assumption)) (Zl (by first | trivial | assumption)) | assumption) (Qz (ρ':=[(1,.loc 1 0),(3,.d (.sl tk out.length 1 row)),(4,.d (.int .i64 i)),(5,.loc 5 0),(6,.d (.sl .full 0 1 fun _=>[]))]) (L':=[(1,m.cells),(5,f.cells)]) ?_ ?_ ?_)
    ·exact .skip (.skip (.skip (.skip (.cons (.d (Qa fun b h=>by cases h)) .nil))))
    ·exact Q9 _
    have hone:[]=Jz f:=by unfold Jz; rw [if_neg (by rw [← Bool.or_assoc,h3]; simp)]
    exact jn .full _ [] trivial YE.nil hone
  ·simp at hd
   obtain rfl:i=m.fields.length:=by omega
   rw [ZuH] at hout
   refine ZQ rfl (Za (Zb (Zc ?_)))
   simp only [Eqs,reduceIte,Zuq,Zp.r23]
   have hrs:Qe m=out:=hout.symm
   rw [hrs] at hret
   exact hret rfl (by trivial) (Zac (hrow.le rfl)) (Zl htk)
 exact key _ 0 rfl .full _ [] trivial YE.nil rfl (by omega)
end Go.DL
