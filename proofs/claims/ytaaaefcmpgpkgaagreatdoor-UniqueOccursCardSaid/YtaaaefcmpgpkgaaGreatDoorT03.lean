/- Lemmas: FCode2, FCode3, DlZJ, DlZK, DlZL, DlZM, DlZN, DlZO, DlZP, DlZQ, DlZS, DlZT, DlZU, Api, DlZX, DlAc, R04a, Lst, R04b, Iv, R04d, R04e, R05a, R05b, R05c, R05d, R05e, R05f, R05g, R05h, R05i, R05j, R05k, Own, S00, S01, S02, Maps, S03, S04, S05, S06, S10, S11, R43d, U01, U02, A01, A02. -/
import Derived.Test.YtaaaefcmpgpkgaaGreatDoorT02
set_option maxHeartbeats 16000000
set_option linter.all false
open And renaming intro → ZvI
open Bool renaming and_eq_true → ZvN, or_eq_true → ZvW, true_and → ZvU
open Go.DL.D.Le renaming refl → ZvM
open Go.DL.St renaming sub_refl → ZvK, sub_upd → ZvS, upd_ne → ZvP, upd_same → ZvQ, upd_upd → ZvV
open Go.Proofs.Tryz renaming prog → ZvJ
open Int renaming reduceToNat → ZvG
open List renaming getElem_of_mem → ZvX, length_append → ZvT, length_cons → Zv0, take_length → ZvZ
open Nat renaming le_refl → ZvR, reduceAdd → ZvH, reduceEqDiff → ZvE, reduceLeDiff → ZvF
open Option renaming map_eq_some_iff → ZvO
open Option.some renaming injEq → ZvD
namespace Go.DL
open Go Go.Proofs
def WJ.r0:List DOp:=[qB 1 0,⟨some 2,none,.q .mv [.cst (.nilfn)]⟩]
def WJ.r1:List DOp:=[⟨some 3,none,.alloc [.nilsl]⟩]
def WJ.r2:=[qL 4 2 1,qf 5 142 [.tmp 4]]
def WJ.r3:=[qa 6 1 1,ql 7 6,qf 8 187 [.tmp 7],qs 3 8]
def WJ.r4:List DOp:=[⟨some 9,none,.q (.mkfn (.func 188) 0) [.tmp 3]⟩,qm 2 9]
abbrev WJ.id:Nat:=143
def WJ.an:Ann:=[(0,[1]),(1,[1,3]),(2,[1,3,5]),(3,[3]),(4,[2])]
def WJ.body:DC:=.seq (qR WJ.r0 [1]) (.seq (qR WJ.r1 [1,3]) (.seq (.seq (qR WJ.r2 [1,3,5]) (qC 5 (qR WJ.r3 [3]) .skip)) (.seq (qR WJ.r4 [2]) .ret)))
def WJ.df:DF:=⟨10,[.tmp 2],WJ.body⟩
theorem WJ.ok:cf ZvJ WJ.an WJ.id=some WJ.df:=by kernel_rfl
def Zq.r0:=[qB 3 1]
def Zq.r1:=[qm 8 0,qa 9 0 3,ql 10 9,qf 11 54 [.tmp 10],qf 12 107 [.tmp 8,.tmp 11,.cst (.int .i64 1)]]
def Zq.r2:List (DOp × List Nat):=[
 (⟨some 14,none,.q .mv [.tmp 0]⟩,[]),
 (⟨some 17,none,.q (.faddr 0) [.tmp 3]⟩,[]),
 (⟨some 18,none,.q (.load1) [.tmp 17]⟩,[]),
 (⟨some 15,none,.call (.cst (.fn (.func 189) [] [])) [.tmp 14]⟩,[18]),
 (⟨some 16,none,.q (.build [.str [],.nilsl] [(1,1)]) [.tmp 15]⟩,[]),
 (⟨some 19,none,.call (.cst (.fn (.func 15) [] [])) [.tmp 16,.tmp 18]⟩,[]),
 (⟨some 13,none,.q .mv [.tmp 19]⟩,[]),
 (⟨some 20,none,.q (.ext 0) [.tmp 13]⟩,[]),
 (⟨some 21,none,.q (.ext 1) [.tmp 13]⟩,[]),
 (⟨some 4,none,.q .mv [.tmp 20]⟩,[]),
 (⟨some 5,none,.q .mv [.tmp 21]⟩,[])]
def Zq.r3:=[qm 22 0,qm 23 5,qk 24 .not 23,qf 25 107 [.tmp 22,.tmp 24,.cst (.int .i64 2)]]
def Zq.r4:List (DOp × List Nat):=[
 (⟨some 28,none,.q (.faddr 1) [.tmp 3]⟩,[]),
 (⟨some 29,none,.q (.load1) [.tmp 28]⟩,[]),
 (⟨some 6,none,.alloc [.nilfn,.nilfn]⟩,[]),
 (⟨some 27,none,.call (.cst (.fn (.func 190) [] [])) []⟩,[29]),
 (⟨some 30,none,.q (.lookup (.sc .int) (.agg [.nilfn,.nilfn]) true) [.tmp 27,.tmp 29]⟩,[]),
 (⟨some 26,none,.q .mv [.tmp 30]⟩,[]),
 (⟨some 31,none,.q (.ext 0) [.tmp 26]⟩,[]),
 (⟨some 32,none,.q (.ext 1) [.tmp 26]⟩,[]),
 (⟨none,none,.storeN 2 (.tmp 6) (.tmp 31)⟩,[]),
 (⟨some 5,none,.q .mv [.tmp 32]⟩,[])]
def Zq.r5:=[qm 33 0,qm 34 5,qf 35 107 [.tmp 33,.tmp 34,.cst (.int .i64 4)]]
def Zq.r6:List DOp:=[qL 36 15 3,⟨some 7,none,.alloc [.str [],.int .i64 0,.int .i64 0,.bool false,.bool false,.int .i64 0,.int .i64 0,.int .i64 0,.nilsl,.str [],.str [],.str [],.nilsl,.int .i64 0,.int .i64 0]⟩,qS 15 7 36]
def Zq.r7:List DOp:=[qa 37 0 6,ql 38 37,⟨some 39,none,.call (.tmp 38) [.tmp 7]⟩]
def Zq.r8:List DOp:=[qm 40 0,qL 41 15 7,qa 42 0 3,ql 43 42,qa 44 1 3,ql 45 44,⟨some 46,none,.q (.build [.str [],.int .i64 0,.int .i64 0,.bool false,.bool false,.int .i64 0,.int .i64 0,.int .i64 0,.nilsl,.str [],.str [],.str [],.nilsl,.int .i64 0,.int .i64 0] [(0,1),(1,1)]) [.tmp 43,.tmp 45]⟩,qf 47 191 [.tmp 41,.tmp 46],qf 48 107 [.tmp 40,.tmp 47,.cst (.int .i64 5)]]
def Zq.r9:List DOp:=[qa 49 1 6,ql 50 49,qm 51 0,qL 52 15 3,⟨some 53,none,.call (.tmp 50) [.tmp 51,.tmp 52]⟩]
abbrev Zq.id:Nat:=144
def Zq.an:Ann:=[(0,[0,3]),(1,[0,3]),(2,[0,3,5]),(3,[0,3]),(4,[0,3,5,6]),(5,[0,3,6]),(6,[0,3,6,7]),(7,[0,3,6,7]),(8,[0,3,6]),(9,[]),(1000002,[0,3,4,1,2,5,6,7,8,9,10]),(1000004,[1,2,7,0,3,4,5,6,8,9]),(4000004,[29]),(5000002,[18])]
def Zq.body:DC:=.seq (qR Zq.r0 [0,3]) (.seq (qR Zq.r1 [0,3]) (.seq (.regD [0,3,4,1,2,5,6,7,8,9,10] Zq.r2 (some [0,3,5])) (.seq (qR Zq.r3 [0,3]) (.seq (.regD [1,2,7,0,3,4,5,6,8,9] Zq.r4 (some [0,3,5,6])) (.seq (qR Zq.r5 [0,3,6]) (.seq (qR Zq.r6 [0,3,6,7]) (.seq (qR Zq.r7 [0,3,6,7]) (.seq (qR Zq.r8 [0,3,6]) (qR Zq.r9 [])))))))))
def Zq.df:DF:=⟨54,[],Zq.body⟩
theorem Zq.ok:cf ZvJ Zq.an Zq.id=some Zq.df:=by kernel_rfl
def Ze.r0:List DOp:=[qB 1 0,⟨some 2,none,.q .mv [.cst (.nilfn)]⟩]
def Ze.r1:List DOp:=[⟨some 3,none,.alloc [.nilsl]⟩]
def Ze.r2:=[qa 8 1 1,ql 9 8,qk 10 .lenL 9,qi 11 0]
def Ze.r3:=[qd 12 .lss 11 10]
def Ze.r4:List DOp:=[qX 13 15 9 11,qL 14 15 13,⟨some 5,none,.alloc [.str [],.int .i64 0,.int .i64 0,.bool false,.bool false,.int .i64 0,.int .i64 0,.int .i64 0,.nilsl,.str [],.str [],.str [],.nilsl,.int .i64 0,.int .i64 0]⟩,qS 15 5 14]
def Ze.r5:=[qa 15 1 5,ql 16 15]
def Ze.r6:=[qe 18 .eql 16 7,qm 17 18]
def Ze.r7:=[qe 19 .eql 16 8,qm 17 19]
def Ze.r8:=[qe 20 .eql 16 12,qm 17 20]
def Ze.r9:List DOp:=[ql 21 3,qa 22 9 5,ql 23 22,⟨some 24,none,.bsl 1 1 [.str []] [0] [.tmp 23]⟩,⟨some 25,none,.append 9 1 16 [.str []] (.tmp 21) (.tmp 24)⟩,qs 3 25]
def Ze.r10:=[qe 27 .eql 16 9,qm 26 27]
def Ze.r11:=[qa 28 12 5,ql 29 28,qk 30 .lenL 29,qi 31 0]
def Ze.r12:=[qd 32 .lss 31 30]
def Ze.r13:List DOp:=[qX 33 3 29 31,qL 34 3 33,⟨some 7,none,.alloc [.int .i64 0,.int .i64 0,.str []]⟩,qS 3 7 34]
def Ze.r14:List DOp:=[ql 35 3,qa 36 2 7,ql 37 36,⟨some 38,none,.bsl 1 1 [.str []] [0] [.tmp 37]⟩,⟨some 39,none,.append 9 1 16 [.str []] (.tmp 35) (.tmp 38)⟩,qs 3 39]
def Ze.r15:=[qe 40 .add 31 1,qm 31 40]
def Ze.l1:DC:=.seq (qR Ze.r12 [3,9,10,11,29,30,31,32]) (.seq (qC 32 .skip (.exit 3)) (.seq (.block 4 (.seq (qR Ze.r13 [3,7,9,10,11,29,30,31]) (qR Ze.r14 [3,9,10,11,29,30,31]))) (qR Ze.r15 [3,9,10,11,29,30,31])))
def Ze.r16:=[qe 41 .add 11 1,qm 11 41]
def Ze.l0:DC:=.seq (qR Ze.r3 [3,9,10,11,12]) (.seq (qC 12 .skip (.exit 0)) (.seq (.block 1 (.seq (qR Ze.r4 [3,5,9,10,11]) (.seq (qR Ze.r5 [3,5,9,10,11,16]) (.block 2 (.seq (.seq (qR Ze.r6 [3,5,9,10,11,16,17]) (qC 17 .skip (.seq (qR Ze.r7 [3,5,9,10,11,16,17]) (qC 17 .skip (qR Ze.r8 [3,5,9,10,11,16,17]))))) (qC 17 (qR Ze.r9 [3,9,10,11]) (.seq (qR Ze.r10 [3,5,9,10,11,26]) (qC 26 (.seq (qR Ze.r11 [3,9,10,11,29,30,31]) (.block 3 (.loop Ze.l1))) .skip)))))))) (qR Ze.r16 [3,9,10,11])))
def Ze.r17:List DOp:=[⟨some 42,none,.q (.mkfn (.func 192) 0) [.tmp 3]⟩,qm 2 42]
abbrev Ze.id:Nat:=145
def Ze.an:Ann:=[(0,[1]),(1,[1,3]),(2,[3,9,10,11]),(3,[3,9,10,11,12]),(4,[3,5,9,10,11]),(5,[3,5,9,10,11,16]),(6,[3,5,9,10,11,16,17]),(7,[3,5,9,10,11,16,17]),(8,[3,5,9,10,11,16,17]),(9,[3,9,10,11]),(10,[3,5,9,10,11,26]),(11,[3,9,10,11,29,30,31]),(12,[3,9,10,11,29,30,31,32]),(13,[3,7,9,10,11,29,30,31]),(14,[3,9,10,11,29,30,31]),(15,[3,9,10,11,29,30,31]),(16,[3,9,10,11]),(17,[2])]
def Ze.body:DC:=.seq (qR Ze.r0 [1]) (.seq (qR Ze.r1 [1,3]) (.seq (.seq (qR Ze.r2 [3,9,10,11]) (.block 0 (.loop Ze.l0))) (.seq (qR Ze.r17 [2]) .ret)))
def Ze.df:DF:=⟨43,[.tmp 2],Ze.body⟩
theorem Ze.ok:cf ZvJ Ze.an Ze.id=some Ze.df:=by kernel_rfl
def ZH.r0:=[qi 4 0]
def ZH.r1:=[qm 6 0,qk 7 .lenL 6,qi 8 0]
def ZH.r2:=[qd 9 .lss 8 7]
def ZH.r3:=[qm 10 8,qm 5 10]
def ZH.r4:List DOp:=[qm 11 1,qm 12 0,qm 13 5,qX 14 1 12 13,ql 15 14,⟨some 16,none,.q (.bin .eql (some .bool)) [.tmp 11,.tmp 15]⟩]
def ZH.r5:=[qm 17 5,qm 4 17]
def ZH.r6:=[qe 18 .add 8 1,qm 8 18]
def ZH.l0:DC:=.seq (qR ZH.r2 [0,1,7,8,9]) (.seq (qC 9 .skip (.exit 0)) (.seq (.block 1 (.seq (qR ZH.r3 [0,1,5,7,8]) (.seq (qR ZH.r4 [0,1,5,7,8,16]) (qC 16 (.seq (qR ZH.r5 [4]) .ret) .skip)))) (qR ZH.r6 [0,1,7,8])))
def ZH.r7:=[qi 4 (-1)]
abbrev ZH.id:Nat:=146
def ZH.an:Ann:=[(0,[0,1]),(1,[0,1,7,8]),(2,[0,1,7,8,9]),(3,[0,1,5,7,8]),(4,[0,1,5,7,8,16]),(5,[4]),(6,[0,1,7,8]),(7,[4])]
def ZH.body:DC:=.seq (qR ZH.r0 [0,1]) (.seq (.seq (qR ZH.r1 [0,1,7,8]) (.block 0 (.loop ZH.l0))) (.seq (qR ZH.r7 [4]) .ret))
def ZH.df:DF:=⟨19,[.tmp 4],ZH.body⟩
theorem ZH.ok:cf ZvJ ZH.an ZH.id=some ZH.df:=by kernel_rfl
def YX.r0:=[qB 2 0,qb 3 false]
def YX.r1:List DOp:=[ql 5 1,qa 6 0 2,ql 7 6,⟨some 8,none,.q (.lookup (.sc .str) (.bool false) false) [.tmp 5,.tmp 7]⟩,qm 4 8]
def YX.r2:List DOp:=[ql 9 1,qa 10 0 2,ql 11 10,⟨none,none,.mapupd (.sc .str) (.tmp 9) (.tmp 11) (.cst (.bool true))⟩]
def YX.r3:List (DOp × List Nat):=[
 (⟨some 12,none,.q .mv [.tmp 4]⟩,[]),
 (⟨some 13,none,.q .mv [.tmp 12]⟩,[]),
 (⟨some 14,some (13,false),.q (.faddr 0) [.tmp 2]⟩,[]),
 (⟨some 15,some (13,false),.q (.load1) [.tmp 14]⟩,[]),
 (⟨some 17,some (13,false),.q (.faddr 1) [.tmp 2]⟩,[]),
 (⟨some 18,some (13,false),.q (.load1) [.tmp 17]⟩,[]),
 (⟨some 19,some (13,false),.q (.bin .neq (none)) [.tmp 18,.cst (.int .i64 0)]⟩,[]),
 (⟨some 20,some (13,false),.q (.faddr 1) [.tmp 2]⟩,[]),
 (⟨some 21,some (13,false),.q (.load1) [.tmp 20]⟩,[]),
 (⟨some 16,some (13,false),.call (.cst (.fn (.func 54) [] [])) [.tmp 15]⟩,[21,18]),
 (⟨some 22,some (13,false),.call (.cst (.fn (.func 185) [] [])) [.tmp 21]⟩,[18]),
 (⟨some 23,some (13,false),.bsl 3 1 [.bool false] [0,1,2] [.tmp 16,.tmp 19,.tmp 22]⟩,[]),
 (⟨some 24,some (13,false),.call (.cst (.fn (.func 81) [] [])) [.tmp 23]⟩,[]),
 (⟨some 25,some (13,false),.q .not [.tmp 24]⟩,[]),
 (⟨some 26,none,.pick (.tmp 13) (.cst (.bool true)) (.tmp 25)⟩,[]),
 (⟨some 3,none,.q .mv [.tmp 26]⟩,[])]
abbrev YX.id:Nat:=184
def YX.an:Ann:=[(0,[1,2]),(1,[1,2,4]),(2,[2,4]),(3,[3]),(1000003,[0,1,2,3,5,6,7,8,9,4,10,11,12,13,14,15]),(8000003,[21,18]),(14000003,[18])]
def YX.body:DC:=.seq (qR YX.r0 [1,2]) (.seq (qR YX.r1 [1,2,4]) (.seq (qR YX.r2 [2,4]) (.seq (.regD [0,1,2,3,5,6,7,8,9,4,10,11,12,13,14,15] YX.r3 (some [3])) .ret)))
def YX.df:DF:=⟨27,[.tmp 3],YX.body⟩
theorem YX.ok:cf ZvJ YX.an YX.id=some YX.df:=by kernel_rfl
def KW.r0:=[qb 2 false]
def KW.r1:List DOp:=[qm 3 0,⟨some 4,none,.q (.bin .geq (none)) [.tmp 3,.cst (.int .i64 (-1048576))]⟩,qm 5 4,qy 5 (qm 6 0),qy 5 (qe 7 .leq 6 1048576),qO 8 5 7,qm 2 8]
abbrev KW.id:Nat:=185
def KW.an:Ann:=[(0,[0]),(1,[2])]
def KW.body:DC:=.seq (qR KW.r0 [0]) (.seq (qR KW.r1 [2]) .ret)
def KW.df:DF:=⟨9,[.tmp 2],KW.body⟩
theorem KW.ok:cf ZvJ KW.an KW.id=some KW.df:=by kernel_rfl
def Yj.r0:=[qb 4 false]
def Yj.r1:=[qm 5 0,qm 6 1,qf 7 236 [.tmp 5,.tmp 6],qe 8 .geq 7 0,qm 4 8]
abbrev Yj.id:Nat:=186
def Yj.an:Ann:=[(0,[0,1]),(1,[4])]
def Yj.body:DC:=.seq (qR Yj.r0 [0,1]) (.seq (qR Yj.r1 [4]) .ret)
def Yj.df:DF:=⟨9,[.tmp 4],Yj.body⟩
theorem Yj.ok:cf ZvJ Yj.an Yj.id=some Yj.df:=by kernel_rfl
def Yu.r0:List DOp:=[⟨some 2,none,.q .mv [.cst (.nilsl)]⟩]
def Yu.r1:List DOp:=[qm 3 0,⟨some 4,none,.q (.bin .eql (some .sl)) [.tmp 3,.cst (.nilsl)]⟩]
def Yu.r2:List DOp:=[⟨some 2,none,.q .mv [.cst (.nilsl)]⟩]
def Yu.r3:List DOp:=[⟨some 5,none,.bsl 0 2 [.str [],.int .i64 0] [] []⟩,qm 6 0,⟨some 7,none,.append 51 2 24 [.str [],.int .i64 0] (.tmp 5) (.tmp 6)⟩,qm 2 7]
abbrev Yu.id:Nat:=187
def Yu.an:Ann:=[(0,[0]),(1,[0,4]),(2,[2]),(3,[2])]
def Yu.body:DC:=.seq (qR Yu.r0 [0]) (.seq (.seq (qR Yu.r1 [0,4]) (qC 4 (.seq (qR Yu.r2 [2]) .ret) .skip)) (.seq (qR Yu.r3 [2]) .ret))
def Yu.df:DF:=⟨8,[.tmp 2],Yu.body⟩
theorem Yu.ok:cf ZvJ Yu.an Yu.id=some Yu.df:=by kernel_rfl
def Yt.r0:=[ql 5 1,qk 6 .lenL 5,qi 7 0]
def Yt.r1:=[qd 8 .lss 7 6]
def Yt.r2:List DOp:=[qX 9 2 5 7,qL 10 2 9,⟨some 4,none,.alloc [.str [],.int .i64 0]⟩,qS 2 4 10]
def Yt.r3:List DOp:=[qm 11 0,qa 12 0 4,ql 13 12,⟨some 14,none,.call (.tmp 11) [.tmp 13]⟩,qk 15 .not 14]
def Yt.r4:=[qe 16 .add 7 1,qm 7 16]
def Yt.l0:DC:=.seq (qR Yt.r1 [0,5,6,7,8]) (.seq (qC 8 .skip (.exit 0)) (.seq (.block 1 (.seq (qR Yt.r2 [0,4,5,6,7]) (.seq (qR Yt.r3 [0,5,6,7,15]) (qC 15 .ret .skip)))) (qR Yt.r4 [0,5,6,7])))
abbrev Yt.id:Nat:=188
def Yt.an:Ann:=[(0,[0,5,6,7]),(1,[0,5,6,7,8]),(2,[0,4,5,6,7]),(3,[0,5,6,7,15]),(4,[0,5,6,7])]
def Yt.body:DC:=.seq (qR Yt.r0 [0,5,6,7]) (.block 0 (.loop Yt.l0))
def Yt.df:DF:=⟨17,[],Yt.body⟩
theorem Yt.ok:cf ZvJ Yt.an Yt.id=some Yt.df:=by kernel_rfl
def Yy.r0:List DOp:=[⟨some 2,none,.q .mv [.cst (.nilsl)]⟩]
def Yy.r1:List DOp:=[qm 3 0,qk 4 .nilck 3,qa 5 7 4,qa 6 1 5,ql 7 6,qm 8 0,qk 9 .nilck 8,qa 10 6 9,ql 11 10,⟨some 12,none,.q (.slice 15 false true false) [.tmp 7,.tmp 11]⟩,qm 2 12]
abbrev Yy.id:Nat:=189
def Yy.an:Ann:=[(0,[0]),(1,[2]),(1000001,[0,1,2,3,4,5,6,7,8,9,10])]
def Yy.body:DC:=.seq (qR Yy.r0 [0]) (.seq (.regD [0,1,2,3,4,5,6,7,8,9,10] (JA Yy.r1) (some [2])) .ret)
def Yy.df:DF:=⟨13,[.tmp 2],Yy.body⟩
theorem Yy.ok:cf ZvJ Yy.an Yy.id=some Yy.df:=by kernel_rfl
def Kc.r0:List DOp:=[⟨some 0,none,.q .mv [.cst (.nilmap)]⟩]
def Kc.r1:List DOp:=[⟨some 1,none,.mkmap⟩,⟨some 2,none,.q (.build [.nilfn,.nilfn] [(0,1),(1,1)]) [.cst (.fn (.func 237) [] []),.cst (.fn (.func 238) [] [])]⟩,⟨none,none,.mapupd (.sc .int) (.tmp 1) (.cst (.int .i64 1)) (.tmp 2)⟩,⟨some 3,none,.q (.build [.nilfn,.nilfn] [(0,1),(1,1)]) [.cst (.fn (.func 241) [] []),.cst (.fn (.func 242) [] [])]⟩,⟨none,none,.mapupd (.sc .int) (.tmp 1) (.cst (.int .i64 2)) (.tmp 3)⟩,⟨some 4,none,.q (.build [.nilfn,.nilfn] [(0,1),(1,1)]) [.cst (.fn (.func 243) [] []),.cst (.fn (.func 244) [] [])]⟩,⟨none,none,.mapupd (.sc .int) (.tmp 1) (.cst (.int .i64 3)) (.tmp 4)⟩,⟨some 5,none,.q (.build [.nilfn,.nilfn] [(0,1),(1,1)]) [.cst (.fn (.func 245) [] []),.cst (.fn (.func 246) [] [])]⟩,⟨none,none,.mapupd (.sc .int) (.tmp 1) (.cst (.int .i64 4)) (.tmp 5)⟩,⟨some 6,none,.q (.build [.nilfn,.nilfn] [(0,1),(1,1)]) [.cst (.fn (.func 247) [] []),.cst (.fn (.func 248) [] [])]⟩,⟨none,none,.mapupd (.sc .int) (.tmp 1) (.cst (.int .i64 5)) (.tmp 6)⟩,⟨some 7,none,.q (.build [.nilfn,.nilfn] [(0,1),(1,1)]) [.cst (.fn (.func 249) [] []),.cst (.fn (.func 250) [] [])]⟩,⟨none,none,.mapupd (.sc .int) (.tmp 1) (.cst (.int .i64 6)) (.tmp 7)⟩,⟨some 8,none,.q (.build [.nilfn,.nilfn] [(0,1),(1,1)]) [.cst (.fn (.func 251) [] []),.cst (.fn (.func 252) [] [])]⟩,⟨none,none,.mapupd (.sc .int) (.tmp 1) (.cst (.int .i64 7)) (.tmp 8)⟩,⟨some 9,none,.q (.build [.nilfn,.nilfn] [(0,1),(1,1)]) [.cst (.fn (.func 254) [] []),.cst (.fn (.func 255) [] [])]⟩,⟨none,none,.mapupd (.sc .int) (.tmp 1) (.cst (.int .i64 8)) (.tmp 9)⟩,⟨some 10,none,.q (.build [.nilfn,.nilfn] [(0,1),(1,1)]) [.cst (.fn (.func 256) [] []),.cst (.fn (.func 257) [] [])]⟩,⟨none,none,.mapupd (.sc .int) (.tmp 1) (.cst (.int .i64 9)) (.tmp 10)⟩,⟨some 11,none,.q (.build [.nilfn,.nilfn] [(0,1),(1,1)]) [.cst (.fn (.func 258) [] []),.cst (.fn (.func 259) [] [])]⟩,⟨none,none,.mapupd (.sc .int) (.tmp 1) (.cst (.int .i64 10)) (.tmp 11)⟩,⟨some 12,none,.q (.build [.nilfn,.nilfn] [(0,1),(1,1)]) [.cst (.fn (.func 260) [] []),.cst (.fn (.func 261) [] [])]⟩,⟨none,none,.mapupd (.sc .int) (.tmp 1) (.cst (.int .i64 11)) (.tmp 12)⟩,⟨some 13,none,.q (.build [.nilfn,.nilfn] [(0,1),(1,1)]) [.cst (.fn (.func 262) [] []),.cst (.fn (.func 263) [] [])]⟩,⟨none,none,.mapupd (.sc .int) (.tmp 1) (.cst (.int .i64 12)) (.tmp 13)⟩,qm 14 1,qm 0 14]
abbrev Kc.id:Nat:=190
def Kc.an:Ann:=[(0,[]),(1,[0])]
def Kc.body:DC:=.seq (qR Kc.r0 []) (.seq (qR Kc.r1 [0]) .ret)
def Kc.df:DF:=⟨15,[.tmp 0],Kc.body⟩
theorem Kc.ok:cf ZvJ Kc.an Kc.id=some Kc.df:=by kernel_rfl
def Wk.r0:=[qB 2 0,qB 3 1,qb 4 false]
def Wk.r1:List (DOp × List Nat):=[
 (⟨some 5,none,.q (.loadN 15) [.tmp 2]⟩,[]),
 (⟨some 7,none,.q (.loadN 15) [.tmp 3]⟩,[]),
 (⟨some 6,none,.call (.cst (.fn (.func 264) [] [])) [.tmp 5]⟩,[7]),
 (⟨some 8,none,.call (.cst (.fn (.func 264) [] [])) [.tmp 7]⟩,[]),
 (⟨some 9,none,.q (.bin .eql (some (.cells [(0,.str),(1,.str),(2,.str),(3,.str),(4,.int),(5,.int),(6,.int),(7,.int),(8,.int),(9,.int),(10,.int),(11,.bool),(12,.bool)]))) [.tmp 6,.tmp 8]⟩,[]),
 (⟨some 10,none,.q .mv [.tmp 9]⟩,[]),
 (⟨some 11,some (10,true),.q (.faddr 7) [.tmp 2]⟩,[]),
 (⟨some 12,some (10,true),.q (.faddr 1) [.tmp 11]⟩,[]),
 (⟨some 13,some (10,true),.q (.load1) [.tmp 12]⟩,[]),
 (⟨some 14,some (10,true),.q (.faddr 7) [.tmp 3]⟩,[]),
 (⟨some 15,some (10,true),.q (.faddr 1) [.tmp 14]⟩,[]),
 (⟨some 16,some (10,true),.q (.load1) [.tmp 15]⟩,[]),
 (⟨some 17,some (10,true),.call (.cst (.fn (.func 265) [] [])) [.tmp 13,.tmp 16]⟩,[]),
 (⟨some 18,none,.pick (.tmp 10) (.tmp 17) (.cst (.bool false))⟩,[]),
 (⟨some 19,none,.q .mv [.tmp 18]⟩,[]),
 (⟨some 20,some (19,true),.q (.faddr 12) [.tmp 2]⟩,[]),
 (⟨some 21,some (19,true),.q (.load1) [.tmp 20]⟩,[]),
 (⟨some 22,some (19,true),.q (.faddr 12) [.tmp 3]⟩,[]),
 (⟨some 23,some (19,true),.q (.load1) [.tmp 22]⟩,[]),
 (⟨some 24,some (19,true),.call (.cst (.fn (.func 266) [] [])) [.tmp 21,.tmp 23]⟩,[]),
 (⟨some 25,none,.pick (.tmp 19) (.tmp 24) (.cst (.bool false))⟩,[]),
 (⟨some 4,none,.q .mv [.tmp 25]⟩,[])]
abbrev Wk.id:Nat:=191
def Wk.an:Ann:=[(0,[2,3]),(1,[4]),(1000001,[0,2,1,3,4,5,6,7,8,9,10,11,12,13,14,15,16,17,18,19,20,21]),(5000001,[7])]
def Wk.body:DC:=.seq (qR Wk.r0 [2,3]) (.seq (.regD [0,2,1,3,4,5,6,7,8,9,10,11,12,13,14,15,16,17,18,19,20,21] Wk.r1 (some [4])) .ret)
def Wk.df:DF:=⟨26,[.tmp 4],Wk.body⟩
theorem Wk.ok:cf ZvJ Wk.an Wk.id=some Wk.df:=by kernel_rfl
def ZW.r0:=[ql 5 1,qk 6 .lenL 5,qi 7 0]
def ZW.r1:=[qd 8 .lss 7 6]
def ZW.r2:=[qm 9 7,qX 10 1 5 7,ql 11 10,qm 3 9,qm 4 11]
def ZW.r3:List DOp:=[ql 12 1,qm 13 3,⟨some 14,none,.q (.slice 1 false true false) [.tmp 12,.tmp 13]⟩,qm 15 4,qf 16 193 [.tmp 14,.tmp 15],qk 17 .not 16,qm 18 17,qy 18 (qm 19 0),qy 18 (qm 20 4),qy 18 ⟨some 21,none,.call (.tmp 19) [.tmp 20]⟩,qy 18 (qk 22 .not 21),qO 23 18 22]
def ZW.r4:=[qe 24 .add 7 1,qm 7 24]
def ZW.l0:DC:=.seq (qR ZW.r1 [0,1,5,6,7,8]) (.seq (qC 8 .skip (.exit 0)) (.seq (.block 1 (.seq (qR ZW.r2 [0,1,3,4,5,6,7]) (.seq (qR ZW.r3 [0,1,5,6,7,23]) (qC 23 .ret .skip)))) (qR ZW.r4 [0,1,5,6,7])))
abbrev ZW.id:Nat:=192
def ZW.an:Ann:=[(0,[0,1,5,6,7]),(1,[0,1,5,6,7,8]),(2,[0,1,3,4,5,6,7]),(3,[0,1,5,6,7,23]),(4,[0,1,5,6,7])]
def ZW.body:DC:=.seq (qR ZW.r0 [0,1,5,6,7]) (.block 0 (.loop ZW.l0))
def ZW.df:DF:=⟨25,[],ZW.body⟩
theorem ZW.ok:cf ZvJ ZW.an ZW.id=some ZW.df:=by kernel_rfl
def Yn.r0:=[qb 4 false]
def Yn.r1:=[qm 5 0,qm 6 1,qf 7 267 [.tmp 5,.tmp 6],qe 8 .geq 7 0,qm 4 8]
abbrev Yn.id:Nat:=193
def Yn.an:Ann:=[(0,[0,1]),(1,[4])]
def Yn.body:DC:=.seq (qR Yn.r0 [0,1]) (.seq (qR Yn.r1 [4]) .ret)
def Yn.df:DF:=⟨9,[.tmp 4],Yn.body⟩
theorem Yn.ok:cf ZvJ Yn.an Yn.id=some Yn.df:=by kernel_rfl
def Zs.r0:=[qi 4 0]
def Zs.r1:=[qm 6 0,qk 7 .lenL 6,qi 8 0]
def Zs.r2:=[qd 9 .lss 8 7]
def Zs.r3:=[qm 10 8,qm 5 10]
def Zs.r4:List DOp:=[qm 11 1,qm 12 0,qm 13 5,qX 14 2 12 13,qL 15 2 14,⟨some 16,none,.call (.tmp 11) [.tmp 15]⟩]
def Zs.r5:=[qm 17 5,qm 4 17]
def Zs.r6:=[qe 18 .add 8 1,qm 8 18]
def Zs.l0:DC:=.seq (qR Zs.r2 [0,1,7,8,9]) (.seq (qC 9 .skip (.exit 0)) (.seq (.block 1 (.seq (qR Zs.r3 [0,1,5,7,8]) (.seq (qR Zs.r4 [0,1,5,7,8,16]) (qC 16 (.seq (qR Zs.r5 [4]) .ret) .skip)))) (qR Zs.r6 [0,1,7,8])))
def Zs.r7:=[qi 4 (-1)]
abbrev Zs.id:Nat:=236
def Zs.an:Ann:=[(0,[0,1]),(1,[0,1,7,8]),(2,[0,1,7,8,9]),(3,[0,1,5,7,8]),(4,[0,1,5,7,8,16]),(5,[4]),(6,[0,1,7,8]),(7,[4])]
def Zs.body:DC:=.seq (qR Zs.r0 [0,1]) (.seq (.seq (qR Zs.r1 [0,1,7,8]) (.block 0 (.loop Zs.l0))) (.seq (qR Zs.r7 [4]) .ret))
def Zs.df:DF:=⟨19,[.tmp 4],Zs.body⟩
theorem Zs.ok:cf ZvJ Zs.an Zs.id=some Zs.df:=by kernel_rfl
def W0.r0:List DOp:=[qm 2 0,qm 3 0,qm 4 0,qm 5 0,qk 6 .nilck 2,qa 7 2 6,⟨none,none,.store1 (.tmp 7) (.cst (.int .i64 0))⟩,qk 8 .nilck 3,qa 9 3 8,⟨none,none,.store1 (.tmp 9) (.cst (.bool false))⟩,qk 10 .nilck 4,qa 11 5 10,⟨none,none,.store1 (.tmp 11) (.cst (.int .i64 0))⟩,qk 12 .nilck 5,qa 13 6 12,⟨none,none,.store1 (.tmp 13) (.cst (.int .i64 0))⟩]
abbrev W0.id:Nat:=237
def W0.an:Ann:=[(0,[])]
def W0.body:DC:=qR W0.r0 []
def W0.df:DF:=⟨14,[],W0.body⟩
theorem W0.ok:cf ZvJ W0.an W0.id=some W0.df:=by kernel_rfl
def Y3.r0:=[qB 3 1]
def Y3.r1:=[qm 4 0,qL 5 15 3,qf 6 239 [.tmp 4,.tmp 5]]
def Y3.r2:List DOp:=[qm 7 0,qa 8 2 3,ql 9 8,⟨some 10,none,.q (.bin .shl (none)) [.cst (.int .i64 1),.tmp 9]⟩,qe 11 .sub 10 1,qa 12 5 3,ql 13 12,qa 14 6 3,ql 15 14,⟨some 16,none,.bsl 2 1 [.int .i64 0] [0,1] [.tmp 13,.tmp 15]⟩,qf 17 240 [.tmp 7,.cst (.int .i64 0),.tmp 11,.tmp 16]]
abbrev Y3.id:Nat:=238
def Y3.an:Ann:=[(0,[0,3]),(1,[0,3]),(2,[]),(1000002,[0,1,2,3,4,5,6,7,8,9,10])]
def Y3.body:DC:=.seq (qR Y3.r0 [0,3]) (.seq (qR Y3.r1 [0,3]) (.regD [0,1,2,3,4,5,6,7,8,9,10] (JA Y3.r2) (some [])))
def Y3.df:DF:=⟨18,[],Y3.body⟩
theorem Y3.ok:cf ZvJ Y3.an Y3.id=some Y3.df:=by kernel_rfl
def YM.r0:=[qB 3 1]
def YM.r1:=[qm 4 0,qa 5 2 3,ql 6 5,qe 7 .geq 6 1,qm 8 7,qy 8 (qa 9 2 3),qy 8 (ql 10 9),qy 8 (qe 11 .leq 10 32),qO 12 8 11,qm 13 12,qy 13 (qa 14 3 3),qy 13 (ql 15 14),qy 13 (qk 16 .not 15),qy 13 (qm 17 16),qn 17 (qa 18 2 3),qn 17 (ql 19 18),qn 17 (qe 20 .gtr 19 8),qn 17 (qm 21 20),qy 21 (qa 22 2 3),qy 21 (ql 23 22),qy 21 (qe 24 .rem 23 8),qy 21 (qe 25 .eql 24 0),qn 17 (qO 26 21 25),qy 13 (qo 27 17 26),qO 28 13 27,qf 29 107 [.tmp 4,.tmp 28,.cst (.int .i64 6)]]
abbrev YM.id:Nat:=239
def YM.an:Ann:=[(0,[0,3]),(1,[])]
def YM.body:DC:=.seq (qR YM.r0 [0,3]) (qR YM.r1 [])
def YM.df:DF:=⟨30,[],YM.body⟩
theorem YM.ok:cf ZvJ YM.an YM.id=some YM.df:=by kernel_rfl
def Zz.r0:=[qm 10 3,qk 11 .lenL 10,qi 12 0]
def Zz.r1:=[qd 13 .lss 12 11]
def Zz.r2:=[qX 14 1 10 12,ql 15 14,qm 9 15]
def Zz.r3:=[qm 16 0,qm 17 9,qm 18 1,qd 19 .geq 17 18,qm 20 19,qy 20 (qm 21 9),qy 20 (qm 22 2),qy 20 (qd 23 .leq 21 22),qO 24 20 23,qf 25 107 [.tmp 16,.tmp 24,.cst (.int .i64 7)]]
def Zz.r4:=[qm 26 9,qm 1 26]
def Zz.r5:=[qe 27 .add 12 1,qm 12 27]
def Zz.l0:DC:=.seq (qR Zz.r1 [0,1,2,10,11,12,13]) (.seq (qC 13 .skip (.exit 0)) (.seq (.block 1 (.seq (qR Zz.r2 [0,1,2,9,10,11,12]) (.seq (qR Zz.r3 [0,2,9,10,11,12]) (qR Zz.r4 [0,1,2,10,11,12])))) (qR Zz.r5 [0,1,2,10,11,12])))
abbrev Zz.id:Nat:=240
def Zz.an:Ann:=[(0,[0,1,2,10,11,12]),(1,[0,1,2,10,11,12,13]),(2,[0,1,2,9,10,11,12]),(3,[0,2,9,10,11,12]),(4,[0,1,2,10,11,12]),(5,[0,1,2,10,11,12])]
def Zz.body:DC:=.seq (qR Zz.r0 [0,1,2,10,11,12]) (.block 0 (.loop Zz.l0))
def Zz.df:DF:=⟨28,[],Zz.body⟩
theorem Zz.ok:cf ZvJ Zz.an Zz.id=some Zz.df:=by kernel_rfl
def W1.r0:List DOp:=[qm 2 0,qm 3 0,qm 4 0,qk 5 .nilck 2,qa 6 2 5,⟨none,none,.store1 (.tmp 6) (.cst (.int .i64 0))⟩,qk 7 .nilck 3,qa 8 3 7,⟨none,none,.store1 (.tmp 8) (.cst (.bool false))⟩,qk 9 .nilck 4,qa 10 5 9,⟨none,none,.store1 (.tmp 10) (.cst (.int .i64 0))⟩]
abbrev W1.id:Nat:=241
def W1.an:Ann:=[(0,[])]
def W1.body:DC:=qR W1.r0 []
def W1.df:DF:=⟨11,[],W1.body⟩
theorem W1.ok:cf ZvJ W1.an W1.id=some W1.df:=by kernel_rfl
def Y4.r0:=[qB 3 1]
def Y4.r1:=[qm 4 0,qL 5 15 3,qf 6 239 [.tmp 4,.tmp 5]]
def Y4.r2:List DOp:=[qm 7 0,qa 8 2 3,ql 9 8,⟨some 10,none,.q (.bin .shl (none)) [.cst (.int .i64 1),.tmp 9]⟩,qe 11 .sub 10 1,qa 12 5 3,ql 13 12,⟨some 14,none,.bsl 1 1 [.int .i64 0] [0] [.tmp 13]⟩,qf 15 240 [.tmp 7,.cst (.int .i64 0),.tmp 11,.tmp 14]]
abbrev Y4.id:Nat:=242
def Y4.an:Ann:=[(0,[0,3]),(1,[0,3]),(2,[]),(1000002,[0,1,2,3,4,5,6,7,8])]
def Y4.body:DC:=.seq (qR Y4.r0 [0,3]) (.seq (qR Y4.r1 [0,3]) (.regD [0,1,2,3,4,5,6,7,8] (JA Y4.r2) (some [])))
def Y4.df:DF:=⟨16,[],Y4.body⟩
theorem Y4.ok:cf ZvJ Y4.an Y4.id=some Y4.df:=by kernel_rfl
def W2.r0:List DOp:=[qm 2 0,qm 3 0,qm 4 0,qk 5 .nilck 2,qa 6 4 5,⟨none,none,.store1 (.tmp 6) (.cst (.bool false))⟩,qk 7 .nilck 3,qa 8 5 7,⟨none,none,.store1 (.tmp 8) (.cst (.int .i64 0))⟩,qk 9 .nilck 4,qa 10 6 9,⟨none,none,.store1 (.tmp 10) (.cst (.int .i64 0))⟩]
abbrev W2.id:Nat:=243
def W2.an:Ann:=[(0,[])]
def W2.body:DC:=qR W2.r0 []
def W2.df:DF:=⟨11,[],W2.body⟩
theorem W2.ok:cf ZvJ W2.an W2.id=some W2.df:=by kernel_rfl
def Wt.r0:=[qB 3 1]
def Wt.r1:List DOp:=[qm 4 0,qa 5 5 3,ql 6 5,qa 7 6 3,ql 8 7,⟨some 9,none,.bsl 2 1 [.int .i64 0] [0,1] [.tmp 6,.tmp 8]⟩,qf 10 240 [.tmp 4,.cst (.int .i64 0),.cst (.int .i64 34359738367),.tmp 9]]
abbrev Wt.id:Nat:=244
def Wt.an:Ann:=[(0,[0,3]),(1,[])]
def Wt.body:DC:=.seq (qR Wt.r0 [0,3]) (qR Wt.r1 [])
def Wt.df:DF:=⟨11,[],Wt.body⟩
theorem Wt.ok:cf ZvJ Wt.an Wt.id=some Wt.df:=by kernel_rfl
def W3.r0:List DOp:=[qm 2 0,⟨some 3,none,.q (.build [.int .i64 0,.nilsl] []) []⟩,qk 4 .nilck 2,qa 5 7 4,qS 2 5 3]
abbrev W3.id:Nat:=245
def W3.an:Ann:=[(0,[])]
def W3.body:DC:=qR W3.r0 []
def W3.df:DF:=⟨6,[],W3.body⟩
theorem W3.ok:cf ZvJ W3.an W3.id=some W3.df:=by kernel_rfl
def Zm.r0:=[qB 2 0,qB 3 1]
def Zm.r1:List (DOp × List Nat):=[
 (⟨some 10,none,.q (.load1) [.tmp 2]⟩,[]),
 (⟨some 11,none,.q (.faddr 7) [.tmp 3]⟩,[]),
 (⟨some 12,none,.q (.loadN 2) [.tmp 11]⟩,[]),
 (⟨some 13,none,.call (.cst (.fn (.func 142) [] [])) [.tmp 12]⟩,[10]),
 (⟨some 14,none,.call (.cst (.fn (.func 107) [] [])) [.tmp 10,.tmp 13,.cst (.int .i64 9)]⟩,[])]
def Zm.r2:List DOp:=[ql 15 2,qf 16 189 [.tmp 15],qf 17 100 [.tmp 16],⟨some 4,none,.alloc [.nilmap]⟩,qs 4 17]
def Zm.r3:=[qa 18 7 3,qL 19 2 18,qf 20 143 [.tmp 19]]
def Zm.r4:=[qm 5 21]
def Zm.r5:List DOp:=[ql 23 4,qm 24 5,⟨some 25,none,.q (.lookup (.sc .str) (.agg [.int .i64 0,.int .i64 0]) true) [.tmp 23,.tmp 24]⟩,qm 22 25,qx 26 0 22,qx 27 1 22,⟨some 6,none,.alloc [.int .i64 0,.int .i64 0]⟩,qS 2 6 26,qm 7 27]
def Zm.r6:=[ql 28 2,qm 29 7,qf 30 107 [.tmp 28,.tmp 29,.cst (.int .i64 8)]]
def Zm.a0:DC:=qR Zm.r4 [2,3,4,5,21]
def Zm.b0:DC:=.block 1 (.seq (qR Zm.r5 [2,3,4,7,21]) (qR Zm.r6 [2,3,4,21]))
def Zm.r7:List DOp:=[qa 32 7 3,qL 33 2 32,ql 34 4,qf 35 68 [.tmp 33,.tmp 34],qm 31 35,qx 36 0 31,qx 37 1 31,⟨some 8,none,.alloc [.int .i64 0,.int .i64 0]⟩,qS 2 8 36,qm 9 37]
def Zm.r8:=[ql 38 2,qm 39 9,qe 40 .eql 39 0,qm 41 40,qy 41 (qa 42 0 8),qy 41 (ql 43 42),qy 41 (qe 44 .geq 43 0),qO 45 41 44,qm 46 45,qy 46 (qa 47 1 8),qy 46 (ql 48 47),qy 46 (qe 49 .leq 48 1048576),qO 50 46 49,qf 51 107 [.tmp 38,.tmp 50,.cst (.int .i64 9)]]
abbrev Zm.id:Nat:=246
def Zm.an:Ann:=[(0,[2,3,21]),(1,[2,3,21]),(2,[2,3,4,21]),(3,[2,3,4,20,21]),(4,[2,3,4,5,21]),(5,[2,3,4,7,21]),(6,[2,3,4,21]),(7,[2,8,9]),(8,[]),(1000001,[0,1,2,3,4]),(7000001,[10])]
def Zm.body:DC:=.seq (qR Zm.r0 [2,3,21]) (.seq (.regD [0,1,2,3,4] Zm.r1 (some [2,3,21])) (.seq (qR Zm.r2 [2,3,4,21]) (.seq (.seq (qR Zm.r3 [2,3,4,20,21]) (.block 0 (.rangeF (.tmp 20) [21] Zm.a0 Zm.b0))) (.seq (qR Zm.r7 [2,8,9]) (qR Zm.r8 [])))))
def Zm.df:DF:=⟨52,[],Zm.body⟩
theorem Zm.ok:cf ZvJ Zm.an Zm.id=some Zm.df:=by kernel_rfl
def W4.r0:List DOp:=[qm 2 0,qm 3 0,qk 4 .nilck 2,qa 5 5 4,⟨none,none,.store1 (.tmp 5) (.cst (.int .i64 0))⟩,qk 6 .nilck 3,qa 7 6 6,⟨none,none,.store1 (.tmp 7) (.cst (.int .i64 0))⟩]
abbrev W4.id:Nat:=247
def W4.an:Ann:=[(0,[])]
def W4.body:DC:=qR W4.r0 []
def W4.df:DF:=⟨8,[],W4.body⟩
theorem W4.ok:cf ZvJ W4.an W4.id=some W4.df:=by kernel_rfl
def Y5.r0:=[qB 3 1]
def Y5.r1:List DOp:=[qm 4 0,qa 5 5 3,ql 6 5,⟨some 7,none,.bsl 1 1 [.int .i64 0] [0] [.tmp 6]⟩,qf 8 240 [.tmp 4,.cst (.int .i64 0),.cst (.int .i64 255),.tmp 7]]
def Y5.r2:List DOp:=[qm 9 0,qa 10 6 3,ql 11 10,⟨some 12,none,.bsl 1 1 [.int .i64 0] [0] [.tmp 11]⟩,qf 13 240 [.tmp 9,.cst (.int .i64 0),.cst (.int .i64 1048576),.tmp 12]]
abbrev Y5.id:Nat:=248
def Y5.an:Ann:=[(0,[0,3]),(1,[0,3]),(2,[])]
def Y5.body:DC:=.seq (qR Y5.r0 [0,3]) (.seq (qR Y5.r1 [0,3]) (qR Y5.r2 []))
def Y5.df:DF:=⟨14,[],Y5.body⟩
theorem Y5.ok:cf ZvJ Y5.an Y5.id=some Y5.df:=by kernel_rfl
def WC.r0:List DOp:=[qm 2 0,qm 3 0,qk 4 .nilck 2,qa 5 4 4,⟨none,none,.store1 (.tmp 5) (.cst (.bool false))⟩,qk 6 .nilck 3,qa 7 6 6,⟨none,none,.store1 (.tmp 7) (.cst (.int .i64 0))⟩]
abbrev WC.id:Nat:=249
def WC.an:Ann:=[(0,[])]
def WC.body:DC:=qR WC.r0 []
def WC.df:DF:=⟨8,[],WC.body⟩
theorem WC.ok:cf ZvJ WC.an WC.id=some WC.df:=by kernel_rfl
def Wh.r0:=[qB 3 1]
def Wh.r1:List DOp:=[qm 4 0,qa 5 6 3,ql 6 5,⟨some 7,none,.bsl 1 1 [.int .i64 0] [0] [.tmp 6]⟩,qf 8 240 [.tmp 4,.cst (.int .i64 2),.cst (.int .i64 1048576),.tmp 7]]
abbrev Wh.id:Nat:=250
def Wh.an:Ann:=[(0,[0,3]),(1,[])]
def Wh.body:DC:=.seq (qR Wh.r0 [0,3]) (qR Wh.r1 [])
def Wh.df:DF:=⟨9,[],Wh.body⟩
theorem Wh.ok:cf ZvJ Wh.an Wh.id=some Wh.df:=by kernel_rfl
def WD.r0:List DOp:=[qm 2 0,qm 3 0,⟨some 4,none,.q (.build [.int .i64 0,.nilsl] []) []⟩,qk 5 .nilck 2,qa 6 9 5,⟨none,none,.store1 (.tmp 6) (.cst (.str []))⟩,qk 7 .nilck 3,qa 8 7 7,qS 2 8 4]
abbrev WD.id:Nat:=251
def WD.an:Ann:=[(0,[])]
def WD.body:DC:=qR WD.r0 []
def WD.df:DF:=⟨9,[],WD.body⟩
theorem WD.ok:cf ZvJ WD.an WD.id=some WD.df:=by kernel_rfl
def YW.r0:=[qB 3 1]
def YW.r1:=[qm 4 0,qa 5 9 3,ql 6 5,qf 7 253 [.tmp 4,.tmp 6]]
def YW.r2:=[qm 8 0,qL 9 15 3,qf 10 246 [.tmp 8,.tmp 9]]
abbrev YW.id:Nat:=252
def YW.an:Ann:=[(0,[0,3]),(1,[0,3]),(2,[])]
def YW.body:DC:=.seq (qR YW.r0 [0,3]) (.seq (qR YW.r1 [0,3]) (qR YW.r2 []))
def YW.df:DF:=⟨11,[],YW.body⟩
theorem YW.ok:cf ZvJ YW.an YW.id=some YW.df:=by kernel_rfl
def Yx.r0:List DOp:=[qm 7 0,qk 8 .nilck 7,qa 9 3 8,ql 10 9,qm 11 1,⟨some 12,none,.q (.lookup (.sc .str) (.int .i64 0) true) [.tmp 10,.tmp 11]⟩,qm 6 12,qx 13 0 6,qx 14 1 6,qm 4 13,qm 5 14]
def Yx.r1:=[qm 15 0,qm 16 5,qf 17 107 [.tmp 15,.tmp 16,.cst (.int .i64 8)]]
abbrev Yx.id:Nat:=253
def Yx.an:Ann:=[(0,[0,5]),(1,[])]
def Yx.body:DC:=.seq (qR Yx.r0 [0,5]) (qR Yx.r1 [])
def Yx.df:DF:=⟨18,[],Yx.body⟩
theorem Yx.ok:cf ZvJ Yx.an Yx.id=some Yx.df:=by kernel_rfl
def WE.r0:List DOp:=[qm 2 0,qk 3 .nilck 2,qa 4 9 3,⟨none,none,.store1 (.tmp 4) (.cst (.str []))⟩]
abbrev WE.id:Nat:=254
def WE.an:Ann:=[(0,[])]
def WE.body:DC:=qR WE.r0 []
def WE.df:DF:=⟨5,[],WE.body⟩
theorem WE.ok:cf ZvJ WE.an WE.id=some WE.df:=by kernel_rfl
def Wi.r0:=[qB 3 1]
def Wi.r1:=[qm 4 0,qa 5 9 3,ql 6 5,qf 7 253 [.tmp 4,.tmp 6]]
abbrev Wi.id:Nat:=255
def Wi.an:Ann:=[(0,[0,3]),(1,[])]
def Wi.body:DC:=.seq (qR Wi.r0 [0,3]) (qR Wi.r1 [])
def Wi.df:DF:=⟨8,[],Wi.body⟩
theorem Wi.ok:cf ZvJ Wi.an Wi.id=some Wi.df:=by kernel_rfl
def WF.r0:List DOp:=[qm 2 0,qm 3 0,qk 4 .nilck 2,qa 5 10 4,⟨none,none,.store1 (.tmp 5) (.cst (.str []))⟩,qk 6 .nilck 3,qa 7 12 6,⟨none,none,.store1 (.tmp 7) (.cst (.nilsl))⟩]
abbrev WF.id:Nat:=256
def WF.an:Ann:=[(0,[])]
def WF.body:DC:=qR WF.r0 []
def WF.df:DF:=⟨8,[],WF.body⟩
theorem WF.ok:cf ZvJ WF.an WF.id=some WF.df:=by kernel_rfl
end Go.DL
namespace Go.DL
open Go Go.Proofs
def Zg.r0:=[qB 3 1]
def Zg.r1:List (DOp × List Nat):=[
 (⟨some 11,none,.q .mv [.tmp 0]⟩,[]),
 (⟨some 14,none,.q (.faddr 10) [.tmp 3]⟩,[]),
 (⟨some 15,none,.q (.load1) [.tmp 14]⟩,[]),
 (⟨some 4,none,.alloc [.int .i64 0,.int .i64 0]⟩,[]),
 (⟨some 12,none,.call (.cst (.fn (.func 189) [] [])) [.tmp 11]⟩,[15]),
 (⟨some 13,none,.call (.cst (.fn (.func 100) [] [])) [.tmp 12]⟩,[15]),
 (⟨some 16,none,.q (.lookup (.sc .str) (.agg [.int .i64 0,.int .i64 0]) true) [.tmp 13,.tmp 15]⟩,[]),
 (⟨some 10,none,.q .mv [.tmp 16]⟩,[]),
 (⟨some 17,none,.q (.ext 0) [.tmp 10]⟩,[]),
 (⟨some 18,none,.q (.ext 1) [.tmp 10]⟩,[]),
 (⟨none,none,.storeN 2 (.tmp 4) (.tmp 17)⟩,[]),
 (⟨some 5,none,.q .mv [.tmp 18]⟩,[])]
def Zg.r2:List DOp:=[qm 19 0,qf 20 189 [.tmp 19],⟨some 21,none,.q (.mkfn (.func 300) 0) [.tmp 3]⟩,qf 22 299 [.tmp 20,.tmp 21],qm 6 22]
def Zg.r3:=[qm 23 0,qm 24 5,qm 25 24,qy 25 (qm 26 6),qy 25 (qk 27 .not 26),qO 28 25 27,qf 29 107 [.tmp 23,.tmp 28,.cst (.int .i64 8)]]
def Zg.r4:=[qm 30 0,qa 31 12 3,ql 32 31,qk 33 .lenL 32,qe 34 .geq 33 1,qm 35 34,qy 35 (qa 36 12 3),qy 35 (ql 37 36),qy 35 (qk 38 .lenL 37),qy 35 (qe 39 .leq 38 40),qO 40 35 39,qf 41 107 [.tmp 30,.tmp 40,.cst (.int .i64 3)]]
def Zg.r5:=[qa 42 0 4,ql 43 42,qm 7 43]
def Zg.r6:=[qa 44 12 3,ql 45 44,qk 46 .lenL 45,qi 47 0]
def Zg.r7:=[qd 48 .lss 47 46]
def Zg.r8:List DOp:=[qX 49 3 45 47,qL 50 3 49,⟨some 9,none,.alloc [.int .i64 0,.int .i64 0,.str []]⟩,qS 3 9 50]
def Zg.r9:List DOp:=[qm 51 0,qm 52 7,qa 53 1 4,ql 54 53,qa 55 0 9,ql 56 55,qa 57 1 9,ql 58 57,⟨some 59,none,.bsl 2 1 [.int .i64 0] [0,1] [.tmp 56,.tmp 58]⟩,qf 60 240 [.tmp 51,.tmp 52,.tmp 54,.tmp 59]]
def Zg.r10:=[qm 61 0,qa 62 2 9,ql 63 62,qf 64 253 [.tmp 61,.tmp 63]]
def Zg.r11:=[qa 65 1 9,ql 66 65,qe 67 .add 66 1,qm 7 67]
def Zg.r12:=[qe 68 .add 47 1,qm 47 68]
def Zg.l0:DC:=.seq (qR Zg.r7 [0,4,7,45,46,47,48]) (.seq (qC 48 .skip (.exit 0)) (.seq (.block 1 (.seq (qR Zg.r8 [0,4,7,9,45,46,47]) (.seq (qR Zg.r9 [0,4,9,45,46,47]) (.seq (qR Zg.r10 [0,4,9,45,46,47]) (qR Zg.r11 [0,4,7,45,46,47]))))) (qR Zg.r12 [0,4,7,45,46,47])))
abbrev Zg.id:Nat:=257
def Zg.an:Ann:=[(0,[0,3]),(1,[0,3,4,5]),(2,[0,3,4,5,6]),(3,[0,3,4]),(4,[0,3,4]),(5,[0,3,4,7]),(6,[0,4,7,45,46,47]),(7,[0,4,7,45,46,47,48]),(8,[0,4,7,9,45,46,47]),(9,[0,4,9,45,46,47]),(10,[0,4,9,45,46,47]),(11,[0,4,7,45,46,47]),(12,[0,4,7,45,46,47]),(1000001,[0,3,4,9,1,2,5,6,7,8,10,11]),(5000001,[15]),(6000001,[15])]
def Zg.body:DC:=.seq (qR Zg.r0 [0,3]) (.seq (.regD [0,3,4,9,1,2,5,6,7,8,10,11] Zg.r1 (some [0,3,4,5])) (.seq (qR Zg.r2 [0,3,4,5,6]) (.seq (qR Zg.r3 [0,3,4]) (.seq (qR Zg.r4 [0,3,4]) (.seq (qR Zg.r5 [0,3,4,7]) (.seq (qR Zg.r6 [0,4,7,45,46,47]) (.block 0 (.loop Zg.l0))))))))
def Zg.df:DF:=⟨69,[],Zg.body⟩
theorem Zg.ok:cf ZvJ Zg.an Zg.id=some Zg.df:=by kernel_rfl
def WG.r0:List DOp:=[qm 2 0,qk 3 .nilck 2,qa 4 2 3,⟨none,none,.store1 (.tmp 4) (.cst (.int .i64 0))⟩]
abbrev WG.id:Nat:=258
def WG.an:Ann:=[(0,[])]
def WG.body:DC:=qR WG.r0 []
def WG.df:DF:=⟨5,[],WG.body⟩
theorem WG.ok:cf ZvJ WG.an WG.id=some WG.df:=by kernel_rfl
def Wj.r0:=[qB 3 1]
def Wj.r1:=[qm 4 0,qa 5 2 3,ql 6 5,qe 7 .eql 6 2,qm 8 7,qn 8 (qa 9 2 3),qn 8 (ql 10 9),qn 8 (qe 11 .eql 10 4),qo 12 8 11,qm 13 12,qn 13 (qa 14 2 3),qn 13 (ql 15 14),qn 13 (qe 16 .geq 15 8),qn 13 (qm 17 16),qy 17 (qa 18 2 3),qy 17 (ql 19 18),qy 17 (qe 20 .leq 19 512),qn 13 (qO 21 17 20),qn 13 (qm 22 21),qy 22 (qa 23 2 3),qy 22 (ql 24 23),qy 22 (qe 25 .rem 24 8),qy 22 (qe 26 .eql 25 0),qn 13 (qO 27 22 26),qo 28 13 27,qf 29 107 [.tmp 4,.tmp 28,.cst (.int .i64 6)]]
abbrev Wj.id:Nat:=259
def Wj.an:Ann:=[(0,[0,3]),(1,[])]
def Wj.body:DC:=.seq (qR Wj.r0 [0,3]) (qR Wj.r1 [])
def Wj.df:DF:=⟨30,[],Wj.body⟩
theorem Wj.ok:cf ZvJ Wj.an Wj.id=some Wj.df:=by kernel_rfl
def WH.r0:List DOp:=[qm 2 0,qm 3 0,qk 4 .nilck 2,qa 5 11 4,⟨none,none,.store1 (.tmp 5) (.cst (.str []))⟩,qk 6 .nilck 3,qa 7 13 6,⟨none,none,.store1 (.tmp 7) (.cst (.int .i64 0))⟩]
abbrev WH.id:Nat:=260
def WH.an:Ann:=[(0,[])]
def WH.body:DC:=qR WH.r0 []
def WH.df:DF:=⟨8,[],WH.body⟩
theorem WH.ok:cf ZvJ WH.an WH.id=some WH.df:=by kernel_rfl
def YG.r0:=[qB 3 1]
def YG.r1:List DOp:=[qm 6 0,qa 7 13 3,ql 8 7,⟨some 9,none,.bsl 1 1 [.int .i64 0] [0] [.tmp 8]⟩,qf 10 240 [.tmp 6,.cst (.int .i64 1),.cst (.int .i64 3),.tmp 9]]
def YG.r2:List (DOp × List Nat):=[
 (⟨some 12,none,.q .mv [.tmp 0]⟩,[]),
 (⟨some 15,none,.q (.faddr 11) [.tmp 3]⟩,[]),
 (⟨some 16,none,.q (.load1) [.tmp 15]⟩,[]),
 (⟨some 13,none,.call (.cst (.fn (.func 189) [] [])) [.tmp 12]⟩,[16]),
 (⟨some 14,none,.q (.build [.str [],.nilsl] [(1,1)]) [.tmp 13]⟩,[]),
 (⟨some 17,none,.call (.cst (.fn (.func 15) [] [])) [.tmp 14,.tmp 16]⟩,[]),
 (⟨some 11,none,.q .mv [.tmp 17]⟩,[]),
 (⟨some 18,none,.q (.ext 0) [.tmp 11]⟩,[]),
 (⟨some 19,none,.q (.ext 1) [.tmp 11]⟩,[]),
 (⟨some 4,none,.q .mv [.tmp 18]⟩,[]),
 (⟨some 5,none,.q .mv [.tmp 19]⟩,[])]
def YG.r3:=[qm 20 0,qm 21 5,qf 22 107 [.tmp 20,.tmp 21,.cst (.int .i64 8)]]
abbrev YG.id:Nat:=261
def YG.an:Ann:=[(0,[0,3]),(1,[0,3]),(2,[0,5]),(3,[]),(1000002,[0,3,4,1,2,5,6,7,8,9,10]),(5000002,[16])]
def YG.body:DC:=.seq (qR YG.r0 [0,3]) (.seq (qR YG.r1 [0,3]) (.seq (.regD [0,3,4,1,2,5,6,7,8,9,10] YG.r2 (some [0,5])) (qR YG.r3 [])))
def YG.df:DF:=⟨23,[],YG.body⟩
theorem YG.ok:cf ZvJ YG.an YG.id=some YG.df:=by kernel_rfl
def WI.r0:List DOp:=[qm 2 0,qm 3 0,qm 4 0,⟨some 5,none,.q (.build [.int .i64 0,.nilsl] []) []⟩,qk 6 .nilck 2,qa 7 9 6,⟨none,none,.store1 (.tmp 7) (.cst (.str []))⟩,qk 8 .nilck 3,qa 9 7 8,qS 2 9 5,qk 10 .nilck 4,qa 11 14 10,⟨none,none,.store1 (.tmp 11) (.cst (.int .i64 0))⟩]
abbrev WI.id:Nat:=262
def WI.an:Ann:=[(0,[])]
def WI.body:DC:=qR WI.r0 []
def WI.df:DF:=⟨12,[],WI.body⟩
theorem WI.ok:cf ZvJ WI.an WI.id=some WI.df:=by kernel_rfl
def Yz.r0:=[qB 3 1]
def Yz.r1:List DOp:=[qm 4 0,qa 5 14 3,ql 6 5,⟨some 7,none,.bsl 1 1 [.int .i64 0] [0] [.tmp 6]⟩,qf 8 240 [.tmp 4,.cst (.int .i64 0),.cst (.int .i64 4294967295),.tmp 7]]
def Yz.r2:List DOp:=[qm 9 0,qm 10 0,qk 11 .nilck 10,qa 12 4 11,ql 13 12,qa 14 9 3,ql 15 14,⟨some 16,none,.q (.lookup (.sc .str) (.bool false) false) [.tmp 13,.tmp 15]⟩,qf 17 107 [.tmp 9,.tmp 16,.cst (.int .i64 8)]]
def Yz.r3:=[qm 18 0,qL 19 15 3,qf 20 246 [.tmp 18,.tmp 19]]
abbrev Yz.id:Nat:=263
def Yz.an:Ann:=[(0,[0,3]),(1,[0,3]),(2,[0,3]),(3,[]),(1000002,[0,1,2,3,4,5,6,7,8])]
def Yz.body:DC:=.seq (qR Yz.r0 [0,3]) (.seq (qR Yz.r1 [0,3]) (.seq (.regD [0,1,2,3,4,5,6,7,8] (JA Yz.r2) (some [0,3])) (qR Yz.r3 [])))
def Yz.df:DF:=⟨21,[],Yz.body⟩
theorem Yz.ok:cf ZvJ Yz.an Yz.id=some Yz.df:=by kernel_rfl
def Kq.r0:List DOp:=[qB 1 0,⟨some 2,none,.alloc [.str [],.str [],.str [],.str [],.int .i64 0,.int .i64 0,.int .i64 0,.int .i64 0,.int .i64 0,.int .i64 0,.int .i64 0,.bool false,.bool false]⟩]
def Kq.r1:List DOp:=[qa 3 0 1,ql 4 3,qa 5 9 1,ql 6 5,qa 7 10 1,ql 8 7,qa 9 11 1,ql 10 9,qa 11 1 1,ql 12 11,qa 13 2 1,ql 14 13,qa 15 5 1,ql 16 15,qa 17 6 1,ql 18 17,qa 19 7 1,qa 20 0 19,ql 21 20,qa 22 13 1,ql 23 22,qa 24 14 1,ql 25 24,qa 26 3 1,ql 27 26,qa 28 4 1,ql 29 28,⟨some 30,none,.q (.build [.str [],.str [],.str [],.str [],.int .i64 0,.int .i64 0,.int .i64 0,.int .i64 0,.int .i64 0,.int .i64 0,.int .i64 0,.bool false,.bool false] [(0,1),(1,1),(2,1),(3,1),(4,1),(5,1),(6,1),(7,1),(8,1),(9,1),(10,1),(11,1),(12,1)]) [.tmp 4,.tmp 6,.tmp 8,.tmp 10,.tmp 12,.tmp 14,.tmp 16,.tmp 18,.tmp 21,.tmp 23,.tmp 25,.tmp 27,.tmp 29]⟩,qS 13 2 30]
abbrev Kq.id:Nat:=264
def Kq.an:Ann:=[(0,[1,2]),(1,[2])]
def Kq.body:DC:=.seq (qR Kq.r0 [1,2]) (.seq (qR Kq.r1 [2]) .ret)
def Kq.df:DF:=⟨31,[.cellN 2 13],Kq.body⟩
theorem Kq.ok:cf ZvJ Kq.an Kq.id=some Kq.df:=by kernel_rfl
def Zy.r0:=[qb 4 false]
def Zy.r1:=[qm 6 0,qk 7 .lenL 6,qm 8 1,qk 9 .lenL 8,qd 10 .neq 7 9]
def Zy.r2:=[qb 4 false]
def Zy.r3:=[qm 11 0,qk 12 .lenL 11,qi 13 0]
def Zy.r4:=[qd 14 .lss 13 12]
def Zy.r5:=[qm 15 13,qm 5 15]
def Zy.r6:List DOp:=[qm 16 0,qm 17 5,qX 18 2 16 17,qL 19 2 18,qm 20 1,qm 21 5,qX 22 2 20 21,qL 23 2 22,⟨some 24,none,.q (.bin .neq (some (.cells [(0,.str),(1,.int)]))) [.tmp 19,.tmp 23]⟩]
def Zy.r7:=[qb 4 false]
def Zy.r8:=[qe 25 .add 13 1,qm 13 25]
def Zy.l0:DC:=.seq (qR Zy.r4 [0,1,12,13,14]) (.seq (qC 14 .skip (.exit 0)) (.seq (.block 1 (.seq (qR Zy.r5 [0,1,5,12,13]) (.seq (.regD [0,1,2,3,4,5,6,7,8] (JA Zy.r6) (some [0,1,12,13,24])) (qC 24 (.seq (qR Zy.r7 [4]) .ret) .skip)))) (qR Zy.r8 [0,1,12,13])))
def Zy.r9:=[qb 4 true]
abbrev Zy.id:Nat:=265
def Zy.an:Ann:=[(0,[0,1]),(1,[0,1,10]),(2,[4]),(3,[0,1,12,13]),(4,[0,1,12,13,14]),(5,[0,1,5,12,13]),(6,[0,1,12,13,24]),(7,[4]),(8,[0,1,12,13]),(9,[4]),(1000006,[0,1,2,3,4,5,6,7,8])]
def Zy.body:DC:=.seq (qR Zy.r0 [0,1]) (.seq (.seq (qR Zy.r1 [0,1,10]) (qC 10 (.seq (qR Zy.r2 [4]) .ret) .skip)) (.seq (.seq (qR Zy.r3 [0,1,12,13]) (.block 0 (.loop Zy.l0))) (.seq (qR Zy.r9 [4]) .ret)))
def Zy.df:DF:=⟨26,[.tmp 4],Zy.body⟩
theorem Zy.ok:cf ZvJ Zy.an Zy.id=some Zy.df:=by kernel_rfl
def Zx.r0:=[qb 4 false]
def Zx.r1:=[qm 6 0,qk 7 .lenL 6,qm 8 1,qk 9 .lenL 8,qd 10 .neq 7 9]
def Zx.r2:=[qb 4 false]
def Zx.r3:=[qm 11 0,qk 12 .lenL 11,qi 13 0]
def Zx.r4:=[qd 14 .lss 13 12]
def Zx.r5:=[qm 15 13,qm 5 15]
def Zx.r6:List DOp:=[qm 16 0,qm 17 5,qX 18 3 16 17,qL 19 3 18,qm 20 1,qm 21 5,qX 22 3 20 21,qL 23 3 22,⟨some 24,none,.q (.bin .neq (some (.cells [(0,.int),(1,.int),(2,.str)]))) [.tmp 19,.tmp 23]⟩]
def Zx.r7:=[qb 4 false]
def Zx.r8:=[qe 25 .add 13 1,qm 13 25]
def Zx.l0:DC:=.seq (qR Zx.r4 [0,1,12,13,14]) (.seq (qC 14 .skip (.exit 0)) (.seq (.block 1 (.seq (qR Zx.r5 [0,1,5,12,13]) (.seq (.regD [0,1,2,3,4,5,6,7,8] (JA Zx.r6) (some [0,1,12,13,24])) (qC 24 (.seq (qR Zx.r7 [4]) .ret) .skip)))) (qR Zx.r8 [0,1,12,13])))
def Zx.r9:=[qb 4 true]
abbrev Zx.id:Nat:=266
def Zx.an:Ann:=[(0,[0,1]),(1,[0,1,10]),(2,[4]),(3,[0,1,12,13]),(4,[0,1,12,13,14]),(5,[0,1,5,12,13]),(6,[0,1,12,13,24]),(7,[4]),(8,[0,1,12,13]),(9,[4]),(1000006,[0,1,2,3,4,5,6,7,8])]
def Zx.body:DC:=.seq (qR Zx.r0 [0,1]) (.seq (.seq (qR Zx.r1 [0,1,10]) (qC 10 (.seq (qR Zx.r2 [4]) .ret) .skip)) (.seq (.seq (qR Zx.r3 [0,1,12,13]) (.block 0 (.loop Zx.l0))) (.seq (qR Zx.r9 [4]) .ret)))
def Zx.df:DF:=⟨26,[.tmp 4],Zx.body⟩
theorem Zx.ok:cf ZvJ Zx.an Zx.id=some Zx.df:=by kernel_rfl
def ZA.r0:=[qi 4 0]
def ZA.r1:=[qm 6 0,qk 7 .lenL 6,qi 8 0]
def ZA.r2:=[qd 9 .lss 8 7]
def ZA.r3:=[qm 10 8,qm 5 10]
def ZA.r4:=[qm 11 1,qm 12 0,qm 13 5,qX 14 1 12 13,ql 15 14,qd 16 .eql 11 15]
def ZA.r5:=[qm 17 5,qm 4 17]
def ZA.r6:=[qe 18 .add 8 1,qm 8 18]
def ZA.l0:DC:=.seq (qR ZA.r2 [0,1,7,8,9]) (.seq (qC 9 .skip (.exit 0)) (.seq (.block 1 (.seq (qR ZA.r3 [0,1,5,7,8]) (.seq (qR ZA.r4 [0,1,5,7,8,16]) (qC 16 (.seq (qR ZA.r5 [4]) .ret) .skip)))) (qR ZA.r6 [0,1,7,8])))
def ZA.r7:=[qi 4 (-1)]
abbrev ZA.id:Nat:=267
def ZA.an:Ann:=[(0,[0,1]),(1,[0,1,7,8]),(2,[0,1,7,8,9]),(3,[0,1,5,7,8]),(4,[0,1,5,7,8,16]),(5,[4]),(6,[0,1,7,8]),(7,[4])]
def ZA.body:DC:=.seq (qR ZA.r0 [0,1]) (.seq (.seq (qR ZA.r1 [0,1,7,8]) (.block 0 (.loop ZA.l0))) (.seq (qR ZA.r7 [4]) .ret))
def ZA.df:DF:=⟨19,[.tmp 4],ZA.body⟩
theorem ZA.ok:cf ZvJ ZA.an ZA.id=some ZA.df:=by kernel_rfl
def Yf.r0:=[qb 4 false]
def Yf.r1:=[qm 5 0,qm 6 1,qf 7 51 [.tmp 5,.tmp 6],qe 8 .geq 7 0,qm 4 8]
abbrev Yf.id:Nat:=299
def Yf.an:Ann:=[(0,[0,1]),(1,[4])]
def Yf.body:DC:=.seq (qR Yf.r0 [0,1]) (.seq (qR Yf.r1 [4]) .ret)
def Yf.df:DF:=⟨9,[.tmp 4],Yf.body⟩
theorem Yf.ok:cf ZvJ Yf.an Yf.id=some Yf.df:=by kernel_rfl
def Yl.r0:=[qB 2 0,qb 3 false]
def Yl.r1:=[qa 4 1 2,ql 5 4,qe 6 .eql 5 9,qm 7 6,qy 7 (qa 8 10 2),qy 7 (ql 9 8),qy 7 (qa 10 10 1),qy 7 (ql 11 10),qy 7 (qd 12 .eql 9 11),qO 13 7 12,qm 3 13]
abbrev Yl.id:Nat:=300
def Yl.an:Ann:=[(0,[1,2]),(1,[3])]
def Yl.body:DC:=.seq (qR Yl.r0 [1,2]) (.seq (qR Yl.r1 [3]) .ret)
def Yl.df:DF:=⟨14,[.tmp 3],Yl.body⟩
theorem Yl.ok:cf ZvJ Yl.an Yl.id=some Yl.df:=by kernel_rfl
end Go.DL
namespace Go.DL
open Go
variable [Znt]
inductive LeC:List D→List D→Prop where
 | nil:LeC [] []
 | cons {d d':D} {l l':List D} (h:d.Le d') (t:LeC l l'):LeC (d :: l) (d' :: l')
theorem LeC.refl (l:List D):LeC l l:=by
 induction l with
 | nil=>exact .nil
 | cons d l ih=>exact .cons (ZvM d) ih
theorem LeC.len {l l':List D} (h:LeC l l'):l.length=l'.length:=by
 induction h with
 | nil=>rfl
 | cons _ _ ih=>simp [ih]
theorem LeC.get {l l':List D} (h:LeC l l') {i:Nat} {d':D} (hi:l'[i]? = some d'):∃ d,l[i]? = some d∧d.Le d':=by
 induction h generalizing i with
 | nil=>simp at hi
 | cons h _ ih =>
  cases i with
  | zero=>simp at hi; subst hi; exact ⟨_,rfl,h⟩
  | succ i=>exact ih (by simpa using hi)
theorem ZuE {cs cs':List D} (h:LeC cs cs'):(D.agg cs).Le (.agg cs'):=by
 intro g w v hv
 cases hv with
 | agg vs _ hn hr one=>exact .agg vs _ (hn.trans h.len) (fun i v d' hv hd=>by obtain ⟨d,h1,h2⟩:=h.get hd; exact h2 _ _ _ (hr i v d hv h1)) one
theorem ZtJ {cs cs':List D} (h:LeC cs cs'):(D.tup cs).Le (.tup cs'):=by
 intro g w v hv
 cases hv with
 | tup vs _ hn hr=>exact .tup vs _ (hn.trans h.len) (fun i v d' hv hd=>by obtain ⟨d,h1,h2⟩:=h.get hd; exact h2 _ _ _ (hr i v d hv h1))
theorem ZtI {t:Tok} {n s:Nat} {row:Nat→List D}:(D.sl t n s row).Le (.sl .none n s row):=by
 intro g w v hv
 cases hv with
 | sl0 _ _ _ _ ht=>exact .sl0 _ _ _ _ (by simp)
 | sl b o n cap s row t f hl hc hp hr one ht hcap hb=>exact .sl b o n cap s row _ f hl hc hp hr one trivial hcap hb
theorem ZuF {t:Tok} {n s:Nat} {row row':Nat→List D} (h:∀ i,i < n→LeC (row i) (row' i)):(D.sl t n s row).Le (.sl t n s row'):=by
 intro g w v hv
 cases hv with
 | sl0 _ _ _ _ ht=>exact .sl0 _ _ _ _ ht
 | sl b o n cap s row t f hl hc hp hr one ht hcap hb =>
  exact .sl b o n cap s _ _ f (fun i hi=>(h i hi).len.symm.trans (hl i hi)) hc hp (fun i j d hi hd=>by obtain ⟨d',h1,h2⟩:=(h i hi).get hd; exact h2 _ _ _ (hr i j d' hi h1)) one ht hcap hb
theorem Zb8 {s:Nat} {row:Nat→List D} {t:Tok} (ht:∀ b,t≠.tip b):D.nilsl.Le (.sl t 0 s row):=by
 intro g w v hv; cases hv; exact .sl0 _ _ _ _ ht
theorem D.Le.trans {a b c:D} (h:a.Le b) (h':b.Le c):a.Le c:=fun g w v hv=>h' g w v (h g w v hv)
theorem Zvi {t:Tok} {n n' s:Nat} {row row':Nat→List D} (hn:n=n') (h:∀ i,i < n→row i=row' i):(D.sl t n s row).Le (.sl .none n' s row'):=by
 subst hn
 exact ZtI.trans (ZuF fun i hi=>by rw [h i hi]; exact LeC.refl _)
inductive Znp:E→E→Prop where
 | d {x y:D} (h:x.Le y):Znp (.d x) (.d y)
 | refl (e:E):Znp e e
inductive LeE:Env→Env→Prop where
 | nil:LeE [] []
 | cons {t:Nat} {e e':E} {ρ ρ':Env} (h:Znp e e') (r:LeE ρ ρ'):LeE ((t,e) :: ρ) ((t,e') :: ρ')
 | skip {t:Nat} {e:E} {ρ ρ':Env} (r:LeE ρ ρ'):LeE ((t,e) :: ρ) ((t,e) :: ρ')
inductive LeL:Loc→Loc→Prop where
 | nil:LeL [] []
 | cons {t:Nat} {c c':List D} {ρ ρ':Loc} (h:LeC c c') (r:LeL ρ ρ'):LeL ((t,c) :: ρ) ((t,c') :: ρ')
 | skip {t:Nat} {c:List D} {ρ ρ':Loc} (r:LeL ρ ρ'):LeL ((t,c) :: ρ) ((t,c) :: ρ')
theorem LeE.get {ρ ρ':Env} (h:LeE ρ ρ') {t:Nat} {e':E} (he:Ye ρ' t=some e'):∃ e,Ye ρ t=some e∧Znp e e':=by
 induction h with
 | nil=>simp [Ye] at he
 | cons h _ ih =>
  simp only [Ye] at he ⊢
  split at he
  ·simp at he; subst he; rename_i ht; rw [if_pos ht]; exact ⟨_,rfl,h⟩
  ·rename_i ht; rw [if_neg ht]; exact ih he
 | skip _ ih =>
  simp only [Ye] at he ⊢
  split at he
  ·simp at he; subst he; rename_i ht; rw [if_pos ht]; exact ⟨_,rfl,.refl _⟩
  ·rename_i ht; rw [if_neg ht]; exact ih he
theorem LeL.get {ρ ρ':Loc} (h:LeL ρ ρ') {t:Nat} {e':List D} (he:Zl ρ' t=some e'):∃ e,Zl ρ t=some e∧LeC e e':=by
 induction h with
 | nil=>simp [Zl] at he
 | cons h _ ih =>
  simp only [Zl] at he ⊢
  split at he
  ·simp at he; subst he; rename_i ht; rw [if_pos ht]; exact ⟨_,rfl,h⟩
  ·rename_i ht; rw [if_neg ht]; exact ih he
 | skip _ ih =>
  simp only [Zl] at he ⊢
  split at he
  ·simp at he; subst he; rename_i ht; rw [if_pos ht]; exact ⟨_,rfl,LeC.refl _⟩
  ·rename_i ht; rw [if_neg ht]; exact ih he
theorem LeL.getI {ρ ρ':Loc} (h:LeL ρ ρ') {t:Nat} {e:List D} (he:Zl ρ t=some e):∃ e',Zl ρ' t=some e':=by
 induction h with
 | nil=>simp [Zl] at he
 | cons h _ ih =>
  simp only [Zl] at he ⊢
  split at he
  ·rename_i ht; rw [if_pos ht]; exact ⟨_,rfl⟩
  ·rename_i ht; rw [if_neg ht]; exact ih he
 | skip _ ih =>
  simp only [Zl] at he ⊢
  split at he
  ·rename_i ht; rw [if_pos ht]; exact ⟨_,rfl⟩
  ·rename_i ht; rw [if_neg ht]; exact ih he
theorem Kn.le {g:G} {w:World} {b:Nat} {ds ds':List D} (h:Kn g w b ds) (hl:LeC ds ds'):Kn g w b ds':=by
 obtain ⟨hp,vs,T,h1,h2,h3,h4⟩:=h
 exact ⟨hp,vs,T,h1,h2.trans hl.len,fun i v d' hv hd=>by obtain ⟨d,e1,e2⟩:=hl.get hd; exact e2 _ _ _ (h3 i v d hv e1),h4⟩
theorem Z5.le {g:G} {ν:Nat→Nat} {w:World} {L:Loc} {v:Value} {e e':E} (h:Z5 g ν w L v e) (hl:Znp e e'):Z5 g ν w L v e':=by
 cases hl with
 | refl=>exact h
 | d hd=>exact hd _ _ _ h
theorem ZI.le {g:G} {ν:Nat→Nat} {w:World} {tmps:Array Value} {ρ ρ':Env} {L L':Loc} {s:St} (m:ZI g ν w tmps ρ L s) (hρ:LeE ρ ρ') (hL:LeL L L'):ZI g ν w tmps ρ' L' s:={
 st:=m.st
 loc l cs h:=by obtain ⟨c,h1,h2⟩:=hL.get h; exact (m.loc l c h1).le h2
 locKept l cs h:=by obtain ⟨c,h1,_⟩:=hL.get h; exact m.locKept l c h1
 locSt l cs h:=by obtain ⟨c,h1,_⟩:=hL.get h; exact m.locSt l c h1
 inj l l' cs cs' h h' hν:=by obtain ⟨c,h1,_⟩:=hL.get h; obtain ⟨c',h1',_⟩:=hL.get h'; exact m.inj l l' c c' h1 h1' hν
 env t e h:=by
  obtain ⟨e0,h1,h2⟩:=hρ.get h
  exact ((m.env t e0 h1).le h2).locs fun l cs hc=>⟨hL.getI hc,rfl⟩ }
section
variable {P:Program}
theorem Zpv {F:Fr P} {dk:List Zp} {ρ ρ':Env} {L L':Loc} {s:St} (hρ:LeE ρ ρ') (hL:LeL L L') (h:ZD F dk ρ' L' s):ZD F dk ρ L s :=
 fun k hk g ν w tmps hN m=>h k hk g ν w tmps hN (m.le hρ hL)
end
theorem Znq (ρ:Env):LeE ρ ρ:=by
 induction ρ with
 | nil=>exact .nil
 | cons a r ih=>obtain ⟨t,e⟩:=a; exact .cons (.refl _) ih
theorem Zpw {l:List D} {cs:List D} (hl:Jw l = .tup l) (h:LeC l cs):(Jw l).Le (.tup cs):=by rw [hl]; exact ZtJ h
theorem Zik {d d':D} (h:d.Le d'):(Jw [d]).Le d':=h
end Go.DL
namespace Go.DL
open Go
variable [Znt]
def Zhv:Bool→List Nat→St→St→Loc→Loc→List (Nat × Rd)→Prop
 | true,_,_,_,_,_,_=>True
 | false,fl,s,s',L,L',B=>Kl fl s s' L L' B
def ZkL:Bool→List Nat→List (Nat × Rd)→List (Nat × Rd)
 | true,_,B=>B
 | false,fl,B=>WP fl B
def Zga (K:Env→Loc→St→Prop) (X:List (DOp × List Nat)→Env→Loc→St→List (Nat × Rd)→Prop):List (DOp × List Nat)→Env→Loc→St→List (Nat × Rd)→Prop
 | [],ρ,L,s,_=>K ρ L s
 | o :: os,ρ,L,s,B=>match ZU o.1 ρ L s with
  | .ok side ρ' L' s'=>side∧Zhv (WB o.1.k) o.2 s s' L L' B∧Zga K X os ρ' L' s' (Qq o.1 ρ++ZkL (WB o.1.k) o.2 B)
  | .all side pre ρ' s'=>side∧∀ b,pre b→Zhv false o.2 s (s' b) L L B∧Zga K X os (ρ' b) L (s' b) (ZkL false o.2 B)
  | .stop=>X (o :: os) ρ L s B
theorem Ziq {K:Env→Loc→St→Prop} {X:List (DOp × List Nat)→Env→Loc→St→List (Nat × Rd)→Prop}:∀ {os:List (DOp × List Nat)} {ρ:Env} {L:Loc} {s:St} {B:List (Nat × Rd)},Zga K X os ρ L s B→Zf9 K X os ρ L s B
 | [],ρ,L,s,B,h=>h
 | o :: os,ρ,L,s,B,h=>by
  simp only [Zga,Zf9] at h ⊢
  split at h <;> rename_i hst <;> simp only [hst]
  ·cases hp:WB o.1.k
   ·rw [hp] at h
    exact ⟨h.1,h.2.1,Ziq h.2.2⟩
   ·rw [hp] at h; simp only [Zhv,ZkL] at h; exact ⟨h.1,Ziq h.2.2⟩
  ·refine ⟨h.1,fun b hb=>?_⟩
   exact ⟨(h.2 b hb).1,Ziq (h.2 b hb).2⟩
  ·exact h
section
variable {P:Program}
theorem Wb {F:Fr P} {ks:List Nat} {dk:List Zp} {os:List (DOp × List Nat)} {ρ:Env} {L:Loc} {s:St} {B:List (Nat × Rd)}
  (h:Zga (fun ρ L s=>ZD F dk (Wy ρ ks) (ZbI (Wy ρ ks) L) s) (fun os ρ L s B=>DOA F (some ks) dk os ρ L s B) os ρ L s B):DOA F (some ks) dk os ρ L s B:=Zih (Ziq h)
theorem Znh {F:Fr P} {kp:Option (List Nat)} {dk:List Zp} {o:DOp} {os:List DOp} {ρ:Env} {L:Loc} {s0:St} (s:St) (t:Tok) (hg:Zu ρ o.guard=some true) {e sz b:Nat} {z:List D} {x y:Opd} (hk:o.k = .append e sz b z x y)
  {p q:Prop} {n m:Nat} {row row2:Nat→List D} {dy:D} {dx:D} (hx:ZV ρ true x=some (p,.d dx)) (hsl:Zd5 sz dx=some (t,n,row)) (hy:ZV ρ true y=some (q,.d dy)) (hel:Zbr sz dy=some (m,row2)) (hp:p) (hq:q) (hs:s0=s.own t (n * sz)) (hok:t.okIn s)
  (hb:(n + m) * b≤140737488355328) (hbig:n + m≤big) (h:∀ t':Tok,t'.okIn s→DO F kp dk os (ZQ ρ o.dst (.d (.sl t' (n + m) sz (K6 n row row2)))) L (s.own t' ((n + m) * sz))) :
  DO F kp dk (o :: os) ρ L s0:=by
 subst hs; exact Zrk hg hk hx hsl hy hp hq hel hok hb hbig h
end
end Go.DL
namespace Go.DL
open Go
variable [Znt]
section
variable {P:Program}
theorem YL {an:Ann} {f:FuncId} {df:DF} (hf:cf P an f=some df) {args:List D} {d:D} {s s':St}
  (h:(∀ a∈args,DWf a)→∀ (F:Fr P),(∀ {dk:List Zp} {ρ:Env} {L:Loc} {t:St} {p:Prop} {ds:List D},KI ρ L t df.res=some (p,ds)→p→(Jw ds).Le d→s'.sub t→ZD F (.code .ret :: dk) ρ L t) →
   ZD F [.code df.body] (QZ 0 args) [] s):YU P f args s d s' :=
 Zg2 (ZmU hf) fun hw=>ZP hf fun F hF=>h hw F fun h1 h2 h3 h4=>hF.ret d s' h1 h2 h3 h4 ⟨rfl,rfl⟩
def VT (P:Program) (f:D) (args:List D) (s:St) (d:D) (s':St):Prop:=Qw P f args s fun r t=>r = .ret d∧t=s'
theorem YU.VT {f:FuncId} {first args caps:List D} {s s':St} {d:D} (h:YU P f (first++args++caps) s d s'):VT P (.fn (.func f) first caps) args s d s':=ZK.V h
theorem Z7.VT {f:FuncId} {first args caps:List D} {d:D} (h:Z7 P f (first++args++caps) d) (s:St):VT P (.fn (.func f) first caps) args s d s:=ZK.V (h s)
theorem ZbB {F:Fr P} {kp:Option (List Nat)} {dk:List Zp} {o:DOp} {os:List DOp} {ρ:Env} {L:Loc} {s s':St} (hg:Zu ρ o.guard=some true) {fx:Opd} {xs:List Opd} (hk:o.k = .call fx xs)
  {p q:Prop} {f:D} {es:List E} {ds:List D} (hf:ZV ρ true fx=some (q,.d f)) (ha:Wc ρ true xs=some (p,es)) (hds:K4 es=some ds) (hp:p) (hq:q)
  {d:D} (hc:VT P f ds s d s') (h:DO F kp dk os (ZQ ρ o.dst (.d d)) L s'):DO F kp dk (o :: os) ρ L s:=Zrp hg hk hf ha hds hp hq hc h
theorem Zuz {F:Fr P} {kp:Option (List Nat)} {dk:List Zp} {o:DOp} {f:List Nat} {os:List (DOp × List Nat)} {ρ:Env} {L:Loc} {s s':St} {B:List (Nat × Rd)} (hg:Zu ρ o.guard=some true) {fx:Opd} {xs:List Opd} (hk:o.k = .call fx xs)
  {p q:Prop} {fv:D} {es:List E} {ds:List D} (hf:ZV ρ true fx=some (q,.d fv)) (ha:Wc ρ true xs=some (p,es)) (hds:K4 es=some ds) (hp:p) (hq:q)
  {d:D} (hc:VT P fv ds s d s') (hB:Kl f s s' L L B) (h:DOA F kp dk os (ZQ ρ o.dst (.d d)) L s' (WP f B)):DOA F kp dk ((o,f) :: os) ρ L s B :=
 ZeN hg hk hf ha hds hp hq hc (fun d' t ⟨h1,h2⟩=>by simp only [Res.ret.injEq] at h1; subst h1; subst h2; exact ⟨hB,h⟩) (fun d' t ⟨h1,_⟩=>by simp at h1)
theorem ZZ.leC {g:G} {w:World} {vs:List Value} {a a':List D} (h:ZZ (Rep g w) vs a) (hl:LeC a a'):ZZ (Rep g w) vs a':=by
 induction hl generalizing vs with
 | nil=>exact h
 | cons hd _ ih=>cases h with
  | cons h1 h2=>exact .cons (hd g w _ h1) (ih h2)
theorem ZK.leA {f:FuncId} {args args':List D} {s:St} {Φ:Res→St→Prop} (hl:LeC args args') (h:ZK P f args' s Φ):ZK P f args s Φ :=
 ⟨h.1,fun g w vs hs ha=>h.2 g w vs hs (ZZ.leC ha hl)⟩
theorem Z7.leA {f:FuncId} {args args':List D} {d:D} (hl:LeC args args') (h:Z7 P f args' d):Z7 P f args d:=fun s=>ZK.leA hl (h s)
theorem LeC.one {d d':D} (h:d.Le d'):LeC [d] [d']:=.cons h .nil
theorem LeC.two {d d' e e':D} (h:d.Le d') (h2:e.Le e'):LeC [d,e] [d',e']:=.cons h (.cons h2 .nil)
end
end Go.DL
namespace Go.DL
open Go
variable [Znt]
def St.or (s t:St):St:=fun b=>match s b with
 | some o=>some o
 | none=>t b
theorem Jr (s t:St) (b:Nat) (o:Y6):(s.or t).upd b o=(s.upd b o).or t:=by
 funext c; simp only [St.or,St.upd]; by_cases h:c=b <;> simp [h]
theorem Z0 {s t:St} {b:Nat} {o:Y6} (h:s b=some o):(s.or t) b=some o:=by simp [St.or,h]
theorem YB {s t:St} {b:Nat} (h:s b=none):(s.or t) b=t b:=by simp [St.or,h]
theorem Za5 (s t:St):s.sub (s.or t):=fun b o h=>Z0 h
def Kr (s t:St):Prop:=∀ b o,t b=some o→s b=none
def St.single (b:Nat) (o:Y6):St:=fun c=>if c=b then some o else none
theorem KD (b:Nat) (o:Y6):(St.single b o) b=some o:=by simp [St.single]
theorem Ze4 {b c:Nat} (o:Y6) (h:c≠b):(St.single b o) c=none:=by simp [St.single,h]
theorem ZcE {s:St} {b:Nat} {o:Y6} (h:s b=none):s.upd b o=s.or (St.single b o):=by
 funext c; simp only [St.or,St.upd,St.single]
 by_cases hc:c=b
 ·subst hc; simp [h]
 ·simp only [hc,if_false]; cases s c <;> rfl
theorem Zat {s:St} {b:Nat} {o:Y6} (h:s b=none):Kr s (St.single b o):=fun c x hc=>by
 simp only [St.single] at hc; split at hc
 ·rename_i e; rw [e]; exact h
 ·simp at hc
def G.keep (g:G) (k:Nat→Prop):G:={ g with kept:=k }
theorem K9 {g:G} {k:Nat→Prop} {w:World} {v:Value} {d:D} (h:Rep g w v d):Rep (g.keep k) w v d:=h.mono0 (fun _=>ZvR _) (fun _ _ _=>rfl) (fun _ _ h=>h)
theorem Zsk {g:G} {k:Nat→Prop} {ν:Nat→Nat} {w:World} {L:Loc} {v:Value} {e:E} (h:Z5 g ν w L v e):Z5 (g.keep k) ν w L v e:=by
 induction e with
 | d d=>exact K9 h
 | loc l off=>exact h
 | when c e ih=>exact ⟨fun hc=>ih (h.1 hc),h.2⟩
theorem ZnG {g:G} {k:Nat→Prop} {w:World} {b:Nat} {ds:List D} (h:Kn g w b ds):Kn (g.keep k) w b ds:=by
 obtain ⟨hp,vs,T,h1,h2,h4,h5⟩:=h
 exact ⟨hp,vs,T,h1,h2,fun i v d hv hd=>K9 (h4 i v d hv hd),h5⟩
theorem ZkN {g:G} {k:Nat→Prop} {w:World} {b:Nat} {o:Y6} (h:Qb g w b o):Qb (g.keep k) w b o:=by
 cases o with
 | cells ds=>exact ZnG h
 | map es =>
  obtain ⟨hp0,en,clock,h1,h2,h3,h4,h5,h6⟩:=h
  exact ⟨hp0,en,clock,h1,h2,fun i x d hv hd=>K9 (h3 i x d hv hd),fun i x d hv hd=>K9 (h4 i x d hv hd),h5,h6⟩
 | tip n=>exact h
 | mapE kp es kk n =>
  obtain ⟨hp0,io,hio,en,clock,h1,h2,h3,h4,h5,h6,h7⟩:=h
  exact ⟨hp0,io,hio,en,clock,h1,h2,fun i x d hi hv hd=>K9 (h3 i x d hi hv hd),fun i x d hi hv hd=>K9 (h4 i x d hi hv hd),fun e he=>⟨K9 (h5 e he).1,(h5 e he).2⟩,h6,h7⟩
 | loop r st =>
  obtain ⟨hp,l,h1,h2,h3,h4,h5,h6,h7,h8,h9⟩:=h
  exact ⟨hp,l,h1,h2,h3,h4,h5,h6,h7,fun t e he=>Zsk (h8 t e he),h9⟩
 | dfr=>exact h
theorem ZZ.imp {α β:Type} {R S:α→β→Prop} {as9:List α} {bs:List β} (h:ZZ R as9 bs) (hi:∀ a b,R a b→S a b):ZZ S as9 bs:=by
 induction h with
 | nil=>exact .nil
 | cons h _ ih=>exact .cons (hi _ _ h) ih
theorem Zob {g:G} {w:World} {s t:St} (hd:Kr s t) (h:Wo g (s.or t) w):Wo (g.keep fun b=>g.kept b∨(t b).isSome) s w:={
 obj b o hb:=ZkN (h.obj b o (Z0 hb))
 kept b o hb:=by
  rintro (hk | hk)
  ·exact h.kept b o (Z0 hb) hk
  ·obtain ⟨x,hx⟩:=Option.isSome_iff_exists.1 hk
   rw [hd b x hx] at hb; simp at hb
 fresh b hb:=by
  have h1:=h.fresh b hb
  refine ⟨h1.1,?_⟩
  rintro (hk | hk)
  ·exact h1.2 hk
  ·obtain ⟨x,hx⟩:=Option.isSome_iff_exists.1 hk
   have:=(h.obj b x (by rw [YB (hd b x hx)]; exact hx)).lt
   omega
 tabs n cs hc:=K9 (h.tabs n cs hc) }
theorem Zmd {g:G} {w w':World} {s t:St} {Φ:Res→St→Prop} {e:Ending} (hd:Kr s t) (h:Wo g (s.or t) w) (hp:Zfu (g.keep fun b=>g.kept b∨(t b).isSome) w Φ e w') :
  Zfu g w (fun r S=>∃ s',Φ r s'∧Kr s' t∧S=s'.or t) e w':=by
 obtain ⟨g',s',r,he,hs,hr,hΦ⟩:=hp
 have hkeq:=he.keptEq
 have he':Ext g w (g'.keep g.kept) w':=⟨he.size,he.prot,he.cell,he.hdr,fun b hb=>he.kept b (.inl hb),fun b hb=>he.keptProt b (.inl hb),rfl,he.os,he.output,he.tape⟩
 have hd':Kr s' t:=fun b o hb=>by
  cases hsb:s' b with
  | none=>rfl
  | some x=>exact absurd (by rw [hkeq]; exact .inr (by rw [hb]; rfl)) (hs.kept b x hsb)
 refine ⟨g'.keep g.kept,s'.or t,r,he',⟨fun b o hb=>?_,fun b o hb=>?_,fun b hb=>?_,fun n cs hc=>K9 (hs.tabs n cs hc)⟩,?_,s',hΦ,hd',rfl⟩
 ·cases hsb:s' b with
  | some x =>
   rw [Z0 hsb] at hb; cases hb
   exact ZkN (hs.obj b _ hsb)
  | none =>
   rw [YB hsb] at hb
   have h0:=h.obj b o (by rw [YB (hd b o hb)]; exact hb)
   have hk:(g.keep fun b=>g.kept b∨(t b).isSome).kept b:=.inr (by rw [hb]; rfl)
   exact h0.mono he' (he.kept b hk) (he.keptProt b hk)
 ·cases hsb:s' b with
  | some x=>exact fun hk=>hs.kept b x hsb (by rw [hkeq]; exact .inl hk)
  | none =>
   rw [YB hsb] at hb
   exact h.kept b o (by rw [YB (hd b o hb)]; exact hb)
 ·have:=hs.fresh b hb
  exact ⟨this.1,fun hk=>this.2 (by rw [hkeq]; exact .inl hk)⟩
 ·cases e <;> cases r <;> simp only [Zqd] at hr ⊢
  ·exact K9 hr
  ·obtain ⟨v,h1,h2⟩:=hr; exact ⟨v,h1,K9 h2⟩
section
variable {P:Program}
theorem ZK.frame {f:FuncId} {args:List D} {s t:St} {Φ:Res→St→Prop} (hd:Kr s t) (h:ZK P f args s Φ):ZK P f args (s.or t) fun r S=>∃ s',Φ r s'∧Kr s' t∧S=s'.or t :=
 ⟨h.1,fun g w vs hs ha=>(h.2 _ w vs (Zob hd hs) (ha.imp fun _ _=>K9)).mono fun _ _ hp=>Zmd hd hs hp⟩
theorem Qw.frame {f:D} {args:List D} {s t:St} {Φ:Res→St→Prop} (hd:Kr s t) (h:Qw P f args s Φ):Qw P f args (s.or t) fun r S=>∃ s',Φ r s'∧Kr s' t∧S=s'.or t:=by
 intro g w fv vs hs hf ha
 obtain ⟨d,nx,fr,h1,h2,h3,h4⟩:=h _ w fv vs (Zob hd hs) (K9 hf) (ha.imp fun _ _=>K9)
 refine ⟨d,nx,fr,h1,h2,h3,fun c cs=>?_⟩
 obtain ⟨e,w',h5,h6⟩:=h4 c cs
 exact ⟨e,w',Zmd hd hs h5,h6⟩
end
end Go.DL
namespace Go.DL
open Go
variable [Znt]
section
variable {P:Program}
theorem ZmE {an:Ann} {l N:Nat} {r:KM} {s:St} {da db:DC} {args:List D} {Φ:Res→St→Prop} (hs:s l=some (.loop r .ready)) (hlen:args.length=r.params.length) (ha:cc P an N r.assign=some da) (hb:cc P an N r.body=some db) (hN:r.N=N)
  (hp:∀ t∈r.params,t < N) (h:∀ F:Fr P,QX F l Φ→F.b.fn=r.fn→ZD F [.code da,.beginR,.code db] (QH r.params args r.ρ) [] s):Qw P (.fn (.yield l) [] []) args s Φ:=by
 intro g w fv vs hst hf hargs
 cases hf with
 | fn _ fs cs' _ _ hn1 hn2 h1 h2 =>
 obtain rfl:fs=[]:=by simpa using hn1
 obtain rfl:cs'=[]:=by simpa using hn2
 obtain ⟨hp0,l0,a1,a2,a3,a4,a5,a6,a7,a8,a9,a10⟩:=hst.obj l _ hs
 have hsize:vs.toArray.size=l0.params.size:=by
  have e1:=hargs.len
  have e2:l0.params.toList.length=r.params.length:=by rw [a3]
  simp at e2 ⊢; omega
 refine ⟨_,_,_,by simp [Deferred.ofValue]; rfl,by simp [invoke,Instr.yield,Instr.getLoop,JK a1,hsize]; rfl,rfl,fun c cs=>?_⟩
 have M:ZI g (fun _=>0) w l0.tmps r.ρ [] s:=⟨hst,fun l cs h=>by simp [Zl] at h,fun l cs h=>by simp [Zl] at h,fun l cs h=>by simp [Zl] at h,fun l l' cs cs' h=>by simp [Zl] at h,a8⟩
 obtain ⟨hN',M'⟩:=Zgy M hargs hlen (by rw [hN] at *; exact hp) (by rw [← hN]; exact a7)
 have:=h (J4 P an r.fn N l c cs Φ) ⟨an,r.fn,N,c,cs,rfl⟩ rfl [.code r.assign,.beginRound,.code r.body] (.code ha (.beginR (.code hb .nil))) g (fun _=>0) w _ hN' M'
 have hfr:(J4 P an r.fn N l c cs Φ).b.atR { tmps:=(r.params.zip vs).foldl (fun tmps (x:Nat × Value)=>tmps.setIfInBounds x.1 x.2) l0.tmps,defers:=[] } [.code r.assign,.beginRound,.code r.body] =
   Frame.round l l0.fn ((l0.params.zip vs.toArray).foldl (fun tmps (x:Nat × Value)=>tmps.setIfInBounds x.1 x.2) l0.tmps) l0.assign l0.body .normal:=by
  simp only [Frame.atR,Frame.round,J4,a2,a4,a5,← a3]
  congr 1
  rw [← Array.foldl_toList]
  simp
 have e:(J4 P an r.fn N l c cs Φ).ds=[]:=rfl
 rw [e,hfr] at this
 have e2:(l0.params.zip vs.toArray).size=l0.params.size:=by simp at hsize ⊢; omega
 rw [e2] at this
 exact this
theorem Znn {F:Fr P} (hr:F.b.roundOf=none) {o:Opd} {ps:List Nat} {da db:DC} {dk:List Zp} {ρ:Env} {L:Loc} {s:St} {p:Prop} {fv:D} (hf:ZV ρ true o=some (p,.d fv)) (hp:p) (ks:List Nat) (hks:(Wy ρ ks).map (·.1) |>.Nodup)
  (h:∀ q l r,s q=none→s l=none→q≠l→r.ρ=Js ks ρ→r.params=ps→r.fn=F.b.fn→cc P F.an F.N r.assign=some da→cc P F.an F.N r.body=some db→r.N=F.N→(∀ t∈ps,t < F.N) →
   ∃ Ψ,Qw P fv [.fn (.yield l) [] []] ((s.upd q .dfr).upd l (.loop r .ready)) Ψ∧(∀ d s',Ψ (.ret d) s'→Zg6 (F.mark q) l r dk ρ L s')∧(∀ d s',Ψ (.panic d) s'→Kw (F.mark q) ρ L d s')) :
  ZD F (.code (.rangeF o ps da db) :: dk) ρ L s:=by
 intro k hk
 cases hk with
 | @code _ _ kt _ hc ht =>
 obtain ⟨f',ps',a',b',rfl,hf',hps,ha,hb,hlt⟩:=Zl3 hc
 intro g ν w tmps hN m
 have hfr:Rep g w _ fv:=Y2 m hf' rfl hf hp F.ds
 have hg1:=Zah (g:=g) (w:=w) (.deferred (some [])) m.st.fresh
 have he1:=hg1.ext m.st.fresh
 obtain ⟨hq,m1⟩:=m.newObj hg1 (o:=.dfr) ⟨(m.st.fresh _ (ZvR _)).1,QB w _⟩
 let w1:=w.alloc (.deferred (some []))
 let lp:Go.Loop:={ state:=.ready,pending:=none,fn:=F.b.fn,tmps:=tmps,params:=ps',assign:=a',body:=b',defers:=w.heap.size }
 let r:KM:={ fn:=F.b.fn,params:=ps,assign:=a',body:=b',defers:=w.heap.size,ρ:=Js ks ρ,N:=F.N }
 have hg2:=Zah (g:=g) (w:=w1) (.loop lp) m1.st.fresh
 have he2:=hg2.ext m1.st.fresh
 obtain ⟨hl,m2⟩:=m1.newObj hg2 (o:=.loop r .ready) ⟨(m1.st.fresh _ (ZvR _)).1,lp,QB w1 _,rfl,hps,rfl,rfl,rfl,hN,fun t e het=>by
  obtain ⟨h1,h2⟩:=ZdJ hks het
  exact ZkU (((m1.env t e (Zdi ρ ks t e h1))).mono he2) h2,rfl,rfl⟩
 have hqsz:w1.heap.size=w.heap.size + 1:=by simp [w1]
 have hl':s w1.heap.size=none:=by
  have hne:¬ w1.heap.size=w.heap.size:=by omega
  have h0:(s.upd w.heap.size .dfr) w1.heap.size=none:=hl
  simp only [St.upd,hne,if_false] at h0
  exact h0
 obtain ⟨Ψ,hV,hret,hpan⟩:=h w.heap.size w1.heap.size r hq hl' (by omega) rfl rfl rfl ha hb rfl hlt
 have hrep2:Rep g (w1.alloc (.loop lp)) _ fv:=(hfr.mono he1).mono he2
 obtain ⟨d,nx,fr,hd1,hd2,hd3,hC⟩:=hV (ZeR g ν L) (w1.alloc (.loop lp)) _ [.func (.yield w1.heap.size) #[] #[]] m2.callSt (KS hrep2 rfl) (.cons (.fn (.yield w1.heap.size) [] [] [] [] rfl rfl (by simp) (by simp)) .nil)
 have henter:(Instr.enterLoop F.b.fn tmps ps' a' b' F.b.roundOf).run P w = .ok (w1.heap.size,[{ target:=.collected w.heap.size,args:=#[] }]) (w1.alloc (.loop lp)):=by
  rw [hr]; simp [Instr.enterLoop,w1,lp]
 have hstep:=ZfV (P:=P) (b:=F.b) (a:=⟨tmps,F.ds⟩) (k:=kt) (cs:=F.cs) henter hd1 hd2 hd3
 obtain ⟨e,w',⟨g',s',res,x1,x2,x3,x4⟩,hback⟩:=hC (F.b.atR { tmps:=tmps,defers:=[{ target:=.collected w.heap.size,args:=#[] }]++F.ds } (.inRangeFunc w1.heap.size :: kt)) F.cs
 obtain ⟨hext,hm⟩:=m2.afterCall x1 x2
 have hext':=(he1.trans he2).trans hext
 cases e with
 | returned v =>
  cases res with
  | panic d=>exact x3.elim
  | ret d =>
   refine F.T.back _ _ _ _ (.head hstep hback) ?_
   rw [finish_atR_inRangeFunc]
   exact F.T.ext _ _ _ _ _ hext' (ZkT (F:=F.mark w.heap.size) ht hN hm (hret d s' x4))
 | panicked ch =>
  cases res with
  | ret d=>exact x3.elim
  | panic d =>
   obtain ⟨v,rfl,hv⟩:=x3
   refine F.T.back _ _ _ _ (.head hstep hback) ?_
   rw [Frame.raise_atR]
   exact F.T.ext _ _ _ _ _ hext' (hpan d s' x4 _ _ _ v _ _ hN hm (KS hv rfl))
 | outgrown=>exact hback.elim
theorem Zqb {F:Fr P} {ρ:Env} {L:Loc} {d:D} {s s':St} (hs:s'.sub s) (h:Kw F ρ L d s'):Kw F ρ L d s :=
 fun g ν w v todo tmps hN m hr=>h g ν w v todo tmps hN (m.sub hs) hr
inductive Oc where
 | next
 | stop (c:Code)
 | pan (d:D)
def Oc.res:Oc→Res
 | .next=>.ret (.bool true)
 | .stop _=>.ret (.bool false)
 | .pan d=>.panic d
def Zne (P:Program) (y:D) (n:Nat) (args:Nat→List D) (go:Nat→Oc) (A:Nat→St→Prop):Prop :=
 ∀ j,j < n→(∀ i,i < j→go i = .next)→∀ a,A j a→Qw P y (args j) a fun r a'=>r=(go j).res∧A (j + 1) a'
inductive Zj0 (n:Nat) (go:Nat→Oc) (A:Nat→St→Prop) (a:St):Res→Prop where
 | all (h:∀ i,i < n→go i = .next) (ha:A n a):Zj0 n go A a (.ret (.tup []))
 | stop (m:Nat) (c:Code) (hm:m < n) (h:∀ i,i < m→go i = .next) (hc:go m = .stop c) (ha:A (m + 1) a):Zj0 n go A a (.ret (.tup []))
 | pan (m:Nat) (d:D) (hm:m < n) (h:∀ i,i < m→go i = .next) (hc:go m = .pan d) (ha:A (m + 1) a):Zj0 n go A a (.panic d)
def Zf1 (P:Program) (fv:D) (n:Nat) (args:Nat→List D) (t:St):Prop :=
 ∀ (y:D) (go:Nat→Oc) (A:Nat→St→Prop) (a0:St),Zne P y n args go A→A 0 a0→Kr a0 t→Qw P fv [y] (a0.or t) fun r S=>∃ a,Zj0 n go A a r∧a.sub S
def lpS (q l:Nat) (r:KM) (st:LSt):St:=(St.single q .dfr).or (St.single l (.loop r st))
structure Zns (F:Fr P) (busy:St) (E:Oc→St→Prop):Prop where
 fin:∀ {ρ:Env} {L:Loc} {S a:St},E .next a→Kr a busy→(a.or busy).sub S→ZD F [] ρ L S
 ret:∀ {dk:List Zp} {ρ:Env} {L:Loc} {S a:St},E (.stop .ret) a→Kr a busy→(a.or busy).sub S→ZD F (.code .ret :: dk) ρ L S
 exit:∀ {id:Nat} {dk:List Zp} {ρ:Env} {L:Loc} {S a:St},Jf id dk=none→E (.stop (.exit id)) a→Kr a busy→(a.or busy).sub S→ZD F (.code (.exit id) :: dk) ρ L S
 pan:∀ {ρ:Env} {L:Loc} {d:D} {S a:St},E (.pan d) a→Kr a busy→(a.or busy).sub S→Kw F ρ L d S
theorem Kd.ex {F:Fr P} {rs:List RV} {Φ:Res→St→Prop} {dds:List DD} (hF:Kd F rs Φ dds):∃ f,P.funcs[F.b.fn]? = some f:=by
 obtain ⟨an,f,df,cs,hf,hrs,rfl⟩:=hF
 obtain ⟨fn,h,_⟩:=ZmU hf
 exact ⟨fn,h⟩
theorem ZaG {q l:Nat} {r:KM} {st:LSt}:(lpS q l r st) q=some .dfr:=Z0 (KD _ _)
theorem Jh {q l:Nat} {r:KM} {st:LSt} (h:q≠l):(lpS q l r st) l=some (.loop r st):=by
 unfold lpS; rw [YB (Ze4 _ (Ne.symm h))]; exact KD _ _
theorem Zej {q l c:Nat} {r:KM} {st:LSt} (h1:c≠q) (h2:c≠l):(lpS q l r st) c=none:=by
 unfold lpS; rw [YB (Ze4 _ h1)]; exact Ze4 _ h2
theorem Zon {q l:Nat} {r r':KM} {st st':LSt} {a:St} (h:Kr a (lpS q l r st)) (hq:q≠l):Kr a (lpS q l r' st'):=fun b o hb=>by
 by_cases h1:b=q
 ·rw [h1]; exact h q _ ZaG
 ·by_cases h2:b=l
  ·rw [h2]; exact h l _ (Jh hq)
  ·rw [Zej h1 h2] at hb; simp at hb
theorem Zlz {q l:Nat} {r:KM} {st st':LSt} {a S:St} (hq:q≠l) (hd:Kr a (lpS q l r st)) (hs:(a.or (lpS q l r st)).sub S):(a.or (lpS q l r st')).sub (S.upd l (.loop r st')):=fun b o hb=>by
 by_cases h2:b=l
 ·subst h2
  rw [YB (hd b _ (Jh hq)),Jh hq] at hb
  rw [ZvQ]; exact hb
 ·rw [ZvP _ _ h2]
  refine hs b o ?_
  by_cases h1:b=q
  ·subst h1
   rw [YB (hd b _ ZaG),ZaG] at hb ⊢; exact hb
  ·cases ha:a b with
   | some x=>rw [Z0 ha] at hb ⊢; exact hb
   | none=>rw [YB ha,Zej h1 h2] at hb; simp at hb
theorem Zpc {F:Fr P} {q l:Nat} {r:KM} {Φ:Res→St→Prop} (hF:QX F l Φ) (hq:q≠l) (hex:∃ f,P.funcs[F.b.fn]? = some f) {E:Oc→St→Prop}
  (hΦ:∀ oc a,E oc a→Kr a (lpS q l r .busy)→Φ oc.res (a.or (lpS q l r (match oc with | .next=>.ready | .stop c=>.done c | .pan _=>.busy)))):Zns F (lpS q l r .busy) E:={
 fin he hd hs:=hF.fin (s':=_) (hs l _ (by rw [YB (hd l _ (Jh hq))]; exact Jh hq)) (Zlz hq hd hs) (hΦ .next _ he hd)
 ret he hd hs:=hF.ret (hs l _ (by rw [YB (hd l _ (Jh hq))]; exact Jh hq)) (Zlz hq hd hs) (hΦ (.stop .ret) _ he hd)
 exit hx he hd hs:=hF.exit hx (hs l _ (by rw [YB (hd l _ (Jh hq))]; exact Jh hq)) (Zlz hq hd hs) (hΦ (.stop (.exit _)) _ he hd)
 pan he hd hs:=hF.pan hs (hΦ (.pan _) _ he hd) fun an fn N c cs e=>by
  obtain ⟨f,hf⟩:=hex
  refine ⟨f,?_⟩
  have:F.b.fn=fn:=by rw [e]; rfl
  rw [← this]; exact hf }
theorem Zb6 {F:Fr P} {rs:List RV} {Φ:Res→St→Prop} {dds:List DD} (hF:Kd F rs Φ dds) {o:Opd} {ps:List Nat} {da db:DC} {dk:List Zp} {ρ:Env} {L:Loc} {p:Prop} {fv:D} (hf:ZV ρ true o=some (p,.d fv)) (hp:p)
  (ks:List Nat) (hks:(Wy ρ ks).map (·.1) |>.Nodup) {a0 t:St} (hd:Kr a0 t) {n:Nat} {args:Nat→List D} (hit:Zf1 P fv n args t) (hlen:∀ j,j < n→(args j).length=ps.length) (go:Nat→Oc) (B:Nat→St→Prop) (h0:B 0 a0)
  (hbody:∀ j a,j < n→(∀ i,i < j→go i = .next)→B j a→∀ (F':Fr P) (ready busy:St),Kr a ready →
   (∀ {dk:List Zp} {ρ:Env} {L:Loc},(Kr a busy→ZD F' dk ρ L (a.or busy))→ZD F' (.beginR :: dk) ρ L (a.or ready)) →
   Zns F' busy (fun oc a'=>oc=go j∧B (j + 1) a')→ZD F' [.code da,.beginR,.code db] (QH ps (args j) (Js ks ρ)) [] (a.or ready))
  (hall:∀ q a,(∀ i,i < n→go i = .next)→B n a→a q=none→ZD (F.mark q) dk ρ L (a.upd q .dfr))
  (hret:∀ q a m,m < n→(∀ i,i < m→go i = .next)→go m = .stop .ret→B (m + 1) a→a q=none→ZD (F.mark q) (.code .ret :: dk) ρ L (a.upd q .dfr))
  (hexit:∀ q a m id,m < n→(∀ i,i < m→go i = .next)→go m = .stop (.exit id)→B (m + 1) a→a q=none→ZD (F.mark q) (.code (.exit id) :: dk) ρ L (a.upd q .dfr))
  (hpan:∀ q a m d,m < n→(∀ i,i < m→go i = .next)→go m = .pan d→B (m + 1) a→a q=none→Kw (F.mark q) ρ L d (a.upd q .dfr))
  (hgo:∀ m c,go m = .stop c→c = .ret∨∃ id,c = .exit id) :
  ZD F (.code (.rangeF o ps da db) :: dk) ρ L (a0.or t):=by
 refine Znn hF.roundOf hf hp ks hks fun q l r hq hl hql hr1 hr2 hr3 hca hcb hr4 hps=>?_
 have hq1:a0 q=none:=by cases h:a0 q with | none=>rfl | some x=>rw [Z0 h] at hq; simp at hq
 have hl1:a0 l=none:=by cases h:a0 l with | none=>rfl | some x=>rw [Z0 h] at hl; simp at hl
 have hq2:t q=none:=by rw [YB hq1] at hq; exact hq
 have hl2:t l=none:=by rw [YB hl1] at hl; exact hl
 let stOf:Nat→LSt:=fun j=>match j with
  | 0=>.ready
  | j + 1=>match go j with
   | .next=>.ready
   | .stop c=>.done c
   | .pan _=>.busy
 let A:Nat→St→Prop:=fun j S=>∃ a,B j a∧Kr a (lpS q l r .ready)∧S=a.or (lpS q l r (stOf j))
 have hd0:Kr a0 (lpS q l r .ready):=fun b o hb=>by
  by_cases h1:b=q
  ·rw [h1]; exact hq1
  ·by_cases h2:b=l
   ·rw [h2]; exact hl1
   ·rw [Zej h1 h2] at hb; simp at hb
 have hst:(((a0.or t).upd q .dfr).upd l (.loop r .ready))=(a0.or (lpS q l r .ready)).or t:=by
  funext b
  simp only [St.upd]
  by_cases h2:b=l
  ·subst h2; rw [if_pos rfl,Z0 (s:=a0.or _) (by rw [YB hl1]; exact Jh hql)]
  ·rw [if_neg h2]
   by_cases h1:b=q
   ·subst h1; rw [if_pos rfl,Z0 (s:=a0.or _) (by rw [YB hq1]; exact ZaG)]
   ·rw [if_neg h1]
    cases ha:a0 b with
    | some x=>rw [Z0 ha,Z0 (Z0 ha)]
    | none=>rw [YB ha,YB (s:=a0.or _) (by rw [YB ha]; exact Zej h1 h2)]
 have hd1:Kr (a0.or (lpS q l r .ready)) t:=fun b o hb=>by
  rw [YB (hd b o hb)]
  exact Zej (fun e=>by rw [e,hq2] at hb; simp at hb) (fun e=>by rw [e,hl2] at hb; simp at hb)
 have hex:=hF.ex
 have hcons:Zne P (.fn (.yield l) [] []) n args go A:=by
  rintro j hj hnx S ⟨a,hBj,hda,rfl⟩
  have hsj:stOf j = .ready:=by
   cases j with
   | zero=>rfl
   | succ j=>simp only [stOf,hnx j (by omega)]
  rw [hsj]
  refine ZmE (an:=F.an) (N:=F.N) (r:=r) (by rw [YB (hda l _ (Jh hql))]; exact Jh hql) (by rw [hr2]; exact hlen j hj) hca hcb hr4 (by rw [hr2]; exact hps) fun F' hF' hfn=>?_
  rw [hr1,hr2]
  refine hbody j a hj hnx hBj F' (lpS q l r .ready) (lpS q l r .busy) hda (fun hk=>hF'.begin (r:=r) (by rw [YB (hda l _ (Jh hql))]; exact Jh hql) ?_) ?_
  ·have e:(a.or (lpS q l r .ready)).upd l (.loop r .busy)=a.or (lpS q l r .busy):=by
    funext b
    simp only [St.upd]
    by_cases h2:b=l
    ·subst h2; rw [if_pos rfl,YB (hda b _ (Jh hql)),Jh hql]
    ·rw [if_neg h2]
     by_cases h1:b=q
     ·subst h1; rw [YB (hda b _ ZaG),YB (hda b _ ZaG),ZaG,ZaG]
     ·cases ha:a b with
      | some x=>rw [Z0 ha,Z0 ha]
      | none=>rw [YB ha,YB ha,Zej h1 h2,Zej h1 h2]
   rw [e]; exact hk (Zon hda hql)
  ·refine Zpc hF' hql (by rw [hfn,hr3]; exact hex) ?_
   rintro oc a' ⟨rfl,hB'⟩ hda'
   exact ⟨rfl,a',hB',Zon hda' hql,rfl⟩
 refine ⟨_,by rw [hst]; exact hit _ go A _ hcons ⟨a0,h0,hd0,rfl⟩ hd1,?_,?_⟩
 ·rintro d S ⟨S',hend,hsub⟩
  have fin:∀ a,Kr a (lpS q l r .ready)→∀ st,(a.or (lpS q l r st)).sub S→S l=some (.loop r st)∧(a.upd q .dfr).sub (S.del l)∧a q=none:=fun a hda st hs=>by
   refine ⟨hs l _ (by rw [YB (hda l _ (Jh hql))]; exact Jh hql),fun b o hb=>?_,hda q _ ZaG⟩
   have hbl:b≠l:=fun e=>by
    subst e
    rw [ZvP _ _ (Ne.symm hql),hda b _ (Jh hql)] at hb; simp at hb
   simp only [St.del,hbl,if_false]
   by_cases h1:b=q
   ·subst h1; rw [ZvQ] at hb; exact hs b o (by rw [YB (hda b _ ZaG),ZaG]; exact hb)
   ·rw [ZvP _ _ h1] at hb; exact hs b o (Z0 hb)
  cases hend with
  | all h ha =>
   obtain ⟨a,hB,hda,rfl⟩:=ha
   have hsn:stOf n = .ready:=by
    cases n with
    | zero=>rfl
    | succ n=>simp only [stOf,h n (by omega)]
   rw [hsn] at hsub
   obtain ⟨f1,f2,f3⟩:=fin a hda _ hsub
   exact .inl ⟨f1,JN f2 (hall q a h hB f3)⟩
  | stop m c hm h hc ha =>
   obtain ⟨a,hB,hda,rfl⟩:=ha
   have hsn:stOf (m + 1) = .done c:=by simp only [stOf,hc]
   rw [hsn] at hsub
   obtain ⟨f1,f2,f3⟩:=fin a hda _ hsub
   rcases hgo m c hc with rfl | ⟨id,rfl⟩
   ·exact .inr ⟨.ret,.ret,f1,rfl,JN f2 (hret q a m hm h hc hB f3)⟩
   ·exact .inr ⟨.exit id,.exit id,f1,rfl,JN f2 (hexit q a m id hm h hc hB f3)⟩
 ·rintro d S ⟨S',hend,hsub⟩
  cases hend with
  | pan m d hm h hc ha =>
   obtain ⟨a,hB,hda,rfl⟩:=ha
   have hs:(a.upd q .dfr).sub S:=fun b o hb=>by
    by_cases h1:b=q
    ·subst h1; rw [ZvQ] at hb; exact hsub b o (by rw [YB (hda b _ ZaG),ZaG]; exact hb)
    ·rw [ZvP _ _ h1] at hb; exact hsub b o (Z0 hb)
   exact Zqb hs (hpan q a m d hm h hc hB (hda q _ ZaG))
end
end Go.DL
namespace Go.DL
open Go Go.Lib
variable [Znt]
section
variable {P:Program}
theorem Zp4 {F:Fr P} {kp:Option (List Nat)} {dk:List Zp} {o:DOp} {os:List DOp} {ρ:Env} {L:Loc} {s:St} (hg:Zu ρ o.guard=some true) {e sz b:Nat} {z:List D} {x y:Opd} (hk:o.k = .append e sz b z x y)
  {p q:Prop} {t:Tok} {n m:Nat} {row row2:Nat→List D} {dy:D} {dx:D} (hx:ZV ρ true x=some (p,.d dx)) (hsl:Zd5 sz dx=some (t,n,row)) (hy:ZV ρ true y=some (q,.d dy)) (hp:p) (hq:q) (hel:∀ g w v,Rep g w v dy→∃ news,Qd g w sz m news row2∧Zbo P w sz m v news) (hok:t.okIn s)
  (hb:(n + m) * b≤140737488355328) (hbig:n + m≤big) (h:∀ t':Tok,t'.okIn s→DO F kp dk os (ZQ ρ o.dst (.d (.sl t' (n + m) sz (K6 n row row2)))) L (s.own t' ((n + m) * sz))) :
  DO F kp dk (o :: os) ρ L (s.own t (n * sz)):=by
 refine KL fun oo g ν w tmps ops i r k hoo hck hcg hdst hd hN M hr hkk=>?_
 have hw:=Y7 M hcg hg
 have hnd:=Wp hck (by rw [hk]; rfl)
 rw [hk] at hck
 obtain ⟨x',y',args,ats,t1,t2,tu,hop,hargs,ha1,ha2,hu1,hu2,hnu,hsz,hz,hbb,hx',hy',h0,hzl⟩:=Zdf hck
 subst hbb
 have hr1:Rep g w _ (.sl t n sz row):=Zim (Y2 M hx' rfl hx hp F.ds) hsl
 have hr2:Rep g w _ _:=Y2 M hy' rfl hy hq F.ds
 obtain ⟨zv,hz1,hz2,hz3,ie,hie,hzz⟩:=J8 (g:=g) (w:=w) hz
 have hsize:ie.size=sz:=by simpa [YD,hie] using hsz
 have hzlen:zv.cells.size=sz:=by have:=hz2.len; simp at this; omega
 have hby:P.bytesOf e=ie.bytes:=by simp [Program.bytesOf,hie]
 rw [hby] at hb
 obtain ⟨news,hn1,hn2⟩:=hel _ _ _ hr2
 obtain ⟨v',w',g',t',a1,a2,a3,a4,a5,a6,a7⟩:=Zny (ty:=oo.type) hu1 hu2 hnu hie hzz hsize hzlen h0 M.st hok hr1 hn1 hn2 hb hbig
 have hne:∀ l cs,Zl L l=some cs→t≠.tip (ν l):=fun l cs hl ht=>by
  have:=M.locSt l cs hl
  rw [ht] at this
  simp [St.own,St.upd] at this
 have hsn:∀ l cs,Zl L l=some cs→s (ν l)=none:=fun l cs hl=>by
  cases hx:s (ν l) with
  | none=>rfl
  | some o=>have:=Yo (k:=n * sz) hok _ _ hx; rw [M.locSt l cs hl] at this; simp at this
 have mm:ZI g' ν w' tmps ρ L (s.own t' ((n + m) * sz)):=by
  refine ⟨a3,fun l cs hl=>(M.loc l cs hl).mono a2 (a6 (ν l) (M.loc l cs hl).lt (hne l cs hl)).1 (a6 (ν l) (M.loc l cs hl).lt (hne l cs hl)).2,fun l cs hl=>by rw [a2.keptEq]; exact M.locKept l cs hl,fun l cs hl=>?_,M.inj,fun t e he=>(M.env t e he).mono a2⟩
  cases t' with
  | tip b =>
   have:¬ ν l=b:=fun hb=>by
    rcases a7 b rfl with h1 | h1
    ·exact hne l cs hl (by rw [hb]; exact h1)
    ·have:=(M.loc l cs hl).lt; omega
   simp only [St.own,St.upd,this,if_false]; exact hsn l cs hl
  | _=>exact hsn l cs hl
 refine Kf hN hoo hdst hd hw hnd (v:=v') (w':=w') (e:=.d (.sl t' (n + m) sz (K6 n row row2))) ?_ a2 mm a5 (h t' a4 ops r k hr hkk)
 have hae:args = #[x',y']:=by apply Array.ext'; simpa using hargs
 have hats:∀ vs,Builtin.append_ ats oo.type vs=Builtin.append_ #[t1,t2] oo.type vs:=fun vs=>by
  unfold Builtin.append_; simp [ha1,ha2]
 unfold execOp
 simp only [hop,hae,resolve,invoke,builtin,Sem.run_bind,Sem.run_pure,Result.andThen_ok,List.map_toArray,List.map_cons,List.map_nil,hats,a1]
theorem Zr5 {g:G} {w:World} {v:Value} {b off cap sz:Nat} (h:Rep g w v (.msl b off 0 cap sz)):∃ news,Qd g w sz 0 news (fun _=>[])∧Zbo P w sz 0 v news:=by
 cases h with
 | mslx a _ _ _=>exact ⟨[],⟨by simp,fun i hi=>by omega,fun i j v d hi=>by omega,by simp⟩,fun w2=>by simp [Builtin.lenOf],fun w2 _=>by simp [Builtin.firstCells,loadCells,loadCellsFrom]⟩
 | msl _ _ _ _ _ hn hb=>exact ⟨[],⟨by simp,fun i hi=>by omega,fun i j v d hi=>by omega,by simp⟩,fun w2=>by simp [Builtin.lenOf],fun w2 _=>run_firstCells_some (P:=P) w2 sz 0 ⟨b,off,none⟩ 0 cap [] (by simp) (fun k v hv=>by simp at hv)⟩
theorem Zp7 {F:Fr P} {dk:List Zp} {ρ:Env} {L:Loc} {s:St} (t:Nat) {tk:Tok} {sz:Nat} {row:Nat→List D} (ht:Ye ρ t=some (.d (.sl tk 0 sz row))) (h1:ZD F dk ((t,.d .nilsl) :: ρ) L s)
  (h2:∀ b off cap,ZD F dk ((t,.d (.msl b off 0 cap sz)) :: ρ) L s):ZD F dk ρ L s:=by
 intro k hk g ν w tmps hN m
 have hr:Rep g w (tmps.getD t undef) (.sl tk 0 sz row):=m.env t _ ht
 have key:∀ d,Rep g w (tmps.getD t undef) d→ZI g ν w tmps ((t,.d d) :: ρ) L s:=fun d hd=>⟨m.st,m.loc,m.locKept,m.locSt,m.inj,fun t' e' he=>by
  simp only [Ye] at he
  split at he
  ·rename_i hx; subst hx; simp only [ZvD] at he; subst he; exact hd
  ·exact m.env t' e' he⟩
 generalize tmps.getD t undef=v at hr key
 cases hr with
 | sl0 a _ _ _ _ =>
  cases a with
  | none=>exact h1 k hk g ν w tmps hN (key _ .nilsl)
  | some a=>exact h2 0 0 0 k hk g ν w tmps hN (key _ (.mslx a 0 0 _))
 | sl b o n cap s row t f hl hc hp hr one ht hcap hb=>exact h2 b o cap k hk g ν w tmps hN (key _ (.msl _ _ _ _ _ hcap hb))
end
end Go.DL
namespace Go.DL
open Go
variable [Znt]
section
variable {P:Program}
theorem Zow {a:St} {q:Nat} {o:Y6} (h:a q=none):(a.or (St.single q o)).del q=a:=by
 funext b
 simp only [St.del]
 by_cases hb:b=q
 ·rw [if_pos hb,hb,h]
 ·rw [if_neg hb]
  cases ha:a b with
  | some x=>exact Z0 ha
  | none=>rw [YB ha]; exact Ze4 _ hb
theorem Kd.retM {F:Fr P} {rs:List RV} {Φ:Res→St→Prop} {dds:List DD} (hF:Kd F rs Φ dds) {q:Nat} {a:St} {dk:List Zp} {ρ:Env} {L:Loc} (hq:a q=none) (h:Unw P dds none a (Zii ρ L rs Φ)) :
  ZD (F.mark q) (.code .ret :: dk) ρ L (a.or (St.single q .dfr)) :=
 (hF.mark q).retU ⟨by rw [YB hq]; exact KD _ _,by rw [Zow hq]; exact h⟩
theorem Kd.ret1 {F:Fr P} {rs:List RV} {Φ:Res→St→Prop} (hF:Kd F rs Φ []) {q:Nat} {a:St} {dk:List Zp} {ρ:Env} {L:Loc} (hq:a q=none) {p:Prop} {ds:List D} (d:D) (s':St) (h1:KI ρ L a rs=some (p,ds)) (h2:p) (h3:(Jw ds).Le d) (h4:s'.sub a) (h5:Φ (.ret d) s') :
  ZD (F.mark q) (.code .ret :: dk) ρ L (a.or (St.single q .dfr)):=hF.retM hq ⟨p,ds,d,s',h1,h2,h3,h4,h5⟩
theorem Kd.fin1 {F:Fr P} {rs:List RV} {Φ:Res→St→Prop} (hF:Kd F rs Φ []) {q:Nat} {a:St} {ρ:Env} {L:Loc} (hq:a q=none) {p:Prop} {ds:List D} (d:D) (s':St) (h1:KI ρ L a rs=some (p,ds)) (h2:p) (h3:(Jw ds).Le d) (h4:s'.sub a) (h5:Φ (.ret d) s') :
  ZD (F.mark q) [] ρ L (a.or (St.single q .dfr)) :=
 (hF.mark q).finU ⟨by rw [YB hq]; exact KD _ _,by rw [Zow hq]; exact ⟨p,ds,d,s',h1,h2,h3,h4,h5⟩⟩
theorem Kd.pan1 {F:Fr P} {rs:List RV} {Φ:Res→St→Prop} (hF:Kd F rs Φ []) {q:Nat} {a:St} {ρ:Env} {L:Loc} {d:D} (hq:a q=none) (s':St) (h4:s'.sub a) (h5:Φ (.panic d) s'):Kw (F.mark q) ρ L d (a.or (St.single q .dfr)) :=
 (hF.mark q).panU ⟨by rw [YB hq]; exact KD _ _,by rw [Zow hq]; exact ⟨d,s',ZvM d,h4,h5⟩⟩
theorem Zl8 {a t:St} (h:Kr a t) {q:Nat} {o:Y6} (ht:t q=some o):a q=none:=h q o ht
end
end Go.DL
namespace Go.DL
open Go
variable [Znt]
section
variable {P:Program}
theorem Zbn {F:Fr P} {dk:List Zp} {ρ:Env} {L:Loc} {s:St} {b:Nat} {ds ds':List D} (h:s b=some (.cells ds)) (hl:LeC ds ds') (k:ZD F dk ρ L (s.upd b (.cells ds'))):ZD F dk ρ L s:=by
 intro kk hk g ν w tmps hN m
 have hc:Kn g w b ds:=m.st.obj b _ h
 exact k kk hk g ν w tmps hN ⟨m.st.updL (o:=.cells ds') (hc.le hl) (m.st.kept b _ h),m.loc,m.locKept,fun l cs hL=>by
  have hne:ν l≠b:=fun e=>by have:=m.locSt l cs hL; rw [e,h] at this; simp at this
  rw [ZvP _ _ hne]; exact m.locSt l cs hL,m.inj,m.env⟩
end
end Go.DL
namespace Go.DL
open Go
variable [Znt]
theorem Zsm {s:Nat} {cs:List D} {r:Nat→List D}:∀ {len:Nat},cs.length=len * s→(∀ i,i < len→part cs (i * s) s=r i)→cs=(List.range len).flatMap r:=by
 intro len hl hr
 have key:∀ k,k≤len→cs.take (k * s)=(List.range k).flatMap r:=by
  intro k
  induction k with
  | zero=>intro _; simp
  | succ k ih =>
   intro hk
   rw [List.range_succ,List.flatMap_append,← ih (by omega),Nat.add_mul,Nat.one_mul,List.take_add]
   congr 1
   simp only [List.flatMap_cons,List.flatMap_nil,List.append_nil]
   rw [← hr k hk]; rfl
 have:=key len (ZvR _)
 rw [← hl,ZvZ] at this; exact this
theorem Zmh {g:G} {w:World} (c:Array Value) (T:TypeId) (hf:∀ b,w.heap.size≤b→g.prot b=0∧¬ g.kept b):Zau g w g (w.drew.alloc (.cells c T)):={
 size:=by simp
 old b hb:=(by first | exact heap_alloc_old w.drew _ b hb | exact heap_alloc_old w.drew _ hb)
 prot b hb:=rfl
 fresh b hb:=by
  have:(w.drew.alloc (.cells c T)).heap.size=w.heap.size + 1:=by simp
  rw [this] at hb
  exact (hf b (by omega)).1
 kept:=rfl
 os:=rfl
 output:=rfl
 tape:=rfl }
section
variable {P:Program}
theorem ZtT {g:G} {w:World} {len s:Nat} {z:List D} {t e:TypeId} {parts:List (Nat × Value)} {ds:List D} (hu:P.underlying t=some (.slice e)) (hsz:YD P e=some s) (hz:ZaL P e=some z)
  (hdis:Jd len (parts.map (·.1))=true) (hzl:z.length=s) (hs0:0 < s) (hbig:len * s≤2 ^ 24) (hl0:0 < len) (hd:ZZ (Rep g w) (parts.map (·.2)) ds) (hp:Q2 s ds=true) :
  ∃ cv:Array Value,(Instr.buildSlice t len parts.toArray).run P w = .ok (.slice (some ⟨w.heap.size,0,none⟩) len len) (w.alloc (.cells cv e)) ∧
   ZZ (Rep g w) cv.toList ((List.range len).flatMap (Wm z ((parts.map (·.1)).zip ds)))∧∀ v∈cv,v.one1=true:=by
 obtain ⟨zv,hz1,hz2,hz3,ie,hie,hzz⟩:=J8 (g:=g) (w:=w) hz
 have hsize:ie.size=s:=by simpa [YD,hie] using hsz
 have hzlen:zv.cells.size=s:=by have:=hz2.len; simp at this; omega
 have hn:(parts.map (·.1)).length=ds.length:=by have:=hd.len; simpa using this
 let c0:Array Value:=(Array.range (len * s)).map (zv.cells[· % zv.cells.size]!)
 let d0:List D:=(List.range (len * s)).map fun i=>z.getD (i % s) .undef
 have hrep0:ZZ (Rep g w) c0.toList d0:=by
  refine Wa (by simp [c0,d0]) (fun i v d hv hd=>?_)
  simp only [c0,d0,Array.toList_map,Array.toList_range,List.getElem?_map,ZvO] at hv hd
  obtain ⟨a,ha,rfl⟩:=hv
  obtain ⟨b,hb,rfl⟩:=hd
  rw [ha] at hb
  simp only [ZvD] at hb
  subst hb
  have hlt:a % s < s:=Nat.mod_lt _ hs0
  refine hz2.get (a % s) _ _ ?_ ?_
  ·rw [hzlen]; simp [getElem!_pos,hzlen,hlt]
  ·simp [List.getD,hzl,hlt]
 have hone0:∀ v∈c0,v.one1=true:=fun v hv=>by
  simp only [c0,Array.mem_map] at hv
  obtain ⟨a,_,rfl⟩:=hv
  have hlt:a % zv.cells.size < zv.cells.size:=Nat.mod_lt _ (by omega)
  rw [getElem!_pos zv.cells (a % zv.cells.size) hlt]
  exact hz3 _ (Array.getElem_mem hlt)
 have hlen0:d0.length=len * s:=by simp [d0]
 obtain ⟨cs,hfill,hcl,hrows⟩:=Zho (parts.map (·.1)) ds d0 hdis hn hp hlen0
 obtain ⟨cv,hf1,hf2,hf3⟩:=ZfD (g:=g) (w:=w) (fun i=>some (i * s,s)) parts ((parts.map (·.1)).map fun i=>(i * s,s)) ds cs d0 c0 (fun i x q hx hq=>by
  simp only [List.map_map,List.getElem?_map,hx,Option.map_some,ZvD,Function.comp_def] at hq
  rw [← hq]) (by simp) hd hrep0 hone0 hfill
 have hpos:¬ len * s=0:=by simp [Nat.mul_eq_zero]; omega
 have hrun:=run_buildSlice (P:=P) w t e len parts.toArray cv ie zv hu hie hzz (by rw [hsize]; omega) (by rw [hsize]; exact hpos) (by rw [hsize]; exact hf1)
 refine ⟨cv,hrun,?_,hf3⟩
 have:cs=(List.range len).flatMap (Wm z ((parts.map (·.1)).zip ds)):=Zsm hcl fun i hi=>by
  rw [hrows i hi]
  have hzp:part d0 (i * s) s=z:=Zie hzl hs0 hi
  rw [hzp]
 rw [← this]; exact hf2
theorem ZtH {F:Fr P} {kp:Option (List Nat)} {dk:List Zp} {o:DOp} {os:List DOp} {ρ:Env} {L:Loc} {s:St} (hg:Zu ρ o.guard=some true) {len n:Nat} {z:List D} {is:List Nat} {xs:List Opd}
  (hk:o.k = .bsl len n z is xs) {p:Prop} {es:List E} {ds:List D} (ha:Wc ρ true xs=some (p,es)) (hds:K4 es=some ds) (hp:p) (hok:Q2 n ds=true) (hl0:0 < len)
  (h:∀ b,s b=none→DO F kp dk os (ZQ ρ o.dst (.d (.msl b 0 len len n))) L (s.upd b (.cells ((List.range len).flatMap (Wm z (is.zip ds)))))):DO F kp dk (o :: os) ρ L s:=by
 refine KL fun oo g ν w tmps ops i r k hoo hck hcg hdst hd hN m hr hkk=>?_
 have hw:=Y7 m hcg hg
 have hnd:=Wp hck (by rw [hk]; rfl)
 rw [hk] at hck
 obtain ⟨t,e,parts,hop,hu,hsz,hz,hxs,rfl,hdis,hzl,hs0,hbig⟩:=Zry hck
 have hargs:=ZcR m rfl F.ds hxs ha hp
 have hreps:=QU hargs hds
 obtain ⟨cv,h1,h2,h3⟩:=ZtT (P:=P) (g:=g) (w:=w) (parts:=parts.toList.map fun x=>(x.1,(Act.mk tmps F.ds).eval x.2)) hu hsz hz (by simpa [List.map_map,Function.comp_def] using hdis) hzl hs0 hbig hl0
  (by simpa [List.map_map,Function.comp_def] using hreps) hok
 have h2':ZZ (Rep g w) cv.toList ((List.range len).flatMap (Wm z ((parts.toList.map (·.1)).zip ds))):=by simpa [List.map_map,Function.comp_def] using h2
 have hgr:=Zah (g:=g) (w:=w) (.cells cv e) m.st.fresh
 have he:=hgr.ext m.st.fresh
 have hob:Qb g (w.alloc (.cells cv e)) w.heap.size (.cells ((List.range len).flatMap (Wm z ((parts.toList.map (·.1)).zip ds)))) :=
  ⟨(m.st.fresh _ (ZvR _)).1,_,e,QB w _,by rw [← h2'.len]; simp,fun i v d hv hd=>(h2'.get i v d (by simpa using hv) hd).mono he,h3⟩
 obtain ⟨hn,m'⟩:=m.newObj hgr hob
 have hrun:(execOp (Act.mk tmps F.ds).eval oo).run P w = .ok (.value (.slice (some ⟨w.heap.size,0,none⟩) len len)) (w.alloc (.cells cv e)):=by
  simp only [execOp,hop,Sem.run_bind]
  have e1:(parts.map fun x=>(x.1,(Act.mk tmps F.ds).eval x.2))=(parts.toList.map fun x=>(x.1,(Act.mk tmps F.ds).eval x.2)).toArray:=by apply Array.ext'; simp
  rw [e1,h1]
  rfl
 refine Kf (L':=L) hN hoo hdst hd hw hnd (e:=.d (.msl w.heap.size 0 len len n)) hrun he m' (Rep.msl _ _ _ _ _ (ZvR _) ?_) ?_
 ·unfold big
  have:len≤len * n:=Nat.le_mul_of_pos_right _ hs0
  omega
 ·exact h _ hn ops r k hr hkk
theorem ZtL {g:G} {w:World} {s:St} {sz m:Nat} {v1 v2:Value} {row row2:Nat→List D} {tT u ty e:TypeId} {tu:TypeDesc} {i:TypeInfo} {z:Value} (ht:P.underlying tT=some (.slice e)) (hu:P.underlying u=some tu) (hnu:∀ k,tu≠.int k)
    (hi:P.info? e=some i) (hz:i.zero=some z) (hsz:i.size=sz) (hzc:z.cells.size=sz) (hone:∀ x∈z.cells,x.one1=true) (h0:0 < sz) (hs:Wo g s w) (h1:Rep g w v1 (.sl .full 0 sz row)) {news:List Value} (hm:0 < m)
    (h2:Qd g w sz m news row2) (h3:Zbo P w sz m v2 news) (hb:m * i.bytes≤140737488355328) (hbig:m≤big) :
    ∃ (cap:Nat) (cv:Array Value),(Builtin.append_ #[tT,u] ty #[v1,v2]).run P w = .ok (.slice (some ⟨w.heap.size,0,none⟩) m cap) (w.drew.alloc (.cells cv e))∧m≤cap∧cap≤big∧cv.size=cap * sz∧(∀ v∈cv,v.one1=true) ∧
      ∀ (k:Nat) (v:Value) (d:D),cv[k]? = some v→((List.range m).flatMap row2++List.replicate ((cap - m) * sz) .any)[k]? = some d→Rep g w v d:=by
  subst hsz
  have grown:∀ base,v1 = .slice base 0 0→∃ (cap:Nat) (cv:Array Value),(Builtin.append_ #[tT,u] ty #[v1,v2]).run P w = .ok (.slice (some ⟨w.heap.size,0,none⟩) m cap) (w.drew.alloc (.cells cv e))∧m≤cap∧cap≤big∧cv.size=cap * i.size∧(∀ v∈cv,v.one1=true) ∧
      ∀ (k:Nat) (v:Value) (d:D),cv[k]? = some v→((List.range m).flatMap row2++List.replicate ((cap - m) * i.size) .any)[k]? = some d→Rep g w v d:=by
    intro base hv
    subst hv
    obtain ⟨olds,hr1,ho1,ho2⟩:=ZgD (P:=P) h1 h0
    have hne:olds=[]:=List.eq_nil_of_length_eq_zero (by simpa using hr1.len)
    subst hne
    have ho:=ho2
    have hrun:=Zjp (ty:=ty) (n:=0) (cap:=0) ht hu hnu hi hz h3 ho (by omega) (by simp only [big] at hbig; omega) (by rw [Nat.zero_add]; exact hb)
    rw [Nat.zero_add] at hrun
    have hge:=grownCap_ge w m 0 e
    have hle:=grownCap_le_maxLen w m 0 e (by simp only [big] at hbig; simp only [maxLen]; omega)
    refine ⟨_,_,hrun,hge,by simp only [maxLen] at hle; simp only [big]; omega,?_,fun v hv=>?_,fun k v d hv hd=>?_⟩
    · simp only [List.nil_append,List.size_toArray,ZvT,h2.len,Array.length_toList,size_zeroCells,hzc,← Nat.add_mul]
      congr 1; omega
    · simp only [List.nil_append,List.mem_toArray,List.mem_append] at hv
      rcases hv with hv | hv
      · exact h2.one v hv
      · simp only [Builtin.zeroCells,Array.mem_toList_iff] at hv
        first
        | (simp only [Array.mem_map,Array.mem_range] at hv
           obtain ⟨a,_,rfl⟩:=hv
           have hlt:a % z.cells.size < z.cells.size:=Nat.mod_lt _ (by omega)
           rw [getElem!_pos z.cells (a % z.cells.size) hlt]
           exact hone _ (Array.getElem_mem hlt))
    · simp only [List.nil_append,List.getElem?_toArray] at hv
      have hfl:((List.range m).flatMap row2).length=m * i.size:=by
        have:∀ k,k≤m→((List.range k).flatMap row2).length=k * i.size:=by
          intro k
          induction k with
          | zero=>intro _; simp
          | succ k ih =>
            intro hk
            rw [List.range_succ,List.flatMap_append,ZvT,ih (by omega)]
            simp [h2.rlen k hk,Nat.add_mul]
        exact this m (ZvR _)
      by_cases hk:k < m * i.size
      · rw [List.getElem?_append_left (by rw [h2.len]; exact hk)] at hv
        rw [List.getElem?_append_left (by rw [hfl]; exact hk)] at hd
        have hqr:k / i.size < m:=Nat.div_lt_of_lt_mul (by rw [Nat.mul_comm]; exact hk)
        have hmr:k % i.size < i.size:=Nat.mod_lt _ h0
        have e1:k / i.size * i.size + k % i.size=k:=by rw [Nat.mul_comm]; exact Nat.div_add_mod k i.size
        refine h2.rep (k / i.size) (k % i.size) v d hqr hmr (by rw [e1]; exact hv) ?_
        have key:∀ q,q≤m→∀ a b,a < q→b < i.size→((List.range q).flatMap row2)[a * i.size + b]? = (row2 a)[b]?:=by
          intro q
          induction q with
          | zero=>intro _ a b ha; omega
          | succ q ih =>
            intro hq a b ha hb
            have hlq:((List.range q).flatMap row2).length=q * i.size:=by
              have:∀ k,k≤m→((List.range k).flatMap row2).length=k * i.size:=by
                intro k
                induction k with
                | zero=>intro _; simp
                | succ k ih =>
                  intro hk
                  rw [List.range_succ,List.flatMap_append,ZvT,ih (by omega)]
                  simp [h2.rlen k hk,Nat.add_mul]
              exact this q (by omega)
            rw [List.range_succ,List.flatMap_append]
            by_cases haq:a < q
            · have:a * i.size + b < q * i.size:=by
                have:=Nat.mul_le_mul_right i.size (show a + 1≤q from haq)
                rw [Nat.add_mul,Nat.one_mul] at this; omega
              rw [List.getElem?_append_left (by rw [hlq]; exact this)]
              exact ih (by omega) a b haq hb
            · obtain rfl:a=q:=by omega
              rw [List.getElem?_append_right (by rw [hlq]; omega),hlq]
              simp
        rw [← key m (ZvR _) _ _ hqr hmr,e1]; exact hd
      · rw [List.getElem?_append_right (by rw [hfl]; omega),List.getElem?_replicate] at hd
        split at hd
        · simp only [ZvD] at hd; subst hd; exact .any v
        · simp at hd
  cases h1 with
  | sl0 a t s row htt=>exact grown a rfl
  | sl b o n cap sz row t f hl hc hp hr one htok hcap hb' =>
    simp only [Zil] at htok
    subst htok
    exact grown _ rfl
end
end Go.DL
namespace Go.DL
open Go
variable [Znt]
def Zp8 (g:G) (w:World) (b:Nat) (ds:List D):Prop :=
 ∃ (vs:Array Value) (T:TypeId),w.heap[b]? = some (.cells vs T (0,0))∧vs.size=ds.length∧(∀ (i:Nat) (v:Value) (d:D),vs[i]? = some v→ds[i]? = some d→Rep g w v d)∧(∀ v∈vs,v.one1=true)∧ds.length≤g.prot b
def K1 (t:St) (Ln:List Nat) (d d':D):Prop:=∀ g w v,(∀ b∈Ln,∀ ds,t b=some (.cells ds)→Zp8 g w b ds)→Rep g w v d→Rep g w v d'
inductive LdC (t:St) (Ln:List Nat):List D→List D→Prop where
 | nil:LdC t Ln [] []
 | cons {d d':D} {l l':List D} (h:K1 t Ln d d') (r:LdC t Ln l l'):LdC t Ln (d :: l) (d' :: l')
theorem K1.refl {t:St} {Ln:List Nat} (d:D):K1 t Ln d d:=fun _ _ _ _ h=>h
theorem LdC.len {t:St} {Ln:List Nat} {l l':List D} (h:LdC t Ln l l'):l.length=l'.length:=by
 induction h with
 | nil=>rfl
 | cons _ _ ih=>simp [ih]
theorem LdC.get {t:St} {Ln:List Nat} {l l':List D} (h:LdC t Ln l l') {i:Nat} {d':D} (hi:l'[i]? = some d'):∃ d,l[i]? = some d∧K1 t Ln d d':=by
 induction h generalizing i with
 | nil=>simp at hi
 | cons h1 _ ih =>
  cases i with
  | zero=>simp at hi; subst hi; exact ⟨_,rfl,h1⟩
  | succ i=>simpa using ih (by simpa using hi)
theorem K1.agg {t:St} {Ln:List Nat} {l l':List D} (h:LdC t Ln l l'):K1 t Ln (.agg l) (.agg l'):=by
 intro g w v hf hr
 cases hr with
 | agg vs _ hn hc one =>
  refine .agg vs _ (hn.trans h.len) (fun i v d hv hd=>?_) one
  obtain ⟨x,hx,hle⟩:=h.get hd
  exact hle g w v hf (hc i v x hv hx)
def St.delL (s:St) (Ln:List Nat):St:=fun b=>if b∈Ln then none else s b
def Zbk (g:G) (t:St) (Ln:List Nat):G:={ g with prot:=fun b=>if b∈Ln then (match t b with | some (.cells ds)=>ds.length | _=>0) else g.prot b }
theorem Zee {g:G} {w:World} {t:St} {Ln:List Nat} (hs:Wo g t w) (hL:∀ b∈Ln,∃ ds,t b=some (.cells ds)):Ext g w (Zbk g t Ln) w:={
 size:=ZvR _
 prot b:=by
  simp only [Zbk]
  split
  ·rename_i h
   obtain ⟨ds,hd⟩:=hL b h
   have:=(hs.obj b _ hd).1
   omega
  ·exact ZvR _
 cell _ _ _:=rfl
 hdr _ _ h:=h
 kept _ _:=rfl
 keptProt b hb:=by
  simp only [Zbk]
  split
  ·rename_i h
   obtain ⟨ds,hd⟩:=hL b h
   exact absurd hb (hs.kept b _ hd)
  ·rfl
 keptEq:=rfl
 os:=rfl
 output:=rfl
 tape:=rfl }
theorem ZpJ {g:G} {w:World} {t:St} {Ln:List Nat} (hs:Wo g t w) (hL:∀ b∈Ln,∃ ds,t b=some (.cells ds)):∀ b∈Ln,∀ ds,t b=some (.cells ds)→Zp8 (Zbk g t Ln) w b ds:=by
 intro b hb ds hd
 obtain ⟨hp,vs,T,h1,h2,h3,h4⟩:=hs.obj b _ hd
 exact ⟨vs,T,h1,h2,fun i v d hv hdd=>(h3 i v d hv hdd).mono (Zee hs hL),h4,by simp only [Zbk,if_pos hb,hd]; exact ZvR _⟩
section
variable {P:Program}
inductive SC (N:Nat→Prop):D→Prop where
 | int (k:IntKind) (n:Int):SC N (.int k n)
 | bool (b:Bool):SC N (.bool b)
 | str (l:List UInt8):SC N (.str l)
 | nilsl:SC N .nilsl
 | agg (cs:List D) (h:∀ c∈cs,SC N c):SC N (.agg cs)
 | tup (cs:List D) (h:∀ c∈cs,SC N c):SC N (.tup cs)
 | sl0 (t:Tok) (s:Nat) (row:Nat→List D):SC N (.sl t 0 s row)
 | tip (b n s:Nat) (row:Nat→List D) (hb:N b) (h:∀ i,i < n→∀ c∈row i,SC N c):SC N (.sl (.tip b) n s row)
 | ptr (b o:Nat):SC N (.ptr b o)
 | msl (b o n cap s:Nat):SC N (.msl b o n cap s)
 | fn (f:Fn) (a b:List D) (ha:∀ c∈a,SC N c) (hb:∀ c∈b,SC N c):SC N (.fn f a b)
 | nilptr:SC N .nilptr
 | map (b:Nat):SC N (.map b)
 | nilmap:SC N .nilmap
 | nilfn:SC N .nilfn
 | niliface:SC N .niliface
 | undef:SC N .undef
theorem SC.rep {N:Nat→Prop} {d:D} (h:SC N d):∀ {g g':G} {w:World} {v:Value},(∀ b,N b→g.prot b≤g'.prot b)→Rep g w v d→Rep g' w v d:=by
 induction h with
 | int k n=>intro g g' w v _ hr; cases hr with | int _ _ h=>exact .int k n h
 | bool b=>intro g g' w v _ hr; cases hr; exact .bool b
 | str l=>intro g g' w v _ hr; cases hr with | str s _ h hb=>exact .str s l h hb
 | nilsl=>intro g g' w v _ hr; cases hr; exact .nilsl
 | agg cs _ ih =>
  intro g g' w v hp hr
  cases hr with
  | agg vs _ hn hc one=>exact .agg vs cs hn (fun i v d hv hd=>ih d (List.mem_of_getElem? hd) hp (hc i v d hv hd)) one
 | tup cs _ ih =>
  intro g g' w v hp hr
  cases hr with
  | tup vs _ hn hc=>exact .tup vs cs hn (fun i v d hv hd=>ih d (List.mem_of_getElem? hd) hp (hc i v d hv hd))
 | sl0 t s row =>
  intro g g' w v hp hr
  cases hr with
  | sl0 _ _ _ _ ht=>exact .sl0 _ t s row ht
  | sl b o n cap sz _ t f hl hc hpp hrr one ht hcap hb =>
   exact .sl b o 0 cap s row t f hl hc (fun i j hi=>by omega) (fun i j d hi=>by omega) one ht hcap hb
 | tip b n s row hb _ ih =>
  intro g g' w v hp hr
  cases hr with
  | sl0 _ _ _ _ ht=>exact .sl0 _ _ s row ht
  | sl b' o n cap sz _ t f hl hc hpp hrr one ht hcap hbig =>
   have hbb:b'=b:=ht.1
   subst hbb
   exact .sl b' o n cap s row (.tip b') f hl hc (fun i j hi hj=>Nat.lt_of_lt_of_le (hpp i j hi hj) (hp _ hb)) (fun i j d hi hd=>ih i hi d (List.mem_of_getElem? hd) hp (hrr i j d hi hd)) one ht hcap hbig
 | ptr b o=>intro g g' w v _ hr; cases hr; exact .ptr b o
 | msl b o n cap s=>intro g g' w v _ hr; cases hr with | msl _ _ _ _ _ h hb=>exact .msl b o n cap s h hb | mslx a _ _ _=>exact .mslx a _ _ _
 | fn f a b _ _ iha ihb =>
  intro g g' w v hp hr
  cases hr with
  | fn _ fs cs _ _ hnf hnc hf hc=>exact .fn f fs cs a b hnf hnc (fun i v d hv hd=>iha d (List.mem_of_getElem? hd) hp (hf i v d hv hd)) (fun i v d hv hd=>ihb d (List.mem_of_getElem? hd) hp (hc i v d hv hd))
 | nilptr=>intro g g' w v _ hr; cases hr; exact .nilptr
 | map b=>intro g g' w v _ hr; cases hr; exact .map b
 | nilmap=>intro g g' w v _ hr; cases hr; exact .nilmap
 | nilfn=>intro g g' w v _ hr; cases hr; exact .nilfn
 | niliface=>intro g g' w v _ hr; cases hr; exact .niliface
 | undef=>intro g g' w v _ hr; cases hr; exact .undef
def SCO (N:Nat→Prop):Y6→Prop
 | .cells ds=>∀ d∈ds,SC N d
 | .map es=>∀ e∈es,SC N e.1∧SC N e.2
 | .tip _=>True
 | .dfr=>True
 | _=>False
theorem SCO.ok {N:Nat→Prop} {o:Y6} (h:SCO N o) {g g':G} {w:World} {b:Nat} (hp:∀ b,N b→g.prot b≤g'.prot b) (hpb:g'.prot b=g.prot b) (hr:Qb g w b o):Qb g' w b o:=by
 cases o with
 | cells ds =>
  obtain ⟨h0,vs,T,h1,h2,h3,h4⟩:=hr
  exact ⟨hpb.trans h0,vs,T,h1,h2,fun i v d hv hd=>(h d (List.mem_of_getElem? hd)).rep hp (h3 i v d hv hd),h4⟩
 | map es =>
  obtain ⟨h0,en,cl,h1,h2,h3,h4,h5,h6⟩:=hr
  exact ⟨hpb.trans h0,en,cl,h1,h2,fun i x d hv hd=>(h d (List.mem_of_getElem? hd)).1.rep hp (h3 i x d hv hd),fun i x d hv hd=>(h d (List.mem_of_getElem? hd)).2.rep hp (h4 i x d hv hd),h5,h6⟩
 | tip k =>
  obtain ⟨h0,x⟩:=hr
  exact ⟨hpb.trans h0,x⟩
 | dfr=>exact ⟨hpb.trans hr.1,hr.2⟩
 | mapE _ _ _ _=>exact h.elim
 | loop _ _=>exact h.elim
def SCR (N:Nat→Prop):Res→Prop
 | .ret d=>SC N d
 | .panic d=>SC N d
theorem ZZ.ldC {g:G} {w:World} {t:St} {Ln:List Nat} (hf:∀ b∈Ln,∀ ds,t b=some (.cells ds)→Zp8 g w b ds) {vs:List Value} {a a':List D} (h:ZZ (Rep g w) vs a) (hl:LdC t Ln a a'):ZZ (Rep g w) vs a':=by
 induction hl generalizing vs with
 | nil=>cases h; exact .nil
 | cons h1 _ ih=>cases h with | cons h2 h3=>exact .cons (h1 _ _ _ hf h2) (ih h3)
theorem ZK.lend {f:FuncId} {args args':List D} {t:St} {Ln:List Nat} {Φ:Res→St→Prop} (hL:∀ b∈Ln,∃ ds,t b=some (.cells ds)) (hl:LdC t Ln args args')
  (h:ZK P f args' (fun _=>none) Φ) (hΦ:∀ r S,Φ r S→SCR (fun b=>(S b).isSome=true) r∧∀ b o,S b=some o→SCO (fun b=>(S b).isSome=true) o) :
  ZK P f args t fun r S=>∃ S',Φ r S'∧Kr S' t∧S=S'.or t:=by
 refine ⟨h.1,fun g w vs hs ha=>?_⟩
 have hx:=Zee hs hL
 have hat:=ZpJ hs hL
 have ha1:ZZ (Rep (Zbk g t Ln) w) vs args':=ZZ.ldC hat (ha.imp fun _ _ h=>Rep.mono h hx) hl
 have hst:Wo ((Zbk g t Ln).keep fun b=>g.kept b∨(t b).isSome=true) (fun _=>none) w:=by
  refine ⟨fun b o hb=>by simp at hb,fun b o hb=>by simp at hb,fun b hb=>?_,fun n cs hc=>K9 ((hs.tabs n cs hc).mono hx)⟩
  have h1:=hs.fresh b hb
  have htb:t b=none:=by
   cases htb:t b with
   | none=>rfl
   | some o=>have:=(hs.obj b o htb).lt; omega
  have hbL:b ∉ Ln:=fun hm=>by obtain ⟨ds,hd⟩:=hL b hm; rw [htb] at hd; simp at hd
  exact ⟨by show (Zbk g t Ln).prot b=0; simp only [Zbk,if_neg hbL]; exact h1.1,fun hk=>by rcases hk with hk | hk; exact h1.2 hk; rw [htb] at hk; simp at hk⟩
 refine (h.2 _ w vs hst (ha1.imp fun _ _ h=>K9 h)).mono fun e w' hp=>?_
 obtain ⟨g',S',r,he,hS,hr,hq⟩:=hp
 have hkeq:=he.keptEq
 obtain ⟨hscr,hsco⟩:=hΦ r S' hq
 have hd':Kr S' t:=fun b o hb=>by
  cases hsb:S' b with
  | none=>rfl
  | some x=>exact absurd (by rw [hkeq]; exact .inr (by rw [hb]; rfl)) (hS.kept b x hsb)
 have hnL:∀ b,(S' b).isSome=true→b ∉ Ln:=fun b hb hm=>by
  obtain ⟨ds,hd⟩:=hL b hm
  rw [hd' b _ hd] at hb; simp at hb
 let g2:G:={ prot:=fun b=>if b∈Ln then 0 else g'.prot b,kept:=g.kept }
 have hp2:∀ b,(S' b).isSome=true→g'.prot b≤g2.prot b:=fun b hb=>by simp only [g2,if_neg (hnL b hb)]; exact ZvR _
 have hf:∀ b,b ∉ Ln→(Zbk g t Ln).prot b=g.prot b:=fun b hb=>by simp only [Zbk,if_neg hb]
 have hg0:∀ b,b∈Ln→g.prot b=0:=fun b hb=>by obtain ⟨ds,hd⟩:=hL b hb; exact (hs.obj b _ hd).1
 have he2:Ext g w g2 w':=by
  refine ⟨he.size,fun b=>?_,fun b o ho=>?_,he.hdr,fun b hb=>he.kept b (.inl hb),fun b hb=>?_,rfl,he.os,he.output,he.tape⟩
  ·simp only [g2]
   split
   ·rename_i hb; rw [hg0 b hb]; exact ZvR _
   ·rename_i hb; rw [← hf b hb]; exact he.prot b
  ·have hb:b ∉ Ln:=fun hb=>by rw [hg0 b hb] at ho; omega
   exact he.cell b o (by show o < (Zbk g t Ln).prot b; rw [hf b hb]; exact ho)
  ·have hbL:b ∉ Ln:=fun hm=>by obtain ⟨ds,hd⟩:=hL b hm; exact hs.kept b _ hd hb
   simp only [g2,if_neg hbL]
   rw [← hf b hbL]; exact he.keptProt b (.inl hb)
 have hg'0:∀ b,w'.heap.size≤b→g'.prot b=0∧¬ g'.kept b:=fun b hb=>hS.fresh b hb
 refine ⟨g2,S'.or t,r,he2,⟨fun b o hb=>?_,fun b o hb=>?_,fun b hb=>?_,fun n cs hc=>(hs.tabs n cs hc).mono he2⟩,?_,S',hq,hd',rfl⟩
 ·cases hsb:S' b with
  | some x =>
   rw [Z0 hsb] at hb; cases hb
   have hbN:(S' b).isSome=true:=by rw [hsb]; rfl
   exact (hsco b _ hsb).ok hp2 (by simp only [g2,if_neg (hnL b hbN)]) (hS.obj b _ hsb)
  | none =>
   rw [YB hsb] at hb
   have hk:g.kept b∨(t b).isSome=true:=.inr (by rw [hb]; rfl)
   refine (hs.obj b o hb).mono he2 (he.kept b hk) ?_
   by_cases hbL:b∈Ln
   ·simp only [g2,if_pos hbL]; exact (hg0 b hbL).symm
   ·simp only [g2,if_neg hbL]; rw [← hf b hbL]; exact he.keptProt b hk
 ·cases hsb:S' b with
  | some x=>exact fun hk=>hS.kept b x hsb (by rw [hkeq]; exact .inl hk)
  | none=>rw [YB hsb] at hb; exact hs.kept b o hb
 ·have:=hS.fresh b hb
  refine ⟨?_,fun hk=>this.2 (by rw [hkeq]; exact .inl hk)⟩
  simp only [g2]
  split
  ·rfl
  ·exact this.1
 ·cases e <;> cases r <;> simp only [Zqd] at hr ⊢
  ·exact SC.rep hscr hp2 hr
  ·obtain ⟨v,h1,h2⟩:=hr; exact ⟨v,h1,SC.rep hscr hp2 h2⟩
end
end Go.DL
namespace Go.DL
open Go
variable [Znt]
set_option linter.defProp false
def Eqs:=ZvI (ZvI (ZvI (ZvI (ZvI (ZvI (ZvI (ZvI @Option.mem_def.{0} @ZvD.{0}) (ZvI @forall_eq'.{1} @forall_eq'.{0})) (ZvI (ZvI @false_implies @decide_true) (ZvI (@Int.sub_zero) (ZvI @Int.sub_self @ZuR)))) (ZvI (ZvI (ZvI @Zvm @ZuS) (ZvI (@ZuT) (ZvI @ZuQ @and_assoc))) (ZvI (ZvI @Int.toNat_zero @Bool.not_not) (ZvI (@Zt6) (ZvI @ZuV @implies_true.{1}))))) (ZvI (ZvI (ZvI (ZvI @implies_true.{0} @true_and) (ZvI (@and_true) (ZvI @and_self @List.drop_zero.{0}))) (ZvI (ZvI @List.drop_succ_cons.{0} @List.take_succ_cons.{0}) (ZvI (@List.take_zero.{0}) (ZvI @List.take_nil.{0} @Option.map_some.{0,0})))) (ZvI (ZvI (ZvI @Option.map_none.{0,0} @Option.isSome_some.{0}) (ZvI (@Option.isSome_none.{0}) (ZvI @Option.getD_some.{0} @Option.getD_none.{0}))) (ZvI (ZvI @List.flatMap_cons.{0,0} @List.flatMap_nil.{0,0}) (ZvI (@List.append_nil.{0}) (ZvI @List.nil_append.{0} @List.cons_append.{0})))))) (ZvI (ZvI (ZvI (ZvI (ZvI @List.getElem?_cons_zero.{0} @List.getElem?_cons_succ.{0}) (ZvI (@Zv0.{0}) (ZvI @List.length_nil.{0} @Nat.zero_add))) (ZvI (ZvI @Nat.add_zero @Int.toNat_natCast) (ZvI (@forall_const.{1}) (ZvI @forall_const.{0} @imp_self)))) (ZvI (ZvI (ZvI @Bool.and_true @ZvU) (ZvI (@Bool.cond_false_right) (ZvI @Bool.false_eq_true @Bool.not_true))) (ZvI (ZvI @Bool.not_false @if_true_right) (ZvI (@Zhi.eq_1) (ZvI @Zhi.eq_2 @Zga.eq_1))))) (ZvI (ZvI (ZvI (ZvI @Zga.eq_2 @Zhv.eq_1) (ZvI (@Zhv.eq_2) (ZvI @ZkL.eq_1 @ZkL.eq_2))) (ZvI (ZvI @ZU.eq_1 @QV.eq_1) (ZvI (@QV.eq_2) (ZvI @QV.eq_3 @YS.eq_1)))) (ZvI (ZvI (ZvI @QM.eq_1 @KE.eq_1) (ZvI (@QT.eq_1) (ZvI @QT.eq_2 @QT.eq_3))) (ZvI (ZvI @QT.eq_4 @Kg.eq_1) (ZvI (@Kg.eq_2) (ZvI @Kg.eq_3 @Kg.eq_4))))))) (ZvI (ZvI (ZvI (ZvI (ZvI (ZvI @Kg.eq_6 @qv.eq_51) (ZvI @qv.eq_52 @qv.eq_53)) (ZvI (ZvI @Kg.eq_5 @WB.eq_1) (ZvI (@WB.eq_2) (ZvI @WB.eq_3 @WB.eq_4)))) (ZvI (ZvI (ZvI @WB.eq_5 @WB.eq_6) (ZvI (@WB.eq_7) (ZvI @Kl.eq_1 @QR.eq_1))) (ZvI (ZvI @QR.eq_2 @QR.eq_3) (ZvI (@WP.eq_1) (ZvI @WP.eq_2 @Qq.eq_1))))) (ZvI (ZvI (ZvI (ZvI @Zbl.eq_1 @ZaA.eq_1) (ZvI (@Zr2) (ZvI @List.map_cons.{0,0} @List.map_nil.{0,0}))) (ZvI (ZvI @Jg.eq_1 @Qt.eq_1) (ZvI (@Qt.eq_2) (ZvI @Qt.eq_3 @KJ.eq_1)))) (ZvI (ZvI (ZvI @KJ.eq_2 @Zap.eq_1) (ZvI (@Zap.eq_2) (ZvI @Zap.eq_3 @Zap.eq_4))) (ZvI (ZvI @Zap.eq_5 @Zap.eq_6) (ZvI (@Zap.eq_7) (ZvI @Zap.eq_8 @Zap.eq_9)))))) (ZvI (ZvI (ZvI (ZvI (ZvI @Zap.eq_10 @Zap.eq_11) (ZvI (@Zu.eq_1) (ZvI @Zu.eq_2 @ZV.eq_1))) (ZvI (ZvI @ZV.eq_2 @Wc.eq_1) (ZvI (@Wc.eq_2) (ZvI @Ye.eq_1 @Ye.eq_2)))) (ZvI (ZvI (ZvI @qv.eq_1 @qv.eq_2) (ZvI (@qv.eq_3) (ZvI @qv.eq_4 @qv.eq_5))) (ZvI (ZvI @qv.eq_6 @qv.eq_7) (ZvI (@qv.eq_8) (ZvI @qv.eq_9 @qv.eq_10))))) (ZvI (ZvI (ZvI (ZvI @qv.eq_11 @qv.eq_12) (ZvI (@qv.eq_13) (ZvI @qv.eq_14 @qv.eq_15))) (ZvI (ZvI @qv.eq_16 @qv.eq_17) (ZvI (@qv.eq_18) (ZvI @qv.eq_19 @qv.eq_20)))) (ZvI (ZvI (ZvI @qv.eq_21 @qv.eq_22) (ZvI (@qv.eq_23) (ZvI @qv.eq_24 @qv.eq_25))) (ZvI (ZvI @qv.eq_26 @qv.eq_27) (ZvI (@qv.eq_28) (ZvI @qv.eq_29 @qv.eq_30)))))))) (ZvI (ZvI (ZvI (ZvI (ZvI (ZvI (ZvI @qv.eq_31 @qv.eq_32) (ZvI @qv.eq_33 @qv.eq_34)) (ZvI (ZvI @qv.eq_35 @qv.eq_36) (ZvI (@qv.eq_37) (ZvI @qv.eq_38 @qv.eq_39)))) (ZvI (ZvI (ZvI @qv.eq_40 @qv.eq_41) (ZvI (@qv.eq_42) (ZvI @qv.eq_43 @qv.eq_44))) (ZvI (ZvI @qv.eq_45 @qv.eq_46) (ZvI (@qv.eq_47) (ZvI @qv.eq_48 @qv.eq_49))))) (ZvI (ZvI (ZvI (ZvI @qv.eq_50 @ZQ.eq_1) (ZvI (@ZQ.eq_2) (ZvI @kept.eq_1 @kept.eq_2))) (ZvI (ZvI @Zm4.eq_1 @Zm4.eq_2) (ZvI (@Wy.eq_1) (ZvI @Wy.eq_2 @ZbI.eq_1)))) (ZvI (ZvI (ZvI @ZaJ.eq_1 @ZaJ.eq_2) (ZvI (@Q1.eq_1) (ZvI @Q1.eq_2 @Q1.eq_3))) (ZvI (ZvI @Zl.eq_1 @Zl.eq_2) (ZvI (@Zay.eq_1) (ZvI @Zc8.eq_1 @Zbg.eq_1)))))) (ZvI (ZvI (ZvI (ZvI (ZvI @Zbg.eq_2 @Zaw.eq_1) (ZvI (@Zaw.eq_2) (ZvI @Zaw.eq_3 @Zaw.eq_4))) (ZvI (ZvI @Zaw.eq_5 @Jy.eq_1) (ZvI (@Jy.eq_2) (ZvI @Jy.eq_3 @Jy.eq_4)))) (ZvI (ZvI (ZvI @Jy.eq_5 @Jy.eq_6) (ZvI (@Jy.eq_7) (ZvI @Jy.eq_8 @Jy.eq_9))) (ZvI (ZvI @Jy.eq_10 @Jy.eq_11) (ZvI (@Jy.eq_12) (ZvI @Jy.eq_13 @Jy.eq_14))))) (ZvI (ZvI (ZvI (ZvI @Jy.eq_15 @Jy.eq_16) (ZvI (@Jy.eq_17) (ZvI @Zdw.eq_1 @Zdw.eq_2))) (ZvI (ZvI @Zdw.eq_3 @Zdw.eq_4) (ZvI (@Zdw.eq_5) (ZvI @Zdw.eq_6 @Zdw.eq_7)))) (ZvI (ZvI (ZvI @Zdw.eq_8 @eqO.eq_1) (ZvI (@eqO.eq_2) (ZvI @eqO.eq_3 @WV.eq_1))) (ZvI (ZvI @WV.eq_2 @WV.eq_3) (ZvI (@WV.eq_4) (ZvI @WV.eq_5 @WV.eq_6))))))) (ZvI (ZvI (ZvI (ZvI (ZvI (ZvI @WV.eq_7 @WV.eq_8) (ZvI @WV.eq_9 @WV.eq_10)) (ZvI (ZvI @WV.eq_11 @WV.eq_12) (ZvI (@WV.eq_13) (ZvI @WV.eq_14 @WV.eq_15)))) (ZvI (ZvI (ZvI @KN.eq_1 @KN.eq_2) (ZvI (@Wg.eq_1) (ZvI @Wg.eq_2 @Wg.eq_3))) (ZvI (ZvI @Wg.eq_4 @K3.eq_1) (ZvI (@K3.eq_2) (ZvI @K3.eq_3 @K3.eq_4))))) (ZvI (ZvI (ZvI (ZvI @Qe.eq_1 @Qe.eq_2) (ZvI (@Qe.eq_3) (ZvI @Qe.eq_4 @ZC.eq_1))) (ZvI (ZvI @K4.eq_1 @K4.eq_2) (ZvI (@K4.eq_3) (ZvI @cellsOf.eq_1 @cellsOf.eq_2)))) (ZvI (ZvI (ZvI @Jb.eq_1 @Jb.eq_2) (ZvI (@Jb.eq_3) (ZvI @Jb.eq_4 @Jb.eq_5))) (ZvI (ZvI @Qi.eq_1 @Qi.eq_2) (ZvI (@Qi.eq_3) (ZvI @Qi.eq_4 @Za8.eq_1)))))) (ZvI (ZvI (ZvI (ZvI (ZvI @Za8.eq_2 @Za8.eq_3) (ZvI (@Q2.eq_1) (ZvI @Q2.eq_2 @Wm.eq_1))) (ZvI (ZvI @Wm.eq_2 @QZ.eq_1) (ZvI (@QZ.eq_2) (ZvI @K0.eq_1 @K0.eq_2)))) (ZvI (ZvI (ZvI @K0.eq_3 @K0.eq_4) (ZvI (@Za3.eq_1) (ZvI @Za3.eq_2 @Za3.eq_3))) (ZvI (ZvI @Za3.eq_4 @ZbL.eq_1) (ZvI (@ZbL.eq_2) (ZvI @ZbL.eq_3 @ZbL.eq_4))))) (ZvI (ZvI (ZvI (ZvI @part.eq_1 @qm.eq_1) (ZvI (@qi.eq_1) (ZvI @qb.eq_1 @ql.eq_1))) (ZvI (ZvI @qL.eq_1 @qa.eq_1) (ZvI (@qx.eq_1) (ZvI @qX.eq_1 @qk.eq_1)))) (ZvI (ZvI (ZvI @qd.eq_1 @qe.eq_1) (ZvI (@qo.eq_1) (ZvI @qO.eq_1 @qf.eq_1))) (ZvI (ZvI @qB.eq_1 @qS.eq_1) (ZvI (@qs.eq_1) (ZvI @qy.eq_1 @qn.eq_1))))))))
end Go.DL
namespace Go.DL
open Go
abbrev Str:=List UInt8
structure YA where
 field:Str
 factor:Int
deriving Inhabited,DecidableEq
structure WZ where
 base:Int
 terms:List YA
deriving Inhabited,DecidableEq
structure WK where
 low:Int
 high:Int
 of:Str
deriving Inhabited,DecidableEq
structure Fld where
 name:Str
 kind:Int
 bits:Int
 little:Bool
 loose:Bool
 low:Int
 high:Int
 size:WZ
 of:Str
 tag:Str
 from_:Str
 cases:List WK
 check:Int
 key:Int
deriving Inhabited,DecidableEq
structure Msg where
 name:Str
 fields:List Fld
deriving Inhabited,DecidableEq
structure Dfn where
 name:Str
 msgs:List Msg
 start:Str
deriving Inhabited,DecidableEq
def slD {α:Type} [Inhabited α] (n:Nat) (f:α→List D) (l:List α):D:=.sl .none l.length n (fun i=>f (l.getD i default))
def YA.cells (t:YA):List D:=[.str t.field,.int .i64 t.factor]
def WK.cells (c:WK):List D:=[.int .i64 c.low,.int .i64 c.high,.str c.of]
def WS (l:List YA):D:=slD 2 YA.cells l
def Qg (l:List WK):D:=slD 3 WK.cells l
def WZ.cells (s:WZ):List D:=[.int .i64 s.base,WS s.terms]
def Fld.cells (f:Fld):List D:=[.str f.name,.int .i64 f.kind,.int .i64 f.bits,.bool f.little,.bool f.loose,.int .i64 f.low,.int .i64 f.high,.int .i64 f.size.base,WS f.size.terms,.str f.of,.str f.tag,.str f.from_,Qg f.cases,.int .i64 f.check,.int .i64 f.key]
def ZE (l:List Fld):D:=slD 15 Fld.cells l
def Msg.cells (m:Msg):List D:=[.str m.name,ZE m.fields]
def KC (l:List Msg):D:=slD 2 Msg.cells l
def Dfn.cells (d:Dfn):List D:=[.str d.name,KC d.msgs,.str d.start]
theorem QW {α:Type} [Inhabited α] {n:Nat} {f:α→List D} {l:List α} (h:DWf (slD n f l)):l.length≤big∧∀ x∈l,∀ c∈f x,DWf c:=by
 obtain ⟨h1,h2,h3⟩:=h.sl_inv
 refine ⟨h1,fun x hx c hc=>?_⟩
 obtain ⟨i,hi,rfl⟩:=ZvX hx
 exact h3 i hi c (by simpa [List.getD,hi] using hc)
structure YA.Wf (t:YA):Prop where
 field:t.field.length≤big
 factor:inR .i64 t.factor
structure WK.Wf (c:WK):Prop where
 low:inR .i64 c.low
 high:inR .i64 c.high
 of:c.of.length≤big
structure WZ.Wf (s:WZ):Prop where
 base:inR .i64 s.base
 nterms:s.terms.length≤big
 terms:∀ t∈s.terms,t.Wf
structure Fld.Wf (f:Fld):Prop where
 name:f.name.length≤big
 kind:inR .i64 f.kind
 bits:inR .i64 f.bits
 low:inR .i64 f.low
 high:inR .i64 f.high
 size:f.size.Wf
 of:f.of.length≤big
 tag:f.tag.length≤big
 from_:f.from_.length≤big
 ncases:f.cases.length≤big
 cases:∀ c∈f.cases,c.Wf
 check:inR .i64 f.check
 key:inR .i64 f.key
structure Msg.Wf (m:Msg):Prop where
 name:m.name.length≤big
 nfields:m.fields.length≤big
 fields:∀ f∈m.fields,f.Wf
structure Dfn.Wf (d:Dfn):Prop where
 name:d.name.length≤big
 nmsgs:d.msgs.length≤big
 msgs:∀ m∈d.msgs,m.Wf
 start:d.start.length≤big
theorem YA.wf_of {t:YA} (h:∀ c∈t.cells,DWf c):t.Wf:=by
 simp only [YA.cells,List.mem_cons,List.not_mem_nil,or_false,forall_eq_or_imp,forall_eq] at h
 exact ⟨h.1.str_inv,h.2.int_inv⟩
theorem WK.wf_of {t:WK} (h:∀ c∈t.cells,DWf c):t.Wf:=by
 simp only [WK.cells,List.mem_cons,List.not_mem_nil,or_false,forall_eq_or_imp,forall_eq] at h
 exact ⟨h.1.int_inv,h.2.1.int_inv,h.2.2.str_inv⟩
theorem ZoV {l:List YA} (h:DWf (WS l)):l.length≤big∧∀ t∈l,t.Wf:=⟨(QW h).1,fun t ht=>YA.wf_of ((QW h).2 t ht)⟩
theorem ZnE {l:List WK} (h:DWf (Qg l)):l.length≤big∧∀ t∈l,t.Wf:=⟨(QW h).1,fun t ht=>WK.wf_of ((QW h).2 t ht)⟩
theorem Fld.wf_of {f:Fld} (h:∀ c∈f.cells,DWf c):f.Wf:=by
 simp only [Fld.cells,List.mem_cons,List.not_mem_nil,or_false,forall_eq_or_imp,forall_eq] at h
 obtain ⟨h1,h2,h3,h4,h5,h6,h7,h8,h9,h10,h11,h12,h13,h14,h15⟩:=h
 exact ⟨h1.str_inv,h2.int_inv,h3.int_inv,h6.int_inv,h7.int_inv,⟨h8.int_inv,(ZoV h9).1,(ZoV h9).2⟩,h10.str_inv,h11.str_inv,h12.str_inv,(ZnE h13).1,(ZnE h13).2,h14.int_inv,h15.int_inv⟩
theorem Zhn {l:List Fld} (h:DWf (ZE l)):l.length≤big∧∀ t∈l,t.Wf:=⟨(QW h).1,fun t ht=>Fld.wf_of ((QW h).2 t ht)⟩
theorem Msg.wf_of {m:Msg} (h:∀ c∈m.cells,DWf c):m.Wf:=by
 simp only [Msg.cells,List.mem_cons,List.not_mem_nil,or_false,forall_eq_or_imp,forall_eq] at h
 exact ⟨h.1.str_inv,(Zhn h.2).1,(Zhn h.2).2⟩
theorem ZpO {l:List Msg} (h:DWf (KC l)):l.length≤big∧∀ t∈l,t.Wf:=⟨(QW h).1,fun t ht=>Msg.wf_of ((QW h).2 t ht)⟩
theorem Dfn.wf_of {m:Dfn} (h:∀ c∈m.cells,DWf c):m.Wf:=by
 simp only [Dfn.cells,List.mem_cons,List.not_mem_nil,or_false,forall_eq_or_imp,forall_eq] at h
 exact ⟨h.1.str_inv,(ZpO h.2.1).1,(ZpO h.2.1).2,h.2.2.str_inv⟩
theorem ZuO {s:Fld} (h:DWf (.agg s.cells)):s.Wf:=Fld.wf_of h.agg_inv
theorem Zot {s:Msg} (h:DWf (.agg s.cells)):s.Wf:=Msg.wf_of h.agg_inv
theorem ZrH {s:Dfn} (h:DWf (.agg s.cells)):s.Wf:=Dfn.wf_of h.agg_inv
theorem Ql {α:Type} [Inhabited α] {l:List α} {i:Nat} (h:i < l.length):l.getD i default∈l:=by
 simp [List.getD,h]
end Go.DL
namespace Go.DL
open Go
variable [Znt]
section
variable {P:Program}
theorem ZtG {F:Fr P} {kp:Option (List Nat)} {dk:List Zp} {o:DOp} {os:List DOp} {ρ:Env} {L:Loc} {s:St} (hg:o.guard=none) {x:Opd} (hk:o.k = .box x) {t:Nat} (hdt:o.dst=some t)
  {p:Prop} {v:D} (ha:ZV ρ true x=some (p,.d v)) (hp:p) (hok:Qi v=true) (h:∀ b,s b=none→DO F kp dk os ((t,.d (.ptr b 0)) :: ρ) L (s.upd b (.cells (cellsOf v)))):DO F kp dk (o :: os) ρ L s:=by
 refine KL fun oo g ν w tmps ops i r k hoo hck hcg hdst hd hN m hr hkk=>?_
 have hw:=Y7 m hcg (c:=true) (by rw [hg]; rfl)
 have hnd:=Wp hck (by rw [hk]; rfl)
 rw [hk] at hck
 obtain ⟨e,x',hop,hx'⟩:=Zrx hck
 have hrep:Rep g w _ v:=Y2 m hx' rfl ha hp F.ds
 generalize hvv:(Act.mk tmps F.ds).eval x'=vv at hrep
 obtain ⟨hc1,hc2⟩:=Zdl hrep hok
 have hone:=ZfP hrep hok
 have hgr:=Zah (g:=g) (w:=w) (.cells vv.cells e) m.st.fresh
 have he:=hgr.ext m.st.fresh
 obtain ⟨hn,m'⟩:=m.newObj hgr (o:=.cells (cellsOf v)) ⟨(m.st.fresh _ (ZvR _)).1,_,e,QB w _,by rw [hc1],fun i v d hv hd=>(hc2 i v d (by simpa using hv) hd).mono he,hone⟩
 refine Kf (L':=L) hN hoo hdst hd hw hnd (v:=.pointer (some ⟨w.heap.size,0,none⟩)) (e:=.d (.ptr w.heap.size 0)) ?_ he m' (Rep.ptr _ _) ?_
 ·simp [execOp,hop,hvv,Instr.box,newVar,newRow]
 ·rw [hdt]; exact h _ hn ops r k hr hkk
theorem Zrj {F:Fr P} {kp:Option (List Nat)} {dk:List Zp} {o:DOp} {os:List DOp} {ρ:Env} {L:Loc} {s:St} (hg:o.guard=none) {t:Nat} (hdt:o.dst=some t) {z:List D} (hk:o.k = .alloc z)
  (h:∀ b,s b=none→DO F kp dk os ((t,.d (.ptr b 0)) :: ρ) L (s.upd b (.cells z))):DO F kp dk (o :: os) ρ L s:=by
 refine KL fun oo g ν w tmps ops i r k hoo hck hcg hdst hd hN m hr hkk=>?_
 have hw:=Y7 m hcg (c:=true) (by rw [hg]; rfl)
 have hnd:=Wp hck (by rw [hk]; rfl)
 rw [hk] at hck
 obtain ⟨T,hop,hz⟩:=ZnK hck
 obtain ⟨v,hv1,hv2,hv3,_⟩:=J8 (g:=g) (w:=w) hz
 have hgr:=Zah (g:=g) (w:=w) (.cells v.cells T) m.st.fresh
 have he:=hgr.ext m.st.fresh
 obtain ⟨hn,m'⟩:=m.newObj hgr (o:=.cells z) ⟨(m.st.fresh _ (ZvR _)).1,_,T,QB w _,by simpa using hv2.len,fun i v d hv hd=>(hv2.get i v d (by simpa using hv) hd).mono he,hv3⟩
 refine Kf (L':=L) hN hoo hdst hd hw hnd (v:=.pointer (some ⟨w.heap.size,0,none⟩)) (e:=.d (.ptr w.heap.size 0)) ?_ he m' (Rep.ptr _ _) ?_
 ·simp [execOp,hop,Instr.alloc,hv1,newVar,newRow]
 ·rw [hdt]; exact h _ hn ops r k hr hkk
theorem ZeF {g:G} {w:World} {b off:Nat} {cs xs:List D} {vs:List Value} (h:Kn g w b cs) (hx:ZZ (Rep g w) vs xs) (ho:∀ v∈vs,v.one1=true) (hlen:off + xs.length≤cs.length) (hkp:¬ g.kept b) :
  ∃ w',(storeCells ⟨b,off,none⟩ vs 0).run P w = .ok () w'∧Ext g w g w'∧w'.heap.size=w.heap.size∧(∀ c,c≠b→w'.heap[c]? = w.heap[c]?)∧Kn g w' b (ZC cs off xs):=by
 obtain ⟨hpr,cur,T,hb,hcl,hcr,hco⟩:=h
 have hvl:vs.length=xs.length:=hx.len
 have hst:=run_storeCells_at (P:=P) b off T vs 0 cur w hb (by simp; omega) (fun x hx=>by rw [ZcQ]; exact ho x hx)
 simp only [Nat.add_zero] at hst
 have hrepNew:ZZ (Rep g w) (cur.toList.take off++vs++cur.toList.drop (off + vs.length)) (ZC cs off xs):=by
  have hcur:ZZ (Rep g w) cur.toList cs:=Wa (by simpa using hcl) (fun i v d hv hd=>hcr i v d (by simpa using hv) hd)
  unfold ZC
  rw [← hvl]
  exact ((hcur.take off).append hx).append (hcur.drop _)
 have hsize:((cur.toList.take off++vs++cur.toList.drop (off + vs.length)).toArray).size=cur.size:=by
  have:=hrepNew.len; simp [ZC] at this ⊢; omega
 have he:=Zgb (g:=g) b hb hsize hpr hkp
 refine ⟨_,hst,he,by simp [World.setRow],fun c hc=>setRow_other w b c _ hc,hpr,_,T,setRow_heap w b cur _ T (0,0) hb,by rw [hsize,hcl]; simp [ZC]; omega,
  fun i v d hv hd=>(hrepNew.get i v d (by simpa using hv) hd).mono he,fun x hx=>?_⟩
 simp only [List.mem_toArray,List.mem_append] at hx
 rcases hx with (hx | hx) | hx
 ·exact hco x (Array.mem_toList_iff.1 (List.mem_of_mem_take hx))
 ·exact ho x hx
 ·exact hco x (Array.mem_toList_iff.1 (List.mem_of_mem_drop hx))
theorem ZsO {op:Op} {n:Nat} {z:List D} {x:Opd} (h:ck P op=some (.clear n z x)) :
  ∃ ats t e x',op = .call ⟨.builtin .clear,#[x'],ats⟩∧ats[0]? = some t∧P.underlying t=some (.slice e)∧YD P e=some n∧ZaL P e=some z∧YJ x'=some x∧0 < n∧z.length=n:=by
 unfold ck at h
 split at h
 ·simp at h
 ·split at h <;> (try (simp at h; done))
  all_goals (try (repeat' (split at h <;> (try (simp at h; done)))))
  rename_i c _ _ hcal _ _ e x' hu hargs _ _ _ s z' x2 h1 h2 h3 hc
  simp only [ZvD,K.clear.injEq] at h
  obtain ⟨rfl,rfl,rfl⟩:=h
  obtain ⟨callee,args,ats⟩:=c
  simp only at hcal hu hargs
  obtain ⟨args⟩:=args
  simp only at hargs
  subst hargs; subst hcal
  simp only [Option.bind_eq_some_iff] at hu
  obtain ⟨t,ht,hu⟩:=hu
  simp only [ZvN,decide_eq_true_eq] at hc
  exact ⟨ats,t,e,x',rfl,ht,hu,h1,h2,h3,hc.1,hc.2⟩
theorem ZsB {F:Fr P} {kp:Option (List Nat)} {dk:List Zp} {o:DOp} {os:List DOp} {ρ:Env} {L:Loc} {s:St} (hg:Zu ρ o.guard=some true) {z:List D} {x:Opd} {sz b off n cap:Nat} (hk:o.k = .clear sz z x)
  {p:Prop} (ha:ZV ρ true x=some (p,.d (.msl b off n cap sz))) (hp:p) {cs:List D} (hcs:YS s b=some cs) (hlen:off + n * sz≤cs.length)
  (h:DO F kp dk os (ZQ ρ o.dst (.d (.tup []))) L (s.upd b (.cells (ZC cs off (QC z n))))):DO F kp dk (o :: os) ρ L s:=by
 refine KL fun oo g ν w tmps ops i r k hoo hck hcg hdst hd hN m hr hkk=>?_
 have hw:=Y7 m hcg hg
 have hnd:=Wp hck (by rw [hk]; rfl)
 rw [hk] at hck
 obtain ⟨ats,t,e,x',hop,hat,hu,hsz,hz,hx',h0,hzl⟩:=ZsO hck
 obtain ⟨zv,hz1,hz2,hz3,ie,hie,hzz⟩:=J8 (g:=g) (w:=w) hz
 have hzlen:zv.cells.size=sz:=by have:=hz2.len; simp at this; omega
 have hrep:Rep g w _ _:=Y2 m hx' rfl ha hp F.ds
 generalize hvv:(Act.mk tmps F.ds).eval x'=vv at hrep
 have hsb:s b=some (.cells cs):=by
  unfold YS at hcs
  split at hcs <;> simp only [ZvD,reduceCtorEq] at hcs
  subst hcs; assumption
 obtain ⟨zl1,zl2⟩:=Zig (z:=z) (n:=sz) (c:=n) hzl
 have hzs:ZZ (Rep g w) (Builtin.zeroCells zv.cells n).toList (QC z n):=by
  refine Wa (by rw [Array.length_toList,size_zeroCells,zl1,hzlen]) fun i v d hv hd=>?_
  have hi:i < n * sz:=by rw [← zl1]; exact (List.getElem?_eq_some_iff.1 hd).1
  rw [zl2 i hi] at hd
  have hm:i % sz < sz:=Nat.mod_lt _ h0
  simp only [Builtin.zeroCells,Array.toList_map,Array.toList_range,List.getElem?_map,ZvO,hzlen] at hv
  obtain ⟨a,ha,rfl⟩:=hv
  rw [List.getElem?_range hi] at ha
  simp only [ZvD] at ha
  subst ha
  refine hz2.get (i % sz) _ d ?_ hd
  rw [getElem!_pos zv.cells (i % sz) (by omega)]
  simp [hzlen,hm]
 have hone:∀ v∈(Builtin.zeroCells zv.cells n).toList,v.one1=true:=fun v hv=>by
  simp only [Builtin.zeroCells,Array.mem_toList_iff,Array.mem_map] at hv
  obtain ⟨a,_,rfl⟩:=hv
  by_cases hs0:zv.cells.size=0
  ·omega
  ·exact hz3 _ (by rw [getElem!_pos zv.cells _ (Nat.mod_lt _ (by omega))]; exact Array.getElem_mem _)
 have hset0:n=0→ZC cs off (QC z n)=cs:=fun hn=>by subst hn; simp [ZC,QC]
 have main:∃ w',(Builtin.clear_ ats oo.type #[vv]).run P w = .ok (.tuple #[]) w'∧Ext g w g w'∧w'.heap.size=w.heap.size∧(∀ c,c≠b→w'.heap[c]? = w.heap[c]?)∧Kn g w' b (ZC cs off (QC z n)):=by
  have hc0:=JH m.st hcs
  cases hrep with
  | mslx a =>
   refine ⟨w,?_,Ext.refl g w,rfl,fun _ _=>rfl,by rw [hset0 rfl]; exact hc0⟩
   simp [Builtin.clear_,hat,run_underlying hu]
  | msl _ _ _ _ _ h1 h2 =>
   cases n with
   | zero =>
    refine ⟨w,?_,Ext.refl g w,rfl,fun _ _=>rfl,by rw [hset0 rfl]; exact hc0⟩
    simp [Builtin.clear_,hat,run_underlying hu]
   | succ n =>
    obtain ⟨w',a1,a2,a3,a4,a5⟩:=ZeF (P:=P) hc0 hzs hone (by rw [zl1]; exact hlen) (m.st.kept b _ hsb)
    refine ⟨w',?_,a2,a3,a4,a5⟩
    simp only [Builtin.clear_,hat,List.getElem?_toArray,List.getElem?_cons_zero,Sem.run_bind,run_underlying hu,Result.andThen_ok,hz1,a1,Sem.run_pure]
 obtain ⟨w',a1,a2,a3,a4,a5⟩:=main
 have m':=m.named (o':=.cells (ZC cs off (QC z n))) hsb a2 a3 a4 a5
 refine Kf (L':=L) hN hoo hdst hd hw hnd (v:=.tuple #[]) (e:=.d (.tup [])) ?_ a2 m' (Rep.tup [] [] rfl (by simp)) (h ops r k hr hkk)
 simp only [execOp,hop,resolve,invoke,builtin,Sem.run_bind,Sem.run_pure,Result.andThen_ok,List.map_toArray,List.map_cons,List.map_nil,hvv,a1]
def JG (P:Program) (s:St) (sz:Nat) (dy:D) (m:Nat) (row:Nat→List D):Prop :=
 ∀ g w v,Wo g s w→Rep g w v dy→0 < sz→∃ news,Qd g w sz m news row∧Zbo P w sz m v news
theorem JG.elems {s:St} {sz:Nat} {dy:D} {m:Nat} {row:Nat→List D} (h:Zbr sz dy=some (m,row)):JG P s sz dy m row:=fun g w v _ hr h0=>Zn0 (P:=P) hr h h0
theorem JG.msl {s:St} {sz b off n cap:Nat} {cs:List D} (hcs:YS s b=some cs) (hlen:off + n * sz≤cs.length):JG P s sz (.msl b off n cap sz) n (fun i=>part cs (off + i * sz) sz):=fun g w v hs hr h0=>by
 obtain ⟨hp,cur,T,hb,hcl,hcr,hco⟩:=JH hs hcs
 let vals:=(cur.toList.drop off).take (n * sz)
 have hvl:vals.length=n * sz:=by simp [vals]; omega
 have hval:∀ k,k < n * sz→vals[k]? = cur[off + k]?:=fun k hk=>by
  simp only [vals,List.getElem?_take,hk,if_true,List.getElem?_drop,Array.getElem?_toList]
 have hk:∀ i j,i < n→j < sz→i * sz + j < n * sz:=fun i j hi hj=>by
  have:(i + 1) * sz≤n * sz:=Nat.mul_le_mul_right _ hi
  rw [Nat.add_mul,Nat.one_mul] at this; omega
 refine ⟨vals,⟨hvl,fun i hi=>?_,fun i j v d hi hj hv hd=>?_,fun v hv=>?_⟩,?_⟩
 ·have:=hk i (sz - 1) hi (by omega)
  simp only [part,List.length_take,List.length_drop]; omega
 ·rw [hval _ (hk i j hi hj)] at hv
  refine hcr _ v d hv ?_
  simp only [part,List.getElem?_take,hj,if_true,List.getElem?_drop] at hd
  rw [← hd]; congr 1; omega
 ·obtain ⟨k,hk',rfl⟩:=ZvX hv
  have h1:=hval k (by omega)
  rw [List.getElem?_eq_getElem hk'] at h1
  exact hco _ (Array.mem_of_getElem? h1.symm)
 ·cases hr with
  | mslx a =>
   have:vals=[]:=List.eq_nil_of_length_eq_zero (by simpa using hvl)
   rw [this]
   exact ⟨fun w2=>by simp [Builtin.lenOf],fun w2 _=>by simp [Builtin.firstCells,loadCells,loadCellsFrom]⟩
  | msl _ _ _ _ _ h1 h2 =>
   refine ⟨fun w2=>by simp [Builtin.lenOf],fun w2 hw2=>?_⟩
   refine run_firstCells_some (P:=P) w2 sz n ⟨b,off,none⟩ n cap vals hvl fun k v hv=>?_
   have hkl:k < n * sz:=by rw [← hvl]; exact (List.getElem?_eq_some_iff.1 hv).1
   rw [hval k hkl] at hv
   rw [Qj,JY (hw2 ▸ rfl:w2.heap[b]? = w.heap[b]?),ZbV hb]
   exact hv
theorem Zp5 {F:Fr P} {kp:Option (List Nat)} {dk:List Zp} {o:DOp} {os:List DOp} {ρ:Env} {L:Loc} {s:St} (hg:Zu ρ o.guard=some true) {e sz b:Nat} {z:List D} {x y:Opd} (hk:o.k = .append e sz b z x y)
  {p q:Prop} {t:Tok} {n m:Nat} {row row2:Nat→List D} {dy:D} {dx:D} (hx:ZV ρ true x=some (p,.d dx)) (hsl:Zd5 sz dx=some (t,n,row)) (hy:ZV ρ true y=some (q,.d dy)) (hp:p) (hq:q) (hel:JG P (s.own t (n * sz)) sz dy m row2) (hok:t.okIn s)
  (hb:(n + m) * b≤140737488355328) (hbig:n + m≤big) (h:∀ t':Tok,t'.okIn s→DO F kp dk os (ZQ ρ o.dst (.d (.sl t' (n + m) sz (K6 n row row2)))) L (s.own t' ((n + m) * sz))) :
  DO F kp dk (o :: os) ρ L (s.own t (n * sz)):=by
 refine KL fun oo g ν w tmps ops i r k hoo hck hcg hdst hd hN M hr hkk=>?_
 have hw:=Y7 M hcg hg
 have hnd:=Wp hck (by rw [hk]; rfl)
 rw [hk] at hck
 obtain ⟨x',y',args,ats,t1,t2,tu,hop,hargs,ha1,ha2,hu1,hu2,hnu,hsz,hz,hbb,hx',hy',h0,hzl⟩:=Zdf hck
 subst hbb
 have hr1:Rep g w _ (.sl t n sz row):=Zim (Y2 M hx' rfl hx hp F.ds) hsl
 have hr2:Rep g w _ _:=Y2 M hy' rfl hy hq F.ds
 obtain ⟨zv,hz1,hz2,hz3,ie,hie,hzz⟩:=J8 (g:=g) (w:=w) hz
 have hsize:ie.size=sz:=by simpa [YD,hie] using hsz
 have hzlen:zv.cells.size=sz:=by have:=hz2.len; simp at this; omega
 have hby:P.bytesOf e=ie.bytes:=by simp [Program.bytesOf,hie]
 rw [hby] at hb
 obtain ⟨news,hn1,hn2⟩:=hel _ _ _ M.st hr2 h0
 obtain ⟨v',w',g',t',a1,a2,a3,a4,a5,a6,a7⟩:=Zny (ty:=oo.type) hu1 hu2 hnu hie hzz hsize hzlen h0 M.st hok hr1 hn1 hn2 hb hbig
 have hne:∀ l cs,Zl L l=some cs→t≠.tip (ν l):=fun l cs hl ht=>by
  have:=M.locSt l cs hl
  rw [ht] at this
  simp [St.own,St.upd] at this
 have hsn:∀ l cs,Zl L l=some cs→s (ν l)=none:=fun l cs hl=>by
  cases hx:s (ν l) with
  | none=>rfl
  | some o=>have:=Yo (k:=n * sz) hok _ _ hx; rw [M.locSt l cs hl] at this; simp at this
 have mm:ZI g' ν w' tmps ρ L (s.own t' ((n + m) * sz)):=by
  refine ⟨a3,fun l cs hl=>(M.loc l cs hl).mono a2 (a6 (ν l) (M.loc l cs hl).lt (hne l cs hl)).1 (a6 (ν l) (M.loc l cs hl).lt (hne l cs hl)).2,fun l cs hl=>by rw [a2.keptEq]; exact M.locKept l cs hl,fun l cs hl=>?_,M.inj,fun t e he=>(M.env t e he).mono a2⟩
  cases t' with
  | tip b =>
   have:¬ ν l=b:=fun hb=>by
    rcases a7 b rfl with h1 | h1
    ·exact hne l cs hl (by rw [hb]; exact h1)
    ·have:=(M.loc l cs hl).lt; omega
   simp only [St.own,St.upd,this,if_false]; exact hsn l cs hl
  | _=>exact hsn l cs hl
 refine Kf hN hoo hdst hd hw hnd (v:=v') (w':=w') (e:=.d (.sl t' (n + m) sz (K6 n row row2))) ?_ a2 mm a5 (h t' a4 ops r k hr hkk)
 have hae:args = #[x',y']:=by apply Array.ext'; simpa using hargs
 have hats:∀ vs,Builtin.append_ ats oo.type vs=Builtin.append_ #[t1,t2] oo.type vs:=fun vs=>by
  unfold Builtin.append_; simp [ha1,ha2]
 unfold execOp
 simp only [hop,hae,resolve,invoke,builtin,Sem.run_bind,Sem.run_pure,Result.andThen_ok,List.map_toArray,List.map_cons,List.map_nil,hats,a1]
theorem ZcI {sz m:Nat} {row:Nat→List D} (h:∀ i,i < m→(row i).length=sz):∀ k,k≤m→((List.range k).flatMap row).length=k * sz
 | 0,_=>by simp
 | k + 1,hk=>by
  rw [List.range_succ,List.flatMap_append,ZvT,ZcI h k (by omega)]
  simp [h k hk,Nat.add_mul]
theorem Zjw {sz m:Nat} {row:Nat→List D} (h:∀ i,i < m→(row i).length=sz):∀ (k i j:Nat),k≤m→i < k→j < sz→((List.range k).flatMap row)[i * sz + j]? = (row i)[j]?
 | 0,i,j,_,hi,_=>by omega
 | k + 1,i,j,hk,hi,hj=>by
  rw [List.range_succ,List.flatMap_append]
  have hl:=ZcI h k (by omega)
  by_cases hik:i < k
  ·have:i * sz + j < k * sz:=by
    have:(i + 1) * sz≤k * sz:=Nat.mul_le_mul_right _ hik
    rw [Nat.add_mul,Nat.one_mul] at this; omega
   rw [List.getElem?_append_left (by omega)]
   exact Zjw h k i j (by omega) hik hj
  ·obtain rfl:i=k:=by omega
   rw [List.getElem?_append_right (by omega),hl]
   simp [List.flatMap_cons]
theorem Qd.flat {g:G} {w:World} {sz m:Nat} {vs:List Value} {row:Nat→List D} (h:Qd g w sz m vs row):ZZ (Rep g w) vs ((List.range m).flatMap row):=by
 have hl:=ZcI h.rlen m (ZvR _)
 refine Wa (by rw [h.len,hl]) fun k v d hv hd=>?_
 have hk:k < m * sz:=by rw [← hl]; exact (List.getElem?_eq_some_iff.1 hd).1
 have hs:0 < sz:=by
  rcases Nat.eq_zero_or_pos sz with h | h
  ·subst h; simp at hk
  ·exact h
 have h1:k / sz < m:=(Nat.div_lt_iff_lt_mul hs).2 hk
 have h2:k % sz < sz:=Nat.mod_lt _ hs
 have e:k / sz * sz + k % sz=k:=by rw [Nat.mul_comm]; exact Nat.div_add_mod k sz
 rw [← e] at hv hd
 rw [Zjw h.rlen m _ _ (ZvR _) h1 h2] at hd
 exact h.rep _ _ v d h1 h2 hv hd
theorem ZsA {F:Fr P} {kp:Option (List Nat)} {dk:List Zp} {o:DOp} {os:List DOp} {ρ:Env} {L:Loc} {s:St} (hg:Zu ρ o.guard=some true) {e sz b:Nat} {z:List D} {x y:Opd} (hk:o.k = .append e sz b z x y)
  {p q:Prop} {m:Nat} {row row2:Nat→List D} {dy:D} {dx:D} (hx:ZV ρ true x=some (p,.d dx)) (hsl:Zd5 sz dx=some (.full,0,row)) (hy:ZV ρ true y=some (q,.d dy)) (hel:JG P s sz dy m row2) (hp:p) (hq:q) (hm:0 < m)
  (hb:m * b≤140737488355328) (hbig:m≤big)
  (h:∀ c cap,s c=none→m≤cap→DO F kp dk os (ZQ ρ o.dst (.d (.msl c 0 m cap sz))) L (s.upd c (.cells ((List.range m).flatMap row2++List.replicate ((cap - m) * sz) .any)))) :
  DO F kp dk (o :: os) ρ L s:=by
 refine KL fun oo g ν w tmps ops i r k hoo hck hcg hdst hd hN M hr hkk=>?_
 have hw:=Y7 M hcg hg
 have hnd:=Wp hck (by rw [hk]; rfl)
 rw [hk] at hck
 obtain ⟨x',y',args,ats,t1,t2,tu,hop,hargs,ha1,ha2,hu1,hu2,hnu,hsz,hz,hbb,hx',hy',h0,hzl⟩:=Zdf hck
 subst hbb
 have hr1:Rep g w _ (.sl .full 0 sz row):=Zim (Y2 M hx' rfl hx hp F.ds) hsl
 have hr2:Rep g w _ _:=Y2 M hy' rfl hy hq F.ds
 obtain ⟨zv,hz1,hz2,hz3,ie,hie,hzz⟩:=J8 (g:=g) (w:=w) hz
 have hsize:ie.size=sz:=by simpa [YD,hie] using hsz
 have hzlen:zv.cells.size=sz:=by have:=hz2.len; simp at this; omega
 have hby:P.bytesOf e=ie.bytes:=by simp [Program.bytesOf,hie]
 rw [hby] at hb
 obtain ⟨news,hn1,hn2⟩:=hel _ _ _ M.st hr2 h0
 obtain ⟨cap,cv,a1,a2,a3,a4,a5,a6⟩:=ZtL (ty:=oo.type) hu1 hu2 hnu hie hzz hsize hzlen hz3 h0 M.st hr1 hm hn1 hn2 hb hbig
 have hgr:Zau g w g (w.drew.alloc (.cells cv e)):=Zmh (g:=g) (w:=w) cv e M.st.fresh
 have he:=hgr.ext M.st.fresh
 have hfl:=ZcI hn1.rlen m (ZvR _)
 have hob:Qb g (w.drew.alloc (.cells cv e)) w.heap.size (.cells ((List.range m).flatMap row2++List.replicate ((cap - m) * sz) .any)) :=
  ⟨(M.st.fresh _ (ZvR _)).1,_,e,QB w.drew _,by rw [ZvT,hfl,List.length_replicate,a4,← Nat.add_mul]; congr 1; omega,fun i v d hv hd=>(a6 i v d hv hd).mono he,a5⟩
 obtain ⟨hn,m'⟩:=M.newObj hgr hob
 refine Kf (L':=L) hN hoo hdst hd hw hnd (e:=.d (.msl w.heap.size 0 m cap sz)) ?_ he m' (Rep.msl _ _ _ _ _ a2 a3) (h _ cap hn a2 ops r k hr hkk)
 have hae:args = #[x',y']:=by apply Array.ext'; simpa using hargs
 have hats:∀ vs,Builtin.append_ ats oo.type vs=Builtin.append_ #[t1,t2] oo.type vs:=fun vs=>by
  unfold Builtin.append_; simp [ha1,ha2]
 unfold execOp
 simp only [hop,hae,resolve,invoke,builtin,Sem.run_bind,Sem.run_pure,Result.andThen_ok,List.map_toArray,List.map_cons,List.map_nil,hats,a1]
theorem Zld {F:Fr P} {kp:Option (List Nat)} {dk:List Zp} {o:DOp} {os:List DOp} {ρ:Env} {L:Loc} {s:St} (hg:Zu ρ o.guard=some true) {e sz bt:Nat} {z:List D} {x y:Opd} (hk:o.k = .append e sz bt z x y)
  {p q:Prop} {b off n cap m:Nat} {row2:Nat→List D} {dy:D} {cs:List D} (hx:ZV ρ true x=some (p,.d (.msl b off n cap sz))) (hy:ZV ρ true y=some (q,.d dy)) (hp:p) (hq:q) (hcs:YS s b=some cs) (hlen:off + n * sz≤cs.length) (hel:JG P s sz dy m row2)
  (hroom:n + m≤cap→off=0∧(n + m) * sz≤cs.length) (hb:(n + m) * bt≤140737488355328) (hbig:n + m≤big)
  (h1:n + m≤cap→DO F kp dk os (ZQ ρ o.dst (.d (.msl b off (n + m) cap sz))) L (s.upd b (.cells (ZC cs (n * sz) ((List.range m).flatMap row2)))))
  (h2:∀ c cap',cap < n + m→s c=none→n + m≤cap'→DO F kp dk os (ZQ ρ o.dst (.d (.msl c 0 (n + m) cap' sz))) L (s.upd c (.cells (part cs off (n * sz)++(List.range m).flatMap row2++List.replicate ((cap' - (n + m)) * sz) .any)))) :
  DO F kp dk (o :: os) ρ L s:=by
 refine KL fun oo g ν w tmps ops i r k hoo hck hcg hdst hd hN M hr hkk=>?_
 have hw:=Y7 M hcg hg
 have hnd:=Wp hck (by rw [hk]; rfl)
 rw [hk] at hck
 obtain ⟨x',y',args,ats,t1,t2,tu,hop,hargs,ha1,ha2,hu1,hu2,hnu,hsz,hz,hbb,hx',hy',h0,hzl⟩:=Zdf hck
 subst hbb
 have hr1:Rep g w _ (.msl b off n cap sz):=Y2 M hx' rfl hx hp F.ds
 have hr2:Rep g w _ _:=Y2 M hy' rfl hy hq F.ds
 obtain ⟨zv,hz1,hz2,hz3,ie,hie,hzz⟩:=J8 (g:=g) (w:=w) hz
 have hsize:ie.size=sz:=by simpa [YD,hie] using hsz
 have hzlen:zv.cells.size=sz:=by have:=hz2.len; simp at this; omega
 have hby:P.bytesOf e=ie.bytes:=by simp [Program.bytesOf,hie]
 rw [hby] at hb
 have hsb:s b=some (.cells cs):=by
  unfold YS at hcs
  split at hcs <;> simp only [ZvD,reduceCtorEq] at hcs
  subst hcs; assumption
 obtain ⟨news,hn1,hn2⟩:=hel _ _ _ M.st hr2 h0
 obtain ⟨olds,ho1,ho2⟩:=JG.msl (P:=P) (s:=s) (cap:=cap) hcs hlen g w _ M.st hr1 h0
 have hae:args = #[x',y']:=by apply Array.ext'; simpa using hargs
 have hats:∀ vs,Builtin.append_ ats oo.type vs=Builtin.append_ #[t1,t2] oo.type vs:=fun vs=>by
  unfold Builtin.append_; simp [ha1,ha2]
 generalize hvx:(Act.mk tmps F.ds).eval x'=vx at hr1 ho2
 generalize hvy:(Act.mk tmps F.ds).eval y'=vy at hr2 hn2
 have hexec:∀ v' w',(Builtin.append_ #[t1,t2] oo.type #[vx,vy]).run P w = .ok v' w'→(execOp (Act.mk tmps F.ds).eval oo).run P w = .ok (.value v') w':=fun v' w' hrun=>by
  unfold execOp
  simp only [hop,hae,resolve,invoke,builtin,Sem.run_bind,Sem.run_pure,Result.andThen_ok,List.map_toArray,List.map_cons,List.map_nil,hats,hvx,hvy,hrun]
 subst hsize
 have hfl:=ZcI hn1.rlen m (ZvR _)
 have hpl:(part cs off (n * ie.size)).length=n * ie.size:=by simp only [part,List.length_take,List.length_drop]; omega
 have hflo:(List.range n).flatMap (fun i=>part cs (off + i * ie.size) ie.size)=part cs off (n * ie.size):=by
  have hlo:=ZcI ho1.rlen n (ZvR _)
  apply List.ext_getElem?
  intro k'
  by_cases hk':k' < n * ie.size
  ·have e1:k' / ie.size * ie.size + k' % ie.size=k':=by rw [Nat.mul_comm]; exact Nat.div_add_mod k' ie.size
   have e2:k' / ie.size < n:=(Nat.div_lt_iff_lt_mul h0).2 hk'
   have e3:k' % ie.size < ie.size:=Nat.mod_lt _ h0
   have:=Zjw ho1.rlen n _ _ (ZvR _) e2 e3
   rw [e1] at this
   rw [this]
   simp only [part,List.getElem?_take,e3,if_true,List.getElem?_drop,hk']
   congr 1; omega
  ·rw [List.getElem?_eq_none (by omega),List.getElem?_eq_none (by omega)]
 have hgrow:∀ base,vx = .slice base n cap→cap < n + m→F.T.T g w (lone (F.b.atR ⟨tmps,F.ds⟩ (.inRegion ops (i :: r) :: k)) F.cs w):=by
  intro base hv hlt
  subst hv
  have hrun:=Zjp (ty:=oo.type) hu1 hu2 hnu hie hzz hn2 ho2.2 hlt (by simp only [big] at hbig; omega) hb
  have hge:=grownCap_ge w (n + m) cap e
  have hle:=grownCap_le_maxLen w (n + m) cap e (by simp only [big] at hbig; simp only [maxLen]; omega)
  generalize grownCap w (n + m) cap e=cap' at hrun hge hle
  generalize hcv:(olds++news++(Builtin.zeroCells zv.cells (cap' - (n + m))).toList).toArray=cv at hrun
  have hzs:(Builtin.zeroCells zv.cells (cap' - (n + m))).toList.length=(cap' - (n + m)) * ie.size:=by rw [Array.length_toList,size_zeroCells,hzlen]
  have hgr:Zau g w g (w.drew.alloc (.cells cv e)):=Zmh (g:=g) (w:=w) cv e M.st.fresh
  have he:=hgr.ext M.st.fresh
  have hall:ZZ (Rep g w) cv.toList (part cs off (n * ie.size)++(List.range m).flatMap row2++List.replicate ((cap' - (n + m)) * ie.size) .any):=by
   rw [← hcv,← hflo]
   refine (ho1.flat.append hn1.flat).append (Wa (by rw [hzs,List.length_replicate]) fun k' v d hv hd=>?_)
   rw [List.getElem?_replicate] at hd
   split at hd <;> simp only [ZvD,reduceCtorEq] at hd
   subst hd; exact .any v
  have hone:∀ v∈cv,v.one1=true:=fun v hv=>by
   rw [← hcv] at hv
   simp only [List.mem_toArray,List.mem_append] at hv
   rcases hv with (hv | hv) | hv
   ·exact ho1.one v hv
   ·exact hn1.one v hv
   ·simp only [Builtin.zeroCells,Array.mem_toList_iff,Array.mem_map] at hv
    obtain ⟨a,_,rfl⟩:=hv
    exact hz3 _ (by rw [getElem!_pos zv.cells _ (Nat.mod_lt _ (by omega))]; exact Array.getElem_mem _)
  have hob:Qb g (w.drew.alloc (.cells cv e)) w.heap.size (.cells (part cs off (n * ie.size)++(List.range m).flatMap row2++List.replicate ((cap' - (n + m)) * ie.size) .any)) :=
   ⟨(M.st.fresh _ (ZvR _)).1,_,e,QB w.drew _,by simpa using hall.len,fun i v d hv hd=>(hall.get i v d (by simpa using hv) hd).mono he,hone⟩
  obtain ⟨hn,m'⟩:=M.newObj hgr hob
  exact Kf (L':=L) hN hoo hdst hd hw hnd (e:=.d (.msl w.heap.size 0 (n + m) cap' ie.size)) (hexec _ _ hrun) he m' (Rep.msl _ _ _ _ _ hge (by simp only [maxLen] at hle; simp only [big]; omega)) (h2 _ cap' hlt hn hge ops r k hr hkk)
 have hstay:∀ base,vx = .slice base n cap→base=some ⟨b,off,none⟩∨(n + m=0∧cap=0)→n + m≤cap→F.T.T g w (lone (F.b.atR ⟨tmps,F.ds⟩ (.inRegion ops (i :: r) :: k)) F.cs w):=by
  intro base hv hbase hle
  subst hv
  obtain ⟨ho0,hfit0⟩:=hroom hle
  subst ho0
  obtain ⟨hpr,cur,T,hb1,hcl,hcr,hco⟩:=JH M.st hcs
  by_cases hm0:m=0
  ·subst hm0
   have hne:news=[]:=List.eq_nil_of_length_eq_zero (by simpa using hn1.len)
   subst hne
   have hrun:=Zl1 (ty:=oo.type) (n:=n) (cap:=cap) (base:=base) hu1 hu2 hnu hie hn2 (by omega)
   have hset:ZC cs (n * ie.size) ((List.range 0).flatMap row2)=cs:=by simp [ZC]
   have hup:s.upd b (.cells cs)=s:=by funext c; simp only [St.upd]; split <;> simp_all
   have hgo:=h1 hle
   rw [hset,hup] at hgo
   exact Kf (L':=L) (s':=s) hN hoo hdst hd hw hnd (e:=.d (.msl b 0 (n + 0) cap ie.size)) (hexec _ _ hrun) (Ext.refl g w) M (by rw [Nat.add_zero]; exact hr1) (hgo ops r k hr hkk)
  ·have hbase':base=some ⟨b,0,none⟩:=hbase.resolve_right (fun h=>hm0 (by omega))
   subst hbase'
   have hfit:n * ie.size + news.length≤cur.size:=by rw [hn1.len,← Nat.add_mul,hcl]; exact hfit0
   have hrun:=Znz (ty:=oo.type) hu1 hu2 hnu hie hn2 hb1 (fun v hv=>by rw [ZcQ]; exact hn1.one v hv) hle hfit
   obtain ⟨w',a1,a2,a3,a4,a5⟩:=ZeF (P:=P) (off:=n * ie.size) (JH M.st hcs) hn1.flat hn1.one (by rw [hfl,← Nat.add_mul]; exact hfit0) (M.st.kept b _ hsb)
   have hst:=run_storeCells_at (P:=P) b (n * ie.size) T news 0 cur w hb1 (by simpa using hfit) (fun v hv=>by rw [ZcQ]; exact hn1.one v hv)
   simp only [Nat.add_zero] at hst
   rw [a1] at hst
   simp only [Result.ok.injEq,true_and] at hst
   rw [← hst] at hrun
   have m':=M.named (o':=.cells (ZC cs (n * ie.size) ((List.range m).flatMap row2))) hsb a2 a3 a4 a5
   exact Kf (L':=L) hN hoo hdst hd hw hnd (e:=.d (.msl b 0 (n + m) cap ie.size)) (hexec _ _ hrun) a2 m' (by
    cases hr1 with
    | msl _ _ _ _ _ _ hcb=>exact Rep.msl _ _ _ _ _ hle hcb
    | mslx a=>exact absurd hle (by omega)) (h1 hle ops r k hr hkk)
 cases hr1 with
 | msl _ _ _ _ _ hc1 hc2 =>
  by_cases hle:n + m≤cap
  ·exact hstay _ rfl (.inl rfl) hle
  ·exact hgrow _ rfl (by omega)
 | mslx a =>
  by_cases hle:0 + m≤0
  ·exact hstay _ rfl (.inr ⟨by omega,rfl⟩) hle
  ·exact hgrow _ rfl (by omega)
end
end Go.DL
namespace Go.DL
open Go
variable [Znt]
section
variable {P:Program} {F:Fr P} {ks:Option (List Nat)} {dk:List Zp} {ρ:Env} {L:Loc} {s:St}
theorem rgR {r os:List DOp} (e:r=os) (h:DO F ks dk os ρ L s):ZD F (.code (.reg r ks) :: dk) ρ L s:=by subst e; exact Yr h
theorem Zva {o:List Nat} {r os:List DOp} (e:r=os) (h:ZdX F ks dk os ρ L s):ZD F (.code (.regD o (JA r) ks) :: dk) ρ L s:=by subst e; exact Zb7 h
theorem rgD {o:List Nat} {r os:List (DOp × List Nat)} (e:r=os) (h:DOA F ks dk os ρ L s []):ZD F (.code (.regD o r ks) :: dk) ρ L s:=by subst e; exact Zdb h
end
structure Hid (p:Prop):Prop where
 out:p
theorem nd2 {a b:Prop} (x:a) (y:b):a∧b:=⟨x,y⟩
theorem mv {A B:Prop} (k:B) (h:Hid B→A:=by
 intro hk
 repeat (first | refine Zi ?_ | refine Yb ?_ | refine Zb5 ?_ | refine YY ?_ | refine ZdD ?_ | refine ZF ?_ | refine ZdE ?_ | refine KO rfl ?_)
 exact hk.out):A:=h ⟨k⟩
theorem rg {A B:Prop} (k:B) (h:Hid B→A:=by
 intro hk
 repeat (first | refine Zi ?_ | refine Yb ?_ | refine Zb5 ?_ | refine YY ?_ | refine ZdD ?_ | refine ZF ?_ | refine ZdE ?_ | refine KO rfl ?_)
 first | refine rgR (by conv=>lhs; whnf) (Zc ?_) | refine Zva (by conv=>lhs; whnf) (Qv ?_) | refine rgD (by conv=>lhs; whnf) (Wb ?_)
 simp only [Eqs,reduceCtorEq,Int.reduceToNat,reduceIte,Nat.reduceEqDiff,Nat.reduceAdd,Nat.reduceLeDiff]
 exact hk.out):A:=h ⟨k⟩
theorem rx {p:Prop} (e:p) {A B:Prop} (k:B) (h:p→Hid B→A:=by
 intro e1 hk
 repeat (first | refine Zi ?_ | refine Yb ?_ | refine Zb5 ?_ | refine YY ?_ | refine ZdD ?_ | refine ZF ?_ | refine ZdE ?_ | refine KO rfl ?_)
 first | refine rgR (by conv=>lhs; whnf) (Zc ?_) | refine Zva (by conv=>lhs; whnf) (Qv ?_) | refine rgD (by conv=>lhs; whnf) (Wb ?_)
 simp only [Eqs,reduceCtorEq,Int.reduceToNat,reduceIte,Nat.reduceEqDiff,Nat.reduceAdd,Nat.reduceLeDiff,e1]
 exact hk.out):A:=h e ⟨k⟩
theorem aa {A B:Prop} (k:B) (h:Hid B→A:=by
 intro hk
 repeat (refine And.intro (by first | omega | trivial | (intro h0; simp at h0; omega)) ?_)
 exact hk.out):A:=h ⟨k⟩
theorem cl {q:Prop} (c:q) {A B:Prop} (k:B) (h:q→Hid B→A:=by
 intro hc hk
 refine K8 rfl rfl rfl rfl rfl (by trivial) (by trivial) hc (Zc ?_)
 simp only [Eqs,reduceCtorEq,Int.reduceToNat,reduceIte,Nat.reduceEqDiff,Nat.reduceAdd,Nat.reduceLeDiff]
 exact hk.out):A:=h c ⟨k⟩
theorem ct {q:Prop} (c:q) {A B:Prop} (k:B) (h:q→Hid B→A:=by
 intro hc hk
 refine QE rfl rfl rfl rfl rfl (by trivial) (by trivial) hc (Zc ?_)
 simp only [Eqs,reduceCtorEq,Int.reduceToNat,reduceIte,Nat.reduceEqDiff,Nat.reduceAdd,Nat.reduceLeDiff]
 exact hk.out):A:=h c ⟨k⟩
theorem clD {q:Prop} (c:q) {A B:Prop} (k:B) (h:q→Hid B→A:=by
 intro hc hk
 refine J9 rfl rfl rfl rfl rfl (by trivial) (by trivial) hc (Wb ?_)
 simp only [Eqs,reduceCtorEq,Int.reduceToNat,reduceIte,Nat.reduceEqDiff,Nat.reduceAdd,Nat.reduceLeDiff]
 exact hk.out):A:=h c ⟨k⟩
section
variable {P:Program} {F:Fr P} {dk:List Zp} {ρ:Env} {L:Loc} {s:St}
theorem cd {o:Opd} {x y:DC} {b:Bool} {p:Prop} (ht:b=true→ZD F (.code x :: dk) ρ L s) (hf:b=false→ZD F (.code y :: dk) ρ L s) (ho:ZV ρ true o=some (p,.d (.bool b)):=by rfl) (hp:p:=by trivial):ZD F (.code (.cond o x y) :: dk) ρ L s:=Zv ho hp ht hf
end
end Go.DL
namespace Go.DL
open Go Go.Proofs
def Zhx (c:UInt8):Bool:=(decide ((65:Int)≤c.toNat) && decide ((c.toNat:Int)≤90)) || (decide ((97:Int)≤c.toNat) && decide ((c.toNat:Int)≤122))
def Zqn (c:UInt8):Bool:=decide ((48:Int)≤c.toNat) && decide ((c.toNat:Int)≤57)
def ZeY (c:UInt8):Bool:=Zhx c || Zqn c || decide ((c.toNat:Int)=95)
def Qh (s:Str):Bool:=match s with
 | []=>false
 | c :: _=>decide (s.length≤32) && Zhx c && s.all ZeY
def Zby (v:Int):Bool:=decide (-1048576≤v) && decide (v≤1048576)
end Go.DL
namespace Go.DL
open Go
theorem ZeS {α:Type} [Inhabited α] {l:List α} {k:Nat} (h:k < l.length):l.drop k=l.getD k default :: l.drop (k + 1):=by
 rw [List.drop_eq_getElem_cons h]; simp [List.getD,h]
theorem Ky {α:Type} [Inhabited α] {l:List α} {k:Nat} (h:k < l.length):l.take (k + 1)=l.take k++[l.getD k default]:=by
 rw [List.take_succ_eq_append_getElem h]; simp [List.getD,h]
theorem ZmM {α:Type} [Inhabited α] {l:List α} {k:Nat} {x:α} (hk:k≤l.length):x∈l.take k↔∃ j,j < k∧l.getD j default=x:=by
 constructor
 ·intro h
  obtain ⟨j,hj,rfl⟩:=ZvX h
  simp only [List.length_take] at hj
  exact ⟨j,by omega,by simp [List.getD,show j < l.length by omega]⟩
 ·rintro ⟨j,hj,rfl⟩
  rw [List.mem_take_iff_getElem]
  exact ⟨j,by omega,by simp [List.getD,show j < l.length by omega]⟩
def Ku {α:Type} [Inhabited α] (f:α→List D) (row:Nat→List D) (l:List α):Prop:=∀ i,i < l.length→row i=f (l.getD i default)
section
variable {α:Type} [Inhabited α] {f:α→List D} {row row2:Nat→List D} {l a b:List α}
theorem Ku.self:Ku f (fun i=>f (l.getD i default)) l:=fun _ _=>rfl
theorem Ku.nil:Ku f row []:=fun i h=>absurd h (Nat.not_lt_zero i)
theorem Ku.one {x:α} (h:row 0=f x):Ku f row [x]:=fun i hi=>by
 obtain rfl:i=0:=by simp at hi; exact hi
 exact h
theorem Ku.app {n:Nat} (h:Ku f row a) (h2:Ku f row2 b) (hn:n=a.length):Ku f (K6 n row row2) (a++b):=fun i hi=>by
 subst hn
 unfold K6
 split
 ·rename_i h1; rw [h i h1]; simp [List.getD,List.getElem?_append_left h1]
 ·rename_i h1
  rw [h2 (i - a.length) (by simp at hi; omega)]; simp [List.getD,List.getElem?_append_right (Nat.not_lt.1 h1)]
theorem Ku.snoc {n:Nat} {x:α} (h:Ku f row a) (h2:row2 0=f x) (hn:n=a.length):Ku f (K6 n row row2) (a++[x]):=h.app (.one h2) hn
theorem Ku.take (h:Ku f row l) (k:Nat):Ku f row (l.take k):=fun i hi=>by
 rw [List.length_take] at hi
 rw [h i (by omega)]; simp [List.getD,List.getElem?_take_of_lt (show i < k by omega)]
theorem Ku.le {t:Tok} {n s:Nat} (h:Ku f row l) (hn:n=l.length):(D.sl t n s row).Le (slD s f l):=Zvi hn fun i hi=>h i (by omega)
end
end Go.DL
namespace Go.DL
open Go Go.Proofs
def J6 (t:YA):Bool:=Qh t.field && !decide (t.factor=0) && Zby t.factor
def Zbf:List Str→List YA→Bool
 | _,[]=>true
 | seen,t :: r=>J6 t && !decide (t.field∈seen) && Zbf (seen++[t.field]) r
def WM (s:WZ):Bool:=Zby s.base && decide (s.terms.length≤4) && Zbf [] s.terms
end Go.DL
namespace Go.DL
open Go Go.Proofs
abbrev JX:=Str→Option (Int × Int)
def Zal (r:Int × Int):Bool:=decide (r.1 < 0) || decide (r.2 < r.1) || decide (34359738368≤r.2)
def Q0 (look:JX) (t:YA):Bool:=match look t.field with | some r=>Zal r | none=>false
def Ja (look:JX) (t:YA):Bool:=(look t.field).isNone
def Za9 (s:WZ) (look:JX):Int:=if WM s=false then 2 else if s.terms.any (Q0 look) then 2 else if s.terms.any (Ja look) then 9 else 0
def Je (look:JX) (t:YA):Int × Int:=(look t.field).getD (0,0)
def loT (look:JX) (t:YA):Int:=if 0 < t.factor then t.factor * (Je look t).1 else t.factor * (Je look t).2
def hiT (look:JX) (t:YA):Int:=if 0 < t.factor then t.factor * (Je look t).2 else t.factor * (Je look t).1
def loS (look:JX):List YA→Int
 | []=>0
 | t :: r=>loT look t + loS look r
def hiS (look:JX):List YA→Int
 | []=>0
 | t :: r=>hiT look t + hiS look r
def QQ (s:WZ) (look:JX):Int × Int × Int:=if Za9 s look=0 then (s.base + loS look s.terms,s.base + hiS look s.terms,0) else (0,0,Za9 s look)
structure Zlf (look:JX) (t:YA):Prop where
 le:(Je look t).1≤(Je look t).2
 lo:0≤(Je look t).1
 hi:(Je look t).2 < 34359738368
 f1:-1048576≤t.factor
 f2:t.factor≤1048576
theorem ZuY {f v:Int} (h1:-1048576≤f) (h2:f≤1048576) (h3:0≤v) (h4:v < 34359738368):-36028797018963968≤f * v∧f * v≤36028797018963968:=by
 have a:f * v≤1048576 * v:=Int.mul_le_mul_of_nonneg_right h2 h3
 have b:-1048576 * v≤f * v:=Int.mul_le_mul_of_nonneg_right h1 h3
 omega
end Go.DL
namespace Go.DL
open Go Go.Proofs
theorem ZsG {α:Type} [Inhabited α] {p:α→Bool} {l:List α} {i:Nat} (h:i < l.length):(l.take (i + 1)).any p=((l.take i).any p || p (l.getD i default)):=by
 rw [Ky h,List.any_append]; simp
theorem ZuH {α:Type} [Inhabited α] {p:α→Bool} {l:List α} {i:Nat} (h:i < l.length) (hp:p (l.getD i default)=true):l.any p=true :=
 List.any_eq_true.2 ⟨_,Ql h,hp⟩
end Go.DL
namespace Go.DL
open Go Go.Proofs
theorem Zqx {α β:Type} [Inhabited α] {f:β→α→β} {b:β} {l:List α} {i:Nat} (h:i < l.length):(l.take (i + 1)).foldl f b=f ((l.take i).foldl f b) (l.getD i default):=by
 rw [Ky h,List.foldl_append]; rfl
end Go.DL
namespace Go.DL
open Go Go.Proofs
def ZB {α:Type} (p:α→Bool):List α→Int
 | []=>-1
 | x :: r=>if p x then 0 else if ZB p r < 0 then -1 else ZB p r + 1
theorem JR {α:Type} {p:α→Bool} {l:List α} (h:∀ x∈l,p x=false):ZB p l = -1:=by
 induction l with
 | nil=>rfl
 | cons x r ih=>simp [ZB,h x (by simp),ih (fun y hy=>h y (by simp [hy]))]
theorem Zab {α:Type} [Inhabited α] {p:α→Bool} {l:List α} {i:Nat} (hi:i < l.length) (hp:p (l.getD i default)=true) (h:∀ j,j < i→p (l.getD j default)=false):ZB p l=i:=by
 induction l generalizing i with
 | nil=>simp at hi
 | cons x r ih =>
  cases i with
  | zero=>simp at hp; simp [ZB,hp]
  | succ i =>
   have h0:=h 0 (by omega)
   have:=ih (i:=i) (by simpa using hi) (by simpa using hp) (fun j hj=>by simpa using h (j + 1) (by omega))
   simp at h0
   simp [ZB,h0,this]; omega
theorem ZeT {α:Type} (p:α→Bool) (l:List α):-1≤ZB p l:=by
 induction l with
 | nil=>simp [ZB]
 | cons x r ih=>simp only [ZB]; split <;> (try split) <;> omega
theorem QP {α:Type} (p:α→Bool) (l:List α):ZB p l < l.length:=by
 induction l with
 | nil=>simp [ZB]
 | cons x r ih=>simp only [ZB,Zv0]; split <;> (try split) <;> omega
theorem Zc2 {α:Type} [Inhabited α] {p:α→Bool} {l:List α} (h:0≤ZB p l):p (l.getD (ZB p l).toNat default)=true∧∀ j,j < (ZB p l).toNat→p (l.getD j default)=false:=by
 induction l with
 | nil=>simp [ZB] at h
 | cons x r ih =>
  have:=ZeT p r
  by_cases hx:p x=true
  ·simp [ZB,hx]
  ·simp only [ZB,hx,if_false,Bool.false_eq_true] at h ⊢
   by_cases hr:ZB p r < 0
   ·simp [hr] at h
   ·rw [if_neg hr]
    obtain ⟨h1,h2⟩:=ih (by omega)
    rw [show (ZB p r + 1).toNat=(ZB p r).toNat + 1 by omega]
    refine ⟨by simpa using h1,fun j hj=>?_⟩
    cases j with
    | zero=>simpa using hx
    | succ j=>simpa using h2 j (by omega)
theorem Zao {α:Type} [Inhabited α] {l:List α} {n j:Nat} (h:j < n):(l.take n).getD j default=l.getD j default:=by
 simp [List.getD,List.getElem?_take_of_lt h]
theorem ZfE {α:Type} [Inhabited α] {p:α→Bool} {l:List α} {i n:Nat} (hn:n≤l.length) (hi:i < n) (hp:p (l.getD i default)=true) (h:∀ j,j < i→p (l.getD j default)=false):ZB p (l.take n)=i :=
 Zab (by simp; omega) (by rw [Zao hi]; exact hp) (fun j hj=>by rw [Zao (by omega)]; exact h j hj)
theorem Zed {α:Type} [Inhabited α] {p:α→Bool} {l:List α} {n:Nat} (hn:n≤l.length) (h:∀ j,j < n→p (l.getD j default)=false):ZB p (l.take n) = -1 :=
 JR fun x hx=>by
  obtain ⟨j,hj,rfl⟩:=(ZmM hn).1 hx
  exact h j hj
def Z8 (d:Dfn) (s:Str) (n:Nat):Int:=ZB (fun m=>decide (m.name=s)) (d.msgs.take n)
def YF (m:Msg) (s:Str) (n:Nat):Int:=ZB (fun f=>decide (f.name=s)) (m.fields.take n)
def KB (f:Fld):Bool:=decide (1≤f.kind) && decide (f.kind≤3)
def Wu (f:Fld):Int × Int:=if f.kind=2 then (f.low,f.low) else (f.low,f.high)
def Zrg (a b:Int):Bool:=decide (0≤a) && (decide (a≤b) && decide (b < 34359738368))
theorem Zbv (d:Dfn) (s:Str) (sm:Nat) (hs:sm≤d.msgs.length):Z7 ZvJ Wd.id [.agg d.cells,.str s,.int .i64 sm] (.int .i64 (Z8 d s sm)):=by
 refine Jj Wd.ok fun hwf F st hret=>?_
 have hw:=(ZrH (s:=d) (hwf _ (by simp))).nmsgs
 unfold big at hw
 clear hwf
 refine rx (nd2 @Dfn.cells.eq_1 (nd2 @KC.eq_1 @slD.eq_1)) ?_
 refine rg ?_
 refine ZF (Yh ?_)
 have key:∀ (n i:Nat),(sm) - i=n→i≤sm→(∀ j,j < i→decide ((d.msgs.getD j default).name=s)=false)→ZD F [.code (Wd.l0),.inLoop Wd.l0,.inBlock 0,.code (.seq (qR Wd.r6 [6]) .ret)] [(1,.d (.str s)),(2,.d (.int .i64 sm)),(3,.loc 3 0),(7,.d (.int .i64 i))] [(3,d.cells)] st:=by
  intro n
  induction n using Nat.strongRecOn with
  | ind n ih_key =>
  intro i hn hi hno
  refine rx (nd2 @Dfn.cells.eq_1 (nd2 @KC.eq_1 @slD.eq_1)) ?_
  refine cd (fun hd=>?_) (fun hd=>?_)
  ·simp at hd
   refine rx (nd2 @Msg.cells.eq_1 (nd2 @Dfn.cells.eq_1 (nd2 @KC.eq_1 @slD.eq_1))) ?_
   refine aa ?_
   refine cd (fun h5=>?_) (fun h5=>?_)
   ·refine rg ?_
    refine hret rfl (by first | trivial | simp) (JE ?_) (by first | exact ZvK _ | exact Yo (by first | trivial | assumption) | assumption | exact ZvS _ (by assumption))
    exact (ZfE hs hd h5 hno).symm
   ·refine rg ?_
    refine aa ?_
    have hno2:∀ j,j < i + 1→decide ((d.msgs.getD j default).name=s)=false:=by
     intro j hj
     rcases Nat.lt_succ_iff_lt_or_eq.1 hj with hj | rfl
     ·exact hno j hj
     ·exact h5
    refine ZG ?_
    exact ih_key ((sm) - (i + 1)) (by omega) (i + 1) rfl (by omega) hno2
  ·simp at hd
   refine rg ?_
   refine hret rfl (by first | trivial | simp) (JE ?_) (by first | exact ZvK _ | exact Yo (by first | trivial | assumption) | assumption | exact ZvS _ (by assumption))
   exact (Zed hs (fun j hj=>hno j (by omega))).symm
 exact key _ 0 rfl (by omega) (fun j h=>by omega)
theorem ZoH (m:Msg) (s:Str) (sm:Nat) (hs:sm≤m.fields.length):Z7 ZvJ YV.id [.agg m.cells,.str s,.int .i64 sm] (.int .i64 (YF m s sm)):=by
 refine Jj YV.ok fun hwf F st hret=>?_
 have hw:=(Zot (s:=m) (hwf _ (by simp))).nfields
 unfold big at hw
 clear hwf
 refine rx (nd2 @Msg.cells.eq_1 (nd2 @ZE.eq_1 @slD.eq_1)) ?_
 refine rg ?_
 refine ZF (Yh ?_)
 have key:∀ (n i:Nat),(sm) - i=n→i≤sm→(∀ j,j < i→decide ((m.fields.getD j default).name=s)=false)→ZD F [.code (YV.l0),.inLoop YV.l0,.inBlock 0,.code (.seq (qR YV.r6 [6]) .ret)] [(1,.d (.str s)),(2,.d (.int .i64 sm)),(3,.loc 3 0),(7,.d (.int .i64 i))] [(3,m.cells)] st:=by
  intro n
  induction n using Nat.strongRecOn with
  | ind n ih_key =>
  intro i hn hi hno
  refine rx (nd2 @Msg.cells.eq_1 (nd2 @ZE.eq_1 @slD.eq_1)) ?_
  refine cd (fun hd=>?_) (fun hd=>?_)
  ·simp at hd
   refine rx (nd2 @Fld.cells.eq_1 (nd2 @Msg.cells.eq_1 (nd2 @ZE.eq_1 @slD.eq_1))) ?_
   refine aa ?_
   refine cd (fun h5=>?_) (fun h5=>?_)
   ·refine rg ?_
    refine hret rfl (by first | trivial | simp) (JE ?_) (by first | exact ZvK _ | exact Yo (by first | trivial | assumption) | assumption | exact ZvS _ (by assumption))
    exact (ZfE hs hd h5 hno).symm
   ·refine rg ?_
    refine aa ?_
    have hno2:∀ j,j < i + 1→decide ((m.fields.getD j default).name=s)=false:=by
     intro j hj
     rcases Nat.lt_succ_iff_lt_or_eq.1 hj with hj | rfl
     ·exact hno j hj
     ·exact h5
    refine ZG ?_
    exact ih_key ((sm) - (i + 1)) (by omega) (i + 1) rfl (by omega) hno2
  ·simp at hd
   refine rg ?_
   refine hret rfl (by first | trivial | simp) (JE ?_) (by first | exact ZvK _ | exact Yo (by first | trivial | assumption) | assumption | exact ZvS _ (by assumption))
   exact (Zed hs (fun j hj=>hno j (by omega))).symm
 exact key _ 0 rfl (by omega) (fun j h=>by omega)
theorem ZoI (f:Fld):Z7 ZvJ Kx.id [.agg f.cells] (.tup [.int .i64 (Wu f).1,.int .i64 (Wu f).2]):=by
 refine YO Kx.ok fun F st hret=>?_
 refine rx @Fld.cells.eq_1 ?_
 refine rg ?_
 refine cd (fun hc=>?_) (fun hc=>?_)
 ·refine rg ?_
  refine hret rfl (by first | trivial | simp) (Jn ?_ rfl) (by first | exact ZvK _ | exact Yo (by first | trivial | assumption) | assumption | exact ZvS _ (by assumption))
  simp at hc; simp [Wu,hc]
 ·refine rg ?_
  refine hret rfl (by first | trivial | simp) (Jn ?_ rfl) (by first | exact ZvK _ | exact Yo (by first | trivial | assumption) | assumption | exact ZvS _ (by assumption))
  simp at hc; simp [Wu,hc]
end Go.DL
namespace Go.DL
open Go Go.Proofs
def Zrf:List Str:=[[],[98,108,120,104],[98,108,120],[111,120,104],[115],[120,104],[111,104],[102,115],[102],[116,99],[98],[114,107],[102,115,121]]
def Zk9 (k:Int):Str:=Zrf.getD k.toNat []
def Zcn (s:Str) (c:UInt8):Bool:=decide (c∈s)
end Go.DL
namespace Go.DL
open Go Go.Proofs
def zrA (u:Str) (f:Fld):Bool:=(Zcn u 98 || decide (f.bits=0)) && ((Zcn u 108 || !f.little) && ((Zcn u 111 || !f.loose) && ((Zcn u 120 || decide (f.low=0)) && (Zcn u 104 || decide (f.high=0)))))
def zrB (u:Str) (f:Fld):Bool:=(Zcn u 115 || (decide (f.size.base=0) && decide (f.size.terms.length=0))) && ((Zcn u 102 || decide (f.of=[])) && ((Zcn u 116 || decide (f.tag=[])) && (Zcn u 114 || decide (f.from_=[]))))
def zrC (u:Str) (f:Fld):Bool:=(Zcn u 99 || decide (f.cases.length=0)) && ((Zcn u 107 || decide (f.check=0)) && (Zcn u 121 || decide (f.key=0)))
def ZiI (f:Fld):Bool:=zrA (Zk9 f.kind) f && (zrB (Zk9 f.kind) f && zrC (Zk9 f.kind) f)
end Go.DL
namespace Go.DL
open Go Go.Proofs
def ZdS (f:Fld):Bool:=decide (f.bits < 1) || (decide (32 < f.bits) || (f.little && (!decide (f.bits=16) && (!decide (f.bits=24) && !decide (f.bits=32)))))
def Zre (f:Fld):Int:=if f.kind=2 then f.low else f.high
def Zou (f:Fld):Bool:=decide (f.low < 0) || (decide (Zre f < f.low) || decide (2 ^ f.bits.toNat≤Zre f))
def Zb1 (f:Fld):Int:=if ZdS f then 6 else if Zou f then 7 else 0
theorem Zvg {b:Int} (h0:0≤b) (h1:b≤32):ZjP .i64 1 b=2 ^ b.toNat:=by
 unfold ZjP
 rw [show Nat.min b.toNat IntKind.i64.bits=b.toNat from Nat.min_eq_left (show b.toNat≤IntKind.i64.bits by simp [IntKind.bits]; omega)]
 simp
theorem Zds {b:Int} (h0:0≤b) (h1:b≤32):(0:Int) < 2 ^ b.toNat∧(2:Int) ^ b.toNat≤4294967296:=by
 have h:=Nat.pow_le_pow_right (n:=2) (by omega) (show b.toNat≤32 by omega)
 have h2:=Nat.two_pow_pos b.toNat
 rw [show (2:Int) ^ b.toNat=((2 ^ b.toNat:Nat):Int) from (Int.natCast_pow 2 b.toNat).symm]
 generalize 2 ^ b.toNat=x at h h2 ⊢
 omega
def Zp0 (m:Msg) (s:Str) (n:Nat):Bool:=(m.fields.take n).any fun f=>decide (f.kind=9) && decide (f.tag=s)
end Go.DL
namespace Go.DL
open Go Go.Proofs
def Zch (d:Dfn) (at_:Nat) (high:Int):Int→List WK→Int
 | _,[]=>0
 | low,c :: r=>if decide (c.low < low) || (decide (c.high < c.low) || decide (high < c.high)) then 7 else if Z8 d c.of at_ < 0 then 8 else Zch d at_ high (c.high + 1) r
def Zkd (d:Dfn) (at_:Nat) (f:Fld) (low high:Int):Int:=if decide (f.cases.length < 1) || decide (40 < f.cases.length) then 3 else Zch d at_ high low f.cases
end Go.DL
namespace Go.DL
open Go Go.Proofs
def Ki (fs:List Fld):JX:=fun s=>if ZB (fun f=>decide (f.name=s)) fs < 0 then none else if KB (fs.getD (ZB (fun f=>decide (f.name=s)) fs).toNat default) then some (Wu (fs.getD (ZB (fun f=>decide (f.name=s)) fs).toNat default)) else none
def ZeC (fs:List Fld) (s:WZ):Int:=if WM s=false then 9 else if s.terms.any (Ja (Ki fs)) then 8 else if !decide ((QQ s (Ki fs)).2.2=0) || (decide ((QQ s (Ki fs)).1 < 0) || decide (1048576 < (QQ s (Ki fs)).2.1)) then 9 else 0
end Go.DL
namespace Go.DL
open Go Go.Proofs
def Zbd (l:List Str):D:=slD 1 (fun s=>[.str s]) l
def Zar (f:Fld):List Str:=if decide (f.kind=7) || (decide (f.kind=8) || decide (f.kind=12)) then [f.of] else []
def We (f:Fld):List Str:=Zar f++if f.kind=9 then f.cases.map (·.of) else []
def Zca (out:List Str) (s:Str):List Str:=if s∈out then out else out++[s]
def Qr (m:Msg):List Str:=(m.fields.flatMap We).foldl Zca []
theorem Zo0 (out:List Str) (s:Str):(Zca out s).length≤out.length + 1:=by unfold Zca; split <;> simp
theorem ZiK (l out:List Str):(l.foldl Zca out).length≤out.length + l.length:=by
 induction l generalizing out with
 | nil=>simp
 | cons x r ih=>have:=ih (Zca out x); have:=Zo0 out x; simp only [List.foldl_cons,Zv0]; omega
theorem ZgW (l:List Fld) (i:Nat):((l.take i).flatMap We).length≤(l.flatMap We).length:=by
 conv=>rhs; rw [← List.take_append_drop i l,List.flatMap_append,ZvT]
 omega
theorem ZiJ (l:List Fld) (i:Nat) (hi:i < l.length):(l.take (i + 1)).flatMap We=(l.take i).flatMap We++We (l.getD i default):=by
 rw [Ky hi,List.flatMap_append]; simp
end Go.DL
namespace Go.DL
open Go Go.Proofs
def ZeG (d:Dfn) (m:Msg) (prev:List Bool):Bool:=m.fields.all (fun f=>!f.loose) && (Qr m).all fun s=>prev.getD (Z8 d s prev.length).toNat default
def QI (d:Dfn):Nat→List Bool
 | 0=>[]
 | n + 1=>QI d n++[ZeG d (d.msgs.getD n default) (QI d n)]
theorem ZcB (d:Dfn) (n:Nat):(QI d n).length=n:=by
 induction n with
 | zero=>rfl
 | succ n ih=>simp [QI,ih]
structure Zvj (d:Dfn) (j:Nat):Prop where
 few:((d.msgs.getD j default).fields.flatMap We).length≤1000000
 ref:∀ s∈Qr (d.msgs.getD j default),0≤Z8 d s j
theorem Znx {α:Type} [Inhabited α] {p:α→Bool} {l:List α} {i:Nat} (h:i < l.length):(l.take (i + 1)).all p=((l.take i).all p && p (l.getD i default)):=by
 rw [Ky h,List.all_append]; simp
end Go.DL
namespace Go.DL
open Go Go.Proofs
def Zoy (f:Fld):Bool:=!decide (f.bits=2) && (!decide (f.bits=4) && (decide (f.bits < 8) || (decide (512 < f.bits) || !decide (Int.tmod f.bits 8=0))))
def Zhf (m:Msg) (i:Nat) (f:Fld):Bool:=decide (YF m f.tag i < 0) || (!KB (m.fields.getD (YF m f.tag i).toNat default) || Zp0 m f.tag i)
def ZlT (d:Dfn) (at_:Nat) (f:Fld):Bool:=decide (Z8 d f.of at_ < 0) || !(QI d at_).getD (Z8 d f.of at_).toNat default
def Zco (d:Dfn) (at_:Nat) (m:Msg) (i:Nat) (f:Fld):Int :=
 if f.kind=1 then Zb1 f else if f.kind=2 then Zb1 f
 else if f.kind=3 then (if Zrg f.low f.high then 0 else 7)
 else if f.kind=4 then ZeC (m.fields.take i) f.size
 else if f.kind=5 then (if decide (f.low < 0) || (decide (255 < f.low) || (decide (f.high < 0) || decide (1048576 < f.high))) then 7 else 0)
 else if f.kind=6 then (if decide (f.high < 2) || decide (1048576 < f.high) then 7 else 0)
 else if f.kind=7 then (if Z8 d f.of at_ < 0 then 8 else ZeC (m.fields.take i) f.size)
 else if f.kind=8 then (if Z8 d f.of at_ < 0 then 8 else 0)
 else if f.kind=9 then (if Zhf m i f then 8 else Zkd d at_ f (Wu (m.fields.getD (YF m f.tag i).toNat default)).1 (Wu (m.fields.getD (YF m f.tag i).toNat default)).2)
 else if f.kind=10 then (if Zoy f then 6 else 0)
 else if f.kind=11 then (if decide (f.check < 1) || decide (3 < f.check) then 7 else if YF m f.from_ i < 0 then 8 else 0)
 else if f.kind=12 then (if decide (f.key < 0) || decide (4294967295 < f.key) then 7 else if ZlT d at_ f then 8 else ZeC (m.fields.take i) f.size)
 else 0
end Go.DL
namespace Go.DL
open Go Go.Proofs
def Qy (d:Dfn) (at_:Nat) (m:Msg) (i:Nat) (f:Fld):Int :=
 if Qh f.name=false then 1 else if 0≤YF m f.name i then 2 else if decide (f.kind < 1) || decide (12 < f.kind) then 4 else if ZiI f=false then 5 else Zco d at_ m i f
end Go.DL
namespace Go.DL
open Go Go.Proofs
def Ke (d:Dfn) (at_:Nat) (m:Msg):Nat→List Fld→Option (Int × Int)
 | _,[]=>none
 | i,f :: r=>if Qy d at_ m i f=0 then Ke d at_ m (i + 1) r else some (i,Qy d at_ m i f)
def Qp (d:Dfn) (at_:Nat) (m:Msg):Option (Int × Int) :=
 if Qh m.name=false then some (-1,1) else if 0≤Z8 d m.name at_ then some (-1,2) else if decide (m.fields.length < 1) || decide (40 < m.fields.length) then some (-1,3) else Ke d at_ m 0 m.fields
def ZrG (d:Dfn) (at_:Nat) (deps:List Int) (b:Int) (l:List Str):Int:=l.foldl (fun a s=>max a (deps.getD (Z8 d s at_).toNat default)) b
def Zeb (d:Dfn) (at_:Nat) (deps:List Int) (m:Msg):Int:=ZrG d at_ deps 0 (Qr m) + 1
def Zaa (d:Dfn):Nat→List Msg→List Int→Option (Int × Int × Int)
 | _,[],_=>if Z8 d d.start d.msgs.length < 0 then some (-1,-1,11) else none
 | at_,m :: r,deps=>match Qp d at_ m with
  | some (i,c)=>some (at_,i,c)
  | none=>if 16 < Zeb d at_ deps m then some (at_,-1,10) else Zaa d (at_ + 1) r (deps++[Zeb d at_ deps m])
def ZnI (d:Dfn):Option (Int × Int × Int) :=
 if Qh d.name=false then some (-1,-1,1) else if decide (d.msgs.length < 1) || decide (60 < d.msgs.length) then some (-1,-1,3) else Zaa d 0 d.msgs []
def ZeJ (d:Dfn):Bool:=(ZnI d).isNone
theorem Zrw {d:Dfn} {at_:Nat} {high low:Int} {l:List WK} (h:Zch d at_ high low l=0):∀ c∈l,0≤Z8 d c.of at_:=by
 induction l generalizing low with
 | nil=>simp
 | cons c r ih =>
  simp only [Zch] at h
  split at h
  ·omega
  ·split at h
   ·omega
   ·intro x hx
    rcases List.mem_cons.1 hx with rfl | hx
    ·omega
    ·exact ih h x hx
theorem Zhl {d:Dfn} {at_ i:Nat} {m:Msg} {f:Fld} (h:Qy d at_ m i f=0):(We f).length≤41∧∀ s∈We f,0≤Z8 d s at_:=by
 unfold Qy at h
 split at h; · omega
 split at h; · omega
 split at h; · omega
 rename_i hk
 split at h; · omega
 simp only [ZvW,decide_eq_true_eq,not_or,Int.not_lt] at hk
 have hk2:f.kind=1∨f.kind=2∨f.kind=3∨f.kind=4∨f.kind=5∨f.kind=6∨f.kind=7∨f.kind=8∨f.kind=9∨f.kind=10∨f.kind=11∨f.kind=12:=by omega
 unfold Zco at h
 rcases hk2 with hk | hk | hk | hk | hk | hk | hk | hk | hk | hk | hk | hk <;> simp only [hk,Int.reduceEq,if_true,if_false] at h <;> (try (simp [We,Zar,hk]; done))
 ·simp only [We,Zar,hk]; split at h
  ·omega
  ·simp; omega
 ·simp only [We,Zar,hk]; split at h
  ·omega
  ·simp; omega
 ·split at h
  ·omega
  ·unfold Zkd at h
   split at h
   ·omega
   ·rename_i hc
    simp only [ZvW,decide_eq_true_eq,not_or,Nat.not_lt] at hc
    have:=Zrw h
    simp [We,Zar,hk]
    exact ⟨by omega,this⟩
 ·split at h
  ·omega
  ·split at h
   ·omega
   ·rename_i hv
    simp only [ZlT,ZvW,decide_eq_true_eq,not_or] at hv
    simp [We,Zar,hk]; omega
theorem Zks {d:Dfn} {at_:Nat} {m:Msg} {i:Nat} {l:List Fld} (h:Ke d at_ m i l=none):(l.flatMap We).length≤41 * l.length∧∀ s∈l.flatMap We,0≤Z8 d s at_:=by
 induction l generalizing i with
 | nil=>simp
 | cons f r ih =>
  simp only [Ke] at h
  split at h
  ·rename_i hf
   have h1:=Zhl hf
   have h2:=ih h
   simp only [List.flatMap_cons,ZvT,Zv0,List.mem_append]
   refine ⟨by omega,fun s hs=>?_⟩
   rcases hs with hs | hs
   ·exact h1.2 s hs
   ·exact h2.2 s hs
  ·simp at h
theorem ZfF {s:Str} {l out:List Str}:s∈l.foldl Zca out↔s∈out∨s∈l:=by
 induction l generalizing out with
 | nil=>simp
 | cons x r ih =>
  simp only [List.foldl_cons,ih,List.mem_cons]
  unfold Zca
  split
  ·rename_i h
   constructor
   ·rintro (h1 | h1)
    ·exact .inl h1
    ·exact .inr (.inr h1)
   ·rintro (h1 | rfl | h1)
    ·exact .inl h1
    ·exact .inl h
    ·exact .inr h1
  ·simp only [List.mem_append,List.mem_singleton,_root_.or_assoc]
theorem Zo7 {s:Str} {m:Msg}:s∈Qr m↔s∈m.fields.flatMap We:=by
 unfold Qr; rw [ZfF]; simp
theorem Ztp {d:Dfn} {j:Nat} {m:Msg} (hm:d.msgs.getD j default=m) (h:Qp d j m=none):Zvj d j:=by
 unfold Qp at h
 split at h; · simp at h
 split at h; · simp at h
 split at h; · simp at h
 rename_i hc
 simp only [ZvW,decide_eq_true_eq,not_or,Nat.not_lt] at hc
 have:=Zks h
 subst hm
 exact ⟨by omega,fun s hs=>this.2 s (Zo7.1 hs)⟩
end Go.DL
namespace Go.DL
open Go
theorem Kj {q:Nat→Prop} {j:Nat} (h:∀ i,i < j→q i) (hj:q j):∀ i,i < j + 1→q i:=fun i hi=>by
 rcases Nat.lt_or_eq_of_le (Nat.le_of_lt_succ hi) with h' | rfl
 ·exact h i h'
 ·exact hj
def st2 (st:St) (t1:Tok) (k1:Nat) (t2:Tok) (k2:Nat) (x:Nat) (c:Y6):St:=((st.own t1 k1).own t2 k2).upd x c
theorem YP {st:St} {t1 t2:Tok} {x k1 k2:Nat} {c:Y6}:(st2 st t1 k1 t2 k2 x c) x=some c:=ZvQ _ _ _
theorem YQ {st:St} {t1 t2:Tok} {x k1 k2:Nat} {c c':Y6}:(st2 st t1 k1 t2 k2 x c).upd x c'=st2 st t1 k1 t2 k2 x c':=ZvV _ _ _ _
end Go.DL
namespace Go.DL
open Go Go.Proofs
def Zam {α:Type} (p:α→Bool):List α→Nat
 | []=>0
 | x :: r=>if p x then 1 else Zam p r + 1
theorem ZdO {α:Type} {p:α→Bool} {l:List α} (h:∀ x∈l,p x=false):Zam p l=l.length:=by
 induction l with
 | nil=>rfl
 | cons x r ih=>simp only [Zam,h x (by simp),Zv0]; rw [ih fun y hy=>h y (by simp [hy])]; simp
theorem ZgE {α:Type} [Inhabited α] {p:α→Bool} {l:List α} {i:Nat} (hi:i < l.length) (hp:p (l.getD i default)=true) (h:∀ j,j < i→p (l.getD j default)=false):Zam p l=i + 1:=by
 induction l generalizing i with
 | nil=>simp at hi
 | cons x r ih =>
  cases i with
  | zero=>simp at hp; simp [Zam,hp]
  | succ i =>
   have h0:=h 0 (by omega)
   simp only [List.getD_cons_zero] at h0
   simp only [List.getD_cons_succ,Zv0] at hp hi
   simp only [Zam,h0]
   rw [ih (by omega) hp fun j hj=>by have:=h (j + 1) (by omega); simpa only [List.getD_cons_succ] using this]
   simp
def byC (b:UInt8):List D:=[.int .u8 (b.toNat:Int)]
theorem Zcd {α:Type} (p:α→Bool) (l:List α):l.any p=decide (0≤ZB p l):=by
 induction l with
 | nil=>rfl
 | cons x r ih =>
  have:=ZeT p r
  rw [List.any_cons,ih]
  simp only [ZB]
  by_cases hx:p x=true
  ·simp [hx]
  ·by_cases hr:ZB p r < 0
   ·simp [hx,hr]
   ·simp [hx,hr]; omega
theorem Zdp (l:List Msg) (f:D) (p:Msg→Bool) (sts:Nat→St)
  (hf:∀ i,i < l.length→VT ZvJ f [.agg (l.getD i default).cells] (sts i) (.bool (p (l.getD i default))) (sts (i + 1))) :
  YU ZvJ Zk.id [slD 2 Msg.cells l,f] (sts 0) (.int .i64 (ZB p l)) (sts (Zam p l)):=by
 refine YL Zk.ok fun hwf F hret=>?_
 have hw:=(QW (hwf (slD 2 Msg.cells l) (by simp))).1
 unfold big at hw
 clear hwf
 refine rx @slD.eq_1 ?_
 refine rx @slD.eq_1 ?_
 refine ZF (Yh ?_)
 have key:∀ (n i:Nat),(l.length) - i=n→i≤l.length→(∀ j,j < i→p (l.getD j default)=false)→ZD F [.code (Zk.l0),.inLoop Zk.l0,.inBlock 0,.code (.seq (qR Zk.r7 [4]) .ret)] [(0,.d (slD 2 Msg.cells l)),(1,.d f),(7,.d (.int .i64 l.length)),(8,.d (.int .i64 i))] [] (sts i):=by
  intro n
  induction n using Nat.strongRecOn with
  | ind n ih_key =>
  intro i hn hi hno
  refine rx @slD.eq_1 ?_
  refine Zi (Zv rfl trivial (fun h1=>?_) (fun h1=>?_))
  ·simp at h1
   refine rx @slD.eq_1 ?_
   refine rx (nd2 @slD.eq_1 @Msg.cells.eq_1) ?_
   refine aa ?_
   refine ZbB rfl rfl rfl rfl rfl (by trivial) (by trivial) (by exact hf i h1) (Zc ?_)
   simp only [Eqs,reduceCtorEq,ZvG,reduceIte,ZvE,ZvH,ZvF]
   refine cd (fun h2=>?_) (fun h2=>?_)
   ·have e1:=Zab h1 h2 hno
    have e2:=ZgE h1 h2 hno
    rw [e1,e2] at hret
    refine rg ?_
    exact hret rfl (by trivial) (ZvM _) (ZvK _)
   ·refine rg ?_
    refine aa ?_
    refine ZG ?_
    exact ih_key ((l.length) - (i + 1)) (by omega) (i + 1) rfl (by omega) (Kj (q:=fun j=>p (l.getD j default)=false) hno h2)
  ·simp at h1
   obtain rfl:i=l.length:=by omega
   have hall:∀ x∈l,p x=false:=fun x hx=>by
    obtain ⟨j,hj,rfl⟩:=ZvX hx
    have:=hno j hj
    simpa [List.getD,hj] using this
   rw [JR hall,ZdO hall] at hret
   refine rg ?_
   exact hret rfl (by trivial) (ZvM _) (ZvK _)
 exact key _ 0 rfl (by omega) (by intro j hj; omega)
theorem ZaI (l:List Fld) (f:D) (p:Fld→Bool) (sts:Nat→St)
  (hf:∀ i,i < l.length→VT ZvJ f [.agg (l.getD i default).cells] (sts i) (.bool (p (l.getD i default))) (sts (i + 1))) :
  YU ZvJ Zo.id [slD 15 Fld.cells l,f] (sts 0) (.int .i64 (ZB p l)) (sts (Zam p l)):=by
 refine YL Zo.ok fun hwf F hret=>?_
 have hw:=(QW (hwf (slD 15 Fld.cells l) (by simp))).1
 unfold big at hw
 clear hwf
 refine rx @slD.eq_1 ?_
 refine rx @slD.eq_1 ?_
 refine ZF (Yh ?_)
 have key:∀ (n i:Nat),(l.length) - i=n→i≤l.length→(∀ j,j < i→p (l.getD j default)=false)→ZD F [.code (Zo.l0),.inLoop Zo.l0,.inBlock 0,.code (.seq (qR Zo.r7 [4]) .ret)] [(0,.d (slD 15 Fld.cells l)),(1,.d f),(7,.d (.int .i64 l.length)),(8,.d (.int .i64 i))] [] (sts i):=by
  intro n
  induction n using Nat.strongRecOn with
  | ind n ih_key =>
  intro i hn hi hno
  refine rx @slD.eq_1 ?_
  refine Zi (Zv rfl trivial (fun h1=>?_) (fun h1=>?_))
  ·simp at h1
   refine rx @slD.eq_1 ?_
   refine rx (nd2 @slD.eq_1 @Fld.cells.eq_1) ?_
   refine aa ?_
   refine ZbB rfl rfl rfl rfl rfl (by trivial) (by trivial) (by exact hf i h1) (Zc ?_)
   simp only [Eqs,reduceCtorEq,ZvG,reduceIte,ZvE,ZvH,ZvF]
   refine cd (fun h2=>?_) (fun h2=>?_)
   ·have e1:=Zab h1 h2 hno
    have e2:=ZgE h1 h2 hno
    rw [e1,e2] at hret
    refine rg ?_
    exact hret rfl (by trivial) (ZvM _) (ZvK _)
   ·refine rg ?_
    refine aa ?_
    refine ZG ?_
    exact ih_key ((l.length) - (i + 1)) (by omega) (i + 1) rfl (by omega) (Kj (q:=fun j=>p (l.getD j default)=false) hno h2)
  ·simp at h1
   obtain rfl:i=l.length:=by omega
   have hall:∀ x∈l,p x=false:=fun x hx=>by
    obtain ⟨j,hj,rfl⟩:=ZvX hx
    have:=hno j hj
    simpa [List.getD,hj] using this
   rw [JR hall,ZdO hall] at hret
   refine rg ?_
   exact hret rfl (by trivial) (ZvM _) (ZvK _)
 exact key _ 0 rfl (by omega) (by intro j hj; omega)
theorem ZeE (l:List UInt8) (f:D) (p:UInt8→Bool) (sts:Nat→St)
  (hf:∀ i,i < l.length→VT ZvJ f [.int .u8 ((l.getD i default).toNat:Int)] (sts i) (.bool (p (l.getD i default))) (sts (i + 1))) :
  YU ZvJ Zt.id [slD 1 byC l,f] (sts 0) (.int .i64 (ZB p l)) (sts (Zam p l)):=by
 refine YL Zt.ok fun hwf F hret=>?_
 have hw:=(QW (hwf (slD 1 byC l) (by simp))).1
 unfold big at hw
 clear hwf
 refine rx @slD.eq_1 ?_
 refine rx @slD.eq_1 ?_
 refine ZF (Yh ?_)
 have key:∀ (n i:Nat),(l.length) - i=n→i≤l.length→(∀ j,j < i→p (l.getD j default)=false)→ZD F [.code (Zt.l0),.inLoop Zt.l0,.inBlock 0,.code (.seq (qR Zt.r7 [4]) .ret)] [(0,.d (slD 1 byC l)),(1,.d f),(7,.d (.int .i64 l.length)),(8,.d (.int .i64 i))] [] (sts i):=by
  intro n
  induction n using Nat.strongRecOn with
  | ind n ih_key =>
  intro i hn hi hno
  refine rx @slD.eq_1 ?_
  refine Zi (Zv rfl trivial (fun h1=>?_) (fun h1=>?_))
  ·simp at h1
   refine rx @slD.eq_1 ?_
   refine rx (nd2 @slD.eq_1 @byC.eq_1) ?_
   refine aa ?_
   refine ZbB rfl rfl rfl rfl rfl (by trivial) (by trivial) (by exact hf i h1) (Zc ?_)
   simp only [Eqs,reduceCtorEq,ZvG,reduceIte,ZvE,ZvH,ZvF]
   refine cd (fun h2=>?_) (fun h2=>?_)
   ·have e1:=Zab h1 h2 hno
    have e2:=ZgE h1 h2 hno
    rw [e1,e2] at hret
    refine rg ?_
    exact hret rfl (by trivial) (ZvM _) (ZvK _)
   ·refine rg ?_
    refine aa ?_
    refine ZG ?_
    exact ih_key ((l.length) - (i + 1)) (by omega) (i + 1) rfl (by omega) (Kj (q:=fun j=>p (l.getD j default)=false) hno h2)
  ·simp at h1
   obtain rfl:i=l.length:=by omega
   have hall:∀ x∈l,p x=false:=fun x hx=>by
    obtain ⟨j,hj,rfl⟩:=ZvX hx
    have:=hno j hj
    simpa [List.getD,hj] using this
   rw [JR hall,ZdO hall] at hret
   refine rg ?_
   exact hret rfl (by trivial) (ZvM _) (ZvK _)
 exact key _ 0 rfl (by omega) (by intro j hj; omega)
theorem ZcU (l:List Fld) (f:D) (p:Fld→Bool) (sts:Nat→St)
  (hf:∀ i,i < l.length→VT ZvJ f [.agg (l.getD i default).cells] (sts i) (.bool (p (l.getD i default))) (sts (i + 1))) :
  YU ZvJ Yf.id [slD 15 Fld.cells l,f] (sts 0) (.bool (l.any p)) (sts (Zam p l)):=by
 refine YL Yf.ok fun hwf F hret=>?_
 clear hwf
 refine rg ?_
 refine rg ?_
 refine ct (ZaI l f p sts hf) ?_
 rw [Zcd] at hret
 exact hret rfl (by trivial) (ZvM _) (ZvK _)
theorem Zdo (l:List UInt8) (f:D) (p:UInt8→Bool) (sts:Nat→St)
  (hf:∀ i,i < l.length→VT ZvJ f [.int .u8 ((l.getD i default).toNat:Int)] (sts i) (.bool (p (l.getD i default))) (sts (i + 1))) :
  YU ZvJ Yd.id [slD 1 byC l,f] (sts 0) (.bool (l.any p)) (sts (Zam p l)):=by
 refine YL Yd.ok fun hwf F hret=>?_
 clear hwf
 refine rg ?_
 refine rg ?_
 refine ct (ZeE l f p sts hf) ?_
 rw [Zcd] at hret
 exact hret rfl (by trivial) (ZvM _) (ZvK _)
end Go.DL
namespace Go.DL
open Go Go.Proofs
def boC (b:Bool):List D:=[.bool b]
def Zfs (s:Str):List D:=[.str s]
theorem Zj8 {α:Type} [DecidableEq α] (v:α) (l:List α):l.any (fun x=>decide (v=x))=decide (v∈l):=by
 induction l with
 | nil=>simp
 | cons x r ih=>rw [List.any_cons,ih]; simp [List.mem_cons]
theorem ZgT {α:Type} [Inhabited α] {l r:List α} (h:l.length=r.length) (h2:∀ j,j < l.length→l.getD j default=r.getD j default):l=r:=by
 apply List.ext_getElem h
 intro i h1 h3
 have:=h2 i h1
 simpa [List.getD,h1,h3] using this
theorem ZgJ (l:List Bool) (v:Bool):Z7 ZvJ ZH.id [slD 1 boC l,.bool v] (.int .i64 (ZB (fun x=>decide (v=x)) l)):=by
 refine Jj ZH.ok fun hwf F st hret=>?_
 have hw:=(QW (hwf (slD 1 boC l) (by simp))).1
 unfold big at hw
 clear hwf
 refine rx @slD.eq_1 ?_
 refine rx @slD.eq_1 ?_
 refine ZF (Yh ?_)
 have key:∀ (n i:Nat),(l.length) - i=n→i≤l.length→(∀ j,j < i→decide (v=l.getD j default)=false)→ZD F [.code (ZH.l0),.inLoop ZH.l0,.inBlock 0,.code (.seq (qR ZH.r7 [4]) .ret)] [(0,.d (slD 1 boC l)),(1,.d (.bool v)),(7,.d (.int .i64 l.length)),(8,.d (.int .i64 i))] [] st:=by
  intro n
  induction n using Nat.strongRecOn with
  | ind n ih_key =>
  intro i hn hi hno
  refine rx @slD.eq_1 ?_
  refine Zi (Zv rfl trivial (fun h1=>?_) (fun h1=>?_))
  ·simp at h1
   refine rx @slD.eq_1 ?_
   refine rx (nd2 @slD.eq_1 @boC.eq_1) ?_
   refine aa ?_
   refine cd (fun h2=>?_) (fun h2=>?_)
   ·have e1:=Zab (p:=fun x=>decide (v=x)) h1 h2 hno
    refine rg ?_
    refine hret rfl (by first | trivial | simp) (JE ?_) (by first | exact ZvK _ | exact Yo (by first | trivial | assumption) | assumption | exact ZvS _ (by assumption))
    exact e1.symm
   ·refine rg ?_
    refine aa ?_
    refine ZG ?_
    exact ih_key ((l.length) - (i + 1)) (by omega) (i + 1) rfl (by omega) (Kj (q:=fun j=>decide (v=l.getD j default)=false) hno h2)
  ·simp at h1
   obtain rfl:i=l.length:=by omega
   have hall:∀ x∈l,(fun x=>decide (v=x)) x=false:=fun x hx=>by
    obtain ⟨j,hj,rfl⟩:=ZvX hx
    have:=hno j hj
    simpa [List.getD,hj] using this
   refine rg ?_
   refine hret rfl (by first | trivial | simp) (JE ?_) (by first | exact ZvK _ | exact Yo (by first | trivial | assumption) | assumption | exact ZvS _ (by assumption))
   exact (JR hall).symm
 exact key _ 0 rfl (by omega) (by intro j hj; omega)
theorem ZeL (l:List Bool) (v:Bool):Z7 ZvJ YH.id [slD 1 boC l,.bool v] (.bool (decide (v∈l))):=by
 refine YO YH.ok fun F st hret=>?_
 refine rg ?_
 refine rg ?_
 refine cl (ZgJ l v) ?_
 refine hret rfl (by first | trivial | simp) (WY ?_) (by first | exact ZvK _ | exact Yo (by first | trivial | assumption) | assumption | exact ZvS _ (by assumption))
 rw [← Zcd,Zj8]; try congr
theorem Zfr (l:List Str) (v:Str):Z7 ZvJ ZA.id [slD 1 Zfs l,.str v] (.int .i64 (ZB (fun x=>decide (v=x)) l)):=by
 refine Jj ZA.ok fun hwf F st hret=>?_
 have hw:=(QW (hwf (slD 1 Zfs l) (by simp))).1
 unfold big at hw
 clear hwf
 refine rx @slD.eq_1 ?_
 refine rx @slD.eq_1 ?_
 refine ZF (Yh ?_)
 have key:∀ (n i:Nat),(l.length) - i=n→i≤l.length→(∀ j,j < i→decide (v=l.getD j default)=false)→ZD F [.code (ZA.l0),.inLoop ZA.l0,.inBlock 0,.code (.seq (qR ZA.r7 [4]) .ret)] [(0,.d (slD 1 Zfs l)),(1,.d (.str v)),(7,.d (.int .i64 l.length)),(8,.d (.int .i64 i))] [] st:=by
  intro n
  induction n using Nat.strongRecOn with
  | ind n ih_key =>
  intro i hn hi hno
  refine rx @slD.eq_1 ?_
  refine Zi (Zv rfl trivial (fun h1=>?_) (fun h1=>?_))
  ·simp at h1
   refine rx @slD.eq_1 ?_
   refine rx (nd2 @slD.eq_1 @Zfs.eq_1) ?_
   refine aa ?_
   refine cd (fun h2=>?_) (fun h2=>?_)
   ·have e1:=Zab (p:=fun x=>decide (v=x)) h1 h2 hno
    refine rg ?_
    refine hret rfl (by first | trivial | simp) (JE ?_) (by first | exact ZvK _ | exact Yo (by first | trivial | assumption) | assumption | exact ZvS _ (by assumption))
    exact e1.symm
   ·refine rg ?_
    refine aa ?_
    refine ZG ?_
    exact ih_key ((l.length) - (i + 1)) (by omega) (i + 1) rfl (by omega) (Kj (q:=fun j=>decide (v=l.getD j default)=false) hno h2)
  ·simp at h1
   obtain rfl:i=l.length:=by omega
   have hall:∀ x∈l,(fun x=>decide (v=x)) x=false:=fun x hx=>by
    obtain ⟨j,hj,rfl⟩:=ZvX hx
    have:=hno j hj
    simpa [List.getD,hj] using this
   refine rg ?_
   refine hret rfl (by first | trivial | simp) (JE ?_) (by first | exact ZvK _ | exact Yo (by first | trivial | assumption) | assumption | exact ZvS _ (by assumption))
   exact (JR hall).symm
 exact key _ 0 rfl (by omega) (by intro j hj; omega)
theorem ZdP (l:List Str) (v:Str):Z7 ZvJ Yn.id [slD 1 Zfs l,.str v] (.bool (decide (v∈l))):=by
 refine YO Yn.ok fun F st hret=>?_
 refine rg ?_
 refine rg ?_
 refine cl (Zfr l v) ?_
 refine hret rfl (by first | trivial | simp) (WY ?_) (by first | exact ZvK _ | exact Yo (by first | trivial | assumption) | assumption | exact ZvS _ (by assumption))
 rw [← Zcd,Zj8]; try congr
theorem ZgI (l r:List YA):Z7 ZvJ Zy.id [slD 2 YA.cells l,slD 2 YA.cells r] (.bool (decide (l=r))):=by
 refine Jj Zy.ok fun hwf F st hret=>?_
 have hw:=(QW (hwf (slD 2 YA.cells l) (by simp))).1
 unfold big at hw
 clear hwf
 refine rx @slD.eq_1 ?_
 refine rx @slD.eq_1 ?_
 refine cd (fun h1=>?_) (fun h1=>?_)
 ·refine rg ?_
  refine hret rfl (by first | trivial | simp) (WY ?_) (by first | exact ZvK _ | exact Yo (by first | trivial | assumption) | assumption | exact ZvS _ (by assumption))
  exact (decide_eq_false (fun e=>by rw [e] at h1; simp at h1)).symm
 ·have hlen:l.length=r.length:=by simp at h1; omega
  refine rx @slD.eq_1 ?_
  refine ZF (Yh ?_)
  have key:∀ (n i:Nat),(l.length) - i=n→i≤l.length→(∀ j,j < i→l.getD j default=r.getD j default)→ZD F [.code (Zy.l0),.inLoop Zy.l0,.inBlock 0,.code (.seq (qR Zy.r9 [4]) .ret)] [(0,.d (slD 2 YA.cells l)),(1,.d (slD 2 YA.cells r)),(12,.d (.int .i64 l.length)),(13,.d (.int .i64 i))] [] st:=by
   intro n
   induction n using Nat.strongRecOn with
   | ind n ih_key =>
   intro i hn hi hno
   refine rx @slD.eq_1 ?_
   refine Zi (Zv rfl trivial (fun h2=>?_) (fun h2=>?_))
   ·simp at h2
    refine rx @slD.eq_1 ?_
    refine rx (nd2 @slD.eq_1 @YA.cells.eq_1) ?_
    refine aa ?_
    refine cd (fun h3=>?_) (fun h3=>?_)
    ·have hne:l.getD i default≠r.getD i default:=fun e=>by rw [e] at h3; simp at h3
     refine rg ?_
     refine hret rfl (by first | trivial | simp) (WY ?_) (by first | exact ZvK _ | exact Yo (by first | trivial | assumption) | assumption | exact ZvS _ (by assumption))
     exact (decide_eq_false (fun e=>hne (by rw [e]))).symm
    ·have heq:l.getD i default=r.getD i default:=by
      generalize l.getD i default=a at h3 ⊢; generalize r.getD i default=b at h3 ⊢; cases a; cases b; simpa [and_assoc] using h3
     refine rg ?_
     refine aa ?_
     refine ZG ?_
     exact ih_key ((l.length) - (i + 1)) (by omega) (i + 1) rfl (by omega) (Kj (q:=fun j=>l.getD j default=r.getD j default) hno heq)
   ·simp at h2
    obtain rfl:i=l.length:=by omega
    refine rg ?_
    refine hret rfl (by first | trivial | simp) (WY ?_) (by first | exact ZvK _ | exact Yo (by first | trivial | assumption) | assumption | exact ZvS _ (by assumption))
    exact (decide_eq_true (ZgT hlen hno)).symm
  exact key _ 0 rfl (by omega) (by intro j hj; omega)
theorem ZgH (l r:List WK):Z7 ZvJ Zx.id [slD 3 WK.cells l,slD 3 WK.cells r] (.bool (decide (l=r))):=by
 refine Jj Zx.ok fun hwf F st hret=>?_
 have hw:=(QW (hwf (slD 3 WK.cells l) (by simp))).1
 unfold big at hw
 clear hwf
 refine rx @slD.eq_1 ?_
 refine rx @slD.eq_1 ?_
 refine cd (fun h1=>?_) (fun h1=>?_)
 ·refine rg ?_
  refine hret rfl (by first | trivial | simp) (WY ?_) (by first | exact ZvK _ | exact Yo (by first | trivial | assumption) | assumption | exact ZvS _ (by assumption))
  exact (decide_eq_false (fun e=>by rw [e] at h1; simp at h1)).symm
 ·have hlen:l.length=r.length:=by simp at h1; omega
  refine rx @slD.eq_1 ?_
  refine ZF (Yh ?_)
  have key:∀ (n i:Nat),(l.length) - i=n→i≤l.length→(∀ j,j < i→l.getD j default=r.getD j default)→ZD F [.code (Zx.l0),.inLoop Zx.l0,.inBlock 0,.code (.seq (qR Zx.r9 [4]) .ret)] [(0,.d (slD 3 WK.cells l)),(1,.d (slD 3 WK.cells r)),(12,.d (.int .i64 l.length)),(13,.d (.int .i64 i))] [] st:=by
   intro n
   induction n using Nat.strongRecOn with
   | ind n ih_key =>
   intro i hn hi hno
   refine rx @slD.eq_1 ?_
   refine Zi (Zv rfl trivial (fun h2=>?_) (fun h2=>?_))
   ·simp at h2
    refine rx @slD.eq_1 ?_
    refine rx (nd2 @slD.eq_1 @WK.cells.eq_1) ?_
    refine aa ?_
    refine cd (fun h3=>?_) (fun h3=>?_)
    ·have hne:l.getD i default≠r.getD i default:=fun e=>by rw [e] at h3; simp at h3
     refine rg ?_
     refine hret rfl (by first | trivial | simp) (WY ?_) (by first | exact ZvK _ | exact Yo (by first | trivial | assumption) | assumption | exact ZvS _ (by assumption))
     exact (decide_eq_false (fun e=>hne (by rw [e]))).symm
    ·have heq:l.getD i default=r.getD i default:=by
      generalize l.getD i default=a at h3 ⊢; generalize r.getD i default=b at h3 ⊢; cases a; cases b; simpa [and_assoc] using h3
     refine rg ?_
     refine aa ?_
     refine ZG ?_
     exact ih_key ((l.length) - (i + 1)) (by omega) (i + 1) rfl (by omega) (Kj (q:=fun j=>l.getD j default=r.getD j default) hno heq)
   ·simp at h2
    obtain rfl:i=l.length:=by omega
    refine rg ?_
    refine hret rfl (by first | trivial | simp) (WY ?_) (by first | exact ZvK _ | exact Yo (by first | trivial | assumption) | assumption | exact ZvS _ (by assumption))
    exact (decide_eq_true (ZgT hlen hno)).symm
  exact key _ 0 rfl (by omega) (by intro j hj; omega)
end Go.DL
namespace Go.DL
open Go Go.Proofs
theorem ZfU (c:UInt8):Z7 ZvJ KH.id [.int .u8 c.toNat] (.bool (Zhx c)):=by
 refine YO KH.ok fun F st hret=>?_
 refine rg ?_
 refine rg ?_
 refine hret rfl (by first | trivial | simp) (WY ?_) (by first | exact ZvK _ | exact Yo (by first | trivial | assumption) | assumption | exact ZvS _ (by assumption))
 rfl
theorem ZmO (c:UInt8):Z7 ZvJ KV.id [.int .u8 c.toNat] (.bool (Zqn c)):=by
 refine YO KV.ok fun F st hret=>?_
 refine rg ?_
 refine rg ?_
 refine hret rfl (by first | trivial | simp) (WY ?_) (by first | exact ZvK _ | exact Yo (by first | trivial | assumption) | assumption | exact ZvS _ (by assumption))
 rfl
theorem ZdC (v:Int):Z7 ZvJ KW.id [.int .i64 v] (.bool (Zby v)):=by
 refine YO KW.ok fun F st hret=>?_
 refine rg ?_
 refine rg ?_
 refine hret rfl (by first | trivial | simp) (WY ?_) (by first | exact ZvK _ | exact Yo (by first | trivial | assumption) | assumption | exact ZvS _ (by assumption))
 simp only [Zby]
theorem Zje (l:List Bool):Z7 ZvJ Qa.id [slD 1 boC l] (.bool (!decide (false∈l))):=by
 refine YO Qa.ok fun F st hret=>?_
 refine rg ?_
 refine rg ?_
 refine cl (ZeL l false) ?_
 refine hret rfl (by first | trivial | simp) (WY ?_) (by first | exact ZvK _ | exact Yo (by first | trivial | assumption) | assumption | exact ZvS _ (by assumption))
 rfl
theorem Zh3 (a b:Bool):Z7 ZvJ Qa.id [.sl .full 2 1 (Wm [.bool false] ([0,1].zip [.bool a,.bool b]))] (.bool (a && b)):=by
 have h:Ku boC (Wm [.bool false] ([0,1].zip [.bool a,.bool b])) [a,b]:=fun i hi=>by
  match i,hi with
  | 0,_=>rfl
  | 1,_=>rfl
 refine ((Zje [a,b]).leA (LeC.one (h.le rfl))).le ?_
 cases a <;> cases b <;> rfl
theorem Zmy (a b c:Bool):Z7 ZvJ Qa.id [.sl .full 3 1 (Wm [.bool false] ([0,1,2].zip [.bool a,.bool b,.bool c]))] (.bool (a && (b && c))):=by
 have h:Ku boC (Wm [.bool false] ([0,1,2].zip [.bool a,.bool b,.bool c])) [a,b,c]:=fun i hi=>by
  match i,hi with
  | 0,_=>rfl
  | 1,_=>rfl
  | 2,_=>rfl
 refine ((Zje [a,b,c]).leA (LeC.one (h.le rfl))).le ?_
 cases a <;> cases b <;> cases c <;> rfl
theorem ZlM (c:UInt8):Z7 ZvJ Kt.id [.int .u8 c.toNat] (.bool (!ZeY c)):=by
 refine YO Kt.ok fun F st hret=>?_
 refine rg ?_
 refine rg ?_
 refine cl (ZfU c) ?_
 refine ZaN rfl rfl rfl rfl rfl (fun hcg=>⟨by first | trivial | (simpa [Zbg] using hcg),trivial,ZmO c⟩) (Zc ?_)
 simp only [Eqs,reduceCtorEq,ZvG,reduceIte,ZvE,ZvH,ZvF]
 refine hret rfl (by first | trivial | simp) (WY ?_) (by first | exact ZvK _ | exact Yo (by first | trivial | assumption) | assumption | exact ZvS _ (by assumption))
 unfold ZeY; cases Zhx c <;> cases Zqn c <;> rfl
theorem Zq0 (s:Str):Z7 ZvJ Yd.id [slD 1 byC s,.fn (.func Kt.id) [] []] (.bool (s.any fun c=>!ZeY c)) :=
 fun st=>Zdo s _ _ (fun _=>st) fun i _=>(ZlM _).VT (first:=[]) (caps:=[]) st
theorem ZrW (s:Str):Qh s=(((decide (1≤(s.length:Int)) && decide ((s.length:Int)≤32)) && Zhx (s.getD 0 0)) && !(s.any fun c=>!ZeY c)):=by
 cases s with
 | nil=>rfl
 | cons c r =>
  have h:∀ l:Str,l.all ZeY = !(l.any fun c=>!ZeY c):=fun l=>by
   induction l with
   | nil=>rfl
   | cons x r ih=>simp only [List.all_cons,List.any_cons,ih]; cases ZeY x <;> simp
  simp only [Qh,h,List.getD_cons_zero,Zv0]
  congr 2
  have h1:decide (1≤((r.length + 1:Nat):Int))=true:=decide_eq_true (by omega)
  rw [h1,ZvU]
  exact decide_eq_decide.2 (by omega)
theorem ZcA (s:Str):Z7 ZvJ KQ.id [.str s] (.bool (Qh s)):=by
 refine Jj KQ.ok fun hwf F st hret=>?_
 have hs:=(hwf (.str s) (by simp)).str_inv
 unfold big at hs
 refine rg ?_
 refine rg ?_
 refine rg ?_
 refine K8 rfl rfl rfl rfl rfl (by trivial) (by trivial) (by exact Zh3 _ _) (Zc ?_)
 simp only [Eqs,reduceCtorEq,ZvG,reduceIte,ZvE,ZvH,ZvF]
 refine aa ?_
 refine ZaN rfl rfl rfl rfl rfl (fun hcg=>⟨by first | trivial | (simpa [Zbg] using hcg),trivial,ZfU _⟩) (Zc ?_)
 simp only [Eqs,reduceCtorEq,ZvG,reduceIte,ZvE,ZvH,ZvF]
 refine ZaN rfl rfl rfl rfl rfl (fun hcg=>⟨by first | trivial | (simpa [Zbg] using hcg),trivial,Zq0 s⟩) (Zc ?_)
 simp only [Eqs,reduceCtorEq,ZvG,reduceIte,ZvE,ZvH,ZvF]
 rw [ZrW] at hret
 refine hret rfl (by first | trivial | simp) (WY ?_) (by first | exact ZvK _ | exact Yo (by first | trivial | assumption) | assumption | exact ZvS _ (by assumption))
 trivial
end Go.DL
namespace Go.DL
open Go
section
variable {K V:Type} [DecidableEq K]
def ZM (k:K):List (K × V)→Option V
 | []=>none
 | e :: r=>if k=e.1 then some e.2 else ZM k r
def W5 (k:K) (v:V):List (K × V)→List (K × V)
 | []=>[(k,v)]
 | e :: r=>if k=e.1 then (k,v) :: r else e :: W5 k v r
def JI (kD:K→D) (vD:V→D) (l:List (K × V)):List (D × D):=l.map fun e=>(kD e.1,vD e.2)
def Zij (kp:KP) (kD:K→D):Prop:=∀ a b,Qt kp (kD a) (kD b)=some (decide (a=b))
theorem KU {kp:KP} {kD:K→D} {vD:V→D} (h:Zij kp kD) (k:K) (l:List (K × V)):ZbG kp (kD k) (JI kD vD l)=some ((ZM k l).map vD):=by
 induction l with
 | nil=>rfl
 | cons e r ih =>
  simp only [JI,List.map_cons,ZbG,h k e.1,ZM]
  by_cases hk:k=e.1
  ·simp [hk]
  ·simp only [hk,decide_false,if_false]; exact ih
theorem Zb4 {kp:KP} {kD:K→D} {vD:V→D} (h:Zij kp kD) (k:K) (v:V) (l:List (K × V)):ZaC kp (kD k) (vD v) (JI kD vD l)=some (JI kD vD (W5 k v l)):=by
 induction l with
 | nil=>rfl
 | cons e r ih =>
  simp only [JI,List.map_cons,ZaC,h k e.1,W5]
  by_cases hk:k=e.1
  ·simp [hk]
  ·simp only [hk,decide_false,if_false,List.map_cons]
   rw [show ZaC kp (kD k) (vD v) (r.map fun e=>(kD e.1,vD e.2))=_ from ih]; rfl
theorem Qm {kp:KP} {kD:K→D} (h:Zij kp kD) (k:K):Jg kp (kD k)=true:=by simp [Jg,h k k]
theorem Zag (k j:K) (v:V) (l:List (K × V)):ZM j (W5 k v l)=if j=k then some v else ZM j l:=by
 induction l with
 | nil=>simp [W5,ZM]
 | cons e r ih =>
  simp only [W5]
  by_cases hk:k=e.1
  ·subst hk; simp only [if_true,ZM]; split <;> rfl
  ·simp only [hk,if_false,ZM,ih]
   by_cases hj:j=e.1
   ·subst hj; simp [Ne.symm hk]
   ·simp [hj]
theorem Zud {k:K} {v:V} {l:List (K × V)} {e:K × V} (h:e∈W5 k v l):e=(k,v)∨e∈l:=by
 induction l with
 | nil=>simp [W5] at h; exact .inl h
 | cons x r ih =>
  simp only [W5] at h
  split at h
  ·rcases List.mem_cons.1 h with h | h
   ·exact .inl h
   ·exact .inr (by simp [h])
  ·rcases List.mem_cons.1 h with h | h
   ·exact .inr (by simp [h])
   ·rcases ih h with h | h
    ·exact .inl h
    ·exact .inr (by simp [h])
theorem ZrR {k:K} {l:List (K × V)}:ZM k l=none↔k ∉ l.map (·.1):=by
 induction l with
 | nil=>simp [ZM]
 | cons x r ih =>
  simp only [ZM,List.map_cons,List.mem_cons]
  by_cases h:k=x.1
  ·simp [h]
  ·simp [h,ih]
theorem Zgk {k:K} {v:V} {l:List (K × V)} (h:ZM k l=some v):(k,v)∈l:=by
 induction l with
 | nil=>simp [ZM] at h
 | cons x r ih =>
  simp only [ZM] at h
  split at h
  ·rename_i hk; cases h; subst hk; simp
  ·simp [ih h]
end
def Ju (s:Str):D:=.str s
theorem YK:Zij (.sc .str) Ju:=fun a b=>rfl
def Zaz (n:Int):D:=.int .i64 n
theorem Zog:Zij (.sc .int) Zaz:=fun a b=>by simp [Qt,Zaz,Wg]
end Go.DL
namespace Go.DL
open Go Go.Proofs
def vst (st:St) (b x:Nat) (es:List (D × D)):St:=(st.upd b (.map es)).upd x (.cells [.map b])
theorem ZtE {st:St} {b x:Nat} {es:List (D × D)}:(vst st b x es) x=some (.cells [.map b]):=ZvQ _ _ _
theorem ZtD {st:St} {b x:Nat} {es:List (D × D)} (h:b≠x):(vst st b x es) b=some (.map es):=by
 unfold vst; rw [ZvP _ _ h]; exact ZvQ _ _ _
theorem Zux {st:St} {b x:Nat} {es es':List (D × D)} (h:b≠x):(vst st b x es).upd b (.map es')=vst st b x es':=by
 unfold vst; rw [St.upd_comm _ _ _ h,ZvV]
abbrev QY (l:List (Str × Bool)):List (D × D):=JI Ju D.bool l
theorem ZjD (o:Option Bool):KJ (.bool false) false (o.map D.bool) = .bool (o.getD false):=by cases o <;> rfl
theorem Zk3 (t:YA) (st:St) (b x:Nat) (h:b≠x) (l:List (Str × Bool)) :
  YU ZvJ YX.id [.agg t.cells,.ptr x 0] (vst st b x (QY l)) (.bool ((ZM t.field l).getD false || !J6 t)) (vst st b x (QY (W5 t.field true l))):=by
 refine YL YX.ok fun hwf F hret=>?_
 have e1:=KU (vD:=D.bool) YK t.field l
 have e2:=Zb4 (vD:=D.bool) YK t.field true l
 have e3:=Qm YK t.field
 simp only [show Ju t.field=D.str t.field from rfl] at e1 e2 e3
 refine rx @YA.cells.eq_1 ?_
 refine Zi (Yr (Zc ?_))
 simp only [Eqs,reduceCtorEq,ZvG,reduceIte,ZvE,ZvH,ZvF,YX.r1,ZtE,ZtD h,e1,ZjD]
 generalize (ZM t.field l).getD false=tw at *
 refine Zi (Yr (Zc ?_))
 simp only [Eqs,reduceCtorEq,ZvG,reduceIte,ZvE,ZvH,ZvF,YX.r2,ZtE,ZtD h,e2,Zux h]
 cases tw with
 | false =>
  refine rx @YA.cells.eq_1 ?_
  refine clD (ZcA t.field) ?_
  refine clD (ZdC t.factor) ?_
  refine J9 rfl rfl rfl rfl rfl (by trivial) (by trivial) (by exact Zmy _ _ _) (Wb ?_)
  simp only [Eqs,reduceCtorEq,ZvG,reduceIte,ZvE,ZvH,ZvF]
  refine hret rfl (by trivial) (WY ?_) (ZvK _)
  unfold J6
  cases Qh t.field <;> cases decide (t.factor=0) <;> cases Zby t.factor <;> rfl
 | true =>
  refine rx @YA.cells.eq_1 ?_
  refine ZdY rfl rfl (e:=.d (.bool false)) (Wb ?_)
  simp only [Eqs,reduceCtorEq,ZvG,reduceIte,ZvE,ZvH,ZvF]
  refine ZdY rfl rfl (e:=.d (.bool false)) (Wb ?_)
  simp only [Eqs,reduceCtorEq,ZvG,reduceIte,ZvE,ZvH,ZvF]
  refine ZdY rfl rfl (e:=.d (.bool false)) (Wb ?_)
  simp only [Eqs,reduceCtorEq,ZvG,reduceIte,ZvE,ZvH,ZvF]
  exact hret rfl (by trivial) (WY (by simp)) (ZvK _)
theorem ZdN {n i:Nat} (h:i < n):(List.range n).getD i default=i:=by simp [List.getD,h]
theorem ZeD (l:List YA) (f:D) (p:Nat→Bool) (sts:Nat→St)
  (hf:∀ i,i < l.length→VT ZvJ f [.agg (l.getD i default).cells] (sts i) (.bool (p i)) (sts (i + 1))) :
  YU ZvJ Zs.id [slD 2 YA.cells l,f] (sts 0) (.int .i64 (ZB p (List.range l.length))) (sts (Zam p (List.range l.length))):=by
 refine YL Zs.ok fun hwf F hret=>?_
 have hw:=(QW (hwf (slD 2 YA.cells l) (by simp))).1
 unfold big at hw
 clear hwf
 refine rx @slD.eq_1 ?_
 refine rx @slD.eq_1 ?_
 refine ZF (Yh ?_)
 have key:∀ (n i:Nat),(l.length) - i=n→i≤l.length→(∀ j,j < i→p j=false)→ZD F [.code (Zs.l0),.inLoop Zs.l0,.inBlock 0,.code (.seq (qR Zs.r7 [4]) .ret)] [(0,.d (slD 2 YA.cells l)),(1,.d f),(7,.d (.int .i64 l.length)),(8,.d (.int .i64 i))] [] (sts i):=by
  intro n
  induction n using Nat.strongRecOn with
  | ind n ih_key =>
  intro i hn hi hno
  refine rx @slD.eq_1 ?_
  refine Zi (Zv rfl trivial (fun h1=>?_) (fun h1=>?_))
  ·simp at h1
   refine rx @slD.eq_1 ?_
   refine rx (nd2 @slD.eq_1 @YA.cells.eq_1) ?_
   refine aa ?_
   refine ZbB rfl rfl rfl rfl rfl (by trivial) (by trivial) (by exact hf i h1) (Zc ?_)
   simp only [Eqs,reduceCtorEq,ZvG,reduceIte,ZvE,ZvH,ZvF]
   refine cd (fun h2=>?_) (fun h2=>?_)
   ·have e1:=Zab (p:=p) (l:=List.range l.length) (i:=i) (by simpa using h1) (by rw [ZdN h1]; exact h2) (fun j hj=>by rw [ZdN (by omega)]; exact hno j hj)
    have e2:=ZgE (p:=p) (l:=List.range l.length) (i:=i) (by simpa using h1) (by rw [ZdN h1]; exact h2) (fun j hj=>by rw [ZdN (by omega)]; exact hno j hj)
    rw [e1,e2] at hret
    refine rg ?_
    exact hret rfl (by trivial) (ZvM _) (ZvK _)
   ·refine rg ?_
    refine aa ?_
    refine ZG ?_
    exact ih_key ((l.length) - (i + 1)) (by omega) (i + 1) rfl (by omega) (Kj (q:=fun j=>p j=false) hno h2)
  ·simp at h1
   obtain rfl:i=l.length:=by omega
   have hall:∀ x∈List.range l.length,p x=false:=fun x hx=>hno x (by simpa using hx)
   rw [JR hall,ZdO hall,List.length_range] at hret
   refine rg ?_
   exact hret rfl (by trivial) (ZvM _) (ZvK _)
 exact key _ 0 rfl (by omega) (by intro j hj; omega)
theorem Zdn (l:List YA) (f:D) (p:Nat→Bool) (sts:Nat→St)
  (hf:∀ i,i < l.length→VT ZvJ f [.agg (l.getD i default).cells] (sts i) (.bool (p i)) (sts (i + 1))) :
  YU ZvJ Yj.id [slD 2 YA.cells l,f] (sts 0) (.bool ((List.range l.length).any p)) (sts (Zam p (List.range l.length))):=by
 refine YL Yj.ok fun hwf F hret=>?_
 clear hwf
 refine rg ?_
 refine rg ?_
 refine ct (ZeD l f p sts hf) ?_
 rw [Zcd] at hret
 exact hret rfl (by trivial) (ZvM _) (ZvK _)
def ZiE (l:List YA):Nat→List (Str × Bool)
 | 0=>[]
 | i + 1=>W5 (l.getD i default).field true (ZiE l i)
theorem Zso (l:List YA) (s:Str) (i:Nat) (hi:i≤l.length):(ZM s (ZiE l i)).getD false=decide (s∈(l.take i).map (·.field)):=by
 induction i with
 | zero=>simp [ZiE,ZM]
 | succ i ih =>
  have h:=ih (by omega)
  rw [ZiE,Zag,Ky (by omega),List.map_append]
  by_cases hs:s=(l.getD i default).field
  ·rw [if_pos hs]; simp [hs]
  ·rw [if_neg hs,h]; simp only [List.mem_append,List.map_cons,List.map_nil,List.mem_singleton,hs,or_false]
theorem ZcW (l r:List YA) (k:Nat) (hr:r=l.drop k) (hk:k≤l.length):Zbf ((l.take k).map (·.field)) r = !((List.range r.length).any fun i=>(decide ((l.getD (k + i) default).field∈(l.take (k + i)).map (·.field)) || !J6 (l.getD (k + i) default))):=by
 induction r generalizing k with
 | nil=>rfl
 | cons t q ih =>
  have hlt:k < l.length:=by
   have:=congrArg List.length hr; simp at this; omega
  rw [ZeS hlt] at hr
  injection hr with h1 h2
  have h3:=ih (k + 1) h2 (by omega)
  rw [Zbf,Zv0,List.range_succ_eq_map,List.any_cons,List.any_map]
  rw [show (l.take k).map (·.field)++[t.field]=(l.take (k + 1)).map (·.field) by rw [Ky hlt,List.map_append,← h1]; rfl,h3]
  simp only [Nat.add_zero,← h1,Function.comp_def,Nat.succ_eq_add_one]
  rw [show (fun i=>decide ((l.getD (k + (i + 1)) default).field∈(l.take (k + (i + 1))).map (·.field)) || !J6 (l.getD (k + (i + 1)) default))=fun i=>decide ((l.getD (k + 1 + i) default).field∈(l.take (k + 1 + i)).map (·.field)) || !J6 (l.getD (k + 1 + i) default) from funext fun i=>by rw [show k + (i + 1)=k + 1 + i by omega]]
  cases J6 t <;> cases decide (t.field∈(l.take k).map (·.field)) <;> simp
theorem ZdB (s:WZ):Z7 ZvJ Kh.id [.agg s.cells] (.bool (WM s)):=by
 refine Jj Kh.ok fun hwf F st hret=>?_
 refine rx (nd2 @WZ.cells.eq_1 (nd2 @WS.eq_1 @slD.eq_1)) ?_
 refine rg ?_
 intro b hb
 refine Zi ?_
 refine ZX 3 rfl fun x hx=>?_
 simp only [Eqs,reduceCtorEq,ZvG,reduceIte,ZvE,ZvH,ZvF,Ya,Yq,delL]
 refine rg ?_
 have hbx:b≠x:=fun e=>by rw [e,ZvQ] at hx; simp at hx
 have hxn:∀ o,(st.upd b o) x=none:=fun o=>by rw [ZvP _ _ (Ne.symm hbx)] at hx ⊢; exact hx
 have hvs:(st.upd b (.map [])).upd x (.cells [.map b])=vst st b x (QY []):=rfl
 rw [hvs]
 cases hc:(Zby s.base && decide ((s.terms.length:Int)≤4)) with
 | false =>
  refine rx (nd2 @WZ.cells.eq_1 (nd2 @WS.eq_1 @slD.eq_1)) ?_
  refine clD (ZdC s.base) ?_
  refine J9 rfl rfl rfl rfl rfl (by trivial) (by trivial) (by exact Zh3 _ _) (Wb ?_)
  simp only [Eqs,reduceCtorEq,ZvG,reduceIte,ZvE,ZvH,ZvF,hc]
  refine ZdY rfl rfl (e:=.d (.bool false)) (Wb ?_)
  simp only [Eqs,reduceCtorEq,ZvG,reduceIte,ZvE,ZvH,ZvF]
  refine hret rfl (by trivial) (WY ?_) (St.sub_trans (ZvS _ hb) (ZvS _ (hxn _)))
  unfold WM
  rw [show decide (s.terms.length≤4)=decide ((s.terms.length:Int)≤4) from decide_eq_decide.2 (by omega),hc]; rfl
 | true =>
  refine rx (nd2 @WZ.cells.eq_1 (nd2 @WS.eq_1 @slD.eq_1)) ?_
  refine clD (ZdC s.base) ?_
  refine J9 rfl rfl rfl rfl rfl (by trivial) (by trivial) (by exact Zh3 _ _) (Wb ?_)
  simp only [Eqs,reduceCtorEq,ZvG,reduceIte,ZvE,ZvH,ZvF,hc]
  refine ZeM rfl rfl rfl rfl rfl (by trivial) (by trivial) (by exact Zdn s.terms (.fn (.func YX.id) [] [.ptr x 0]) (fun i=>decide ((s.terms.getD i default).field∈(s.terms.take i).map (·.field)) || !J6 (s.terms.getD i default)) (fun i=>vst st b x (QY (ZiE s.terms i))) (fun i hi=>(by have:=Zk3 (s.terms.getD i default) st b x hbx (ZiE s.terms i); rw [Zso _ _ _ (by omega)] at this; exact this.VT (first:=[]) (args:=[_]) (caps:=[_])))) (by first | trivial | exact ⟨rfl,trivial⟩ | simp [Kl,QR]) (Wb ?_)
  simp only [Eqs,reduceCtorEq,ZvG,reduceIte,ZvE,ZvH,ZvF]
  refine hret rfl (by trivial) (WY ?_) (St.sub_trans (ZvS _ hb) (ZvS _ (hxn _)))
  have hv:=ZcW s.terms s.terms 0 rfl (by omega)
  simp only [Nat.zero_add] at hv
  rw [← hv]
  unfold WM
  rw [show decide (s.terms.length≤4)=decide ((s.terms.length:Int)≤4) from decide_eq_decide.2 (by omega),hc,ZvU]
  rfl
end Go.DL
namespace Go.DL
open Go Go.Proofs
theorem ZgG (l:List YA) (hl:l.length≤1000000) (st:St):ZK ZvJ Yu.id [WS l] st (fun r s=>r = .ret (WS l)∧s=st):=by
 refine ZP Yu.ok fun F hF=>?_
 by_cases h0:l.length=0
 ·have hl0:l=[]:=List.eq_nil_of_length_eq_zero h0
  subst hl0
  refine Zp7 0 rfl ?_ fun b off cap=>?_
  ·skip
   refine rx (nd2 @WS.eq_1 @slD.eq_1) ?_
   refine rg ?_
   refine Zv rfl trivial (fun _=>?_) (fun h=>by simp at h)
   refine rg ?_
   exact hF.ret _ st rfl (by trivial) (Zik (Zb8 fun b h=>by cases h)) (ZvK _) ⟨rfl,rfl⟩
  ·skip
   refine rx (nd2 @WS.eq_1 @slD.eq_1) ?_
   refine rg ?_
   refine Zv rfl trivial (fun h=>by simp at h) (fun _=>?_)
   refine rg ?_
   refine Zp4 (s:=st) (t:=.full) (m:=0) (row2:=fun _=>[]) rfl rfl rfl rfl rfl (by trivial) (by trivial) (fun g w v h=>Zr5 h) trivial (by decide) (by unfold big; decide) fun t1 ht1=>?_
   refine Zc ?_
   simp only [Eqs,reduceCtorEq,ZvG,reduceIte,ZvE,ZvH,ZvF]
   exact hF.ret _ st rfl (by trivial) (Zik ((Ku.nil (f:=YA.cells)).le rfl)) (Yo ht1) ⟨rfl,rfl⟩
 ·skip
  refine rx (nd2 @WS.eq_1 @slD.eq_1) ?_
  refine rg ?_
  refine aa ?_
  refine Zv rfl trivial (fun h=>by simp at h) (fun _=>?_)
  refine rg ?_
  refine Znh (st) (.full) rfl rfl rfl rfl rfl rfl (by trivial) (by trivial) rfl (by first | trivial | assumption) (by omega) (by (unfold big; omega)) fun t1 ht1=>Zc ?_
  simp only [Eqs,reduceCtorEq,ZvG,reduceIte,ZvE,ZvH,ZvF]
  have hrow:Ku YA.cells (K6 0 (Wm [.str [],.int .i64 0] ([].zip [])) fun i=>(l.getD i default).cells) ([]++l):=Ku.nil.app Ku.self rfl
  exact hF.ret _ st rfl (by trivial) (Zik (hrow.le (by simp))) (Yo ht1) ⟨rfl,rfl⟩
theorem Ze5 (l:List YA) (hl:l.length≤big) (x:Nat):Zf1 ZvJ (.fn (.func Yt.id) [] [.ptr x 0]) l.length (fun j=>[.str (l.getD j default).field]) (St.single x (.cells [WS l])):=by
 intro y go A a0 hcons hA hd
 have hw:=hl
 unfold big at hw
 refine ZK.V (first:=[]) (args:=[y]) (caps:=[.ptr x 0]) (ZP Yt.ok fun F hF=>?_)
 have hx:∀ a,Kr a (St.single x (.cells [WS l]))→(a.or (St.single x (.cells [WS l]))) x=some (.cells [WS l]):=fun a hda=>by
  rw [YB (hda x _ (KD _ _)),KD]
 generalize hT:St.single x (.cells [WS l])=T at *
 refine Zi (Yr (Zc ?_))
 simp only [Eqs,reduceCtorEq,ZvG,reduceIte,ZvE,ZvH,ZvF,Yt.r0,hx a0 hd,WS,slD]
 refine ZF (Yh ?_)
 have key:∀ (n j:Nat),(l.length) - j=n→∀ a,A j a→Kr a T→(∀ i,i < j→go i = .next)→j≤l.length→ZD F [.code (Yt.l0),.inLoop Yt.l0,.inBlock 0] [(0,.d y),(5,.d (WS l)),(6,.d (.int .i64 l.length)),(7,.d (.int .i64 j))] [] (a.or T):=by
  intro n
  induction n using Nat.strongRecOn with
  | ind n ih_key =>
  clear hA hd
  intro j hn a hA hd hno hj
  refine rx (nd2 @WS.eq_1 @slD.eq_1) ?_
  refine Zi (Zv rfl trivial (fun h1=>?_) (fun h1=>?_))
  ·simp at h1
   generalize hg:l.getD j default=g at *
   refine rx (nd2 @YA.cells.eq_1 (nd2 @WS.eq_1 (nd2 @slD.eq_1 @hg))) ?_
   refine aa ?_
   refine rg ?_
   have hcall:=(hcons j h1 hno a hA).frame hd
   simp only [hg] at hcall
   refine QF rfl rfl rfl rfl rfl (by trivial) (by trivial) (by exact hcall) ?_ ?_
   ·rintro d S ⟨s',⟨hr,hA'⟩,hd',rfl⟩
    cases hgo:go j with
    | next =>
     rw [hgo] at hr
     cases hr
     refine Zc ?_
     simp only [Eqs,reduceCtorEq,ZvG,reduceIte,ZvE,ZvH,ZvF]
     refine Zv rfl trivial (fun h=>by simp at h) (fun _=>?_)
     refine rg ?_
     refine aa ?_
     refine ZG ?_
     exact ih_key ((l.length) - (j + 1)) (by omega) (j + 1) rfl s' hA' hd' (Kj (q:=fun i=>go i = .next) hno hgo) (by omega)
    | stop c =>
     rw [hgo] at hr
     cases hr
     refine Zc ?_
     simp only [Eqs,reduceCtorEq,ZvG,reduceIte,ZvE,ZvH,ZvF]
     refine Zv rfl trivial (fun _=>?_) (fun h=>by simp at h)
     exact hF.ret (.tup []) _ rfl trivial (ZvM _) (ZvK _) ⟨s',.stop j c h1 hno hgo hA',Za5 _ _⟩
    | pan d=>rw [hgo] at hr; cases hr
   ·rintro d S ⟨s',⟨hr,hA'⟩,hd',rfl⟩
    cases hgo:go j with
    | pan d' =>
     rw [hgo] at hr
     cases hr
     exact hF.pan _ (ZvK _) ⟨s',.pan j d h1 hno hgo hA',Za5 _ _⟩
    | next=>rw [hgo] at hr; cases hr
    | stop c=>rw [hgo] at hr; cases hr
  ·simp at h1
   obtain rfl:j=l.length:=by omega
   refine KO rfl ?_
   exact hF.fin (.tup []) _ rfl trivial (ZvM _) (ZvK _) ⟨a,.all hno hA,Za5 _ _⟩
 exact key _ 0 rfl a0 hA hd (by intro i hi; omega) (by omega)
theorem ZbM {s:WZ} (h:WM s=true):s.terms.length≤4:=by
 unfold WM at h
 simp only [ZvN,decide_eq_true_eq] at h; exact h.1.2
theorem ZgU (s:WZ) (hv:WM s=true) (st:St):ZK ZvJ WJ.id [.agg s.cells] st (fun r S=>∃ x,st x=none∧r = .ret (.fn (.func Yt.id) [] [.ptr x 0])∧S=st.or (St.single x (.cells [WS s.terms]))):=by
 have hfew:=ZbM hv
 refine ZP WJ.ok fun F hF=>?_
 refine rx @WZ.cells.eq_1 ?_
 refine rg ?_
 refine rx @WZ.cells.eq_1 ?_
 refine K8 rfl rfl rfl rfl rfl (by trivial) (by trivial) (by exact ZdB s) (Zc ?_)
 simp only [Eqs,reduceCtorEq,ZvG,reduceIte,ZvE,ZvH,ZvF,hv]
 refine Zv rfl trivial (fun _=>?_) (fun h=>by simp at h)
 refine rx @WZ.cells.eq_1 ?_
 refine Z4 rfl rfl rfl rfl rfl (by trivial) (by trivial) (by exact (ZgG s.terms (by omega) st)) ?_ ?_
 ·rintro d S ⟨hd,rfl⟩
  cases hd
  refine Zc ?_
  simp only [Eqs,reduceCtorEq,ZvG,reduceIte,ZvE,ZvH,ZvF]
  refine ⟨rfl,?_⟩
  refine Zi ?_
  refine ZX 3 rfl fun x hx=>?_
  simp only [Eqs,reduceCtorEq,ZvG,reduceIte,ZvE,ZvH,ZvF,Ya,Yq,delL]
  refine rg ?_
  exact hF.ret _ _ rfl (by trivial) (ZvM _) (ZvK _) ⟨x,hx,rfl,ZcE hx⟩
 ·rintro d S ⟨hd,_⟩
  cases hd
end Go.DL
namespace Go.DL
open Go Go.Proofs
def K7 (r:Int × Int):D:=.agg [.int .i64 r.1,.int .i64 r.2]
abbrev Zf2:=List (Str × (Int × Int))
abbrev Zaq (l:Zf2):List (D × D):=JI Ju K7 l
theorem Z6 {s:St} {b c:Nat} {o:Y6} (h:(s.upd b o) c=none):c≠b∧s c=none:=by
 have:c≠b:=fun e=>by rw [e,ZvQ] at h; simp at h
 exact ⟨this,by rw [ZvP _ _ this] at h; exact h⟩
theorem Zh2 (r:Int × Int):Z7 ZvJ YN.id [K7 r] (.bool (!Zal r)):=by
 refine YO YN.ok fun F st hret=>?_
 refine rx @K7.eq_1 ?_
 refine rg ?_
 refine K8 rfl rfl rfl rfl rfl (by trivial) (by trivial) (by exact Zmy _ _ _) (Zc ?_)
 simp only [Eqs,reduceCtorEq,ZvG,reduceIte,ZvE,ZvH,ZvF]
 refine hret rfl (by first | trivial | simp) (WY ?_) (by first | exact ZvK _ | exact Yo (by first | trivial | assumption) | assumption | exact ZvS _ (by assumption))
 unfold Zal; rw [Bool.not_or,Bool.not_or,← decide_not,← decide_not,← decide_not]; simp only [Int.not_lt,Int.not_le,Bool.and_assoc]
def ckS (st:St) (b5 b6 b7 b8 b9 b:Nat) (rc:Int) (nn:Bool):St :=
 ((((st.upd b5 (.cells [.str []])).upd b6 (.cells [.map b])).upd b7 (.cells [.fn (.func YN.id) [] []])).upd b8 (.cells [.int .i64 rc])).upd b9 (.cells [.bool nn])
structure JM (st:St) (b5 b6 b7 b8 b9:Nat):Prop where
 n5:st b5=none
 n6:b6≠b5∧st b6=none
 n7:b7≠b6∧b7≠b5∧st b7=none
 n8:b8≠b7∧b8≠b6∧b8≠b5∧st b8=none
 n9:b9≠b8∧b9≠b7∧b9≠b6∧b9≠b5∧st b9=none
section
variable {st:St} {b5 b6 b7 b8 b9 b:Nat} {rc:Int} {nn:Bool}
theorem JM.g5 (h:JM st b5 b6 b7 b8 b9):(ckS st b5 b6 b7 b8 b9 b rc nn) b5=some (.cells [.str []]):=by
 simp [ckS,St.upd,h.n6.1.symm,h.n7.2.1.symm,h.n8.2.2.1.symm,h.n9.2.2.2.1.symm]
theorem JM.g6 (h:JM st b5 b6 b7 b8 b9):(ckS st b5 b6 b7 b8 b9 b rc nn) b6=some (.cells [.map b]):=by
 simp [ckS,St.upd,h.n7.1.symm,h.n8.2.1.symm,h.n9.2.2.1.symm]
theorem JM.g7 (h:JM st b5 b6 b7 b8 b9):(ckS st b5 b6 b7 b8 b9 b rc nn) b7=some (.cells [.fn (.func YN.id) [] []]):=by
 simp [ckS,St.upd,h.n8.1.symm,h.n9.2.1.symm]
theorem JM.g8 (h:JM st b5 b6 b7 b8 b9):(ckS st b5 b6 b7 b8 b9 b rc nn) b8=some (.cells [.int .i64 rc]):=by
 simp [ckS,St.upd,h.n9.1.symm]
theorem JM.g9:(ckS st b5 b6 b7 b8 b9 b rc nn) b9=some (.cells [.bool nn]):=by
 simp [ckS,St.upd]
theorem JM.gm (h:JM st b5 b6 b7 b8 b9) {o:Y6} (hb:st b=some o):(ckS st b5 b6 b7 b8 b9 b rc nn) b=some o:=by
 have h5:b≠b5:=fun e=>by rw [e,h.n5] at hb; simp at hb
 have h6:b≠b6:=fun e=>by rw [e,h.n6.2] at hb; simp at hb
 have h7:b≠b7:=fun e=>by rw [e,h.n7.2.2] at hb; simp at hb
 have h8:b≠b8:=fun e=>by rw [e,h.n8.2.2.2] at hb; simp at hb
 have h9:b≠b9:=fun e=>by rw [e,h.n9.2.2.2.2] at hb; simp at hb
 simp [ckS,St.upd,h5,h6,h7,h8,h9,hb]
theorem JM.s8 (h:JM st b5 b6 b7 b8 b9) (rc':Int):(ckS st b5 b6 b7 b8 b9 b rc nn).upd b8 (.cells [.int .i64 rc'])=ckS st b5 b6 b7 b8 b9 b rc' nn:=by
 unfold ckS; rw [St.upd_comm _ _ _ h.n9.1.symm,ZvV]
theorem JM.s9 (nn':Bool):(ckS st b5 b6 b7 b8 b9 b rc nn).upd b9 (.cells [.bool nn'])=ckS st b5 b6 b7 b8 b9 b rc nn':=by
 unfold ckS; rw [ZvV]
theorem JM.sub (h:JM st b5 b6 b7 b8 b9):st.sub (ckS st b5 b6 b7 b8 b9 b rc nn):=fun c o hc=>by
 have h5:c≠b5:=fun e=>by rw [e,h.n5] at hc; simp at hc
 have h6:c≠b6:=fun e=>by rw [e,h.n6.2] at hc; simp at hc
 have h7:c≠b7:=fun e=>by rw [e,h.n7.2.2] at hc; simp at hc
 have h8:c≠b8:=fun e=>by rw [e,h.n8.2.2.2] at hc; simp at hc
 have h9:c≠b9:=fun e=>by rw [e,h.n9.2.2.2.2] at hc; simp at hc
 simp [ckS,St.upd,h5,h6,h7,h8,h9,hc]
end
theorem Zio {st t:St} {b5 b6 b7 b8 b9 b:Nat} {rc rc':Int} {nn nn':Bool} (h:Kr (ckS st b5 b6 b7 b8 b9 b rc nn) t):Kr (ckS st b5 b6 b7 b8 b9 b rc' nn') t:=fun c o hc=>by
 have:=h c o hc
 unfold ckS at this ⊢
 have k9:=Z6 this
 have k8:=Z6 k9.2
 rw [ZvP _ _ k9.1,ZvP _ _ k8.1]; exact k8.2
theorem ZnL {st:St} {b5 b6 b7 b8 b9 b:Nat} {rc:Int} {nn:Bool} (h:JM st b5 b6 b7 b8 b9) {ρ:Env} {L:Loc} (hρ:Ye ρ 8=some (.d (.ptr b8 0)):=by rfl) :
  KI ρ L (ckS st b5 b6 b7 b8 b9 b rc nn) [.cell1 8]=some (True∧True,[.int .i64 rc]):=by
 simp [KI,Jx,hρ,K3,YS,h.g8]
theorem Zlj {α:Type} [Inhabited α] {p:α→Bool} {l:List α} (h:∀ i,i < l.length→p (l.getD i default)=false):l.any p=false:=by
 apply List.any_eq_false.2
 intro x hx
 obtain ⟨i,hi,rfl⟩:=ZvX hx
 have:=h i hi
 simpa [List.getD,hi] using this
theorem ZoW {s:WZ} {j:Nat} (h:WM s=true) (hj:j < s.terms.length):(s.terms.getD j default).field≠[]:=by
 unfold WM at h
 simp only [ZvN] at h
 have h1:=ZcW s.terms s.terms 0 rfl (by omega)
 simp only [List.take_zero,List.map_nil,Nat.zero_add] at h1
 rw [h1] at h
 have h2:((List.range s.terms.length).any fun i=>decide ((s.terms.getD i default).field∈(s.terms.take i).map (·.field)) || !J6 (s.terms.getD i default))=false:=by simpa using h.2
 have h3:=List.any_eq_false.1 h2 j (by simpa using hj)
 simp only [ZvW,not_or,Bool.not_eq_true',Bool.not_eq_false] at h3
 have h4:=h3.2
 intro e
 rw [J6,e] at h4
 simp [Qh] at h4
theorem Zk4 (s:WZ) (b:Nat) (l:Zf2) (st:St) (hb:st b=some (.map (Zaq l))) :
  ZK ZvJ Zd.id [.agg s.cells,.str [],.map b,.fn (.func YN.id) [] []] st (fun r S=>r = .ret (.int .i64 (Za9 s (fun k=>ZM k l)))∧S=st):=by
 refine ZP Zd.ok fun F hF=>?_
 refine rx @WZ.cells.eq_1 ?_
 refine rx @WZ.cells.eq_1 ?_
 refine cl (ZdB s) ?_
 refine cd (fun hv=>?_) (fun hv=>?_)
 ·have hv':WM s=false:=by simpa using hv
  refine rg ?_
  refine hF.ret _ st rfl (by trivial) (JE ?_) (ZvK _) ⟨rfl,rfl⟩
  rw [Za9,if_pos hv']
 ·have hv':WM s=true:=by simpa using hv
  refine rg ?_
  refine Zi (Zi ?_)
  refine ZX 5 rfl fun b5 h5=>?_
  simp only [Eqs,reduceCtorEq,ZvG,reduceIte,ZvE,ZvH,ZvF,Ya,Yq,delL]
  refine ZX 6 rfl fun b6 h6=>?_
  simp only [Eqs,reduceCtorEq,ZvG,reduceIte,ZvE,ZvH,ZvF,Ya,Yq,delL]
  refine ZX 7 rfl fun b7 h7=>?_
  simp only [Eqs,reduceCtorEq,ZvG,reduceIte,ZvE,ZvH,ZvF,Ya,Yq,delL]
  refine ZX 8 rfl fun b8 h8=>?_
  simp only [Eqs,reduceCtorEq,ZvG,reduceIte,ZvE,ZvH,ZvF,Ya,Yq,delL]
  refine ZX 9 rfl fun b9 h9=>?_
  simp only [Eqs,reduceCtorEq,ZvG,reduceIte,ZvE,ZvH,ZvF,Ya,Yq,delL]
  refine rx @WZ.cells.eq_1 ?_
  refine Z4 rfl rfl rfl rfl rfl (by trivial) (by trivial) (by exact ZgU s hv' _) ?_ ?_
  ·rintro d S ⟨x,hx,hd,rfl⟩
   cases hd
   refine Zc ?_
   simp only [Eqs,reduceCtorEq,ZvG,reduceIte,ZvE,ZvH,ZvF]
   refine ZF ?_
   have hck:JM st b5 b6 b7 b8 b9:=by
    have k6:=Z6 h6
    have k7:=Z6 h7
    have k7a:=Z6 k7.2
    have k8:=Z6 h8
    have k8a:=Z6 k8.2
    have k8b:=Z6 k8a.2
    have k9:=Z6 h9
    have k9a:=Z6 k9.2
    have k9b:=Z6 k9a.2
    have k9c:=Z6 k9b.2
    exact ⟨h5,k6,⟨k7.1,k7a⟩,⟨k8.1,k8a.1,k8b⟩,⟨k9.1,k9a.1,k9b.1,k9c⟩⟩
   have hfew:=ZbM hv'
   rw [show (((((st.upd b5 (.cells [.str []])).upd b6 (.cells [.map b])).upd b7 (.cells [.fn (.func YN.id) [] []])).upd b8 (.cells [.int .i64 0])).upd b9 (.cells [.bool false]))=ckS st b5 b6 b7 b8 b9 b 0 false from rfl] at hx ⊢
   refine Zb6 hF rfl trivial [5,6,7,8,9] (by show ([5,6,7,8,9]:List Nat).Nodup; decide) (Zat hx) (Ze5 s.terms (by unfold big; omega) x) (fun j hj=>rfl)
    (fun j=>if Q0 (fun k=>ZM k l) (s.terms.getD j default) then .stop .ret else .next)
    (fun j a=>((∀ i,i < j→Q0 (fun k=>ZM k l) (s.terms.getD i default)=false)∧a=ckS st b5 b6 b7 b8 b9 b 0 ((s.terms.take j).any (Ja fun k=>ZM k l)))∨((∃ nn,a=ckS st b5 b6 b7 b8 b9 b 2 nn)∧∃ i,i < j∧Q0 (fun k=>ZM k l) (s.terms.getD i default)=true))
    (.inl ⟨fun i hi=>by omega,rfl⟩) ?_ ?_ ?_ ?_ ?_ ?_
   ·intro j a hj hno hB F' ready busy hdr hbeg hend
    have hno':∀ i,i < j→Q0 (fun k=>ZM k l) (s.terms.getD i default)=false:=fun i hi=>by
     have:=hno i hi; split at this
     ·simp at this
     ·rename_i h; simpa using h
    rcases hB with ⟨_,rfl⟩ | ⟨_,i,hi,hib⟩
    ·skip
     simp only [Eqs,reduceCtorEq,ZvG,reduceIte,ZvE,ZvH,ZvF,QH,Js,Zbc,Q1,List.isEmpty_nil,List.isEmpty_cons]
     refine rg ?_
     refine hbeg fun hdb=>?_
     have hje:(s.terms.getD j default).field≠[]:=ZoW hv' hj
     have hsn:=ZsG (p:=Ja fun k=>ZM k l) hj
     generalize htm:s.terms.getD j default=tm at *
     have e1:=KU (vD:=K7) YK tm.field l
     have e3:=Qm YK tm.field
     simp only [show Ju tm.field=D.str tm.field from rfl] at e1 e3
     cases hg:ZM tm.field l with
     | none =>
      rw [hg] at e1
      have hbad:Q0 (fun k=>ZM k l) tm=false:=by simp [Q0,hg]
      have hnone:Ja (fun k=>ZM k l) tm=true:=by simp [Ja,hg]
      rw [hnone,Bool.or_true] at hsn
      rw [if_neg (by rw [hbad]; simp)] at hend
      refine ZF (Zi (Yr (Zc ?_)))
      simp only [Eqs,reduceCtorEq,ZvG,reduceIte,ZvE,ZvH,ZvF,Zd.r6,Z0 (hck.g6 ),Z0 (hck.gm hb),e1,e3]
      refine ZF (Zi (Yr (Zc ?_)))
      simp only [Eqs,reduceCtorEq,ZvG,reduceIte,ZvE,ZvH,ZvF,Zd.r7,Z0 (hck.g5 )]
      refine Zv rfl trivial (fun h=>by simp at h; exact absurd h hje) (fun _=>?_)
      refine rg ?_
      refine Zv rfl trivial (fun _=>?_) (fun h=>by simp at h)
      refine Yr (Zc ?_)
      simp only [Eqs,reduceCtorEq,ZvG,reduceIte,ZvE,ZvH,ZvF,Zd.r9,Z0 (JM.g9 ),Jr,JM.s9]
      refine Yb (Yb ?_)
      exact hend.fin ⟨rfl,.inl ⟨Kj (q:=fun i=>Q0 (fun k=>ZM k l) (s.terms.getD i default)=false) hno' (by rw [htm]; exact hbad),by rw [hsn]⟩⟩ (Zio hdb) (ZvK _)
     | some r =>
      rw [hg] at e1
      have hbad:Q0 (fun k=>ZM k l) tm=Zal r:=by simp [Q0,hg]
      have hnone:Ja (fun k=>ZM k l) tm=false:=by simp [Ja,hg]
      rw [hnone,Bool.or_false] at hsn
      refine ZF (Zi (Yr (Zc ?_)))
      simp only [Eqs,reduceCtorEq,ZvG,reduceIte,ZvE,ZvH,ZvF,Zd.r6,Z0 (hck.g6 ),Z0 (hck.gm hb),e1,e3,K7]
      refine ZF (Zi (Yr (Zc ?_)))
      simp only [Eqs,reduceCtorEq,ZvG,reduceIte,ZvE,ZvH,ZvF,Zd.r7,Z0 (hck.g5 )]
      refine Zv rfl trivial (fun h=>by simp at h; exact absurd h hje) (fun _=>?_)
      refine rg ?_
      refine Zv rfl trivial (fun h=>by simp at h) (fun _=>?_)
      refine Zi (Yr (Zc ?_))
      simp only [Eqs,reduceCtorEq,ZvG,reduceIte,ZvE,ZvH,ZvF,Zd.r10,Z0 (hck.g7 )]
      refine cl (Zh2 r) ?_
      refine cd (fun hr=>?_) (fun hr=>?_)
      ·have hr':Zal r=true:=by simpa using hr
       rw [if_pos (by rw [hbad]; exact hr')] at hend
       refine Zi (Yr (Zc ?_))
       simp only [Eqs,reduceCtorEq,ZvG,reduceIte,ZvE,ZvH,ZvF,Zd.r11,Z0 (hck.g8 ),Jr,hck.s8]
       exact hend.ret ⟨rfl,.inr ⟨⟨_,rfl⟩,j,by omega,by rw [htm,hbad]; exact hr'⟩⟩ (Zio hdb) (ZvK _)
      ·have hr':Zal r=false:=by simpa using hr
       rw [if_neg (by rw [hbad,hr']; simp)] at hend
       refine YY (Yb (Yb ?_))
       exact hend.fin ⟨rfl,.inl ⟨Kj (q:=fun i=>Q0 (fun k=>ZM k l) (s.terms.getD i default)=false) hno' (by rw [htm,hbad]; exact hr'),by rw [hsn]⟩⟩ hdb (ZvK _)
    ·rw [hno' i hi] at hib; simp at hib
   ·intro q a hno hB hq
    have hno':∀ i,i < s.terms.length→Q0 (fun k=>ZM k l) (s.terms.getD i default)=false:=fun i hi=>by
     have:=hno i hi; split at this
     ·simp at this
     ·rename_i h; simpa using h
    rcases hB with ⟨_,rfl⟩ | ⟨_,i,hi,hib⟩
    ·rw [ZvZ] at hq ⊢
     have hb0:s.terms.any (Q0 fun k=>ZM k l)=false:=Zlj hno'
     have hI:=Za9.eq_1 s fun k=>ZM k l
     rw [if_neg (by rw [hv']; simp),if_neg (by rw [hb0]; simp)] at hI
     rw [ZcE hq]
     have hdq:=Zat (o:=Y6.dfr) hq
     generalize s.terms.any (Ja fun k=>ZM k l)=nn at *
     refine Yb (Zi (Zi (Yr (Zc ?_))))
     simp only [Eqs,reduceCtorEq,ZvG,reduceIte,ZvE,ZvH,ZvF,Zd.r12,Z0 (JM.g9 )]
     refine cd (fun hn=>?_) (fun hn=>?_)
     ·rw [if_pos hn] at hI
      refine Zi (Yr (Zc ?_))
      simp only [Eqs,reduceCtorEq,ZvG,reduceIte,ZvE,ZvH,ZvF,Zd.r13,Z0 (hck.g8 ),Jr,hck.s8]
      exact hF.ret1 (Zl8 (Zio hdq) (KD _ _)) (.int .i64 9) st (ZnL hck) ⟨trivial,trivial⟩ (ZvM _) hck.sub ⟨by rw [hI],rfl⟩
     ·rw [if_neg (by rw [hn]; simp)] at hI
      refine YY (Zi (Yr (Zc ?_)))
      simp only [Eqs,reduceCtorEq,ZvG,reduceIte,ZvE,ZvH,ZvF,Zd.r14,Z0 (hck.g8 ),Jr,hck.s8]
      exact hF.ret1 (Zl8 (Zio hdq) (KD _ _)) (.int .i64 0) st (ZnL hck) ⟨trivial,trivial⟩ (ZvM _) hck.sub ⟨by rw [hI],rfl⟩
    ·rw [hno' i hi] at hib; simp at hib
   ·intro q a m hm hno hgo hB hq
    have hno':∀ i,i < m→Q0 (fun k=>ZM k l) (s.terms.getD i default)=false:=fun i hi=>by
     have:=hno i hi; split at this
     ·simp at this
     ·rename_i h; simpa using h
    have hbad:Q0 (fun k=>ZM k l) (s.terms.getD m default)=true:=by
     split at hgo
     ·rename_i h; exact h
     ·simp at hgo
    rcases hB with ⟨hall,_⟩ | ⟨⟨nn,rfl⟩,_⟩
    ·rw [hall m (by omega)] at hbad; simp at hbad
    ·have hb0:s.terms.any (Q0 fun k=>ZM k l)=true:=ZuH hm hbad
     have hI:=Za9.eq_1 s fun k=>ZM k l
     rw [if_neg (by rw [hv']; simp),if_pos hb0] at hI
     rw [ZcE hq]
     exact hF.ret1 hq (.int .i64 2) st (ZnL hck) ⟨trivial,trivial⟩ (ZvM _) hck.sub ⟨by rw [hI],rfl⟩
   ·intro q a m id hm hno hgo
    split at hgo <;> simp at hgo
   ·intro q a m d hm hno hgo
    split at hgo <;> simp at hgo
   ·intro m c hgo
    split at hgo <;> simp at hgo
    exact .inl hgo.symm
  ·rintro d S ⟨x,hx,hd,rfl⟩
   cases hd
end Go.DL
namespace Go.DL
open Go Go.Proofs
def Za6 (v:YA→Int):List YA→Int
 | []=>0
 | t :: r=>t.factor * v t + Za6 v r
theorem Zsx {v:YA→Int} {l:List YA} {i:Nat} (h:i < l.length):Za6 v (l.take (i + 1))=Za6 v (l.take i) + (l.getD i default).factor * v (l.getD i default):=by
 rw [Ky h]
 generalize l.getD i default=x
 induction l.take i with
 | nil=>simp [Za6]
 | cons y r ih=>simp only [List.cons_append,Za6,ih]; omega
theorem Zmn {a b:Int} (ha:-1048576≤a∧a≤1048576) (hb:0≤b∧b < 34359738368):-36028797018963968≤a * b∧a * b≤36028797018963968:=by
 have h1:a * b≤1048576 * b:=Int.mul_le_mul_of_nonneg_right ha.2 hb.1
 have h2:-1048576 * b≤a * b:=Int.mul_le_mul_of_nonneg_right ha.1 hb.1
 omega
theorem Zra {v:YA→Int} {l:List YA} (h:∀ t∈l,(-1048576≤t.factor∧t.factor≤1048576)∧0≤v t∧v t < 34359738368):-36028797018963968 * (l.length:Int)≤Za6 v l∧Za6 v l≤36028797018963968 * (l.length:Int):=by
 induction l with
 | nil=>simp [Za6]
 | cons t r ih =>
  have h1:=ih fun x hx=>h x (by simp [hx])
  have h2:=Zmn (h t (by simp)).1 (h t (by simp)).2
  simp only [Za6,Zv0]
  generalize t.factor * v t=y at *
  omega
theorem Zla {s:WZ} (h:WM s=true):(-1048576≤s.base∧s.base≤1048576)∧∀ t∈s.terms,-1048576≤t.factor∧t.factor≤1048576:=by
 unfold WM at h
 simp only [ZvN] at h
 refine ⟨by have:=h.1.1; simpa [Zby] using this,fun t ht=>?_⟩
 have h1:=ZcW s.terms s.terms 0 rfl (by omega)
 simp only [List.take_zero,List.map_nil,Nat.zero_add] at h1
 rw [h1] at h
 have h2:((List.range s.terms.length).any fun i=>decide ((s.terms.getD i default).field∈(s.terms.take i).map (·.field)) || !J6 (s.terms.getD i default))=false:=by simpa using h.2
 obtain ⟨j,hj,rfl⟩:=ZvX ht
 have h3:=List.any_eq_false.1 h2 j (by simpa using hj)
 simp only [ZvW,not_or,Bool.not_eq_true',Bool.not_eq_false] at h3
 have h4:=h3.2
 unfold J6 at h4
 simp only [ZvN] at h4
 have h5:=h4.2
 simpa [Zby,List.getD,hj] using h5
theorem ZlN (s:WZ) (hv:WM s=true) (f:D) (v:YA→Int) (st:St) (hb:∀ t∈s.terms,0≤v t∧v t < 34359738368) (hf:∀ t∈s.terms,VT ZvJ f [.agg t.cells] st (.int .i64 (v t)) st) :
  YU ZvJ Ym.id [.agg s.cells,f] st (.int .i64 (s.base + Za6 v s.terms)) st:=by
 refine YL Ym.ok fun hwf F hret=>?_
 clear hwf
 have hfew:=ZbM hv
 have hsm:=Zla hv
 refine rx (nd2 @WZ.cells.eq_1 (nd2 @WS.eq_1 @slD.eq_1)) ?_
 refine rx @WZ.cells.eq_1 ?_
 refine rx (nd2 @WZ.cells.eq_1 (nd2 @WS.eq_1 @slD.eq_1)) ?_
 refine ZF (Yh ?_)
 have key:∀ (n j:Nat),(s.terms.length) - j=n→j≤s.terms.length→ZD F [.code (Ym.l0),.inLoop Ym.l0,.inBlock 0,.code (.seq (qR Ym.r7 [4]) .ret)] [(1,.d f),(5,.d (.int .i64 (s.base + Za6 v (s.terms.take j)))),(11,.d (WS s.terms)),(12,.d (.int .i64 s.terms.length)),(13,.d (.int .i64 j))] [] st:=by
  intro n
  induction n using Nat.strongRecOn with
  | ind n ih_key =>
  intro j hn hj
  refine rg ?_
  refine Zi (Zv rfl trivial (fun h1=>?_) (fun h1=>?_))
  ·simp at h1
   have hmem:=Ql h1
   have hsn:=Zsx (v:=v) h1
   have hsb:=Zra (v:=v) (l:=s.terms.take j) fun t ht=>⟨hsm.2 t (List.mem_of_mem_take ht),hb t (List.mem_of_mem_take ht)⟩
   rw [List.length_take] at hsb
   generalize htm:s.terms.getD j default=tm at *
   have hmb:=Zmn (hsm.2 tm hmem) (hb tm hmem)
   refine rx (nd2 @YA.cells.eq_1 (nd2 @WS.eq_1 (nd2 @slD.eq_1 @htm))) ?_
   refine aa ?_
   refine rx @YA.cells.eq_1 ?_
   refine Zuz rfl rfl rfl rfl rfl (by trivial) (by trivial) (by exact hf tm hmem) (by first | trivial | exact ⟨rfl,trivial⟩ | simp [Kl,QR]) (Wb ?_)
   simp only [Eqs,reduceCtorEq,ZvG,reduceIte,ZvE,ZvH,ZvF]
   generalize hmv:tm.factor * v tm=mv at *
   refine aa ?_
   refine rg ?_
   refine aa ?_
   refine ZG ?_
   have hnext:=ih_key ((s.terms.length) - (j + 1)) (by omega) (j + 1) rfl (by omega)
   rw [hsn,← Int.add_assoc] at hnext
   exact hnext
  ·simp at h1
   obtain rfl:j=s.terms.length:=by omega
   rw [ZvZ]
   refine rg ?_
   exact hret rfl (by trivial) (ZvM _) (ZvK _)
 have hk:=key _ 0 rfl (by omega)
 rw [List.take_zero,show Za6 v []=0 from rfl,Int.add_zero] at hk
 exact hk
def Zdx (look:JX) (least:Bool) (t:YA):Int:=if least=decide (0 < t.factor) then (Je look t).1 else (Je look t).2
theorem Zus (look:JX) (l:List YA):Za6 (Zdx look true) l=loS look l:=by
 induction l with
 | nil=>rfl
 | cons t r ih =>
  simp only [Za6,loS,ih,loT,Zdx]
  by_cases h:0 < t.factor <;> simp [h]
theorem Zur (look:JX) (l:List YA):Za6 (Zdx look false) l=hiS look l:=by
 induction l with
 | nil=>rfl
 | cons t r ih =>
  simp only [Za6,hiS,ih,hiT,Zdx]
  by_cases h:0 < t.factor <;> simp [h]
theorem Zml (o:Option (Int × Int)):KJ (.agg [.int .i64 0,.int .i64 0]) false (o.map K7) = .agg [.int .i64 (o.getD (0,0)).1,.int .i64 (o.getD (0,0)).2]:=by cases o <;> rfl
theorem ZgF (t:YA) (l:Zf2) (least:Bool) (b x y:Nat) (st:St) (hb:st b=some (.map (Zaq l))) (hx:st x=some (.cells [.map b])) (hy:st y=some (.cells [.bool least])) :
  YU ZvJ Z9.id [.agg t.cells,.ptr x 0,.ptr y 0] st (.int .i64 (Zdx (fun k=>ZM k l) least t)) st:=by
 refine YL Z9.ok fun hwf F hret=>?_
 clear hwf
 have e1:=KU (vD:=K7) YK t.field l
 have e3:=Qm YK t.field
 simp only [show Ju t.field=D.str t.field from rfl] at e1 e3
 refine rx @YA.cells.eq_1 ?_
 refine Zi (Zi (Yr (Zc ?_)))
 simp only [Eqs,reduceCtorEq,ZvG,reduceIte,ZvE,ZvH,ZvF,Z9.r1,hx,hb,e1,e3,Zml]
 refine rx @hy ?_
 refine cd (fun h1=>?_) (fun h1=>?_)
 ·refine rg ?_
  refine hret rfl (by trivial) (JE ?_) (ZvK _)
  unfold Zdx Je
  rw [if_pos (by simpa using h1)]
 ·refine YY (Zi (Yr (Zc ?_)))
  simp only [Eqs,reduceCtorEq,ZvG,reduceIte,ZvE,ZvH,ZvF,Z9.r4,hx,hb,e1,e3,Zml]
  refine hret rfl (by trivial) (JE ?_) (ZvK _)
  unfold Zdx Je
  rw [if_neg (by simpa using h1)]
theorem Zs6 {s:WZ} {look:JX} (h:Za9 s look=0):WM s=true∧∀ t∈s.terms,∀ least,0≤Zdx look least t∧Zdx look least t < 34359738368:=by
 unfold Za9 at h
 split at h; · omega
 rename_i hv
 split at h; · omega
 rename_i hb
 refine ⟨by simpa using hv,fun t ht least=>?_⟩
 have h1:Q0 look t=false:=by
  cases hx:Q0 look t with
  | false=>rfl
  | true=>exact absurd (List.any_eq_true.2 ⟨t,ht,hx⟩) hb
 unfold Q0 at h1
 unfold Zdx Je
 cases hl:look t.field with
 | none=>simp
 | some r =>
  rw [hl] at h1
  simp only [Zal,Bool.or_eq_false_iff,decide_eq_false_iff_not] at h1
  simp only [Option.getD_some]
  split <;> omega
theorem Zdm (s:WZ) (l:Zf2) (least:Bool) (b x y:Nat) (st:St) (he:Za9 s (fun k=>ZM k l)=0) (hb:st b=some (.map (Zaq l))) (hx:st x=some (.cells s.cells)) (hy:st y=some (.cells [.map b])) :
  YU ZvJ Wr.id [.bool least,.ptr x 0,.ptr y 0] st (.int .i64 (s.base + Za6 (Zdx (fun k=>ZM k l) least) s.terms)) st:=by
 refine YL Wr.ok fun hwf F hret=>?_
 clear hwf
 have hok:=Zs6 he
 refine rg ?_
 refine Zi ?_
 refine ZX 3 rfl fun z hz=>?_
 simp only [Eqs,reduceCtorEq,ZvG,reduceIte,ZvE,ZvH,ZvF,Ya,Yq,delL]
 have hbz:b≠z:=fun e=>by rw [e,hz] at hb; simp at hb
 have hxz:x≠z:=fun e=>by rw [e,hz] at hx; simp at hx
 have hyz:y≠z:=fun e=>by rw [e,hz] at hy; simp at hy
 have hx2:(st.upd z (.cells [.bool least])) x=some (.cells s.cells):=by rw [ZvP _ _ hxz]; exact hx
 refine rx (nd2 @hx2 @WZ.cells.eq_1) ?_
 refine QE rfl rfl rfl rfl rfl (by trivial) (by trivial) (by exact ZlN s hok.1 _ (Zdx (fun k=>ZM k l) least) _ (fun t ht=>hok.2 t ht least) (fun t ht=>(ZgF t l least b y z _ (by rw [ZvP _ _ hbz]; exact hb) (by rw [ZvP _ _ hyz]; exact hy) (ZvQ _ _ _)).VT (first:=[]) (args:=[_]) (caps:=[_,_]))) (Zc ?_)
 simp only [Eqs,reduceCtorEq,ZvG,reduceIte,ZvE,ZvH,ZvF]
 exact hret rfl (by trivial) (ZvM _) (ZvS _ hz)
theorem ZeA (s:WZ) (b:Nat) (l:Zf2) (st:St) (hb:st b=some (.map (Zaq l))) :
  ZK ZvJ Ys.id [.agg s.cells,.map b] st (fun r S=>r = .ret (.tup [K7 ((QQ s fun k=>ZM k l).1,(QQ s fun k=>ZM k l).2.1),.int .i64 (QQ s fun k=>ZM k l).2.2])∧S=st):=by
 refine ZP Ys.ok fun F hF=>?_
 have hI:=QQ.eq_1 s fun k=>ZM k l
 refine rx @WZ.cells.eq_1 ?_
 refine rg ?_
 refine rx @WZ.cells.eq_1 ?_
 refine Z4 rfl rfl rfl rfl rfl (by trivial) (by trivial) (by exact Zk4 s b l st hb) ?_ ?_
 ·rintro d S ⟨hd,rfl⟩
  cases hd
  refine Zc ?_
  simp only [Eqs,reduceCtorEq,ZvG,reduceIte,ZvE,ZvH,ZvF]
  refine rg ?_
  refine cd (fun h1=>?_) (fun h1=>?_)
  ·have h1':¬ Za9 s (fun k=>ZM k l)=0:=by simpa using h1
   rw [if_neg h1'] at hI
   refine rg ?_
   refine hF.ret _ S rfl (by trivial) (Jn ?_ rfl) (ZvK _) ⟨rfl,rfl⟩
   rw [hI]; rfl
  ·have h1':Za9 s (fun k=>ZM k l)=0:=by simpa using h1
   rw [if_pos h1'] at hI
   refine YY (Zi ?_)
   refine ZX 2 rfl fun x hx=>?_
   simp only [Eqs,reduceCtorEq,ZvG,reduceIte,ZvE,ZvH,ZvF,Ya,Yq,delL]
   refine ZX 3 rfl fun y hy=>?_
   simp only [Eqs,reduceCtorEq,ZvG,reduceIte,ZvE,ZvH,ZvF,Ya,Yq,delL]
   have hbx:b≠x:=fun e=>by rw [e,hx] at hb; simp at hb
   have hy':=Z6 hy
   have hby:b≠y:=fun e=>by rw [e,hy'.2] at hb; simp at hb
   have hb2:((S.upd x (.cells s.cells)).upd y (.cells [.map b])) b=some (.map (Zaq l)):=by rw [ZvP _ _ hby,ZvP _ _ hbx]; exact hb
   have hx2:((S.upd x (.cells s.cells)).upd y (.cells [.map b])) x=some (.cells s.cells):=by rw [ZvP _ _ hy'.1.symm]; exact ZvQ _ _ _
   refine rg ?_
   refine rg ?_
   refine ZbB rfl rfl rfl rfl rfl (by trivial) (by trivial) (by exact (Zdm s l true b x y _ h1' hb2 hx2 (ZvQ _ _ _)).VT (first:=[]) (args:=[_]) (caps:=[_,_])) (Zc ?_)
   simp only [Eqs,reduceCtorEq,ZvG,reduceIte,ZvE,ZvH,ZvF]
   refine ZbB rfl rfl rfl rfl rfl (by trivial) (by trivial) (by exact (Zdm s l false b x y _ h1' hb2 hx2 (ZvQ _ _ _)).VT (first:=[]) (args:=[_]) (caps:=[_,_])) (Zc ?_)
   simp only [Eqs,reduceCtorEq,ZvG,reduceIte,ZvE,ZvH,ZvF]
   refine hF.ret _ S rfl (by first | trivial | simp) (Jn ?_ rfl) (St.sub_trans (ZvS _ hx) (ZvS _ hy)) ⟨rfl,rfl⟩
   rw [hI,Zus,Zur]; rfl
 ·rintro d S ⟨hd,_⟩
  cases hd
theorem Zuc (o:Option Int):KJ (.int .i64 0) false (o.map Zaz) = .int .i64 (o.getD 0):=by cases o <;> rfl
abbrev Zof (l:List (Str × Int)):List (D × D):=JI Ju Zaz l
def inC (n:Int):List D:=[.int .i64 n]
end Go.DL
namespace Go.DL
open Go Go.Proofs
theorem Zs5 (f:Fld):KB f=(decide (f.kind=1) || decide (f.kind=2) || decide (f.kind=3)):=by
 unfold KB
 rw [Bool.eq_iff_iff]
 simp only [ZvN,ZvW,decide_eq_true_eq]
 omega
theorem Zew (f:Fld):Z7 ZvJ W7.id [.agg f.cells] (.bool (KB f)):=by
 refine YO W7.ok fun F st hret=>?_
 refine rx @Fld.cells.eq_1 ?_
 refine rx @Fld.cells.eq_1 ?_
 refine hret rfl (by first | trivial | simp) (WY ?_) (by first | exact ZvK _ | exact Yo (by first | trivial | assumption) | assumption | exact ZvS _ (by assumption))
 exact (Zs5 f).symm
def Zes (f:Fld):(Int × Int) × Int:=if KB f then (Wu f,0) else ((0,0),2)
theorem Ze1 (f:Fld):Z7 ZvJ YR.id [.agg f.cells] (.tup [K7 (Zes f).1,.int .i64 (Zes f).2]):=by
 refine YO YR.ok fun F st hret=>?_
 have hS:=Zes.eq_1 f
 refine rx @Fld.cells.eq_1 ?_
 refine rx @Fld.cells.eq_1 ?_
 refine cl (Zew f) ?_
 refine cd (fun h1=>?_) (fun h1=>?_)
 ·rw [if_neg (by simpa using h1)] at hS
  refine rg ?_
  refine hret rfl (by first | trivial | simp) (Jn ?_ rfl) (ZvK _)
  rw [hS]; rfl
 ·rw [if_pos (by simpa using h1)] at hS
  refine rx @Fld.cells.eq_1 ?_
  refine cd (fun h2=>?_) (fun h2=>?_)
  ·refine rx @Fld.cells.eq_1 ?_
   refine hret rfl (by first | trivial | simp) (Jn ?_ rfl) (ZvK _)
   rw [hS,Wu,if_pos (by simpa using h2)]; rfl
  ·refine rx @Fld.cells.eq_1 ?_
   refine hret rfl (by first | trivial | simp) (Jn ?_ rfl) (ZvK _)
   rw [hS,Wu,if_neg (by simpa using h2)]; rfl
def Jz (fs:List Fld):Nat→Zf2
 | 0=>[]
 | i + 1=>if KB (fs.getD i default) then W5 (fs.getD i default).name (Wu (fs.getD i default)) (Jz fs i) else Jz fs i
theorem ZbS (fs:List Fld) (st:St):ZK ZvJ ZT.id [ZE fs] st fun r S=>∃ b,st b=none∧r = .ret (.map b)∧S=st.upd b (.map (Zaq (Jz fs fs.length))):=by
 refine Zbm ZT.ok fun hwf F hF=>?_
 have hw:=(Zhn (hwf (ZE fs) (by simp))).1
 unfold big at hw
 clear hwf
 refine rg ?_
 refine rg ?_
 intro b hb
 refine rx (nd2 @ZE.eq_1 @slD.eq_1) ?_
 refine ZF (Yh ?_)
 have key:∀ (n i:Nat),(fs.length) - i=n→i≤fs.length→ZD F [.code (ZT.l0),.inLoop ZT.l0,.inBlock 0,.code (.seq (qR ZT.r9 [2]) .ret)] [(3,.d (.map b)),(9,.d (ZE fs)),(10,.d (.int .i64 fs.length)),(11,.d (.int .i64 i))] [] (st.upd b (.map (Zaq (Jz fs i)))):=by
  intro n
  induction n using Nat.strongRecOn with
  | ind n ih_key =>
  intro i hn hi
  refine rg ?_
  refine Zi (Zv rfl trivial (fun h1=>?_) (fun h1=>?_))
  ·simp at h1
   have hsn:Jz fs (i + 1)=if KB (fs.getD i default) then W5 (fs.getD i default).name (Wu (fs.getD i default)) (Jz fs i) else Jz fs i:=rfl
   generalize hf:fs.getD i default=f at *
   have hP:=Zes.eq_1 f
   refine rx (nd2 @ZE.eq_1 (nd2 @slD.eq_1 (nd2 @Fld.cells.eq_1 @hf))) ?_
   refine aa ?_
   refine rx @Fld.cells.eq_1 ?_
   refine K8 rfl rfl rfl rfl rfl (by trivial) (by trivial) (by exact Ze1 f) (Zc ?_)
   simp only [Eqs,reduceCtorEq,ZvG,reduceIte,ZvE,ZvH,ZvF,K7]
   refine rg ?_
   refine cd (fun h2=>?_) (fun h2=>?_)
   ·have hnum:KB f=true:=by
     cases hx:KB f with
     | true=>rfl
     | false=>rw [hP,hx] at h2; simp at h2
    rw [if_pos hnum] at hP hsn
    have e2:=Zb4 (vD:=K7) YK f.name (Wu f) (Jz fs i)
    have e3:=Qm YK f.name
    simp only [show Ju f.name=D.str f.name from rfl,show K7 (Wu f)=D.agg [.int .i64 (Wu f).1,.int .i64 (Wu f).2] from rfl] at e2 e3
    have hP1:(Zes f).1=Wu f:=by rw [hP]
    refine rx (nd2 @Fld.cells.eq_1 (nd2 @hP1 (nd2 @e2 (nd2 @e3 (nd2 @ZvQ (nd2 @ZvV (nd2 @YP @YQ))))))) ?_
    refine rg ?_
    refine aa ?_
    rw [← hsn]
    refine ZG ?_
    exact ih_key ((fs.length) - (i + 1)) (by omega) (i + 1) rfl (by omega)
   ·have hnum:KB f=false:=by
     cases hx:KB f with
     | true=>rw [hP,hx] at h2; simp at h2
     | false=>rfl
    rw [if_neg (by rw [hnum]; simp)] at hsn
    refine rg ?_
    refine aa ?_
    rw [← hsn]
    refine ZG ?_
    exact ih_key ((fs.length) - (i + 1)) (by omega) (i + 1) rfl (by omega)
  ·simp at h1
   obtain rfl:i=fs.length:=by omega
   refine rg ?_
   exact hF.ret _ _ rfl (by trivial) (ZvM _) (ZvK _) ⟨b,hb,rfl,rfl⟩
 exact key _ 0 rfl (by omega)
theorem ZjL (m:Msg) (st:St):ZK ZvJ W8.id [.agg m.cells] st fun r S=>∃ b,st b=none∧r = .ret (.map b)∧S=st.upd b (.map (Zaq (Jz m.fields m.fields.length))):=by
 refine ZP W8.ok fun F hF=>?_
 refine rx @Msg.cells.eq_1 ?_
 refine rx @Msg.cells.eq_1 ?_
 refine Z4 rfl rfl rfl rfl rfl (by trivial) (by trivial) (by exact ZbS m.fields st) ?_ ?_
 ·rintro d S ⟨b,hb,hd,rfl⟩
  cases hd
  refine Zc ?_
  simp only [Eqs,reduceCtorEq,ZvG,reduceIte,ZvE,ZvH,ZvF]
  exact hF.ret _ _ rfl (by trivial) (ZvM _) (ZvK _) ⟨b,hb,rfl,rfl⟩
 ·rintro d S ⟨b,hb,hd,_⟩
  cases hd
end Go.DL
namespace Go.DL
open Go Go.Proofs
theorem ZeK (l:List Msg) (f:D) (p:Msg→Bool) (sts:Nat→St)
  (hf:∀ i,i < l.length→VT ZvJ f [.agg (l.getD i default).cells] (sts i) (.bool (p (l.getD i default))) (sts (i + 1))) :
  YU ZvJ Yp.id [slD 2 Msg.cells l,f] (sts 0) (.tup [.int .i64 (max (ZB p l) 0),.bool (decide (0≤ZB p l))]) (sts (Zam p l)):=by
 refine YL Yp.ok fun hwf F hret=>?_
 clear hwf
 refine rg ?_
 refine rg ?_
 refine ct (Zdp l f p sts hf) ?_
 refine rg ?_
 exact hret rfl (by trivial) (Jn rfl rfl) (ZvK _)
theorem ZfT (l:List Fld) (f:D) (p:Fld→Bool) (sts:Nat→St)
  (hf:∀ i,i < l.length→VT ZvJ f [.agg (l.getD i default).cells] (sts i) (.bool (p (l.getD i default))) (sts (i + 1))) :
  YU ZvJ YC.id [slD 15 Fld.cells l,f] (sts 0) (.tup [.int .i64 (max (ZB p l) 0),.bool (decide (0≤ZB p l))]) (sts (Zam p l)):=by
 refine YL YC.ok fun hwf F hret=>?_
 clear hwf
 refine rg ?_
 refine rg ?_
 refine ct (ZaI l f p sts hf) ?_
 refine rg ?_
 exact hret rfl (by trivial) (Jn rfl rfl) (ZvK _)
theorem ZjK (x:Msg) (s:Str) (b:Nat) (st:St) (hb:st b=some (.cells [.str s])):YU ZvJ WL.id [.agg x.cells,.ptr b 0] st (.bool (decide (x.name=s))) st:=by
 refine YL WL.ok fun hwf F hret=>?_
 clear hwf
 refine rx @Msg.cells.eq_1 ?_
 refine rx @hb ?_
 exact hret rfl (by trivial) (ZvM _) (ZvK _)
theorem ZiL (x:Fld) (s:Str) (b:Nat) (st:St) (hb:st b=some (.cells [.str s])):YU ZvJ Ws.id [.agg x.cells,.ptr b 0] st (.bool (decide (x.name=s))) st:=by
 refine YL Ws.ok fun hwf F hret=>?_
 clear hwf
 refine rx @Fld.cells.eq_1 ?_
 refine rx @hb ?_
 exact hret rfl (by trivial) (ZvM _) (ZvK _)
theorem ZfR (d:Dfn) (s:Str):Z7 ZvJ KG.id [.agg d.cells,.str s] (.tup [.int .i64 (max (ZB (fun x=>decide (x.name=s)) d.msgs) 0),.bool (decide (0≤ZB (fun x=>decide (x.name=s)) d.msgs))]):=by
 refine YO KG.ok fun F st hret=>?_
 refine rx @Dfn.cells.eq_1 ?_
 refine Zi ?_
 refine ZX 3 rfl fun b hb=>?_
 simp only [Eqs,reduceCtorEq,ZvG,reduceIte,ZvE,ZvH,ZvF,Ya,Yq,delL]
 refine rx @Dfn.cells.eq_1 ?_
 refine QE rfl rfl rfl rfl rfl (by trivial) (by trivial) (by exact ZeK d.msgs (.fn (.func WL.id) [] [.ptr b 0]) (fun x=>decide (x.name=s)) (fun _=>st.upd b (.cells [.str s])) (fun i hi=>(ZjK _ s b _ (ZvQ _ _ _)).VT (first:=[]) (args:=[_]) (caps:=[_]))) (Zc ?_)
 simp only [Eqs,reduceCtorEq,ZvG,reduceIte,ZvE,ZvH,ZvF]
 exact hret rfl (by trivial) (Jn rfl rfl) (ZvS _ hb)
theorem ZaH (d:Msg) (s:Str):Z7 ZvJ Kp.id [.agg d.cells,.str s] (.tup [.int .i64 (max (ZB (fun x=>decide (x.name=s)) d.fields) 0),.bool (decide (0≤ZB (fun x=>decide (x.name=s)) d.fields))]):=by
 refine YO Kp.ok fun F st hret=>?_
 refine rx @Msg.cells.eq_1 ?_
 refine Zi ?_
 refine ZX 3 rfl fun b hb=>?_
 simp only [Eqs,reduceCtorEq,ZvG,reduceIte,ZvE,ZvH,ZvF,Ya,Yq,delL]
 refine rx @Msg.cells.eq_1 ?_
 refine QE rfl rfl rfl rfl rfl (by trivial) (by trivial) (by exact ZfT d.fields (.fn (.func Ws.id) [] [.ptr b 0]) (fun x=>decide (x.name=s)) (fun _=>st.upd b (.cells [.str s])) (fun i hi=>(ZiL _ s b _ (ZvQ _ _ _)).VT (first:=[]) (args:=[_]) (caps:=[_]))) (Zc ?_)
 simp only [Eqs,reduceCtorEq,ZvG,reduceIte,ZvE,ZvH,ZvF]
 exact hret rfl (by trivial) (Jn rfl rfl) (ZvS _ hb)
end Go.DL
namespace Go.DL
open Go Go.Proofs
theorem Zi2 {α:Type} [Inhabited α] {p:α→Bool} {l:List α} {n:Nat} (h:0≤ZB p (l.take n)):ZB p l=ZB p (l.take n):=by
 have h1:=Zc2 h
 have h2:=QP p (l.take n)
 rw [List.length_take] at h2
 have h3:=Zab (p:=p) (l:=l) (i:=(ZB p (l.take n)).toNat) (by omega) (by rw [← Zao (n:=n) (by omega)]; exact h1.1) (fun j hj=>by rw [← Zao (n:=n) (by omega)]; exact h1.2 j hj)
 omega
theorem Zqv {d:Dfn} {s:Str} {n:Nat} (h:0≤Z8 d s n):Z8 d s d.msgs.length=Z8 d s n∧Z8 d s n < n∧Z8 d s n < d.msgs.length:=by
 unfold Z8 at *
 have h2:=QP (fun m:Msg=>decide (m.name=s)) (d.msgs.take n)
 rw [List.length_take] at h2
 refine ⟨?_,by omega,by omega⟩
 rw [ZvZ]; exact Zi2 h
theorem Zlo {d:Dfn} {at_:Nat} {l:List Msg} {deps:List Int} (h:Zaa d at_ l deps=none):(∀ i,i < l.length→Qp d (at_ + i) (l.getD i default)=none)∧0≤Z8 d d.start d.msgs.length:=by
 induction l generalizing at_ deps with
 | nil =>
  simp only [Zaa] at h
  split at h
  ·simp at h
  ·exact ⟨fun i hi=>by simp at hi,by omega⟩
 | cons m r ih =>
  simp only [Zaa] at h
  split at h
  ·simp at h
  ·rename_i hm
   split at h
   ·simp at h
   ·have h1:=ih h
    refine ⟨fun i hi=>?_,h1.2⟩
    cases i with
    | zero=>simpa using hm
    | succ i =>
     have:=h1.1 i (by simpa using hi)
     simpa [Nat.add_assoc,Nat.add_comm 1 i] using this
structure QN (d:Dfn):Prop where
 many:d.msgs.length≤60
 start:0≤Z8 d d.start d.msgs.length
 flaw:∀ i,i < d.msgs.length→Qp d i (d.msgs.getD i default)=none
theorem ZmC {d:Dfn} (h:ZeJ d=true):QN d:=by
 unfold ZeJ ZnI at h
 split at h
 ·simp at h
 ·split at h
  ·simp at h
  ·rename_i hc
   simp only [ZvW,decide_eq_true_eq,not_or,Nat.not_lt] at hc
   simp only [Option.isNone_iff_eq_none] at h
   have:=Zlo h
   refine ⟨by omega,this.2,fun i hi=>by simpa using this.1 i hi⟩
theorem ZkE {s:Str} (h:Qh s=true):s.length≤32:=by
 unfold Qh at h
 split at h
 ·simp
 ·simp only [ZvN,decide_eq_true_eq] at h; exact h.1.1
structure ZdF (d:Dfn) (j:Nat) (m:Msg):Prop where
 name:m.name.length≤32
 many:m.fields.length≤40
 field:∀ i,i < m.fields.length→Qy d j m i (m.fields.getD i default)=0
theorem Zjv {d:Dfn} {j:Nat} {m:Msg} {k:Nat} {l:List Fld} (h:Ke d j m k l=none):∀ i,i < l.length→Qy d j m (k + i) (l.getD i default)=0:=by
 induction l generalizing k with
 | nil=>intro i hi; simp at hi
 | cons f r ih =>
  simp only [Ke] at h
  split at h
  ·rename_i hf
   intro i hi
   cases i with
   | zero=>simpa using hf
   | succ i=>have:=ih h i (by simpa using hi); simpa [Nat.add_assoc,Nat.add_comm 1 i] using this
  ·simp at h
theorem Ztc {d:Dfn} {j:Nat} {m:Msg} (h:Qp d j m=none):ZdF d j m:=by
 unfold Qp at h
 split at h; · simp at h
 rename_i h1
 split at h; · simp at h
 split at h; · simp at h
 rename_i hc
 simp only [ZvW,decide_eq_true_eq,not_or,Nat.not_lt] at hc
 exact ⟨ZkE (by simpa using h1),by omega,fun i hi=>by simpa using Zjv h i hi⟩
structure ZmS (d:Dfn) (j:Nat) (f:Fld):Prop where
 name:f.name.length≤32
 ref:∀ s∈We f,0≤Z8 d s d.msgs.length∧Z8 d s d.msgs.length < j
 cases:f.cases≠[]→f.kind=9
theorem ZmS.many {d:Dfn} {j:Nat} {f:Fld} (h:ZmS d j f) (hl:(We f).length≤41):f.cases.length≤41:=by
 by_cases hc:f.cases=[]
 ·simp [hc]
 ·unfold We at hl
  rw [if_pos (h.cases hc)] at hl
  simp at hl; omega
theorem Zpq {f:Fld} (h1:1≤f.kind) (h2:f.kind≤12) (h:ZiI f=true) (hc:f.cases≠[]):f.kind=9:=by
 have hk:f.kind=1∨f.kind=2∨f.kind=3∨f.kind=4∨f.kind=5∨f.kind=6∨f.kind=7∨f.kind=8∨f.kind=9∨f.kind=10∨f.kind=11∨f.kind=12:=by omega
 simp only [ZiI,ZvN] at h
 have h3:=h.2.2
 rcases hk with hk | hk | hk | hk | hk | hk | hk | hk | hk | hk | hk | hk <;> rw [hk] at h3 ⊢ <;> simp [zrC,Zk9,Zrf,Zcn,hc] at h3 <;> rfl
theorem ZsY {d:Dfn} {j i:Nat} {m:Msg} {f:Fld} (h:Qy d j m i f=0):ZmS d j f:=by
 have h0:=Zhl h
 unfold Qy at h
 split at h; · omega
 rename_i h1
 split at h; · omega
 split at h; · omega
 rename_i hk
 split at h; · omega
 rename_i hz
 simp only [ZvW,decide_eq_true_eq,not_or,Int.not_lt] at hk
 refine ⟨ZkE (by simpa using h1),fun s hs=>?_,fun hc=>Zpq (by omega) (by omega) (by simpa using hz) hc⟩
 have h3:=h0.2 s hs
 have h4:=Zqv h3
 exact ⟨by omega,by omega⟩
theorem QN.msg {d:Dfn} (h:QN d) {j:Nat} (hj:j < d.msgs.length):ZdF d j (d.msgs.getD j default):=Ztc (h.flaw j hj)
theorem QN.fld {d:Dfn} (h:QN d) {j i:Nat} (hj:j < d.msgs.length) (hi:i < (d.msgs.getD j default).fields.length):ZmS d j ((d.msgs.getD j default).fields.getD i default):=ZsY ((h.msg hj).field i hi)
theorem QN.ncases {d:Dfn} (h:QN d) {j i:Nat} (hj:j < d.msgs.length) (hi:i < (d.msgs.getD j default).fields.length):((d.msgs.getD j default).fields.getD i default).cases.length≤41:=(h.fld hj hi).many (Zhl ((h.msg hj).field i hi)).1
end Go.DL
namespace Go.DL
open Go
def Qn (l:List WK):Int × Int:=((l.getD 0 default).low,(l.getD (l.length - 1) default).high)
def Qz (f g:Fld):Bool:=decide (g.kind=9) && decide (g.tag=f.name)
def W9 (m:Msg) (f:Fld):Int × Int:=match m.fields.find? (Qz f) with
 | some g=>Qn g.cases
 | none=>Wu f
def QL (m:Msg):JX:=fun s=>if YF m s m.fields.length < 0 then none else if KB (m.fields.getD (YF m s m.fields.length).toNat default) then some (W9 m (m.fields.getD (YF m s m.fields.length).toNat default)) else none
def Zhr (m:Msg) (s:WZ):Int:=s.base + hiS (QL m) s.terms
def Qc (m:Msg) (f:Fld):Bool:=decide (f.kind=8) || (decide (f.kind=12) || (decide (f.kind=7) && decide (0 < Zhr m f.size)))
def Ka (m:Msg) (f:Fld):List Str:=f.cases.map (·.of)++if Qc m f then [f.of] else []
def ixS (d:Dfn) (s:Str):Nat:=(Z8 d s d.msgs.length).toNat
def Zcj (d:Dfn) (i:Nat):List Nat:=((d.msgs.getD i default).fields.flatMap (Ka (d.msgs.getD i default))).map (ixS d)
inductive Rch (d:Dfn):Nat→Prop where
 | start:Rch d (ixS d d.start)
 | step {i j:Nat} (h:Rch d i) (hi:i < d.msgs.length) (hj:j∈Zcj d i):Rch d j
def Zbb (d:Dfn) (m:Msg) (out:List Bool) (f:Fld):List Bool :=
 let o:=f.cases.foldl (fun o c=>o.set (ixS d c.of) true) out
 if Qc m f then o.set (ixS d f.of) true else o
def ZgC (d:Dfn) (i:Nat) (out:List Bool):List Bool:=if out.getD i false then (d.msgs.getD i default).fields.foldl (Zbb d (d.msgs.getD i default)) out else out
def ZbA (d:Dfn):Nat→List Bool→List Bool
 | 0,out=>out
 | i + 1,out=>ZbA d i (ZgC d i out)
def Za4 (d:Dfn):List Bool:=(List.replicate d.msgs.length false).set (ixS d d.start) true
def ZhB (d:Dfn):List Bool:=ZbA d d.msgs.length (Za4 d)
theorem ZjO {l:List Bool} {i j:Nat} (hi:i < l.length):(l.set i true).getD j false=(l.getD j false || decide (j=i)):=by
 simp only [List.getD_eq_getElem?_getD,List.getElem?_set]
 by_cases h:i=j
 ·subst h; simp [hi]
 ·simp [h,Ne.symm h]
theorem Zgh {α:Type} (ix:α→Nat):∀ (l:List α) (o:List Bool),(∀ a∈l,ix a < o.length)→(l.foldl (fun o a=>o.set (ix a) true) o).length=o.length∧∀ j,(l.foldl (fun o a=>o.set (ix a) true) o).getD j false=(o.getD j false || decide (j∈l.map ix))
 | [],o,_=>by simp
 | a :: l,o,h=>by
  have ha:=h a (by simp)
  obtain ⟨h1,h2⟩:=Zgh ix l (o.set (ix a) true) fun x hx=>by simpa using h x (by simp [hx])
  refine ⟨by simpa using h1,fun j=>?_⟩
  rw [List.foldl_cons,h2,ZjO ha]
  simp only [List.map_cons,List.mem_cons,Bool.or_assoc]
  congr 1
  by_cases hj:j=ix a <;> simp [hj]
theorem Zor {d:Dfn} {m:Msg} {f:Fld} {o:List Bool} (h:∀ s∈Ka m f,ixS d s < o.length):(Zbb d m o f).length=o.length∧∀ j,(Zbb d m o f).getD j false=(o.getD j false || decide (j∈(Ka m f).map (ixS d))):=by
 have h0:=Zgh (fun c:WK=>ixS d c.of) f.cases o fun c hc=>h c.of (by simp only [Ka,List.mem_append,List.mem_map]; exact .inl ⟨c,hc,rfl⟩)
 unfold Zbb
 by_cases hg:Qc m f=true
 ·have hof:=h f.of (by simp [Ka,hg])
  simp only [hg,if_true]
  have hlt:ixS d f.of < (f.cases.foldl (fun o c=>o.set (ixS d c.of) true) o).length:=by rw [h0.1]; exact hof
  refine ⟨by simpa using h0.1,fun j=>?_⟩
  rw [ZjO hlt,h0.2]
  simp only [Ka,hg,if_true,List.map_append,List.mem_append,List.map_map,Function.comp_def,List.map_cons,List.map_nil,List.mem_singleton,Bool.or_assoc,Bool.decide_or]
 ·simp only [Bool.not_eq_true] at hg
  simp only [hg,Bool.false_eq_true,if_false]
  refine ⟨h0.1,fun j=>?_⟩
  rw [h0.2]
  simp [Ka,hg,Function.comp_def]
theorem Zkz {d:Dfn} {m:Msg}:∀ (l:List Fld) (o:List Bool),(∀ f∈l,∀ s∈Ka m f,ixS d s < o.length)→(l.foldl (Zbb d m) o).length=o.length∧∀ j,(l.foldl (Zbb d m) o).getD j false=(o.getD j false || decide (j∈(l.flatMap (Ka m)).map (ixS d)))
 | [],o,_=>by simp
 | f :: l,o,h=>by
  obtain ⟨h1,h2⟩:=Zor (h f (by simp))
  obtain ⟨h3,h4⟩:=Zkz l (Zbb d m o f) fun g hg s hs=>by rw [h1]; exact h g (by simp [hg]) s hs
  refine ⟨by rw [List.foldl_cons,h3,h1],fun j=>?_⟩
  rw [List.foldl_cons,h4,h2]
  simp only [List.flatMap_cons,List.map_append,List.mem_append,Bool.or_assoc,Bool.decide_or]
def Ze9 (d:Dfn):Prop:=∀ i,i < d.msgs.length→∀ j∈Zcj d i,j < i
theorem Ze9.of {d:Dfn} (h:QN d):Ze9 d:=by
 intro i hi j hj
 simp only [Zcj,List.mem_map,List.mem_flatMap] at hj
 obtain ⟨s,⟨f,hf,hs⟩,rfl⟩:=hj
 obtain ⟨k,hk,rfl⟩:=ZvX hf
 have hfo:=h.fld hi hk
 generalize d.msgs.getD i default=m at *
 have e:m.fields.getD k default=m.fields[k]:=by simp [List.getD,hk]
 rw [e] at hfo
 generalize m.fields[k]=g at *
 have hr:s∈We g:=by
  simp only [Ka,List.mem_append,List.mem_map] at hs
  simp only [We,Zar,List.mem_append]
  rcases hs with ⟨c,hc,rfl⟩ | hs
  ·have h9:=hfo.cases (List.ne_nil_of_mem hc)
   exact .inr (by rw [if_pos h9]; exact List.mem_map.2 ⟨c,hc,rfl⟩)
  ·split at hs
   ·rename_i hg
    simp only [List.mem_singleton] at hs
    subst hs
    refine .inl ?_
    rw [if_pos]
    ·simp
    ·simp only [Qc,ZvW,ZvN,decide_eq_true_eq] at hg ⊢
     rcases hg with hg | hg | ⟨hg,_⟩ <;> simp [hg]
   ·simp at hs
 obtain ⟨h1,h2⟩:=hfo.ref s hr
 unfold ixS
 omega
theorem ZnY {d:Dfn} {i:Nat} {f:Fld} {s:Str} (hf:f∈(d.msgs.getD i default).fields) (hs:s∈Ka (d.msgs.getD i default) f):ixS d s∈Zcj d i:=List.mem_map.2 ⟨s,List.mem_flatMap.2 ⟨f,hf,hs⟩,rfl⟩
theorem ZpX {d:Dfn} (h:Ze9 d) {i:Nat} (hi:i < d.msgs.length) {o:List Bool} (hl:o.length=d.msgs.length):(ZgC d i o).length=o.length∧∀ j,(ZgC d i o).getD j false=(o.getD j false || (o.getD i false && decide (j∈Zcj d i))):=by
 unfold ZgC
 by_cases ho:o.getD i false=true
 ·rw [if_pos ho,ho]
  have:=Zkz (d:=d) (m:=d.msgs.getD i default) (d.msgs.getD i default).fields o fun f hf s hs=>by
   have:=h i hi _ (ZnY hf hs)
   omega
  refine ⟨this.1,fun j=>?_⟩
  rw [this.2]; rfl
 ·simp only [Bool.not_eq_true] at ho
  rw [ho]; simp
theorem ZmA {d:Dfn} (h:QN d):(Za4 d).length=d.msgs.length∧∀ j,(Za4 d).getD j false=decide (j=ixS d d.start):=by
 have hs:=h.start
 have hlt:ixS d d.start < d.msgs.length:=by
  have:=QP (fun m=>decide (m.name=d.start)) (d.msgs.take d.msgs.length)
  unfold ixS Z8 at *
  rw [List.length_take] at this
  omega
 refine ⟨by simp [Za4],fun j=>?_⟩
 unfold Za4
 rw [ZjO (by simpa using hlt)]
 have:(List.replicate d.msgs.length false).getD j false=false:=by
  simp only [List.getD_eq_getElem?_getD,List.getElem?_replicate]
  split <;> rfl
 rw [this,Bool.false_or]
theorem ZoU {d:Dfn} (h:Ze9 d):∀ (n:Nat) (o:List Bool),n≤d.msgs.length→o.length=d.msgs.length →
  (∀ j,o.getD j false=true→Rch d j)→o.getD (ixS d d.start) false=true→(∀ k,n≤k→k < d.msgs.length→o.getD k false=true→∀ j∈Zcj d k,o.getD j false=true) →
  (ZbA d n o).length=d.msgs.length∧(∀ j,(ZbA d n o).getD j false=true→Rch d j)∧(ZbA d n o).getD (ixS d d.start) false=true ∧
   ∀ k,k < d.msgs.length→(ZbA d n o).getD k false=true→∀ j∈Zcj d k,(ZbA d n o).getD j false=true
 | 0,o,_,hl,h1,h2,h3=>⟨hl,h1,h2,fun k hk=>h3 k (Nat.zero_le _) hk⟩
 | n + 1,o,hn,hl,h1,h2,h3=>by
  obtain ⟨r1,r2⟩:=ZpX h (show n < d.msgs.length by omega) hl
  refine ZoU h n (ZgC d n o) (by omega) (by omega) (fun j hj=>?_) (by rw [r2,h2]; rfl) (fun k hk hk2 ho j hj=>?_)
  ·rw [r2,ZvW,ZvN,decide_eq_true_eq] at hj
   rcases hj with hj | ⟨hj,hj2⟩
   ·exact h1 j hj
   ·exact .step (h1 n hj) (by omega) hj2
  ·have hlt:=h k hk2 j hj
   rw [r2] at ho ⊢
   have hnn:¬ k∈Zcj d n:=fun hm=>by have:=h n (by omega) k hm; omega
   simp only [hnn,decide_false,Bool.and_false,Bool.or_false] at ho
   by_cases hkn:k=n
   ·subst hkn; rw [ho,decide_eq_true hj]; simp
   ·rw [h3 k (by omega) hk2 ho j hj]; rfl
theorem Ztf {d:Dfn} (hv:QN d) {j:Nat}:(ZhB d).getD j false=true↔Rch d j:=by
 obtain ⟨s1,s2⟩:=ZmA hv
 obtain ⟨_,q1,q2,q3⟩:=ZoU (Ze9.of hv) d.msgs.length (Za4 d) (ZvR _) s1 (fun j hj=>by rw [s2,decide_eq_true_eq] at hj; subst hj; exact .start) (by rw [s2]; simp) (fun k h1 h2=>by omega)
 refine ⟨q1 j,fun hr=>?_⟩
 show (ZbA d d.msgs.length (Za4 d)).getD j false=true
 induction hr with
 | start=>exact q2
 | step _ hi hj ih=>exact q3 _ hi ih _ hj
theorem Zr8 {d:Dfn} (hv:QN d) {V:List Str} (h1:d.start∈V) (h2:∀ s∈V,0≤Z8 d s d.msgs.length∧Rch d (ixS d s)) (h3:∀ s∈V,∀ t∈(d.msgs.getD (ixS d s) default).fields.flatMap (Ka (d.msgs.getD (ixS d s) default)),t∈V)
  {s:Str} (hs:0≤Z8 d s d.msgs.length):(ZhB d).getD (ixS d s) false=decide (s∈V):=by
 have inj:∀ a b:Str,0≤Z8 d a d.msgs.length→0≤Z8 d b d.msgs.length→ixS d a=ixS d b→a=b:=fun a b ha hb he=>by
  have ga:=(Zc2 ha).1
  have gb:=(Zc2 hb).1
  unfold ixS at he
  rw [show (ZB (fun m=>decide (m.name=a)) (d.msgs.take d.msgs.length)).toNat=(ZB (fun m=>decide (m.name=b)) (d.msgs.take d.msgs.length)).toNat from he] at ga
  simp only [decide_eq_true_eq] at ga gb
  exact ga.symm.trans gb
 have key:∀ j,Rch d j→∃ t∈V,ixS d t=j:=fun j hr=>by
  induction hr with
  | start=>exact ⟨d.start,h1,rfl⟩
  | step _ hi hj ih =>
   obtain ⟨t,ht,rfl⟩:=ih
   obtain ⟨u,hu,rfl⟩:=List.mem_map.1 hj
   exact ⟨u,h3 t ht u hu,rfl⟩
 rw [Bool.eq_iff_iff,Ztf hv,decide_eq_true_eq]
 constructor
 ·intro hr
  obtain ⟨t,ht,he⟩:=key _ hr
  rw [← inj t s (h2 t ht).1 hs he]; exact ht
 ·intro h
  exact (h2 s h).2
end Go.DL
namespace Go.DL
open Go Go.Proofs
structure Zg0 (l:List WK):Prop where
 pos:0 < l.length
 ord:∀ i,i + 1 < l.length→(l.getD i default).high < (l.getD (i + 1) default).low
 ne:∀ i,i < l.length→(l.getD i default).low≤(l.getD i default).high
theorem Zg0.lo {l:List WK} (h:Zg0 l):∀ i,i < l.length→(l.getD 0 default).low≤(l.getD i default).low
 | 0,_=>Int.le_refl _
 | i + 1,hi=>by
  have h1:=h.lo i (by omega)
  have h2:=h.ord i hi
  have h3:=h.ne i (by omega)
  omega
theorem ZgY (c:WK):Z7 ZvJ YT.id [.agg c.cells] (.tup [.int .i64 c.low,.int .i64 c.high]):=by
 refine YO YT.ok fun F st hret=>?_
 refine rx @WK.cells.eq_1 ?_
 refine rx @WK.cells.eq_1 ?_
 refine hret rfl (by first | trivial | simp) (Jn ?_ rfl) (by first | exact ZvK _ | exact Yo (by first | trivial | assumption) | assumption | exact ZvS _ (by assumption))
 rfl
theorem ZlP {l:List WK} (h:Zg0 l) (hl:l.length≤1000):Z7 ZvJ ZJ.id [Qg l,.fn (.func YT.id) [] []] (.tup [.int .i64 (Qn l).1,.int .i64 (Qn l).2]):=by
 refine YO ZJ.ok fun F st hret=>?_
 have hE:=Qn.eq_1 l
 have hpos:=h.pos
 refine rg ?_
 refine rx (nd2 @Qg.eq_1 @slD.eq_1) ?_
 refine ZF (Yh ?_)
 have key:∀ (n i:Nat),(l.length) - i=n→i≤l.length→∀ a b:Int,(0 < i→a=(l.getD 0 default).low∧b=(l.getD (i - 1) default).high)→ZD F [.code (ZJ.l0),.inLoop ZJ.l0,.inBlock 0,.code (.seq (qR ZJ.r9 [4,5]) .ret)] [(1,.d (.fn (.func YT.id) [] [])),(4,.d (.int .i64 a)),(5,.d (.int .i64 b)),(10,.d (Qg l)),(11,.d (.int .i64 l.length)),(12,.d (.int .i64 i))] [] st:=by
  intro n
  induction n using Nat.strongRecOn with
  | ind n ih_key =>
  intro i hn hi a b hab
  refine rg ?_
  refine Zi (Zv rfl trivial (fun h1=>?_) (fun h1=>?_))
  ·simp at h1
   have hlo:=h.lo i h1
   have hne:=h.ne i h1
   have hor:0 < i→(l.getD (i - 1) default).high < (l.getD i default).low:=fun h0=>by
    have:=h.ord (i - 1) (by omega)
    rwa [show i - 1 + 1=i by omega] at this
   have h00:i=0→(l.getD 0 default)=l.getD i default:=fun e=>by rw [e]
   have hnext:(l.getD (i + 1 - 1) default).high=(l.getD i default).high:=by rw [Nat.add_sub_cancel]
   generalize hc:l.getD i default=c at *
   refine rx (nd2 @Qg.eq_1 (nd2 @slD.eq_1 (nd2 @hc @WK.cells.eq_1))) ?_
   refine aa ?_
   refine rx @WK.cells.eq_1 ?_
   refine ZbB rfl rfl rfl rfl rfl (by trivial) (by trivial) (by exact (ZgY c).VT (first:=[]) (args:=[_]) (caps:=[]) _) (Zc ?_)
   simp only [Eqs,reduceCtorEq,ZvG,reduceIte,ZvE,ZvH,ZvF]
   refine rg ?_
   refine cd (fun h2=>?_) (fun h2=>?_)
   ·simp at h2
    have h00':=h00 (by omega)
    refine rg ?_
    refine rg ?_
    refine rg ?_
    refine aa ?_
    refine ZG ?_
    exact ih_key ((l.length) - (i + 1)) (by omega) (i + 1) rfl (by omega) _ _ (fun _=>⟨by rw [h00']; exact Int.min_self _,by rw [hnext]; exact Int.max_self _⟩)
   ·simp at h2
    obtain ⟨ha,hb⟩:=hab (by omega)
    have hor':=hor (by omega)
    refine rg ?_
    refine rg ?_
    refine aa ?_
    refine ZG ?_
    exact ih_key ((l.length) - (i + 1)) (by omega) (i + 1) rfl (by omega) _ _ (fun _=>⟨by rw [Int.min_eq_left (by omega)]; exact ha,by rw [hnext,Int.max_eq_right (by omega)]⟩)
  ·simp at h1
   obtain rfl:i=l.length:=by omega
   obtain ⟨rfl,rfl⟩:=hab hpos
   refine rg ?_
   refine hret rfl (by first | trivial | simp) (Jn ?_ rfl) (ZvK _)
   rw [hE]
 exact key _ 0 rfl (by omega) 0 0 (by omega)
theorem ZpG {α:Type} [Inhabited α] {p:α→Bool} {l:List α} {i:Nat} (hi:i < l.length) (hp:p (l.getD i default)=true) (h:∀ j,j < i→p (l.getD j default)=false):l.find? p=some (l.getD i default):=by
 induction l generalizing i with
 | nil=>simp at hi
 | cons x r ih =>
  cases i with
  | zero=>simp only [List.getD_cons_zero] at hp ⊢; simp [hp]
  | succ i =>
   have h0:=h 0 (by omega)
   simp only [List.getD_cons_zero] at h0
   simp only [List.getD_cons_succ] at hp ⊢
   rw [List.find?_cons_of_neg (by simp [h0])]
   exact ih (by simpa using hi) hp fun j hj=>by simpa using h (j + 1) (by omega)
theorem ZpH {α:Type} [Inhabited α] {p:α→Bool} {l:List α} (h:∀ j,j < l.length→p (l.getD j default)=false):l.find? p=none:=by
 rw [List.find?_eq_none]
 intro x hx
 obtain ⟨j,hj,rfl⟩:=ZvX hx
 have:=h j hj
 simpa [List.getD,hj] using this
def ZdR (m:Msg):Prop:=m.fields.length≤1000∧∀ g∈m.fields,g.kind=9→Zg0 g.cases∧g.cases.length≤1000
theorem ZiX {m:Msg} (hm:ZdR m) (f:Fld) (hf:KB f=true):Z7 ZvJ ZO.id [.agg m.cells,.agg f.cells] (K7 (W9 m f)):=by
 refine YO ZO.ok fun F st hret=>?_
 have hA:=W9.eq_1 m f
 have hlen:=hm.1
 refine rx (nd2 @Msg.cells.eq_1 @Fld.cells.eq_1) ?_
 refine rx (nd2 @ZE.eq_1 @slD.eq_1) ?_
 refine ZF (Yh ?_)
 have key:∀ (n i:Nat),(m.fields.length) - i=n→i≤m.fields.length→(∀ j,j < i→Qz f (m.fields.getD j default)=false)→ZD F [.code (ZO.l0),.inLoop ZO.l0,.inBlock 0,.code (.seq (qR ZO.r8 [4,9]) (.seq (qR ZO.r9 [4]) .ret))] [(3,.loc 3 0),(4,.loc 4 0),(12,.d (ZE m.fields)),(13,.d (.int .i64 m.fields.length)),(14,.d (.int .i64 i))] [(3,f.cells),(4,[.int .i64 0,.int .i64 0])] st:=by
  intro n
  induction n using Nat.strongRecOn with
  | ind n ih_key =>
  intro i hn hi hno
  refine rg ?_
  refine Zi (Zv rfl trivial (fun h1=>?_) (fun h1=>?_))
  ·simp at h1
   have hmem:m.fields.getD i default∈m.fields:=by simp [List.getD,h1]
   have hg9:=hm.2 _ hmem
   have hat:=ZpG (p:=Qz f) h1
   have hsucc:=fun h=>Kj (q:=fun j=>Qz f (m.fields.getD j default)=false) hno h
   have hT:=Qz.eq_1 f (m.fields.getD i default)
   generalize hg:m.fields.getD i default=g at *
   refine rx (nd2 @ZE.eq_1 (nd2 @slD.eq_1 (nd2 @hg @Fld.cells.eq_1))) ?_
   refine aa ?_
   refine rx @Fld.cells.eq_1 ?_
   have hpk:(if decide (g.kind=9)=true then decide (g.tag=f.name) else false)=Qz f g:=by
    rw [hT]; cases decide (g.kind=9) <;> simp
   try rw [hpk]
   refine cd (fun h2=>?_) (fun h2=>?_)
   ·have h2':Qz f g=true:=by rw [hT]; simpa using h2
    rw [hat h2' hno] at hA
    have hk9:g.kind=9:=by rw [hT] at h2'; simp at h2'; exact h2'.1
    obtain ⟨hcs,hcl⟩:=hg9 hk9
    refine rx @Fld.cells.eq_1 ?_
    refine cl (ZlP hcs hcl) ?_
    refine rg ?_
    exact hret rfl (by simp) (by rw [hA]; exact ZvM _) (ZvK _)
   ·have h2':Qz f g=false:=by rw [hT]; simpa using h2
    refine rg ?_
    refine aa ?_
    refine ZG ?_
    exact ih_key ((m.fields.length) - (i + 1)) (by omega) (i + 1) rfl (by omega) (hsucc h2')
  ·simp at h1
   obtain rfl:i=m.fields.length:=by omega
   rw [ZpH hno] at hA
   have hR:Zes f=(Wu f,0):=by rw [Zes,if_pos hf]
   refine rx @Fld.cells.eq_1 ?_
   refine K8 rfl rfl rfl rfl rfl (by trivial) (by trivial) (by exact Ze1 f) (Zc ?_)
   simp only [Eqs,reduceCtorEq,ZvG,reduceIte,ZvE,ZvH,ZvF,hR,K7]
   refine rg ?_
   exact hret rfl (by simp) (by rw [hA]; exact ZvM _) (ZvK _)
 exact key _ 0 rfl (by omega) (by intro j hj; omega)
def Zcu (m:Msg):Nat→Zf2
 | 0=>Jz m.fields m.fields.length
 | i + 1=>if KB (m.fields.getD i default) then W5 (m.fields.getD i default).name (W9 m (m.fields.getD i default)) (Zcu m i) else Zcu m i
abbrev ZqH (m:Msg):Zf2:=Zcu m m.fields.length
theorem ZlQ {m:Msg} (hm:ZdR m) (s:WZ) (st:St):YU ZvJ Z3.id [.agg m.cells,.agg s.cells] st (.bool (decide (0 < (QQ s fun k=>ZM k (ZqH m)).2.1))) st:=by
 refine YL Z3.ok fun hwf F hret=>?_
 clear hwf
 have hlen:=hm.1
 refine rx (nd2 @Msg.cells.eq_1 @WZ.cells.eq_1) ?_
 refine rx @Msg.cells.eq_1 ?_
 rw [show (D.agg [.str m.name,ZE m.fields]) = .agg m.cells from rfl]
 refine Z4 rfl rfl rfl rfl rfl (by trivial) (by trivial) (by exact ZjL m st) ?_ ?_
 ·rintro d S ⟨b,hb,hd,rfl⟩
  cases hd
  refine Zc ?_
  simp only [Eqs,reduceCtorEq,ZvG,reduceIte,ZvE,ZvH,ZvF]
  refine rx (nd2 @ZE.eq_1 @slD.eq_1) ?_
  have hsub:∀ e,st.sub (st.upd b (.map e)):=fun e=>ZvS _ hb
  refine ZF (Yh ?_)
  have key:∀ (n i:Nat),(m.fields.length) - i=n→i≤m.fields.length→ZD F [.code (Z3.l0),.inLoop Z3.l0,.inBlock 0,.code (.seq (qR Z3.r8 [8]) (.seq (qR Z3.r9 [4]) .ret))] [(2,.loc 2 0),(3,.loc 3 0),(5,.d (.map b)),(13,.d (ZE m.fields)),(14,.d (.int .i64 m.fields.length)),(15,.d (.int .i64 i))] [(2,m.cells),(3,s.cells)] (st.upd b (.map (Zaq (Zcu m i)))):=by
   intro n
   induction n using Nat.strongRecOn with
   | ind n ih_key =>
   intro i hn hi
   refine rg ?_
   refine Zi (Zv rfl trivial (fun h1=>?_) (fun h1=>?_))
   ·simp at h1
    have hsn:Zcu m (i + 1)=if KB (m.fields.getD i default) then W5 (m.fields.getD i default).name (W9 m (m.fields.getD i default)) (Zcu m i) else Zcu m i:=rfl
    generalize hf:m.fields.getD i default=f at *
    refine rx (nd2 @ZE.eq_1 (nd2 @slD.eq_1 (nd2 @hf @Fld.cells.eq_1))) ?_
    refine aa ?_
    rw [show [.str f.name,.int .i64 f.kind,.int .i64 f.bits,.bool f.little,.bool f.loose,.int .i64 f.low,.int .i64 f.high,.int .i64 f.size.base,WS f.size.terms,.str f.of,.str f.tag,.str f.from_,Qg f.cases,.int .i64 f.check,.int .i64 f.key]=f.cells from rfl]
    refine rx @Fld.cells.eq_1 ?_
    refine cl (Zew f) ?_
    refine cd (fun h2=>?_) (fun h2=>?_)
    ·rw [if_pos h2] at hsn
     have e2:=Zb4 (vD:=K7) YK f.name (W9 m f) (Zcu m i)
     have e3:=Qm YK f.name
     simp only [show Ju f.name=D.str f.name from rfl,show K7 (W9 m f) = .agg [.int .i64 (W9 m f).1,.int .i64 (W9 m f).2] from rfl] at e2 e3
     refine rx (nd2 @Fld.cells.eq_1 @Msg.cells.eq_1) ?_
     refine J9 rfl rfl rfl rfl rfl (by trivial) (by trivial) (by exact ZiX hm f h2) (Wb ?_)
     simp only [Eqs,reduceCtorEq,ZvG,reduceIte,ZvE,ZvH,ZvF,K7,e2,e3,ZvQ,ZvV,YP,YQ]
     refine rg ?_
     refine aa ?_
     rw [← hsn]
     refine ZG ?_
     exact ih_key ((m.fields.length) - (i + 1)) (by omega) (i + 1) rfl (by omega)
    ·rw [if_neg (by rw [h2]; simp)] at hsn
     refine rg ?_
     refine aa ?_
     rw [← hsn]
     refine ZG ?_
     exact ih_key ((m.fields.length) - (i + 1)) (by omega) (i + 1) rfl (by omega)
   ·simp at h1
    obtain rfl:i=m.fields.length:=by omega
    refine rx @WZ.cells.eq_1 ?_
    refine Z4 rfl rfl rfl rfl rfl (by trivial) (by trivial) (by exact ZeA s b (ZqH m) _ (ZvQ _ _ _)) ?_ ?_
    ·rintro d S ⟨hd,rfl⟩
     cases hd
     refine Zc ?_
     simp only [Eqs,reduceCtorEq,ZvG,reduceIte,ZvE,ZvH,ZvF,K7]
     refine rg ?_
     exact hret rfl (by trivial) (ZvM _) (hsub _)
    ·rintro d S ⟨hd,_⟩
     cases hd
  exact key _ 0 rfl (by omega)
 ·rintro d S ⟨b,hb,hd,_⟩
  cases hd
end Go.DL
namespace Go.DL
open Go Go.Proofs
def upS (v of:Int):Int:=((v + of) - 1).tdiv of * of
theorem Zvh {v of:Int} (hv:-2000≤v∧v≤2000) (ho:1≤of∧of≤1000):(-4000≤((v + of) - 1).tdiv of∧((v + of) - 1).tdiv of≤4000)∧-5000≤upS v of∧upS v of≤5000:=by
 unfold upS
 have h1:=Int.mul_tdiv_add_tmod (v + of - 1) of
 have h2:=Int.tmod_lt_of_pos (v + of - 1) (show 0 < of by omega)
 have h3:=Int.lt_tmod_of_pos (v + of - 1) (show 0 < of by omega)
 rw [Int.mul_comm] at h1
 generalize (v + of - 1).tmod of=r at *
 generalize (v + of - 1).tdiv of=q at *
 have h4:-4000≤q * of∧q * of≤4000:=by omega
 refine ⟨?_,by omega⟩
 rcases Int.lt_trichotomy q 0 with hq | hq | hq
 ·have:=Int.mul_le_mul_of_nonneg_left (show (1:Int)≤of by omega) (show 0≤-q by omega)
  simp only [Int.neg_mul,Int.mul_one] at this
  omega
 ·omega
 ·have:=Int.mul_le_mul_of_nonneg_left (show (1:Int)≤of by omega) (show 0≤q by omega)
  omega
theorem Zo3 {v of:Int} (hv:-2000≤v∧v≤2000) (ho:1≤of∧of≤1000):Z7 ZvJ Qx.id [.int .i64 v,.int .i64 of] (.int .i64 (upS v of)):=by
 have hb:=Zvh hv ho
 have he:((v + of) - 1).tdiv of * of=upS v of:=rfl
 refine YO Qx.ok fun F st hret=>?_
 refine rg ?_
 refine rg ?_
 generalize ((v + of) - 1).tdiv of=q at *
 rw [he]
 generalize upS v of=u at *
 refine aa ?_
 refine hret rfl (by first | trivial | simp) (JE ?_) (by first | exact ZvK _ | exact Yo (by first | trivial | assumption) | assumption | exact ZvS _ (by assumption))
 rfl
structure Zft (f:Fld):Prop where
 num:f.kind=1∨f.kind=2→-1000≤f.bits∧f.bits≤1000
 pad:f.kind=10→1≤f.bits∧f.bits≤1000
def Ze0 (f:Fld) (o:Int):Int:=if f.kind=1∨f.kind=2 then (o + f.bits).tmod 8 else if f.kind=10 then (upS o f.bits).tmod 8 else 0
def Q9 (l:List Fld):Nat→Int
 | 0=>0
 | i + 1=>Ze0 (l.getD i default) (Q9 l i)
theorem Zte (f:Fld) (o:Int):-8 < Ze0 f o∧Ze0 f o < 8:=by
 have h:∀ x:Int,-8 < x.tmod 8∧x.tmod 8 < 8:=fun x=>⟨Int.lt_tmod_of_pos x (by decide),Int.tmod_lt_of_pos x (by decide)⟩
 unfold Ze0
 split
 ·exact h _
 ·split
  ·exact h _
  ·omega
theorem ZpQ (l:List Fld) (i:Nat):-8 < Q9 l i∧Q9 l i < 8:=by
 cases i with
 | zero=>simp [Q9]
 | succ i=>exact Zte _ _
theorem Zjk (f:Fld) {o:Int} (ho:-2000≤o∧o≤2000) (hb:-1000≤f.bits∧f.bits≤1000):Z7 ZvJ YZ.id [.agg f.cells,.int .i64 o] (.int .i64 (o + f.bits)):=by
 refine YO YZ.ok fun F st hret=>?_
 refine rx @Fld.cells.eq_1 ?_
 refine rx @Fld.cells.eq_1 ?_
 refine aa ?_
 refine hret rfl (by first | trivial | simp) (JE ?_) (by first | exact ZvK _ | exact Yo (by first | trivial | assumption) | assumption | exact ZvS _ (by assumption))
 rfl
theorem Zjl (f:Fld) {o:Int} (ho:-2000≤o∧o≤2000) (hb:1≤f.bits∧f.bits≤1000):Z7 ZvJ Wl.id [.agg f.cells,.int .i64 o] (.int .i64 (upS o f.bits)):=by
 refine YO Wl.ok fun F st hret=>?_
 refine rx @Fld.cells.eq_1 ?_
 refine rx @Fld.cells.eq_1 ?_
 refine cl (Zo3 ho hb) ?_
 refine hret rfl (by first | trivial | simp) (JE ?_) (by first | exact ZvK _ | exact Yo (by first | trivial | assumption) | assumption | exact ZvS _ (by assumption))
 rfl
def Znv:List (D × D):=[(.int .i64 1,.fn (.func YZ.id) [] []),(.int .i64 2,.fn (.func YZ.id) [] []),(.int .i64 10,.fn (.func Wl.id) [] [])]
theorem Zfv (st:St):ZK ZvJ WU.id [] st fun r S=>∃ b,st b=none∧r = .ret (.map b)∧S=st.upd b (.map Znv):=by
 refine ZP WU.ok fun F hF=>?_
 refine rg ?_
 refine rg ?_
 refine Zi (Yr (Zc ?_))
 simp only [Eqs,reduceCtorEq,ZvG,reduceIte,ZvE,ZvH,ZvF,WU.r2,ZaC,Qt,Wg,ZvQ,ZvV,YP,YQ,decide_false,Int.reduceEq,ite_false]
 intro b hb
 exact hF.ret _ _ rfl (by trivial) (ZvM _) (ZvK _) ⟨b,hb,rfl,rfl⟩
def ZdI (k:Int):Bool:=decide (k=1) || (decide (k=2) || decide (k=10))
def ZdL (k:Int):D:=if k=1 then .fn (.func YZ.id) [] [] else if k=2 then .fn (.func YZ.id) [] [] else if k=10 then .fn (.func Wl.id) [] [] else .nilfn
theorem Zkx (k:Int):ZbG (.sc .int) (.int .i64 k) Znv=some (if ZdI k then some (ZdL k) else none):=by
 simp only [Znv,ZbG,Qt,Wg,if_true,ZdI,ZdL]
 by_cases h1:k=1
 ·simp [h1]
 ·by_cases h2:k=2
  ·simp [h2]
  ·by_cases h3:k=10
   ·simp [h3]
   ·simp [h1,h2,h3]
theorem Zmk (k:Int):KJ .nilfn true (if ZdI k=true then some (ZdL k) else none) = .tup [ZdL k,.bool (ZdI k)]:=by
 unfold ZdI ZdL
 by_cases h1:k=1
 ·simp [h1,KJ]
 ·by_cases h2:k=2
  ·simp [h2,KJ]
  ·by_cases h3:k=10
   ·simp [h3,KJ]
   ·simp [h1,h2,h3,KJ]
def Zhz (f:Fld):Bool:=!ZdI f.kind || f.little
theorem Zli (f:Fld) (st:St):YU ZvJ Kk.id [.agg f.cells] st (.bool (Zhz f)) st:=by
 refine YL Kk.ok fun hwf F hret=>?_
 clear hwf
 refine rx @Fld.cells.eq_1 ?_
 refine rx @Fld.cells.eq_1 ?_
 refine ZaM rfl rfl rfl rfl rfl (by trivial) (by trivial) (by exact Zfv _) ?_ ?_
 ·rintro d S ⟨b,hb,hd,rfl⟩
  cases hd
  refine ⟨by simp [Kl,QR,WP,ZaA],?_⟩
  have hfa:=Zkx f.kind
  refine Wb ?_
  simp only [Eqs,reduceCtorEq,ZvG,reduceIte,ZvE,ZvH,ZvF,hfa,ZvQ,Zmk]
  refine rx @Fld.cells.eq_1 ?_
  exact hret rfl (by trivial) (by unfold Zhz; cases ZdI f.kind <;> exact ZvM _) (ZvS _ hb)
 ·rintro d S ⟨b,hb,hd,_⟩
  cases hd
end Go.DL
namespace Go.DL
open Go Go.Proofs
def ZqK (l:List Fld) (j:Nat):List D:=[.int .i64 j,.int .i64 (Q9 l j)]
theorem Zde (l:List Fld) (hl:l.length≤1000) (hb:∀ f∈l,Zft f) (x:Nat):Zf1 ZvJ (.fn (.func Zw.id) [] [.ptr x 0]) (l.length + 1) (ZqK l) (St.single x (.cells [ZE l])):=by
 intro y go A a0 hcons hA hd
 refine ZK.V (first:=[]) (args:=[y]) (caps:=[.ptr x 0]) (ZP Zw.ok fun F hF=>?_)
 have hx:∀ a,Kr a (St.single x (.cells [ZE l]))→(a.or (St.single x (.cells [ZE l]))) x=some (.cells [ZE l]):=fun a hda=>by
  rw [YB (hda x _ (KD _ _)),KD]
 generalize hT:St.single x (.cells [ZE l])=T at *
 refine rg ?_
 refine Zi (Zi (Yr (Zc ?_)))
 simp only [Eqs,reduceCtorEq,ZvG,reduceIte,ZvE,ZvH,ZvF,Zw.r1,hx a0 hd,ZE,slD]
 refine ZF (Yh ?_)
 have key:∀ (n j:Nat),(l.length) - j=n→∀ a,A j a→Kr a T→(∀ i,i < j→go i = .next)→j≤l.length→ZD F [.code (Zw.l0),.inLoop Zw.l0,.inBlock 0,.code (qR Zw.r10 [])] [(0,.d y),(1,.d (.ptr x 0)),(3,.d (.int .i64 (Q9 l j))),(8,.d (ZE l)),(9,.d (.int .i64 l.length)),(10,.d (.int .i64 j))] [] (a.or T):=by
  intro n
  induction n using Nat.strongRecOn with
  | ind n ih_key =>
  clear hA hd
  intro j hn a hA hd hno hj
  refine rg ?_
  have hcall:=(hcons j (by omega) hno a hA).frame hd
  unfold ZqK at hcall
  have ho:=ZpQ l j
  refine Zi (Zv rfl trivial (fun h1=>?_) (fun h1=>?_))
  ·simp at h1
   have hbj:=hb (l.getD j default) (by simp [List.getD,h1])
   have hnx:Q9 l (j + 1)=Ze0 (l.getD j default) (Q9 l j):=rfl
   generalize hg:l.getD j default=g at *
   refine rx (nd2 @ZE.eq_1 (nd2 @slD.eq_1 (nd2 @hg @Fld.cells.eq_1))) ?_
   refine aa ?_
   refine rg ?_
   refine QF rfl rfl rfl rfl rfl (by trivial) (by trivial) (by exact hcall) ?_ ?_
   ·rintro d S ⟨s',⟨hr,hA'⟩,hd',rfl⟩
    cases hgo:go j with
    | next =>
     rw [hgo] at hr
     cases hr
     refine Zc ?_
     simp only [Eqs,reduceCtorEq,ZvG,reduceIte,ZvE,ZvH,ZvF]
     refine Zv rfl trivial (fun h=>by simp at h) (fun _=>?_)
     refine rx @Fld.cells.eq_1 ?_
     refine ZaM rfl rfl rfl rfl rfl (by trivial) (by trivial) (by exact Zfv _) ?_ ?_
     ·rintro d S ⟨b,hb2,hd2,rfl⟩
      cases hd2
      have hfa:=Zkx g.kind
      refine ⟨by simp [Kl,QR,WP,ZaA],?_⟩
      refine Wb ?_
      simp only [Eqs,reduceCtorEq,ZvG,reduceIte,ZvE,ZvH,ZvF,hfa,ZvQ,Zmk]
      refine rg ?_
      have h8:=ZpQ l (j + 1)
      refine cd (fun hk=>?_) (fun hk=>?_)
      ·by_cases h10:g.kind=10
       ·have hnf:ZdL g.kind = .fn (.func Wl.id) [] []:=by simp [ZdL,h10]
        have hoff:(upS (Q9 l j) g.bits).tmod 8=Q9 l (j + 1):=by rw [hnx,Ze0,if_neg (by omega),if_pos h10]
        rw [← hoff] at h8
        rw [hnf]
        refine rx @Fld.cells.eq_1 ?_
        refine ZbB rfl rfl rfl rfl rfl (by trivial) (by trivial) (by exact (Zjl g (by omega) (hbj.pad h10)).VT (first:=[]) (args:=[_,_]) (caps:=[]) _) (Zc ?_)
        simp only [Eqs,reduceCtorEq,ZvG,reduceIte,ZvE,ZvH,ZvF]
        refine aa ?_
        rw [hoff]
        refine rg ?_
        refine aa ?_
        refine JN (ZvS _ hb2) ?_
        refine ZG ?_
        exact ih_key ((l.length) - (j + 1)) (by omega) (j + 1) rfl s' hA' hd' (Kj (q:=fun i=>go i = .next) hno hgo) (by omega)
       ·have h12:g.kind=1∨g.kind=2:=by
         simp only [ZdI,ZvW,decide_eq_true_eq] at hk; omega
        have hnf:ZdL g.kind = .fn (.func YZ.id) [] []:=by rcases h12 with h | h <;> simp [ZdL,h]
        have hoff:(Q9 l j + g.bits).tmod 8=Q9 l (j + 1):=by rw [hnx,Ze0,if_pos h12]
        rw [← hoff] at h8
        rw [hnf]
        refine rx @Fld.cells.eq_1 ?_
        refine ZbB rfl rfl rfl rfl rfl (by trivial) (by trivial) (by exact (Zjk g (by omega) (hbj.num h12)).VT (first:=[]) (args:=[_,_]) (caps:=[]) _) (Zc ?_)
        simp only [Eqs,reduceCtorEq,ZvG,reduceIte,ZvE,ZvH,ZvF]
        refine aa ?_
        rw [hoff]
        refine rg ?_
        refine aa ?_
        refine JN (ZvS _ hb2) ?_
        refine ZG ?_
        exact ih_key ((l.length) - (j + 1)) (by omega) (j + 1) rfl s' hA' hd' (Kj (q:=fun i=>go i = .next) hno hgo) (by omega)
      ·have hoff:(0:Int)=Q9 l (j + 1):=by
        simp only [ZdI,Bool.or_eq_false_iff,decide_eq_false_iff_not] at hk
        rw [hnx,Ze0,if_neg (by omega),if_neg (by omega)]
       refine rg ?_
       refine rg ?_
       refine aa ?_
       rw [show (D.int IntKind.i64 0) = .int .i64 (Q9 l (j + 1)) by rw [← hoff]]
       refine JN (ZvS _ hb2) ?_
       refine ZG ?_
       exact ih_key ((l.length) - (j + 1)) (by omega) (j + 1) rfl s' hA' hd' (Kj (q:=fun i=>go i = .next) hno hgo) (by omega)
     ·rintro d S ⟨b,hb2,hd2,_⟩
      cases hd2
    | stop c =>
     rw [hgo] at hr
     cases hr
     refine Zc ?_
     simp only [Eqs,reduceCtorEq,ZvG,reduceIte,ZvE,ZvH,ZvF]
     refine Zv rfl trivial (fun _=>?_) (fun h=>by simp at h)
     exact hF.ret (.tup []) _ rfl trivial (ZvM _) (ZvK _) ⟨s',.stop j c (by omega) hno hgo hA',Za5 _ _⟩
    | pan d=>rw [hgo] at hr; cases hr
   ·rintro d S ⟨s',⟨hr,hA'⟩,hd',rfl⟩
    cases hgo:go j with
    | pan d' =>
     rw [hgo] at hr
     cases hr
     exact hF.pan _ (ZvK _) ⟨s',.pan j d (by omega) hno hgo hA',Za5 _ _⟩
    | next=>rw [hgo] at hr; cases hr
    | stop c=>rw [hgo] at hr; cases hr
  ·simp at h1
   obtain rfl:j=l.length:=by omega
   refine KO rfl (Yr (Zc ?_))
   simp only [Eqs,reduceCtorEq,ZvG,reduceIte,ZvE,ZvH,ZvF,Zw.r10,hx a hd,ZE,slD]
   refine QF rfl rfl rfl rfl rfl (by trivial) (by trivial) (by exact hcall) ?_ ?_
   ·rintro d S ⟨s',⟨hr,hA'⟩,hd',rfl⟩
    cases hgo:go l.length with
    | next =>
     rw [hgo] at hr
     cases hr
     refine Zc ?_
     simp only [Eqs,reduceCtorEq,ZvG,reduceIte,ZvE,ZvH,ZvF]
     exact hF.fin (.tup []) _ rfl trivial (ZvM _) (ZvK _) ⟨s',.all (Kj (q:=fun i=>go i = .next) hno hgo) hA',Za5 _ _⟩
    | stop c =>
     rw [hgo] at hr
     cases hr
     refine Zc ?_
     simp only [Eqs,reduceCtorEq,ZvG,reduceIte,ZvE,ZvH,ZvF]
     exact hF.fin (.tup []) _ rfl trivial (ZvM _) (ZvK _) ⟨s',.stop l.length c (by omega) hno hgo hA',Za5 _ _⟩
    | pan d=>rw [hgo] at hr; cases hr
   ·rintro d S ⟨s',⟨hr,hA'⟩,hd',rfl⟩
    cases hgo:go l.length with
    | pan d' =>
     rw [hgo] at hr
     cases hr
     exact hF.pan _ (ZvK _) ⟨s',.pan l.length d (by omega) hno hgo hA',Za5 _ _⟩
    | next=>rw [hgo] at hr; cases hr
    | stop c=>rw [hgo] at hr; cases hr
 exact key _ 0 rfl a0 hA hd (by intro i hi; omega) (by omega)
theorem Zd3 (l:List Fld) (st:St):ZK ZvJ W6.id [ZE l] st fun r S=>∃ x,st x=none∧r = .ret (.fn (.func Zw.id) [] [.ptr x 0])∧S=st.or (St.single x (.cells [ZE l])):=by
 refine ZP W6.ok fun F hF=>?_
 refine rx (nd2 @ZE.eq_1 @slD.eq_1) ?_
 refine Zi ?_
 refine ZX 1 rfl fun x hx=>?_
 simp only [Eqs,reduceCtorEq,ZvG,reduceIte,ZvE,ZvH,ZvF,Ya,Yq,delL]
 refine rg ?_
 exact hF.ret _ _ rfl (by trivial) (ZvM _) (ZvK _) ⟨x,hx,rfl,ZcE hx⟩
end Go.DL
