/- Lemmas: FCode3, DlZJ, DlZK, DlZL, DlZM, DlZN, DlZO, DlZP, DlZQ, DlZR, DlZS, DlZT, DlZU, Api, R04a, Lst, R04b, R04c, Iv, R04d, R04e, R04f, R05a, R05b, R05c, R05d, R05e, R05f, R05g, R05h, R05i, R05j, R05k, R43a, R43b, R43c, R43d, Own, R43e, R43f, DlTop, Top1, C43, S00, S01, S02, Maps, S03, S04, S05, S06, SLay, S07, S08, SLay2. -/
import Derived.Test.YtmnhlhenahlilaaGreatT02
set_option maxHeartbeats 16000000
set_option linter.all false
namespace Go.DL
open Go Go.Proofs
def WV.r0:List DOp:=[qm 2 0,qm 3 0,qk 4 .nilck 2,qa 5 4 4,⟨none,none,.store1 (.tmp 5) (.cst (.bool false))⟩,qk 6 .nilck 3,qa 7 6 6,⟨none,none,.store1 (.tmp 7) (.cst (.int .i64 0))⟩]
abbrev WV.id:Nat:=146
def WV.an:Ann:=[(0,[])]
def WV.body:DC:=qR WV.r0 []
def WV.df:DF:=⟨8,[],WV.body⟩
theorem WV.ok:cf Tryz.prog WV.an WV.id=some WV.df:=by kernel_rfl
def Wo.r0:=[qB 3 1]
def Wo.r1:List DOp:=[qm 4 0,qa 5 6 3,ql 6 5,⟨some 7,none,.bsl 1 1 [.int .i64 0] [0] [.tmp 6]⟩,qf 8 137 [.tmp 4,.cst (.int .i64 2),.cst (.int .i64 1048576),.tmp 7]]
abbrev Wo.id:Nat:=147
def Wo.an:Ann:=[(0,[0,3]),(1,[])]
def Wo.body:DC:=.seq (qR Wo.r0 [0,3]) (qR Wo.r1 [])
def Wo.df:DF:=⟨9,[],Wo.body⟩
theorem Wo.ok:cf Tryz.prog Wo.an Wo.id=some Wo.df:=by kernel_rfl
def WU.r0:List DOp:=[qm 2 0,qm 3 0,⟨some 4,none,.q (.build [.int .i64 0,.nilsl] []) []⟩,qk 5 .nilck 2,qa 6 9 5,⟨none,none,.store1 (.tmp 6) (.cst (.str []))⟩,qk 7 .nilck 3,qa 8 7 7,qS 2 8 4]
abbrev WU.id:Nat:=148
def WU.an:Ann:=[(0,[])]
def WU.body:DC:=qR WU.r0 []
def WU.df:DF:=⟨9,[],WU.body⟩
theorem WU.ok:cf Tryz.prog WU.an WU.id=some WU.df:=by kernel_rfl
def YZ.r0:=[qB 3 1]
def YZ.r1:=[qm 4 0,qa 5 9 3,ql 6 5,qf 7 150 [.tmp 4,.tmp 6]]
def YZ.r2:=[qm 8 0,qL 9 15 3,qf 10 143 [.tmp 8,.tmp 9]]
abbrev YZ.id:Nat:=149
def YZ.an:Ann:=[(0,[0,3]),(1,[0,3]),(2,[])]
def YZ.body:DC:=.seq (qR YZ.r0 [0,3]) (.seq (qR YZ.r1 [0,3]) (qR YZ.r2 []))
def YZ.df:DF:=⟨11,[],YZ.body⟩
theorem YZ.ok:cf Tryz.prog YZ.an YZ.id=some YZ.df:=by kernel_rfl
def YP.r0:List DOp:=[qm 7 0,qk 8 .nilck 7,qa 9 3 8,ql 10 9,qm 11 1,⟨some 12,none,.q (.lookup (.sc .str) (.int .i64 0) true) [.tmp 10,.tmp 11]⟩,qm 6 12,qx 13 0 6,qx 14 1 6,qm 4 13,qm 5 14]
def YP.r1:=[qm 15 0,qm 16 5,qf 17 56 [.tmp 15,.tmp 16,.cst (.int .i64 8)]]
abbrev YP.id:Nat:=150
def YP.an:Ann:=[(0,[0,5]),(1,[])]
def YP.body:DC:=.seq (qR YP.r0 [0,5]) (qR YP.r1 [])
def YP.df:DF:=⟨18,[],YP.body⟩
theorem YP.ok:cf Tryz.prog YP.an YP.id=some YP.df:=by kernel_rfl
def WR.r0:List DOp:=[qm 2 0,qk 3 .nilck 2,qa 4 9 3,⟨none,none,.store1 (.tmp 4) (.cst (.str []))⟩]
abbrev WR.id:Nat:=151
def WR.an:Ann:=[(0,[])]
def WR.body:DC:=qR WR.r0 []
def WR.df:DF:=⟨5,[],WR.body⟩
theorem WR.ok:cf Tryz.prog WR.an WR.id=some WR.df:=by kernel_rfl
def Wr.r0:=[qB 3 1]
def Wr.r1:=[qm 4 0,qa 5 9 3,ql 6 5,qf 7 150 [.tmp 4,.tmp 6]]
abbrev Wr.id:Nat:=152
def Wr.an:Ann:=[(0,[0,3]),(1,[])]
def Wr.body:DC:=.seq (qR Wr.r0 [0,3]) (qR Wr.r1 [])
def Wr.df:DF:=⟨8,[],Wr.body⟩
theorem Wr.ok:cf Tryz.prog Wr.an Wr.id=some Wr.df:=by kernel_rfl
def WW.r0:List DOp:=[qm 2 0,qm 3 0,qk 4 .nilck 2,qa 5 10 4,⟨none,none,.store1 (.tmp 5) (.cst (.str []))⟩,qk 6 .nilck 3,qa 7 12 6,⟨none,none,.store1 (.tmp 7) (.cst (.nilsl))⟩]
abbrev WW.id:Nat:=153
def WW.an:Ann:=[(0,[])]
def WW.body:DC:=qR WW.r0 []
def WW.df:DF:=⟨8,[],WW.body⟩
theorem WW.ok:cf Tryz.prog WW.an WW.id=some WW.df:=by kernel_rfl
def Zl.r0:=[qB 3 1]
def Zl.r1:List (DOp × Bool):=[(qm 11 0,false),(qa 14 10 3,false),(ql 15 14,false),(⟨some 4,none,.alloc [.int .i64 0,.int .i64 0]⟩,false),(qf 12 118 [.tmp 11],true),(qf 13 112 [.tmp 12],true),(⟨some 16,none,.q (.lookup (.sc .str) (.agg [.int .i64 0,.int .i64 0]) true) [.tmp 13,.tmp 15]⟩,false),(qm 10 16,false),(qx 17 0 10,false),(qx 18 1 10,false),(qS 2 4 17,false),(qm 5 18,false)]
def Zl.r2:List DOp:=[qm 19 0,qf 20 118 [.tmp 19],⟨some 21,none,.q (.mkfn (.func 176) 0) [.tmp 3]⟩,qf 22 175 [.tmp 20,.tmp 21],qm 6 22]
def Zl.r3:=[qm 23 0,qm 24 5,qm 25 24,qy 25 (qm 26 6),qy 25 (qk 27 .not 26),qO 28 25 27,qf 29 56 [.tmp 23,.tmp 28,.cst (.int .i64 8)]]
def Zl.r4:=[qm 30 0,qa 31 12 3,ql 32 31,qk 33 .lenL 32,qe 34 .geq 33 1,qm 35 34,qy 35 (qa 36 12 3),qy 35 (ql 37 36),qy 35 (qk 38 .lenL 37),qy 35 (qe 39 .leq 38 40),qO 40 35 39,qf 41 56 [.tmp 30,.tmp 40,.cst (.int .i64 3)]]
def Zl.r5:=[qa 42 0 4,ql 43 42,qm 7 43]
def Zl.r6:=[qa 44 12 3,ql 45 44,qk 46 .lenL 45,qi 47 0]
def Zl.r7:=[qd 48 .lss 47 46]
def Zl.r8:List DOp:=[qX 49 3 45 47,qL 50 3 49,⟨some 9,none,.alloc [.int .i64 0,.int .i64 0,.str []]⟩,qS 3 9 50]
def Zl.r9:List DOp:=[qm 51 0,qm 52 7,qa 53 1 4,ql 54 53,qa 55 0 9,ql 56 55,qa 57 1 9,ql 58 57,⟨some 59,none,.bsl 2 1 [.int .i64 0] [0,1] [.tmp 56,.tmp 58]⟩,qf 60 137 [.tmp 51,.tmp 52,.tmp 54,.tmp 59]]
def Zl.r10:=[qm 61 0,qa 62 2 9,ql 63 62,qf 64 150 [.tmp 61,.tmp 63]]
def Zl.r11:=[qa 65 1 9,ql 66 65,qe 67 .add 66 1,qm 7 67]
def Zl.r12:=[qe 68 .add 47 1,qm 47 68]
def Zl.l0:DC:=.seq (qR Zl.r7 [0,4,7,45,46,47,48]) (.seq (qC 48 .skip (.exit 0)) (.seq (.block 1 (.seq (qR Zl.r8 [0,4,7,9,45,46,47]) (.seq (qR Zl.r9 [0,4,9,45,46,47]) (.seq (qR Zl.r10 [0,4,9,45,46,47]) (qR Zl.r11 [0,4,7,45,46,47]))))) (qR Zl.r12 [0,4,7,45,46,47])))
abbrev Zl.id:Nat:=154
def Zl.an:Ann:=[(0,[0,3]),(1,[0,3,4,5]),(2,[0,3,4,5,6]),(3,[0,3,4]),(4,[0,3,4]),(5,[0,3,4,7]),(6,[0,4,7,45,46,47]),(7,[0,4,7,45,46,47,48]),(8,[0,4,7,9,45,46,47]),(9,[0,4,9,45,46,47]),(10,[0,4,9,45,46,47]),(11,[0,4,7,45,46,47]),(12,[0,4,7,45,46,47]),(1000001,[0,3,4,9,1,2,5,6,7,8,10,11]),(2000001,[1,2])]
def Zl.body:DC:=.seq (qR Zl.r0 [0,3]) (.seq (.regD [0,3,4,9,1,2,5,6,7,8,10,11] Zl.r1 (some [0,3,4,5])) (.seq (qR Zl.r2 [0,3,4,5,6]) (.seq (qR Zl.r3 [0,3,4]) (.seq (qR Zl.r4 [0,3,4]) (.seq (qR Zl.r5 [0,3,4,7]) (.seq (qR Zl.r6 [0,4,7,45,46,47]) (.block 0 (.loop Zl.l0))))))))
def Zl.df:DF:=⟨69,[],Zl.body⟩
theorem Zl.ok:cf Tryz.prog Zl.an Zl.id=some Zl.df:=by kernel_rfl
def WS.r0:List DOp:=[qm 2 0,qk 3 .nilck 2,qa 4 2 3,⟨none,none,.store1 (.tmp 4) (.cst (.int .i64 0))⟩]
abbrev WS.id:Nat:=155
def WS.an:Ann:=[(0,[])]
def WS.body:DC:=qR WS.r0 []
def WS.df:DF:=⟨5,[],WS.body⟩
theorem WS.ok:cf Tryz.prog WS.an WS.id=some WS.df:=by kernel_rfl
def Wp.r0:=[qB 3 1]
def Wp.r1:=[qm 4 0,qa 5 2 3,ql 6 5,qe 7 .eql 6 2,qm 8 7,qn 8 (qa 9 2 3),qn 8 (ql 10 9),qn 8 (qe 11 .eql 10 4),qo 12 8 11,qm 13 12,qn 13 (qa 14 2 3),qn 13 (ql 15 14),qn 13 (qe 16 .geq 15 8),qn 13 (qm 17 16),qy 17 (qa 18 2 3),qy 17 (ql 19 18),qy 17 (qe 20 .leq 19 512),qn 13 (qO 21 17 20),qn 13 (qm 22 21),qy 22 (qa 23 2 3),qy 22 (ql 24 23),qy 22 (qe 25 .rem 24 8),qy 22 (qe 26 .eql 25 0),qn 13 (qO 27 22 26),qo 28 13 27,qf 29 56 [.tmp 4,.tmp 28,.cst (.int .i64 6)]]
abbrev Wp.id:Nat:=156
def Wp.an:Ann:=[(0,[0,3]),(1,[])]
def Wp.body:DC:=.seq (qR Wp.r0 [0,3]) (qR Wp.r1 [])
def Wp.df:DF:=⟨30,[],Wp.body⟩
theorem Wp.ok:cf Tryz.prog Wp.an Wp.id=some Wp.df:=by kernel_rfl
def WT.r0:List DOp:=[qm 2 0,qm 3 0,qk 4 .nilck 2,qa 5 11 4,⟨none,none,.store1 (.tmp 5) (.cst (.str []))⟩,qk 6 .nilck 3,qa 7 13 6,⟨none,none,.store1 (.tmp 7) (.cst (.int .i64 0))⟩]
abbrev WT.id:Nat:=157
def WT.an:Ann:=[(0,[])]
def WT.body:DC:=qR WT.r0 []
def WT.df:DF:=⟨8,[],WT.body⟩
theorem WT.ok:cf Tryz.prog WT.an WT.id=some WT.df:=by kernel_rfl
def Yw.r0:=[qB 3 1]
def Yw.r1:List DOp:=[qm 6 0,qa 7 13 3,ql 8 7,⟨some 9,none,.bsl 1 1 [.int .i64 0] [0] [.tmp 8]⟩,qf 10 137 [.tmp 6,.cst (.int .i64 1),.cst (.int .i64 3),.tmp 9]]
def Yw.r2:List (DOp × Bool):=[(qm 12 0,false),(qa 15 11 3,false),(ql 16 15,false),(qf 13 118 [.tmp 12],true),(⟨some 14,none,.q (.build [.str [],.nilsl] [(1,1)]) [.tmp 13]⟩,false),(qf 17 117 [.tmp 14,.tmp 16],false),(qm 11 17,false),(qx 18 0 11,false),(qx 19 1 11,false),(qm 4 18,false),(qm 5 19,false)]
def Yw.r3:=[qm 20 0,qm 21 5,qf 22 56 [.tmp 20,.tmp 21,.cst (.int .i64 8)]]
abbrev Yw.id:Nat:=158
def Yw.an:Ann:=[(0,[0,3]),(1,[0,3]),(2,[0,5]),(3,[]),(1000002,[0,3,4,1,2,5,6,7,8,9,10]),(2000002,[1])]
def Yw.body:DC:=.seq (qR Yw.r0 [0,3]) (.seq (qR Yw.r1 [0,3]) (.seq (.regD [0,3,4,1,2,5,6,7,8,9,10] Yw.r2 (some [0,5])) (qR Yw.r3 [])))
def Yw.df:DF:=⟨23,[],Yw.body⟩
theorem Yw.ok:cf Tryz.prog Yw.an Yw.id=some Yw.df:=by kernel_rfl
def WX.r0:List DOp:=[qm 2 0,qm 3 0,qm 4 0,⟨some 5,none,.q (.build [.int .i64 0,.nilsl] []) []⟩,qk 6 .nilck 2,qa 7 9 6,⟨none,none,.store1 (.tmp 7) (.cst (.str []))⟩,qk 8 .nilck 3,qa 9 7 8,qS 2 9 5,qk 10 .nilck 4,qa 11 14 10,⟨none,none,.store1 (.tmp 11) (.cst (.int .i64 0))⟩]
abbrev WX.id:Nat:=159
def WX.an:Ann:=[(0,[])]
def WX.body:DC:=qR WX.r0 []
def WX.df:DF:=⟨12,[],WX.body⟩
theorem WX.ok:cf Tryz.prog WX.an WX.id=some WX.df:=by kernel_rfl
def Yx.r0:=[qB 3 1]
def Yx.r1:List DOp:=[qm 4 0,qa 5 14 3,ql 6 5,⟨some 7,none,.bsl 1 1 [.int .i64 0] [0] [.tmp 6]⟩,qf 8 137 [.tmp 4,.cst (.int .i64 0),.cst (.int .i64 4294967295),.tmp 7]]
def Yx.r2:List DOp:=[qm 9 0,qm 10 0,qk 11 .nilck 10,qa 12 4 11,ql 13 12,qa 14 9 3,ql 15 14,⟨some 16,none,.q (.lookup (.sc .str) (.bool false) false) [.tmp 13,.tmp 15]⟩,qf 17 56 [.tmp 9,.tmp 16,.cst (.int .i64 8)]]
def Yx.r3:=[qm 18 0,qL 19 15 3,qf 20 143 [.tmp 18,.tmp 19]]
abbrev Yx.id:Nat:=160
def Yx.an:Ann:=[(0,[0,3]),(1,[0,3]),(2,[0,3]),(3,[]),(1000002,[0,1,2,3,4,5,6,7,8])]
def Yx.body:DC:=.seq (qR Yx.r0 [0,3]) (.seq (qR Yx.r1 [0,3]) (.seq (.regD [0,1,2,3,4,5,6,7,8] (ZaB Yx.r2) (some [0,3])) (qR Yx.r3 [])))
def Yx.df:DF:=⟨21,[],Yx.body⟩
theorem Yx.ok:cf Tryz.prog Yx.an Yx.id=some Yx.df:=by kernel_rfl
def Kd.r0:List DOp:=[qB 1 0,⟨some 2,none,.alloc [.str [],.str [],.str [],.str [],.int .i64 0,.int .i64 0,.int .i64 0,.int .i64 0,.int .i64 0,.int .i64 0,.int .i64 0,.bool false,.bool false]⟩]
def Kd.r1:List DOp:=[qa 3 0 1,ql 4 3,qa 5 9 1,ql 6 5,qa 7 10 1,ql 8 7,qa 9 11 1,ql 10 9,qa 11 1 1,ql 12 11,qa 13 2 1,ql 14 13,qa 15 5 1,ql 16 15,qa 17 6 1,ql 18 17,qa 19 7 1,qa 20 0 19,ql 21 20,qa 22 13 1,ql 23 22,qa 24 14 1,ql 25 24,qa 26 3 1,ql 27 26,qa 28 4 1,ql 29 28,⟨some 30,none,.q (.build [.str [],.str [],.str [],.str [],.int .i64 0,.int .i64 0,.int .i64 0,.int .i64 0,.int .i64 0,.int .i64 0,.int .i64 0,.bool false,.bool false] [(0,1),(1,1),(2,1),(3,1),(4,1),(5,1),(6,1),(7,1),(8,1),(9,1),(10,1),(11,1),(12,1)]) [.tmp 4,.tmp 6,.tmp 8,.tmp 10,.tmp 12,.tmp 14,.tmp 16,.tmp 18,.tmp 21,.tmp 23,.tmp 25,.tmp 27,.tmp 29]⟩,qS 13 2 30]
abbrev Kd.id:Nat:=161
def Kd.an:Ann:=[(0,[1,2]),(1,[2])]
def Kd.body:DC:=.seq (qR Kd.r0 [1,2]) (.seq (qR Kd.r1 [2]) .ret)
def Kd.df:DF:=⟨31,[.cellN 2 13],Kd.body⟩
theorem Kd.ok:cf Tryz.prog Kd.an Kd.id=some Kd.df:=by kernel_rfl
def Zz.r0:=[qb 4 false]
def Zz.r1:=[qm 6 0,qk 7 .lenL 6,qm 8 1,qk 9 .lenL 8,qd 10 .neq 7 9]
def Zz.r2:=[qb 4 false]
def Zz.r3:=[qm 11 0,qk 12 .lenL 11,qi 13 0]
def Zz.r4:=[qd 14 .lss 13 12]
def Zz.r5:=[qm 15 13,qm 5 15]
def Zz.r6:List DOp:=[qm 16 0,qm 17 5,qX 18 3 16 17,qL 19 3 18,qm 20 1,qm 21 5,qX 22 3 20 21,qL 23 3 22,⟨some 24,none,.q (.bin .neq (some (.cells [(0,.int),(1,.int),(2,.str)]))) [.tmp 19,.tmp 23]⟩]
def Zz.r7:=[qb 4 false]
def Zz.r8:=[qe 25 .add 13 1,qm 13 25]
def Zz.l0:DC:=.seq (qR Zz.r4 [0,1,12,13,14]) (.seq (qC 14 .skip (.exit 0)) (.seq (.block 1 (.seq (qR Zz.r5 [0,1,5,12,13]) (.seq (.regD [0,1,2,3,4,5,6,7,8] (ZaB Zz.r6) (some [0,1,12,13,24])) (qC 24 (.seq (qR Zz.r7 [4]) .ret) .skip)))) (qR Zz.r8 [0,1,12,13])))
def Zz.r9:=[qb 4 true]
abbrev Zz.id:Nat:=162
def Zz.an:Ann:=[(0,[0,1]),(1,[0,1,10]),(2,[4]),(3,[0,1,12,13]),(4,[0,1,12,13,14]),(5,[0,1,5,12,13]),(6,[0,1,12,13,24]),(7,[4]),(8,[0,1,12,13]),(9,[4]),(1000006,[0,1,2,3,4,5,6,7,8])]
def Zz.body:DC:=.seq (qR Zz.r0 [0,1]) (.seq (.seq (qR Zz.r1 [0,1,10]) (qC 10 (.seq (qR Zz.r2 [4]) .ret) .skip)) (.seq (.seq (qR Zz.r3 [0,1,12,13]) (.block 0 (.loop Zz.l0))) (.seq (qR Zz.r9 [4]) .ret)))
def Zz.df:DF:=⟨26,[.tmp 4],Zz.body⟩
theorem Zz.ok:cf Tryz.prog Zz.an Zz.id=some Zz.df:=by kernel_rfl
def ZB.r0:=[qi 4 0]
def ZB.r1:=[qm 6 0,qk 7 .lenL 6,qi 8 0]
def ZB.r2:=[qd 9 .lss 8 7]
def ZB.r3:=[qm 10 8,qm 5 10]
def ZB.r4:=[qm 11 1,qm 12 0,qm 13 5,qX 14 1 12 13,ql 15 14,qd 16 .eql 11 15]
def ZB.r5:=[qm 17 5,qm 4 17]
def ZB.r6:=[qe 18 .add 8 1,qm 8 18]
def ZB.l0:DC:=.seq (qR ZB.r2 [0,1,7,8,9]) (.seq (qC 9 .skip (.exit 0)) (.seq (.block 1 (.seq (qR ZB.r3 [0,1,5,7,8]) (.seq (qR ZB.r4 [0,1,5,7,8,16]) (qC 16 (.seq (qR ZB.r5 [4]) .ret) .skip)))) (qR ZB.r6 [0,1,7,8])))
def ZB.r7:=[qi 4 (-1)]
abbrev ZB.id:Nat:=163
def ZB.an:Ann:=[(0,[0,1]),(1,[0,1,7,8]),(2,[0,1,7,8,9]),(3,[0,1,5,7,8]),(4,[0,1,5,7,8,16]),(5,[4]),(6,[0,1,7,8]),(7,[4])]
def ZB.body:DC:=.seq (qR ZB.r0 [0,1]) (.seq (.seq (qR ZB.r1 [0,1,7,8]) (.block 0 (.loop ZB.l0))) (.seq (qR ZB.r7 [4]) .ret))
def ZB.df:DF:=⟨19,[.tmp 4],ZB.body⟩
theorem ZB.ok:cf Tryz.prog ZB.an ZB.id=some ZB.df:=by kernel_rfl
def Zf.r0:List DOp:=[⟨some 2,none,.q .mv [.cst (.nilsl)]⟩]
def Zf.r1:=[qi 3 0]
def Zf.r2:=[qm 9 0,qk 10 .lenL 9,qi 11 0]
def Zf.r3:=[qd 12 .lss 11 10]
def Zf.r4:=[qX 13 1 9 11,ql 14 13,qm 5 14]
def Zf.r5:=[qm 15 3,qm 16 5,qk 17 .lenL 16,qd 18 .add 15 17,qm 3 18]
def Zf.r6:=[qm 19 3,qe 20 .lss 19 0]
def Zf.r7:List DOp:=[⟨some 21,none,.q (.mkif 9) [.cst (.str [108,101,110,32,111,117,116,32,111,102,32,114,97,110,103,101])]⟩,⟨none,none,.panic (.tmp 21)⟩]
def Zf.r8:=[qe 22 .add 11 1,qm 11 22]
def Zf.l0:DC:=.seq (qR Zf.r3 [0,3,9,10,11,12]) (.seq (qC 12 .skip (.exit 0)) (.seq (.block 1 (.seq (qR Zf.r4 [0,3,5,9,10,11]) (.seq (qR Zf.r5 [0,3,9,10,11]) (.seq (qR Zf.r6 [0,3,9,10,11,20]) (qC 20 (qR Zf.r7 [0,3,9,10,11]) .skip))))) (qR Zf.r8 [0,3,9,10,11])))
def Zf.r9:=[qm 23 3,qf 24 177 [.cst (.nilsl),.tmp 23],qm 6 24]
def Zf.r10:=[qm 25 0,qk 26 .lenL 25,qi 27 0]
def Zf.r11:=[qd 28 .lss 27 26]
def Zf.r12:=[qX 29 1 25 27,ql 30 29,qm 8 30]
def Zf.r13:List DOp:=[qm 31 6,qm 32 8,⟨some 33,none,.append 85 2 24 [.str [],.int .i64 0] (.tmp 31) (.tmp 32)⟩,qm 6 33]
def Zf.r14:=[qe 34 .add 27 1,qm 27 34]
def Zf.l1:DC:=.seq (qR Zf.r11 [6,25,26,27,28]) (.seq (qC 28 .skip (.exit 2)) (.seq (.block 3 (.seq (qR Zf.r12 [6,8,25,26,27]) (qR Zf.r13 [6,25,26,27]))) (qR Zf.r14 [6,25,26,27])))
def Zf.r15:=[qm 35 6,qm 2 35]
abbrev Zf.id:Nat:=164
def Zf.an:Ann:=[(0,[0]),(1,[0,3]),(2,[0,3,9,10,11]),(3,[0,3,9,10,11,12]),(4,[0,3,5,9,10,11]),(5,[0,3,9,10,11]),(6,[0,3,9,10,11,20]),(7,[0,3,9,10,11]),(8,[0,3,9,10,11]),(9,[0,6]),(10,[6,25,26,27]),(11,[6,25,26,27,28]),(12,[6,8,25,26,27]),(13,[6,25,26,27]),(14,[6,25,26,27]),(15,[2])]
def Zf.body:DC:=.seq (qR Zf.r0 [0]) (.seq (qR Zf.r1 [0,3]) (.seq (.seq (qR Zf.r2 [0,3,9,10,11]) (.block 0 (.loop Zf.l0))) (.seq (qR Zf.r9 [0,6]) (.seq (.seq (qR Zf.r10 [6,25,26,27]) (.block 2 (.loop Zf.l1))) (.seq (qR Zf.r15 [2]) .ret)))))
def Zf.df:DF:=⟨36,[.tmp 2],Zf.body⟩
theorem Zf.ok:cf Tryz.prog Zf.an Zf.id=some Zf.df:=by kernel_rfl
def Yj.r0:List DOp:=[⟨some 2,none,.q .mv [.cst (.nilsl)]⟩]
def Yj.r1:=[qm 5 0,qf 6 179 [.tmp 5],qf 7 178 [.tmp 6],qk 8 .lenL 7,qi 9 0]
def Yj.r2:=[qd 10 .lss 9 8]
def Yj.r3:=[qX 11 1 7 9,ql 12 11,qm 4 12]
def Yj.r4:List DOp:=[qm 13 2,qm 14 4,qm 15 0,qm 16 4,⟨some 17,none,.q (.lookup (.sc .str) (.int .i64 0) false) [.tmp 15,.tmp 16]⟩,⟨some 18,none,.q (.build [.str [],.int .i64 0] [(0,1),(1,1)]) [.tmp 14,.tmp 17]⟩,⟨some 19,none,.bsl 1 2 [.str [],.int .i64 0] [0] [.tmp 18]⟩,⟨some 20,none,.append 85 2 24 [.str [],.int .i64 0] (.tmp 13) (.tmp 19)⟩,qm 2 20]
def Yj.r5:=[qe 21 .add 9 1,qm 9 21]
def Yj.l0:DC:=.seq (qR Yj.r2 [0,2,7,8,9,10]) (.seq (qC 10 .skip (.exit 0)) (.seq (.block 1 (.seq (qR Yj.r3 [0,2,4,7,8,9]) (qR Yj.r4 [0,2,7,8,9]))) (qR Yj.r5 [0,2,7,8,9])))
def Yj.r6:=[qm 22 2,qm 2 22]
abbrev Yj.id:Nat:=165
def Yj.an:Ann:=[(0,[0,2]),(1,[0,2,7,8,9]),(2,[0,2,7,8,9,10]),(3,[0,2,4,7,8,9]),(4,[0,2,7,8,9]),(5,[0,2,7,8,9]),(6,[2])]
def Yj.body:DC:=.seq (qR Yj.r0 [0,2]) (.seq (.seq (qR Yj.r1 [0,2,7,8,9]) (.block 0 (.loop Yj.l0))) (.seq (qR Yj.r6 [2]) .ret))
def Yj.df:DF:=⟨23,[.tmp 2],Yj.body⟩
theorem Yj.ok:cf Tryz.prog Yj.an Yj.id=some Yj.df:=by kernel_rfl
def KL.r0:=[qb 2 false]
def KL.r1:List DOp:=[qm 3 0,⟨some 4,none,.q (.bin .geq (none)) [.tmp 3,.cst (.int .i64 (-1048576))]⟩,qm 5 4,qy 5 (qm 6 0),qy 5 (qe 7 .leq 6 1048576),qO 8 5 7,qm 2 8]
abbrev KL.id:Nat:=166
def KL.an:Ann:=[(0,[0]),(1,[2])]
def KL.body:DC:=.seq (qR KL.r0 [0]) (.seq (qR KL.r1 [2]) .ret)
def KL.df:DF:=⟨9,[.tmp 2],KL.body⟩
theorem KL.ok:cf Tryz.prog KL.an KL.id=some KL.df:=by kernel_rfl
def ZW.r0:=[qb 4 false]
def ZW.r1:=[qm 5 0,qm 6 1,qf 7 180 [.tmp 5,.tmp 6],qe 8 .geq 7 0,qm 4 8]
abbrev ZW.id:Nat:=167
def ZW.an:Ann:=[(0,[0,1]),(1,[4])]
def ZW.body:DC:=.seq (qR ZW.r0 [0,1]) (.seq (qR ZW.r1 [4]) .ret)
def ZW.df:DF:=⟨9,[.tmp 4],ZW.body⟩
theorem ZW.ok:cf Tryz.prog ZW.an ZW.id=some ZW.df:=by kernel_rfl
def KC.r0:=[qB 1 0,qb 2 false]
def KC.r1:=[qa 3 1 1,ql 4 3,qf 5 166 [.tmp 4],qk 6 .not 5,qm 2 6]
abbrev KC.id:Nat:=168
def KC.an:Ann:=[(0,[1]),(1,[2])]
def KC.body:DC:=.seq (qR KC.r0 [1]) (.seq (qR KC.r1 [2]) .ret)
def KC.df:DF:=⟨7,[.tmp 2],KC.body⟩
theorem KC.ok:cf Tryz.prog KC.an KC.id=some KC.df:=by kernel_rfl
def Zv.r0:=[qi 4 0]
def Zv.r1:=[qm 6 0,qk 7 .lenL 6,qi 8 0]
def Zv.r2:=[qd 9 .lss 8 7]
def Zv.r3:=[qm 10 8,qm 5 10]
def Zv.r4:List DOp:=[qm 11 1,qm 12 0,qm 13 5,qX 14 3 12 13,qL 15 3 14,⟨some 16,none,.call (.tmp 11) [.tmp 15]⟩]
def Zv.r5:=[qm 17 5,qm 4 17]
def Zv.r6:=[qe 18 .add 8 1,qm 8 18]
def Zv.l0:DC:=.seq (qR Zv.r2 [0,1,7,8,9]) (.seq (qC 9 .skip (.exit 0)) (.seq (.block 1 (.seq (qR Zv.r3 [0,1,5,7,8]) (.seq (qR Zv.r4 [0,1,5,7,8,16]) (qC 16 (.seq (qR Zv.r5 [4]) .ret) .skip)))) (qR Zv.r6 [0,1,7,8])))
def Zv.r7:=[qi 4 (-1)]
abbrev Zv.id:Nat:=169
def Zv.an:Ann:=[(0,[0,1]),(1,[0,1,7,8]),(2,[0,1,7,8,9]),(3,[0,1,5,7,8]),(4,[0,1,5,7,8,16]),(5,[4]),(6,[0,1,7,8]),(7,[4])]
def Zv.body:DC:=.seq (qR Zv.r0 [0,1]) (.seq (.seq (qR Zv.r1 [0,1,7,8]) (.block 0 (.loop Zv.l0))) (.seq (qR Zv.r7 [4]) .ret))
def Zv.df:DF:=⟨19,[.tmp 4],Zv.body⟩
theorem Zv.ok:cf Tryz.prog Zv.an Zv.id=some Zv.df:=by kernel_rfl
def Y8.r0:=[qB 2 0,qb 3 false]
def Y8.r1:List DOp:=[ql 5 1,qa 6 0 2,ql 7 6,⟨some 8,none,.q (.lookup (.sc .str) (.bool false) false) [.tmp 5,.tmp 7]⟩,qm 4 8]
def Y8.r2:List DOp:=[ql 9 1,qa 10 0 2,ql 11 10,⟨none,none,.mapupd (.sc .str) (.tmp 9) (.tmp 11) (.cst (.bool true))⟩]
def Y8.r3:=[(qm 12 4,false),(qm 13 12,false),(qn 13 (qa 14 0 2),false),(qn 13 (ql 15 14),false),(qn 13 (qa 17 1 2),false),(qn 13 (ql 18 17),false),(qn 13 (qe 19 .neq 18 0),false),(qn 13 (qa 20 1 2),false),(qn 13 (ql 21 20),false),(qn 13 (qf 16 57 [.tmp 15]),true),(qn 13 (qf 22 166 [.tmp 21]),true),(qn 13 ⟨some 23,none,.bsl 3 1 [.bool false] [0,1,2] [.tmp 16,.tmp 19,.tmp 22]⟩,false),(qn 13 (qf 24 96 [.tmp 23]),false),(qn 13 (qk 25 .not 24),false),(qo 26 13 25,false),(qm 3 26,false)]
abbrev Y8.id:Nat:=170
def Y8.an:Ann:=[(0,[1,2]),(1,[1,2,4]),(2,[2,4]),(3,[3]),(1000003,[0,1,2,3,5,6,7,8,9,4,10,11,12,13,14,15]),(2000003,[4,10])]
def Y8.body:DC:=.seq (qR Y8.r0 [1,2]) (.seq (qR Y8.r1 [1,2,4]) (.seq (qR Y8.r2 [2,4]) (.seq (.regD [0,1,2,3,5,6,7,8,9,4,10,11,12,13,14,15] Y8.r3 (some [3])) .ret)))
def Y8.df:DF:=⟨27,[.tmp 3],Y8.body⟩
theorem Y8.ok:cf Tryz.prog Y8.an Y8.id=some Y8.df:=by kernel_rfl
def Z4.r0:List DOp:=[⟨some 2,none,.q .mv [.cst (.nilsl)]⟩]
def Z4.r1:List DOp:=[qm 3 0,⟨some 4,none,.q (.bin .eql (some .sl)) [.tmp 3,.cst (.nilsl)]⟩]
def Z4.r2:List DOp:=[⟨some 2,none,.q .mv [.cst (.nilsl)]⟩]
def Z4.r3:List DOp:=[⟨some 5,none,.bsl 0 2 [.str [],.int .i64 0] [] []⟩,qm 6 0,⟨some 7,none,.append 85 2 24 [.str [],.int .i64 0] (.tmp 5) (.tmp 6)⟩,qm 2 7]
abbrev Z4.id:Nat:=171
def Z4.an:Ann:=[(0,[0]),(1,[0,4]),(2,[2]),(3,[2])]
def Z4.body:DC:=.seq (qR Z4.r0 [0]) (.seq (.seq (qR Z4.r1 [0,4]) (qC 4 (.seq (qR Z4.r2 [2]) .ret) .skip)) (.seq (qR Z4.r3 [2]) .ret))
def Z4.df:DF:=⟨8,[.tmp 2],Z4.body⟩
theorem Z4.ok:cf Tryz.prog Z4.an Z4.id=some Z4.df:=by kernel_rfl
def Yt.r0:=[ql 5 1,qk 6 .lenL 5,qi 7 0]
def Yt.r1:=[qd 8 .lss 7 6]
def Yt.r2:List DOp:=[qX 9 2 5 7,qL 10 2 9,⟨some 4,none,.alloc [.str [],.int .i64 0]⟩,qS 2 4 10]
def Yt.r3:List DOp:=[qm 11 0,qa 12 0 4,ql 13 12,⟨some 14,none,.call (.tmp 11) [.tmp 13]⟩,qk 15 .not 14]
def Yt.r4:=[qe 16 .add 7 1,qm 7 16]
def Yt.l0:DC:=.seq (qR Yt.r1 [0,5,6,7,8]) (.seq (qC 8 .skip (.exit 0)) (.seq (.block 1 (.seq (qR Yt.r2 [0,4,5,6,7]) (.seq (qR Yt.r3 [0,5,6,7,15]) (qC 15 .ret .skip)))) (qR Yt.r4 [0,5,6,7])))
abbrev Yt.id:Nat:=172
def Yt.an:Ann:=[(0,[0,5,6,7]),(1,[0,5,6,7,8]),(2,[0,4,5,6,7]),(3,[0,5,6,7,15]),(4,[0,5,6,7])]
def Yt.body:DC:=.seq (qR Yt.r0 [0,5,6,7]) (.block 0 (.loop Yt.l0))
def Yt.df:DF:=⟨17,[],Yt.body⟩
theorem Yt.ok:cf Tryz.prog Yt.an Yt.id=some Yt.df:=by kernel_rfl
def WZ.r0:=[qB 1 0,qb 2 false]
def WZ.r1:=[qa 3 1 1,ql 4 3,qe 5 .eql 4 1,qm 6 5,qn 6 (qa 7 1 1),qn 6 (ql 8 7),qn 6 (qe 9 .eql 8 2),qo 10 6 9,qm 11 10,qn 11 (qa 12 1 1),qn 11 (ql 13 12),qn 11 (qe 14 .eql 13 3),qo 15 11 14,qm 2 15]
abbrev WZ.id:Nat:=173
def WZ.an:Ann:=[(0,[1]),(1,[2])]
def WZ.body:DC:=.seq (qR WZ.r0 [1]) (.seq (qR WZ.r1 [2]) .ret)
def WZ.df:DF:=⟨16,[.tmp 2],WZ.body⟩
theorem WZ.ok:cf Tryz.prog WZ.an WZ.id=some WZ.df:=by kernel_rfl
def Zt.r0:=[qi 4 0]
def Zt.r1:=[qm 6 0,qk 7 .lenL 6,qi 8 0]
def Zt.r2:=[qd 9 .lss 8 7]
def Zt.r3:=[qm 10 8,qm 5 10]
def Zt.r4:List DOp:=[qm 11 1,qm 12 0,qm 13 5,qX 14 15 12 13,qL 15 15 14,⟨some 16,none,.call (.tmp 11) [.tmp 15]⟩]
def Zt.r5:=[qm 17 5,qm 4 17]
def Zt.r6:=[qe 18 .add 8 1,qm 8 18]
def Zt.l0:DC:=.seq (qR Zt.r2 [0,1,7,8,9]) (.seq (qC 9 .skip (.exit 0)) (.seq (.block 1 (.seq (qR Zt.r3 [0,1,5,7,8]) (.seq (qR Zt.r4 [0,1,5,7,8,16]) (qC 16 (.seq (qR Zt.r5 [4]) .ret) .skip)))) (qR Zt.r6 [0,1,7,8])))
def Zt.r7:=[qi 4 (-1)]
abbrev Zt.id:Nat:=174
def Zt.an:Ann:=[(0,[0,1]),(1,[0,1,7,8]),(2,[0,1,7,8,9]),(3,[0,1,5,7,8]),(4,[0,1,5,7,8,16]),(5,[4]),(6,[0,1,7,8]),(7,[4])]
def Zt.body:DC:=.seq (qR Zt.r0 [0,1]) (.seq (.seq (qR Zt.r1 [0,1,7,8]) (.block 0 (.loop Zt.l0))) (.seq (qR Zt.r7 [4]) .ret))
def Zt.df:DF:=⟨19,[.tmp 4],Zt.body⟩
theorem Zt.ok:cf Tryz.prog Zt.an Zt.id=some Zt.df:=by kernel_rfl
def Ye.r0:=[qb 4 false]
def Ye.r1:=[qm 5 0,qm 6 1,qf 7 174 [.tmp 5,.tmp 6],qe 8 .geq 7 0,qm 4 8]
abbrev Ye.id:Nat:=175
def Ye.an:Ann:=[(0,[0,1]),(1,[4])]
def Ye.body:DC:=.seq (qR Ye.r0 [0,1]) (.seq (qR Ye.r1 [4]) .ret)
def Ye.df:DF:=⟨9,[.tmp 4],Ye.body⟩
theorem Ye.ok:cf Tryz.prog Ye.an Ye.id=some Ye.df:=by kernel_rfl
def Ym.r0:=[qB 2 0,qb 3 false]
def Ym.r1:=[qa 4 1 2,ql 5 4,qe 6 .eql 5 9,qm 7 6,qy 7 (qa 8 10 2),qy 7 (ql 9 8),qy 7 (qa 10 10 1),qy 7 (ql 11 10),qy 7 (qd 12 .eql 9 11),qO 13 7 12,qm 3 13]
abbrev Ym.id:Nat:=176
def Ym.an:Ann:=[(0,[1,2]),(1,[3])]
def Ym.body:DC:=.seq (qR Ym.r0 [1,2]) (.seq (qR Ym.r1 [3]) .ret)
def Ym.df:DF:=⟨14,[.tmp 3],Ym.body⟩
theorem Ym.ok:cf Tryz.prog Ym.an Ym.id=some Ym.df:=by kernel_rfl
def Zk.r0:=[qi 4 0]
def Zk.r1:=[qm 6 0,qk 7 .lenL 6,qi 8 0]
def Zk.r2:=[qd 9 .lss 8 7]
def Zk.r3:=[qm 10 8,qm 5 10]
def Zk.r4:List DOp:=[qm 11 1,qm 12 0,qm 13 5,qX 14 2 12 13,qL 15 2 14,⟨some 16,none,.call (.tmp 11) [.tmp 15]⟩]
def Zk.r5:=[qm 17 5,qm 4 17]
def Zk.r6:=[qe 18 .add 8 1,qm 8 18]
def Zk.l0:DC:=.seq (qR Zk.r2 [0,1,7,8,9]) (.seq (qC 9 .skip (.exit 0)) (.seq (.block 1 (.seq (qR Zk.r3 [0,1,5,7,8]) (.seq (qR Zk.r4 [0,1,5,7,8,16]) (qC 16 (.seq (qR Zk.r5 [4]) .ret) .skip)))) (qR Zk.r6 [0,1,7,8])))
def Zk.r7:=[qi 4 (-1)]
abbrev Zk.id:Nat:=180
def Zk.an:Ann:=[(0,[0,1]),(1,[0,1,7,8]),(2,[0,1,7,8,9]),(3,[0,1,5,7,8]),(4,[0,1,5,7,8,16]),(5,[4]),(6,[0,1,7,8]),(7,[4])]
def Zk.body:DC:=.seq (qR Zk.r0 [0,1]) (.seq (.seq (qR Zk.r1 [0,1,7,8]) (.block 0 (.loop Zk.l0))) (.seq (qR Zk.r7 [4]) .ret))
def Zk.df:DF:=⟨19,[.tmp 4],Zk.body⟩
theorem Zk.ok:cf Tryz.prog Zk.an Zk.id=some Zk.df:=by kernel_rfl
end Go.DL
namespace Go.DL
open Go
inductive LeC:List D→List D→Prop where
 | nil:LeC [] []
 | cons {d d':D} {l l':List D} (h:d.Le d') (t:LeC l l'):LeC (d :: l) (d' :: l')
theorem LeC.refl (l:List D):LeC l l:=by
 induction l with
 | nil=>exact .nil
 | cons d l ih=>exact .cons (D.Le.refl d) ih
theorem LeC.len {l l':List D} (h:LeC l l'):l.length=l'.length:=by
 induction h with
 | nil=>rfl
 | cons _ _ ih=>simp [ih]
theorem LeC.get {l l':List D} (h:LeC l l') {i:Nat} {d':D} (hi:l'[i]? = some d'):∃ d,l[i]? = some d∧d.Le d':=by
 induction h generalizing i with
 | nil=>simp at hi
 | cons h _ ih =>
  cases i with
  | zero=>simp at hi; subst hi; exact ⟨_,rfl,h⟩
  | succ i=>exact ih (by simpa using hi)
theorem Zio {cs cs':List D} (h:LeC cs cs'):(D.agg cs).Le (.agg cs'):=by
 intro g w v hv
 cases hv with
 | agg vs _ hn hr one=>exact .agg vs _ (hn.trans h.len) (fun i v d' hv hd=>by obtain ⟨d,h1,h2⟩:=h.get hd; exact h2 _ _ _ (hr i v d hv h1)) one
theorem Zp5 {cs cs':List D} (h:LeC cs cs'):(D.tup cs).Le (.tup cs'):=by
 intro g w v hv
 cases hv with
 | tup vs _ hn hr=>exact .tup vs _ (hn.trans h.len) (fun i v d' hv hd=>by obtain ⟨d,h1,h2⟩:=h.get hd; exact h2 _ _ _ (hr i v d hv h1))
theorem ZgW {t:Tok} {n s:Nat} {row:Nat→List D}:(D.sl t n s row).Le (.sl .none n s row):=by
 intro g w v hv
 cases hv with
 | sl0 _ _ _ _ ht=>exact .sl0 _ _ _ _ (by simp)
 | sl b o n cap s row t f hl hc hp hr one ht hcap hb=>exact .sl b o n cap s row _ f hl hc hp hr one trivial hcap hb
theorem Zfy {t:Tok} {n s:Nat} {row row':Nat→List D} (h:∀ i,i < n→LeC (row i) (row' i)):(D.sl t n s row).Le (.sl t n s row'):=by
 intro g w v hv
 cases hv with
 | sl0 _ _ _ _ ht=>exact .sl0 _ _ _ _ ht
 | sl b o n cap s row t f hl hc hp hr one ht hcap hb =>
  exact .sl b o n cap s _ _ f (fun i hi=>(h i hi).len.symm.trans (hl i hi)) hc hp (fun i j d hi hd=>by obtain ⟨d',h1,h2⟩:=(h i hi).get hd; exact h2 _ _ _ (hr i j d' hi h1)) one ht hcap hb
theorem K9 {s:Nat} {row:Nat→List D} {t:Tok} (ht:∀ b,t≠.tip b):D.nilsl.Le (.sl t 0 s row):=by
 intro g w v hv; cases hv; exact .sl0 _ _ _ _ ht
theorem D.Le.trans {a b c:D} (h:a.Le b) (h':b.Le c):a.Le c:=fun g w v hv=>h' g w v (h g w v hv)
theorem Zq4 {t:Tok} {n n' s:Nat} {row row':Nat→List D} (hn:n=n') (h:∀ i,i < n→row i=row' i):(D.sl t n s row).Le (.sl .none n' s row'):=by
 subst hn
 exact ZgW.trans (Zfy fun i hi=>by rw [h i hi]; exact LeC.refl _)
inductive Zk1:E→E→Prop where
 | d {x y:D} (h:x.Le y):Zk1 (.d x) (.d y)
 | refl (e:E):Zk1 e e
inductive LeE:Env→Env→Prop where
 | nil:LeE [] []
 | cons {t:Nat} {e e':E} {ρ ρ':Env} (h:Zk1 e e') (r:LeE ρ ρ'):LeE ((t,e) :: ρ) ((t,e') :: ρ')
 | skip {t:Nat} {e:E} {ρ ρ':Env} (r:LeE ρ ρ'):LeE ((t,e) :: ρ) ((t,e) :: ρ')
inductive LeL:Loc→Loc→Prop where
 | nil:LeL [] []
 | cons {t:Nat} {c c':List D} {ρ ρ':Loc} (h:LeC c c') (r:LeL ρ ρ'):LeL ((t,c) :: ρ) ((t,c') :: ρ')
 | skip {t:Nat} {c:List D} {ρ ρ':Loc} (r:LeL ρ ρ'):LeL ((t,c) :: ρ) ((t,c) :: ρ')
theorem LeE.get {ρ ρ':Env} (h:LeE ρ ρ') {t:Nat} {e':E} (he:Wh ρ' t=some e'):∃ e,Wh ρ t=some e∧Zk1 e e':=by
 induction h with
 | nil=>simp [Wh] at he
 | cons h _ ih =>
  simp only [Wh] at he ⊢
  split at he
  ·simp at he; subst he; rename_i ht; rw [if_pos ht]; exact ⟨_,rfl,h⟩
  ·rename_i ht; rw [if_neg ht]; exact ih he
 | skip _ ih =>
  simp only [Wh] at he ⊢
  split at he
  ·simp at he; subst he; rename_i ht; rw [if_pos ht]; exact ⟨_,rfl,.refl _⟩
  ·rename_i ht; rw [if_neg ht]; exact ih he
theorem LeL.get {ρ ρ':Loc} (h:LeL ρ ρ') {t:Nat} {e':List D} (he:ZI ρ' t=some e'):∃ e,ZI ρ t=some e∧LeC e e':=by
 induction h with
 | nil=>simp [ZI] at he
 | cons h _ ih =>
  simp only [ZI] at he ⊢
  split at he
  ·simp at he; subst he; rename_i ht; rw [if_pos ht]; exact ⟨_,rfl,h⟩
  ·rename_i ht; rw [if_neg ht]; exact ih he
 | skip _ ih =>
  simp only [ZI] at he ⊢
  split at he
  ·simp at he; subst he; rename_i ht; rw [if_pos ht]; exact ⟨_,rfl,LeC.refl _⟩
  ·rename_i ht; rw [if_neg ht]; exact ih he
theorem LeL.getI {ρ ρ':Loc} (h:LeL ρ ρ') {t:Nat} {e:List D} (he:ZI ρ t=some e):∃ e',ZI ρ' t=some e':=by
 induction h with
 | nil=>simp [ZI] at he
 | cons h _ ih =>
  simp only [ZI] at he ⊢
  split at he
  ·rename_i ht; rw [if_pos ht]; exact ⟨_,rfl⟩
  ·rename_i ht; rw [if_neg ht]; exact ih he
 | skip _ ih =>
  simp only [ZI] at he ⊢
  split at he
  ·rename_i ht; rw [if_pos ht]; exact ⟨_,rfl⟩
  ·rename_i ht; rw [if_neg ht]; exact ih he
theorem KR.le {g:G} {w:World} {b:Nat} {ds ds':List D} (h:KR g w b ds) (hl:LeC ds ds'):KR g w b ds':=by
 obtain ⟨hp,vs,T,h1,h2,h3,h4⟩:=h
 exact ⟨hp,vs,T,h1,h2.trans hl.len,fun i v d' hv hd=>by obtain ⟨d,e1,e2⟩:=hl.get hd; exact e2 _ _ _ (h3 i v d hv e1),h4⟩
theorem Yq.le {g:G} {ν:Nat→Nat} {w:World} {L:Loc} {v:Value} {e e':E} (h:Yq g ν w L v e) (hl:Zk1 e e'):Yq g ν w L v e':=by
 cases hl with
 | refl=>exact h
 | d hd=>exact hd _ _ _ h
theorem ZX.le {g:G} {ν:Nat→Nat} {w:World} {tmps:Array Value} {ρ ρ':Env} {L L':Loc} {s:St} (m:ZX g ν w tmps ρ L s) (hρ:LeE ρ ρ') (hL:LeL L L'):ZX g ν w tmps ρ' L' s:={
 st:=m.st
 loc l cs h:=by obtain ⟨c,h1,h2⟩:=hL.get h; exact (m.loc l c h1).le h2
 locKept l cs h:=by obtain ⟨c,h1,_⟩:=hL.get h; exact m.locKept l c h1
 locSt l cs h:=by obtain ⟨c,h1,_⟩:=hL.get h; exact m.locSt l c h1
 inj l l' cs cs' h h' hν:=by obtain ⟨c,h1,_⟩:=hL.get h; obtain ⟨c',h1',_⟩:=hL.get h'; exact m.inj l l' c c' h1 h1' hν
 env t e h:=by
  obtain ⟨e0,h1,h2⟩:=hρ.get h
  exact ((m.env t e0 h1).le h2).locs fun l cs hc=>⟨hL.getI hc,rfl⟩ }
section
variable {P:Program}
theorem ZaT {F:Fr P} {dk:List ZR} {ρ ρ':Env} {L L':Loc} {s:St} (hρ:LeE ρ ρ') (hL:LeL L L') (h:ZU F dk ρ' L' s):ZU F dk ρ L s :=
 fun k hk g ν w tmps hN m=>h k hk g ν w tmps hN (m.le hρ hL)
end
theorem Zcf (ρ:Env):LeE ρ ρ:=by
 induction ρ with
 | nil=>exact .nil
 | cons a r ih=>obtain ⟨t,e⟩:=a; exact .cons (.refl _) ih
theorem ZdB (ρ:Loc):LeL ρ ρ:=by
 induction ρ with
 | nil=>exact .nil
 | cons a r ih=>obtain ⟨t,e⟩:=a; exact .cons (LeC.refl _) ih
theorem Zdc {l:List D} {cs:List D} (hl:JF l = .tup l) (h:LeC l cs):(JF l).Le (.tup cs):=by rw [hl]; exact Zp5 h
theorem ZaN {d d':D} (h:d.Le d'):(JF [d]).Le d':=h
end Go.DL
namespace Go.DL
open Go
def Za2:Bool→Bool→St→St→Loc→Loc→List Rd→Prop
 | true,_,_,_,_,_,_=>True
 | false,true,s,s',L,L',B=>QG s s' L L' B
 | false,false,_,_,_,_,_=>True
def Zcw:Bool→Bool→List Rd→List Rd
 | true,_,B=>B
 | false,true,B=>B
 | false,false,_=>[]
def Zfm (K:Env→Loc→St→Prop) (X:List (DOp × Bool)→Env→Loc→St→List Rd→Prop):List (DOp × Bool)→Env→Loc→St→List Rd→Prop
 | [],ρ,L,s,_=>K ρ L s
 | o :: os,ρ,L,s,B=>match YK o.1 ρ L s with
  | .ok side ρ' L' s'=>side∧Za2 (Qb o.1.k) o.2 s s' L L' B∧Zfm K X os ρ' L' s' (KI o.1 ρ++Zcw (Qb o.1.k) o.2 B)
  | .all side pre ρ' s'=>side∧∀ b,pre b→Za2 false o.2 s (s' b) L L B∧Zfm K X os (ρ' b) L (s' b) (Zcw false o.2 B)
  | .stop=>X (o :: os) ρ L s B
theorem ZgY {K:Env→Loc→St→Prop} {X:List (DOp × Bool)→Env→Loc→St→List Rd→Prop}:∀ {os:List (DOp × Bool)} {ρ:Env} {L:Loc} {s:St} {B:List Rd},Zfm K X os ρ L s B→ZeR K X os ρ L s B
 | [],ρ,L,s,B,h=>h
 | o :: os,ρ,L,s,B,h=>by
  simp only [Zfm,ZeR] at h ⊢
  split at h <;> rename_i hst <;> simp only [hst]
  ·cases hp:Qb o.1.k
   ·rw [hp] at h
    cases hf:o.2 <;> rw [hf] at h <;> simp only [Za2,Zcw,KO,Qp] at h ⊢ <;> exact ⟨h.1,h.2.1,ZgY h.2.2⟩
   ·rw [hp] at h; simp only [Za2,Zcw] at h; exact ⟨h.1,ZgY h.2.2⟩
  ·refine ⟨h.1,fun b hb=>?_⟩
   have:=h.2 b hb
   cases hf:o.2 <;> rw [hf] at this <;> simp only [Za2,Zcw,KO,Qp] at this ⊢ <;> exact ⟨this.1,ZgY this.2⟩
  ·exact h
section
variable {P:Program}
theorem ZO {F:Fr P} {ks:List Nat} {dk:List ZR} {os:List (DOp × Bool)} {ρ:Env} {L:Loc} {s:St} {B:List Rd}
  (h:Zfm (fun ρ L s=>ZU F dk (KV ρ ks) (Zb4 (KV ρ ks) L) s) (fun os ρ L s B=>DOA F (some ks) dk os ρ L s B) os ρ L s B):DOA F (some ks) dk os ρ L s B:=ZgQ (ZgY h)
theorem ZcQ {F:Fr P} {kp:Option (List Nat)} {dk:List ZR} {o:DOp} {os:List DOp} {ρ:Env} {L:Loc} {s0:St} (s:St) (t:Tok) (hg:Yd ρ o.guard=some true) {e sz b:Nat} {z:List D} {x y:Opd} (hk:o.k = .append e sz b z x y)
  {p q:Prop} {n m:Nat} {row row2:Nat→List D} {dy:D} {dx:D} (hx:YC ρ true x=some (p,.d dx)) (hsl:Ze2 sz dx=some (t,n,row)) (hy:YC ρ true y=some (q,.d dy)) (hel:Zaw sz dy=some (m,row2)) (hp:p) (hq:q) (hs:s0=s.own t (n * sz)) (hok:t.okIn s)
  (hb:(n + m) * b≤140737488355328) (hbig:n + m≤big) (h:∀ t':Tok,t'.okIn s→DO F kp dk os (YT ρ o.dst (.d (.sl t' (n + m) sz (K0 n row row2)))) L (s.own t' ((n + m) * sz))) :
  DO F kp dk (o :: os) ρ L s0:=by
 subst hs; exact Zka hg hk hx hsl hy hp hq hel hok hb hbig h
theorem ZoG {F:Fr P} {kp:Option (List Nat)} {dk:List ZR} {o:DOp} {os:List DOp} {ρ:Env} {L:Loc} {s0:St} (s:St) (t:Tok) (hg:Yd ρ o.guard=some true) {e sz b:Nat} {z:List D} {x y:Opd} (hk:o.k = .append e sz b z x y)
  {p q:Prop} {n m:Nat} {row row2:Nat→List D} {dy:D} {dx:D} (hx:YC ρ true x=some (p,.d dx)) (hsl:Ze2 sz dx=some (t,n,row)) (hy:YC ρ true y=some (q,.d dy)) (hel:Zaw sz dy=some (m,row2)) (hp:p) (hq:q) (hs:s0=s.own t (n * sz)) (hok:t.okIn s)
  (hb:(n + m) * b≤140737488355328) (hbig:n + m≤big) (h:∀ t':Tok,t'.okIn s→ZcW F kp dk os (YT ρ o.dst (.d (.sl t' (n + m) sz (K0 n row row2)))) L (s.own t' ((n + m) * sz))) :
  ZcW F kp dk (o :: os) ρ L s0:=by
 subst hs; exact Zmb hg hk hx hsl hy hp hq hel hok hb hbig h
theorem Zmo {F:Fr P} {kp:Option (List Nat)} {dk:List ZR} {o:DOp} {fl:Bool} {os:List (DOp × Bool)} {ρ:Env} {L:Loc} {s0:St} {B:List Rd} (s:St) (t:Tok) (hg:Yd ρ o.guard=some true) {e sz b:Nat} {z:List D} {x y:Opd} (hk:o.k = .append e sz b z x y)
  {p q:Prop} {n m:Nat} {row row2:Nat→List D} {dy:D} {dx:D} (hx:YC ρ true x=some (p,.d dx)) (hsl:Ze2 sz dx=some (t,n,row)) (hy:YC ρ true y=some (q,.d dy)) (hel:Zaw sz dy=some (m,row2)) (hp:p) (hq:q) (hs:s0=s.own t (n * sz)) (hok:t.okIn s)
  (hb:(n + m) * b≤140737488355328) (hbig:n + m≤big) (h:∀ t':Tok,t'.okIn s→Za2 false fl s0 (s.own t' ((n + m) * sz)) L L B∧DOA F kp dk os (YT ρ o.dst (.d (.sl t' (n + m) sz (K0 n row row2)))) L (s.own t' ((n + m) * sz)) (Zcw false fl B)) :
  DOA F kp dk ((o,fl) :: os) ρ L s0 B:=by
 subst hs; refine ZiL hg hk hx hsl hy hp hq hel hok hb hbig fun t' ht'=>?_
 have:=h t' ht'
 cases fl <;> simpa only [Za2,Zcw,KO,Qp,if_true,if_false,Bool.false_eq_true] using this
end
end Go.DL
namespace Go.DL
open Go
section
variable {P:Program}
theorem YG {an:Ann} {f:FuncId} {df:DF} (hf:cf P an f=some df) {args:List D} {d:D} {s s':St}
  (h:(∀ a∈args,DWf a)→∀ (F:Fr P),(∀ {dk:List ZR} {ρ:Env} {L:Loc} {t:St} {p:Prop} {ds:List D},K3 ρ L t df.res=some (p,ds)→p→(JF ds).Le d→s'.sub t→ZU F (.code .ret :: dk) ρ L t) →
   ZU F [.code df.body] (Zap 0 args) [] s):YD P f args s d s' :=
 Zgk (ZkI hf) fun hw=>ZP hf fun F hF=>h hw F fun h1 h2 h3 h4=>hF.ret d s' h1 h2 h3 h4 ⟨rfl,rfl⟩
def VT (P:Program) (f:D) (args:List D) (s:St) (d:D) (s':St):Prop:=Q5 P f args s fun r t=>r = .ret d∧t=s'
theorem YD.VT {f:FuncId} {first args caps:List D} {s s':St} {d:D} (h:YD P f (first++args++caps) s d s'):VT P (.fn (.func f) first caps) args s d s':=ZY.V h
theorem Yk.VT {f:FuncId} {first args caps:List D} {d:D} (h:Yk P f (first++args++caps) d) (s:St):VT P (.fn (.func f) first caps) args s d s:=ZY.V (h s)
theorem ZaR {F:Fr P} {kp:Option (List Nat)} {dk:List ZR} {o:DOp} {os:List DOp} {ρ:Env} {L:Loc} {s s':St} (hg:Yd ρ o.guard=some true) {fx:Opd} {xs:List Opd} (hk:o.k = .call fx xs)
  {p q:Prop} {f:D} {es:List E} {ds:List D} (hf:YC ρ true fx=some (q,.d f)) (ha:Kn ρ true xs=some (p,es)) (hds:Qn es=some ds) (hp:p) (hq:q)
  {d:D} (hc:VT P f ds s d s') (h:DO F kp dk os (YT ρ o.dst (.d d)) L s'):DO F kp dk (o :: os) ρ L s:=Zol hg hk hf ha hds hp hq hc h
theorem Zqr {F:Fr P} {kp:Option (List Nat)} {dk:List ZR} {o:DOp} {f:Bool} {os:List (DOp × Bool)} {ρ:Env} {L:Loc} {s s':St} {B:List Rd} (hg:Yd ρ o.guard=some true) {fx:Opd} {xs:List Opd} (hk:o.k = .call fx xs)
  {p q:Prop} {fv:D} {es:List E} {ds:List D} (hf:YC ρ true fx=some (q,.d fv)) (ha:Kn ρ true xs=some (p,es)) (hds:Qn es=some ds) (hp:p) (hq:q)
  {d:D} (hc:VT P fv ds s d s') (hB:KO f s s' L L B) (h:DOA F kp dk os (YT ρ o.dst (.d d)) L s' (Qp f B)):DOA F kp dk ((o,f) :: os) ρ L s B :=
 ZdW hg hk hf ha hds hp hq hc (fun d' t ⟨h1,h2⟩=>by simp only [Res.ret.injEq] at h1; subst h1; subst h2; exact ⟨hB,h⟩) (fun d' t ⟨h1,_⟩=>by simp at h1)
theorem YQ.leC {g:G} {w:World} {vs:List Value} {a a':List D} (h:YQ (Rep g w) vs a) (hl:LeC a a'):YQ (Rep g w) vs a':=by
 induction hl generalizing vs with
 | nil=>exact h
 | cons hd _ ih=>cases h with
  | cons h1 h2=>exact .cons (hd g w _ h1) (ih h2)
theorem ZY.leA {f:FuncId} {args args':List D} {s:St} {Φ:Res→St→Prop} (hl:LeC args args') (h:ZY P f args' s Φ):ZY P f args s Φ :=
 ⟨h.1,fun g w vs hs ha=>h.2 g w vs hs (YQ.leC ha hl)⟩
theorem Yk.leA {f:FuncId} {args args':List D} {d:D} (hl:LeC args args') (h:Yk P f args' d):Yk P f args d:=fun s=>ZY.leA hl (h s)
theorem YD.leA {f:FuncId} {args args':List D} {d:D} {s s':St} (hl:LeC args args') (h:YD P f args' s d s'):YD P f args s d s':=ZY.leA hl h
theorem LeC.one {d d':D} (h:d.Le d'):LeC [d] [d']:=.cons h .nil
theorem LeC.two {d d' e e':D} (h:d.Le d') (h2:e.Le e'):LeC [d,e] [d',e']:=.cons h (.cons h2 .nil)
end
end Go.DL
namespace Go.DL
open Go
def St.or (s t:St):St:=fun b=>match s b with
 | some o=>some o
 | none=>t b
theorem Jt (s t:St) (b:Nat) (o:Kq):(s.or t).upd b o=(s.upd b o).or t:=by
 funext c; simp only [St.or,St.upd]; by_cases h:c=b <;> simp [h]
theorem Ya {s t:St} {b:Nat} {o:Kq} (h:s b=some o):(s.or t) b=some o:=by simp [St.or,h]
theorem Yr {s t:St} {b:Nat} (h:s b=none):(s.or t) b=t b:=by simp [St.or,h]
theorem Qi (s t:St):s.sub (s.or t):=fun b o h=>Ya h
def Wt (s t:St):Prop:=∀ b o,t b=some o→s b=none
theorem or_assoc (s t u:St):(s.or t).or u=s.or (t.or u):=by
 funext b; simp only [St.or]; cases s b <;> rfl
theorem Zqj {s t:St} (h:Wt s t):s.or t=t.or s:=by
 funext b; simp only [St.or]
 cases ht:t b with
 | none=>cases s b <;> rfl
 | some o=>rw [h b o ht]
def St.single (b:Nat) (o:Kq):St:=fun c=>if c=b then some o else none
theorem KB (b:Nat) (o:Kq):(St.single b o) b=some o:=by simp [St.single]
theorem JE {b c:Nat} (o:Kq) (h:c≠b):(St.single b o) c=none:=by simp [St.single,h]
theorem Q6 {s:St} {b:Nat} {o:Kq} (h:s b=none):s.upd b o=s.or (St.single b o):=by
 funext c; simp only [St.or,St.upd,St.single]
 by_cases hc:c=b
 ·subst hc; simp [h]
 ·simp only [hc,if_false]; cases s c <;> rfl
theorem Jc {s:St} {b:Nat} {o:Kq} (h:s b=none):Wt s (St.single b o):=fun c x hc=>by
 simp only [St.single] at hc; split at hc
 ·rename_i e; rw [e]; exact h
 ·simp at hc
def G.keep (g:G) (k:Nat→Prop):G:={ g with kept:=k }
theorem Jl {g:G} {k:Nat→Prop} {w:World} {v:Value} {d:D} (h:Rep g w v d):Rep (g.keep k) w v d:=h.mono0 (fun _=>Nat.le_refl _) (fun _ _ _=>rfl) (fun _ _ h=>h)
theorem Zon {g:G} {k:Nat→Prop} {ν:Nat→Nat} {w:World} {L:Loc} {v:Value} {e:E} (h:Yq g ν w L v e):Yq (g.keep k) ν w L v e:=by
 induction e with
 | d d=>exact Jl h
 | loc l off=>exact h
 | when c e ih=>exact ⟨fun hc=>ih (h.1 hc),h.2⟩
theorem Zld {g:G} {k:Nat→Prop} {w:World} {b:Nat} {ds:List D} (h:KR g w b ds):KR (g.keep k) w b ds:=by
 obtain ⟨hp,vs,T,h1,h2,h4,h5⟩:=h
 exact ⟨hp,vs,T,h1,h2,fun i v d hv hd=>Jl (h4 i v d hv hd),h5⟩
theorem Ziz {g:G} {k:Nat→Prop} {w:World} {b:Nat} {o:Kq} (h:Qr g w b o):Qr (g.keep k) w b o:=by
 cases o with
 | cells ds=>exact Zld h
 | map es =>
  obtain ⟨hp0,en,clock,h1,h2,h3,h4,h5,h6⟩:=h
  exact ⟨hp0,en,clock,h1,h2,fun i x d hv hd=>Jl (h3 i x d hv hd),fun i x d hv hd=>Jl (h4 i x d hv hd),h5,h6⟩
 | tip n=>exact h
 | mapE kp es kk n =>
  obtain ⟨hp0,io,hio,en,clock,h1,h2,h3,h4,h5,h6,h7⟩:=h
  exact ⟨hp0,io,hio,en,clock,h1,h2,fun i x d hi hv hd=>Jl (h3 i x d hi hv hd),fun i x d hi hv hd=>Jl (h4 i x d hi hv hd),fun e he=>⟨Jl (h5 e he).1,(h5 e he).2⟩,h6,h7⟩
 | loop r st =>
  obtain ⟨hp,l,h1,h2,h3,h4,h5,h6,h7,h8,h9⟩:=h
  exact ⟨hp,l,h1,h2,h3,h4,h5,h6,h7,fun t e he=>Zon (h8 t e he),h9⟩
 | dfr=>exact h
theorem YQ.imp {α β:Type} {R S:α→β→Prop} {as9:List α} {bs:List β} (h:YQ R as9 bs) (hi:∀ a b,R a b→S a b):YQ S as9 bs:=by
 induction h with
 | nil=>exact .nil
 | cons h _ ih=>exact .cons (hi _ _ h) ih
theorem ZoE {g:G} {w:World} {s t:St} (hd:Wt s t) (h:Kg g (s.or t) w):Kg (g.keep fun b=>g.kept b∨(t b).isSome) s w:={
 obj b o hb:=Ziz (h.obj b o (Ya hb))
 kept b o hb:=by
  rintro (hk | hk)
  ·exact h.kept b o (Ya hb) hk
  ·obtain ⟨x,hx⟩:=Option.isSome_iff_exists.1 hk
   rw [hd b x hx] at hb; simp at hb
 fresh b hb:=by
  have h1:=h.fresh b hb
  refine ⟨h1.1,?_⟩
  rintro (hk | hk)
  ·exact h1.2 hk
  ·obtain ⟨x,hx⟩:=Option.isSome_iff_exists.1 hk
   have:=(h.obj b x (by rw [Yr (hd b x hx)]; exact hx)).lt
   omega }
theorem Zow {g:G} {w w':World} {s t:St} {Φ:Res→St→Prop} {e:Ending} (hd:Wt s t) (h:Kg g (s.or t) w) (hp:Zep (g.keep fun b=>g.kept b∨(t b).isSome) w Φ e w') :
  Zep g w (fun r S=>∃ s',Φ r s'∧Wt s' t∧S=s'.or t) e w':=by
 obtain ⟨g',s',r,he,hs,hr,hΦ⟩:=hp
 have hkeq:=he.keptEq
 have he':Ext g w (g'.keep g.kept) w':=⟨he.size,he.prot,he.cell,he.hdr,fun b hb=>he.kept b (.inl hb),fun b hb=>he.keptProt b (.inl hb),rfl,he.os,he.output,he.tape⟩
 have hd':Wt s' t:=fun b o hb=>by
  cases hsb:s' b with
  | none=>rfl
  | some x=>exact absurd (by rw [hkeq]; exact .inr (by rw [hb]; rfl)) (hs.kept b x hsb)
 refine ⟨g'.keep g.kept,s'.or t,r,he',⟨fun b o hb=>?_,fun b o hb=>?_,fun b hb=>?_⟩,?_,s',hΦ,hd',rfl⟩
 ·cases hsb:s' b with
  | some x =>
   rw [Ya hsb] at hb; cases hb
   exact Ziz (hs.obj b _ hsb)
  | none =>
   rw [Yr hsb] at hb
   have h0:=h.obj b o (by rw [Yr (hd b o hb)]; exact hb)
   have hk:(g.keep fun b=>g.kept b∨(t b).isSome).kept b:=.inr (by rw [hb]; rfl)
   exact h0.mono he' (he.kept b hk) (he.keptProt b hk)
 ·cases hsb:s' b with
  | some x=>exact fun hk=>hs.kept b x hsb (by rw [hkeq]; exact .inl hk)
  | none =>
   rw [Yr hsb] at hb
   exact h.kept b o (by rw [Yr (hd b o hb)]; exact hb)
 ·have:=hs.fresh b hb
  exact ⟨this.1,fun hk=>this.2 (by rw [hkeq]; exact .inl hk)⟩
 ·cases e <;> cases r <;> simp only [ZpE] at hr ⊢
  ·exact Jl hr
  ·obtain ⟨v,h1,h2⟩:=hr; exact ⟨v,h1,Jl h2⟩
section
variable {P:Program}
theorem Q5.frame {f:D} {args:List D} {s t:St} {Φ:Res→St→Prop} (hd:Wt s t) (h:Q5 P f args s Φ):Q5 P f args (s.or t) fun r S=>∃ s',Φ r s'∧Wt s' t∧S=s'.or t:=by
 intro g w fv vs hs hf ha
 obtain ⟨d,nx,fr,h1,h2,h3,h4⟩:=h _ w fv vs (ZoE hd hs) (Jl hf) (ha.imp fun _ _=>Jl)
 refine ⟨d,nx,fr,h1,h2,h3,fun c cs=>?_⟩
 obtain ⟨e,w',h5,h6⟩:=h4 c cs
 exact ⟨e,w',Zow hd hs h5,h6⟩
end
end Go.DL
namespace Go.DL
open Go
section
variable {P:Program}
theorem Zkt {an:Ann} {l N:Nat} {r:Qj} {s:St} {da db:DC} {args:List D} {Φ:Res→St→Prop} (hs:s l=some (.loop r .ready)) (hlen:args.length=r.params.length) (ha:cc P an N r.assign=some da) (hb:cc P an N r.body=some db) (hN:r.N=N)
  (hp:∀ t∈r.params,t < N) (h:∀ F:Fr P,Jx F l Φ→F.b.fn=r.fn→ZU F [.code da,.beginR,.code db] (Jw r.params args r.ρ) [] s):Q5 P (.fn (.yield l) [] []) args s Φ:=by
 intro g w fv vs hst hf hargs
 cases hf with
 | fn _ fs cs' _ _ hn1 hn2 h1 h2 =>
 obtain rfl:fs=[]:=by simpa using hn1
 obtain rfl:cs'=[]:=by simpa using hn2
 obtain ⟨hp0,l0,a1,a2,a3,a4,a5,a6,a7,a8,a9,a10⟩:=hst.obj l _ hs
 have hsize:vs.toArray.size=l0.params.size:=by
  have e1:=hargs.len
  have e2:l0.params.toList.length=r.params.length:=by rw [a3]
  simp at e2 ⊢; omega
 refine ⟨_,_,_,by simp [Deferred.ofValue]; rfl,by simp [invoke,Instr.yield,Instr.getLoop,Zau a1,hsize]; rfl,rfl,fun c cs=>?_⟩
 have M:ZX g (fun _=>0) w l0.tmps r.ρ [] s:=⟨hst,fun l cs h=>by simp [ZI] at h,fun l cs h=>by simp [ZI] at h,fun l cs h=>by simp [ZI] at h,fun l l' cs cs' h=>by simp [ZI] at h,a8⟩
 obtain ⟨hN',M'⟩:=ZiQ M hargs hlen (by rw [hN] at *; exact hp) (by rw [← hN]; exact a7)
 have:=h (Zcq P an r.fn N l c cs Φ) ⟨an,r.fn,N,c,cs,rfl⟩ rfl [.code r.assign,.beginRound,.code r.body] (.code ha (.beginR (.code hb .nil))) g (fun _=>0) w _ hN' M'
 have hfr:(Zcq P an r.fn N l c cs Φ).b.atR { tmps:=(r.params.zip vs).foldl (fun tmps (x:Nat × Value)=>tmps.setIfInBounds x.1 x.2) l0.tmps,defers:=[] } [.code r.assign,.beginRound,.code r.body] =
   Frame.round l l0.fn ((l0.params.zip vs.toArray).foldl (fun tmps (x:Nat × Value)=>tmps.setIfInBounds x.1 x.2) l0.tmps) l0.assign l0.body .normal:=by
  simp only [Frame.atR,Frame.round,Zcq,a2,a4,a5,← a3]
  congr 1
  rw [← Array.foldl_toList]
  simp
 have e:(Zcq P an r.fn N l c cs Φ).ds=[]:=rfl
 rw [e,hfr] at this
 have e2:(l0.params.zip vs.toArray).size=l0.params.size:=by simp at hsize ⊢; omega
 rw [e2] at this
 exact this
theorem ZkL {F:Fr P} (hr:F.b.roundOf=none) {o:Opd} {ps:List Nat} {da db:DC} {dk:List ZR} {ρ:Env} {L:Loc} {s:St} {p:Prop} {fv:D} (hf:YC ρ true o=some (p,.d fv)) (hp:p) (ks:List Nat) (hks:(KV ρ ks).map (·.1) |>.Nodup)
  (h:∀ q l r,s q=none→s l=none→q≠l→r.ρ=Zab ks ρ→r.params=ps→r.fn=F.b.fn→cc P F.an F.N r.assign=some da→cc P F.an F.N r.body=some db→r.N=F.N→(∀ t∈ps,t < F.N) →
   ∃ Ψ,Q5 P fv [.fn (.yield l) [] []] ((s.upd q .dfr).upd l (.loop r .ready)) Ψ∧(∀ d s',Ψ (.ret d) s'→Zj1 (F.mark q) l r dk ρ L s')∧(∀ d s',Ψ (.panic d) s'→K2 (F.mark q) ρ L d s')) :
  ZU F (.code (.rangeF o ps da db) :: dk) ρ L s:=by
 intro k hk
 cases hk with
 | @code _ _ kt _ hc ht =>
 obtain ⟨f',ps',a',b',rfl,hf',hps,ha,hb,hlt⟩:=ZnM hc
 intro g ν w tmps hN m
 have hfr:Rep g w _ fv:=Kl m hf' rfl hf hp F.ds
 have hg1:=Zcc (g:=g) (w:=w) (.deferred (some [])) m.st.fresh
 have he1:=hg1.ext m.st.fresh
 obtain ⟨hq,m1⟩:=m.newObj hg1 (o:=.dfr) ⟨(m.st.fresh _ (Nat.le_refl _)).1,ZaC w _⟩
 let w1:=w.alloc (.deferred (some []))
 let lp:Go.Loop:={ state:=.ready,pending:=none,fn:=F.b.fn,tmps:=tmps,params:=ps',assign:=a',body:=b',defers:=w.heap.size }
 let r:Qj:={ fn:=F.b.fn,params:=ps,assign:=a',body:=b',defers:=w.heap.size,ρ:=Zab ks ρ,N:=F.N }
 have hg2:=Zcc (g:=g) (w:=w1) (.loop lp) m1.st.fresh
 have he2:=hg2.ext m1.st.fresh
 obtain ⟨hl,m2⟩:=m1.newObj hg2 (o:=.loop r .ready) ⟨(m1.st.fresh _ (Nat.le_refl _)).1,lp,ZaC w1 _,rfl,hps,rfl,rfl,rfl,hN,fun t e het=>by
  obtain ⟨h1,h2⟩:=ZeT hks het
  exact Zng (((m1.env t e (Zd3 ρ ks t e h1))).mono he2) h2,rfl,rfl⟩
 have hqsz:w1.heap.size=w.heap.size + 1:=by simp [w1]
 have hl':s w1.heap.size=none:=by
  have hne:¬ w1.heap.size=w.heap.size:=by omega
  have h0:(s.upd w.heap.size .dfr) w1.heap.size=none:=hl
  simp only [St.upd,hne,if_false] at h0
  exact h0
 obtain ⟨Ψ,hV,hret,hpan⟩:=h w.heap.size w1.heap.size r hq hl' (by omega) rfl rfl rfl ha hb rfl hlt
 have hrep2:Rep g (w1.alloc (.loop lp)) _ fv:=(hfr.mono he1).mono he2
 obtain ⟨d,nx,fr,hd1,hd2,hd3,hC⟩:=hV (Zfb g ν L) (w1.alloc (.loop lp)) _ [.func (.yield w1.heap.size) #[] #[]] m2.callSt (Qt hrep2 rfl) (.cons (.fn (.yield w1.heap.size) [] [] [] [] rfl rfl (by simp) (by simp)) .nil)
 have henter:(Instr.enterLoop F.b.fn tmps ps' a' b' F.b.roundOf).run P w = .ok (w1.heap.size,[{ target:=.collected w.heap.size,args:=#[] }]) (w1.alloc (.loop lp)):=by
  rw [hr]; simp [Instr.enterLoop,w1,lp]
 have hstep:=ZjE (P:=P) (b:=F.b) (a:=⟨tmps,F.ds⟩) (k:=kt) (cs:=F.cs) henter hd1 hd2 hd3
 obtain ⟨e,w',⟨g',s',res,x1,x2,x3,x4⟩,hback⟩:=hC (F.b.atR { tmps:=tmps,defers:=[{ target:=.collected w.heap.size,args:=#[] }]++F.ds } (.inRangeFunc w1.heap.size :: kt)) F.cs
 obtain ⟨hext,hm⟩:=m2.afterCall x1 x2
 have hext':=(he1.trans he2).trans hext
 cases e with
 | returned v =>
  cases res with
  | panic d=>exact x3.elim
  | ret d =>
   refine F.T.back _ _ _ _ (.head hstep hback) ?_
   rw [finish_atR_inRangeFunc]
   exact F.T.ext _ _ _ _ _ hext' (ZmL (F:=F.mark w.heap.size) ht hN hm (hret d s' x4))
 | panicked ch =>
  cases res with
  | ret d=>exact x3.elim
  | panic d =>
   obtain ⟨v,rfl,hv⟩:=x3
   refine F.T.back _ _ _ _ (.head hstep hback) ?_
   rw [Frame.raise_atR]
   exact F.T.ext _ _ _ _ _ hext' (hpan d s' x4 _ _ _ v _ _ hN hm (Qt hv rfl))
 | outgrown=>exact hback.elim
theorem Zm0 {F:Fr P} {ρ:Env} {L:Loc} {d:D} {s s':St} (hs:s'.sub s) (h:K2 F ρ L d s'):K2 F ρ L d s :=
 fun g ν w v todo tmps hN m hr=>h g ν w v todo tmps hN (m.sub hs) hr
inductive Oc where
 | next
 | stop (c:Code)
 | pan (d:D)
def Oc.res:Oc→Res
 | .next=>.ret (.bool true)
 | .stop _=>.ret (.bool false)
 | .pan d=>.panic d
def Zcd (P:Program) (y:D) (n:Nat) (args:Nat→List D) (go:Nat→Oc) (A:Nat→St→Prop):Prop :=
 ∀ j,j < n→(∀ i,i < j→go i = .next)→∀ a,A j a→Q5 P y (args j) a fun r a'=>r=(go j).res∧A (j + 1) a'
inductive Zjg (n:Nat) (go:Nat→Oc) (A:Nat→St→Prop) (a:St):Res→Prop where
 | all (h:∀ i,i < n→go i = .next) (ha:A n a):Zjg n go A a (.ret (.tup []))
 | stop (m:Nat) (c:Code) (hm:m < n) (h:∀ i,i < m→go i = .next) (hc:go m = .stop c) (ha:A (m + 1) a):Zjg n go A a (.ret (.tup []))
 | pan (m:Nat) (d:D) (hm:m < n) (h:∀ i,i < m→go i = .next) (hc:go m = .pan d) (ha:A (m + 1) a):Zjg n go A a (.panic d)
def Zbi (P:Program) (fv:D) (n:Nat) (args:Nat→List D) (t:St):Prop :=
 ∀ (y:D) (go:Nat→Oc) (A:Nat→St→Prop) (a0:St),Zcd P y n args go A→A 0 a0→Wt a0 t→Q5 P fv [y] (a0.or t) fun r S=>∃ a,Zjg n go A a r∧a.sub S
def lpS (q l:Nat) (r:Qj) (st:LSt):St:=(St.single q .dfr).or (St.single l (.loop r st))
structure ZkK (F:Fr P) (busy:St) (E:Oc→St→Prop):Prop where
 fin:∀ {ρ:Env} {L:Loc} {S a:St},E .next a→Wt a busy→(a.or busy).sub S→ZU F [] ρ L S
 ret:∀ {dk:List ZR} {ρ:Env} {L:Loc} {S a:St},E (.stop .ret) a→Wt a busy→(a.or busy).sub S→ZU F (.code .ret :: dk) ρ L S
 exit:∀ {id:Nat} {dk:List ZR} {ρ:Env} {L:Loc} {S a:St},Jv id dk=none→E (.stop (.exit id)) a→Wt a busy→(a.or busy).sub S→ZU F (.code (.exit id) :: dk) ρ L S
 pan:∀ {ρ:Env} {L:Loc} {d:D} {S a:St},E (.pan d) a→Wt a busy→(a.or busy).sub S→K2 F ρ L d S
theorem KH.ex {F:Fr P} {rs:List RV} {Φ:Res→St→Prop} {dds:List DD} (hF:KH F rs Φ dds):∃ f,P.funcs[F.b.fn]? = some f:=by
 obtain ⟨an,f,df,cs,hf,hrs,rfl⟩:=hF
 obtain ⟨fn,h,_⟩:=ZkI hf
 exact ⟨fn,h⟩
theorem Zam {q l:Nat} {r:Qj} {st:LSt}:(lpS q l r st) q=some .dfr:=Ya (KB _ _)
theorem Q8 {q l:Nat} {r:Qj} {st:LSt} (h:q≠l):(lpS q l r st) l=some (.loop r st):=by
 unfold lpS; rw [Yr (JE _ (Ne.symm h))]; exact KB _ _
theorem Zdn {q l c:Nat} {r:Qj} {st:LSt} (h1:c≠q) (h2:c≠l):(lpS q l r st) c=none:=by
 unfold lpS; rw [Yr (JE _ h1)]; exact JE _ h2
theorem ZkO {q l:Nat} {r r':Qj} {st st':LSt} {a:St} (h:Wt a (lpS q l r st)) (hq:q≠l):Wt a (lpS q l r' st'):=fun b o hb=>by
 by_cases h1:b=q
 ·rw [h1]; exact h q _ Zam
 ·by_cases h2:b=l
  ·rw [h2]; exact h l _ (Q8 hq)
  ·rw [Zdn h1 h2] at hb; simp at hb
theorem ZjJ {q l:Nat} {r:Qj} {st st':LSt} {a S:St} (hq:q≠l) (hd:Wt a (lpS q l r st)) (hs:(a.or (lpS q l r st)).sub S):(a.or (lpS q l r st')).sub (S.upd l (.loop r st')):=fun b o hb=>by
 by_cases h2:b=l
 ·subst h2
  rw [Yr (hd b _ (Q8 hq)),Q8 hq] at hb
  rw [St.upd_same]; exact hb
 ·rw [St.upd_ne _ _ h2]
  refine hs b o ?_
  by_cases h1:b=q
  ·subst h1
   rw [Yr (hd b _ Zam),Zam] at hb ⊢; exact hb
  ·cases ha:a b with
   | some x=>rw [Ya ha] at hb ⊢; exact hb
   | none=>rw [Yr ha,Zdn h1 h2] at hb; simp at hb
theorem Zme {F:Fr P} {q l:Nat} {r:Qj} {Φ:Res→St→Prop} (hF:Jx F l Φ) (hq:q≠l) (hex:∃ f,P.funcs[F.b.fn]? = some f) {E:Oc→St→Prop}
  (hΦ:∀ oc a,E oc a→Wt a (lpS q l r .busy)→Φ oc.res (a.or (lpS q l r (match oc with | .next=>.ready | .stop c=>.done c | .pan _=>.busy)))):ZkK F (lpS q l r .busy) E:={
 fin he hd hs:=hF.fin (s':=_) (hs l _ (by rw [Yr (hd l _ (Q8 hq))]; exact Q8 hq)) (ZjJ hq hd hs) (hΦ .next _ he hd)
 ret he hd hs:=hF.ret (hs l _ (by rw [Yr (hd l _ (Q8 hq))]; exact Q8 hq)) (ZjJ hq hd hs) (hΦ (.stop .ret) _ he hd)
 exit hx he hd hs:=hF.exit hx (hs l _ (by rw [Yr (hd l _ (Q8 hq))]; exact Q8 hq)) (ZjJ hq hd hs) (hΦ (.stop (.exit _)) _ he hd)
 pan he hd hs:=hF.pan hs (hΦ (.pan _) _ he hd) fun an fn N c cs e=>by
  obtain ⟨f,hf⟩:=hex
  refine ⟨f,?_⟩
  have:F.b.fn=fn:=by rw [e]; rfl
  rw [← this]; exact hf }
theorem ZaK {F:Fr P} {rs:List RV} {Φ:Res→St→Prop} {dds:List DD} (hF:KH F rs Φ dds) {o:Opd} {ps:List Nat} {da db:DC} {dk:List ZR} {ρ:Env} {L:Loc} {p:Prop} {fv:D} (hf:YC ρ true o=some (p,.d fv)) (hp:p)
  (ks:List Nat) (hks:(KV ρ ks).map (·.1) |>.Nodup) {a0 t:St} (hd:Wt a0 t) {n:Nat} {args:Nat→List D} (hit:Zbi P fv n args t) (hlen:∀ j,j < n→(args j).length=ps.length) (go:Nat→Oc) (B:Nat→St→Prop) (h0:B 0 a0)
  (hbody:∀ j a,j < n→(∀ i,i < j→go i = .next)→B j a→∀ (F':Fr P) (ready busy:St),Wt a ready →
   (∀ {dk:List ZR} {ρ:Env} {L:Loc},(Wt a busy→ZU F' dk ρ L (a.or busy))→ZU F' (.beginR :: dk) ρ L (a.or ready)) →
   ZkK F' busy (fun oc a'=>oc=go j∧B (j + 1) a')→ZU F' [.code da,.beginR,.code db] (Jw ps (args j) (Zab ks ρ)) [] (a.or ready))
  (hall:∀ q a,(∀ i,i < n→go i = .next)→B n a→a q=none→ZU (F.mark q) dk ρ L (a.upd q .dfr))
  (hret:∀ q a m,m < n→(∀ i,i < m→go i = .next)→go m = .stop .ret→B (m + 1) a→a q=none→ZU (F.mark q) (.code .ret :: dk) ρ L (a.upd q .dfr))
  (hexit:∀ q a m id,m < n→(∀ i,i < m→go i = .next)→go m = .stop (.exit id)→B (m + 1) a→a q=none→ZU (F.mark q) (.code (.exit id) :: dk) ρ L (a.upd q .dfr))
  (hpan:∀ q a m d,m < n→(∀ i,i < m→go i = .next)→go m = .pan d→B (m + 1) a→a q=none→K2 (F.mark q) ρ L d (a.upd q .dfr))
  (hgo:∀ m c,go m = .stop c→c = .ret∨∃ id,c = .exit id) :
  ZU F (.code (.rangeF o ps da db) :: dk) ρ L (a0.or t):=by
 refine ZkL hF.roundOf hf hp ks hks fun q l r hq hl hql hr1 hr2 hr3 hca hcb hr4 hps=>?_
 have hq1:a0 q=none:=by cases h:a0 q with | none=>rfl | some x=>rw [Ya h] at hq; simp at hq
 have hl1:a0 l=none:=by cases h:a0 l with | none=>rfl | some x=>rw [Ya h] at hl; simp at hl
 have hq2:t q=none:=by rw [Yr hq1] at hq; exact hq
 have hl2:t l=none:=by rw [Yr hl1] at hl; exact hl
 let stOf:Nat→LSt:=fun j=>match j with
  | 0=>.ready
  | j + 1=>match go j with
   | .next=>.ready
   | .stop c=>.done c
   | .pan _=>.busy
 let A:Nat→St→Prop:=fun j S=>∃ a,B j a∧Wt a (lpS q l r .ready)∧S=a.or (lpS q l r (stOf j))
 have hd0:Wt a0 (lpS q l r .ready):=fun b o hb=>by
  by_cases h1:b=q
  ·rw [h1]; exact hq1
  ·by_cases h2:b=l
   ·rw [h2]; exact hl1
   ·rw [Zdn h1 h2] at hb; simp at hb
 have hst:(((a0.or t).upd q .dfr).upd l (.loop r .ready))=(a0.or (lpS q l r .ready)).or t:=by
  funext b
  simp only [St.upd]
  by_cases h2:b=l
  ·subst h2; rw [if_pos rfl,Ya (s:=a0.or _) (by rw [Yr hl1]; exact Q8 hql)]
  ·rw [if_neg h2]
   by_cases h1:b=q
   ·subst h1; rw [if_pos rfl,Ya (s:=a0.or _) (by rw [Yr hq1]; exact Zam)]
   ·rw [if_neg h1]
    cases ha:a0 b with
    | some x=>rw [Ya ha,Ya (Ya ha)]
    | none=>rw [Yr ha,Yr (s:=a0.or _) (by rw [Yr ha]; exact Zdn h1 h2)]
 have hd1:Wt (a0.or (lpS q l r .ready)) t:=fun b o hb=>by
  rw [Yr (hd b o hb)]
  exact Zdn (fun e=>by rw [e,hq2] at hb; simp at hb) (fun e=>by rw [e,hl2] at hb; simp at hb)
 have hex:=hF.ex
 have hcons:Zcd P (.fn (.yield l) [] []) n args go A:=by
  rintro j hj hnx S ⟨a,hBj,hda,rfl⟩
  have hsj:stOf j = .ready:=by
   cases j with
   | zero=>rfl
   | succ j=>simp only [stOf,hnx j (by omega)]
  rw [hsj]
  refine Zkt (an:=F.an) (N:=F.N) (r:=r) (by rw [Yr (hda l _ (Q8 hql))]; exact Q8 hql) (by rw [hr2]; exact hlen j hj) hca hcb hr4 (by rw [hr2]; exact hps) fun F' hF' hfn=>?_
  rw [hr1,hr2]
  refine hbody j a hj hnx hBj F' (lpS q l r .ready) (lpS q l r .busy) hda (fun hk=>hF'.begin (r:=r) (by rw [Yr (hda l _ (Q8 hql))]; exact Q8 hql) ?_) ?_
  ·have e:(a.or (lpS q l r .ready)).upd l (.loop r .busy)=a.or (lpS q l r .busy):=by
    funext b
    simp only [St.upd]
    by_cases h2:b=l
    ·subst h2; rw [if_pos rfl,Yr (hda b _ (Q8 hql)),Q8 hql]
    ·rw [if_neg h2]
     by_cases h1:b=q
     ·subst h1; rw [Yr (hda b _ Zam),Yr (hda b _ Zam),Zam,Zam]
     ·cases ha:a b with
      | some x=>rw [Ya ha,Ya ha]
      | none=>rw [Yr ha,Yr ha,Zdn h1 h2,Zdn h1 h2]
   rw [e]; exact hk (ZkO hda hql)
  ·refine Zme hF' hql (by rw [hfn,hr3]; exact hex) ?_
   rintro oc a' ⟨rfl,hB'⟩ hda'
   exact ⟨rfl,a',hB',ZkO hda' hql,rfl⟩
 refine ⟨_,by rw [hst]; exact hit _ go A _ hcons ⟨a0,h0,hd0,rfl⟩ hd1,?_,?_⟩
 ·rintro d S ⟨S',hend,hsub⟩
  have fin:∀ a,Wt a (lpS q l r .ready)→∀ st,(a.or (lpS q l r st)).sub S→S l=some (.loop r st)∧(a.upd q .dfr).sub (S.del l)∧a q=none:=fun a hda st hs=>by
   refine ⟨hs l _ (by rw [Yr (hda l _ (Q8 hql))]; exact Q8 hql),fun b o hb=>?_,hda q _ Zam⟩
   have hbl:b≠l:=fun e=>by
    subst e
    rw [St.upd_ne _ _ (Ne.symm hql),hda b _ (Q8 hql)] at hb; simp at hb
   simp only [St.del,hbl,if_false]
   by_cases h1:b=q
   ·subst h1; rw [St.upd_same] at hb; exact hs b o (by rw [Yr (hda b _ Zam),Zam]; exact hb)
   ·rw [St.upd_ne _ _ h1] at hb; exact hs b o (Ya hb)
  cases hend with
  | all h ha =>
   obtain ⟨a,hB,hda,rfl⟩:=ha
   have hsn:stOf n = .ready:=by
    cases n with
    | zero=>rfl
    | succ n=>simp only [stOf,h n (by omega)]
   rw [hsn] at hsub
   obtain ⟨f1,f2,f3⟩:=fin a hda _ hsub
   exact .inl ⟨f1,Qy f2 (hall q a h hB f3)⟩
  | stop m c hm h hc ha =>
   obtain ⟨a,hB,hda,rfl⟩:=ha
   have hsn:stOf (m + 1) = .done c:=by simp only [stOf,hc]
   rw [hsn] at hsub
   obtain ⟨f1,f2,f3⟩:=fin a hda _ hsub
   rcases hgo m c hc with rfl | ⟨id,rfl⟩
   ·exact .inr ⟨.ret,.ret,f1,rfl,Qy f2 (hret q a m hm h hc hB f3)⟩
   ·exact .inr ⟨.exit id,.exit id,f1,rfl,Qy f2 (hexit q a m id hm h hc hB f3)⟩
 ·rintro d S ⟨S',hend,hsub⟩
  cases hend with
  | pan m d hm h hc ha =>
   obtain ⟨a,hB,hda,rfl⟩:=ha
   have hs:(a.upd q .dfr).sub S:=fun b o hb=>by
    by_cases h1:b=q
    ·subst h1; rw [St.upd_same] at hb; exact hsub b o (by rw [Yr (hda b _ Zam),Zam]; exact hb)
    ·rw [St.upd_ne _ _ h1] at hb; exact hsub b o (Ya hb)
   exact Zm0 hs (hpan q a m d hm h hc hB (hda q _ Zam))
end
end Go.DL
namespace Go.DL
open Go Go.Lib
section
variable {P:Program}
theorem ZmO {F:Fr P} {kp:Option (List Nat)} {dk:List ZR} {o:DOp} {os:List DOp} {ρ:Env} {L:Loc} {s:St} (hg:Yd ρ o.guard=some true) {e sz b:Nat} {z:List D} {x y:Opd} (hk:o.k = .append e sz b z x y)
  {p q:Prop} {t:Tok} {n m:Nat} {row row2:Nat→List D} {dy:D} {dx:D} (hx:YC ρ true x=some (p,.d dx)) (hsl:Ze2 sz dx=some (t,n,row)) (hy:YC ρ true y=some (q,.d dy)) (hp:p) (hq:q) (hel:∀ g w v,Rep g w v dy→∃ news,QB g w sz m news row2∧ZcK P w sz m v news) (hok:t.okIn s)
  (hb:(n + m) * b≤140737488355328) (hbig:n + m≤big) (h:∀ t':Tok,t'.okIn s→DO F kp dk os (YT ρ o.dst (.d (.sl t' (n + m) sz (K0 n row row2)))) L (s.own t' ((n + m) * sz))) :
  DO F kp dk (o :: os) ρ L (s.own t (n * sz)):=by
 refine QD fun oo g ν w tmps ops i r k hoo hck hcg hdst hd hN M hr hkk=>?_
 have hw:=Ky M hcg hg
 have hnd:=KN hck (by rw [hk]; rfl)
 rw [hk] at hck
 obtain ⟨x',y',args,ats,t1,t2,tu,hop,hargs,ha1,ha2,hu1,hu2,hnu,hsz,hz,hbb,hx',hy',h0,hzl⟩:=Zkh hck
 subst hbb
 have hr1:Rep g w _ (.sl t n sz row):=ZmF (Kl M hx' rfl hx hp F.ds) hsl
 have hr2:Rep g w _ _:=Kl M hy' rfl hy hq F.ds
 obtain ⟨zv,hz1,hz2,hz3,ie,hie,hzz⟩:=Zca (g:=g) (w:=w) hz
 have hsize:ie.size=sz:=by simpa [Ws,hie] using hsz
 have hzlen:zv.cells.size=sz:=by have:=hz2.len; simp at this; omega
 have hby:P.bytesOf e=ie.bytes:=by simp [Program.bytesOf,hie]
 rw [hby] at hb
 obtain ⟨news,hn1,hn2⟩:=hel _ _ _ hr2
 obtain ⟨v',w',g',t',a1,a2,a3,a4,a5,a6,a7⟩:=ZnO (ty:=oo.type) hu1 hu2 hnu hie hzz hsize hzlen h0 M.st hok hr1 hn1 hn2 hb hbig
 have hne:∀ l cs,ZI L l=some cs→t≠.tip (ν l):=fun l cs hl ht=>by
  have:=M.locSt l cs hl
  rw [ht] at this
  simp [St.own,St.upd] at this
 have hsn:∀ l cs,ZI L l=some cs→s (ν l)=none:=fun l cs hl=>by
  cases hx:s (ν l) with
  | none=>rfl
  | some o=>have:=ZM (k:=n * sz) hok _ _ hx; rw [M.locSt l cs hl] at this; simp at this
 have mm:ZX g' ν w' tmps ρ L (s.own t' ((n + m) * sz)):=by
  refine ⟨a3,fun l cs hl=>(M.loc l cs hl).mono a2 (a6 (ν l) (M.loc l cs hl).lt (hne l cs hl)).1 (a6 (ν l) (M.loc l cs hl).lt (hne l cs hl)).2,fun l cs hl=>by rw [a2.keptEq]; exact M.locKept l cs hl,fun l cs hl=>?_,M.inj,fun t e he=>(M.env t e he).mono a2⟩
  cases t' with
  | tip b =>
   have:¬ ν l=b:=fun hb=>by
    rcases a7 b rfl with h1 | h1
    ·exact hne l cs hl (by rw [hb]; exact h1)
    ·have:=(M.loc l cs hl).lt; omega
   simp only [St.own,St.upd,this,if_false]; exact hsn l cs hl
  | _=>exact hsn l cs hl
 refine QW hN hoo hdst hd hw hnd (v:=v') (w':=w') (e:=.d (.sl t' (n + m) sz (K0 n row row2))) ?_ a2 mm a5 (h t' a4 ops r k hr hkk)
 have hae:args = #[x',y']:=by apply Array.ext'; simpa using hargs
 have hats:∀ vs,Builtin.append_ ats oo.type vs=Builtin.append_ #[t1,t2] oo.type vs:=fun vs=>by
  unfold Builtin.append_; simp [ha1,ha2]
 unfold execOp
 simp only [hop,hae,resolve,invoke,builtin,Sem.run_bind,Sem.run_pure,Result.andThen_ok,List.map_toArray,List.map_cons,List.map_nil,hats,a1]
theorem Zn8 {g:G} {w:World} {v:Value} {b off cap sz:Nat} (h:Rep g w v (.msl b off 0 cap sz)):∃ news,QB g w sz 0 news (fun _=>[])∧ZcK P w sz 0 v news:=by
 cases h with
 | mslx a _ _ _=>exact ⟨[],⟨by simp,fun i hi=>by omega,fun i j v d hi=>by omega,by simp⟩,fun w2=>by simp [Builtin.lenOf],fun w2 _=>by simp [Builtin.firstCells,loadCells,loadCellsFrom]⟩
 | msl _ _ _ _ _ hn hb=>exact ⟨[],⟨by simp,fun i hi=>by omega,fun i j v d hi=>by omega,by simp⟩,fun w2=>by simp [Builtin.lenOf],fun w2 _=>run_firstCells_some (P:=P) w2 sz 0 ⟨b,off,none⟩ 0 cap [] (by simp) (fun k v hv=>by simp at hv)⟩
theorem Zne {F:Fr P} {dk:List ZR} {ρ:Env} {L:Loc} {s:St} (t:Nat) {tk:Tok} {sz:Nat} {row:Nat→List D} (ht:Wh ρ t=some (.d (.sl tk 0 sz row))) (h1:ZU F dk ((t,.d .nilsl) :: ρ) L s)
  (h2:∀ b off cap,ZU F dk ((t,.d (.msl b off 0 cap sz)) :: ρ) L s):ZU F dk ρ L s:=by
 intro k hk g ν w tmps hN m
 have hr:Rep g w (tmps.getD t undef) (.sl tk 0 sz row):=m.env t _ ht
 have key:∀ d,Rep g w (tmps.getD t undef) d→ZX g ν w tmps ((t,.d d) :: ρ) L s:=fun d hd=>⟨m.st,m.loc,m.locKept,m.locSt,m.inj,fun t' e' he=>by
  simp only [Wh] at he
  split at he
  ·rename_i hx; subst hx; simp only [Option.some.injEq] at he; subst he; exact hd
  ·exact m.env t' e' he⟩
 generalize tmps.getD t undef=v at hr key
 cases hr with
 | sl0 a _ _ _ _ =>
  cases a with
  | none=>exact h1 k hk g ν w tmps hN (key _ .nilsl)
  | some a=>exact h2 0 0 0 k hk g ν w tmps hN (key _ (.mslx a 0 0 _))
 | sl b o n cap s row t f hl hc hp hr one ht hcap hb=>exact h2 b o cap k hk g ν w tmps hN (key _ (.msl _ _ _ _ _ hcap hb))
end
end Go.DL
namespace Go.DL
open Go
section
variable {P:Program}
theorem ZlQ {a:St} {q:Nat} {o:Kq} (h:a q=none):(a.or (St.single q o)).del q=a:=by
 funext b
 simp only [St.del]
 by_cases hb:b=q
 ·rw [if_pos hb,hb,h]
 ·rw [if_neg hb]
  cases ha:a b with
  | some x=>exact Ya ha
  | none=>rw [Yr ha]; exact JE _ hb
theorem KH.retM {F:Fr P} {rs:List RV} {Φ:Res→St→Prop} {dds:List DD} (hF:KH F rs Φ dds) {q:Nat} {a:St} {dk:List ZR} {ρ:Env} {L:Loc} (hq:a q=none) (h:Unw P dds none a (ZiG ρ L rs Φ)) :
  ZU (F.mark q) (.code .ret :: dk) ρ L (a.or (St.single q .dfr)) :=
 (hF.mark q).retU ⟨by rw [Yr hq]; exact KB _ _,by rw [ZlQ hq]; exact h⟩
theorem KH.ret1 {F:Fr P} {rs:List RV} {Φ:Res→St→Prop} (hF:KH F rs Φ []) {q:Nat} {a:St} {dk:List ZR} {ρ:Env} {L:Loc} (hq:a q=none) {p:Prop} {ds:List D} (d:D) (s':St) (h1:K3 ρ L a rs=some (p,ds)) (h2:p) (h3:(JF ds).Le d) (h4:s'.sub a) (h5:Φ (.ret d) s') :
  ZU (F.mark q) (.code .ret :: dk) ρ L (a.or (St.single q .dfr)):=hF.retM hq ⟨p,ds,d,s',h1,h2,h3,h4,h5⟩
theorem KH.fin1 {F:Fr P} {rs:List RV} {Φ:Res→St→Prop} (hF:KH F rs Φ []) {q:Nat} {a:St} {ρ:Env} {L:Loc} (hq:a q=none) {p:Prop} {ds:List D} (d:D) (s':St) (h1:K3 ρ L a rs=some (p,ds)) (h2:p) (h3:(JF ds).Le d) (h4:s'.sub a) (h5:Φ (.ret d) s') :
  ZU (F.mark q) [] ρ L (a.or (St.single q .dfr)) :=
 (hF.mark q).finU ⟨by rw [Yr hq]; exact KB _ _,by rw [ZlQ hq]; exact ⟨p,ds,d,s',h1,h2,h3,h4,h5⟩⟩
theorem KH.pan1 {F:Fr P} {rs:List RV} {Φ:Res→St→Prop} (hF:KH F rs Φ []) {q:Nat} {a:St} {ρ:Env} {L:Loc} {d:D} (hq:a q=none) (s':St) (h4:s'.sub a) (h5:Φ (.panic d) s'):K2 (F.mark q) ρ L d (a.or (St.single q .dfr)) :=
 (hF.mark q).panU ⟨by rw [Yr hq]; exact KB _ _,by rw [ZlQ hq]; exact ⟨d,s',D.Le.refl d,h4,h5⟩⟩
theorem Zkn {a t:St} (h:Wt a t) {q:Nat} {o:Kq} (ht:t q=some o):a q=none:=h q o ht
end
end Go.DL
namespace Go.DL
open Go
section
variable {P:Program}
theorem QO {F:Fr P} {dk:List ZR} {ρ:Env} {L:Loc} {s:St} {b:Nat} {ds ds':List D} (h:s b=some (.cells ds)) (hl:LeC ds ds') (k:ZU F dk ρ L (s.upd b (.cells ds'))):ZU F dk ρ L s:=by
 intro kk hk g ν w tmps hN m
 have hc:KR g w b ds:=m.st.obj b _ h
 exact k kk hk g ν w tmps hN ⟨m.st.updL (o:=.cells ds') (hc.le hl) (m.st.kept b _ h),m.loc,m.locKept,fun l cs hL=>by
  have hne:ν l≠b:=fun e=>by have:=m.locSt l cs hL; rw [e,h] at this; simp at this
  rw [St.upd_ne _ _ hne]; exact m.locSt l cs hL,m.inj,m.env⟩
end
end Go.DL
namespace Go.DL
open Go
section
variable {P:Program}
theorem Zp9 {s:St} {b:Nat} {o:Kq} (h:s b=none):(s.upd b o).del b=s:=by
 funext c
 simp only [St.del,St.upd]
 by_cases hc:c=b
 ·subst hc; simp [h]
 ·simp [hc]
theorem Zmc {F:Fr P} {dk:List ZR} {ρ:Env} {L:Loc} {s:St} (t:Nat) {b n cap sz:Nat} {ds:List D} {row:Nat→List D} (ht:Wh ρ t=some (.d (.msl b 0 n cap sz))) (hb:s b=some (.cells ds)) (hlen:n * sz≤ds.length)
  (hrow:∀ i,i < n→row i=(ds.drop (i * sz)).take sz) (k:ZU F dk ((t,.d (.sl .none n sz row)) :: ρ) L (s.del b)):ZU F dk ρ L s:=by
 intro kk hk g ν w tmps hN m
 have hc:KR g w b ds:=m.st.obj b _ hb
 have hnk:¬ g.kept b:=m.st.kept b _ hb
 have hlt:=hc.lt
 obtain ⟨hp0,vs,T,hh,hsz,hr,ho⟩:=hc
 have hx:Ext g w { g with prot:=fun c=>if c=b then ds.length else g.prot c } w:={
  size:=Nat.le_refl _
  prot:=fun c=>by
   simp only
   split
   ·rename_i h; subst h; omega
   ·exact Nat.le_refl _
  cell:=fun _ _ _=>rfl
  hdr:=fun _ _ h=>h
  kept:=fun _ _=>rfl
  keptProt:=fun c hc=>by
   simp only
   have hcb:c≠b:=fun e=>by rw [e] at hc; exact hnk hc
   rw [if_neg hcb]
  keptEq:=rfl
  os:=rfl
  output:=rfl
  tape:=rfl }
 have hpe:∀ c,c≠b→(if c=b then ds.length else g.prot c)=g.prot c:=fun c hc=>by rw [if_neg hc]
 refine F.T.ext _ _ _ _ _ hx (k kk hk _ ν w tmps hN ?_)
 refine ⟨⟨fun c x hx'=>?_,fun c x hx'=>?_,fun c hc=>?_⟩,fun l cs hl=>?_,m.locKept,fun l cs hl=>?_,m.inj,fun t' e he=>?_⟩
 ·simp only [St.del] at hx'
  by_cases hc:c=b
  ·simp [hc] at hx'
  ·simp only [hc,if_false] at hx'; exact (m.st.obj c x hx').mono hx rfl (hpe c hc)
 ·simp only [St.del] at hx'
  by_cases hc:c=b
  ·simp [hc] at hx'
  ·simp only [hc,if_false] at hx'; exact m.st.kept c x hx'
 ·have:=m.st.fresh c hc
  exact ⟨(hpe c (by omega)).trans this.1,this.2⟩
 ·have hne:ν l≠b:=fun h=>by have:=m.locSt l cs hl; rw [h,hb] at this; simp at this
  exact (m.loc l cs hl).mono hx rfl (hpe _ hne)
 ·simp only [St.del]
  split
  ·rfl
  ·exact m.locSt l cs hl
 ·by_cases htt:t=t'
  ·subst htt
   simp only [Wh,if_true,Option.some.injEq] at he
   subst he
   have hrep:Rep g w _ (.msl b 0 n cap sz):=m.env t _ ht
   generalize tmps.getD t undef=v at hrep
   show Rep _ w v _
   cases hrep with
   | mslx a _ _ _=>exact .sl0 _ _ _ _ (by simp)
   | msl _ _ _ _ _ hcap hbig =>
   have hin:∀ i j,i < n→j < sz→i * sz + j < ds.length:=fun i j hi hj=>by
    have:(i + 1) * sz≤n * sz:=Nat.mul_le_mul_right _ hi
    rw [Nat.add_mul,Nat.one_mul] at this
    omega
   refine .sl b 0 n cap sz row .none (fun i j=>vs.getD (i * sz + j) undef) (fun i hi=>?_) (fun i j hi hj=>?_) (fun i j hi hj=>?_) (fun i j d hi hd=>?_) (fun i j hi hj=>?_) trivial hcap hbig
   ·rw [hrow i hi,List.length_take,List.length_drop]
    have:(i + 1) * sz≤n * sz:=Nat.mul_le_mul_right _ hi
    rw [Nat.add_mul,Nat.one_mul] at this
    omega
   ·have h1:=hin i j hi hj
    simp only [World.cell?,hh,Nat.zero_add,Option.isSome_none,Bool.false_eq_true,if_false]
    simp only [Array.getD_eq_getD_getElem?,Array.getElem?_eq_getElem (show i * sz + j < vs.size by omega),Option.getD_some]
   ·simp only [if_true]; have:=hin i j hi hj; omega
   ·rw [hrow i hi] at hd
    rw [List.getElem?_take] at hd
    split at hd
    ·rename_i hj
     rw [List.getElem?_drop] at hd
     have h1:=hin i j hi hj
     refine Rep.mono (hr (i * sz + j) _ d ?_ hd) hx
     simp only [Array.getD_eq_getD_getElem?,Array.getElem?_eq_getElem (show i * sz + j < vs.size by omega),Option.getD_some]
    ·simp at hd
   ·have h1:=hin i j hi hj
    refine ho _ ?_
    simp only [Array.getD_eq_getD_getElem?,Array.getElem?_eq_getElem (show i * sz + j < vs.size by omega),Option.getD_some]
    exact Array.getElem_mem _
  ·simp only [Wh,htt,if_false] at he
   exact (m.env t' e he).mono hx
end
end Go.DL
namespace Go.DL
open Go
theorem ZnF {s:Nat} {cs:List D} {r:Nat→List D}:∀ {len:Nat},cs.length=len * s→(∀ i,i < len→part cs (i * s) s=r i)→cs=(List.range len).flatMap r:=by
 intro len hl hr
 have key:∀ k,k≤len→cs.take (k * s)=(List.range k).flatMap r:=by
  intro k
  induction k with
  | zero=>intro _; simp
  | succ k ih =>
   intro hk
   rw [List.range_succ,List.flatMap_append,← ih (by omega),Nat.add_mul,Nat.one_mul,List.take_add]
   congr 1
   simp only [List.flatMap_cons,List.flatMap_nil,List.append_nil]
   rw [← hr k hk]; rfl
 have:=key len (Nat.le_refl _)
 rw [← hl,List.take_length] at this; exact this
section
variable {P:Program}
theorem Zqk {g:G} {w:World} {len s:Nat} {z:List D} {t e:TypeId} {parts:List (Nat × Value)} {ds:List D} (hu:P.underlying t=some (.slice e)) (hsz:Ws P e=some s) (hz:ZaJ P e=some z)
  (hdis:Ja len (parts.map (·.1))=true) (hzl:z.length=s) (hs0:0 < s) (hbig:len * s≤2 ^ 24) (hl0:0 < len) (hd:YQ (Rep g w) (parts.map (·.2)) ds) (hp:JU s ds=true) :
  ∃ cv:Array Value,(Instr.buildSlice t len parts.toArray).run P w = .ok (.slice (some ⟨w.heap.size,0,none⟩) len len) (w.alloc (.cells cv e)) ∧
   YQ (Rep g w) cv.toList ((List.range len).flatMap (Wu z ((parts.map (·.1)).zip ds)))∧∀ v∈cv,v.one1=true:=by
 obtain ⟨zv,hz1,hz2,hz3,ie,hie,hzz⟩:=Zca (g:=g) (w:=w) hz
 have hsize:ie.size=s:=by simpa [Ws,hie] using hsz
 have hzlen:zv.cells.size=s:=by have:=hz2.len; simp at this; omega
 have hn:(parts.map (·.1)).length=ds.length:=by have:=hd.len; simpa using this
 let c0:Array Value:=(Array.range (len * s)).map (zv.cells[· % zv.cells.size]!)
 let d0:List D:=(List.range (len * s)).map fun i=>z.getD (i % s) .undef
 have hrep0:YQ (Rep g w) c0.toList d0:=by
  refine Kv (by simp [c0,d0]) (fun i v d hv hd=>?_)
  simp only [c0,d0,Array.toList_map,Array.toList_range,List.getElem?_map,Option.map_eq_some_iff] at hv hd
  obtain ⟨a,ha,rfl⟩:=hv
  obtain ⟨b,hb,rfl⟩:=hd
  rw [ha] at hb
  simp only [Option.some.injEq] at hb
  subst hb
  have hlt:a % s < s:=Nat.mod_lt _ hs0
  refine hz2.get (a % s) _ _ ?_ ?_
  ·rw [hzlen]; simp [getElem!_pos,hzlen,hlt]
  ·simp [List.getD,hzl,hlt]
 have hone0:∀ v∈c0,v.one1=true:=fun v hv=>by
  simp only [c0,Array.mem_map] at hv
  obtain ⟨a,_,rfl⟩:=hv
  have hlt:a % zv.cells.size < zv.cells.size:=Nat.mod_lt _ (by omega)
  rw [getElem!_pos zv.cells (a % zv.cells.size) hlt]
  exact hz3 _ (Array.getElem_mem hlt)
 have hlen0:d0.length=len * s:=by simp [d0]
 obtain ⟨cs,hfill,hcl,hrows⟩:=Zgh (parts.map (·.1)) ds d0 hdis hn hp hlen0
 obtain ⟨cv,hf1,hf2,hf3⟩:=Zer (g:=g) (w:=w) (fun i=>some (i * s,s)) parts ((parts.map (·.1)).map fun i=>(i * s,s)) ds cs d0 c0 (fun i x q hx hq=>by
  simp only [List.map_map,List.getElem?_map,hx,Option.map_some,Option.some.injEq,Function.comp_def] at hq
  rw [← hq]) (by simp) hd hrep0 hone0 hfill
 have hpos:¬ len * s=0:=by simp [Nat.mul_eq_zero]; omega
 have hrun:=run_buildSlice (P:=P) w t e len parts.toArray cv ie zv hu hie hzz (by rw [hsize]; omega) (by rw [hsize]; exact hpos) (by rw [hsize]; exact hf1)
 refine ⟨cv,hrun,?_,hf3⟩
 have:cs=(List.range len).flatMap (Wu z ((parts.map (·.1)).zip ds)):=ZnF hcl fun i hi=>by
  rw [hrows i hi]
  have hzp:part d0 (i * s) s=z:=Zga hzl hs0 hi
  rw [hzp]
 rw [← this]; exact hf2
theorem Zqd {F:Fr P} {kp:Option (List Nat)} {dk:List ZR} {o:DOp} {os:List DOp} {ρ:Env} {L:Loc} {s:St} (hg:Yd ρ o.guard=some true) {len n:Nat} {z:List D} {is:List Nat} {xs:List Opd}
  (hk:o.k = .bsl len n z is xs) {p:Prop} {es:List E} {ds:List D} (ha:Kn ρ true xs=some (p,es)) (hds:Qn es=some ds) (hp:p) (hok:JU n ds=true) (hl0:0 < len)
  (h:∀ b,s b=none→DO F kp dk os (YT ρ o.dst (.d (.msl b 0 len len n))) L (s.upd b (.cells ((List.range len).flatMap (Wu z (is.zip ds)))))):DO F kp dk (o :: os) ρ L s:=by
 refine QD fun oo g ν w tmps ops i r k hoo hck hcg hdst hd hN m hr hkk=>?_
 have hw:=Ky m hcg hg
 have hnd:=KN hck (by rw [hk]; rfl)
 rw [hk] at hck
 obtain ⟨t,e,parts,hop,hu,hsz,hz,hxs,rfl,hdis,hzl,hs0,hbig⟩:=ZnX hck
 have hargs:=Zdk m rfl F.ds hxs ha hp
 have hreps:=Jk hargs hds
 obtain ⟨cv,h1,h2,h3⟩:=Zqk (P:=P) (g:=g) (w:=w) (parts:=parts.toList.map fun x=>(x.1,(Act.mk tmps F.ds).eval x.2)) hu hsz hz (by simpa [List.map_map,Function.comp_def] using hdis) hzl hs0 hbig hl0
  (by simpa [List.map_map,Function.comp_def] using hreps) hok
 have h2':YQ (Rep g w) cv.toList ((List.range len).flatMap (Wu z ((parts.toList.map (·.1)).zip ds))):=by simpa [List.map_map,Function.comp_def] using h2
 have hgr:=Zcc (g:=g) (w:=w) (.cells cv e) m.st.fresh
 have he:=hgr.ext m.st.fresh
 have hob:Qr g (w.alloc (.cells cv e)) w.heap.size (.cells ((List.range len).flatMap (Wu z ((parts.toList.map (·.1)).zip ds)))) :=
  ⟨(m.st.fresh _ (Nat.le_refl _)).1,_,e,ZaC w _,by rw [← h2'.len]; simp,fun i v d hv hd=>(h2'.get i v d (by simpa using hv) hd).mono he,h3⟩
 obtain ⟨hn,m'⟩:=m.newObj hgr hob
 have hrun:(execOp (Act.mk tmps F.ds).eval oo).run P w = .ok (.value (.slice (some ⟨w.heap.size,0,none⟩) len len)) (w.alloc (.cells cv e)):=by
  simp only [execOp,hop,Sem.run_bind]
  have e1:(parts.map fun x=>(x.1,(Act.mk tmps F.ds).eval x.2))=(parts.toList.map fun x=>(x.1,(Act.mk tmps F.ds).eval x.2)).toArray:=by apply Array.ext'; simp
  rw [e1,h1]
  rfl
 refine QW (L':=L) hN hoo hdst hd hw hnd (e:=.d (.msl w.heap.size 0 len len n)) hrun he m' (Rep.msl _ _ _ _ _ (Nat.le_refl _) ?_) ?_
 ·unfold big
  have:len≤len * n:=Nat.le_mul_of_pos_right _ hs0
  omega
 ·exact h _ hn ops r k hr hkk
def ZgS (o:DOp) (ρ:Env) (L:Loc) (s:St):SR :=
 match o.k with
 | .bsl _ _ _ _ _=>.stop
 | _=>YK o ρ L s
def Ze4 (K:Env→Loc→St→Prop) (X:List DOp→Env→Loc→St→Prop):List DOp→Env→Loc→St→Prop
 | [],ρ,L,s=>K ρ L s
 | o :: os,ρ,L,s=>match ZgS o ρ L s with
  | .ok side ρ' L' s'=>side∧Ze4 K X os ρ' L' s'
  | .all side pre ρ' s'=>side∧∀ b,pre b→Ze4 K X os (ρ' b) L (s' b)
  | .stop=>X (o :: os) ρ L s
theorem Zes {F:Fr P} {kp:Option (List Nat)} {dk:List ZR}:∀ {os:List DOp} {ρ:Env} {L:Loc} {s:St},
  Ze4 (fun ρ L s=>ZU F dk (kept kp ρ) (Zjm kp ρ L) s) (fun os ρ L s=>DO F kp dk os ρ L s) os ρ L s→DO F kp dk os ρ L s
 | [],ρ,L,s,h=>ZkU h
 | o :: os,ρ,L,s,h=>by
  have hst:∀ r,ZgS o ρ L s=r→r = .stop∨YK o ρ L s=r:=fun r hr=>by
   unfold ZgS at hr
   split at hr
   ·exact .inl hr.symm
   ·exact .inr hr
  simp only [Ze4] at h
  split at h
  ·rename_i sd ρ' L' s' h1
   rcases hst _ h1 with h2 | h2
   ·cases h2
   ·exact Zdh h2 h.1 (Zes h.2)
  ·rename_i sd pre ρ' s' h1
   rcases hst _ h1 with h2 | h2
   ·cases h2
   ·exact ZlT h2 h.1 fun b hb=>Zes (h.2 b hb)
  ·exact h
end
end Go.DL
namespace Go.DL
open Go
def ZpF (g:G) (w:World) (b:Nat) (ds:List D):Prop :=
 ∃ (vs:Array Value) (T:TypeId),w.heap[b]? = some (.cells vs T (0,0))∧vs.size=ds.length∧(∀ (i:Nat) (v:Value) (d:D),vs[i]? = some v→ds[i]? = some d→Rep g w v d)∧(∀ v∈vs,v.one1=true)∧ds.length≤g.prot b
def ZcX (t:St) (Ln:List Nat) (d d':D):Prop:=∀ g w v,(∀ b∈Ln,∀ ds,t b=some (.cells ds)→ZpF g w b ds)→Rep g w v d→Rep g w v d'
inductive LdC (t:St) (Ln:List Nat):List D→List D→Prop where
 | nil:LdC t Ln [] []
 | cons {d d':D} {l l':List D} (h:ZcX t Ln d d') (r:LdC t Ln l l'):LdC t Ln (d :: l) (d' :: l')
theorem ZcX.refl {t:St} {Ln:List Nat} (d:D):ZcX t Ln d d:=fun _ _ _ _ h=>h
theorem LdC.refl {t:St} {Ln:List Nat}:∀ l:List D,LdC t Ln l l
 | []=>.nil
 | d :: l=>.cons (ZcX.refl d) (LdC.refl l)
theorem LdC.len {t:St} {Ln:List Nat} {l l':List D} (h:LdC t Ln l l'):l.length=l'.length:=by
 induction h with
 | nil=>rfl
 | cons _ _ ih=>simp [ih]
theorem LdC.get {t:St} {Ln:List Nat} {l l':List D} (h:LdC t Ln l l') {i:Nat} {d':D} (hi:l'[i]? = some d'):∃ d,l[i]? = some d∧ZcX t Ln d d':=by
 induction h generalizing i with
 | nil=>simp at hi
 | cons h1 _ ih =>
  cases i with
  | zero=>simp at hi; subst hi; exact ⟨_,rfl,h1⟩
  | succ i=>simpa using ih (by simpa using hi)
theorem ZcX.msl {t:St} {Ln:List Nat} {b n cap sz:Nat} {ds:List D} {row:Nat→List D} (hb:b∈Ln) (ht:t b=some (.cells ds)) (hlen:n * sz≤ds.length)
  (hrow:∀ i,i < n→LdC t Ln ((ds.drop (i * sz)).take sz) (row i)):ZcX t Ln (.msl b 0 n cap sz) (.sl .none n sz row):=by
 intro g w v hf hr
 obtain ⟨vs,T,hh,hsz,hc,one,hp⟩:=hf b hb ds ht
 cases hr with
 | mslx a _ _ _=>exact .sl0 _ _ _ _ (by simp)
 | msl _ _ _ _ _ hcap hbig =>
 have hin:∀ i j,i < n→j < sz→i * sz + j < ds.length:=fun i j hi hj=>by
  have:(i + 1) * sz≤n * sz:=Nat.mul_le_mul_right _ hi
  rw [Nat.add_mul,Nat.one_mul] at this
  omega
 have hget:∀ i j,i < n→j < sz→vs[i * sz + j]? = some (vs.getD (i * sz + j) undef):=fun i j hi hj=>by
  have h1:=hin i j hi hj
  simp only [Array.getD_eq_getD_getElem?,Array.getElem?_eq_getElem (show i * sz + j < vs.size by omega),Option.getD_some]
 have hmem:∀ i j,i < n→j < sz→vs.getD (i * sz + j) undef∈vs:=fun i j hi hj=>by
  have h1:=hin i j hi hj
  simp only [Array.getD_eq_getD_getElem?,Array.getElem?_eq_getElem (show i * sz + j < vs.size by omega),Option.getD_some]
  exact Array.getElem_mem _
 have hrl:∀ i,i < n→(row i).length=sz:=fun i hi=>by
  rw [← (hrow i hi).len,List.length_take,List.length_drop]
  have:(i + 1) * sz≤n * sz:=Nat.mul_le_mul_right _ hi
  rw [Nat.add_mul,Nat.one_mul] at this
  omega
 refine .sl b 0 n cap sz row .none (fun i j=>vs.getD (i * sz + j) undef) hrl (fun i j hi hj=>?_) (fun i j hi hj=>?_) (fun i j d hi hd=>?_) (fun i j hi hj=>one _ (hmem i j hi hj)) trivial hcap hbig
 ·rw [Nat.zero_add,Zbo hh]; exact hget i j hi hj
 ·have:=hin i j hi hj; omega
 ·have hj:j < sz:=by rw [← hrl i hi]; exact (List.getElem?_eq_some_iff.1 hd).1
  obtain ⟨x,hx,hle⟩:=(hrow i hi).get hd
  rw [List.getElem?_take,if_pos hj,List.getElem?_drop] at hx
  exact hle g w _ hf (hc _ _ x (hget i j hi hj) hx)
inductive LdE (t:St) (Ln:List Nat):Env→Env→Prop where
 | nil:LdE t Ln [] []
 | cons {k:Nat} {d d':D} {ρ ρ':Env} (h:ZcX t Ln d d') (r:LdE t Ln ρ ρ'):LdE t Ln ((k,.d d) :: ρ) ((k,.d d') :: ρ')
 | skip {k:Nat} {e:E} {ρ ρ':Env} (r:LdE t Ln ρ ρ'):LdE t Ln ((k,e) :: ρ) ((k,e) :: ρ')
inductive LdL (t:St) (Ln:List Nat):Loc→Loc→Prop where
 | nil:LdL t Ln [] []
 | cons {k:Nat} {c c':List D} {L L':Loc} (h:LdC t Ln c c') (r:LdL t Ln L L'):LdL t Ln ((k,c) :: L) ((k,c') :: L')
theorem LdE.refl {t:St} {Ln:List Nat}:∀ ρ:Env,LdE t Ln ρ ρ
 | []=>.nil
 | _ :: ρ=>.skip (LdE.refl ρ)
theorem LdE.get {t:St} {Ln:List Nat} {ρ ρ':Env} (h:LdE t Ln ρ ρ') {k:Nat} {e':E} (he:Wh ρ' k=some e'):∃ e,Wh ρ k=some e∧(e=e'∨∃ x y,e = .d x∧e' = .d y∧ZcX t Ln x y):=by
 induction h with
 | nil=>simp [Wh] at he
 | cons h1 _ ih =>
  rename_i k' d d' ρ ρ' _
  simp only [Wh] at he ⊢
  by_cases hk:k'=k
  ·simp only [hk,if_true,Option.some.injEq] at he ⊢
   exact ⟨_,rfl,.inr ⟨d,d',rfl,he.symm,h1⟩⟩
  ·simp only [hk,if_false] at he ⊢; exact ih he
 | skip _ ih =>
  rename_i k' e ρ ρ' _
  simp only [Wh] at he ⊢
  by_cases hk:k'=k
  ·simp only [hk,if_true,Option.some.injEq] at he ⊢
   exact ⟨_,rfl,.inl he⟩
  ·simp only [hk,if_false] at he ⊢; exact ih he
theorem LdL.get {t:St} {Ln:List Nat} {L L':Loc} (h:LdL t Ln L L') {k:Nat} {c':List D} (he:ZI L' k=some c'):∃ c,ZI L k=some c∧LdC t Ln c c':=by
 induction h with
 | nil=>simp [ZI] at he
 | cons h1 _ ih =>
  rename_i k' c c' L L' _
  simp only [ZI] at he ⊢
  by_cases hk:k'=k
  ·simp only [hk,if_true,Option.some.injEq] at he ⊢; exact ⟨_,rfl,he ▸ h1⟩
  ·simp only [hk,if_false] at he ⊢; exact ih he
theorem LdL.getI {t:St} {Ln:List Nat} {L L':Loc} (h:LdL t Ln L L') {k:Nat} {c:List D} (he:ZI L k=some c):∃ c',ZI L' k=some c':=by
 induction h with
 | nil=>simp [ZI] at he
 | cons h1 _ ih =>
  rename_i k' c c' L L' _
  simp only [ZI] at he ⊢
  by_cases hk:k'=k
  ·simp only [hk,if_true]; exact ⟨_,rfl⟩
  ·simp only [hk,if_false] at he ⊢; exact ih he
def St.delL (s:St) (Ln:List Nat):St:=fun b=>if b∈Ln then none else s b
def ZhU (g:G) (t:St) (Ln:List Nat):G:={ g with prot:=fun b=>if b∈Ln then (match t b with | some (.cells ds)=>ds.length | _=>0) else g.prot b }
theorem ZlF {g:G} {w:World} {t:St} {Ln:List Nat} (hs:Kg g t w) (hL:∀ b∈Ln,∃ ds,t b=some (.cells ds)):Ext g w (ZhU g t Ln) w:={
 size:=Nat.le_refl _
 prot b:=by
  simp only [ZhU]
  split
  ·rename_i h
   obtain ⟨ds,hd⟩:=hL b h
   have:=(hs.obj b _ hd).1
   omega
  ·exact Nat.le_refl _
 cell _ _ _:=rfl
 hdr _ _ h:=h
 kept _ _:=rfl
 keptProt b hb:=by
  simp only [ZhU]
  split
  ·rename_i h
   obtain ⟨ds,hd⟩:=hL b h
   exact absurd hb (hs.kept b _ hd)
  ·rfl
 keptEq:=rfl
 os:=rfl
 output:=rfl
 tape:=rfl }
theorem ZpS {g:G} {w:World} {t:St} {Ln:List Nat} (hs:Kg g t w) (hL:∀ b∈Ln,∃ ds,t b=some (.cells ds)):∀ b∈Ln,∀ ds,t b=some (.cells ds)→ZpF (ZhU g t Ln) w b ds:=by
 intro b hb ds hd
 obtain ⟨hp,vs,T,h1,h2,h3,h4⟩:=hs.obj b _ hd
 exact ⟨vs,T,h1,h2,fun i v d hv hdd=>(h3 i v d hv hdd).mono (ZlF hs hL),h4,by simp only [ZhU,if_pos hb,hd]; exact Nat.le_refl _⟩
section
variable {P:Program}
theorem Zlh {F:Fr P} {dk:List ZR} {ρ ρ':Env} {L L':Loc} {s:St} (Ln:List Nat) (hL:∀ b∈Ln,∃ ds,s b=some (.cells ds)) (hE:LdE s Ln ρ ρ') (hLL:LdL s Ln L L') (k:ZU F dk ρ' L' (s.delL Ln)):ZU F dk ρ L s:=by
 intro kk hk g ν w tmps hN m
 have hx:=ZlF m.st hL
 have hat:=ZpS m.st hL
 have hpe:∀ c,c ∉ Ln→(ZhU g s Ln).prot c=g.prot c:=fun c hc=>by simp only [ZhU,if_neg hc]
 refine F.T.ext _ _ _ _ _ hx (k kk hk _ ν w tmps hN ?_)
 have hne:∀ l cs,ZI L l=some cs→ν l ∉ Ln:=fun l cs hl h=>by
  obtain ⟨ds,hd⟩:=hL _ h
  have:=m.locSt l cs hl
  rw [hd] at this; simp at this
 refine ⟨⟨fun c x hx'=>?_,fun c x hx'=>?_,fun c hc=>?_⟩,fun l cs hl=>?_,fun l cs hl=>?_,fun l cs hl=>?_,fun l l' cs cs' h1 h2=>?_,fun t' e he=>?_⟩
 ·simp only [St.delL] at hx'
  by_cases hc:c∈Ln
  ·simp [hc] at hx'
  ·simp only [hc,if_false] at hx'; exact (m.st.obj c x hx').mono hx rfl (hpe c hc)
 ·simp only [St.delL] at hx'
  by_cases hc:c∈Ln
  ·simp [hc] at hx'
  ·simp only [hc,if_false] at hx'; exact m.st.kept c x hx'
 ·have h1:=m.st.fresh c hc
  refine ⟨(hpe c fun h=>?_).trans h1.1,h1.2⟩
  obtain ⟨ds,hd⟩:=hL c h
  have:=(m.st.obj c _ hd).lt
  omega
 ·obtain ⟨c,hc,hle⟩:=hLL.get hl
  have hc0:=(m.loc l c hc).mono hx rfl (hpe _ (hne l c hc))
  obtain ⟨h1,vs,T,h2,h3,h4,h5⟩:=hc0
  refine ⟨h1,vs,T,h2,h3.trans hle.len,fun i v d hv hd=>?_,h5⟩
  obtain ⟨x,hx1,hx2⟩:=hle.get hd
  exact hx2 _ w v hat (h4 i v x hv hx1)
 ·obtain ⟨c,hc,_⟩:=hLL.get hl; exact m.locKept l c hc
 ·obtain ⟨c,hc,_⟩:=hLL.get hl
  simp only [St.delL]
  split
  ·rfl
  ·exact m.locSt l c hc
 ·obtain ⟨c,hc,_⟩:=hLL.get h1
  obtain ⟨c',hc',_⟩:=hLL.get h2
  exact m.inj l l' c c' hc hc'
 ·obtain ⟨e0,h0,h1⟩:=hE.get he
  have hr:=m.env t' e0 h0
  rcases h1 with h1 | ⟨x,y,h1,h2,h3⟩
  ·subst h1
   exact (hr.mono hx).locs fun l cs hl=>⟨(hLL.getI hl),rfl⟩
  ·subst h1; subst h2
   exact h3 _ w _ hat (Rep.mono hr hx)
end
end Go.DL
namespace Go.DL
open Go
set_option linter.defProp false
def Eqs:=And.intro (And.intro (And.intro (And.intro (And.intro (And.intro (And.intro (And.intro @Option.mem_def.{0} @Option.some.injEq.{0}) (And.intro @forall_eq'.{1} @forall_eq'.{0})) (And.intro (And.intro @false_implies @decide_true) (And.intro (@Int.sub_zero) (And.intro @Int.sub_self @ZqO)))) (And.intro (And.intro (And.intro @Zq2 @ZqQ) (And.intro (@ZqB) (And.intro @ZqY @and_assoc))) (And.intro (And.intro @Int.toNat_zero @Bool.not_not) (And.intro (@ZpG) (And.intro @Zqw @implies_true.{1}))))) (And.intro (And.intro (And.intro (And.intro @implies_true.{0} @true_and) (And.intro @and_true @and_self)) (And.intro (And.intro @List.drop_zero.{0} @List.drop_succ_cons.{0}) (And.intro (@List.take_succ_cons.{0}) (And.intro @List.take_zero.{0} @List.take_nil.{0})))) (And.intro (And.intro (And.intro @Option.map_some.{0,0} @Option.map_none.{0,0}) (And.intro (@Option.isSome_some.{0}) (And.intro @Option.isSome_none.{0} @Option.getD_some.{0}))) (And.intro (And.intro @Option.getD_none.{0} @List.flatMap_cons.{0,0}) (And.intro (@List.flatMap_nil.{0,0}) (And.intro @List.append_nil.{0} @List.nil_append.{0})))))) (And.intro (And.intro (And.intro (And.intro (And.intro @List.cons_append.{0} @List.getElem?_cons_zero.{0}) (And.intro @List.getElem?_cons_succ.{0} @List.length_cons.{0})) (And.intro (And.intro @List.length_nil.{0} @Nat.zero_add) (And.intro (@Nat.add_zero) (And.intro @Int.toNat_natCast @forall_const.{1})))) (And.intro (And.intro (And.intro @forall_const.{0} @imp_self) (And.intro (@Bool.and_true) (And.intro @Bool.true_and @Bool.cond_false_right))) (And.intro (And.intro @Bool.false_eq_true @Bool.not_true) (And.intro (@Bool.not_false) (And.intro @if_true_right @ZfT.eq_1))))) (And.intro (And.intro (And.intro (And.intro @ZfT.eq_2 @Zfm.eq_1) (And.intro @Zfm.eq_2 @Za2.eq_1)) (And.intro (And.intro @Za2.eq_2 @Za2.eq_3) (And.intro (@Zcw.eq_1) (And.intro @Zcw.eq_2 @Zcw.eq_3)))) (And.intro (And.intro (And.intro @YK.eq_1 @Jq.eq_1) (And.intro (@Jq.eq_2) (And.intro @Jq.eq_3 @Jg.eq_1))) (And.intro (And.intro @JQ.eq_1 @KI.eq_1) (And.intro (@JW.eq_1) (And.intro @JW.eq_2 @JW.eq_3))))))) (And.intro (And.intro (And.intro (And.intro (And.intro (And.intro @JW.eq_4 @QE.eq_1) (And.intro @QE.eq_2 @QE.eq_3)) (And.intro (And.intro @QE.eq_4 @QE.eq_5) (And.intro (@Qb.eq_1) (And.intro @Qb.eq_2 @Qb.eq_3)))) (And.intro (And.intro (And.intro @Qb.eq_4 @Qb.eq_5) (And.intro (@Qb.eq_6) (And.intro @KO.eq_1 @QG.eq_1))) (And.intro (And.intro @QG.eq_2 @QG.eq_3) (And.intro (@Qp.eq_1) (And.intro @JJ.eq_1 @QU.eq_1))))) (And.intro (And.intro (And.intro (And.intro @QU.eq_2 @QU.eq_3) (And.intro @Ke.eq_1 @Ke.eq_2)) (And.intro (And.intro @Zal.eq_1 @Zal.eq_2) (And.intro (@Zal.eq_3) (And.intro @Zal.eq_4 @Zal.eq_5)))) (And.intro (And.intro (And.intro @Zal.eq_6 @Zal.eq_7) (And.intro (@Zal.eq_8) (And.intro @Zal.eq_9 @Zal.eq_10))) (And.intro (And.intro @Zal.eq_11 @Yd.eq_1) (And.intro (@Yd.eq_2) (And.intro @YC.eq_1 @YC.eq_2)))))) (And.intro (And.intro (And.intro (And.intro (And.intro @Kn.eq_1 @Kn.eq_2) (And.intro @Wh.eq_1 @Wh.eq_2)) (And.intro (And.intro @qv.eq_1 @qv.eq_2) (And.intro (@qv.eq_3) (And.intro @qv.eq_4 @qv.eq_5)))) (And.intro (And.intro (And.intro @qv.eq_6 @qv.eq_7) (And.intro (@qv.eq_8) (And.intro @qv.eq_9 @qv.eq_10))) (And.intro (And.intro @qv.eq_11 @qv.eq_12) (And.intro (@qv.eq_13) (And.intro @qv.eq_14 @qv.eq_15))))) (And.intro (And.intro (And.intro (And.intro @qv.eq_16 @qv.eq_17) (And.intro (@qv.eq_18) (And.intro @qv.eq_19 @qv.eq_20))) (And.intro (And.intro @qv.eq_21 @qv.eq_22) (And.intro (@qv.eq_23) (And.intro @qv.eq_24 @qv.eq_25)))) (And.intro (And.intro (And.intro @qv.eq_26 @qv.eq_27) (And.intro (@qv.eq_28) (And.intro @qv.eq_29 @qv.eq_30))) (And.intro (And.intro @qv.eq_31 @qv.eq_32) (And.intro (@qv.eq_33) (And.intro @qv.eq_34 @qv.eq_35)))))))) (And.intro (And.intro (And.intro (And.intro (And.intro (And.intro (And.intro @qv.eq_36 @qv.eq_37) (And.intro @qv.eq_38 @qv.eq_39)) (And.intro (And.intro @qv.eq_40 @qv.eq_41) (And.intro (@qv.eq_42) (And.intro @qv.eq_43 @qv.eq_44)))) (And.intro (And.intro (And.intro @qv.eq_45 @qv.eq_46) (And.intro (@qv.eq_47) (And.intro @qv.eq_48 @qv.eq_49))) (And.intro (And.intro @qv.eq_50 @YT.eq_1) (And.intro (@YT.eq_2) (And.intro @kept.eq_1 @kept.eq_2))))) (And.intro (And.intro (And.intro (And.intro @Zjm.eq_1 @Zjm.eq_2) (And.intro @KV.eq_1 @KV.eq_2)) (And.intro (And.intro @Zb4.eq_1 @Zar.eq_1) (And.intro (@Zar.eq_2) (And.intro @JH.eq_1 @JH.eq_2)))) (And.intro (And.intro (And.intro @JH.eq_3 @ZI.eq_1) (And.intro (@ZI.eq_2) (And.intro @Zel.eq_1 @Zd1.eq_1))) (And.intro (And.intro @Zan.eq_1 @Zan.eq_2) (And.intro (@ZbU.eq_1) (And.intro @ZbU.eq_2 @ZbU.eq_3)))))) (And.intro (And.intro (And.intro (And.intro (And.intro @ZbU.eq_4 @ZbU.eq_5) (And.intro @JN.eq_1 @JN.eq_2)) (And.intro (And.intro @JN.eq_3 @JN.eq_4) (And.intro (@JN.eq_5) (And.intro @JN.eq_6 @JN.eq_7)))) (And.intro (And.intro (And.intro @JN.eq_8 @JN.eq_9) (And.intro (@JN.eq_10) (And.intro @JN.eq_11 @JN.eq_12))) (And.intro (And.intro @JN.eq_13 @JN.eq_14) (And.intro (@JN.eq_15) (And.intro @JN.eq_16 @JN.eq_17))))) (And.intro (And.intro (And.intro (And.intro @ZdA.eq_1 @ZdA.eq_2) (And.intro @ZdA.eq_3 @ZdA.eq_4)) (And.intro (And.intro @ZdA.eq_5 @ZdA.eq_6) (And.intro (@ZdA.eq_7) (And.intro @ZdA.eq_8 @eqO.eq_1)))) (And.intro (And.intro (And.intro @eqO.eq_2 @eqO.eq_3) (And.intro (@Kw.eq_1) (And.intro @Kw.eq_2 @Kw.eq_3))) (And.intro (And.intro @Kw.eq_4 @Kw.eq_5) (And.intro (@Kw.eq_6) (And.intro @Kw.eq_7 @Kw.eq_8))))))) (And.intro (And.intro (And.intro (And.intro (And.intro (And.intro @Kw.eq_9 @Kw.eq_10) (And.intro @Kw.eq_11 @Kw.eq_12)) (And.intro (And.intro @Kw.eq_13 @Kw.eq_14) (And.intro (@Kw.eq_15) (And.intro @K8.eq_1 @K8.eq_2)))) (And.intro (And.intro (And.intro @Kh.eq_1 @Kh.eq_2) (And.intro (@Kh.eq_3) (And.intro @Kh.eq_4 @QA.eq_1))) (And.intro (And.intro @QA.eq_2 @QA.eq_3) (And.intro (@QA.eq_4) (And.intro @QM.eq_1 @QM.eq_2))))) (And.intro (And.intro (And.intro (And.intro @QM.eq_3 @QM.eq_4) (And.intro @Ko.eq_1 @Qn.eq_1)) (And.intro (And.intro @Qn.eq_2 @Qn.eq_3) (And.intro (@cellsOf.eq_1) (And.intro @cellsOf.eq_2 @JY.eq_1)))) (And.intro (And.intro (And.intro @JY.eq_2 @JY.eq_3) (And.intro (@JY.eq_4) (And.intro @JY.eq_5 @JC.eq_1))) (And.intro (And.intro @JC.eq_2 @JC.eq_3) (And.intro (@JC.eq_4) (And.intro @ZbK.eq_1 @ZbK.eq_2)))))) (And.intro (And.intro (And.intro (And.intro (And.intro @ZbK.eq_3 @JU.eq_1) (And.intro @JU.eq_2 @Wu.eq_1)) (And.intro (And.intro @Wu.eq_2 @Zap.eq_1) (And.intro (@Zap.eq_2) (And.intro @QJ.eq_1 @QJ.eq_2)))) (And.intro (And.intro (And.intro @QJ.eq_3 @QJ.eq_4) (And.intro (@Zdy.eq_1) (And.intro @Zdy.eq_2 @Zdy.eq_3))) (And.intro (And.intro @Zdy.eq_4 @ZcF.eq_1) (And.intro (@ZcF.eq_2) (And.intro @ZcF.eq_3 @ZcF.eq_4))))) (And.intro (And.intro (And.intro (And.intro @part.eq_1 @qm.eq_1) (And.intro (@qi.eq_1) (And.intro @qb.eq_1 @ql.eq_1))) (And.intro (And.intro @qL.eq_1 @qa.eq_1) (And.intro (@qx.eq_1) (And.intro @qX.eq_1 @qk.eq_1)))) (And.intro (And.intro (And.intro @qd.eq_1 @qe.eq_1) (And.intro (@qo.eq_1) (And.intro @qO.eq_1 @qf.eq_1))) (And.intro (And.intro @qB.eq_1 @qS.eq_1) (And.intro (@qs.eq_1) (And.intro @qy.eq_1 @qn.eq_1))))))))
end Go.DL
namespace Go.DL
open Go
abbrev Str:=List UInt8
structure Z5 where
 field:Str
 factor:Int
deriving Inhabited,DecidableEq
structure WP where
 base:Int
 terms:List Z5
deriving Inhabited,DecidableEq
structure Y9 where
 low:Int
 high:Int
 of:Str
deriving Inhabited,DecidableEq
structure Fld where
 name:Str
 kind:Int
 bits:Int
 little:Bool
 loose:Bool
 low:Int
 high:Int
 size:WP
 of:Str
 tag:Str
 from_:Str
 cases:List Y9
 check:Int
 key:Int
deriving Inhabited,DecidableEq
structure Msg where
 name:Str
 fields:List Fld
deriving Inhabited,DecidableEq
structure Dfn where
 name:Str
 msgs:List Msg
 start:Str
deriving Inhabited,DecidableEq
def slD {α:Type} [Inhabited α] (n:Nat) (f:α→List D) (l:List α):D:=.sl .none l.length n (fun i=>f (l.getD i default))
def Z5.cells (t:Z5):List D:=[.str t.field,.int .i64 t.factor]
def Y9.cells (c:Y9):List D:=[.int .i64 c.low,.int .i64 c.high,.str c.of]
def Y4 (l:List Z5):D:=slD 2 Z5.cells l
def Kx (l:List Y9):D:=slD 3 Y9.cells l
def WP.cells (s:WP):List D:=[.int .i64 s.base,Y4 s.terms]
def Fld.cells (f:Fld):List D:=[.str f.name,.int .i64 f.kind,.int .i64 f.bits,.bool f.little,.bool f.loose,.int .i64 f.low,.int .i64 f.high,.int .i64 f.size.base,Y4 f.size.terms,.str f.of,.str f.tag,.str f.from_,Kx f.cases,.int .i64 f.check,.int .i64 f.key]
def Wl (l:List Fld):D:=slD 15 Fld.cells l
def Msg.cells (m:Msg):List D:=[.str m.name,Wl m.fields]
def Kf (l:List Msg):D:=slD 2 Msg.cells l
def Dfn.cells (d:Dfn):List D:=[.str d.name,Kf d.msgs,.str d.start]
theorem K6 {α:Type} [Inhabited α] {n:Nat} {f:α→List D} {l:List α} (h:DWf (slD n f l)):l.length≤big∧∀ x∈l,∀ c∈f x,DWf c:=by
 obtain ⟨h1,h2,h3⟩:=h.sl_inv
 refine ⟨h1,fun x hx c hc=>?_⟩
 obtain ⟨i,hi,rfl⟩:=List.getElem_of_mem hx
 exact h3 i hi c (by simpa [List.getD,hi] using hc)
structure Z5.Wf (t:Z5):Prop where
 field:t.field.length≤big
 factor:inR .i64 t.factor
structure Y9.Wf (c:Y9):Prop where
 low:inR .i64 c.low
 high:inR .i64 c.high
 of:c.of.length≤big
structure WP.Wf (s:WP):Prop where
 base:inR .i64 s.base
 nterms:s.terms.length≤big
 terms:∀ t∈s.terms,t.Wf
structure Fld.Wf (f:Fld):Prop where
 name:f.name.length≤big
 kind:inR .i64 f.kind
 bits:inR .i64 f.bits
 low:inR .i64 f.low
 high:inR .i64 f.high
 size:f.size.Wf
 of:f.of.length≤big
 tag:f.tag.length≤big
 from_:f.from_.length≤big
 ncases:f.cases.length≤big
 cases:∀ c∈f.cases,c.Wf
 check:inR .i64 f.check
 key:inR .i64 f.key
structure Msg.Wf (m:Msg):Prop where
 name:m.name.length≤big
 nfields:m.fields.length≤big
 fields:∀ f∈m.fields,f.Wf
structure Dfn.Wf (d:Dfn):Prop where
 name:d.name.length≤big
 nmsgs:d.msgs.length≤big
 msgs:∀ m∈d.msgs,m.Wf
 start:d.start.length≤big
theorem Z5.wf_of {t:Z5} (h:∀ c∈t.cells,DWf c):t.Wf:=by
 simp only [Z5.cells,List.mem_cons,List.not_mem_nil,or_false,forall_eq_or_imp,forall_eq] at h
 exact ⟨h.1.str_inv,h.2.int_inv⟩
theorem Y9.wf_of {t:Y9} (h:∀ c∈t.cells,DWf c):t.Wf:=by
 simp only [Y9.cells,List.mem_cons,List.not_mem_nil,or_false,forall_eq_or_imp,forall_eq] at h
 exact ⟨h.1.int_inv,h.2.1.int_inv,h.2.2.str_inv⟩
theorem Zlv {l:List Z5} (h:DWf (Y4 l)):l.length≤big∧∀ t∈l,t.Wf:=⟨(K6 h).1,fun t ht=>Z5.wf_of ((K6 h).2 t ht)⟩
theorem ZlS {l:List Y9} (h:DWf (Kx l)):l.length≤big∧∀ t∈l,t.Wf:=⟨(K6 h).1,fun t ht=>Y9.wf_of ((K6 h).2 t ht)⟩
theorem Fld.wf_of {f:Fld} (h:∀ c∈f.cells,DWf c):f.Wf:=by
 simp only [Fld.cells,List.mem_cons,List.not_mem_nil,or_false,forall_eq_or_imp,forall_eq] at h
 obtain ⟨h1,h2,h3,h4,h5,h6,h7,h8,h9,h10,h11,h12,h13,h14,h15⟩:=h
 exact ⟨h1.str_inv,h2.int_inv,h3.int_inv,h6.int_inv,h7.int_inv,⟨h8.int_inv,(Zlv h9).1,(Zlv h9).2⟩,h10.str_inv,h11.str_inv,h12.str_inv,(ZlS h13).1,(ZlS h13).2,h14.int_inv,h15.int_inv⟩
theorem ZfA {l:List Fld} (h:DWf (Wl l)):l.length≤big∧∀ t∈l,t.Wf:=⟨(K6 h).1,fun t ht=>Fld.wf_of ((K6 h).2 t ht)⟩
theorem Msg.wf_of {m:Msg} (h:∀ c∈m.cells,DWf c):m.Wf:=by
 simp only [Msg.cells,List.mem_cons,List.not_mem_nil,or_false,forall_eq_or_imp,forall_eq] at h
 exact ⟨h.1.str_inv,(ZfA h.2).1,(ZfA h.2).2⟩
theorem Zmp {l:List Msg} (h:DWf (Kf l)):l.length≤big∧∀ t∈l,t.Wf:=⟨(K6 h).1,fun t ht=>Msg.wf_of ((K6 h).2 t ht)⟩
theorem Dfn.wf_of {m:Dfn} (h:∀ c∈m.cells,DWf c):m.Wf:=by
 simp only [Dfn.cells,List.mem_cons,List.not_mem_nil,or_false,forall_eq_or_imp,forall_eq] at h
 exact ⟨h.1.str_inv,(Zmp h.2.1).1,(Zmp h.2.1).2,h.2.2.str_inv⟩
theorem ZqK {s:Fld} (h:DWf (.agg s.cells)):s.Wf:=Fld.wf_of h.agg_inv
theorem ZnP {s:Msg} (h:DWf (.agg s.cells)):s.Wf:=Msg.wf_of h.agg_inv
theorem Zqz {s:Dfn} (h:DWf (.agg s.cells)):s.Wf:=Dfn.wf_of h.agg_inv
theorem KQ {α:Type} [Inhabited α] {l:List α} {i:Nat} (h:i < l.length):l.getD i default∈l:=by
 simp [List.getD,h]
end Go.DL
namespace Go.DL
open Go Go.Proofs
def ZfO (c:UInt8):Bool:=(decide ((65:Int)≤c.toNat) && decide ((c.toNat:Int)≤90)) || (decide ((97:Int)≤c.toNat) && decide ((c.toNat:Int)≤122))
def Zna (c:UInt8):Bool:=decide ((48:Int)≤c.toNat) && decide ((c.toNat:Int)≤57)
def ZdX (c:UInt8):Bool:=ZfO c || Zna c || decide ((c.toNat:Int)=95)
def K7 (s:Str):Bool:=match s with
 | []=>false
 | c :: _=>decide (s.length≤32) && ZfO c && s.all ZdX
def JB (v:Int):Bool:=decide (-1048576≤v) && decide (v≤1048576)
end Go.DL
namespace Go.DL
open Go
theorem J4 {α:Type} [Inhabited α] {l:List α} {k:Nat} (h:k < l.length):l.drop k=l.getD k default :: l.drop (k + 1):=by
 rw [List.drop_eq_getElem_cons h]; simp [List.getD,h]
theorem WL {α:Type} [Inhabited α] {l:List α} {k:Nat} (h:k < l.length):l.take (k + 1)=l.take k++[l.getD k default]:=by
 rw [List.take_succ_eq_append_getElem h]; simp [List.getD,h]
theorem Zkp {α:Type} [Inhabited α] {l:List α} {k:Nat} {x:α} (hk:k≤l.length):x∈l.take k↔∃ j,j < k∧l.getD j default=x:=by
 constructor
 ·intro h
  obtain ⟨j,hj,rfl⟩:=List.getElem_of_mem h
  simp only [List.length_take] at hj
  exact ⟨j,by omega,by simp [List.getD,show j < l.length by omega]⟩
 ·rintro ⟨j,hj,rfl⟩
  rw [List.mem_take_iff_getElem]
  exact ⟨j,by omega,by simp [List.getD,show j < l.length by omega]⟩
def We {α:Type} [Inhabited α] (f:α→List D) (row:Nat→List D) (l:List α):Prop:=∀ i,i < l.length→row i=f (l.getD i default)
section
variable {α:Type} [Inhabited α] {f:α→List D} {row row2:Nat→List D} {l a b:List α}
theorem We.self:We f (fun i=>f (l.getD i default)) l:=fun _ _=>rfl
theorem We.nil:We f row []:=fun i h=>absurd h (Nat.not_lt_zero i)
theorem We.one {x:α} (h:row 0=f x):We f row [x]:=fun i hi=>by
 obtain rfl:i=0:=by simp at hi; exact hi
 exact h
theorem We.app {n:Nat} (h:We f row a) (h2:We f row2 b) (hn:n=a.length):We f (K0 n row row2) (a++b):=fun i hi=>by
 subst hn
 unfold K0
 split
 ·rename_i h1; rw [h i h1]; simp [List.getD,List.getElem?_append_left h1]
 ·rename_i h1
  rw [h2 (i - a.length) (by simp at hi; omega)]; simp [List.getD,List.getElem?_append_right (Nat.not_lt.1 h1)]
theorem We.snoc {n:Nat} {x:α} (h:We f row a) (h2:row2 0=f x) (hn:n=a.length):We f (K0 n row row2) (a++[x]):=h.app (.one h2) hn
theorem We.take (h:We f row l) (k:Nat):We f row (l.take k):=fun i hi=>by
 rw [List.length_take] at hi
 rw [h i (by omega)]; simp [List.getD,List.getElem?_take_of_lt (show i < k by omega)]
theorem We.le {t:Tok} {n s:Nat} (h:We f row l) (hn:n=l.length):(D.sl t n s row).Le (slD s f l):=Zq4 hn fun i hi=>h i (by omega)
theorem We.leT {t:Tok} {n s:Nat} (h:We f row l) (hn:n=l.length):(D.sl t n s row).Le (.sl t l.length s fun i=>f (l.getD i default)):=by
 subst hn; exact Zfy fun i hi=>by rw [h i hi]; exact LeC.refl _
end
end Go.DL
namespace Go.DL
open Go Go.Proofs
def JT (t:Z5):Bool:=K7 t.field && !decide (t.factor=0) && JB t.factor
def JK:List Str→List Z5→Bool
 | _,[]=>true
 | seen,t :: r=>JT t && !decide (t.field∈seen) && JK (seen++[t.field]) r
def YM (s:WP):Bool:=JB s.base && decide (s.terms.length≤4) && JK [] s.terms
end Go.DL
namespace Go.DL
open Go Go.Proofs
structure Ran where
 name:Str
 low:Int
 high:Int
deriving Inhabited,DecidableEq
def Jb (s:Str):List Ran→Int
 | []=>-1
 | x :: r=>if 0≤Jb s r then Jb s r + 1 else if x.name=s then 0 else -1
theorem Zk7 (s:Str) (l:List Ran):-1≤Jb s l:=by
 induction l with
 | nil=>simp [Jb]
 | cons x r ih=>simp only [Jb]; split <;> (try split) <;> omega
theorem Zpa (s:Str) (l:List Ran):Jb s l < l.length:=by
 induction l with
 | nil=>simp [Jb]
 | cons x r ih=>simp only [Jb,List.length_cons]; split <;> (try split) <;> omega
theorem Znn (s:Str) (l:List Ran) (x:Ran):Jb s (l++[x])=if x.name=s then (l.length:Int) else Jb s l:=by
 induction l with
 | nil=>simp [Jb]
 | cons y r ih =>
  simp only [List.cons_append,Jb,ih,List.length_cons]
  have:=Zk7 s r
  by_cases h:x.name=s <;> simp [h]
end Go.DL
namespace Go.DL
open Go Go.Proofs
abbrev J6:=Str→Option (Int × Int)
def Zbg (r:Int × Int):Bool:=decide (r.1 < 0) || decide (r.2 < r.1) || decide (34359738368≤r.2)
def QC (look:J6) (t:Z5):Bool:=match look t.field with | some r=>Zbg r | none=>false
def QH (look:J6) (t:Z5):Bool:=(look t.field).isNone
def ZaP (s:WP) (look:J6):Int:=if YM s=false then 2 else if s.terms.any (QC look) then 2 else if s.terms.any (QH look) then 9 else 0
def ZdJ (look:J6) (t:Z5):Int × Int:=(look t.field).getD (0,0)
def loT (look:J6) (t:Z5):Int:=if 0 < t.factor then t.factor * (ZdJ look t).1 else t.factor * (ZdJ look t).2
def hiT (look:J6) (t:Z5):Int:=if 0 < t.factor then t.factor * (ZdJ look t).2 else t.factor * (ZdJ look t).1
def loS (look:J6):List Z5→Int
 | []=>0
 | t :: r=>loT look t + loS look r
def hiS (look:J6):List Z5→Int
 | []=>0
 | t :: r=>hiT look t + hiS look r
def KJ (s:WP) (look:J6):Int × Int × Int:=if ZaP s look=0 then (s.base + loS look s.terms,s.base + hiS look s.terms,0) else (0,0,ZaP s look)
end Go.DL
namespace Go.DL
open Go Go.Proofs
def ZgM (l:List Ran):J6:=fun s=>if Jb s l < 0 then none else some ((l.getD (Jb s l).toNat default).low,(l.getD (Jb s l).toNat default).high)
theorem Zpn {α:Type} [Inhabited α] {p:α→Bool} {l:List α} {i:Nat} (h:i < l.length):(l.take (i + 1)).any p=((l.take i).any p || p (l.getD i default)):=by
 rw [WL h,List.any_append]; simp
theorem ZqM {α:Type} [Inhabited α] {p:α→Bool} {l:List α} {i:Nat} (h:i < l.length) (hp:p (l.getD i default)=true):l.any p=true :=
 List.any_eq_true.2 ⟨_,KQ h,hp⟩
end Go.DL
namespace Go.DL
open Go Go.Proofs
def Zb5 (s:Str):List Z5→Nat
 | []=>0
 | x :: r=>if Op.bytesLess x.field s then Zb5 s r + 1 else 0
def Zdt (l:List Z5) (t:Z5):List Z5:=l.take (Zb5 t.field l)++t :: l.drop (Zb5 t.field l)
def Zcz (l:List Z5):List Z5:=l.foldl Zdt []
def Zbb (s:WP):WP:=⟨s.base,Zcz s.terms⟩
theorem ZmZ {α β:Type} [Inhabited α] {f:β→α→β} {b:β} {l:List α} {i:Nat} (h:i < l.length):(l.take (i + 1)).foldl f b=f ((l.take i).foldl f b) (l.getD i default):=by
 rw [WL h,List.foldl_append]; rfl
end Go.DL
namespace Go.DL
open Go Go.Proofs
theorem WP.ext' {a b:WP} (h:a.base=b.base) (h2:a.terms=b.terms):a=b:=by cases a; cases b; simp_all
def ZbI (a b:WP):Bool:=YM a && (YM b && decide (Zbb a=Zbb b))
end Go.DL
namespace Go.DL
open Go Go.Proofs
def ZQ {α:Type} (p:α→Bool):List α→Int
 | []=>-1
 | x :: r=>if p x then 0 else if ZQ p r < 0 then -1 else ZQ p r + 1
theorem QS {α:Type} {p:α→Bool} {l:List α} (h:∀ x∈l,p x=false):ZQ p l = -1:=by
 induction l with
 | nil=>rfl
 | cons x r ih=>simp [ZQ,h x (by simp),ih (fun y hy=>h y (by simp [hy]))]
theorem Je {α:Type} [Inhabited α] {p:α→Bool} {l:List α} {i:Nat} (hi:i < l.length) (hp:p (l.getD i default)=true) (h:∀ j,j < i→p (l.getD j default)=false):ZQ p l=i:=by
 induction l generalizing i with
 | nil=>simp at hi
 | cons x r ih =>
  cases i with
  | zero=>simp at hp; simp [ZQ,hp]
  | succ i =>
   have h0:=h 0 (by omega)
   have:=ih (i:=i) (by simpa using hi) (by simpa using hp) (fun j hj=>by simpa using h (j + 1) (by omega))
   simp at h0
   simp [ZQ,h0,this]; omega
theorem ZcR {α:Type} (p:α→Bool) (l:List α):-1≤ZQ p l:=by
 induction l with
 | nil=>simp [ZQ]
 | cons x r ih=>simp only [ZQ]; split <;> (try split) <;> omega
theorem ZaF {α:Type} (p:α→Bool) (l:List α):ZQ p l < l.length:=by
 induction l with
 | nil=>simp [ZQ]
 | cons x r ih=>simp only [ZQ,List.length_cons]; split <;> (try split) <;> omega
theorem ZmV {α:Type} {p:α→Bool} {l:List α} (h:ZQ p l < 0):∀ x∈l,p x=false:=by
 induction l with
 | nil=>simp
 | cons x r ih =>
  have:=ZcR p r
  simp only [ZQ] at h
  split at h
  ·omega
  ·rename_i hx
   split at h
   ·rename_i hr; intro y hy; rcases List.mem_cons.1 hy with rfl | hy
    ·simpa using hx
    ·exact ih hr y hy
   ·omega
theorem Zek {α:Type} [Inhabited α] {p:α→Bool} {l:List α} (h:0≤ZQ p l):p (l.getD (ZQ p l).toNat default)=true∧∀ j,j < (ZQ p l).toNat→p (l.getD j default)=false:=by
 induction l with
 | nil=>simp [ZQ] at h
 | cons x r ih =>
  have:=ZcR p r
  by_cases hx:p x=true
  ·simp [ZQ,hx]
  ·simp only [ZQ,hx,if_false,Bool.false_eq_true] at h ⊢
   by_cases hr:ZQ p r < 0
   ·simp [hr] at h
   ·rw [if_neg hr]
    obtain ⟨h1,h2⟩:=ih (by omega)
    rw [show (ZQ p r + 1).toNat=(ZQ p r).toNat + 1 by omega]
    refine ⟨by simpa using h1,fun j hj=>?_⟩
    cases j with
    | zero=>simpa using hx
    | succ j=>simpa using h2 j (by omega)
theorem Zcb {α:Type} [Inhabited α] {l:List α} {n j:Nat} (h:j < n):(l.take n).getD j default=l.getD j default:=by
 simp [List.getD,List.getElem?_take_of_lt h]
def ZK (d:Dfn) (s:Str) (n:Nat):Int:=ZQ (fun m=>decide (m.name=s)) (d.msgs.take n)
def J5 (m:Msg) (s:Str) (n:Nat):Int:=ZQ (fun f=>decide (f.name=s)) (m.fields.take n)
def Zc9 (f:Fld) (tag:Int):Int:=ZQ (fun c=>decide (c.low≤tag) && decide (tag≤c.high)) f.cases
def Qc (f:Fld):Bool:=decide (1≤f.kind) && decide (f.kind≤3)
def KT (f:Fld):Int × Int:=if f.kind=2 then (f.low,f.low) else (f.low,f.high)
def Znc (a b:Int):Bool:=decide (0≤a) && (decide (a≤b) && decide (b < 34359738368))
end Go.DL
namespace Go.DL
open Go Go.Proofs
def ZkF:List Str:=[[],[98,108,120,104],[98,108,120],[111,120,104],[115],[120,104],[111,104],[102,115],[102],[116,99],[98],[114,107],[102,115,121]]
def Zfp (k:Int):Str:=ZkF.getD k.toNat []
def ZaW (s:Str) (c:UInt8):Bool:=decide (c∈s)
end Go.DL
namespace Go.DL
open Go Go.Proofs
def zrA (u:Str) (f:Fld):Bool:=(ZaW u 98 || decide (f.bits=0)) && ((ZaW u 108 || !f.little) && ((ZaW u 111 || !f.loose) && ((ZaW u 120 || decide (f.low=0)) && (ZaW u 104 || decide (f.high=0)))))
def zrB (u:Str) (f:Fld):Bool:=(ZaW u 115 || (decide (f.size.base=0) && decide (f.size.terms.length=0))) && ((ZaW u 102 || decide (f.of=[])) && ((ZaW u 116 || decide (f.tag=[])) && (ZaW u 114 || decide (f.from_=[]))))
def zrC (u:Str) (f:Fld):Bool:=(ZaW u 99 || decide (f.cases.length=0)) && ((ZaW u 107 || decide (f.check=0)) && (ZaW u 121 || decide (f.key=0)))
def ZbP (f:Fld):Bool:=zrA (Zfp f.kind) f && (zrB (Zfp f.kind) f && zrC (Zfp f.kind) f)
end Go.DL
namespace Go.DL
open Go Go.Proofs
def ZeJ (f:Fld):Bool:=decide (f.bits < 1) || (decide (32 < f.bits) || (f.little && (!decide (f.bits=16) && (!decide (f.bits=24) && !decide (f.bits=32)))))
def Zjw (f:Fld):Int:=if f.kind=2 then f.low else f.high
def Zk3 (f:Fld):Bool:=decide (f.low < 0) || (decide (Zjw f < f.low) || decide (2 ^ f.bits.toNat≤Zjw f))
def Zdg (f:Fld):Int:=if ZeJ f then 6 else if Zk3 f then 7 else 0
theorem ZqX {b:Int} (h0:0≤b) (h1:b≤32):ZjC .i64 1 b=2 ^ b.toNat:=by
 unfold ZjC
 rw [show Nat.min b.toNat IntKind.i64.bits=b.toNat from Nat.min_eq_left (show b.toNat≤IntKind.i64.bits by simp [IntKind.bits]; omega)]
 simp
theorem ZcS {b:Int} (h0:0≤b) (h1:b≤32):(0:Int) < 2 ^ b.toNat∧(2:Int) ^ b.toNat≤4294967296:=by
 have h:=Nat.pow_le_pow_right (n:=2) (by omega) (show b.toNat≤32 by omega)
 have h2:=Nat.two_pow_pos b.toNat
 rw [show (2:Int) ^ b.toNat=((2 ^ b.toNat:Nat):Int) from (Int.natCast_pow 2 b.toNat).symm]
 generalize 2 ^ b.toNat=x at h h2 ⊢
 omega
def ZmD (m:Msg) (s:Str) (n:Nat):Bool:=(m.fields.take n).any fun f=>decide (f.kind=9) && decide (f.tag=s)
end Go.DL
namespace Go.DL
open Go Go.Proofs
def ZbZ (d:Dfn) (at_:Nat) (high:Int):Int→List Y9→Int
 | _,[]=>0
 | low,c :: r=>if decide (c.low < low) || (decide (c.high < c.low) || decide (high < c.high)) then 7 else if ZK d c.of at_ < 0 then 8 else ZbZ d at_ high (c.high + 1) r
def Zi0 (d:Dfn) (at_:Nat) (f:Fld) (low high:Int):Int:=if decide (f.cases.length < 1) || decide (40 < f.cases.length) then 3 else ZbZ d at_ high low f.cases
end Go.DL
namespace Go.DL
open Go Go.Proofs
def Y2 (fs:List Fld):J6:=fun s=>if ZQ (fun f=>decide (f.name=s)) fs < 0 then none else if Qc (fs.getD (ZQ (fun f=>decide (f.name=s)) fs).toNat default) then some (KT (fs.getD (ZQ (fun f=>decide (f.name=s)) fs).toNat default)) else none
def Za7 (fs:List Fld) (s:WP):Int:=if YM s=false then 9 else if s.terms.any (QH (Y2 fs)) then 8 else if !decide ((KJ s (Y2 fs)).2.2=0) || (decide ((KJ s (Y2 fs)).1 < 0) || decide (1048576 < (KJ s (Y2 fs)).2.1)) then 9 else 0
theorem ZjP {α:Type} {p q:α→Bool} {l:List α} (h:∀ x∈l,p x=q x):l.any p=l.any q:=by
 induction l with
 | nil=>rfl
 | cons x r ih=>simp only [List.any_cons,h x (by simp),ih fun y hy=>h y (by simp [hy])]
theorem Zj7 {look look':J6} {l:List Z5} (h:∀ t∈l,look t.field=look' t.field):loS look l=loS look' l∧hiS look l=hiS look' l:=by
 induction l with
 | nil=>exact ⟨rfl,rfl⟩
 | cons x r ih =>
  have h1:=ih fun y hy=>h y (by simp [hy])
  have h2:=h x (by simp)
  simp only [loS,hiS,loT,hiT,ZdJ,h1.1,h1.2,h2,and_self]
theorem Zd7 {s:WP} {look look':J6} (h:∀ t∈s.terms,look t.field=look' t.field):KJ s look=KJ s look':=by
 have h1:=ZjP (p:=QC look) (q:=QC look') (l:=s.terms) fun t ht=>by simp only [QC,h t ht]
 have h2:=ZjP (p:=QH look) (q:=QH look') (l:=s.terms) fun t ht=>by simp only [QH,h t ht]
 have h3:=Zj7 h
 unfold KJ ZaP; rw [h1,h2,h3.1,h3.2]
end Go.DL
namespace Go.DL
open Go Go.Proofs
def ZaM (l:List Str):D:=slD 1 (fun s=>[.str s]) l
def Zag (f:Fld):List Str:=if decide (f.kind=7) || (decide (f.kind=8) || decide (f.kind=12)) then [f.of] else []
def Wv (f:Fld):List Str:=Zag f++if f.kind=9 then f.cases.map (·.of) else []
def ZbD (out:List Str) (s:Str):List Str:=if s∈out then out else out++[s]
def Ql (m:Msg):List Str:=(m.fields.flatMap Wv).foldl ZbD []
theorem ZlU (out:List Str) (s:Str):(ZbD out s).length≤out.length + 1:=by unfold ZbD; split <;> simp
theorem Zhc (l out:List Str):(l.foldl ZbD out).length≤out.length + l.length:=by
 induction l generalizing out with
 | nil=>simp
 | cons x r ih=>have:=ih (ZbD out x); have:=ZlU out x; simp only [List.foldl_cons,List.length_cons]; omega
theorem Zfv (l:List Fld) (i:Nat):((l.take i).flatMap Wv).length≤(l.flatMap Wv).length:=by
 conv=>rhs; rw [← List.take_append_drop i l,List.flatMap_append,List.length_append]
 omega
theorem Zg4 (l:List Fld) (i:Nat) (hi:i < l.length):(l.take (i + 1)).flatMap Wv=(l.take i).flatMap Wv++Wv (l.getD i default):=by
 rw [WL hi,List.flatMap_append]; simp
end Go.DL
namespace Go.DL
open Go Go.Proofs
def Zet (l:List Bool):D:=slD 1 (fun b=>[.bool b]) l
def Zdr (d:Dfn) (m:Msg) (prev:List Bool):Bool:=m.fields.all (fun f=>!f.loose) && (Ql m).all fun s=>prev.getD (ZK d s prev.length).toNat default
def QN (d:Dfn):Nat→List Bool
 | 0=>[]
 | n + 1=>QN d n++[Zdr d (d.msgs.getD n default) (QN d n)]
theorem ZbV (d:Dfn) (n:Nat):(QN d n).length=n:=by
 induction n with
 | zero=>rfl
 | succ n ih=>simp [QN,ih]
structure Zq1 (d:Dfn) (j:Nat):Prop where
 few:((d.msgs.getD j default).fields.flatMap Wv).length≤1000000
 ref:∀ s∈Ql (d.msgs.getD j default),0≤ZK d s j
theorem Zfh {α:Type} [Inhabited α] {p:α→Bool} {l:List α} {i:Nat} (h:i < l.length):(l.take (i + 1)).all p=((l.take i).all p && p (l.getD i default)):=by
 rw [WL h,List.all_append]; simp
end Go.DL
namespace Go.DL
open Go Go.Proofs
def ZnH (f:Fld):Bool:=!decide (f.bits=2) && (!decide (f.bits=4) && (decide (f.bits < 8) || (decide (512 < f.bits) || !decide (Int.tmod f.bits 8=0))))
def ZfF (m:Msg) (i:Nat) (f:Fld):Bool:=decide (J5 m f.tag i < 0) || (!Qc (m.fields.getD (J5 m f.tag i).toNat default) || ZmD m f.tag i)
def Zjy (d:Dfn) (at_:Nat) (f:Fld):Bool:=decide (ZK d f.of at_ < 0) || !(QN d at_).getD (ZK d f.of at_).toNat default
def ZbT (d:Dfn) (at_:Nat) (m:Msg) (i:Nat) (f:Fld):Int :=
 if f.kind=1 then Zdg f else if f.kind=2 then Zdg f
 else if f.kind=3 then (if Znc f.low f.high then 0 else 7)
 else if f.kind=4 then Za7 (m.fields.take i) f.size
 else if f.kind=5 then (if decide (f.low < 0) || (decide (255 < f.low) || (decide (f.high < 0) || decide (1048576 < f.high))) then 7 else 0)
 else if f.kind=6 then (if decide (f.high < 2) || decide (1048576 < f.high) then 7 else 0)
 else if f.kind=7 then (if ZK d f.of at_ < 0 then 8 else Za7 (m.fields.take i) f.size)
 else if f.kind=8 then (if ZK d f.of at_ < 0 then 8 else 0)
 else if f.kind=9 then (if ZfF m i f then 8 else Zi0 d at_ f (KT (m.fields.getD (J5 m f.tag i).toNat default)).1 (KT (m.fields.getD (J5 m f.tag i).toNat default)).2)
 else if f.kind=10 then (if ZnH f then 6 else 0)
 else if f.kind=11 then (if decide (f.check < 1) || decide (3 < f.check) then 7 else if J5 m f.from_ i < 0 then 8 else 0)
 else if f.kind=12 then (if decide (f.key < 0) || decide (4294967295 < f.key) then 7 else if Zjy d at_ f then 8 else Za7 (m.fields.take i) f.size)
 else 0
end Go.DL
namespace Go.DL
open Go Go.Proofs
def Qv (d:Dfn) (at_:Nat) (m:Msg) (i:Nat) (f:Fld):Int :=
 if K7 f.name=false then 1 else if 0≤J5 m f.name i then 2 else if decide (f.kind < 1) || decide (12 < f.kind) then 4 else if ZbP f=false then 5 else ZbT d at_ m i f
end Go.DL
namespace Go.DL
open Go Go.Proofs
def Km (d:Dfn) (at_:Nat) (m:Msg):Nat→List Fld→Option (Int × Int)
 | _,[]=>none
 | i,f :: r=>if Qv d at_ m i f=0 then Km d at_ m (i + 1) r else some (i,Qv d at_ m i f)
def Qd (d:Dfn) (at_:Nat) (m:Msg):Option (Int × Int) :=
 if K7 m.name=false then some (-1,1) else if 0≤ZK d m.name at_ then some (-1,2) else if decide (m.fields.length < 1) || decide (40 < m.fields.length) then some (-1,3) else Km d at_ m 0 m.fields
def ZnD (d:Dfn) (at_:Nat) (deps:List Int) (b:Int) (l:List Str):Int:=l.foldl (fun a s=>max a (deps.getD (ZK d s at_).toNat default)) b
def ZdL (d:Dfn) (at_:Nat) (deps:List Int) (m:Msg):Int:=ZnD d at_ deps 0 (Ql m) + 1
def J3 (d:Dfn):Nat→List Msg→List Int→Option (Int × Int × Int)
 | _,[],_=>if ZK d d.start d.msgs.length < 0 then some (-1,-1,11) else none
 | at_,m :: r,deps=>match Qd d at_ m with
  | some (i,c)=>some (at_,i,c)
  | none=>if 16 < ZdL d at_ deps m then some (at_,-1,10) else J3 d (at_ + 1) r (deps++[ZdL d at_ deps m])
def Zlr (d:Dfn):Option (Int × Int × Int) :=
 if K7 d.name=false then some (-1,-1,1) else if decide (d.msgs.length < 1) || decide (60 < d.msgs.length) then some (-1,-1,3) else J3 d 0 d.msgs []
def YU (d:Dfn):Bool:=(Zlr d).isNone
theorem Zn6 {d:Dfn} {at_:Nat} {high low:Int} {l:List Y9} (h:ZbZ d at_ high low l=0):∀ c∈l,0≤ZK d c.of at_:=by
 induction l generalizing low with
 | nil=>simp
 | cons c r ih =>
  simp only [ZbZ] at h
  split at h
  ·omega
  ·split at h
   ·omega
   ·intro x hx
    rcases List.mem_cons.1 hx with rfl | hx
    ·omega
    ·exact ih h x hx
theorem ZfS {d:Dfn} {at_ i:Nat} {m:Msg} {f:Fld} (h:Qv d at_ m i f=0):(Wv f).length≤41∧∀ s∈Wv f,0≤ZK d s at_:=by
 unfold Qv at h
 split at h; · omega
 split at h; · omega
 split at h; · omega
 rename_i hk
 split at h; · omega
 simp only [Bool.or_eq_true,decide_eq_true_eq,not_or,Int.not_lt] at hk
 have hk2:f.kind=1∨f.kind=2∨f.kind=3∨f.kind=4∨f.kind=5∨f.kind=6∨f.kind=7∨f.kind=8∨f.kind=9∨f.kind=10∨f.kind=11∨f.kind=12:=by omega
 unfold ZbT at h
 rcases hk2 with hk | hk | hk | hk | hk | hk | hk | hk | hk | hk | hk | hk <;> simp only [hk,Int.reduceEq,if_true,if_false] at h <;> (try (simp [Wv,Zag,hk]; done))
 ·simp only [Wv,Zag,hk]; split at h
  ·omega
  ·simp; omega
 ·simp only [Wv,Zag,hk]; split at h
  ·omega
  ·simp; omega
 ·split at h
  ·omega
  ·unfold Zi0 at h
   split at h
   ·omega
   ·rename_i hc
    simp only [Bool.or_eq_true,decide_eq_true_eq,not_or,Nat.not_lt] at hc
    have:=Zn6 h
    simp [Wv,Zag,hk]
    exact ⟨by omega,this⟩
 ·split at h
  ·omega
  ·split at h
   ·omega
   ·rename_i hv
    simp only [Zjy,Bool.or_eq_true,decide_eq_true_eq,not_or] at hv
    simp [Wv,Zag,hk]; omega
theorem Zjh {d:Dfn} {at_:Nat} {m:Msg} {i:Nat} {l:List Fld} (h:Km d at_ m i l=none):(l.flatMap Wv).length≤41 * l.length∧∀ s∈l.flatMap Wv,0≤ZK d s at_:=by
 induction l generalizing i with
 | nil=>simp
 | cons f r ih =>
  simp only [Km] at h
  split at h
  ·rename_i hf
   have h1:=ZfS hf
   have h2:=ih h
   simp only [List.flatMap_cons,List.length_append,List.length_cons,List.mem_append]
   refine ⟨by omega,fun s hs=>?_⟩
   rcases hs with hs | hs
   ·exact h1.2 s hs
   ·exact h2.2 s hs
  ·simp at h
theorem ZeA {s:Str} {l out:List Str}:s∈l.foldl ZbD out↔s∈out∨s∈l:=by
 induction l generalizing out with
 | nil=>simp
 | cons x r ih =>
  simp only [List.foldl_cons,ih,List.mem_cons]
  unfold ZbD
  split
  ·rename_i h
   constructor
   ·rintro (h1 | h1)
    ·exact .inl h1
    ·exact .inr (.inr h1)
   ·rintro (h1 | rfl | h1)
    ·exact .inl h1
    ·exact .inl h
    ·exact .inr h1
  ·simp only [List.mem_append,List.mem_singleton,_root_.or_assoc]
theorem Zmm {s:Str} {m:Msg}:s∈Ql m↔s∈m.fields.flatMap Wv:=by
 unfold Ql; rw [ZeA]; simp
theorem Zo8 {d:Dfn} {j:Nat} {m:Msg} (hm:d.msgs.getD j default=m) (h:Qd d j m=none):Zq1 d j:=by
 unfold Qd at h
 split at h; · simp at h
 split at h; · simp at h
 split at h; · simp at h
 rename_i hc
 simp only [Bool.or_eq_true,decide_eq_true_eq,not_or,Nat.not_lt] at hc
 have:=Zjh h
 subst hm
 exact ⟨by omega,fun s hs=>this.2 s (Zmm.1 hs)⟩
end Go.DL
namespace Go.DL
open Go Go.Proofs
def ZaS (p n:Str):Str:=if p=[] then n else p++[46]++n
def ZqN (f:Fld):Ran:=⟨f.name,(KT f).1,(KT f).2⟩
def ZjK (fs:List Fld):List Ran:=(fs.filter Qc).map ZqN
def ZgD (m:Msg) (f:Fld):Int:=(KJ f.size (ZgM (ZjK m.fields))).2.1
def Qa (m:Msg) (f:Fld):Bool:=decide (f.kind=8) || (decide (f.kind=12) || (decide (f.kind=7) && decide (0 < ZgD m f)))
def Y3 (c:Y9):Int→List Y9→Bool
 | _,[]=>false
 | v,x :: r=>if decide (x.low≤v) && (decide (v≤x.high) && decide (x.of=c.of)) then (if c.high≤x.high then true else Y3 c (x.high + 1) r) else Y3 c v r
theorem ZnS {l:List Fld} {i:Nat} (h:i < l.length):ZjK (l.take (i + 1))=ZjK (l.take i)++if Qc (l.getD i default) then [ZqN (l.getD i default)] else []:=by
 unfold ZjK
 rw [WL h,List.filter_append,List.map_append]
 congr 1
 simp only [List.filter_cons,List.filter_nil]
 split <;> rfl
end Go.DL
namespace Go.DL
open Go Go.Proofs
def Zbt (f g:Fld):Bool:=!decide (f.bits=g.bits) || (!decide (f.little=g.little) || (!decide (f.check=g.check) || (!decide (f.key=g.key) || (decide (f.kind=5) && !decide (f.low=g.low)))))
def Zdi (f g:Fld):Bool:=(decide (f.kind=2) && !decide (f.low=g.low)) || (((decide (f.kind=1) || decide (f.kind=3)) && (decide (f.low < g.low) || decide (g.high < f.high))) || ((decide (f.kind=5) || decide (f.kind=6)) && decide (g.high < f.high)))
def Ji (m:Msg) (f g:Fld):Int :=
 if f.name≠g.name then 3 else if f.kind≠g.kind then 4 else if Zbt f g then 5 else if Zdi f g then 6 else if f.loose && !g.loose then 7 else
 if ZbI f.size g.size=false then 8 else if !decide (f.tag=g.tag) || !decide (f.from_=g.from_) then 9 else if Qa m f && !decide (f.of=g.of) then 10 else
 if f.cases.all (fun c=>Y3 c c.low g.cases) then 0 else 11
end Go.DL
namespace Go.DL
open Go Go.Proofs
structure Dif where
 path:Str
 code:Int
deriving Inhabited,DecidableEq
def Dif.cells (d:Dif):List D:=[.str d.path,.int .i64 d.code]
def Qm (l:List Dif):D:=slD 2 Dif.cells l
abbrev Prs:=List (Int × Int)
def JS (x:Prs × List Dif) (y:Prs→Prs × List Dif):Prs × List Dif:=((y x.1).1,x.2++(y x.1).2)
def W2 (rec:Prs→Str→Str→Str→Prs × List Dif) (at_:Str):Prs→List Y9→Prs × List Dif
 | p,[]=>(p,[])
 | p,c :: r=>JS (rec p c.of c.of (ZaS at_ c.of)) fun p=>W2 rec at_ p r
def Jp (rec:Prs→Str→Str→Str→Prs × List Dif) (m:Msg) (path:Str) (p:Prs) (f g:Fld):Prs × List Dif :=
 if Ji m f g≠0 then (p,[⟨ZaS path f.name,Ji m f g⟩])
 else JS (if Qa m f then rec p f.of g.of (ZaS path f.name) else (p,[])) fun p=>W2 rec (ZaS path f.name) p f.cases
def Wg (rec:Prs→Str→Str→Str→Prs × List Dif) (m:Msg) (path:Str):Prs→List (Fld × Fld)→Prs × List Dif
 | p,[]=>(p,[])
 | p,x :: r=>JS (Jp rec m path p x.1 x.2) fun p=>Wg rec m path p r
def YE (w r:Dfn):Nat→Prs→Str→Str→Str→Prs × List Dif
 | 0,p,_,_,_=>(p,[])
 | n + 1,p,a,b,path =>
  if (ZK w a w.msgs.length,ZK r b r.msgs.length)∈p then (p,[]) else
  JS (p++[(ZK w a w.msgs.length,ZK r b r.msgs.length)],if (w.msgs.getD (ZK w a w.msgs.length).toNat default).fields.length≠(r.msgs.getD (ZK r b r.msgs.length).toNat default).fields.length then [⟨path,2⟩] else [])
   fun p=>Wg (YE w r n) (w.msgs.getD (ZK w a w.msgs.length).toNat default) path p ((w.msgs.getD (ZK w a w.msgs.length).toNat default).fields.zip (r.msgs.getD (ZK r b r.msgs.length).toNat default).fields)
def KA (w r:Dfn):List Dif:=if w.start≠r.start then [⟨[],1⟩] else (YE w r (w.msgs.length + 1) [] w.start r.start []).2
structure JA (N M:Nat) (p:Prs):Prop where
 nodup:p.Nodup
 range:∀ x∈p,-1≤x.1∧x.1 < N∧-1≤x.2∧x.2 < M
theorem Zph {K:Nat}:∀ {l:List Nat},l.Nodup→(∀ x∈l,x < K)→l.length≤K:=by
 induction K with
 | zero=>intro l _ h; cases l with | nil=>simp | cons x r=>exact absurd (h x (by simp)) (by omega)
 | succ K ih =>
  intro l hn h
  have h1:=ih (hn.filter (fun x=>decide (x≠K))) (fun x hx=>by
   have h2:=h x (List.mem_filter.1 hx).1
   have h3:x≠K:=by simpa using (List.mem_filter.1 hx).2
   omega)
  have h2:l.length≤(l.filter (fun x=>decide (x≠K))).length + 1:=by
   clear h1 h ih
   induction l with
   | nil=>simp
   | cons x r ihr =>
    have hr:=ihr (List.nodup_cons.1 hn).2
    by_cases hx:x=K
    ·subst hx
     have:r.filter (fun y=>decide (y≠x))=r:=List.filter_eq_self.2 fun y hy=>by
      have:y≠x:=fun e=>(List.nodup_cons.1 hn).1 (e ▸ hy)
      simpa using this
     rw [List.filter_cons,this]; simp
    ·rw [List.filter_cons,if_pos (by simpa using hx)]; simp only [List.length_cons]; omega
  omega
theorem JA.few {N M:Nat} {p:Prs} (h:JA N M p):p.length≤(N + 1) * (M + 1):=by
 have hk:∀ x∈p,(x.1 + 1).toNat < N + 1∧(x.2 + 1).toNat < M + 1:=fun x hx=>by have:=h.range x hx; omega
 have:=Zph (K:=(N + 1) * (M + 1)) (l:=p.map fun x=>(x.1 + 1).toNat * (M + 1) + (x.2 + 1).toNat) ?_ ?_
 ·simpa using this
 ·refine List.Pairwise.map _ ?_ (List.Pairwise.and_mem.1 h.nodup)
  intro x y ⟨hx,hy,hne⟩ he
  have h1:=h.range x hx; have h2:=h.range y hy
  have h3:=hk x hx; have h4:=hk y hy
  have e1:((x.1 + 1).toNat * (M + 1) + (x.2 + 1).toNat) / (M + 1)=(x.1 + 1).toNat:=by
   rw [Nat.mul_comm,Nat.mul_add_div (by omega),Nat.div_eq_of_lt h3.2,Nat.add_zero]
  have e2:((y.1 + 1).toNat * (M + 1) + (y.2 + 1).toNat) / (M + 1)=(y.1 + 1).toNat:=by
   rw [Nat.mul_comm,Nat.mul_add_div (by omega),Nat.div_eq_of_lt h4.2,Nat.add_zero]
  have e3:((x.1 + 1).toNat * (M + 1) + (x.2 + 1).toNat) % (M + 1)=(x.2 + 1).toNat:=by
   rw [Nat.mul_comm,Nat.mul_add_mod,Nat.mod_eq_of_lt h3.2]
  have e4:((y.1 + 1).toNat * (M + 1) + (y.2 + 1).toNat) % (M + 1)=(y.2 + 1).toNat:=by
   rw [Nat.mul_comm,Nat.mul_add_mod,Nat.mod_eq_of_lt h4.2]
  have e5:(x.1 + 1).toNat=(y.1 + 1).toNat:=by rw [← e1,← e2,he]
  have e6:(x.2 + 1).toNat=(y.2 + 1).toNat:=by rw [← e3,← e4,he]
  exact hne (Prod.ext (by omega) (by omega))
 ·intro z hz
  obtain ⟨x,hx,rfl⟩:=List.mem_map.1 hz
  have h3:=hk x hx
  calc (x.1 + 1).toNat * (M + 1) + (x.2 + 1).toNat < (x.1 + 1).toNat * (M + 1) + (M + 1):=by omega
   _=((x.1 + 1).toNat + 1) * (M + 1):=by rw [Nat.add_mul,Nat.one_mul]
   _≤(N + 1) * (M + 1):=Nat.mul_le_mul_right _ (by omega)
structure Zfo (N M:Nat) (p:Prs) (z:Prs × List Dif):Prop where
 ok:JA N M z.1
 more:z.2.length + 41 * p.length≤41 * z.1.length
theorem Zfo.refl {N M:Nat} {p:Prs} (h:JA N M p):Zfo N M p (p,[]):=⟨h,by simp⟩
theorem Zfo.then {N M:Nat} {p:Prs} {x:Prs × List Dif} {y:Prs→Prs × List Dif} (h:Zfo N M p x) (h':Zfo N M x.1 (y x.1)):Zfo N M p (JS x y) :=
 ⟨h'.ok,by have:=h.more; have:=h'.more; simp only [JS,List.length_append]; omega⟩
def ZmK (N M:Nat) (rec:Prs→Str→Str→Str→Prs × List Dif):Prop:=∀ p a b s,JA N M p→Zfo N M p (rec p a b s)
theorem Zkz {N M:Nat} {rec:Prs→Str→Str→Str→Prs × List Dif} (hr:ZmK N M rec) {at_:Str} {l:List Y9} {p:Prs} (h:JA N M p):Zfo N M p (W2 rec at_ p l):=by
 induction l generalizing p with
 | nil=>exact .refl h
 | cons c r ih=>exact (hr _ _ _ _ h).then (ih (hr _ _ _ _ h).ok)
theorem Zjt {N M:Nat} {rec:Prs→Str→Str→Str→Prs × List Dif} (hr:ZmK N M rec) {m:Msg} {path:Str} {l:List (Fld × Fld)} {p:Prs} (h:JA N M p) :
  JA N M (Wg rec m path p l).1∧(Wg rec m path p l).2.length + 41 * p.length≤41 * (Wg rec m path p l).1.length + l.length:=by
 induction l generalizing p with
 | nil=>exact ⟨h,by simp [Wg]⟩
 | cons x r ih =>
  have h1:JA N M (Jp rec m path p x.1 x.2).1∧(Jp rec m path p x.1 x.2).2.length + 41 * p.length≤41 * (Jp rec m path p x.1 x.2).1.length + 1:=by
   unfold Jp
   split
   ·exact ⟨h,by simp; omega⟩
   ·have h2:Zfo N M p (if Qa m x.1 then rec p x.1.of x.2.of (ZaS path x.1.name) else (p,[])):=by
     split
     ·exact hr _ _ _ _ h
     ·exact .refl h
    have h3:=h2.then (y:=fun p=>W2 rec (ZaS path x.1.name) p x.1.cases) (Zkz hr h2.ok)
    exact ⟨h3.ok,by have:=h3.more; omega⟩
  have h2:=ih h1.1
  refine ⟨h2.1,?_⟩
  simp only [Wg,JS,List.length_append,List.length_cons]
  have:=h1.2; have:=h2.2; omega
theorem KW (d:Dfn) (s:Str):-1≤ZK d s d.msgs.length∧ZK d s d.msgs.length < d.msgs.length:=by
 unfold ZK
 rw [List.take_length]
 exact ⟨ZcR _ _,ZaF _ _⟩
theorem JA.snoc {w r:Dfn} {p:Prs} (h:JA w.msgs.length r.msgs.length p) {a b:Str} (hn:(ZK w a w.msgs.length,ZK r b r.msgs.length) ∉ p):JA w.msgs.length r.msgs.length (p++[(ZK w a w.msgs.length,ZK r b r.msgs.length)]):=by
 refine ⟨List.nodup_append.2 ⟨h.nodup,by simp,fun x hx y hy=>?_⟩,fun x hx=>?_⟩
 ·rintro rfl; simp at hy; subst hy; exact hn hx
 ·rcases List.mem_append.1 hx with hx | hx
  ·exact h.range x hx
  ·simp at hx; subst hx
   have h1:=KW w a; have h2:=KW r b
   exact ⟨h1.1,h1.2,h2.1,h2.2⟩
theorem ZcB {w r:Dfn} (hw:∀ m∈w.msgs,m.fields.length≤40):∀ n,ZmK w.msgs.length r.msgs.length (YE w r n):=by
 intro n
 induction n with
 | zero=>intro p a b s h; exact .refl h
 | succ n ih =>
  intro p a b s h
  rw [YE]
  split
  ·exact .refl h
  ·rename_i hn
   have h1:=h.snoc hn
   have hf:(w.msgs.getD (ZK w a w.msgs.length).toNat default).fields.length≤40:=by
    by_cases hi:(ZK w a w.msgs.length).toNat < w.msgs.length
    ·exact hw _ (KQ hi)
    ·rw [List.getD,List.getElem?_eq_none (by omega)]; decide
   generalize (ZK w a w.msgs.length,ZK r b r.msgs.length)=x at *
   have h2:=Zjt (m:=w.msgs.getD (ZK w a w.msgs.length).toNat default) (path:=s) (l:=(w.msgs.getD (ZK w a w.msgs.length).toNat default).fields.zip (r.msgs.getD (ZK r b r.msgs.length).toNat default).fields) ih h1
   refine ⟨h2.1,?_⟩
   simp only [JS,List.length_append]
   have h3:=h2.2
   simp only [List.length_zip,List.length_append,List.length_cons,List.length_nil] at h3
   split
   ·simp only [List.length_cons,List.length_nil]; omega
   ·simp only [List.length_nil]; omega
end Go.DL
namespace Go.DL
open Go Go.Proofs
theorem ZhF {α:Type} [Inhabited α] {p:α→Bool} {l:List α} {n:Nat} (h:0≤ZQ p (l.take n)):ZQ p l=ZQ p (l.take n):=by
 have h1:=Zek h
 have h2:=ZaF p (l.take n)
 rw [List.length_take] at h2
 have h3:=Je (p:=p) (l:=l) (i:=(ZQ p (l.take n)).toNat) (by omega) (by rw [← Zcb (n:=n) (by omega)]; exact h1.1) (fun j hj=>by rw [← Zcb (n:=n) (by omega)]; exact h1.2 j hj)
 omega
theorem Zif {d:Dfn} {s:Str} {n:Nat} (h:0≤ZK d s n):ZK d s d.msgs.length=ZK d s n∧ZK d s n < n∧ZK d s n < d.msgs.length:=by
 unfold ZK at *
 have h2:=ZaF (fun m:Msg=>decide (m.name=s)) (d.msgs.take n)
 rw [List.length_take] at h2
 refine ⟨?_,by omega,by omega⟩
 rw [List.take_length]; exact ZhF h
theorem Zim {d:Dfn} {s:Str} {n:Nat} (h:0≤ZK d s n):(d.msgs.getD (ZK d s n).toNat default).name=s:=by
 have h3:=Zif h
 unfold ZK at *
 have h1:=(Zek h).1
 rw [Zcb (by omega)] at h1
 simpa using h1
theorem Zjr {d:Dfn} {at_:Nat} {l:List Msg} {deps:List Int} (h:J3 d at_ l deps=none):(∀ i,i < l.length→Qd d (at_ + i) (l.getD i default)=none)∧0≤ZK d d.start d.msgs.length:=by
 induction l generalizing at_ deps with
 | nil =>
  simp only [J3] at h
  split at h
  ·simp at h
  ·exact ⟨fun i hi=>by simp at hi,by omega⟩
 | cons m r ih =>
  simp only [J3] at h
  split at h
  ·simp at h
  ·rename_i hm
   split at h
   ·simp at h
   ·have h1:=ih h
    refine ⟨fun i hi=>?_,h1.2⟩
    cases i with
    | zero=>simpa using hm
    | succ i =>
     have:=h1.1 i (by simpa using hi)
     simpa [Nat.add_assoc,Nat.add_comm 1 i] using this
structure KF (d:Dfn):Prop where
 many:d.msgs.length≤60
 start:0≤ZK d d.start d.msgs.length
 flaw:∀ i,i < d.msgs.length→Qd d i (d.msgs.getD i default)=none
theorem JG {d:Dfn} (h:YU d=true):KF d:=by
 unfold YU Zlr at h
 split at h
 ·simp at h
 ·split at h
  ·simp at h
  ·rename_i hc
   simp only [Bool.or_eq_true,decide_eq_true_eq,not_or,Nat.not_lt] at hc
   simp only [Option.isNone_iff_eq_none] at h
   have:=Zjr h
   refine ⟨by omega,this.2,fun i hi=>by simpa using this.1 i hi⟩
theorem Zje {s:Str} (h:K7 s=true):s.length≤32:=by
 unfold K7 at h
 split at h
 ·simp
 ·simp only [Bool.and_eq_true,decide_eq_true_eq] at h; exact h.1.1
structure Zc1 (d:Dfn) (j:Nat) (m:Msg):Prop where
 name:m.name.length≤32
 many:m.fields.length≤40
 field:∀ i,i < m.fields.length→Qv d j m i (m.fields.getD i default)=0
theorem ZhT {d:Dfn} {j:Nat} {m:Msg} {k:Nat} {l:List Fld} (h:Km d j m k l=none):∀ i,i < l.length→Qv d j m (k + i) (l.getD i default)=0:=by
 induction l generalizing k with
 | nil=>intro i hi; simp at hi
 | cons f r ih =>
  simp only [Km] at h
  split at h
  ·rename_i hf
   intro i hi
   cases i with
   | zero=>simpa using hf
   | succ i=>have:=ih h i (by simpa using hi); simpa [Nat.add_assoc,Nat.add_comm 1 i] using this
  ·simp at h
theorem Zo6 {d:Dfn} {j:Nat} {m:Msg} (h:Qd d j m=none):Zc1 d j m:=by
 unfold Qd at h
 split at h; · simp at h
 rename_i h1
 split at h; · simp at h
 split at h; · simp at h
 rename_i hc
 simp only [Bool.or_eq_true,decide_eq_true_eq,not_or,Nat.not_lt] at hc
 exact ⟨Zje (by simpa using h1),by omega,fun i hi=>by simpa using ZhT h i hi⟩
structure ZkJ (d:Dfn) (j:Nat) (f:Fld):Prop where
 name:f.name.length≤32
 ref:∀ s∈Wv f,0≤ZK d s d.msgs.length∧ZK d s d.msgs.length < j
 cases:f.cases≠[]→f.kind=9
theorem ZkJ.many {d:Dfn} {j:Nat} {f:Fld} (h:ZkJ d j f) (hl:(Wv f).length≤41):f.cases.length≤41:=by
 by_cases hc:f.cases=[]
 ·simp [hc]
 ·unfold Wv at hl
  rw [if_pos (h.cases hc)] at hl
  simp at hl; omega
theorem Zl3 {f:Fld} (h1:1≤f.kind) (h2:f.kind≤12) (h:ZbP f=true) (hc:f.cases≠[]):f.kind=9:=by
 have hk:f.kind=1∨f.kind=2∨f.kind=3∨f.kind=4∨f.kind=5∨f.kind=6∨f.kind=7∨f.kind=8∨f.kind=9∨f.kind=10∨f.kind=11∨f.kind=12:=by omega
 simp only [ZbP,Bool.and_eq_true] at h
 have h3:=h.2.2
 rcases hk with hk | hk | hk | hk | hk | hk | hk | hk | hk | hk | hk | hk <;> rw [hk] at h3 ⊢ <;> simp [zrC,Zfp,ZkF,ZaW,hc] at h3 <;> rfl
theorem Zlu {d:Dfn} {j i:Nat} {m:Msg} {f:Fld} (h:Qv d j m i f=0):ZkJ d j f:=by
 have h0:=ZfS h
 unfold Qv at h
 split at h; · omega
 rename_i h1
 split at h; · omega
 split at h; · omega
 rename_i hk
 split at h; · omega
 rename_i hz
 simp only [Bool.or_eq_true,decide_eq_true_eq,not_or,Int.not_lt] at hk
 refine ⟨Zje (by simpa using h1),fun s hs=>?_,fun hc=>Zl3 (by omega) (by omega) (by simpa using hz) hc⟩
 have h3:=h0.2 s hs
 have h4:=Zif h3
 exact ⟨by omega,by omega⟩
theorem KF.msg {d:Dfn} (h:KF d) {j:Nat} (hj:j < d.msgs.length):Zc1 d j (d.msgs.getD j default):=Zo6 (h.flaw j hj)
theorem KF.fld {d:Dfn} (h:KF d) {j i:Nat} (hj:j < d.msgs.length) (hi:i < (d.msgs.getD j default).fields.length):ZkJ d j ((d.msgs.getD j default).fields.getD i default):=Zlu ((h.msg hj).field i hi)
theorem KF.ncases {d:Dfn} (h:KF d) {j i:Nat} (hj:j < d.msgs.length) (hi:i < (d.msgs.getD j default).fields.length):((d.msgs.getD j default).fields.getD i default).cases.length≤41:=(h.fld hj hi).many (ZfS ((h.msg hj).field i hi)).1
theorem KF.fields {d:Dfn} (h:KF d):∀ m∈d.msgs,m.fields.length≤40:=by
 intro m hm
 obtain ⟨j,hj,rfl⟩:=List.getElem_of_mem hm
 have:=(h.msg hj).many
 simpa [List.getD,hj] using this
theorem ZmJ {m:Msg} {f g:Fld} (h:Ji m f g=0):f.kind=g.kind∧(Qa m f=true→f.of=g.of)∧∀ c∈f.cases,Y3 c c.low g.cases=true:=by
 unfold Ji at h
 split at h; · omega
 split at h; · omega
 rename_i hk
 split at h; · omega
 split at h; · omega
 split at h; · omega
 split at h; · omega
 split at h; · omega
 split at h; · omega
 rename_i ho
 split at h
 ·rename_i hc
  refine ⟨by simpa using hk,fun hi=>?_,fun c hx=>List.all_eq_true.1 hc c hx⟩
  rw [hi] at ho; simpa using ho
 ·omega
theorem Zhw {c:Y9} {v:Int} {l:List Y9} (h:Y3 c v l=true):∃ x∈l,x.of=c.of:=by
 induction l generalizing v with
 | nil=>simp [Y3] at h
 | cons x r ih =>
  simp only [Y3] at h
  split at h
  ·rename_i hx
   simp only [Bool.and_eq_true,decide_eq_true_eq] at hx
   exact ⟨x,by simp,hx.2.2⟩
  ·obtain ⟨y,hy,he⟩:=ih h
   exact ⟨y,by simp [hy],he⟩
theorem ZfH {m:Msg} {f:Fld} (h:Qa m f=true):f.of∈Wv f:=by
 simp only [Qa,Bool.or_eq_true,Bool.and_eq_true,decide_eq_true_eq] at h
 unfold Wv Zag
 rcases h with h | h | h
 ·simp [h]
 ·simp [h]
 ·simp [h.1]
theorem Znt {m:Msg} {f g:Fld} (h:Qa m f=true) (hk:f.kind=g.kind):g.of∈Wv g:=by
 simp only [Qa,Bool.or_eq_true,Bool.and_eq_true,decide_eq_true_eq] at h
 unfold Wv Zag
 rw [← hk]
 rcases h with h | h | h
 ·simp [h]
 ·simp [h]
 ·simp [h.1]
theorem ZeP {f:Fld} {c:Y9} (hk:f.kind=9) (hc:c∈f.cases):c.of∈Wv f:=by
 unfold Wv; rw [if_pos hk]; exact List.mem_append_right _ (List.mem_map_of_mem hc)
end Go.DL
namespace Go.DL
open Go
theorem KD {q:Nat→Prop} {j:Nat} (h:∀ i,i < j→q i) (hj:q j):∀ i,i < j + 1→q i:=fun i hi=>by
 rcases Nat.lt_or_eq_of_le (Nat.le_of_lt_succ hi) with h' | rfl
 ·exact h i h'
 ·exact hj
theorem Zlw {s:St} {t:Tok} {x:Nat} {o:Kq} (h:t.okIn (s.upd x o)):t.okIn s∧∀ k,(s.upd x o).own t k=(s.own t k).upd x o:=by
 cases t with
 | tip b =>
  simp only [Tok.okIn] at h
  have hb:b≠x:=fun e=>by rw [e,St.upd_same] at h; simp at h
  refine ⟨by simp only [Tok.okIn]; rw [St.upd_ne s o hb] at h; exact h,fun k=>?_⟩
  simp only [St.own]; exact St.upd_comm s o _ hb
 | full=>exact ⟨trivial,fun _=>rfl⟩
 | none=>exact h.elim
theorem ZkR {s:St} {t:Tok} {x k:Nat} (o:Kq) (h:t.okIn s) (hx:(s.own t k) x=none):t.okIn (s.upd x o):=by
 cases t with
 | tip b =>
  simp only [Tok.okIn,St.own] at h hx ⊢
  have hb:b≠x:=fun e=>by rw [e,St.upd_same] at hx; simp at hx
  rw [St.upd_ne s o hb]; exact h
 | full=>trivial
 | none=>exact h.elim
theorem ZgU {s:St} {t:Tok} {x k:Nat} (ht:t.okIn s) {o:Kq} (hx:s x=some o):(s.own t k) x=some o:=ZM ht _ _ hx
theorem ZoM {s:St} {t:Tok} {x k:Nat} (hx:(s.own t k) x=none):s x=none∧∀ j,(s.own t j) x=none:=by
 cases t with
 | tip b =>
  simp only [St.own] at hx ⊢
  have hb:x≠b:=fun e=>by rw [e,St.upd_same] at hx; simp at hx
  rw [St.upd_ne s _ hb] at hx
  exact ⟨hx,fun j=>by rw [St.upd_ne s _ hb]; exact hx⟩
 | _=>exact ⟨hx,fun _=>hx⟩
theorem Zp6 {s:St} {t:Tok} {x:Nat} {o:Kq} (h:t.okIn (s.upd x o)) (hx:s x=none) (k:Nat):(s.own t k) x=none:=by
 cases t with
 | tip b =>
  simp only [Tok.okIn,St.own] at h ⊢
  have hb:x≠b:=fun e=>by rw [e,St.upd_same] at h; simp at h
  rw [St.upd_ne s _ hb]; exact hx
 | _=>exact hx
def st2 (st:St) (t1:Tok) (k1:Nat) (t2:Tok) (k2:Nat) (x:Nat) (c:Kq):St:=((st.own t1 k1).own t2 k2).upd x c
end Go.DL
namespace Go.DL
open Go Go.Proofs
theorem Zfk {l l':List Fld} {j:Nat} (h:j < l.length) (h':j < l'.length):(l.zip l').getD j default=(l.getD j default,l'.getD j default):=by
 have:j < (l.zip l').length:=by rw [List.length_zip]; omega
 simp [List.getD,List.getElem?_eq_getElem this,h,h']
theorem KF.name_len {d:Dfn} (h:KF d) {s:Str} (hs:0≤ZK d s d.msgs.length):s.length≤32:=by
 have h1:=Zim hs
 have h2:=(KW d s).2
 have h3:=(h.msg (j:=(ZK d s d.msgs.length).toNat) (by omega)).name
 rw [h1] at h3; exact h3
end Go.DL
namespace Go.DL
open Go Go.Proofs
def Zcn (l:List Dfn) (i:Nat):Bool:=l.all fun w=>decide (((KA w (l.getD i default)).length:Int)=0)
def Zax (l:List Dfn):Nat→Int
 | 0=>-1
 | i + 1=>if Zcn l i then i else Zax l i
def Zaq (l:List Dfn):D:=slD 3 Dfn.cells l
end Go.DL
namespace Go.DL
open Go Go.ChangeShapes Go.RowKit Go.WideShapes Go.ChangeAt
def Zdq (W:World):G:={ prot:=fun b=>match W.heap[b]? with | some (.cells vs _ _)=>vs.size | _=>0,kept:=fun b=>b < W.heap.size }
theorem Zqm (W:World):Kg (Zdq W) (fun _=>none) W:={
 obj b o h:=by simp at h
 kept b o h:=by simp at h
 fresh b hb:=⟨by simp [Zdq,hb],by simp only [Zdq]; omega⟩ }
theorem ZoH {P:Program} {f:FuncId} {args:List D} (h:Yk P f args (.bool true)) {W:World} {vs:List Value} (ha:YQ (Rep (Zdq W) W) vs args) :
  Calls P f vs.toArray W fun e W'=>e = .returned (.bool true)∧Below W.heap.size W W':=by
 refine ((h (fun _=>none)).2 _ W vs (Zqm W) ha).mono fun e W' hp=>?_
 obtain ⟨g',s',r,he,hs,hr,hq,_⟩:=hp
 subst hq
 cases e with
 | returned v=>cases hr; exact ⟨rfl,he.os,he.tape,he.output,he.size,fun b hb=>he.kept b hb⟩
 | _=>exact hr.elim
section
variable {H:Type} {enc:TypeId × Value→H} {P:Program} {w:World}
def QR (enc:TypeId × Value→H) (P:Program) (w:World) (t:TypeId) (R:List D→Prop):Prop :=
 ∀ fuel cs x,DataW.trod enc P w 0 (fun _=>true) true fuel t cs=some x→∃ ds,R ds∧YQ (Rep (Zdq w) w) cs ds∧∀ v∈cs,v.one1=true
theorem ZqP {k:IntKind} {n:Int} (h:(Lit.int k n).wf=true):inR k n:=by
 simpa [Lit.wf,inR] using h
theorem Zbm {t:TypeId} {k:IntKind} (ht:P.underlying t=some (.int k)):QR enc P w t fun ds=>∃ n,ds=[.int k n]:=by
 intro fuel cs x h
 obtain ⟨n,rfl,_,hn⟩:=DataW.trod_int ht h
 exact ⟨_,⟨n,rfl⟩,.cons (.int k n (ZqP hn)) .nil,fun v hv=>by simp at hv; subst hv; rfl⟩
theorem Zm9 {t:TypeId} (ht:P.underlying t=some .bool):QR enc P w t fun ds=>∃ b,ds=[.bool b]:=by
 intro fuel cs x h
 obtain ⟨n,rfl,_⟩:=DataW.trod_bool ht h
 exact ⟨_,⟨n,rfl⟩,.cons (.bool n) .nil,fun v hv=>by simp at hv; subst hv; rfl⟩
theorem Zbr {t:TypeId} (ht:P.underlying t=some .string):QR enc P w t fun ds=>∃ s,ds=[.str s]:=by
 intro fuel cs x h
 obtain ⟨s,rfl,_,hs⟩:=DataW.trod_string ht h
 refine ⟨_,⟨s.data.toList,rfl⟩,.cons (.str s _ rfl ?_) .nil,fun v hv=>by simp at hv; subst hv; rfl⟩
 have:s.data.toList.length=s.size:=by rw [Array.length_toList]; rfl
 rw [this]; simp only [maxLen] at hs; simp only [big]; omega
theorem Zmh {α β:Type} {R:α→β→Prop} {a a':List α} {b b':List β} (h:YQ R a b) (h':YQ R a' b'):YQ R (a++a') (b++b'):=by
 induction h with
 | nil=>exact h'
 | cons h1 _ ih=>exact .cons h1 ih
def Cat:List (List D→Prop)→List D→Prop
 | [],ds=>ds=[]
 | R :: Rs,ds=>∃ a b,ds=a++b∧R a∧Cat Rs b
def ZlM (P:Program):Nat→List Field→Nat→Bool
 | o,[],n=>o == n
 | o,f :: r,n=>f.offset == o && ZlM P (o + P.cellsOf f.type) r n
inductive Zgg (enc:TypeId × Value→H) (P:Program) (w:World):List Field→List (List D→Prop)→Prop where
 | nil:Zgg enc P w [] []
 | cons {f:Field} {fs:List Field} {R:List D→Prop} {Rs:List (List D→Prop)} (h:QR enc P w f.type R) (t:Zgg enc P w fs Rs):Zgg enc P w (f :: fs) (R :: Rs)
theorem ZnJ {fs:List Field} {Rs:List (List D→Prop)} (hR:Zgg enc P w fs Rs):∀ {o n m:Nat} {cs:List Value},ZlM P o fs n=true→cs.length=n →
  (∀ f∈fs,∃ x,DataW.trod enc P w 0 (fun _=>true) true m f.type ((cs.drop f.offset).take (P.cellsOf f.type))=some x) →
  ∃ ds,Cat Rs ds∧YQ (Rep (Zdq w) w) (cs.drop o) ds∧∀ v∈cs.drop o,v.one1=true:=by
 induction hR with
 | nil =>
  intro o n m cs ho hl _
  simp only [ZlM,beq_iff_eq] at ho
  subst ho; subst hl
  exact ⟨[],rfl,by rw [List.drop_length]; exact .nil,by simp⟩
 | cons h _ ih =>
  rename_i f fs R Rs _
  intro o n m cs ho hl hx
  simp only [ZlM,Bool.and_eq_true,beq_iff_eq] at ho
  obtain ⟨ho1,ho2⟩:=ho
  obtain ⟨x,h1⟩:=hx f (List.mem_cons_self ..)
  obtain ⟨a,ha1,ha2,ha3⟩:=h _ _ _ h1
  obtain ⟨b,hb1,hb2,hb3⟩:=ih ho2 hl fun f' hf'=>hx f' (List.mem_cons_of_mem _ hf')
  rw [ho1] at ha2 ha3
  have e:cs.drop o=(cs.drop o).take (P.cellsOf f.type)++cs.drop (o + P.cellsOf f.type):=by
   rw [← List.drop_drop]; exact (List.take_append_drop _ _).symm
  refine ⟨a++b,⟨a,b,rfl,ha1,hb1⟩,by rw [e]; exact Zmh ha2 hb2,fun v hv=>?_⟩
  rw [e,List.mem_append] at hv
  exact hv.elim (ha3 v) (hb3 v)
theorem JX {t:TypeId} {fs:Array Field} (ht:P.underlying t=some (.struct fs)) {Rs:List (List D→Prop)} (hR:Zgg enc P w fs.toList Rs) (ho:ZlM P 0 fs.toList (P.cellsOf t)=true):QR enc P w t (Cat Rs):=by
 intro fuel cs x h
 obtain ⟨xs,n,rfl,_,hl,hxl,hx⟩:=DataW.trod_struct ht h
 obtain ⟨ds,h1,h2,h3⟩:=ZnJ hR (m:=n) ho hl (fun f hf=>by
  obtain ⟨i,hi,rfl⟩:=List.getElem_of_mem hf
  have hi':i < fs.size:=by simpa using hi
  refine ⟨xs[i]'(by omega),?_⟩
  have:=hx i fs[i] (by simp [hi'])
  rw [List.getElem?_eq_getElem (by omega)] at this
  simpa using this)
 rw [List.drop_zero] at h2 h3
 exact ⟨ds,h1,h2,h3⟩
theorem QR.imp {t:TypeId} {R R':List D→Prop} (h:QR enc P w t R) (hi:∀ ds,R ds→R' ds):QR enc P w t R':=fun fuel cs x hx=>by
 obtain ⟨ds,h1,h2⟩:=h fuel cs x hx
 exact ⟨ds,hi ds h1,h2⟩
theorem Zbp {a:Addr} {n:Nat} {cs:List Value} (h:w.cells? 0 a n=some cs):cs.length=n∧∀ j,j < n→w.cell? (a.add j)=cs[j]?:=by
 simp only [World.cells?,Nat.zero_le,if_true] at h
 refine ⟨by simpa using mapM_some_length h,fun j hj=>?_⟩
 have:=mapM_some_get h j j (by simp [hj])
 exact this
theorem ZcC {t e:TypeId} {n:Nat} {α:Type} [Inhabited α] {f:α→List D} (ht:P.underlying t=some (.slice e)) (hn:P.cellsOf e=n) (hn0:0 < n) (hf:∀ x,(f x).length=n)
  (he:QR enc P w e fun ds=>∃ x,ds=f x):QR enc P w t fun ds=>∃ l:List α,ds=[.sl .none l.length n fun i=>f (l.getD i default)]:=by
 intro fuel cs x h
 rcases DataW.trod_slice ht h with ⟨rfl,_⟩ | ⟨a,len,cap,elems,rest,m,rfl,rfl,_,_,hlc,hcap,hel,hx,hrest,_⟩
 ·exact ⟨_,⟨[],rfl⟩,.cons (.sl0 _ _ _ _ (by simp)) .nil,fun v hv=>by simp at hv; subst hv; rfl⟩
 have key:∀ i,i < len→∃ (cs:List Value) (y:α),w.cells? 0 (a.add (i * n)) n=some cs∧YQ (Rep (Zdq w) w) cs (f y)∧∀ v∈cs,v.one1=true:=by
  intro i hi
  have h1:=hx i hi
  rw [List.getElem?_eq_getElem (by omega),hn] at h1
  obtain ⟨cs,h2,h3⟩:=Option.bind_eq_some_iff.1 h1
  obtain ⟨ds,⟨y,rfl⟩,h4,h5⟩:=he _ _ _ h3
  exact ⟨cs,y,h2,h4,h5⟩
 have hbig:cap≤big:=by simp only [maxLen] at hcap; simp only [big]; omega
 let g:(i:Nat)→i < len→α:=fun i hi=>(Classical.choose_spec (key i hi)).choose
 let c:(i:Nat)→i < len→List Value:=fun i hi=>Classical.choose (key i hi)
 have hg:∀ i (hi:i < len),w.cells? 0 (a.add (i * n)) n=some (c i hi)∧YQ (Rep (Zdq w) w) (c i hi) (f (g i hi))∧∀ v∈c i hi,v.one1=true:=fun i hi=>(Classical.choose_spec (key i hi)).choose_spec
 let l:List α:=List.ofFn fun i:Fin len=>g i.1 i.2
 have hll:l.length=len:=by simp [l]
 have hlg:∀ i (hi:i < len),l.getD i default=g i hi:=fun i hi=>by simp [l,List.getD,hi]
 refine ⟨_,⟨l,rfl⟩,.cons ?_ .nil,fun v hv=>by simp at hv; subst hv; rfl⟩
 by_cases hl0:len=0
 ·subst hl0
  have hle:l=[]:=List.eq_nil_of_length_eq_zero hll
  rw [hle]
  by_cases hs:a.spot=none
  ·obtain ⟨b,o,sp⟩:=a
   simp only at hs
   subst hs
   exact .sl b o 0 cap n _ .none (fun _ _=>undef) (fun i hi=>by simp at hi) (fun i j hi=>by simp at hi) (fun i j hi=>by simp at hi) (fun i j d hi=>by simp at hi) (fun i j hi=>by simp at hi) trivial (Nat.zero_le _) hbig
  ·have hc0:cap=0:=by
    rcases Nat.eq_zero_or_pos cap with h0 | h0
    ·exact h0
    ·obtain ⟨h1,h2⟩:=hrest rfl
     have h3:=h2 0 (by omega)
     rw [List.getElem?_eq_getElem (by omega),hn] at h3
     obtain ⟨cs,h4,_⟩:=Option.bind_eq_some_iff.1 h3
     have h5:=(Zbp h4).2 0 (by omega)
     have h6:=(Zbp h4).1
     rw [List.getElem?_eq_getElem (by omega)] at h5
     have:=World.cell?_spot h5
     exact absurd (by simpa [Addr.add] using this) hs
   subst hc0
   exact .sl0 _ _ _ _ (by simp)
 ·have hsp:a.spot=none:=by
   have h0:=(hg 0 (by omega)).1
   have h1:=(Zbp h0).2 0 (by omega)
   have h2:(c 0 (by omega)).length=n:=(Zbp h0).1
   rw [List.getElem?_eq_getElem (by omega)] at h1
   have:=World.cell?_spot h1
   simpa [Addr.add] using this
  obtain ⟨b,o,sp⟩:=a
  simp only at hsp
  subst hsp
  have hget:∀ i j (hi:i < len) (hj:j < n),w.cell? ⟨b,o + i * n + j,none⟩=(c i hi)[j]?:=fun i j hi hj=>by
   have h1:=(Zbp (hg i hi).1).2 j hj
   rw [QK,QK] at h1
   exact h1
  have hcl:∀ i (hi:i < len),(c i hi).length=n:=fun i hi=>(Zbp (hg i hi).1).1
  rw [hll]
  refine .sl b o len cap n _ .none (fun i j=>if hi:i < len then (c i hi).getD j undef else undef) (fun i hi=>by rw [hlg i hi]; exact hf _) (fun i j hi hj=>?_) (fun i j hi hj=>?_) (fun i j d hi hd=>?_) (fun i j hi hj=>?_) trivial hlc hbig
  ·simp only [dif_pos hi]
   rw [hget i j hi hj,List.getD,List.getElem?_eq_getElem (by rw [hcl i hi]; exact hj)]; rfl
  ·have h1:=hget i j hi hj
   rw [List.getElem?_eq_getElem (by rw [hcl i hi]; exact hj)] at h1
   simp only [World.cell?] at h1
   split at h1
   ·rename_i vs T fr hh
    simp only [Zdq,hh]
    have h1':vs[o + i * n + j]? = some ((c i hi)[j]'(by rw [hcl i hi]; exact hj)):=by simpa using h1
    exact (Array.getElem?_eq_some_iff.1 h1').1
   ·simp at h1
  ·simp only [dif_pos hi]
   rw [hlg i hi] at hd
   have hj:j < n:=by rw [← hf (g i hi)]; exact (List.getElem?_eq_some_iff.1 hd).1
   refine (hg i hi).2.1.get j _ d ?_ hd
   rw [List.getD,List.getElem?_eq_getElem (by rw [hcl i hi]; exact hj)]; rfl
  ·simp only [dif_pos hi]
   refine (hg i hi).2.2 _ ?_
   rw [List.getD,List.getElem?_eq_getElem (by rw [hcl i hi]; exact hj)]
   exact List.getElem_mem _
def Zib (enc:TypeId × Value→H) (P:Program) (t:TypeId) (Q:D→Prop):Prop :=
 ∀ (W:World) (base:Nat) (v:Value) (d:DataW H) (ps:List MemPlace),Value.okWide P W .any base t v→DataW.Trod enc P W 0 (fun _=>true) true t v d ps→∃ x,Q x∧Rep (Zdq W) W v x
theorem Zi1 {t:TypeId} {fs:Array Field} (ht:P.underlying t=some (.struct fs)) {R:List D→Prop} (h:∀ W,QR enc P W t R):Zib enc P t fun x=>∃ ds,R ds∧x = .agg ds:=by
 intro W base v d ps hok ⟨fuel,hf⟩
 obtain ⟨cs,rfl,_⟩:=okWide_struct ht hok
 obtain ⟨ds,h1,h2,h3⟩:=h W _ _ _ hf
 exact ⟨_,⟨ds,h1,rfl⟩,.agg cs.toList ds h2.len (fun i v d hv hd=>h2.get i v d hv hd) h3⟩
inductive Ziq (enc:TypeId × Value→H) (P:Program):List TypeId→List (D→Prop)→Prop where
 | nil:Ziq enc P [] []
 | cons {t:TypeId} {Q:D→Prop} {ts:List TypeId} {Qs:List (D→Prop)} (h:Zib enc P t Q) (r:Ziq enc P ts Qs):Ziq enc P (t :: ts) (Q :: Qs)
inductive ZlP:List (D→Prop)→List D→Prop where
 | nil:ZlP [] []
 | cons {Q:D→Prop} {x:D} {Qs:List (D→Prop)} {xs:List D} (h:Q x) (r:ZlP Qs xs):ZlP (Q :: Qs) (x :: xs)
theorem ZoL {ts:List TypeId} {Qs:List (D→Prop)} (h:Ziq enc P ts Qs):∀ {W:World} {base:Nat} {vs:List Value} {ds:List (DataW H)} {ps:List MemPlace},
  (∀ (j:Nat) t v,ts[j]? = some t→vs[j]? = some v→Value.okWide P W .any base t v)→DataW.TrodAll enc P W 0 (fun _=>true) true ts vs ds ps→∃ xs,ZlP Qs xs∧YQ (Rep (Zdq W) W) vs xs:=by
 induction h with
 | nil =>
  intro W base vs ds ps _ ht
  obtain ⟨rfl,_⟩:=trodAll_nil ht
  exact ⟨[],.nil,.nil⟩
 | cons h1 _ ih =>
  intro W base vs ds ps hok ht
  obtain ⟨v,vs',d,ds',p,q,rfl,rfl,rfl,h2,h3⟩:=trodAll_cons ht
  obtain ⟨x,hx1,hx2⟩:=h1 W base v d p (hok 0 _ _ rfl rfl) h2
  obtain ⟨xs,hxs1,hxs2⟩:=ih (base:=base) (fun j t v hj hv=>hok (j + 1) t v (by simpa using hj) (by simpa using hv)) h3
  exact ⟨x :: xs,.cons hx1 hxs1,.cons hx2 hxs2⟩
theorem Zfq (hl:laidOutB P=true) {W W':World} (hb:Below W.heap.size W W'):∀ {ts:List TypeId} {vs:List Value} {ds:List (DataW H)} {ps:List MemPlace},(∀ t∈ts,P.readableRec t=true∧t < P.types.size) →
  DataW.TrodAll enc P W 0 (fun _=>true) true ts vs ds ps→(∀ x∈ps,x.block < W.heap.size)→DataW.TrodAll enc P W' 0 (fun b=>decide (b < W.heap.size)) true ts vs ds ps
 | [],vs,ds,ps,_,h,_=>by
  obtain ⟨rfl,rfl,rfl⟩:=trodAll_nil h
  rfl
 | t :: ts,vs,ds,ps,ht,h,hlt=>by
  obtain ⟨v,vs',d,ds',p,q,rfl,rfl,rfl,h2,h3⟩:=trodAll_cons h
  have h4:=ht t (List.mem_cons_self ..)
  exact trodAll_cons_mk (Below.trod hl h4.1 h4.2 h2 hb fun x hx=>hlt x (List.mem_append_left _ hx)) (Zfq hl hb (fun t ht'=>ht t (List.mem_cons_of_mem _ ht')) h3 fun x hx=>hlt x (List.mem_append_right _ hx))
theorem Zlq {f:FuncId} {fn:Func} {s:ChangeSpec} {tb:TypeId} {Qs:List (D→Prop)} (hv:s.vars=[]) (hl:laidOutB P=true) (hr:∀ t∈fn.params.toList,P.readableRec t=true∧t < P.types.size)
  (hres:fn.resultTypes = #[tb]) (hb:P.underlying tb=some .bool) (hfn:∀ ds:List (DataW H),ds.length=fn.params.toList.length→s.fn H ds={ results:=[.lit (.bool true)],args:=ds })
  (hargs:Ziq enc P fn.params.toList Qs) (hcall:∀ xs,ZlP Qs xs→Yk P f xs (.bool true))
  (W:World) (base:Nat) (args:Array Value) (ds gs:List (DataW H)) (before:List MemPlace)
  (hval:∀ (j:Nat) t v,fn.params[j]? = some t→args[j]? = some v→Value.okWide P W .any base t v) (hW:DataW.Whole enc P fn.params.toList s.vars false W args.toList ds gs before) :
  Calls P f args W fun e W'=>∃ v,e = .returned v∧s.post enc P fn false true false false W args v W':=by
 have hW':=hW
 obtain ⟨p,q,hA,hV,rfl,_,_⟩:=hW
 rw [hv] at hV
 obtain ⟨rfl,rfl⟩:=trodVars_none hV
 obtain ⟨xs,hx1,hx2⟩:=ZoL hargs (fun j t v hj hvj=>hval j t v (by simpa using hj) (by simpa using hvj)) hA
 have hlen:=(trodAll_length hA).2
 have hlt:∀ x∈p,x.block < W.heap.size:=fun x hx=>by simpa using hW'.lt x (by simpa using hx)
 refine (ZoH (hcall xs hx1) hx2).mono fun e W' ⟨he,hbel⟩=>⟨.bool true,he,?_⟩
 have hspec:=hfn ds hlen
 refine ⟨ds,[],p++[],[],p,[],hW',?_,?_,?_,hbel.frame _,fun h=>by cases h⟩
 ·rw [List.append_nil,hspec,hres]
  exact trodAll_mk1 ⟨1,by simp [DataW.trod,hb,Value.cells]⟩
 ·rw [List.append_nil,hspec]
  exact Zfq hl hbel hr hA hlt
 ·rw [hv,List.append_nil,hspec]
  rfl
end
end Go.DL
namespace Go.DL
open Go Go.Proofs
section
variable {H:Type} {enc:TypeId × Value→H} {w:World}
theorem Zp1:QR enc Tryz.prog w 85 fun ds=>∃ x:Z5,ds=x.cells:=by
 refine (JX (P:=Tryz.prog) Tryz.underlying85 (Rs:=[_,_]) (.cons (Zbr Tryz.underlying9) (.cons (Zbm Tryz.underlying3) .nil)) (by kernel_rfl)).imp ?_
 rintro ds ⟨_,_,rfl,⟨a,rfl⟩,_,_,rfl,⟨b,rfl⟩,rfl⟩
 exact ⟨⟨a,b⟩,rfl⟩
theorem Zpv:QR enc Tryz.prog w 49 fun ds=>∃ l:List Z5,ds=[Y4 l] :=
 ZcC (f:=Z5.cells) Tryz.underlying49 (by kernel_rfl) (by decide) (fun _=>rfl) Zp1
theorem ZpI:QR enc Tryz.prog w 51 fun ds=>∃ x:WP,ds=x.cells:=by
 refine (JX (P:=Tryz.prog) Tryz.underlying51 (Rs:=[_,_]) (.cons (Zbm Tryz.underlying3) (.cons Zpv .nil)) (by kernel_rfl)).imp ?_
 rintro ds ⟨_,_,rfl,⟨a,rfl⟩,_,_,rfl,⟨b,rfl⟩,rfl⟩
 exact ⟨⟨a,b⟩,rfl⟩
theorem Zp2:QR enc Tryz.prog w 103 fun ds=>∃ x:Y9,ds=x.cells:=by
 refine (JX (P:=Tryz.prog) Tryz.underlying103 (Rs:=[_,_,_]) (.cons (Zbm Tryz.underlying3) (.cons (Zbm Tryz.underlying3) (.cons (Zbr Tryz.underlying9) .nil))) (by kernel_rfl)).imp ?_
 rintro ds ⟨_,_,rfl,⟨a,rfl⟩,_,_,rfl,⟨b,rfl⟩,_,_,rfl,⟨c,rfl⟩,rfl⟩
 exact ⟨⟨a,b,c⟩,rfl⟩
theorem ZoP:QR enc Tryz.prog w 52 fun ds=>∃ l:List Y9,ds=[Kx l] :=
 ZcC (f:=Y9.cells) Tryz.underlying52 (by kernel_rfl) (by decide) (fun _=>rfl) Zp2
theorem ZqC:QR enc Tryz.prog w 54 fun ds=>∃ x:Fld,ds=x.cells:=by
 have hs:=Zbr (enc:=enc) (P:=Tryz.prog) (w:=w) Tryz.underlying9
 have hi:=Zbm (enc:=enc) (P:=Tryz.prog) (w:=w) Tryz.underlying3
 have hb:=Zm9 (enc:=enc) (P:=Tryz.prog) (w:=w) Tryz.underlying4
 have hk:=Zbm (enc:=enc) (P:=Tryz.prog) (w:=w) Tryz.underlying48
 refine (JX (P:=Tryz.prog) Tryz.underlying54 (Rs:=[_,_,_,_,_,_,_,_,_,_,_,_,_,_]) (.cons hs (.cons hk (.cons hi (.cons hb (.cons hb (.cons hi (.cons hi (.cons ZpI (.cons hs (.cons hs (.cons hs (.cons ZoP (.cons hi (.cons hi .nil)))))))))))))) (by kernel_rfl)).imp ?_
 rintro ds ⟨_,_,rfl,⟨a,rfl⟩,_,_,rfl,⟨b,rfl⟩,_,_,rfl,⟨c,rfl⟩,_,_,rfl,⟨d,rfl⟩,_,_,rfl,⟨e,rfl⟩,_,_,rfl,⟨f,rfl⟩,_,_,rfl,⟨g,rfl⟩,_,_,rfl,⟨h,rfl⟩,_,_,rfl,⟨i,rfl⟩,_,_,rfl,⟨j,rfl⟩,_,_,rfl,⟨k,rfl⟩,_,_,rfl,⟨l,rfl⟩,_,_,rfl,⟨m,rfl⟩,_,_,rfl,⟨n,rfl⟩,rfl⟩
 exact ⟨⟨a,b,c,d,e,f,g,h,i,j,k,l,m,n⟩,rfl⟩
theorem ZpQ:QR enc Tryz.prog w 42 fun ds=>∃ l:List Fld,ds=[Wl l] :=
 ZcC (f:=Fld.cells) Tryz.underlying42 (by kernel_rfl) (by decide) (fun _=>rfl) ZqC
theorem Zqp:QR enc Tryz.prog w 44 fun ds=>∃ x:Msg,ds=x.cells:=by
 refine (JX (P:=Tryz.prog) Tryz.underlying44 (Rs:=[_,_]) (.cons (Zbr Tryz.underlying9) (.cons ZpQ .nil)) (by kernel_rfl)).imp ?_
 rintro ds ⟨_,_,rfl,⟨a,rfl⟩,_,_,rfl,⟨b,rfl⟩,rfl⟩
 exact ⟨⟨a,b⟩,rfl⟩
theorem ZpY:QR enc Tryz.prog w 22 fun ds=>∃ l:List Msg,ds=[Kf l] :=
 ZcC (f:=Msg.cells) Tryz.underlying22 (by kernel_rfl) (by decide) (fun _=>rfl) Zqp
theorem ZqS:QR enc Tryz.prog w 24 fun ds=>∃ x:Dfn,ds=x.cells:=by
 refine (JX (P:=Tryz.prog) Tryz.underlying24 (Rs:=[_,_,_]) (.cons (Zbr Tryz.underlying9) (.cons ZpY (.cons (Zbr Tryz.underlying9) .nil))) (by kernel_rfl)).imp ?_
 rintro ds ⟨_,_,rfl,⟨a,rfl⟩,_,_,rfl,⟨b,rfl⟩,_,_,rfl,⟨c,rfl⟩,rfl⟩
 exact ⟨⟨a,b,c⟩,rfl⟩
end
end Go.DL
namespace Go.Proofs.YtmnhlhenahlilaaGreat
open Go Go.DL Go.ChangeShapes Go.WideShapes Go.ChangeAt Go.RowKit
set_option linter.unusedVariables false
theorem own:ownKnob Tryz.prog.godebug=none:=by kernel_rfl
theorem laidOut:laidOutB Tryz.prog=true:=by kernel_rfl
theorem arg_Dfn {H:Type} {enc:TypeId × Value→H}:Zib enc Tryz.prog 24 fun x=>∃ ds,(∃ d:Dfn,ds=d.cells)∧x = .agg ds:=Zi1 Tryz.underlying24 fun W=>ZqS
theorem types_ok:∀ t∈[24,56,3],Program.readableRec Tryz.prog t=true∧t < Array.size Tryz.prog.types:=by
 intro t ht
 simp only [List.mem_cons,List.not_mem_nil,or_false] at ht
 rcases ht with rfl | rfl | rfl
 ·exact ⟨by kernel_rfl,of_decide_eq_true (by kernel_rfl)⟩
 ·exact ⟨by kernel_rfl,of_decide_eq_true (by kernel_rfl)⟩
 ·exact ⟨by kernel_rfl,of_decide_eq_true (by kernel_rfl)⟩
end Go.Proofs.YtmnhlhenahlilaaGreat
namespace Go.DL
open Go Go.Proofs
def QQ {α:Type} (p:α→Bool):List α→Nat
 | []=>0
 | x :: r=>if p x then 1 else QQ p r + 1
theorem J9 {α:Type} {p:α→Bool} {l:List α} (h:∀ x∈l,p x=false):QQ p l=l.length:=by
 induction l with
 | nil=>rfl
 | cons x r ih=>simp only [QQ,h x (by simp),List.length_cons]; rw [ih fun y hy=>h y (by simp [hy])]; simp
theorem Zbl {α:Type} [Inhabited α] {p:α→Bool} {l:List α} {i:Nat} (hi:i < l.length) (hp:p (l.getD i default)=true) (h:∀ j,j < i→p (l.getD j default)=false):QQ p l=i + 1:=by
 induction l generalizing i with
 | nil=>simp at hi
 | cons x r ih =>
  cases i with
  | zero=>simp at hp; simp [QQ,hp]
  | succ i =>
   have h0:=h 0 (by omega)
   simp only [List.getD_cons_zero] at h0
   simp only [List.getD_cons_succ,List.length_cons] at hp hi
   simp only [QQ,h0]
   rw [ih (by omega) hp fun j hj=>by have:=h (j + 1) (by omega); simpa only [List.getD_cons_succ] using this]
   simp
def byC (b:UInt8):List D:=[.int .u8 (b.toNat:Int)]
def Zgy (l:List Bool):List D:=[Zet l]
theorem Zaa {α:Type} (p:α→Bool) (l:List α):l.any p=decide (0≤ZQ p l):=by
 induction l with
 | nil=>rfl
 | cons x r ih =>
  have:=ZcR p r
  rw [List.any_cons,ih]
  simp only [ZQ]
  by_cases hx:p x=true
  ·simp [hx]
  ·by_cases hr:ZQ p r < 0
   ·simp [hx,hr]
   ·simp [hx,hr]; omega
theorem ZcH (l:List Msg) (f:D) (p:Msg→Bool) (sts:Nat→St)
  (hf:∀ i,i < l.length→VT Tryz.prog f [.agg (l.getD i default).cells] (sts i) (.bool (p (l.getD i default))) (sts (i + 1))) :
  YD Tryz.prog Zp.id [slD 2 Msg.cells l,f] (sts 0) (.int .i64 (ZQ p l)) (sts (QQ p l)):=by
 refine YG Zp.ok fun hwf F hret=>?_
 have hw:=(K6 (hwf (slD 2 Msg.cells l) (by simp))).1
 unfold big at hw
 clear hwf
 refine Za (Zb (Zc ?_))
 simp only [Eqs,reduceCtorEq,reduceIte,Nat.reduceEqDiff,Nat.reduceAdd,Zp.r0,slD]
 refine Za (Za (Zb (Zc ?_)))
 simp only [Eqs,reduceCtorEq,reduceIte,Nat.reduceEqDiff,Zp.r1]
 refine Zo (YH ?_)
 have key:∀ (n i:Nat),(l.length) - i=n→i≤l.length→(∀ j,j < i→p (l.getD j default)=false)→ZU F [.code (Zp.l0),.inLoop Zp.l0,.inBlock 0,.code (.seq (qR Zp.r7 [4]) .ret)] [(0,.d (slD 2 Msg.cells l)),(1,.d f),(7,.d (.int .i64 l.length)),(8,.d (.int .i64 i))] [] (sts i):=by
  intro n
  induction n using Nat.strongRecOn with
  | ind n ih_key =>
  intro i hn hi hno
  refine Za (Zb (Zc ?_))
  simp only [Eqs,reduceCtorEq,reduceIte,Nat.reduceEqDiff,Zp.r2,slD]
  refine Za (Zg rfl trivial (fun h1=>?_) (fun h1=>?_))
  ·simp at h1
   refine Zq (Za (Zo (Za (Zb (Zc ?_)))))
   simp only [Eqs,reduceCtorEq,reduceIte,Nat.reduceEqDiff,Zp.r3]
   refine Za (Zb (Zc ?_))
   simp only [Eqs,reduceCtorEq,reduceIte,Nat.reduceEqDiff,Nat.reduceAdd,Nat.reduceLeDiff,Zp.r4,Msg.cells]
   repeat (refine And.intro (by first | omega | trivial | (intro h0; simp at h0; omega)) ?_)
   refine ZaR rfl rfl rfl rfl rfl (by trivial) (by trivial) (by exact hf i h1) (Zc ?_)
   simp only [Eqs,reduceCtorEq,reduceIte,Nat.reduceEqDiff]
   refine Zg rfl trivial (fun h2=>?_) (fun h2=>?_)
   ·have e1:=Je h1 h2 hno
    have e2:=Zbl h1 h2 hno
    rw [e1,e2] at hret
    refine Za (Zb (Zc ?_))
    simp only [Eqs,reduceCtorEq,reduceIte,Nat.reduceEqDiff,Zp.r5]
    exact hret rfl (by trivial) (D.Le.refl _) (St.sub_refl _)
   ·refine Zq (ZC (Zb (Zc ?_)))
    simp only [Eqs,reduceCtorEq,reduceIte,Nat.reduceEqDiff,Zp.r6]
    repeat (refine And.intro (by first | omega | trivial | (intro h0; simp at h0; omega)) ?_)
    refine Z3 ?_
    exact ih_key ((l.length) - (i + 1)) (by omega) (i + 1) rfl (by omega) (KD (q:=fun j=>p (l.getD j default)=false) hno h2)
  ·simp at h1
   obtain rfl:i=l.length:=by omega
   have hall:∀ x∈l,p x=false:=fun x hx=>by
    obtain ⟨j,hj,rfl⟩:=List.getElem_of_mem hx
    have:=hno j hj
    simpa [List.getD,hj] using this
   rw [QS hall,J9 hall] at hret
   refine Ys rfl (Za (Zb (Zc ?_)))
   simp only [Eqs,reduceCtorEq,reduceIte,Nat.reduceEqDiff,Zp.r7]
   exact hret rfl (by trivial) (D.Le.refl _) (St.sub_refl _)
 exact key _ 0 rfl (by omega) (by intro j hj; omega)
theorem ZdC (l:List Z5) (f:D) (p:Z5→Bool) (sts:Nat→St)
  (hf:∀ i,i < l.length→VT Tryz.prog f [.agg (l.getD i default).cells] (sts i) (.bool (p (l.getD i default))) (sts (i + 1))) :
  YD Tryz.prog Zk.id [slD 2 Z5.cells l,f] (sts 0) (.int .i64 (ZQ p l)) (sts (QQ p l)):=by
 refine YG Zk.ok fun hwf F hret=>?_
 have hw:=(K6 (hwf (slD 2 Z5.cells l) (by simp))).1
 unfold big at hw
 clear hwf
 refine Za (Zb (Zc ?_))
 simp only [Eqs,reduceCtorEq,reduceIte,Nat.reduceEqDiff,Nat.reduceAdd,Zk.r0,slD]
 refine Za (Za (Zb (Zc ?_)))
 simp only [Eqs,reduceCtorEq,reduceIte,Nat.reduceEqDiff,Zk.r1]
 refine Zo (YH ?_)
 have key:∀ (n i:Nat),(l.length) - i=n→i≤l.length→(∀ j,j < i→p (l.getD j default)=false)→ZU F [.code (Zk.l0),.inLoop Zk.l0,.inBlock 0,.code (.seq (qR Zk.r7 [4]) .ret)] [(0,.d (slD 2 Z5.cells l)),(1,.d f),(7,.d (.int .i64 l.length)),(8,.d (.int .i64 i))] [] (sts i):=by
  intro n
  induction n using Nat.strongRecOn with
  | ind n ih_key =>
  intro i hn hi hno
  refine Za (Zb (Zc ?_))
  simp only [Eqs,reduceCtorEq,reduceIte,Nat.reduceEqDiff,Zk.r2,slD]
  refine Za (Zg rfl trivial (fun h1=>?_) (fun h1=>?_))
  ·simp at h1
   refine Zq (Za (Zo (Za (Zb (Zc ?_)))))
   simp only [Eqs,reduceCtorEq,reduceIte,Nat.reduceEqDiff,Zk.r3]
   refine Za (Zb (Zc ?_))
   simp only [Eqs,reduceCtorEq,reduceIte,Nat.reduceEqDiff,Nat.reduceAdd,Nat.reduceLeDiff,Zk.r4,Z5.cells]
   repeat (refine And.intro (by first | omega | trivial | (intro h0; simp at h0; omega)) ?_)
   refine ZaR rfl rfl rfl rfl rfl (by trivial) (by trivial) (by exact hf i h1) (Zc ?_)
   simp only [Eqs,reduceCtorEq,reduceIte,Nat.reduceEqDiff]
   refine Zg rfl trivial (fun h2=>?_) (fun h2=>?_)
   ·have e1:=Je h1 h2 hno
    have e2:=Zbl h1 h2 hno
    rw [e1,e2] at hret
    refine Za (Zb (Zc ?_))
    simp only [Eqs,reduceCtorEq,reduceIte,Nat.reduceEqDiff,Zk.r5]
    exact hret rfl (by trivial) (D.Le.refl _) (St.sub_refl _)
   ·refine Zq (ZC (Zb (Zc ?_)))
    simp only [Eqs,reduceCtorEq,reduceIte,Nat.reduceEqDiff,Zk.r6]
    repeat (refine And.intro (by first | omega | trivial | (intro h0; simp at h0; omega)) ?_)
    refine Z3 ?_
    exact ih_key ((l.length) - (i + 1)) (by omega) (i + 1) rfl (by omega) (KD (q:=fun j=>p (l.getD j default)=false) hno h2)
  ·simp at h1
   obtain rfl:i=l.length:=by omega
   have hall:∀ x∈l,p x=false:=fun x hx=>by
    obtain ⟨j,hj,rfl⟩:=List.getElem_of_mem hx
    have:=hno j hj
    simpa [List.getD,hj] using this
   rw [QS hall,J9 hall] at hret
   refine Ys rfl (Za (Zb (Zc ?_)))
   simp only [Eqs,reduceCtorEq,reduceIte,Nat.reduceEqDiff,Zk.r7]
   exact hret rfl (by trivial) (D.Le.refl _) (St.sub_refl _)
 exact key _ 0 rfl (by omega) (by intro j hj; omega)
theorem Zdu (l:List Y9) (f:D) (p:Y9→Bool) (sts:Nat→St)
  (hf:∀ i,i < l.length→VT Tryz.prog f [.agg (l.getD i default).cells] (sts i) (.bool (p (l.getD i default))) (sts (i + 1))) :
  YD Tryz.prog Zv.id [slD 3 Y9.cells l,f] (sts 0) (.int .i64 (ZQ p l)) (sts (QQ p l)):=by
 refine YG Zv.ok fun hwf F hret=>?_
 have hw:=(K6 (hwf (slD 3 Y9.cells l) (by simp))).1
 unfold big at hw
 clear hwf
 refine Za (Zb (Zc ?_))
 simp only [Eqs,reduceCtorEq,reduceIte,Nat.reduceEqDiff,Nat.reduceAdd,Zv.r0,slD]
 refine Za (Za (Zb (Zc ?_)))
 simp only [Eqs,reduceCtorEq,reduceIte,Nat.reduceEqDiff,Zv.r1]
 refine Zo (YH ?_)
 have key:∀ (n i:Nat),(l.length) - i=n→i≤l.length→(∀ j,j < i→p (l.getD j default)=false)→ZU F [.code (Zv.l0),.inLoop Zv.l0,.inBlock 0,.code (.seq (qR Zv.r7 [4]) .ret)] [(0,.d (slD 3 Y9.cells l)),(1,.d f),(7,.d (.int .i64 l.length)),(8,.d (.int .i64 i))] [] (sts i):=by
  intro n
  induction n using Nat.strongRecOn with
  | ind n ih_key =>
  intro i hn hi hno
  refine Za (Zb (Zc ?_))
  simp only [Eqs,reduceCtorEq,reduceIte,Nat.reduceEqDiff,Zv.r2,slD]
  refine Za (Zg rfl trivial (fun h1=>?_) (fun h1=>?_))
  ·simp at h1
   refine Zq (Za (Zo (Za (Zb (Zc ?_)))))
   simp only [Eqs,reduceCtorEq,reduceIte,Nat.reduceEqDiff,Zv.r3]
   refine Za (Zb (Zc ?_))
   simp only [Eqs,reduceCtorEq,reduceIte,Nat.reduceEqDiff,Nat.reduceAdd,Nat.reduceLeDiff,Zv.r4,Y9.cells]
   repeat (refine And.intro (by first | omega | trivial | (intro h0; simp at h0; omega)) ?_)
   refine ZaR rfl rfl rfl rfl rfl (by trivial) (by trivial) (by exact hf i h1) (Zc ?_)
   simp only [Eqs,reduceCtorEq,reduceIte,Nat.reduceEqDiff]
   refine Zg rfl trivial (fun h2=>?_) (fun h2=>?_)
   ·have e1:=Je h1 h2 hno
    have e2:=Zbl h1 h2 hno
    rw [e1,e2] at hret
    refine Za (Zb (Zc ?_))
    simp only [Eqs,reduceCtorEq,reduceIte,Nat.reduceEqDiff,Zv.r5]
    exact hret rfl (by trivial) (D.Le.refl _) (St.sub_refl _)
   ·refine Zq (ZC (Zb (Zc ?_)))
    simp only [Eqs,reduceCtorEq,reduceIte,Nat.reduceEqDiff,Zv.r6]
    repeat (refine And.intro (by first | omega | trivial | (intro h0; simp at h0; omega)) ?_)
    refine Z3 ?_
    exact ih_key ((l.length) - (i + 1)) (by omega) (i + 1) rfl (by omega) (KD (q:=fun j=>p (l.getD j default)=false) hno h2)
  ·simp at h1
   obtain rfl:i=l.length:=by omega
   have hall:∀ x∈l,p x=false:=fun x hx=>by
    obtain ⟨j,hj,rfl⟩:=List.getElem_of_mem hx
    have:=hno j hj
    simpa [List.getD,hj] using this
   rw [QS hall,J9 hall] at hret
   refine Ys rfl (Za (Zb (Zc ?_)))
   simp only [Eqs,reduceCtorEq,reduceIte,Nat.reduceEqDiff,Zv.r7]
   exact hret rfl (by trivial) (D.Le.refl _) (St.sub_refl _)
 exact key _ 0 rfl (by omega) (by intro j hj; omega)
theorem Zao (l:List Fld) (f:D) (p:Fld→Bool) (sts:Nat→St)
  (hf:∀ i,i < l.length→VT Tryz.prog f [.agg (l.getD i default).cells] (sts i) (.bool (p (l.getD i default))) (sts (i + 1))) :
  YD Tryz.prog Zt.id [slD 15 Fld.cells l,f] (sts 0) (.int .i64 (ZQ p l)) (sts (QQ p l)):=by
 refine YG Zt.ok fun hwf F hret=>?_
 have hw:=(K6 (hwf (slD 15 Fld.cells l) (by simp))).1
 unfold big at hw
 clear hwf
 refine Za (Zb (Zc ?_))
 simp only [Eqs,reduceCtorEq,reduceIte,Nat.reduceEqDiff,Nat.reduceAdd,Zt.r0,slD]
 refine Za (Za (Zb (Zc ?_)))
 simp only [Eqs,reduceCtorEq,reduceIte,Nat.reduceEqDiff,Zt.r1]
 refine Zo (YH ?_)
 have key:∀ (n i:Nat),(l.length) - i=n→i≤l.length→(∀ j,j < i→p (l.getD j default)=false)→ZU F [.code (Zt.l0),.inLoop Zt.l0,.inBlock 0,.code (.seq (qR Zt.r7 [4]) .ret)] [(0,.d (slD 15 Fld.cells l)),(1,.d f),(7,.d (.int .i64 l.length)),(8,.d (.int .i64 i))] [] (sts i):=by
  intro n
  induction n using Nat.strongRecOn with
  | ind n ih_key =>
  intro i hn hi hno
  refine Za (Zb (Zc ?_))
  simp only [Eqs,reduceCtorEq,reduceIte,Nat.reduceEqDiff,Zt.r2,slD]
  refine Za (Zg rfl trivial (fun h1=>?_) (fun h1=>?_))
  ·simp at h1
   refine Zq (Za (Zo (Za (Zb (Zc ?_)))))
   simp only [Eqs,reduceCtorEq,reduceIte,Nat.reduceEqDiff,Zt.r3]
   refine Za (Zb (Zc ?_))
   simp only [Eqs,reduceCtorEq,reduceIte,Nat.reduceEqDiff,Nat.reduceAdd,Nat.reduceLeDiff,Zt.r4,Fld.cells]
   repeat (refine And.intro (by first | omega | trivial | (intro h0; simp at h0; omega)) ?_)
   refine ZaR rfl rfl rfl rfl rfl (by trivial) (by trivial) (by exact hf i h1) (Zc ?_)
   simp only [Eqs,reduceCtorEq,reduceIte,Nat.reduceEqDiff]
   refine Zg rfl trivial (fun h2=>?_) (fun h2=>?_)
   ·have e1:=Je h1 h2 hno
    have e2:=Zbl h1 h2 hno
    rw [e1,e2] at hret
    refine Za (Zb (Zc ?_))
    simp only [Eqs,reduceCtorEq,reduceIte,Nat.reduceEqDiff,Zt.r5]
    exact hret rfl (by trivial) (D.Le.refl _) (St.sub_refl _)
   ·refine Zq (ZC (Zb (Zc ?_)))
    simp only [Eqs,reduceCtorEq,reduceIte,Nat.reduceEqDiff,Zt.r6]
    repeat (refine And.intro (by first | omega | trivial | (intro h0; simp at h0; omega)) ?_)
    refine Z3 ?_
    exact ih_key ((l.length) - (i + 1)) (by omega) (i + 1) rfl (by omega) (KD (q:=fun j=>p (l.getD j default)=false) hno h2)
  ·simp at h1
   obtain rfl:i=l.length:=by omega
   have hall:∀ x∈l,p x=false:=fun x hx=>by
    obtain ⟨j,hj,rfl⟩:=List.getElem_of_mem hx
    have:=hno j hj
    simpa [List.getD,hj] using this
   rw [QS hall,J9 hall] at hret
   refine Ys rfl (Za (Zb (Zc ?_)))
   simp only [Eqs,reduceCtorEq,reduceIte,Nat.reduceEqDiff,Zt.r7]
   exact hret rfl (by trivial) (D.Le.refl _) (St.sub_refl _)
 exact key _ 0 rfl (by omega) (by intro j hj; omega)
theorem ZdH (l:List UInt8) (f:D) (p:UInt8→Bool) (sts:Nat→St)
  (hf:∀ i,i < l.length→VT Tryz.prog f [.int .u8 ((l.getD i default).toNat:Int)] (sts i) (.bool (p (l.getD i default))) (sts (i + 1))) :
  YD Tryz.prog Zw.id [slD 1 byC l,f] (sts 0) (.int .i64 (ZQ p l)) (sts (QQ p l)):=by
 refine YG Zw.ok fun hwf F hret=>?_
 have hw:=(K6 (hwf (slD 1 byC l) (by simp))).1
 unfold big at hw
 clear hwf
 refine Za (Zb (Zc ?_))
 simp only [Eqs,reduceCtorEq,reduceIte,Nat.reduceEqDiff,Nat.reduceAdd,Zw.r0,slD]
 refine Za (Za (Zb (Zc ?_)))
 simp only [Eqs,reduceCtorEq,reduceIte,Nat.reduceEqDiff,Zw.r1]
 refine Zo (YH ?_)
 have key:∀ (n i:Nat),(l.length) - i=n→i≤l.length→(∀ j,j < i→p (l.getD j default)=false)→ZU F [.code (Zw.l0),.inLoop Zw.l0,.inBlock 0,.code (.seq (qR Zw.r7 [4]) .ret)] [(0,.d (slD 1 byC l)),(1,.d f),(7,.d (.int .i64 l.length)),(8,.d (.int .i64 i))] [] (sts i):=by
  intro n
  induction n using Nat.strongRecOn with
  | ind n ih_key =>
  intro i hn hi hno
  refine Za (Zb (Zc ?_))
  simp only [Eqs,reduceCtorEq,reduceIte,Nat.reduceEqDiff,Zw.r2,slD]
  refine Za (Zg rfl trivial (fun h1=>?_) (fun h1=>?_))
  ·simp at h1
   refine Zq (Za (Zo (Za (Zb (Zc ?_)))))
   simp only [Eqs,reduceCtorEq,reduceIte,Nat.reduceEqDiff,Zw.r3]
   refine Za (Zb (Zc ?_))
   simp only [Eqs,reduceCtorEq,reduceIte,Nat.reduceEqDiff,Zw.r4,byC]
   repeat (refine And.intro (by first | omega | trivial | (intro h0; simp at h0; omega)) ?_)
   refine ZaR rfl rfl rfl rfl rfl (by trivial) (by trivial) (by exact hf i h1) (Zc ?_)
   simp only [Eqs,reduceCtorEq,reduceIte,Nat.reduceEqDiff]
   refine Zg rfl trivial (fun h2=>?_) (fun h2=>?_)
   ·have e1:=Je h1 h2 hno
    have e2:=Zbl h1 h2 hno
    rw [e1,e2] at hret
    refine Za (Zb (Zc ?_))
    simp only [Eqs,reduceCtorEq,reduceIte,Nat.reduceEqDiff,Zw.r5]
    exact hret rfl (by trivial) (D.Le.refl _) (St.sub_refl _)
   ·refine Zq (ZC (Zb (Zc ?_)))
    simp only [Eqs,reduceCtorEq,reduceIte,Nat.reduceEqDiff,Zw.r6]
    repeat (refine And.intro (by first | omega | trivial | (intro h0; simp at h0; omega)) ?_)
    refine Z3 ?_
    exact ih_key ((l.length) - (i + 1)) (by omega) (i + 1) rfl (by omega) (KD (q:=fun j=>p (l.getD j default)=false) hno h2)
  ·simp at h1
   obtain rfl:i=l.length:=by omega
   have hall:∀ x∈l,p x=false:=fun x hx=>by
    obtain ⟨j,hj,rfl⟩:=List.getElem_of_mem hx
    have:=hno j hj
    simpa [List.getD,hj] using this
   rw [QS hall,J9 hall] at hret
   refine Ys rfl (Za (Zb (Zc ?_)))
   simp only [Eqs,reduceCtorEq,reduceIte,Nat.reduceEqDiff,Zw.r7]
   exact hret rfl (by trivial) (D.Le.refl _) (St.sub_refl _)
 exact key _ 0 rfl (by omega) (by intro j hj; omega)
theorem Zc6 (l:List (List Bool)) (f:D) (p:(List Bool)→Bool) (sts:Nat→St)
  (hf:∀ i,i < l.length→VT Tryz.prog f [Zet (l.getD i default)] (sts i) (.bool (p (l.getD i default))) (sts (i + 1))) :
  YD Tryz.prog Zs.id [slD 1 Zgy l,f] (sts 0) (.int .i64 (ZQ p l)) (sts (QQ p l)):=by
 refine YG Zs.ok fun hwf F hret=>?_
 have hw:=(K6 (hwf (slD 1 Zgy l) (by simp))).1
 unfold big at hw
 clear hwf
 refine Za (Zb (Zc ?_))
 simp only [Eqs,reduceCtorEq,reduceIte,Nat.reduceEqDiff,Nat.reduceAdd,Zs.r0,slD]
 refine Za (Za (Zb (Zc ?_)))
 simp only [Eqs,reduceCtorEq,reduceIte,Nat.reduceEqDiff,Zs.r1]
 refine Zo (YH ?_)
 have key:∀ (n i:Nat),(l.length) - i=n→i≤l.length→(∀ j,j < i→p (l.getD j default)=false)→ZU F [.code (Zs.l0),.inLoop Zs.l0,.inBlock 0,.code (.seq (qR Zs.r7 [4]) .ret)] [(0,.d (slD 1 Zgy l)),(1,.d f),(7,.d (.int .i64 l.length)),(8,.d (.int .i64 i))] [] (sts i):=by
  intro n
  induction n using Nat.strongRecOn with
  | ind n ih_key =>
  intro i hn hi hno
  refine Za (Zb (Zc ?_))
  simp only [Eqs,reduceCtorEq,reduceIte,Nat.reduceEqDiff,Zs.r2,slD]
  refine Za (Zg rfl trivial (fun h1=>?_) (fun h1=>?_))
  ·simp at h1
   refine Zq (Za (Zo (Za (Zb (Zc ?_)))))
   simp only [Eqs,reduceCtorEq,reduceIte,Nat.reduceEqDiff,Zs.r3]
   refine Za (Zb (Zc ?_))
   simp only [Eqs,reduceCtorEq,reduceIte,Nat.reduceEqDiff,Zs.r4,Zgy]
   repeat (refine And.intro (by first | omega | trivial | (intro h0; simp at h0; omega)) ?_)
   refine ZaR rfl rfl rfl rfl rfl (by trivial) (by trivial) (by exact hf i h1) (Zc ?_)
   simp only [Eqs,reduceCtorEq,reduceIte,Nat.reduceEqDiff]
   refine Zg rfl trivial (fun h2=>?_) (fun h2=>?_)
   ·have e1:=Je h1 h2 hno
    have e2:=Zbl h1 h2 hno
    rw [e1,e2] at hret
    refine Za (Zb (Zc ?_))
    simp only [Eqs,reduceCtorEq,reduceIte,Nat.reduceEqDiff,Zs.r5]
    exact hret rfl (by trivial) (D.Le.refl _) (St.sub_refl _)
   ·refine Zq (ZC (Zb (Zc ?_)))
    simp only [Eqs,reduceCtorEq,reduceIte,Nat.reduceEqDiff,Zs.r6]
    repeat (refine And.intro (by first | omega | trivial | (intro h0; simp at h0; omega)) ?_)
    refine Z3 ?_
    exact ih_key ((l.length) - (i + 1)) (by omega) (i + 1) rfl (by omega) (KD (q:=fun j=>p (l.getD j default)=false) hno h2)
  ·simp at h1
   obtain rfl:i=l.length:=by omega
   have hall:∀ x∈l,p x=false:=fun x hx=>by
    obtain ⟨j,hj,rfl⟩:=List.getElem_of_mem hx
    have:=hno j hj
    simpa [List.getD,hj] using this
   rw [QS hall,J9 hall] at hret
   refine Ys rfl (Za (Zb (Zc ?_)))
   simp only [Eqs,reduceCtorEq,reduceIte,Nat.reduceEqDiff,Zs.r7]
   exact hret rfl (by trivial) (D.Le.refl _) (St.sub_refl _)
 exact key _ 0 rfl (by omega) (by intro j hj; omega)
theorem ZcG (l:List Z5) (f:D) (p:Z5→Bool) (sts:Nat→St)
  (hf:∀ i,i < l.length→VT Tryz.prog f [.agg (l.getD i default).cells] (sts i) (.bool (p (l.getD i default))) (sts (i + 1))) :
  YD Tryz.prog ZW.id [slD 2 Z5.cells l,f] (sts 0) (.bool (l.any p)) (sts (QQ p l)):=by
 refine YG ZW.ok fun hwf F hret=>?_
 clear hwf
 refine Za (Zb (Zc ?_))
 simp only [Eqs,reduceCtorEq,reduceIte,Nat.reduceEqDiff,Nat.reduceAdd,ZW.r0]
 refine Za (Zb (Zc ?_))
 simp only [Eqs,reduceCtorEq,reduceIte,Nat.reduceEqDiff,ZW.r1]
 refine YF rfl rfl rfl rfl rfl (by trivial) (by trivial) (by exact ZdC l f p sts hf) (Zc ?_)
 simp only [Eqs,reduceCtorEq,reduceIte,Nat.reduceEqDiff]
 rw [Zaa] at hret
 exact hret rfl (by trivial) (D.Le.refl _) (St.sub_refl _)
theorem Zcu (l:List Fld) (f:D) (p:Fld→Bool) (sts:Nat→St)
  (hf:∀ i,i < l.length→VT Tryz.prog f [.agg (l.getD i default).cells] (sts i) (.bool (p (l.getD i default))) (sts (i + 1))) :
  YD Tryz.prog Ye.id [slD 15 Fld.cells l,f] (sts 0) (.bool (l.any p)) (sts (QQ p l)):=by
 refine YG Ye.ok fun hwf F hret=>?_
 clear hwf
 refine Za (Zb (Zc ?_))
 simp only [Eqs,reduceCtorEq,reduceIte,Nat.reduceEqDiff,Nat.reduceAdd,Ye.r0]
 refine Za (Zb (Zc ?_))
 simp only [Eqs,reduceCtorEq,reduceIte,Nat.reduceEqDiff,Ye.r1]
 refine YF rfl rfl rfl rfl rfl (by trivial) (by trivial) (by exact Zao l f p sts hf) (Zc ?_)
 simp only [Eqs,reduceCtorEq,reduceIte,Nat.reduceEqDiff]
 rw [Zaa] at hret
 exact hret rfl (by trivial) (D.Le.refl _) (St.sub_refl _)
theorem ZcP (l:List UInt8) (f:D) (p:UInt8→Bool) (sts:Nat→St)
  (hf:∀ i,i < l.length→VT Tryz.prog f [.int .u8 ((l.getD i default).toNat:Int)] (sts i) (.bool (p (l.getD i default))) (sts (i + 1))) :
  YD Tryz.prog Yb.id [slD 1 byC l,f] (sts 0) (.bool (l.any p)) (sts (QQ p l)):=by
 refine YG Yb.ok fun hwf F hret=>?_
 clear hwf
 refine Za (Zb (Zc ?_))
 simp only [Eqs,reduceCtorEq,reduceIte,Nat.reduceEqDiff,Nat.reduceAdd,Yb.r0]
 refine Za (Zb (Zc ?_))
 simp only [Eqs,reduceCtorEq,reduceIte,Nat.reduceEqDiff,Yb.r1]
 refine YF rfl rfl rfl rfl rfl (by trivial) (by trivial) (by exact ZdH l f p sts hf) (Zc ?_)
 simp only [Eqs,reduceCtorEq,reduceIte,Nat.reduceEqDiff]
 rw [Zaa] at hret
 exact hret rfl (by trivial) (D.Le.refl _) (St.sub_refl _)
theorem Zcj (l:List (List Bool)) (f:D) (p:(List Bool)→Bool) (sts:Nat→St)
  (hf:∀ i,i < l.length→VT Tryz.prog f [Zet (l.getD i default)] (sts i) (.bool (p (l.getD i default))) (sts (i + 1))) :
  YD Tryz.prog Yg.id [slD 1 Zgy l,f] (sts 0) (.bool (l.any p)) (sts (QQ p l)):=by
 refine YG Yg.ok fun hwf F hret=>?_
 clear hwf
 refine Za (Zb (Zc ?_))
 simp only [Eqs,reduceCtorEq,reduceIte,Nat.reduceEqDiff,Nat.reduceAdd,Yg.r0]
 refine Za (Zb (Zc ?_))
 simp only [Eqs,reduceCtorEq,reduceIte,Nat.reduceEqDiff,Yg.r1]
 refine YF rfl rfl rfl rfl rfl (by trivial) (by trivial) (by exact Zc6 l f p sts hf) (Zc ?_)
 simp only [Eqs,reduceCtorEq,reduceIte,Nat.reduceEqDiff]
 rw [Zaa] at hret
 exact hret rfl (by trivial) (D.Le.refl _) (St.sub_refl _)
end Go.DL
namespace Go.DL
open Go Go.Proofs
def boC (b:Bool):List D:=[.bool b]
def Qg (s:Str):List D:=[.str s]
theorem Zjd {α:Type} [DecidableEq α] (v:α) (l:List α):l.any (fun x=>decide (v=x))=decide (v∈l):=by
 induction l with
 | nil=>simp
 | cons x r ih=>rw [List.any_cons,ih]; simp [List.mem_cons]
theorem Zft {α:Type} [Inhabited α] {l r:List α} (h:l.length=r.length) (h2:∀ j,j < l.length→l.getD j default=r.getD j default):l=r:=by
 apply List.ext_getElem h
 intro i h1 h3
 have:=h2 i h1
 simpa [List.getD,h1,h3] using this
theorem Ze0 (l:List Bool) (v:Bool):Yk Tryz.prog ZH.id [slD 1 boC l,.bool v] (.int .i64 (ZQ (fun x=>decide (v=x)) l)):=by
 refine Qo ZH.ok fun hwf F st hret=>?_
 have hw:=(K6 (hwf (slD 1 boC l) (by simp))).1
 unfold big at hw
 clear hwf
 refine Za (Zb (Zc ?_))
 simp only [Eqs,reduceCtorEq,reduceIte,Nat.reduceEqDiff,Nat.reduceAdd,ZH.r0,slD]
 refine Za (Za (Zb (Zc ?_)))
 simp only [Eqs,reduceCtorEq,reduceIte,Nat.reduceEqDiff,ZH.r1]
 refine Zo (YH ?_)
 have key:∀ (n i:Nat),(l.length) - i=n→i≤l.length→(∀ j,j < i→decide (v=l.getD j default)=false)→ZU F [.code (ZH.l0),.inLoop ZH.l0,.inBlock 0,.code (.seq (qR ZH.r7 [4]) .ret)] [(0,.d (slD 1 boC l)),(1,.d (.bool v)),(7,.d (.int .i64 l.length)),(8,.d (.int .i64 i))] [] st:=by
  intro n
  induction n using Nat.strongRecOn with
  | ind n ih_key =>
  intro i hn hi hno
  refine Za (Zb (Zc ?_))
  simp only [Eqs,reduceCtorEq,reduceIte,Nat.reduceEqDiff,ZH.r2,slD]
  refine Za (Zg rfl trivial (fun h1=>?_) (fun h1=>?_))
  ·simp at h1
   refine Zq (Za (Zo (Za (Zb (Zc ?_)))))
   simp only [Eqs,reduceCtorEq,reduceIte,Nat.reduceEqDiff,ZH.r3]
   refine Za (Zb (Zc ?_))
   simp only [Eqs,reduceCtorEq,reduceIte,Nat.reduceEqDiff,ZH.r4,boC]
   repeat (refine And.intro (by first | omega | trivial | (intro h0; simp at h0; omega)) ?_)
   refine Zg rfl trivial (fun h2=>?_) (fun h2=>?_)
   ·have e1:=Je (p:=fun x=>decide (v=x)) h1 h2 hno
    refine Za (Zb (Zc ?_))
    simp only [Eqs,reduceCtorEq,reduceIte,Nat.reduceEqDiff,ZH.r5]
    refine hret rfl (by first | trivial | simp) (Za4 ?_) (by first | exact St.sub_refl _ | exact ZM (by first | trivial | assumption) | assumption | exact St.sub_upd _ (by assumption))
    exact e1.symm
   ·refine Zq (ZC (Zb (Zc ?_)))
    simp only [Eqs,reduceCtorEq,reduceIte,Nat.reduceEqDiff,ZH.r6]
    repeat (refine And.intro (by first | omega | trivial | (intro h0; simp at h0; omega)) ?_)
    refine Z3 ?_
    exact ih_key ((l.length) - (i + 1)) (by omega) (i + 1) rfl (by omega) (KD (q:=fun j=>decide (v=l.getD j default)=false) hno h2)
  ·simp at h1
   obtain rfl:i=l.length:=by omega
   have hall:∀ x∈l,(fun x=>decide (v=x)) x=false:=fun x hx=>by
    obtain ⟨j,hj,rfl⟩:=List.getElem_of_mem hx
    have:=hno j hj
    simpa [List.getD,hj] using this
   refine Ys rfl (Za (Zb (Zc ?_)))
   simp only [Eqs,reduceCtorEq,reduceIte,Nat.reduceEqDiff,ZH.r7]
   refine hret rfl (by first | trivial | simp) (Za4 ?_) (by first | exact St.sub_refl _ | exact ZM (by first | trivial | assumption) | assumption | exact St.sub_upd _ (by assumption))
   exact (QS hall).symm
 exact key _ 0 rfl (by omega) (by intro j hj; omega)
theorem ZdS (l:List Bool) (v:Bool):Yk Tryz.prog YO.id [slD 1 boC l,.bool v] (.bool (decide (v∈l))):=by
 refine YR YO.ok fun F st hret=>?_
 refine Za (Zb (Zc ?_))
 simp only [Eqs,reduceCtorEq,reduceIte,Nat.reduceEqDiff,Nat.reduceAdd,YO.r0]
 refine Za (Zb (Zc ?_))
 simp only [Eqs,reduceCtorEq,reduceIte,Nat.reduceEqDiff,YO.r1]
 refine YS rfl rfl rfl rfl rfl (by trivial) (by trivial) (by exact Ze0 l v) (Zc ?_)
 simp only [Eqs,reduceCtorEq,reduceIte,Nat.reduceEqDiff]
 refine hret rfl (by first | trivial | simp) (Y1 ?_) (by first | exact St.sub_refl _ | exact ZM (by first | trivial | assumption) | assumption | exact St.sub_upd _ (by assumption))
 rw [← Zaa,Zjd]; try congr
theorem Zec (l:List Str) (v:Str):Yk Tryz.prog ZB.id [slD 1 Qg l,.str v] (.int .i64 (ZQ (fun x=>decide (v=x)) l)):=by
 refine Qo ZB.ok fun hwf F st hret=>?_
 have hw:=(K6 (hwf (slD 1 Qg l) (by simp))).1
 unfold big at hw
 clear hwf
 refine Za (Zb (Zc ?_))
 simp only [Eqs,reduceCtorEq,reduceIte,Nat.reduceEqDiff,Nat.reduceAdd,ZB.r0,slD]
 refine Za (Za (Zb (Zc ?_)))
 simp only [Eqs,reduceCtorEq,reduceIte,Nat.reduceEqDiff,ZB.r1]
 refine Zo (YH ?_)
 have key:∀ (n i:Nat),(l.length) - i=n→i≤l.length→(∀ j,j < i→decide (v=l.getD j default)=false)→ZU F [.code (ZB.l0),.inLoop ZB.l0,.inBlock 0,.code (.seq (qR ZB.r7 [4]) .ret)] [(0,.d (slD 1 Qg l)),(1,.d (.str v)),(7,.d (.int .i64 l.length)),(8,.d (.int .i64 i))] [] st:=by
  intro n
  induction n using Nat.strongRecOn with
  | ind n ih_key =>
  intro i hn hi hno
  refine Za (Zb (Zc ?_))
  simp only [Eqs,reduceCtorEq,reduceIte,Nat.reduceEqDiff,ZB.r2,slD]
  refine Za (Zg rfl trivial (fun h1=>?_) (fun h1=>?_))
  ·simp at h1
   refine Zq (Za (Zo (Za (Zb (Zc ?_)))))
   simp only [Eqs,reduceCtorEq,reduceIte,Nat.reduceEqDiff,ZB.r3]
   refine Za (Zb (Zc ?_))
   simp only [Eqs,reduceCtorEq,reduceIte,Nat.reduceEqDiff,ZB.r4,Qg]
   repeat (refine And.intro (by first | omega | trivial | (intro h0; simp at h0; omega)) ?_)
   refine Zg rfl trivial (fun h2=>?_) (fun h2=>?_)
   ·have e1:=Je (p:=fun x=>decide (v=x)) h1 h2 hno
    refine Za (Zb (Zc ?_))
    simp only [Eqs,reduceCtorEq,reduceIte,Nat.reduceEqDiff,ZB.r5]
    refine hret rfl (by first | trivial | simp) (Za4 ?_) (by first | exact St.sub_refl _ | exact ZM (by first | trivial | assumption) | assumption | exact St.sub_upd _ (by assumption))
    exact e1.symm
   ·refine Zq (ZC (Zb (Zc ?_)))
    simp only [Eqs,reduceCtorEq,reduceIte,Nat.reduceEqDiff,ZB.r6]
    repeat (refine And.intro (by first | omega | trivial | (intro h0; simp at h0; omega)) ?_)
    refine Z3 ?_
    exact ih_key ((l.length) - (i + 1)) (by omega) (i + 1) rfl (by omega) (KD (q:=fun j=>decide (v=l.getD j default)=false) hno h2)
  ·simp at h1
   obtain rfl:i=l.length:=by omega
   have hall:∀ x∈l,(fun x=>decide (v=x)) x=false:=fun x hx=>by
    obtain ⟨j,hj,rfl⟩:=List.getElem_of_mem hx
    have:=hno j hj
    simpa [List.getD,hj] using this
   refine Ys rfl (Za (Zb (Zc ?_)))
   simp only [Eqs,reduceCtorEq,reduceIte,Nat.reduceEqDiff,ZB.r7]
   refine hret rfl (by first | trivial | simp) (Za4 ?_) (by first | exact St.sub_refl _ | exact ZM (by first | trivial | assumption) | assumption | exact St.sub_upd _ (by assumption))
   exact (QS hall).symm
 exact key _ 0 rfl (by omega) (by intro j hj; omega)
theorem Zc3 (l:List Str) (v:Str):Yk Tryz.prog Yn.id [slD 1 Qg l,.str v] (.bool (decide (v∈l))):=by
 refine YR Yn.ok fun F st hret=>?_
 refine Za (Zb (Zc ?_))
 simp only [Eqs,reduceCtorEq,reduceIte,Nat.reduceEqDiff,Nat.reduceAdd,Yn.r0]
 refine Za (Zb (Zc ?_))
 simp only [Eqs,reduceCtorEq,reduceIte,Nat.reduceEqDiff,Yn.r1]
 refine YS rfl rfl rfl rfl rfl (by trivial) (by trivial) (by exact Zec l v) (Zc ?_)
 simp only [Eqs,reduceCtorEq,reduceIte,Nat.reduceEqDiff]
 refine hret rfl (by first | trivial | simp) (Y1 ?_) (by first | exact St.sub_refl _ | exact ZM (by first | trivial | assumption) | assumption | exact St.sub_upd _ (by assumption))
 rw [← Zaa,Zjd]; try congr
theorem Zb0 (l r:List Z5):Yk Tryz.prog Zy.id [slD 2 Z5.cells l,slD 2 Z5.cells r] (.bool (decide (l=r))):=by
 refine Qo Zy.ok fun hwf F st hret=>?_
 have hw:=(K6 (hwf (slD 2 Z5.cells l) (by simp))).1
 unfold big at hw
 clear hwf
 refine Za (Zb (Zc ?_))
 simp only [Eqs,reduceCtorEq,reduceIte,Nat.reduceEqDiff,Nat.reduceAdd,Zy.r0,slD]
 refine Za (Za (Zb (Zc ?_)))
 simp only [Eqs,reduceCtorEq,reduceIte,Nat.reduceEqDiff,Zy.r1]
 refine Zg rfl trivial (fun h1=>?_) (fun h1=>?_)
 ·refine Za (Zb (Zc ?_))
  simp only [Eqs,reduceCtorEq,reduceIte,Nat.reduceEqDiff,Zy.r2]
  refine hret rfl (by first | trivial | simp) (Y1 ?_) (by first | exact St.sub_refl _ | exact ZM (by first | trivial | assumption) | assumption | exact St.sub_upd _ (by assumption))
  exact (decide_eq_false (fun e=>by rw [e] at h1; simp at h1)).symm
 ·have hlen:l.length=r.length:=by simp at h1; omega
  refine Zq (Za (Za (Zb (Zc ?_))))
  simp only [Eqs,reduceCtorEq,reduceIte,Nat.reduceEqDiff,Zy.r3]
  refine Zo (YH ?_)
  have key:∀ (n i:Nat),(l.length) - i=n→i≤l.length→(∀ j,j < i→l.getD j default=r.getD j default)→ZU F [.code (Zy.l0),.inLoop Zy.l0,.inBlock 0,.code (.seq (qR Zy.r9 [4]) .ret)] [(0,.d (slD 2 Z5.cells l)),(1,.d (slD 2 Z5.cells r)),(12,.d (.int .i64 l.length)),(13,.d (.int .i64 i))] [] st:=by
   intro n
   induction n using Nat.strongRecOn with
   | ind n ih_key =>
   intro i hn hi hno
   refine Za (Zb (Zc ?_))
   simp only [Eqs,reduceCtorEq,reduceIte,Nat.reduceEqDiff,Zy.r4,slD]
   refine Za (Zg rfl trivial (fun h2=>?_) (fun h2=>?_))
   ·simp at h2
    refine Zq (Za (Zo (Za (Zb (Zc ?_)))))
    simp only [Eqs,reduceCtorEq,reduceIte,Nat.reduceEqDiff,Zy.r5]
    refine Za (KU (Kz ?_))
    simp only [Eqs,reduceCtorEq,reduceIte,Nat.reduceEqDiff,Nat.reduceAdd,Nat.reduceLeDiff,Zy.r6,Z5.cells]
    repeat (refine And.intro (by first | omega | trivial | (intro h0; simp at h0; omega)) ?_)
    refine Zg rfl trivial (fun h3=>?_) (fun h3=>?_)
    ·have hne:l.getD i default≠r.getD i default:=fun e=>by rw [e] at h3; simp at h3
     refine Za (Zb (Zc ?_))
     simp only [Eqs,reduceCtorEq,reduceIte,Nat.reduceEqDiff,Zy.r7]
     refine hret rfl (by first | trivial | simp) (Y1 ?_) (by first | exact St.sub_refl _ | exact ZM (by first | trivial | assumption) | assumption | exact St.sub_upd _ (by assumption))
     exact (decide_eq_false (fun e=>hne (by rw [e]))).symm
    ·have heq:l.getD i default=r.getD i default:=by
      generalize l.getD i default=a at h3 ⊢; generalize r.getD i default=b at h3 ⊢; cases a; cases b; simpa [and_assoc] using h3
     refine Zq (ZC (Zb (Zc ?_)))
     simp only [Eqs,reduceCtorEq,reduceIte,Nat.reduceEqDiff,Zy.r8]
     repeat (refine And.intro (by first | omega | trivial | (intro h0; simp at h0; omega)) ?_)
     refine Z3 ?_
     exact ih_key ((l.length) - (i + 1)) (by omega) (i + 1) rfl (by omega) (KD (q:=fun j=>l.getD j default=r.getD j default) hno heq)
   ·simp at h2
    obtain rfl:i=l.length:=by omega
    refine Ys rfl (Za (Zb (Zc ?_)))
    simp only [Eqs,reduceCtorEq,reduceIte,Nat.reduceEqDiff,Zy.r9]
    refine hret rfl (by first | trivial | simp) (Y1 ?_) (by first | exact St.sub_refl _ | exact ZM (by first | trivial | assumption) | assumption | exact St.sub_upd _ (by assumption))
    exact (decide_eq_true (Zft hlen hno)).symm
  exact key _ 0 rfl (by omega) (by intro j hj; omega)
theorem Ze7 (l r:List Y9):Yk Tryz.prog Zz.id [slD 3 Y9.cells l,slD 3 Y9.cells r] (.bool (decide (l=r))):=by
 refine Qo Zz.ok fun hwf F st hret=>?_
 have hw:=(K6 (hwf (slD 3 Y9.cells l) (by simp))).1
 unfold big at hw
 clear hwf
 refine Za (Zb (Zc ?_))
 simp only [Eqs,reduceCtorEq,reduceIte,Nat.reduceEqDiff,Nat.reduceAdd,Zz.r0,slD]
 refine Za (Za (Zb (Zc ?_)))
 simp only [Eqs,reduceCtorEq,reduceIte,Nat.reduceEqDiff,Zz.r1]
 refine Zg rfl trivial (fun h1=>?_) (fun h1=>?_)
 ·refine Za (Zb (Zc ?_))
  simp only [Eqs,reduceCtorEq,reduceIte,Nat.reduceEqDiff,Zz.r2]
  refine hret rfl (by first | trivial | simp) (Y1 ?_) (by first | exact St.sub_refl _ | exact ZM (by first | trivial | assumption) | assumption | exact St.sub_upd _ (by assumption))
  exact (decide_eq_false (fun e=>by rw [e] at h1; simp at h1)).symm
 ·have hlen:l.length=r.length:=by simp at h1; omega
  refine Zq (Za (Za (Zb (Zc ?_))))
  simp only [Eqs,reduceCtorEq,reduceIte,Nat.reduceEqDiff,Zz.r3]
  refine Zo (YH ?_)
  have key:∀ (n i:Nat),(l.length) - i=n→i≤l.length→(∀ j,j < i→l.getD j default=r.getD j default)→ZU F [.code (Zz.l0),.inLoop Zz.l0,.inBlock 0,.code (.seq (qR Zz.r9 [4]) .ret)] [(0,.d (slD 3 Y9.cells l)),(1,.d (slD 3 Y9.cells r)),(12,.d (.int .i64 l.length)),(13,.d (.int .i64 i))] [] st:=by
   intro n
   induction n using Nat.strongRecOn with
   | ind n ih_key =>
   intro i hn hi hno
   refine Za (Zb (Zc ?_))
   simp only [Eqs,reduceCtorEq,reduceIte,Nat.reduceEqDiff,Zz.r4,slD]
   refine Za (Zg rfl trivial (fun h2=>?_) (fun h2=>?_))
   ·simp at h2
    refine Zq (Za (Zo (Za (Zb (Zc ?_)))))
    simp only [Eqs,reduceCtorEq,reduceIte,Nat.reduceEqDiff,Zz.r5]
    refine Za (KU (Kz ?_))
    simp only [Eqs,reduceCtorEq,reduceIte,Nat.reduceEqDiff,Nat.reduceAdd,Nat.reduceLeDiff,Zz.r6,Y9.cells]
    repeat (refine And.intro (by first | omega | trivial | (intro h0; simp at h0; omega)) ?_)
    refine Zg rfl trivial (fun h3=>?_) (fun h3=>?_)
    ·have hne:l.getD i default≠r.getD i default:=fun e=>by rw [e] at h3; simp at h3
     refine Za (Zb (Zc ?_))
     simp only [Eqs,reduceCtorEq,reduceIte,Nat.reduceEqDiff,Zz.r7]
     refine hret rfl (by first | trivial | simp) (Y1 ?_) (by first | exact St.sub_refl _ | exact ZM (by first | trivial | assumption) | assumption | exact St.sub_upd _ (by assumption))
     exact (decide_eq_false (fun e=>hne (by rw [e]))).symm
    ·have heq:l.getD i default=r.getD i default:=by
      generalize l.getD i default=a at h3 ⊢; generalize r.getD i default=b at h3 ⊢; cases a; cases b; simpa [and_assoc] using h3
     refine Zq (ZC (Zb (Zc ?_)))
     simp only [Eqs,reduceCtorEq,reduceIte,Nat.reduceEqDiff,Zz.r8]
     repeat (refine And.intro (by first | omega | trivial | (intro h0; simp at h0; omega)) ?_)
     refine Z3 ?_
     exact ih_key ((l.length) - (i + 1)) (by omega) (i + 1) rfl (by omega) (KD (q:=fun j=>l.getD j default=r.getD j default) hno heq)
   ·simp at h2
    obtain rfl:i=l.length:=by omega
    refine Ys rfl (Za (Zb (Zc ?_)))
    simp only [Eqs,reduceCtorEq,reduceIte,Nat.reduceEqDiff,Zz.r9]
    refine hret rfl (by first | trivial | simp) (Y1 ?_) (by first | exact St.sub_refl _ | exact ZM (by first | trivial | assumption) | assumption | exact St.sub_upd _ (by assumption))
    exact (decide_eq_true (Zft hlen hno)).symm
  exact key _ 0 rfl (by omega) (by intro j hj; omega)
end Go.DL
namespace Go.DL
open Go Go.Proofs
theorem ZeF (c:UInt8):Yk Tryz.prog Kr.id [.int .u8 c.toNat] (.bool (ZfO c)):=by
 refine YR Kr.ok fun F st hret=>?_
 refine Za (Zb (Zc ?_))
 simp only [Eqs,reduceCtorEq,reduceIte,Kr.r0]
 refine Za (Zb (Zc ?_))
 simp only [Eqs,reduceCtorEq,reduceIte,Nat.reduceEqDiff,Kr.r1]
 refine hret rfl (by first | trivial | simp) (Y1 ?_) (by first | exact St.sub_refl _ | exact ZM (by first | trivial | assumption) | assumption | exact St.sub_upd _ (by assumption))
 rfl
theorem ZkD (c:UInt8):Yk Tryz.prog KM.id [.int .u8 c.toNat] (.bool (Zna c)):=by
 refine YR KM.ok fun F st hret=>?_
 refine Za (Zb (Zc ?_))
 simp only [Eqs,reduceCtorEq,reduceIte,KM.r0]
 refine Za (Zb (Zc ?_))
 simp only [Eqs,reduceCtorEq,reduceIte,Nat.reduceEqDiff,KM.r1]
 refine hret rfl (by first | trivial | simp) (Y1 ?_) (by first | exact St.sub_refl _ | exact ZM (by first | trivial | assumption) | assumption | exact St.sub_upd _ (by assumption))
 rfl
theorem Zah (v:Int):Yk Tryz.prog KL.id [.int .i64 v] (.bool (JB v)):=by
 refine YR KL.ok fun F st hret=>?_
 refine Za (Zb (Zc ?_))
 simp only [Eqs,reduceCtorEq,reduceIte,KL.r0]
 refine Za (Zb (Zc ?_))
 simp only [Eqs,reduceCtorEq,reduceIte,Nat.reduceEqDiff,KL.r1]
 refine hret rfl (by first | trivial | simp) (Y1 ?_) (by first | exact St.sub_refl _ | exact ZM (by first | trivial | assumption) | assumption | exact St.sub_upd _ (by assumption))
 simp only [JB]
theorem ZhD (l:List Bool):Yk Tryz.prog KZ.id [slD 1 boC l] (.bool (!decide (false∈l))):=by
 refine YR KZ.ok fun F st hret=>?_
 refine Za (Zb (Zc ?_))
 simp only [Eqs,reduceCtorEq,reduceIte,KZ.r0]
 refine Za (Zb (Zc ?_))
 simp only [Eqs,reduceIte,KZ.r1]
 refine YS rfl rfl rfl rfl rfl (by trivial) (by trivial) (by exact ZdS l false) (Zc ?_)
 simp only [Eqs,reduceCtorEq,reduceIte,Nat.reduceEqDiff]
 refine hret rfl (by first | trivial | simp) (Y1 ?_) (by first | exact St.sub_refl _ | exact ZM (by first | trivial | assumption) | assumption | exact St.sub_upd _ (by assumption))
 rfl
theorem ZcL (a b:Bool):Yk Tryz.prog KZ.id [.sl .full 2 1 (Wu [.bool false] ([0,1].zip [.bool a,.bool b]))] (.bool (a && b)):=by
 have h:We boC (Wu [.bool false] ([0,1].zip [.bool a,.bool b])) [a,b]:=fun i hi=>by
  match i,hi with
  | 0,_=>rfl
  | 1,_=>rfl
 refine ((ZhD [a,b]).leA (LeC.one (h.le rfl))).le ?_
 cases a <;> cases b <;> rfl
theorem ZjO (a b c:Bool):Yk Tryz.prog KZ.id [.sl .full 3 1 (Wu [.bool false] ([0,1,2].zip [.bool a,.bool b,.bool c]))] (.bool (a && (b && c))):=by
 have h:We boC (Wu [.bool false] ([0,1,2].zip [.bool a,.bool b,.bool c])) [a,b,c]:=fun i hi=>by
  match i,hi with
  | 0,_=>rfl
  | 1,_=>rfl
  | 2,_=>rfl
 refine ((ZhD [a,b,c]).leA (LeC.one (h.le rfl))).le ?_
 cases a <;> cases b <;> cases c <;> rfl
theorem ZjL (c:UInt8):Yk Tryz.prog Ki.id [.int .u8 c.toNat] (.bool (!ZdX c)):=by
 refine YR Ki.ok fun F st hret=>?_
 refine Za (Zb (Zc ?_))
 simp only [Eqs,reduceCtorEq,reduceIte,Ki.r0]
 refine Za (Zb (Zc ?_))
 simp only [Eqs,reduceIte,Ki.r1]
 refine YS rfl rfl rfl rfl rfl (by trivial) (by trivial) (by exact ZeF c) (Zc ?_)
 simp only [Eqs,reduceCtorEq,reduceIte,Nat.reduceEqDiff]
 refine JI rfl rfl rfl rfl rfl (fun hcg=>⟨by first | trivial | (simpa [Zan] using hcg),trivial,ZkD c⟩) (Zc ?_)
 simp only [Eqs,reduceCtorEq,reduceIte,Nat.reduceEqDiff]
 refine hret rfl (by first | trivial | simp) (Y1 ?_) (by first | exact St.sub_refl _ | exact ZM (by first | trivial | assumption) | assumption | exact St.sub_upd _ (by assumption))
 unfold ZdX; cases ZfO c <;> cases Zna c <;> rfl
theorem Zno (s:Str):Yk Tryz.prog Yb.id [slD 1 byC s,.fn (.func Ki.id) [] []] (.bool (s.any fun c=>!ZdX c)) :=
 fun st=>ZcP s _ _ (fun _=>st) fun i _=>(ZjL _).VT (first:=[]) (caps:=[]) st
theorem Zoq (s:Str):K7 s=(((decide (1≤(s.length:Int)) && decide ((s.length:Int)≤32)) && ZfO (s.getD 0 0)) && !(s.any fun c=>!ZdX c)):=by
 cases s with
 | nil=>rfl
 | cons c r =>
  have h:∀ l:Str,l.all ZdX = !(l.any fun c=>!ZdX c):=fun l=>by
   induction l with
   | nil=>rfl
   | cons x r ih=>simp only [List.all_cons,List.any_cons,ih]; cases ZdX x <;> simp
  simp only [K7,h,List.getD_cons_zero,List.length_cons]
  congr 2
  have h1:decide (1≤((r.length + 1:Nat):Int))=true:=decide_eq_true (by omega)
  rw [h1,Bool.true_and]
  exact decide_eq_decide.2 (by omega)
theorem ZbG (s:Str):Yk Tryz.prog KE.id [.str s] (.bool (K7 s)):=by
 refine Qo KE.ok fun hwf F st hret=>?_
 have hs:=(hwf (.str s) (by simp)).str_inv
 unfold big at hs
 refine Za (Zb (Zc ?_))
 simp only [Eqs,reduceCtorEq,reduceIte,KE.r0]
 refine Za (Zb (Zc ?_))
 simp only [Eqs,reduceCtorEq,reduceIte,KE.r1]
 refine Za (Zb (Zc ?_))
 simp only [Eqs,reduceCtorEq,reduceIte,Nat.reduceEqDiff,KE.r2]
 refine YS rfl rfl rfl rfl rfl (by trivial) (by trivial) (by exact ZcL _ _) (Zc ?_)
 simp only [Eqs,reduceCtorEq,reduceIte,Nat.reduceEqDiff]
 repeat (refine And.intro (by first | omega | trivial | (intro h0; simp at h0; omega)) ?_)
 refine JI rfl rfl rfl rfl rfl (fun hcg=>⟨by first | trivial | (simpa [Zan] using hcg),trivial,ZeF _⟩) (Zc ?_)
 simp only [Eqs,reduceCtorEq,reduceIte,Nat.reduceEqDiff]
 refine JI rfl rfl rfl rfl rfl (fun hcg=>⟨by first | trivial | (simpa [Zan] using hcg),trivial,Zno s⟩) (Zc ?_)
 simp only [Eqs,reduceCtorEq,reduceIte,Nat.reduceEqDiff]
 rw [Zoq] at hret
 refine hret rfl (by first | trivial | simp) (Y1 ?_) (by first | exact St.sub_refl _ | exact ZM (by first | trivial | assumption) | assumption | exact St.sub_upd _ (by assumption))
 trivial
end Go.DL
namespace Go.DL
open Go
section
variable {K V:Type} [DecidableEq K]
def ZS (k:K):List (K × V)→Option V
 | []=>none
 | e :: r=>if k=e.1 then some e.2 else ZS k r
def Kk (k:K) (v:V):List (K × V)→List (K × V)
 | []=>[(k,v)]
 | e :: r=>if k=e.1 then (k,v) :: r else e :: Kk k v r
def QF (kD:K→D) (vD:V→D) (l:List (K × V)):List (D × D):=l.map fun e=>(kD e.1,vD e.2)
def ZeY (kp:KP) (kD:K→D):Prop:=∀ a b,QU kp (kD a) (kD b)=some (decide (a=b))
theorem KK {kp:KP} {kD:K→D} {vD:V→D} (h:ZeY kp kD) (k:K) (l:List (K × V)):ZbE kp (kD k) (QF kD vD l)=some ((ZS k l).map vD):=by
 induction l with
 | nil=>rfl
 | cons e r ih =>
  simp only [QF,List.map_cons,ZbE,h k e.1,ZS]
  by_cases hk:k=e.1
  ·simp [hk]
  ·simp only [hk,decide_false,if_false]; exact ih
theorem Zby {kp:KP} {kD:K→D} {vD:V→D} (h:ZeY kp kD) (k:K) (v:V) (l:List (K × V)):Zak kp (kD k) (vD v) (QF kD vD l)=some (QF kD vD (Kk k v l)):=by
 induction l with
 | nil=>rfl
 | cons e r ih =>
  simp only [QF,List.map_cons,Zak,h k e.1,Kk]
  by_cases hk:k=e.1
  ·simp [hk]
  ·simp only [hk,decide_false,if_false,List.map_cons]
   rw [show Zak kp (kD k) (vD v) (r.map fun e=>(kD e.1,vD e.2))=_ from ih]; rfl
theorem Qh {kp:KP} {kD:K→D} (h:ZeY kp kD) (k:K):JJ kp (kD k)=true:=by simp [JJ,h k k]
theorem J8 (k j:K) (v:V) (l:List (K × V)):ZS j (Kk k v l)=if j=k then some v else ZS j l:=by
 induction l with
 | nil=>simp [Kk,ZS]
 | cons e r ih =>
  simp only [Kk]
  by_cases hk:k=e.1
  ·subst hk; simp only [if_true,ZS]; split <;> rfl
  ·simp only [hk,if_false,ZS,ih]
   by_cases hj:j=e.1
   ·subst hj; simp [Ne.symm hk]
   ·simp [hj]
theorem Zqo {k:K} {v:V} {l:List (K × V)} {e:K × V} (h:e∈Kk k v l):e=(k,v)∨e∈l:=by
 induction l with
 | nil=>simp [Kk] at h; exact .inl h
 | cons x r ih =>
  simp only [Kk] at h
  split at h
  ·rcases List.mem_cons.1 h with h | h
   ·exact .inl h
   ·exact .inr (by simp [h])
  ·rcases List.mem_cons.1 h with h | h
   ·exact .inr (by simp [h])
   ·rcases ih h with h | h
    ·exact .inl h
    ·exact .inr (by simp [h])
theorem Zq5 {k:K} {v:V} {l:List (K × V)} (h:(l.map (·.1)).Nodup):((Kk k v l).map (·.1)).Nodup:=by
 induction l with
 | nil=>simp [Kk]
 | cons x r ih =>
  simp only [List.map_cons,List.nodup_cons] at h
  simp only [Kk]
  split
  ·rename_i hk; subst hk; simpa using h
  ·rename_i hk
   simp only [List.map_cons,List.nodup_cons]
   refine ⟨fun hm=>?_,ih h.2⟩
   obtain ⟨e,he,he2⟩:=List.mem_map.1 hm
   rcases Zqo he with rfl | he
   ·exact hk he2
   ·exact h.1 (List.mem_map.2 ⟨e,he,he2⟩)
theorem Zj5 {k:K} {l:List (K × V)}:ZS k l=none↔k ∉ l.map (·.1):=by
 induction l with
 | nil=>simp [ZS]
 | cons x r ih =>
  simp only [ZS,List.map_cons,List.mem_cons]
  by_cases h:k=x.1
  ·simp [h]
  ·simp [h,ih]
theorem Zmk {k:K} {v:V} {l:List (K × V)} (hn:(l.map (·.1)).Nodup) (h:(k,v)∈l):ZS k l=some v:=by
 induction l with
 | nil=>simp at h
 | cons x r ih =>
  simp only [List.map_cons,List.nodup_cons] at hn
  rcases List.mem_cons.1 h with rfl | h
  ·simp [ZS]
  ·have hne:k≠x.1:=fun e=>hn.1 (List.mem_map.2 ⟨_,h,e⟩)
   simp [ZS,hne,ih hn.2 h]
end
def QY (s:Str):D:=.str s
theorem Wk:ZeY (.sc .str) QY:=fun a b=>rfl
def QZ (n:Int):D:=.int .i64 n
theorem ZkQ:ZeY (.sc .int) QZ:=fun a b=>by simp [QU,QZ,Kh]
def prK (x:Int × Int):D:=.agg [.int .i64 x.1,.int .i64 x.2]
end Go.DL
namespace Go.DL
open Go Go.Proofs
def vst (st:St) (b x:Nat) (es:List (D × D)):St:=(st.upd b (.map es)).upd x (.cells [.map b])
theorem ZpD {st:St} {b x:Nat} {es:List (D × D)}:(vst st b x es) x=some (.cells [.map b]):=St.upd_same _ _ _
theorem ZpB {st:St} {b x:Nat} {es:List (D × D)} (h:b≠x):(vst st b x es) b=some (.map es):=by
 unfold vst; rw [St.upd_ne _ _ h]; exact St.upd_same _ _ _
theorem Zqg {st:St} {b x:Nat} {es es':List (D × D)} (h:b≠x):(vst st b x es).upd b (.map es')=vst st b x es':=by
 unfold vst; rw [St.upd_comm _ _ _ h,St.upd_upd]
abbrev Zc4 (l:List (Str × Bool)):List (D × D):=QF QY D.bool l
theorem Zfl (o:Option Bool):Ke (.bool false) false (o.map D.bool) = .bool (o.getD false):=by cases o <;> rfl
theorem ZiW (t:Z5) (st:St) (b x:Nat) (h:b≠x) (l:List (Str × Bool)) :
  YD Tryz.prog Y8.id [.agg t.cells,.ptr x 0] (vst st b x (Zc4 l)) (.bool ((ZS t.field l).getD false || !JT t)) (vst st b x (Zc4 (Kk t.field true l))):=by
 refine YG Y8.ok fun hwf F hret=>?_
 have e1:=KK (vD:=D.bool) Wk t.field l
 have e2:=Zby (vD:=D.bool) Wk t.field true l
 have e3:=Qh Wk t.field
 simp only [show QY t.field=D.str t.field from rfl] at e1 e2 e3
 refine Za (Zb (Zc ?_))
 simp only [Eqs,reduceCtorEq,reduceIte,Nat.reduceEqDiff,Nat.reduceAdd,Y8.r0,Z5.cells]
 refine Za (Zb (Zc ?_))
 simp only [Eqs,reduceIte,Nat.reduceEqDiff,Y8.r1,ZpD,ZpB h,e1,-Ke,Zfl]
 generalize (ZS t.field l).getD false=tw at *
 refine Za (Zb (Zc ?_))
 simp only [Eqs,reduceIte,Nat.reduceEqDiff,Y8.r2,ZpD,ZpB h,e2,Zqg h]
 cases tw with
 | false =>
  refine Za (Wy (ZO ?_))
  simp only [Eqs,reduceIte,Nat.reduceEqDiff,Y8.r3]
  refine Kp rfl rfl rfl rfl rfl (by trivial) (by trivial) (by exact ZbG t.field) (ZO ?_)
  simp only [Eqs,reduceIte,Nat.reduceEqDiff]
  refine Kp rfl rfl rfl rfl rfl (by trivial) (by trivial) (by exact Zah t.factor) (ZO ?_)
  simp only [Eqs,reduceIte,Nat.reduceEqDiff]
  refine Kp rfl rfl rfl rfl rfl (by trivial) (by trivial) (by exact ZjO _ _ _) (ZO ?_)
  simp only [Eqs,reduceIte,Nat.reduceEqDiff]
  refine hret rfl (by trivial) (Y1 ?_) (St.sub_refl _)
  unfold JT
  cases K7 t.field <;> cases decide (t.factor=0) <;> cases JB t.factor <;> rfl
 | true =>
  refine Za (Wy (ZO ?_))
  simp only [Eqs,reduceIte,Nat.reduceEqDiff,Y8.r3]
  refine ZeS rfl rfl (e:=.d (.bool false)) (ZO ?_)
  simp only [Eqs,reduceIte,Nat.reduceEqDiff]
  refine ZeS rfl rfl (e:=.d (.bool false)) (ZO ?_)
  simp only [Eqs,reduceIte,Nat.reduceEqDiff]
  refine ZeS rfl rfl (e:=.d (.bool false)) (ZO ?_)
  simp only [Eqs,reduceIte,Nat.reduceEqDiff]
  exact hret rfl (by trivial) (Y1 (by simp)) (St.sub_refl _)
theorem Zc8 {n i:Nat} (h:i < n):(List.range n).getD i default=i:=by simp [List.getD,h]
theorem ZdF (l:List Z5) (f:D) (p:Nat→Bool) (sts:Nat→St)
  (hf:∀ i,i < l.length→VT Tryz.prog f [.agg (l.getD i default).cells] (sts i) (.bool (p i)) (sts (i + 1))) :
  YD Tryz.prog Zk.id [slD 2 Z5.cells l,f] (sts 0) (.int .i64 (ZQ p (List.range l.length))) (sts (QQ p (List.range l.length))):=by
 refine YG Zk.ok fun hwf F hret=>?_
 have hw:=(K6 (hwf (slD 2 Z5.cells l) (by simp))).1
 unfold big at hw
 clear hwf
 refine Za (Zb (Zc ?_))
 simp only [Eqs,reduceCtorEq,reduceIte,Nat.reduceEqDiff,Nat.reduceAdd,Zk.r0,slD]
 refine Za (Za (Zb (Zc ?_)))
 simp only [Eqs,reduceCtorEq,reduceIte,Nat.reduceEqDiff,Zk.r1]
 refine Zo (YH ?_)
 have key:∀ (n i:Nat),(l.length) - i=n→i≤l.length→(∀ j,j < i→p j=false)→ZU F [.code (Zk.l0),.inLoop Zk.l0,.inBlock 0,.code (.seq (qR Zk.r7 [4]) .ret)] [(0,.d (slD 2 Z5.cells l)),(1,.d f),(7,.d (.int .i64 l.length)),(8,.d (.int .i64 i))] [] (sts i):=by
  intro n
  induction n using Nat.strongRecOn with
  | ind n ih_key =>
  intro i hn hi hno
  refine Za (Zb (Zc ?_))
  simp only [Eqs,reduceCtorEq,reduceIte,Nat.reduceEqDiff,Zk.r2,slD]
  refine Za (Zg rfl trivial (fun h1=>?_) (fun h1=>?_))
  ·simp at h1
   refine Zq (Za (Zo (Za (Zb (Zc ?_)))))
   simp only [Eqs,reduceCtorEq,reduceIte,Nat.reduceEqDiff,Zk.r3]
   refine Za (Zb (Zc ?_))
   simp only [Eqs,reduceCtorEq,reduceIte,Nat.reduceEqDiff,Nat.reduceAdd,Nat.reduceLeDiff,Zk.r4,Z5.cells]
   repeat (refine And.intro (by first | omega | trivial | (intro h0; simp at h0; omega)) ?_)
   refine ZaR rfl rfl rfl rfl rfl (by trivial) (by trivial) (by exact hf i h1) (Zc ?_)
   simp only [Eqs,reduceCtorEq,reduceIte,Nat.reduceEqDiff]
   refine Zg rfl trivial (fun h2=>?_) (fun h2=>?_)
   ·have e1:=Je (p:=p) (l:=List.range l.length) (i:=i) (by simpa using h1) (by rw [Zc8 h1]; exact h2) (fun j hj=>by rw [Zc8 (by omega)]; exact hno j hj)
    have e2:=Zbl (p:=p) (l:=List.range l.length) (i:=i) (by simpa using h1) (by rw [Zc8 h1]; exact h2) (fun j hj=>by rw [Zc8 (by omega)]; exact hno j hj)
    rw [e1,e2] at hret
    refine Za (Zb (Zc ?_))
    simp only [Eqs,reduceCtorEq,reduceIte,Nat.reduceEqDiff,Zk.r5]
    exact hret rfl (by trivial) (D.Le.refl _) (St.sub_refl _)
   ·refine Zq (ZC (Zb (Zc ?_)))
    simp only [Eqs,reduceCtorEq,reduceIte,Nat.reduceEqDiff,Zk.r6]
    repeat (refine And.intro (by first | omega | trivial | (intro h0; simp at h0; omega)) ?_)
    refine Z3 ?_
    exact ih_key ((l.length) - (i + 1)) (by omega) (i + 1) rfl (by omega) (KD (q:=fun j=>p j=false) hno h2)
  ·simp at h1
   obtain rfl:i=l.length:=by omega
   have hall:∀ x∈List.range l.length,p x=false:=fun x hx=>hno x (by simpa using hx)
   rw [QS hall,J9 hall,List.length_range] at hret
   refine Ys rfl (Za (Zb (Zc ?_)))
   simp only [Eqs,reduceCtorEq,reduceIte,Nat.reduceEqDiff,Zk.r7]
   exact hret rfl (by trivial) (D.Le.refl _) (St.sub_refl _)
 exact key _ 0 rfl (by omega) (by intro j hj; omega)
theorem ZcO (l:List Z5) (f:D) (p:Nat→Bool) (sts:Nat→St)
  (hf:∀ i,i < l.length→VT Tryz.prog f [.agg (l.getD i default).cells] (sts i) (.bool (p i)) (sts (i + 1))) :
  YD Tryz.prog ZW.id [slD 2 Z5.cells l,f] (sts 0) (.bool ((List.range l.length).any p)) (sts (QQ p (List.range l.length))):=by
 refine YG ZW.ok fun hwf F hret=>?_
 clear hwf
 refine Za (Zb (Zc ?_))
 simp only [Eqs,reduceCtorEq,reduceIte,Nat.reduceEqDiff,Nat.reduceAdd,ZW.r0]
 refine Za (Zb (Zc ?_))
 simp only [Eqs,reduceCtorEq,reduceIte,Nat.reduceEqDiff,ZW.r1]
 refine YF rfl rfl rfl rfl rfl (by trivial) (by trivial) (by exact ZdF l f p sts hf) (Zc ?_)
 simp only [Eqs,reduceCtorEq,reduceIte,Nat.reduceEqDiff]
 rw [Zaa] at hret
 exact hret rfl (by trivial) (D.Le.refl _) (St.sub_refl _)
def ZgC (l:List Z5):Nat→List (Str × Bool)
 | 0=>[]
 | i + 1=>Kk (l.getD i default).field true (ZgC l i)
theorem Zok (l:List Z5) (s:Str) (i:Nat) (hi:i≤l.length):(ZS s (ZgC l i)).getD false=decide (s∈(l.take i).map (·.field)):=by
 induction i with
 | zero=>simp [ZgC,ZS]
 | succ i ih =>
  have h:=ih (by omega)
  rw [ZgC,J8,WL (by omega),List.map_append]
  by_cases hs:s=(l.getD i default).field
  ·rw [if_pos hs]; simp [hs]
  ·rw [if_neg hs,h]; simp only [List.mem_append,List.map_cons,List.map_nil,List.mem_singleton,hs,or_false]
theorem Zco (l r:List Z5) (k:Nat) (hr:r=l.drop k) (hk:k≤l.length):JK ((l.take k).map (·.field)) r = !((List.range r.length).any fun i=>(decide ((l.getD (k + i) default).field∈(l.take (k + i)).map (·.field)) || !JT (l.getD (k + i) default))):=by
 induction r generalizing k with
 | nil=>rfl
 | cons t q ih =>
  have hlt:k < l.length:=by
   have:=congrArg List.length hr; simp at this; omega
  rw [J4 hlt] at hr
  injection hr with h1 h2
  have h3:=ih (k + 1) h2 (by omega)
  rw [JK,List.length_cons,List.range_succ_eq_map,List.any_cons,List.any_map]
  rw [show (l.take k).map (·.field)++[t.field]=(l.take (k + 1)).map (·.field) by rw [WL hlt,List.map_append,← h1]; rfl,h3]
  simp only [Nat.add_zero,← h1,Function.comp_def,Nat.succ_eq_add_one]
  rw [show (fun i=>decide ((l.getD (k + (i + 1)) default).field∈(l.take (k + (i + 1))).map (·.field)) || !JT (l.getD (k + (i + 1)) default))=fun i=>decide ((l.getD (k + 1 + i) default).field∈(l.take (k + 1 + i)).map (·.field)) || !JT (l.getD (k + 1 + i) default) from funext fun i=>by rw [show k + (i + 1)=k + 1 + i by omega]]
  cases JT t <;> cases decide (t.field∈(l.take k).map (·.field)) <;> simp
theorem Q4 (s:WP):Yk Tryz.prog WJ.id [.agg s.cells] (.bool (YM s)):=by
 refine Qo WJ.ok fun hwf F st hret=>?_
 refine Za (Zb (Zc ?_))
 simp only [Eqs,reduceCtorEq,reduceIte,Nat.reduceEqDiff,WJ.r0,WP.cells,Y4,slD]
 refine Za (Zb (Zc ?_))
 simp only [Eqs,reduceIte,Nat.reduceEqDiff,Nat.reduceLeDiff,WJ.r1]
 intro b hb
 refine Za ?_
 refine Yp 3 rfl fun x hx=>?_
 simp only [reduceIte,Nat.reduceEqDiff,Yz,Wi,delL]
 refine Zb (Zc ?_)
 simp only [Eqs,reduceIte,Nat.reduceEqDiff,WJ.r2]
 have hbx:b≠x:=fun e=>by rw [e,St.upd_same] at hx; simp at hx
 have hxn:∀ o,(st.upd b o) x=none:=fun o=>by rw [St.upd_ne _ _ (Ne.symm hbx)] at hx ⊢; exact hx
 have hvs:(st.upd b (.map [])).upd x (.cells [.map b])=vst st b x (Zc4 []):=rfl
 rw [hvs]
 cases hc:(JB s.base && decide ((s.terms.length:Int)≤4)) with
 | false =>
  refine Za (Wy (ZO ?_))
  simp only [Eqs,reduceIte,Nat.reduceEqDiff,WJ.r3]
  refine Kp rfl rfl rfl rfl rfl (by trivial) (by trivial) (by exact Zah s.base) (ZO ?_)
  simp only [Eqs,reduceIte,Nat.reduceEqDiff]
  refine Kp rfl rfl rfl rfl rfl (by trivial) (by trivial) (by exact ZcL _ _) (ZO ?_)
  simp only [Eqs,reduceIte,Nat.reduceEqDiff,hc]
  refine ZeS rfl rfl (e:=.d (.bool false)) (ZO ?_)
  simp only [Eqs,reduceIte,Nat.reduceEqDiff]
  refine hret rfl (by trivial) (Y1 ?_) (St.sub_trans (St.sub_upd _ hb) (St.sub_upd _ (hxn _)))
  unfold YM
  rw [show decide (s.terms.length≤4)=decide ((s.terms.length:Int)≤4) from decide_eq_decide.2 (by omega),hc]; rfl
 | true =>
  refine Za (Wy (ZO ?_))
  simp only [Eqs,reduceIte,Nat.reduceEqDiff,WJ.r3]
  refine Kp rfl rfl rfl rfl rfl (by trivial) (by trivial) (by exact Zah s.base) (ZO ?_)
  simp only [Eqs,reduceIte,Nat.reduceEqDiff]
  refine Kp rfl rfl rfl rfl rfl (by trivial) (by trivial) (by exact ZcL _ _) (ZO ?_)
  simp only [Eqs,reduceIte,Nat.reduceEqDiff,hc]
  refine Zbx rfl rfl rfl rfl rfl (by trivial) (by trivial) (by exact ZcO s.terms (.fn (.func Y8.id) [] [.ptr x 0]) (fun i=>decide ((s.terms.getD i default).field∈(s.terms.take i).map (·.field)) || !JT (s.terms.getD i default)) (fun i=>vst st b x (Zc4 (ZgC s.terms i))) (fun i hi=>(by have:=ZiW (s.terms.getD i default) st b x hbx (ZgC s.terms i); rw [Zok _ _ _ (by omega)] at this; exact this.VT (first:=[]) (args:=[_]) (caps:=[_])))) (by first | trivial | exact ⟨rfl,trivial⟩ | simp [KO,QG]) (ZO ?_)
  simp only [Eqs,reduceIte,Nat.reduceEqDiff]
  refine hret rfl (by trivial) (Y1 ?_) (St.sub_trans (St.sub_upd _ hb) (St.sub_upd _ (hxn _)))
  have hv:=Zco s.terms s.terms 0 rfl (by omega)
  simp only [Nat.zero_add] at hv
  rw [← hv]
  unfold YM
  rw [show decide (s.terms.length≤4)=decide ((s.terms.length:Int)≤4) from decide_eq_decide.2 (by omega),hc,Bool.true_and]
  rfl
end Go.DL
namespace Go.DL
open Go Go.Proofs
theorem Zfi (l:List Z5) (hl:l.length≤1000000) (st:St):ZY Tryz.prog Z4.id [Y4 l] st (fun r s=>r = .ret (Y4 l)∧s=st):=by
 refine ZP Z4.ok fun F hF=>?_
 by_cases h0:l.length=0
 ·have hl0:l=[]:=List.eq_nil_of_length_eq_zero h0
  subst hl0
  refine Zne 0 rfl ?_ fun b off cap=>?_
  ·skip
   refine Za (Zb (Zc ?_))
   simp only [Eqs,reduceCtorEq,reduceIte,Z4.r0,Y4,slD]
   refine Za (Za (Zb (Zc ?_)))
   simp only [Eqs,reduceCtorEq,reduceIte,Nat.reduceEqDiff,Z4.r1]
   refine Zg rfl trivial (fun _=>?_) (fun h=>by simp at h)
   refine Za (Zb (Zc ?_))
   simp only [Eqs,reduceCtorEq,reduceIte,Nat.reduceEqDiff,Z4.r2]
   exact hF.ret _ st rfl (by trivial) (ZaN (K9 fun b h=>by cases h)) (St.sub_refl _) ⟨rfl,rfl⟩
  ·skip
   refine Za (Zb (Zc ?_))
   simp only [Eqs,reduceCtorEq,reduceIte,Z4.r0,Y4,slD]
   refine Za (Za (Zb (Zc ?_)))
   simp only [Eqs,reduceCtorEq,reduceIte,Nat.reduceEqDiff,Z4.r1]
   refine Zg rfl trivial (fun h=>by simp at h) (fun _=>?_)
   refine Zq (Za (Zb (Zc ?_)))
   simp only [Eqs,reduceCtorEq,reduceIte,Z4.r3]
   refine ZmO (s:=st) (t:=.full) (m:=0) (row2:=fun _=>[]) rfl rfl rfl rfl rfl (by trivial) (by trivial) (fun g w v h=>Zn8 h) trivial (by decide) (by unfold big; decide) fun t1 ht1=>?_
   refine Zc ?_
   simp only [Eqs,reduceCtorEq,reduceIte,Nat.reduceEqDiff]
   exact hF.ret _ st rfl (by trivial) (ZaN ((We.nil (f:=Z5.cells)).le rfl)) (ZM ht1) ⟨rfl,rfl⟩
 ·skip
  refine Za (Zb (Zc ?_))
  simp only [Eqs,reduceCtorEq,reduceIte,Z4.r0,Y4,slD]
  refine Za (Za (Zb (Zc ?_)))
  simp only [Eqs,reduceCtorEq,reduceIte,Nat.reduceEqDiff,Z4.r1]
  repeat (refine And.intro (by first | omega | trivial | (intro h0; simp at h0; omega)) ?_)
  refine Zg rfl trivial (fun h=>by simp at h) (fun _=>?_)
  refine Zq (Za (Zb (Zc ?_)))
  simp only [Eqs,reduceCtorEq,reduceIte,Z4.r3]
  refine ZcQ (st) (.full) rfl rfl rfl rfl rfl rfl (by trivial) (by trivial) rfl (by first | trivial | assumption) (by omega) (by (unfold big; omega)) fun t1 ht1=>Zc ?_
  simp only [Eqs,reduceCtorEq,reduceIte,Nat.reduceEqDiff]
  have hrow:We Z5.cells (K0 0 (Wu [.str [],.int .i64 0] ([].zip [])) fun i=>(l.getD i default).cells) ([]++l):=We.nil.app We.self rfl
  exact hF.ret _ st rfl (by trivial) (ZaN (hrow.le (by simp))) (ZM ht1) ⟨rfl,rfl⟩
theorem Zd9 (l:List Z5) (hl:l.length≤big) (x:Nat):Zbi Tryz.prog (.fn (.func Yt.id) [] [.ptr x 0]) l.length (fun j=>[.str (l.getD j default).field]) (St.single x (.cells [Y4 l])):=by
 intro y go A a0 hcons hA hd
 have hw:=hl
 unfold big at hw
 refine ZY.V (first:=[]) (args:=[y]) (caps:=[.ptr x 0]) (ZP Yt.ok fun F hF=>?_)
 have hx:∀ a,Wt a (St.single x (.cells [Y4 l]))→(a.or (St.single x (.cells [Y4 l]))) x=some (.cells [Y4 l]):=fun a hda=>by
  rw [Yr (hda x _ (KB _ _)),KB]
 generalize hT:St.single x (.cells [Y4 l])=T at *
 refine Za (Zb (Zc ?_))
 simp only [Eqs,reduceCtorEq,reduceIte,Nat.reduceEqDiff,Nat.reduceAdd,Yt.r0,hx a0 hd,Y4,slD]
 refine Zo (YH ?_)
 have key:∀ (n j:Nat),(l.length) - j=n→∀ a,A j a→Wt a T→(∀ i,i < j→go i = .next)→j≤l.length→ZU F [.code (Yt.l0),.inLoop Yt.l0,.inBlock 0] [(0,.d y),(5,.d (Y4 l)),(6,.d (.int .i64 l.length)),(7,.d (.int .i64 j))] [] (a.or T):=by
  intro n
  induction n using Nat.strongRecOn with
  | ind n ih_key =>
  clear hA hd
  intro j hn a hA hd hno hj
  refine Za (Zb (Zc ?_))
  simp only [Eqs,reduceCtorEq,reduceIte,Nat.reduceEqDiff,Yt.r1,Y4,slD]
  refine Za (Zg rfl trivial (fun h1=>?_) (fun h1=>?_))
  ·simp at h1
   generalize hg:l.getD j default=g at *
   refine Zq (Za (Zo (Za (Zb (Zc ?_)))))
   simp only [Eqs,reduceCtorEq,reduceIte,Nat.reduceEqDiff,Nat.reduceAdd,Nat.reduceLeDiff,Yt.r2,Z5.cells,hg]
   repeat (refine And.intro (by first | omega | trivial | (intro h0; simp at h0; omega)) ?_)
   refine Za (Zb (Zc ?_))
   simp only [Eqs,reduceCtorEq,reduceIte,Nat.reduceEqDiff,Yt.r3]
   have hcall:=(hcons j h1 hno a hA).frame hd
   simp only [hg] at hcall
   refine ZaH rfl rfl rfl rfl rfl (by trivial) (by trivial) (by exact hcall) ?_ ?_
   ·rintro d S ⟨s',⟨hr,hA'⟩,hd',rfl⟩
    cases hgo:go j with
    | next =>
     rw [hgo] at hr
     cases hr
     refine Zc ?_
     simp only [Eqs,reduceCtorEq,reduceIte,Nat.reduceEqDiff]
     refine Zg rfl trivial (fun h=>by simp at h) (fun _=>?_)
     refine Zq (ZC (Zb (Zc ?_)))
     simp only [Eqs,reduceCtorEq,reduceIte,Nat.reduceEqDiff,Yt.r4]
     repeat (refine And.intro (by first | omega | trivial | (intro h0; simp at h0; omega)) ?_)
     refine Z3 ?_
     exact ih_key ((l.length) - (j + 1)) (by omega) (j + 1) rfl s' hA' hd' (KD (q:=fun i=>go i = .next) hno hgo) (by omega)
    | stop c =>
     rw [hgo] at hr
     cases hr
     refine Zc ?_
     simp only [Eqs,reduceCtorEq,reduceIte,Nat.reduceEqDiff]
     refine Zg rfl trivial (fun _=>?_) (fun h=>by simp at h)
     exact hF.ret (.tup []) _ rfl trivial (D.Le.refl _) (St.sub_refl _) ⟨s',.stop j c h1 hno hgo hA',Qi _ _⟩
    | pan d=>rw [hgo] at hr; cases hr
   ·rintro d S ⟨s',⟨hr,hA'⟩,hd',rfl⟩
    cases hgo:go j with
    | pan d' =>
     rw [hgo] at hr
     cases hr
     exact hF.pan _ (St.sub_refl _) ⟨s',.pan j d h1 hno hgo hA',Qi _ _⟩
    | next=>rw [hgo] at hr; cases hr
    | stop c=>rw [hgo] at hr; cases hr
  ·simp at h1
   obtain rfl:j=l.length:=by omega
   refine Ys rfl ?_
   exact hF.fin (.tup []) _ rfl trivial (D.Le.refl _) (St.sub_refl _) ⟨a,.all hno hA,Qi _ _⟩
 exact key _ 0 rfl a0 hA hd (by intro i hi; omega) (by omega)
theorem Zaf {s:WP} (h:YM s=true):s.terms.length≤4:=by
 unfold YM at h
 simp only [Bool.and_eq_true,decide_eq_true_eq] at h; exact h.1.2
theorem Zfs (s:WP) (hv:YM s=true) (st:St):ZY Tryz.prog Ww.id [.agg s.cells] st (fun r S=>∃ x,st x=none∧r = .ret (.fn (.func Yt.id) [] [.ptr x 0])∧S=st.or (St.single x (.cells [Y4 s.terms]))):=by
 have hfew:=Zaf hv
 refine ZP Ww.ok fun F hF=>?_
 refine Za (Zb (Zc ?_))
 simp only [Eqs,reduceCtorEq,reduceIte,Nat.reduceEqDiff,Ww.r0,WP.cells]
 refine Za (Zb (Zc ?_))
 simp only [Eqs,reduceIte,Nat.reduceEqDiff,Ww.r1]
 refine Za (Za (Zb (Zc ?_)))
 simp only [Eqs,reduceIte,Nat.reduceEqDiff,Nat.reduceAdd,Nat.reduceLeDiff,Ww.r2]
 refine YS rfl rfl rfl rfl rfl (by trivial) (by trivial) (by exact Q4 s) (Zc ?_)
 simp only [Eqs,reduceIte,Nat.reduceEqDiff,hv]
 refine Zg rfl trivial (fun _=>?_) (fun h=>by simp at h)
 refine Zb (Zc ?_)
 simp only [Eqs,reduceIte,Nat.reduceEqDiff,Ww.r3]
 refine Z6 rfl rfl rfl rfl rfl (by trivial) (by trivial) (by exact (Zfi s.terms (by omega) st)) ?_ ?_
 ·rintro d S ⟨hd,rfl⟩
  cases hd
  refine Zc ?_
  simp only [Eqs,reduceIte,Nat.reduceEqDiff,Nat.reduceLeDiff]
  refine ⟨rfl,?_⟩
  refine Za ?_
  refine Yp 3 rfl fun x hx=>?_
  simp only [reduceIte,Yz,Wi,delL]
  refine Zb (Zc ?_)
  simp only [Eqs,reduceIte,Nat.reduceEqDiff,Ww.r4]
  exact hF.ret _ _ rfl (by trivial) (D.Le.refl _) (St.sub_refl _) ⟨x,hx,rfl,Q6 hx⟩
 ·rintro d S ⟨hd,_⟩
  cases hd
end Go.DL
namespace Go.DL
open Go Go.Proofs
def QX (r:Int × Int):D:=.agg [.int .i64 r.1,.int .i64 r.2]
abbrev Zh3:=List (Str × (Int × Int))
abbrev Jr (l:Zh3):List (D × D):=QF QY QX l
theorem YY {s:St} {b c:Nat} {o:Kq} (h:(s.upd b o) c=none):c≠b∧s c=none:=by
 have:c≠b:=fun e=>by rw [e,St.upd_same] at h; simp at h
 exact ⟨this,by rw [St.upd_ne _ _ this] at h; exact h⟩
theorem Zgu (r:Int × Int):Yk Tryz.prog Y0.id [QX r] (.bool (!Zbg r)):=by
 refine YR Y0.ok fun F st hret=>?_
 refine Za (Zb (Zc ?_))
 simp only [Eqs,reduceCtorEq,reduceIte,Nat.reduceEqDiff,Y0.r0,QX]
 refine Za (Zb (Zc ?_))
 simp only [Eqs,reduceIte,Nat.reduceEqDiff,Y0.r1]
 refine YS rfl rfl rfl rfl rfl (by trivial) (by trivial) (by exact ZjO _ _ _) (Zc ?_)
 simp only [Eqs,reduceIte,Nat.reduceEqDiff]
 refine hret rfl (by first | trivial | simp) (Y1 ?_) (by first | exact St.sub_refl _ | exact ZM (by first | trivial | assumption) | assumption | exact St.sub_upd _ (by assumption))
 unfold Zbg; rw [Bool.not_or,Bool.not_or,← decide_not,← decide_not,← decide_not]; simp only [Int.not_lt,Int.not_le,Bool.and_assoc]
def ckS (st:St) (b5 b6 b7 b8 b9 b:Nat) (rc:Int) (nn:Bool):St :=
 ((((st.upd b5 (.cells [.str []])).upd b6 (.cells [.map b])).upd b7 (.cells [.fn (.func Y0.id) [] []])).upd b8 (.cells [.int .i64 rc])).upd b9 (.cells [.bool nn])
structure JL (st:St) (b5 b6 b7 b8 b9:Nat):Prop where
 n5:st b5=none
 n6:b6≠b5∧st b6=none
 n7:b7≠b6∧b7≠b5∧st b7=none
 n8:b8≠b7∧b8≠b6∧b8≠b5∧st b8=none
 n9:b9≠b8∧b9≠b7∧b9≠b6∧b9≠b5∧st b9=none
section
variable {st:St} {b5 b6 b7 b8 b9 b:Nat} {rc:Int} {nn:Bool}
theorem JL.g5 (h:JL st b5 b6 b7 b8 b9):(ckS st b5 b6 b7 b8 b9 b rc nn) b5=some (.cells [.str []]):=by
 simp [ckS,St.upd,h.n6.1.symm,h.n7.2.1.symm,h.n8.2.2.1.symm,h.n9.2.2.2.1.symm]
theorem JL.g6 (h:JL st b5 b6 b7 b8 b9):(ckS st b5 b6 b7 b8 b9 b rc nn) b6=some (.cells [.map b]):=by
 simp [ckS,St.upd,h.n7.1.symm,h.n8.2.1.symm,h.n9.2.2.1.symm]
theorem JL.g7 (h:JL st b5 b6 b7 b8 b9):(ckS st b5 b6 b7 b8 b9 b rc nn) b7=some (.cells [.fn (.func Y0.id) [] []]):=by
 simp [ckS,St.upd,h.n8.1.symm,h.n9.2.1.symm]
theorem JL.g8 (h:JL st b5 b6 b7 b8 b9):(ckS st b5 b6 b7 b8 b9 b rc nn) b8=some (.cells [.int .i64 rc]):=by
 simp [ckS,St.upd,h.n9.1.symm]
theorem JL.g9:(ckS st b5 b6 b7 b8 b9 b rc nn) b9=some (.cells [.bool nn]):=by
 simp [ckS,St.upd]
theorem JL.gm (h:JL st b5 b6 b7 b8 b9) {o:Kq} (hb:st b=some o):(ckS st b5 b6 b7 b8 b9 b rc nn) b=some o:=by
 have h5:b≠b5:=fun e=>by rw [e,h.n5] at hb; simp at hb
 have h6:b≠b6:=fun e=>by rw [e,h.n6.2] at hb; simp at hb
 have h7:b≠b7:=fun e=>by rw [e,h.n7.2.2] at hb; simp at hb
 have h8:b≠b8:=fun e=>by rw [e,h.n8.2.2.2] at hb; simp at hb
 have h9:b≠b9:=fun e=>by rw [e,h.n9.2.2.2.2] at hb; simp at hb
 simp [ckS,St.upd,h5,h6,h7,h8,h9,hb]
theorem JL.s8 (h:JL st b5 b6 b7 b8 b9) (rc':Int):(ckS st b5 b6 b7 b8 b9 b rc nn).upd b8 (.cells [.int .i64 rc'])=ckS st b5 b6 b7 b8 b9 b rc' nn:=by
 unfold ckS; rw [St.upd_comm _ _ _ h.n9.1.symm,St.upd_upd]
theorem JL.s9 (nn':Bool):(ckS st b5 b6 b7 b8 b9 b rc nn).upd b9 (.cells [.bool nn'])=ckS st b5 b6 b7 b8 b9 b rc nn':=by
 unfold ckS; rw [St.upd_upd]
theorem JL.sub (h:JL st b5 b6 b7 b8 b9):st.sub (ckS st b5 b6 b7 b8 b9 b rc nn):=fun c o hc=>by
 have h5:c≠b5:=fun e=>by rw [e,h.n5] at hc; simp at hc
 have h6:c≠b6:=fun e=>by rw [e,h.n6.2] at hc; simp at hc
 have h7:c≠b7:=fun e=>by rw [e,h.n7.2.2] at hc; simp at hc
 have h8:c≠b8:=fun e=>by rw [e,h.n8.2.2.2] at hc; simp at hc
 have h9:c≠b9:=fun e=>by rw [e,h.n9.2.2.2.2] at hc; simp at hc
 simp [ckS,St.upd,h5,h6,h7,h8,h9,hc]
end
theorem ZgT {st t:St} {b5 b6 b7 b8 b9 b:Nat} {rc rc':Int} {nn nn':Bool} (h:Wt (ckS st b5 b6 b7 b8 b9 b rc nn) t):Wt (ckS st b5 b6 b7 b8 b9 b rc' nn') t:=fun c o hc=>by
 have:=h c o hc
 unfold ckS at this ⊢
 have k9:=YY this
 have k8:=YY k9.2
 rw [St.upd_ne _ _ k9.1,St.upd_ne _ _ k8.1]; exact k8.2
theorem ZkZ {st:St} {b5 b6 b7 b8 b9 b:Nat} {rc:Int} {nn:Bool} (h:JL st b5 b6 b7 b8 b9) {ρ:Env} {L:Loc} (hρ:Wh ρ 8=some (.d (.ptr b8 0)):=by rfl) :
  K3 ρ L (ckS st b5 b6 b7 b8 b9 b rc nn) [.cell1 8]=some (True∧True,[.int .i64 rc]):=by
 simp [K3,ZaL,hρ,QA,Jg,h.g8]
theorem ZeH {α:Type} [Inhabited α] {p:α→Bool} {l:List α} (h:∀ i,i < l.length→p (l.getD i default)=false):l.any p=false:=by
 apply List.any_eq_false.2
 intro x hx
 obtain ⟨i,hi,rfl⟩:=List.getElem_of_mem hx
 have:=h i hi
 simpa [List.getD,hi] using this
theorem Zlk {s:WP} {j:Nat} (h:YM s=true) (hj:j < s.terms.length):(s.terms.getD j default).field≠[]:=by
 unfold YM at h
 simp only [Bool.and_eq_true] at h
 have h1:=Zco s.terms s.terms 0 rfl (by omega)
 simp only [List.take_zero,List.map_nil,Nat.zero_add] at h1
 rw [h1] at h
 have h2:((List.range s.terms.length).any fun i=>decide ((s.terms.getD i default).field∈(s.terms.take i).map (·.field)) || !JT (s.terms.getD i default))=false:=by simpa using h.2
 have h3:=List.any_eq_false.1 h2 j (by simpa using hj)
 simp only [Bool.or_eq_true,not_or,Bool.not_eq_true',Bool.not_eq_false] at h3
 have h4:=h3.2
 intro e
 rw [JT,e] at h4
 simp [K7] at h4
theorem ZiX (s:WP) (b:Nat) (l:Zh3) (st:St) (hb:st b=some (.map (Jr l))) :
  ZY Tryz.prog Zh.id [.agg s.cells,.str [],.map b,.fn (.func Y0.id) [] []] st (fun r S=>r = .ret (.int .i64 (ZaP s (fun k=>ZS k l)))∧S=st):=by
 refine ZP Zh.ok fun F hF=>?_
 refine Za (Zb (Zc ?_))
 simp only [Eqs,reduceCtorEq,reduceIte,Nat.reduceEqDiff,Nat.reduceAdd,Zh.r0,WP.cells]
 refine Za (Za (Zb (Zc ?_)))
 simp only [Eqs,reduceIte,Nat.reduceEqDiff,Nat.reduceAdd,Nat.reduceLeDiff,Zh.r1]
 refine YS rfl rfl rfl rfl rfl (by trivial) (by trivial) (by exact Q4 s) (Zc ?_)
 simp only [Eqs,reduceIte,Nat.reduceEqDiff]
 refine Zg rfl trivial (fun hv=>?_) (fun hv=>?_)
 ·have hv':YM s=false:=by simpa using hv
  refine Za (Zb (Zc ?_))
  simp only [Eqs,reduceIte,Nat.reduceEqDiff,Nat.reduceLeDiff,Zh.r2]
  refine hF.ret _ st rfl (by trivial) (Za4 ?_) (St.sub_refl _) ⟨rfl,rfl⟩
  rw [ZaP,if_pos hv']
 ·have hv':YM s=true:=by simpa using hv
  refine Zq (Za (Zb (Zc ?_)))
  simp only [Eqs,reduceIte,Nat.reduceEqDiff,Nat.reduceLeDiff,Zh.r3]
  refine Za (Za ?_)
  refine Yp 5 rfl fun b5 h5=>?_
  simp only [reduceIte,Nat.reduceEqDiff,Yz,Wi,delL]
  refine Yp 6 rfl fun b6 h6=>?_
  simp only [reduceIte,Nat.reduceEqDiff,Yz,Wi,delL]
  refine Yp 7 rfl fun b7 h7=>?_
  simp only [reduceIte,Nat.reduceEqDiff,Yz,Wi,delL]
  refine Yp 8 rfl fun b8 h8=>?_
  simp only [reduceIte,Nat.reduceEqDiff,Yz,Wi,delL]
  refine Yp 9 rfl fun b9 h9=>?_
  simp only [reduceIte,Nat.reduceEqDiff,Yz,Wi,delL]
  refine Zb (Zc ?_)
  simp only [Eqs,reduceIte,Nat.reduceEqDiff,Nat.reduceAdd,Nat.reduceLeDiff,Zh.r4]
  refine Z6 rfl rfl rfl rfl rfl (by trivial) (by trivial) (by exact Zfs s hv' _) ?_ ?_
  ·rintro d S ⟨x,hx,hd,rfl⟩
   cases hd
   refine Zc ?_
   simp only [Eqs,reduceIte,Nat.reduceEqDiff]
   refine Zo ?_
   have hck:JL st b5 b6 b7 b8 b9:=by
    have k6:=YY h6
    have k7:=YY h7
    have k7a:=YY k7.2
    have k8:=YY h8
    have k8a:=YY k8.2
    have k8b:=YY k8a.2
    have k9:=YY h9
    have k9a:=YY k9.2
    have k9b:=YY k9a.2
    have k9c:=YY k9b.2
    exact ⟨h5,k6,⟨k7.1,k7a⟩,⟨k8.1,k8a.1,k8b⟩,⟨k9.1,k9a.1,k9b.1,k9c⟩⟩
   have hfew:=Zaf hv'
   rw [show (((((st.upd b5 (.cells [.str []])).upd b6 (.cells [.map b])).upd b7 (.cells [.fn (.func Y0.id) [] []])).upd b8 (.cells [.int .i64 0])).upd b9 (.cells [.bool false]))=ckS st b5 b6 b7 b8 b9 b 0 false from rfl] at hx ⊢
   refine ZaK hF rfl trivial [5,6,7,8,9] (by show ([5,6,7,8,9]:List Nat).Nodup; decide) (Jc hx) (Zd9 s.terms (by unfold big; omega) x) (fun j hj=>rfl)
    (fun j=>if QC (fun k=>ZS k l) (s.terms.getD j default) then .stop .ret else .next)
    (fun j a=>((∀ i,i < j→QC (fun k=>ZS k l) (s.terms.getD i default)=false)∧a=ckS st b5 b6 b7 b8 b9 b 0 ((s.terms.take j).any (QH fun k=>ZS k l)))∨((∃ nn,a=ckS st b5 b6 b7 b8 b9 b 2 nn)∧∃ i,i < j∧QC (fun k=>ZS k l) (s.terms.getD i default)=true))
    (.inl ⟨fun i hi=>by omega,rfl⟩) ?_ ?_ ?_ ?_ ?_ ?_
   ·intro j a hj hno hB F' ready busy hdr hbeg hend
    have hno':∀ i,i < j→QC (fun k=>ZS k l) (s.terms.getD i default)=false:=fun i hi=>by
     have:=hno i hi; split at this
     ·simp at this
     ·rename_i h; simpa using h
    rcases hB with ⟨_,rfl⟩ | ⟨_,i,hi,hib⟩
    ·skip
     simp only [Eqs,reduceIte,Nat.reduceEqDiff,Jw,Zab,Za9,JH,List.isEmpty_nil]
     refine Zb (Zc ?_)
     simp only [Eqs,reduceIte,Nat.reduceEqDiff,Zh.r5]
     refine hbeg fun hdb=>?_
     have hje:(s.terms.getD j default).field≠[]:=Zlk hv' hj
     have hsn:=Zpn (p:=QH fun k=>ZS k l) hj
     generalize htm:s.terms.getD j default=tm at *
     have e1:=KK (vD:=QX) Wk tm.field l
     have e3:=Qh Wk tm.field
     simp only [show QY tm.field=D.str tm.field from rfl] at e1 e3
     cases hg:ZS tm.field l with
     | none =>
      rw [hg] at e1
      have hbad:QC (fun k=>ZS k l) tm=false:=by simp [QC,hg]
      have hnone:QH (fun k=>ZS k l) tm=true:=by simp [QH,hg]
      rw [hnone,Bool.or_true] at hsn
      rw [if_neg (by rw [hbad]; simp)] at hend
      refine Zo (Za (Zb (Zc ?_)))
      simp only [Eqs,reduceIte,Nat.reduceEqDiff,Nat.reduceAdd,Nat.reduceLeDiff,Zh.r6,Ya (hck.g6 ),Ya (hck.gm hb),e1]
      refine Zo (Za (Zb (Zc ?_)))
      simp only [Eqs,reduceIte,Nat.reduceEqDiff,Zh.r7,Ya (hck.g5 )]
      refine Zg rfl trivial (fun h=>by simp at h; exact absurd h hje) (fun _=>?_)
      refine Za (Zb (Zc ?_))
      simp only [Eqs,reduceIte,Nat.reduceEqDiff,Zh.r8]
      refine Zg rfl trivial (fun _=>?_) (fun h=>by simp at h)
      refine Zb (Zc ?_)
      simp only [Eqs,reduceIte,Nat.reduceEqDiff,Nat.reduceLeDiff,Zh.r9,Ya (JL.g9 ),Jt,JL.s9]
      refine ZC (ZC ?_)
      exact hend.fin ⟨rfl,.inl ⟨KD (q:=fun i=>QC (fun k=>ZS k l) (s.terms.getD i default)=false) hno' (by rw [htm]; exact hbad),by rw [hsn]⟩⟩ (ZgT hdb) (St.sub_refl _)
     | some r =>
      rw [hg] at e1
      have hbad:QC (fun k=>ZS k l) tm=Zbg r:=by simp [QC,hg]
      have hnone:QH (fun k=>ZS k l) tm=false:=by simp [QH,hg]
      rw [hnone,Bool.or_false] at hsn
      refine Zo (Za (Zb (Zc ?_)))
      simp only [Eqs,reduceIte,Nat.reduceEqDiff,Nat.reduceAdd,Nat.reduceLeDiff,Zh.r6,Ya (hck.g6 ),Ya (hck.gm hb),e1,QX]
      refine Zo (Za (Zb (Zc ?_)))
      simp only [Eqs,reduceIte,Nat.reduceEqDiff,Zh.r7,Ya (hck.g5 )]
      refine Zg rfl trivial (fun h=>by simp at h; exact absurd h hje) (fun _=>?_)
      refine Za (Zb (Zc ?_))
      simp only [Eqs,reduceIte,Nat.reduceEqDiff,Zh.r8]
      refine Zg rfl trivial (fun h=>by simp at h) (fun _=>?_)
      refine Za (Zb (Zc ?_))
      simp only [Eqs,reduceIte,Nat.reduceEqDiff,Nat.reduceAdd,Nat.reduceLeDiff,Zh.r10,Ya (hck.g7 )]
      refine YS rfl rfl rfl rfl rfl (by trivial) (by trivial) (by exact Zgu r) (Zc ?_)
      simp only [Eqs,reduceIte,Nat.reduceEqDiff]
      refine Zg rfl trivial (fun hr=>?_) (fun hr=>?_)
      ·have hr':Zbg r=true:=by simpa using hr
       rw [if_pos (by rw [hbad]; exact hr')] at hend
       refine Za (Zb (Zc ?_))
       simp only [Eqs,reduceIte,Nat.reduceEqDiff,Nat.reduceLeDiff,Zh.r11,Ya (hck.g8 ),Jt,hck.s8]
       exact hend.ret ⟨rfl,.inr ⟨⟨_,rfl⟩,j,by omega,by rw [htm,hbad]; exact hr'⟩⟩ (ZgT hdb) (St.sub_refl _)
      ·have hr':Zbg r=false:=by simpa using hr
       rw [if_neg (by rw [hbad,hr']; simp)] at hend
       refine Zq (ZC (ZC ?_))
       exact hend.fin ⟨rfl,.inl ⟨KD (q:=fun i=>QC (fun k=>ZS k l) (s.terms.getD i default)=false) hno' (by rw [htm,hbad]; exact hr'),by rw [hsn]⟩⟩ hdb (St.sub_refl _)
    ·rw [hno' i hi] at hib; simp at hib
   ·intro q a hno hB hq
    have hno':∀ i,i < s.terms.length→QC (fun k=>ZS k l) (s.terms.getD i default)=false:=fun i hi=>by
     have:=hno i hi; split at this
     ·simp at this
     ·rename_i h; simpa using h
    rcases hB with ⟨_,rfl⟩ | ⟨_,i,hi,hib⟩
    ·rw [List.take_length] at hq ⊢
     have hb0:s.terms.any (QC fun k=>ZS k l)=false:=ZeH hno'
     have hI:=ZaP.eq_1 s fun k=>ZS k l
     rw [if_neg (by rw [hv']; simp),if_neg (by rw [hb0]; simp)] at hI
     rw [Q6 hq]
     have hdq:=Jc (o:=Kq.dfr) hq
     generalize s.terms.any (QH fun k=>ZS k l)=nn at *
     refine ZC (Za (Za (Zb (Zc ?_))))
     simp only [Eqs,reduceIte,Nat.reduceEqDiff,Zh.r12,Ya (JL.g9 )]
     refine Zg rfl trivial (fun hn=>?_) (fun hn=>?_)
     ·rw [if_pos hn] at hI
      refine Za (Zb (Zc ?_))
      simp only [Eqs,reduceIte,Nat.reduceEqDiff,Nat.reduceLeDiff,Zh.r13,Ya (hck.g8 ),Jt,hck.s8]
      exact hF.ret1 (Zkn (ZgT hdq) (KB _ _)) (.int .i64 9) st (ZkZ hck) ⟨trivial,trivial⟩ (D.Le.refl _) hck.sub ⟨by rw [hI],rfl⟩
     ·rw [if_neg (by rw [hn]; simp)] at hI
      refine Zq (Za (Zb (Zc ?_)))
      simp only [Eqs,reduceIte,Nat.reduceEqDiff,Nat.reduceLeDiff,Zh.r14,Ya (hck.g8 ),Jt,hck.s8]
      exact hF.ret1 (Zkn (ZgT hdq) (KB _ _)) (.int .i64 0) st (ZkZ hck) ⟨trivial,trivial⟩ (D.Le.refl _) hck.sub ⟨by rw [hI],rfl⟩
    ·rw [hno' i hi] at hib; simp at hib
   ·intro q a m hm hno hgo hB hq
    have hno':∀ i,i < m→QC (fun k=>ZS k l) (s.terms.getD i default)=false:=fun i hi=>by
     have:=hno i hi; split at this
     ·simp at this
     ·rename_i h; simpa using h
    have hbad:QC (fun k=>ZS k l) (s.terms.getD m default)=true:=by
     split at hgo
     ·rename_i h; exact h
     ·simp at hgo
    rcases hB with ⟨hall,_⟩ | ⟨⟨nn,rfl⟩,_⟩
    ·rw [hall m (by omega)] at hbad; simp at hbad
    ·have hb0:s.terms.any (QC fun k=>ZS k l)=true:=ZqM hm hbad
     have hI:=ZaP.eq_1 s fun k=>ZS k l
     rw [if_neg (by rw [hv']; simp),if_pos hb0] at hI
     rw [Q6 hq]
     exact hF.ret1 hq (.int .i64 2) st (ZkZ hck) ⟨trivial,trivial⟩ (D.Le.refl _) hck.sub ⟨by rw [hI],rfl⟩
   ·intro q a m id hm hno hgo
    split at hgo <;> simp at hgo
   ·intro q a m d hm hno hgo
    split at hgo <;> simp at hgo
   ·intro m c hgo
    split at hgo <;> simp at hgo
    exact .inl hgo.symm
  ·rintro d S ⟨x,hx,hd,rfl⟩
   cases hd
end Go.DL
namespace Go.DL
open Go Go.Proofs
def ZaI (v:Z5→Int):List Z5→Int
 | []=>0
 | t :: r=>t.factor * v t + ZaI v r
theorem ZoB {v:Z5→Int} {l:List Z5} {i:Nat} (h:i < l.length):ZaI v (l.take (i + 1))=ZaI v (l.take i) + (l.getD i default).factor * v (l.getD i default):=by
 rw [WL h]
 generalize l.getD i default=x
 induction l.take i with
 | nil=>simp [ZaI]
 | cons y r ih=>simp only [List.cons_append,ZaI,ih]; omega
theorem Zkl {a b:Int} (ha:-1048576≤a∧a≤1048576) (hb:0≤b∧b < 34359738368):-36028797018963968≤a * b∧a * b≤36028797018963968:=by
 have h1:a * b≤1048576 * b:=Int.mul_le_mul_of_nonneg_right ha.2 hb.1
 have h2:-1048576 * b≤a * b:=Int.mul_le_mul_of_nonneg_right ha.1 hb.1
 omega
theorem ZmP {v:Z5→Int} {l:List Z5} (h:∀ t∈l,(-1048576≤t.factor∧t.factor≤1048576)∧0≤v t∧v t < 34359738368):-36028797018963968 * (l.length:Int)≤ZaI v l∧ZaI v l≤36028797018963968 * (l.length:Int):=by
 induction l with
 | nil=>simp [ZaI]
 | cons t r ih =>
  have h1:=ih fun x hx=>h x (by simp [hx])
  have h2:=Zkl (h t (by simp)).1 (h t (by simp)).2
  simp only [ZaI,List.length_cons]
  generalize t.factor * v t=y at *
  omega
theorem Zd0 {s:WP} (h:YM s=true):(-1048576≤s.base∧s.base≤1048576)∧∀ t∈s.terms,-1048576≤t.factor∧t.factor≤1048576:=by
 unfold YM at h
 simp only [Bool.and_eq_true] at h
 refine ⟨by have:=h.1.1; simpa [JB] using this,fun t ht=>?_⟩
 have h1:=Zco s.terms s.terms 0 rfl (by omega)
 simp only [List.take_zero,List.map_nil,Nat.zero_add] at h1
 rw [h1] at h
 have h2:((List.range s.terms.length).any fun i=>decide ((s.terms.getD i default).field∈(s.terms.take i).map (·.field)) || !JT (s.terms.getD i default))=false:=by simpa using h.2
 obtain ⟨j,hj,rfl⟩:=List.getElem_of_mem ht
 have h3:=List.any_eq_false.1 h2 j (by simpa using hj)
 simp only [Bool.or_eq_true,not_or,Bool.not_eq_true',Bool.not_eq_false] at h3
 have h4:=h3.2
 unfold JT at h4
 simp only [Bool.and_eq_true] at h4
 have h5:=h4.2
 simpa [JB,List.getD,hj] using h5
theorem Zjp (s:WP) (hv:YM s=true) (f:D) (v:Z5→Int) (st:St) (hb:∀ t∈s.terms,0≤v t∧v t < 34359738368) (hf:∀ t∈s.terms,VT Tryz.prog f [.agg t.cells] st (.int .i64 (v t)) st) :
  YD Tryz.prog Z8.id [.agg s.cells,f] st (.int .i64 (s.base + ZaI v s.terms)) st:=by
 refine YG Z8.ok fun hwf F hret=>?_
 clear hwf
 have hfew:=Zaf hv
 have hsm:=Zd0 hv
 refine Za (Zb (Zc ?_))
 simp only [Eqs,reduceCtorEq,reduceIte,Nat.reduceEqDiff,Nat.reduceAdd,Z8.r0,WP.cells,Y4,slD]
 refine Za (Zb (Zc ?_))
 simp only [Eqs,reduceIte,Nat.reduceEqDiff,Z8.r1]
 refine Za (Za (Zb (Zc ?_)))
 simp only [Eqs,reduceIte,Nat.reduceEqDiff,Z8.r2]
 refine Zo (YH ?_)
 have key:∀ (n j:Nat),(s.terms.length) - j=n→j≤s.terms.length→ZU F [.code (Z8.l0),.inLoop Z8.l0,.inBlock 0,.code (.seq (qR Z8.r7 [4]) .ret)] [(1,.d f),(5,.d (.int .i64 (s.base + ZaI v (s.terms.take j)))),(11,.d (Y4 s.terms)),(12,.d (.int .i64 s.terms.length)),(13,.d (.int .i64 j))] [] st:=by
  intro n
  induction n using Nat.strongRecOn with
  | ind n ih_key =>
  intro j hn hj
  refine Za (Zb (Zc ?_))
  simp only [Eqs,reduceIte,Nat.reduceEqDiff,Z8.r3]
  refine Za (Zg rfl trivial (fun h1=>?_) (fun h1=>?_))
  ·simp at h1
   have hmem:=KQ h1
   have hsn:=ZoB (v:=v) h1
   have hsb:=ZmP (v:=v) (l:=s.terms.take j) fun t ht=>⟨hsm.2 t (List.mem_of_mem_take ht),hb t (List.mem_of_mem_take ht)⟩
   rw [List.length_take] at hsb
   generalize htm:s.terms.getD j default=tm at *
   have hmb:=Zkl (hsm.2 tm hmem) (hb tm hmem)
   refine Zq (Za (Zo (Za (Zb (Zc ?_)))))
   simp only [Eqs,reduceIte,Nat.reduceEqDiff,Nat.reduceAdd,Nat.reduceLeDiff,Z8.r4,Z5.cells,Y4,slD,htm]
   repeat (refine And.intro (by first | omega | trivial | (intro h0; simp at h0; omega)) ?_)
   refine Wy (ZO ?_)
   simp only [Eqs,reduceIte,Nat.reduceEqDiff,Nat.reduceAdd,Nat.reduceLeDiff,Z8.r5]
   refine Zqr rfl rfl rfl rfl rfl (by trivial) (by trivial) (by exact hf tm hmem) (by first | trivial | exact ⟨rfl,trivial⟩ | simp [KO,QG]) (ZO ?_)
   simp only [Eqs,reduceIte,Nat.reduceEqDiff]
   generalize hmv:tm.factor * v tm=mv at *
   repeat (refine And.intro (by first | omega | trivial | (intro h0; simp at h0; omega)) ?_)
   refine ZC (Zb (Zc ?_))
   simp only [Eqs,reduceIte,Nat.reduceEqDiff,Z8.r6]
   repeat (refine And.intro (by first | omega | trivial | (intro h0; simp at h0; omega)) ?_)
   refine Z3 ?_
   have hnext:=ih_key ((s.terms.length) - (j + 1)) (by omega) (j + 1) rfl (by omega)
   rw [hsn,← Int.add_assoc] at hnext
   exact hnext
  ·simp at h1
   obtain rfl:j=s.terms.length:=by omega
   rw [List.take_length]
   refine Ys rfl (Za (Zb (Zc ?_)))
   simp only [Eqs,reduceIte,Nat.reduceEqDiff,Z8.r7]
   exact hret rfl (by trivial) (D.Le.refl _) (St.sub_refl _)
 have hk:=key _ 0 rfl (by omega)
 rw [List.take_zero,show ZaI v []=0 from rfl,Int.add_zero] at hk
 exact hk
def ZcY (look:J6) (least:Bool) (t:Z5):Int:=if least=decide (0 < t.factor) then (ZdJ look t).1 else (ZdJ look t).2
theorem ZpR (look:J6) (l:List Z5):ZaI (ZcY look true) l=loS look l:=by
 induction l with
 | nil=>rfl
 | cons t r ih =>
  simp only [ZaI,loS,ih,loT,ZcY]
  by_cases h:0 < t.factor <;> simp [h]
theorem Zqn (look:J6) (l:List Z5):ZaI (ZcY look false) l=hiS look l:=by
 induction l with
 | nil=>rfl
 | cons t r ih =>
  simp only [ZaI,hiS,ih,hiT,ZcY]
  by_cases h:0 < t.factor <;> simp [h]
theorem Zkk (o:Option (Int × Int)):Ke (.agg [.int .i64 0,.int .i64 0]) false (o.map QX) = .agg [.int .i64 (o.getD (0,0)).1,.int .i64 (o.getD (0,0)).2]:=by cases o <;> rfl
theorem Ze6 (t:Z5) (l:Zh3) (least:Bool) (b x y:Nat) (st:St) (hb:st b=some (.map (Jr l))) (hx:st x=some (.cells [.map b])) (hy:st y=some (.cells [.bool least])) :
  YD Tryz.prog Z7.id [.agg t.cells,.ptr x 0,.ptr y 0] st (.int .i64 (ZcY (fun k=>ZS k l) least t)) st:=by
 refine YG Z7.ok fun hwf F hret=>?_
 clear hwf
 have e1:=KK (vD:=QX) Wk t.field l
 have e3:=Qh Wk t.field
 simp only [show QY t.field=D.str t.field from rfl] at e1 e3
 refine Za (Zb (Zc ?_))
 simp only [Eqs,reduceCtorEq,reduceIte,Nat.reduceEqDiff,Nat.reduceAdd,Z7.r0,Z5.cells]
 refine Za (Za (Zb (Zc ?_)))
 simp only [Eqs,reduceIte,Nat.reduceEqDiff,Nat.reduceAdd,Nat.reduceLeDiff,Z7.r1,hx,hb,e1,-Ke,Zkk]
 refine Za (Zb (Zc ?_))
 simp only [Eqs,reduceIte,Nat.reduceEqDiff,Z7.r2,hy]
 refine Zg rfl trivial (fun h1=>?_) (fun h1=>?_)
 ·refine Za (Zb (Zc ?_))
  simp only [Eqs,reduceIte,Nat.reduceEqDiff,Z7.r3]
  refine hret rfl (by trivial) (Za4 ?_) (St.sub_refl _)
  unfold ZcY ZdJ
  rw [if_pos (by simpa using h1)]
 ·refine Zq (Za (Zb (Zc ?_)))
  simp only [Eqs,reduceIte,Nat.reduceEqDiff,Z7.r4,hx,hb,e1,-Ke,Zkk]
  refine hret rfl (by trivial) (Za4 ?_) (St.sub_refl _)
  unfold ZcY ZdJ
  rw [if_neg (by simpa using h1)]
theorem ZoX {s:WP} {look:J6} (h:ZaP s look=0):YM s=true∧∀ t∈s.terms,∀ least,0≤ZcY look least t∧ZcY look least t < 34359738368:=by
 unfold ZaP at h
 split at h; · omega
 rename_i hv
 split at h; · omega
 rename_i hb
 refine ⟨by simpa using hv,fun t ht least=>?_⟩
 have h1:QC look t=false:=by
  cases hx:QC look t with
  | false=>rfl
  | true=>exact absurd (List.any_eq_true.2 ⟨t,ht,hx⟩) hb
 unfold QC at h1
 unfold ZcY ZdJ
 cases hl:look t.field with
 | none=>simp
 | some r =>
  rw [hl] at h1
  simp only [Zbg,Bool.or_eq_false_iff,decide_eq_false_iff_not] at h1
  simp only [Option.getD_some]
  split <;> omega
theorem ZcN (s:WP) (l:Zh3) (least:Bool) (b x y:Nat) (st:St) (he:ZaP s (fun k=>ZS k l)=0) (hb:st b=some (.map (Jr l))) (hx:st x=some (.cells s.cells)) (hy:st y=some (.cells [.map b])) :
  YD Tryz.prog Wx.id [.bool least,.ptr x 0,.ptr y 0] st (.int .i64 (s.base + ZaI (ZcY (fun k=>ZS k l) least) s.terms)) st:=by
 refine YG Wx.ok fun hwf F hret=>?_
 clear hwf
 have hok:=ZoX he
 refine Za (Zb (Zc ?_))
 simp only [Eqs,reduceCtorEq,reduceIte,Nat.reduceEqDiff,Nat.reduceAdd,Wx.r0]
 refine Za ?_
 refine Yp 3 rfl fun z hz=>?_
 simp only [reduceIte,Yz,Wi,delL]
 have hbz:b≠z:=fun e=>by rw [e,hz] at hb; simp at hb
 have hxz:x≠z:=fun e=>by rw [e,hz] at hx; simp at hx
 have hyz:y≠z:=fun e=>by rw [e,hz] at hy; simp at hy
 have hx2:(st.upd z (.cells [.bool least])) x=some (.cells s.cells):=by rw [St.upd_ne _ _ hxz]; exact hx
 refine Zb (Zc ?_)
 simp only [Eqs,reduceIte,Nat.reduceEqDiff,Nat.reduceAdd,Nat.reduceLeDiff,Wx.r1,hx2,WP.cells]
 refine YF rfl rfl rfl rfl rfl (by trivial) (by trivial) (by exact Zjp s hok.1 _ (ZcY (fun k=>ZS k l) least) _ (fun t ht=>hok.2 t ht least) (fun t ht=>(Ze6 t l least b y z _ (by rw [St.upd_ne _ _ hbz]; exact hb) (by rw [St.upd_ne _ _ hyz]; exact hy) (St.upd_same _ _ _)).VT (first:=[]) (args:=[_]) (caps:=[_,_]))) (Zc ?_)
 simp only [Eqs,reduceIte,Nat.reduceEqDiff]
 exact hret rfl (by trivial) (D.Le.refl _) (St.sub_upd _ hz)
theorem ZdI (s:WP) (b:Nat) (l:Zh3) (st:St) (hb:st b=some (.map (Jr l))) :
  ZY Tryz.prog Yi.id [.agg s.cells,.map b] st (fun r S=>r = .ret (.tup [QX ((KJ s fun k=>ZS k l).1,(KJ s fun k=>ZS k l).2.1),.int .i64 (KJ s fun k=>ZS k l).2.2])∧S=st):=by
 refine ZP Yi.ok fun F hF=>?_
 have hI:=KJ.eq_1 s fun k=>ZS k l
 refine Za (Zb (Zc ?_))
 simp only [Eqs,reduceCtorEq,reduceIte,Nat.reduceEqDiff,Nat.reduceAdd,Yi.r0,WP.cells]
 refine Za (Zb (Zc ?_))
 simp only [Eqs,reduceIte,Nat.reduceEqDiff,Yi.r1]
 refine Za (Za (Zb (Zc ?_)))
 simp only [Eqs,reduceIte,Nat.reduceEqDiff,Nat.reduceAdd,Nat.reduceLeDiff,Yi.r2]
 refine Z6 rfl rfl rfl rfl rfl (by trivial) (by trivial) (by exact ZiX s b l st hb) ?_ ?_
 ·rintro d S ⟨hd,rfl⟩
  cases hd
  refine Zc ?_
  simp only [Eqs,reduceIte,Nat.reduceEqDiff]
  refine Za (Zb (Zc ?_))
  simp only [Eqs,reduceIte,Nat.reduceEqDiff,Yi.r3]
  refine Zg rfl trivial (fun h1=>?_) (fun h1=>?_)
  ·have h1':¬ ZaP s (fun k=>ZS k l)=0:=by simpa using h1
   rw [if_neg h1'] at hI
   refine Za (Zb (Zc ?_))
   simp only [Eqs,reduceIte,Nat.reduceEqDiff,Nat.reduceAdd,Nat.reduceLeDiff,Yi.r4]
   refine hF.ret _ S rfl (by trivial) (J1 ?_ rfl) (St.sub_refl _) ⟨rfl,rfl⟩
   rw [hI]; rfl
  ·have h1':ZaP s (fun k=>ZS k l)=0:=by simpa using h1
   rw [if_pos h1'] at hI
   refine Zq (Za ?_)
   refine Yp 2 rfl fun x hx=>?_
   simp only [reduceIte,Nat.reduceEqDiff,Yz,Wi,delL]
   refine Yp 3 rfl fun y hy=>?_
   simp only [reduceIte,Nat.reduceEqDiff,Yz,Wi,delL]
   have hbx:b≠x:=fun e=>by rw [e,hx] at hb; simp at hb
   have hy':=YY hy
   have hby:b≠y:=fun e=>by rw [e,hy'.2] at hb; simp at hb
   have hb2:((S.upd x (.cells s.cells)).upd y (.cells [.map b])) b=some (.map (Jr l)):=by rw [St.upd_ne _ _ hby,St.upd_ne _ _ hbx]; exact hb
   have hx2:((S.upd x (.cells s.cells)).upd y (.cells [.map b])) x=some (.cells s.cells):=by rw [St.upd_ne _ _ hy'.1.symm]; exact St.upd_same _ _ _
   refine Zb (Zc ?_)
   simp only [Eqs,reduceIte,Nat.reduceEqDiff,Yi.r5]
   refine Za (Zb (Zc ?_))
   simp only [Eqs,reduceIte,Nat.reduceEqDiff,Yi.r6]
   refine ZaR rfl rfl rfl rfl rfl (by trivial) (by trivial) (by exact (ZcN s l true b x y _ h1' hb2 hx2 (St.upd_same _ _ _)).VT (first:=[]) (args:=[_]) (caps:=[_,_])) (Zc ?_)
   simp only [Eqs,reduceIte,Nat.reduceEqDiff]
   refine ZaR rfl rfl rfl rfl rfl (by trivial) (by trivial) (by exact (ZcN s l false b x y _ h1' hb2 hx2 (St.upd_same _ _ _)).VT (first:=[]) (args:=[_]) (caps:=[_,_])) (Zc ?_)
   simp only [Eqs,reduceIte,Nat.reduceEqDiff,Nat.reduceAdd,Nat.reduceLeDiff]
   refine hF.ret _ S rfl (by first | trivial | simp) (J1 ?_ rfl) (St.sub_trans (St.sub_upd _ hx) (St.sub_upd _ hy)) ⟨rfl,rfl⟩
   rw [hI,ZpR,Zqn]; rfl
 ·rintro d S ⟨hd,_⟩
  cases hd
end Go.DL
namespace Go.Proofs
open Go.Shelf
def Tryz.growT_ren:Go.Shelf.Ren:=⟨fun | 4=>177 | n=>n,fun | 22=>49 | 25=>85 | 3=>3 | 4=>4 | 9=>9 | 20=>20 | 0=>0 | n=>n,fun | n=>n⟩
theorem Tryz.growT:Go.Proofs.Lays8.n4 Tryz.prog Tryz.growT_ren:={
 mixed:=by kernel_rfl
 f4:=⟨Tryz.f177.name,by decide,Tryz.func177.trans (congrArg some (by kernel_rfl))⟩
 t0:=Tryz.underlying0
 a0:=Tryz.isAgg0
 z0:=Tryz.sizeOf0
 v0:=Tryz.zeroValue0
 t3:=Tryz.underlying3
 a3:=Tryz.isAgg3
 z3:=Tryz.sizeOf3
 v3:=Tryz.zeroValue3
 t4:=Tryz.underlying4
 a4:=Tryz.isAgg4
 z4:=Tryz.sizeOf4
 v4:=Tryz.zeroValue4
 t9:=Tryz.underlying9
 a9:=Tryz.isAgg9
 z9:=Tryz.sizeOf9
 v9:=Tryz.zeroValue9
 t20:=Tryz.underlying20
 a20:=Tryz.isAgg20
 z20:=Tryz.sizeOf20
 v20:=Tryz.zeroValue20
 t22:=Tryz.underlying49
 a22:=Tryz.isAgg49
 z22:=Tryz.sizeOf49
 v22:=Tryz.zeroValue49 }
end Go.Proofs
namespace Go.DL
open Go Go.Proofs Go.Lib
theorem Zfx (n:Nat) (hn:n≤1000000) (st:St):ZY Tryz.prog 177 [.nilsl,.int .i64 n] st fun r S=>∃ t:Tok,r = .ret (.sl t 0 2 fun _=>[])∧t.okIn st∧S=st.own t 0:=by
 refine ⟨⟨_,Tryz.func177,by kernel_rfl,by kernel_rfl⟩,fun g w vs hs ha=>?_⟩
 cases ha with
 | cons h1 ha =>
 cases ha with
 | cons h2 ha =>
 cases ha
 cases h1
 cases h2
 by_cases h0:n=0
 ·subst h0
  refine (Any8.slices_Grow_room Tryz.growT none 0 0 0 w (by omega) (by omega) (by omega) (by omega)).mono ?_
  rintro e w' ⟨rfl,rfl⟩
  exact ⟨g,st,.ret (.sl .full 0 2 fun _=>[]),Ext.refl g _,hs,.sl0 _ _ _ _ (by simp),.full,rfl,trivial,rfl⟩
 ·have hz:ZaJ Tryz.prog (Tryz.growT_ren.t 25)=some [.str [],.int .i64 0]:=by kernel_rfl
  have hsz:Ws Tryz.prog (Tryz.growT_ren.t 25)=some 2:=by kernel_rfl
  have hby:Program.bytesOf Tryz.prog (Tryz.growT_ren.t 25)=24:=by kernel_rfl
  obtain ⟨zv,hz1,hz2,hz3,ie,hie,hzz⟩:=Zca (g:=g) (w:=w) hz
  have hsize:ie.size=2:=by simpa [Ws,hie] using hsz
  have hbytes:ie.bytes=24:=by rw [← hby]; simp [Program.bytesOf,hie]
  have hzlen:zv.cells.size=2:=by have:=hz2.len; simpa using this
  refine (Any8.slices_Grow_grow Tryz.growT ie zv hie hzz (by omega) none 0 0 n [] w (by omega) (by omega) (by rw [hbytes]; omega) (by omega) (by simp) (fun _=>rfl) (fun a h=>by simp at h)).mono ?_
  rintro e w' ⟨rfl,rfl⟩
  have hge:=grownCap_ge w (0 + n) 0 (Tryz.growT_ren.t 25)
  have hle:=grownCap_le_maxLen w (0 + n) 0 (Tryz.growT_ren.t 25) (by simp only [maxLen]; omega)
  have hrr:QB g w 2 0 [] (fun _=>[]):=⟨by simp,fun i hi=>by omega,fun i j v d hi=>by omega,by simp⟩
  have hnew:=ZmE (T:=Tryz.growT_ren.t 25) (cap:=grownCap w (0 + n) 0 (Tryz.growT_ren.t 25)) (rest:=(Builtin.zeroCells zv.cells (0 + n - 0)++Builtin.zeroCells zv.cells (grownCap w (0 + n) 0 (Tryz.growT_ren.t 25) - (0 + n))).toList) hs hrr (Nat.zero_le _) (by
   simp only [List.length_nil,Array.toList_append,List.length_append,Array.length_toList,size_zeroCells,hzlen]; omega) (by simp only [maxLen] at hle; simp only [big]; omega)
  have harr:∀ A B:Array Value,(([]:List Value)++(A++B).toList).toArray=([]:List Value).toArray++A++B:=by intro A B; simp
  rw [harr] at hnew
  obtain ⟨a1,a2,a3,a4⟩:=hnew
  refine ⟨_,_,.ret (.sl (.tip w.heap.size) 0 2 fun _=>[]),a1.ext hs.fresh,a2,a4,.tip w.heap.size,rfl,a3,rfl⟩
end Go.DL
namespace Go.DL
open Go Go.Proofs
def ltC (l:List Z5):List D:=[Y4 l]
theorem Zc0 {l:List (List Z5)} {i:Nat} (h:i < l.length):(l.take (i + 1)).flatten=(l.take i).flatten++l.getD i default:=by
 rw [WL h,List.flatten_append]; simp
theorem Zas (l:List (List Z5)) (i:Nat):(l.take i).flatten.length≤l.flatten.length:=by
 conv=>rhs; rw [← List.take_append_drop i l,List.flatten_append,List.length_append]
 omega
theorem ZeI (ls:List (List Z5)) (hls:ls.length≤1000) (hb:ls.flatten.length≤1000000) (st:St):ZY Tryz.prog Zf.id [slD 1 ltC ls] st (fun r S=>r = .ret (Y4 ls.flatten)∧S=st):=by
 refine ZP Zf.ok fun F hF=>?_
 refine Za (Zb (Zc ?_))
 simp only [Eqs,reduceCtorEq,reduceIte,Zf.r0]
 refine Za (Zb (Zc ?_))
 simp only [Eqs,reduceCtorEq,reduceIte,Zf.r1]
 refine Za (Za (Zb (Zc ?_)))
 simp only [Eqs,reduceCtorEq,reduceIte,Nat.reduceEqDiff,Zf.r2,slD]
 refine Zo (YH ?_)
 have key:∀ (n i:Nat),(ls.length) - i=n→i≤ls.length→ZU F [.code (Zf.l0),.inLoop Zf.l0,.inBlock 0,.code (.seq (qR Zf.r9 [0,6]) (.seq (.seq (qR Zf.r10 [6,25,26,27]) (.block 2 (.loop Zf.l1))) (.seq (qR Zf.r15 [2]) .ret)))] [(0,.d (slD 1 ltC ls)),(3,.d (.int .i64 ((ls.take i).flatten.length:Nat))),(9,.d (slD 1 ltC ls)),(10,.d (.int .i64 ls.length)),(11,.d (.int .i64 i))] [] st:=by
  intro n
  induction n using Nat.strongRecOn with
  | ind n ih_key =>
  intro i hn hi
  have hfl:=Zas ls i
  refine Za (Zb (Zc ?_))
  simp only [Eqs,reduceCtorEq,reduceIte,Nat.reduceEqDiff,Zf.r3]
  refine Za (Zg rfl trivial (fun h1=>?_) (fun h1=>?_))
  ·simp at h1
   have hsn:=congrArg List.length (Zc0 h1)
   have hfl2:=Zas ls (i + 1)
   rw [List.length_append] at hsn
   generalize hx:ls.getD i default=x at *
   refine Zq (Za (Zo (Za (Zb (Zc ?_)))))
   simp only [Eqs,reduceCtorEq,reduceIte,Nat.reduceEqDiff,Zf.r4,slD,ltC,hx]
   repeat (refine And.intro (by first | omega | trivial | (intro h0; simp at h0; omega)) ?_)
   refine Za (Zb (Zc ?_))
   simp only [Eqs,reduceCtorEq,reduceIte,Nat.reduceEqDiff,Zf.r5,Y4,slD]
   repeat (refine And.intro (by first | omega | trivial | (intro h0; simp at h0; omega)) ?_)
   refine Za (Zb (Zc ?_))
   simp only [Eqs,reduceCtorEq,reduceIte,Nat.reduceEqDiff,Zf.r6]
   refine Zg rfl trivial (fun h=>by simp at h; omega) (fun _=>?_)
   refine Zq (ZC (Zb (Zc ?_)))
   simp only [Eqs,reduceCtorEq,reduceIte,Nat.reduceEqDiff,Zf.r8]
   repeat (refine And.intro (by first | omega | trivial | (intro h0; simp at h0; omega)) ?_)
   refine Z3 ?_
   have hnext:=ih_key ((ls.length) - (i + 1)) (by omega) (i + 1) rfl (by omega)
   rw [hsn,Int.natCast_add] at hnext
   exact hnext
  ·simp at h1
   obtain rfl:i=ls.length:=by omega
   rw [List.take_length]
   refine Ys rfl (Za (Zb (Zc ?_)))
   simp only [Eqs,reduceCtorEq,reduceIte,Nat.reduceEqDiff,Zf.r9]
   refine Z6 rfl rfl rfl rfl rfl (by trivial) (by trivial) (by exact Zfx ls.flatten.length hb st) ?_ ?_
   ·rintro d S ⟨tk,hd,htk,rfl⟩
    cases hd
    refine Zc ?_
    simp only [Eqs,reduceCtorEq,reduceIte,Nat.reduceEqDiff]
    refine Za (Za (Zb (Zc ?_)))
    simp only [Eqs,reduceCtorEq,reduceIte,Nat.reduceEqDiff,Zf.r10,slD]
    have hrow0:We Z5.cells (fun _=>[]) []:=We.nil
    refine Zo (YH ?_)
    have key2:∀ (n k:Nat),(ls.length) - k=n→∀ tk row out,tk.okIn st→We Z5.cells row out→out=(ls.take k).flatten→k≤ls.length→ZU F [.code (Zf.l1),.inLoop Zf.l1,.inBlock 2,.code (.seq (qR Zf.r15 [2]) .ret)] [(6,.d (.sl tk out.length 2 row)),(25,.d (slD 1 ltC ls)),(26,.d (.int .i64 ls.length)),(27,.d (.int .i64 k))] [] (st.own tk (out.length * 2)):=by
     intro n
     induction n using Nat.strongRecOn with
     | ind n ih_key2 =>
     clear htk
     intro k hnk tk row out htk hrow hout hk
     have hfl:=Zas ls k
     rw [← hout] at hfl
     refine Za (Zb (Zc ?_))
     simp only [Eqs,reduceIte,Nat.reduceEqDiff,Zf.r11,slD]
     refine Za (Zg rfl trivial (fun h2=>?_) (fun h2=>?_))
     ·simp at h2
      have hsn:=Zc0 h2
      have hfl2:=Zas ls (k + 1)
      rw [hsn,List.length_append,← hout] at hfl2
      generalize hx:ls.getD k default=x at *
      refine Zq (Za (Zo (Za (Zb (Zc ?_)))))
      simp only [Eqs,reduceIte,Nat.reduceEqDiff,Zf.r12,ltC,hx]
      repeat (refine And.intro (by first | omega | trivial | (intro h0; simp at h0; omega)) ?_)
      refine Zb (Zc ?_)
      simp only [Eqs,reduceIte,Nat.reduceEqDiff,Zf.r13,Y4,slD]
      refine ZcQ (st) (tk) rfl rfl rfl rfl rfl rfl (by trivial) (by trivial) rfl (by first | trivial | assumption) (by omega) (by (unfold big; omega)) fun t1 ht1=>Zc ?_
      simp only [Eqs,reduceIte,Nat.reduceEqDiff]
      refine ZC (Zb (Zc ?_))
      simp only [Eqs,reduceIte,Nat.reduceEqDiff,Zf.r14]
      repeat (refine And.intro (by first | omega | trivial | (intro h0; simp at h0; omega)) ?_)
      refine Z3 ?_
      have hnext:=ih_key2 ((ls.length) - (k + 1)) (by omega) (k + 1) rfl t1 _ (out++x) ht1 (hrow.app (We.self (l:=x)) rfl) (by rw [hsn,hout]) (by omega)
      rw [List.length_append] at hnext
      exact hnext
     ·simp at h2
      obtain rfl:k=ls.length:=by omega
      rw [List.take_length] at hout
      refine Ys rfl (Za (Zb (Zc ?_)))
      simp only [Eqs,reduceIte,Nat.reduceEqDiff,Zf.r15]
      refine hF.ret _ st rfl (by trivial) (ZaN (hrow.le rfl)) (ZM htk) ⟨by rw [hout]; rfl,rfl⟩
    exact key2 _ 0 rfl tk _ [] htk hrow0 rfl (by omega)
   ·rintro d S ⟨tk,hd,_⟩
    cases hd
 have hk:=key _ 0 rfl (by omega)
 rw [List.take_zero,List.flatten_nil] at hk
 exact hk
end Go.DL
namespace Go.DL
open Go Go.Proofs
theorem ZdK:∀ (x y:List UInt8),Op.bytesLess x y=decide (x < y)
 | [],[]=>by simp [Op.bytesLess]
 | _ :: _,[]=>by simp [Op.bytesLess]
 | [],_ :: _=>by simp [Op.bytesLess]
 | a :: x,b :: y=>by
  rw [Op.bytesLess,ZdK x y]
  rw [Bool.eq_iff_iff]
  simp only [Bool.or_eq_true,Bool.and_eq_true,decide_eq_true_eq,beq_iff_eq,List.cons_lt_cons_iff]
abbrev leS (x y:Str):Bool:=decide (x≤y)
def leT (a b:Z5):Prop:=a.field≤b.field
def Zde (l:List (Str × Int)):List Z5:=((l.map (·.1)).mergeSort leS).map fun k=>⟨k,(ZS k l).getD 0⟩
def Q9 (l:List Z5):List (Str × Int):=l.map fun t=>(t.field,t.factor)
theorem Zkf (l:List Z5) (t:Z5):(Zdt l t).Perm (t :: l):=by
 unfold Zdt
 have:=List.perm_middle (a:=t) (l₁:=l.take (Zb5 t.field l)) (l₂:=l.drop (Zb5 t.field l))
 rwa [List.take_append_drop] at this
theorem Zi4 (l a:List Z5):(l.foldl Zdt a).Perm (l++a):=by
 induction l generalizing a with
 | nil=>exact .refl _
 | cons x r ih =>
  refine (ih (Zdt a x)).trans ?_
  refine ((Zkf a x).append_left r).trans ?_
  exact List.perm_middle
theorem Zda (l:List Z5):(Zcz l).Perm l:=by
 have:=Zi4 l []; rwa [List.append_nil] at this
theorem ZlX {l:List Z5} {t:Z5} (h:l.Pairwise leT):(Zdt l t).Pairwise leT:=by
 unfold Zdt
 induction l with
 | nil=>simp [Zb5]
 | cons x r ih =>
  rw [List.pairwise_cons] at h
  simp only [Zb5]
  split
  ·rename_i hx
   rw [ZdK,decide_eq_true_eq] at hx
   simp only [List.take_succ_cons,List.drop_succ_cons,List.cons_append,List.pairwise_cons]
   refine ⟨fun y hy=>?_,ih h.2⟩
   have:=((Zkf r t).mem_iff (a:=y)).1 hy
   rcases List.mem_cons.1 this with rfl | hy
   ·exact List.le_of_lt hx
   ·exact h.1 y hy
  ·rename_i hx
   rw [ZdK,decide_eq_true_eq,List.not_lt] at hx
   simp only [List.take_zero,List.drop_zero,List.nil_append,List.pairwise_cons]
   refine ⟨fun y hy=>?_,h⟩
   rcases List.mem_cons.1 hy with rfl | hy
   ·exact hx
   ·exact List.le_trans hx (h.1 y hy)
theorem Zhj {l a:List Z5} (h:a.Pairwise leT):(l.foldl Zdt a).Pairwise leT:=by
 induction l generalizing a with
 | nil=>exact h
 | cons x r ih=>exact ih (ZlX h)
theorem ZlJ (l:List Z5):(Zcz l).Pairwise leT:=Zhj .nil
theorem Zfj {l:List Z5} (hn:(l.map (·.field)).Nodup) {t:Z5} (ht:t∈l):ZS t.field (Q9 l)=some t.factor :=
 Zmk (by simpa [Q9,Function.comp_def] using hn) (List.mem_map.2 ⟨t,ht,rfl⟩)
theorem Znk {l:List Z5} (hn:(l.map (·.field)).Nodup):Zde (Q9 l)=Zcz l:=by
 have tr:∀ a b c:Str,leS a b=true→leS b c=true→leS a c=true:=fun a b c h1 h2=>by simp only [leS,decide_eq_true_eq] at *; exact List.le_trans h1 h2
 have to:∀ a b:Str,(leS a b || leS b a)=true:=fun a b=>by simp only [leS,Bool.or_eq_true,decide_eq_true_eq]; exact List.le_total a b
 have hk:(Q9 l).map (·.1)=l.map (·.field):=by simp [Q9,Function.comp_def]
 have hp:=List.mergeSort_perm (l.map (·.field)) leS
 have hs:=List.pairwise_mergeSort tr to (l.map (·.field))
 have hmap:(l.map (·.field)).map (fun k=>(⟨k,(ZS k (Q9 l)).getD 0⟩:Z5))=l:=by
  rw [List.map_map]
  conv=>rhs; rw [← List.map_id l]
  refine List.map_congr_left fun t ht=>?_
  simp only [Function.comp_def,Zfj hn ht,Option.getD_some,id]
 refine List.Perm.eq_of_pairwise (le:=leT) (fun a b ha hb h1 h2=>?_) ?_ (ZlJ l) ?_
 ·have ha':a∈l:=by
   unfold Zde at ha
   rw [hk] at ha
   have:=((hp.map fun k=>(⟨k,(ZS k (Q9 l)).getD 0⟩:Z5)).mem_iff (a:=a)).1 ha
   rwa [hmap] at this
  have hb':b∈l:=((Zda l).mem_iff (a:=b)).1 hb
  have hf:a.field=b.field:=List.le_antisymm h1 h2
  have e1:=Zfj hn ha'
  have e2:=Zfj hn hb'
  rw [hf,e2] at e1
  cases a; cases b; simp at e1 hf; simp [hf,e1]
 ·unfold Zde
  rw [hk]
  refine List.Pairwise.map _ (fun a b h=>?_) hs
  simpa [leT] using h
 ·unfold Zde
  rw [hk]
  refine (hp.map _).trans ?_
  rw [hmap]; exact (Zda l).symm
end Go.DL
namespace Go.Proofs
open Go.RowKit Go.Maps Go.Sort Go.Shelf
def Tryz.keysI_ren:Go.Shelf.Ren:=⟨fun | 7=>179 | 10=>183 | n=>n,fun | 23=>128 | 26=>9 | 3=>3 | 28=>174 | 0=>0 | 27=>173 | 33=>92 | 4=>4 | n=>n,fun | n=>n⟩
theorem Tryz.keysI:Go.Proofs.SlLaysZ.n7 Tryz.prog Tryz.keysI_ren:={
 mixed:=by kernel_rfl
 f7:=⟨Tryz.f179.name,by decide,Tryz.func179.trans (congrArg some (by kernel_rfl))⟩
 f10:=⟨Tryz.f183.name,by decide,Tryz.func183.trans (congrArg some (by kernel_rfl))⟩
 t0:=Tryz.underlying0
 a0:=Tryz.isAgg0
 z0:=Tryz.sizeOf0
 v0:=Tryz.zeroValue0
 t4:=Tryz.underlying4
 a4:=Tryz.isAgg4
 z4:=Tryz.sizeOf4
 v4:=Tryz.zeroValue4
 t23:=Tryz.underlying128
 a23:=Tryz.isAgg128
 z23:=Tryz.sizeOf128
 v23:=Tryz.zeroValue128
 t26:=Tryz.underlying9
 a26:=Tryz.isAgg9
 z26:=Tryz.sizeOf9
 v26:=Tryz.zeroValue9
 t27:=Tryz.underlying173
 a27:=Tryz.isAgg173
 z27:=Tryz.sizeOf173
 v27:=Tryz.zeroValue173
 t28:=Tryz.underlying174
 a28:=Tryz.isAgg174
 z28:=Tryz.sizeOf174
 v28:=Tryz.zeroValue174
 t33:=Tryz.underlying92
 a33:=Tryz.isAgg92
 z33:=Tryz.sizeOf92
 v33:=Tryz.zeroValue92 }
def Tryz.sortedI_ren:Go.Shelf.Ren:=⟨fun | 6=>178 | 8=>181 | 9=>182 | 11=>184 | 13=>186 | 12=>185 | 23=>196 | 24=>197 | 14=>187 | 15=>188 | 16=>189 | 17=>190 | 18=>191 | 19=>192 | 20=>193 | 21=>194 | 22=>195 | 25=>198 | 26=>199 | 27=>200 | 28=>201 | 29=>202 | 30=>203 | 31=>204 | n=>n,fun | 26=>9 | 28=>174 | 24=>96 | 0=>0 | 3=>3 | 37=>241 | 48=>251 | 50=>253 | 4=>4 | 40=>244 | 39=>243 | 45=>110 | 5=>5 | 9=>9 | 51=>254 | 55=>258 | 57=>260 | 58=>159 | 33=>92 | n=>n,fun | n=>n⟩
theorem Tryz.sortedI:Go.Proofs.SlLaysZ.n6 Tryz.prog Tryz.sortedI_ren:={
 mixed:=by kernel_rfl
 f6:=⟨Tryz.f178.name,by decide,Tryz.func178.trans (congrArg some (by kernel_rfl))⟩
 f8:=⟨Tryz.f181.name,by decide,Tryz.func181.trans (congrArg some (by kernel_rfl))⟩
 f11:=⟨Tryz.f184.name,by decide,Tryz.func184.trans (congrArg some (by kernel_rfl))⟩
 t0:=Tryz.underlying0
 a0:=Tryz.isAgg0
 z0:=Tryz.sizeOf0
 v0:=Tryz.zeroValue0
 t24:=Tryz.underlying96
 a24:=Tryz.isAgg96
 z24:=Tryz.sizeOf96
 v24:=Tryz.zeroValue96
 t26:=Tryz.underlying9
 a26:=Tryz.isAgg9
 z26:=Tryz.sizeOf9
 v26:=Tryz.zeroValue9
 t28:=Tryz.underlying174
 a28:=Tryz.isAgg174
 z28:=Tryz.sizeOf174
 v28:=Tryz.zeroValue174
 i26:=by kernel_rfl }
def Tryz.sortI_ren:Go.Shelf.Ren:=⟨fun | 6=>182 | 8=>186 | 9=>185 | 19=>196 | 20=>197 | 21=>187 | 22=>188 | 23=>189 | 24=>190 | 25=>191 | 26=>192 | 27=>193 | 28=>194 | 29=>195 | 36=>198 | 31=>199 | 32=>200 | 37=>201 | 38=>202 | 39=>203 | 41=>204 | n=>n,fun | 27=>96 | 29=>9 | 3=>3 | 32=>241 | 26=>96 | 0=>0 | 44=>251 | 46=>253 | 4=>4 | 36=>244 | 35=>243 | 41=>110 | 5=>5 | 9=>9 | 53=>254 | 57=>258 | 63=>260 | 64=>159 | n=>n,fun | n=>n⟩
theorem Tryz.sortI:Go.Proofs.SlLaysM.n6 Tryz.prog Tryz.sortI_ren:={
 mixed:=by kernel_rfl
 f6:=⟨Tryz.f182.name,by decide,Tryz.func182.trans (congrArg some (by kernel_rfl))⟩
 f8:=Tryz.func186.trans (congrArg some (by kernel_rfl))
 f9:=⟨Tryz.f185.name,by decide,Tryz.func185.trans (congrArg some (by kernel_rfl))⟩
 f19:=Tryz.func196.trans (congrArg some (by kernel_rfl))
 f20:=Tryz.func197.trans (congrArg some (by kernel_rfl))
 f21:=⟨Tryz.f187.name,by decide,Tryz.func187.trans (congrArg some (by kernel_rfl))⟩
 f22:=⟨Tryz.f188.name,by decide,Tryz.func188.trans (congrArg some (by kernel_rfl))⟩
 f23:=⟨Tryz.f189.name,by decide,Tryz.func189.trans (congrArg some (by kernel_rfl))⟩
 f24:=⟨Tryz.f190.name,by decide,Tryz.func190.trans (congrArg some (by kernel_rfl))⟩
 f25:=⟨Tryz.f191.name,by decide,Tryz.func191.trans (congrArg some (by kernel_rfl))⟩
 f26:=⟨Tryz.f192.name,by decide,Tryz.func192.trans (congrArg some (by kernel_rfl))⟩
 f27:=⟨Tryz.f193.name,by decide,Tryz.func193.trans (congrArg some (by kernel_rfl))⟩
 f28:=⟨Tryz.f194.name,by decide,Tryz.func194.trans (congrArg some (by kernel_rfl))⟩
 f29:=⟨Tryz.f195.name,by decide,Tryz.func195.trans (congrArg some (by kernel_rfl))⟩
 f31:=Tryz.func199.trans (congrArg some (by kernel_rfl))
 f32:=Tryz.func200.trans (congrArg some (by kernel_rfl))
 f36:=⟨Tryz.f198.name,by decide,Tryz.func198.trans (congrArg some (by kernel_rfl))⟩
 f37:=⟨Tryz.f201.name,by decide,Tryz.func201.trans (congrArg some (by kernel_rfl))⟩
 f38:=⟨Tryz.f202.name,by decide,Tryz.func202.trans (congrArg some (by kernel_rfl))⟩
 f39:=⟨Tryz.f203.name,by decide,Tryz.func203.trans (congrArg some (by kernel_rfl))⟩
 f41:=⟨Tryz.f204.name,by decide,Tryz.func204.trans (congrArg some (by kernel_rfl))⟩
 t0:=Tryz.underlying0
 a0:=Tryz.isAgg0
 z0:=Tryz.sizeOf0
 v0:=Tryz.zeroValue0
 t3:=Tryz.underlying3
 a3:=Tryz.isAgg3
 z3:=Tryz.sizeOf3
 v3:=Tryz.zeroValue3
 t4:=Tryz.underlying4
 a4:=Tryz.isAgg4
 z4:=Tryz.sizeOf4
 v4:=Tryz.zeroValue4
 t5:=Tryz.underlying5
 a5:=Tryz.isAgg5
 z5:=Tryz.sizeOf5
 v5:=Tryz.zeroValue5
 t9:=Tryz.underlying9
 a9:=Tryz.isAgg9
 z9:=Tryz.sizeOf9
 v9:=Tryz.zeroValue9
 t26:=Tryz.underlying96
 a26:=Tryz.isAgg96
 z26:=Tryz.sizeOf96
 v26:=Tryz.zeroValue96
 t27:=Tryz.underlying96
 a27:=Tryz.isAgg96
 z27:=Tryz.sizeOf96
 v27:=Tryz.zeroValue96
 t29:=Tryz.underlying9
 a29:=Tryz.isAgg9
 z29:=Tryz.sizeOf9
 v29:=Tryz.zeroValue9
 t32:=Tryz.underlying241
 a32:=Tryz.isAgg241
 z32:=Tryz.sizeOf241
 v32:=Tryz.zeroValue241
 t35:=Tryz.underlying243
 a35:=Tryz.isAgg243
 z35:=Tryz.sizeOf243
 v35:=Tryz.zeroValue243
 t36:=Tryz.underlying244
 a36:=Tryz.isAgg244
 z36:=Tryz.sizeOf244
 v36:=Tryz.zeroValue244
 t41:=Tryz.underlying110
 a41:=Tryz.isAgg110
 z41:=Tryz.sizeOf110
 v41:=Tryz.zeroValue110
 t44:=Tryz.underlying251
 a44:=Tryz.isAgg251
 z44:=Tryz.sizeOf251
 v44:=Tryz.zeroValue251
 t46:=Tryz.underlying253
 a46:=Tryz.isAgg253
 z46:=Tryz.sizeOf253
 v46:=Tryz.zeroValue253
 t53:=Tryz.underlying254
 a53:=Tryz.isAgg254
 z53:=Tryz.sizeOf254
 v53:=Tryz.zeroValue254
 t57:=Tryz.underlying258
 a57:=Tryz.isAgg258
 z57:=Tryz.sizeOf258
 v57:=Tryz.zeroValue258
 t63:=Tryz.underlying260
 a63:=Tryz.isAgg260
 z63:=Tryz.sizeOf260
 v63:=Tryz.zeroValue260
 t64:=Tryz.underlying159
 a64:=Tryz.isAgg159
 z64:=Tryz.sizeOf159
 v64:=Tryz.zeroValue159 }
theorem Tryz.sortsI (m:Nat):AnyZ.SortsIn Tryz.prog Tryz.sortedI_ren Fence.wide m :=
  ⟨fun blk off cap ss W hH hblk hsz=>callsIn_wide.2 (AnyM.slices_Sort_string Tryz.sortI blk off cap ss W hH hblk hsz),
   fun p cap W=>callsIn_wide.2 (AnyM.slices_Sort_string_none Tryz.sortI p cap W)⟩
end Go.Proofs
namespace Go.DL
open Go Go.Proofs
theorem Zh6 (b:Nat) (st:St):ZY Tryz.prog 179 [.map b] st fun r S=>∃ x,st x=none∧r = .ret (.fn (.func 183) [] [.ptr x 0])∧S=st.upd x (.cells [.map b]):=by
 refine ⟨⟨_,Tryz.func179,by kernel_rfl,by kernel_rfl⟩,fun g w vs hs ha=>?_⟩
 cases ha with
 | cons h1 ha =>
 cases ha
 cases h1
 refine (callsIn_wide.1 (AnyZ.keys_in Tryz.keysI Fence.wide 5 trivial rfl (some b) w)).mono ?_
 rintro e w' ⟨rfl,rfl⟩
 have hgr:=fun T=>Zcc (g:=g) (w:=w) (.cells #[.map (some b)] T) hs.fresh
 have hn:st w.heap.size=none:=by
  cases h:st w.heap.size with
  | none=>rfl
  | some o=>exact absurd (hs.obj _ o h).lt (Nat.lt_irrefl _)
 have hf:=hs.fresh w.heap.size (Nat.le_refl _)
 refine ⟨g,st.upd w.heap.size (.cells [.map b]),.ret (.fn (.func 183) [] [.ptr w.heap.size 0]),(hgr _).ext hs.fresh,(hs.grow (hgr _)).updL ⟨hf.1,#[.map (some b)],_,ZaC w _,rfl,?_,?_⟩ hf.2,?_,w.heap.size,hn,rfl,rfl⟩
 ·intro i v d hv hd
  match i,hv,hd with
  | 0,hv,hd =>
   simp at hv hd
   subst hv; subst hd
   exact .map b
  | i + 1,hv,hd=>simp at hd
 ·intro v hv
  simp at hv; subst hv; rfl
 ·refine .fn (.func 183) [] [.pointer (some ⟨w.heap.size,0,none⟩)] [] [.ptr w.heap.size 0] rfl rfl (by simp) ?_
  intro i v d hv hd
  match i,hv,hd with
  | 0,hv,hd =>
   simp at hv hd
   subst hv; subst hd
   exact .ptr _ _
  | i + 1,hv,hd=>simp at hd
def Zlb (_:Value):Option (DataW Unit × List MemPlace):=some (.nil,[])
theorem ZoT {g:G} {w:World} {b:Nat} {l:List (Str × Int)} (h:Qr g w b (.map (QF QY QZ l))) (hn:(l.map (·.1)).Nodup) (hl:l.length≤1000) {k:TypeId} (hk:Program.underlying Tryz.prog k=some .string) :
  ∃ D0:DataW Unit,w.ownsMap Tryz.prog k Zlb b l.length D0∧Maps.size D0=l.length∧(strKeys D0).Perm (l.map (·.1))∧∀ s∈l.map (·.1),s.length≤big:=by
 obtain ⟨hp0,en,clock,hh,hsz,hkey,_,hb1,hb2⟩:=h
 have hsz':en.size=l.length:=by simpa [QF] using hsz
 have hkk:∀ i (hi:i < l.length),∃ s:ByteArray,(en[i]'(by omega)).key = .string s∧s.data.toList=(l[i]).1∧(l[i]).1.length≤big:=fun i hi=>by
  have:=hkey i (en[i]'(by omega)) (QY l[i].1,QZ l[i].2) (by simp [hsz',hi]) (by simp [QF,hi])
  simp only [QY] at this
  generalize (en[i]'(by omega)).key=v at this
  cases this with
  | str s _ h1 h2=>exact ⟨s,rfl,h1,h2⟩
 have hkeys:en.toList.map (·.key)=l.map fun e=>encStr e.1:=by
  apply List.ext_getElem
  ·simp [hsz']
  ·intro i h1 h2
   simp at h1 h2
   obtain ⟨s,e1,e2,_⟩:=hkk i h2
   simp only [List.getElem_map,Array.getElem_toList,e1,encStr,← e2]
 have hrd:∀ i (hi:i < l.length),WideElems.rd Tryz.prog k Zlb (en[i]'(by omega))=some (.string (l[i]).1,.nil):=fun i hi=>by
  obtain ⟨s,e1,e2,e3⟩:=hkk i hi
  unfold WideElems.rd keyOf mapKey Zlb
  have hms:s.size≤maxLen:=by
   have:s.size=s.data.toList.length:=by rw [Array.length_toList]; rfl
   rw [this,e2]; exact e3
  simp [hk,e1,hms,e2]
 have hrg:en.toList.map (WideElems.rg Tryz.prog k Zlb)=l.map fun e=>((.string e.1,.nil):Lit × DataW Unit):=by
  apply List.ext_getElem
  ·simp [hsz']
  ·intro i h1 h2
   simp at h1 h2
   simp only [List.getElem_map,Array.getElem_toList,WideElems.rg,hrd i h2,Option.getD_some]
 have hfit:WideElems.Fit Tryz.prog k Zlb en clock:=by
  refine ⟨by simp only [maxLen]; omega,⟨fun e he=>?_,?_,?_⟩,fun e he=>?_⟩
  ·obtain ⟨i,hi,rfl⟩:=List.getElem_of_mem he
   exact hb2 i _ (by simp at hi; simp [hi])
  ·refine List.pairwise_map.2 (List.pairwise_iff_getElem.2 fun i j hi hj hij e=>?_)
   have:=hb1 i j _ _ (by simp at hi; simp [hi]) (by simp at hj; simp [hj]) e
   omega
  ·rw [hkeys]
   have h0:((l.map (·.1)).map encStr).Nodup:=List.pairwise_map.2 (hn.imp fun hne e=>hne (by simpa [encStr] using e))
   simpa [Function.comp_def] using h0
  ·obtain ⟨i,hi,rfl⟩:=List.getElem_of_mem he
   simp at hi
   exact ⟨_,by rw [Array.getElem_toList]; exact hrd i (by omega)⟩
 refine ⟨_,⟨en,clock,hh,hfit,by omega,rfl⟩,?_,?_,fun s hs=>?_⟩
 ·show (List.foldr DataW.insert [] _).length=_
  rw [(WideShapes.sorted_perm _).length_eq]; simp [hsz']
 ·show (List.map (fun p=>strOf p.1) (List.foldr DataW.insert [] _)).Perm _
  refine ((WideShapes.sorted_perm _).map _).trans ?_
  rw [hrg,List.map_map]
  exact .of_eq (List.map_congr_left fun e _=>rfl)
 ·obtain ⟨e,he,rfl⟩:=List.mem_map.1 hs
  obtain ⟨i,hi,rfl⟩:=List.getElem_of_mem he
  obtain ⟨_,_,_,h⟩:=hkk i hi
  exact h
theorem ZdR (b x:Nat) (l:List (Str × Int)) (hn:(l.map (·.1)).Nodup) (hl:l.length≤1000) (st:St) (hb:st b=some (.map (QF QY QZ l))) (hx:st x=some (.cells [.map b])) :
  ZY Tryz.prog 178 [.fn (.func 183) [] [.ptr x 0]] st fun r S=>r = .ret (slD 1 Qg ((l.map (·.1)).mergeSort leS))∧S=st:=by
 refine ⟨⟨_,Tryz.func178,by kernel_rfl,by kernel_rfl⟩,fun g w vs hs ha=>?_⟩
 cases ha with
 | cons h1 ha =>
 cases ha
 cases h1 with
 | fn _ fs cs' _ _ hn1 hn2 hf hc =>
 obtain rfl:fs=[]:=by simpa using hn1
 have hcs:cs'=[.pointer (some ⟨x,0,none⟩)]:=by
  match cs',hn2 with
  | [c],_ =>
   have:=hc 0 c (.ptr x 0) rfl rfl
   cases this; rfl
 subst hcs
 obtain ⟨D0,hown,hsize,hperm,hlen⟩:=ZoT (hs.obj b _ hb) hn hl (k:=Tryz.keysI_ren.t 26) (by kernel_rfl)
 obtain ⟨hp0,cur,T,h1,h2,h3,h4⟩:=hs.obj x _ hx
 have hcur:cur[0]? = some (.map (some b)):=by
  have h0:0 < cur.size:=by rw [h2]; simp
  have:=h3 0 cur[0] (.map b) (by simp [h0]) rfl
  rw [Array.getElem?_eq_getElem h0]
  generalize cur[0]=v at this
  cases this; rfl
 have hm:w.cell? ⟨x,0,none⟩=some (.map (some b)):=by rw [Zbo h1]; exact hcur
 have hxl:=(hs.obj x _ hx).lt
 have hseq:SeqGives Fence.wide 2 Tryz.prog 183 #[.pointer (some ⟨x,0,none⟩)] encStr (fun ss=>ss.Perm (strKeys D0)) (Maps.size D0) w :=
  AnyZ.keys_gives (ρ:=Tryz.keysI_ren) { Tryz.keysI with } Fence.wide _ trivial rfl (by omega) x b l.length D0 w hxl hm hown
 refine (callsIn_wide.1 (AnyZ.sorted_in Tryz.sortedI Fence.wide 5 trivial trivial trivial trivial rfl (by omega) (Tryz.sortsI _) (enters_of Tryz.func182 (by kernel_rfl) rfl) 183 #[.pointer (some ⟨x,0,none⟩)] trivial (enters_of Tryz.func183 (by kernel_rfl) rfl) _ (Maps.size D0) (by rw [hsize]; simp only [maxLen]; omega) (by rw [hsize]; omega) w hseq)).mono ?_
 rintro e w' ⟨v,ss,rfl,hS,hrow,_,hbel⟩
 have hss:ss.mergeSort (fun x y=>decide (x≤y))=(l.map (·.1)).mergeSort leS:=mergeSort_of_perm (hS.trans hperm)
 rw [hss] at hrow
 have hsl:ss.length=((l.map (·.1)).mergeSort leS).length:=by rw [List.length_mergeSort,(hS.trans hperm).length_eq]
 have hkl:∀ s∈(l.map (·.1)).mergeSort leS,s.length≤big:=fun s hs=>hlen s ((List.mergeSort_perm _ leS).mem_iff.1 hs)
 have hkn:((l.map (·.1)).mergeSort leS).length≤1000:=by rw [List.length_mergeSort]; simpa using hl
 rw [hsl] at hrow
 generalize (l.map (·.1)).mergeSort leS=ks at *
 obtain ⟨hx1,hrow⟩:=hrow
 rcases hrow with ⟨rfl,hz⟩ | ⟨gb,cap,cu,rfl,hge,hgb,hcap,hmax,hcsz,htk⟩
 ·have hg:Zay g w g w':=⟨hbel.size,fun c hc=>hbel.block c hc,fun _ _=>rfl,fun c hc=>(hs.fresh c (Nat.le_trans hbel.size hc)).1,rfl,hbel.os,hbel.output,hbel.tape⟩
  have hks:ks=[]:=List.eq_nil_of_length_eq_zero hz
  subst hks
  exact ⟨g,st,.ret (slD 1 Qg []),hg.ext hs.fresh,hs.grow hg,.sl0 _ _ _ _ (by simp),rfl,rfl⟩
 ·have hgl:gb < w'.heap.size:=(Array.getElem?_eq_some_iff.1 hgb).1
  have hg:Zay g w (J0 g gb (ks.length * 1)) w':=⟨hbel.size,fun c hc=>hbel.block c hc,fun c hc=>by simp only [J0,show ¬ c=gb by omega,if_false],fun c hc=>by simp only [J0,show ¬ c=gb by omega,if_false]; exact (hs.fresh c (Nat.le_trans hbel.size hc)).1,rfl,hbel.os,hbel.output,hbel.tape⟩
  have hrr:QB (J0 g gb (ks.length * 1)) w' 1 ks.length (ks.map encStr) (fun i=>Qg (ks.getD i default)):=by
   refine ⟨by simp,fun i hi=>rfl,fun i j v d hi hj hv hd=>?_,fun v hv=>?_⟩
   ·obtain rfl:j=0:=by omega
    simp only [Nat.mul_one,Nat.add_zero,List.getElem?_map,Option.map_eq_some_iff] at hv
    obtain ⟨s,hs1,rfl⟩:=hv
    have hsd:ks.getD i default=s:=by simp [List.getD,hs1]
    rw [hsd] at hd
    simp only [Qg,List.getElem?_cons_zero,Option.some.injEq] at hd
    subst hd
    exact .str _ _ (by simp [encStr]) (hkl s (List.mem_of_getElem? hs1))
   ·obtain ⟨s,_,rfl⟩:=List.mem_map.1 hv
    rfl
  have hrep:=ZeX hrr hgb (by rw [htk]) hcap (by rw [hcsz]; exact Nat.le_refl _) (by simp [J0]) (by simp only [maxLen] at hmax; simp only [big]; omega)
  exact ⟨J0 g gb (ks.length * 1),st,.ret (slD 1 Qg ks),hg.ext hs.fresh,hs.grow hg,ZgW _ _ _ hrep,rfl,rfl⟩
end Go.DL
