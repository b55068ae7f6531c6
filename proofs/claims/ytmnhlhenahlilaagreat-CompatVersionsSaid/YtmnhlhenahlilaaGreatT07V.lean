/- The law CompatVersions of this program is proved: at any arguments the program's function CompatVersions ends and answers true. No condition beyond the statement's own. -/
import Derived.Test.YtmnhlhenahlilaaGreatT06
import Derived.Test.YtmnhlhenahlilaaGreatRows
set_option maxHeartbeats 16000000
set_option linter.all false
open And renaming intro → Zut
open Go.DL.D.Le renaming refl → Zux
open Go.DL.Dfn renaming cells → ZuM
open Go.DL.St renaming sub_refl → Zuw, sub_upd → Zuy
open Go.Proofs.Tryz renaming prog → Zuv
open List renaming take_length → ZuH
open Nat renaming reduceAdd → Zur, reduceEqDiff → Zuq, reduceLeDiff → Zus
namespace Go.DL
open Go Go.Proofs
def ZsG.r0:=[qb 2 false]
def ZsG.r1:=[qm 12 0,qk 13 .lenL 12,qe 14 .gtr 13 4]
def ZsG.r2:=[qf 15 8 [],qm 2 15]
def ZsG.r3:=[qb 3 true]
def ZsG.r4:=[qi 4 0]
def ZsG.r5:=[qm 16 4,qm 17 0,qk 18 .lenL 17,qd 19 .lss 16 18]
def ZsG.r7:=[qm 22 0,qm 23 4,qX 24 3 22 23,qL 25 3 24,qf 26 7 [.tmp 25]]
def ZsG.r8:=[qf 27 8 [],qm 2 27]
def ZsG.r9:=[qm 28 3,qm 29 28,qy 29 (qm 30 0),qy 29 (qm 31 4),qy 29 (qX 32 3 30 31),qy 29 (qL 33 3 32),qy 29 (qf 34 12 [.tmp 33]),qO 35 29 34,qm 3 35]
def ZsG.r6:=[qm 20 4,qe 21 .add 20 1,qm 4 21]
def ZsG.l0:DC:=.seq (.seq (qR ZsG.r5 [0,3,4,19]) (qC 19 .skip (.exit 0))) (.seq (.block 1 (.seq (.seq (qR ZsG.r7 [0,3,4,26]) (qC 26 (.seq (qR ZsG.r8 [2]) .ret) .skip)) (qR ZsG.r9 [0,3,4]))) (qR ZsG.r6 [0,3,4]))
def ZsG.r10:=[qm 37 0,qf 38 17 [.tmp 37],qm 36 38,qx 39 0 36,qx 40 1 36,qm 5 39,qm 6 40]
def ZsG.r11:=[qm 42 0,qf 43 18 [.tmp 42],qm 41 43,qx 44 0 41,qx 45 1 41,qm 7 44,qm 8 45]
def ZsG.r12:=[qm 46 3,qk 47 .not 46]
def ZsG.r13:=[qm 48 5,qk 49 .lenL 48,qm 50 7,qd 51 .add 49 50,qe 52 .eql 51 0,qm 53 52,qy 53 (qm 54 6),qy 53 (qe 55 .eql 54 2),qO 56 53 55,qm 57 56,qy 57 (qm 58 8),qy 57 (qe 59 .eql 58 2),qO 60 57 59,qm 61 60,qy 61 (qf 62 8 []),qO 63 61 62,qm 2 63]
def ZsG.r14:=[qm 64 6,qf 65 14 [.tmp 64],qe 66 .neq 65 0,qm 67 66,qn 67 (qm 68 5),qn 67 (qk 69 .lenL 68),qn 67 (qm 70 0),qn 67 (qk 71 .lenL 70),qn 67 (qd 72 .neq 69 71),qo 73 67 72]
def ZsG.r15:=[qb 2 false]
def ZsG.r16:=[qi 9 0]
def ZsG.r17:=[qm 74 9,qm 75 0,qk 76 .lenL 75,qd 77 .lss 74 76]
def ZsG.r19:=[qm 80 5,qm 81 9,qX 82 1 80 81,ql 83 82,qk 84 .lenL 83,qm 85 0,qk 86 .lenL 85,qd 87 .neq 84 86]
def ZsG.r20:=[qb 2 false]
def ZsG.r21:=[qi 10 0]
def ZsG.r22:=[qm 88 10,qm 89 0,qk 90 .lenL 89,qd 91 .lss 88 90]
def ZsG.r24:List (DOp × Bool):=[(qm 94 5,false),(qm 95 9,false),(qX 96 1 94 95,false),(ql 97 96,false),(qm 98 10,false),(qX 99 1 97 98,false),(ql 100 99,false),(qm 101 0,false),(qm 102 9,false),(qX 103 3 101 102,false),(qL 104 3 103,false),(qm 105 0,false),(qm 106 10,false),(qX 107 3 105 106,false),(qL 108 3 107,false),(qf 109 13 [.tmp 104,.tmp 108],true),(qk 110 .lenL 109,false),(qe 111 .eql 110 0,false),(⟨some 112,none,.q (.bin .neq (some .bool)) [.tmp 100,.tmp 111]⟩,false)]
def ZsG.r25:=[qb 2 false]
def ZsG.r23:=[qm 92 10,qe 93 .add 92 1,qm 10 93]
def ZsG.l2:DC:=.seq (.seq (qR ZsG.r22 [0,5,7,8,9,10,91]) (qC 91 .skip (.exit 4))) (.seq (.block 5 (.seq (.regD [0,1,2,3,4,5,6,7,8,9,10,11,12,13,14,15,16,17,18] ZsG.r24 (some [0,5,7,8,9,10,112])) (qC 112 (.seq (qR ZsG.r25 [2]) .ret) .skip))) (qR ZsG.r23 [0,5,7,8,9,10]))
def ZsG.r18:=[qm 78 9,qe 79 .add 78 1,qm 9 79]
def ZsG.l1:DC:=.seq (.seq (qR ZsG.r17 [0,5,7,8,9,77]) (qC 77 .skip (.exit 2))) (.seq (.block 3 (.seq (.seq (qR ZsG.r19 [0,5,7,8,9,87]) (qC 87 (.seq (qR ZsG.r20 [2]) .ret) .skip)) (.seq (qR ZsG.r21 [0,5,7,8,9,10]) (.block 4 (.loop ZsG.l2))))) (qR ZsG.r18 [0,5,7,8,9]))
def ZsG.r26:=[qm 113 0,qf 114 19 [.tmp 113],qm 11 114]
def ZsG.r27:=[qm 115 11,qe 116 .lss 115 0,qm 117 116,qy 117 (qm 118 7),qy 117 (qe 119 .eql 118 0),qO 120 117 119,qm 121 120,qy 121 (qm 122 8),qy 121 (qe 123 .eql 122 9),qO 124 121 123,qm 125 124,qn 125 (qm 126 11),qn 125 (qe 127 .geq 126 0),qn 125 (qm 128 127),qy 128 (qm 129 7),qy 128 (qm 130 11),qy 128 (qd 131 .eql 129 130),qn 125 (qO 132 128 131),qn 125 (qm 133 132),qy 133 (qm 134 8),qy 133 (qf 135 14 [.tmp 134]),qy 133 (qe 136 .eql 135 0),qn 125 (qO 137 133 136),qo 138 125 137,qm 139 138,qy 139 (qf 140 8 []),qO 141 139 140,qm 2 141]
abbrev ZsG.id:Nat:=5
def ZsG.an:Ann:=[(0,[0]),(1,[0,14]),(2,[2]),(3,[0,3]),(4,[0,3,4]),(5,[0,3,4,19]),(6,[0,3,4]),(7,[0,3,4,26]),(8,[2]),(9,[0,3,4]),(10,[0,3,5,6]),(11,[0,3,5,6,7,8]),(12,[0,5,6,7,8,47]),(13,[2]),(14,[0,5,7,8,73]),(15,[2]),(16,[0,5,7,8,9]),(17,[0,5,7,8,9,77]),(18,[0,5,7,8,9]),(19,[0,5,7,8,9,87]),(20,[2]),(21,[0,5,7,8,9,10]),(22,[0,5,7,8,9,10,91]),(23,[0,5,7,8,9,10]),(24,[0,5,7,8,9,10,112]),(25,[2]),(26,[7,8,11]),(27,[2]),(1000024,[0,1,2,3,4,5,6,7,8,9,10,11,12,13,14,15,16,17,18]),(2000024,[15])]
def ZsG.body:DC:=.seq (qR ZsG.r0 [0]) (.seq (.seq (qR ZsG.r1 [0,14]) (qC 14 (.seq (qR ZsG.r2 [2]) .ret) .skip)) (.seq (qR ZsG.r3 [0,3]) (.seq (.seq (qR ZsG.r4 [0,3,4]) (.block 0 (.loop ZsG.l0))) (.seq (qR ZsG.r10 [0,3,5,6]) (.seq (qR ZsG.r11 [0,3,5,6,7,8]) (.seq (.seq (qR ZsG.r12 [0,5,6,7,8,47]) (qC 47 (.seq (qR ZsG.r13 [2]) .ret) .skip)) (.seq (.seq (qR ZsG.r14 [0,5,7,8,73]) (qC 73 (.seq (qR ZsG.r15 [2]) .ret) .skip)) (.seq (.seq (qR ZsG.r16 [0,5,7,8,9]) (.block 2 (.loop ZsG.l1))) (.seq (qR ZsG.r26 [7,8,11]) (.seq (qR ZsG.r27 [2]) .ret))))))))))
def ZsG.df:DF:=⟨142,[.tmp 2],ZsG.body⟩
theorem ZsG.ok:cf Zuv ZsG.an ZsG.id=some ZsG.df:=by kernel_rfl
def ZsH.r0:=[qi 2 0]
def ZsH.r1:=[qi 3 (-1)]
def ZsH.r2:=[qi 4 0]
def ZsH.r3:=[qm 7 4,qm 8 0,qk 9 .lenL 8,qd 10 .lss 7 9]
def ZsH.r5:=[qb 5 true]
def ZsH.r6:=[qi 6 0]
def ZsH.r7:=[qm 13 6,qm 14 0,qk 15 .lenL 14,qd 16 .lss 13 15]
def ZsH.r9:=[qm 19 5,qm 20 19,qy 20 (qm 21 0),qy 20 (qm 22 6),qy 20 (qX 23 3 21 22),qy 20 (qL 24 3 23),qy 20 (qm 25 0),qy 20 (qm 26 4),qy 20 (qX 27 3 25 26),qy 20 (qL 28 3 27),qy 20 (qf 29 13 [.tmp 24,.tmp 28]),qy 20 (qk 30 .lenL 29),qy 20 (qe 31 .eql 30 0),qO 32 20 31,qm 5 32]
def ZsH.r8:=[qm 17 6,qe 18 .add 17 1,qm 6 18]
def ZsH.l1:DC:=.seq (.seq (qR ZsH.r7 [0,3,4,5,6,16]) (qC 16 .skip (.exit 2))) (.seq (.block 3 (.regD [0,1,2,3,4,5,6,7,8,9,10,11,12,13,14] (Jb ZsH.r9) (some [0,3,4,5,6]))) (qR ZsH.r8 [0,3,4,5,6]))
def ZsH.r10:=[qm 33 5]
def ZsH.r11:=[qm 34 4,qm 3 34]
def ZsH.r4:=[qm 11 4,qe 12 .add 11 1,qm 4 12]
def ZsH.l0:DC:=.seq (.seq (qR ZsH.r3 [0,3,4,10]) (qC 10 .skip (.exit 0))) (.seq (.block 1 (.seq (qR ZsH.r5 [0,3,4,5]) (.seq (.seq (qR ZsH.r6 [0,3,4,5,6]) (.block 2 (.loop ZsH.l1))) (.seq (qR ZsH.r10 [0,3,4,33]) (qC 33 (qR ZsH.r11 [0,3,4]) .skip))))) (qR ZsH.r4 [0,3,4]))
def ZsH.r12:=[qm 35 3,qm 2 35]
abbrev ZsH.id:Nat:=19
def ZsH.an:Ann:=[(0,[0]),(1,[0,3]),(2,[0,3,4]),(3,[0,3,4,10]),(4,[0,3,4]),(5,[0,3,4,5]),(6,[0,3,4,5,6]),(7,[0,3,4,5,6,16]),(8,[0,3,4,5,6]),(9,[0,3,4,5,6]),(10,[0,3,4,33]),(11,[0,3,4]),(12,[2]),(1000009,[0,1,2,3,4,5,6,7,8,9,10,11,12,13,14])]
def ZsH.body:DC:=.seq (qR ZsH.r0 [0]) (.seq (qR ZsH.r1 [0,3]) (.seq (.seq (qR ZsH.r2 [0,3,4]) (.block 0 (.loop ZsH.l0))) (.seq (qR ZsH.r12 [2]) .ret)))
def ZsH.df:DF:=⟨36,[.tmp 2],ZsH.body⟩
theorem ZsH.ok:cf Zuv ZsH.an ZsH.id=some ZsH.df:=by kernel_rfl
end Go.DL
namespace Go.DL
open Go Go.Proofs
theorem ZsK (l:List Dfn) (hl:∀ d∈l,QB d):ZR Zuv ZsH.id [Zbq l] (.int .i64 (ZbL l l.length)):=by
 refine WD ZsH.ok fun hwf F st hret=>?_
 have hw:=(QD (α:=Dfn) (n:=3) (f:=ZuM) (l:=l) (hwf (Zbq l) (by simp))).1
 unfold big at hw
 clear hwf
 refine Za (Zb (Zc ?_))
 simp only [Eqs,reduceCtorEq,reduceIte,ZsH.r0,Zbq,slD]
 refine Za (Zb (Zc ?_))
 simp only [Eqs,reduceCtorEq,reduceIte,ZsH.r1]
 refine Za (Za (Zb (Zc ?_)))
 simp only [Eqs,reduceCtorEq,reduceIte,Zuq,ZsH.r2]
 refine Zj (ZX ?_)
 have key:∀ (n i:Nat),(l.length)-i=n→i≤l.length→ZT F [.code (ZsH.l0),.inLoop ZsH.l0,.inBlock 0,.code (.seq (qR ZsH.r12 [2]) .ret)] [(0,.d (Zbq l)),(3,.d (.int .i64 (ZbL l i))),(4,.d (.int .i64 i))] [] st:=by
  intro n
  induction n using Nat.strongRecOn with
  | ind n ih_key =>
  intro i hn hi
  refine Za (Za (Zb (Zc ?_)))
  simp only [Eqs,reduceCtorEq,reduceIte,Zuq,ZsH.r3,Zbq,slD]
  refine Ze rfl trivial (fun h1=>?_) (fun h1=>?_)
  ·simp at h1
   refine Zg (Za (Zj (Za (Zb (Zc ?_)))))
   simp only [Eqs,reduceCtorEq,reduceIte,Zuq,ZsH.r5]
   refine Za (Za (Zb (Zc ?_)))
   simp only [Eqs,reduceCtorEq,reduceIte,Zuq,ZsH.r6]
   refine Zj (ZX ?_)
   have key2:∀ (n k:Nat),(l.length)-k=n→k≤l.length→ZT F [.code (ZsH.l1),.inLoop ZsH.l1,.inBlock 2,.code (.seq (qR ZsH.r10 [0,3,4,33]) (qC 33 (qR ZsH.r11 [0,3,4]) .skip)),.inBlock 1,.code (qR ZsH.r4 [0,3,4]),.inLoop ZsH.l0,.inBlock 0,.code (.seq (qR ZsH.r12 [2]) .ret)] [(0,.d (Zbq l)),(3,.d (.int .i64 (ZbL l i))),(4,.d (.int .i64 i)),(5,.d (.bool ((l.take k).all fun w=>decide (((KZ w (l.getD i default)).length:Int)=0)))),(6,.d (.int .i64 k))] [] st:=by
    intro n
    induction n using Nat.strongRecOn with
    | ind n ih_key2 =>
    intro k hnk hk
    refine Za (Za (Zb (Zc ?_)))
    simp only [Eqs,reduceCtorEq,reduceIte,Zuq,ZsH.r7,Zbq,slD]
    refine Ze rfl trivial (fun h2=>?_) (fun h2=>?_)
    ·simp at h2
     have hsn:=Zdd (p:=fun w=>decide (((KZ w (l.getD i default)).length:Int)=0)) h2
     have hvk:=hl _ (Ki h2)
     have hvi:=hl _ (Ki h1)
     refine Zg (Za (Zj (WB (Wj ?_))))
     simp only [Eqs,reduceCtorEq,reduceIte,Zuq,Zur,Zus,ZsH.r9,ZuM]
     repeat (refine Zut (by first | omega | trivial | (intro h0;simp at h0;omega)) ?_)
     refine Zna rfl rfl rfl rfl rfl (fun hcg=>⟨by first | trivial | (simpa [Qu] using hcg),trivial,Zsw _ _ hvk hvi⟩) (Wj ?_)
     simp only [Eqs,reduceCtorEq,reduceIte,Zuq,Q6,slD]
     refine Zm (Zb (Zc ?_))
     simp only [Eqs,reduceCtorEq,reduceIte,Zuq,ZsH.r8]
     repeat (refine Zut (by first | omega | trivial | (intro h0;simp at h0;omega)) ?_)
     refine Zy ?_
     have hnext:=ih_key2 ((l.length)-(k+1)) (by omega) (k+1) rfl (by omega)
     rw [hsn] at hnext
     exact hnext
    ·simp at h2
     obtain rfl:k=l.length:=by omega
     rw [ZuH]
     have hnt:ZbL l (i+1)=if Zdl l i then (i:Int) else ZbL l i:=rfl
     rw [show (l.all fun w=>decide (((KZ w (l.getD i default)).length:Int)=0))=Zdl l i from rfl]
     refine ZQ rfl (Za (Zb (Zc ?_)))
     simp only [Eqs,reduceCtorEq,reduceIte,Zuq,ZsH.r10]
     refine Ze rfl trivial (fun h3=>?_) (fun h3=>?_)
     ·rw [if_pos h3] at hnt
      refine Zb (Zc ?_)
      simp only [Eqs,reduceCtorEq,reduceIte,Zuq,ZsH.r11]
      refine Zm (Zb (Zc ?_))
      simp only [Eqs,reduceCtorEq,reduceIte,Zuq,ZsH.r4]
      repeat (refine Zut (by first | omega | trivial | (intro h0;simp at h0;omega)) ?_)
      refine Zy ?_
      have hnext:=ih_key ((l.length)-(i+1)) (by omega) (i+1) rfl (by omega)
      rw [hnt] at hnext
      exact hnext
     ·rw [if_neg (by rw [h3];simp)] at hnt
      refine Zg (Zm (Zb (Zc ?_)))
      simp only [Eqs,reduceCtorEq,reduceIte,Zuq,ZsH.r4]
      repeat (refine Zut (by first | omega | trivial | (intro h0;simp at h0;omega)) ?_)
      refine Zy ?_
      have hnext:=ih_key ((l.length)-(i+1)) (by omega) (i+1) rfl (by omega)
      rw [hnt] at hnext
      exact hnext
   exact key2 _ 0 rfl (by omega)
  ·simp at h1
   obtain rfl:i=l.length:=by omega
   refine ZQ rfl (Za (Zb (Zc ?_)))
   simp only [Eqs,reduceCtorEq,reduceIte,Zuq,ZsH.r12]
   refine hret rfl (by first | trivial | simp) (YG ?_) (by first | exact Zuw _ | exact Zl (by first | trivial | assumption) | assumption | exact Zuy _ (by assumption))
   rfl
 exact key _ 0 rfl (by omega)
end Go.DL
namespace Go.DL
open Go Go.ChangeShapes Go.RowKit Go.WideShapes Go.ChangeAt
section
variable {H:Type} {enc:TypeId × Value→H} {P:Program} {w:World}
theorem ZsL {t:TypeId} {R:List D→Prop} {Q:D→Prop} (h1:∀ W base v,Value.okWide P W .any base t v→v.cells = #[v]) (h:∀ W,JH enc P W t R) (hq:∀ ds,R ds→∃ x,ds=[x]∧Q x):ZlT enc P t Q:=by
 intro W base v d ps hok ⟨fuel,hf⟩
 rw [h1 _ _ _ hok] at hf
 obtain⟨ds,h2,h3,_⟩:=h W _ _ _ hf
 obtain⟨x,rfl,hx⟩:=hq ds h2
 cases h3 with | cons h4 _=>exact⟨x,hx,h4⟩
theorem ZsJ {t e:TypeId} (ht:P.underlying t=some (.slice e)) {R:List D→Prop} {Q:D→Prop} (h:∀ W,JH enc P W t R) (hq:∀ ds,R ds→∃ x,ds=[x]∧Q x):ZlT enc P t Q :=
 ZsL (fun W base v hok=>by obtain⟨a,n,c,rfl⟩:=okWide_slice ht hok;rfl) h hq
end
end Go.DL
namespace Go.DL
open Go Go.Proofs
section
variable {H:Type} {enc:TypeId × Value→H} {w:World}
theorem ZsQ:JH enc Zuv w 56 fun ds=>∃ l:List Dfn,ds=[slD 3 ZuM l] :=
 ZdF (f:=ZuM) Tryz.underlying56 (by kernel_rfl) (by decide) (fun _=>rfl) ZsE
end
end Go.DL
namespace Go.Proofs.YtmnhlhenahlilaaGreat
open Go Go.DL Go.ChangeShapes Go.WideShapes Go.ChangeAt Go.RowKit
set_option linter.unusedVariables false
theorem arg_Dfns {H:Type} {enc:TypeId × Value→H}:ZlT enc Zuv 56 fun x=>∃ l:List Dfn,x=Zbq l :=
 ZsJ Tryz.underlying56 (fun W=>ZsQ) fun ds ⟨l,hl⟩=>⟨_,hl,l,rfl⟩
end Go.Proofs.YtmnhlhenahlilaaGreat
namespace Go.DL
open Go Go.Proofs
theorem ZsN (l:List Dfn) (n:Nat):-1≤ZbL l n:=by
 induction n with
 | zero=>simp [ZbL]
 | succ n ih=>rw [ZbL];split<;>omega
end Go.DL
namespace Go.DL
open Go Go.Proofs
theorem ZsM {α β:Type} [Inhabited α] [Inhabited β] {f:α→β} {l:List α} {i:Nat} (h:i<l.length):(l.map f).getD i default=f (l.getD i default):=by
 simp [List.getD,h]
theorem ZsP {l:List Dfn} (h:l.all Wt=true):(Zgb l).length=l.length:=by rw [Zj0 h,List.length_map]
theorem ZsO {l:List Dfn} (h:l.all Wt=true) {i:Nat} (hi:i<l.length):(Zgb l).getD i default=l.map fun r=>Zap (l.getD i default) r:=by rw [Zj0 h,ZsM hi]
theorem ZsI (l:List Dfn):ZR Zuv ZsG.id [Zbq l] (.bool true):=by
 refine Z0 ZsG.ok fun F st hret=>?_
 refine Za (Zb (Zc ?_))
 simp only [Eqs,reduceCtorEq,reduceIte,ZsG.r0]
 refine Za (Za (Zb (Zc ?_)))
 simp only [Eqs,reduceCtorEq,reduceIte,Zuq,ZsG.r1,Zbq,slD]
 refine Ze rfl trivial (fun h1=>?_) (fun h1=>?_)
 ·refine Za (Zb (Zc ?_))
  simp only [Eqs,ZsG.r2]
  refine ZW rfl rfl rfl rfl rfl (by trivial) (by trivial) (by exact Zrv) (Zc ?_)
  simp only [Eqs,reduceCtorEq,reduceIte,Zuq]
  exact hret rfl (by trivial) (Zux _) (Zuw _)
 ·have hl4:l.length≤4:=by simp at h1;omega
  refine Zg ?_
  refine Za (Zb (Zc ?_))
  simp only [Eqs,reduceCtorEq,reduceIte,Zuq,ZsG.r3]
  refine Za (Za (Zb (Zc ?_)))
  simp only [Eqs,reduceCtorEq,reduceIte,Zuq,ZsG.r4]
  refine Zj (ZX ?_)
  have key:∀ (n i:Nat),(l.length)-i=n→i≤l.length→ZT F [.code (ZsG.l0),.inLoop ZsG.l0,.inBlock 0,.code (.seq (qR ZsG.r10 [0,3,5,6]) (.seq (qR ZsG.r11 [0,3,5,6,7,8]) (.seq (.seq (qR ZsG.r12 [0,5,6,7,8,47]) (qC 47 (.seq (qR ZsG.r13 [2]) .ret) .skip)) (.seq (.seq (qR ZsG.r14 [0,5,7,8,73]) (qC 73 (.seq (qR ZsG.r15 [2]) .ret) .skip)) (.seq (.seq (qR ZsG.r16 [0,5,7,8,9]) (.block 2 (.loop ZsG.l1))) (.seq (qR ZsG.r26 [7,8,11]) (.seq (qR ZsG.r27 [2]) .ret)))))))] [(0,.d (Zbq l)),(3,.d (.bool ((l.take i).all Wt))),(4,.d (.int .i64 i))] [] st:=by
   intro n
   induction n using Nat.strongRecOn with
   | ind n ih_key =>
   intro i hn hi
   refine Za (Za (Zb (Zc ?_)))
   simp only [Eqs,reduceCtorEq,reduceIte,Zuq,ZsG.r5,Zbq,slD]
   refine Ze rfl trivial (fun h2=>?_) (fun h2=>?_)
   ·simp at h2
    have hsn:=Zdd (p:=Wt) h2
    generalize hd:l.getD i default=d at *
    refine Zg (Za (Zj (Za (Za (Zb (Zc ?_))))))
    simp only [Eqs,reduceCtorEq,reduceIte,Zuq,Zur,Zus,ZsG.r7,ZuM,hd]
    repeat (refine Zut (by first | omega | trivial | (intro h0;simp at h0;omega)) ?_)
    rw [ZcN]
    refine ZW rfl rfl rfl rfl rfl (by trivial) (by trivial) (by exact Zrw d) (Zc ?_)
    simp only [Eqs,reduceCtorEq,reduceIte,Zuq]
    refine Ze rfl trivial (fun h3=>?_) (fun h3=>?_)
    ·refine Za (Zb (Zc ?_))
     simp only [Eqs,ZsG.r8]
     refine ZW rfl rfl rfl rfl rfl (by trivial) (by trivial) (by exact Zrv) (Zc ?_)
     simp only [Eqs,reduceCtorEq,reduceIte,Zuq]
     exact hret rfl (by trivial) (Zux _) (Zuw _)
    ·refine Zg ?_
     refine Zb (Zc ?_)
     simp only [Eqs,reduceCtorEq,reduceIte,Zuq,Zur,Zus,ZsG.r9,hd]
     refine⟨fun _=>⟨by omega,by omega⟩,?_⟩
     rw [ZcN]
     refine KA rfl rfl rfl rfl rfl (fun hcg=>⟨by first | trivial | (simpa [Qu] using hcg),trivial,Zsk d⟩) (Zc ?_)
     simp only [Eqs,reduceCtorEq,reduceIte,Zuq]
     refine Zm (Zb (Zc ?_))
     simp only [Eqs,reduceCtorEq,reduceIte,Zuq,ZsG.r6]
     repeat (refine Zut (by first | omega | trivial | (intro h0;simp at h0;omega)) ?_)
     refine Zy ?_
     have hnext:=ih_key ((l.length)-(i+1)) (by omega) (i+1) rfl (by omega)
     rw [hsn] at hnext
     exact hnext
   ·simp at h2
    obtain rfl:i=l.length:=by omega
    rw [ZuH]
    have hM:=ZiQ l (by omega) st
    have hN:=ZiR l (by omega) st
    have hV:=ZqJ.eq_1 l
    have hE:=ZqI.eq_1 l
    have hme:=ZqE.eq_1 l
    have hms:=Zgb.eq_1 l
    refine ZQ rfl (Za (Zb (Zc ?_)))
    simp only [Eqs,reduceCtorEq,reduceIte,ZsG.r10]
    refine Yn rfl rfl rfl rfl rfl (by trivial) (by trivial) (by exact hM) ?_ ?_
    ·rintro dv S ⟨hq,rfl⟩
     cases hq
     by_cases hv:l.all Wt=true
     ·rw [if_pos hv] at hV hE hme hms
      rw [hme]
      refine Zc ?_
      simp only [Eqs,reduceCtorEq,reduceIte,Zuq]
      refine Za (Zb (Zc ?_))
      simp only [Eqs,reduceCtorEq,reduceIte,ZsG.r11]
      refine Wn rfl rfl rfl rfl rfl (by trivial) (by trivial) (by exact hN) (Zc ?_)
      simp only [Eqs,reduceCtorEq,reduceIte,Zuq]
      rw [hV,hE,hv]
      refine Za (Za (Zb (Zc ?_)))
      simp only [Eqs,reduceCtorEq,reduceIte,Zuq,ZsG.r12]
      refine Ze rfl trivial (fun h=>by simp at h) (fun _=>?_)
      refine Zg ?_
      refine Za (Za (Zb (Zc ?_)))
      simp only [Eqs,reduceCtorEq,reduceIte,Zuq,ZsG.r14,ZlQ,slD]
      refine ZW rfl rfl rfl rfl rfl (by trivial) (by trivial) (by exact ZbK _) (Zc ?_)
      simp only [Eqs,reduceCtorEq,reduceIte,Zuq]
      have hml:=ZsP hv
      refine Ze rfl trivial (fun h=>by (simp [hml] at h)) (fun _=>?_)
      refine Zg ?_
      refine Za (Za (Zb (Zc ?_)))
      simp only [Eqs,reduceCtorEq,reduceIte,Zuq,ZsG.r16]
      refine Zj ?_
      refine ZX ?_
      have key2:∀ (n i:Nat),(l.length)-i=n→i≤l.length→ZT F [.code (ZsG.l1),.inLoop ZsG.l1,.inBlock 2,.code (.seq (qR ZsG.r26 [7,8,11]) (.seq (qR ZsG.r27 [2]) .ret))] [(0,.d (Zbq l)),(5,.d (ZlQ (Zgb l))),(7,.d (.int .i64 (max (ZbL l l.length) 0))),(8,.d (.int .i64 (if ZbL l l.length<0 then 9 else 0))),(9,.d (.int .i64 i))] [] S:=by
       intro n
       induction n using Nat.strongRecOn with
       | ind n ih_key2 =>
       intro i hn2 hi2
       refine Za (Za (Zb (Zc ?_)))
       simp only [Eqs,reduceCtorEq,reduceIte,Zuq,ZsG.r17,Zbq,slD]
       refine Ze rfl trivial (fun h4=>?_) (fun h4=>?_)
       ·simp at h4
        have hmi:=ZsO hv h4
        refine Zg (Za (Zj (Za (Za (Zb (Zc ?_))))))
        simp only [Eqs,reduceCtorEq,reduceIte,Zuq,ZsG.r19,ZlQ,slD]
        repeat (refine Zut (by first | omega | trivial | (intro h0;simp at h0;omega)) ?_)
        refine Ze rfl trivial (fun h=>by (rw [hmi,List.length_map] at h;simp at h)) (fun _=>?_)
        refine Zg ?_
        refine Za (Zb (Zc ?_))
        simp only [Eqs,reduceCtorEq,reduceIte,Zuq,ZsG.r21]
        refine Zj ?_
        refine ZX ?_
        have key3:∀ (n k:Nat),(l.length)-k=n→k≤l.length→ZT F [.code (ZsG.l2),.inLoop ZsG.l2,.inBlock 4,.inBlock 3,.code (qR ZsG.r18 [0,5,7,8,9]),.inLoop ZsG.l1,.inBlock 2,.code (.seq (qR ZsG.r26 [7,8,11]) (.seq (qR ZsG.r27 [2]) .ret))] [(0,.d (Zbq l)),(5,.d (ZlQ (Zgb l))),(7,.d (.int .i64 (max (ZbL l l.length) 0))),(8,.d (.int .i64 (if ZbL l l.length<0 then 9 else 0))),(9,.d (.int .i64 i)),(10,.d (.int .i64 k))] [] S:=by
         intro n
         induction n using Nat.strongRecOn with
         | ind n ih_key3 =>
         intro k hn3 hk
         refine Za (Za (Zb (Zc ?_)))
         simp only [Eqs,reduceCtorEq,reduceIte,Zuq,ZsG.r22,Zbq,slD]
         refine Ze rfl trivial (fun h5=>?_) (fun h5=>?_)
         ·simp at h5
          have hall:=List.all_eq_true.1 hv
          have hvi:=hall _ (Ki h4)
          have hvk:=hall _ (Ki h5)
          have hrb:=ZmX hvi hvk
          have hmk:((Zgb l).getD i default).getD k default=Zap (l.getD i default) (l.getD k default):=by rw [hmi,ZsM h5]
          have hmkl:((Zgb l).getD i default).length=l.length:=by rw [hmi,List.length_map]
          refine Zg (Za (Zj (Za (Wq (ZM ?_)))))
          simp only [Eqs,reduceCtorEq,reduceIte,Zuq,Zur,Zus,ZsG.r24,ZlQ,slD,ZuM]
          repeat (refine Zut (by first | omega | trivial | (intro h0;simp at h0;omega)) ?_)
          rw [ZcN,ZcN]
          refine Kd rfl rfl rfl rfl rfl (by trivial) (by trivial) (by exact Zsw _ _ (ZcE hvi) (ZcE hvk)) (ZM ?_)
          simp only [Eqs,reduceCtorEq,reduceIte,Zuq,Q6,slD]
          refine Ze rfl trivial (fun h=>by (rw [hmk,hrb] at h;simp at h)) (fun _=>?_)
          refine Zg ?_
          refine Zm (Zb (Zc ?_))
          simp only [Eqs,reduceCtorEq,reduceIte,Zuq,ZsG.r23]
          repeat (refine Zut (by first | omega | trivial | (intro h0;simp at h0;omega)) ?_)
          refine Zy ?_
          exact ih_key3 ((l.length)-(k+1)) (by omega) (k+1) rfl (by omega)
         ·simp at h5
          obtain rfl:k=l.length:=by omega
          refine ZQ rfl (Zm (Zb (Zc ?_)))
          simp only [Eqs,reduceCtorEq,reduceIte,Zuq,ZsG.r18]
          repeat (refine Zut (by first | omega | trivial | (intro h0;simp at h0;omega)) ?_)
          refine Zy ?_
          exact ih_key2 ((l.length)-(i+1)) (by omega) (i+1) rfl (by omega)
        exact key3 _ 0 rfl (by omega)
       ·simp at h4
        obtain rfl:i=l.length:=by omega
        refine ZQ rfl (Za (Zb (Zc ?_)))
        simp only [Eqs,reduceCtorEq,reduceIte,ZsG.r26]
        rw [show (D.sl .none l.length 3 fun i=>(l.getD i default).cells)=Zbq l from rfl]
        refine ZW rfl rfl rfl rfl rfl (by trivial) (by trivial) (by exact ZsK l (fun d hd=>ZcE (List.all_eq_true.1 hv d hd))) (Zc ?_)
        simp only [Eqs,reduceCtorEq,reduceIte,Zuq]
        have hge:=ZsN l l.length
        by_cases hneg:ZbL l l.length<0
        ·rw [if_pos hneg,show max (ZbL l l.length) 0=0 by omega]
         have d1:decide (ZbL l l.length<0)=true:=decide_eq_true hneg
         refine Za (Zb (Zc ?_))
         simp only [Eqs,reduceIte,Zuq,ZsG.r27,d1,eq_self,Bool.and_self,Bool.false_and]
         refine Zbl rfl (e:=.d (.int .i64 0)) (Zc ?_)
         simp only [Eqs,reduceIte,Zuq]
         refine⟨by simp,?_⟩
         refine ZW rfl rfl rfl rfl rfl (by trivial) (by trivial) (by exact Zrv) (Zc ?_)
         simp only [Eqs,reduceIte,Zuq]
         exact hret rfl (by trivial) (Zux _) (Zuw _)
        ·rw [if_neg hneg,show max (ZbL l l.length) 0=ZbL l l.length by omega]
         have d1:decide (ZbL l l.length<0)=false:=decide_eq_false hneg
         have d2:decide (0≤ZbL l l.length)=true:=decide_eq_true (by omega)
         refine Za (Zb (Zc ?_))
         simp only [Eqs,reduceIte,Zuq,ZsG.r27,d1,d2,eq_self,Bool.and_self]
         refine ZW rfl rfl rfl rfl rfl (by trivial) (by trivial) (by exact ZbK _) (Zc ?_)
         simp only [Eqs,reduceIte,Zuq]
         refine ZW rfl rfl rfl rfl rfl (by trivial) (by trivial) (by exact Zrv) (Zc ?_)
         simp only [Eqs,reduceIte,Zuq]
         exact hret rfl (by trivial) (Zux _) (Zuw _)
      exact key2 _ 0 rfl (by omega)
     ·rw [if_neg hv] at hV hE hme hms
      have hv2:l.all Wt=false:=by simpa using hv
      rw [hme,hms]
      refine Zc ?_
      simp only [Eqs,reduceCtorEq,reduceIte,Zuq]
      refine Za (Zb (Zc ?_))
      simp only [Eqs,reduceCtorEq,reduceIte,ZsG.r11]
      refine Wn rfl rfl rfl rfl rfl (by trivial) (by trivial) (by exact hN) (Zc ?_)
      simp only [Eqs,reduceCtorEq,reduceIte,Zuq]
      rw [hV,hE,hv2]
      refine Za (Za (Zb (Zc ?_)))
      simp only [Eqs,reduceCtorEq,reduceIte,Zuq,ZsG.r12]
      refine Ze rfl trivial (fun _=>?_) (fun h=>by simp at h)
      refine Za (Zb (Zc ?_))
      simp only [Eqs,reduceCtorEq,reduceIte,Zuq,ZsG.r13,ZlQ,slD,Int.natCast_zero,Int.add_zero,eq_self]
      refine⟨by decide,by decide,?_⟩
      refine ZW rfl rfl rfl rfl rfl (by trivial) (by trivial) (by exact Zrv) (Zc ?_)
      simp only [Eqs,reduceCtorEq,reduceIte,Zuq]
      exact hret rfl (by trivial) (Zux _) (Zuw _)
    ·rintro dv S ⟨hq,_⟩
     cases hq
  exact key _ 0 rfl (by omega)
end Go.DL
namespace Go.Proofs.YtmnhlhenahlilaaGreat
open Go Go.DL Go.ChangeShapes Go.WideShapes Go.ChangeAt Go.RowKit
set_option linter.unusedVariables false
set_option maxRecDepth 100000 in
theorem versions_lifted (os:Os) (started:os.Started) (H:Type) (enc:TypeId × Value→H) :
  ReturnsInHanded {} Tryz.checked os 5 .any (Rows.compatVersionsSpec.pre6 enc Zuv Tryz.f5 Rows.compatVersionsRow.domain false) (Rows.compatVersionsSpec.post enc Zuv Tryz.f5 false true false false):=by
 refine returnsInHanded_of_change (C:=Tryz.checked) own started (by kernel_rfl) Tryz.func5
  (ChangeSpec.witness6 (enc:=enc) (C:=Tryz.checked) false ⟨#[],#[.slice none 0 0],[]⟩ 8 (by kernel_rfl) (by kernel_rfl) (by kernel_rfl) (by kernel_rfl)) ?_
 intro W base args ds gs before hval hW _ _
 have hp:Tryz.f5.params.toList=[56]:=by rw [Tryz.params5]
 refine Zse (P:=Zuv) (tb:=4) (Qs:=[_]) rfl laidOut (fun t ht=>types_ok t ?_) (by kernel_rfl) Tryz.underlying4 (fun ds hds=>?_) (by rw [hp];exact .cons arg_Dfns .nil) (fun xs hxs=>?_) W base args ds gs before hval hW
 ·rw [hp] at ht;simp at ht;simp [ht]
 ·rw [hp] at hds
  match ds,hds with
  | [a],_=>rfl
 ·cases hxs with | cons h1 hxs =>
  cases hxs
  obtain⟨l,rfl⟩:=h1
  exact ZsI l
theorem versions_holds:Rows.CompatVersionsSaid :=
 OpenClaim.holds_of_wide 5 Tryz.f5 rfl rfl rfl rfl rfl rfl rfl ⟨rfl,rfl,rfl,rfl,rfl⟩ rfl rfl rfl rfl rfl (by kernel_rfl) Tryz.func5 (by kernel_rfl)
  (of_decide_eq_true (by kernel_rfl)) (by unfold Func.isWrapper;first | (rw [if_pos (by decide +kernel)];kernel_rfl) | (rw [if_neg (by decide +kernel)];exact⟨rfl,rfl⟩))
  (fun os started H enc _=>versions_lifted os started H enc)
end Go.Proofs.YtmnhlhenahlilaaGreat
