/- CompatLoops is proved: at any two definitions and any number the function ends and answers true. No condition beyond the statement's own. -/
import Derived.Test.YtmnhlhenahlilaaGreatT06
import Derived.Test.YtmnhlhenahlilaaGreatRows
set_option maxHeartbeats 16000000
set_option linter.all false
open And renaming intro → Zut
open Bool renaming and_eq_true → ZuA, or_eq_true → ZuL
open Go.DL.D.Le renaming refl → Zux
open Go.DL.Dfn renaming cells → ZuM
open Go.DL.Msg renaming cells → ZuG
open Go.DL.St renaming single → ZuN, sub_refl → Zuw, sub_trans → ZuK, sub_upd → Zuy, upd_ne → ZuE, upd_same → ZuB, upd_upd → ZuQ
open Go.Proofs.Tryz renaming prog → Zuv
open List renaming length_append → ZuF, length_cons → ZuI, take_length → ZuH
open Nat renaming le_refl → ZuO, reduceAdd → Zur, reduceEqDiff → Zuq, reduceLeDiff → Zus
open Option.some renaming injEq → Zuu
open Prod.mk renaming injEq → Zuz
namespace Go.DL
open Go Go.Proofs
def ZsG.r0:List DOp:=[qB 3 0,qB 4 1,qB 5 2,⟨some 6,none,.alloc [.bool false]⟩]
def ZsG.r1:=[qL 17 3 3,qf 18 7 [.tmp 17],qm 19 18,qn 19 (qL 20 3 4),qn 19 (qf 21 7 [.tmp 20]),qo 22 19 21]
def ZsG.r2:=[qf 23 8 [],qs 6 23]
def ZsG.r3:List DOp:=[⟨some 7,none,.alloc [.nilsl]⟩]
def ZsG.r4:=[qL 24 3 3,qf 25 12 [.tmp 24],qm 26 25,qy 26 (qL 27 3 4),qy 26 (qf 28 12 [.tmp 27]),qO 29 26 28]
def ZsG.r5:=[qL 30 3 3,qL 31 3 4,qf 32 13 [.tmp 30,.tmp 31],qs 7 32]
def ZsG.r6:List DOp:=[qL 33 3 3,⟨some 8,none,.alloc [.str [],.nilsl,.str []]⟩,qS 3 8 33]
def ZsG.r7:List DOp:=[⟨some 34,none,.bsl 0 2 [.str [],.nilsl] [] []⟩,qa 35 1 3,ql 36 35,⟨some 37,none,.append 44 2 40 [.str [],.nilsl] (.tmp 34) (.tmp 36)⟩,qa 38 1 8,qs 38 37]
def ZsG.r8:=[qi 9 0]
def ZsG.r9:=[qm 39 9,qa 40 1 8,ql 41 40,qk 42 .lenL 41,qd 43 .lss 39 42]
def ZsG.r11:List (DOp × Bool):=[(qa 46 1 8,false),(ql 47 46,false),(qm 48 9,false),(⟨some 49,none,.bsl 0 15 [.str [],.int .i64 0,.int .i64 0,.bool false,.bool false,.int .i64 0,.int .i64 0,.int .i64 0,.nilsl,.str [],.str [],.str [],.nilsl,.int .i64 0,.int .i64 0] [] []⟩,false),(qa 50 1 3,false),(ql 51 50,false),(qm 52 9,false),(qX 53 2 51 52,false),(qa 54 1 53,false),(ql 55 54,false),(⟨some 56,none,.append 54 15 176 [.str [],.int .i64 0,.int .i64 0,.bool false,.bool false,.int .i64 0,.int .i64 0,.int .i64 0,.nilsl,.str [],.str [],.str [],.nilsl,.int .i64 0,.int .i64 0] (.tmp 49) (.tmp 55)⟩,true),(qX 57 2 47 48,false),(qa 58 1 57,false),(qs 58 56,false)]
def ZsG.r10:=[qm 44 9,qe 45 .add 44 1,qm 9 45]
def ZsG.l0:DC:=.seq (.seq (qR ZsG.r9 [3,4,5,6,7,8,9,43,96,97]) (qC 43 .skip (.exit 0))) (.seq (.block 1 (.regD [0,1,2,3,4,5,6,7,8,9,10,11,12,13] ZsG.r11 (some [3,4,5,6,7,8,9,96,97]))) (qR ZsG.r10 [3,4,5,6,7,8,9,96,97]))
def ZsG.r12:=[qL 59 3 8,qL 60 3 4,qf 61 16 [.tmp 59,.tmp 60],qm 10 61]
def ZsG.r13:List DOp:=[qm 62 10,⟨some 63,none,.q (.bin .eql (some .fn)) [.tmp 62,.cst (.nilfn)]⟩]
def ZsG.r14:List DOp:=[⟨none,none,.store1 (.tmp 6) (.cst (.bool false))⟩]
def ZsG.r15:=[qi 11 0]
def ZsG.r16:=[qm 64 11,qa 65 1 8,ql 66 65,qk 67 .lenL 66,qd 68 .lss 64 67]
def ZsG.r18:=[qi 12 0]
def ZsG.r19:=[qm 71 12,qa 72 1 8,ql 73 72,qm 74 11,qX 75 2 73 74,qa 76 1 75,ql 77 76,qk 78 .lenL 77,qd 79 .lss 71 78]
def ZsG.r21:List DOp:=[qa 82 1 8,ql 83 82,qm 84 11,qX 85 2 83 84,qa 86 1 85,ql 87 86,qm 88 12,⟨some 89,none,.q (.build [.str [],.int .i64 0,.int .i64 0,.bool false,.bool false,.int .i64 0,.int .i64 0,.int .i64 0,.nilsl,.str [],.str [],.str [],.nilsl,.int .i64 0,.int .i64 0] [(0,1)]) [.cst (.str [122])]⟩,qX 90 15 87 88,qS 15 90 89]
def ZsG.r20:=[qm 80 12,qe 81 .add 80 1,qm 12 81]
def ZsG.l2:DC:=.seq (.seq (qR ZsG.r19 [5,6,7,8,10,11,12,79,96,97]) (qC 79 .skip (.exit 4))) (.seq (.block 5 (qR ZsG.r21 [5,6,7,8,10,11,12,96,97])) (qR ZsG.r20 [5,6,7,8,10,11,12,96,97]))
def ZsG.r17:=[qm 69 11,qe 70 .add 69 1,qm 11 70]
def ZsG.l1:DC:=.seq (.seq (qR ZsG.r16 [5,6,7,8,10,11,68,96,97]) (qC 68 .skip (.exit 2))) (.seq (.block 3 (.seq (qR ZsG.r18 [5,6,7,8,10,11,12,96,97]) (.block 4 (.loop ZsG.l2)))) (qR ZsG.r17 [5,6,7,8,10,11,96,97]))
def ZsG.r22:List DOp:=[⟨some 13,none,.alloc [.int .i64 0]⟩,⟨none,none,.store1 (.tmp 13) (.cst (.int .i64 0))⟩]
def ZsG.r23:=[ql 91 13,qe 92 .lss 91 2]
def ZsG.r25:List DOp:=[⟨some 14,none,.alloc [.int .i64 0]⟩,⟨none,none,.store1 (.tmp 14) (.cst (.int .i64 0))⟩]
def ZsG.r26:=[qm 95 10]
def ZsG.r27:=[qm 15 96]
def ZsG.r28:List DOp:=[⟨some 16,none,.alloc [.str [],.int .i64 0]⟩,qS 2 16 97]
def ZsG.r29:=[qm 98 15,ql 99 14,qd 100 .neq 98 99,qm 101 100,qn 101 (ql 102 14),qn 101 (ql 103 7),qn 101 (qk 104 .lenL 103),qn 101 (qd 105 .geq 102 104),qo 106 101 105,qm 107 106,qn 107 (qL 108 2 16),qn 107 (ql 109 7),qn 107 (ql 110 14),qn 107 (qX 111 2 109 110),qn 107 (qL 112 2 111),qn 107 ⟨some 113,none,.q (.bin .neq (some (.cells [(0,.str),(1,.int)]))) [.tmp 108,.tmp 112]⟩,qo 114 107 113]
def ZsG.r30:List DOp:=[⟨none,none,.store1 (.tmp 6) (.cst (.bool false))⟩]
def ZsG.r31:=[ql 115 14,qe 116 .add 115 1,qs 14 116]
def ZsG.r32:=[ql 117 13,qe 118 .eql 117 0,qm 119 118,qy 119 (ql 120 14),qy 119 (ql 121 5),qy 119 (qd 122 .geq 120 121),qO 123 119 122]
def ZsG.a4:DC:=.seq (qR ZsG.r27 [5,6,7,10,13,14,15,96,97]) (qR ZsG.r28 [5,6,7,10,13,14,15,16,96,97])
def ZsG.b4:DC:=.block 9 (.seq (.seq (.regD [0,1,2,3,4,5,6,7,8,9,10,11,12,13,14,15,16] (Jb ZsG.r29) (some [5,6,7,10,13,14,96,97,114])) (qC 114 (.seq (qR ZsG.r30 [6]) .ret) .skip)) (.seq (qR ZsG.r31 [5,6,7,10,13,14,96,97]) (.seq (qR ZsG.r32 [5,6,7,10,13,14,96,97,123]) (qC 123 (.exit 8) .skip))))
def ZsG.r33:=[ql 124 13,qe 125 .eql 124 0,qm 126 125,qy 126 (ql 127 14),qy 126 (ql 128 7),qy 126 (qk 129 .lenL 128),qy 126 (ql 130 5),qy 126 ⟨some 131,none,.q .max [.cst (.int .i64 1),.tmp 130]⟩,qy 126 ⟨some 132,none,.q .min [.tmp 129,.tmp 131]⟩,qy 126 (qd 133 .neq 127 132),qO 134 126 133,qm 135 134,qn 135 (ql 136 13),qn 135 (qe 137 .eql 136 1),qn 135 (qm 138 137),qy 138 (ql 139 14),qy 138 (ql 140 7),qy 138 (qk 141 .lenL 140),qy 138 (qd 142 .neq 139 141),qn 135 (qO 143 138 142),qo 144 135 143]
def ZsG.r34:List DOp:=[⟨none,none,.store1 (.tmp 6) (.cst (.bool false))⟩]
def ZsG.r35:=[ql 145 13]
def ZsG.r36:List DOp:=[⟨some 13,none,.alloc [.int .i64 0]⟩,qs 13 145]
def ZsG.r24:=[ql 93 13,qe 94 .add 93 1,qs 13 94]
def ZsG.l3:DC:=.seq (.seq (qR ZsG.r23 [5,6,7,10,13,92,96,97]) (qC 92 .skip (.exit 6))) (.seq (.block 7 (.seq (qR ZsG.r25 [5,6,7,10,13,14,96,97]) (.seq (.seq (qR ZsG.r26 [5,6,7,10,13,14,95,96,97]) (.block 8 (.rangeF (.tmp 95) [96,97] ZsG.a4 ZsG.b4))) (.seq (qR ZsG.r33 [5,6,7,10,13,96,97,144]) (qC 144 (.seq (qR ZsG.r34 [6]) .ret) .skip))))) (.seq (.seq (qR ZsG.r35 [5,6,7,10,96,97,145]) (qR ZsG.r36 [5,6,7,10,13,96,97])) (qR ZsG.r24 [5,6,7,10,13,96,97])))
def ZsG.r37:=[qf 146 8 [],qs 6 146]
abbrev ZsG.id:Nat:=4
def ZsG.an:Ann:=[(0,[3,4,5,6,96,97]),(1,[3,4,5,6,22,96,97]),(2,[6]),(3,[3,4,5,6,7,96,97]),(4,[3,4,5,6,7,29,96,97]),(5,[3,4,5,6,7,96,97]),(6,[3,4,5,6,7,8,96,97]),(7,[3,4,5,6,7,8,96,97]),(8,[3,4,5,6,7,8,9,96,97]),(9,[3,4,5,6,7,8,9,43,96,97]),(10,[3,4,5,6,7,8,9,96,97]),(11,[3,4,5,6,7,8,9,96,97]),(12,[5,6,7,8,10,96,97]),(13,[5,6,7,8,10,63,96,97]),(14,[6]),(15,[5,6,7,8,10,11,96,97]),(16,[5,6,7,8,10,11,68,96,97]),(17,[5,6,7,8,10,11,96,97]),(18,[5,6,7,8,10,11,12,96,97]),(19,[5,6,7,8,10,11,12,79,96,97]),(20,[5,6,7,8,10,11,12,96,97]),(21,[5,6,7,8,10,11,12,96,97]),(22,[5,6,7,10,13,96,97]),(23,[5,6,7,10,13,92,96,97]),(24,[5,6,7,10,13,96,97]),(25,[5,6,7,10,13,14,96,97]),(26,[5,6,7,10,13,14,95,96,97]),(27,[5,6,7,10,13,14,15,96,97]),(28,[5,6,7,10,13,14,15,16,96,97]),(29,[5,6,7,10,13,14,96,97,114]),(30,[6]),(31,[5,6,7,10,13,14,96,97]),(32,[5,6,7,10,13,14,96,97,123]),(33,[5,6,7,10,13,96,97,144]),(34,[6]),(35,[5,6,7,10,96,97,145]),(36,[5,6,7,10,13,96,97]),(37,[6]),(1000011,[0,1,2,3,4,5,6,7,8,9,10,11,12,13]),(1000029,[0,1,2,3,4,5,6,7,8,9,10,11,12,13,14,15,16]),(2000011,[10])]
def ZsG.body:DC:=.seq (qR ZsG.r0 [3,4,5,6,96,97]) (.seq (.seq (qR ZsG.r1 [3,4,5,6,22,96,97]) (qC 22 (.seq (qR ZsG.r2 [6]) .ret) .skip)) (.seq (qR ZsG.r3 [3,4,5,6,7,96,97]) (.seq (.seq (qR ZsG.r4 [3,4,5,6,7,29,96,97]) (qC 29 (qR ZsG.r5 [3,4,5,6,7,96,97]) .skip)) (.seq (qR ZsG.r6 [3,4,5,6,7,8,96,97]) (.seq (qR ZsG.r7 [3,4,5,6,7,8,96,97]) (.seq (.seq (qR ZsG.r8 [3,4,5,6,7,8,9,96,97]) (.block 0 (.loop ZsG.l0))) (.seq (qR ZsG.r12 [5,6,7,8,10,96,97]) (.seq (.seq (qR ZsG.r13 [5,6,7,8,10,63,96,97]) (qC 63 (.seq (qR ZsG.r14 [6]) .ret) .skip)) (.seq (.seq (qR ZsG.r15 [5,6,7,8,10,11,96,97]) (.block 2 (.loop ZsG.l1))) (.seq (.seq (qR ZsG.r22 [5,6,7,10,13,96,97]) (.block 6 (.loop ZsG.l3))) (.seq (qR ZsG.r37 [6]) .ret)))))))))))
def ZsG.df:DF:=⟨147,[.cell1 6],ZsG.body⟩
theorem ZsG.ok:cf Zuv ZsG.an ZsG.id=some ZsG.df:=by kernel_rfl
end Go.DL
namespace Go.DL
open Go
theorem Ztb {g:G} {w:World} (c:Array Value) (T:TypeId) (hf:∀ b,w.heap.size≤b→g.prot b=0∧¬ g.kept b):ZbB g w g (w.drew.alloc (.cells c T)):={
 size:=by simp
 old b hb:=(by first | exact heap_alloc_old w.drew _ b hb | exact heap_alloc_old w.drew _ hb)
 prot b hb:=rfl
 fresh b hb:=by
  have:(w.drew.alloc (.cells c T)).heap.size=w.heap.size+1:=by simp
  rw [this] at hb
  exact (hf b (by omega)).1
 kept:=rfl
 os:=rfl
 output:=rfl
 tape:=rfl }
section
variable {P:Program}
theorem Ztg {g:G} {w:World} {s:St} {sz m:Nat} {v1 v2:Value} {row row2:Nat→List D} {tT u ty e:TypeId} {tu:TypeDesc} {i:TypeInfo} {z:Value} (ht:P.underlying tT=some (.slice e)) (hu:P.underlying u=some tu) (hnu:∀ k,tu≠.int k)
    (hi:P.info? e=some i) (hz:i.zero=some z) (hsz:i.size=sz) (hzc:z.cells.size=sz) (hone:∀ x∈z.cells,x.one1=true) (h0:0<sz) (hs:KS g s w) (h1:Rep g w v1 (.sl .full 0 sz row)) {news:List Value} (hm:0<m)
    (h2:Jr g w sz m news row2) (h3:ZdK P w sz m v2 news) (hb:m*i.bytes≤140737488355328) (hbig:m≤big) :
    ∃ (cap:Nat) (cv:Array Value),(Builtin.append_ #[tT,u] ty #[v1,v2]).run P w = .ok (.slice (some ⟨w.heap.size,0,none⟩) m cap) (w.drew.alloc (.cells cv e))∧m≤cap∧cap≤big∧cv.size=cap*sz∧(∀ v∈cv,v.one1=true) ∧
      ∀ (k:Nat) (v:Value) (d:D),cv[k]? = some v→((List.range m).flatMap row2++List.replicate ((cap-m)*sz) .any)[k]? = some d→Rep g w v d:=by
  subst hsz
  have grown:∀ base,v1 = .slice base 0 0→∃ (cap:Nat) (cv:Array Value),(Builtin.append_ #[tT,u] ty #[v1,v2]).run P w = .ok (.slice (some ⟨w.heap.size,0,none⟩) m cap) (w.drew.alloc (.cells cv e))∧m≤cap∧cap≤big∧cv.size=cap*i.size∧(∀ v∈cv,v.one1=true) ∧
      ∀ (k:Nat) (v:Value) (d:D),cv[k]? = some v→((List.range m).flatMap row2++List.replicate ((cap-m)*i.size) .any)[k]? = some d→Rep g w v d:=by
    intro base hv
    subst hv
    obtain⟨olds,hr1,ho1,ho2⟩:=Zke (P:=P) h1 h0
    have hne:olds=[]:=List.eq_nil_of_length_eq_zero (by simpa using hr1.len)
    subst hne
    have ho:=ho2
    have hrun:=Zqc (ty:=ty) (n:=0) (cap:=0) ht hu hnu hi hz h3 ho (by omega) (by simp only [big] at hbig;omega) (by rw [Nat.zero_add];exact hb)
    rw [Nat.zero_add] at hrun
    have hge:=grownCap_ge w m 0 e
    have hle:=grownCap_le_maxLen w m 0 e (by simp only [big] at hbig;simp only [maxLen];omega)
    refine⟨_,_,hrun,hge,by simp only [maxLen] at hle;simp only [big];omega,?_,fun v hv=>?_,fun k v d hv hd=>?_⟩
    · simp only [List.nil_append,List.size_toArray,ZuF,h2.len,Array.length_toList,size_zeroCells,hzc,← Nat.add_mul]
      congr 1;omega
    · simp only [List.nil_append,List.mem_toArray,List.mem_append] at hv
      rcases hv with hv | hv
      · exact h2.one v hv
      · simp only [Builtin.zeroCells,Array.mem_toList_iff] at hv
        first
        | (simp only [Array.mem_map,Array.mem_range] at hv
           obtain⟨a,_,rfl⟩:=hv
           have hlt:a % z.cells.size<z.cells.size:=Nat.mod_lt _ (by omega)
           rw [getElem!_pos z.cells (a % z.cells.size) hlt]
           exact hone _ (Array.getElem_mem hlt))
    · simp only [List.nil_append,List.getElem?_toArray] at hv
      have hfl:((List.range m).flatMap row2).length=m*i.size:=by
        have:∀ k,k≤m→((List.range k).flatMap row2).length=k*i.size:=by
          intro k
          induction k with
          | zero=>intro _;simp
          | succ k ih =>
            intro hk
            rw [List.range_succ,List.flatMap_append,ZuF,ih (by omega)]
            simp [h2.rlen k hk,Nat.add_mul]
        exact this m (ZuO _)
      by_cases hk:k<m*i.size
      · rw [List.getElem?_append_left (by rw [h2.len];exact hk)] at hv
        rw [List.getElem?_append_left (by rw [hfl];exact hk)] at hd
        have hqr:k / i.size<m:=Nat.div_lt_of_lt_mul (by rw [Nat.mul_comm];exact hk)
        have hmr:k % i.size<i.size:=Nat.mod_lt _ h0
        have e1:k / i.size*i.size+k % i.size=k:=by rw [Nat.mul_comm];exact Nat.div_add_mod k i.size
        refine h2.rep (k / i.size) (k % i.size) v d hqr hmr (by rw [e1];exact hv) ?_
        have key:∀ q,q≤m→∀ a b,a<q→b<i.size→((List.range q).flatMap row2)[a*i.size+b]? = (row2 a)[b]?:=by
          intro q
          induction q with
          | zero=>intro _ a b ha;omega
          | succ q ih =>
            intro hq a b ha hb
            have hlq:((List.range q).flatMap row2).length=q*i.size:=by
              have:∀ k,k≤m→((List.range k).flatMap row2).length=k*i.size:=by
                intro k
                induction k with
                | zero=>intro _;simp
                | succ k ih =>
                  intro hk
                  rw [List.range_succ,List.flatMap_append,ZuF,ih (by omega)]
                  simp [h2.rlen k hk,Nat.add_mul]
              exact this q (by omega)
            rw [List.range_succ,List.flatMap_append]
            by_cases haq:a<q
            · have:a*i.size+b<q*i.size:=by
                have:=Nat.mul_le_mul_right i.size (show a+1≤q from haq)
                rw [Nat.add_mul,Nat.one_mul] at this;omega
              rw [List.getElem?_append_left (by rw [hlq];exact this)]
              exact ih (by omega) a b haq hb
            · obtain rfl:a=q:=by omega
              rw [List.getElem?_append_right (by rw [hlq];omega),hlq]
              simp
        rw [← key m (ZuO _) _ _ hqr hmr,e1];exact hd
      · rw [List.getElem?_append_right (by rw [hfl];omega),List.getElem?_replicate] at hd
        split at hd
        · simp only [Zuu] at hd;subst hd;exact .any v
        · simp at hd
  cases h1 with
  | sl0 a t s row htt=>exact grown a rfl
  | sl b o n cap sz row t f hl hc hp hr one htok hcap hb' =>
    simp only [Zjn] at htok
    subst htok
    exact grown _ rfl
theorem Zs7 {F:Fr P} {kp:Option (List Nat)} {dk:List Z4} {o:DOp} {os:List DOp} {ρ:Env} {L:Loc} {s:St} (hg:Yu ρ o.guard=some true) {e sz b:Nat} {z:List D} {x y:Opd} (hk:o.k = .append e sz b z x y)
  {p q:Prop} {m:Nat} {row row2:Nat→List D} {dy:D} {dx:D} (hx:YW ρ true x=some (p,.d dx)) (hsl:ZfS sz dx=some (.full,0,row)) (hy:YW ρ true y=some (q,.d dy)) (hel:ZbI sz dy=some (m,row2)) (hp:p) (hq:q) (hm:0<m)
  (hb:m*b≤140737488355328) (hbig:m≤big)
  (h:∀ c cap,s c=none→m≤cap→DO F kp dk os (Wi ρ o.dst (.d (.msl c 0 m cap sz))) L (s.upd c (.cells ((List.range m).flatMap row2++List.replicate ((cap-m)*sz) .any)))) :
  DO F kp dk (o::os) ρ L s:=by
 refine Jt fun oo g ν w tmps ops i r k hoo hck hcg hdst hd hN M hr hkk=>?_
 have hw:=Qc M hcg hg
 have hnd:=Qw hck (by rw [hk];rfl)
 rw [hk] at hck
 obtain⟨x',y',args,ats,t1,t2,tu,hop,hargs,ha1,ha2,hu1,hu2,hnu,hsz,hz,hbb,hx',hy',h0,hzl⟩:=Zk0 hck
 subst hbb
 have hr1:Rep g w _ (.sl .full 0 sz row):=ZnZ (K2 M hx' rfl hx hp F.ds) hsl
 have hr2:Rep g w _ _:=K2 M hy' rfl hy hq F.ds
 obtain⟨zv,hz1,hz2,hz3,ie,hie,hzz⟩:=Zdw (g:=g) (w:=w) hz
 have hsize:ie.size=sz:=by simpa [WW,hie] using hsz
 have hzlen:zv.cells.size=sz:=by have:=hz2.len;simp at this;omega
 have hby:P.bytesOf e=ie.bytes:=by simp [Program.bytesOf,hie]
 rw [hby] at hb
 obtain⟨news,hn1,hn2⟩:=Zqv (P:=P) hr2 hel h0
 obtain⟨cap,cv,a1,a2,a3,a4,a5,a6⟩:=Ztg (ty:=oo.type) hu1 hu2 hnu hie hzz hsize hzlen hz3 h0 M.st hr1 hm hn1 hn2 hb hbig
 have hgr:ZbB g w g (w.drew.alloc (.cells cv e)):=Ztb (g:=g) (w:=w) cv e M.st.fresh
 have he:=hgr.ext M.st.fresh
 have hfl:((List.range m).flatMap row2).length=m*sz:=by
  have:∀ k,k≤m→((List.range k).flatMap row2).length=k*sz:=by
   intro k
   induction k with
   | zero=>intro _;simp
   | succ k ih =>
    intro hk
    rw [List.range_succ,List.flatMap_append,ZuF,ih (by omega)]
    simp [hn1.rlen k hk,Nat.add_mul]
  exact this m (ZuO _)
 have hob:Jk g (w.drew.alloc (.cells cv e)) w.heap.size (.cells ((List.range m).flatMap row2++List.replicate ((cap-m)*sz) .any)) :=
  ⟨(M.st.fresh _ (ZuO _)).1,_,e,ZbD w.drew _,by rw [ZuF,hfl,List.length_replicate,a4,← Nat.add_mul];congr 1;omega,fun i v d hv hd=>(a6 i v d hv hd).mono he,a5⟩
 obtain⟨hn,m'⟩:=M.newObj hgr hob
 refine JL (L':=L) hN hoo hdst hd hw hnd (e:=.d (.msl w.heap.size 0 m cap sz)) ?_ he m' (Rep.msl _ _ _ _ _ a2 a3) (h _ cap hn a2 ops r k hr hkk)
 have hae:args = #[x',y']:=by apply Array.ext';simpa using hargs
 have hats:∀ vs,Builtin.append_ ats oo.type vs=Builtin.append_ #[t1,t2] oo.type vs:=fun vs=>by
  unfold Builtin.append_;simp [ha1,ha2]
 unfold execOp
 simp only [hop,hae,resolve,invoke,builtin,Sem.run_bind,Sem.run_pure,Result.andThen_ok,List.map_toArray,List.map_cons,List.map_nil,hats,a1]
theorem Ztd {F:Fr P} {kp:Option (List Nat)} {dk:List Z4} {o:DOp} {fl:Bool} {os:List (DOp × Bool)} {ρ:Env} {L:Loc} {s:St} {B:List Rd} (hg:Yu ρ o.guard=some true) {e sz b:Nat} {z:List D} {x y:Opd} (hk:o.k = .append e sz b z x y)
  {p q:Prop} {m:Nat} {row row2:Nat→List D} {dy:D} {dx:D} (hx:YW ρ true x=some (p,.d dx)) (hsl:ZfS sz dx=some (.full,0,row)) (hy:YW ρ true y=some (q,.d dy)) (hel:ZbI sz dy=some (m,row2)) (hp:p) (hq:q) (hm:0<m)
  (hb:m*b≤140737488355328) (hbig:m≤big)
  (h:∀ c cap,s c=none→m≤cap→Zb6 false fl s (s.upd c (.cells ((List.range m).flatMap row2++List.replicate ((cap-m)*sz) .any))) L L B ∧
   DOA F kp dk os (Wi ρ o.dst (.d (.msl c 0 m cap sz))) L (s.upd c (.cells ((List.range m).flatMap row2++List.replicate ((cap-m)*sz) .any))) (ZdC false fl B)) :
  DOA F kp dk ((o,fl)::os) ρ L s B:=by
 refine Zej (fun e' s'=>∃ c cap,s c=none∧m≤cap∧e' = .d (.msl c 0 m cap sz)∧s'=s.upd c (.cells ((List.range m).flatMap row2++List.replicate ((cap-m)*sz) .any))) (by rw [hk];rfl) (fun ρ' L' os' hag hcont=>?_) (fun e2 s2 ⟨c,cap,h1,h2,h3,h4⟩=>by
  subst h3;subst h4
  have:=h c cap h1 h2
  cases fl<;>exact this)
 have h1:YV ρ ρ' (Kl x):=fun t ht=>hag t (by simp [YO,hk,KX,ht])
 have h2:YV ρ ρ' (Kl y):=fun t ht=>hag t (by simp [YO,hk,KX,ht])
 have h3:YV ρ ρ' (ZdR o.guard):=fun t ht=>hag t (by simp [YO,ht])
 exact Zs7 (by rw [Jm h3];exact hg) hk (by rw [Wo h1];exact hx) hsl (by rw [Wo h2];exact hy) hel hp hq hm hb hbig fun c cap hc hle=>hcont _ _ ⟨c,cap,hc,hle,rfl,rfl⟩
end
end Go.DL
namespace Go.DL
open Go
theorem Zd3.agg {t:St} {Ln:List Nat} {l l':List D} (h:LdC t Ln l l'):Zd3 t Ln (.agg l) (.agg l'):=by
 intro g w v hf hr
 cases hr with
 | agg vs _ hn hc one =>
  refine .agg vs _ (hn.trans h.len) (fun i v d hv hd=>?_) one
  obtain⟨x,hx,hle⟩:=h.get hd
  exact hle g w v hf (hc i v x hv hx)
section
variable {P:Program}
inductive SC (N:Nat→Prop):D→Prop where
 | int (k:IntKind) (n:Int):SC N (.int k n)
 | bool (b:Bool):SC N (.bool b)
 | str (l:List UInt8):SC N (.str l)
 | nilsl:SC N .nilsl
 | agg (cs:List D) (h:∀ c∈cs,SC N c):SC N (.agg cs)
 | tup (cs:List D) (h:∀ c∈cs,SC N c):SC N (.tup cs)
 | sl0 (t:Tok) (s:Nat) (row:Nat→List D):SC N (.sl t 0 s row)
 | tip (b n s:Nat) (row:Nat→List D) (hb:N b) (h:∀ i,i<n→∀ c∈row i,SC N c):SC N (.sl (.tip b) n s row)
 | ptr (b o:Nat):SC N (.ptr b o)
 | msl (b o n cap s:Nat):SC N (.msl b o n cap s)
 | fn (f:Fn) (a b:List D) (ha:∀ c∈a,SC N c) (hb:∀ c∈b,SC N c):SC N (.fn f a b)
 | nilptr:SC N .nilptr
 | map (b:Nat):SC N (.map b)
 | nilmap:SC N .nilmap
 | nilfn:SC N .nilfn
 | niliface:SC N .niliface
theorem SC.rep {N:Nat→Prop} {d:D} (h:SC N d):∀ {g g':G} {w:World} {v:Value},(∀ b,N b→g.prot b≤g'.prot b)→Rep g w v d→Rep g' w v d:=by
 induction h with
 | int k n=>intro g g' w v _ hr;cases hr with | int _ _ h=>exact .int k n h
 | bool b=>intro g g' w v _ hr;cases hr;exact .bool b
 | str l=>intro g g' w v _ hr;cases hr with | str s _ h hb=>exact .str s l h hb
 | nilsl=>intro g g' w v _ hr;cases hr;exact .nilsl
 | agg cs _ ih =>
  intro g g' w v hp hr
  cases hr with
  | agg vs _ hn hc one=>exact .agg vs cs hn (fun i v d hv hd=>ih d (List.mem_of_getElem? hd) hp (hc i v d hv hd)) one
 | tup cs _ ih =>
  intro g g' w v hp hr
  cases hr with
  | tup vs _ hn hc=>exact .tup vs cs hn (fun i v d hv hd=>ih d (List.mem_of_getElem? hd) hp (hc i v d hv hd))
 | sl0 t s row =>
  intro g g' w v hp hr
  cases hr with
  | sl0 _ _ _ _ ht=>exact .sl0 _ t s row ht
  | sl b o n cap sz _ t f hl hc hpp hrr one ht hcap hb =>
   exact .sl b o 0 cap s row t f hl hc (fun i j hi=>by omega) (fun i j d hi=>by omega) one ht hcap hb
 | tip b n s row hb _ ih =>
  intro g g' w v hp hr
  cases hr with
  | sl0 _ _ _ _ ht=>exact .sl0 _ _ s row ht
  | sl b' o n cap sz _ t f hl hc hpp hrr one ht hcap hbig =>
   have hbb:b'=b:=ht.1
   subst hbb
   exact .sl b' o n cap s row (.tip b') f hl hc (fun i j hi hj=>Nat.lt_of_lt_of_le (hpp i j hi hj) (hp _ hb)) (fun i j d hi hd=>ih i hi d (List.mem_of_getElem? hd) hp (hrr i j d hi hd)) one ht hcap hbig
 | ptr b o=>intro g g' w v _ hr;cases hr;exact .ptr b o
 | msl b o n cap s=>intro g g' w v _ hr;cases hr with | msl _ _ _ _ _ h hb=>exact .msl b o n cap s h hb | mslx a _ _ _=>exact .mslx a _ _ _
 | fn f a b _ _ iha ihb =>
  intro g g' w v hp hr
  cases hr with
  | fn _ fs cs _ _ hnf hnc hf hc=>exact .fn f fs cs a b hnf hnc (fun i v d hv hd=>iha d (List.mem_of_getElem? hd) hp (hf i v d hv hd)) (fun i v d hv hd=>ihb d (List.mem_of_getElem? hd) hp (hc i v d hv hd))
 | nilptr=>intro g g' w v _ hr;cases hr;exact .nilptr
 | map b=>intro g g' w v _ hr;cases hr;exact .map b
 | nilmap=>intro g g' w v _ hr;cases hr;exact .nilmap
 | nilfn=>intro g g' w v _ hr;cases hr;exact .nilfn
 | niliface=>intro g g' w v _ hr;cases hr;exact .niliface
def SCO (N:Nat→Prop):KC→Prop
 | .cells ds=>∀ d∈ds,SC N d
 | .map es=>∀ e∈es,SC N e.1∧SC N e.2
 | .tip _=>True
 | .dfr=>True
 | _=>False
theorem SCO.ok {N:Nat→Prop} {o:KC} (h:SCO N o) {g g':G} {w:World} {b:Nat} (hp:∀ b,N b→g.prot b≤g'.prot b) (hpb:g'.prot b=g.prot b) (hr:Jk g w b o):Jk g' w b o:=by
 cases o with
 | cells ds =>
  obtain⟨h0,vs,T,h1,h2,h3,h4⟩:=hr
  exact⟨hpb.trans h0,vs,T,h1,h2,fun i v d hv hd=>(h d (List.mem_of_getElem? hd)).rep hp (h3 i v d hv hd),h4⟩
 | map es =>
  obtain⟨h0,en,cl,h1,h2,h3,h4,h5,h6⟩:=hr
  exact⟨hpb.trans h0,en,cl,h1,h2,fun i x d hv hd=>(h d (List.mem_of_getElem? hd)).1.rep hp (h3 i x d hv hd),fun i x d hv hd=>(h d (List.mem_of_getElem? hd)).2.rep hp (h4 i x d hv hd),h5,h6⟩
 | tip k =>
  obtain⟨h0,x⟩:=hr
  exact⟨hpb.trans h0,x⟩
 | dfr=>exact⟨hpb.trans hr.1,hr.2⟩
 | mapE _ _ _ _=>exact h.elim
 | loop _ _=>exact h.elim
def SCR (N:Nat→Prop):Res→Prop
 | .ret d=>SC N d
 | .panic d=>SC N d
theorem Wh.ldC {g:G} {w:World} {t:St} {Ln:List Nat} (hf:∀ b∈Ln,∀ ds,t b=some (.cells ds)→ZqZ g w b ds) {vs:List Value} {a a':List D} (h:Wh (Rep g w) vs a) (hl:LdC t Ln a a'):Wh (Rep g w) vs a':=by
 induction hl generalizing vs with
 | nil=>cases h;exact .nil
 | cons h1 _ ih=>cases h with | cons h2 h3=>exact .cons (h1 _ _ _ hf h2) (ih h3)
theorem Yf.lend {f:FuncId} {args args':List D} {t:St} {Ln:List Nat} {Φ:Res→St→Prop} (hL:∀ b∈Ln,∃ ds,t b=some (.cells ds)) (hl:LdC t Ln args args')
  (h:Yf P f args' (fun _=>none) Φ) (hΦ:∀ r S,Φ r S→SCR (fun b=>(S b).isSome=true) r∧∀ b o,S b=some o→SCO (fun b=>(S b).isSome=true) o) :
  Yf P f args t fun r S=>∃ S',Φ r S'∧WX S' t∧S=S'.or t:=by
 refine⟨h.1,fun g w vs hs ha=>?_⟩
 have hx:=Zmx hs hL
 have hat:=Zrr hs hL
 have ha1:Wh (Rep (ZiU g t Ln) w) vs args':=Wh.ldC hat (ha.imp fun _ _ h=>Rep.mono h hx) hl
 have hst:KS ((ZiU g t Ln).keep fun b=>g.kept b∨(t b).isSome=true) (fun _=>none) w:=by
  refine⟨fun b o hb=>by simp at hb,fun b o hb=>by simp at hb,fun b hb=>?_⟩
  have h1:=hs.fresh b hb
  have htb:t b=none:=by
   cases htb:t b with
   | none=>rfl
   | some o=>have:=(hs.obj b o htb).lt;omega
  have hbL:b ∉ Ln:=fun hm=>by obtain⟨ds,hd⟩:=hL b hm;rw [htb] at hd;simp at hd
  exact⟨by show (ZiU g t Ln).prot b=0;simp only [ZiU,if_neg hbL];exact h1.1,fun hk=>by rcases hk with hk | hk;exact h1.2 hk;rw [htb] at hk;simp at hk⟩
 refine (h.2 _ w vs hst (ha1.imp fun _ _ h=>Zaq h)).mono fun e w' hp=>?_
 obtain⟨g',S',r,he,hS,hr,hq⟩:=hp
 have hkeq:=he.keptEq
 obtain⟨hscr,hsco⟩:=hΦ r S' hq
 have hd':WX S' t:=fun b o hb=>by
  cases hsb:S' b with
  | none=>rfl
  | some x=>exact absurd (by rw [hkeq];exact .inr (by rw [hb];rfl)) (hS.kept b x hsb)
 have hnL:∀ b,(S' b).isSome=true→b ∉ Ln:=fun b hb hm=>by
  obtain⟨ds,hd⟩:=hL b hm
  rw [hd' b _ hd] at hb;simp at hb
 let g2:G:={ prot:=fun b=>if b∈Ln then 0 else g'.prot b,kept:=g.kept }
 have hp2:∀ b,(S' b).isSome=true→g'.prot b≤g2.prot b:=fun b hb=>by simp only [g2,if_neg (hnL b hb)];exact ZuO _
 have hf:∀ b,b ∉ Ln→(ZiU g t Ln).prot b=g.prot b:=fun b hb=>by simp only [ZiU,if_neg hb]
 have hg0:∀ b,b∈Ln→g.prot b=0:=fun b hb=>by obtain⟨ds,hd⟩:=hL b hb;exact (hs.obj b _ hd).1
 have he2:Ext g w g2 w':=by
  refine⟨he.size,fun b=>?_,fun b o ho=>?_,he.hdr,fun b hb=>he.kept b (.inl hb),fun b hb=>?_,rfl,he.os,he.output,he.tape⟩
  ·simp only [g2]
   split
   ·rename_i hb;rw [hg0 b hb];exact ZuO _
   ·rename_i hb;rw [← hf b hb];exact he.prot b
  ·have hb:b ∉ Ln:=fun hb=>by rw [hg0 b hb] at ho;omega
   exact he.cell b o (by show o<(ZiU g t Ln).prot b;rw [hf b hb];exact ho)
  ·have hbL:b ∉ Ln:=fun hm=>by obtain⟨ds,hd⟩:=hL b hm;exact hs.kept b _ hd hb
   simp only [g2,if_neg hbL]
   rw [← hf b hbL];exact he.keptProt b (.inl hb)
 have hg'0:∀ b,w'.heap.size≤b→g'.prot b=0∧¬ g'.kept b:=fun b hb=>hS.fresh b hb
 refine⟨g2,S'.or t,r,he2,⟨fun b o hb=>?_,fun b o hb=>?_,fun b hb=>?_⟩,?_,S',hq,hd',rfl⟩
 ·cases hsb:S' b with
  | some x =>
   rw [Yv hsb] at hb;cases hb
   have hbN:(S' b).isSome=true:=by rw [hsb];rfl
   exact (hsco b _ hsb).ok hp2 (by simp only [g2,if_neg (hnL b hbN)]) (hS.obj b _ hsb)
  | none =>
   rw [YR hsb] at hb
   have hk:g.kept b∨(t b).isSome=true:=.inr (by rw [hb];rfl)
   refine (hs.obj b o hb).mono he2 (he.kept b hk) ?_
   by_cases hbL:b∈Ln
   ·simp only [g2,if_pos hbL];exact (hg0 b hbL).symm
   ·simp only [g2,if_neg hbL];rw [← hf b hbL];exact he.keptProt b hk
 ·cases hsb:S' b with
  | some x=>exact fun hk=>hS.kept b x hsb (by rw [hkeq];exact .inl hk)
  | none=>rw [YR hsb] at hb;exact hs.kept b o hb
 ·have:=hS.fresh b hb
  refine⟨?_,fun hk=>this.2 (by rw [hkeq];exact .inl hk)⟩
  simp only [g2]
  split
  ·rfl
  ·exact this.1
 ·cases e<;>cases r<;>simp only [Zq1] at hr ⊢
  ·exact SC.rep hscr hp2 hr
  ·obtain⟨v,h1,h2⟩:=hr;exact⟨v,h1,SC.rep hscr hp2 h2⟩
end
end Go.DL
namespace Go.DL
open Go Go.ChangeShapes Go.RowKit Go.WideShapes Go.ChangeAt
section
variable {H:Type} {enc:TypeId × Value→H} {P:Program} {w:World}
theorem Zs5 {t:TypeId} {R:List D→Prop} {Q:D→Prop} (h1:∀ W base v,Value.okWide P W .any base t v→v.cells = #[v]) (h:∀ W,JH enc P W t R) (hq:∀ ds,R ds→∃ x,ds=[x]∧Q x):ZlT enc P t Q:=by
 intro W base v d ps hok ⟨fuel,hf⟩
 rw [h1 _ _ _ hok] at hf
 obtain⟨ds,h2,h3,_⟩:=h W _ _ _ hf
 obtain⟨x,rfl,hx⟩:=hq ds h2
 cases h3 with | cons h4 _=>exact⟨x,hx,h4⟩
theorem Zs4 {t:TypeId} {k:IntKind} (ht:P.underlying t=some (.int k)):ZlT enc P t fun x=>∃ n,x = .int k n :=
 Zs5 (fun W base v hok=>by obtain⟨a,rfl⟩:=okWide_int ht hok;rfl) (fun W=>Zcy ht) fun ds ⟨n,hn⟩=>⟨_,hn,n,rfl⟩
end
end Go.DL
namespace Go.Proofs.YtmnhlhenahlilaaGreat
open Go Go.DL Go.ChangeShapes Go.WideShapes Go.ChangeAt Go.RowKit
set_option linter.unusedVariables false
theorem arg_Dfn {H:Type} {enc:TypeId × Value→H}:ZlT enc Zuv 24 fun x=>∃ ds,(∃ d:Dfn,ds=d.cells)∧x = .agg ds:=Zq2 Tryz.underlying24 fun W=>ZsE
theorem arg_Int {H:Type} {enc:TypeId × Value→H}:ZlT enc Zuv 3 fun x=>∃ n,x = .int .i64 n:=Zs4 Tryz.underlying3
end Go.Proofs.YtmnhlhenahlilaaGreat
namespace Go.DL
open Go
section
variable {P:Program}
theorem Zth {g:G} {w:World} {s:St} {t:Tok} {sz n m:Nat} {v1 v2:Value} {row row2:Nat→List D} {tT u ty e:TypeId} {tu:TypeDesc} {i:TypeInfo} {z:Value} (ht:P.underlying tT=some (.slice e)) (hu:P.underlying u=some tu) (hnu:∀ k,tu≠.int k)
  (hi:P.info? e=some i) (hz:i.zero=some z) (hsz:i.size=sz) (hzc:z.cells.size=sz) (h0:0<sz) (hs:KS g (s.own t (n*sz)) w) (hok:t.okIn s) (h1:Rep g w v1 (.sl t n sz row)) {news:List Value}
  (h2:Jr g w sz m news row2) (h3:ZdK P w sz m v2 news) (hm:0<m) (hb:(n+m)*i.bytes≤140737488355328) (hbig:n+m≤big) :
  ∃ v' w' g' t',(Builtin.append_ #[tT,u] ty #[v1,v2]).run P w = .ok v' w'∧Ext g w g' w'∧KS g' (s.own t' ((n+m)*sz)) w'∧t'.okIn s∧Rep g' w' v' (.sl t' (n+m) sz (QN n row row2)) ∧
   (∀ b,b<w.heap.size→t≠.tip b→w'.heap[b]? = w.heap[b]?∧g'.prot b=g.prot b)∧(∀ b,t' = .tip b→t = .tip b∨w.heap.size≤b)∧∃ b,t' = .tip b:=by
 subst hsz
 have hs0:KS g s w:=hs.sub (Zl hok)
 obtain⟨olds,hr1,ho1,ho2⟩:=Zke (P:=P) h1 h0
 have hrr:=hr1.append h2
 have grown:∀ base cap,v1 = .slice base n cap→cap<n+m→∃ v' w' g' t',(Builtin.append_ #[tT,u] ty #[v1,v2]).run P w = .ok v' w'∧Ext g w g' w'∧KS g' (s.own t' ((n+m)*i.size)) w'∧t'.okIn s ∧
   Rep g' w' v' (.sl t' (n+m) i.size (QN n row row2))∧(∀ b,b<w.heap.size→t≠.tip b→w'.heap[b]? = w.heap[b]?∧g'.prot b=g.prot b)∧(∀ b,t' = .tip b→t = .tip b∨w.heap.size≤b)∧∃ b,t' = .tip b:=by
  intro base cap hv hlt
  subst hv
  have hrun:=Zqc (ty:=ty) ht hu hnu hi hz h3 ho2 hlt (by simp only [big] at hbig;omega) hb
  have hge:=grownCap_ge w (n+m) cap e
  have hle:=grownCap_le_maxLen w (n+m) cap e (by simp only [big] at hbig;simp only [maxLen];omega)
  have hn:=ZnY (T:=e) (rest:=(Builtin.zeroCells z.cells (grownCap w (n+m) cap e-(n+m))).toList) hs0 hrr hge (by
   simp only [Array.length_toList,size_zeroCells,hzc,hrr.len,← Nat.add_mul];congr 1;omega) (by simp only [maxLen] at hle;simp only [big];omega)
  obtain⟨a1,a2,a3,a4⟩:=hn
  exact⟨_,_,_,_,hrun,a1.ext hs0.fresh,a2,a3,a4,fun b hb _=>⟨a1.old b hb,a1.prot b hb⟩,fun b hb=>.inr (by simp only [Tok.tip.injEq] at hb;omega),_,rfl⟩
 cases h1 with
 | sl0 a t s row htt =>
  exact grown a 0 rfl (by omega)
 | sl b o n cap sz row t f hl hc hp hr one htok hcap hb' =>
  have hgr:=grown (some ⟨b,o,none⟩) cap rfl
  by_cases hroom:n+m≤cap
  case neg=>exact hgr (by omega)
  cases t with
  | none=>exact hok.elim
  | full=>simp only [Zjn] at htok;omega
  | tip tb =>
   obtain⟨rfl,rfl,T0,m0,hh,hm0⟩:=htok
   have hobj:=hs.obj b (.tip (n*i.size)) (by simp [St.own,St.upd])
   have hkept:=hs.kept b (.tip (n*i.size)) (by simp [St.own,St.upd])
   obtain⟨hp0,cur,T,hb1,hb2⟩:=hobj
   have hcs:cap*i.size≤cur.size:=by
    simp only [hdr,hb1,Zuu,Zuz] at hh
    omega
   have hfit:n*i.size+news.length≤cur.size:=by
    rw [h2.len,← Nat.add_mul];exact Nat.le_trans (Nat.mul_le_mul_right _ hroom) hcs
   have hrun:=Zqd (ty:=ty) ht hu hnu hi h3 hb1 (fun v hv=>by rw [ZhT];exact h2.one v hv) hroom hfit
   have hcells:∀ k v,(cur.toList.take (n*i.size))[k]? = some v→w.cell? ((⟨b,0,none⟩:Addr).add k)=some v:=fun k v hv=>by
    rw [JA,Zcu hb1,Nat.zero_add]
    rw [List.getElem?_take] at hv
    split at hv
    ·simpa using hv
    ·simp at hv
   have hol:olds=cur.toList.take (n*i.size):=by
    have h:=run_firstCells_some (P:=P) w i.size n ⟨b,0,none⟩ n cap (cur.toList.take (n*i.size)) (by simp;omega) hcells
    rw [ho2 w rfl] at h
    simpa using h
   generalize hnw:cur.toList.take (n*i.size)++news++cur.toList.drop (n*i.size+news.length)=nw at hrun
   have hnl:nw.length=cur.size:=by
    rw [← hnw];simp only [ZuF,List.length_take,List.length_drop,Array.length_toList];omega
   have hh':=setRow_heap w b cur nw.toArray T (0,0) hb1
   have ho':∀ c,c≠b→(w.setRow b nw.toArray).heap[c]? = w.heap[c]?:=fun c hc=>setRow_other w b c _ hc
   have hsz':(w.setRow b nw.toArray).heap.size=w.heap.size:=by simp [World.setRow]
   have hk2:n*i.size≤(n+m)*i.size:=Nat.mul_le_mul_right _ (by omega)
   have hext:Ext g w (ZaZ g b ((n+m)*i.size)) (w.setRow b nw.toArray):=by
    refine⟨by omega,fun c=>?_,fun c o ho=>?_,fun c x hx=>?_,fun c hc=>ho' c (fun h=>hkept (h ▸ hc)),fun c hc=>?_,rfl,rfl,rfl,rfl⟩
    ·simp only [ZaZ]
     split
     ·rename_i h;rw [h,hp0];exact hk2
     ·exact ZuO _
    ·by_cases hc:c=b
     ·subst hc
      rw [Zcu hh',Zcu hb1]
      rw [hp0] at ho
      have:o<(cur.toList.take (n*i.size)).length:=by simp;omega
      rw [List.getElem?_toArray,← hnw,List.append_assoc,List.getElem?_append_left this,List.getElem?_take,if_pos ho]
      simp
     ·exact ZbF (ho' c hc)
    ·by_cases hc:c=b
     ·subst hc
      simp only [hdr,hb1] at hx
      simp only [hdr,hh',List.size_toArray,hnl];exact hx
     ·rw [Zb5 (ho' c hc)];exact hx
    ·simp only [ZaZ]
     split
     ·rename_i h;exact absurd hc (h ▸ hkept)
     ·rfl
   have hp':(ZaZ g b ((n+m)*i.size)).prot b=(n+m)*i.size:=by simp [ZaZ]
   refine⟨_,_,ZaZ g b ((n+m)*i.size),.tip b,hrun,hext,?_,hok,?_,fun c _ hc=>?_,fun c hc=>.inl hc,_,rfl⟩
   ·refine⟨fun c x hx=>?_,fun c x hx=>?_,fun c hc=>?_⟩
    ·by_cases hc:c=b
     ·subst hc
      simp only [St.own,St.upd,if_true,Zuu] at hx
      subst hx
      refine⟨hp',_,T,hh',?_⟩
      simp only [List.size_toArray,hnl]
      exact Nat.le_trans (Nat.mul_le_mul_right _ hroom) hcs
     ·simp only [St.own,St.upd,hc,if_false] at hx
      exact (hs0.obj c x hx).mono hext (ho' c hc) (by simp [ZaZ,hc])
    ·by_cases hc:c=b
     ·rw [hc];exact hkept
     ·simp only [St.own,St.upd,hc,if_false] at hx
      exact hs0.kept c x hx
    ·rw [hsz'] at hc
     have hbl:b<w.heap.size:=(Array.getElem?_eq_some_iff.1 hb1).1
     simp only [ZaZ,show ¬ c=b by omega,if_false]
     exact hs0.fresh c hc
   ·refine Zgg (hrr.mono hext) hh' ?_ hroom (by simp only [List.size_toArray,hnl];exact hcs) hp' hb'
    have hl2:(olds++news).length=(n+m)*i.size:=hrr.len
    rw [← hnw,hol,← hl2,hol]
    exact List.take_left
   ·have:c≠b:=fun h=>hc (by rw [h])
    exact⟨ho' c this,by simp [ZaZ,this]⟩
theorem Ztf {F:Fr P} {kp:Option (List Nat)} {dk:List Z4} {o:DOp} {os:List DOp} {ρ:Env} {L:Loc} {s:St} (hg:Yu ρ o.guard=some true) {e sz b:Nat} {z:List D} {x y:Opd} (hk:o.k = .append e sz b z x y)
  {p q:Prop} {t:Tok} {n m:Nat} {row row2:Nat→List D} {dy:D} {dx:D} (hx:YW ρ true x=some (p,.d dx)) (hsl:ZfS sz dx=some (t,n,row)) (hy:YW ρ true y=some (q,.d dy)) (hp:p) (hq:q) (hel:ZbI sz dy=some (m,row2)) (hok:t.okIn s)
  (hm:0<m) (hb:(n+m)*b≤140737488355328) (hbig:n+m≤big) (h:∀ c,s c=none→DO F kp dk os (Wi ρ o.dst (.d (.sl (.tip c) (n+m) sz (QN n row row2)))) L (s.own (.tip c) ((n+m)*sz))) :
  DO F kp dk (o::os) ρ L (s.own t (n*sz)):=by
 refine Jt fun oo g ν w tmps ops i r k hoo hck hcg hdst hd hN M hr hkk=>?_
 have hw:=Qc M hcg hg
 have hnd:=Qw hck (by rw [hk];rfl)
 rw [hk] at hck
 obtain⟨x',y',args,ats,t1,t2,tu,hop,hargs,ha1,ha2,hu1,hu2,hnu,hsz,hz,hbb,hx',hy',h0,hzl⟩:=Zk0 hck
 subst hbb
 have hr1:Rep g w _ (.sl t n sz row):=ZnZ (K2 M hx' rfl hx hp F.ds) hsl
 have hr2:Rep g w _ _:=K2 M hy' rfl hy hq F.ds
 obtain⟨zv,hz1,hz2,hz3,ie,hie,hzz⟩:=Zdw (g:=g) (w:=w) hz
 have hsize:ie.size=sz:=by simpa [WW,hie] using hsz
 have hzlen:zv.cells.size=sz:=by have:=hz2.len;simp at this;omega
 have hby:P.bytesOf e=ie.bytes:=by simp [Program.bytesOf,hie]
 rw [hby] at hb
 obtain⟨news,hn1,hn2⟩:=Zqv (P:=P) hr2 hel h0
 obtain⟨v',w',g',t',a1,a2,a3,a4,a5,a6,a7,c',ht'⟩:=Zth (ty:=oo.type) hu1 hu2 hnu hie hzz hsize hzlen h0 M.st hok hr1 hn1 hn2 hm hb hbig
 subst ht'
 have hne:∀ l cs,ZU L l=some cs→t≠.tip (ν l):=fun l cs hl ht=>by
  have:=M.locSt l cs hl
  rw [ht] at this
  simp [St.own,St.upd] at this
 have hsn:∀ l cs,ZU L l=some cs→s (ν l)=none:=fun l cs hl=>by
  cases hx:s (ν l) with
  | none=>rfl
  | some o=>have:=Zl (k:=n*sz) hok _ _ hx;rw [M.locSt l cs hl] at this;simp at this
 have mm:Yg g' ν w' tmps ρ L (s.own (.tip c') ((n+m)*sz)):=by
  refine⟨a3,fun l cs hl=>(M.loc l cs hl).mono a2 (a6 (ν l) (M.loc l cs hl).lt (hne l cs hl)).1 (a6 (ν l) (M.loc l cs hl).lt (hne l cs hl)).2,fun l cs hl=>by rw [a2.keptEq];exact M.locKept l cs hl,fun l cs hl=>?_,M.inj,fun t e he=>(M.env t e he).mono a2⟩
  have:¬ ν l=c':=fun hb=>by
    rcases a7 c' rfl with h1 | h1
    ·exact hne l cs hl (by rw [hb];exact h1)
    ·have:=(M.loc l cs hl).lt;omega
  simp only [St.own,St.upd,this,if_false];exact hsn l cs hl
 refine JL hN hoo hdst hd hw hnd (v:=v') (w':=w') (e:=.d (.sl (.tip c') (n+m) sz (QN n row row2))) ?_ a2 mm a5 (h c' a4 ops r k hr hkk)
 have hae:args = #[x',y']:=by apply Array.ext';simpa using hargs
 have hats:∀ vs,Builtin.append_ ats oo.type vs=Builtin.append_ #[t1,t2] oo.type vs:=fun vs=>by
  unfold Builtin.append_;simp [ha1,ha2]
 unfold execOp
 simp only [hop,hae,resolve,invoke,builtin,Sem.run_bind,Sem.run_pure,Result.andThen_ok,List.map_toArray,List.map_cons,List.map_nil,hats,a1]
theorem Zti {F:Fr P} {kp:Option (List Nat)} {dk:List Z4} {o:DOp} {os:List DOp} {ρ:Env} {L:Loc} {s0:St} (s:St) (t:Tok) (hg:Yu ρ o.guard=some true) {e sz b:Nat} {z:List D} {x y:Opd} (hk:o.k = .append e sz b z x y)
  {p q:Prop} {n m:Nat} {row row2:Nat→List D} {dy:D} {dx:D} (hx:YW ρ true x=some (p,.d dx)) (hsl:ZfS sz dx=some (t,n,row)) (hy:YW ρ true y=some (q,.d dy)) (hel:ZbI sz dy=some (m,row2)) (hp:p) (hq:q) (hs:s0=s.own t (n*sz)) (hok:t.okIn s)
  (hm:0<m) (hb:(n+m)*b≤140737488355328) (hbig:n+m≤big) (h:∀ c,s c=none→DO F kp dk os (Wi ρ o.dst (.d (.sl (.tip c) (n+m) sz (QN n row row2)))) L (s.own (.tip c) ((n+m)*sz))) :
  DO F kp dk (o::os) ρ L s0:=by
 subst hs;exact Ztf hg hk hx hsl hy hp hq hel hok hm hb hbig h
end
end Go.DL
namespace Go.DL
open Go
section
variable {P:Program}
theorem ZsW {F:Fr P} {rs:List RV} {Φ:Res→St→Prop} {dds:List DD} (hF:Ql F rs Φ dds) {o:Opd} {ps:List Nat} {da db:DC} {dk:List Z4} {ρ:Env} {L:Loc} {p:Prop} {fv:D} (hf:YW ρ true o=some (p,.d fv)) (hp:p)
  (ks:List Nat) (hks:(QA ρ ks).map (·.1) |>.Nodup) {a0:St} {n:Nat} {args:Nat→List D} (hit:∀ (y:D) (go:Nat→Oc) (A:Nat→St→Prop) (a':St),a0.sub a'→Zdb P y n args go A→A 0 a'→J0 P fv [y] a' fun r S=>∃ a,Zjj n go A a r∧a.sub S) (hlen:∀ j,j<n→(args j).length=ps.length) (go:Nat→Oc) (B:Nat→St→Prop) (h0:B 0 a0)
  (hbody:∀ j a,j<n→(∀ i,i<j→go i = .next)→B j a→∀ (F':Fr P) (ready busy:St),WX a ready →
   (∀ {dk:List Z4} {ρ:Env} {L:Loc},(WX a busy→ZT F' dk ρ L (a.or busy))→ZT F' (.beginR::dk) ρ L (a.or ready)) →
   Zl4 F' busy (fun oc a'=>oc=go j∧B (j+1) a')→ZT F' [.code da,.beginR,.code db] (ZaE ps (args j) (Zbe ks ρ)) [] (a.or ready))
  (hall:∀ q a,(∀ i,i<n→go i = .next)→B n a→a q=none→ZT (F.mark q) dk ρ L (a.upd q .dfr))
  (hret:∀ q a m,m<n→(∀ i,i<m→go i = .next)→go m = .stop .ret→B (m+1) a→a q=none→ZT (F.mark q) (.code .ret::dk) ρ L (a.upd q .dfr))
  (hexit:∀ q a m id,m<n→(∀ i,i<m→go i = .next)→go m = .stop (.exit id)→B (m+1) a→a q=none→ZT (F.mark q) (.code (.exit id)::dk) ρ L (a.upd q .dfr))
  (hpan:∀ q a m d,m<n→(∀ i,i<m→go i = .next)→go m = .pan d→B (m+1) a→a q=none→QM (F.mark q) ρ L d (a.upd q .dfr))
  (hgo:∀ m c,go m = .stop c→c = .ret∨∃ id,c = .exit id) :
  ZT F (.code (.rangeF o ps da db)::dk) ρ L a0:=by
 refine Zl1 hF.roundOf hf hp ks hks fun q l r hq hl hql hr1 hr2 hr3 hca hcb hr4 hps=>?_
 have hq1:a0 q=none:=hq
 have hl1:a0 l=none:=hl
 let stOf:Nat→LSt:=fun j=>match j with
  | 0=>.ready
  | j+1=>match go j with
   | .next=>.ready
   | .stop c=>.done c
   | .pan _=>.busy
 let A:Nat→St→Prop:=fun j S=>∃ a,B j a∧WX a (lpS q l r .ready)∧S=a.or (lpS q l r (stOf j))
 have hd0:WX a0 (lpS q l r .ready):=fun b o hb=>by
  by_cases h1:b=q
  ·rw [h1];exact hq1
  ·by_cases h2:b=l
   ·rw [h2];exact hl1
   ·rw [ZeB h1 h2] at hb;simp at hb
 have hst:((a0.upd q .dfr).upd l (.loop r .ready))=a0.or (lpS q l r .ready):=by
  funext b
  simp only [St.upd]
  by_cases h2:b=l
  ·subst h2;rw [if_pos rfl,YR hl1];exact (J7 hql).symm
  ·rw [if_neg h2]
   by_cases h1:b=q
   ·subst h1;rw [if_pos rfl,YR hq1];exact Zbt.symm
   ·rw [if_neg h1]
    cases ha:a0 b with
    | some x=>rw [Yv ha]
    | none=>rw [YR ha];exact (ZeB h1 h2).symm
 have hex:=hF.ex
 have hcons:Zdb P (.fn (.yield l) [] []) n args go A:=by
  rintro j hj hnx S ⟨a,hBj,hda,rfl⟩
  have hsj:stOf j = .ready:=by
   cases j with
   | zero=>rfl
   | succ j=>simp only [stOf,hnx j (by omega)]
  rw [hsj]
  refine Zlt (an:=F.an) (N:=F.N) (r:=r) (by rw [YR (hda l _ (J7 hql))];exact J7 hql) (by rw [hr2];exact hlen j hj) hca hcb hr4 (by rw [hr2];exact hps) fun F' hF' hfn=>?_
  rw [hr1,hr2]
  refine hbody j a hj hnx hBj F' (lpS q l r .ready) (lpS q l r .busy) hda (fun hk=>hF'.begin (r:=r) (by rw [YR (hda l _ (J7 hql))];exact J7 hql) ?_) ?_
  ·have e:(a.or (lpS q l r .ready)).upd l (.loop r .busy)=a.or (lpS q l r .busy):=by
    funext b
    simp only [St.upd]
    by_cases h2:b=l
    ·subst h2;rw [if_pos rfl,YR (hda b _ (J7 hql)),J7 hql]
    ·rw [if_neg h2]
     by_cases h1:b=q
     ·subst h1;rw [YR (hda b _ Zbt),YR (hda b _ Zbt),Zbt,Zbt]
     ·cases ha:a b with
      | some x=>rw [Yv ha,Yv ha]
      | none=>rw [YR ha,YR ha,ZeB h1 h2,ZeB h1 h2]
   rw [e];exact hk (ZmB hda hql)
  ·refine ZnF hF' hql (by rw [hfn,hr3];exact hex) ?_
   rintro oc a' ⟨rfl,hB'⟩ hda'
   exact⟨rfl,a',hB',ZmB hda' hql,rfl⟩
 refine⟨_,by rw [hst];exact hit _ go A _ (Jf _ _) hcons ⟨a0,h0,hd0,rfl⟩,?_,?_⟩
 ·rintro d S ⟨S',hend,hsub⟩
  have fin:∀ a,WX a (lpS q l r .ready)→∀ st,(a.or (lpS q l r st)).sub S→S l=some (.loop r st)∧(a.upd q .dfr).sub (S.del l)∧a q=none:=fun a hda st hs=>by
   refine⟨hs l _ (by rw [YR (hda l _ (J7 hql))];exact J7 hql),fun b o hb=>?_,hda q _ Zbt⟩
   have hbl:b≠l:=fun e=>by
    subst e
    rw [ZuE _ _ (Ne.symm hql),hda b _ (J7 hql)] at hb;simp at hb
   simp only [St.del,hbl,if_false]
   by_cases h1:b=q
   ·subst h1;rw [ZuB] at hb;exact hs b o (by rw [YR (hda b _ Zbt),Zbt];exact hb)
   ·rw [ZuE _ _ h1] at hb;exact hs b o (Yv hb)
  cases hend with
  | all h ha =>
   obtain⟨a,hB,hda,rfl⟩:=ha
   have hsn:stOf n = .ready:=by
    cases n with
    | zero=>rfl
    | succ n=>simp only [stOf,h n (by omega)]
   rw [hsn] at hsub
   obtain⟨f1,f2,f3⟩:=fin a hda _ hsub
   exact .inl ⟨f1,Ku f2 (hall q a h hB f3)⟩
  | stop m c hm h hc ha =>
   obtain⟨a,hB,hda,rfl⟩:=ha
   have hsn:stOf (m+1) = .done c:=by simp only [stOf,hc]
   rw [hsn] at hsub
   obtain⟨f1,f2,f3⟩:=fin a hda _ hsub
   rcases hgo m c hc with rfl | ⟨id,rfl⟩
   ·exact .inr ⟨.ret,.ret,f1,rfl,Ku f2 (hret q a m hm h hc hB f3)⟩
   ·exact .inr ⟨.exit id,.exit id,f1,rfl,Ku f2 (hexit q a m id hm h hc hB f3)⟩
 ·rintro d S ⟨S',hend,hsub⟩
  cases hend with
  | pan m d hm h hc ha =>
   obtain⟨a,hB,hda,rfl⟩:=ha
   have hs:(a.upd q .dfr).sub S:=fun b o hb=>by
    by_cases h1:b=q
    ·subst h1;rw [ZuB] at hb;exact hsub b o (by rw [YR (hda b _ Zbt),Zbt];exact hb)
    ·rw [ZuE _ _ h1] at hb;exact hsub b o (Yv hb)
   exact Zol hs (hpan q a m d hm h hc hB (hda q _ Zbt))
end
end Go.DL
namespace Go.DL
open Go Go.Proofs
def Zs3 (n:Nat) (t:Tok):Prop:=0<n→∃ c,t = .tip c
theorem ZsS (l:List Dif) (hl:l.length≤1000000) {fv:D} {t st:St} (hd:WX st t) (hit:Zcj Zuv fv l.length (fun j=>[.agg (l.getD j default).cells]) t) :
  Yf Zuv ZH.id [.nilsl,fv] (st.or t) fun r S=>∃ tk row,Zs3 l.length tk∧tk.okIn st∧YE Dif.cells row l∧r = .ret (.sl tk l.length 2 row)∧S=st.own tk (l.length*2):=by
 refine Z2 ZH.ok fun F hF=>?_
 refine Za (Zb (Zc ?_))
 simp only [Eqs,reduceCtorEq,reduceIte,Zuq,Zur,ZH.r0]
 refine Za (Za ?_)
 refine YJ 2 rfl fun x hx=>?_
 simp only [reduceIte,YU,WM,delL]
 have hx1:st x=none:=by
  cases h:st x with
  | none=>rfl
  | some o=>rw [Yv h] at hx;simp at hx
 have hx2:t x=none:=by rw [YR hx1] at hx;exact hx
 rw [Zal]
 refine JG (b:=x) (Yv (ZuB _ _ _)) (.cons (Qa (t:=.full) (s:=2) (row:=fun _=>[]) (fun b h=>by cases h)) .nil) ?_
 rw [Zal,ZuQ]
 have hok0:ZcF st x .full:=⟨hx1,trivial,fun _=>hx1⟩
 have hd0:WX (Zak st x .full (0*2) (.cells [.sl .full 0 2 fun _=>[]])) t:=fun b o hb=>by
  have hbx:b≠x:=fun e=>by rw [e,hx2] at hb;simp at hb
  unfold Zak
  rw [ZuE _ _ hbx];exact hd b o hb
 rw [show st.upd x (.cells [.sl .full 0 2 fun _=>[]])=Zak st x .full (0*2) (.cells [.sl .full 0 2 fun _=>[]]) from rfl]
 refine Zb (Zc ?_)
 simp only [Eqs,reduceIte,Zuq,ZH.r1]
 refine Zj ?_
 refine ZbQ hF rfl trivial [2] (by show ([2]:List Nat).Nodup;decide) hd0 hit (fun j hj=>rfl) (fun _=>.next)
  (fun j a=>∃ tk row,Zs3 j tk∧ZcF st x tk∧YE Dif.cells row (l.take j)∧a=Zak st x tk (j*2) (.cells [.sl tk j 2 row])) ⟨.full,_,fun h=>absurd h (Nat.lt_irrefl 0),hok0,YE.nil,rfl⟩ ?_ ?_ ?_ ?_ ?_ ?_
 ·rintro j a hj hno ⟨tk,row,_,hok,hrow,rfl⟩ F' ready busy hdr hbeg hend
  simp only [Eqs,reduceIte,Zuq,ZaE,Zbe,Zcf,ZaK,List.isEmpty_nil]
  refine Zb (Zc ?_)
  simp only [Eqs,reduceIte,Zuq,Zur,Zus,ZH.r2,Dif.cells]
  refine hbeg fun hdb=>?_
  have gx:((Zak st x tk (j*2) (.cells [.sl tk j 2 row])).or busy) x=some (.cells [.sl tk j 2 row]):=Yv (ZuB _ _ _)
  refine Zj (Zb (Zc ?_))
  simp only [Eqs,reduceIte,Zuq,Zur,Zus,ZH.r3,gx]
  refine Zti _ tk rfl rfl rfl rfl rfl rfl (by trivial) (by trivial) hok.form (hok.okf hdb) (by decide) (by omega) (by unfold big;omega) fun t1 ht1=>Zc ?_
  have hnx:=hok.next (t1:=.tip t1) hdb ht1
  simp only [Eqs,reduceIte,Zuq,Zus,hnx.2.1,hnx.2.2.1]
  refine Zm ?_
  have htk:=Wz hj
  exact hend.fin (a:=Zak st x (.tip t1) ((j+1)*2) (.cells [.sl (.tip t1) (j+1) 2 (QN j row (Wy [.str [],.int .i64 0] ([0].zip [.agg [.str (l.getD j default).path,.int .i64 (l.getD j default).code]])))])) ⟨rfl,.tip t1,_,fun _=>⟨t1,rfl⟩,hnx.1,by rw [htk];exact hrow.snoc (x:=l.getD j default) rfl (by simp;omega),rfl⟩ (hnx.2.2.2 _ _) (Zuw _)
 ·rintro q a hno ⟨tk,row,htip,hok,hrow,rfl⟩ hq
  rw [ZuH] at hrow
  rw [J2 hq]
  have gx:((Zak st x tk (l.length*2) (.cells [.sl tk l.length 2 row])).or (ZuN q .dfr)) x=some (.cells [.sl tk l.length 2 row]):=Yv (ZuB _ _ _)
  refine Zm (Za (Zb (Zc ?_)))
  simp only [Eqs,reduceIte,Zuq,ZH.r4,gx]
  refine hF.ret1 hq _ (st.own tk (l.length*2)) rfl (by trivial) (Zux _) (Zuy _ (hok.xt _)) ⟨tk,row,htip,hok.ot,hrow,rfl,rfl⟩
 ·intro q a m hm hno hgo;simp at hgo
 ·intro q a m id hm hno hgo;simp at hgo
 ·intro q a m d hm hno hgo;simp at hgo
 ·intro m c hgo;simp at hgo
theorem ZsV (l:List Dif) (hl:l.length≤1000000) {fv:D} {t st:St} (hd:WX st t) (hit:Zcj Zuv fv l.length (fun j=>[.agg (l.getD j default).cells]) t) :
  Yf Zuv Yy.id [fv] (st.or t) fun r S=>∃ tk row,Zs3 l.length tk∧tk.okIn st∧YE Dif.cells row l∧r = .ret (.sl tk l.length 2 row)∧S=st.own tk (l.length*2):=by
 refine Z2 Yy.ok fun F hF=>?_
 refine Za (Zb (Zc ?_))
 simp only [Eqs,reduceCtorEq,reduceIte,Yy.r0]
 refine Za (Zb (Zc ?_))
 simp only [Eqs,reduceIte,Yy.r1]
 refine Yn rfl rfl rfl rfl rfl (by trivial) (by trivial) (by exact ZsS l hl hd hit) ?_ ?_
 ·rintro dv S ⟨tk,row,h1,h2,h3,h,rfl⟩
  cases h
  refine Zc ?_
  simp only [Eqs,reduceCtorEq,reduceIte,Zuq]
  exact hF.ret _ _ rfl (by trivial) (Zux _) (Zuw _) ⟨tk,row,h1,h2,h3,rfl,rfl⟩
 ·rintro dv S ⟨tk,row,h1,h2,h3,h,_⟩
  cases h
theorem ZsK (tk:Tok) (n:Nat) (row:Nat→List D) (st:St):Yf Zuv Y2.id [.sl tk n 2 row] st fun r S=>∃ x,st x=none∧r = .ret (.fn (.func 40) [] [.ptr x 0])∧S=st.or (ZuN x (.cells [.sl tk n 2 row])):=by
 refine Z2 Y2.ok fun F hF=>?_
 refine Za (Zb (Zc ?_))
 simp only [Eqs,reduceCtorEq,reduceIte,Zuq,Y2.r0]
 refine Za ?_
 refine YJ 1 rfl fun x hx=>?_
 simp only [reduceIte,YU,WM,delL]
 refine Zb (Zc ?_)
 simp only [Eqs,reduceIte,Zuq,Y2.r1]
 exact hF.ret _ _ rfl (by trivial) (Zux _) (Zuw _) ⟨x,hx,rfl,J2 hx⟩
def Zs1 (l:List Dif) (st:St) (q:Res) (S:St):Prop:=∃ x tk row,Zs3 l.length tk∧tk.okIn st∧(st.own tk (l.length*2)) x=none∧YE Dif.cells row l∧q = .ret (.fn (.func 40) [] [.ptr x 0])∧S=(st.own tk (l.length*2)).or (ZuN x (.cells [.sl tk l.length 2 row]))
theorem Zs2 (w r:Dfn) (st:St):Yf Zuv WO.id [.agg w.cells,.agg r.cells] st (Zs1 (Zfb w r) st):=by
 refine Z2 WO.ok fun F hF=>?_
 have hS:=Zfb.eq_1 w r
 have h1:=JW w st
 have h2:=JW r st
 have hnil:∀ x,st x=none→Zs1 [] st (.ret (.fn (.func 40) [] [.ptr x 0])) (st.or (ZuN x (.cells [.sl .full 0 2 fun _=>[]]))):=fun x hx=>⟨x,.full,_,fun h=>absurd h (Nat.lt_irrefl 0),trivial,hx,YE.nil,rfl,rfl⟩
 refine Za (Zb (Zc ?_))
 simp only [Eqs,reduceCtorEq,reduceIte,Zuq,Zur,WO.r0,ZuM]
 refine Za (Zb (Zc ?_))
 simp only [Eqs,reduceIte,Zuq,WO.r1]
 refine Za (Za (Zb (Zc ?_)))
 simp only [Eqs,reduceIte,Zuq,Zur,Zus,WO.r2]
 rw [show (D.agg [.str w.name,We w.msgs,.str w.start]) = .agg w.cells from rfl]
 by_cases hv:(Wt w && Wt r)=true
 ·rw [if_pos hv] at hS
  rw [hS] at hF
  rw [ZuA] at hv
  have hvw:=ZcE hv.1
  have hvr:=ZcE hv.2
  rw [hv.1] at h1
  rw [hv.2] at h2
  refine Wn rfl rfl rfl rfl rfl (by trivial) (by trivial) (by exact h1) (Zc ?_)
  simp only [Eqs,reduceIte,Zuq,Zur,Zus,ZuM]
  rw [show (D.agg [.str r.name,We r.msgs,.str r.start]) = .agg r.cells from rfl]
  refine Wn rfl rfl rfl rfl rfl (by trivial) (by trivial) (by exact h2) (Zc ?_)
  simp only [Eqs,reduceIte,Zuq]
  refine Ze rfl trivial (fun _=>?_) (fun h=>by simp at h)
  refine Zb (Zc ?_)
  simp only [Eqs,reduceIte,Zuq,Zur,Zus,WO.r3]
  rw [show (D.agg [.str w.name,We w.msgs,.str w.start]) = .agg w.cells from rfl,show (D.agg [.str r.name,We r.msgs,.str r.start]) = .agg r.cells from rfl]
  refine Yn rfl rfl rfl rfl rfl (by trivial) (by trivial) (by exact Zcw w r st) ?_ ?_
  ·rintro dv S ⟨z2,z3,n2,n3,hne,hq,rfl⟩
   cases hq
   refine Zc ?_
   simp only [Eqs]
   refine Yn rfl rfl rfl rfl rfl (by trivial) (by trivial) (by exact ZsV (KZ w r) (Nat.le_trans (Zl5 hvw hvr) (by omega)) (Zmr n2 n3) (ZbW hvw hvr hne)) ?_ ?_
   ·rintro dv S ⟨tk,row,htip,htk,hrow,hq,rfl⟩
    cases hq
    refine Zc ?_
    simp only [Eqs,reduceIte,Zuq]
    refine Za (Zb (Zc ?_))
    simp only [Eqs,reduceIte,WO.r4]
    refine Yn rfl rfl rfl rfl rfl (by trivial) (by trivial) (by exact ZsK tk (KZ w r).length row (st.own tk ((KZ w r).length*2))) ?_ ?_
    ·rintro dv S2 ⟨x,hx,hq,rfl⟩
     cases hq
     refine Zc ?_
     simp only [Eqs,reduceIte,Zuq]
     exact hF.ret _ _ rfl (by trivial) (Zux _) (Zuw _) ⟨x,tk,row,htip,htk,hx,hrow,rfl,rfl⟩
    ·rintro dv S2 ⟨x,hx,hq,_⟩
     cases hq
   ·rintro dv S ⟨tk,row,htip,htk,hrow,hq,_⟩
    cases hq
  ·rintro dv S ⟨z2,z3,n2,n3,hne,hq,_⟩
   cases hq
 ·rw [if_neg hv] at hS
  rw [hS] at hF
  by_cases hvw:Wt w=true
  ·have hvr:Wt r=false:=by simpa [hvw] using hv
   rw [hvw] at h1
   rw [hvr] at h2
   refine Wn rfl rfl rfl rfl rfl (by trivial) (by trivial) (by exact h1) (Zc ?_)
   simp only [Eqs,reduceIte,Zuq,Zur,Zus,ZuM]
   rw [show (D.agg [.str r.name,We r.msgs,.str r.start]) = .agg r.cells from rfl]
   refine Wn rfl rfl rfl rfl rfl (by trivial) (by trivial) (by exact h2) (Zc ?_)
   simp only [Eqs,reduceIte,Zuq]
   refine Ze rfl trivial (fun h=>by simp at h) (fun _=>?_)
   refine Zg ?_
   refine Za (Zb (Zc ?_))
   simp only [Eqs,reduceIte,Zuq,WO.r4]
   refine Yn rfl rfl rfl rfl rfl (by trivial) (by trivial) (by exact (Yf.leA (LeC.one (Qa (by simp))) (ZsK .full 0 (fun _=>[]) st))) ?_ ?_
   ·rintro dv S2 ⟨x,hx,hq,rfl⟩
    cases hq
    refine Zc ?_
    simp only [Eqs,reduceIte,Zuq]
    exact hF.ret _ _ rfl (by trivial) (Zux _) (Zuw _) (hnil x hx)
   ·rintro dv S2 ⟨x,hx,hq,_⟩
    cases hq
  ·have hvw2:Wt w=false:=by simpa using hvw
   rw [hvw2] at h1
   refine Wn rfl rfl rfl rfl rfl (by trivial) (by trivial) (by exact h1) (Zc ?_)
   simp only [Eqs,reduceIte,Zuq,Zur,Zus,ZuM]
   refine Zbl rfl (e:=.d (.bool false)) (Zc ?_)
   simp only [Eqs,reduceIte,Zuq]
   refine Ze rfl trivial (fun h=>by simp at h) (fun _=>?_)
   refine Zg ?_
   refine Za (Zb (Zc ?_))
   simp only [Eqs,reduceIte,Zuq,WO.r4]
   refine Yn rfl rfl rfl rfl rfl (by trivial) (by trivial) (by exact (Yf.leA (LeC.one (Qa (by simp))) (ZsK .full 0 (fun _=>[]) st))) ?_ ?_
   ·rintro dv S2 ⟨x,hx,hq,rfl⟩
    cases hq
    refine Zc ?_
    simp only [Eqs,reduceIte,Zuq]
    exact hF.ret _ _ rfl (by trivial) (Zux _) (Zuw _) (hnil x hx)
   ·rintro dv S2 ⟨x,hx,hq,_⟩
    cases hq
theorem Zta {l:List Dif} {r:Res} {S:St} (h:Zs1 l (fun _=>none) r S):SCR (fun b=>(S b).isSome=true) r∧∀ b o,S b=some o→SCO (fun b=>(S b).isSome=true) o:=by
 obtain⟨x,tk,row,htip,htk,hx,hrow,rfl,rfl⟩:=h
 refine⟨.fn _ _ _ (by simp) (by simp;exact .ptr x 0),fun b o hb=>?_⟩
 by_cases hbx:b=x
 ·subst hbx
  rw [YR hx,Qh] at hb
  cases hb
  intro d hd
  rw [List.mem_singleton] at hd
  subst hd
  rcases Nat.eq_zero_or_pos l.length with h0 | h0
  ·rw [h0];exact .sl0 _ _ _
  ·obtain⟨c,rfl⟩:=htip h0
   refine .tip c _ _ _ ?_ fun i hi e he=>?_
   ·rw [Yv (show (St.own (fun _=>none) (.tip c) (l.length*2)) c=some (.tip (l.length*2)) by simp [St.own,St.upd])];rfl
   ·rw [hrow i hi] at he
    simp only [Dif.cells,List.mem_cons,List.not_mem_nil,or_false] at he
    rcases he with rfl | rfl
    ·exact .str _
    ·exact .int _ _
 ·cases hob:(St.own (fun _=>none) tk (l.length*2)) b with
  | none=>rw [YR hob,ZaN _ hbx] at hb;simp at hb
  | some y =>
   rw [Yv hob] at hb
   cases hb
   cases tk with
   | tip c =>
    simp only [St.own,St.upd] at hob
    split at hob
    ·simp only [Zuu] at hob;subst hob;trivial
    ·simp at hob
   | full=>simp [St.own] at hob
   | none=>exact htk.elim
theorem ZsN (l:List Dif) (hl:l.length≤big) (x:Nat) {a0:St} (hx0:a0 x=some (.cells [Q6 l])):∀ (y:D) (go:Nat→Oc) (A:Nat→St→Prop) (a':St),a0.sub a'→Zdb Zuv y l.length (fun j=>[.int .i64 j,.agg (l.getD j default).cells]) go A→A 0 a' →
  J0 Zuv (.fn (.func 40) [] [.ptr x 0]) [y] a' fun r S=>∃ a,Zjj l.length go A a r∧a.sub S:=by
 intro y go A a' hsub hcons hA
 have hw:=hl
 unfold big at hw
 have hx:=hsub x _ hx0
 refine Yf.V (first:=[]) (args:=[y]) (caps:=[.ptr x 0]) (Z2 ZV.ok fun F hF=>?_)
 refine Za (Zb (Zc ?_))
 simp only [Eqs,reduceCtorEq,reduceIte,Zuq,Zur,ZV.r0,hx,Q6,slD]
 refine Zj (ZX ?_)
 have key:∀ (n i:Nat),(l.length)-i=n→∀ a,A i a→(∀ j,j<i→go j = .next)→i≤l.length→ZT F [.code (ZV.l0),.inLoop ZV.l0,.inBlock 0] [(0,.d y),(5,.d (Q6 l)),(6,.d (.int .i64 l.length)),(7,.d (.int .i64 i))] [] a:=by
  intro n
  induction n using Nat.strongRecOn with
  | ind n ih_key =>
  clear hA hsub hx
  intro i hn a hA hno hi
  refine Za (Zb (Zc ?_))
  simp only [Eqs,reduceCtorEq,reduceIte,Zuq,ZV.r1]
  refine Za (Ze rfl trivial (fun h1=>?_) (fun h1=>?_))
  ·simp at h1
   have hcall:=(hcons i h1 hno a hA)
   refine Zg (Za (Zj (Za (Zb (Zc ?_)))))
   simp only [Eqs,reduceCtorEq,reduceIte,Zuq,Zur,Zus,ZV.r2,Q6,slD,Dif.cells]
   repeat (refine Zut (by first | omega | trivial | (intro h0;simp at h0;omega)) ?_)
   refine Za (Zb (Zc ?_))
   simp only [Eqs,reduceCtorEq,reduceIte,Zuq,Zur,Zus,ZV.r3]
   rw [show (D.agg [.str (l.getD i default).path,.int .i64 (l.getD i default).code]) = .agg (l.getD i default).cells from rfl]
   refine ZbA rfl rfl rfl rfl rfl (by trivial) (by trivial) (by exact hcall) ?_ ?_
   ·rintro dv S ⟨hr,hA'⟩
    cases hgo:go i with
    | next =>
     rw [hgo] at hr
     cases hr
     refine Zc ?_
     simp only [Eqs,reduceCtorEq,reduceIte,Zuq]
     refine Ze rfl trivial (fun h=>by simp at h) (fun _=>?_)
     refine Zg (Zm (Zb (Zc ?_)))
     simp only [Eqs,reduceCtorEq,reduceIte,Zuq,ZV.r4]
     repeat (refine Zut (by first | omega | trivial | (intro h0;simp at h0;omega)) ?_)
     refine Zy ?_
     exact ih_key ((l.length)-(i+1)) (by omega) (i+1) rfl S hA' (K4 (q:=fun i=>go i = .next) hno hgo) (by omega)
    | stop c =>
     rw [hgo] at hr
     cases hr
     refine Zc ?_
     simp only [Eqs,reduceCtorEq,reduceIte,Zuq]
     refine Ze rfl trivial (fun _=>?_) (fun h=>by simp at h)
     exact hF.ret (.tup []) _ rfl trivial (Zux _) (Zuw _) ⟨S,.stop _ c h1 hno hgo hA',Zuw _⟩
    | pan d=>rw [hgo] at hr;cases hr
   ·rintro dv S ⟨hr,hA'⟩
    cases hgo:go i with
    | pan d' =>
     rw [hgo] at hr
     cases hr
     exact hF.pan _ (Zuw _) ⟨S,.pan _ dv h1 hno hgo hA',Zuw _⟩
    | next=>rw [hgo] at hr;cases hr
    | stop c=>rw [hgo] at hr;cases hr
  ·simp at h1
   obtain rfl:i=l.length:=by omega
   refine ZQ rfl ?_
   exact hF.fin (.tup []) _ rfl trivial (Zux _) (Zuw _) ⟨a,.all hno hA,Zuw _⟩
 exact key _ 0 rfl a' hA (by intro i hi;omega) (by omega)
end Go.DL
namespace Go.DL
open Go Go.Proofs
def ZsH (w:Dfn) (fd:Nat→D):List D:=(List.range w.msgs.length).flatMap fun q=>[.str (w.msgs.getD q default).name,fd q]
theorem ZsX {n i:Nat} (h:i<n):List.range n=List.range i++i::(List.range (n-i-1)).map (i+1 + ·):=by
 have h1:n=i+(1+(n-i-1)):=by omega
 conv=>lhs;rw [h1,List.range_add,List.range_add]
 simp [List.range_one,Function.comp_def,Nat.add_assoc]
theorem ZsY (w:Dfn) (fd:Nat→D):(ZsH w fd).length=w.msgs.length*2:=by
 unfold ZsH
 have:∀ k,((List.range k).flatMap fun q=>[D.str (w.msgs.getD q default).name,fd q]).length=k*2:=by
  intro k
  induction k with
  | zero=>rfl
  | succ k ih=>rw [List.range_succ,List.flatMap_append,ZuF,ih];simp;omega
 exact this _
theorem ZsM {f:Nat→List D} {s:Nat} (hf:∀ q,(f q).length=s) (k:Nat):((List.range k).flatMap f).length=k*s:=by
 induction k with
 | zero=>simp
 | succ k ih=>rw [List.range_succ,List.flatMap_append,ZuF,ih];simp [hf,Nat.add_mul]
theorem ZsU {f:Nat→List D} {s n i:Nat} (hf:∀ q,(f q).length=s) (hi:i<n) (C:List D):(((List.range n).flatMap f++C).drop (i*s)).take s=f i:=by
 rw [ZsX hi,List.flatMap_append,List.append_assoc,List.drop_append_of_le_length (by rw [ZsM hf];exact ZuO _),List.drop_of_length_le (by rw [ZsM hf];exact ZuO _),List.nil_append,List.flatMap_cons,List.append_assoc]
 rw [List.take_append_of_le_length (by rw [hf];exact ZuO _),List.take_of_length_le (by rw [hf];exact ZuO _)]
theorem ZsQ {α β:Type} {f g:α→List β}:∀ {l:List α},(∀ x∈l,f x=g x)→l.flatMap f=l.flatMap g
 | [],_=>rfl
 | a::l,h=>by rw [List.flatMap_cons,List.flatMap_cons,h a (by simp),ZsQ fun x hx=>h x (by simp [hx])]
theorem Zs6 {w:Dfn} {fd:Nat→D} {i:Nat} (hi:i<w.msgs.length) (d:D) (C:List D):KR (ZsH w fd++C) (i*2+1) [d]=ZsH w (fun q=>if q=i then d else fd q)++C:=by
 have hA:∀ g:Nat→D,((List.range i).flatMap fun q=>[D.str (w.msgs.getD q default).name,g q]).length=i*2:=fun g=>ZsM (f:=fun q=>[D.str (w.msgs.getD q default).name,g q]) (s:=2) (fun _=>rfl) i
 have e1:∀ g:Nat→D,ZsH w g=((List.range i).flatMap fun q=>[D.str (w.msgs.getD q default).name,g q])++([.str (w.msgs.getD i default).name,g i]++((List.range (w.msgs.length-i-1)).map (i+1 + ·)).flatMap fun q=>[D.str (w.msgs.getD q default).name,g q]):=fun g=>by
  unfold ZsH
  rw [ZsX hi,List.flatMap_append,List.flatMap_cons]
 have e2:((List.range i).flatMap fun q=>[D.str (w.msgs.getD q default).name,if q=i then d else fd q])=(List.range i).flatMap fun q=>[D.str (w.msgs.getD q default).name,fd q]:=by
  refine ZsQ fun q hq=>?_
  rw [if_neg (by have:=List.mem_range.1 hq;omega)]
 have e3:(((List.range (w.msgs.length-i-1)).map (i+1 + ·)).flatMap fun q=>[D.str (w.msgs.getD q default).name,if q=i then d else fd q])=((List.range (w.msgs.length-i-1)).map (i+1 + ·)).flatMap fun q=>[D.str (w.msgs.getD q default).name,fd q]:=by
  refine ZsQ fun q hq=>?_
  obtain⟨a,_,rfl⟩:=List.mem_map.1 hq
  rw [if_neg (by omega)]
 rw [e1,e1,e2,e3,if_pos rfl]
 unfold KR
 generalize hX:((List.range i).flatMap fun q=>[D.str (w.msgs.getD q default).name,fd q])=X
 have hXl:X.length=i*2:=by rw [← hX];exact hA fd
 generalize (((List.range (w.msgs.length-i-1)).map (i+1 + ·)).flatMap fun q=>[D.str (w.msgs.getD q default).name,fd q])=Y
 have t1:List.take (i*2+1) (X++([.str (w.msgs.getD i default).name,fd i]++Y)++C)=X++[.str (w.msgs.getD i default).name]:=by
  rw [List.append_assoc,← hXl,List.take_length_add_append];rfl
 have t2:List.drop (i*2+1 + [d].length) (X++([.str (w.msgs.getD i default).name,fd i]++Y)++C)=Y++C:=by
  rw [List.append_assoc,show i*2+1 + [d].length=X.length+2 by rw [hXl];rfl,List.drop_length_add_append];rfl
 rw [t1,t2]
 simp
theorem Zs0 {a a' b b':List D} (h:LeC a a') (h':LeC b b'):LeC (a++b) (a'++b'):=by
 induction h with
 | nil=>exact h'
 | cons h1 _ ih=>exact .cons h1 ih
def ZsT (st:St) (bm:Nat) (fs:List Fld) (S:St) (d:D):Prop :=
 (fs=[]∧d=Yo [])∨∃ b c F,d = .msl b 0 fs.length c 15∧st b=none∧b≠bm∧S b=some (.cells F)∧∃ E,F=((List.range fs.length).flatMap fun k=>(fs.getD k default).cells)++E
structure ZsJ (st:St) (w:Dfn) (bm i:Nat) (fd:Nat→D) (S:St):Prop where
 bm0:st bm=none
 at_:∃ C,S bm=some (.cells (ZsH w fd++C))
 sub:st.sub S
 old:∀ q,i≤q→q<w.msgs.length→fd q=Yo (w.msgs.getD q default).fields
 new:∀ q,q<i→ZsT st bm (w.msgs.getD q default).fields S (fd q)
theorem ZsT.upd {st:St} {bm:Nat} {fs:List Fld} {S:St} {d:D} (h:ZsT st bm fs S d) {c:Nat} {o:KC} (hc:S c=none∨c=bm):ZsT st bm fs (S.upd c o) d:=by
 rcases h with h | ⟨b,cp,F,h1,h2,h3,h4,h5⟩
 ·exact .inl h
 ·refine .inr ⟨b,cp,F,h1,h2,h3,?_,h5⟩
  rw [ZuE _ _ (fun e=>by
   rcases hc with hc | hc
   ·rw [← e,h4] at hc;simp at hc
   ·exact h3 (e.trans hc))]
  exact h4
def Zte (w:Dfn) (bm:Nat) (fd:Nat→D):List Nat:=bm::(List.range w.msgs.length).filterMap fun q=>match fd q with | .msl b _ _ _ _=>some b | _=>none
theorem ZsJ.lent {st:St} {w:Dfn} {bm:Nat} {fd:Nat→D} {S:St} (h:ZsJ st w bm w.msgs.length fd S):∀ b∈Zte w bm fd,∃ ds,S b=some (.cells ds):=by
 intro b hb
 rcases List.mem_cons.1 hb with rfl | hb
 ·obtain⟨C,hC⟩:=h.at_;exact⟨_,hC⟩
 ·obtain⟨q,hq,he⟩:=List.mem_filterMap.1 hb
  rcases h.new q (List.mem_range.1 hq) with ⟨_,h1⟩ | ⟨b',c,F,h1,h2,h3,h4,h5⟩
  ·rw [h1] at he;simp [Yo,slD] at he
  ·rw [h1] at he
   simp only [Zuu] at he
   subst he
   exact⟨_,h4⟩
theorem ZsJ.reads {st:St} {w:Dfn} {bm cap:Nat} {fd:Nat→D} {S:St} (h:ZsJ st w bm w.msgs.length fd S):Zd3 S (Zte w bm fd) (.agg [.str w.name,.msl bm 0 w.msgs.length cap 2,.str w.start]) (.agg w.cells):=by
 obtain⟨C,hC⟩:=h.at_
 refine .agg (.cons (.refl _) (.cons (.msl (List.mem_cons_self ..) hC (by rw [ZuF,ZsY];omega) fun i hi=>?_) (.cons (.refl _) .nil)))
 unfold ZsH
 rw [ZsU (f:=fun q=>[D.str (w.msgs.getD q default).name,fd q]) (s:=2) (fun _=>rfl) hi]
 refine .cons (.refl _) (.cons ?_ .nil)
 rcases h.new i hi with ⟨h1,h2⟩ | ⟨b,c,F,h1,h2,h3,h4,E,h5⟩
 ·rw [h1,h2];exact .refl _
 ·rw [h1]
  refine .msl (List.mem_cons_of_mem _ (List.mem_filterMap.2 ⟨i,List.mem_range.2 hi,by rw [h1]⟩)) h4 (by rw [h5,ZuF,ZsM (f:=fun k=>((w.msgs.getD i default).fields.getD k default).cells) (s:=15) (fun _=>rfl)];exact Nat.le_add_right _ _) fun k hk=>?_
  rw [h5,ZsU (f:=fun k=>((w.msgs.getD i default).fields.getD k default).cells) (s:=15) (fun _=>rfl) hk]
  exact LdC.refl _
structure ZsO (st:St) (w:Dfn) (bm x:Nat) (l:D) (fd:Nat→D) (U:St):Prop where
 bm0:st bm=none
 x0:st x=none
 xbm:x≠bm
 at_:∃ C,U bm=some (.cells (ZsH w fd++C))
 xat:U x=some (.cells [l])
 sub:st.sub U
 fl:∀ q,q<w.msgs.length→((w.msgs.getD q default).fields=[]∧fd q=Yo [])∨∃ b c F,fd q = .msl b 0 (w.msgs.getD q default).fields.length c 15∧st b=none∧b≠bm∧b≠x∧U b=some (.cells F)∧(w.msgs.getD q default).fields.length*15≤F.length
theorem ZsO.mk1 {st:St} {w:Dfn} {bm x:Nat} {l:D} {fd:Nat→D} {S:St} (h:ZsJ st w bm w.msgs.length fd S) (hx:S x=none):ZsO st w bm x l fd ((ZuN x (.cells [l])).or S):=by
 have hne:∀ b o,S b=some o→b≠x:=fun b o hb e=>by rw [e,hx] at hb;simp at hb
 have hor:∀ b o,S b=some o→((ZuN x (.cells [l])).or S) b=some o:=fun b o hb=>by rw [YR (ZaN _ (hne b o hb))];exact hb
 obtain⟨C,hC⟩:=h.at_
 refine⟨h.bm0,?_,(hne _ _ hC).symm,⟨C,hor _ _ hC⟩,Yv (Qh _ _),fun b o hb=>hor b o (h.sub b o hb),fun q hq=>?_⟩
 ·cases hs:st x with
  | none=>rfl
  | some o=>have:=h.sub x o hs;rw [hx] at this;simp at this
 ·rcases h.new q hq with h1 | ⟨b,c,F,h1,h2,h3,h4,E,h5⟩
  ·exact .inl h1
  ·exact .inr ⟨b,c,F,h1,h2,h3,hne _ _ h4,hor _ _ h4,by rw [h5,ZuF,ZsM (f:=fun k=>((w.msgs.getD q default).fields.getD k default).cells) (s:=15) (fun _=>rfl)];exact Nat.le_add_right _ _⟩
theorem ZsO.store {st:St} {w:Dfn} {bm x:Nat} {l:D} {fd:Nat→D} {U:St} (h:ZsO st w bm x l fd U) {b:Nat} {F F':List D} (hb:U b=some (.cells F)) (hst:st b=none) (h1:b≠bm) (h2:b≠x) (hl:F'.length=F.length):ZsO st w bm x l fd (U.upd b (.cells F')):=by
 obtain⟨C,hC⟩:=h.at_
 refine⟨h.bm0,h.x0,h.xbm,⟨C,by rw [ZuE _ _ h1.symm];exact hC⟩,by rw [ZuE _ _ h2.symm];exact h.xat,fun c o hc=>?_,fun q hq=>?_⟩
 ·rw [ZuE _ _ (fun e=>by rw [e,hst] at hc;simp at hc)];exact h.sub c o hc
 ·rcases h.fl q hq with h3 | ⟨b',c,F2,a1,a2,a3,a4,a5,a6⟩
  ·exact .inl h3
  ·by_cases hbb:b'=b
   ·subst hbb
    rw [hb] at a5
    cases a5
    exact .inr ⟨b',c,F',a1,a2,a3,a4,ZuB _ _ _,by rw [hl];exact a6⟩
   ·exact .inr ⟨b',c,F2,a1,a2,a3,a4,by rw [ZuE _ _ hbb];exact a5,a6⟩
theorem ZsO.rest {st:St} {w:Dfn} {bm x:Nat} {l:D} {fd:Nat→D} {U:St} (h:ZsO st w bm x l fd U):(st.or (ZuN x (.cells [l]))).sub U:=by
 intro b o hb
 cases hs:st b with
 | some y=>rw [Yv hs] at hb;cases hb;exact h.sub b _ hs
 | none =>
  rw [YR hs] at hb
  by_cases hbx:b=x
  ·subst hbx;rw [Qh] at hb;cases hb;exact h.xat
  ·rw [ZaN _ hbx] at hb;simp at hb
theorem ZsJ.step {st:St} {w:Dfn} {bm i:Nat} {fd:Nat→D} {S:St} (h:ZsJ st w bm i fd S) (hi:i<w.msgs.length) (hf:(w.msgs.getD i default).fields≠[]) {C:List D} (gb:S bm=some (.cells (ZsH w fd++C))) {bf bfc:Nat} (hbf:S bf=none) :
  ZsJ st w bm (i+1) (fun q=>if q=i then .msl bf 0 (w.msgs.getD i default).fields.length bfc 15 else fd q) ((S.upd bf (.cells (((List.range (w.msgs.getD i default).fields.length).flatMap fun k=>((w.msgs.getD i default).fields.getD k default).cells)++List.replicate ((bfc-(w.msgs.getD i default).fields.length)*15) .any))).upd bm (.cells (List.take (i*2+1) (ZsH w fd++C)++[.msl bf 0 (w.msgs.getD i default).fields.length bfc 15]++List.drop (i*2+1+1) (ZsH w fd++C)))):=by
 have hne:bf≠bm:=fun e=>by rw [e,gb] at hbf;simp at hbf
 have hst:st bf=none:=by
  cases hs:st bf with
  | none=>rfl
  | some o=>rw [h.sub _ _ hs] at hbf;simp at hbf
 refine⟨h.bm0,⟨C,?_⟩,?_,?_,?_⟩
 ·rw [ZuB];exact congrArg (fun x=>some (KC.cells x)) (Zs6 hi _ C)
 ·intro b o hb
  rw [ZuE _ _ (fun e=>by rw [e,h.bm0] at hb;simp at hb),ZuE _ _ (fun e=>by rw [e,hst] at hb;simp at hb)];exact h.sub b o hb
 ·intro q hq hq2
  show (if q=i then _ else fd q)=_
  rw [if_neg (by omega)];exact h.old q (by omega) hq2
 ·intro q hq
  by_cases hqi:q=i
  ·subst hqi
   show ZsT _ _ _ _ (if q=q then _ else fd q)
   rw [if_pos rfl]
   exact .inr ⟨bf,bfc,_,rfl,hst,hne,by rw [ZuE _ _ hne];exact ZuB _ _ _,_,rfl⟩
  ·show ZsT _ _ _ _ (if q=i then _ else fd q)
   rw [if_neg hqi]
   exact ((h.new q (by omega)).upd (.inl hbf)).upd (.inr rfl)
theorem ZsJ.step0 {st:St} {w:Dfn} {bm i:Nat} {fd:Nat→D} {S:St} (h:ZsJ st w bm i fd S) (hi:i<w.msgs.length) (hf:(w.msgs.getD i default).fields=[]) {C:List D} (gb:S bm=some (.cells (ZsH w fd++C))) {t:Tok} (ht:t.okIn S) {k:Nat} :
  ZsJ st w bm (i+1) (fun q=>if q=i then Yo [] else fd q) (S.upd bm (.cells (List.take (i*2+1) (ZsH w fd++C)++[Yo []]++List.drop (i*2+1+1) (ZsH w fd++C)))) ∧
  (S.upd bm (.cells (List.take (i*2+1) (ZsH w fd++C)++[Yo []]++List.drop (i*2+1+1) (ZsH w fd++C)))).sub ((S.own t k).upd bm (.cells (List.take (i*2+1) (ZsH w fd++C)++[Yo []]++List.drop (i*2+1+1) (ZsH w fd++C)))):=by
 refine⟨⟨h.bm0,⟨C,?_⟩,?_,?_,?_⟩,?_⟩
 ·rw [ZuB];exact congrArg (fun x=>some (KC.cells x)) (Zs6 hi _ C)
 ·intro b o hb
  rw [ZuE _ _ (fun e=>by rw [e,h.bm0] at hb;simp at hb)];exact h.sub b o hb
 ·intro q hq hq2
  show (if q=i then _ else fd q)=_
  rw [if_neg (by omega)];exact h.old q (by omega) hq2
 ·intro q hq
  by_cases hqi:q=i
  ·subst hqi
   show ZsT _ _ _ _ (if q=q then _ else fd q)
   rw [if_pos rfl]
   exact .inl ⟨hf,rfl⟩
  ·show ZsT _ _ _ _ (if q=i then _ else fd q)
   rw [if_neg hqi]
   exact (h.new q (by omega)).upd (.inr rfl)
 ·intro b o hb
  by_cases hbb:b=bm
  ·subst hbb;rw [ZuB] at hb ⊢;exact hb
  ·rw [ZuE _ _ hbb] at hb ⊢;exact Zl ht _ _ hb
end Go.DL
namespace Go.DL
open Go Go.Proofs
def tr2 (B:St) (a13 a14:Nat) (t j:Int):St:=(B.upd a13 (.cells [.int .i64 t])).upd a14 (.cells [.int .i64 j])
structure ZsL (B:St) (a5 a7 x a13 a14:Nat) (many:Int) (l:List Dif):Prop where
 g5:B a5=some (.cells [.int .i64 many])
 g7:B a7=some (.cells [Q6 l])
 gx:B x=some (.cells [Q6 l])
 n13:B a13=none
 n14:B a14=none
 ne:a14≠a13
theorem ZsL.mk' {B:St} {a5 a7 x a13 a14:Nat} {many:Int} {l:List Dif} {c:KC} (g5:B a5=some (.cells [.int .i64 many])) (g7:B a7=some (.cells [Q6 l])) (gx:B x=some (.cells [Q6 l])) (h13:B a13=none) (h14:(B.upd a13 c) a14=none):ZsL B a5 a7 x a13 a14 many l :=
 have h:=Wp h14
 ⟨g5,g7,gx,h13,h.2,h.1⟩
section
variable {B:St} {a5 a7 x a13 a14:Nat} {many:Int} {l:List Dif} {t j:Int}
theorem ZsL.old (h:ZsL B a5 a7 x a13 a14 many l) {b:Nat} {o:KC} (hb:B b=some o):tr2 B a13 a14 t j b=some o:=by
 unfold tr2
 rw [ZuE _ _ (fun e=>by rw [e,h.n14] at hb;simp at hb),ZuE _ _ (fun e=>by rw [e,h.n13] at hb;simp at hb)];exact hb
theorem ZsL.g13 (h:ZsL B a5 a7 x a13 a14 many l):tr2 B a13 a14 t j a13=some (.cells [.int .i64 t]):=by
 unfold tr2;rw [ZuE _ _ h.ne.symm];exact ZuB _ _ _
theorem ZsP:tr2 B a13 a14 t j a14=some (.cells [.int .i64 j]):=ZuB _ _ _
theorem Zs9 {k:Int}:(tr2 B a13 a14 t j).upd a14 (.cells [.int .i64 k])=tr2 B a13 a14 t k:=by unfold tr2;rw [ZuQ]
theorem ZsL.sub (h:ZsL B a5 a7 x a13 a14 many l):B.sub (tr2 B a13 a14 t j):=fun b o hb=>h.old hb
end
theorem ZsI {s:St} {q b:Nat} {o c:KC} (hq:s q=none) (hb:s b=some c):(s.upd q o) b=some c:=by
 rw [ZuE _ _ (fun e=>by rw [e,hq] at hb;simp at hb)];exact hb
theorem ZsZ {B:St} {p r:Nat} {t j j':Int} {u:St} (h:WX (tr2 B p r t j) u):WX (tr2 B p r t j') u:=fun b o hb=>by
 have h1:=Wp (h b o hb)
 unfold tr2
 rw [ZuE _ _ h1.1];exact h1.2
theorem Zs8 {st S:St} {q:Nat} (h:st.sub S) (hq:st q=none):st.sub (S.del q):=fun b o hb=>by
 unfold St.del
 rw [if_neg (fun e=>by rw [e,hq] at hb;simp at hb)];exact h b o hb
theorem Ztc {w:Dfn} (h:Zpy w=false):w.msgs.length≤8∧∀ i,i<w.msgs.length→(w.msgs.getD i default).fields.length≤12:=by
 unfold Zpy at h
 simp only [Bool.or_eq_false_iff,gt,decide_eq_false_iff_not] at h
 refine⟨by omega,fun i hi=>?_⟩
 have h1:=(List.any_eq_false.1 h.2) _ (Ki hi)
 unfold Zg6 at h1
 simp only [ZuL,not_or,gt,decide_eq_true_eq] at h1
 omega
theorem Ztj {w:Dfn} {fd:Nat→D} {i:Nat} (hi:i<w.msgs.length) (C:List D):(ZsH w fd++C)[i*2+1]? = some (fd i):=by
 have h:=ZsU (f:=fun q=>[D.str (w.msgs.getD q default).name,fd q]) (s:=2) (fun _=>rfl) hi C
 have h2:(((ZsH w fd++C).drop (i*2)).take 2)[1]? = some (fd i):=by unfold ZsH;rw [h];rfl
 rw [List.getElem?_take,if_pos (by decide),List.getElem?_drop] at h2
 exact h2
theorem ZsR (w r:Dfn) (many:Int):ZR Zuv ZsG.id [.agg w.cells,.agg r.cells,.int .i64 many] (.bool true):=by
 refine fun st=>Z2 ZsG.ok fun F hF=>?_
 have hfew:=Zqa w r
 refine Za (Zb (Zc ?_))
 simp only [Eqs,reduceCtorEq,reduceIte,Zuq,Zur,ZsG.r0,ZuM]
 refine Za (Za (Zb (Zc ?_)))
 simp only [Eqs,reduceIte,Zuq,Zur,Zus,ZsG.r1]
 rw [ZcN]
 refine ZW rfl rfl rfl rfl rfl (by trivial) (by trivial) (by exact Zrw w) (Zc ?_)
 simp only [Eqs,reduceIte,Zuq,Zur,Zus]
 rw [ZcN]
 refine KA rfl rfl rfl rfl rfl (fun hcg=>⟨by first | trivial | (simpa [Qu] using hcg),trivial,Zrw r⟩) (Zc ?_)
 simp only [Eqs,reduceIte,Zuq]
 refine Ze rfl trivial (fun h1=>?_) (fun h1=>?_)
 ·refine Za (Zb (Zc ?_))
  simp only [Eqs,ZsG.r2]
  refine ZW rfl rfl rfl rfl rfl (by trivial) (by trivial) (by exact Zrv) (Zc ?_)
  simp only [Eqs,reduceIte,Zuq,Zus]
  exact hF.ret _ _ rfl (by trivial) (Zux _) (Zuw _) ⟨rfl,rfl⟩
 ·have hlg:=Ztc (show Zpy w=false by simp at h1;exact h1.1)
  have hS:=Zfb.eq_1 w r
  generalize hl:Zfb w r=l at *
  refine Zg ?_
  refine Za (Zb (Zc ?_))
  simp only [Eqs,reduceIte,Zuq,ZsG.r3]
  have turns:∀ x,st x=none→ZT F [.code (qR ZsG.r22 [5,6,7,10,13,96,97]),.code (.block 6 (.loop ZsG.l3)),.code (.seq (qR ZsG.r37 [6]) .ret)] [(5,.loc 5 0),(6,.loc 6 0),(7,.loc 7 0),(10,.d (.fn (.func 40) [] [.ptr x 0]))] [(5,[.int .i64 many]),(6,[.bool false]),(7,[Q6 l])] (st.or (ZuN x (.cells [Q6 l]))):=by
   intro x hx
   have gx:(st.or (ZuN x (.cells [Q6 l]))) x=some (.cells [Q6 l]):=by rw [YR hx];exact Qh _ _
   have hsB:st.sub (st.or (ZuN x (.cells [Q6 l]))):=Jf _ _
   generalize (st.or (ZuN x (.cells [Q6 l])))=B0 at *
   refine Zb (Zc ?_)
   simp only [Eqs,reduceIte,Zuq,Zus,ZsG.r22]
   refine Zj (ZX ?_)
   refine Za (Za (Zb (Zc ?_)))
   simp only [Eqs,reduceIte,Zuq,ZsG.r23]
   refine Ze rfl trivial (fun _=>?_) (fun h=>by simp at h)
   refine Zg ?_
   refine Za (Zj (Za (Zb (Zc ?_))))
   simp only [Eqs,reduceIte,Zuq,Zus,ZsG.r25]
   refine Za (Za (Zb (Zc ?_)))
   simp only [Eqs,reduceIte,Zuq,ZsG.r26]
   refine Zj ?_
   refine YJ 5 rfl fun a5 h5=>?_
   simp only [reduceIte,Zuq,YU,WM,delL]
   refine YJ 7 rfl fun a7 h7=>?_
   simp only [reduceIte,Zuq,YU,WM,delL]
   have h7':=Wp h7
   have gg5:((B0.upd a5 (.cells [.int .i64 many])).upd a7 (.cells [Q6 l])) a5=some (.cells [.int .i64 many]):=by rw [ZuE _ _ h7'.1.symm];exact ZuB _ _ _
   have gg7:((B0.upd a5 (.cells [.int .i64 many])).upd a7 (.cells [Q6 l])) a7=some (.cells [Q6 l]):=ZuB _ _ _
   have ggx:((B0.upd a5 (.cells [.int .i64 many])).upd a7 (.cells [Q6 l])) x=some (.cells [Q6 l]):=by
    rw [ZuE _ _ (fun e=>by rw [← e,gx] at h7';simp at h7'),ZuE _ _ (fun e=>by rw [← e,gx] at h5;simp at h5)];exact gx
   have hsB1:st.sub ((B0.upd a5 (.cells [.int .i64 many])).upd a7 (.cells [Q6 l])):=ZuK hsB (ZuK (Zuy _ h5) (Zuy _ h7))
   generalize ((B0.upd a5 (.cells [.int .i64 many])).upd a7 (.cells [Q6 l]))=B at *
   clear gx hsB h5 h7 h7'
   refine YJ 13 rfl fun p0 q130=>?_
   simp only [reduceIte,Zuq,YU,WM,delL]
   refine YJ 14 rfl fun r0 q140=>?_
   simp only [reduceIte,Zuq,YU,WM,delL]
   have tk0:ZsL B a5 a7 x p0 r0 many l:=ZsL.mk' gg5 gg7 ggx q130 q140
   rw [show (B.upd p0 (.cells [.int .i64 0])).upd r0 (.cells [.int .i64 0])=tr2 B p0 r0 0 0 from rfl]
   have cont0:∀ (F:Fr Zuv) (q k:Nat),Ql F ZsG.df.res (fun r s'=>r = .ret (.bool true)∧s'=st) (.mark q::[])→(tr2 B p0 r0 0 k) q=none→(k:Int)=min (l.length:Int) (max 1 many)→ZT F [.code (qR ZsG.r33 [5,6,7,10,13,96,97,144]),.code (qC 144 (.seq (qR ZsG.r34 [6]) .ret) .skip),.inBlock 7,.code (.seq (.seq (qR ZsG.r35 [5,6,7,10,96,97,145]) (qR ZsG.r36 [5,6,7,10,13,96,97])) (qR ZsG.r24 [5,6,7,10,13,96,97])),.inLoop ZsG.l3,.inBlock 6,.code (.seq (qR ZsG.r37 [6]) .ret)] [(5,.d (.ptr a5 0)),(6,.loc 6 0),(7,.d (.ptr a7 0)),(10,.d (.fn (.func 40) [] [.ptr x 0])),(13,.d (.ptr p0 0)),(14,.d (.ptr r0 0)),(95,.d (.fn (.func 40) [] [.ptr x 0]))] [(6,[.bool false])] ((tr2 B p0 r0 0 k).upd q .dfr):=by
    intro F q0 k hF hq hk
    have f5:=tk0.old (t:=0) (j:=(k:Int)) tk0.g5
    have f7:=tk0.old (t:=0) (j:=(k:Int)) tk0.g7
    have f13:=tk0.g13 (t:=0) (j:=(k:Int))
    have f14:=ZsP (B:=B) (a13:=p0) (a14:=r0) (t:=0) (j:=(k:Int))
    have fx:=tk0.old (t:=0) (j:=(k:Int)) tk0.gx
    have fs:=ZuK hsB1 (tk0.sub (t:=0) (j:=(k:Int)))
    have hst0:st q0=none:=by
     cases h:st q0 with
     | none=>rfl
     | some o=>rw [fs _ _ h] at hq;simp at hq
    have hsC0:=ZuK fs (Zuy .dfr hq)
    have gq0:((tr2 B p0 r0 0 k).upd q0 .dfr) q0=some .dfr:=ZuB _ _ _
    replace f5:=ZsI (o:=.dfr) hq f5
    replace f7:=ZsI (o:=.dfr) hq f7
    replace f13:=ZsI (o:=.dfr) hq f13
    replace f14:=ZsI (o:=.dfr) hq f14
    replace fx:=ZsI (o:=.dfr) hq fx
    generalize ((tr2 B p0 r0 0 k).upd q0 .dfr)=C0 at *
    refine Zb (Zc ?_)
    simp only [Eqs,reduceIte,Zuq,ZsG.r33,f5,f7,f13,f14,Q6,slD]
    refine Ze rfl trivial (fun h=>by (rw [decide_eq_true hk] at h;simp at h)) (fun _=>?_)
    refine Zg ?_
    refine Zm (Za (Za (Zb (Zc ?_))))
    simp only [Eqs,reduceIte,Zuq,ZsG.r35,f13]
    refine Zb (Zc ?_)
    simp only [Eqs,reduceIte,Zuq,Zus,ZsG.r36]
    refine Zb (Zc ?_)
    simp only [Eqs,reduceIte,Zuq,Zus,ZsG.r24]
    repeat (refine Zut (by first | omega | trivial | (intro h0;simp at h0;omega)) ?_)
    rw [show (0:Int)+1=1 from rfl]
    refine Zy ?_
    refine Za (Za (Zb (Zc ?_)))
    simp only [Eqs,reduceIte,Zuq,ZsG.r23]
    refine Ze rfl trivial (fun _=>?_) (fun h=>by (simp at h))
    refine Zg ?_
    refine Za (Zj (Za (Zb (Zc ?_))))
    simp only [Eqs,reduceIte,Zuq,Zus,ZsG.r25]
    refine Za (Za (Zb (Zc ?_)))
    simp only [Eqs,reduceIte,Zuq,ZsG.r26]
    clear q130 q140 tk0
    have gg5:=f5
    have gg7:=f7
    have ggx:=fx
    refine YJ 13 rfl fun p1 q131=>?_
    simp only [reduceIte,Zuq,YU,WM,delL]
    refine YJ 14 rfl fun r1 q141=>?_
    simp only [reduceIte,Zuq,YU,WM,delL]
    have tk1:ZsL C0 a5 a7 x p1 r1 many l:=ZsL.mk' gg5 gg7 ggx q131 q141
    rw [show (C0.upd p1 (.cells [.int .i64 1])).upd r1 (.cells [.int .i64 0])=tr2 C0 p1 r1 1 0 from rfl]
    have cont1:∀ (F:Fr Zuv) (q k:Nat),Ql F ZsG.df.res (fun r s'=>r = .ret (.bool true)∧s'=st) (.mark q::[.mark q0])→(tr2 C0 p1 r1 1 k) q=none→(k:Int)=(l.length:Int)→ZT F [.code (qR ZsG.r33 [5,6,7,10,13,96,97,144]),.code (qC 144 (.seq (qR ZsG.r34 [6]) .ret) .skip),.inBlock 7,.code (.seq (.seq (qR ZsG.r35 [5,6,7,10,96,97,145]) (qR ZsG.r36 [5,6,7,10,13,96,97])) (qR ZsG.r24 [5,6,7,10,13,96,97])),.inLoop ZsG.l3,.inBlock 6,.code (.seq (qR ZsG.r37 [6]) .ret)] [(5,.d (.ptr a5 0)),(6,.loc 6 0),(7,.d (.ptr a7 0)),(10,.d (.fn (.func 40) [] [.ptr x 0])),(13,.d (.ptr p1 0)),(14,.d (.ptr r1 0)),(95,.d (.fn (.func 40) [] [.ptr x 0]))] [(6,[.bool false])] ((tr2 C0 p1 r1 1 k).upd q .dfr):=by
     intro F q1 k hF hq hk
     have f5:=tk1.old (t:=1) (j:=(k:Int)) tk1.g5
     have f7:=tk1.old (t:=1) (j:=(k:Int)) tk1.g7
     have f13:=tk1.g13 (t:=1) (j:=(k:Int))
     have f14:=ZsP (B:=C0) (a13:=p1) (a14:=r1) (t:=1) (j:=(k:Int))
     have fx:=tk1.old (t:=1) (j:=(k:Int)) tk1.gx
     have fs:=ZuK hsC0 (tk1.sub (t:=1) (j:=(k:Int)))
     have hst1:st q1=none:=by
      cases h:st q1 with
      | none=>rfl
      | some o=>rw [fs _ _ h] at hq;simp at hq
     have hsC1:=ZuK fs (Zuy .dfr hq)
     have gq1:((tr2 C0 p1 r1 1 k).upd q1 .dfr) q1=some .dfr:=ZuB _ _ _
     have hne:q0≠q1:=fun e=>by
      have h:=tk1.old (t:=1) (j:=(k:Int)) gq0
      rw [e,hq] at h;simp at h
     have gp0:=ZsI (o:=.dfr) hq (tk1.old (t:=1) (j:=(k:Int)) gq0)
     replace f5:=ZsI (o:=.dfr) hq f5
     replace f7:=ZsI (o:=.dfr) hq f7
     replace f13:=ZsI (o:=.dfr) hq f13
     replace f14:=ZsI (o:=.dfr) hq f14
     replace fx:=ZsI (o:=.dfr) hq fx
     generalize ((tr2 C0 p1 r1 1 k).upd q1 .dfr)=C1 at *
     refine Zb (Zc ?_)
     simp only [Eqs,reduceIte,Zuq,ZsG.r33,f5,f7,f13,f14,Q6,slD]
     refine Ze rfl trivial (fun h=>by (rw [decide_eq_true hk] at h;simp at h)) (fun _=>?_)
     refine Zg ?_
     refine Zm (Za (Za (Zb (Zc ?_))))
     simp only [Eqs,reduceIte,Zuq,ZsG.r35,f13]
     refine Zb (Zc ?_)
     simp only [Eqs,reduceIte,Zuq,Zus,ZsG.r36]
     refine Zb (Zc ?_)
     simp only [Eqs,reduceIte,Zuq,Zus,ZsG.r24]
     repeat (refine Zut (by first | omega | trivial | (intro h0;simp at h0;omega)) ?_)
     rw [show (1:Int)+1=2 from rfl]
     refine Zy ?_
     refine Za (Za (Zb (Zc ?_)))
     simp only [Eqs,reduceIte,Zuq,ZsG.r23]
     refine Ze rfl trivial (fun h=>by (simp at h)) (fun _=>?_)
     refine ZQ rfl (Za (Zb (Zc ?_)))
     simp only [Eqs,ZsG.r37]
     refine ZW rfl rfl rfl rfl rfl (by trivial) (by trivial) (by exact Zrv) (Zc ?_)
     simp only [Eqs,reduceIte,Zuq,Zus]
     refine hF.retU ⟨gq1,by rw [St.del,if_neg hne];exact gp0,_,_,_,st,rfl,(by trivial),Zux _,Zs8 (Zs8 hsC1 hst1) hst0,rfl,rfl⟩
    refine Zj ?_
    refine ZsW hF rfl trivial [5,7,13,14] (by show ([5,7,13,14]:List Nat).Nodup;decide) (ZsN l (by unfold big;omega) x (tk1.old tk1.gx)) (fun j hj=>rfl) (fun j:Nat=>if (1:Int)=0∧many≤((j:Int)+1) then Oc.stop (.exit 8) else Oc.next) (fun j a=>a=tr2 C0 p1 r1 1 j) rfl ?_ ?_ ?_ ?_ ?_ ?_
    ·intro j a hj hno hB F' ready busy hdr hbeg hend
     subst hB
     simp only [Eqs,reduceIte,Zuq,ZaE,Zbe,Zcf,ZaK,List.isEmpty_nil]
     refine Za (Zb (Zc ?_))
     simp only [Eqs,reduceIte,Zuq,ZsG.r27]
     refine Zb (Zc ?_)
     simp only [Eqs,reduceIte,Zuq,Zur,Zus,ZsG.r28,Dif.cells]
     refine hbeg fun hdb=>?_
     have o5:=Yv (t:=busy) (tk1.old (t:=1) (j:=(j:Int)) tk1.g5)
     have o7:=Yv (t:=busy) (tk1.old (t:=1) (j:=(j:Int)) tk1.g7)
     have o13:=Yv (t:=busy) (tk1.g13 (t:=1) (j:=(j:Int)))
     have o14:=Yv (t:=busy) (ZsP (B:=C0) (a13:=p1) (a14:=r1) (t:=1) (j:=(j:Int)))
     have d1:decide ((l.length:Int)≤j)=false:=decide_eq_false (by omega)
     refine Zj (Za (Za (WB (Wj ?_))))
     simp only [Eqs,reduceIte,Zuq,Zur,Zus,ZsG.r29,o7,o14,Q6,slD,Dif.cells,d1,eq_self]
     repeat (refine Zut (by first | omega | trivial | (intro h0;simp at h0;omega)) ?_)
     refine Ze rfl trivial (fun h=>by simp at h) (fun _=>?_)
     refine Zg ?_
     refine Za (Zb (Zc ?_))
     simp only [Eqs,reduceIte,Zuq,Zus,ZsG.r31,o14]
     repeat (refine Zut (by first | omega | trivial | (intro h0;simp at h0;omega)) ?_)
     rw [Zal,Zs9,show (j:Int)+1=((j+1:Nat):Int) by omega]
     have o5:=Yv (t:=busy) (tk1.old (t:=1) (j:=((j+1:Nat):Int)) tk1.g5)
     have o13:=Yv (t:=busy) (tk1.g13 (t:=1) (j:=((j+1:Nat):Int)))
     have o14:=Yv (t:=busy) (ZsP (B:=C0) (a13:=p1) (a14:=r1) (t:=1) (j:=((j+1:Nat):Int)))
     refine Za (Zb (Zc ?_))
     simp only [Eqs,reduceIte,Zuq,ZsG.r32,o5,o13,o14]
     refine Ze rfl trivial (fun h=>by (simp at h)) (fun _=>?_)
     refine Zg ?_
     refine Zm ?_
     exact hend.fin ⟨by rw [if_neg (fun h=>by simp at h)],rfl⟩ (ZsZ hdb) (Zuw _)
    ·intro q a hno hB hq
     subst hB
     refine Zm (Za ?_)
     exact cont1 _ q l.length (hF.mark q) hq rfl
    ·intro q a m hm hno hgo;split at hgo<;>simp at hgo
    ·intro q a m id hm hno hgo hB hq
     subst hB
     split at hgo
     ·rename_i hs
      exact absurd hs.1 (by decide)
     ·simp at hgo
    ·intro q a m d hm hno hgo;split at hgo<;>simp at hgo
    ·intro m c hgo;split at hgo<;>simp at hgo;exact .inr ⟨8,hgo.symm⟩
   refine ZsW hF rfl trivial [5,7,13,14] (by show ([5,7,13,14]:List Nat).Nodup;decide) (ZsN l (by unfold big;omega) x (tk0.old tk0.gx)) (fun j hj=>rfl) (fun j:Nat=>if (0:Int)=0∧many≤((j:Int)+1) then Oc.stop (.exit 8) else Oc.next) (fun j a=>a=tr2 B p0 r0 0 j) rfl ?_ ?_ ?_ ?_ ?_ ?_
   ·intro j a hj hno hB F' ready busy hdr hbeg hend
    subst hB
    simp only [Eqs,reduceIte,Zuq,ZaE,Zbe,Zcf,ZaK,List.isEmpty_nil]
    refine Za (Zb (Zc ?_))
    simp only [Eqs,reduceIte,Zuq,ZsG.r27]
    refine Zb (Zc ?_)
    simp only [Eqs,reduceIte,Zuq,Zur,Zus,ZsG.r28,Dif.cells]
    refine hbeg fun hdb=>?_
    have o5:=Yv (t:=busy) (tk0.old (t:=0) (j:=(j:Int)) tk0.g5)
    have o7:=Yv (t:=busy) (tk0.old (t:=0) (j:=(j:Int)) tk0.g7)
    have o13:=Yv (t:=busy) (tk0.g13 (t:=0) (j:=(j:Int)))
    have o14:=Yv (t:=busy) (ZsP (B:=B) (a13:=p0) (a14:=r0) (t:=0) (j:=(j:Int)))
    have d1:decide ((l.length:Int)≤j)=false:=decide_eq_false (by omega)
    refine Zj (Za (Za (WB (Wj ?_))))
    simp only [Eqs,reduceIte,Zuq,Zur,Zus,ZsG.r29,o7,o14,Q6,slD,Dif.cells,d1,eq_self]
    repeat (refine Zut (by first | omega | trivial | (intro h0;simp at h0;omega)) ?_)
    refine Ze rfl trivial (fun h=>by simp at h) (fun _=>?_)
    refine Zg ?_
    refine Za (Zb (Zc ?_))
    simp only [Eqs,reduceIte,Zuq,Zus,ZsG.r31,o14]
    repeat (refine Zut (by first | omega | trivial | (intro h0;simp at h0;omega)) ?_)
    rw [Zal,Zs9,show (j:Int)+1=((j+1:Nat):Int) by omega]
    have o5:=Yv (t:=busy) (tk0.old (t:=0) (j:=((j+1:Nat):Int)) tk0.g5)
    have o13:=Yv (t:=busy) (tk0.g13 (t:=0) (j:=((j+1:Nat):Int)))
    have o14:=Yv (t:=busy) (ZsP (B:=B) (a13:=p0) (a14:=r0) (t:=0) (j:=((j+1:Nat):Int)))
    refine Za (Zb (Zc ?_))
    simp only [Eqs,reduceIte,Zuq,ZsG.r32,o5,o13,o14]
    refine Ze rfl trivial (fun h1=>?_) (fun h1=>?_)
    ·exact hend.exit rfl ⟨by rw [if_pos ⟨rfl,by simp at h1;omega⟩],rfl⟩ (ZsZ hdb) (Zuw _)
    ·refine Zg ?_
     refine Zm ?_
     exact hend.fin ⟨by rw [if_neg (fun h=>by simp at h1;omega)],rfl⟩ (ZsZ hdb) (Zuw _)
   ·intro q a hno hB hq
    subst hB
    refine Zm (Za ?_)
    refine cont0 _ q l.length (hF.mark q) hq ?_
    rcases Nat.eq_zero_or_pos l.length with h0 | h0
    ·omega
    ·have h:=hno (l.length-1) (by omega)
     split at h
     ·simp at h
     ·omega
   ·intro q a m hm hno hgo;split at hgo<;>simp at hgo
   ·intro q a m id hm hno hgo hB hq
    subst hB
    split at hgo
    ·rename_i hs
     cases hgo
     refine ZQ rfl ?_
     refine Za ?_
     refine cont0 _ q (m+1) (hF.mark q) hq ?_
     rcases Nat.eq_zero_or_pos m with h0 | h0
     ·omega
     ·have h:=hno (m-1) (by omega)
      split at h
      ·simp at h
      ·omega
    ·simp at hgo
   ·intro q a m d hm hno hgo;split at hgo<;>simp at hgo
   ·intro m c hgo;split at hgo<;>simp at hgo;exact .inr ⟨8,hgo.symm⟩
  refine Za (Za (Zb (Zc ?_)))
  simp only [Eqs,reduceIte,Zuq,Zur,Zus,ZsG.r4]
  rw [ZcN]
  refine ZW rfl rfl rfl rfl rfl (by trivial) (by trivial) (by exact Zsk w) (Zc ?_)
  simp only [Eqs,reduceIte,Zuq,Zur,Zus]
  rw [ZcN]
  refine KA rfl rfl rfl rfl rfl (fun hcg=>⟨by first | trivial | (simpa [Qu] using hcg),trivial,Zsk r⟩) (Zc ?_)
  simp only [Eqs,reduceIte,Zuq]
  have jn :  ZT F [.code (.seq (qR ZsG.r6 [3,4,5,6,7,8,96,97]) (.seq (qR ZsG.r7 [3,4,5,6,7,8,96,97]) (.seq (.seq (qR ZsG.r8 [3,4,5,6,7,8,9,96,97]) (.block 0 (.loop ZsG.l0))) (.seq (qR ZsG.r12 [5,6,7,8,10,96,97]) (.seq (.seq (qR ZsG.r13 [5,6,7,8,10,63,96,97]) (qC 63 (.seq (qR ZsG.r14 [6]) .ret) .skip)) (.seq (.seq (qR ZsG.r15 [5,6,7,8,10,11,96,97]) (.block 2 (.loop ZsG.l1))) (.seq (.seq (qR ZsG.r22 [5,6,7,10,13,96,97]) (.block 6 (.loop ZsG.l3))) (.seq (qR ZsG.r37 [6]) .ret))))))))] [(3,.loc 3 0),(4,.loc 4 0),(5,.loc 5 0),(6,.loc 6 0),(7,.loc 7 0)] [(3,[.str w.name,We w.msgs,.str w.start]),(4,[.str r.name,We r.msgs,.str r.start]),(5,[.int .i64 many]),(6,[.bool false]),(7,[Q6 l])] st:=by
   refine Za (Zb (Zc ?_))
   simp only [Eqs,reduceIte,Zuq,Zur,Zus,ZsG.r6]
   refine Za (Zb (Zc ?_))
   simp only [Eqs,reduceIte,Zuq,ZsG.r7,We,slD]
   have jn0:=trivial
   by_cases hm:w.msgs=[]
   ·clear jn0
    refine JO (st) (.full) rfl rfl rfl rfl rfl rfl (by trivial) (by trivial) rfl (by first | trivial | assumption) (by (rw [hm];decide)) (by (rw [hm];unfold big;decide)) fun t1 ht1=>Zc ?_
    simp only [Eqs,reduceIte,Zuq,Zur,Zus,hm]
    refine Ku (s':=st) (Zl ht1) ?_
    refine Za (Za (JP [4,5,6,7,8] ?_))
    simp only [Eqs,reduceIte,Zuq]
    refine Qz (ρ':=[(4,.loc 4 0),(5,.loc 5 0),(6,.loc 6 0),(7,.loc 7 0),(8,.loc 8 0)]) (L':=[(4,[.str r.name,We r.msgs,.str r.start]),(5,[.int .i64 many]),(6,[.bool false]),(7,[Q6 l]),(8,[.str w.name,We [],.str w.start])]) (Zai _) (.skip (.skip (.skip (.skip (.cons (.cons (Zux _) (.cons (Zss rfl fun i h=>absurd h (Nat.not_lt_zero _)) (.cons (Zux _) .nil))) .nil))))) ?_
    refine Zb (Zc ?_)
    simp only [Eqs,reduceIte,Zuq,ZsG.r8]
    refine Zj (ZX ?_)
    refine Za (Za (Zb (Zc ?_)))
    simp only [Eqs,reduceIte,Zuq,ZsG.r9,We,slD]
    refine Ze rfl trivial (fun h=>by (simp at h)) (fun _=>?_)
    refine ZQ rfl (Za (Zb (Zc ?_)))
    simp only [Eqs,reduceIte,Zuq,Zur,Zus,ZsG.r12]
    rw [show (D.agg [.str w.name,.sl .none 0 2 fun i=>(([]:List Msg).getD i default).cells,.str w.start]) = .agg w.cells by unfold ZuM;rw [hm];rfl,show (D.agg [.str r.name,.sl .none r.msgs.length 2 fun i=>(r.msgs.getD i default).cells,.str r.start]) = .agg r.cells from rfl]
    refine Yn rfl rfl rfl rfl rfl (by trivial) (by trivial) (by exact Zlx w r st) ?_ ?_
    ·rintro dv S1 ⟨x,hx,hq,rfl⟩
     cases hq
     rw [hl]
     refine Zc ?_
     simp only [Eqs,reduceIte,Zuq]
     refine Za (Za (Zb (Zc ?_)))
     simp only [Eqs,reduceIte,Zuq,ZsG.r13]
     refine Ze rfl trivial (fun h=>by simp at h) (fun _=>?_)
     refine Zg ?_
     refine Za (Za (Zb (Zc ?_)))
     simp only [Eqs,reduceIte,Zuq,ZsG.r15]
     refine Zj (ZX ?_)
     refine Za (Za (Zb (Zc ?_)))
     simp only [Eqs,reduceIte,Zuq,ZsG.r16]
     refine Ze rfl trivial (fun h=>by (simp at h)) (fun _=>?_)
     refine ZQ rfl (Za (Za (JP [5,6,7,10] ?_)))
     simp only [Eqs,reduceIte,Zuq]
     exact turns x hx
    ·rintro dv S1 ⟨x,hx,hq,_⟩
     cases hq
   ·clear jn0
    refine Zs7 rfl rfl rfl rfl rfl rfl (by trivial) (by trivial) (by exact List.length_pos_iff.2 hm) (by omega) (by unfold big;omega) fun bm bmc hbm hcbm=>Zc ?_
    simp only [Eqs,reduceIte,Zuq,Zur,Zus]
    have own0:ZsJ st w bm 0 (fun q=>Yo (w.msgs.getD q default).fields) (st.upd bm (.cells (ZsH w (fun q=>Yo (w.msgs.getD q default).fields)++List.replicate ((bmc-w.msgs.length)*2) .any))):=⟨hbm,⟨_,ZuB _ _ _⟩,Zuy _ hbm,fun _ _ _=>rfl,fun q h=>absurd h (Nat.not_lt_zero _)⟩
    refine Za (Za (Zb (Zc ?_)))
    simp only [Eqs,reduceIte,Zuq,ZsG.r8]
    refine Zj (ZX ?_)
    have key:∀ (n i:Nat),(w.msgs.length)-i=n→∀ fd S,ZsJ st w bm i fd S→i≤w.msgs.length→ZT F [.code (ZsG.l0),.inLoop ZsG.l0,.inBlock 0,.code (.seq (qR ZsG.r12 [5,6,7,8,10,96,97]) (.seq (.seq (qR ZsG.r13 [5,6,7,8,10,63,96,97]) (qC 63 (.seq (qR ZsG.r14 [6]) .ret) .skip)) (.seq (.seq (qR ZsG.r15 [5,6,7,8,10,11,96,97]) (.block 2 (.loop ZsG.l1))) (.seq (.seq (qR ZsG.r22 [5,6,7,10,13,96,97]) (.block 6 (.loop ZsG.l3))) (.seq (qR ZsG.r37 [6]) .ret)))))] [(3,.loc 3 0),(4,.loc 4 0),(5,.loc 5 0),(6,.loc 6 0),(7,.loc 7 0),(8,.loc 8 0),(9,.d (.int .i64 i))] [(3,[.str w.name,We w.msgs,.str w.start]),(4,[.str r.name,We r.msgs,.str r.start]),(5,[.int .i64 many]),(6,[.bool false]),(7,[Q6 l]),(8,[.str w.name,.msl bm 0 w.msgs.length bmc 2,.str w.start])] S:=by
     intro n
     induction n using Nat.strongRecOn with
     | ind n ih_key =>
     intro i hn fd S hS hi
     refine Za (Za (Zb (Zc ?_)))
     simp only [Eqs,reduceIte,Zuq,ZsG.r9]
     refine Ze rfl trivial (fun h1=>?_) (fun h1=>?_)
     ·simp at h1
      refine Zg ?_
      obtain⟨C,gb⟩:=hS.at_
      have hf12:=hlg.2 i h1
      refine Za (Zj (Wq (ZM ?_)))
      simp only [Eqs,reduceIte,Zuq,ZsG.r11,We,slD,ZuG]
      repeat (refine Zut (by first | omega | trivial | (intro h0;simp at h0;omega)) ?_)
      by_cases hf:(w.msgs.getD i default).fields=[]
      ·rw [hf]
       refine ZhF (S) (.full) rfl rfl rfl rfl rfl rfl (by trivial) (by trivial) rfl trivial (by decide) (by (unfold big;decide)) fun t1 ht1=>⟨by first | trivial | exact⟨rfl,trivial⟩ | simp [Eqs,reduceCtorEq,Int.reduceToNat,reduceIte,Zuq,Zur,Zus],ZM ?_⟩
       simp only [Eqs,reduceIte,Zuq,ZhU ht1 gb]
       repeat (refine Zut (by first | omega | trivial | (intro h0;simp at h0;omega) | ((rw [ZuF,ZsY];omega))) ?_)
       refine JG (b:=bm) (ZuB _ _ _) (Zs0 (Zs0 (LeC.refl _) (.cons (show D.Le _ (Yo []) from Zss rfl fun i h=>absurd h (Nat.not_lt_zero _)) .nil)) (LeC.refl _)) ?_
       rw [ZuQ]
       refine Ku (hS.step0 (k:=0) h1 hf gb ht1).2 ?_
       refine Zm (Zb (Zc ?_))
       simp only [Eqs,reduceIte,Zuq,ZsG.r10]
       repeat (refine Zut (by first | omega | trivial | (intro h0;simp at h0;omega)) ?_)
       refine Zy ?_
       exact ih_key ((w.msgs.length)-(i+1)) (by omega) (i+1) rfl _ _ (hS.step0 (k:=0) h1 hf gb ht1).1 (by omega)
      ·clear hfew
       refine Ztd rfl rfl rfl rfl rfl rfl (by trivial) (by trivial) (by exact List.length_pos_iff.2 hf) (by omega) (by unfold big;omega) fun bf bfc hbf hcbf=>⟨by first | trivial | exact⟨rfl,trivial⟩ | simp [Eqs,reduceCtorEq,Int.reduceToNat,reduceIte,Zuq,Zur,Zus],ZM ?_⟩
       simp only [Eqs,reduceIte,Zuq,ZsI hbf gb]
       repeat (refine Zut (by first | omega | trivial | (intro h0;simp at h0;omega) | ((rw [ZuF,ZsY];omega))) ?_)
       refine Zm (Zb (Zc ?_))
       simp only [Eqs,reduceIte,Zuq,ZsG.r10]
       repeat (refine Zut (by first | omega | trivial | (intro h0;simp at h0;omega)) ?_)
       refine Zy ?_
       exact ih_key ((w.msgs.length)-(i+1)) (by omega) (i+1) rfl _ _ (hS.step h1 hf gb hbf) (by omega)
     ·simp at h1
      obtain rfl:i=w.msgs.length:=by omega
      refine ZQ rfl (Za (Zb (Zc ?_)))
      simp only [Eqs,reduceIte,Zuq,Zur,Zus,ZsG.r12]
      rw [ZcN]
      refine Yn rfl rfl rfl rfl rfl (by trivial) (by trivial) (by exact (Yf.lend hS.lent (.cons hS.reads (.cons (.refl _) .nil)) (Zs2 w r _) (fun _ _=>Zta))) ?_ ?_
      ·rintro dv S1 ⟨S',⟨x,tk,row,htip,htk,hxo,hrow,hq,rfl⟩,hdj,rfl⟩
       cases hq
       rw [hl] at hrow htip hxo hdj
       rw [hl]
       refine Zc ?_
       simp only [Eqs,reduceIte,Zuq]
       have gx:(((St.own (fun _=>none) tk (l.length*2)).or (ZuN x (.cells [.sl tk l.length 2 row]))).or S) x=some (.cells [.sl tk l.length 2 row]):=Yv (by rw [YR hxo];exact Qh _ _)
       have hSx:S x=none:=by
        cases h:S x with
        | none=>rfl
        | some o =>
         have:=hdj x o h
         rw [YR hxo,Qh] at this;simp at this
       refine JG (b:=x) gx (.cons (hrow.le rfl) .nil) ?_
       refine Ku (s':=(ZuN x (.cells [Q6 l])).or S) (fun b o hb=>?_) ?_
       ·by_cases hbx:b=x
        ·subst hbx;rw [ZuB];rw [Yv (Qh _ _)] at hb;exact hb
        ·rw [ZuE _ _ hbx]
         rw [YR (ZaN _ hbx)] at hb
         rw [YR (hdj b o hb)];exact hb
       have own2:=ZsO.mk1 (l:=Q6 l) hS hSx
       generalize (ZuN x (.cells [Q6 l])).or S=U0 at *
       clear gx hS hSx hdj
       refine Za (Za (Zb (Zc ?_)))
       simp only [Eqs,reduceIte,Zuq,ZsG.r13]
       refine Ze rfl trivial (fun h=>by simp at h) (fun _=>?_)
       refine Zg ?_
       refine Za (Za (Zb (Zc ?_)))
       simp only [Eqs,reduceIte,Zuq,ZsG.r15]
       refine Zj (ZX ?_)
       have key2:∀ (n i:Nat),(w.msgs.length)-i=n→∀ U,ZsO st w bm x (Q6 l) fd U→i≤w.msgs.length→ZT F [.code (ZsG.l1),.inLoop ZsG.l1,.inBlock 2,.code (.seq (.seq (qR ZsG.r22 [5,6,7,10,13,96,97]) (.block 6 (.loop ZsG.l3))) (.seq (qR ZsG.r37 [6]) .ret))] [(5,.loc 5 0),(6,.loc 6 0),(7,.loc 7 0),(8,.loc 8 0),(10,.d (.fn (.func 40) [] [.ptr x 0])),(11,.d (.int .i64 i))] [(5,[.int .i64 many]),(6,[.bool false]),(7,[Q6 l]),(8,[.str w.name,.msl bm 0 w.msgs.length bmc 2,.str w.start])] U:=by
        intro n
        induction n using Nat.strongRecOn with
        | ind n ih_key2 =>
        intro i hn U hU hi
        refine Za (Za (Zb (Zc ?_)))
        simp only [Eqs,reduceIte,Zuq,ZsG.r16]
        refine Ze rfl trivial (fun h1=>?_) (fun h1=>?_)
        ·simp at h1
         refine Zg ?_
         refine Za (Zj (Za (Zb (Zc ?_))))
         simp only [Eqs,reduceIte,Zuq,ZsG.r18]
         refine Zj (ZX ?_)
         have key4:∀ (n k:Nat),((w.msgs.getD i default).fields.length)-k=n→∀ U,ZsO st w bm x (Q6 l) fd U→k≤(w.msgs.getD i default).fields.length→ZT F [.code (ZsG.l2),.inLoop ZsG.l2,.inBlock 4,.inBlock 3,.code (qR ZsG.r17 [5,6,7,8,10,11,96,97]),.inLoop ZsG.l1,.inBlock 2,.code (.seq (.seq (qR ZsG.r22 [5,6,7,10,13,96,97]) (.block 6 (.loop ZsG.l3))) (.seq (qR ZsG.r37 [6]) .ret))] [(5,.loc 5 0),(6,.loc 6 0),(7,.loc 7 0),(8,.loc 8 0),(10,.d (.fn (.func 40) [] [.ptr x 0])),(11,.d (.int .i64 i)),(12,.d (.int .i64 k))] [(5,[.int .i64 many]),(6,[.bool false]),(7,[Q6 l]),(8,[.str w.name,.msl bm 0 w.msgs.length bmc 2,.str w.start])] U:=by
          intro n
          induction n using Nat.strongRecOn with
          | ind n ih_key4 =>
          intro k hk U hU hkl
          obtain⟨C,gb⟩:=hU.at_
          have gf:=Ztj (fd:=fd) h1 C
          rcases hU.fl i h1 with ⟨hf,he⟩ | ⟨b,c,F2,he,n1,n2,n3,gF,hFl⟩
          ·rw [he] at gf
           refine Za (Za (Zb (Zc ?_)))
           simp only [Eqs,reduceIte,Zuq,ZsG.r19,gb,gf,Yo,slD]
           repeat (refine Zut (by first | omega | trivial | (intro h0;simp at h0;omega)) ?_)
           refine Ze rfl trivial (fun h=>by (rw [hf] at hkl;simp at h;simp at hkl;omega)) (fun _=>?_)
           refine ZQ rfl (Zm (Zb (Zc ?_)))
           simp only [Eqs,reduceIte,Zuq,ZsG.r17]
           repeat (refine Zut (by first | omega | trivial | (intro h0;simp at h0;omega)) ?_)
           refine Zy ?_
           exact ih_key2 ((w.msgs.length)-(i+1)) (by omega) (i+1) rfl _ hU (by omega)
          ·rw [he] at gf
           refine Za (Za (Zb (Zc ?_)))
           simp only [Eqs,reduceIte,Zuq,ZsG.r19,gb,gf]
           repeat (refine Zut (by first | omega | trivial | (intro h0;simp at h0;omega)) ?_)
           refine Ze rfl trivial (fun h2=>?_) (fun h2=>?_)
           ·have h3:k<(w.msgs.getD i default).fields.length:=by simpa only [decide_eq_true_eq,Int.ofNat_lt] using h2
            refine Zg ?_
            refine Za (Zj (Zb (Zc ?_)))
            simp only [Eqs,reduceIte,Zuq,Zur,Zus,ZsG.r21,gb,gf,gF]
            have hf12:=hlg.2 i h1
            have hk15:k*15+15≤F2.length:=by omega
            repeat (refine Zut (by first | omega | trivial | (intro h0;simp at h0;omega)) ?_)
            refine Zm (Zb (Zc ?_))
            simp only [Eqs,reduceIte,Zuq,ZsG.r20]
            repeat (refine Zut (by first | omega | trivial | (intro h0;simp at h0;omega)) ?_)
            refine Zy ?_
            exact ih_key4 (((w.msgs.getD i default).fields.length)-(k+1)) (by omega) (k+1) rfl _ (hU.store gF n1 n2 n3 (by simp only [ZuF,List.length_take,List.length_drop,ZuI,List.length_nil];omega)) (by omega)
           ·refine ZQ rfl (Zm (Zb (Zc ?_)))
            simp only [Eqs,reduceIte,Zuq,ZsG.r17]
            repeat (refine Zut (by first | omega | trivial | (intro h0;simp at h0;omega)) ?_)
            refine Zy ?_
            exact ih_key2 ((w.msgs.length)-(i+1)) (by omega) (i+1) rfl _ hU (by omega)
         exact key4 _ 0 rfl _ hU (Nat.zero_le _)
        ·simp at h1
         obtain rfl:i=w.msgs.length:=by omega
         refine ZQ rfl (Za (Za (JP [5,6,7,10] ?_)))
         simp only [Eqs,reduceIte,Zuq]
         exact Ku hU.rest (turns x hU.x0)
       exact key2 _ 0 rfl _ own2 (Nat.zero_le _)
      ·rintro dv S1 ⟨S',⟨x,tk,row,htip,htk,hxo,hrow,hq,_⟩,_⟩
       cases hq
    exact key _ 0 rfl _ _ own0 (Nat.zero_le _)
  refine Ze rfl trivial (fun hv=>?_) (fun hv=>?_)
  ·rw [if_pos hv] at hS
   rw [ZuA] at hv
   refine Zb (Zc ?_)
   simp only [Eqs,reduceIte,Zuq,Zur,Zus,ZsG.r5]
   rw [ZcN,ZcN]
   refine ZW rfl rfl rfl rfl rfl (by trivial) (by trivial) (by exact Zsw w r (ZcE hv.1) (ZcE hv.2)) (Zc ?_)
   simp only [Eqs,reduceIte,Zuq,Zus]
   rw [← hS]
   repeat (refine Zut (by first | omega | trivial | (intro h0;simp at h0;omega) | (rfl)) ?_)
   exact jn
  ·rw [if_neg (by rw [hv];decide)] at hS
   subst hS
   refine Zg ?_
   refine JP [3,4,5,6,7] ?_
   simp only [Eqs,reduceIte,Zuq]
   refine Qz (ρ':=[(3,.loc 3 0),(4,.loc 4 0),(5,.loc 5 0),(6,.loc 6 0),(7,.loc 7 0)]) (L':=[(3,[.str w.name,We w.msgs,.str w.start]),(4,[.str r.name,We r.msgs,.str r.start]),(5,[.int .i64 many]),(6,[.bool false]),(7,[Q6 []])]) (Zai _) (.skip (.skip (.skip (.skip (.cons (.cons (Qa (by simp)) .nil) .nil))))) jn
end Go.DL
namespace Go.Proofs.YtmnhlhenahlilaaGreat
open Go Go.DL Go.ChangeShapes Go.WideShapes Go.ChangeAt Go.RowKit
set_option linter.unusedVariables false
set_option maxRecDepth 100000 in
theorem loops_lifted (os:Os) (started:os.Started) (H:Type) (enc:TypeId × Value→H) :
  ReturnsInHanded {} Tryz.checked os 4 .any (Rows.compatLoopsSpec.pre6 enc Zuv Tryz.f4 Rows.compatLoopsRow.domain false) (Rows.compatLoopsSpec.post enc Zuv Tryz.f4 false true false false):=by
 refine returnsInHanded_of_change (C:=Tryz.checked) own started (by kernel_rfl) Tryz.func4
  (ChangeSpec.witness6 (enc:=enc) (C:=Tryz.checked) false ⟨#[],#[.agg #[.string ⟨#[]⟩,.slice none 0 0,.string ⟨#[]⟩],.agg #[.string ⟨#[]⟩,.slice none 0 0,.string ⟨#[]⟩],.int .i64 0],[]⟩ 8 (by kernel_rfl) (by kernel_rfl) (by kernel_rfl) (by kernel_rfl)) ?_
 intro W base args ds gs before hval hW _ _
 have hp:Tryz.f4.params.toList=[24,24,3]:=by rw [Tryz.params4]
 refine Zse (P:=Zuv) (tb:=4) (Qs:=[_,_,_]) rfl laidOut (fun t ht=>types_ok t ?_) (by kernel_rfl) Tryz.underlying4 (fun ds hds=>?_) (by rw [hp];exact .cons arg_Dfn (.cons arg_Dfn (.cons arg_Int .nil))) (fun xs hxs=>?_) W base args ds gs before hval hW
 ·rw [hp] at ht;simp at ht;rcases ht with h | h<;>simp [h]
 ·rw [hp] at hds
  match ds,hds with
  | [a,b,c],_=>rfl
 ·cases hxs with | cons h1 hxs =>
  cases hxs with | cons h2 hxs =>
  cases hxs with | cons h3 hxs =>
  cases hxs
  obtain⟨many,rfl⟩:=h3
  obtain⟨_,⟨w,rfl⟩,rfl⟩:=h1
  obtain⟨_,⟨r,rfl⟩,rfl⟩:=h2
  exact ZsR w r many
theorem loops_holds:Rows.CompatLoopsSaid :=
 OpenClaim.holds_of_wide 4 Tryz.f4 rfl rfl rfl rfl rfl rfl rfl ⟨rfl,rfl,rfl,rfl,rfl⟩ rfl rfl rfl rfl rfl (by kernel_rfl) Tryz.func4 (by kernel_rfl)
  (of_decide_eq_true (by kernel_rfl)) (by unfold Func.isWrapper;first | (rw [if_pos (by decide +kernel)];kernel_rfl) | (rw [if_neg (by decide +kernel)];exact⟨rfl,rfl⟩))
  (fun os started H enc _=>loops_lifted os started H enc)
end Go.Proofs.YtmnhlhenahlilaaGreat
