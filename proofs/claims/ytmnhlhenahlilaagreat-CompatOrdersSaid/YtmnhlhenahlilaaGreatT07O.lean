/- The law CompatOrders of this program is proved: at any three definitions the program's function CompatOrders ends and answers true. No condition beyond the statement's own. -/
import Derived.Test.YtmnhlhenahlilaaGreatT06
import Derived.Test.YtmnhlhenahlilaaGreatRows
set_option maxHeartbeats 16000000
set_option linter.all false
open Bool renaming and_eq_true → ZuA, or_eq_true → ZuL
open Go.DL.D.Le renaming refl → Zux
open Go.DL.Dfn renaming cells → ZuM
open Go.DL.St renaming sub_refl → Zuw
open Go.Proofs.Tryz renaming prog → Zuv
open List renaming getElem_of_mem → ZuJ, take_length → ZuH
open Nat renaming le_refl → ZuO, reduceAdd → Zur, reduceEqDiff → Zuq, reduceLeDiff → Zus
open Option.some renaming injEq → Zuu
namespace Go.DL
open Go Go.Proofs
def ZsG.r0:=[qB 3 0,qB 4 1,qB 5 2,qb 6 false]
def ZsG.r1:=[qL 15 3 3,qf 16 7 [.tmp 15],qm 17 16,qn 17 (qL 18 3 4),qn 17 (qf 19 7 [.tmp 18]),qo 20 17 19,qm 21 20,qn 21 (qL 22 3 5),qn 21 (qf 23 7 [.tmp 22]),qo 24 21 23]
def ZsG.r2:=[qf 25 8 [],qm 6 25]
def ZsG.r3:=[qL 27 3 3,qL 28 3 3,qf 29 9 [.tmp 27,.tmp 28],qm 26 29,qx 30 0 26,qx 31 1 26,qm 7 30,qm 8 31]
def ZsG.r4:=[qL 33 3 3,qL 34 3 4,qf 35 9 [.tmp 33,.tmp 34],qm 32 35,qx 36 0 32,qx 37 1 32,qm 9 36,qm 10 37]
def ZsG.r5:=[qL 39 3 4,qL 40 3 5,qf 41 9 [.tmp 39,.tmp 40],qm 38 41,qx 42 0 38,qx 43 1 38,qm 11 42,qm 12 43]
def ZsG.r6:=[qL 45 3 3,qL 46 3 5,qf 47 9 [.tmp 45,.tmp 46],qm 44 47,qx 48 0 44,qx 49 1 44,qm 13 48,qm 14 49]
def ZsG.r7:=[qm 50 8,qf 51 14 [.tmp 50],qe 52 .eql 51 0,qm 53 52,qy 53 (qm 54 7),qy 53 (qk 55 .not 54),qO 56 53 55]
def ZsG.r8:=[qb 6 false]
def ZsG.r9:=[qm 57 10,qf 58 14 [.tmp 57],qm 59 12,qf 60 14 [.tmp 59],qd 61 .add 58 60,qm 62 14,qf 63 14 [.tmp 62],qd 64 .add 61 63,qe 65 .neq 64 0,qm 66 65,qn 66 (qm 67 9),qn 66 (qk 68 .not 67),qo 69 66 68,qm 70 69,qn 70 (qm 71 11),qn 70 (qk 72 .not 71),qo 73 70 72,qm 74 73,qn 74 (qm 75 13),qo 76 74 75,qm 77 76,qy 77 (qf 78 8 []),qO 79 77 78,qm 6 79]
abbrev ZsG.id:Nat:=6
def ZsG.an:Ann:=[(0,[3,4,5]),(1,[3,4,5,24]),(2,[6]),(3,[3,4,5,7,8]),(4,[3,4,5,7,8,9,10]),(5,[3,5,7,8,9,10,11,12]),(6,[7,8,9,10,11,12,13,14]),(7,[9,10,11,12,13,14,56]),(8,[6]),(9,[6])]
def ZsG.body:DC:=.seq (qR ZsG.r0 [3,4,5]) (.seq (.seq (qR ZsG.r1 [3,4,5,24]) (qC 24 (.seq (qR ZsG.r2 [6]) .ret) .skip)) (.seq (qR ZsG.r3 [3,4,5,7,8]) (.seq (qR ZsG.r4 [3,4,5,7,8,9,10]) (.seq (qR ZsG.r5 [3,5,7,8,9,10,11,12]) (.seq (qR ZsG.r6 [7,8,9,10,11,12,13,14]) (.seq (.seq (qR ZsG.r7 [9,10,11,12,13,14,56]) (qC 56 (.seq (qR ZsG.r8 [6]) .ret) .skip)) (.seq (qR ZsG.r9 [6]) .ret)))))))
def ZsG.df:DF:=⟨80,[.tmp 6],ZsG.body⟩
theorem ZsG.ok:cf Zuv ZsG.an ZsG.id=some ZsG.df:=by kernel_rfl
end Go.DL
namespace Go.Proofs.YtmnhlhenahlilaaGreat
open Go Go.DL Go.ChangeShapes Go.WideShapes Go.ChangeAt Go.RowKit
set_option linter.unusedVariables false
theorem arg_Dfn {H:Type} {enc:TypeId × Value→H}:ZlT enc Zuv 24 fun x=>∃ ds,(∃ d:Dfn,ds=d.cells)∧x = .agg ds:=Zq2 Tryz.underlying24 fun W=>ZsE
end Go.Proofs.YtmnhlhenahlilaaGreat
namespace Go.DL
open Go Go.Proofs
theorem ZsH (a b c:Dfn) (hrefl:Zdg a a=0→Zap a a=true) (htrans:Zap a b=true→Zap b c=true→Zap a c=true):ZR Zuv ZsG.id [.agg a.cells,.agg b.cells,.agg c.cells] (.bool true):=by
 refine Z0 ZsG.ok fun F st hret=>?_
 refine Za (Zb (Zc ?_))
 simp only [Eqs,reduceCtorEq,reduceIte,Zuq,Zur,ZsG.r0,ZuM]
 refine Za (Za (Zb (Zc ?_)))
 simp only [Eqs,reduceIte,Zuq,Zur,Zus,ZsG.r1]
 rw [ZcN]
 refine ZW rfl rfl rfl rfl rfl (by trivial) (by trivial) (by exact Zrw a) (Zc ?_)
 simp only [Eqs,reduceIte,Zuq,Zur,Zus]
 rw [ZcN]
 refine KA rfl rfl rfl rfl rfl (fun hcg=>⟨by first | trivial | (simpa [Qu] using hcg),trivial,Zrw b⟩) (Zc ?_)
 simp only [Eqs,reduceIte,Zuq,Zur,Zus]
 rw [ZcN]
 refine KA rfl rfl rfl rfl rfl (fun hcg=>⟨by first | trivial | (simpa [Qu] using hcg),trivial,Zrw c⟩) (Zc ?_)
 simp only [Eqs,reduceIte,Zuq]
 refine Ze rfl trivial (fun h1=>?_) (fun h1=>?_)
 ·refine Za (Zb (Zc ?_))
  simp only [Eqs,ZsG.r2]
  refine ZW rfl rfl rfl rfl rfl (by trivial) (by trivial) (by exact Zrv) (Zc ?_)
  simp only [Eqs,reduceIte,Zuq]
  exact hret rfl (by trivial) (Zux _) (Zuw _)
 ·refine Zg ?_
  refine Za (Zb (Zc ?_))
  simp only [Eqs,reduceIte,Zuq,Zur,Zus,ZsG.r3]
  rw [ZcN]
  refine Wn rfl rfl rfl rfl rfl (by trivial) (by trivial) (by exact ZcM a a _) (Zc ?_)
  simp only [Eqs,reduceIte,Zuq]
  refine Za (Zb (Zc ?_))
  simp only [Eqs,reduceIte,Zuq,Zur,Zus,ZsG.r4]
  rw [ZcN,ZcN]
  refine Wn rfl rfl rfl rfl rfl (by trivial) (by trivial) (by exact ZcM a b _) (Zc ?_)
  simp only [Eqs,reduceIte,Zuq]
  refine Za (Zb (Zc ?_))
  simp only [Eqs,reduceIte,Zuq,Zur,Zus,ZsG.r5]
  rw [ZcN,ZcN]
  refine Wn rfl rfl rfl rfl rfl (by trivial) (by trivial) (by exact ZcM b c _) (Zc ?_)
  simp only [Eqs,reduceIte,Zuq]
  refine Za (Zb (Zc ?_))
  simp only [Eqs,reduceIte,Zuq,Zur,Zus,ZsG.r6]
  rw [ZcN,ZcN]
  refine Wn rfl rfl rfl rfl rfl (by trivial) (by trivial) (by exact ZcM a c _) (Zc ?_)
  simp only [Eqs,reduceIte,Zuq]
  refine Za (Za (Zb (Zc ?_)))
  simp only [Eqs,reduceIte,Zuq,ZsG.r7]
  refine ZW rfl rfl rfl rfl rfl (by trivial) (by trivial) (by exact ZbK _) (Zc ?_)
  simp only [Eqs,reduceIte,Zuq]
  have hno:(decide (Zdg a a=0) && !Zap a a)=false:=by
   by_cases he:Zdg a a=0
   ·rw [hrefl he];simp
   ·rw [decide_eq_false he];rfl
  refine Ze rfl trivial (fun h=>by (rw [hno] at h;simp at h)) (fun _=>?_)
  refine Zg ?_
  refine Za (Zb (Zc ?_))
  simp only [Eqs,reduceIte,Zuq,ZsG.r9]
  refine ZW rfl rfl rfl rfl rfl (by trivial) (by trivial) (by exact ZbK _) (Zc ?_)
  simp only [Eqs,reduceIte,Zuq]
  refine ZW rfl rfl rfl rfl rfl (by trivial) (by trivial) (by exact ZbK _) (Zc ?_)
  simp only [Eqs,reduceIte,Zuq]
  have hab:=Zn4 a b
  have hbc:=Zn4 b c
  have hac:=Zn4 a c
  refine⟨by omega,by omega,?_⟩
  refine ZW rfl rfl rfl rfl rfl (by trivial) (by trivial) (by exact ZbK _) (Zc ?_)
  simp only [Eqs,reduceIte,Zuq]
  refine⟨by omega,by omega,?_⟩
  have hfin:(!decide (Zdg a b+Zdg b c+Zdg a c=0) || !Zap a b || !Zap b c || Zap a c)=true:=by
   cases h1:Zap a b<;>cases h2:Zap b c<;>simp [h1]
   exact .inr (htrans h1 h2)
  refine KA rfl rfl rfl rfl rfl (fun hcg=>⟨by first | trivial | (simpa [Qu] using hcg),trivial,Zrv⟩) (Zc ?_)
  simp only [Eqs,reduceIte,Zuq,hfin]
  exact hret rfl (by trivial) (Zux _) (Zuw _)
end Go.DL
namespace Go.DL
open Go Go.Proofs
structure ZvD (m:Msg) (f g:Fld):Prop where
 name:f.name=g.name
 kind:f.kind=g.kind
 lay:ZdS f g=false
 span:ZfL f g=false
 loose:f.loose=true→g.loose=true
 size:ZdV f.size g.size=true
 tag:f.tag=g.tag
 from_:f.from_=g.from_
 of:ZaX m f=true→f.of=g.of
 cov:∀ c∈f.cases,WA c c.low g.cases=true
theorem Zv3 {m:Msg} {f g:Fld} (h:ZaW m f g=0):ZvD m f g:=by
 unfold ZaW at h
 split at h;· omega
 rename_i h1
 split at h;· omega
 rename_i h2
 split at h;· omega
 rename_i h3
 split at h;· omega
 rename_i h4
 split at h;· omega
 rename_i h5
 split at h;· omega
 rename_i h6
 split at h;· omega
 rename_i h7
 split at h;· omega
 rename_i h8
 split at h
 ·rename_i h9
  simp only [ZuL,not_or,Bool.not_eq_true,Bool.not_eq_false',decide_eq_true_eq] at h7
  refine⟨by simpa using h1,by simpa using h2,by simpa using h3,by simpa using h4,fun hl=>?_,by simpa using h6,h7.1,h7.2,fun hi=>?_,fun c hx=>List.all_eq_true.1 h9 c hx⟩
  ·rw [hl] at h5;simpa using h5
  ·rw [hi] at h8;simpa using h8
 ·omega
theorem ZvD.zero {m:Msg} {f g:Fld} (h:ZvD m f g):ZaW m f g=0:=by
 unfold ZaW
 rw [if_neg (by simp [h.name]),if_neg (by simp [h.kind]),if_neg (by simp [h.lay]),if_neg (by simp [h.span]),if_neg (by
  cases hl:f.loose
  ·simp
  ·simp [h.loose hl]),if_neg (by simp [h.size]),if_neg (by simp [h.tag,h.from_]),if_neg (by
  cases hi:ZaX m f
  ·simp
  ·simp [h.of hi]),if_pos (List.all_eq_true.2 h.cov)]
theorem ZvE {f g:Fld}:ZdS f g=false↔f.bits=g.bits∧f.little=g.little∧f.check=g.check∧f.key=g.key∧(f.kind=5→f.low=g.low):=by
 unfold ZdS
 simp only [Bool.or_eq_false_iff,Bool.not_eq_false',decide_eq_true_eq,Bool.and_eq_false_iff,decide_eq_false_iff_not]
 constructor
 ·rintro⟨h1,h2,h3,h4,h5⟩
  exact⟨h1,h2,h3,h4,fun hk=>h5.elim (fun h=>absurd hk h) id⟩
 ·rintro⟨h1,h2,h3,h4,h5⟩
  refine⟨h1,h2,h3,h4,?_⟩
  by_cases hk:f.kind=5
  ·exact .inr (h5 hk)
  ·exact .inl hk
theorem Zvs {f g:Fld}:ZfL f g=false↔(f.kind=2→f.low=g.low)∧(f.kind=1∨f.kind=3→g.low≤f.low∧f.high≤g.high)∧(f.kind=5∨f.kind=6→f.high≤g.high):=by
 unfold ZfL
 simp only [Bool.or_eq_false_iff,Bool.and_eq_false_iff,Bool.not_eq_false',decide_eq_true_eq,decide_eq_false_iff_not]
 constructor
 ·rintro⟨h1,h2,h3⟩
  refine⟨fun hk=>?_,fun hk=>?_,fun hk=>?_⟩
  ·rcases h1 with h1 | h1
   ·exact absurd hk h1
   ·exact h1
  ·rcases h2 with h2 | h2
   ·omega
   ·omega
  ·rcases h3 with h3 | h3
   ·omega
   ·omega
 ·rintro⟨h1,h2,h3⟩
  refine⟨?_,?_,?_⟩
  ·by_cases hk:f.kind=2
   ·exact .inr (h1 hk)
   ·exact .inl hk
  ·by_cases hk:f.kind=1∨f.kind=3
   ·have:=h2 hk;right;omega
   ·left;omega
  ·by_cases hk:f.kind=5∨f.kind=6
   ·have:=h3 hk;right;omega
   ·left;omega
theorem ZvS {c:WK} {l:List WK}:∀ {v:Int},WA c v l=true→∀ u,v≤u→u≤c.high→∃ x∈l,ZoD c u x:=by
 induction l with
 | nil=>intro v h;simp [WA] at h
 | cons x r ih =>
  intro v h u h1 h2
  simp only [WA] at h
  split at h
  ·rename_i hx
   simp only [ZuA,decide_eq_true_eq] at hx
   by_cases hu:u≤x.high
   ·exact⟨x,List.mem_cons_self ..,by omega,hu,hx.2.2⟩
   ·split at h
    ·omega
    ·obtain⟨y,hy,hh⟩:=ih h u (by omega) h2
     exact⟨y,List.mem_cons_of_mem _ hy,hh⟩
  ·obtain⟨y,hy,hh⟩:=ih h u h1 h2
   exact⟨y,List.mem_cons_of_mem _ hy,hh⟩
theorem Zvr {c:WK}:∀ {l:List WK} {v:Int},l.Pairwise (fun x y=>x.high<y.low)→(∀ x∈l,x.low≤x.high)→v≤c.high→(∀ u,v≤u→u≤c.high→∃ x∈l,ZoD c u x)→WA c v l=true
 | [],v,_,_,hv,h=>by obtain⟨x,hx,_⟩:=h v (by omega) hv;simp at hx
 | x::r,v,hp,hn,hv,h=>by
  rw [List.pairwise_cons] at hp
  simp only [WA]
  by_cases hx:ZoD c v x
  ·rw [if_pos (by simp only [ZuA,decide_eq_true_eq];exact hx)]
   split
   ·rfl
   ·refine Zvr hp.2 (fun y hy=>hn y (List.mem_cons_of_mem _ hy)) (by omega) fun u hu1 hu2=>?_
    obtain⟨h1,h2,h3⟩:=hx
    obtain⟨y,hy,hh⟩:=h u (by omega) hu2
    rcases List.mem_cons.1 hy with rfl | hy
    ·have:=hh.2.1;omega
    ·exact⟨y,hy,hh⟩
  ·rw [if_neg (by simp only [ZuA,decide_eq_true_eq];exact hx)]
   obtain⟨y0,hy0,hh0⟩:=h v (by omega) hv
   have hy0':y0∈r:=by
    rcases List.mem_cons.1 hy0 with rfl | hy0
    ·exact absurd hh0 hx
    ·exact hy0
   refine Zvr hp.2 (fun y hy=>hn y (List.mem_cons_of_mem _ hy)) hv fun u hu1 hu2=>?_
   obtain⟨y,hy,hh⟩:=h u hu1 hu2
   rcases List.mem_cons.1 hy with rfl | hy
   ·have h1:=hp.1 y0 hy0'
    have h2:=hn y (List.mem_cons_self ..)
    have:=hh0.1
    have:=hh.2.1
    omega
   ·exact⟨y,hy,hh⟩
theorem Srt.pair {l:List WK} (h:Srt l):l.Pairwise (fun x y=>x.high<y.low):=by
 rw [List.pairwise_iff_getElem]
 intro i j hi hj hij
 have:=h.ord i j hij hj
 simpa [List.getD,hi,hj] using this
theorem Srt.nes {l:List WK} (h:Srt l):∀ x∈l,x.low≤x.high:=fun x hx=>by
 obtain⟨i,hi,rfl⟩:=ZuJ hx
 have:=h.ne i hi
 simpa [List.getD,hi] using this
theorem Zv0 {c:WK} {l:List WK} (hs:Srt l) (hc:c∈l):WA c c.low l=true :=
 Zvr hs.pair hs.nes (hs.nes c hc) fun u h1 h2=>⟨c,hc,h1,h2,rfl⟩
theorem ZvX {c:WK} {l l2:List WK} (hs:Srt l2) (hc:c.low≤c.high) (h:WA c c.low l=true) (h2:∀ x∈l,WA x x.low l2=true):WA c c.low l2=true :=
 Zvr hs.pair hs.nes hc fun u hu1 hu2=>by
  obtain⟨x,hx,hh⟩:=ZvS h u hu1 hu2
  obtain⟨y,hy,hg⟩:=ZvS (h2 x hx) u hh.1 hh.2.1
  exact⟨y,hy,hg.1,hg.2.1,hg.2.2.trans hh.2.2⟩
def Zvy (w r:Dfn) (R:Int × Int→Prop) (m:Msg) (f g:Fld):Prop :=
 ZaW m f g=0∧(ZaX m f=true→R (Z6 w f.of w.msgs.length,Z6 r g.of r.msgs.length))∧∀ c∈f.cases,R (Z6 w c.of w.msgs.length,Z6 r c.of r.msgs.length)
def Zvp (w r:Dfn) (R:Int × Int→Prop) (p:Int × Int):Prop :=
 (w.msgs.getD p.1.toNat default).fields.length=(r.msgs.getD p.2.toNat default).fields.length ∧
  ∀ x∈(w.msgs.getD p.1.toNat default).fields.zip (r.msgs.getD p.2.toNat default).fields,Zvy w r R (w.msgs.getD p.1.toNat default) x.1 x.2
theorem Zvy.mono {w r:Dfn} {R R':Int × Int→Prop} {m:Msg} {f g:Fld} (h:Zvy w r R m f g) (hr:∀ p,R p→R' p):Zvy w r R' m f g:=⟨h.1,fun hi=>hr _ (h.2.1 hi),fun c hc=>hr _ (h.2.2 c hc)⟩
theorem Zvp.mono {w r:Dfn} {R R':Int × Int→Prop} {p:Int × Int} (h:Zvp w r R p) (hr:∀ p,R p→R' p):Zvp w r R' p:=⟨h.1,fun x hx=>(h.2 x hx).mono hr⟩
theorem ZvH {rec:Prs→Str→Str→Str→Prs × List Dif} {at_:Str}:∀ {l:List WK} {p:Prs},(∀ c∈l,∀ p s,(rec p c.of c.of s).2=[])→(KB rec at_ p l).2=[]
 | [],p,_=>rfl
 | c::l,p,h=>by
  simp only [KB,Zch]
  rw [h c (List.mem_cons_self ..),ZvH fun c hc=>h c (List.mem_cons_of_mem _ hc)];rfl
theorem ZvA {w r:Dfn} {R:Int × Int→Prop} (hR:∀ p,R p→Zvp w r R p):∀ (n:Nat) (p:Prs) (a b path:Str),R (Z6 w a w.msgs.length,Z6 r b r.msgs.length)→(YD w r n p a b path).2=[]
 | 0,p,a,b,path,_=>rfl
 | n+1,p,a,b,path,h=>by
  simp only [YD]
  split
  ·rfl
  ·have hg:=hR _ h
   have hg1:(w.msgs.getD (Z6 w a w.msgs.length).toNat default).fields.length=(r.msgs.getD (Z6 r b r.msgs.length).toNat default).fields.length:=hg.1
   simp only [Zch,if_neg (show ¬ ((w.msgs.getD (Z6 w a w.msgs.length).toNat default).fields.length≠(r.msgs.getD (Z6 r b r.msgs.length).toNat default).fields.length) from fun h=>h hg1),List.nil_append]
   have key:∀ (l:List (Fld × Fld)) (p:Prs),(∀ x∈l,Zvy w r R (w.msgs.getD (Z6 w a w.msgs.length).toNat default) x.1 x.2)→(WL (YD w r n) (w.msgs.getD (Z6 w a w.msgs.length).toNat default) path p l).2=[]:=by
    intro l
    induction l with
    | nil=>intro p _;rfl
    | cons x l ih =>
     intro p hx
     have h1:=hx x (List.mem_cons_self ..)
     simp only [WL,Zch]
     rw [ih _ fun y hy=>hx y (List.mem_cons_of_mem _ hy),List.append_nil]
     unfold Zba
     rw [if_neg (fun h=>h h1.1)]
     simp only [Zch]
     have h2:(if ZaX (w.msgs.getD (Z6 w a w.msgs.length).toNat default) x.1=true then YD w r n p x.1.of x.2.of (J6 path x.1.name) else (p,[])).2=[]:=by
      split
      ·rename_i hi
       exact ZvA hR n p _ _ _ (h1.2.1 hi)
      ·rfl
     rw [h2,ZvH fun c hc p s=>ZvA hR n p _ _ s (h1.2.2 c hc)];rfl
   exact key _ _ hg.2
structure Zvo (w r:Dfn) (p p':Prs):Prop where
 sub:∀ q∈p,q∈p'
 good:∀ q∈p',q ∉ p→Zvp w r (·∈p') q
theorem Zvo.refl {w r:Dfn} (p:Prs):Zvo w r p p:=⟨fun q h=>h,fun q h h'=>absurd h h'⟩
theorem Zvo.trans {w r:Dfn} {p p' p'':Prs} (h:Zvo w r p p') (h':Zvo w r p' p''):Zvo w r p p'':=⟨fun q hq=>h'.sub q (h.sub q hq),fun q hq hn=>by
 by_cases hq':q∈p'
 ·exact (h.good q hq' hn).mono h'.sub
 ·exact h'.good q hq hq'⟩
theorem Zvv {x:Prs × List Dif} {y:Prs→Prs × List Dif} (h:(Zch x y).2=[]):x.2=[]∧(y x.1).2=[]:=by
 simpa [Zch] using h
theorem Zvx {w r:Dfn} {rec:Prs→Str→Str→Str→Prs × List Dif} {at_:Str}:∀ {l:List WK} {p:Prs},(∀ c∈l,∀ p s,(rec p c.of c.of s).2=[]→Zvo w r p (rec p c.of c.of s).1∧(Z6 w c.of w.msgs.length,Z6 r c.of r.msgs.length)∈(rec p c.of c.of s).1) →
  (KB rec at_ p l).2=[]→Zvo w r p (KB rec at_ p l).1∧∀ c∈l,(Z6 w c.of w.msgs.length,Z6 r c.of r.msgs.length)∈(KB rec at_ p l).1
 | [],p,_,_=>⟨Zvo.refl p,fun c hc=>by simp at hc⟩
 | c::l,p,h,hn=>by
  simp only [KB] at hn ⊢
  obtain⟨h1,h2⟩:=Zvv hn
  obtain⟨v1,m1⟩:=h c (List.mem_cons_self ..) p _ h1
  obtain⟨v2,m2⟩:=Zvx (fun c hc=>h c (List.mem_cons_of_mem _ hc)) h2
  refine⟨v1.trans v2,fun c' hc'=>?_⟩
  rcases List.mem_cons.1 hc' with rfl | hc'
  ·exact v2.sub _ m1
  ·exact m2 c' hc'
theorem Zvu {w r:Dfn} {rec:Prs→Str→Str→Str→Prs × List Dif} {m:Msg} {path:Str}:∀ {l:List (Fld × Fld)} {p:Prs},
  (∀ x∈l,∀ a∈Wk x.1,∀ b p s,(rec p a b s).2=[]→Zvo w r p (rec p a b s).1∧(Z6 w a w.msgs.length,Z6 r b r.msgs.length)∈(rec p a b s).1)→(∀ x∈l,x.1.cases≠[]→x.1.kind=9) →
  (WL rec m path p l).2=[]→Zvo w r p (WL rec m path p l).1∧∀ x∈l,Zvy w r (·∈(WL rec m path p l).1) m x.1 x.2
 | [],p,_,_,_=>⟨Zvo.refl p,fun c hc=>by simp at hc⟩
 | x::l,p,h,hk,hn=>by
  simp only [WL] at hn ⊢
  obtain⟨h1,h2⟩:=Zvv hn
  have h0:=h x (List.mem_cons_self ..)
  have hx:Zvo w r p (Zba rec m path p x.1 x.2).1∧Zvy w r (·∈(Zba rec m path p x.1 x.2).1) m x.1 x.2:=by
   unfold Zba at h1 ⊢
   split at h1
   ·simp at h1
   ·rename_i hd
    rw [if_neg hd]
    obtain⟨h3,h4⟩:=Zvv h1
    have hin:Zvo w r p (if ZaX m x.1=true then rec p x.1.of x.2.of (J6 path x.1.name) else (p,[])).1 ∧
      (ZaX m x.1=true→(Z6 w x.1.of w.msgs.length,Z6 r x.2.of r.msgs.length)∈(if ZaX m x.1=true then rec p x.1.of x.2.of (J6 path x.1.name) else (p,[])).1):=by
     by_cases hi:ZaX m x.1=true
     ·rw [if_pos hi] at h3 ⊢
      have:=h0 _ (Zlc hi) _ _ _ h3
      exact⟨this.1,fun _=>this.2⟩
     ·rw [if_neg hi]
      exact⟨Zvo.refl p,fun h=>absurd h hi⟩
    obtain⟨v2,m2⟩:=Zvx (w:=w) (r:=r) (fun c hc p s hp=>h0 _ (ZfU (hk x (List.mem_cons_self ..) (List.ne_nil_of_mem hc)) hc) _ p s hp) h4
    exact⟨hin.1.trans v2,by simpa using hd,fun hi=>v2.sub _ (hin.2 hi),m2⟩
  obtain⟨v2,g2⟩:=Zvu (fun y hy=>h y (List.mem_cons_of_mem _ hy)) (fun y hy=>hk y (List.mem_cons_of_mem _ hy)) h2
  refine⟨hx.1.trans v2,fun y hy=>?_⟩
  rcases List.mem_cons.1 hy with rfl | hy
  ·exact hx.2.mono v2.sub
  ·exact g2 y hy
theorem ZvG {l l':List Fld} {x:Fld × Fld} (h:x∈l.zip l'):∃ i,i<l.length∧i<l'.length∧x.1=l.getD i default∧x.2=l'.getD i default:=by
 obtain⟨i,hi,rfl⟩:=ZuJ h
 rw [List.length_zip] at hi
 have h1:i<l.length:=by omega
 have h2:i<l'.length:=by omega
 exact⟨i,h1,h2,by simp [List.getD,h1],by simp [List.getD,h2]⟩
theorem Zvz {w r:Dfn} (hw:QB w):∀ (n:Nat) (p:Prs) (a b path:Str),Z6 w a w.msgs.length<n→0≤Z6 w a w.msgs.length→(YD w r n p a b path).2=[] →
  Zvo w r p (YD w r n p a b path).1∧(Z6 w a w.msgs.length,Z6 r b r.msgs.length)∈(YD w r n p a b path).1
 | 0,p,a,b,path,h,h0,_=>by omega
 | n+1,p,a,b,path,h,h0,hn=>by
  simp only [YD] at hn ⊢
  split at hn
  ·rename_i hm
   rw [if_pos hm]
   exact⟨Zvo.refl p,hm⟩
  ·rename_i hm
   rw [if_neg hm]
   obtain⟨h1,h2⟩:=Zvv hn
   have hlt:=(Jh w a).2
   have hj:(Z6 w a w.msgs.length).toNat<w.msgs.length:=by omega
   have hlen:(w.msgs.getD (Z6 w a w.msgs.length).toNat default).fields.length=(r.msgs.getD (Z6 r b r.msgs.length).toNat default).fields.length:=by
    by_cases he:(w.msgs.getD (Z6 w a w.msgs.length).toNat default).fields.length=(r.msgs.getD (Z6 r b r.msgs.length).toNat default).fields.length
    ·exact he
    ·rw [if_pos he] at h1;simp at h1
   obtain⟨v,g⟩:=Zvu (w:=w) (r:=r) (fun x hx s hs b' p' s' hp=>by
    obtain⟨i,hi,_,e1,_⟩:=ZvG hx
    have hf:=hw.fld hj hi
    rw [← e1] at hf
    have:=hf.ref s hs
    exact Zvz hw n p' s b' s' (by omega) this.1 hp) (fun x hx hc=>by
    obtain⟨i,hi,_,e1,_⟩:=ZvG hx
    have hf:=hw.fld hj hi
    rw [← e1] at hf
    exact hf.cases hc) h2
   refine⟨⟨fun q hq=>v.sub _ (List.mem_append_left _ hq),fun q hq hq'=>?_⟩,v.sub _ (List.mem_append_right _ (List.mem_singleton.2 rfl))⟩
   by_cases hq2:q∈p++[(Z6 w a w.msgs.length,Z6 r b r.msgs.length)]
   ·rcases List.mem_append.1 hq2 with hq3 | hq3
    ·exact absurd hq3 hq'
    ·rw [List.mem_singleton.1 hq3]
     exact⟨hlen,g⟩
   ·exact v.good q hq hq2
end Go.DL
namespace Go.DL
open Go Go.Proofs
theorem ZvW {f:Fld} (h1:1≤f.kind) (h2:f.kind≤12) (h:Zci f=true) (hk:f.kind≠4∧f.kind≠7∧f.kind≠12):f.size=⟨0,[]⟩:=by
 have key:∀ u,ZdH f.kind=u→JB u 115=false→f.size=⟨0,[]⟩:=fun u hu hs=>by
  unfold Zci at h
  rw [hu] at h
  simp only [zrB,hs,Bool.false_or,ZuA,decide_eq_true_eq] at h
  exact Wu.ext' h.2.1.1.1 (List.eq_nil_of_length_eq_zero h.2.1.1.2)
 have hc:f.kind=1∨f.kind=2∨f.kind=3∨f.kind=5∨f.kind=6∨f.kind=8∨f.kind=9∨f.kind=10∨f.kind=11:=by omega
 rcases hc with hk | hk | hk | hk | hk | hk | hk | hk | hk<;>exact key _ rfl (by rw [hk];decide)
theorem ZvF {d:Dfn} {a i:Nat} {m:Msg} {f:Fld} (h:Je d a m i f=0):(f.kind=7→Zcb (m.fields.take i) f.size=0)∧YN f.size=true∧Jl m f.name i<0:=by
 unfold Je at h
 split at h;· omega
 split at h;· omega
 rename_i hnf
 split at h;· omega
 rename_i hkk
 split at h;· omega
 rename_i hz
 have hkk':1≤f.kind∧f.kind≤12:=by
  simp only [ZuL,decide_eq_true_eq,not_or] at hkk;omega
 have hz':Zci f=true:=by simpa using hz
 have hsv:∀ fs,Zcb fs f.size=0→YN f.size=true:=fun fs hs=>by
  unfold Zcb at hs
  cases hv:YN f.size
  ·rw [hv,if_pos rfl] at hs;omega
  ·rfl
 by_cases h4:f.kind=4
 ·unfold K1 at h
  rw [if_neg (by omega),if_neg (by omega),if_neg (by omega),if_pos h4] at h
  exact⟨fun h7=>by omega,hsv _ h,by omega⟩
 by_cases h7:f.kind=7
 ·unfold K1 at h
  rw [if_neg (by omega),if_neg (by omega),if_neg (by omega),if_neg h4,if_neg (by omega),if_neg (by omega),if_pos h7] at h
  split at h;· omega
  exact⟨fun _=>h,hsv _ h,by omega⟩
 by_cases h12:f.kind=12
 ·unfold K1 at h
  rw [if_neg (by omega),if_neg (by omega),if_neg (by omega),if_neg h4,if_neg (by omega),if_neg (by omega),if_neg h7,if_neg (by omega),if_neg (by omega),if_neg (by omega),if_neg (by omega),if_pos h12] at h
  split at h;· omega
  split at h;· omega
  exact⟨fun h7=>by omega,hsv _ h,by omega⟩
 ·rw [ZvW hkk'.1 hkk'.2 hz' ⟨h4,h7,h12⟩]
  exact⟨fun h=>absurd h h7,by decide,by omega⟩
theorem Zq0.dist {d:Dfn} {j:Nat} {m:Msg} (h:Zq0 d j m):ZgG m.fields m.fields.length:=fun i hi=>(ZvF (h.field i hi)).2.2
theorem ZvB {s:Str}:∀ {l l':List Fld},l.map (·.name)=l'.map (·.name)→Z7 (fun f=>decide (f.name=s)) l=Z7 (fun f=>decide (f.name=s)) l'
 | [],[],_=>rfl
 | [],_::_,h=>by simp at h
 | _::_,[],h=>by simp at h
 | x::l,y::l',h=>by
  simp only [List.map_cons,List.cons.injEq] at h
  simp only [Z7,h.1,ZvB h.2]
theorem ZvZ (l:List Z5) (t:Z5):(ZcS l t).Perm (t::l):=by
 unfold ZcS
 have:=List.perm_middle (a:=t) (l₁:=l.take (QW t.field l)) (l₂:=l.drop (QW t.field l))
 rwa [List.take_append_drop] at this
theorem ZvU (l:List Z5):∀ a,(l.foldl ZcS a).Perm (l++a):=by
 induction l with
 | nil=>intro a;exact .refl _
 | cons t r ih =>
  intro a
  rw [List.foldl_cons]
  refine (ih _).trans ?_
  rw [List.cons_append]
  exact ((ZvZ a t).append_left r).trans List.perm_middle
theorem ZvK (l:List Z5):(Zbu l).Perm l:=by
 have:=ZvU l []
 rwa [List.append_nil] at this
theorem Zv2 {look:Jg} {l l':List Z5} (h:l.Perm l'):hiS look l=hiS look l':=by
 induction h with
 | nil=>rfl
 | cons x _ ih=>simp only [hiS,ih]
 | swap x y l=>simp only [hiS];omega
 | trans _ _ h1 h2=>exact h1.trans h2
theorem ZvY {m:Msg} (hd:ZgG m.fields m.fields.length) (f:Fld):Zj4 m f=(Km f.size (WE m.fields)).2.1:=by
 unfold Zj4
 rw [ZjT (look':=WE m.fields) fun t _=>?_]
 have h1:=ZpP m.fields m.fields.length (ZuO _) t.field
 have h2:=ZmW (ZuO _) hd t.field
 rw [ZuH] at h1 h2
 exact h1.trans h2
theorem ZvM {fs:List Fld} {i:Nat} {s:Str} {r:Int × Int} (h:WE (fs.take i) s=some r):WE fs s=some r:=by
 unfold WE at h ⊢
 split at h;· simp at h
 rename_i h0
 have h1:=Zni (l:=fs) (n:=i) (Int.not_lt.1 h0)
 rw [h1,if_neg h0]
 have h2:=Zaa (fun f:Fld=>decide (f.name=s)) (fs.take i)
 have h3:(fs.take i).getD (Z7 (fun f=>decide (f.name=s)) (fs.take i)).toNat default=fs.getD (Z7 (fun f=>decide (f.name=s)) (fs.take i)).toNat default:=by
  rw [List.length_take] at h2
  simp only [List.getD]
  rw [List.getElem?_take,if_pos (by omega)]
 rw [h3] at h
 exact h
theorem ZvO {d:Dfn} {j i:Nat} {m:Msg} {f:Fld} (hm:Zq0 d j m) (h:Zcb (m.fields.take i) f.size=0):Zj4 m f=f.size.base+hiS (WE m.fields) f.size.terms∧∀ t∈f.size.terms,∃ r,WE m.fields t.field=some r:=by
 unfold Zcb at h
 split at h;· omega
 split at h;· omega
 rename_i hnone
 split at h;· omega
 rename_i hiv
 have hsome:∀ t∈f.size.terms,∃ r,WE (m.fields.take i) t.field=some r:=fun t ht=>by
  have:KW (WE (m.fields.take i)) t=false:=by
   cases hc:KW (WE (m.fields.take i)) t
   ·rfl
   ·exact absurd (List.any_eq_true.2 ⟨t,ht,hc⟩) hnone
  unfold KW at this
  cases hc:WE (m.fields.take i) t.field with
  | none=>rw [hc] at this;simp at this
  | some r=>exact⟨r,rfl⟩
 have hagree:∀ t∈f.size.terms,WE m.fields t.field=WE (m.fields.take i) t.field:=fun t ht=>by
  obtain⟨r,hr⟩:=hsome t ht
  rw [hr];exact ZvM hr
 have hie:(Km f.size (WE (m.fields.take i))).2.2=0:=by
  simp only [ZuL,not_or,Bool.not_eq_true,Bool.not_eq_false',decide_eq_true_eq] at hiv
  exact hiv.1
 rw [ZvY hm.dist,ZjT hagree]
 have he:ZaH f.size (WE (m.fields.take i))=0:=by
  unfold Km at hie
  split at hie
  ·rename_i h0;exact h0
  ·exact hie
 rw [Km,if_pos he]
 refine⟨?_,fun t ht=>?_⟩
 ·show f.size.base+hiS _ _=_
  rw [(ZpB hagree).2]
 ·obtain⟨r,hr⟩:=hsome t ht
  exact⟨r,ZvM hr⟩
def Zvt (m o:Msg):Prop:=m.fields.length=o.fields.length∧∀ i,i<m.fields.length→ZvD m (m.fields.getD i default) (o.fields.getD i default)
theorem Zvt.names {m o:Msg} (h:Zvt m o):m.fields.map (·.name)=o.fields.map (·.name):=by
 refine List.ext_getElem (by simp [h.1]) fun i h1 h2=>?_
 have h1':i<m.fields.length:=by simpa using h1
 have h2':i<o.fields.length:=by simpa using h2
 have:=(h.2 i h1').name
 simpa [List.getD,h1',h2'] using this
theorem Zvt.look {m o:Msg} (h:Zvt m o) {s:Str} {r:Int × Int} (hr:WE m.fields s=some r):∃ q,WE o.fields s=some q∧q.1≤r.1∧r.2≤q.2:=by
 unfold WE at hr ⊢
 rw [← ZvB h.names]
 split at hr;· simp at hr
 rename_i h0
 rw [if_neg h0]
 have hlt:=Zaa (fun f:Fld=>decide (f.name=s)) m.fields
 have hn:=h.2 (Z7 (fun f=>decide (f.name=s)) m.fields).toNat (by omega)
 generalize m.fields.getD (Z7 (fun f=>decide (f.name=s)) m.fields).toNat default=f at *
 generalize o.fields.getD (Z7 (fun f=>decide (f.name=s)) m.fields).toNat default=g at *
 split at hr
 ·rename_i hf
  have hg:QZ g=true:=by unfold QZ at hf ⊢;rw [← hn.kind];exact hf
  rw [if_pos hg]
  refine⟨_,rfl,?_⟩
  have hs:=Zvs.1 hn.span
  simp only [Zuu] at hr
  subst hr
  unfold QZ at hf
  simp only [ZuA,decide_eq_true_eq] at hf
  unfold Kv
  rw [← hn.kind]
  by_cases h2:f.kind=2
  ·rw [if_pos h2,if_pos h2,hs.1 h2];exact⟨Int.le_refl _,Int.le_refl _⟩
  ·rw [if_neg h2,if_neg h2];exact hs.2.1 (by omega)
 ·simp at hr
theorem Zv1 {look look':Jg} {l:List Z5} (h:∀ t∈l,∃ r q,look t.field=some r∧look' t.field=some q∧q.1≤r.1∧r.2≤q.2):hiS look l≤hiS look' l:=by
 induction l with
 | nil=>exact Int.le_refl _
 | cons t r ih =>
  have h1:=ih fun y hy=>h y (List.mem_cons_of_mem _ hy)
  obtain⟨a,b,ha,hb,h2,h3⟩:=h t (List.mem_cons_self ..)
  have h4:hiT look t≤hiT look' t:=by
   unfold hiT ZaA
   rw [ha,hb]
   simp only [Option.getD_some]
   split
   ·exact Int.mul_le_mul_of_nonneg_left h3 (by omega)
   ·exact Int.mul_le_mul_of_nonpos_left (by omega) h2
  simp only [hiS];omega
theorem Zvq {a b:Wu}:ZdV a b=true↔YN a=true∧YN b=true∧ZdD a=ZdD b:=by
 unfold ZdV;simp only [ZuA,decide_eq_true_eq]
theorem ZvJ {d e:Dfn} {j k i:Nat} {m o:Msg} (hm:Zq0 d j m) (ho:Zq0 e k o) (h:Zvt m o) (hi:i<m.fields.length) (hin:ZaX m (m.fields.getD i default)=true):ZaX o (o.fields.getD i default)=true:=by
 have hn:=h.2 i hi
 have h1:=ZvF (hm.field i hi)
 have h2:=ZvF (ho.field i (by rw [← h.1];exact hi))
 generalize m.fields.getD i default=f at *
 generalize o.fields.getD i default=g at *
 unfold ZaX at hin ⊢
 rw [← hn.kind]
 simp only [ZuL,ZuA,decide_eq_true_eq] at hin ⊢
 rcases hin with hin | hin | ⟨hk,hp⟩
 ·exact .inl hin
 ·exact .inr (.inl hin)
 ·refine .inr (.inr ⟨hk,?_⟩)
  obtain⟨e1,l1⟩:=ZvO (i:=i) hm (h1.1 hk)
  obtain⟨e2,l2⟩:=ZvO (i:=i) ho (h2.1 (by rw [← hn.kind];exact hk))
  have hse:=(Zvq.1 hn.size).2.2
  have hb:f.size.base=g.size.base:=(congrArg Wu.base hse:(ZdD f.size).base=(ZdD g.size).base)
  have ht:Zbu f.size.terms=Zbu g.size.terms:=(congrArg Wu.terms hse:(ZdD f.size).terms=(ZdD g.size).terms)
  have hperm:f.size.terms.Perm g.size.terms:=((ZvK _).symm.trans (by rw [ht])).trans (ZvK _)
  rw [e1] at hp
  rw [e2,← hb,← Zv2 hperm]
  have:=Zv1 (look:=WE m.fields) (look':=WE o.fields) (l:=f.size.terms) fun t ht'=>by
   obtain⟨r,hr⟩:=l1 t ht'
   obtain⟨q,hq,h3⟩:=h.look hr
   exact⟨r,q,hr,hq,h3⟩
  omega
theorem ZvQ {d e:Dfn} {j k i:Nat} {m o p:Msg} (hm:Zq0 d j m) (ho:Zq0 e k o) (h:Zvt m o) (h':Zvt o p) (hi:i<m.fields.length) (hsm:Zo8 (m.fields.getD i default)) (hsp:Zo8 (p.fields.getD i default)) :
  ZvD m (m.fields.getD i default) (p.fields.getD i default):=by
 have hio:=ZvJ hm ho h hi
 have a:=h.2 i hi
 have b:=h'.2 i (by rw [← h.1];exact hi)
 generalize m.fields.getD i default=f at *
 generalize o.fields.getD i default=g at *
 generalize p.fields.getD i default=q at *
 have la:=ZvE.1 a.lay
 have lb:=ZvE.1 b.lay
 have sa:=Zvs.1 a.span
 have sb:=Zvs.1 b.span
 have hk:=a.kind
 have za:=Zvq.1 a.size
 have zb:=Zvq.1 b.size
 refine⟨a.name.trans b.name,hk.trans b.kind,ZvE.2 ⟨la.1.trans lb.1,la.2.1.trans lb.2.1,la.2.2.1.trans lb.2.2.1,la.2.2.2.1.trans lb.2.2.2.1,fun h5=>(la.2.2.2.2 h5).trans (lb.2.2.2.2 (hk ▸ h5))⟩,
  Zvs.2 ⟨fun h5=>(sa.1 h5).trans (sb.1 (hk ▸ h5)),fun h5=>?_,fun h5=>?_⟩,fun hl=>b.loose (a.loose hl),Zvq.2 ⟨za.1,zb.2.1,za.2.2.trans zb.2.2⟩,a.tag.trans b.tag,a.from_.trans b.from_,
  fun hin=>(a.of hin).trans (b.of (hio hin)),fun c hc=>ZvX hsp.srt (hsm.le c hc) (a.cov c hc) b.cov⟩
 ·have h1:=sa.2.1 h5
  have h2:=sb.2.1 (hk ▸ h5)
  omega
 ·have h1:=sa.2.2 h5
  have h2:=sb.2.2 (hk ▸ h5)
  omega
theorem ZvI {w r:Dfn} {R:Int × Int→Prop} {p:Int × Int} (h:Zvp w r R p):Zvt (w.msgs.getD p.1.toNat default) (r.msgs.getD p.2.toNat default) :=
 ⟨h.1,fun i hi=>Zv3 (h.2 (_,_) (by
  have h2:i<(r.msgs.getD p.2.toNat default).fields.length:=by rw [← h.1];exact hi
  have e:=Zm8 hi h2
  have hz:i<((w.msgs.getD p.1.toNat default).fields.zip (r.msgs.getD p.2.toNat default).fields).length:=by rw [List.length_zip];omega
  have:=Ki hz
  rw [e] at this;exact this)).1⟩
theorem ZvL {d:Dfn} {j:Nat} (hd:QB d) (hj:j<d.msgs.length) {i:Nat} (hi:i<(d.msgs.getD j default).fields.length) {s:Str} (hs:s∈Wk ((d.msgs.getD j default).fields.getD i default)):0≤Z6 d s d.msgs.length∧Z6 d s d.msgs.length<d.msgs.length :=
 ⟨((hd.fld hj hi).ref s hs).1,(Jh d s).2⟩
theorem ZvN {a b c:Dfn} (ha:QB a) (hb:QB b) (hc:QB c) {R S:Int × Int→Prop} (hR:∀ p,R p→Zvp a b R p) (hS:∀ p,S p→Zvp b c S p)
  (ra:∀ p,R p→p.1.toNat<a.msgs.length∧p.2.toNat<b.msgs.length) (rs:∀ p,S p→p.1.toNat<b.msgs.length∧p.2.toNat<c.msgs.length):∀ p,(∃ k,R (p.1,k)∧S (k,p.2))→Zvp a c (fun p=>∃ k,R (p.1,k)∧S (k,p.2)) p:=by
 rintro⟨i,l⟩ ⟨k,h1,h2⟩
 have g1:=hR _ h1
 have g2:=hS _ h2
 have al1:=ZvI g1
 have al2:=ZvI g2
 have r1:=ra _ h1
 have r2:=rs _ h2
 simp only at r1 r2 al1 al2 g1 g2
 refine⟨al1.1.trans al2.1,fun x hx=>?_⟩
 obtain⟨n,hn1,hn3,e1,e2⟩:=ZvG hx
 simp only at hn1 hn3 e1 e2
 have hn2:n<(b.msgs.getD k.toNat default).fields.length:=by rw [← al1.1];exact hn1
 have hnd:=ZvQ (ha.msg r1.1) (hb.msg r1.2) al1 al2 hn1 (ha.rule r1.1 hn1) (hc.rule r2.2 hn3)
 have z1:=g1.2 ((a.msgs.getD i.toNat default).fields.getD n default,(b.msgs.getD k.toNat default).fields.getD n default) (by
  have e:=Zm8 hn1 hn2
  have hz:n<((a.msgs.getD i.toNat default).fields.zip (b.msgs.getD k.toNat default).fields).length:=by rw [List.length_zip];omega
  have:=Ki hz
  rw [e] at this;exact this)
 have z2:=g2.2 ((b.msgs.getD k.toNat default).fields.getD n default,(c.msgs.getD l.toNat default).fields.getD n default) (by
  have e:=Zm8 hn2 hn3
  have hz:n<((b.msgs.getD k.toNat default).fields.zip (c.msgs.getD l.toNat default).fields).length:=by rw [List.length_zip];omega
  have:=Ki hz
  rw [e] at this;exact this)
 rw [e1,e2]
 refine⟨hnd.zero,fun hin=>?_,fun q hq=>?_⟩
 ·have hin2:=ZvJ (ha.msg r1.1) (hb.msg r1.2) al1 hn1 hin
  exact⟨_,z1.2.1 hin,z2.2.1 hin2⟩
 ·obtain⟨y,hy,hyo⟩:=Zis ((al1.2 n hn1).cov q hq)
  have h3:=z2.2.2 y hy
  rw [hyo] at h3
  exact⟨_,z1.2.2 q hq,h3⟩
theorem Zvw {w r:Dfn} (h:Zap w r=true):QB w∧QB r∧w.start=r.start∧(YD w r (w.msgs.length+1) [] w.start r.start []).2=[]:=by
 unfold Zap at h
 simp only [ZuA] at h
 refine⟨ZcE h.1.1,ZcE h.1.2,?_⟩
 have h2:KZ w r=[]:=by simpa using h.2
 unfold KZ at h2
 split at h2
 ·simp at h2
 ·rename_i h3;exact⟨by simpa using h3,h2⟩
theorem ZvC {w r:Dfn} (h:Zap w r=true):∃ R:Int × Int→Prop,R (Z6 w w.start w.msgs.length,Z6 r r.start r.msgs.length)∧(∀ p,R p→Zvp w r R p)∧∀ p,R p→p.1.toNat<w.msgs.length∧p.2.toNat<r.msgs.length:=by
 obtain⟨hw,hr,hs,hc⟩:=Zvw h
 have hadd:=(Zb3 (r:=r) hw.fields (w.msgs.length+1) [] w.start r.start [] ⟨by simp,by simp⟩).ok.range
 obtain⟨hv,hm⟩:=Zvz hw (w.msgs.length+1) [] w.start r.start [] (by have:=(Jh w w.start).2;omega) hw.start hc
 have h0:0<w.msgs.length:=by have:=(Jh w w.start).2;have:=hw.start;omega
 have h1:0<r.msgs.length:=by have:=(Jh r r.start).2;have:=hr.start;omega
 exact⟨(·∈(YD w r (w.msgs.length+1) [] w.start r.start []).1),hm,fun p hp=>hv.good p hp (by simp),fun p hp=>by
  have:=hadd p hp
  omega⟩
theorem ZvP {w r:Dfn} (hw:Wt w=true) (hr:Wt r=true) (hs:w.start=r.start) {R:Int × Int→Prop} (h0:R (Z6 w w.start w.msgs.length,Z6 r r.start r.msgs.length)) (hR:∀ p,R p→Zvp w r R p):Zap w r=true:=by
 have:=ZvA hR (w.msgs.length+1) [] w.start r.start [] h0
 unfold Zap KZ
 rw [hw,hr,if_neg (by simp [hs]),this];rfl
theorem ZvR {a b c:Dfn} (h:Zap a b=true) (h':Zap b c=true):Zap a c=true:=by
 have s1:=Zvw h
 have s2:=Zvw h'
 obtain⟨R,r0,rR,rr⟩:=ZvC h
 obtain⟨S,t0,tS,ts⟩:=ZvC h'
 have va:Wt a=true:=by unfold Zap at h;simp only [ZuA] at h;exact h.1.1
 have vc:Wt c=true:=by unfold Zap at h';simp only [ZuA] at h';exact h'.1.2
 exact ZvP va vc (s1.2.2.1.trans s2.2.2.1) ⟨_,r0,t0⟩ (ZvN s1.1 s1.2.1 s2.2.1 rR tS rr ts)
theorem ZvT {d:Dfn} (hd:QB d) {j i:Nat} (hj:j<d.msgs.length) (hi:i<(d.msgs.getD j default).fields.length):ZvD (d.msgs.getD j default) ((d.msgs.getD j default).fields.getD i default) ((d.msgs.getD j default).fields.getD i default):=by
 have hr:=hd.rule hj hi
 have hz:=(ZvF ((hd.msg hj).field i hi)).2.1
 generalize (d.msgs.getD j default).fields.getD i default=f at *
 exact⟨rfl,rfl,ZvE.2 ⟨rfl,rfl,rfl,rfl,fun _=>rfl⟩,Zvs.2 ⟨fun _=>rfl,fun _=>⟨Int.le_refl _,Int.le_refl _⟩,fun _=>Int.le_refl _⟩,id,Zvq.2 ⟨hz,hz,rfl⟩,rfl,rfl,fun _=>rfl,fun c hc=>Zv0 hr.srt hc⟩
theorem ZvV {a:Dfn} (h:Zdg a a=0):Zap a a=true:=by
 have hv:=(Zr6 h).1
 have hd:=ZcE hv
 have h0:0≤Z6 a a.start a.msgs.length:=hd.start
 refine ZvP hv hv rfl (R:=fun p=>p.1=p.2∧0≤p.1∧p.1<a.msgs.length) ⟨rfl,h0,(Jh a a.start).2⟩ ?_
 rintro⟨i,k⟩ ⟨h1,h2,h3⟩
 simp only at h1 h2 h3
 subst h1
 have hj:i.toNat<a.msgs.length:=by omega
 refine⟨rfl,fun x hx=>?_⟩
 obtain⟨n,hn,_,e1,e2⟩:=ZvG hx
 simp only at hn e1 e2
 rw [e1,e2]
 refine⟨(ZvT hd hj hn).zero,fun hin=>?_,fun c hc=>?_⟩
 ·have:=ZvL hd hj hn (Zlc hin)
  exact⟨rfl,this.1,this.2⟩
 ·have hk:=(hd.fld hj hn).cases (List.ne_nil_of_mem hc)
  have:=ZvL hd hj hn (ZfU hk hc)
  exact⟨rfl,this.1,this.2⟩
end Go.DL
namespace Go.Proofs.YtmnhlhenahlilaaGreat
open Go Go.DL Go.ChangeShapes Go.WideShapes Go.ChangeAt Go.RowKit
set_option linter.unusedVariables false
set_option maxRecDepth 100000 in
theorem orders_lifted (os:Os) (started:os.Started) (H:Type) (enc:TypeId × Value→H) :
  ReturnsInHanded {} Tryz.checked os 6 .any (Rows.compatOrdersSpec.pre6 enc Zuv Tryz.f6 Rows.compatOrdersRow.domain false) (Rows.compatOrdersSpec.post enc Zuv Tryz.f6 false true false false):=by
 refine returnsInHanded_of_change (C:=Tryz.checked) own started (by kernel_rfl) Tryz.func6
  (ChangeSpec.witness6 (enc:=enc) (C:=Tryz.checked) false ⟨#[],#[.agg #[.string ⟨#[]⟩,.slice none 0 0,.string ⟨#[]⟩],.agg #[.string ⟨#[]⟩,.slice none 0 0,.string ⟨#[]⟩],.agg #[.string ⟨#[]⟩,.slice none 0 0,.string ⟨#[]⟩]],[]⟩ 8 (by kernel_rfl) (by kernel_rfl) (by kernel_rfl) (by kernel_rfl)) ?_
 intro W base args ds gs before hval hW _ _
 have hp:Tryz.f6.params.toList=[24,24,24]:=by rw [Tryz.params6]
 refine Zse (P:=Zuv) (tb:=4) (Qs:=[_,_,_]) rfl laidOut (fun t ht=>types_ok t ?_) (by kernel_rfl) Tryz.underlying4 (fun ds hds=>?_) (by rw [hp];exact .cons arg_Dfn (.cons arg_Dfn (.cons arg_Dfn .nil))) (fun xs hxs=>?_) W base args ds gs before hval hW
 ·rw [hp] at ht;simp at ht;simp [ht]
 ·rw [hp] at hds
  match ds,hds with
  | [a,b,c],_=>rfl
 ·cases hxs with | cons h1 hxs =>
  cases hxs with | cons h2 hxs =>
  cases hxs with | cons h3 hxs =>
  cases hxs
  obtain⟨_,⟨a,rfl⟩,rfl⟩:=h1
  obtain⟨_,⟨b,rfl⟩,rfl⟩:=h2
  obtain⟨_,⟨c,rfl⟩,rfl⟩:=h3
  exact ZsH a b c ZvV ZvR
theorem orders_holds:Rows.CompatOrdersSaid :=
 OpenClaim.holds_of_wide 6 Tryz.f6 rfl rfl rfl rfl rfl rfl rfl ⟨rfl,rfl,rfl,rfl,rfl⟩ rfl rfl rfl rfl rfl (by kernel_rfl) Tryz.func6 (by kernel_rfl)
  (of_decide_eq_true (by kernel_rfl)) (by unfold Func.isWrapper;first | (rw [if_pos (by decide +kernel)];kernel_rfl) | (rw [if_neg (by decide +kernel)];exact⟨rfl,rfl⟩))
  (fun os started H enc _=>orders_lifted os started H enc)
end Go.Proofs.YtmnhlhenahlilaaGreat
