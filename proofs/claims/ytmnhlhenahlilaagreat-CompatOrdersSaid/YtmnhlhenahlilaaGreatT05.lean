/- The law CompatOrders of this program is proved: at any three definitions the program's function CompatOrders ends and answers true. No condition beyond the statement's own. -/
import Derived.Test.YtmnhlhenahlilaaGreatT04
import Derived.Test.YtmnhlhenahlilaaGreatRows
set_option maxHeartbeats 16000000
set_option linter.all false
namespace Go.DL
open Go Go.Proofs
theorem Jm (l:List Dif) (st:St):ZY Tryz.prog YA.id [Qm l] st fun r S=>∃ x,st x=none∧r = .ret (.fn (.func 40) [] [.ptr x 0])∧S=st.or (St.single x (.cells [Qm l])):=by
 refine ZP YA.ok fun F hF=>?_
 refine Za (Zb (Zc ?_))
 simp only [Eqs,reduceCtorEq,reduceIte,Nat.reduceEqDiff,YA.r0,Qm,slD]
 refine Za ?_
 refine Yp 1 rfl fun x hx=>?_
 simp only [reduceIte,Yz,Wi,delL]
 refine Zb (Zc ?_)
 simp only [Eqs,reduceIte,Nat.reduceEqDiff,YA.r1]
 exact hF.ret _ _ rfl (by trivial) (D.Le.refl _) (St.sub_refl _) ⟨x,hx,rfl,Q6 hx⟩
theorem ZiR (l:List Dif) (hl:l.length≤big) (x:Nat):Zbi Tryz.prog (.fn (.func 40) [] [.ptr x 0]) l.length (fun j=>[.int .i64 j,.agg (l.getD j default).cells]) (St.single x (.cells [Qm l])):=by
 intro y go A a0 hcons hA hd
 have hw:=hl
 unfold big at hw
 refine ZY.V (first:=[]) (args:=[y]) (caps:=[.ptr x 0]) (ZP ZJ.ok fun F hF=>?_)
 have hx:∀ a,Wt a (St.single x (.cells [Qm l]))→(a.or (St.single x (.cells [Qm l]))) x=some (.cells [Qm l]):=fun a hda=>by
  rw [Yr (hda x _ (KB _ _)),KB]
 generalize hT:St.single x (.cells [Qm l])=T at *
 refine Za (Zb (Zc ?_))
 simp only [Eqs,reduceCtorEq,reduceIte,Nat.reduceEqDiff,Nat.reduceAdd,ZJ.r0,hx a0 hd,Qm,slD]
 refine Zo (YH ?_)
 have key:∀ (n i:Nat),(l.length) - i=n→∀ a,A i a→Wt a T→(∀ j,j < i→go j = .next)→i≤l.length→ZU F [.code (ZJ.l0),.inLoop ZJ.l0,.inBlock 0] [(0,.d y),(5,.d (Qm l)),(6,.d (.int .i64 l.length)),(7,.d (.int .i64 i))] [] (a.or T):=by
  intro n
  induction n using Nat.strongRecOn with
  | ind n ih_key =>
  clear hA hd
  intro i hn a hA hd hno hi
  refine Za (Zb (Zc ?_))
  simp only [Eqs,reduceCtorEq,reduceIte,Nat.reduceEqDiff,ZJ.r1]
  refine Za (Zg rfl trivial (fun h1=>?_) (fun h1=>?_))
  ·simp at h1
   have hcall:=(hcons i h1 hno a hA).frame hd
   refine Zq (Za (Zo (Za (Zb (Zc ?_)))))
   simp only [Eqs,reduceCtorEq,reduceIte,Nat.reduceEqDiff,Nat.reduceAdd,Nat.reduceLeDiff,ZJ.r2,Qm,slD,Dif.cells]
   repeat (refine And.intro (by first | omega | trivial | (intro h0; simp at h0; omega)) ?_)
   refine Za (Zb (Zc ?_))
   simp only [Eqs,reduceCtorEq,reduceIte,Nat.reduceEqDiff,Nat.reduceAdd,Nat.reduceLeDiff,ZJ.r3]
   rw [show (D.agg [.str (l.getD i default).path,.int .i64 (l.getD i default).code]) = .agg (l.getD i default).cells from rfl]
   refine ZaH rfl rfl rfl rfl rfl (by trivial) (by trivial) (by exact hcall) ?_ ?_
   ·rintro dv S ⟨s',⟨hr,hA'⟩,hd',rfl⟩
    cases hgo:go i with
    | next =>
     rw [hgo] at hr
     cases hr
     refine Zc ?_
     simp only [Eqs,reduceCtorEq,reduceIte,Nat.reduceEqDiff]
     refine Zg rfl trivial (fun h=>by simp at h) (fun _=>?_)
     refine Zq (ZC (Zb (Zc ?_)))
     simp only [Eqs,reduceCtorEq,reduceIte,Nat.reduceEqDiff,ZJ.r4]
     repeat (refine And.intro (by first | omega | trivial | (intro h0; simp at h0; omega)) ?_)
     refine Z3 ?_
     exact ih_key ((l.length) - (i + 1)) (by omega) (i + 1) rfl s' hA' hd' (KD (q:=fun i=>go i = .next) hno hgo) (by omega)
    | stop c =>
     rw [hgo] at hr
     cases hr
     refine Zc ?_
     simp only [Eqs,reduceCtorEq,reduceIte,Nat.reduceEqDiff]
     refine Zg rfl trivial (fun _=>?_) (fun h=>by simp at h)
     exact hF.ret (.tup []) _ rfl trivial (D.Le.refl _) (St.sub_refl _) ⟨s',.stop _ c h1 hno hgo hA',Qi _ _⟩
    | pan d=>rw [hgo] at hr; cases hr
   ·rintro dv S ⟨s',⟨hr,hA'⟩,hd',rfl⟩
    cases hgo:go i with
    | pan d' =>
     rw [hgo] at hr
     cases hr
     exact hF.pan _ (St.sub_refl _) ⟨s',.pan _ dv h1 hno hgo hA',Qi _ _⟩
    | next=>rw [hgo] at hr; cases hr
    | stop c=>rw [hgo] at hr; cases hr
  ·simp at h1
   obtain rfl:i=l.length:=by omega
   refine Ys rfl ?_
   exact hF.fin (.tup []) _ rfl trivial (D.Le.refl _) (St.sub_refl _) ⟨a,.all hno hA,Qi _ _⟩
 exact key _ 0 rfl a0 hA hd (by intro i hi; omega) (by omega)
theorem Zly {w r:Dfn} (hw:KF w) (hr:KF r):(KA w r).length≤200000:=by
 unfold KA
 split
 ·simp
 ·have h:=ZcB (r:=r) hw.fields (w.msgs.length + 1) [] w.start r.start [] ⟨by simp,by simp⟩
  have h1:=h.more
  have h2:=h.ok.few
  have h3:=hw.many
  have h4:=hr.many
  have h5:(w.msgs.length + 1) * (r.msgs.length + 1)≤61 * 61:=Nat.mul_le_mul (by omega) (by omega)
  simp only [List.length_nil] at h1
  omega
def Zed (w r:Dfn):List Dif:=if YU w && YU r then KA w r else []
theorem Zpe (w r:Dfn):(Zed w r).length≤200000:=by
 unfold Zed
 split
 ·rename_i h
  rw [Bool.and_eq_true] at h
  exact Zly (JG h.1) (JG h.2)
 ·simp
theorem ZkE (w r:Dfn) (st:St):ZY Tryz.prog Wj.id [.agg w.cells,.agg r.cells] st fun q S=>∃ x,st x=none∧q = .ret (.fn (.func 40) [] [.ptr x 0])∧S=st.or (St.single x (.cells [Qm (Zed w r)])):=by
 refine ZP Wj.ok fun F hF=>?_
 have hS:=Zed.eq_1 w r
 have h1:=Q1 w st
 have h2:=Q1 r st
 refine Za (Zb (Zc ?_))
 simp only [Eqs,reduceCtorEq,reduceIte,Nat.reduceEqDiff,Nat.reduceAdd,Wj.r0,Dfn.cells]
 refine Za (Zb (Zc ?_))
 simp only [Eqs,reduceIte,Nat.reduceEqDiff,Wj.r1]
 refine Za (Za (Zb (Zc ?_)))
 simp only [Eqs,reduceIte,Nat.reduceEqDiff,Nat.reduceAdd,Nat.reduceLeDiff,Wj.r2]
 rw [show (D.agg [.str w.name,Kf w.msgs,.str w.start]) = .agg w.cells from rfl]
 by_cases hv:(YU w && YU r)=true
 ·rw [if_pos hv] at hS
  rw [Bool.and_eq_true] at hv
  have hvw:=JG hv.1
  have hvr:=JG hv.2
  rw [hv.1] at h1
  rw [hv.2] at h2
  refine YF rfl rfl rfl rfl rfl (by trivial) (by trivial) (by exact h1) (Zc ?_)
  simp only [Eqs,reduceIte,Nat.reduceEqDiff,Nat.reduceAdd,Nat.reduceLeDiff,Dfn.cells]
  rw [show (D.agg [.str r.name,Kf r.msgs,.str r.start]) = .agg r.cells from rfl]
  refine YF rfl rfl rfl rfl rfl (by trivial) (by trivial) (by exact h2) (Zc ?_)
  simp only [Eqs,reduceIte,Nat.reduceEqDiff]
  refine Zg rfl trivial (fun _=>?_) (fun h=>by simp at h)
  refine Zb (Zc ?_)
  simp only [Eqs,reduceIte,Nat.reduceEqDiff,Nat.reduceAdd,Nat.reduceLeDiff,Wj.r3]
  rw [show (D.agg [.str w.name,Kf w.msgs,.str w.start]) = .agg w.cells from rfl,show (D.agg [.str r.name,Kf r.msgs,.str r.start]) = .agg r.cells from rfl]
  refine Z6 rfl rfl rfl rfl rfl (by trivial) (by trivial) (by exact Zbw w r st) ?_ ?_
  ·rintro dv S ⟨z2,z3,n2,n3,hne,hq,rfl⟩
   cases hq
   refine Zc ?_
   simp only [Eqs]
   refine Z6 rfl rfl rfl rfl rfl (by trivial) (by trivial) (by exact Zb9 (KA w r) (Nat.le_trans (Zly hvw hvr) (by omega)) (Zlc n2 n3) (ZaU hvw hvr hne)) ?_ ?_
   ·rintro dv S ⟨hq,rfl⟩
    cases hq
    refine Zc ?_
    simp only [Eqs,reduceIte,Nat.reduceEqDiff]
    refine Za (Zb (Zc ?_))
    simp only [Eqs,reduceIte,Wj.r4]
    refine Z6 rfl rfl rfl rfl rfl (by trivial) (by trivial) (by exact Jm (KA w r) S) ?_ ?_
    ·rintro dv S2 ⟨x,hx,hq,rfl⟩
     cases hq
     refine Zc ?_
     simp only [Eqs,reduceIte,Nat.reduceEqDiff]
     exact hF.ret _ _ rfl (by trivial) (D.Le.refl _) (St.sub_refl _) ⟨x,hx,rfl,by rw [hS]⟩
    ·rintro dv S2 ⟨x,hx,hq,_⟩
     cases hq
   ·rintro dv S ⟨hq,_⟩
    cases hq
  ·rintro dv S ⟨z2,z3,n2,n3,hne,hq,_⟩
   cases hq
 ·rw [if_neg hv] at hS
  by_cases hvw:YU w=true
  ·have hvr:YU r=false:=by simpa [hvw] using hv
   rw [hvw] at h1
   rw [hvr] at h2
   refine YF rfl rfl rfl rfl rfl (by trivial) (by trivial) (by exact h1) (Zc ?_)
   simp only [Eqs,reduceIte,Nat.reduceEqDiff,Nat.reduceAdd,Nat.reduceLeDiff,Dfn.cells]
   rw [show (D.agg [.str r.name,Kf r.msgs,.str r.start]) = .agg r.cells from rfl]
   refine YF rfl rfl rfl rfl rfl (by trivial) (by trivial) (by exact h2) (Zc ?_)
   simp only [Eqs,reduceIte,Nat.reduceEqDiff]
   refine Zg rfl trivial (fun h=>by simp at h) (fun _=>?_)
   refine Zq ?_
   refine Za (Zb (Zc ?_))
   simp only [Eqs,reduceIte,Nat.reduceEqDiff,Wj.r4]
   refine Z6 rfl rfl rfl rfl rfl (by trivial) (by trivial) (by exact (ZY.leA (LeC.one (K9 (by simp))) (Jm [] st))) ?_ ?_
   ·rintro dv S2 ⟨x,hx,hq,rfl⟩
    cases hq
    refine Zc ?_
    simp only [Eqs,reduceIte,Nat.reduceEqDiff]
    exact hF.ret _ _ rfl (by trivial) (D.Le.refl _) (St.sub_refl _) ⟨x,hx,rfl,by rw [hS]⟩
   ·rintro dv S2 ⟨x,hx,hq,_⟩
    cases hq
  ·have hvw2:YU w=false:=by simpa using hvw
   rw [hvw2] at h1
   refine YF rfl rfl rfl rfl rfl (by trivial) (by trivial) (by exact h1) (Zc ?_)
   simp only [Eqs,reduceIte,Nat.reduceEqDiff,Nat.reduceAdd,Nat.reduceLeDiff,Dfn.cells]
   refine Zaj rfl (e:=.d (.bool false)) (Zc ?_)
   simp only [Eqs,reduceIte,Nat.reduceEqDiff]
   refine Zg rfl trivial (fun h=>by simp at h) (fun _=>?_)
   refine Zq ?_
   refine Za (Zb (Zc ?_))
   simp only [Eqs,reduceIte,Nat.reduceEqDiff,Wj.r4]
   refine Z6 rfl rfl rfl rfl rfl (by trivial) (by trivial) (by exact (ZY.leA (LeC.one (K9 (by simp))) (Jm [] st))) ?_ ?_
   ·rintro dv S2 ⟨x,hx,hq,rfl⟩
    cases hq
    refine Zc ?_
    simp only [Eqs,reduceIte,Nat.reduceEqDiff]
    exact hF.ret _ _ rfl (by trivial) (D.Le.refl _) (St.sub_refl _) ⟨x,hx,rfl,by rw [hS]⟩
   ·rintro dv S2 ⟨x,hx,hq,_⟩
    cases hq
end Go.DL
namespace Go.DL
open Go Go.Proofs
abbrev bC (b:Bool):List D:=[.bool b]
abbrev Zq0 (l:List Bool):List D:=[slD 1 bC l]
def ZkH (l:List (List Bool)):D:=slD 1 Zq0 l
def Zfd (l:List Dfn):List (List Bool):=if l.all YU then l.map fun w=>l.map fun r=>WY w r else []
def Zo9 (l:List Dfn):Int:=if l.all YU then 0 else 2
def ZdP (l:List Bool):List D:=l.map .bool
theorem ZhI (l:List Bool):(ZdP l).length=l.length:=by simp [ZdP]
theorem ZmX (n:Nat):ZbH [.bool false] n=ZdP (List.replicate n false):=by
 unfold ZbH ZdP
 induction n with
 | zero=>rfl
 | succ n ih=>rw [List.replicate_succ,List.flatten_cons,ih,List.replicate_succ]; rfl
theorem ZoO {l:List Bool} {i:Nat} {v:Bool} (h:i < l.length):List.take i (ZdP l)++[.bool v]++List.drop (i + 1) (ZdP l)=ZdP (l.set i v):=by
 unfold ZdP
 rw [List.map_set,List.set_eq_take_append_cons_drop,if_pos (by simpa using h)]
 simp
theorem ZnV {w r:Dfn} (h:J2 w r=0):YU w=true∧YU r=true:=by
 unfold J2 at h
 split at h
 ·rename_i h1; rw [Bool.and_eq_true] at h1; exact h1
 ·omega
theorem Zez (w r:Dfn):J2 w r=0∨J2 w r=2:=by unfold J2; split <;> simp
theorem ZoW {l r:List Bool} {i:Nat} {v w:Bool} (h:l.length=i):(l++v :: r).set i w=l++w :: r:=by
 subst h; simp [List.set_append]
theorem Zh1 (l:List Dfn) (hl:l.length≤1000) (st:St):ZY Tryz.prog Zn.id [Zaq l] st fun q S=>q = .ret (.tup [ZkH (Zfd l),.int .i64 (Zo9 l)])∧S=st:=by
 refine ZP Zn.ok fun F hF=>?_
 have hS:=Zfd.eq_1 l
 have hE:=Zo9.eq_1 l
 refine Za (Zb (Zc ?_))
 simp only [Eqs,reduceCtorEq,reduceIte,Zn.r0]
 refine Za (Zb (Zc ?_))
 simp only [Eqs,reduceCtorEq,reduceIte,Zn.r1]
 refine Za (Za (Zb (Zc ?_)))
 simp only [Eqs,reduceCtorEq,reduceIte,Nat.reduceEqDiff,Zn.r2,Zaq,slD]
 refine Qy (s':=st) (by first | exact St.sub_refl _ | exact ZM (by first | trivial | assumption) | exact St.sub_trans (ZM (by first | trivial | assumption)) (ZM (by first | trivial | assumption)) | assumption) (ZaT (ρ':=[(0,.d (Zaq l)),(4,.d (.sl .full 0 1 fun _=>[])),(12,.d (Zaq l)),(13,.d (.int .i64 l.length)),(14,.d (.int .i64 (0:Nat)))]) (L':=[]) ?_ ?_ ?_)
 ·exact .skip (.cons (.d (K9 fun b h=>by cases h)) (.skip (.skip (.skip .nil))))
 ·exact ZdB _
 refine Zo (YH ?_)
 have key:∀ (n i:Nat),(l.length) - i=n→∀ tk row out,tk.okIn st→We Zq0 row out→out=(l.take i).map (fun w=>l.map fun r=>WY w r)→(0 < i→l.all YU=true)→i≤l.length→ZU F [.code (Zn.l0),.inLoop Zn.l0,.inBlock 0,.code (.seq (qR Zn.r16 [2,3]) .ret)] [(0,.d (Zaq l)),(4,.d (.sl tk out.length 1 row)),(12,.d (Zaq l)),(13,.d (.int .i64 l.length)),(14,.d (.int .i64 i))] [] (st.own tk (out.length * 1)):=by
  intro n
  induction n using Nat.strongRecOn with
  | ind n ih_key =>
  intro i hn tk row out htk hrow hout hval hi
  have hol:out.length=i:=by rw [hout]; simp; omega
  refine Za (Zb (Zc ?_))
  simp only [Eqs,reduceCtorEq,reduceIte,Nat.reduceEqDiff,Zn.r3]
  refine Za (Zg rfl trivial (fun h1=>?_) (fun h1=>?_))
  ·simp at h1
   generalize hw:l.getD i default=w at *
   refine Zq (Za (Zo (Za (Zb (Zc ?_)))))
   simp only [Eqs,reduceCtorEq,reduceIte,Nat.reduceEqDiff,Nat.reduceAdd,Nat.reduceLeDiff,Zn.r4,Zaq,slD,Dfn.cells,hw]
   repeat (refine And.intro (by first | omega | trivial | (intro h0; simp at h0; omega)) ?_)
   refine Za (Zb (Zc ?_))
   simp only [Eqs,reduceCtorEq,reduceIte,Nat.reduceEqDiff,Zn.r5]
   refine ⟨by omega,by omega,by omega,by unfold big; omega,fun b hb=>?_⟩
   simp only [ZmX]
   rw [show List.replicate l.length false=[]++List.replicate (l.length - 0) false by simp]
   refine Za (Za (Zb (Zc ?_)))
   simp only [Eqs,reduceCtorEq,reduceIte,Nat.reduceEqDiff,Zn.r6]
   refine Zo (YH ?_)
   have key2:∀ (n k:Nat),(l.length) - k=n→∀ bs,bs=(l.take k).map (fun r=>WY w r)→(l.take k).all YU=true→(0 < k→YU w=true)→k≤l.length→ZU F [.code (Zn.l1),.inLoop Zn.l1,.inBlock 2,.code (qR Zn.r14 [0,4,12,13,14]),.inBlock 1,.code (qR Zn.r15 [0,4,12,13,14]),.inLoop Zn.l0,.inBlock 0,.code (.seq (qR Zn.r16 [2,3]) .ret)] [(0,.d (Zaq l)),(4,.d (.sl tk out.length 1 row)),(6,.loc 6 0),(7,.d (.msl b 0 l.length l.length 1)),(12,.d (Zaq l)),(13,.d (.int .i64 l.length)),(14,.d (.int .i64 i)),(21,.d (Zaq l)),(22,.d (.int .i64 l.length)),(23,.d (.int .i64 k))] [(6,w.cells)] ((st.own tk (out.length * 1)).upd b (.cells (ZdP (bs++List.replicate (l.length - k) false)))):=by
    intro n
    induction n using Nat.strongRecOn with
    | ind n ih_key2 =>
    intro k hnk bs hbs hvk hvw hk
    have hbl:bs.length=k:=by rw [hbs]; simp; omega
    refine Za (Zb (Zc ?_))
    simp only [Eqs,reduceCtorEq,reduceIte,Nat.reduceEqDiff,Zn.r7]
    refine Za (Zg rfl trivial (fun h2=>?_) (fun h2=>?_))
    ·simp at h2
     have hsn:=Zfh (p:=YU) h2
     have htk2:=WL h2
     have hmem:=KQ h2
     generalize hr:l.getD k default=r at *
     refine Zq (Za (Zo (Za (Zb (Zc ?_)))))
     simp only [Eqs,reduceCtorEq,reduceIte,Nat.reduceEqDiff,Nat.reduceAdd,Nat.reduceLeDiff,Zn.r8,Zaq,slD,Dfn.cells,hr]
     repeat (refine And.intro (by first | omega | trivial | (intro h0; simp at h0; omega)) ?_)
     refine Za (Zb (Zc ?_))
     simp only [Eqs,reduceCtorEq,reduceIte,Nat.reduceEqDiff,Nat.reduceAdd,Nat.reduceLeDiff,Zn.r9]
     rw [show (D.agg [.str w.name,Kf w.msgs,.str w.start]) = .agg w.cells from rfl,show (D.agg [.str r.name,Kf r.msgs,.str r.start]) = .agg r.cells from rfl]
     refine YF rfl rfl rfl rfl rfl (by trivial) (by trivial) (by exact Qx w r _) (Zc ?_)
     simp only [Eqs,reduceCtorEq,reduceIte,Nat.reduceEqDiff]
     refine Za (Za (Zb (Zc ?_)))
     simp only [Eqs,reduceCtorEq,reduceIte,Nat.reduceEqDiff,Zn.r10]
     refine Zg rfl trivial (fun h3=>?_) (fun h3=>?_)
     ·have he:J2 w r=2:=by rcases Zez w r with h | h <;> simp_all
      have hnv:l.all YU=false:=by
       refine Bool.eq_false_iff.2 fun hc=>?_
       have hw1:=List.all_eq_true.1 hc w (hw ▸ KQ h1)
       have hr1:=List.all_eq_true.1 hc r hmem
       unfold J2 at he
       rw [hw1,hr1] at he; simp at he
      rw [hnv] at hS hE
      refine Za (Zb (Zc ?_))
      simp only [Eqs,reduceCtorEq,reduceIte,Nat.reduceEqDiff,Zn.r11]
      rw [he]
      exact hF.ret (.tup [ZkH [],.int .i64 2]) st rfl (by trivial) (Zdc rfl (.cons (K9 (by simp)) (LeC.refl _))) (St.sub_trans (ZM htk) (St.sub_upd _ hb)) ⟨by rw [hS,hE]; rfl,rfl⟩
     ·have he:J2 w r=0:=by rcases Zez w r with h | h <;> simp_all
      have hvv:=ZnV he
      have hrep:List.replicate (l.length - k) false=false :: List.replicate (l.length - (k + 1)) false:=by
       rw [show l.length - k=(l.length - (k + 1)) + 1 by omega,List.replicate_succ]
      rw [hrep]
      have hcl:(ZdP (bs++false :: List.replicate (l.length - (k + 1)) false)).length=l.length:=by
       rw [ZhI]; simp; omega
      refine Zq ?_
      refine Zb (Zc ?_)
      simp only [Eqs,reduceCtorEq,reduceIte,Nat.reduceEqDiff,Zn.r12,hcl,St.upd_same,St.upd_upd,Nat.mul_one k]
      repeat (refine And.intro (by first | omega | trivial | (intro h0; simp at h0; omega)) ?_)
      rw [ZoO (by rw [List.length_append,List.length_cons]; omega),ZoW hbl]
      rw [show bs++WY w r :: List.replicate (l.length - (k + 1)) false=(bs++[WY w r])++List.replicate (l.length - (k + 1)) false by simp]
      refine ZC (Zb (Zc ?_))
      simp only [Eqs,reduceCtorEq,reduceIte,Nat.reduceEqDiff,Zn.r13]
      repeat (refine And.intro (by first | omega | trivial | (intro h0; simp at h0; omega)) ?_)
      refine Z3 ?_
      exact ih_key2 ((l.length) - (k + 1)) (by omega) (k + 1) rfl (bs++[WY w r]) (by rw [htk2,List.map_append,hbs]; rfl) (by rw [hsn,hvk,hvv.2]; rfl) (fun _=>hvv.1) (by omega)
    ·simp at h2
     obtain rfl:k=l.length:=by omega
     rw [List.take_length] at hbs hvk
     rw [Nat.sub_self,List.replicate_zero,List.append_nil]
     refine Zmc 7 rfl (St.upd_same _ _ _) (row:=fun q=>bC (bs.getD q default)) (by rw [ZhI]; omega) (fun q hq=>?_) ?_
     ·rw [Nat.mul_one]
      unfold ZdP
      rw [List.drop_eq_getElem_cons (by simp; omega)]
      simp [List.getD,show q < bs.length by omega]
     rw [Zp9 hb]
     have hvw':l.all YU=true:=hvk
     have htk2:=WL h1
     rw [hw] at htk2
     refine Ys rfl (Zb (Zc ?_))
     simp only [Eqs,reduceCtorEq,reduceIte,Nat.reduceEqDiff,Zn.r14]
     refine ZcQ (st) (tk) rfl rfl rfl rfl rfl rfl (by trivial) (by trivial) rfl (by first | trivial | assumption) (by omega) (by (unfold big; omega)) fun t1 ht1=>Zc ?_
     simp only [Eqs,reduceCtorEq,reduceIte,Nat.reduceEqDiff]
     refine ZC (Zb (Zc ?_))
     simp only [Eqs,reduceCtorEq,reduceIte,Nat.reduceEqDiff,Zn.r15]
     repeat (refine And.intro (by first | omega | trivial | (intro h0; simp at h0; omega)) ?_)
     refine Z3 ?_
     have hnext:=ih_key ((l.length) - (i + 1)) (by omega) (i + 1) rfl t1 _ (out++[bs]) ht1 (hrow.snoc (x:=bs) (row2:=Wu [.nilsl] ([0].zip [.sl .none l.length 1 fun q=>bC (bs.getD q default)])) (by show [D.sl .none l.length 1 fun q=>bC (bs.getD q default)]=[D.sl .none bs.length 1 fun q=>bC (bs.getD q default)]; rw [hbl]) rfl) (by rw [htk2,List.map_append,hout,hbs]; rfl) (fun _=>hvk) (by omega)
     rw [List.length_append] at hnext
     exact hnext
   exact key2 _ 0 rfl [] rfl (by simp) (by omega) (by omega)
  ·simp at h1
   obtain rfl:i=l.length:=by omega
   rw [List.take_length] at hout
   have hall:l.all YU=true:=by
    rcases Nat.eq_zero_or_pos l.length with h | h
    ·rw [List.eq_nil_of_length_eq_zero h]; rfl
    ·exact hval h
   rw [hall] at hS hE
   refine Ys rfl (Za (Zb (Zc ?_)))
   simp only [Eqs,reduceCtorEq,reduceIte,Nat.reduceEqDiff,Zn.r16]
   exact hF.ret (.tup [ZkH out,.int .i64 0]) st rfl (by trivial) (Zdc rfl (.cons (hrow.le rfl) (LeC.refl _))) (ZM htk) ⟨by rw [hS,hE,hout]; rfl,rfl⟩
 exact key _ 0 rfl .full _ [] trivial We.nil rfl (by omega) (by omega)
end Go.DL
namespace Go.DL
open Go Go.Proofs
theorem ZfD (row:List Bool) (i:Nat) (b:Nat) (st:St) (hb:st b=some (.cells [.int .i64 i])) (hi:i < row.length) :
  YD Tryz.prog Wq.id [Zet row,.ptr b 0] st (.bool (!row.getD i default)) st:=by
 refine YG Wq.ok fun hwf F hret=>?_
 clear hwf
 refine Za (Zb (Zc ?_))
 simp only [Eqs,reduceCtorEq,reduceIte,Nat.reduceEqDiff,Nat.reduceAdd,Wq.r0]
 refine Za (Zb (Zc ?_))
 simp only [Eqs,reduceCtorEq,reduceIte,Nat.reduceEqDiff,Wq.r1,hb,Zet,slD]
 repeat (refine And.intro (by first | omega | trivial | (intro h0; simp at h0; omega)) ?_)
 exact hret rfl (by trivial) (D.Le.refl _) (St.sub_refl _)
theorem ZiS {l:List Dfn} (h:l.all YU=true):Zfd l=l.map fun w=>l.map fun r=>WY w r:=by rw [Zfd,if_pos h]
theorem Zlx {w r:Dfn} (hw:YU w=true) (hr:YU r=true):WY w r=decide (((KA w r).length:Int)=0):=by
 unfold WY
 rw [hw,hr]
 cases KA w r <;> simp
 omega
theorem ZoY {l:List Dfn} (h:l.all YU=true) {i:Nat} (hi:i < l.length):((Zfd l).any fun row=>!row.getD i default) = !Zcn l i:=by
 have hall:=List.all_eq_true.1 h
 have e:∀ w∈l,(l.map fun r=>WY w r).getD i default=decide (((KA w (l.getD i default)).length:Int)=0):=fun w hw=>by
  rw [← Zlx (hall _ hw) (hall _ (KQ hi))]
  simp [List.getD,hi]
 rw [ZiS h,List.any_map,Zcn,List.not_all_eq_any_not]
 rw [Bool.eq_iff_iff,List.any_eq_true,List.any_eq_true]
 constructor
 ·rintro ⟨w,hw,h1⟩
  refine ⟨w,hw,?_⟩
  simp only [Function.comp] at h1
  rw [e w hw] at h1; exact h1
 ·rintro ⟨w,hw,h1⟩
  refine ⟨w,hw,?_⟩
  simp only [Function.comp]
  rw [e w hw]; exact h1
def Zpz (l:List Dfn):Int:=if l.all YU then max (Zax l l.length) 0 else 0
def ZoK (l:List Dfn):Int:=if l.all YU then (if Zax l l.length < 0 then 9 else 0) else 2
theorem ZhN (l:List Dfn) (hl:l.length≤1000) (st:St):YD Tryz.prog ZG.id [Zaq l] st (.tup [.int .i64 (Zpz l),.int .i64 (ZoK l)]) st:=by
 refine YG ZG.ok fun hwf F hret=>?_
 clear hwf
 have hV:=Zpz.eq_1 l
 have hE:=ZoK.eq_1 l
 have hM:=Zh1 l hl st
 have hme:=Zo9.eq_1 l
 refine Za (Zb (Zc ?_))
 simp only [Eqs,reduceCtorEq,reduceIte,ZG.r0]
 refine Za (Zb (Zc ?_))
 simp only [Eqs,reduceIte,ZG.r1]
 refine Z6 rfl rfl rfl rfl rfl (by trivial) (by trivial) (by exact hM) ?_ ?_
 ·rintro dv S ⟨hq,rfl⟩
  cases hq
  by_cases hv:l.all YU=true
  ·rw [if_pos hv] at hV hE hme
   rw [hme]
   refine Zc ?_
   simp only [Eqs,reduceCtorEq,reduceIte,Nat.reduceEqDiff]
   refine Za (Za (Zb (Zc ?_)))
   simp only [Eqs,reduceCtorEq,reduceIte,Nat.reduceEqDiff,ZG.r2]
   refine Zg rfl trivial (fun h=>by simp at h) (fun _=>?_)
   refine Zq ?_
   refine Za (Za (Zb (Zc ?_)))
   simp only [Eqs,reduceCtorEq,reduceIte,Nat.reduceEqDiff,Nat.reduceLeDiff,ZG.r4,Zaq,slD]
   repeat (refine And.intro (by first | omega | trivial | (intro h0; simp at h0; omega)) ?_)
   refine Zo (YH ?_)
   have key:∀ (n j:Nat),(l.length) - j=n→Zax l l.length=Zax l (l.length - j)→j≤l.length→ZU F [.code (ZG.l0),.inLoop ZG.l0,.inBlock 0,.code (.seq (qR ZG.r11 [2,3]) .ret)] [(4,.d (ZkH (Zfd l))),(6,.loc 6 0)] [(6,[.int .i64 ((l.length:Int) - 1 - j)])] S:=by
    intro n
    induction n using Nat.strongRecOn with
    | ind n ih_key =>
    intro j hn hnt hj
    refine Za (Za (Zb (Zc ?_)))
    simp only [Eqs,reduceIte,Nat.reduceEqDiff,ZG.r5]
    refine Zg rfl trivial (fun h1=>?_) (fun h1=>?_)
    ·have h1':(j:Int) < l.length:=by simp at h1; omega
     have hjl:j < l.length:=by omega
     have hstep:Zax l (l.length - j)=if Zcn l (l.length - (j + 1)) then ((l.length - (j + 1):Nat):Int) else Zax l (l.length - (j + 1)):=by
      rw [show l.length - j=(l.length - (j + 1)) + 1 by omega]; rfl
     have hcast:(l.length:Int) - 1 - j=((l.length - (j + 1):Nat):Int):=by omega
     have hlt:l.length - (j + 1) < l.length:=by omega
     rw [hcast]
     refine Yp 6 rfl fun x hx=>?_
     simp only [reduceIte,Yz,Wi,delL]
     have hcon:=Zcj (Zfd l) (.fn (.func Wq.id) [] [.ptr x 0]) (fun row=>!row.getD (l.length - (j + 1)) default) (fun _=>S.upd x (.cells [.int .i64 ((l.length - (j + 1):Nat):Int)])) (fun q hq=>by
      have hrl:((Zfd l).getD q default).length=l.length:=by
       rw [ZiS hv] at hq ⊢
       simp only [List.length_map] at hq
       simp [List.getD,hq]
      exact YD.VT (first:=[]) (caps:=[.ptr x 0]) (args:=[Zet ((Zfd l).getD q default)]) (ZfD _ _ x _ (St.upd_same _ _ _) (by rw [hrl]; exact hlt)))
     rw [ZoY hv hlt] at hcon
     refine Zq (Za (Zo (Za (Zb (Zc ?_)))))
     simp only [Eqs,reduceIte,Nat.reduceEqDiff,ZG.r7]
     refine YF rfl rfl rfl rfl rfl (by trivial) (by trivial) (by exact hcon) (Zc ?_)
     simp only [Eqs,reduceIte,Nat.reduceEqDiff]
     refine Zg rfl trivial (fun h2=>?_) (fun h2=>?_)
     ·have hra:Zcn l (l.length - (j + 1))=true:=by simpa using h2
      rw [if_pos hra] at hstep
      refine Za (Zb (Zc ?_))
      simp only [Eqs,reduceIte,Nat.reduceEqDiff,ZG.r8,St.upd_same]
      exact hret rfl (by trivial) (by rw [hV,hE,hnt,hstep,if_neg (by omega),show max (((l.length - (j + 1):Nat):Int)) 0=((l.length - (j + 1):Nat):Int) by omega]; exact D.Le.refl _) (St.sub_upd _ hx)
     ·have hra:Zcn l (l.length - (j + 1))=false:=by simpa using h2
      rw [hra] at hstep
      refine Zq (ZC (Za (Za (Zb (Zc ?_)))))
      simp only [Eqs,reduceIte,Nat.reduceEqDiff,ZG.r9,St.upd_same]
      refine Zb (Zc ?_)
      simp only [Eqs,reduceIte,Nat.reduceEqDiff,Nat.reduceLeDiff,ZG.r10]
      refine Zb (Zc ?_)
      simp only [Eqs,reduceIte,Nat.reduceEqDiff,Nat.reduceLeDiff,ZG.r6]
      refine ⟨by omega,by omega,?_⟩
      refine Qy (St.sub_upd _ hx) ?_
      rw [show (((l.length - (j + 1):Nat):Int)) - 1=(l.length:Int) - 1 - ((j + 1:Nat):Int) by omega]
      refine Z3 ?_
      exact ih_key ((l.length) - (j + 1)) (by omega) (j + 1) rfl (hnt.trans hstep) (by omega)
    ·have h1':j=l.length:=by simp at h1; omega
     subst h1'
     rw [Nat.sub_self] at hnt
     have hm1:Zax l l.length = -1:=hnt
     refine Ys rfl (Za (Zb (Zc ?_)))
     simp only [Eqs,reduceIte,Nat.reduceEqDiff,ZG.r11]
     exact hret rfl (by trivial) (by rw [hV,hE,hm1]; exact D.Le.refl _) (St.sub_refl _)
   have hk0:=key _ 0 rfl rfl (by omega)
   rw [show (l.length:Int) - 1 - ((0:Nat):Int)=(l.length:Int) - 1 by omega] at hk0
   exact hk0
  ·have hv2:l.all YU=false:=by simpa using hv
   rw [if_neg hv] at hV hE hme
   rw [hme]
   refine Zc ?_
   simp only [Eqs,reduceCtorEq,reduceIte,Nat.reduceEqDiff]
   refine Za (Za (Zb (Zc ?_)))
   simp only [Eqs,reduceCtorEq,reduceIte,Nat.reduceEqDiff,ZG.r2]
   refine Zg rfl trivial (fun _=>?_) (fun h=>by simp at h)
   refine Za (Zb (Zc ?_))
   simp only [Eqs,reduceCtorEq,reduceIte,Nat.reduceEqDiff,ZG.r3]
   exact hret rfl (by trivial) (by rw [hV,hE]; exact D.Le.refl _) (St.sub_refl _)
 ·rintro dv S ⟨hq,_⟩
  cases hq
end Go.DL
namespace Go.DL
open Go Go.Proofs
theorem Qq (n:Int):Yk Tryz.prog KX.id [.int .i64 n] (.int .i64 n):=by
 refine YR KX.ok fun F st hret=>?_
 refine Za (Zb (Zc ?_))
 simp only [Eqs,reduceCtorEq,reduceIte,KX.r0]
 refine Za (Zb (Zc ?_))
 simp only [Eqs,reduceCtorEq,reduceIte,Nat.reduceEqDiff,KX.r1]
 refine hret rfl (by first | trivial | simp) (Za4 ?_) (by first | exact St.sub_refl _ | exact ZM (by first | trivial | assumption) | assumption | exact St.sub_upd _ (by assumption))
 rfl
theorem ZlE {α:Type} [Inhabited α] {a b:List α} {i:Nat} (ha:i < a.length) (hb:i < b.length) (h:a.take i=b.take i):(a.take (i + 1)=b.take (i + 1))↔a.getD i default=b.getD i default:=by
 rw [WL ha,WL hb,h]
 simp
theorem ZkC (a b:List Dif):Yk Tryz.prog Yc.id [Qm a,Qm b] (.bool (decide (a=b))):=by
 refine Qo Yc.ok fun hwf F st hret=>?_
 have hw:=(K6 (α:=Dif) (n:=2) (f:=Dif.cells) (l:=a) (hwf (Qm a) (by simp))).1
 unfold big at hw
 clear hwf
 refine Za (Zb (Zc ?_))
 simp only [Eqs,reduceCtorEq,reduceIte,Nat.reduceEqDiff,Nat.reduceAdd,Yc.r0]
 refine Za (Za (Zb (Zc ?_)))
 simp only [Eqs,reduceCtorEq,reduceIte,Nat.reduceEqDiff,Yc.r1,Qm,slD]
 refine Zg rfl trivial (fun h1=>?_) (fun h1=>?_)
 ·have hne:a≠b:=fun e=>by rw [e] at h1; simp at h1
  rw [decide_eq_false hne] at hret
  refine Za (Zb (Zc ?_))
  simp only [Eqs,reduceCtorEq,reduceIte,Nat.reduceEqDiff,Yc.r2]
  refine hret rfl (by first | trivial | simp) (Y1 ?_) (by first | exact St.sub_refl _ | exact ZM (by first | trivial | assumption) | assumption | exact St.sub_upd _ (by assumption))
  rfl
 ·have hl:a.length=b.length:=by simp at h1; omega
  refine Zq (Za (Za (Zb (Zc ?_))))
  simp only [Eqs,reduceCtorEq,reduceIte,Nat.reduceEqDiff,Yc.r3]
  refine Zo ?_
  refine YH ?_
  have key:∀ (n i:Nat),(a.length) - i=n→a.take i=b.take i→i≤a.length→ZU F [.code (Yc.l0),.inLoop Yc.l0,.inBlock 0,.code (.seq (qR Yc.r8 [4]) .ret)] [(0,.d (Qm a)),(1,.d (Qm b)),(5,.d (.int .i64 i))] [] st:=by
   intro n
   induction n using Nat.strongRecOn with
   | ind n ih_key =>
   intro i hn heq hi
   refine Za (Za (Zb (Zc ?_)))
   simp only [Eqs,reduceCtorEq,reduceIte,Nat.reduceEqDiff,Yc.r4,Qm,slD]
   refine Zg rfl trivial (fun h2=>?_) (fun h2=>?_)
   ·simp at h2
    have hs:=ZlE h2 (by omega) heq
    refine Zq (Za (Zo (Za (KU (Kz ?_)))))
    simp only [Eqs,reduceCtorEq,reduceIte,Nat.reduceEqDiff,Nat.reduceAdd,Nat.reduceLeDiff,Yc.r6,Dif.cells]
    repeat (refine And.intro (by first | omega | trivial | (intro h0; simp at h0; omega)) ?_)
    refine Zg rfl trivial (fun h3=>?_) (fun h3=>?_)
    ·have hne:a≠b:=fun e=>by
      subst e
      simp at h3
     rw [decide_eq_false hne] at hret
     refine Za (Zb (Zc ?_))
     simp only [Eqs,reduceCtorEq,reduceIte,Nat.reduceEqDiff,Yc.r7]
     refine hret rfl (by first | trivial | simp) (Y1 ?_) (by first | exact St.sub_refl _ | exact ZM (by first | trivial | assumption) | assumption | exact St.sub_upd _ (by assumption))
     rfl
    ·have he:a.getD i default=b.getD i default:=by
      have h3':(a.getD i default).path=(b.getD i default).path∧(a.getD i default).code=(b.getD i default).code:=by simpa using h3
      generalize a.getD i default=x at *
      generalize b.getD i default=y at *
      cases x; cases y; simp_all
     refine Zq (ZC (Zb (Zc ?_)))
     simp only [Eqs,reduceCtorEq,reduceIte,Nat.reduceEqDiff,Yc.r5]
     repeat (refine And.intro (by first | omega | trivial | (intro h0; simp at h0; omega)) ?_)
     refine Z3 ?_
     exact ih_key ((a.length) - (i + 1)) (by omega) (i + 1) rfl (hs.2 he) (by omega)
   ·simp at h2
    obtain rfl:i=a.length:=by omega
    have hab:a=b:=by
     rw [List.take_length,hl,List.take_length] at heq; exact heq
    rw [decide_eq_true hab] at hret
    refine Ys rfl (Za (Zb (Zc ?_)))
    simp only [Eqs,reduceCtorEq,reduceIte,Nat.reduceEqDiff,Yc.r8]
    refine hret rfl (by first | trivial | simp) (Y1 ?_) (by first | exact St.sub_refl _ | exact ZM (by first | trivial | assumption) | assumption | exact St.sub_upd _ (by assumption))
    rfl
  exact key _ 0 rfl rfl (by omega)
def Zb2 (high bits:Int):Fld:=⟨[110],1,bits,false,false,0,high,⟨0,[]⟩,[],[],[],[],0,0⟩
def Zb7 (more:Int):Fld:=⟨[98],4,0,false,false,0,0,⟨more,[⟨[110],1⟩]⟩,[],[],[],[],0,0⟩
def Zfe (high bits more:Int):Msg:=⟨[109],[Zb2 high bits,Zb7 more]⟩
def ZhV (high bits more:Int):Dfn:=⟨[100],[Zfe high bits more],[109]⟩
theorem Zmq (high bits:Int):LeC [.str [110],.int .i64 1,.int .i64 bits,.bool false,.bool false,.int .i64 0,.int .i64 high,.int .i64 0,.nilsl,.str [],.str [],.str [],.nilsl,.int .i64 0,.int .i64 0] (Zb2 high bits).cells:=by
 have h:∀ (n:Nat) (row:Nat→List D),D.nilsl.Le (.sl .none 0 n row):=fun n row=>K9 fun b h=>by cases h
 exact .cons (D.Le.refl _) (.cons (D.Le.refl _) (.cons (D.Le.refl _) (.cons (D.Le.refl _) (.cons (D.Le.refl _) (.cons (D.Le.refl _) (.cons (D.Le.refl _) (.cons (D.Le.refl _) (.cons (h _ _) (.cons (D.Le.refl _) (.cons (D.Le.refl _) (.cons (D.Le.refl _) (.cons (h _ _) (.cons (D.Le.refl _) (.cons (D.Le.refl _) .nil))))))))))))))
theorem Zmt (more:Int):LeC [.str [98],.int .i64 4,.int .i64 0,.bool false,.bool false,.int .i64 0,.int .i64 0,.int .i64 more,.sl .full 1 2 (Wu [.str [],.int .i64 0] ([0].zip [.agg [.str [110],.int .i64 1]])),.str [],.str [],.str [],.nilsl,.int .i64 0,.int .i64 0] (Zb7 more).cells:=by
 have h:∀ (n:Nat) (row:Nat→List D),D.nilsl.Le (.sl .none 0 n row):=fun n row=>K9 fun b h=>by cases h
 have h2:(D.sl .full 1 2 (Wu [.str [],.int .i64 0] ([0].zip [.agg [.str [110],.int .i64 1]]))).Le (Y4 [⟨[110],1⟩]):=(We.one (f:=Z5.cells) (x:=⟨[110],1⟩) rfl).le rfl
 exact .cons (D.Le.refl _) (.cons (D.Le.refl _) (.cons (D.Le.refl _) (.cons (D.Le.refl _) (.cons (D.Le.refl _) (.cons (D.Le.refl _) (.cons (D.Le.refl _) (.cons (D.Le.refl _) (.cons h2 (.cons (D.Le.refl _) (.cons (D.Le.refl _) (.cons (D.Le.refl _) (.cons (h _ _) (.cons (D.Le.refl _) (.cons (D.Le.refl _) .nil))))))))))))))
theorem ZfK {α:Type} [Inhabited α] {f:α→List D} {row:Nat→List D} {x y:α} (h0:row 0=f x) (h1:row 1=f y):We f row [x,y]:=by
 intro i hi
 match i,hi with
 | 0,_=>exact h0
 | 1,_=>exact h1
theorem ZjM (high bits more:Int) (st:St):ZY Tryz.prog YJ.id [.int .i64 high,.int .i64 bits,.int .i64 more] st
  fun r S=>∃ b,st b=none∧r = .ret (.agg [.str [100],.msl b 0 1 1 2,.str [109]])∧S=st.upd b (.cells [.str [109],.sl .full 2 15 fun i=>((Zfe high bits more).fields.getD i default).cells]):=by
 refine ZP YJ.ok fun F hF=>?_
 refine Za (Zb (Zc ?_))
 simp only [Eqs,reduceCtorEq,reduceIte,Nat.reduceEqDiff,Nat.reduceAdd,YJ.r0]
 refine Za (Zb (Zc ?_))
 simp only [Eqs,reduceCtorEq,reduceIte,Nat.reduceEqDiff,Nat.reduceAdd,Nat.reduceLeDiff,YJ.r1]
 refine Za (Zb (Zc ?_))
 simp only [Eqs,reduceIte,Nat.reduceEqDiff,Nat.reduceAdd,Nat.reduceLeDiff,YJ.r2]
 refine Za ?_
 refine Qy (s':=st) (by first | exact St.sub_refl _ | exact ZM (by first | trivial | assumption) | exact St.sub_trans (ZM (by first | trivial | assumption)) (ZM (by first | trivial | assumption)) | assumption) (ZaT (ρ':=[(6,.loc 6 0),(7,.loc 7 0),(8,.loc 8 0)]) (L':=[(6,[.str [],.nilsl,.str []]),(7,(Zb2 high bits).cells),(8,(Zb7 more).cells)]) ?_ ?_ ?_)
 ·exact Zcf _
 ·exact .skip (.cons (Zmq _ _) (.cons (Zmt _) .nil))
 refine Zb (Zes ?_)
 simp only [Eqs,reduceIte,Nat.reduceEqDiff,Nat.reduceAdd,Nat.reduceLeDiff,Ze4,ZgS,YJ.r3,Fld.cells]
 refine ZkY rfl rfl rfl rfl (fun _=>⟨by trivial,by rfl⟩) (.inr ⟨rfl,rfl⟩) (Zes ?_)
 simp only [Eqs,reduceIte,Nat.reduceEqDiff,Nat.reduceAdd,Nat.reduceLeDiff,Ze4,ZgS]
 refine Zqd rfl rfl rfl rfl (by trivial) (by rfl) (by decide) fun b hb=>Zes ?_
 simp only [Eqs,reduceIte,Nat.reduceEqDiff,Nat.reduceAdd,Nat.reduceLeDiff,Ze4,ZgS]
 refine QO (b:=b) (St.upd_same _ _ _) (ds':=[.str [109],.sl .full 2 15 fun i=>((Zfe high bits more).fields.getD i default).cells]) (.cons (D.Le.refl _) (.cons ((ZfK (f:=Fld.cells) (x:=Zb2 high bits) (y:=Zb7 more) rfl rfl).leT rfl) .nil)) ?_
 rw [St.upd_upd]
 exact hF.ret _ _ rfl ⟨by simp,trivial⟩ (D.Le.refl _) (St.sub_refl _) ⟨b,hb,rfl,rfl⟩
theorem ZbB (high bits more:Int) (st:St):YD Tryz.prog YJ.id [.int .i64 high,.int .i64 bits,.int .i64 more] st (.agg (ZhV high bits more).cells) st:=by
 refine ZP YJ.ok fun F hF=>?_
 refine Za (Zb (Zc ?_))
 simp only [Eqs,reduceCtorEq,reduceIte,Nat.reduceEqDiff,Nat.reduceAdd,YJ.r0]
 refine Za (Zb (Zc ?_))
 simp only [Eqs,reduceCtorEq,reduceIte,Nat.reduceEqDiff,Nat.reduceAdd,Nat.reduceLeDiff,YJ.r1]
 refine Za (Zb (Zc ?_))
 simp only [Eqs,reduceIte,Nat.reduceEqDiff,Nat.reduceAdd,Nat.reduceLeDiff,YJ.r2]
 refine Za ?_
 refine Qy (s':=st) (by first | exact St.sub_refl _ | exact ZM (by first | trivial | assumption) | exact St.sub_trans (ZM (by first | trivial | assumption)) (ZM (by first | trivial | assumption)) | assumption) (ZaT (ρ':=[(6,.loc 6 0),(7,.loc 7 0),(8,.loc 8 0)]) (L':=[(6,[.str [],.nilsl,.str []]),(7,(Zb2 high bits).cells),(8,(Zb7 more).cells)]) ?_ ?_ ?_)
 ·exact Zcf _
 ·exact .skip (.cons (Zmq _ _) (.cons (Zmt _) .nil))
 refine Zb (Zc ?_)
 simp only [Eqs,reduceIte,Nat.reduceEqDiff,Nat.reduceAdd,Nat.reduceLeDiff,YJ.r3,Fld.cells]
 have h1:=(ZfK (f:=Fld.cells) (row:=Wu [.str [],.int .i64 0,.int .i64 0,.bool false,.bool false,.int .i64 0,.int .i64 0,.int .i64 0,.nilsl,.str [],.str [],.str [],.nilsl,.int .i64 0,.int .i64 0] ([0,1].zip [.agg (Zb2 high bits).cells,.agg (Zb7 more).cells])) (x:=Zb2 high bits) (y:=Zb7 more) rfl rfl).le (t:=.full) (n:=2) (s:=15) rfl
 refine hF.ret _ _ rfl ⟨by simp,trivial⟩ (ZaN (Zio (.cons (D.Le.refl _) (.cons (D.Le.trans (Zfy (row':=fun _=>(Zfe high bits more).cells) ?_) ((We.one (f:=Msg.cells) (x:=Zfe high bits more) rfl).le rfl)) (.cons (D.Le.refl _) .nil))))) (St.sub_refl _) ⟨rfl,rfl⟩
 intro i hi
 obtain rfl:i=0:=by omega
 exact .cons (D.Le.refl _) (.cons h1 .nil)
def gt (a:Int) (n:Nat):Bool:=decide (a < (n:Int))
def ZdN (f:Fld):Bool:=gt 8 f.cases.length || (gt 8 f.size.terms.length || (gt 60 f.name.length || (gt 60 f.of.length || (gt 60 f.tag.length || gt 60 f.from_.length))))
def ZfX (m:Msg):Bool:=(gt 12 m.fields.length || gt 60 m.name.length) || m.fields.any ZdN
def ZnK (d:Dfn):Bool:=(gt 8 d.msgs.length || (gt 60 d.name.length || gt 60 d.start.length)) || d.msgs.any ZfX
theorem ZjR {α:Type} [Inhabited α] {p:α→Bool} {l:List α} {i:Nat} (h:i < l.length):(l.take (i + 1)).any p=((l.take i).any p || p (l.getD i default)):=by
 rw [WL h,List.any_append]; simp
theorem ZhC {α:Type} [Inhabited α] {p:α→Bool} {l:List α} {i:Nat} (h:i < l.length) (hp:p (l.getD i default)=true):l.any p=true:=List.any_eq_true.2 ⟨_,KQ h,hp⟩
theorem Zcg (d:Dfn):Yk Tryz.prog ZA.id [.agg d.cells] (.bool (ZnK d)):=by
 refine Qo ZA.ok fun hwf F st hret=>?_
 have hwm:=(Zqz (s:=d) (hwf _ (by simp)))
 have hw:=hwm.nmsgs
 unfold big at hw
 clear hwf
 have hS:=ZnK.eq_1 d
 refine Za (Zb (Zc ?_))
 simp only [Eqs,reduceCtorEq,reduceIte,Nat.reduceEqDiff,ZA.r0,Dfn.cells]
 refine Za (Za (Zb (Zc ?_)))
 simp only [Eqs,reduceIte,Nat.reduceEqDiff,ZA.r1,Kf,slD]
 refine Zg rfl trivial (fun h1=>?_) (fun h1=>?_)
 ·have h1':(gt 8 d.msgs.length || (gt 60 d.name.length || gt 60 d.start.length))=true:=by simpa [gt,Bool.or_assoc] using h1
  rw [h1',Bool.true_or] at hS
  refine Za (Zb (Zc ?_))
  simp only [Eqs,reduceIte,Nat.reduceEqDiff,ZA.r2]
  refine hret rfl (by first | trivial | simp) (Y1 ?_) (by first | exact St.sub_refl _ | exact ZM (by first | trivial | assumption) | assumption | exact St.sub_upd _ (by assumption))
  exact hS.symm
 ·have h1':(gt 8 d.msgs.length || (gt 60 d.name.length || gt 60 d.start.length))=false:=by simpa [gt,Bool.or_assoc] using h1
  rw [h1',Bool.false_or] at hS
  clear h1 h1'
  refine Zq (Za (Za (Zb (Zc ?_))))
  simp only [Eqs,reduceIte,Nat.reduceEqDiff,ZA.r3]
  refine Zo ?_
  refine YH ?_
  have key:∀ (n i:Nat),(d.msgs.length) - i=n→(d.msgs.take i).any ZfX=false→i≤d.msgs.length→ZU F [.code (ZA.l0),.inLoop ZA.l0,.inBlock 0,.code (.seq (qR ZA.r15 [2]) .ret)] [(1,.loc 1 0),(3,.d (.int .i64 i))] [(1,d.cells)] st:=by
   intro n
   induction n using Nat.strongRecOn with
   | ind n ih_key =>
   intro i hn hno hi
   refine Za (Za (Zb (Zc ?_)))
   simp only [Eqs,reduceIte,Nat.reduceEqDiff,ZA.r4,Dfn.cells,Kf,slD]
   refine Zg rfl trivial (fun h2=>?_) (fun h2=>?_)
   ·simp at h2
    have hsn:=ZjR (p:=ZfX) h2
    have hany:=ZhC (p:=ZfX) h2
    have hfw:=(hwm.msgs _ (KQ h2)).nfields
    unfold big at hfw
    generalize hm:d.msgs.getD i default=m at *
    have hM:=ZfX.eq_1 m
    refine Zq (Za (Zo (Za (Zb (Zc ?_)))))
    simp only [Eqs,reduceIte,Nat.reduceEqDiff,Nat.reduceAdd,Nat.reduceLeDiff,ZA.r6,Msg.cells,hm]
    repeat (refine And.intro (by first | omega | trivial | (intro h0; simp at h0; omega)) ?_)
    refine Za (Za (Zb (Zc ?_)))
    simp only [Eqs,reduceIte,Nat.reduceEqDiff,ZA.r7,Wl,slD]
    refine Zg rfl trivial (fun h3=>?_) (fun h3=>?_)
    ·have h3':(gt 12 m.fields.length || gt 60 m.name.length)=true:=by simpa [gt] using h3
     rw [h3',Bool.true_or] at hM
     rw [hany hM] at hS
     refine Za (Zb (Zc ?_))
     simp only [Eqs,reduceIte,Nat.reduceEqDiff,ZA.r8]
     refine hret rfl (by first | trivial | simp) (Y1 ?_) (by first | exact St.sub_refl _ | exact ZM (by first | trivial | assumption) | assumption | exact St.sub_upd _ (by assumption))
     exact hS.symm
    ·have h3':(gt 12 m.fields.length || gt 60 m.name.length)=false:=by simpa [gt] using h3
     rw [h3',Bool.false_or] at hM
     clear h3 h3'
     refine Zq (Za (Zb (Zc ?_)))
     simp only [Eqs,reduceIte,Nat.reduceEqDiff,ZA.r9]
     refine Zo ?_
     refine YH ?_
     have key2:∀ (n k:Nat),(m.fields.length) - k=n→(m.fields.take k).any ZdN=false→k≤m.fields.length→ZU F [.code (ZA.l1),.inLoop ZA.l1,.inBlock 2,.inBlock 1,.code (qR ZA.r5 [1,3]),.inLoop ZA.l0,.inBlock 0,.code (.seq (qR ZA.r15 [2]) .ret)] [(1,.loc 1 0),(3,.d (.int .i64 i)),(4,.loc 4 0),(5,.d (.int .i64 k))] [(1,d.cells),(4,m.cells)] st:=by
      intro n
      induction n using Nat.strongRecOn with
      | ind n ih_key2 =>
      intro k hnk hnok hk
      refine Za (Za (Zb (Zc ?_)))
      simp only [Eqs,reduceIte,Nat.reduceEqDiff,ZA.r10,Msg.cells,Wl,slD]
      refine Zg rfl trivial (fun h4=>?_) (fun h4=>?_)
      ·simp at h4
       have hsn2:=ZjR (p:=ZdN) h4
       have hany2:=ZhC (p:=ZdN) h4
       generalize hf:m.fields.getD k default=f at *
       have hFF:=ZdN.eq_1 f
       refine Zq (Za (Zo (Za (Zb (Zc ?_)))))
       simp only [Eqs,reduceIte,Nat.reduceEqDiff,Nat.reduceAdd,Nat.reduceLeDiff,ZA.r12,Fld.cells,hf]
       repeat (refine And.intro (by first | omega | trivial | (intro h0; simp at h0; omega)) ?_)
       refine Za (Zb (Zc ?_))
       simp only [Eqs,reduceIte,Nat.reduceEqDiff,Nat.reduceAdd,ZA.r13,Kx,Y4,slD]
       refine Zg rfl trivial (fun h5=>?_) (fun h5=>?_)
       ·have h5':ZdN f=true:=by rw [hFF]; simpa [gt,Bool.or_assoc] using h5
        rw [hany2 h5'] at hM
        rw [hany hM] at hS
        refine Za (Zb (Zc ?_))
        simp only [Eqs,reduceIte,Nat.reduceEqDiff,ZA.r14]
        refine hret rfl (by first | trivial | simp) (Y1 ?_) (by first | exact St.sub_refl _ | exact ZM (by first | trivial | assumption) | assumption | exact St.sub_upd _ (by assumption))
        exact hS.symm
       ·have h5':ZdN f=false:=by rw [hFF]; simpa [gt,Bool.or_assoc] using h5
        refine Zq (ZC (Zb (Zc ?_)))
        simp only [Eqs,reduceIte,Nat.reduceEqDiff,ZA.r11]
        repeat (refine And.intro (by first | omega | trivial | (intro h0; simp at h0; omega)) ?_)
        refine Z3 ?_
        exact ih_key2 ((m.fields.length) - (k + 1)) (by omega) (k + 1) rfl (by rw [hsn2,hnok,h5']; rfl) (by omega)
      ·simp at h4
       obtain rfl:k=m.fields.length:=by omega
       rw [List.take_length] at hnok
       rw [hnok] at hM
       refine Ys rfl (ZC (Zb (Zc ?_)))
       simp only [Eqs,reduceIte,Nat.reduceEqDiff,ZA.r5]
       repeat (refine And.intro (by first | omega | trivial | (intro h0; simp at h0; omega)) ?_)
       refine Z3 ?_
       exact ih_key ((d.msgs.length) - (i + 1)) (by omega) (i + 1) rfl (by rw [hsn,hno,hM]; rfl) (by omega)
     exact key2 _ 0 rfl (by simp) (by omega)
   ·simp at h2
    obtain rfl:i=d.msgs.length:=by omega
    rw [List.take_length] at hno
    rw [hno] at hS
    refine Ys rfl (Za (Zb (Zc ?_)))
    simp only [Eqs,reduceIte,Nat.reduceEqDiff,ZA.r15]
    refine hret rfl (by first | trivial | simp) (Y1 ?_) (by first | exact St.sub_refl _ | exact ZM (by first | trivial | assumption) | assumption | exact St.sub_upd _ (by assumption))
    exact hS.symm
  exact key _ 0 rfl (by simp) (by omega)
end Go.DL
namespace Go.DL
open Go Go.Proofs
theorem Zkv (w r:Dfn) (st:St):YD Tryz.prog Z2.id [.agg w.cells,.agg r.cells] st (.tup [Qm (Zed w r),.bool true]) st:=by
 refine ZP Z2.ok fun F hF=>?_
 have hfew:=Zpe w r
 refine Za (Zb (Zc ?_))
 simp only [Eqs,reduceCtorEq,reduceIte,Nat.reduceEqDiff,Nat.reduceAdd,Z2.r0,Dfn.cells]
 refine Za (Zb (Zc ?_))
 simp only [Eqs,reduceIte,Nat.reduceEqDiff,Nat.reduceAdd,Nat.reduceLeDiff,Z2.r1]
 rw [show (D.agg [.str w.name,Kf w.msgs,.str w.start]) = .agg w.cells from rfl,show (D.agg [.str r.name,Kf r.msgs,.str r.start]) = .agg r.cells from rfl]
 refine Z6 rfl rfl rfl rfl rfl (by trivial) (by trivial) (by exact ZkE w r st) ?_ ?_
 ·rintro dv S ⟨x0,hx0,hq,rfl⟩
  cases hq
  refine Zc ?_
  simp only [Eqs,reduceIte,Nat.reduceEqDiff]
  refine Za (Za (Zb (Zc ?_)))
  simp only [Eqs,reduceIte,Nat.reduceEqDiff,Z2.r2]
  refine Zg rfl trivial (fun h=>by simp at h) (fun _=>?_)
  refine Zq (Za (Zb (Zc ?_)))
  simp only [Eqs,reduceIte,Nat.reduceEqDiff,Z2.r4]
  refine Za (Za (Zb (Zc ?_)))
  simp only [Eqs,reduceIte,Nat.reduceEqDiff,Z2.r5]
  have hit:=ZiR (Zed w r) (by unfold big; omega) x0
  have hd00:Wt st (St.single x0 (.cells [Qm (Zed w r)])):=Jc hx0
  generalize hT:St.single x0 (.cells [Qm (Zed w r)])=T at *
  generalize hl:Zed w r=l at *
  refine Zo ?_
  refine Yp 7 rfl fun x hx=>?_
  simp only [reduceIte,Nat.reduceEqDiff,Yz,Wi,delL]
  have hx1:st x=none:=by
   cases h:st x with
   | none=>rfl
   | some o=>rw [Ya h] at hx; simp at hx
  have hx2:T x=none:=by rw [Yr hx1] at hx; exact hx
  rw [Jt]
  refine QO (b:=x) (Ya (St.upd_same _ _ _)) (.cons (K9 (t:=.full) (s:=2) (row:=fun _=>[]) (fun b h=>by cases h)) .nil) ?_
  rw [Jt,St.upd_upd]
  have hok0:ZbC st x .full:=⟨hx1,trivial,fun _=>hx1⟩
  have hd0:Wt (Js st x .full (0 * 2) (.cells [.sl .full 0 2 fun _=>[]])) T:=fun b o hb=>by
   have hbx:b≠x:=fun e=>by rw [e,hx2] at hb; simp at hb
   unfold Js
   rw [St.upd_ne _ _ hbx]; exact hd00 b o hb
  rw [show st.upd x (.cells [.sl .full 0 2 fun _=>[]])=Js st x .full (0 * 2) (.cells [.sl .full 0 2 fun _=>[]]) from rfl]
  refine ZaK hF rfl trivial [7] (by show ([7]:List Nat).Nodup; decide) hd0 hit (fun j hj=>rfl) (fun _=>.next)
   (fun j a=>∃ tk row,ZbC st x tk∧We Dif.cells row (l.take j)∧a=Js st x tk (j * 2) (.cells [.sl tk j 2 row])) ⟨.full,_,hok0,We.nil,rfl⟩ ?_ ?_ ?_ ?_ ?_ ?_
  ·rintro j a hj hno ⟨tk,row,hok,hrow,rfl⟩ F' ready busy hdr hbeg hend
   simp only [Eqs,reduceIte,Nat.reduceEqDiff,Jw,Zab,Za9,JH,List.isEmpty_nil]
   refine Za (Zb (Zc ?_))
   simp only [Eqs,reduceIte,Nat.reduceEqDiff,Z2.r6]
   refine Zb (Zc ?_)
   simp only [Eqs,reduceIte,Nat.reduceEqDiff,Nat.reduceAdd,Nat.reduceLeDiff,Z2.r7,Dif.cells]
   refine hbeg fun hdb=>?_
   have gx:((Js st x tk (j * 2) (.cells [.sl tk j 2 row])).or busy) x=some (.cells [.sl tk j 2 row]):=Ya (St.upd_same _ _ _)
   refine Zo (Za (Za (Zb (Zc ?_))))
   simp only [Eqs,reduceIte,Nat.reduceEqDiff,Z2.r8,gx]
   refine Zg rfl trivial (fun h=>by simp at h) (fun _=>?_)
   refine Zq (Zb (Zc ?_))
   simp only [Eqs,reduceIte,Nat.reduceEqDiff,Nat.reduceAdd,Nat.reduceLeDiff,Z2.r10,gx]
   refine ZcQ (_) (tk) rfl rfl rfl rfl rfl rfl (by trivial) (by trivial) hok.form (hok.okf hdb) (by omega) (by (unfold big; omega)) fun t1 ht1=>Zc ?_
   simp only [Eqs,reduceIte,Nat.reduceEqDiff,Nat.reduceLeDiff,(hok.next hdb ht1).2.1,(hok.next hdb ht1).2.2.1]
   refine ZC ?_
   have hnx:=hok.next hdb ht1
   have htk:=WL hj
   exact hend.fin (a:=Js st x t1 ((j + 1) * 2) (.cells [.sl t1 (j + 1) 2 (K0 j row (Wu [.str [],.int .i64 0] ([0].zip [.agg [.str (l.getD j default).path,.int .i64 (l.getD j default).code]])))])) ⟨rfl,t1,_,hnx.1,by rw [htk]; exact hrow.snoc (x:=l.getD j default) rfl (by simp; omega),rfl⟩ (hnx.2.2.2 _ _) (St.sub_refl _)
  ·rintro q a hno ⟨tk,row,hok,hrow,rfl⟩ hq
   rw [List.take_length] at hrow
   rw [Q6 hq]
   have gx:((Js st x tk (l.length * 2) (.cells [.sl tk l.length 2 row])).or (St.single q .dfr)) x=some (.cells [.sl tk l.length 2 row]):=Ya (St.upd_same _ _ _)
   refine ZC (Za (Zb (Zc ?_)))
   simp only [Eqs,reduceIte,Nat.reduceEqDiff,Nat.reduceLeDiff,Z2.r11,gx]
   refine hF.ret1 hq _ st rfl (by trivial) (Zdc rfl (.cons (hrow.le rfl) (LeC.refl _))) (St.sub_trans (ZM hok.ot) (St.sub_upd _ (hok.xt _))) ⟨rfl,rfl⟩
  ·intro q a m hm hno hgo; simp at hgo
  ·intro q a m id hm hno hgo; simp at hgo
  ·intro q a m d hm hno hgo; simp at hgo
  ·intro m c hgo; simp at hgo
 ·rintro dv S ⟨x0,hx0,hq,_⟩
  cases hq
end Go.DL
namespace Go.DL
open Go Go.Proofs
def Zjo:Fld:=⟨[99],1,8,false,false,0,0,⟨0,[]⟩,[],[],[],[],0,0⟩
def ZgE:Dfn:=⟨[100],[⟨[109],[Zb2 3 8,Zb7 0,Zjo]⟩],[109]⟩
def knW:Dfn:=ZhV 3 8 0
def knR:Dfn:=ZhV 7 8 0
theorem kn1:WY knW knR=true:=by decide +kernel
theorem kn2:J2 knW knR=0:=by decide +kernel
theorem kn3:WY knR knW=false:=by decide +kernel
theorem kn4:J2 knR knW=0:=by decide +kernel
theorem kn5:YU knR=true:=by decide +kernel
theorem kn6:YU knW=true:=by decide +kernel
theorem kn7:KA knR knW=[⟨[110],6⟩]:=by decide +kernel
theorem kn8:Zed knW (ZhV 3 16 1)=[⟨[110],5⟩,⟨[98],8⟩]:=by decide +kernel
theorem kn9:YU ZgE=true:=by decide +kernel
theorem Zq8:KA knW ZgE=[⟨[],2⟩]:=by decide +kernel
theorem Zq6:Zpz [knW,knR,knW]=1:=by decide +kernel
theorem Zra:ZoK [knW,knR,knW]=0:=by decide +kernel
theorem knF:ZdE knR knW = .tup [.agg [.str [110],.int .i64 6],.bool true,.int .i64 0]:=by
 unfold ZdE; rw [kn5,kn6,kn7]; rfl
theorem knG:ZdE knW ZgE = .tup [.agg [.str [],.int .i64 2],.bool true,.int .i64 0]:=by
 unfold ZdE; rw [kn9,kn6,Zq8]; rfl
theorem Zqc:LeC [.str [99],.int .i64 1,.int .i64 8,.bool false,.bool false,.int .i64 0,.int .i64 0,.int .i64 0,.nilsl,.str [],.str [],.str [],.nilsl,.int .i64 0,.int .i64 0] Zjo.cells:=by
 have h:∀ (n:Nat) (row:Nat→List D),D.nilsl.Le (.sl .none 0 n row):=fun n row=>K9 fun b h=>by cases h
 exact .cons (D.Le.refl _) (.cons (D.Le.refl _) (.cons (D.Le.refl _) (.cons (D.Le.refl _) (.cons (D.Le.refl _) (.cons (D.Le.refl _) (.cons (D.Le.refl _) (.cons (D.Le.refl _) (.cons (h _ _) (.cons (D.Le.refl _) (.cons (D.Le.refl _) (.cons (D.Le.refl _) (.cons (h _ _) (.cons (D.Le.refl _) (.cons (D.Le.refl _) .nil))))))))))))))
theorem ZpW (d:Dfn):d.cells.length=3:=rfl
theorem Qu (d:Dfn):D.agg [.str d.name,Kf d.msgs,.str d.start] = .agg d.cells:=rfl
theorem Zeu:Yk Tryz.prog ZT.id [] (.bool true):=by
 refine YR ZT.ok fun F st hret=>?_
 refine Za (Zb (Zc ?_))
 simp only [Eqs,ZT.r0]
 refine Za (Zb (Zc ?_))
 simp only [Eqs,ZT.r1]
 refine YF rfl rfl rfl rfl rfl (by trivial) (by trivial) (by exact ZbB 3 8 0 _) (Zc ?_)
 simp only [Eqs]
 refine YF rfl rfl rfl rfl rfl (by trivial) (by trivial) (by exact ZbB 7 8 0 _) (Zc ?_)
 simp only [Eqs,reduceIte,Nat.reduceEqDiff,Nat.reduceAdd,Nat.reduceLeDiff,ZpW]
 rw [show ZhV 3 8 0=knW from rfl,show ZhV 7 8 0=knR from rfl]
 refine Za (Zb (Zc ?_))
 simp only [Eqs,reduceIte,Nat.reduceEqDiff,Nat.reduceAdd,Nat.reduceLeDiff,ZT.r2,Dfn.cells]
 rw [Qu,Qu]
 refine YF rfl rfl rfl rfl rfl (by trivial) (by trivial) (by exact Qx knW knR _) (Zc ?_)
 simp only [Eqs,reduceIte,Nat.reduceEqDiff]
 refine Za (Zb (Zc ?_))
 simp only [Eqs,reduceIte,Nat.reduceEqDiff,Nat.reduceAdd,Nat.reduceLeDiff,ZT.r3]
 rw [Qu,Qu]
 refine YF rfl rfl rfl rfl rfl (by trivial) (by trivial) (by exact Qx knR knW _) (Zc ?_)
 simp only [Eqs,reduceIte,Nat.reduceEqDiff]
 refine Za (Zb (Zc ?_))
 simp only [Eqs,reduceIte,Nat.reduceEqDiff,Nat.reduceAdd,Nat.reduceLeDiff,ZT.r4]
 rw [Qu,Qu]
 refine YF rfl rfl rfl rfl rfl (by trivial) (by trivial) (by exact knF ▸ Zbz knR knW _) (Zc ?_)
 simp only [Eqs,reduceIte,Nat.reduceEqDiff,Nat.reduceAdd,Nat.reduceLeDiff]
 rw [kn1,kn2,kn3,kn4]
 refine Za (Wy (ZO ?_))
 simp only [Eqs,reduceIte,Nat.reduceEqDiff,Nat.reduceAdd,Nat.reduceLeDiff,ZT.r5]
 rw [Qu]
 refine Zbx rfl rfl rfl rfl rfl (by trivial) (by trivial) (by exact ZbB 3 16 1 _) (by first | trivial | exact ⟨rfl,trivial⟩ | simp [KO,QG]) (ZO ?_)
 simp only [Eqs,reduceIte]
 refine Zbx rfl rfl rfl rfl rfl (by trivial) (by trivial) (by exact Zkv knW (ZhV 3 16 1) _) (by first | trivial | exact ⟨rfl,trivial⟩ | simp [KO,QG]) (ZO ?_)
 simp only [Eqs,reduceIte,Nat.reduceEqDiff]
 rw [kn8]
 refine Za (Za (Zb (Zc ?_)))
 simp only [Eqs,reduceIte,Nat.reduceEqDiff,ZT.r6]
 refine YS rfl rfl rfl rfl rfl (by trivial) (by trivial) (by exact Qq _) (Zc ?_)
 simp only [Eqs,reduceIte,Nat.reduceEqDiff]
 refine YS rfl rfl rfl rfl rfl (by trivial) (by trivial) (by exact Qq _) (Zc ?_)
 simp only [Eqs,reduceIte,Nat.reduceEqDiff]
 repeat (refine And.intro (by decide) ?_)
 refine YS rfl rfl rfl rfl rfl (by trivial) (by trivial) (by exact Qq _) (Zc ?_)
 simp only [Eqs,reduceIte,Nat.reduceEqDiff,Nat.reduceAdd,Nat.reduceLeDiff]
 repeat (refine And.intro (by decide) ?_)
 refine YS rfl rfl rfl rfl rfl (by trivial) (by trivial) (by exact (Yk.leA (LeC.two (D.Le.refl _) ((ZfK (f:=Dif.cells) (x:=⟨[110],5⟩) (y:=⟨[98],8⟩) rfl rfl).le rfl)) (ZkC [⟨[110],5⟩,⟨[98],8⟩] _))) (Zc ?_)
 simp only [Eqs,reduceIte,Nat.reduceEqDiff]
 refine Zg rfl trivial (fun h=>by simp at h) (fun _=>?_)
 refine Zq ?_
 refine Za (Zb (Zc ?_))
 simp only [Eqs,ZT.r8]
 refine Z6 rfl rfl rfl rfl rfl (by trivial) (by trivial) (by exact ZjM 3 8 0 _) ?_ ?_
 ·rintro dv S ⟨b,hb,hq,rfl⟩
  cases hq
  refine Zc ?_
  simp only [Eqs,reduceIte,Nat.reduceEqDiff,Nat.reduceAdd,Nat.reduceLeDiff]
  refine Za (Wy (ZO ?_))
  simp only [Eqs,reduceIte,Nat.reduceEqDiff,Nat.reduceAdd,Nat.reduceLeDiff,ZT.r9,St.upd_same,Nat.zero_mul]
  refine ⟨by decide,by decide,?_⟩
  have gb:(st.upd b (.cells [.str [109],.sl .full 2 15 fun i=>((Zfe 3 8 0).fields.getD i default).cells])) b=some (.cells [.str [109],.sl .full 2 15 fun i=>((Zfe 3 8 0).fields.getD i default).cells]):=St.upd_same _ _ _
  generalize hS0:st.upd b (.cells [.str [109],.sl .full 2 15 fun i=>((Zfe 3 8 0).fields.getD i default).cells])=S0 at *
  refine Zmo (S0) (.full) rfl rfl rfl rfl rfl rfl (by trivial) (by trivial) rfl trivial (by decide) (by (unfold big; decide)) fun t1 ht1=>⟨by exact ⟨(ZgU ht1 gb).trans gb.symm,rfl,rfl,trivial⟩,ZO ?_⟩
  simp only [Eqs,reduceIte,Nat.reduceEqDiff,Nat.reduceAdd,Nat.reduceLeDiff,ZgU ht1 gb,Nat.zero_mul]
  refine ⟨by decide,by decide,?_⟩
  have hfl:(D.sl t1 3 15 (K0 2 (fun i=>((Zfe 3 8 0).fields.getD i default).cells) (Wu [.str [],.int .i64 0,.int .i64 0,.bool false,.bool false,.int .i64 0,.int .i64 0,.int .i64 0,.nilsl,.str [],.str [],.str [],.nilsl,.int .i64 0,.int .i64 0]
    ([0].zip [.agg [.str [99],.int .i64 1,.int .i64 8,.bool false,.bool false,.int .i64 0,.int .i64 0,.int .i64 0,.nilsl,.str [],.str [],.str [],.nilsl,.int .i64 0,.int .i64 0]])))).Le (Wl [Zb2 3 8,Zb7 0,Zjo]):=by
   refine D.Le.trans (Zfy (row':=fun i=>([Zb2 3 8,Zb7 0,Zjo].getD i default).cells) fun i hi=>?_) ZgW
   match i,hi with
   | 0,_=>exact LeC.refl _
   | 1,_=>exact LeC.refl _
   | 2,_=>exact Zqc
  refine QO (b:=b) (St.upd_same _ _ _) (.cons (D.Le.refl _) (.cons hfl .nil)) ?_
  rw [St.upd_upd]
  refine Zlh [b] (fun c hc=>by rw [List.mem_singleton.1 hc]; exact ⟨_,St.upd_same _ _ _⟩) (ρ':=[(1,.loc 1 0),(2,.loc 2 0),(12,.loc 12 0)]) (L':=[(1,knW.cells),(2,knR.cells),(12,ZgE.cells)]) (LdE.refl _)
   (.cons (LdC.refl _) (.cons (LdC.refl _) (.cons (.cons (ZcX.refl _) (.cons (ZcX.msl (ds:=[.str [109],Wl [Zb2 3 8,Zb7 0,Zjo]]) (row:=fun i=>(ZgE.msgs.getD i default).cells) (List.mem_singleton.2 rfl) ?_ ?_ ?_) (.cons (ZcX.refl _) .nil))) .nil))) ?_
  ·exact St.upd_same _ _ _
  ·decide
  ·intro i hi
   obtain rfl:i=0:=by omega
   exact LdC.refl _
  refine Qy (s':=st) (fun c o hc=>?_) ?_
  ·have hcb:c≠b:=fun e=>by rw [e,hb] at hc; simp at hc
   have h1:S0 c=some o:=by rw [← hS0,St.upd_ne _ _ hcb]; exact hc
   simp only [St.delL,List.mem_singleton,hcb,if_false]
   rw [St.upd_ne _ _ hcb]; exact ZgU ht1 h1
  refine Za (Zb (Zc ?_))
  simp only [Eqs,reduceIte,Nat.reduceEqDiff,Nat.reduceAdd,Nat.reduceLeDiff,ZT.r10,Dfn.cells]
  rw [Qu,Qu]
  refine YF rfl rfl rfl rfl rfl (by trivial) (by trivial) (by exact knG ▸ Zbz knW ZgE _) (Zc ?_)
  simp only [Eqs,reduceIte,Nat.reduceEqDiff,Nat.reduceAdd,Nat.reduceLeDiff]
  refine Za (Zb (Zc ?_))
  simp only [Eqs,reduceIte,Nat.reduceEqDiff,Nat.reduceAdd,Nat.reduceLeDiff,ZT.r11]
  have hl3:(D.sl .full 3 3 (Wu [.str [],.nilsl,.str []] ([0,1,2].zip [.agg knW.cells,.agg knR.cells,.agg knW.cells]))).Le (Zaq [knW,knR,knW]):=by
   refine D.Le.trans (Zfy (row':=fun i=>([knW,knR,knW].getD i default).cells) fun i hi=>?_) ZgW
   match i,hi with
   | 0,_=>exact LeC.refl _
   | 1,_=>exact LeC.refl _
   | 2,_=>exact LeC.refl _
  refine YF rfl rfl rfl rfl rfl (by trivial) (by trivial) (by exact (YD.leA (LeC.one hl3) (ZhN [knW,knR,knW] (by decide) _))) (Zc ?_)
  simp only [Eqs,reduceIte,Nat.reduceEqDiff]
  rw [Zq6,Zra]
  refine Za (Zb (Zc ?_))
  simp only [Eqs,reduceIte,Nat.reduceEqDiff,Nat.reduceAdd,Nat.reduceLeDiff,ZT.r12]
  refine YS rfl rfl rfl rfl rfl (by trivial) (by trivial) (by exact Qq _) (Zc ?_)
  simp only [Eqs,reduceIte,Nat.reduceEqDiff]
  refine YS rfl rfl rfl rfl rfl (by trivial) (by trivial) (by exact Qq _) (Zc ?_)
  simp only [Eqs,reduceCtorEq,reduceIte,Nat.reduceEqDiff]
  repeat (refine And.intro (by decide) ?_)
  exact hret rfl (by trivial) (D.Le.refl _) (St.sub_refl _)
 ·rintro dv S ⟨b,hb,hq,_⟩
  cases hq
end Go.DL
namespace Go.DL
open Go Go.Proofs
theorem ZeN (a b c:Dfn) (hrefl:J2 a a=0→WY a a=true) (htrans:WY a b=true→WY b c=true→WY a c=true):Yk Tryz.prog ZE.id [.agg a.cells,.agg b.cells,.agg c.cells] (.bool true):=by
 refine YR ZE.ok fun F st hret=>?_
 refine Za (Zb (Zc ?_))
 simp only [Eqs,reduceCtorEq,reduceIte,Nat.reduceEqDiff,Nat.reduceAdd,ZE.r0,Dfn.cells]
 refine Za (Za (Zb (Zc ?_)))
 simp only [Eqs,reduceIte,Nat.reduceEqDiff,Nat.reduceAdd,Nat.reduceLeDiff,ZE.r1]
 rw [Qu]
 refine YS rfl rfl rfl rfl rfl (by trivial) (by trivial) (by exact Zcg a) (Zc ?_)
 simp only [Eqs,reduceIte,Nat.reduceEqDiff,Nat.reduceAdd,Nat.reduceLeDiff]
 rw [Qu]
 refine JI rfl rfl rfl rfl rfl (fun hcg=>⟨by first | trivial | (simpa [Zan] using hcg),trivial,Zcg b⟩) (Zc ?_)
 simp only [Eqs,reduceIte,Nat.reduceEqDiff,Nat.reduceAdd,Nat.reduceLeDiff]
 rw [Qu]
 refine JI rfl rfl rfl rfl rfl (fun hcg=>⟨by first | trivial | (simpa [Zan] using hcg),trivial,Zcg c⟩) (Zc ?_)
 simp only [Eqs,reduceIte,Nat.reduceEqDiff]
 refine Zg rfl trivial (fun h1=>?_) (fun h1=>?_)
 ·refine Za (Zb (Zc ?_))
  simp only [Eqs,ZE.r2]
  refine YS rfl rfl rfl rfl rfl (by trivial) (by trivial) (by exact Zeu) (Zc ?_)
  simp only [Eqs,reduceIte,Nat.reduceEqDiff]
  exact hret rfl (by trivial) (D.Le.refl _) (St.sub_refl _)
 ·refine Zq ?_
  refine Za (Zb (Zc ?_))
  simp only [Eqs,reduceIte,Nat.reduceEqDiff,Nat.reduceAdd,Nat.reduceLeDiff,ZE.r3]
  rw [Qu]
  refine YF rfl rfl rfl rfl rfl (by trivial) (by trivial) (by exact Qx a a _) (Zc ?_)
  simp only [Eqs,reduceIte,Nat.reduceEqDiff]
  refine Za (Zb (Zc ?_))
  simp only [Eqs,reduceIte,Nat.reduceEqDiff,Nat.reduceAdd,Nat.reduceLeDiff,ZE.r4]
  rw [Qu,Qu]
  refine YF rfl rfl rfl rfl rfl (by trivial) (by trivial) (by exact Qx a b _) (Zc ?_)
  simp only [Eqs,reduceIte,Nat.reduceEqDiff]
  refine Za (Zb (Zc ?_))
  simp only [Eqs,reduceIte,Nat.reduceEqDiff,Nat.reduceAdd,Nat.reduceLeDiff,ZE.r5]
  rw [Qu,Qu]
  refine YF rfl rfl rfl rfl rfl (by trivial) (by trivial) (by exact Qx b c _) (Zc ?_)
  simp only [Eqs,reduceIte,Nat.reduceEqDiff]
  refine Za (Zb (Zc ?_))
  simp only [Eqs,reduceIte,Nat.reduceEqDiff,Nat.reduceAdd,Nat.reduceLeDiff,ZE.r6]
  rw [Qu,Qu]
  refine YF rfl rfl rfl rfl rfl (by trivial) (by trivial) (by exact Qx a c _) (Zc ?_)
  simp only [Eqs,reduceIte,Nat.reduceEqDiff]
  refine Za (Za (Zb (Zc ?_)))
  simp only [Eqs,reduceIte,Nat.reduceEqDiff,ZE.r7]
  refine YS rfl rfl rfl rfl rfl (by trivial) (by trivial) (by exact Qq _) (Zc ?_)
  simp only [Eqs,reduceIte,Nat.reduceEqDiff]
  have hno:(decide (J2 a a=0) && !WY a a)=false:=by
   by_cases he:J2 a a=0
   ·rw [hrefl he]; simp
   ·rw [decide_eq_false he]; rfl
  refine Zg rfl trivial (fun h=>by (rw [hno] at h; simp at h)) (fun _=>?_)
  refine Zq ?_
  refine Za (Zb (Zc ?_))
  simp only [Eqs,reduceIte,Nat.reduceEqDiff,ZE.r9]
  refine YS rfl rfl rfl rfl rfl (by trivial) (by trivial) (by exact Qq _) (Zc ?_)
  simp only [Eqs,reduceIte,Nat.reduceEqDiff]
  refine YS rfl rfl rfl rfl rfl (by trivial) (by trivial) (by exact Qq _) (Zc ?_)
  simp only [Eqs,reduceIte,Nat.reduceEqDiff]
  have hab:=Zez a b
  have hbc:=Zez b c
  have hac:=Zez a c
  refine ⟨by omega,by omega,?_⟩
  refine YS rfl rfl rfl rfl rfl (by trivial) (by trivial) (by exact Qq _) (Zc ?_)
  simp only [Eqs,reduceIte,Nat.reduceEqDiff]
  refine ⟨by omega,by omega,?_⟩
  have hfin:(!decide (J2 a b + J2 b c + J2 a c=0) || !WY a b || !WY b c || WY a c)=true:=by
   cases h1:WY a b <;> cases h2:WY b c <;> simp [h1]
   exact .inr (htrans h1 h2)
  refine JI rfl rfl rfl rfl rfl (fun hcg=>⟨by first | trivial | (simpa [Zan] using hcg),trivial,Zeu⟩) (Zc ?_)
  simp only [Eqs,reduceIte,Nat.reduceEqDiff,hfin]
  exact hret rfl (by trivial) (D.Le.refl _) (St.sub_refl _)
end Go.DL
namespace Go.DL
open Go Go.Proofs
structure ZgH (m:Msg) (f g:Fld):Prop where
 name:f.name=g.name
 kind:f.kind=g.kind
 lay:Zbt f g=false
 span:Zdi f g=false
 loose:f.loose=true→g.loose=true
 size:ZbI f.size g.size=true
 tag:f.tag=g.tag
 from_:f.from_=g.from_
 of:Qa m f=true→f.of=g.of
 cov:∀ c∈f.cases,Y3 c c.low g.cases=true
theorem Zpi {m:Msg} {f g:Fld} (h:Ji m f g=0):ZgH m f g:=by
 unfold Ji at h
 split at h; · omega
 rename_i h1
 split at h; · omega
 rename_i h2
 split at h; · omega
 rename_i h3
 split at h; · omega
 rename_i h4
 split at h; · omega
 rename_i h5
 split at h; · omega
 rename_i h6
 split at h; · omega
 rename_i h7
 split at h; · omega
 rename_i h8
 split at h
 ·rename_i h9
  simp only [Bool.or_eq_true,not_or,Bool.not_eq_true,Bool.not_eq_false',decide_eq_true_eq] at h7
  refine ⟨by simpa using h1,by simpa using h2,by simpa using h3,by simpa using h4,fun hl=>?_,by simpa using h6,h7.1,h7.2,fun hi=>?_,fun c hx=>List.all_eq_true.1 h9 c hx⟩
  ·rw [hl] at h5; simpa using h5
  ·rw [hi] at h8; simpa using h8
 ·omega
theorem ZgH.zero {m:Msg} {f g:Fld} (h:ZgH m f g):Ji m f g=0:=by
 unfold Ji
 rw [if_neg (by simp [h.name]),if_neg (by simp [h.kind]),if_neg (by simp [h.lay]),if_neg (by simp [h.span]),if_neg (by
  cases hl:f.loose
  ·simp
  ·simp [h.loose hl]),if_neg (by simp [h.size]),if_neg (by simp [h.tag,h.from_]),if_neg (by
  cases hi:Qa m f
  ·simp
  ·simp [h.of hi]),if_pos (List.all_eq_true.2 h.cov)]
theorem ZgR {f g:Fld}:Zbt f g=false↔f.bits=g.bits∧f.little=g.little∧f.check=g.check∧f.key=g.key∧(f.kind=5→f.low=g.low):=by
 unfold Zbt
 simp only [Bool.or_eq_false_iff,Bool.not_eq_false',decide_eq_true_eq,Bool.and_eq_false_iff,decide_eq_false_iff_not]
 constructor
 ·rintro ⟨h1,h2,h3,h4,h5⟩
  exact ⟨h1,h2,h3,h4,fun hk=>h5.elim (fun h=>absurd hk h) id⟩
 ·rintro ⟨h1,h2,h3,h4,h5⟩
  refine ⟨h1,h2,h3,h4,?_⟩
  by_cases hk:f.kind=5
  ·exact .inr (h5 hk)
  ·exact .inl hk
theorem Zdx {f g:Fld}:Zdi f g=false↔(f.kind=2→f.low=g.low)∧(f.kind=1∨f.kind=3→g.low≤f.low∧f.high≤g.high)∧(f.kind=5∨f.kind=6→f.high≤g.high):=by
 unfold Zdi
 simp only [Bool.or_eq_false_iff,Bool.and_eq_false_iff,Bool.not_eq_false',decide_eq_true_eq,decide_eq_false_iff_not]
 constructor
 ·rintro ⟨h1,h2,h3⟩
  refine ⟨fun hk=>?_,fun hk=>?_,fun hk=>?_⟩
  ·rcases h1 with h1 | h1
   ·exact absurd hk h1
   ·exact h1
  ·rcases h2 with h2 | h2
   ·omega
   ·omega
  ·rcases h3 with h3 | h3
   ·omega
   ·omega
 ·rintro ⟨h1,h2,h3⟩
  refine ⟨?_,?_,?_⟩
  ·by_cases hk:f.kind=2
   ·exact .inr (h1 hk)
   ·exact .inl hk
  ·by_cases hk:f.kind=1∨f.kind=3
   ·have:=h2 hk; right; omega
   ·left; omega
  ·by_cases hk:f.kind=5∨f.kind=6
   ·have:=h3 hk; right; omega
   ·left; omega
theorem ZmB {c:Y9} {l:List Y9}:∀ {v:Int},Y3 c v l=true→∀ u,v≤u→u≤c.high→∃ x∈l,Zh9 c u x:=by
 induction l with
 | nil=>intro v h; simp [Y3] at h
 | cons x r ih =>
  intro v h u h1 h2
  simp only [Y3] at h
  split at h
  ·rename_i hx
   simp only [Bool.and_eq_true,decide_eq_true_eq] at hx
   by_cases hu:u≤x.high
   ·exact ⟨x,List.mem_cons_self ..,by omega,hu,hx.2.2⟩
   ·split at h
    ·omega
    ·obtain ⟨y,hy,hh⟩:=ih h u (by omega) h2
     exact ⟨y,List.mem_cons_of_mem _ hy,hh⟩
  ·obtain ⟨y,hy,hh⟩:=ih h u h1 h2
   exact ⟨y,List.mem_cons_of_mem _ hy,hh⟩
theorem Zc7 {c:Y9}:∀ {l:List Y9} {v:Int},l.Pairwise (fun x y=>x.high < y.low)→(∀ x∈l,x.low≤x.high)→v≤c.high→(∀ u,v≤u→u≤c.high→∃ x∈l,Zh9 c u x)→Y3 c v l=true
 | [],v,_,_,hv,h=>by obtain ⟨x,hx,_⟩:=h v (by omega) hv; simp at hx
 | x :: r,v,hp,hn,hv,h=>by
  rw [List.pairwise_cons] at hp
  simp only [Y3]
  by_cases hx:Zh9 c v x
  ·rw [if_pos (by simp only [Bool.and_eq_true,decide_eq_true_eq]; exact hx)]
   split
   ·rfl
   ·refine Zc7 hp.2 (fun y hy=>hn y (List.mem_cons_of_mem _ hy)) (by omega) fun u hu1 hu2=>?_
    obtain ⟨h1,h2,h3⟩:=hx
    obtain ⟨y,hy,hh⟩:=h u (by omega) hu2
    rcases List.mem_cons.1 hy with rfl | hy
    ·have:=hh.2.1; omega
    ·exact ⟨y,hy,hh⟩
  ·rw [if_neg (by simp only [Bool.and_eq_true,decide_eq_true_eq]; exact hx)]
   obtain ⟨y0,hy0,hh0⟩:=h v (by omega) hv
   have hy0':y0∈r:=by
    rcases List.mem_cons.1 hy0 with rfl | hy0
    ·exact absurd hh0 hx
    ·exact hy0
   refine Zc7 hp.2 (fun y hy=>hn y (List.mem_cons_of_mem _ hy)) hv fun u hu1 hu2=>?_
   obtain ⟨y,hy,hh⟩:=h u hu1 hu2
   rcases List.mem_cons.1 hy with rfl | hy
   ·have h1:=hp.1 y0 hy0'
    have h2:=hn y (List.mem_cons_self ..)
    have:=hh0.1
    have:=hh.2.1
    omega
   ·exact ⟨y,hy,hh⟩
theorem Srt.pair {l:List Y9} (h:Srt l):l.Pairwise (fun x y=>x.high < y.low):=by
 rw [List.pairwise_iff_getElem]
 intro i j hi hj hij
 have:=h.ord i j hij hj
 simpa [List.getD,hi,hj] using this
theorem Srt.nes {l:List Y9} (h:Srt l):∀ x∈l,x.low≤x.high:=fun x hx=>by
 obtain ⟨i,hi,rfl⟩:=List.getElem_of_mem hx
 have:=h.ne i hi
 simpa [List.getD,hi] using this
theorem Zpp {c:Y9} {l:List Y9} (hs:Srt l) (hc:c∈l):Y3 c c.low l=true :=
 Zc7 hs.pair hs.nes (hs.nes c hc) fun u h1 h2=>⟨c,hc,h1,h2,rfl⟩
theorem Zof {c:Y9} {l l2:List Y9} (hs:Srt l2) (hc:c.low≤c.high) (h:Y3 c c.low l=true) (h2:∀ x∈l,Y3 x x.low l2=true):Y3 c c.low l2=true :=
 Zc7 hs.pair hs.nes hc fun u hu1 hu2=>by
  obtain ⟨x,hx,hh⟩:=ZmB h u hu1 hu2
  obtain ⟨y,hy,hg⟩:=ZmB (h2 x hx) u hh.1 hh.2.1
  exact ⟨y,hy,hg.1,hg.2.1,hg.2.2.trans hh.2.2⟩
def Zfg (w r:Dfn) (R:Int × Int→Prop) (m:Msg) (f g:Fld):Prop :=
 Ji m f g=0∧(Qa m f=true→R (ZK w f.of w.msgs.length,ZK r g.of r.msgs.length))∧∀ c∈f.cases,R (ZK w c.of w.msgs.length,ZK r c.of r.msgs.length)
def ZbL (w r:Dfn) (R:Int × Int→Prop) (p:Int × Int):Prop :=
 (w.msgs.getD p.1.toNat default).fields.length=(r.msgs.getD p.2.toNat default).fields.length ∧
  ∀ x∈(w.msgs.getD p.1.toNat default).fields.zip (r.msgs.getD p.2.toNat default).fields,Zfg w r R (w.msgs.getD p.1.toNat default) x.1 x.2
theorem Zfg.mono {w r:Dfn} {R R':Int × Int→Prop} {m:Msg} {f g:Fld} (h:Zfg w r R m f g) (hr:∀ p,R p→R' p):Zfg w r R' m f g:=⟨h.1,fun hi=>hr _ (h.2.1 hi),fun c hc=>hr _ (h.2.2 c hc)⟩
theorem ZbL.mono {w r:Dfn} {R R':Int × Int→Prop} {p:Int × Int} (h:ZbL w r R p) (hr:∀ p,R p→R' p):ZbL w r R' p:=⟨h.1,fun x hx=>(h.2 x hx).mono hr⟩
theorem ZhE {rec:Prs→Str→Str→Str→Prs × List Dif} {at_:Str}:∀ {l:List Y9} {p:Prs},(∀ c∈l,∀ p s,(rec p c.of c.of s).2=[])→(W2 rec at_ p l).2=[]
 | [],p,_=>rfl
 | c :: l,p,h=>by
  simp only [W2,JS]
  rw [h c (List.mem_cons_self ..),ZhE fun c hc=>h c (List.mem_cons_of_mem _ hc)]; rfl
theorem Zf1 {w r:Dfn} {R:Int × Int→Prop} (hR:∀ p,R p→ZbL w r R p):∀ (n:Nat) (p:Prs) (a b path:Str),R (ZK w a w.msgs.length,ZK r b r.msgs.length)→(YE w r n p a b path).2=[]
 | 0,p,a,b,path,_=>rfl
 | n + 1,p,a,b,path,h=>by
  simp only [YE]
  split
  ·rfl
  ·have hg:=hR _ h
   have hg1:(w.msgs.getD (ZK w a w.msgs.length).toNat default).fields.length=(r.msgs.getD (ZK r b r.msgs.length).toNat default).fields.length:=hg.1
   simp only [JS,if_neg (show ¬ ((w.msgs.getD (ZK w a w.msgs.length).toNat default).fields.length≠(r.msgs.getD (ZK r b r.msgs.length).toNat default).fields.length) from fun h=>h hg1),List.nil_append]
   have key:∀ (l:List (Fld × Fld)) (p:Prs),(∀ x∈l,Zfg w r R (w.msgs.getD (ZK w a w.msgs.length).toNat default) x.1 x.2)→(Wg (YE w r n) (w.msgs.getD (ZK w a w.msgs.length).toNat default) path p l).2=[]:=by
    intro l
    induction l with
    | nil=>intro p _; rfl
    | cons x l ih =>
     intro p hx
     have h1:=hx x (List.mem_cons_self ..)
     simp only [Wg,JS]
     rw [ih _ fun y hy=>hx y (List.mem_cons_of_mem _ hy),List.append_nil]
     unfold Jp
     rw [if_neg (fun h=>h h1.1)]
     simp only [JS]
     have h2:(if Qa (w.msgs.getD (ZK w a w.msgs.length).toNat default) x.1=true then YE w r n p x.1.of x.2.of (ZaS path x.1.name) else (p,[])).2=[]:=by
      split
      ·rename_i hi
       exact Zf1 hR n p _ _ _ (h1.2.1 hi)
      ·rfl
     rw [h2,ZhE fun c hc p s=>Zf1 hR n p _ _ s (h1.2.2 c hc)]; rfl
   exact key _ _ hg.2
structure Jz (w r:Dfn) (p p':Prs):Prop where
 sub:∀ q∈p,q∈p'
 good:∀ q∈p',q ∉ p→ZbL w r (·∈p') q
theorem Jz.refl {w r:Dfn} (p:Prs):Jz w r p p:=⟨fun q h=>h,fun q h h'=>absurd h h'⟩
theorem Jz.trans {w r:Dfn} {p p' p'':Prs} (h:Jz w r p p') (h':Jz w r p' p''):Jz w r p p'':=⟨fun q hq=>h'.sub q (h.sub q hq),fun q hq hn=>by
 by_cases hq':q∈p'
 ·exact (h.good q hq' hn).mono h'.sub
 ·exact h'.good q hq hq'⟩
theorem ZdT {x:Prs × List Dif} {y:Prs→Prs × List Dif} (h:(JS x y).2=[]):x.2=[]∧(y x.1).2=[]:=by
 simpa [JS] using h
theorem Zeo {w r:Dfn} {rec:Prs→Str→Str→Str→Prs × List Dif} {at_:Str}:∀ {l:List Y9} {p:Prs},(∀ c∈l,∀ p s,(rec p c.of c.of s).2=[]→Jz w r p (rec p c.of c.of s).1∧(ZK w c.of w.msgs.length,ZK r c.of r.msgs.length)∈(rec p c.of c.of s).1) →
  (W2 rec at_ p l).2=[]→Jz w r p (W2 rec at_ p l).1∧∀ c∈l,(ZK w c.of w.msgs.length,ZK r c.of r.msgs.length)∈(W2 rec at_ p l).1
 | [],p,_,_=>⟨Jz.refl p,fun c hc=>by simp at hc⟩
 | c :: l,p,h,hn=>by
  simp only [W2] at hn ⊢
  obtain ⟨h1,h2⟩:=ZdT hn
  obtain ⟨v1,m1⟩:=h c (List.mem_cons_self ..) p _ h1
  obtain ⟨v2,m2⟩:=Zeo (fun c hc=>h c (List.mem_cons_of_mem _ hc)) h2
  refine ⟨v1.trans v2,fun c' hc'=>?_⟩
  rcases List.mem_cons.1 hc' with rfl | hc'
  ·exact v2.sub _ m1
  ·exact m2 c' hc'
theorem ZdV {w r:Dfn} {rec:Prs→Str→Str→Str→Prs × List Dif} {m:Msg} {path:Str}:∀ {l:List (Fld × Fld)} {p:Prs},
  (∀ x∈l,∀ a∈Wv x.1,∀ b p s,(rec p a b s).2=[]→Jz w r p (rec p a b s).1∧(ZK w a w.msgs.length,ZK r b r.msgs.length)∈(rec p a b s).1)→(∀ x∈l,x.1.cases≠[]→x.1.kind=9) →
  (Wg rec m path p l).2=[]→Jz w r p (Wg rec m path p l).1∧∀ x∈l,Zfg w r (·∈(Wg rec m path p l).1) m x.1 x.2
 | [],p,_,_,_=>⟨Jz.refl p,fun c hc=>by simp at hc⟩
 | x :: l,p,h,hk,hn=>by
  simp only [Wg] at hn ⊢
  obtain ⟨h1,h2⟩:=ZdT hn
  have h0:=h x (List.mem_cons_self ..)
  have hx:Jz w r p (Jp rec m path p x.1 x.2).1∧Zfg w r (·∈(Jp rec m path p x.1 x.2).1) m x.1 x.2:=by
   unfold Jp at h1 ⊢
   split at h1
   ·simp at h1
   ·rename_i hd
    rw [if_neg hd]
    obtain ⟨h3,h4⟩:=ZdT h1
    have hin:Jz w r p (if Qa m x.1=true then rec p x.1.of x.2.of (ZaS path x.1.name) else (p,[])).1 ∧
      (Qa m x.1=true→(ZK w x.1.of w.msgs.length,ZK r x.2.of r.msgs.length)∈(if Qa m x.1=true then rec p x.1.of x.2.of (ZaS path x.1.name) else (p,[])).1):=by
     by_cases hi:Qa m x.1=true
     ·rw [if_pos hi] at h3 ⊢
      have:=h0 _ (ZfH hi) _ _ _ h3
      exact ⟨this.1,fun _=>this.2⟩
     ·rw [if_neg hi]
      exact ⟨Jz.refl p,fun h=>absurd h hi⟩
    obtain ⟨v2,m2⟩:=Zeo (w:=w) (r:=r) (fun c hc p s hp=>h0 _ (ZeP (hk x (List.mem_cons_self ..) (List.ne_nil_of_mem hc)) hc) _ p s hp) h4
    exact ⟨hin.1.trans v2,by simpa using hd,fun hi=>v2.sub _ (hin.2 hi),m2⟩
  obtain ⟨v2,g2⟩:=ZdV (fun y hy=>h y (List.mem_cons_of_mem _ hy)) (fun y hy=>hk y (List.mem_cons_of_mem _ hy)) h2
  refine ⟨hx.1.trans v2,fun y hy=>?_⟩
  rcases List.mem_cons.1 hy with rfl | hy
  ·exact hx.2.mono v2.sub
  ·exact g2 y hy
theorem ZgK {l l':List Fld} {x:Fld × Fld} (h:x∈l.zip l'):∃ i,i < l.length∧i < l'.length∧x.1=l.getD i default∧x.2=l'.getD i default:=by
 obtain ⟨i,hi,rfl⟩:=List.getElem_of_mem h
 rw [List.length_zip] at hi
 have h1:i < l.length:=by omega
 have h2:i < l'.length:=by omega
 exact ⟨i,h1,h2,by simp [List.getD,h1],by simp [List.getD,h2]⟩
theorem ZfV {w r:Dfn} (hw:KF w):∀ (n:Nat) (p:Prs) (a b path:Str),ZK w a w.msgs.length < n→0≤ZK w a w.msgs.length→(YE w r n p a b path).2=[] →
  Jz w r p (YE w r n p a b path).1∧(ZK w a w.msgs.length,ZK r b r.msgs.length)∈(YE w r n p a b path).1
 | 0,p,a,b,path,h,h0,_=>by omega
 | n + 1,p,a,b,path,h,h0,hn=>by
  simp only [YE] at hn ⊢
  split at hn
  ·rename_i hm
   rw [if_pos hm]
   exact ⟨Jz.refl p,hm⟩
  ·rename_i hm
   rw [if_neg hm]
   obtain ⟨h1,h2⟩:=ZdT hn
   have hlt:=(KW w a).2
   have hj:(ZK w a w.msgs.length).toNat < w.msgs.length:=by omega
   have hlen:(w.msgs.getD (ZK w a w.msgs.length).toNat default).fields.length=(r.msgs.getD (ZK r b r.msgs.length).toNat default).fields.length:=by
    by_cases he:(w.msgs.getD (ZK w a w.msgs.length).toNat default).fields.length=(r.msgs.getD (ZK r b r.msgs.length).toNat default).fields.length
    ·exact he
    ·rw [if_pos he] at h1; simp at h1
   obtain ⟨v,g⟩:=ZdV (w:=w) (r:=r) (fun x hx s hs b' p' s' hp=>by
    obtain ⟨i,hi,_,e1,_⟩:=ZgK hx
    have hf:=hw.fld hj hi
    rw [← e1] at hf
    have:=hf.ref s hs
    exact ZfV hw n p' s b' s' (by omega) this.1 hp) (fun x hx hc=>by
    obtain ⟨i,hi,_,e1,_⟩:=ZgK hx
    have hf:=hw.fld hj hi
    rw [← e1] at hf
    exact hf.cases hc) h2
   refine ⟨⟨fun q hq=>v.sub _ (List.mem_append_left _ hq),fun q hq hq'=>?_⟩,v.sub _ (List.mem_append_right _ (List.mem_singleton.2 rfl))⟩
   by_cases hq2:q∈p++[(ZK w a w.msgs.length,ZK r b r.msgs.length)]
   ·rcases List.mem_append.1 hq2 with hq3 | hq3
    ·exact absurd hq3 hq'
    ·rw [List.mem_singleton.1 hq3]
     exact ⟨hlen,g⟩
   ·exact v.good q hq hq2
end Go.DL
namespace Go.DL
open Go Go.Proofs
theorem ZmU {f:Fld} (h1:1≤f.kind) (h2:f.kind≤12) (h:ZbP f=true) (hk:f.kind≠4∧f.kind≠7∧f.kind≠12):f.size=⟨0,[]⟩:=by
 have key:∀ u,Zfp f.kind=u→ZaW u 115=false→f.size=⟨0,[]⟩:=fun u hu hs=>by
  unfold ZbP at h
  rw [hu] at h
  simp only [zrB,hs,Bool.false_or,Bool.and_eq_true,decide_eq_true_eq] at h
  exact WP.ext' h.2.1.1.1 (List.eq_nil_of_length_eq_zero h.2.1.1.2)
 have hc:f.kind=1∨f.kind=2∨f.kind=3∨f.kind=5∨f.kind=6∨f.kind=8∨f.kind=9∨f.kind=10∨f.kind=11:=by omega
 rcases hc with hk | hk | hk | hk | hk | hk | hk | hk | hk <;> exact key _ rfl (by rw [hk]; decide)
theorem ZgI {d:Dfn} {a i:Nat} {m:Msg} {f:Fld} (h:Qv d a m i f=0):(f.kind=7→Za7 (m.fields.take i) f.size=0)∧YM f.size=true∧J5 m f.name i < 0:=by
 unfold Qv at h
 split at h; · omega
 split at h; · omega
 rename_i hnf
 split at h; · omega
 rename_i hkk
 split at h; · omega
 rename_i hz
 have hkk':1≤f.kind∧f.kind≤12:=by
  simp only [Bool.or_eq_true,decide_eq_true_eq,not_or] at hkk; omega
 have hz':ZbP f=true:=by simpa using hz
 have hsv:∀ fs,Za7 fs f.size=0→YM f.size=true:=fun fs hs=>by
  unfold Za7 at hs
  cases hv:YM f.size
  ·rw [hv,if_pos rfl] at hs; omega
  ·rfl
 by_cases h4:f.kind=4
 ·unfold ZbT at h
  rw [if_neg (by omega),if_neg (by omega),if_neg (by omega),if_pos h4] at h
  exact ⟨fun h7=>by omega,hsv _ h,by omega⟩
 by_cases h7:f.kind=7
 ·unfold ZbT at h
  rw [if_neg (by omega),if_neg (by omega),if_neg (by omega),if_neg h4,if_neg (by omega),if_neg (by omega),if_pos h7] at h
  split at h; · omega
  exact ⟨fun _=>h,hsv _ h,by omega⟩
 by_cases h12:f.kind=12
 ·unfold ZbT at h
  rw [if_neg (by omega),if_neg (by omega),if_neg (by omega),if_neg h4,if_neg (by omega),if_neg (by omega),if_neg h7,if_neg (by omega),if_neg (by omega),if_neg (by omega),if_neg (by omega),if_pos h12] at h
  split at h; · omega
  split at h; · omega
  exact ⟨fun h7=>by omega,hsv _ h,by omega⟩
 ·rw [ZmU hkk'.1 hkk'.2 hz' ⟨h4,h7,h12⟩]
  exact ⟨fun h=>absurd h h7,by decide,by omega⟩
theorem Zc1.dist {d:Dfn} {j:Nat} {m:Msg} (h:Zc1 d j m):Zeg m.fields m.fields.length:=fun i hi=>(ZgI (h.field i hi)).2.2
theorem ZfG {s:Str}:∀ {l l':List Fld},l.map (·.name)=l'.map (·.name)→ZQ (fun f=>decide (f.name=s)) l=ZQ (fun f=>decide (f.name=s)) l'
 | [],[],_=>rfl
 | [],_ :: _,h=>by simp at h
 | _ :: _,[],h=>by simp at h
 | x :: l,y :: l',h=>by
  simp only [List.map_cons,List.cons.injEq] at h
  simp only [ZQ,h.1,ZfG h.2]
theorem Zor (l:List Z5) (t:Z5):(Zdt l t).Perm (t :: l):=by
 unfold Zdt
 have:=List.perm_middle (a:=t) (l₁:=l.take (Zb5 t.field l)) (l₂:=l.drop (Zb5 t.field l))
 rwa [List.take_append_drop] at this
theorem ZmG (l:List Z5):∀ a,(l.foldl Zdt a).Perm (l++a):=by
 induction l with
 | nil=>intro a; exact .refl _
 | cons t r ih =>
  intro a
  rw [List.foldl_cons]
  refine (ih _).trans ?_
  rw [List.cons_append]
  exact ((Zor a t).append_left r).trans List.perm_middle
theorem Zi2 (l:List Z5):(Zcz l).Perm l:=by
 have:=ZmG l []
 rwa [List.append_nil] at this
theorem ZoZ {look:J6} {l l':List Z5} (h:l.Perm l'):hiS look l=hiS look l':=by
 induction h with
 | nil=>rfl
 | cons x _ ih=>simp only [hiS,ih]
 | swap x y l=>simp only [hiS]; omega
 | trans _ _ h1 h2=>exact h1.trans h2
theorem Zoi {m:Msg} (hd:Zeg m.fields m.fields.length) (f:Fld):ZgD m f=(KJ f.size (Y2 m.fields)).2.1:=by
 unfold ZgD
 rw [Zd7 (look':=Y2 m.fields) fun t _=>?_]
 have h1:=Zj8 m.fields m.fields.length (Nat.le_refl _) t.field
 have h2:=ZhY (Nat.le_refl _) hd t.field
 rw [List.take_length] at h1 h2
 exact h1.trans h2
theorem ZjS {fs:List Fld} {i:Nat} {s:Str} {r:Int × Int} (h:Y2 (fs.take i) s=some r):Y2 fs s=some r:=by
 unfold Y2 at h ⊢
 split at h; · simp at h
 rename_i h0
 have h1:=ZhF (l:=fs) (n:=i) (Int.not_lt.1 h0)
 rw [h1,if_neg h0]
 have h2:=ZaF (fun f:Fld=>decide (f.name=s)) (fs.take i)
 have h3:(fs.take i).getD (ZQ (fun f=>decide (f.name=s)) (fs.take i)).toNat default=fs.getD (ZQ (fun f=>decide (f.name=s)) (fs.take i)).toNat default:=by
  rw [List.length_take] at h2
  simp only [List.getD]
  rw [List.getElem?_take,if_pos (by omega)]
 rw [h3] at h
 exact h
theorem Zlz {d:Dfn} {j i:Nat} {m:Msg} {f:Fld} (hm:Zc1 d j m) (h:Za7 (m.fields.take i) f.size=0):ZgD m f=f.size.base + hiS (Y2 m.fields) f.size.terms∧∀ t∈f.size.terms,∃ r,Y2 m.fields t.field=some r:=by
 unfold Za7 at h
 split at h; · omega
 split at h; · omega
 rename_i hnone
 split at h; · omega
 rename_i hiv
 have hsome:∀ t∈f.size.terms,∃ r,Y2 (m.fields.take i) t.field=some r:=fun t ht=>by
  have:QH (Y2 (m.fields.take i)) t=false:=by
   cases hc:QH (Y2 (m.fields.take i)) t
   ·rfl
   ·exact absurd (List.any_eq_true.2 ⟨t,ht,hc⟩) hnone
  unfold QH at this
  cases hc:Y2 (m.fields.take i) t.field with
  | none=>rw [hc] at this; simp at this
  | some r=>exact ⟨r,rfl⟩
 have hagree:∀ t∈f.size.terms,Y2 m.fields t.field=Y2 (m.fields.take i) t.field:=fun t ht=>by
  obtain ⟨r,hr⟩:=hsome t ht
  rw [hr]; exact ZjS hr
 have hie:(KJ f.size (Y2 (m.fields.take i))).2.2=0:=by
  simp only [Bool.or_eq_true,not_or,Bool.not_eq_true,Bool.not_eq_false',decide_eq_true_eq] at hiv
  exact hiv.1
 rw [Zoi hm.dist,Zd7 hagree]
 have he:ZaP f.size (Y2 (m.fields.take i))=0:=by
  unfold KJ at hie
  split at hie
  ·rename_i h0; exact h0
  ·exact hie
 rw [KJ,if_pos he]
 refine ⟨?_,fun t ht=>?_⟩
 ·show f.size.base + hiS _ _=_
  rw [(Zj7 hagree).2]
 ·obtain ⟨r,hr⟩:=hsome t ht
  exact ⟨r,ZjS hr⟩
def Zea (m o:Msg):Prop:=m.fields.length=o.fields.length∧∀ i,i < m.fields.length→ZgH m (m.fields.getD i default) (o.fields.getD i default)
theorem Zea.names {m o:Msg} (h:Zea m o):m.fields.map (·.name)=o.fields.map (·.name):=by
 refine List.ext_getElem (by simp [h.1]) fun i h1 h2=>?_
 have h1':i < m.fields.length:=by simpa using h1
 have h2':i < o.fields.length:=by simpa using h2
 have:=(h.2 i h1').name
 simpa [List.getD,h1',h2'] using this
theorem Zea.look {m o:Msg} (h:Zea m o) {s:Str} {r:Int × Int} (hr:Y2 m.fields s=some r):∃ q,Y2 o.fields s=some q∧q.1≤r.1∧r.2≤q.2:=by
 unfold Y2 at hr ⊢
 rw [← ZfG h.names]
 split at hr; · simp at hr
 rename_i h0
 rw [if_neg h0]
 have hlt:=ZaF (fun f:Fld=>decide (f.name=s)) m.fields
 have hn:=h.2 (ZQ (fun f=>decide (f.name=s)) m.fields).toNat (by omega)
 generalize m.fields.getD (ZQ (fun f=>decide (f.name=s)) m.fields).toNat default=f at *
 generalize o.fields.getD (ZQ (fun f=>decide (f.name=s)) m.fields).toNat default=g at *
 split at hr
 ·rename_i hf
  have hg:Qc g=true:=by unfold Qc at hf ⊢; rw [← hn.kind]; exact hf
  rw [if_pos hg]
  refine ⟨_,rfl,?_⟩
  have hs:=Zdx.1 hn.span
  simp only [Option.some.injEq] at hr
  subst hr
  unfold Qc at hf
  simp only [Bool.and_eq_true,decide_eq_true_eq] at hf
  unfold KT
  rw [← hn.kind]
  by_cases h2:f.kind=2
  ·rw [if_pos h2,if_pos h2,hs.1 h2]; exact ⟨Int.le_refl _,Int.le_refl _⟩
  ·rw [if_neg h2,if_neg h2]; exact hs.2.1 (by omega)
 ·simp at hr
theorem ZoU {look look':J6} {l:List Z5} (h:∀ t∈l,∃ r q,look t.field=some r∧look' t.field=some q∧q.1≤r.1∧r.2≤q.2):hiS look l≤hiS look' l:=by
 induction l with
 | nil=>exact Int.le_refl _
 | cons t r ih =>
  have h1:=ih fun y hy=>h y (List.mem_cons_of_mem _ hy)
  obtain ⟨a,b,ha,hb,h2,h3⟩:=h t (List.mem_cons_self ..)
  have h4:hiT look t≤hiT look' t:=by
   unfold hiT ZdJ
   rw [ha,hb]
   simp only [Option.getD_some]
   split
   ·exact Int.mul_le_mul_of_nonneg_left h3 (by omega)
   ·exact Int.mul_le_mul_of_nonpos_left (by omega) h2
  simp only [hiS]; omega
theorem ZbO {a b:WP}:ZbI a b=true↔YM a=true∧YM b=true∧Zbb a=Zbb b:=by
 unfold ZbI; simp only [Bool.and_eq_true,decide_eq_true_eq]
theorem ZiV {d e:Dfn} {j k i:Nat} {m o:Msg} (hm:Zc1 d j m) (ho:Zc1 e k o) (h:Zea m o) (hi:i < m.fields.length) (hin:Qa m (m.fields.getD i default)=true):Qa o (o.fields.getD i default)=true:=by
 have hn:=h.2 i hi
 have h1:=ZgI (hm.field i hi)
 have h2:=ZgI (ho.field i (by rw [← h.1]; exact hi))
 generalize m.fields.getD i default=f at *
 generalize o.fields.getD i default=g at *
 unfold Qa at hin ⊢
 rw [← hn.kind]
 simp only [Bool.or_eq_true,Bool.and_eq_true,decide_eq_true_eq] at hin ⊢
 rcases hin with hin | hin | ⟨hk,hp⟩
 ·exact .inl hin
 ·exact .inr (.inl hin)
 ·refine .inr (.inr ⟨hk,?_⟩)
  obtain ⟨e1,l1⟩:=Zlz (i:=i) hm (h1.1 hk)
  obtain ⟨e2,l2⟩:=Zlz (i:=i) ho (h2.1 (by rw [← hn.kind]; exact hk))
  have hse:=(ZbO.1 hn.size).2.2
  have hb:f.size.base=g.size.base:=(congrArg WP.base hse:(Zbb f.size).base=(Zbb g.size).base)
  have ht:Zcz f.size.terms=Zcz g.size.terms:=(congrArg WP.terms hse:(Zbb f.size).terms=(Zbb g.size).terms)
  have hperm:f.size.terms.Perm g.size.terms:=((Zi2 _).symm.trans (by rw [ht])).trans (Zi2 _)
  rw [e1] at hp
  rw [e2,← hb,← ZoZ hperm]
  have:=ZoU (look:=Y2 m.fields) (look':=Y2 o.fields) (l:=f.size.terms) fun t ht'=>by
   obtain ⟨r,hr⟩:=l1 t ht'
   obtain ⟨q,hq,h3⟩:=h.look hr
   exact ⟨r,q,hr,hq,h3⟩
  omega
theorem Zl7 {d e:Dfn} {j k i:Nat} {m o p:Msg} (hm:Zc1 d j m) (ho:Zc1 e k o) (h:Zea m o) (h':Zea o p) (hi:i < m.fields.length) (hsm:Ziy (m.fields.getD i default)) (hsp:Ziy (p.fields.getD i default)) :
  ZgH m (m.fields.getD i default) (p.fields.getD i default):=by
 have hio:=ZiV hm ho h hi
 have a:=h.2 i hi
 have b:=h'.2 i (by rw [← h.1]; exact hi)
 generalize m.fields.getD i default=f at *
 generalize o.fields.getD i default=g at *
 generalize p.fields.getD i default=q at *
 have la:=ZgR.1 a.lay
 have lb:=ZgR.1 b.lay
 have sa:=Zdx.1 a.span
 have sb:=Zdx.1 b.span
 have hk:=a.kind
 have za:=ZbO.1 a.size
 have zb:=ZbO.1 b.size
 refine ⟨a.name.trans b.name,hk.trans b.kind,ZgR.2 ⟨la.1.trans lb.1,la.2.1.trans lb.2.1,la.2.2.1.trans lb.2.2.1,la.2.2.2.1.trans lb.2.2.2.1,fun h5=>(la.2.2.2.2 h5).trans (lb.2.2.2.2 (hk ▸ h5))⟩,
  Zdx.2 ⟨fun h5=>(sa.1 h5).trans (sb.1 (hk ▸ h5)),fun h5=>?_,fun h5=>?_⟩,fun hl=>b.loose (a.loose hl),ZbO.2 ⟨za.1,zb.2.1,za.2.2.trans zb.2.2⟩,a.tag.trans b.tag,a.from_.trans b.from_,
  fun hin=>(a.of hin).trans (b.of (hio hin)),fun c hc=>Zof hsp.srt (hsm.le c hc) (a.cov c hc) b.cov⟩
 ·have h1:=sa.2.1 h5
  have h2:=sb.2.1 (hk ▸ h5)
  omega
 ·have h1:=sa.2.2 h5
  have h2:=sb.2.2 (hk ▸ h5)
  omega
theorem Zht {w r:Dfn} {R:Int × Int→Prop} {p:Int × Int} (h:ZbL w r R p):Zea (w.msgs.getD p.1.toNat default) (r.msgs.getD p.2.toNat default) :=
 ⟨h.1,fun i hi=>Zpi (h.2 (_,_) (by
  have h2:i < (r.msgs.getD p.2.toNat default).fields.length:=by rw [← h.1]; exact hi
  have e:=Zfk hi h2
  have hz:i < ((w.msgs.getD p.1.toNat default).fields.zip (r.msgs.getD p.2.toNat default).fields).length:=by rw [List.length_zip]; omega
  have:=KQ hz
  rw [e] at this; exact this)).1⟩
theorem ZjW {d:Dfn} {j:Nat} (hd:KF d) (hj:j < d.msgs.length) {i:Nat} (hi:i < (d.msgs.getD j default).fields.length) {s:Str} (hs:s∈Wv ((d.msgs.getD j default).fields.getD i default)):0≤ZK d s d.msgs.length∧ZK d s d.msgs.length < d.msgs.length :=
 ⟨((hd.fld hj hi).ref s hs).1,(KW d s).2⟩
theorem Zk8 {a b c:Dfn} (ha:KF a) (hb:KF b) (hc:KF c) {R S:Int × Int→Prop} (hR:∀ p,R p→ZbL a b R p) (hS:∀ p,S p→ZbL b c S p)
  (ra:∀ p,R p→p.1.toNat < a.msgs.length∧p.2.toNat < b.msgs.length) (rs:∀ p,S p→p.1.toNat < b.msgs.length∧p.2.toNat < c.msgs.length):∀ p,(∃ k,R (p.1,k)∧S (k,p.2))→ZbL a c (fun p=>∃ k,R (p.1,k)∧S (k,p.2)) p:=by
 rintro ⟨i,l⟩ ⟨k,h1,h2⟩
 have g1:=hR _ h1
 have g2:=hS _ h2
 have al1:=Zht g1
 have al2:=Zht g2
 have r1:=ra _ h1
 have r2:=rs _ h2
 simp only at r1 r2 al1 al2 g1 g2
 refine ⟨al1.1.trans al2.1,fun x hx=>?_⟩
 obtain ⟨n,hn1,hn3,e1,e2⟩:=ZgK hx
 simp only at hn1 hn3 e1 e2
 have hn2:n < (b.msgs.getD k.toNat default).fields.length:=by rw [← al1.1]; exact hn1
 have hnd:=Zl7 (ha.msg r1.1) (hb.msg r1.2) al1 al2 hn1 (ha.rule r1.1 hn1) (hc.rule r2.2 hn3)
 have z1:=g1.2 ((a.msgs.getD i.toNat default).fields.getD n default,(b.msgs.getD k.toNat default).fields.getD n default) (by
  have e:=Zfk hn1 hn2
  have hz:n < ((a.msgs.getD i.toNat default).fields.zip (b.msgs.getD k.toNat default).fields).length:=by rw [List.length_zip]; omega
  have:=KQ hz
  rw [e] at this; exact this)
 have z2:=g2.2 ((b.msgs.getD k.toNat default).fields.getD n default,(c.msgs.getD l.toNat default).fields.getD n default) (by
  have e:=Zfk hn2 hn3
  have hz:n < ((b.msgs.getD k.toNat default).fields.zip (c.msgs.getD l.toNat default).fields).length:=by rw [List.length_zip]; omega
  have:=KQ hz
  rw [e] at this; exact this)
 rw [e1,e2]
 refine ⟨hnd.zero,fun hin=>?_,fun q hq=>?_⟩
 ·have hin2:=ZiV (ha.msg r1.1) (hb.msg r1.2) al1 hn1 hin
  exact ⟨_,z1.2.1 hin,z2.2.1 hin2⟩
 ·obtain ⟨y,hy,hyo⟩:=Zhw ((al1.2 n hn1).cov q hq)
  have h3:=z2.2.2 y hy
  rw [hyo] at h3
  exact ⟨_,z1.2.2 q hq,h3⟩
theorem Zem {w r:Dfn} (h:WY w r=true):KF w∧KF r∧w.start=r.start∧(YE w r (w.msgs.length + 1) [] w.start r.start []).2=[]:=by
 unfold WY at h
 simp only [Bool.and_eq_true] at h
 refine ⟨JG h.1.1,JG h.1.2,?_⟩
 have h2:KA w r=[]:=by simpa using h.2
 unfold KA at h2
 split at h2
 ·simp at h2
 ·rename_i h3; exact ⟨by simpa using h3,h2⟩
theorem Zgb {w r:Dfn} (h:WY w r=true):∃ R:Int × Int→Prop,R (ZK w w.start w.msgs.length,ZK r r.start r.msgs.length)∧(∀ p,R p→ZbL w r R p)∧∀ p,R p→p.1.toNat < w.msgs.length∧p.2.toNat < r.msgs.length:=by
 obtain ⟨hw,hr,hs,hc⟩:=Zem h
 have hadd:=(ZcB (r:=r) hw.fields (w.msgs.length + 1) [] w.start r.start [] ⟨by simp,by simp⟩).ok.range
 obtain ⟨hv,hm⟩:=ZfV hw (w.msgs.length + 1) [] w.start r.start [] (by have:=(KW w w.start).2; omega) hw.start hc
 have h0:0 < w.msgs.length:=by have:=(KW w w.start).2; have:=hw.start; omega
 have h1:0 < r.msgs.length:=by have:=(KW r r.start).2; have:=hr.start; omega
 exact ⟨(·∈(YE w r (w.msgs.length + 1) [] w.start r.start []).1),hm,fun p hp=>hv.good p hp (by simp),fun p hp=>by
  have:=hadd p hp
  omega⟩
theorem Zln {w r:Dfn} (hw:YU w=true) (hr:YU r=true) (hs:w.start=r.start) {R:Int × Int→Prop} (h0:R (ZK w w.start w.msgs.length,ZK r r.start r.msgs.length)) (hR:∀ p,R p→ZbL w r R p):WY w r=true:=by
 have:=Zf1 hR (w.msgs.length + 1) [] w.start r.start [] h0
 unfold WY KA
 rw [hw,hr,if_neg (by simp [hs]),this]; rfl
theorem ZlY {a b c:Dfn} (h:WY a b=true) (h':WY b c=true):WY a c=true:=by
 have s1:=Zem h
 have s2:=Zem h'
 obtain ⟨R,r0,rR,rr⟩:=Zgb h
 obtain ⟨S,t0,tS,ts⟩:=Zgb h'
 have va:YU a=true:=by unfold WY at h; simp only [Bool.and_eq_true] at h; exact h.1.1
 have vc:YU c=true:=by unfold WY at h'; simp only [Bool.and_eq_true] at h'; exact h'.1.2
 exact Zln va vc (s1.2.2.1.trans s2.2.2.1) ⟨_,r0,t0⟩ (Zk8 s1.1 s1.2.1 s2.2.1 rR tS rr ts)
theorem Znp {d:Dfn} (hd:KF d) {j i:Nat} (hj:j < d.msgs.length) (hi:i < (d.msgs.getD j default).fields.length):ZgH (d.msgs.getD j default) ((d.msgs.getD j default).fields.getD i default) ((d.msgs.getD j default).fields.getD i default):=by
 have hr:=hd.rule hj hi
 have hz:=(ZgI ((hd.msg hj).field i hi)).2.1
 generalize (d.msgs.getD j default).fields.getD i default=f at *
 exact ⟨rfl,rfl,ZgR.2 ⟨rfl,rfl,rfl,rfl,fun _=>rfl⟩,Zdx.2 ⟨fun _=>rfl,fun _=>⟨Int.le_refl _,Int.le_refl _⟩,fun _=>Int.le_refl _⟩,id,ZbO.2 ⟨hz,hz,rfl⟩,rfl,rfl,fun _=>rfl,fun c hc=>Zpp hr.srt hc⟩
theorem Zm3 {a:Dfn} (h:J2 a a=0):WY a a=true:=by
 have hv:=(ZnV h).1
 have hd:=JG hv
 have h0:0≤ZK a a.start a.msgs.length:=hd.start
 refine Zln hv hv rfl (R:=fun p=>p.1=p.2∧0≤p.1∧p.1 < a.msgs.length) ⟨rfl,h0,(KW a a.start).2⟩ ?_
 rintro ⟨i,k⟩ ⟨h1,h2,h3⟩
 simp only at h1 h2 h3
 subst h1
 have hj:i.toNat < a.msgs.length:=by omega
 refine ⟨rfl,fun x hx=>?_⟩
 obtain ⟨n,hn,_,e1,e2⟩:=ZgK hx
 simp only at hn e1 e2
 rw [e1,e2]
 refine ⟨(Znp hd hj hn).zero,fun hin=>?_,fun c hc=>?_⟩
 ·have:=ZjW hd hj hn (ZfH hin)
  exact ⟨rfl,this.1,this.2⟩
 ·have hk:=(hd.fld hj hn).cases (List.ne_nil_of_mem hc)
  have:=ZjW hd hj hn (ZeP hk hc)
  exact ⟨rfl,this.1,this.2⟩
end Go.DL
namespace Go.Proofs.YtmnhlhenahlilaaGreat
open Go Go.DL Go.ChangeShapes Go.WideShapes Go.ChangeAt Go.RowKit
set_option linter.unusedVariables false
set_option maxRecDepth 100000 in
theorem orders_lifted (os:Os) (started:os.Started) (H:Type) (enc:TypeId × Value→H) :
  ReturnsInHanded {} Tryz.checked os 6 .any (Rows.compatOrdersSpec.pre6 enc Tryz.prog Tryz.f6 Rows.compatOrdersRow.domain false) (Rows.compatOrdersSpec.post enc Tryz.prog Tryz.f6 false true false false):=by
 refine returnsInHanded_of_change (C:=Tryz.checked) own started (by kernel_rfl) Tryz.func6
  (ChangeSpec.witness6 (enc:=enc) (C:=Tryz.checked) false ⟨#[],#[.agg #[.string ⟨#[]⟩,.slice none 0 0,.string ⟨#[]⟩],.agg #[.string ⟨#[]⟩,.slice none 0 0,.string ⟨#[]⟩],.agg #[.string ⟨#[]⟩,.slice none 0 0,.string ⟨#[]⟩]],[]⟩ 8 (by kernel_rfl) (by kernel_rfl) (by kernel_rfl) (by kernel_rfl)) ?_
 intro W base args ds gs before hval hW _ _
 have hp:Tryz.f6.params.toList=[24,24,24]:=by rw [Tryz.params6]
 refine Zlq (P:=Tryz.prog) (tb:=4) (Qs:=[_,_,_]) rfl laidOut (fun t ht=>types_ok t ?_) (by kernel_rfl) Tryz.underlying4 (fun ds hds=>?_) (by rw [hp]; exact .cons arg_Dfn (.cons arg_Dfn (.cons arg_Dfn .nil))) (fun xs hxs=>?_) W base args ds gs before hval hW
 ·rw [hp] at ht; simp at ht; simp [ht]
 ·rw [hp] at hds
  match ds,hds with
  | [a,b,c],_=>rfl
 ·cases hxs with | cons h1 hxs =>
  cases hxs with | cons h2 hxs =>
  cases hxs with | cons h3 hxs =>
  cases hxs
  obtain ⟨_,⟨a,rfl⟩,rfl⟩:=h1
  obtain ⟨_,⟨b,rfl⟩,rfl⟩:=h2
  obtain ⟨_,⟨c,rfl⟩,rfl⟩:=h3
  exact ZeN a b c Zm3 ZlY
theorem orders_holds:Rows.CompatOrdersSaid :=
 OpenClaim.holds_of_wide 6 Tryz.f6 rfl rfl rfl rfl rfl rfl rfl ⟨rfl,rfl,rfl,rfl,rfl⟩ rfl rfl rfl rfl rfl (by kernel_rfl) Tryz.func6 (by kernel_rfl)
  (of_decide_eq_true (by kernel_rfl)) (by unfold Func.isWrapper; first | (rw [if_pos (by decide +kernel)]; kernel_rfl) | (rw [if_neg (by decide +kernel)]; exact ⟨rfl,rfl⟩))
  (fun os started H enc _=>orders_lifted os started H enc)
end Go.Proofs.YtmnhlhenahlilaaGreat
