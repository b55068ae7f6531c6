/- Lemmas: S09, S10, S11, S12, S13, S14, S15, S16, S17, S18, S19, S20, S21, S22, S23, S24, S25, S26, SLay3, S27, S28, S29, S30, S31, S32. -/
import Derived.Test.YtmnhlhenahlilaaGreatT03
set_option maxHeartbeats 16000000
set_option linter.all false
namespace Go.DL
open Go Go.Proofs
theorem Zmw (o:Option Int):Ke (.int .i64 0) false (o.map QZ) = .int .i64 (o.getD 0):=by cases o <;> rfl
abbrev ZfE (l:List (Str × Int)):List (D × D):=QF QY QZ l
def mkT (l:List (Str × Int)) (k:Str):Z5:=⟨k,(ZS k l).getD 0⟩
theorem ZjN (b:Nat) (l:List (Str × Int)) (hn:(l.map (·.1)).Nodup) (hl:l.length≤1000) (st:St) (hb:st b=some (.map (ZfE l))) :
  ZY Tryz.prog Yj.id [.map b] st fun r S=>r = .ret (Y4 (Zde l))∧S=st:=by
 refine ZP Yj.ok fun F hF=>?_
 refine Za (Zb (Zc ?_))
 simp only [Eqs,reduceCtorEq,reduceIte,Yj.r0]
 refine Za (Za (Zb (Zc ?_)))
 simp only [Eqs,reduceCtorEq,reduceIte,Yj.r1]
 refine Z6 rfl rfl rfl rfl rfl (by trivial) (by trivial) (by exact Zh6 b st) ?_ ?_
 ·rintro d S ⟨x,hx,hd,rfl⟩
  cases hd
  refine Zc ?_
  simp only [Eqs]
  have hbx:b≠x:=fun e=>by rw [e,hx] at hb; simp at hb
  have hb2:(st.upd x (.cells [.map b])) b=some (.map (ZfE l)):=by rw [St.upd_ne _ _ hbx]; exact hb
  have hsub:=St.sub_upd (.cells [.map b]) hx
  refine Z6 rfl rfl rfl rfl rfl (by trivial) (by trivial) (by exact ZdR b x l hn hl _ hb2 (St.upd_same _ _ _)) ?_ ?_
  ·rintro d S ⟨hd,rfl⟩
   cases hd
   refine Zc ?_
   simp only [Eqs,reduceCtorEq,reduceIte,Nat.reduceEqDiff,slD]
   generalize hS:st.upd x (.cells [.map b])=S at *
   have hkl:((l.map (·.1)).mergeSort leS).length≤1000:=by rw [List.length_mergeSort]; simpa using hl
   have hst:Zde l=((l.map (·.1)).mergeSort leS).map (mkT l):=rfl
   generalize (l.map (·.1)).mergeSort leS=ks at *
   refine Zo ?_
   refine Qy (s':=S) (by first | exact St.sub_refl _ | exact ZM (by first | trivial | assumption) | exact St.sub_trans (ZM (by first | trivial | assumption)) (ZM (by first | trivial | assumption)) | assumption) (ZaT (ρ':=[(0,.d (.map b)),(2,.d (.sl .full 0 2 fun _=>[])),(7,.d (slD 1 Qg ks)),(8,.d (.int .i64 ks.length)),(9,.d (.int .i64 (0:Nat)))]) (L':=[]) ?_ ?_ ?_)
   ·exact .skip (.cons (.d (K9 fun b h=>by cases h)) (.skip (.skip (.skip .nil))))
   ·exact ZdB _
   refine YH ?_
   have key:∀ (n i:Nat),(ks.length) - i=n→∀ tk row out,tk.okIn S→We Z5.cells row out→out=(ks.take i).map (mkT l)→i≤ks.length→ZU F [.code (Yj.l0),.inLoop Yj.l0,.inBlock 0,.code (.seq (qR Yj.r6 [2]) .ret)] [(0,.d (.map b)),(2,.d (.sl tk out.length 2 row)),(7,.d (slD 1 Qg ks)),(8,.d (.int .i64 ks.length)),(9,.d (.int .i64 i))] [] (S.own tk (out.length * 2)):=by
    intro n
    induction n using Nat.strongRecOn with
    | ind n ih_key =>
    intro i hni tk row out htk hrow hout hi
    have hol:out.length=i:=by rw [hout]; simp; omega
    refine Za (Zb (Zc ?_))
    simp only [Eqs,reduceCtorEq,reduceIte,Nat.reduceEqDiff,Yj.r2]
    refine Za (Zg rfl trivial (fun h1=>?_) (fun h1=>?_))
    ·simp at h1
     have hsn:(ks.take (i + 1)).map (mkT l)=out++[mkT l (ks.getD i default)]:=by rw [WL h1,List.map_append,hout]; rfl
     generalize hk:ks.getD i default=k at *
     have e1:=KK (vD:=QZ) Wk k l
     have e3:=Qh Wk k
     simp only [show QY k=D.str k from rfl] at e1 e3
     have hbo:=ZgU (k:=out.length * 2) htk hb2
     refine Zq (Za (Zo (Za (Zb (Zc ?_)))))
     simp only [Eqs,reduceCtorEq,reduceIte,Nat.reduceEqDiff,Yj.r3,slD,Qg,hk]
     repeat (refine And.intro (by first | omega | trivial | (intro h0; simp at h0; omega)) ?_)
     refine Zb (Zc ?_)
     simp only [Eqs,reduceCtorEq,reduceIte,Nat.reduceEqDiff,Nat.reduceAdd,Nat.reduceLeDiff,Yj.r4,hbo,e1,-Ke,Zmw]
     refine ZcQ (S) (tk) rfl rfl rfl rfl rfl rfl (by trivial) (by trivial) rfl (by first | trivial | assumption) (by omega) (by (unfold big; omega)) fun t1 ht1=>Zc ?_
     simp only [Eqs,reduceCtorEq,reduceIte,Nat.reduceEqDiff]
     refine ZC (Zb (Zc ?_))
     simp only [Eqs,reduceCtorEq,reduceIte,Nat.reduceEqDiff,Yj.r5]
     repeat (refine And.intro (by first | omega | trivial | (intro h0; simp at h0; omega)) ?_)
     refine Z3 ?_
     have hnext:=ih_key ((ks.length) - (i + 1)) (by omega) (i + 1) rfl t1 _ (out++[mkT l k]) ht1 (hrow.snoc (x:=mkT l k) (row2:=Wu [.str [],.int .i64 0] ([0].zip [.agg [.str k,.int .i64 ((ZS k l).getD 0)]])) rfl rfl) (by rw [hsn]) (by omega)
     rw [List.length_append] at hnext
     exact hnext
    ·simp at h1
     obtain rfl:i=ks.length:=by omega
     rw [List.take_length] at hout
     refine Ys rfl (Za (Zb (Zc ?_)))
     simp only [Eqs,reduceCtorEq,reduceIte,Nat.reduceEqDiff,Yj.r6]
     refine hF.ret _ st rfl (by trivial) (ZaN (hrow.le rfl)) (St.sub_trans hsub (ZM htk)) ⟨by rw [hout,hst]; rfl,rfl⟩
   exact key _ 0 rfl .full _ [] trivial We.nil rfl (by omega)
  ·rintro d S ⟨hd,_⟩
   cases hd
 ·rintro d S ⟨x,hx,hd,rfl⟩
  cases hd
def Zai:WP:=⟨0,[]⟩
theorem Zic {s:WP} (h:YM s=true):(s.terms.map (·.field)).Nodup:=by
 unfold YM at h
 simp only [Bool.and_eq_true] at h
 have:∀ (seen:List Str) (l:List Z5),JK seen l=true→(l.map (·.field)).Nodup∧∀ t∈l,t.field ∉ seen:=by
  intro seen l
  induction l generalizing seen with
  | nil=>intro _; simp
  | cons t r ih =>
   intro hv
   simp only [JK,Bool.and_eq_true,Bool.not_eq_true',decide_eq_false_iff_not] at hv
   have h1:=ih _ hv.2
   refine ⟨?_,fun x hx=>?_⟩
   ·simp only [List.map_cons,List.nodup_cons]
    refine ⟨fun hm=>?_,h1.1⟩
    obtain ⟨y,hy,he⟩:=List.mem_map.1 hm
    exact h1.2 y hy (by rw [he]; simp)
   ·rcases List.mem_cons.1 hx with rfl | hx
    ·exact hv.1.2
    ·exact fun hm=>h1.2 x hx (by simp [hm])
 exact (this [] s.terms h.2).1
theorem ZhZ {s:WP} (h:YM s=true):∀ t∈s.terms,t.factor≠0:=by
 unfold YM at h
 simp only [Bool.and_eq_true] at h
 have:∀ (seen:List Str) (l:List Z5),JK seen l=true→∀ t∈l,t.factor≠0:=by
  intro seen l
  induction l generalizing seen with
  | nil=>intro _; simp
  | cons t r ih =>
   intro hv
   simp only [JK,JT,Bool.and_eq_true,Bool.not_eq_true',decide_eq_false_iff_not] at hv
   intro x hx
   rcases List.mem_cons.1 hx with rfl | hx
   ·exact hv.1.1.1.2
   ·exact ih _ hv.2 x hx
 exact this [] s.terms h.2
theorem ZoF {k:Str} {v:Int} {l:List (Str × Int)} (h:ZS k l=none):Kk k v l=l++[(k,v)]:=by
 induction l with
 | nil=>rfl
 | cons x r ih =>
  simp only [ZS] at h
  split at h
  ·simp at h
  ·rename_i hk; simp [Kk,hk,ih h]
theorem Zig {l:List Z5} {i:Nat} (hi:i < l.length) (hn:(l.map (·.field)).Nodup):ZS (l.getD i default).field (Q9 (l.take i))=none:=by
 rw [Zj5]
 intro hm
 have h1:(l.getD i default).field∈(l.take i).map (·.field):=by simpa [Q9,Function.comp_def] using hm
 have h2:=WL hi
 have h3:((l.take (i + 1)).map (·.field)).Nodup:=by
  have:(l.map (·.field)).Nodup:=hn
  rw [← List.take_append_drop (i + 1) l,List.map_append] at this
  exact (List.nodup_append.1 this).1
 rw [h2,List.map_append] at h3
 exact (List.nodup_append.1 h3).2.2 _ h1 _ (by simp) rfl
theorem Znx {l:List Z5} {i:Nat} (hi:i < l.length) (hn:(l.map (·.field)).Nodup):Kk (l.getD i default).field (0 + (l.getD i default).factor) (Q9 (l.take i))=Q9 (l.take (i + 1)):=by
 rw [ZoF (Zig hi hn),WL hi,Int.zero_add]
 simp [Q9]
theorem Zkq (t:Z5):Yk Tryz.prog KC.id [.agg t.cells] (.bool (!JB t.factor)):=by
 refine YR KC.ok fun F st hret=>?_
 refine Za (Zb (Zc ?_))
 simp only [Eqs,reduceCtorEq,reduceIte,Nat.reduceEqDiff,KC.r0,Z5.cells]
 refine Za (Zb (Zc ?_))
 simp only [Eqs,reduceIte,Nat.reduceEqDiff,KC.r1]
 refine YS rfl rfl rfl rfl rfl (by trivial) (by trivial) (by exact Zah t.factor) (Zc ?_)
 simp only [Eqs,reduceIte,Nat.reduceEqDiff]
 refine hret rfl (by first | trivial | simp) (Y1 ?_) (by first | exact St.sub_refl _ | exact ZM (by first | trivial | assumption) | assumption | exact St.sub_upd _ (by assumption))
 rfl
theorem ZnB (l:List Z5):Yk Tryz.prog ZW.id [Y4 l,.fn (.func KC.id) [] []] (.bool (l.any fun t=>!JB t.factor)) :=
 fun st=>ZcG l _ _ (fun _=>st) fun i _=>(Zkq _).VT (first:=[]) (caps:=[]) st
theorem ZkV (s:WP) (hv:YM s=true) (st:St):ZY Tryz.prog ZN.id [.agg s.cells,.agg Zai.cells] st fun r S=>r = .ret (.tup [.agg (Zbb s).cells,.int .i64 0])∧S=st:=by
 have hfew:=Zaf hv
 have hsm:=Zd0 hv
 have hnd:=Zic hv
 have hfz:=ZhZ hv
 refine ZP ZN.ok fun F hF=>?_
 refine Za (Zb (Zc ?_))
 simp only [Eqs,reduceCtorEq,reduceIte,Nat.reduceEqDiff,Nat.reduceAdd,ZN.r0,WP.cells]
 refine Za (Za (Wy (ZO ?_)))
 simp only [Eqs,reduceIte,Nat.reduceEqDiff,Nat.reduceAdd,Nat.reduceLeDiff,ZN.r1]
 refine Kp rfl rfl rfl rfl rfl (by trivial) (by trivial) (by exact Q4 s) (ZO ?_)
 simp only [Eqs,reduceIte,hv]
 refine Kp rfl rfl rfl rfl rfl (by trivial) (by trivial) (by exact Q4 Zai) (ZO ?_)
 simp only [Eqs,reduceIte,Nat.reduceEqDiff]
 refine Kp rfl rfl rfl rfl rfl (by trivial) (by trivial) (by exact ZcL _ _) (ZO ?_)
 simp only [Eqs,reduceIte,Nat.reduceEqDiff]
 refine Zg rfl trivial (fun h=>by simp [show YM Zai=true from by decide] at h) (fun _=>?_)
 refine Zq (Za (Zb (Zc ?_)))
 simp only [Eqs,reduceIte,Nat.reduceEqDiff,ZN.r3]
 intro b hb
 have hrw:We ltC (Wu [.nilsl] ([0,1].zip [Y4 s.terms,Y4 Zai.terms])) [s.terms,[]]:=fun i hi=>by
  match i,hi with
  | 0,_=>rfl
  | 1,_=>rfl
 have hflat:[s.terms,[]].flatten=s.terms:=by simp
 have hcon:ZY Tryz.prog Zf.id [.sl .full 2 1 (Wu [.nilsl] ([0,1].zip [Y4 s.terms,Y4 Zai.terms]))] (st.upd b (.map [])) _:=ZY.leA (LeC.one (hrw.le rfl)) (ZeI [s.terms,[]] (by simp) (by rw [hflat]; omega) _)
 refine Za (Za (Zb (Zc ?_)))
 simp only [Eqs,reduceIte,Nat.reduceEqDiff,ZN.r4]
 refine ⟨rfl,?_⟩
 refine Z6 rfl rfl rfl rfl rfl (by trivial) (by trivial) (by exact hcon) ?_ ?_
 ·rintro d S ⟨hd,rfl⟩
  cases hd
  rw [hflat]
  refine Zc ?_
  simp only [Eqs,reduceIte,Nat.reduceEqDiff,Y4,slD]
  refine Zo (YH ?_)
  have key:∀ (n i:Nat),(s.terms.length) - i=n→i≤s.terms.length→ZU F [.code (ZN.l0),.inLoop ZN.l0,.inBlock 0,.code (.seq (.regD [0,1,2,3,4,5,8,6,7,9] ZN.r11 (some [4,9])) (.seq (.block 2 (.seq (qR ZN.r12 [4,9,54]) (qC 54 (.seq (qR ZN.r13 [4,5]) .ret) (.seq (qR ZN.r14 [4,9,65]) (qC 65 (.seq (qR ZN.r15 [4,5]) .ret) .skip))))) (.seq (qR ZN.r16 [4,5]) .ret)))] [(2,.loc 2 0),(3,.loc 3 0),(4,.loc 4 0),(6,.d (.map b)),(24,.d (Y4 s.terms)),(25,.d (.int .i64 s.terms.length)),(26,.d (.int .i64 i))] [(2,s.cells),(3,Zai.cells),(4,[.int .i64 0,.nilsl])] (st.upd b (.map (ZfE (Q9 (s.terms.take i))))):=by
   intro n
   induction n using Nat.strongRecOn with
   | ind n ih_key =>
   intro i hn hi
   refine Za (Zb (Zc ?_))
   simp only [Eqs,reduceIte,Nat.reduceEqDiff,ZN.r5]
   refine Za (Zg rfl trivial (fun h1=>?_) (fun h1=>?_))
   ·simp at h1
    have hfs:=Znx h1 hnd
    have hg:=Zig h1 hnd
    have hf0:=hfz _ (KQ h1)
    have hfr:=hsm.2 _ (KQ h1)
    generalize htm:s.terms.getD i default=tm at *
    generalize Q9 (s.terms.take i)=fs at *
    have e1:=KK (vD:=QZ) Wk tm.field fs
    have e2:=Zby (vD:=QZ) Wk tm.field (0 + tm.factor) fs
    have e3:=Qh Wk tm.field
    have e4:=KK (vD:=QZ) Wk tm.field (Kk tm.field (0 + tm.factor) fs)
    rw [hg] at e1
    rw [J8,if_pos rfl] at e4
    simp only [show QY tm.field=D.str tm.field from rfl,Option.map_some,show QZ (0 + tm.factor)=D.int .i64 (0 + tm.factor) from rfl] at e1 e2 e3 e4
    refine Zq (Za (Zo (Za (Zb (Zc ?_)))))
    simp only [Eqs,reduceIte,Nat.reduceEqDiff,Nat.reduceAdd,Nat.reduceLeDiff,ZN.r6,Z5.cells,Y4,slD,htm]
    repeat (refine And.intro (by first | omega | trivial | (intro h0; simp at h0; omega)) ?_)
    refine Za (Zb (Zc ?_))
    simp only [Eqs,reduceIte,Nat.reduceEqDiff,ZN.r7,e1,e2,St.upd_same,St.upd_upd]
    repeat (refine And.intro (by first | omega | trivial | (intro h0; simp at h0; omega)) ?_)
    refine Za (Zb (Zc ?_))
    simp only [Eqs,reduceIte,Nat.reduceEqDiff,ZN.r8,e4,St.upd_same]
    refine Zg rfl trivial (fun h=>by simp at h; omega) (fun _=>?_)
    refine Zq (ZC (Zb (Zc ?_)))
    simp only [Eqs,reduceIte,Nat.reduceEqDiff,ZN.r10]
    repeat (refine And.intro (by first | omega | trivial | (intro h0; simp at h0; omega)) ?_)
    rw [hfs]
    refine Z3 ?_
    exact ih_key ((s.terms.length) - (i + 1)) (by omega) (i + 1) rfl (by omega)
   ·simp at h1
    obtain rfl:i=s.terms.length:=by omega
    rw [List.take_length]
    have hnk:((Q9 s.terms).map (·.1)).Nodup:=by simpa [Q9,Function.comp_def] using hnd
    have hnl:(Q9 s.terms).length≤1000:=by simp [Q9]; omega
    have hz0:Zai.base=0:=rfl
    refine Ys rfl (Za (Wy (ZO ?_)))
    simp only [Eqs,reduceIte,Nat.reduceEqDiff,ZN.r11,WP.cells,hz0,Int.add_zero]
    repeat (refine And.intro (by first | omega | trivial | (intro h0; simp at h0; omega)) ?_)
    refine JP rfl rfl rfl rfl rfl (by trivial) (by trivial) (by exact ZjN b (Q9 s.terms) hnk hnl _ (St.upd_same _ _ _)) ?_ ?_
    ·rintro d S ⟨hd,rfl⟩
     cases hd
     rw [Znk hnd]
     refine ⟨by first | trivial | exact ⟨rfl,rfl,trivial⟩,?_⟩
     refine ZO ?_
     simp only [Eqs,reduceIte,Nat.reduceEqDiff,Nat.reduceAdd,Nat.reduceLeDiff,Y4,slD]
     have hnw:((Zcz s.terms).any fun t=>!JB t.factor)=false:=ZeH fun i hi=>by
      have h1:=KQ hi
      have h2:=hsm.2 _ (((Zda s.terms).mem_iff).1 h1)
      simp only [JB,Bool.not_eq_eq_eq_not,Bool.not_false,Bool.and_eq_true,decide_eq_true_eq]; exact h2
     have hnl4:(Zcz s.terms).length≤4:=by rw [(Zda s.terms).length_eq]; exact hfew
     have hsb:JB s.base=true:=by simp [JB,hsm.1]
     refine Za (Zo (Za (Zb (Zc ?_))))
     simp only [Eqs,reduceIte,Nat.reduceEqDiff,ZN.r12]
     refine YS rfl rfl rfl rfl rfl (by trivial) (by trivial) (by exact Zah s.base) (Zc ?_)
     simp only [Eqs,reduceIte,Nat.reduceEqDiff,hsb]
     refine JI rfl rfl rfl rfl rfl (fun hcg=>⟨by first | trivial | (simpa [Zan] using hcg),trivial,ZnB (Zcz s.terms)⟩) (Zc ?_)
     simp only [Eqs,reduceIte,Nat.reduceEqDiff,hnw]
     refine Zg rfl trivial (fun h=>by simp at h) (fun _=>?_)
     refine Za (Zb (Zc ?_))
     simp only [Eqs,reduceIte,Nat.reduceEqDiff,ZN.r14]
     refine Zg rfl trivial (fun h=>by simp at h; omega) (fun _=>?_)
     refine Zq (ZC (Za (Zb (Zc ?_))))
     simp only [Eqs,reduceIte,Nat.reduceEqDiff,Nat.reduceAdd,Nat.reduceLeDiff,ZN.r16]
     refine hF.ret _ st rfl (by first | trivial | simp) (J1 ?_ rfl) (St.sub_upd _ hb) ⟨rfl,rfl⟩
     rfl
    ·rintro d S ⟨hd,_⟩
     cases hd
  exact key _ 0 rfl (by omega)
 ·rintro d S ⟨hd,_⟩
  cases hd
theorem ZjA (s:WP) (hv:YM s=false):Yk Tryz.prog ZN.id [.agg s.cells,.agg Zai.cells] (.tup [.agg Zai.cells,.int .i64 2]):=by
 refine YR ZN.ok fun F st hret=>?_
 refine Za (Zb (Zc ?_))
 simp only [Eqs,reduceCtorEq,reduceIte,Nat.reduceEqDiff,Nat.reduceAdd,ZN.r0,WP.cells]
 refine Za (Za (Wy (ZO ?_)))
 simp only [Eqs,reduceIte,Nat.reduceEqDiff,Nat.reduceAdd,Nat.reduceLeDiff,ZN.r1]
 refine Kp rfl rfl rfl rfl rfl (by trivial) (by trivial) (by exact Q4 s) (ZO ?_)
 simp only [Eqs,reduceIte,hv]
 refine Kp rfl rfl rfl rfl rfl (by trivial) (by trivial) (by exact Q4 Zai) (ZO ?_)
 simp only [Eqs,reduceIte,Nat.reduceEqDiff]
 refine Kp rfl rfl rfl rfl rfl (by trivial) (by trivial) (by exact ZcL _ _) (ZO ?_)
 simp only [Eqs,reduceIte,Nat.reduceEqDiff]
 refine Zg rfl trivial (fun _=>?_) (fun h=>by simp at h)
 refine Za (Zb (Zc ?_))
 simp only [Eqs,reduceIte,Nat.reduceEqDiff,Nat.reduceAdd,Nat.reduceLeDiff,ZN.r2]
 refine hret rfl (by first | trivial | simp) (Zdc rfl (.cons (Zio (.cons (D.Le.refl _) (.cons (K9 (by simp)) .nil))) (.cons (D.Le.refl _) .nil))) (St.sub_refl _)
def Zad (s:WP):WP × Int:=if YM s then (Zbb s,0) else (Zai,2)
theorem ZeD (s:WP):Yk Tryz.prog Kt.id [.agg s.cells] (.tup [.agg (Zad s).1.cells,.int .i64 (Zad s).2]):=by
 refine YR Kt.ok fun F st hret=>?_
 have hadd:ZY Tryz.prog ZN.id [.agg s.cells,.agg [.int .i64 0,.nilsl]] st fun r S=>r = .ret (.tup [.agg (Zad s).1.cells,.int .i64 (Zad s).2])∧S=st:=by
  refine ZY.leA (LeC.two (D.Le.refl _) (Zio (cs':=Zai.cells) (.cons (D.Le.refl _) (.cons (K9 (by simp)) .nil)))) ?_
  unfold Zad
  cases hv:YM s with
  | true=>exact ZkV s hv st
  | false=>exact ZjA s hv st
 refine Za (Zb (Zc ?_))
 simp only [Eqs,reduceCtorEq,reduceIte,Nat.reduceEqDiff,Kt.r0,WP.cells]
 refine Za (Zb (Zc ?_))
 simp only [Eqs,reduceIte,Nat.reduceEqDiff,Nat.reduceAdd,Nat.reduceLeDiff,Kt.r1]
 refine Z6 rfl rfl rfl rfl rfl (by trivial) (by trivial) (by exact hadd) ?_ ?_
 ·rintro d S ⟨hd,rfl⟩
  cases hd
  refine Zc ?_
  simp only [Eqs,reduceIte,Nat.reduceEqDiff,Nat.reduceAdd,Nat.reduceLeDiff,WP.cells]
  exact hret rfl (by first | trivial | simp) (J1 rfl rfl) (St.sub_refl _)
 ·rintro d S ⟨hd,_⟩
  cases hd
def inC (n:Int):List D:=[.int .i64 n]
def orS:List Int→Int
 | []=>0
 | x :: r=>if x=0 then orS r else x
theorem ZiC (l:List Int):Yk Tryz.prog ZV.id [slD 1 inC l] (.int .i64 (orS l)):=by
 refine Qo ZV.ok fun hwf F st hret=>?_
 have hw:=(K6 (hwf (slD 1 inC l) (by simp))).1
 unfold big at hw
 clear hwf
 refine Za (Zb (Zc ?_))
 simp only [Eqs,reduceCtorEq,reduceIte,ZV.r0]
 refine Za (Zb (Zc ?_))
 simp only [Eqs,reduceCtorEq,reduceIte,ZV.r1]
 refine Za (Za (Zb (Zc ?_)))
 simp only [Eqs,reduceCtorEq,reduceIte,Nat.reduceEqDiff,ZV.r2,slD]
 refine Zo (YH ?_)
 have key:∀ (n i:Nat),(l.length) - i=n→i≤l.length→orS l=orS (l.drop i)→ZU F [.code (ZV.l0),.inLoop ZV.l0,.inBlock 0,.code (.seq (qR ZV.r8 [2]) .ret)] [(3,.d (.int .i64 0)),(6,.d (slD 1 inC l)),(7,.d (.int .i64 l.length)),(8,.d (.int .i64 i))] [] st:=by
  intro n
  induction n using Nat.strongRecOn with
  | ind n ih_key =>
  intro i hn hi hS
  refine Za (Zb (Zc ?_))
  simp only [Eqs,reduceIte,Nat.reduceEqDiff,ZV.r3]
  refine Za (Zg rfl trivial (fun h1=>?_) (fun h1=>?_))
  ·simp at h1
   rw [J4 h1,orS] at hS
   generalize hx:l.getD i default=x at *
   refine Zq (Za (Zo (Za (Zb (Zc ?_)))))
   simp only [Eqs,reduceIte,Nat.reduceEqDiff,ZV.r4,slD,inC,hx]
   repeat (refine And.intro (by first | omega | trivial | (intro h0; simp at h0; omega)) ?_)
   refine Za (Zb (Zc ?_))
   simp only [Eqs,reduceIte,Nat.reduceEqDiff,ZV.r5]
   refine Zg rfl trivial (fun h2=>?_) (fun h2=>?_)
   ·rw [if_neg (by simpa using h2)] at hS
    refine Za (Zb (Zc ?_))
    simp only [Eqs,reduceIte,Nat.reduceEqDiff,ZV.r6]
    refine hret rfl (by first | trivial | simp) (Za4 ?_) (by first | exact St.sub_refl _ | exact ZM (by first | trivial | assumption) | assumption | exact St.sub_upd _ (by assumption))
    exact hS.symm
   ·rw [if_pos (by simpa using h2)] at hS
    refine Zq (ZC (Zb (Zc ?_)))
    simp only [Eqs,reduceIte,Nat.reduceEqDiff,ZV.r7]
    repeat (refine And.intro (by first | omega | trivial | (intro h0; simp at h0; omega)) ?_)
    refine Z3 ?_
    exact ih_key ((l.length) - (i + 1)) (by omega) (i + 1) rfl (by omega) hS
  ·simp at h1
   obtain rfl:i=l.length:=by omega
   rw [List.drop_length,orS] at hS
   refine Ys rfl (Za (Zb (Zc ?_)))
   simp only [Eqs,reduceIte,Nat.reduceEqDiff,ZV.r8]
   refine hret rfl (by first | trivial | simp) (Za4 ?_) (by first | exact St.sub_refl _ | exact ZM (by first | trivial | assumption) | assumption | exact St.sub_upd _ (by assumption))
   exact hS.symm
 exact key _ 0 rfl (by omega) rfl
theorem Zqi (a b:Int):Yk Tryz.prog ZV.id [.sl .full 2 1 (Wu [.int .i64 0] ([0,1].zip [.int .i64 a,.int .i64 b]))] (.int .i64 (if a=0 then b else a)):=by
 have h:We inC (Wu [.int .i64 0] ([0,1].zip [.int .i64 a,.int .i64 b])) [a,b]:=fun i hi=>by
  match i,hi with
  | 0,_=>rfl
  | 1,_=>rfl
 refine ((ZiC [a,b]).leA (LeC.one (h.le rfl))).le ?_
 simp only [orS]
 split
 ·split
  ·rename_i h; rw [h]
  ·rfl
 ·rfl
theorem ZkA (a b:WP):Yk Tryz.prog WO.id [.agg a.cells,.agg b.cells] (.bool (ZbI a b)):=by
 refine YR WO.ok fun F st hret=>?_
 refine Za (Zb (Zc ?_))
 simp only [Eqs,reduceCtorEq,reduceIte,Nat.reduceEqDiff,Nat.reduceAdd,WO.r0,WP.cells]
 refine Za (Zb (Zc ?_))
 simp only [Eqs,reduceIte,Nat.reduceEqDiff,Nat.reduceAdd,Nat.reduceLeDiff,WO.r1]
 refine YS rfl rfl rfl rfl rfl (by trivial) (by trivial) (by exact ZeD a) (Zc ?_)
 simp only [Eqs,reduceIte,Nat.reduceEqDiff,Nat.reduceAdd,Nat.reduceLeDiff,WP.cells,Y4,slD]
 refine Za (Zb (Zc ?_))
 simp only [Eqs,reduceIte,Nat.reduceEqDiff,Nat.reduceAdd,Nat.reduceLeDiff,WO.r2]
 refine YS rfl rfl rfl rfl rfl (by trivial) (by trivial) (by exact ZeD b) (Zc ?_)
 simp only [Eqs,reduceIte,Nat.reduceEqDiff,Nat.reduceAdd,Nat.reduceLeDiff,WP.cells,Y4,slD]
 refine Za (Zb (Zc ?_))
 simp only [Eqs,reduceIte,Nat.reduceEqDiff,WO.r3]
 refine YS rfl rfl rfl rfl rfl (by trivial) (by trivial) (by exact Zqi _ _) (Zc ?_)
 simp only [Eqs,reduceIte,Nat.reduceEqDiff]
 refine JI rfl rfl rfl rfl rfl (fun hcg=>⟨by first | trivial | (simpa [Zan] using hcg),trivial,Zb0 (Zad a).1.terms (Zad b).1.terms⟩) (Zc ?_)
 simp only [Eqs,reduceIte,Nat.reduceEqDiff]
 have hE:ZbI a b=(decide ((if (Zad a).2=0 then (Zad b).2 else (Zad a).2)=0) && decide ((Zad a).1.base=(Zad b).1.base) && decide ((Zad a).1.terms=(Zad b).1.terms)):=by
  unfold ZbI Zad
  cases YM a
  ·simp
  ·cases YM b
   ·simp
   ·simp only [if_true,Bool.true_and,decide_true]
    generalize Zbb a=x
    generalize Zbb b=y
    cases x; cases y; simp
 rw [hE] at hret
 refine hret rfl (by first | trivial | simp) (Y1 ?_) (by first | exact St.sub_refl _ | exact ZM (by first | trivial | assumption) | assumption | exact St.sub_upd _ (by assumption))
 trivial
end Go.DL
namespace Go.DL
open Go Go.Proofs
theorem Zpd (f:Fld):Qc f=(decide (f.kind=1) || decide (f.kind=2) || decide (f.kind=3)):=by
 unfold Qc
 rw [Bool.eq_iff_iff]
 simp only [Bool.and_eq_true,Bool.or_eq_true,decide_eq_true_eq]
 omega
theorem Zid (f:Fld):Yk Tryz.prog WZ.id [.agg f.cells] (.bool (Qc f)):=by
 refine YR WZ.ok fun F st hret=>?_
 refine Za (Zb (Zc ?_))
 simp only [Eqs,reduceCtorEq,reduceIte,Nat.reduceEqDiff,WZ.r0,Fld.cells]
 refine Za (Zb (Zc ?_))
 simp only [Eqs,reduceIte,Nat.reduceEqDiff,WZ.r1]
 refine hret rfl (by first | trivial | simp) (Y1 ?_) (by first | exact St.sub_refl _ | exact ZM (by first | trivial | assumption) | assumption | exact St.sub_upd _ (by assumption))
 exact (Zpd f).symm
def Zgv (f:Fld):(Int × Int) × Int:=if Qc f then (KT f,0) else ((0,0),2)
theorem Zjn (f:Fld):Yk Tryz.prog YI.id [.agg f.cells] (.tup [QX (Zgv f).1,.int .i64 (Zgv f).2]):=by
 refine YR YI.ok fun F st hret=>?_
 have hS:=Zgv.eq_1 f
 refine Za (Zb (Zc ?_))
 simp only [Eqs,reduceCtorEq,reduceIte,Nat.reduceEqDiff,YI.r0,Fld.cells]
 refine Za (Zo (Za (Zb (Zc ?_))))
 simp only [Eqs,reduceIte,Nat.reduceEqDiff,Nat.reduceAdd,Nat.reduceLeDiff,YI.r1]
 refine YS rfl rfl rfl rfl rfl (by trivial) (by trivial) (by exact Zid f) (Zc ?_)
 simp only [Eqs,reduceIte,Nat.reduceEqDiff]
 refine Zg rfl trivial (fun h1=>?_) (fun h1=>?_)
 ·rw [if_neg (by simpa using h1)] at hS
  refine Za (Zb (Zc ?_))
  simp only [Eqs,reduceIte,Nat.reduceEqDiff,Nat.reduceAdd,Nat.reduceLeDiff,YI.r2]
  refine hret rfl (by first | trivial | simp) (J1 ?_ rfl) (St.sub_refl _)
  rw [hS]; rfl
 ·rw [if_pos (by simpa using h1)] at hS
  refine Za (Zb (Zc ?_))
  simp only [Eqs,reduceIte,Nat.reduceEqDiff,YI.r3]
  refine Zg rfl trivial (fun h2=>?_) (fun h2=>?_)
  ·refine Za (Zb (Zc ?_))
   simp only [Eqs,reduceIte,Nat.reduceEqDiff,Nat.reduceAdd,Nat.reduceLeDiff,YI.r4]
   refine hret rfl (by first | trivial | simp) (J1 ?_ rfl) (St.sub_refl _)
   rw [hS,KT,if_pos (by simpa using h2)]; rfl
  ·refine Zq (ZC (Za (Zb (Zc ?_))))
   simp only [Eqs,reduceIte,Nat.reduceEqDiff,Nat.reduceAdd,Nat.reduceLeDiff,YI.r5]
   refine hret rfl (by first | trivial | simp) (J1 ?_ rfl) (St.sub_refl _)
   rw [hS,KT,if_neg (by simpa using h2)]; rfl
def Qw (fs:List Fld):Nat→Zh3
 | 0=>[]
 | i + 1=>if Qc (fs.getD i default) then Kk (fs.getD i default).name (KT (fs.getD i default)) (Qw fs i) else Qw fs i
theorem Zbh (fs:List Fld) (st:St):ZY Tryz.prog ZL.id [Wl fs] st fun r S=>∃ b,st b=none∧r = .ret (.map b)∧S=st.upd b (.map (Jr (Qw fs fs.length))):=by
 refine Zcy ZL.ok fun hwf F hF=>?_
 have hw:=(ZfA (hwf (Wl fs) (by simp))).1
 unfold big at hw
 clear hwf
 refine Za (Zb (Zc ?_))
 simp only [Eqs,reduceCtorEq,reduceIte,ZL.r0]
 refine Za (Zb (Zc ?_))
 simp only [Eqs,reduceCtorEq,reduceIte,Nat.reduceEqDiff,ZL.r1]
 intro b hb
 refine Za (Za (Zb (Zc ?_)))
 simp only [Eqs,reduceCtorEq,reduceIte,Nat.reduceEqDiff,ZL.r2,Wl,slD]
 refine Zo (YH ?_)
 have key:∀ (n i:Nat),(fs.length) - i=n→i≤fs.length→ZU F [.code (ZL.l0),.inLoop ZL.l0,.inBlock 0,.code (.seq (qR ZL.r9 [2]) .ret)] [(3,.d (.map b)),(9,.d (Wl fs)),(10,.d (.int .i64 fs.length)),(11,.d (.int .i64 i))] [] (st.upd b (.map (Jr (Qw fs i)))):=by
  intro n
  induction n using Nat.strongRecOn with
  | ind n ih_key =>
  intro i hn hi
  refine Za (Zb (Zc ?_))
  simp only [Eqs,reduceIte,Nat.reduceEqDiff,ZL.r3]
  refine Za (Zg rfl trivial (fun h1=>?_) (fun h1=>?_))
  ·simp at h1
   have hsn:Qw fs (i + 1)=if Qc (fs.getD i default) then Kk (fs.getD i default).name (KT (fs.getD i default)) (Qw fs i) else Qw fs i:=rfl
   generalize hf:fs.getD i default=f at *
   have hP:=Zgv.eq_1 f
   refine Zq (Za (Zo (Za (Zb (Zc ?_)))))
   simp only [Eqs,reduceIte,Nat.reduceEqDiff,Nat.reduceAdd,Nat.reduceLeDiff,ZL.r4,Wl,slD,Fld.cells,hf]
   repeat (refine And.intro (by first | omega | trivial | (intro h0; simp at h0; omega)) ?_)
   refine Za (Zb (Zc ?_))
   simp only [Eqs,reduceIte,Nat.reduceEqDiff,Nat.reduceAdd,Nat.reduceLeDiff,ZL.r5]
   refine YS rfl rfl rfl rfl rfl (by trivial) (by trivial) (by exact Zjn f) (Zc ?_)
   simp only [Eqs,reduceIte,Nat.reduceEqDiff,Nat.reduceAdd,Nat.reduceLeDiff,QX]
   refine Za (Zb (Zc ?_))
   simp only [Eqs,reduceIte,Nat.reduceEqDiff,ZL.r6]
   refine Zg rfl trivial (fun h2=>?_) (fun h2=>?_)
   ·have hnum:Qc f=true:=by
     cases hx:Qc f with
     | true=>rfl
     | false=>rw [hP,hx] at h2; simp at h2
    rw [if_pos hnum] at hP hsn
    have e2:=Zby (vD:=QX) Wk f.name (KT f) (Qw fs i)
    have e3:=Qh Wk f.name
    simp only [show QY f.name=D.str f.name from rfl,show QX (KT f)=D.agg [.int .i64 (KT f).1,.int .i64 (KT f).2] from rfl] at e2 e3
    have hP1:(Zgv f).1=KT f:=by rw [hP]
    refine Zb (Zc ?_)
    simp only [Eqs,reduceIte,Nat.reduceEqDiff,Nat.reduceAdd,Nat.reduceLeDiff,ZL.r7,hP1,e2,St.upd_same,St.upd_upd]
    refine ZC (Zb (Zc ?_))
    simp only [Eqs,reduceIte,Nat.reduceEqDiff,ZL.r8]
    repeat (refine And.intro (by first | omega | trivial | (intro h0; simp at h0; omega)) ?_)
    rw [← hsn]
    refine Z3 ?_
    exact ih_key ((fs.length) - (i + 1)) (by omega) (i + 1) rfl (by omega)
   ·have hnum:Qc f=false:=by
     cases hx:Qc f with
     | true=>rw [hP,hx] at h2; simp at h2
     | false=>rfl
    rw [if_neg (by rw [hnum]; simp)] at hsn
    refine Zq (ZC (Zb (Zc ?_)))
    simp only [Eqs,reduceIte,Nat.reduceEqDiff,ZL.r8]
    repeat (refine And.intro (by first | omega | trivial | (intro h0; simp at h0; omega)) ?_)
    rw [← hsn]
    refine Z3 ?_
    exact ih_key ((fs.length) - (i + 1)) (by omega) (i + 1) rfl (by omega)
  ·simp at h1
   obtain rfl:i=fs.length:=by omega
   refine Ys rfl (Za (Zb (Zc ?_)))
   simp only [Eqs,reduceIte,Nat.reduceEqDiff,ZL.r9]
   exact hF.ret _ _ rfl (by trivial) (D.Le.refl _) (St.sub_refl _) ⟨b,hb,rfl,rfl⟩
 exact key _ 0 rfl (by omega)
theorem Zia (m:Msg) (st:St):ZY Tryz.prog W0.id [.agg m.cells] st fun r S=>∃ b,st b=none∧r = .ret (.map b)∧S=st.upd b (.map (Jr (Qw m.fields m.fields.length))):=by
 refine ZP W0.ok fun F hF=>?_
 refine Za (Zb (Zc ?_))
 simp only [Eqs,reduceCtorEq,reduceIte,Nat.reduceEqDiff,W0.r0,Msg.cells]
 refine Za (Zb (Zc ?_))
 simp only [Eqs,reduceIte,Nat.reduceEqDiff,W0.r1]
 refine Z6 rfl rfl rfl rfl rfl (by trivial) (by trivial) (by exact Zbh m.fields st) ?_ ?_
 ·rintro d S ⟨b,hb,hd,rfl⟩
  cases hd
  refine Zc ?_
  simp only [Eqs,reduceIte,Nat.reduceEqDiff]
  exact hF.ret _ _ rfl (by trivial) (D.Le.refl _) (St.sub_refl _) ⟨b,hb,rfl,rfl⟩
 ·rintro d S ⟨b,hb,hd,_⟩
  cases hd
end Go.DL
namespace Go.DL
open Go Go.Proofs
theorem ZdQ (l:List Msg) (f:D) (p:Msg→Bool) (sts:Nat→St)
  (hf:∀ i,i < l.length→VT Tryz.prog f [.agg (l.getD i default).cells] (sts i) (.bool (p (l.getD i default))) (sts (i + 1))) :
  YD Tryz.prog Yl.id [slD 2 Msg.cells l,f] (sts 0) (.tup [.int .i64 (max (ZQ p l) 0),.bool (decide (0≤ZQ p l))]) (sts (QQ p l)):=by
 refine YG Yl.ok fun hwf F hret=>?_
 clear hwf
 refine Za (Zb (Zc ?_))
 simp only [Eqs,reduceCtorEq,reduceIte,Nat.reduceEqDiff,Nat.reduceAdd,Yl.r0]
 refine Za (Zb (Zc ?_))
 simp only [Eqs,reduceCtorEq,reduceIte,Nat.reduceEqDiff,Yl.r1]
 refine YF rfl rfl rfl rfl rfl (by trivial) (by trivial) (by exact ZcH l f p sts hf) (Zc ?_)
 simp only [Eqs,reduceCtorEq,reduceIte,Nat.reduceEqDiff]
 refine Za (Zb (Zc ?_))
 simp only [Eqs,reduceIte,Nat.reduceEqDiff,Yl.r2]
 exact hret rfl (by trivial) (J1 rfl rfl) (St.sub_refl _)
theorem ZeM (l:List Fld) (f:D) (p:Fld→Bool) (sts:Nat→St)
  (hf:∀ i,i < l.length→VT Tryz.prog f [.agg (l.getD i default).cells] (sts i) (.bool (p (l.getD i default))) (sts (i + 1))) :
  YD Tryz.prog Yv.id [slD 15 Fld.cells l,f] (sts 0) (.tup [.int .i64 (max (ZQ p l) 0),.bool (decide (0≤ZQ p l))]) (sts (QQ p l)):=by
 refine YG Yv.ok fun hwf F hret=>?_
 clear hwf
 refine Za (Zb (Zc ?_))
 simp only [Eqs,reduceCtorEq,reduceIte,Nat.reduceEqDiff,Nat.reduceAdd,Yv.r0]
 refine Za (Zb (Zc ?_))
 simp only [Eqs,reduceCtorEq,reduceIte,Nat.reduceEqDiff,Yv.r1]
 refine YF rfl rfl rfl rfl rfl (by trivial) (by trivial) (by exact Zao l f p sts hf) (Zc ?_)
 simp only [Eqs,reduceCtorEq,reduceIte,Nat.reduceEqDiff]
 refine Za (Zb (Zc ?_))
 simp only [Eqs,reduceIte,Nat.reduceEqDiff,Yv.r2]
 exact hret rfl (by trivial) (J1 rfl rfl) (St.sub_refl _)
theorem Zfn (l:List Y9) (f:D) (p:Y9→Bool) (sts:Nat→St)
  (hf:∀ i,i < l.length→VT Tryz.prog f [.agg (l.getD i default).cells] (sts i) (.bool (p (l.getD i default))) (sts (i + 1))) :
  YD Tryz.prog YN.id [slD 3 Y9.cells l,f] (sts 0) (.tup [.int .i64 (max (ZQ p l) 0),.bool (decide (0≤ZQ p l))]) (sts (QQ p l)):=by
 refine YG YN.ok fun hwf F hret=>?_
 clear hwf
 refine Za (Zb (Zc ?_))
 simp only [Eqs,reduceCtorEq,reduceIte,Nat.reduceEqDiff,Nat.reduceAdd,YN.r0]
 refine Za (Zb (Zc ?_))
 simp only [Eqs,reduceCtorEq,reduceIte,Nat.reduceEqDiff,YN.r1]
 refine YF rfl rfl rfl rfl rfl (by trivial) (by trivial) (by exact Zdu l f p sts hf) (Zc ?_)
 simp only [Eqs,reduceCtorEq,reduceIte,Nat.reduceEqDiff]
 refine Za (Zb (Zc ?_))
 simp only [Eqs,reduceIte,Nat.reduceEqDiff,YN.r2]
 exact hret rfl (by trivial) (J1 rfl rfl) (St.sub_refl _)
theorem ZhO (x:Msg) (s:Str) (b:Nat) (st:St) (hb:st b=some (.cells [.str s])):YD Tryz.prog WN.id [.agg x.cells,.ptr b 0] st (.bool (decide (x.name=s))) st:=by
 refine YG WN.ok fun hwf F hret=>?_
 clear hwf
 refine Za (Zb (Zc ?_))
 simp only [Eqs,reduceCtorEq,reduceIte,Nat.reduceEqDiff,Nat.reduceAdd,WN.r0,Msg.cells]
 refine Za (Zb (Zc ?_))
 simp only [Eqs,reduceIte,Nat.reduceEqDiff,WN.r1,hb]
 exact hret rfl (by trivial) (D.Le.refl _) (St.sub_refl _)
theorem Zhe (x:Fld) (s:Str) (b:Nat) (st:St) (hb:st b=some (.cells [.str s])):YD Tryz.prog WC.id [.agg x.cells,.ptr b 0] st (.bool (decide (x.name=s))) st:=by
 refine YG WC.ok fun hwf F hret=>?_
 clear hwf
 refine Za (Zb (Zc ?_))
 simp only [Eqs,reduceCtorEq,reduceIte,Nat.reduceEqDiff,Nat.reduceAdd,WC.r0,Fld.cells]
 refine Za (Zb (Zc ?_))
 simp only [Eqs,reduceIte,Nat.reduceEqDiff,WC.r1,hb]
 exact hret rfl (by trivial) (D.Le.refl _) (St.sub_refl _)
theorem ZeE (d:Dfn) (s:Str):Yk Tryz.prog Ks.id [.agg d.cells,.str s] (.tup [.int .i64 (max (ZQ (fun x=>decide (x.name=s)) d.msgs) 0),.bool (decide (0≤ZQ (fun x=>decide (x.name=s)) d.msgs))]):=by
 refine YR Ks.ok fun F st hret=>?_
 refine Za (Zb (Zc ?_))
 simp only [Eqs,reduceCtorEq,reduceIte,Nat.reduceEqDiff,Nat.reduceAdd,Ks.r0,Dfn.cells]
 refine Za ?_
 refine Yp 3 rfl fun b hb=>?_
 simp only [reduceIte,Nat.reduceEqDiff,Yz,Wi,delL]
 refine Zb (Zc ?_)
 simp only [Eqs,reduceIte,Nat.reduceEqDiff,Ks.r1]
 refine YF rfl rfl rfl rfl rfl (by trivial) (by trivial) (by exact ZdQ d.msgs (.fn (.func WN.id) [] [.ptr b 0]) (fun x=>decide (x.name=s)) (fun _=>st.upd b (.cells [.str s])) (fun i hi=>(ZhO _ s b _ (St.upd_same _ _ _)).VT (first:=[]) (args:=[_]) (caps:=[_]))) (Zc ?_)
 simp only [Eqs,reduceIte,Nat.reduceEqDiff]
 exact hret rfl (by trivial) (J1 rfl rfl) (St.sub_upd _ hb)
theorem Zd5 (d:Msg) (s:Str):Yk Tryz.prog Ka.id [.agg d.cells,.str s] (.tup [.int .i64 (max (ZQ (fun x=>decide (x.name=s)) d.fields) 0),.bool (decide (0≤ZQ (fun x=>decide (x.name=s)) d.fields))]):=by
 refine YR Ka.ok fun F st hret=>?_
 refine Za (Zb (Zc ?_))
 simp only [Eqs,reduceCtorEq,reduceIte,Nat.reduceEqDiff,Nat.reduceAdd,Ka.r0,Msg.cells]
 refine Za ?_
 refine Yp 3 rfl fun b hb=>?_
 simp only [reduceIte,Nat.reduceEqDiff,Yz,Wi,delL]
 refine Zb (Zc ?_)
 simp only [Eqs,reduceIte,Nat.reduceEqDiff,Ka.r1]
 refine YF rfl rfl rfl rfl rfl (by trivial) (by trivial) (by exact ZeM d.fields (.fn (.func WC.id) [] [.ptr b 0]) (fun x=>decide (x.name=s)) (fun _=>st.upd b (.cells [.str s])) (fun i hi=>(Zhe _ s b _ (St.upd_same _ _ _)).VT (first:=[]) (args:=[_]) (caps:=[_]))) (Zc ?_)
 simp only [Eqs,reduceIte,Nat.reduceEqDiff]
 exact hret rfl (by trivial) (J1 rfl rfl) (St.sub_upd _ hb)
theorem Zh8 (c:Y9) (tag:Int) (b:Nat) (st:St) (hb:st b=some (.cells [.int .i64 tag])):YD Tryz.prog WM.id [.agg c.cells,.ptr b 0] st (.bool (decide (c.low≤tag) && decide (tag≤c.high))) st:=by
 refine YG WM.ok fun hwf F hret=>?_
 clear hwf
 refine Za (Zb (Zc ?_))
 simp only [Eqs,reduceCtorEq,reduceIte,Nat.reduceEqDiff,Nat.reduceAdd,WM.r0,Y9.cells]
 refine Za (Zb (Zc ?_))
 simp only [Eqs,reduceIte,Nat.reduceEqDiff,WM.r1,hb]
 exact hret rfl (by trivial) (D.Le.refl _) (St.sub_refl _)
theorem ZjG (f:Fld) (tag:Int):Yk Tryz.prog Ku.id [.agg f.cells,.int .i64 tag] (.tup [.int .i64 (max (Zc9 f tag) 0),.bool (decide (0≤Zc9 f tag))]):=by
 refine YR Ku.ok fun F st hret=>?_
 refine Za (Zb (Zc ?_))
 simp only [Eqs,reduceCtorEq,reduceIte,Nat.reduceEqDiff,Nat.reduceAdd,Ku.r0,Fld.cells]
 refine Za ?_
 refine Yp 3 rfl fun b hb=>?_
 simp only [reduceIte,Nat.reduceEqDiff,Yz,Wi,delL]
 refine Zb (Zc ?_)
 simp only [Eqs,reduceIte,Nat.reduceEqDiff,Ku.r1]
 refine YF rfl rfl rfl rfl rfl (by trivial) (by trivial) (by exact Zfn f.cases (.fn (.func WM.id) [] [.ptr b 0]) (fun c=>decide (c.low≤tag) && decide (tag≤c.high)) (fun _=>st.upd b (.cells [.int .i64 tag])) (fun i hi=>(Zh8 _ tag b _ (St.upd_same _ _ _)).VT (first:=[]) (args:=[_]) (caps:=[_]))) (Zc ?_)
 simp only [Eqs,reduceIte,Nat.reduceEqDiff]
 exact hret rfl (by trivial) (J1 rfl rfl) (St.sub_upd _ hb)
end Go.DL
namespace Go.DL
open Go Go.Proofs
structure Ck where
 d:Dfn
 at_:Int
 field:Int
 m:Msg
def Ck.cells (k:Ck) (bd bs:Nat):List D:=[.str k.d.name,Kf k.d.msgs,.str k.d.start,.map bd,.map bs,.int .i64 k.at_,.int .i64 k.field,.str k.m.name,Wl k.m.fields]
structure Q3 (st:St) (x bd bs:Nat) (k:Ck) (dl:List (Str × Int)) (sl:List (Str × Bool)):Prop where
 x:st x=some (.cells (k.cells bd bs))
 bd:st bd=some (.map (ZfE dl))
 bs:st bs=some (.map (Zc4 sl))
theorem Q3.mono {st A:St} {x bd bs:Nat} {k:Ck} {dl:List (Str × Int)} {sl:List (Str × Bool)} (h:Q3 st x bd bs k dl sl) (hs:st.sub A):Q3 A x bd bs k dl sl:=⟨hs _ _ h.x,hs _ _ h.bd,hs _ _ h.bs⟩
def ZcM (d:D):Prop:=∃ a f c,d = .iface 72 (.agg [.int .i64 a,.int .i64 f,.int .i64 c])
def K4 (ok:Bool) (st:St) (r:Res) (S:St):Prop:=S=st∧if ok then r = .ret (.tup []) else ∃ d,ZcM d∧r = .panic d
theorem W8 {ok:Bool} {st S:St} {d:D} (h:K4 ok st (.ret d) S):ok=true∧d = .tup []∧S=st:=by
 obtain ⟨h1,h2⟩:=h
 cases ok with
 | true=>simp at h2; exact ⟨rfl,h2,h1⟩
 | false=>simp at h2
theorem W9 {ok:Bool} {st S:St} {d:D} (h:K4 ok st (.panic d) S):ok=false∧ZcM d∧S=st:=by
 obtain ⟨h1,h2⟩:=h
 cases ok with
 | true=>simp at h2
 | false=>simp at h2; exact ⟨rfl,h2,h1⟩
theorem ZaV {ok:Bool} {st:St} (h:ok=true):K4 ok st (.ret (.tup [])) st:=by subst h; exact ⟨rfl,rfl⟩
theorem KS {ok:Bool} {st:St} {d:D} (h:ok=false) (hd:ZcM d):K4 ok st (.panic d) st:=by subst h; exact ⟨rfl,d,hd,rfl⟩
def ZgF (a f c:Int):D:=.iface 72 (.agg [.int .i64 a,.int .i64 f,.int .i64 c])
theorem Zlp (a f c:Int):ZcM (ZgF a f c):=⟨a,f,c,rfl⟩
theorem ZdZ {x bd bs:Nat} {k:Ck} {st:St} (hx:st x=some (.cells (k.cells bd bs))) (fine:Bool) (code:Int):ZY Tryz.prog YL.id [.ptr x 0,.bool fine,.int .i64 code] st (fun r S=>S=st∧r=if fine then .ret (.tup []) else .panic (ZgF k.at_ k.field code)):=by
 refine ZP YL.ok fun F hF=>?_
 refine Za (Zb (Zc ?_))
 simp only [Eqs,reduceCtorEq,reduceIte,Nat.reduceEqDiff,Nat.reduceAdd,YL.r0]
 refine Zg rfl trivial (fun h=>?_) (fun h=>?_)
 ·have hf:fine=false:=by simpa using h
  refine KU (Kz ?_)
  simp only [Eqs,reduceCtorEq,reduceIte,Nat.reduceEqDiff,Nat.reduceAdd,Nat.reduceLeDiff,YL.r1,hx,Ck.cells]
  refine ZmS rfl rfl rfl trivial ?_
  exact hF.pan st (St.sub_refl _) ⟨rfl,by rw [hf]; rfl⟩
 ·have hf:fine=true:=by simpa using h
  refine Zq ?_
  exact hF.fin (.tup []) st rfl trivial (D.Le.refl _) (St.sub_refl _) ⟨rfl,by rw [hf]; rfl⟩
theorem YW {x bd bs:Nat} {k:Ck} {st:St} (hx:st x=some (.cells (k.cells bd bs))) (fine:Bool) (code:Int):ZY Tryz.prog YL.id [.ptr x 0,.bool fine,.int .i64 code] st (K4 fine st) :=
 (ZdZ hx fine code).mono fun r S ⟨h1,h2⟩=>by
  subst h1
  cases fine with
  | true=>exact ⟨rfl,h2⟩
  | false=>exact ⟨rfl,_,Zlp _ _ _,h2⟩
theorem ZhQ (o:Option Int):Ke (.int .i64 0) true (o.map QZ) = .tup [.int .i64 (o.getD 0),.bool o.isSome]:=by cases o <;> rfl
theorem Ziv (o:Option (Int × Int)):Ke (.agg [.int .i64 0,.int .i64 0]) true (o.map QX) = .tup [.agg [.int .i64 (o.getD (0,0)).1,.int .i64 (o.getD (0,0)).2],.bool o.isSome]:=by cases o <;> rfl
theorem ZbF {x bd bs:Nat} {k:Ck} {dl:List (Str × Int)} {sl:List (Str × Bool)} {st:St} (hst:Q3 st x bd bs k dl sl) (name:Str):ZY Tryz.prog YP.id [.ptr x 0,.str name] st (K4 (ZS name dl).isSome st):=by
 refine ZP YP.ok fun F hF=>?_
 have e1:=KK (vD:=QZ) Wk name dl
 have e3:=Qh Wk name
 simp only [show QY name=D.str name from rfl] at e1 e3
 refine Za (Zb (Zc ?_))
 simp only [Eqs,reduceCtorEq,reduceIte,Nat.reduceEqDiff,Nat.reduceAdd,YP.r0,hst.x,hst.bd,Ck.cells,e1,-Ke,ZhQ]
 refine Zb (Zc ?_)
 simp only [Eqs,reduceCtorEq,reduceIte,Nat.reduceEqDiff,YP.r1]
 refine Z6 rfl rfl rfl rfl rfl (by trivial) (by trivial) (by exact YW hst.x (ZS name dl).isSome 8) ?_ ?_
 ·rintro d S h
  obtain ⟨hok,rfl,rfl⟩:=W8 h
  refine Zc ?_
  simp only [Eqs]
  exact hF.fin (.tup []) S rfl trivial (D.Le.refl _) (St.sub_refl _) (ZaV hok)
 ·rintro d S h
  obtain ⟨hok,hfl,rfl⟩:=W9 h
  exact hF.pan S (St.sub_refl _) (KS hok hfl)
theorem Jo {x bd bs:Nat} {k:Ck} {st:St} (hx:st x=some (.cells (k.cells bd bs))) {n:Nat} (hn:k.field=n) (hl:n≤k.m.fields.length):YD Tryz.prog YB.id [.ptr x 0] st (Wl (k.m.fields.take n)) st:=by
 refine YG YB.ok fun hwf F hret=>?_
 clear hwf
 refine Za (Zb (Zc ?_))
 simp only [Eqs,reduceCtorEq,reduceIte,YB.r0]
 refine Za (KU (Kz ?_))
 simp only [Eqs,reduceCtorEq,reduceIte,Nat.reduceEqDiff,Nat.reduceAdd,YB.r1,hx,Ck.cells,Wl,slD,hn]
 refine ⟨by omega,by omega,by omega,?_⟩
 rw [ite_self]
 have hrow:We Fld.cells (fun i=>(k.m.fields.getD i default).cells) (k.m.fields.take n):=We.self.take n
 exact hret rfl (by trivial) (ZaN (hrow.le (by rw [List.length_take]; omega))) (St.sub_refl _)
def W1:Int→Int→List Int→Bool
 | _,_,[]=>true
 | low,high,n :: r=>decide (low≤n) && decide (n≤high) && W1 n high r
theorem ZdO {x bd bs:Nat} {k:Ck} {st:St} (hx:st x=some (.cells (k.cells bd bs))) (low high:Int) (l:List Int):ZY Tryz.prog ZD.id [.ptr x 0,.int .i64 low,.int .i64 high,slD 1 inC l] st (K4 (W1 low high l) st):=by
 refine Zcy ZD.ok fun hwf F hF=>?_
 have hw:=(K6 (hwf (slD 1 inC l) (by simp))).1
 unfold big at hw
 clear hwf
 refine Za (Zb (Zc ?_))
 simp only [Eqs,reduceCtorEq,reduceIte,Nat.reduceEqDiff,Nat.reduceAdd,ZD.r0,slD]
 refine Zo (YH ?_)
 have key:∀ (n i:Nat),(l.length) - i=n→∀ lo,W1 low high l=W1 lo high (l.drop i)→i≤l.length→ZU F [.code (ZD.l0),.inLoop ZD.l0,.inBlock 0] [(0,.d (.ptr x 0)),(1,.d (.int .i64 lo)),(2,.d (.int .i64 high)),(10,.d (slD 1 inC l)),(11,.d (.int .i64 l.length)),(12,.d (.int .i64 i))] [] st:=by
  intro n
  induction n using Nat.strongRecOn with
  | ind n ih_key =>
  intro i hn lo hS hi
  refine Za (Zb (Zc ?_))
  simp only [Eqs,reduceCtorEq,reduceIte,Nat.reduceEqDiff,ZD.r1]
  refine Za (Zg rfl trivial (fun h1=>?_) (fun h1=>?_))
  ·simp at h1
   rw [J4 h1,W1] at hS
   generalize hv:l.getD i default=v at *
   refine Zq (Za (Zo (Za (Zb (Zc ?_)))))
   simp only [Eqs,reduceCtorEq,reduceIte,Nat.reduceEqDiff,ZD.r2,slD,inC,hv]
   repeat (refine And.intro (by first | omega | trivial | (intro h0; simp at h0; omega)) ?_)
   refine Za (Zb (Zc ?_))
   simp only [Eqs,reduceCtorEq,reduceIte,Nat.reduceEqDiff,ZD.r3]
   refine Z6 rfl rfl rfl rfl rfl (by trivial) (by trivial) (by exact YW hx (decide (lo≤v) && decide (v≤high)) 7) ?_ ?_
   ·rintro d S h
    obtain ⟨hok,rfl,rfl⟩:=W8 h
    rw [hok,Bool.true_and] at hS
    refine Zc ?_
    simp only [Eqs,reduceCtorEq,reduceIte,Nat.reduceEqDiff]
    refine Zb (Zc ?_)
    simp only [Eqs,reduceCtorEq,reduceIte,Nat.reduceEqDiff,ZD.r4]
    refine ZC (Zb (Zc ?_))
    simp only [Eqs,reduceCtorEq,reduceIte,Nat.reduceEqDiff,ZD.r5]
    repeat (refine And.intro (by first | omega | trivial | (intro h0; simp at h0; omega)) ?_)
    refine Z3 ?_
    exact ih_key ((l.length) - (i + 1)) (by omega) (i + 1) rfl v hS (by omega)
   ·rintro d S h
    obtain ⟨hok,hfl,rfl⟩:=W9 h
    rw [hok,Bool.false_and] at hS
    exact hF.pan S (St.sub_refl _) (KS hS hfl)
  ·simp at h1
   obtain rfl:i=l.length:=by omega
   rw [List.drop_length,W1] at hS
   refine Ys rfl ?_
   exact hF.fin (.tup []) st rfl trivial (D.Le.refl _) (St.sub_refl _) (ZaV hS)
 exact key _ 0 rfl low rfl (by omega)
def ZcE (f:Fld):Bool:=decide (1≤f.bits) && decide (f.bits≤32) && (!f.little || (decide (8 < f.bits) && decide (f.bits.tmod 8=0)))
theorem ZeC {x bd bs:Nat} {k:Ck} {st:St} (hx:st x=some (.cells (k.cells bd bs))) (f:Fld):ZY Tryz.prog YV.id [.ptr x 0,.agg f.cells] st (K4 (ZcE f) st):=by
 refine ZP YV.ok fun F hF=>?_
 refine Za (Zb (Zc ?_))
 simp only [Eqs,reduceCtorEq,reduceIte,Nat.reduceEqDiff,Nat.reduceAdd,YV.r0,Fld.cells]
 refine Zb (Zc ?_)
 simp only [Eqs,reduceCtorEq,reduceIte,Nat.reduceEqDiff,YV.r1]
 have ht1:=Int.tmod_lt_of_pos f.bits (by decide:(0:Int) < 8)
 have ht2:=Int.lt_tmod_of_pos f.bits (by decide:(0:Int) < 8)
 refine ⟨fun _=>⟨by decide,by omega,by omega⟩,?_⟩
 refine Z6 rfl rfl rfl rfl rfl (by trivial) (by trivial) (by exact YW hx (ZcE f) 6) ?_ ?_
 ·rintro d S h
  obtain ⟨hok,rfl,rfl⟩:=W8 h
  refine Zc ?_
  simp only [Eqs]
  exact hF.fin (.tup []) S rfl trivial (D.Le.refl _) (St.sub_refl _) (ZaV hok)
 ·rintro d S h
  obtain ⟨hok,hfl,rfl⟩:=W9 h
  exact hF.pan S (St.sub_refl _) (KS hok hfl)
end Go.DL
namespace Go.DL
open Go Go.Proofs
abbrev QL (fs:List Fld):Zh3:=Qw fs fs.length
abbrev ivP (fs:List Fld) (s:WP):Int × Int × Int:=KJ s fun k=>ZS k (QL fs)
def ZbA (fs:List Fld) (t:Z5):Bool:=(ZS t.field (QL fs)).isSome
def ZdD (fs:List Fld) (s:WP):Bool:=YM s && (s.terms.all (ZbA fs) && (decide ((ivP fs s).2.2=0) && decide (0≤(ivP fs s).1) && decide ((ivP fs s).2.1≤1048576)))
theorem ZbW {x bd bs:Nat} {k:Ck} {st:St} (hx:st x=some (.cells (k.cells bd bs))) {n:Nat} (hn:k.field=n) (hl:n≤k.m.fields.length) (f:Fld) :
  ZY Tryz.prog Zu.id [.ptr x 0,.agg f.cells] st (K4 (ZdD (k.m.fields.take n) f.size) st):=by
 refine ZP Zu.ok fun F hF=>?_
 have hS:=ZdD.eq_1 (k.m.fields.take n) f.size
 generalize hfs:k.m.fields.take n=fs at *
 refine Za (Zb (Zc ?_))
 simp only [Eqs,reduceCtorEq,reduceIte,Nat.reduceEqDiff,Nat.reduceAdd,Zu.r0,Fld.cells]
 refine Za (Wy (ZO ?_))
 simp only [Eqs,reduceIte,Nat.reduceEqDiff,Nat.reduceAdd,Nat.reduceLeDiff,Zu.r1]
 have hsz:D.agg [D.int IntKind.i64 f.size.base,Y4 f.size.terms] = .agg f.size.cells:=rfl
 simp only [hsz]
 refine Kp rfl rfl rfl rfl rfl (by trivial) (by trivial) (by exact Q4 f.size) (ZO ?_)
 simp only [Eqs,reduceIte]
 refine JP rfl rfl rfl rfl rfl (by trivial) (by trivial) (by exact YW hx (YM f.size) 9) ?_ ?_
 ·rintro d S h
  obtain ⟨hv,rfl,rfl⟩:=W8 h
  rw [hv,Bool.true_and] at hS
  first | refine ⟨by first | trivial | exact ⟨rfl,rfl,trivial⟩ | exact ⟨rfl,trivial⟩,?_⟩ | skip
  refine ZO ?_
  simp only [Eqs,reduceIte,Nat.reduceEqDiff]
  refine Za (Zb (Zc ?_))
  simp only [Eqs,reduceIte,Nat.reduceEqDiff,Zu.r2]
  refine YF rfl rfl rfl rfl rfl (by trivial) (by trivial) (by exact Jo hx hn hl) (Zc ?_)
  simp only [Eqs,hfs]
  refine Z6 rfl rfl rfl rfl rfl (by trivial) (by trivial) (by exact Zbh fs S) ?_ ?_
  ·rintro d S' ⟨b,hb,hd,rfl⟩
   cases hd
   refine Zc ?_
   simp only [Eqs,reduceIte,Nat.reduceEqDiff,Nat.reduceLeDiff]
   refine Za (Za ?_)
   refine Yp 2 rfl fun z2 h2=>?_
   simp only [reduceIte,Nat.reduceEqDiff,Yz,Wi,delL]
   refine Yp 4 rfl fun z4 h4=>?_
   simp only [reduceIte,Nat.reduceEqDiff,Yz,Wi,delL]
   have k2:=YY h2
   have k4:=YY h4
   have k4a:=YY k4.2
   have hxb:x≠b:=fun e=>by rw [e,hb] at hx; simp at hx
   have hx2:x≠z2:=fun e=>by rw [e,k2.2] at hx; simp at hx
   have hx4:x≠z4:=fun e=>by rw [e,k4a.2] at hx; simp at hx
   obtain ⟨A,hA⟩:∃ A,A=((S.upd b (.map (Jr (Qw fs fs.length)))).upd z2 (.cells [.ptr x 0])).upd z4 (.cells [.map b]):=⟨_,rfl⟩
   have gx:A x=some (.cells (k.cells bd bs)):=by rw [hA,St.upd_ne _ _ hx4,St.upd_ne _ _ hx2,St.upd_ne _ _ hxb]; exact hx
   have gb:A b=some (.map (Jr (QL fs))):=by rw [hA,St.upd_ne _ _ k4a.1.symm,St.upd_ne _ _ k2.1.symm]; exact St.upd_same _ _ _
   have g2:A z2=some (.cells [.ptr x 0]):=by rw [hA,St.upd_ne _ _ k4.1.symm]; exact St.upd_same _ _ _
   have g4:A z4=some (.cells [.map b]):=by rw [hA]; exact St.upd_same _ _ _
   have hSA:S.sub A:=by rw [hA]; exact St.sub_trans (St.sub_upd _ hb) (St.sub_trans (St.sub_upd _ h2) (St.sub_upd _ h4))
   rw [← hA]
   clear hA h2 h4 k2 k4 k4a
   refine Zb (Zc ?_)
   simp only [Eqs,reduceIte,Nat.reduceEqDiff,Nat.reduceAdd,Nat.reduceLeDiff,Zu.r3]
   simp only [hsz]
   have hfew:=Zaf hv
   refine Z6 rfl rfl rfl rfl rfl (by trivial) (by trivial) (by exact Zfs f.size hv _) ?_ ?_
   ·rintro d S' ⟨y,hy,hd,rfl⟩
    cases hd
    refine Zc ?_
    simp only [Eqs,reduceIte,Nat.reduceEqDiff]
    refine Zo ?_
    refine ZaK hF rfl trivial [2,4] (by show ([2,4]:List Nat).Nodup; decide) (Jc hy) (Zd9 f.size.terms (by unfold big; omega) y) (fun j hj=>rfl)
     (fun j=>if ZbA fs (f.size.terms.getD j default) then .next else .pan (ZgF k.at_ k.field 8)) (fun j a=>a=A) rfl ?_ ?_ ?_ ?_ ?_ ?_
    ·intro j a hj hno hB F' ready busy hdr hbeg hend
     subst hB
     simp only [Eqs,reduceIte,Nat.reduceEqDiff,Jw,Zab,Za9,JH,List.isEmpty_nil]
     refine Zb (Zc ?_)
     simp only [Eqs,reduceIte,Nat.reduceEqDiff,Zu.r4]
     refine hbeg fun hdb=>?_
     generalize htm:f.size.terms.getD j default=tm at *
     have e1:=KK (vD:=QX) Wk tm.field (QL fs)
     have e3:=Qh Wk tm.field
     simp only [show QY tm.field=D.str tm.field from rfl] at e1 e3
     refine Zo (Za (Zb (Zc ?_)))
     simp only [Eqs,reduceIte,Nat.reduceEqDiff,Nat.reduceAdd,Nat.reduceLeDiff,Zu.r5,Ya g4,Ya gb,e1,-Ke,Ziv]
     refine Zb (Zc ?_)
     simp only [Eqs,reduceIte,Nat.reduceEqDiff,Zu.r6,Ya g2]
     refine Z6 rfl rfl rfl rfl rfl (by trivial) (by trivial) (by exact ZdZ (st:=a.or busy) (Ya gx) (ZS tm.field (QL fs)).isSome 8) ?_ ?_
     ·rintro d S' ⟨rfl,h⟩
      cases hk:(ZS tm.field (QL fs)).isSome with
      | false=>rw [hk] at h; simp at h
      | true =>
       rw [hk] at h
       simp at h
       subst h
       refine Zc ?_
       simp only [Eqs,reduceIte,Nat.reduceEqDiff]
       refine ZC ?_
       exact hend.fin ⟨by rw [if_pos (show ZbA fs tm=true from hk)],rfl⟩ hdb (St.sub_refl _)
     ·rintro d S' ⟨rfl,h⟩
      cases hk:(ZS tm.field (QL fs)).isSome with
      | true=>rw [hk] at h; simp at h
      | false =>
       rw [hk] at h
       simp at h
       subst h
       exact hend.pan ⟨by rw [if_neg (by rw [show ZbA fs tm=false from hk]; simp)],rfl⟩ hdb (St.sub_refl _)
    ·intro q a hno hB hq
     subst hB
     have hall:f.size.terms.all (ZbA fs)=true:=by
      apply List.all_eq_true.2
      intro t ht
      obtain ⟨i,hi,rfl⟩:=List.getElem_of_mem ht
      have:=hno i hi
      split at this
      ·rename_i h; simpa [List.getD,hi] using h
      ·simp at this
     rw [hall,Bool.true_and] at hS
     rw [Q6 hq]
     refine ZC (Za (Zb (Zc ?_)))
     simp only [Eqs,reduceIte,Nat.reduceEqDiff,Nat.reduceAdd,Nat.reduceLeDiff,Zu.r7,Ya g4]
     simp only [hsz]
     refine Z6 rfl rfl rfl rfl rfl (by trivial) (by trivial) (by exact ZdI f.size b (QL fs) _ (Ya gb)) ?_ ?_
     ·rintro d S' ⟨hd,rfl⟩
      cases hd
      refine Zc ?_
      simp only [Eqs,reduceIte,Nat.reduceEqDiff,Nat.reduceAdd,Nat.reduceLeDiff,QX]
      refine Zb (Zc ?_)
      simp only [Eqs,reduceIte,Nat.reduceEqDiff,Zu.r8,Ya g2]
      refine Z6 rfl rfl rfl rfl rfl (by trivial) (by trivial) (by exact YW (st:=a.or (St.single q .dfr)) (Ya gx) (decide ((ivP fs f.size).2.2=0) && decide (0≤(ivP fs f.size).1) && decide ((ivP fs f.size).2.1≤1048576)) 9) ?_ ?_
      ·rintro d S' h
       obtain ⟨hok,rfl,rfl⟩:=W8 h
       rw [hok] at hS
       refine Zc ?_
       simp only [Eqs]
       exact hF.fin1 hq (.tup []) S rfl trivial (D.Le.refl _) hSA (ZaV hS)
      ·rintro d S' h
       obtain ⟨hok,hfl,rfl⟩:=W9 h
       rw [hok] at hS
       exact hF.pan1 hq S hSA (KS hS hfl)
     ·rintro d S' ⟨hd,_⟩
      cases hd
    ·intro q a m hm hno hgo
     split at hgo <;> simp at hgo
    ·intro q a m id hm hno hgo
     split at hgo <;> simp at hgo
    ·intro q a m d hm hno hgo hB hq
     subst hB
     rw [Q6 hq]
     have hbad:ZbA fs (f.size.terms.getD m default)=false:=by
      split at hgo
      ·simp at hgo
      ·rename_i h; simpa using h
     have hall:f.size.terms.all (ZbA fs)=false:=by
      apply List.all_eq_false.2
      exact ⟨_,KQ hm,by rw [hbad]; simp⟩
     rw [hall,Bool.false_and] at hS
     split at hgo
     ·simp at hgo
     ·simp at hgo
      subst hgo
      exact hF.pan1 hq S hSA (KS hS (Zlp _ _ _))
    ·intro m c hgo
     split at hgo <;> simp at hgo
   ·rintro d S' ⟨y,hy,hd,_⟩
    cases hd
  ·rintro d S' ⟨b,hb,hd,_⟩
   cases hd
 ·rintro d S h
  obtain ⟨hv,hfl,rfl⟩:=W9 h
  rw [hv,Bool.false_and] at hS
  exact hF.pan S (St.sub_refl _) (KS hS hfl)
end Go.DL
namespace Go.DL
open Go Go.Proofs
def Zb6 (dl:List (Str × Int)) (high:Int):Int→List Y9→Bool
 | _,[]=>true
 | low,c :: r=>W1 low high [c.low,c.high] && ((ZS c.of dl).isSome && Zb6 dl high (c.high + 1) r)
def Zdo (fs:List Fld) (f:Fld):Bool:=fs.any fun o=>decide (o.kind=9) && decide (o.tag=f.tag)
def Zgw (fs:List Fld) (dl:List (Str × Int)) (f:Fld):Bool :=
 ((ZS f.tag (QL fs)).isSome && !Zdo fs f) && ((decide (1≤(f.cases.length:Int)) && decide ((f.cases.length:Int)≤40)) && Zb6 dl ((ZS f.tag (QL fs)).getD (0,0)).2 ((ZS f.tag (QL fs)).getD (0,0)).1 f.cases)
theorem Zg9 (o:Fld) (f:Fld) (y:Nat) (st:St) (hy:st y=some (.cells f.cells)):YD Tryz.prog Ym.id [.agg o.cells,.ptr y 0] st (.bool (decide (o.kind=9) && decide (o.tag=f.tag))) st:=by
 refine YG Ym.ok fun hwf F hret=>?_
 clear hwf
 refine Za (Zb (Zc ?_))
 simp only [Eqs,reduceCtorEq,reduceIte,Nat.reduceEqDiff,Nat.reduceAdd,Ym.r0,Fld.cells]
 refine Za (Zb (Zc ?_))
 simp only [Eqs,reduceIte,Nat.reduceEqDiff,Ym.r1,hy,Fld.cells]
 exact hret rfl (by trivial) (D.Le.refl _) (St.sub_refl _)
theorem ZnY (a b:Int):We inC (Wu [.int .i64 0] ([0,1].zip [.int .i64 a,.int .i64 b])) [a,b]:=fun i hi=>by
 match i,hi with
 | 0,_=>rfl
 | 1,_=>rfl
theorem Zcm {x bd bs:Nat} {k:Ck} {st:St} (hx:st x=some (.cells (k.cells bd bs))) (low high a b:Int):ZY Tryz.prog ZD.id [.ptr x 0,.int .i64 low,.int .i64 high,.sl .full 2 1 (Wu [.int .i64 0] ([0,1].zip [.int .i64 a,.int .i64 b]))] st (K4 (W1 low high [a,b]) st) :=
 ZY.leA (.cons (D.Le.refl _) (.cons (D.Le.refl _) (.cons (D.Le.refl _) (LeC.one ((ZnY a b).le rfl))))) (ZdO hx low high [a,b])
theorem Jf {x bd bs:Nat} {k:Ck} {st:St} (hx:st x=some (.cells (k.cells bd bs))) (low high a:Int):ZY Tryz.prog ZD.id [.ptr x 0,.int .i64 low,.int .i64 high,.sl .full 1 1 (Wu [.int .i64 0] ([0].zip [.int .i64 a]))] st (K4 (W1 low high [a]) st) :=
 ZY.leA (.cons (D.Le.refl _) (.cons (D.Le.refl _) (.cons (D.Le.refl _) (LeC.one ((We.one (f:=inC) (x:=a) rfl).le rfl))))) (ZdO hx low high [a])
theorem ZiM {x bd bs:Nat} {k:Ck} {dl:List (Str × Int)} {sl:List (Str × Bool)} {st:St} (hst:Q3 st x bd bs k dl sl) {n:Nat} (hn:k.field=n) (hl:n≤k.m.fields.length) (f:Fld)
  (hR:((ZS f.tag (QL (k.m.fields.take n))).getD (0,0)).2 < 4611686018427387904) :
  ZY Tryz.prog Zl.id [.ptr x 0,.agg f.cells] st (K4 (Zgw (k.m.fields.take n) dl f) st):=by
 refine Zcy Zl.ok fun hwf F hF=>?_
 have hcw:=(ZqK (s:=f) (hwf _ (by simp))).cases
 clear hwf
 have hx:=hst.x
 have hS:=Zgw.eq_1 (k.m.fields.take n) dl f
 generalize hfs:k.m.fields.take n=fs at *
 have e1:=KK (vD:=QX) Wk f.tag (QL fs)
 have e3:=Qh Wk f.tag
 simp only [show QY f.tag=D.str f.tag from rfl] at e1 e3
 refine Za (Zb (Zc ?_))
 simp only [Eqs,reduceCtorEq,reduceIte,Nat.reduceEqDiff,Nat.reduceAdd,Zl.r0,Fld.cells]
 refine Za (Wy (ZO ?_))
 simp only [Eqs,reduceCtorEq,reduceIte,Nat.reduceEqDiff,Zl.r1]
 refine Zbx rfl rfl rfl rfl rfl (by trivial) (by trivial) (by exact Jo hx hn hl) (by first | trivial | exact ⟨rfl,trivial⟩ | simp [KO,QG]) (ZO ?_)
 simp only [Eqs,reduceIte,hfs]
 refine JP rfl rfl rfl rfl rfl (by trivial) (by trivial) (by exact Zbh fs st) ?_ ?_
 ·rintro d S ⟨b,hb,hd,rfl⟩
  cases hd
  first | refine ⟨by first | trivial | exact ⟨rfl,rfl,trivial⟩ | exact ⟨rfl,trivial⟩,?_⟩ | skip
  have hxb:x≠b:=fun e=>by rw [e,hb] at hx; simp at hx
  generalize hr:(ZS f.tag (QL fs)).getD (0,0)=r at *
  refine ZO ?_
  simp only [Eqs,reduceCtorEq,reduceIte,Nat.reduceEqDiff,Nat.reduceAdd,Nat.reduceLeDiff,e1,-Ke,Ziv,hr,St.upd_same]
  refine Za ?_
  refine Yp 3 rfl fun y hy=>?_
  simp only [reduceIte,Nat.reduceEqDiff,Yz,Wi,delL]
  obtain ⟨A,hA⟩:∃ A,A=((st.upd b (.map (Jr (Qw fs fs.length)))).upd y (.cells f.cells)):=⟨_,rfl⟩
  have hSA:st.sub A:=by rw [hA]; exact St.sub_trans (St.sub_upd _ hb) (St.sub_upd _ hy)
  have gy:A y=some (.cells f.cells):=by rw [hA]; exact St.upd_same _ _ _
  have hsA:=hst.mono hSA
  have hfc:[D.str f.name,D.int IntKind.i64 f.kind,D.int IntKind.i64 f.bits,D.bool f.little,D.bool f.loose,D.int IntKind.i64 f.low,D.int IntKind.i64 f.high,D.int IntKind.i64 f.size.base,Y4 f.size.terms,D.str f.of,D.str f.tag,D.str f.from_,Kx f.cases,D.int IntKind.i64 f.check,D.int IntKind.i64 f.key]=f.cells:=rfl
  rw [hfc,← hA]
  clear hA hy
  refine Zb (Zc ?_)
  simp only [Eqs,reduceCtorEq,reduceIte,Zl.r2]
  refine YF rfl rfl rfl rfl rfl (by trivial) (by trivial) (by exact Jo hsA.x hn hl) (Zc ?_)
  simp only [Eqs,reduceCtorEq,reduceIte,Nat.reduceEqDiff,hfs]
  refine YF rfl rfl rfl rfl rfl (by trivial) (by trivial) (by exact Zcu fs (.fn (.func Ym.id) [] [.ptr y 0]) (fun o=>decide (o.kind=9) && decide (o.tag=f.tag)) (fun _=>A) (fun i hi=>(Zg9 _ f y A gy).VT (first:=[]) (args:=[_]) (caps:=[_]))) (Zc ?_)
  simp only [Eqs,reduceCtorEq,reduceIte,Nat.reduceEqDiff]
  rw [show (fs.any fun o=>decide (o.kind=9) && decide (o.tag=f.tag))=Zdo fs f from rfl]
  refine Za (Zb (Zc ?_))
  simp only [Eqs,reduceCtorEq,reduceIte,Nat.reduceEqDiff,Zl.r3]
  refine Z6 rfl rfl rfl rfl rfl (by trivial) (by trivial) (by exact YW hsA.x ((ZS f.tag (QL fs)).isSome && !Zdo fs f) 8) ?_ ?_
  ·rintro d S h
   obtain ⟨hok,rfl,rfl⟩:=W8 h
   rw [hok,Bool.true_and] at hS
   refine Zc ?_
   simp only [Eqs,reduceCtorEq,reduceIte,Nat.reduceEqDiff]
   refine Za (Zb (Zc ?_))
   simp only [Eqs,reduceCtorEq,reduceIte,Nat.reduceEqDiff,Zl.r4,gy,Fld.cells,Kx,slD]
   refine Z6 rfl rfl rfl rfl rfl (by trivial) (by trivial) (by exact YW hsA.x (decide (1≤(f.cases.length:Int)) && decide ((f.cases.length:Int)≤40)) 3) ?_ ?_
   ·rintro d S2 h
    obtain ⟨hok,rfl,rfl⟩:=W8 h
    rw [hok,Bool.true_and] at hS
    simp only [Bool.and_eq_true,decide_eq_true_eq] at hok
    refine Zc ?_
    simp only [Eqs,reduceCtorEq,reduceIte,Nat.reduceEqDiff]
    refine Za (Zb (Zc ?_))
    simp only [Eqs,reduceCtorEq,reduceIte,Nat.reduceEqDiff,Zl.r5]
    refine Za (Zb (Zc ?_))
    simp only [Eqs,reduceCtorEq,reduceIte,Nat.reduceEqDiff,Zl.r6,gy,Fld.cells,Kx,slD]
    refine Zo (YH ?_)
    have key:∀ (n i:Nat),(f.cases.length) - i=n→∀ lo,Zb6 dl r.2 r.1 f.cases=Zb6 dl r.2 lo (f.cases.drop i)→i≤f.cases.length→ZU F [.code (Zl.l0),.inLoop Zl.l0,.inBlock 0] [(0,.d (.ptr x 0)),(4,.loc 4 0),(7,.d (.int .i64 lo)),(45,.d (Kx f.cases)),(46,.d (.int .i64 f.cases.length)),(47,.d (.int .i64 i))] [(4,[.int .i64 r.1,.int .i64 r.2])] S2:=by
     intro n
     induction n using Nat.strongRecOn with
     | ind n ih_key =>
     intro i hni lo hL hi
     refine Za (Zb (Zc ?_))
     simp only [Eqs,reduceCtorEq,reduceIte,Nat.reduceEqDiff,Zl.r7]
     refine Za (Zg rfl trivial (fun h1=>?_) (fun h1=>?_))
     ·simp at h1
      rw [J4 h1,Zb6] at hL
      have hcb:-9223372036854775808≤(f.cases.getD i default).high∧(f.cases.getD i default).high≤9223372036854775807:=(hcw _ (KQ h1)).high
      generalize hc:f.cases.getD i default=c at *
      refine Zq (Za (Zo (Za (Zb (Zc ?_)))))
      simp only [Eqs,reduceCtorEq,reduceIte,Nat.reduceEqDiff,Nat.reduceAdd,Nat.reduceLeDiff,Zl.r8,Kx,slD,Y9.cells,hc]
      repeat (refine And.intro (by first | omega | trivial | (intro h0; simp at h0; omega)) ?_)
      refine Za (Zb (Zc ?_))
      simp only [Eqs,reduceCtorEq,reduceIte,Nat.reduceEqDiff,Zl.r9]
      refine Z6 rfl rfl rfl rfl rfl (by trivial) (by trivial) (by exact Zcm hsA.x lo r.2 c.low c.high) ?_ ?_
      ·rintro d S3 h
       obtain ⟨hok2,rfl,rfl⟩:=W8 h
       rw [hok2,Bool.true_and] at hL
       simp only [W1,Bool.and_true,Bool.and_eq_true,decide_eq_true_eq] at hok2
       refine Zc ?_
       simp only [Eqs,reduceCtorEq,reduceIte,Nat.reduceEqDiff]
       refine Za (Zb (Zc ?_))
       simp only [Eqs,reduceCtorEq,reduceIte,Nat.reduceEqDiff,Zl.r10]
       refine Z6 rfl rfl rfl rfl rfl (by trivial) (by trivial) (by exact ZbF hsA c.of) ?_ ?_
       ·rintro d S4 h
        obtain ⟨hok3,rfl,rfl⟩:=W8 h
        rw [hok3,Bool.true_and] at hL
        refine Zc ?_
        simp only [Eqs,reduceCtorEq,reduceIte,Nat.reduceEqDiff]
        refine Zb (Zc ?_)
        simp only [Eqs,reduceCtorEq,reduceIte,Nat.reduceEqDiff,Zl.r11]
        repeat (refine And.intro (by first | omega | trivial | (intro h0; simp at h0; omega)) ?_)
        refine ZC (Zb (Zc ?_))
        simp only [Eqs,reduceCtorEq,reduceIte,Nat.reduceEqDiff,Zl.r12]
        repeat (refine And.intro (by first | omega | trivial | (intro h0; simp at h0; omega)) ?_)
        refine Z3 ?_
        exact ih_key ((f.cases.length) - (i + 1)) (by omega) (i + 1) rfl (c.high + 1) hL (by omega)
       ·rintro d S4 h
        obtain ⟨hok3,hfl,rfl⟩:=W9 h
        rw [hok3,Bool.false_and] at hL
        exact hF.pan st hSA (KS (hS.trans hL) hfl)
      ·rintro d S3 h
       obtain ⟨hok2,hfl,rfl⟩:=W9 h
       rw [hok2,Bool.false_and] at hL
       exact hF.pan st hSA (KS (hS.trans hL) hfl)
     ·simp at h1
      obtain rfl:i=f.cases.length:=by omega
      rw [List.drop_length,Zb6] at hL
      refine Ys rfl ?_
      exact hF.fin (.tup []) st rfl trivial (D.Le.refl _) hSA (ZaV (hS.trans hL))
    exact key _ 0 rfl r.1 rfl (by omega)
   ·rintro d S2 h
    obtain ⟨hok,hfl,rfl⟩:=W9 h
    rw [hok,Bool.false_and] at hS
    exact hF.pan st hSA (KS hS hfl)
  ·rintro d S h
   obtain ⟨hok,hfl,rfl⟩:=W9 h
   rw [hok,Bool.false_and] at hS
   exact hF.pan st hSA (KS hS hfl)
 ·rintro d S ⟨b,hb,hd,_⟩
  cases hd
end Go.DL
namespace Go.DL
open Go Go.Proofs
def ZlL (f:Fld):Fld:={ f with bits:=0,little:=false,low:=0,high:=0 }
theorem Zhf (f:Fld) (y:Nat) (s:St) (hy:s y=some (.cells f.cells)):YD Tryz.prog W5.id [.ptr y 0] s (.tup []) (s.upd y (.cells (ZlL f).cells)):=by
 refine ZP W5.ok fun F hF=>?_
 refine Zb (Zc ?_)
 simp only [Eqs,reduceCtorEq,reduceIte,Nat.reduceEqDiff,Nat.reduceAdd,Nat.reduceLeDiff,W5.r0,hy,Fld.cells,St.upd_same,St.upd_upd]
 exact hF.fin (.tup []) _ rfl trivial (D.Le.refl _) (St.sub_refl _) ⟨rfl,rfl⟩
def Zk2 (f:Fld):Fld:={ f with bits:=0,little:=false,low:=0 }
theorem Zg5 (f:Fld) (y:Nat) (s:St) (hy:s y=some (.cells f.cells)):YD Tryz.prog W4.id [.ptr y 0] s (.tup []) (s.upd y (.cells (Zk2 f).cells)):=by
 refine ZP W4.ok fun F hF=>?_
 refine Zb (Zc ?_)
 simp only [Eqs,reduceCtorEq,reduceIte,Nat.reduceEqDiff,Nat.reduceAdd,Nat.reduceLeDiff,W4.r0,hy,Fld.cells,St.upd_same,St.upd_upd]
 exact hF.fin (.tup []) _ rfl trivial (D.Le.refl _) (St.sub_refl _) ⟨rfl,rfl⟩
def ZlD (f:Fld):Fld:={ f with loose:=false,low:=0,high:=0 }
theorem Zhg (f:Fld) (y:Nat) (s:St) (hy:s y=some (.cells f.cells)):YD Tryz.prog W7.id [.ptr y 0] s (.tup []) (s.upd y (.cells (ZlD f).cells)):=by
 refine ZP W7.ok fun F hF=>?_
 refine Zb (Zc ?_)
 simp only [Eqs,reduceCtorEq,reduceIte,Nat.reduceEqDiff,Nat.reduceAdd,Nat.reduceLeDiff,W7.r0,hy,Fld.cells,St.upd_same,St.upd_upd]
 exact hF.fin (.tup []) _ rfl trivial (D.Le.refl _) (St.sub_refl _) ⟨rfl,rfl⟩
def Zi6 (f:Fld):Fld:={ f with size:=⟨0,[]⟩ }
theorem Zhd (f:Fld) (y:Nat) (s:St) (hy:s y=some (.cells f.cells)):YD Tryz.prog W6.id [.ptr y 0] s (.tup []) (s.upd y (.cells (Zi6 f).cells)):=by
 refine ZP W6.ok fun F hF=>?_
 refine Zb (Zc ?_)
 simp only [Eqs,reduceCtorEq,reduceIte,Nat.reduceEqDiff,Nat.reduceAdd,Nat.reduceLeDiff,W6.r0,hy,Fld.cells]
 refine QO (ds':=(Zi6 f).cells) (St.upd_same _ _ _) (.cons (D.Le.refl _) (.cons (D.Le.refl _) (.cons (D.Le.refl _) (.cons (D.Le.refl _) (.cons (D.Le.refl _) (.cons (D.Le.refl _) (.cons (D.Le.refl _) (.cons (D.Le.refl _) (.cons (K9 (by simp)) (.cons (D.Le.refl _) (.cons (D.Le.refl _) (.cons (D.Le.refl _) (.cons (D.Le.refl _) (.cons (D.Le.refl _) (.cons (D.Le.refl _) (.nil)))))))))))))))) ?_
 rw [St.upd_upd]
 exact hF.fin (.tup []) _ rfl trivial (D.Le.refl _) (St.sub_refl _) ⟨rfl,rfl⟩
def Zk9 (f:Fld):Fld:={ f with low:=0,high:=0 }
theorem Zhl (f:Fld) (y:Nat) (s:St) (hy:s y=some (.cells f.cells)):YD Tryz.prog W3.id [.ptr y 0] s (.tup []) (s.upd y (.cells (Zk9 f).cells)):=by
 refine ZP W3.ok fun F hF=>?_
 refine Zb (Zc ?_)
 simp only [Eqs,reduceCtorEq,reduceIte,Nat.reduceEqDiff,Nat.reduceAdd,Nat.reduceLeDiff,W3.r0,hy,Fld.cells,St.upd_same,St.upd_upd]
 exact hF.fin (.tup []) _ rfl trivial (D.Le.refl _) (St.sub_refl _) ⟨rfl,rfl⟩
def Zlm (f:Fld):Fld:={ f with loose:=false,high:=0 }
theorem Zge (f:Fld) (y:Nat) (s:St) (hy:s y=some (.cells f.cells)):YD Tryz.prog WV.id [.ptr y 0] s (.tup []) (s.upd y (.cells (Zlm f).cells)):=by
 refine ZP WV.ok fun F hF=>?_
 refine Zb (Zc ?_)
 simp only [Eqs,reduceCtorEq,reduceIte,Nat.reduceEqDiff,Nat.reduceAdd,Nat.reduceLeDiff,WV.r0,hy,Fld.cells,St.upd_same,St.upd_upd]
 exact hF.fin (.tup []) _ rfl trivial (D.Le.refl _) (St.sub_refl _) ⟨rfl,rfl⟩
def Zik (f:Fld):Fld:={ f with of:=[],size:=⟨0,[]⟩ }
theorem ZfP (f:Fld) (y:Nat) (s:St) (hy:s y=some (.cells f.cells)):YD Tryz.prog WU.id [.ptr y 0] s (.tup []) (s.upd y (.cells (Zik f).cells)):=by
 refine ZP WU.ok fun F hF=>?_
 refine Zb (Zc ?_)
 simp only [Eqs,reduceCtorEq,reduceIte,Nat.reduceEqDiff,Nat.reduceAdd,Nat.reduceLeDiff,WU.r0,hy,Fld.cells,St.upd_same,St.upd_upd]
 refine QO (ds':=(Zik f).cells) (St.upd_same _ _ _) (.cons (D.Le.refl _) (.cons (D.Le.refl _) (.cons (D.Le.refl _) (.cons (D.Le.refl _) (.cons (D.Le.refl _) (.cons (D.Le.refl _) (.cons (D.Le.refl _) (.cons (D.Le.refl _) (.cons (K9 (by simp)) (.cons (D.Le.refl _) (.cons (D.Le.refl _) (.cons (D.Le.refl _) (.cons (D.Le.refl _) (.cons (D.Le.refl _) (.cons (D.Le.refl _) (.nil)))))))))))))))) ?_
 rw [St.upd_upd]
 exact hF.fin (.tup []) _ rfl trivial (D.Le.refl _) (St.sub_refl _) ⟨rfl,rfl⟩
def ZkX (f:Fld):Fld:={ f with of:=[] }
theorem Zf9 (f:Fld) (y:Nat) (s:St) (hy:s y=some (.cells f.cells)):YD Tryz.prog WR.id [.ptr y 0] s (.tup []) (s.upd y (.cells (ZkX f).cells)):=by
 refine ZP WR.ok fun F hF=>?_
 refine Zb (Zc ?_)
 simp only [Eqs,reduceCtorEq,reduceIte,Nat.reduceEqDiff,Nat.reduceAdd,Nat.reduceLeDiff,WR.r0,hy,Fld.cells]
 exact hF.fin (.tup []) _ rfl trivial (D.Le.refl _) (St.sub_refl _) ⟨rfl,rfl⟩
def Zin (f:Fld):Fld:={ f with tag:=[],cases:=[] }
theorem Zgj (f:Fld) (y:Nat) (s:St) (hy:s y=some (.cells f.cells)):YD Tryz.prog WW.id [.ptr y 0] s (.tup []) (s.upd y (.cells (Zin f).cells)):=by
 refine ZP WW.ok fun F hF=>?_
 refine Zb (Zc ?_)
 simp only [Eqs,reduceCtorEq,reduceIte,Nat.reduceEqDiff,Nat.reduceAdd,Nat.reduceLeDiff,WW.r0,hy,Fld.cells,St.upd_same,St.upd_upd]
 refine QO (ds':=(Zin f).cells) (St.upd_same _ _ _) (.cons (D.Le.refl _) (.cons (D.Le.refl _) (.cons (D.Le.refl _) (.cons (D.Le.refl _) (.cons (D.Le.refl _) (.cons (D.Le.refl _) (.cons (D.Le.refl _) (.cons (D.Le.refl _) (.cons (D.Le.refl _) (.cons (D.Le.refl _) (.cons (D.Le.refl _) (.cons (D.Le.refl _) (.cons (K9 (by simp)) (.cons (D.Le.refl _) (.cons (D.Le.refl _) (.nil)))))))))))))))) ?_
 rw [St.upd_upd]
 exact hF.fin (.tup []) _ rfl trivial (D.Le.refl _) (St.sub_refl _) ⟨rfl,rfl⟩
def Zjz (f:Fld):Fld:={ f with bits:=0 }
theorem ZgA (f:Fld) (y:Nat) (s:St) (hy:s y=some (.cells f.cells)):YD Tryz.prog WS.id [.ptr y 0] s (.tup []) (s.upd y (.cells (Zjz f).cells)):=by
 refine ZP WS.ok fun F hF=>?_
 refine Zb (Zc ?_)
 simp only [Eqs,reduceCtorEq,reduceIte,Nat.reduceEqDiff,Nat.reduceAdd,Nat.reduceLeDiff,WS.r0,hy,Fld.cells]
 exact hF.fin (.tup []) _ rfl trivial (D.Le.refl _) (St.sub_refl _) ⟨rfl,rfl⟩
def Zjs (f:Fld):Fld:={ f with from_:=[],check:=0 }
theorem Zf0 (f:Fld) (y:Nat) (s:St) (hy:s y=some (.cells f.cells)):YD Tryz.prog WT.id [.ptr y 0] s (.tup []) (s.upd y (.cells (Zjs f).cells)):=by
 refine ZP WT.ok fun F hF=>?_
 refine Zb (Zc ?_)
 simp only [Eqs,reduceCtorEq,reduceIte,Nat.reduceEqDiff,Nat.reduceAdd,Nat.reduceLeDiff,WT.r0,hy,Fld.cells,St.upd_same,St.upd_upd]
 exact hF.fin (.tup []) _ rfl trivial (D.Le.refl _) (St.sub_refl _) ⟨rfl,rfl⟩
def Zg0 (f:Fld):Fld:={ f with of:=[],size:=⟨0,[]⟩,key:=0 }
theorem Zf3 (f:Fld) (y:Nat) (s:St) (hy:s y=some (.cells f.cells)):YD Tryz.prog WX.id [.ptr y 0] s (.tup []) (s.upd y (.cells (Zg0 f).cells)):=by
 refine ZP WX.ok fun F hF=>?_
 refine Zb (Zc ?_)
 simp only [Eqs,reduceCtorEq,reduceIte,Nat.reduceEqDiff,Nat.reduceAdd,Nat.reduceLeDiff,WX.r0,hy,Fld.cells,St.upd_same,St.upd_upd]
 refine QO (ds':=(Zg0 f).cells) (St.upd_same _ _ _) (.cons (D.Le.refl _) (.cons (D.Le.refl _) (.cons (D.Le.refl _) (.cons (D.Le.refl _) (.cons (D.Le.refl _) (.cons (D.Le.refl _) (.cons (D.Le.refl _) (.cons (D.Le.refl _) (.cons (K9 (by simp)) (.cons (D.Le.refl _) (.cons (D.Le.refl _) (.cons (D.Le.refl _) (.cons (D.Le.refl _) (.cons (D.Le.refl _) (.cons (D.Le.refl _) (.nil)))))))))))))))) ?_
 rw [St.upd_upd]
 exact hF.fin (.tup []) _ rfl trivial (D.Le.refl _) (St.sub_refl _) ⟨rfl,rfl⟩
end Go.DL
namespace Go.DL
open Go Go.Proofs
def ck1 (f:Fld):Bool:=ZcE f && W1 0 (2 ^ f.bits.toNat - 1) [f.low,f.high]
def ck2 (f:Fld):Bool:=ZcE f && W1 0 (2 ^ f.bits.toNat - 1) [f.low]
def ck3 (f:Fld):Bool:=W1 0 34359738367 [f.low,f.high]
def ck5 (f:Fld):Bool:=W1 0 255 [f.low] && W1 0 1048576 [f.high]
def ck6 (f:Fld):Bool:=W1 2 1048576 [f.high]
def ck7 (fs:List Fld) (dl:List (Str × Int)) (f:Fld):Bool:=(ZS f.of dl).isSome && ZdD fs f.size
def ck8 (dl:List (Str × Int)) (f:Fld):Bool:=(ZS f.of dl).isSome
def ZmH (f:Fld):Bool:=decide (f.bits=2) || decide (f.bits=4) || (decide (8≤f.bits) && decide (f.bits≤512) && decide (f.bits.tmod 8=0))
def Zm5 (fs:List Fld) (f:Fld):Bool:=W1 1 3 [f.check] && decide (0≤ZQ (fun x=>decide (x.name=f.from_)) fs)
def Zni (fs:List Fld) (sl:List (Str × Bool)) (f:Fld):Bool:=W1 0 4294967295 [f.key] && ((ZS f.of sl).getD false && ZdD fs f.size)
theorem ZcV (f:Fld):D.agg [D.str f.name,D.int IntKind.i64 f.kind,D.int IntKind.i64 f.bits,D.bool f.little,D.bool f.loose,D.int IntKind.i64 f.low,D.int IntKind.i64 f.high,D.int IntKind.i64 f.size.base,Y4 f.size.terms,D.str f.of,D.str f.tag,D.str f.from_,Kx f.cases,D.int IntKind.i64 f.check,D.int IntKind.i64 f.key] = .agg f.cells:=rfl
theorem Zhi {x bd bs:Nat} {k:Ck} {dl:List (Str × Int)} {sl:List (Str × Bool)} {st:St} (hst:Q3 st x bd bs k dl sl) {n:Nat} (hn:k.field=n) (hl:n≤k.m.fields.length) (f:Fld) :
  ZY Tryz.prog Wa.id [.ptr x 0,.agg f.cells] st (K4 (ck1 f) st):=by
 refine ZP Wa.ok fun F hF=>?_
 have hS:=ck1.eq_1 f
 refine Za (Zb (Zc ?_))
 simp only [Eqs,reduceCtorEq,reduceIte,Nat.reduceEqDiff,Nat.reduceAdd,Wa.r0,Fld.cells]
 refine Za (Zb (Zc ?_))
 simp only [Eqs,reduceCtorEq,reduceIte,Nat.reduceEqDiff,Nat.reduceAdd,Nat.reduceLeDiff,Wa.r1]
 simp only [ZcV]
 refine Z6 rfl rfl rfl rfl rfl (by trivial) (by trivial) (by exact ZeC hst.x f) ?_ ?_
 ·rintro d S h
  obtain ⟨hok,rfl,rfl⟩:=W8 h
  rw [hok,Bool.true_and] at hS
  first | refine ⟨by first | trivial | exact ⟨rfl,trivial⟩,?_⟩ | skip
  refine Zc ?_
  simp only [Eqs,reduceCtorEq,reduceIte,Nat.reduceEqDiff]
  have hb1:1≤f.bits∧f.bits≤32:=by
   unfold ZcE at hok
   simp only [Bool.and_eq_true,decide_eq_true_eq] at hok
   exact hok.1
  have hsh:=ZqX (b:=f.bits) (by omega) (by omega)
  have h2p:=ZcS (b:=f.bits) (by omega) (by omega)
  refine KU (Kz ?_)
  simp only [Eqs,reduceCtorEq,reduceIte,Nat.reduceEqDiff,Wa.r2]
  rw [hsh]
  generalize hpw:(2:Int) ^ f.bits.toNat=pw at *
  refine ⟨by omega,by omega,by omega,by omega,by omega,?_⟩
  refine Zgd rfl rfl rfl rfl rfl (by trivial) (by trivial) (by exact Zcm hst.x 0 (pw - 1) f.low f.high) ?_ ?_
  ·rintro d S h
   obtain ⟨hok,rfl,rfl⟩:=W8 h
   rw [hok] at hS
   refine Kz ?_
   simp only [Eqs]
   exact hF.fin (.tup []) _ rfl trivial (D.Le.refl _) (St.sub_refl _) (ZaV hS)
  ·rintro d S h
   obtain ⟨hok,hfl,rfl⟩:=W9 h
   rw [hok] at hS
   exact hF.pan _ (St.sub_refl _) (KS hS hfl)
 ·rintro d S h
  obtain ⟨hok,hfl,rfl⟩:=W9 h
  rw [hok,Bool.false_and] at hS
  exact hF.pan _ (St.sub_refl _) (KS hS hfl)
theorem Zho {x bd bs:Nat} {k:Ck} {dl:List (Str × Int)} {sl:List (Str × Bool)} {st:St} (hst:Q3 st x bd bs k dl sl) {n:Nat} (hn:k.field=n) (hl:n≤k.m.fields.length) (f:Fld) :
  ZY Tryz.prog Wc.id [.ptr x 0,.agg f.cells] st (K4 (ck2 f) st):=by
 refine ZP Wc.ok fun F hF=>?_
 have hS:=ck2.eq_1 f
 refine Za (Zb (Zc ?_))
 simp only [Eqs,reduceCtorEq,reduceIte,Nat.reduceEqDiff,Nat.reduceAdd,Wc.r0,Fld.cells]
 refine Za (Zb (Zc ?_))
 simp only [Eqs,reduceCtorEq,reduceIte,Nat.reduceEqDiff,Nat.reduceAdd,Nat.reduceLeDiff,Wc.r1]
 simp only [ZcV]
 refine Z6 rfl rfl rfl rfl rfl (by trivial) (by trivial) (by exact ZeC hst.x f) ?_ ?_
 ·rintro d S h
  obtain ⟨hok,rfl,rfl⟩:=W8 h
  rw [hok,Bool.true_and] at hS
  first | refine ⟨by first | trivial | exact ⟨rfl,trivial⟩,?_⟩ | skip
  refine Zc ?_
  simp only [Eqs,reduceCtorEq,reduceIte,Nat.reduceEqDiff]
  have hb1:1≤f.bits∧f.bits≤32:=by
   unfold ZcE at hok
   simp only [Bool.and_eq_true,decide_eq_true_eq] at hok
   exact hok.1
  have hsh:=ZqX (b:=f.bits) (by omega) (by omega)
  have h2p:=ZcS (b:=f.bits) (by omega) (by omega)
  refine KU (Kz ?_)
  simp only [Eqs,reduceCtorEq,reduceIte,Nat.reduceEqDiff,Wc.r2]
  rw [hsh]
  generalize hpw:(2:Int) ^ f.bits.toNat=pw at *
  refine ⟨by omega,by omega,by omega,by omega,by omega,?_⟩
  refine Zgd rfl rfl rfl rfl rfl (by trivial) (by trivial) (by exact Jf hst.x 0 (pw - 1) f.low) ?_ ?_
  ·rintro d S h
   obtain ⟨hok,rfl,rfl⟩:=W8 h
   rw [hok] at hS
   refine Kz ?_
   simp only [Eqs]
   exact hF.fin (.tup []) _ rfl trivial (D.Le.refl _) (St.sub_refl _) (ZaV hS)
  ·rintro d S h
   obtain ⟨hok,hfl,rfl⟩:=W9 h
   rw [hok] at hS
   exact hF.pan _ (St.sub_refl _) (KS hS hfl)
 ·rintro d S h
  obtain ⟨hok,hfl,rfl⟩:=W9 h
  rw [hok,Bool.false_and] at hS
  exact hF.pan _ (St.sub_refl _) (KS hS hfl)
theorem Zhm {x bd bs:Nat} {k:Ck} {dl:List (Str × Int)} {sl:List (Str × Bool)} {st:St} (hst:Q3 st x bd bs k dl sl) {n:Nat} (hn:k.field=n) (hl:n≤k.m.fields.length) (f:Fld) :
  ZY Tryz.prog WI.id [.ptr x 0,.agg f.cells] st (K4 (ck3 f) st):=by
 refine ZP WI.ok fun F hF=>?_
 have hS:=ck3.eq_1 f
 refine Za (Zb (Zc ?_))
 simp only [Eqs,reduceCtorEq,reduceIte,Nat.reduceEqDiff,Nat.reduceAdd,WI.r0,Fld.cells]
 refine Zb (Zc ?_)
 simp only [Eqs,reduceCtorEq,reduceIte,Nat.reduceEqDiff,WI.r1]
 refine Z6 rfl rfl rfl rfl rfl (by trivial) (by trivial) (by exact Zcm hst.x 0 34359738367 f.low f.high) ?_ ?_
 ·rintro d S h
  obtain ⟨hok,rfl,rfl⟩:=W8 h
  rw [hok] at hS
  refine Zc ?_
  simp only [Eqs]
  exact hF.fin (.tup []) _ rfl trivial (D.Le.refl _) (St.sub_refl _) (ZaV hS)
 ·rintro d S h
  obtain ⟨hok,hfl,rfl⟩:=W9 h
  rw [hok] at hS
  exact hF.pan _ (St.sub_refl _) (KS hS hfl)
theorem Zhh {x bd bs:Nat} {k:Ck} {dl:List (Str × Int)} {sl:List (Str × Bool)} {st:St} (hst:Q3 st x bd bs k dl sl) {n:Nat} (hn:k.field=n) (hl:n≤k.m.fields.length) (f:Fld) :
  ZY Tryz.prog Wd.id [.ptr x 0,.agg f.cells] st (K4 (ck5 f) st):=by
 refine ZP Wd.ok fun F hF=>?_
 have hS:=ck5.eq_1 f
 refine Za (Zb (Zc ?_))
 simp only [Eqs,reduceCtorEq,reduceIte,Nat.reduceEqDiff,Nat.reduceAdd,Wd.r0,Fld.cells]
 refine Za (Zb (Zc ?_))
 simp only [Eqs,reduceCtorEq,reduceIte,Nat.reduceEqDiff,Wd.r1]
 refine Z6 rfl rfl rfl rfl rfl (by trivial) (by trivial) (by exact Jf hst.x 0 255 f.low) ?_ ?_
 ·rintro d S h
  obtain ⟨hok,rfl,rfl⟩:=W8 h
  rw [hok,Bool.true_and] at hS
  first | refine ⟨by first | trivial | exact ⟨rfl,trivial⟩,?_⟩ | skip
  refine Zc ?_
  simp only [Eqs,reduceCtorEq,reduceIte,Nat.reduceEqDiff]
  refine Zb (Zc ?_)
  simp only [Eqs,reduceCtorEq,reduceIte,Nat.reduceEqDiff,Wd.r2]
  refine Z6 rfl rfl rfl rfl rfl (by trivial) (by trivial) (by exact Jf hst.x 0 1048576 f.high) ?_ ?_
  ·rintro d S h
   obtain ⟨hok,rfl,rfl⟩:=W8 h
   rw [hok] at hS
   refine Zc ?_
   simp only [Eqs]
   exact hF.fin (.tup []) _ rfl trivial (D.Le.refl _) (St.sub_refl _) (ZaV hS)
  ·rintro d S h
   obtain ⟨hok,hfl,rfl⟩:=W9 h
   rw [hok] at hS
   exact hF.pan _ (St.sub_refl _) (KS hS hfl)
 ·rintro d S h
  obtain ⟨hok,hfl,rfl⟩:=W9 h
  rw [hok,Bool.false_and] at hS
  exact hF.pan _ (St.sub_refl _) (KS hS hfl)
theorem Zf5 {x bd bs:Nat} {k:Ck} {dl:List (Str × Int)} {sl:List (Str × Bool)} {st:St} (hst:Q3 st x bd bs k dl sl) {n:Nat} (hn:k.field=n) (hl:n≤k.m.fields.length) (f:Fld) :
  ZY Tryz.prog Wo.id [.ptr x 0,.agg f.cells] st (K4 (ck6 f) st):=by
 refine ZP Wo.ok fun F hF=>?_
 have hS:=ck6.eq_1 f
 refine Za (Zb (Zc ?_))
 simp only [Eqs,reduceCtorEq,reduceIte,Nat.reduceEqDiff,Nat.reduceAdd,Wo.r0,Fld.cells]
 refine Zb (Zc ?_)
 simp only [Eqs,reduceCtorEq,reduceIte,Nat.reduceEqDiff,Wo.r1]
 refine Z6 rfl rfl rfl rfl rfl (by trivial) (by trivial) (by exact Jf hst.x 2 1048576 f.high) ?_ ?_
 ·rintro d S h
  obtain ⟨hok,rfl,rfl⟩:=W8 h
  rw [hok] at hS
  refine Zc ?_
  simp only [Eqs]
  exact hF.fin (.tup []) _ rfl trivial (D.Le.refl _) (St.sub_refl _) (ZaV hS)
 ·rintro d S h
  obtain ⟨hok,hfl,rfl⟩:=W9 h
  rw [hok] at hS
  exact hF.pan _ (St.sub_refl _) (KS hS hfl)
theorem Zfz {x bd bs:Nat} {k:Ck} {dl:List (Str × Int)} {sl:List (Str × Bool)} {st:St} (hst:Q3 st x bd bs k dl sl) {n:Nat} (hn:k.field=n) (hl:n≤k.m.fields.length) (f:Fld) :
  ZY Tryz.prog YZ.id [.ptr x 0,.agg f.cells] st (K4 (ck7 (k.m.fields.take n) dl f) st):=by
 refine ZP YZ.ok fun F hF=>?_
 have hS:=ck7.eq_1 (k.m.fields.take n) dl f
 refine Za (Zb (Zc ?_))
 simp only [Eqs,reduceCtorEq,reduceIte,Nat.reduceEqDiff,Nat.reduceAdd,YZ.r0,Fld.cells]
 refine Za (Zb (Zc ?_))
 simp only [Eqs,reduceCtorEq,reduceIte,Nat.reduceEqDiff,YZ.r1]
 refine Z6 rfl rfl rfl rfl rfl (by trivial) (by trivial) (by exact ZbF hst f.of) ?_ ?_
 ·rintro d S h
  obtain ⟨hok,rfl,rfl⟩:=W8 h
  rw [hok,Bool.true_and] at hS
  first | refine ⟨by first | trivial | exact ⟨rfl,trivial⟩,?_⟩ | skip
  refine Zc ?_
  simp only [Eqs,reduceCtorEq,reduceIte,Nat.reduceEqDiff]
  refine Zb (Zc ?_)
  simp only [Eqs,reduceCtorEq,reduceIte,Nat.reduceEqDiff,Nat.reduceAdd,Nat.reduceLeDiff,YZ.r2]
  simp only [ZcV]
  refine Z6 rfl rfl rfl rfl rfl (by trivial) (by trivial) (by exact ZbW hst.x hn hl f) ?_ ?_
  ·rintro d S h
   obtain ⟨hok,rfl,rfl⟩:=W8 h
   rw [hok] at hS
   refine Zc ?_
   simp only [Eqs]
   exact hF.fin (.tup []) _ rfl trivial (D.Le.refl _) (St.sub_refl _) (ZaV hS)
  ·rintro d S h
   obtain ⟨hok,hfl,rfl⟩:=W9 h
   rw [hok] at hS
   exact hF.pan _ (St.sub_refl _) (KS hS hfl)
 ·rintro d S h
  obtain ⟨hok,hfl,rfl⟩:=W9 h
  rw [hok,Bool.false_and] at hS
  exact hF.pan _ (St.sub_refl _) (KS hS hfl)
theorem Zf8 {x bd bs:Nat} {k:Ck} {dl:List (Str × Int)} {sl:List (Str × Bool)} {st:St} (hst:Q3 st x bd bs k dl sl) {n:Nat} (hn:k.field=n) (hl:n≤k.m.fields.length) (f:Fld) :
  ZY Tryz.prog Wr.id [.ptr x 0,.agg f.cells] st (K4 (ck8 dl f) st):=by
 refine ZP Wr.ok fun F hF=>?_
 have hS:=ck8.eq_1 dl f
 refine Za (Zb (Zc ?_))
 simp only [Eqs,reduceCtorEq,reduceIte,Nat.reduceEqDiff,Nat.reduceAdd,Wr.r0,Fld.cells]
 refine Zb (Zc ?_)
 simp only [Eqs,reduceCtorEq,reduceIte,Nat.reduceEqDiff,Wr.r1]
 refine Z6 rfl rfl rfl rfl rfl (by trivial) (by trivial) (by exact ZbF hst f.of) ?_ ?_
 ·rintro d S h
  obtain ⟨hok,rfl,rfl⟩:=W8 h
  rw [hok] at hS
  refine Zc ?_
  simp only [Eqs]
  exact hF.fin (.tup []) _ rfl trivial (D.Le.refl _) (St.sub_refl _) (ZaV hS)
 ·rintro d S h
  obtain ⟨hok,hfl,rfl⟩:=W9 h
  rw [hok] at hS
  exact hF.pan _ (St.sub_refl _) (KS hS hfl)
theorem Zgf {x bd bs:Nat} {k:Ck} {dl:List (Str × Int)} {sl:List (Str × Bool)} {st:St} (hst:Q3 st x bd bs k dl sl) {n:Nat} (hn:k.field=n) (hl:n≤k.m.fields.length) (f:Fld) :
  ZY Tryz.prog Wp.id [.ptr x 0,.agg f.cells] st (K4 (ZmH f) st):=by
 refine ZP Wp.ok fun F hF=>?_
 have hS:=ZmH.eq_1 f
 refine Za (Zb (Zc ?_))
 simp only [Eqs,reduceCtorEq,reduceIte,Nat.reduceEqDiff,Nat.reduceAdd,Wp.r0,Fld.cells]
 refine Zb (Zc ?_)
 simp only [Eqs,reduceCtorEq,reduceIte,Nat.reduceEqDiff,Wp.r1]
 have ht1:=Int.tmod_lt_of_pos f.bits (by decide:(0:Int) < 8)
 have ht2:=Int.lt_tmod_of_pos f.bits (by decide:(0:Int) < 8)
 refine ⟨fun _=>⟨by decide,by omega,by omega⟩,?_⟩
 refine Z6 rfl rfl rfl rfl rfl (by trivial) (by trivial) (by exact YW hst.x (decide (f.bits=2) || decide (f.bits=4) || decide (8≤f.bits) && decide (f.bits≤512) && decide (f.bits.tmod 8=0)) 6) ?_ ?_
 ·rintro d S h
  obtain ⟨hok,rfl,rfl⟩:=W8 h
  rw [hok] at hS
  refine Zc ?_
  simp only [Eqs]
  exact hF.fin (.tup []) _ rfl trivial (D.Le.refl _) (St.sub_refl _) (ZaV hS)
 ·rintro d S h
  obtain ⟨hok,hfl,rfl⟩:=W9 h
  rw [hok] at hS
  exact hF.pan _ (St.sub_refl _) (KS hS hfl)
theorem Zgn {x bd bs:Nat} {k:Ck} {dl:List (Str × Int)} {sl:List (Str × Bool)} {st:St} (hst:Q3 st x bd bs k dl sl) {n:Nat} (hn:k.field=n) (hl:n≤k.m.fields.length) (f:Fld) :
  ZY Tryz.prog Yw.id [.ptr x 0,.agg f.cells] st (K4 (Zm5 (k.m.fields.take n) f) st):=by
 refine ZP Yw.ok fun F hF=>?_
 have hS:=Zm5.eq_1 (k.m.fields.take n) f
 refine Za (Zb (Zc ?_))
 simp only [Eqs,reduceCtorEq,reduceIte,Nat.reduceEqDiff,Nat.reduceAdd,Yw.r0,Fld.cells]
 refine Za (Zb (Zc ?_))
 simp only [Eqs,reduceCtorEq,reduceIte,Nat.reduceEqDiff,Yw.r1]
 refine Z6 rfl rfl rfl rfl rfl (by trivial) (by trivial) (by exact Jf hst.x 1 3 f.check) ?_ ?_
 ·rintro d S h
  obtain ⟨hok,rfl,rfl⟩:=W8 h
  rw [hok,Bool.true_and] at hS
  first | refine ⟨by first | trivial | exact ⟨rfl,trivial⟩,?_⟩ | skip
  refine Zc ?_
  simp only [Eqs,reduceCtorEq,reduceIte,Nat.reduceEqDiff]
  refine Za (Wy (ZO ?_))
  simp only [Eqs,reduceCtorEq,reduceIte,Nat.reduceEqDiff,Yw.r2]
  refine Zbx rfl rfl rfl rfl rfl (by trivial) (by trivial) (by exact Jo hst.x hn hl) (by first | trivial | exact ⟨rfl,trivial⟩ | simp [KO,QG]) (ZO ?_)
  simp only [Eqs,reduceCtorEq,reduceIte,Nat.reduceEqDiff,Nat.reduceAdd,Nat.reduceLeDiff,Wl,slD]
  refine Kp rfl rfl rfl rfl rfl (by trivial) (by trivial) (by exact (Zd5 ⟨[],k.m.fields.take n⟩ f.from_)) (ZO ?_)
  simp only [Eqs,reduceCtorEq,reduceIte,Nat.reduceEqDiff]
  refine Zb (Zc ?_)
  simp only [Eqs,reduceCtorEq,reduceIte,Nat.reduceEqDiff,Yw.r3]
  refine Z6 rfl rfl rfl rfl rfl (by trivial) (by trivial) (by exact YW hst.x (decide (0≤ZQ (fun x=>decide (x.name=f.from_)) (k.m.fields.take n))) 8) ?_ ?_
  ·rintro d S h
   obtain ⟨hok,rfl,rfl⟩:=W8 h
   rw [hok] at hS
   refine Zc ?_
   simp only [Eqs]
   exact hF.fin (.tup []) _ rfl trivial (D.Le.refl _) (St.sub_refl _) (ZaV hS)
  ·rintro d S h
   obtain ⟨hok,hfl,rfl⟩:=W9 h
   rw [hok] at hS
   exact hF.pan _ (St.sub_refl _) (KS hS hfl)
 ·rintro d S h
  obtain ⟨hok,hfl,rfl⟩:=W9 h
  rw [hok,Bool.false_and] at hS
  exact hF.pan _ (St.sub_refl _) (KS hS hfl)
theorem Zgo {x bd bs:Nat} {k:Ck} {dl:List (Str × Int)} {sl:List (Str × Bool)} {st:St} (hst:Q3 st x bd bs k dl sl) {n:Nat} (hn:k.field=n) (hl:n≤k.m.fields.length) (f:Fld) :
  ZY Tryz.prog Yx.id [.ptr x 0,.agg f.cells] st (K4 (Zni (k.m.fields.take n) sl f) st):=by
 refine ZP Yx.ok fun F hF=>?_
 have hS:=Zni.eq_1 (k.m.fields.take n) sl f
 refine Za (Zb (Zc ?_))
 simp only [Eqs,reduceCtorEq,reduceIte,Nat.reduceEqDiff,Nat.reduceAdd,Yx.r0,Fld.cells]
 refine Za (Zb (Zc ?_))
 simp only [Eqs,reduceCtorEq,reduceIte,Nat.reduceEqDiff,Yx.r1]
 refine Z6 rfl rfl rfl rfl rfl (by trivial) (by trivial) (by exact Jf hst.x 0 4294967295 f.key) ?_ ?_
 ·rintro d S h
  obtain ⟨hok,rfl,rfl⟩:=W8 h
  rw [hok,Bool.true_and] at hS
  first | refine ⟨by first | trivial | exact ⟨rfl,trivial⟩,?_⟩ | skip
  refine Zc ?_
  simp only [Eqs,reduceCtorEq,reduceIte,Nat.reduceEqDiff]
  have e1:=KK (vD:=D.bool) Wk f.of sl
  have e3:=Qh Wk f.of
  simp only [show QY f.of=D.str f.of from rfl] at e1 e3
  refine Za (KU (Kz ?_))
  simp only [Eqs,reduceCtorEq,reduceIte,Nat.reduceEqDiff,Yx.r2,hst.x,hst.bs,Ck.cells,e1,-Ke,Zfl]
  refine Zgd rfl rfl rfl rfl rfl (by trivial) (by trivial) (by exact YW hst.x ((ZS f.of sl).getD false) 8) ?_ ?_
  ·rintro d S h
   obtain ⟨hok,rfl,rfl⟩:=W8 h
   rw [hok,Bool.true_and] at hS
   first | refine ⟨by first | trivial | exact ⟨rfl,trivial⟩,?_⟩ | skip
   refine Kz ?_
   simp only [Eqs,reduceCtorEq,reduceIte,Nat.reduceEqDiff]
   refine Zb (Zc ?_)
   simp only [Eqs,reduceCtorEq,reduceIte,Nat.reduceEqDiff,Nat.reduceAdd,Nat.reduceLeDiff,Yx.r3]
   simp only [ZcV]
   refine Z6 rfl rfl rfl rfl rfl (by trivial) (by trivial) (by exact ZbW hst.x hn hl f) ?_ ?_
   ·rintro d S h
    obtain ⟨hok,rfl,rfl⟩:=W8 h
    rw [hok] at hS
    refine Zc ?_
    simp only [Eqs]
    exact hF.fin (.tup []) _ rfl trivial (D.Le.refl _) (St.sub_refl _) (ZaV hS)
   ·rintro d S h
    obtain ⟨hok,hfl,rfl⟩:=W9 h
    rw [hok] at hS
    exact hF.pan _ (St.sub_refl _) (KS hS hfl)
  ·rintro d S h
   obtain ⟨hok,hfl,rfl⟩:=W9 h
   rw [hok,Bool.false_and] at hS
   exact hF.pan _ (St.sub_refl _) (KS hS hfl)
 ·rintro d S h
  obtain ⟨hok,hfl,rfl⟩:=W9 h
  rw [hok,Bool.false_and] at hS
  exact hF.pan _ (St.sub_refl _) (KS hS hfl)
end Go.DL
namespace Go.DL
open Go Go.Proofs
def ZnL (f:Fld):List D:=[.str f.name,.str f.of,.str f.tag,.str f.from_,.int .i64 f.kind,.int .i64 f.bits,.int .i64 f.low,.int .i64 f.high,.int .i64 f.size.base,.int .i64 f.check,.int .i64 f.key,.bool f.little,.bool f.loose]
theorem Zd6 (f:Fld):Yk Tryz.prog Kd.id [.agg f.cells] (.agg (ZnL f)):=by
 refine YR Kd.ok fun F st hret=>?_
 refine Za (Zb (Zc ?_))
 simp only [Eqs,reduceCtorEq,reduceIte,Nat.reduceEqDiff,Kd.r0,Fld.cells]
 refine Za (Zb (Zc ?_))
 simp only [Eqs,reduceIte,Nat.reduceEqDiff,Nat.reduceAdd,Nat.reduceLeDiff,Kd.r1]
 exact hret rfl (by first | trivial | simp) (D.Le.refl _) (St.sub_refl _)
theorem Zfw (a b:Fld):Yk Tryz.prog Wn.id [.agg a.cells,.agg b.cells] (.bool (decide (a=b))):=by
 refine YR Wn.ok fun F st hret=>?_
 refine Za (Zb (Zc ?_))
 simp only [Eqs,reduceCtorEq,reduceIte,Nat.reduceEqDiff,Nat.reduceAdd,Wn.r0,Fld.cells]
 refine Za (Wy (ZO ?_))
 simp only [Eqs,reduceIte,Nat.reduceEqDiff,Nat.reduceAdd,Nat.reduceLeDiff,Wn.r1]
 simp only [ZcV]
 refine Kp rfl rfl rfl rfl rfl (by trivial) (by trivial) (by exact Zd6 a) (ZO ?_)
 simp only [Eqs,reduceIte]
 refine Kp rfl rfl rfl rfl rfl (by trivial) (by trivial) (by exact Zd6 b) (ZO ?_)
 simp only [Eqs,reduceIte,Nat.reduceEqDiff,Nat.reduceAdd,ZnL]
 refine Zjl rfl rfl rfl rfl rfl (fun hcg=>⟨by first | trivial | (simpa [Zan] using hcg),trivial,Zb0 a.size.terms b.size.terms⟩) (ZO ?_)
 simp only [Eqs,reduceIte,Nat.reduceEqDiff]
 refine Zjl rfl rfl rfl rfl rfl (fun hcg=>⟨by first | trivial | (simpa [Zan] using hcg),trivial,Ze7 a.cases b.cases⟩) (ZO ?_)
 simp only [Eqs,reduceIte,Nat.reduceEqDiff]
 refine hret rfl (by trivial) (Y1 ?_) (St.sub_refl _)
 rw [Bool.eq_iff_iff]
 simp only [Bool.and_eq_true,decide_eq_true_eq]
 constructor
 ·rintro ⟨⟨⟨h1,h2,h3,h4,h5,h6,h7,h8,h9,h10,h11,h12,h13⟩,h14⟩,h15⟩
  obtain ⟨n1,k1,b1,l1,o1,lo1,hi1,⟨sb1,st1⟩,of1,t1,f1,c1,ch1,ke1⟩:=a
  obtain ⟨n2,k2,b2,l2,o2,lo2,hi2,⟨sb2,st2⟩,of2,t2,f2,c2,ch2,ke2⟩:=b
  simp only at h1 h2 h3 h4 h5 h6 h7 h8 h9 h10 h11 h12 h13 h14 h15
  subst h1; subst h2; subst h3; subst h4; subst h5; subst h6; subst h7; subst h8; subst h9; subst h10; subst h11; subst h12; subst h13; subst h14; subst h15
  rfl
 ·rintro rfl
  simp
abbrev ZkG (x:Nat × Nat):D:=.agg [.fn (.func x.1) [] [],.fn (.func x.2) [] []]
def ZeQ:List (Int × (Nat × Nat)):=[(1,(W5.id,Wa.id)),(2,(W4.id,Wc.id)),(3,(W7.id,WI.id)),(4,(W6.id,Zu.id)),(5,(W3.id,Wd.id)),(6,(WV.id,Wo.id)),(7,(WU.id,YZ.id)),(8,(WR.id,Wr.id)),(9,(WW.id,Zl.id)),(10,(WS.id,Wp.id)),(11,(WT.id,Yw.id)),(12,(WX.id,Yx.id))]
theorem ZiE (st:St):ZY Tryz.prog Kc.id [] st fun r S=>∃ b,st b=none∧r = .ret (.map b)∧S=st.upd b (.map (QF QZ ZkG ZeQ)):=by
 refine ZP Kc.ok fun F hF=>?_
 refine Za (Zb (Zc ?_))
 simp only [Eqs,Kc.r0]
 refine Za (Zb (Zc ?_))
 simp only [Eqs,reduceCtorEq,reduceIte,Nat.reduceEqDiff,Nat.reduceAdd,Nat.reduceLeDiff,Kc.r1,Zak,Int.reduceEq,decide_false,St.upd_same,St.upd_upd]
 intro b hb
 exact hF.ret _ _ rfl (by trivial) (D.Le.refl _) (St.sub_refl _) ⟨b,hb,rfl,rfl⟩
def Zdd (n:Str) (k:Int):Fld:=⟨n,k,0,false,false,0,0,⟨0,[]⟩,[],[],[],[],0,0⟩
def Zdp (f:Fld):Fld :=
 if f.kind=1 then ZlL f else if f.kind=2 then Zk2 f else if f.kind=3 then ZlD f else if f.kind=4 then Zi6 f else if f.kind=5 then Zk9 f else if f.kind=6 then Zlm f
 else if f.kind=7 then Zik f else if f.kind=8 then ZkX f else if f.kind=9 then Zin f else if f.kind=10 then Zjz f else if f.kind=11 then Zjs f else Zg0 f
def Zdz (fs:List Fld) (dl:List (Str × Int)) (sl:List (Str × Bool)) (f:Fld):Bool :=
 if f.kind=1 then ck1 f else if f.kind=2 then ck2 f else if f.kind=3 then ck3 f else if f.kind=4 then ZdD fs f.size else if f.kind=5 then ck5 f else if f.kind=6 then ck6 f
 else if f.kind=7 then ck7 fs dl f else if f.kind=8 then ck8 dl f else if f.kind=9 then Zgw fs dl f else if f.kind=10 then ZmH f else if f.kind=11 then Zm5 fs f else Zni fs sl f
def JD (f:Fld):Bool:=decide (1≤f.kind) && decide (f.kind≤12)
theorem ZpV {x bd bs:Nat} {k:Ck} {dl:List (Str × Int)} {sl:List (Str × Bool)} {st:St} (hst:Q3 st x bd bs k dl sl) {n:Nat} (hn:k.field=n) (hl:n≤k.m.fields.length) (f:Fld)
  (hR:((ZS f.tag (QL (k.m.fields.take n))).getD (0,0)).2 < 4611686018427387904) (hk:JD f=true) :
  ∃ c q,ZS f.kind ZeQ=some (c,q)∧(∀ y s,s y=some (.cells f.cells)→YD Tryz.prog c [.ptr y 0] s (.tup []) (s.upd y (.cells (Zdp f).cells))) ∧
   ∀ A,st.sub A→ZY Tryz.prog q [.ptr x 0,.agg f.cells] A (K4 (Zdz (k.m.fields.take n) dl sl f) A):=by
 unfold JD at hk
 simp only [Bool.and_eq_true,decide_eq_true_eq] at hk
 have hk2:f.kind=1∨f.kind=2∨f.kind=3∨f.kind=4∨f.kind=5∨f.kind=6∨f.kind=7∨f.kind=8∨f.kind=9∨f.kind=10∨f.kind=11∨f.kind=12:=by omega
 unfold Zdp Zdz
 rcases hk2 with h | h | h | h | h | h | h | h | h | h | h | h <;> simp only [h,Int.reduceEq,if_true,if_false]
 ·exact ⟨_,_,rfl,fun y s hy=>Zhf f y s hy,fun A hA=>Zhi (hst.mono hA) hn hl f⟩
 ·exact ⟨_,_,rfl,fun y s hy=>Zg5 f y s hy,fun A hA=>Zho (hst.mono hA) hn hl f⟩
 ·exact ⟨_,_,rfl,fun y s hy=>Zhg f y s hy,fun A hA=>Zhm (hst.mono hA) hn hl f⟩
 ·exact ⟨_,_,rfl,fun y s hy=>Zhd f y s hy,fun A hA=>ZbW (hst.mono hA).x hn hl f⟩
 ·exact ⟨_,_,rfl,fun y s hy=>Zhl f y s hy,fun A hA=>Zhh (hst.mono hA) hn hl f⟩
 ·exact ⟨_,_,rfl,fun y s hy=>Zge f y s hy,fun A hA=>Zf5 (hst.mono hA) hn hl f⟩
 ·exact ⟨_,_,rfl,fun y s hy=>ZfP f y s hy,fun A hA=>Zfz (hst.mono hA) hn hl f⟩
 ·exact ⟨_,_,rfl,fun y s hy=>Zf9 f y s hy,fun A hA=>Zf8 (hst.mono hA) hn hl f⟩
 ·exact ⟨_,_,rfl,fun y s hy=>Zgj f y s hy,fun A hA=>ZiM (hst.mono hA) hn hl f hR⟩
 ·exact ⟨_,_,rfl,fun y s hy=>ZgA f y s hy,fun A hA=>Zgf (hst.mono hA) hn hl f⟩
 ·exact ⟨_,_,rfl,fun y s hy=>Zf0 f y s hy,fun A hA=>Zgn (hst.mono hA) hn hl f⟩
 ·exact ⟨_,_,rfl,fun y s hy=>Zf3 f y s hy,fun A hA=>Zgo (hst.mono hA) hn hl f⟩
theorem ZnW {f:Fld} (hk:JD f=false):ZS f.kind ZeQ=none:=by
 rw [Zj5]
 unfold JD at hk
 simp only [Bool.and_eq_false_iff,decide_eq_false_iff_not] at hk
 simp only [ZeQ,List.map_cons,List.map_nil,List.mem_cons,List.not_mem_nil,or_false]
 omega
end Go.DL
namespace Go.DL
open Go Go.Proofs
def Jn (fs:List Fld) (dl:List (Str × Int)) (sl:List (Str × Bool)) (f:Fld):Bool :=
 K7 f.name && (!decide (0≤ZQ (fun x=>decide (x.name=f.name)) fs) && (JD f && (decide (Zdp f=Zdd f.name f.kind) && Zdz fs dl sl f)))
theorem Zg6 {x bd bs:Nat} {k:Ck} {dl:List (Str × Int)} {sl:List (Str × Bool)} {st:St} (hst:Q3 st x bd bs k dl sl) {n:Nat} (hn:k.field=n) (hl:n≤k.m.fields.length) (f:Fld)
  (hR:((ZS f.tag (QL (k.m.fields.take n))).getD (0,0)).2 < 4611686018427387904) :
  ZY Tryz.prog Zr.id [.ptr x 0,.agg f.cells] st (K4 (Jn (k.m.fields.take n) dl sl f) st):=by
 refine ZP Zr.ok fun F hF=>?_
 have hS:=Jn.eq_1 (k.m.fields.take n) dl sl f
 refine Za (Zb (Zc ?_))
 simp only [Eqs,reduceCtorEq,reduceIte,Nat.reduceEqDiff,Nat.reduceAdd,Zr.r0,Fld.cells]
 refine Za (Zb (Zc ?_))
 simp only [Eqs,reduceCtorEq,reduceIte,Nat.reduceEqDiff,Zr.r1]
 refine YS rfl rfl rfl rfl rfl (by trivial) (by trivial) (by exact ZbG f.name) (Zc ?_)
 simp only [Eqs]
 refine Z6 rfl rfl rfl rfl rfl (by trivial) (by trivial) (by exact YW hst.x (K7 f.name) 1) ?_ ?_
 ·rintro d S h
  obtain ⟨hok,rfl,rfl⟩:=W8 h
  rw [hok,Bool.true_and] at hS
  refine Zc ?_
  simp only [Eqs,reduceCtorEq,reduceIte,Nat.reduceEqDiff]
  refine Za (Wy (ZO ?_))
  simp only [Eqs,reduceCtorEq,reduceIte,Nat.reduceEqDiff,Zr.r2]
  refine Zbx rfl rfl rfl rfl rfl (by trivial) (by trivial) (by exact Jo hst.x hn hl) (by first | trivial | exact ⟨rfl,trivial⟩ | simp [KO,QG]) (ZO ?_)
  simp only [Eqs,reduceCtorEq,reduceIte,Nat.reduceEqDiff,Nat.reduceAdd,Nat.reduceLeDiff,Wl,slD]
  refine Kp rfl rfl rfl rfl rfl (by trivial) (by trivial) (by exact (Zd5 ⟨[],k.m.fields.take n⟩ f.name)) (ZO ?_)
  simp only [Eqs,reduceCtorEq,reduceIte,Nat.reduceEqDiff]
  refine Za (Zb (Zc ?_))
  simp only [Eqs,reduceCtorEq,reduceIte,Nat.reduceEqDiff,Zr.r3]
  refine Z6 rfl rfl rfl rfl rfl (by trivial) (by trivial) (by exact YW hst.x (!decide (0≤ZQ (fun x=>decide (x.name=f.name)) (k.m.fields.take n))) 2) ?_ ?_
  ·rintro d S2 h
   obtain ⟨hok2,rfl,rfl⟩:=W8 h
   rw [hok2,Bool.true_and] at hS
   refine Zc ?_
   simp only [Eqs,reduceCtorEq,reduceIte,Nat.reduceEqDiff]
   refine Za (Wy (ZO ?_))
   simp only [Eqs,reduceCtorEq,reduceIte,Nat.reduceEqDiff,Zr.r4]
   refine JP rfl rfl rfl rfl rfl (by trivial) (by trivial) (by exact ZiE S2) ?_ ?_
   ·rintro d S3 ⟨b,hb,hd,rfl⟩
    cases hd
    refine ⟨by first | trivial | exact ⟨rfl,trivial⟩,?_⟩
    have e1:=KK (vD:=ZkG) ZkQ f.kind ZeQ
    have e3:=Qh ZkQ f.kind
    simp only [show QZ f.kind=D.int .i64 f.kind from rfl] at e1 e3
    have hsb:=St.sub_upd (.map (QF QZ ZkG ZeQ)) hb
    cases hko:JD f with
    | false =>
     rw [hko,Bool.false_and] at hS
     rw [ZnW hko] at e1
     refine ZO ?_
     simp only [Eqs,reduceCtorEq,reduceIte,Nat.reduceEqDiff,Nat.reduceAdd,Nat.reduceLeDiff,e1,St.upd_same]
     refine Za (Zb (Zc ?_))
     simp only [Eqs,reduceCtorEq,reduceIte,Nat.reduceEqDiff,Zr.r5]
     refine Z6 rfl rfl rfl rfl rfl (by trivial) (by trivial) (by exact YW (hst.mono hsb).x false 4) ?_ ?_
     ·rintro d S4 h
      exact absurd (W8 h).1 (by simp)
     ·rintro d S4 h
      obtain ⟨_,hfl,rfl⟩:=W9 h
      exact hF.pan S2 hsb (KS hS hfl)
    | true =>
     rw [hko,Bool.true_and] at hS
     obtain ⟨c,q,hg,hclear,hcheck⟩:=ZpV hst hn hl f hR hko
     rw [hg] at e1
     refine ZO ?_
     simp only [Eqs,reduceCtorEq,reduceIte,Nat.reduceEqDiff,Nat.reduceAdd,Nat.reduceLeDiff,e1,St.upd_same]
     refine Za (Zb (Zc ?_))
     simp only [Eqs,reduceCtorEq,reduceIte,Nat.reduceEqDiff,Zr.r5]
     refine Z6 rfl rfl rfl rfl rfl (by trivial) (by trivial) (by exact YW (hst.mono hsb).x true 4) ?_ ?_
     ·rintro d S4 h
      obtain ⟨_,rfl,rfl⟩:=W8 h
      refine Zc ?_
      simp only [Eqs,reduceCtorEq,reduceIte,Nat.reduceEqDiff]
      refine Za (Zb (Zc ?_))
      simp only [Eqs,reduceCtorEq,reduceIte,Nat.reduceEqDiff,Nat.reduceAdd,Nat.reduceLeDiff,Zr.r6]
      refine Za ?_
      refine Yp 7 rfl fun y hy=>?_
      simp only [reduceIte,Nat.reduceEqDiff,Yz,Wi,delL]
      have hfc:[D.str f.name,D.int IntKind.i64 f.kind,D.int IntKind.i64 f.bits,D.bool f.little,D.bool f.loose,D.int IntKind.i64 f.low,D.int IntKind.i64 f.high,D.int IntKind.i64 f.size.base,Y4 f.size.terms,D.str f.of,D.str f.tag,D.str f.from_,Kx f.cases,D.int IntKind.i64 f.check,D.int IntKind.i64 f.key]=f.cells:=rfl
      simp only [hfc]
      have hsy:∀ o,S2.sub (((S2.upd b (.map (QF QZ ZkG ZeQ)))).upd y o):=fun o=>St.sub_trans hsb (St.sub_upd _ hy)
      refine Zb (Zc ?_)
      simp only [Eqs,reduceCtorEq,reduceIte,Nat.reduceEqDiff,Zr.r7]
      refine YF rfl rfl rfl rfl rfl (by trivial) (by trivial) (by exact hclear y _ (St.upd_same _ _ _)) (Zc ?_)
      simp only [Eqs,reduceCtorEq,reduceIte,Nat.reduceEqDiff]
      simp only [St.upd_upd]
      refine Za (Zb (Zc ?_))
      simp only [Eqs,reduceCtorEq,reduceIte,Nat.reduceEqDiff,Nat.reduceAdd,Nat.reduceLeDiff,Zr.r8,Fld.cells,St.upd_same]
      simp only [ZcV]
      refine YS rfl rfl rfl rfl rfl (by trivial) (by trivial) (by exact (Zfw (Zdp f) (Zdd f.name f.kind)).leA (LeC.two (D.Le.refl _) (Zio (cs':=(Zdd f.name f.kind).cells) (.cons (D.Le.refl _) (.cons (D.Le.refl _) (.cons (D.Le.refl _) (.cons (D.Le.refl _) (.cons (D.Le.refl _) (.cons (D.Le.refl _) (.cons (D.Le.refl _) (.cons (D.Le.refl _) (.cons (K9 (by simp)) (.cons (D.Le.refl _) (.cons (D.Le.refl _) (.cons (D.Le.refl _) (.cons (K9 (by simp)) (.cons (D.Le.refl _) (.cons (D.Le.refl _) .nil)))))))))))))))))) (Zc ?_)
      simp only [Eqs]
      refine Z6 rfl rfl rfl rfl rfl (by trivial) (by trivial) (by exact YW (hst.mono (hsy _)).x (decide (Zdp f=Zdd f.name f.kind)) 5) ?_ ?_
      ·rintro d S5 h
       obtain ⟨hok5,rfl,rfl⟩:=W8 h
       rw [hok5,Bool.true_and] at hS
       refine Zc ?_
       simp only [Eqs,reduceCtorEq,reduceIte,Nat.reduceEqDiff]
       refine Zb (Zc ?_)
       simp only [Eqs,reduceCtorEq,reduceIte,Nat.reduceEqDiff,Nat.reduceAdd,Nat.reduceLeDiff,Zr.r9]
       simp only [ZcV]
       refine Z6 rfl rfl rfl rfl rfl (by trivial) (by trivial) (by exact hcheck _ (hsy _)) ?_ ?_
       ·rintro d S6 h
        obtain ⟨hok6,rfl,rfl⟩:=W8 h
        rw [hok6] at hS
        refine Zc ?_
        simp only [Eqs]
        exact hF.fin (.tup []) S2 rfl trivial (D.Le.refl _) (hsy _) (ZaV hS)
       ·rintro d S6 h
        obtain ⟨hok6,hfl,rfl⟩:=W9 h
        rw [hok6] at hS
        exact hF.pan S2 (hsy _) (KS hS hfl)
      ·rintro d S5 h
       obtain ⟨hok5,hfl,rfl⟩:=W9 h
       rw [hok5,Bool.false_and] at hS
       exact hF.pan S2 (hsy _) (KS hS hfl)
     ·rintro d S4 h
      exact absurd (W9 h).1 (by simp)
   ·rintro d S3 ⟨b,hb,hd,_⟩
    cases hd
  ·rintro d S2 h
   obtain ⟨hok2,hfl,rfl⟩:=W9 h
   rw [hok2,Bool.false_and] at hS
   exact hF.pan _ (St.sub_refl _) (KS hS hfl)
 ·rintro d S h
  obtain ⟨hok,hfl,rfl⟩:=W9 h
  rw [hok,Bool.false_and] at hS
  exact hF.pan _ (St.sub_refl _) (KS hS hfl)
end Go.DL
namespace Go.DL
open Go Go.Proofs
def ddS (l:List Str):List Str:=l.foldl ZbD []
theorem Zml (l out:List Str):∃ r,l.foldl ZbD out=out++r:=by
 induction l generalizing out with
 | nil=>exact ⟨[],by simp⟩
 | cons x r ih =>
  obtain ⟨q,hq⟩:=ih (ZbD out x)
  rw [List.foldl_cons,hq]
  unfold ZbD
  split
  ·exact ⟨q,rfl⟩
  ·exact ⟨[x]++q,by simp⟩
theorem Zk5 {l:List Str} {i:Nat} (h:i < l.length):ddS (l.take (i + 1))=ZbD (ddS (l.take i)) (l.getD i default):=by
 unfold ddS; rw [WL h,List.foldl_append]; rfl
theorem Zmx {l:List Str} {s:Str}:s∈ddS l↔s∈l:=by unfold ddS; rw [ZeA]; simp
theorem ZpL (l:List Str) (i:Nat):∃ r,ddS l=ddS (l.take i)++r:=by
 conv=>enter [1,r]; lhs; rw [← List.take_append_drop i l]
 unfold ddS
 rw [List.foldl_append]
 exact Zml _ _
theorem Zqv {l:List Str} {i:Nat} (h:i < l.length) (hn:l.getD i default ∉ l.take i):(ddS (l.take i)).length < (ddS l).length∧(ddS l).getD (ddS (l.take i)).length default=l.getD i default∧(ddS (l.take (i + 1))).length=(ddS (l.take i)).length + 1:=by
 have h1:=Zk5 h
 have hm:l.getD i default ∉ ddS (l.take i):=fun hm=>hn (Zmx.1 hm)
 rw [ZbD,if_neg hm] at h1
 obtain ⟨r,hr⟩:=ZpL l (i + 1)
 rw [h1] at hr
 refine ⟨by rw [hr]; simp,by rw [hr]; simp [List.getD],by rw [h1]; simp⟩
theorem Zo1 {l:List Str} {i:Nat} (h:i < l.length) (hn:l.getD i default∈l.take i):ddS (l.take (i + 1))=ddS (l.take i):=by
 rw [Zk5 h,ZbD,if_pos (Zmx.2 hn)]
theorem ZfJ (l:List Str) (i:Nat) (h:i≤l.length) (tk:Tok) (s:Str):Yk Tryz.prog Yn.id [.sl tk i 1 (fun i=>[.str (l.getD i default)]),.str s] (.bool (decide (s∈l.take i))):=by
 have hrow:We Qg (fun i=>[.str (l.getD i default)]) (l.take i):=(We.self (f:=Qg) (l:=l)).take i
 exact (Zc3 (l.take i) s).leA (LeC.two (hrow.le (by rw [List.length_take]; omega)) (D.Le.refl _))
theorem ZfW (l:List Str) (hl:l.length≤big) (x:Nat):Zbi Tryz.prog (.fn (.func Z0.id) [] [.ptr x 0]) (ddS l).length (fun j=>[.str ((ddS l).getD j default)]) (St.single x (.cells [ZaM l])):=by
 intro y go A a0 hcons hA hd
 have hw:=hl
 unfold big at hw
 refine ZY.V (first:=[]) (args:=[y]) (caps:=[.ptr x 0]) (ZP Z0.ok fun F hF=>?_)
 have hx:∀ a,Wt a (St.single x (.cells [ZaM l]))→(a.or (St.single x (.cells [ZaM l]))) x=some (.cells [ZaM l]):=fun a hda=>by
  rw [Yr (hda x _ (KB _ _)),KB]
 generalize hT:St.single x (.cells [ZaM l])=T at *
 refine Za (Zb (Zc ?_))
 simp only [Eqs,reduceCtorEq,reduceIte,Nat.reduceEqDiff,Nat.reduceAdd,Z0.r0,hx a0 hd,ZaM,slD]
 refine Zo (YH ?_)
 have key:∀ (n i:Nat),(l.length) - i=n→∀ a,A (ddS (l.take i)).length a→Wt a T→(∀ j,j < (ddS (l.take i)).length→go j = .next)→i≤l.length→ZU F [.code (Z0.l0),.inLoop Z0.l0,.inBlock 0] [(0,.d y),(1,.d (.ptr x 0)),(5,.d (ZaM l)),(6,.d (.int .i64 l.length)),(7,.d (.int .i64 i))] [] (a.or T):=by
  intro n
  induction n using Nat.strongRecOn with
  | ind n ih_key =>
  clear hA hd
  intro i hn a hA hd hno hi
  refine Za (Zb (Zc ?_))
  simp only [Eqs,reduceCtorEq,reduceIte,Nat.reduceEqDiff,Z0.r1]
  refine Za (Zg rfl trivial (fun h1=>?_) (fun h1=>?_))
  ·simp at h1
   by_cases hm:l.getD i default∈l.take i
   ·have hsm:=Zo1 h1 hm
    refine Zq (Za (Zo (Za (Zb (Zc ?_)))))
    simp only [Eqs,reduceCtorEq,reduceIte,Nat.reduceEqDiff,Z0.r2,ZaM,slD]
    repeat (refine And.intro (by first | omega | trivial | (intro h0; simp at h0; omega)) ?_)
    refine Za (Zb (Zc ?_))
    simp only [Eqs,reduceCtorEq,reduceIte,Nat.reduceEqDiff,Z0.r3,hx a hd,ZaM,slD]
    repeat (refine And.intro (by first | omega | trivial | (intro h0; simp at h0; omega)) ?_)
    refine YS rfl rfl rfl rfl rfl (by trivial) (by trivial) (by exact ZfJ l i (by omega) _ _) (Zc ?_)
    simp only [Eqs,reduceCtorEq,reduceIte,Nat.reduceEqDiff,decide_eq_true hm]
    refine Zaj rfl (e:=.d (.bool false)) (Zc ?_)
    simp only [Eqs,reduceCtorEq,reduceIte,Nat.reduceEqDiff]
    refine Zg rfl trivial (fun h=>by simp at h) (fun _=>?_)
    refine Zq (ZC (Zb (Zc ?_)))
    simp only [Eqs,reduceCtorEq,reduceIte,Nat.reduceEqDiff,Z0.r4]
    repeat (refine And.intro (by first | omega | trivial | (intro h0; simp at h0; omega)) ?_)
    refine Z3 ?_
    exact ih_key ((l.length) - (i + 1)) (by omega) (i + 1) rfl a (by rw [hsm]; exact hA) hd (by rw [hsm]; exact hno) (by omega)
   ·have hat:=Zqv h1 hm
    refine Zq (Za (Zo (Za (Zb (Zc ?_)))))
    simp only [Eqs,reduceCtorEq,reduceIte,Nat.reduceEqDiff,Z0.r2,ZaM,slD]
    repeat (refine And.intro (by first | omega | trivial | (intro h0; simp at h0; omega)) ?_)
    refine Za (Zb (Zc ?_))
    simp only [Eqs,reduceCtorEq,reduceIte,Nat.reduceEqDiff,Z0.r3,hx a hd,ZaM,slD]
    repeat (refine And.intro (by first | omega | trivial | (intro h0; simp at h0; omega)) ?_)
    refine YS rfl rfl rfl rfl rfl (by trivial) (by trivial) (by exact ZfJ l i (by omega) _ _) (Zc ?_)
    simp only [Eqs,reduceCtorEq,reduceIte,Nat.reduceEqDiff,decide_eq_false hm]
    have hcall:=(hcons _ hat.1 hno a hA).frame hd
    simp only [hat.2.1] at hcall
    refine ZaH rfl rfl rfl rfl rfl (by trivial) (by trivial) (by exact hcall) ?_ ?_
    ·rintro d S ⟨s',⟨hr,hA'⟩,hd',rfl⟩
     cases hgo:go (ddS (l.take i)).length with
     | next =>
      rw [hgo] at hr
      cases hr
      refine Zc ?_
      simp only [Eqs,reduceCtorEq,reduceIte,Nat.reduceEqDiff]
      refine Zg rfl trivial (fun h=>by simp at h) (fun _=>?_)
      refine Zq (ZC (Zb (Zc ?_)))
      simp only [Eqs,reduceCtorEq,reduceIte,Nat.reduceEqDiff,Z0.r4]
      repeat (refine And.intro (by first | omega | trivial | (intro h0; simp at h0; omega)) ?_)
      refine Z3 ?_
      exact ih_key ((l.length) - (i + 1)) (by omega) (i + 1) rfl s' (by rw [hat.2.2]; exact hA') hd' (by rw [hat.2.2]; exact KD (q:=fun i=>go i = .next) hno hgo) (by omega)
     | stop c =>
      rw [hgo] at hr
      cases hr
      refine Zc ?_
      simp only [Eqs,reduceCtorEq,reduceIte,Nat.reduceEqDiff]
      refine Zg rfl trivial (fun _=>?_) (fun h=>by simp at h)
      exact hF.ret (.tup []) _ rfl trivial (D.Le.refl _) (St.sub_refl _) ⟨s',.stop _ c hat.1 hno hgo hA',Qi _ _⟩
     | pan d=>rw [hgo] at hr; cases hr
    ·rintro d S ⟨s',⟨hr,hA'⟩,hd',rfl⟩
     cases hgo:go (ddS (l.take i)).length with
     | pan d' =>
      rw [hgo] at hr
      cases hr
      exact hF.pan _ (St.sub_refl _) ⟨s',.pan _ d hat.1 hno hgo hA',Qi _ _⟩
     | next=>rw [hgo] at hr; cases hr
     | stop c=>rw [hgo] at hr; cases hr
  ·simp at h1
   obtain rfl:i=l.length:=by omega
   rw [List.take_length] at hA hno
   refine Ys rfl ?_
   exact hF.fin (.tup []) _ rfl trivial (D.Le.refl _) (St.sub_refl _) ⟨a,.all hno hA,Qi _ _⟩
 exact key _ 0 rfl a0 hA hd (by intro i hi; simp [ddS] at hi) (by omega)
theorem ZhX (m:Msg) (hb:(m.fields.flatMap Wv).length≤1000000) (st:St):ZY Tryz.prog Zi.id [.agg m.cells] st fun r S=>∃ x,st x=none∧r = .ret (.fn (.func Z0.id) [] [.ptr x 0])∧S=st.or (St.single x (.cells [ZaM (m.fields.flatMap Wv)])):=by
 refine Zcy Zi.ok fun hwf F hF=>?_
 have hw:=(ZnP (s:=m) (hwf _ (by simp))).nfields
 have hfw:=(ZnP (s:=m) (hwf _ (by simp))).fields
 unfold big at hw
 clear hwf
 refine Za (Zb (Zc ?_))
 simp only [Eqs,reduceCtorEq,reduceIte,Nat.reduceEqDiff,Zi.r0,Msg.cells]
 refine Za (Zb (Zc ?_))
 simp only [Eqs,reduceIte,Nat.reduceEqDiff,Zi.r1]
 refine Za (Za (Zb (Zc ?_)))
 simp only [Eqs,reduceIte,Nat.reduceEqDiff,Zi.r2,Wl,slD]
 refine Zo ?_
 refine Qy (s':=st) (by first | exact St.sub_refl _ | exact ZM (by first | trivial | assumption) | exact St.sub_trans (ZM (by first | trivial | assumption)) (ZM (by first | trivial | assumption)) | assumption) (ZaT (ρ':=[(3,.loc 3 0),(9,.d (Wl m.fields)),(10,.d (.int .i64 m.fields.length)),(11,.d (.int .i64 (0:Nat)))]) (L':=[(3,[.sl .full 0 1 fun _=>[]])]) ?_ ?_ ?_)
 ·exact Zcf _
 ·exact .cons (.cons (K9 (by simp)) .nil) .nil
 refine YH ?_
 have key:∀ (n i:Nat),(m.fields.length) - i=n→∀ tk row out,tk.okIn st→We (fun s=>[.str s]) row out→out=(m.fields.take i).flatMap Wv→i≤m.fields.length→ZU F [.code (Zi.l0),.inLoop Zi.l0,.inBlock 0,.code (.seq (qR Zi.r17 [2]) .ret)] [(3,.loc 3 0),(9,.d (Wl m.fields)),(10,.d (.int .i64 m.fields.length)),(11,.d (.int .i64 i))] [(3,[.sl tk out.length 1 row])] (st.own tk (out.length * 1)):=by
  intro n
  induction n using Nat.strongRecOn with
  | ind n ih_key =>
  intro i hn tk row out htk hrow hout hi
  refine Za (Zb (Zc ?_))
  simp only [Eqs,reduceIte,Nat.reduceEqDiff,Zi.r3]
  refine Za (Zg rfl trivial (fun h1=>?_) (fun h1=>?_))
  ·simp at h1
   have hsn:=Zg4 m.fields i h1
   have hlt2:=Zfv m.fields (i + 1)
   rw [hsn,List.length_append,← hout] at hlt2
   have hnc:=(hfw _ (KQ h1)).ncases
   unfold big at hnc
   generalize hf:m.fields.getD i default=f at *
   refine Zq (Za (Zo (Za (Zb (Zc ?_)))))
   simp only [Eqs,reduceIte,Nat.reduceEqDiff,Nat.reduceAdd,Nat.reduceLeDiff,Zi.r4,Wl,slD,Fld.cells,hf]
   repeat (refine And.intro (by first | omega | trivial | (intro h0; simp at h0; omega)) ?_)
   refine Za (Zb (Zc ?_))
   simp only [Eqs,reduceIte,Nat.reduceEqDiff,Zi.r5]
   refine Zo (Za (Za (Zb (Zc ?_))))
   simp only [Eqs,reduceIte,Nat.reduceEqDiff,Zi.r6]
   have jn:∀ bb:Bool,bb=(decide (f.kind=7) || (decide (f.kind=8) || decide (f.kind=12)))→ZU F [.code (qC 17 (qR Zi.r9 [3,9,10,11]) (.seq (qR Zi.r10 [3,5,9,10,11,26]) (qC 26 (.seq (qR Zi.r11 [3,9,10,11,29,30,31]) (.block 3 (.loop Zi.l1))) .skip))),.inBlock 2,.inBlock 1,.code (qR Zi.r16 [3,9,10,11]),.inLoop Zi.l0,.inBlock 0,.code (.seq (qR Zi.r17 [2]) .ret)] [(3,.loc 3 0),(5,.loc 5 0),(9,.d (Wl m.fields)),(10,.d (.int .i64 m.fields.length)),(11,.d (.int .i64 i)),(16,.d (.int .i64 f.kind)),(17,.d (.bool bb))] [(3,[.sl tk out.length 1 row]),(5,f.cells)] (st.own tk (out.length * 1)):=by
    intro bb hbb
    refine Zg rfl trivial (fun h3=>?_) (fun h3=>?_)
    ·have hrf:Wv f=[f.of]:=by
      subst h3
      have h9:¬ f.kind=9:=by
       intro e; rw [e] at hbb; simp at hbb
      unfold Wv Zag
      rw [← hbb,if_pos rfl,if_neg h9,List.append_nil]
     rw [hrf] at hsn hlt2
     simp only [List.length_cons,List.length_nil] at hlt2
     refine Zb (Zc ?_)
     simp only [Eqs,reduceIte,Nat.reduceEqDiff,Zi.r9,Fld.cells]
     refine ZcQ (st) (tk) rfl rfl rfl rfl rfl rfl (by trivial) (by trivial) rfl (by first | trivial | assumption) (by omega) (by (unfold big; omega)) fun t1 ht1=>Zc ?_
     simp only [Eqs,reduceIte,Nat.reduceEqDiff,Nat.reduceLeDiff]
     refine ZC (ZC (Zb (Zc ?_)))
     simp only [Eqs,reduceIte,Nat.reduceEqDiff,Zi.r16]
     repeat (refine And.intro (by first | omega | trivial | (intro h0; simp at h0; omega)) ?_)
     refine Z3 ?_
     have hnext:=ih_key ((m.fields.length) - (i + 1)) (by omega) (i + 1) rfl t1 _ (out++[f.of]) ht1 (hrow.snoc (x:=f.of) (row2:=Wu [.str []] ([0].zip [.str f.of])) rfl rfl) (by rw [hsn,hout]) (by omega)
     rw [List.length_append] at hnext
     exact hnext
    ·have hrf:Wv f=if f.kind=9 then f.cases.map (·.of) else []:=by
      subst h3
      unfold Wv Zag
      rw [← hbb,if_neg (by simp),List.nil_append]
     rw [hrf] at hsn hlt2
     refine Za (Zb (Zc ?_))
     simp only [Eqs,reduceIte,Nat.reduceEqDiff,Zi.r10]
     refine Zg rfl trivial (fun h4=>?_) (fun h4=>?_)
     ·have h9:f.kind=9:=by simpa using h4
      rw [if_pos h9] at hsn hlt2
      simp only [List.length_map] at hlt2
      refine Za (Zb (Zc ?_))
      simp only [Eqs,reduceIte,Nat.reduceEqDiff,Zi.r11,Fld.cells,Kx,slD]
      refine Zo (YH ?_)
      have key2:∀ (n q:Nat),(f.cases.length) - q=n→∀ tk row o,tk.okIn st→We (fun s=>[.str s]) row o→o=out++(f.cases.take q).map (·.of)→q≤f.cases.length→ZU F [.code (Zi.l1),.inLoop Zi.l1,.inBlock 3,.inBlock 2,.inBlock 1,.code (qR Zi.r16 [3,9,10,11]),.inLoop Zi.l0,.inBlock 0,.code (.seq (qR Zi.r17 [2]) .ret)] [(3,.loc 3 0),(9,.d (Wl m.fields)),(10,.d (.int .i64 m.fields.length)),(11,.d (.int .i64 i)),(29,.d (Kx f.cases)),(30,.d (.int .i64 f.cases.length)),(31,.d (.int .i64 q))] [(3,[.sl tk o.length 1 row])] (st.own tk (o.length * 1)):=by
       intro n
       induction n using Nat.strongRecOn with
       | ind n ih_key2 =>
       clear hrow htk
       intro q hnq tk row o htk hrow ho hq
       have hol:o.length=out.length + q:=by rw [ho]; simp; omega
       refine Za (Zb (Zc ?_))
       simp only [Eqs,reduceIte,Nat.reduceEqDiff,Zi.r12]
       refine Za (Zg rfl trivial (fun h5=>?_) (fun h5=>?_))
       ·simp at h5
        have hsn2:(f.cases.take (q + 1)).map (·.of)=(f.cases.take q).map (·.of)++[(f.cases.getD q default).of]:=by rw [WL h5,List.map_append]; rfl
        generalize hc:f.cases.getD q default=c at *
        refine Zq (Za (Zo (Za (Zb (Zc ?_)))))
        simp only [Eqs,reduceIte,Nat.reduceEqDiff,Nat.reduceAdd,Nat.reduceLeDiff,Zi.r13,Kx,slD,Y9.cells,hc]
        repeat (refine And.intro (by first | omega | trivial | (intro h0; simp at h0; omega)) ?_)
        refine Zb (Zc ?_)
        simp only [Eqs,reduceIte,Nat.reduceEqDiff,Zi.r14]
        refine ZcQ (st) (tk) rfl rfl rfl rfl rfl rfl (by trivial) (by trivial) rfl (by first | trivial | assumption) (by omega) (by (unfold big; omega)) fun t1 ht1=>Zc ?_
        simp only [Eqs,reduceIte,Nat.reduceEqDiff,Nat.reduceLeDiff]
        refine ZC (Zb (Zc ?_))
        simp only [Eqs,reduceIte,Nat.reduceEqDiff,Zi.r15]
        repeat (refine And.intro (by first | omega | trivial | (intro h0; simp at h0; omega)) ?_)
        refine Z3 ?_
        have hnext:=ih_key2 ((f.cases.length) - (q + 1)) (by omega) (q + 1) rfl t1 _ (o++[c.of]) ht1 (hrow.snoc (x:=c.of) (row2:=Wu [.str []] ([0].zip [.str c.of])) rfl rfl) (by rw [hsn2,ho,List.append_assoc]) (by omega)
        rw [List.length_append] at hnext
        exact hnext
       ·simp at h5
        obtain rfl:q=f.cases.length:=by omega
        rw [List.take_length] at ho
        refine Ys rfl (ZC (ZC (Zb (Zc ?_))))
        simp only [Eqs,reduceIte,Nat.reduceEqDiff,Zi.r16]
        repeat (refine And.intro (by first | omega | trivial | (intro h0; simp at h0; omega)) ?_)
        refine Z3 ?_
        exact ih_key ((m.fields.length) - (i + 1)) (by omega) (i + 1) rfl tk row o htk hrow (by rw [hsn,ho,hout]) (by omega)
      exact key2 _ 0 rfl tk row out htk hrow (by simp) (by omega)
     ·have h9:¬ f.kind=9:=by simpa using h4
      rw [if_neg h9,List.append_nil] at hsn
      refine Zq ?_
      refine ZC (ZC (Zb (Zc ?_)))
      simp only [Eqs,reduceIte,Nat.reduceEqDiff,Zi.r16]
      repeat (refine And.intro (by first | omega | trivial | (intro h0; simp at h0; omega)) ?_)
      refine Z3 ?_
      exact ih_key ((m.fields.length) - (i + 1)) (by omega) (i + 1) rfl tk row out htk hrow (by rw [hsn,hout]) (by omega)
   refine Zg rfl trivial (fun h2=>?_) (fun h2=>?_)
   ·refine Zq ?_
    refine jn _ ?_
    rw [h2,Bool.true_or]
   ·refine Za (Zb (Zc ?_))
    simp only [Eqs,reduceIte,Nat.reduceEqDiff,Zi.r7]
    refine Zg rfl trivial (fun h3=>?_) (fun h3=>?_)
    ·refine Zq ?_
     refine jn _ ?_
     rw [h2,h3]; rfl
    ·refine Zb (Zc ?_)
     simp only [Eqs,reduceIte,Nat.reduceEqDiff,Zi.r8]
     refine jn _ ?_
     rw [h2,h3]; rfl
  ·simp at h1
   obtain rfl:i=m.fields.length:=by omega
   rw [List.take_length] at hout
   refine Ys rfl (Za ?_)
   refine Qy (s':=st) (by first | exact St.sub_refl _ | exact ZM (by first | trivial | assumption) | exact St.sub_trans (ZM (by first | trivial | assumption)) (ZM (by first | trivial | assumption)) | assumption) (ZaT (ρ':=[(3,.loc 3 0),(9,.d (Wl m.fields)),(10,.d (.int .i64 m.fields.length)),(11,.d (.int .i64 m.fields.length)),(12,.d (.bool (decide ((m.fields.length:Int) < m.fields.length))))]) (L':=[(3,[ZaM out])]) ?_ ?_ ?_)
   ·exact Zcf _
   ·exact .cons (.cons (hrow.le rfl) .nil) .nil
   refine Yp 3 rfl fun x hx=>?_
   simp only [reduceIte,Yz,Wi,delL]
   refine Zb (Zc ?_)
   simp only [Eqs,reduceIte,Nat.reduceEqDiff,Zi.r17]
   exact hF.ret _ _ rfl (by trivial) (D.Le.refl _) (St.sub_refl _) ⟨x,hx,rfl,by rw [← hout]; exact Q6 hx⟩
 exact key _ 0 rfl .full _ [] trivial We.nil rfl (by omega)
end Go.DL
namespace Go.DL
open Go Go.Proofs
def Qk (dl:List (Str × Int)) (m:Msg):Int:=(Ql m).foldl (fun a s=>max a ((ZS s dl).getD 0)) 0
def JO (sl:List (Str × Bool)) (m:Msg):Bool:=(m.fields.all fun f=>!f.loose) && (Ql m).all fun s=>(ZS s sl).getD false
def Jh (dl:List (Str × Int)) (sl:List (Str × Bool)) (m:Msg) (n:Nat):Bool:=(List.range n).all fun i=>Jn (m.fields.take i) dl sl (m.fields.getD i default)
def ZcZ (dl:List (Str × Int)) (sl:List (Str × Bool)) (m:Msg):Bool :=
 K7 m.name && (!(ZS m.name dl).isSome && ((decide (1≤(m.fields.length:Int)) && decide ((m.fields.length:Int)≤40)) && (Jh dl sl m m.fields.length && decide (Qk dl m < 16))))
def Zi5:Int:=4611686018427387904
theorem ZjI {fs:List Fld} {dl:List (Str × Int)} {sl:List (Str × Bool)} {f:Fld} (h:Jn fs dl sl f=true) (hn:Qc f=true):(KT f).2 < Zi5:=by
 unfold Jn at h
 simp only [Bool.and_eq_true] at h
 have hc:=h.2.2.2.2
 unfold Qc at hn
 simp only [Bool.and_eq_true,decide_eq_true_eq] at hn
 have hk:f.kind=1∨f.kind=2∨f.kind=3:=by omega
 unfold Zdz at hc
 unfold KT Zi5
 rcases hk with hk | hk | hk <;> simp only [hk,Int.reduceEq,if_true,if_false] at hc ⊢
 ·unfold ck1 ZcE at hc
  simp only [W1,Bool.and_eq_true,decide_eq_true_eq,Bool.and_true] at hc
  have:=ZcS (b:=f.bits) (by omega) (by omega)
  generalize (2:Int) ^ f.bits.toNat=pw at *
  omega
 ·unfold ck2 ZcE at hc
  simp only [W1,Bool.and_eq_true,decide_eq_true_eq,Bool.and_true] at hc
  have:=ZcS (b:=f.bits) (by omega) (by omega)
  generalize (2:Int) ^ f.bits.toNat=pw at *
  omega
 ·unfold ck3 at hc
  simp only [W1,Bool.and_eq_true,decide_eq_true_eq,Bool.and_true] at hc
  omega
theorem ZmR {fs:List Fld} {i:Nat} (h:∀ j,j < i→Qc (fs.getD j default)=true→(KT (fs.getD j default)).2 < Zi5) (k:Str):((ZS k (Qw fs i)).getD (0,0)).2 < Zi5:=by
 induction i with
 | zero=>simp [Qw,ZS,Zi5]
 | succ i ih =>
  have h1:=ih fun j hj=>h j (by omega)
  simp only [Qw]
  split
  ·rename_i hn
   rw [J8]
   split
   ·exact h i (by omega) hn
   ·exact h1
  ·exact h1
theorem Zko {dl:List (Str × Int)} {sl:List (Str × Bool)} {m:Msg} {i:Nat} (h:Jh dl sl m i=true) (hi:i≤m.fields.length) (k:Str):((ZS k (QL (m.fields.take i))).getD (0,0)).2 < 4611686018427387904:=by
 refine ZmR (fun j hj hn=>?_) k
 rw [List.length_take] at hj
 rw [Zcb (by omega)] at hn ⊢
 exact ZjI (List.all_eq_true.1 h j (by simp; omega)) hn
theorem Zkx {fs:List Fld} {dl:List (Str × Int)} {sl:List (Str × Bool)} {f:Fld} (h:Jn fs dl sl f=true):(Wv f).length≤41:=by
 unfold Jn at h
 simp only [Bool.and_eq_true] at h
 have hc:=h.2.2.2.2
 unfold Wv
 rw [List.length_append]
 have h1:(Zag f).length≤1:=by unfold Zag; split <;> simp
 split
 ·rename_i h9
  unfold Zdz at hc
  simp only [h9,Int.reduceEq,if_true,if_false] at hc
  unfold Zgw at hc
  simp only [Bool.and_eq_true,decide_eq_true_eq] at hc
  simp only [List.length_map]
  omega
 ·simp; omega
theorem ZkW {dl:List (Str × Int)} {sl:List (Str × Bool)} {m:Msg} (h:Jh dl sl m m.fields.length=true) (hm:m.fields.length≤40):(m.fields.flatMap Wv).length≤1000000:=by
 have key:∀ l:List Fld,(∀ f∈l,(Wv f).length≤41)→(l.flatMap Wv).length≤41 * l.length:=by
  intro l
  induction l with
  | nil=>simp
  | cons x r ih =>
   intro hx
   have:=ih fun f hf=>hx f (by simp [hf])
   have:=hx x (by simp)
   simp only [List.flatMap_cons,List.length_append,List.length_cons]; omega
 have:=key m.fields fun f hf=>by
  obtain ⟨i,hi,rfl⟩:=List.getElem_of_mem hf
  have:=Zkx (List.all_eq_true.1 h i (by simpa using hi))
  simpa [List.getD,hi] using this
 omega
theorem Zgp {dl:List (Str × Int)} {sl:List (Str × Bool)} {m:Msg} {i:Nat}:Jh dl sl m (i + 1)=(Jh dl sl m i && Jn (m.fields.take i) dl sl (m.fields.getD i default)):=by
 unfold Jh; rw [List.range_succ,List.all_append]; simp
theorem ZkB {dl:List (Str × Int)} {sl:List (Str × Bool)} {m:Msg} {i n:Nat} (hi:i < n) (h:Jn (m.fields.take i) dl sl (m.fields.getD i default)=false):Jh dl sl m n=false :=
 List.all_eq_false.2 ⟨i,by simpa using hi,by rw [h]; simp⟩
theorem Q3.ne {st:St} {x bd bs:Nat} {k:Ck} {dl:List (Str × Int)} {sl:List (Str × Bool)} (h:Q3 st x bd bs k dl sl):x≠bd∧x≠bs :=
 ⟨fun e=>by have:=h.x; rw [e,h.bd] at this; simp at this,fun e=>by have:=h.x; rw [e,h.bs] at this; simp at this⟩
theorem Q3.updX {st:St} {x bd bs:Nat} {k:Ck} {dl:List (Str × Int)} {sl:List (Str × Bool)} (h:Q3 st x bd bs k dl sl) (k':Ck):Q3 (st.upd x (.cells (k'.cells bd bs))) x bd bs k' dl sl :=
 ⟨St.upd_same _ _ _,by rw [St.upd_ne _ _ h.ne.1.symm]; exact h.bd,by rw [St.upd_ne _ _ h.ne.2.symm]; exact h.bs⟩
def Zdv (ok:Bool) (st:St) (x bd bs:Nat) (k:Ck) (dl:List (Str × Int)) (sl:List (Str × Bool)) (r:Res) (S:St):Prop :=
 if ok then r = .ret (.tup [])∧S=((st.upd x (.cells (k.cells bd bs))).upd bd (.map (ZfE dl))).upd bs (.map (Zc4 sl)) else (∃ d,ZcM d∧r = .panic d)∧∀ b,b≠x→b≠bd→b≠bs→S b=st b
theorem Zms {ok:Bool} {st:St} {x bd bs:Nat} {k:Ck} {dl:List (Str × Int)} {sl:List (Str × Bool)} {d:D} {c:List D} (h:ok=false) (hd:ZcM d):Zdv ok st x bd bs k dl sl (.panic d) (st.upd x (.cells c)):=by
 subst h; exact ⟨⟨d,hd,rfl⟩,fun b h1 _ _=>St.upd_ne _ _ h1⟩
theorem Zkm {K V:Type} [DecidableEq K] {kp:KP} {kD:K→D} {vD:V→D} (h:ZeY kp kD) (k:K) (z:D) (l:List (K × V)):ZeW kp (kD k) z (QF kD vD l)=some ((ZS k l).elim z vD):=by
 induction l with
 | nil=>rfl
 | cons e r ih =>
  simp only [QF,List.map_cons,ZeW,h k e.1,ZS]
  by_cases hk:k=e.1
  ·simp [hk]
  ·simp only [hk,decide_false,if_false]; exact ih
def nxS (s1:St) (x z2 z6 z9:Nat) (sb:Bool) (dp:Int):St:=((s1.upd z2 (.cells [.ptr x 0])).upd z6 (.cells [.bool sb])).upd z9 (.cells [.int .i64 dp])
structure Q7 (s1:St) (z2 z6 z9:Nat):Prop where
 n2:s1 z2=none
 n6:z6≠z2∧s1 z6=none
 n9:z9≠z6∧z9≠z2∧s1 z9=none
section
variable {s1:St} {x z2 z6 z9:Nat} {sb:Bool} {dp:Int}
theorem Q7.g2 (h:Q7 s1 z2 z6 z9):(nxS s1 x z2 z6 z9 sb dp) z2=some (.cells [.ptr x 0]):=by
 simp [nxS,St.upd,h.n6.1.symm,h.n9.2.1.symm]
theorem Q7.g6 (h:Q7 s1 z2 z6 z9):(nxS s1 x z2 z6 z9 sb dp) z6=some (.cells [.bool sb]):=by
 simp [nxS,St.upd,h.n9.1.symm]
theorem Q7.g9:(nxS s1 x z2 z6 z9 sb dp) z9=some (.cells [.int .i64 dp]):=by
 simp [nxS,St.upd]
theorem Q7.gs (h:Q7 s1 z2 z6 z9) {b:Nat} {o:Kq} (hb:s1 b=some o):(nxS s1 x z2 z6 z9 sb dp) b=some o:=by
 have h2:b≠z2:=fun e=>by rw [e,h.n2] at hb; simp at hb
 have h6:b≠z6:=fun e=>by rw [e,h.n6.2] at hb; simp at hb
 have h9:b≠z9:=fun e=>by rw [e,h.n9.2.2] at hb; simp at hb
 simp [nxS,St.upd,h2,h6,h9,hb]
theorem Q7.sub (h:Q7 s1 z2 z6 z9):s1.sub (nxS s1 x z2 z6 z9 sb dp):=fun b o hb=>h.gs hb
theorem Q7.u9 (dp':Int):(nxS s1 x z2 z6 z9 sb dp).upd z9 (.cells [.int .i64 dp'])=nxS s1 x z2 z6 z9 sb dp':=by
 unfold nxS; rw [St.upd_upd]
theorem Q7.u6 (h:Q7 s1 z2 z6 z9) (sb':Bool):(nxS s1 x z2 z6 z9 sb dp).upd z6 (.cells [.bool sb'])=nxS s1 x z2 z6 z9 sb' dp:=by
 unfold nxS; rw [St.upd_comm _ _ _ h.n9.1.symm,St.upd_upd]
theorem Q7.disj {sb':Bool} {dp':Int} {t:St} (h:Wt (nxS s1 x z2 z6 z9 sb dp) t):Wt (nxS s1 x z2 z6 z9 sb' dp') t:=fun c o hc=>by
 have:=h c o hc
 unfold nxS at this ⊢
 have k9:=YY this
 have k6:=YY k9.2
 rw [St.upd_ne _ _ k9.1,St.upd_ne _ _ k6.1]; exact k6.2
theorem Q7.ub (h:Q7 s1 z2 z6 z9) {b:Nat} {o o':Kq} (hb:s1 b=some o):(nxS s1 x z2 z6 z9 sb dp).upd b o'=nxS (s1.upd b o') x z2 z6 z9 sb dp:=by
 have h2:b≠z2:=fun e=>by rw [e,h.n2] at hb; simp at hb
 have h6:b≠z6:=fun e=>by rw [e,h.n6.2] at hb; simp at hb
 have h9:b≠z9:=fun e=>by rw [e,h.n9.2.2] at hb; simp at hb
 unfold nxS; rw [St.upd_comm _ _ _ h9,St.upd_comm _ _ _ h6,St.upd_comm _ _ _ h2]
theorem Q7.of (h:Q7 s1 z2 z6 z9) {b:Nat} {o o':Kq} (hb:s1 b=some o):Q7 (s1.upd b o') z2 z6 z9:=by
 have h2:z2≠b:=fun e=>by rw [← e,h.n2] at hb; simp at hb
 have h6:z6≠b:=fun e=>by rw [← e,h.n6.2] at hb; simp at hb
 have h9:z9≠b:=fun e=>by rw [← e,h.n9.2.2] at hb; simp at hb
 exact ⟨by rw [St.upd_ne _ _ h2]; exact h.n2,⟨h.n6.1,by rw [St.upd_ne _ _ h6]; exact h.n6.2⟩,⟨h.n9.1,h.n9.2.1,by rw [St.upd_ne _ _ h9]; exact h.n9.2.2⟩⟩
end
end Go.DL
namespace Go.DL
open Go Go.Proofs
theorem Zfr {dl:List (Str × Int)} {m:Msg} (h:∀ s,0≤(ZS s dl).getD 0∧(ZS s dl).getD 0≤16):0≤Qk dl m∧Qk dl m≤16:=by
 unfold Qk
 have:∀ (l:List Str) (b:Int),0≤b→b≤16→0≤l.foldl (fun a s=>max a ((ZS s dl).getD 0)) b∧l.foldl (fun a s=>max a ((ZS s dl).getD 0)) b≤16:=by
  intro l
  induction l with
  | nil=>intro b h1 h2; exact ⟨h1,h2⟩
  | cons s r ih =>
   intro b h1 h2
   have:=h s
   exact ih (max b ((ZS s dl).getD 0)) (by omega) (by omega)
 exact this _ 0 (by omega) (by omega)
theorem Zjv {x bd bs:Nat} {k:Ck} {dl:List (Str × Int)} {sl:List (Str × Bool)} {st:St} (hst:Q3 st x bd bs k dl sl) (hdd:bd≠bs) (hdl:∀ s,0≤(ZS s dl).getD 0∧(ZS s dl).getD 0≤16) (m:Msg) :
  ZY Tryz.prog Ze.id [.ptr x 0,.agg m.cells] st (Zdv (ZcZ dl sl m) st x bd bs { k with field:=-1,m:=m } (Kk m.name (Qk dl m + 1) dl) (Kk m.name (JO sl m) sl)):=by
 refine ZP Ze.ok fun F hF=>?_
 have hS:=ZcZ.eq_1 dl sl m
 have hx:=hst.x
 have hne:=hst.ne
 refine Za (Zb (Zc ?_))
 simp only [Eqs,reduceCtorEq,reduceIte,Nat.reduceEqDiff,Nat.reduceAdd,Ze.r0,Msg.cells]
 refine Za (Wy (ZO ?_))
 simp only [Eqs,reduceIte,Nat.reduceEqDiff,Nat.reduceAdd,Nat.reduceLeDiff,Ze.r1,hx,Ck.cells,St.upd_same,St.upd_upd]
 obtain ⟨k1,hk1⟩:∃ k1:Ck,k1={ k with field:=-1,m:=m }:=⟨_,rfl⟩
 have hst1:=hst.updX k1
 have hS1:(st.upd x (.cells [.str k.d.name,Kf k.d.msgs,.str k.d.start,.map bd,.map bs,.int .i64 k.at_,.int .i64 (-1),.str m.name,Wl m.fields]))=st.upd x (.cells (k1.cells bd bs)):=by rw [hk1]; rfl
 rw [hS1]
 rw [← hk1] at hF
 generalize hS1e:st.upd x (.cells (k1.cells bd bs))=S1 at *
 have e1:=KK (vD:=QZ) Wk m.name dl
 have e3:=Qh Wk m.name
 simp only [show QY m.name=D.str m.name from rfl] at e1 e3
 have hbad:∀ d,ZcZ dl sl m=false→ZcM d→Zdv (ZcZ dl sl m) st x bd bs k1 (Kk m.name (Qk dl m + 1) dl) (Kk m.name (JO sl m) sl) (.panic d) S1:=fun d h hd=>by rw [← hS1e]; exact Zms h hd
 clear hS1
 refine Za (Wy (ZO ?_))
 simp only [Eqs,reduceIte,Nat.reduceEqDiff,Ze.r2]
 refine Kp rfl rfl rfl rfl rfl (by trivial) (by trivial) (by exact ZbG m.name) (ZO ?_)
 simp only [Eqs,reduceIte]
 refine JP rfl rfl rfl rfl rfl (by trivial) (by trivial) (by exact YW hst1.x (K7 m.name) 1) ?_ ?_
 ·rintro d S h
  obtain ⟨hok,rfl,rfl⟩:=W8 h
  rw [hok,Bool.true_and] at hS
  first | refine ⟨by first | trivial | exact ⟨rfl,trivial⟩,?_⟩ | skip
  refine ZO ?_
  simp only [Eqs,reduceIte,Nat.reduceEqDiff]
  refine Za (KU (Kz ?_))
  simp only [Eqs,reduceIte,Nat.reduceEqDiff,Ze.r3,hst1.x,hst1.bd,Ck.cells,e1,-Ke,ZhQ]
  refine Za (Zb (Zc ?_))
  simp only [Eqs,reduceIte,Nat.reduceEqDiff,Ze.r4]
  refine Z6 rfl rfl rfl rfl rfl (by trivial) (by trivial) (by exact YW hst1.x (!(ZS m.name dl).isSome) 2) ?_ ?_
  ·rintro d S h
   obtain ⟨hok,rfl,rfl⟩:=W8 h
   rw [hok,Bool.true_and] at hS
   refine Zc ?_
   simp only [Eqs,reduceIte,Nat.reduceEqDiff]
   refine Za (Zb (Zc ?_))
   simp only [Eqs,reduceIte,Nat.reduceEqDiff,Ze.r5,Wl,slD]
   refine Z6 rfl rfl rfl rfl rfl (by trivial) (by trivial) (by exact YW hst1.x (decide (1≤(m.fields.length:Int)) && decide ((m.fields.length:Int)≤40)) 3) ?_ ?_
   ·rintro d S h
    obtain ⟨hok,rfl,rfl⟩:=W8 h
    rw [hok,Bool.true_and] at hS
    simp only [Bool.and_eq_true,decide_eq_true_eq] at hok
    refine Zc ?_
    simp only [Eqs,reduceIte,Nat.reduceEqDiff]
    refine Za (Zb (Zc ?_))
    simp only [Eqs,reduceIte,Nat.reduceEqDiff,Nat.reduceLeDiff,Ze.r6]
    refine Za (Za (Zb (Zc ?_)))
    simp only [Eqs,reduceIte,Nat.reduceEqDiff,Ze.r7]
    subst hk1
    refine Zo (YH ?_)
    have key:∀ (n i:Nat),(m.fields.length) - i=n→∀ fl:Int,Jh dl sl m i=true→i≤m.fields.length→ZU F [.code (Ze.l0),.inLoop Ze.l0,.inBlock 0,.code (.seq (qR Ze.r14 [2,3,6,76]) (.seq (qR Ze.r15 [2,3,6,9,76]) (.seq (.seq (qR Ze.r16 [2,3,6,9,75,76]) (.block 2 (.rangeF (.tmp 75) [76] Ze.a1 Ze.b1))) (.seq (.regD [0,1,2,3,4,5,6,7,8,9,10,11,12,13,14,15,16,17,18,19,20] Ze.r20 (some [2,9])) (qR Ze.r21 [])))))] [(2,.loc 2 0),(3,.loc 3 0),(6,.loc 6 0),(50,.d (Wl m.fields)),(51,.d (.int .i64 m.fields.length)),(52,.d (.int .i64 i))] [(2,[.ptr x 0]),(3,m.cells),(6,[.bool ((m.fields.take i).all fun f=>!f.loose)])] (st.upd x (.cells (({ k with field:=fl,m:=m }:Ck).cells bd bs))):=by
     intro n
     induction n using Nat.strongRecOn with
     | ind n ih_key =>
     intro i hn fl hfp hi
     refine Za (Zb (Zc ?_))
     simp only [Eqs,reduceIte,Nat.reduceEqDiff,Ze.r8]
     refine Za (Zg rfl trivial (fun h1=>?_) (fun h1=>?_))
     ·simp at h1
      have hR:=Zko hfp hi
      have hsn:=Zgp (dl:=dl) (sl:=sl) (m:=m) (i:=i)
      have hall:=Zfh (p:=fun f:Fld=>!f.loose) h1
      generalize hf:m.fields.getD i default=f at *
      refine Zq (Za (Zo (Za (Zb (Zc ?_)))))
      simp only [Eqs,reduceIte,Nat.reduceEqDiff,Nat.reduceAdd,Nat.reduceLeDiff,Ze.r9,Wl,slD,Fld.cells,hf]
      repeat (refine And.intro (by first | omega | trivial | (intro h0; simp at h0; omega)) ?_)
      refine Za (Zb (Zc ?_))
      simp only [Eqs,reduceIte,Nat.reduceEqDiff,Nat.reduceAdd,Nat.reduceLeDiff,Ze.r10,Ck.cells,St.upd_same,St.upd_upd]
      have hsi:=hst.updX ({ k with field:=(i:Int),m:=m }:Ck)
      refine Za (Zb (Zc ?_))
      simp only [Eqs,reduceIte,Nat.reduceEqDiff,Nat.reduceAdd,Nat.reduceLeDiff,Ze.r11]
      simp only [ZcV]
      refine Z6 rfl rfl rfl rfl rfl (by trivial) (by trivial) (by exact Zg6 hsi (n:=i) rfl hi f (hR _)) ?_ ?_
      ·rintro d S2 h
       obtain ⟨hok2,rfl,rfl⟩:=W8 h
       refine Zc ?_
       simp only [Eqs,reduceIte,Nat.reduceEqDiff]
       refine Zb (Zc ?_)
       simp only [Eqs,reduceIte,Nat.reduceEqDiff,Nat.reduceLeDiff,Ze.r12]
       refine ZC (Zb (Zc ?_))
       simp only [Eqs,reduceIte,Nat.reduceEqDiff,Ze.r13]
       repeat (refine And.intro (by first | omega | trivial | (intro h0; simp at h0; omega)) ?_)
       rw [show (m.fields.take i)=({ k with field:=(i:Int),m:=m }:Ck).m.fields.take i from rfl] at hsn
       rw [hok2,Bool.and_true] at hsn
       refine Z3 ?_
       have hnext:=ih_key ((m.fields.length) - (i + 1)) (by omega) (i + 1) rfl i (hsn.trans hfp) (by omega)
       rw [hall] at hnext
       exact hnext
      ·rintro d S2 h
       obtain ⟨hok2,hfl,rfl⟩:=W9 h
       rw [ZkB h1 (by rw [hf]; exact hok2),Bool.false_and] at hS
       exact hF.pan _ (St.sub_refl _) (Zms hS hfl)
     ·simp at h1
      obtain rfl:i=m.fields.length:=by omega
      rw [List.take_length]
      rw [hfp,Bool.true_and] at hS
      have hrefs:=ZkW hfp (by omega)
      refine Ys rfl (Za (Zb (Zc ?_)))
      simp only [Eqs,reduceIte,Nat.reduceEqDiff,Nat.reduceAdd,Nat.reduceLeDiff,Ze.r14,Ck.cells,St.upd_same,St.upd_upd]
      refine Za (Zb (Zc ?_))
      simp only [Eqs,reduceIte,Nat.reduceEqDiff,Nat.reduceLeDiff,Ze.r15]
      refine Za (Za ?_)
      refine Yp 2 rfl fun z2 h2=>?_
      simp only [reduceIte,Nat.reduceEqDiff,Yz,Wi,delL]
      refine Yp 6 rfl fun z6 h6=>?_
      simp only [reduceIte,Nat.reduceEqDiff,Yz,Wi,delL]
      refine Yp 9 rfl fun z9 h9=>?_
      simp only [reduceIte,Nat.reduceEqDiff,Yz,Wi,delL]
      have k6:=YY h6
      have k9:=YY h9
      have k9a:=YY k9.2
      have hS1f:(st.upd x (.cells [.str k.d.name,Kf k.d.msgs,.str k.d.start,.map bd,.map bs,.int .i64 k.at_,.int .i64 (-1),.str m.name,Wl m.fields]))=S:=hS1e
      rw [hS1f] at h2 k6 k9 k9a ⊢
      have hnx:Q7 S z2 z6 z9:=⟨h2,k6,⟨k9.1,k9a⟩⟩
      clear h6 h9 k6 k9 k9a h2
      have hlen:(Ql m).length≤1000000:=by
       have:=Zhc (m.fields.flatMap Wv) []
       unfold Ql
       simp only [List.length_nil,Nat.zero_add] at this
       omega
      have hmst:S.sub (nxS S x z2 z6 z9 (m.fields.all fun f=>!f.loose) 0):=hnx.sub
      rw [show ((S.upd z2 (.cells [.ptr x 0])).upd z6 (.cells [.bool (m.fields.all fun f=>!f.loose)])).upd z9 (.cells [.int .i64 0])=nxS S x z2 z6 z9 (m.fields.all fun f=>!f.loose) 0 from rfl]
      refine Zb (Zc ?_)
      simp only [Eqs,reduceIte,Nat.reduceEqDiff,Nat.reduceAdd,Nat.reduceLeDiff,Ze.r16,Msg.cells]
      refine Z6 rfl rfl rfl rfl rfl (by trivial) (by trivial) (by exact ZhX m hrefs _) ?_ ?_
      ·rintro d S2 ⟨y,hy,hd,rfl⟩
       cases hd
       refine Zc ?_
       simp only [Eqs,reduceIte,Nat.reduceEqDiff]
       refine Zo ?_
       have hld:ddS (m.fields.flatMap Wv)=Ql m:=rfl
       have hit:=ZfW (m.fields.flatMap Wv) (by unfold big; omega) y
       rw [hld] at hit
       refine ZaK hF rfl trivial [2,6,9] (by show ([2,6,9]:List Nat).Nodup; decide) (Jc hy) hit (fun j hj=>rfl) (fun _=>.next)
        (fun j a=>a=nxS S x z2 z6 z9 ((m.fields.all fun f=>!f.loose) && ((Ql m).take j).all fun s=>(ZS s sl).getD false) (((Ql m).take j).foldl (fun a s=>max a ((ZS s dl).getD 0)) 0)) (by simp) ?_ ?_ ?_ ?_ ?_ ?_
       ·intro j a hj hno hB F' ready busy hdr hbeg hend
        subst hB
        simp only [Eqs,reduceIte,Nat.reduceEqDiff,Jw,Zab,Za9,JH,List.isEmpty_nil]
        refine Zb (Zc ?_)
        simp only [Eqs,reduceIte,Nat.reduceEqDiff,Ze.r17]
        refine hbeg fun hdb=>?_
        have hall:=Zfh (p:=fun s:Str=>(ZS s sl).getD false) hj
        have hfold:=ZmZ (f:=fun a s=>max a ((ZS s dl).getD 0)) (b:=(0:Int)) hj
        generalize hnm:(Ql m).getD j default=nm at *
        have e1:=KK (vD:=QZ) Wk nm dl
        have e2:=KK (vD:=D.bool) Wk nm sl
        have e3:=Qh Wk nm
        simp only [show QY nm=D.str nm from rfl] at e1 e2 e3
        rw [hall,hfold] at hend
        generalize ((Ql m).take j).foldl (fun a s=>max a ((ZS s dl).getD 0)) 0=dp at *
        generalize ((Ql m).take j).all (fun s=>(ZS s sl).getD false)=sb at *
        generalize (m.fields.all fun f=>!f.loose)=lo at *
        refine Zo (Za (KU (Kz ?_)))
        simp only [Eqs,reduceIte,Nat.reduceEqDiff,Nat.reduceLeDiff,Ze.r18,Ya (hnx.g2 ),Ya (Q7.g9 ),Ya (hnx.gs hst1.x),Ya (hnx.gs hst1.bd),Ck.cells,e1,-Ke,Zmw,Jt,Q7.u9]
        refine Zb (Zc ?_)
        simp only [Eqs,reduceIte,Nat.reduceEqDiff,Nat.reduceLeDiff,Ze.r19,Ya (hnx.g2 ),Ya (hnx.g6 ),Ya (hnx.gs hst1.x),Ya (hnx.gs hst1.bs),Ck.cells,e2,-Ke,Zfl,Jt,hnx.u6]
        refine ZC ?_
        exact hend.fin ⟨rfl,by rw [← Bool.and_assoc]⟩ (Q7.disj hdb) (St.sub_refl _)
       ·intro q a hno hB hq
        subst hB
        rw [List.take_length] at hq ⊢
        rw [Q6 hq]
        rw [show ((m.fields.all fun f=>!f.loose) && (Ql m).all fun s=>(ZS s sl).getD false)=JO sl m from rfl,show (Ql m).foldl (fun a s=>max a ((ZS s dl).getD 0)) 0=Qk dl m from rfl] at hq ⊢
        have hdp:=Zfr (m:=m) hdl
        generalize JO sl m=sb at *
        generalize Qk dl m=dp at *
        have gX2:=Ya (t:=St.single q .dfr) (hnx.g2 (x:=x) (sb:=sb) (dp:=dp))
        have gX6:=Ya (t:=St.single q .dfr) (hnx.g6 (x:=x) (sb:=sb) (dp:=dp))
        have gX9:=Ya (t:=St.single q .dfr) (Q7.g9 (s1:=S) (x:=x) (z2:=z2) (z6:=z6) (z9:=z9) (sb:=sb) (dp:=dp))
        have gXx:=Ya (t:=St.single q .dfr) (hnx.gs (x:=x) (sb:=sb) (dp:=dp) hst1.x)
        have gXd:=Ya (t:=St.single q .dfr) (hnx.gs (x:=x) (sb:=sb) (dp:=dp) hst1.bd)
        have gXs:=Ya (t:=St.single q .dfr) (hnx.gs (x:=x) (sb:=sb) (dp:=dp) hst1.bs)
        generalize hX:(nxS S x z2 z6 z9 sb dp).or (St.single q .dfr)=X at *
        have n2:∀ b o,S b=some o→z2≠b:=fun b o h e=>by rw [← e,hnx.n2] at h; simp at h
        have n6:∀ b o,S b=some o→z6≠b:=fun b o h e=>by rw [← e,hnx.n6.2] at h; simp at h
        have n9:∀ b o,S b=some o→z9≠b:=fun b o h e=>by rw [← e,hnx.n9.2.2] at h; simp at h
        have u2:∀ (Y:St) o,(Y.upd bd o) z2=Y z2:=fun Y o=>St.upd_ne _ _ (n2 _ _ hst1.bd)
        have u6:∀ (Y:St) o,(Y.upd bd o) z6=Y z6:=fun Y o=>St.upd_ne _ _ (n6 _ _ hst1.bd)
        have u9:∀ (Y:St) o,(Y.upd bd o) z9=Y z9:=fun Y o=>St.upd_ne _ _ (n9 _ _ hst1.bd)
        have ux:∀ (Y:St) o,(Y.upd bd o) x=Y x:=fun Y o=>St.upd_ne _ _ hne.1
        have us:∀ (Y:St) o,(Y.upd bd o) bs=Y bs:=fun Y o=>St.upd_ne _ _ hdd.symm
        have v2:∀ (Y:St) o,(Y.upd bs o) z2=Y z2:=fun Y o=>St.upd_ne _ _ (n2 _ _ hst1.bs)
        have v6:∀ (Y:St) o,(Y.upd bs o) z6=Y z6:=fun Y o=>St.upd_ne _ _ (n6 _ _ hst1.bs)
        have v9:∀ (Y:St) o,(Y.upd bs o) z9=Y z9:=fun Y o=>St.upd_ne _ _ (n9 _ _ hst1.bs)
        have vx:∀ (Y:St) o,(Y.upd bs o) x=Y x:=fun Y o=>St.upd_ne _ _ hne.2
        have d1:=Zkm (vD:=QZ) Wk m.name (D.int .i64 0) dl
        have d2:=Zby (vD:=QZ) Wk m.name (dp + 1) dl
        have s1:=Zkm (vD:=D.bool) Wk m.name (D.bool false) sl
        have s2:=Zby (vD:=D.bool) Wk m.name sb sl
        simp only [show QY m.name=D.str m.name from rfl,show QZ (dp + 1)=D.int .i64 (dp + 1) from rfl] at d1 d2 s1 s2
        refine ZC (Za (Wy (ZO ?_)))
        simp only [Eqs,reduceIte,Nat.reduceEqDiff,Ze.r20,gX2,gX6,gX9,gXx,gXd,gXs,u2,u6,u9,ux,us,v2,v6,v9,vx,d1,d2,s1,s2,Ck.cells,St.upd_same,St.upd_upd]
        repeat (refine And.intro (by first | omega | trivial | (intro h0; simp at h0; omega)) ?_)
        refine Zb (Zc ?_)
        simp only [Eqs,reduceIte,Nat.reduceEqDiff,Ze.r21,u2,v2,gX2,u9,v9,gX9]
        have hX2:(X.upd bd (.map (QF QY QZ (Kk m.name (dp + 1) dl)))).upd bs (.map (QF QY D.bool (Kk m.name sb sl)))=(nxS ((S.upd bd (.map (ZfE (Kk m.name (dp + 1) dl)))).upd bs (.map (Zc4 (Kk m.name sb sl)))) x z2 z6 z9 sb dp).or (St.single q .dfr):=by
         rw [← hX,Jt,Jt,hnx.ub hst1.bd,(hnx.of hst1.bd).ub (by rw [us]; exact hst1.bs)]
        have hnx2:Q7 ((S.upd bd (.map (ZfE (Kk m.name (dp + 1) dl)))).upd bs (.map (Zc4 (Kk m.name sb sl)))) z2 z6 z9:=(hnx.of hst1.bd).of (by rw [us]; exact hst1.bs)
        have hq2:(nxS ((S.upd bd (.map (ZfE (Kk m.name (dp + 1) dl)))).upd bs (.map (Zc4 (Kk m.name sb sl)))) x z2 z6 z9 sb dp) q=none:=by
         have hqb:q≠bs:=fun e=>by have:=hnx.gs (x:=x) (sb:=sb) (dp:=dp) hst1.bs; rw [← e,hq] at this; simp at this
         have hqd:q≠bd:=fun e=>by have:=hnx.gs (x:=x) (sb:=sb) (dp:=dp) hst1.bd; rw [← e,hq] at this; simp at this
         rw [← (hnx.of hst1.bd).ub (by rw [us]; exact hst1.bs),← hnx.ub hst1.bd,St.upd_ne _ _ hqb,St.upd_ne _ _ hqd]; exact hq
        have hx3:((X.upd bd (.map (QF QY QZ (Kk m.name (dp + 1) dl)))).upd bs (.map (QF QY D.bool (Kk m.name sb sl)))) x=some (.cells (({ k with field:=-1,m:=m }:Ck).cells bd bs)):=by rw [vx,ux]; exact gXx
        refine Z6 rfl rfl rfl rfl rfl (by trivial) (by trivial) (by exact YW hx3 (decide (dp < 16)) 10) ?_ ?_
        ·rintro d S3 h
         obtain ⟨hok3,rfl,rfl⟩:=W8 h
         rw [hok3] at hS
         refine Zc ?_
         simp only [Eqs]
         rw [hX2]
         exact hF.fin1 hq2 (.tup []) _ rfl trivial (D.Le.refl _) hnx2.sub (by rw [hS]; exact ⟨rfl,by rw [← hS1e]⟩)
        ·rintro d S3 h
         obtain ⟨hok3,hfl,rfl⟩:=W9 h
         rw [hok3] at hS
         rw [hX2]
         exact hF.pan1 hq2 _ hnx2.sub (by rw [hS]; exact ⟨⟨d,hfl,rfl⟩,fun b h1 h2 h3=>by rw [St.upd_ne _ _ h3,St.upd_ne _ _ h2,← hS1e,St.upd_ne _ _ h1]⟩)
       ·intro q a m hm hno hgo; simp at hgo
       ·intro q a m id hm hno hgo; simp at hgo
       ·intro q a m d hm hno hgo; simp at hgo
       ·intro m c hgo; simp at hgo
      ·rintro d S2 ⟨y,hy,hd,_⟩
       cases hd
    have hkk:=key _ 0 rfl (-1) (by simp [Jh]) (by omega)
    rw [hS1e] at hkk
    exact hkk
   ·rintro d S h
    obtain ⟨hok,hfl,rfl⟩:=W9 h
    rw [hok,Bool.false_and] at hS
    exact hF.pan _ (St.sub_refl _) (hbad _ hS hfl)
  ·rintro d S h
   obtain ⟨hok,hfl,rfl⟩:=W9 h
   rw [hok,Bool.false_and] at hS
   exact hF.pan _ (St.sub_refl _) (hbad _ hS hfl)
 ·rintro d S h
  obtain ⟨hok,hfl,rfl⟩:=W9 h
  rw [hok,Bool.false_and] at hS
  exact hF.pan _ (St.sub_refl _) (hbad _ hS hfl)
end Go.DL
namespace Go.DL
open Go Go.Proofs
theorem Zos {P:Program} {F:Fr P} {ρ:Env} {L:Loc} {d:D} {s:St} (h:DWf d→K2 F ρ L d s):K2 F ρ L d s :=
 fun g ν w v todo tmps hN m hr=>h hr.wf g ν w v todo tmps hN m hr
theorem DWf.iface_inv {t:TypeId} {d:D} (h:DWf (.iface t d)):DWf d:=by
 cases h with
 | iface _ _ h=>exact h
 | other _ h=>exact absurd h (by simp)
theorem Zfu {P:Program} {i:FuncId} {args:List D} {m:Option D} {s:St} {Ψ Ψ':Bool→St→Prop} (h:Zce P i args m s Ψ) (hi:∀ b S,Ψ b S→Ψ' b S):Zce P i args m s Ψ' :=
 ⟨h.1,fun g w vs cf cs h1 h2 h3=>by
  obtain ⟨g',w',s',b,a1,a2,a3,a4⟩:=h.2 g w vs cf cs h1 h2 h3
  exact ⟨g',w',s',b,a1,a2,hi _ _ a3,a4⟩⟩
theorem Zeh {z3 z4:Nat} {c:Kq} {b:Bool} {st:St} (h3:st z3=some c) (h4:st z4=some (.cells [.bool b])) :
  Zce Tryz.prog ZZ.id [.ptr z3 0,.ptr z4 0] none st fun _ S=>S=st:=by
 refine ZfQ ZZ.ok rfl (by simp) fun F hF=>?_
 refine Za (Zb (Zc ?_))
 simp only [Eqs,Nat.reduceAdd,ZZ.r0]
 refine Zmj hF rfl rfl ?_
 refine Zc ?_
 simp only [Eqs,reduceCtorEq,reduceIte,Nat.reduceEqDiff]
 refine Za (Zb (Zc ?_))
 simp only [Eqs,reduceCtorEq,reduceIte,Nat.reduceEqDiff,ZZ.r1]
 refine Zg rfl trivial (fun h=>?_) (fun h=>?_)
 ·simp at h
 ·refine Zq ?_
  exact hF.fin (St.sub_refl _) rfl
theorem Zee {z3 z4:Nat} {b:Bool} {st:St} (hz:z3≠z4) (x y z:Int) (hx:inR .i64 x) (hy:inR .i64 y) (hw:inR .i64 z) (h3:st z3=some (.cells [.int .i64 0,.int .i64 0,.int .i64 0])) (h4:st z4=some (.cells [.bool b])) :
  Zce Tryz.prog ZZ.id [.ptr z3 0,.ptr z4 0] (some (ZgF x y z)) st fun b S=>b=true∧S=(st.upd z3 (.cells [.int .i64 x,.int .i64 y,.int .i64 z])).upd z4 (.cells [.bool true]):=by
 refine ZfQ ZZ.ok rfl (by rintro d ⟨⟩; exact ⟨hx,hy,hw,trivial⟩) fun F hF=>?_
 have h4b:∀ o,(st.upd z3 o) z4=some (.cells [.bool b]):=fun o=>by rw [St.upd_ne _ _ (Ne.symm hz)]; exact h4
 refine Za (Zb (Zc ?_))
 simp only [Eqs,Nat.reduceAdd,ZZ.r0]
 refine Znq hF rfl rfl fun F2 hF2=>?_
 refine Zc ?_
 simp only [Eqs,reduceCtorEq,reduceIte,Nat.reduceEqDiff]
 refine Za (Zb (Zc ?_))
 simp only [Eqs,reduceCtorEq,reduceIte,Nat.reduceEqDiff,ZZ.r1,ZgF]
 refine Zg rfl trivial (fun h=>?_) (fun h=>?_)
 ·refine Za (Zb (Zc ?_))
  simp only [Eqs,reduceCtorEq,reduceIte,Nat.reduceEqDiff,Nat.reduceAdd,Nat.reduceLeDiff,ZZ.r2,h3,h4b]
  refine Za (Zb (Zc ?_))
  simp only [Eqs,reduceIte,Nat.reduceEqDiff,ZZ.r3,St.upd_same]
  refine Zg rfl trivial (fun h5=>?_) (fun h5=>?_)
  ·simp at h5
  ·refine Zq ?_
   exact hF2.fin (St.sub_refl _) ⟨rfl,rfl⟩
 ·simp [ZgF] at h
def ZbM (dl:List (Str × Int)) (sl:List (Str × Bool)):List Msg→Option (List (Str × Int) × List (Str × Bool))
 | []=>some (dl,sl)
 | m :: r=>if ZcZ dl sl m then ZbM (Kk m.name (Qk dl m + 1) dl) (Kk m.name (JO sl m) sl) r else none
def Zbu (d:Dfn):Bool :=
 K7 d.name && ((decide (1≤(d.msgs.length:Int)) && decide ((d.msgs.length:Int)≤60)) && (ZbM [] [] d.msgs).elim false fun p=>(ZS d.start p.1).isSome)
theorem Zhu (dl:List (Str × Int)) (sl:List (Str × Bool)) (l l':List Msg):ZbM dl sl (l++l')=(ZbM dl sl l).elim none fun p=>ZbM p.1 p.2 l':=by
 induction l generalizing dl sl with
 | nil=>rfl
 | cons m r ih =>
  simp only [List.cons_append,ZbM]
  split
  ·exact ih _ _
  ·rfl
theorem Zkd {l:List Msg} {i:Nat} {dl:List (Str × Int)} {sl:List (Str × Bool)} (h:ZbM [] [] (l.take i)=some (dl,sl)) (hi:i < l.length):ZbM [] [] (l.take (i + 1))=if ZcZ dl sl (l.getD i default) then some (Kk (l.getD i default).name (Qk dl (l.getD i default) + 1) dl,Kk (l.getD i default).name (JO sl (l.getD i default)) sl) else none:=by
 rw [WL hi,Zhu,h]; rfl
theorem Zpr {l:List Msg} {i:Nat} {dl:List (Str × Int)} {sl:List (Str × Bool)} (h:ZbM [] [] (l.take i)=some (dl,sl)) (hi:i < l.length) (hb:ZcZ dl sl (l.getD i default)=false):ZbM [] [] l=none:=by
 have h1:=Zkd h hi
 rw [hb] at h1
 rw [← List.take_append_drop (i + 1) l,Zhu,h1]
 rfl
structure ZaY (S st:St) (x bd bs z3 z4:Nat) (k:Ck) (dl:List (Str × Int)) (sl:List (Str × Bool)):Prop where
 ck:Q3 S x bd bs k dl sl
 c3:S z3=some (.cells [.int .i64 0,.int .i64 0,.int .i64 0])
 c4:S z4=some (.cells [.bool false])
 sub:st.sub S
 fx:st x=none
 fd:st bd=none
 fs:st bs=none
 f3:st z3=none
 f4:st z4=none
 nd:bd≠bs
 n34:z3≠z4
section
variable {S st:St} {x bd bs z3 z4:Nat} {k:Ck} {dl:List (Str × Int)} {sl:List (Str × Bool)}
theorem ZaY.n3 (h:ZaY S st x bd bs z3 z4 k dl sl):z3≠x∧z3≠bd∧z3≠bs:=by
 refine ⟨fun e=>?_,fun e=>?_,fun e=>?_⟩
 ·have h3:=h.c3; rw [e,h.ck.x] at h3; simp [Ck.cells] at h3
 ·have h3:=h.c3; rw [e,h.ck.bd] at h3; simp at h3
 ·have h3:=h.c3; rw [e,h.ck.bs] at h3; simp at h3
theorem ZaY.n4 (h:ZaY S st x bd bs z3 z4 k dl sl):z4≠x∧z4≠bd∧z4≠bs:=by
 refine ⟨fun e=>?_,fun e=>?_,fun e=>?_⟩
 ·have h3:=h.c4; rw [e,h.ck.x] at h3; simp [Ck.cells] at h3
 ·have h3:=h.c4; rw [e,h.ck.bd] at h3; simp at h3
 ·have h3:=h.c4; rw [e,h.ck.bs] at h3; simp at h3
theorem ZaY.move (h:ZaY S st x bd bs z3 z4 k dl sl) {S':St} {k':Ck} {dl':List (Str × Int)} {sl':List (Str × Bool)} (hc:Q3 S' x bd bs k' dl' sl') (ho:∀ b,b≠x→b≠bd→b≠bs→S' b=S b):ZaY S' st x bd bs z3 z4 k' dl' sl':={
 ck:=hc
 c3:=by rw [ho _ h.n3.1 h.n3.2.1 h.n3.2.2]; exact h.c3
 c4:=by rw [ho _ h.n4.1 h.n4.2.1 h.n4.2.2]; exact h.c4
 sub b o hb:=by
  rw [ho b (fun e=>by rw [e,h.fx] at hb; simp at hb) (fun e=>by rw [e,h.fd] at hb; simp at hb) (fun e=>by rw [e,h.fs] at hb; simp at hb)]; exact h.sub b o hb
 fx:=h.fx
 fd:=h.fd
 fs:=h.fs
 f3:=h.f3
 f4:=h.f4
 nd:=h.nd
 n34:=h.n34 }
theorem ZaY.updX (h:ZaY S st x bd bs z3 z4 k dl sl) (k':Ck):ZaY (S.upd x (.cells (k'.cells bd bs))) st x bd bs z3 z4 k' dl sl :=
 h.move (h.ck.updX k') fun b h1 _ _=>St.upd_ne _ _ h1
theorem ZaY.bad (h:ZaY S st x bd bs z3 z4 k dl sl) {S':St} (ho:∀ b,b≠x→b≠bd→b≠bs→S' b=S b) {F:Fr Tryz.prog}
  (hF:KH F Zm.df.res (fun r S=>S=st∧∃ a f c,r=Res.ret (.tup [.any,.agg [.int .i64 a,.int .i64 f,.int .i64 c],.bool true])) [.fn ZZ.id [] [.ptr z3 0,.ptr z4 0]])
  {ρ:Env} {L:Loc} {d:D} (hd:ZcM d) (hr:∀ s' c3,s' z3=some (.cells c3)→c3.length=3→s' z4=some (.cells [.bool true])→∃ p,K3 ρ L s' Zm.df.res=some (p,[.ptr x 0,.agg c3,.bool true])∧p):K2 F ρ L d S':=by
 obtain ⟨a,f,c,rfl⟩:=hd
 refine Zos fun hw=>?_
 have hw2:=DWf.agg_inv (DWf.iface_inv hw)
 have h1:inR .i64 a:=(hw2 _ (by simp)).int_inv
 have h2:inR .i64 f:=(hw2 _ (by simp)).int_inv
 have h3:inR .i64 c:=(hw2 _ (by simp)).int_inv
 have z3':S' z3=some (.cells [.int .i64 0,.int .i64 0,.int .i64 0]):=by rw [ho _ h.n3.1 h.n3.2.1 h.n3.2.2]; exact h.c3
 have z4':S' z4=some (.cells [.bool false]):=by rw [ho _ h.n4.1 h.n4.2.1 h.n4.2.2]; exact h.c4
 refine hF.panU ⟨trivial,⟨rfl,rfl,trivial⟩,Zfu (Zee h.n34 a f c h1 h2 h3 z3' z4') ?_⟩
 rintro b S2 ⟨rfl,rfl⟩
 obtain ⟨p,hp1,hp2⟩:=hr ((S'.upd z3 (.cells [.int .i64 a,.int .i64 f,.int .i64 c])).upd z4 (.cells [.bool true])) [.int .i64 a,.int .i64 f,.int .i64 c] (by rw [St.upd_ne _ _ h.n34,St.upd_same]) rfl (St.upd_same _ _ _)
 refine ⟨p,_,_,st,hp1,hp2,?_,?_,rfl,a,f,c,rfl⟩
 ·exact Zdc rfl (.cons (fun _ _ v _=>.any v) (LeC.refl _))
 ·intro b o hb
  have e1:b≠z3:=fun e=>by rw [e,h.f3] at hb; simp at hb
  have e2:b≠z4:=fun e=>by rw [e,h.f4] at hb; simp at hb
  rw [St.upd_ne _ _ e2,St.upd_ne _ _ e1]
  rw [ho b (fun e=>by rw [e,h.fx] at hb; simp at hb) (fun e=>by rw [e,h.fd] at hb; simp at hb) (fun e=>by rw [e,h.fs] at hb; simp at hb)]; exact h.sub b o hb
end
theorem ZaY.mk0 {st:St} {bd bs x z3 z4:Nat} {c:List D} (hbd:st bd=none) (hbs:st.upd bd (.map []) bs=none) (hx:(st.upd bd (.map [])).upd bs (.map []) x=none)
  (h3:((st.upd bd (.map [])).upd bs (.map [])).upd x (.cells c) z3=none) (h4:(((st.upd bd (.map [])).upd bs (.map [])).upd x (.cells c)).upd z3 (.cells [.int .i64 0,.int .i64 0,.int .i64 0]) z4=none) (k:Ck) :
  ((((st.upd bd (.map [])).upd bs (.map [])).upd x (.cells c)).upd z3 (.cells [.int .i64 0,.int .i64 0,.int .i64 0])).upd z4 (.cells [.bool false]) x=some (.cells c) ∧
  ZaY ((((((st.upd bd (.map [])).upd bs (.map [])).upd x (.cells c)).upd z3 (.cells [.int .i64 0,.int .i64 0,.int .i64 0])).upd z4 (.cells [.bool false])).upd x (.cells (k.cells bd bs))) st x bd bs z3 z4 k [] []:=by
 have a4:=YY h4
 have b4:=YY a4.2
 have c4:=YY b4.2
 have d4:=YY c4.2
 have a3:=YY h3
 have b3:=YY a3.2
 have c3:=YY b3.2
 have ax:=YY hx
 have bx:=YY ax.2
 have as1:=YY hbs
 refine ⟨?_,⟨⟨?_,?_,?_⟩,?_,?_,?_,?_,?_,?_,?_,?_,?_,?_⟩⟩
 ·rw [St.upd_ne _ _ b4.1.symm,St.upd_ne _ _ a3.1.symm,St.upd_same]
 ·exact St.upd_same _ _ _
 ·rw [St.upd_ne _ _ bx.1.symm,St.upd_ne _ _ d4.1.symm,St.upd_ne _ _ c3.1.symm,St.upd_ne _ _ bx.1.symm,St.upd_ne _ _ as1.1.symm,St.upd_same]; rfl
 ·rw [St.upd_ne _ _ ax.1.symm,St.upd_ne _ _ c4.1.symm,St.upd_ne _ _ b3.1.symm,St.upd_ne _ _ ax.1.symm,St.upd_same]; rfl
 ·rw [St.upd_ne _ _ a3.1,St.upd_ne _ _ a4.1.symm,St.upd_same]
 ·rw [St.upd_ne _ _ b4.1,St.upd_same]
 ·intro b o hb
  have e:∀ y,st y=none→b≠y:=fun y hy e=>by rw [e,hy] at hb; simp at hb
  rw [St.upd_ne _ _ (e _ bx.2),St.upd_ne _ _ (e _ d4.2),St.upd_ne _ _ (e _ c3.2),St.upd_ne _ _ (e _ bx.2),St.upd_ne _ _ (e _ as1.2),St.upd_ne _ _ (e _ hbd)]; exact hb
 ·exact bx.2
 ·exact hbd
 ·exact as1.2
 ·exact c3.2
 ·exact d4.2
 ·exact as1.1.symm
 ·exact a4.1.symm
theorem Zm8 {c:List D} (h:c.length=3):∃ a b d,c=[a,b,d]:=by
 match c,h with
 | [a,b,d],_=>exact ⟨a,b,d,rfl⟩
theorem Zf4 (d:Dfn) (st:St) :
  ZY Tryz.prog Zm.id [.agg d.cells] st fun r S=>S=st∧∃ a f c,r = .ret (.tup [.any,.agg [.int .i64 a,.int .i64 f,.int .i64 c],.bool (!Zbu d)]):=by
 refine ZP Zm.ok fun F hF=>?_
 have hS:=Zbu.eq_1 d
 refine Za (Zb (Zc ?_))
 simp only [Eqs,reduceCtorEq,reduceIte,Nat.reduceEqDiff,Zm.r0,Dfn.cells]
 refine Za (Zb (Zc ?_))
 simp only [Eqs,reduceIte,Nat.reduceEqDiff,Nat.reduceAdd,Nat.reduceLeDiff,Zm.r1]
 intro bd hbd bs hbs
 refine Za ?_
 refine Yp 13 rfl fun x hx=>?_
 simp only [reduceIte,Nat.reduceEqDiff,Yz,Wi,delL]
 refine Yp 3 rfl fun z3 h3=>?_
 simp only [reduceIte,Nat.reduceEqDiff,Yz,Wi,delL]
 refine Yp 4 rfl fun z4 h4=>?_
 simp only [reduceIte,Nat.reduceEqDiff,Yz,Wi,delL]
 refine Zb (Zc ?_)
 simp only [Eqs,reduceIte,Nat.reduceEqDiff,Zm.r2]
 refine Zpw (by obtain ⟨_,_,_,_,_,_,rfl⟩:=hF; rfl) rfl rfl rfl rfl rfl rfl trivial trivial ?_ ?_ ?_
 ·trivial
 ·exact ⟨rfl,rfl,trivial⟩
 have hF':=hF.defer 55 [] [.ptr z3 0,.ptr z4 0]
 clear hF
 refine Zc ?_
 simp only [Eqs,reduceIte,Nat.reduceEqDiff]
 generalize F.defer 55 [] [.ptr z3 0,.ptr z4 0]=F at hF' ⊢
 obtain ⟨hx0,hex⟩:=ZaY.mk0 hbd hbs hx h3 h4 ⟨d,-1,-1,⟨[],[]⟩⟩
 refine QO hx0 (ds':=Ck.cells ⟨d,-1,-1,⟨[],[]⟩⟩ bd bs) (.cons (D.Le.refl _) (.cons (D.Le.refl _) (.cons (D.Le.refl _) (.cons (D.Le.refl _) (.cons (D.Le.refl _) (.cons (D.Le.refl _) (.cons (D.Le.refl _) (.cons (D.Le.refl _) (.cons (K9 fun b h=>by cases h) .nil))))))))) ?_
 generalize (St.upd (St.upd (St.upd (St.upd (St.upd (St.upd st _ _) _ _) _ _) _ _) _ _) _ _)=S at *
 clear hbd hbs hx h3 h4 hx0
 refine Za (Zb (Zc ?_))
 simp only [Eqs,reduceIte,Nat.reduceEqDiff,Zm.r3]
 refine YS rfl rfl rfl rfl rfl (by trivial) (by trivial) (by exact ZbG d.name) (Zc ?_)
 simp only [Eqs]
 refine Z6 rfl rfl rfl rfl rfl (by trivial) (by trivial) (by exact YW hex.ck.x (K7 d.name) 1) ?_ ?_
 ·rintro dd S2 h
  obtain ⟨hok,rfl,rfl⟩:=W8 h
  rw [hok,Bool.true_and] at hS
  refine Zc ?_
  simp only [Eqs,reduceIte,Nat.reduceEqDiff]
  refine Za (Zb (Zc ?_))
  simp only [Eqs,reduceIte,Nat.reduceEqDiff,Zm.r4,Kf,slD]
  refine Z6 rfl rfl rfl rfl rfl (by trivial) (by trivial) (by exact YW hex.ck.x (decide (1≤(d.msgs.length:Int)) && decide ((d.msgs.length:Int)≤60)) 3) ?_ ?_
  ·rintro dd S2 h
   obtain ⟨hok,rfl,rfl⟩:=W8 h
   rw [hok,Bool.true_and] at hS
   simp only [Bool.and_eq_true,decide_eq_true_eq] at hok
   have hlen:=hok.2
   refine Zc ?_
   simp only [Eqs,reduceIte,Nat.reduceEqDiff]
   refine Za (Za (Zb (Zc ?_)))
   simp only [Eqs,reduceIte,Nat.reduceEqDiff,Zm.r5]
   generalize hkk:(⟨d,-1,-1,⟨[],[]⟩⟩:Ck)=k0 at *
   have hk0:k0.d=d:=by rw [← hkk]
   clear hkk
   refine Zo (YH ?_)
   have key:∀ (n i:Nat),(d.msgs.length) - i=n→∀ (S:St) (k:Ck) dl sl,ZaY S st x bd bs z3 z4 k dl sl→k.d=d→ZbM [] [] (d.msgs.take i)=some (dl,sl)→(∀ s,0≤(ZS s dl).getD 0∧(ZS s dl).getD 0≤16)→i≤d.msgs.length→ZU F [.code (Zm.l0),.inLoop Zm.l0,.inBlock 0,.code (.seq (qR Zm.r11 [1,2,3,4]) (.seq (.regD [0,1,2,3,4,5,6,7,8,9,10,11] (ZaB Zm.r12) (some [2,3,4,8])) (.seq (qR Zm.r13 [2,3,4]) (.seq (qR Zm.r14 [2,3,4]) .ret))))] [(1,.loc 1 0),(2,.d (.ptr x 0)),(3,.d (.ptr z3 0)),(4,.d (.ptr z4 0)),(33,.d (Kf d.msgs)),(34,.d (.int .i64 d.msgs.length)),(35,.d (.int .i64 i))] [(1,d.cells)] S:=by
    intro n
    induction n using Nat.strongRecOn with
    | ind n ih_key =>
    intro i hni S k dl sl hex hkd hrun hdl hi
    refine Za (Zb (Zc ?_))
    simp only [Eqs,reduceIte,Nat.reduceEqDiff,Zm.r6]
    refine Za (Zg rfl trivial (fun h1=>?_) (fun h1=>?_))
    ·simp at h1
     refine Zq (Za (Zo (Za (Zb (Zc ?_)))))
     simp only [Eqs,reduceIte,Nat.reduceEqDiff,Nat.reduceAdd,Nat.reduceLeDiff,Zm.r7,Kf,slD,Msg.cells]
     repeat (refine And.intro (by first | omega | trivial | (intro h0; simp at h0; omega)) ?_)
     refine Za (Zb (Zc ?_))
     simp only [Eqs,reduceIte,Nat.reduceEqDiff,Nat.reduceAdd,Nat.reduceLeDiff,Zm.r8,hex.ck.x,Ck.cells]
     have hcx:(S.upd x (.cells [.str k.d.name,Kf k.d.msgs,.str k.d.start,.map bd,.map bs,.int .i64 i,.int .i64 k.field,.str k.m.name,Wl k.m.fields]))=S.upd x (.cells (({ k with at_:=i }:Ck).cells bd bs)):=rfl
     rw [hcx]
     have hex1:=hex.updX { k with at_:=i }
     generalize S.upd x (.cells (({ k with at_:=i }:Ck).cells bd bs))=S1 at *
     have hk1d:({ k with at_:=(i:Int) }:Ck).d=d:=hkd
     clear hcx hex
     generalize ({ k with at_:=i }:Ck)=k1 at *
     have hrt:=Zkd hrun h1
     have hrb:=Zpr hrun h1
     generalize hm:d.msgs.getD i default=m at *
     refine Zb (Zc ?_)
     simp only [Eqs,reduceIte,Nat.reduceEqDiff,Nat.reduceAdd,Nat.reduceLeDiff,Zm.r9]
     rw [show (D.agg [.str m.name,Wl m.fields]) = .agg m.cells from rfl]
     refine Z6 rfl rfl rfl rfl rfl (by trivial) (by trivial) (by exact Zjv hex1.ck hex1.nd hdl m) ?_ ?_
     ·rintro dd S2 h
      unfold Zdv at h
      split at h
      ·rename_i hok
       rw [if_pos hok] at hrt
       obtain ⟨h4,h5⟩:=h
       cases h4
       have hex2:=hex1.move (S':=S2) (k':={ k1 with field:=-1,m:=m }) (dl':=Kk m.name (Qk dl m + 1) dl) (sl':=Kk m.name (JO sl m) sl) (by
         subst h5
         have hne:=hex1.ck.ne
         exact ⟨by rw [St.upd_ne _ _ hne.2,St.upd_ne _ _ hne.1,St.upd_same],by rw [St.upd_ne _ _ hex1.nd,St.upd_same],St.upd_same _ _ _⟩) (fun b h1 h2 h3=>by rw [h5,St.upd_ne _ _ h3,St.upd_ne _ _ h2,St.upd_ne _ _ h1])
       have hdl2:∀ s,0≤(ZS s (Kk m.name (Qk dl m + 1) dl)).getD 0∧(ZS s (Kk m.name (Qk dl m + 1) dl)).getD 0≤16:=fun s=>by
        rw [J8]
        split
        ·have hd16:=Zfr (m:=m) hdl
         have:Qk dl m < 16:=by
          unfold ZcZ at hok
          simp only [Bool.and_eq_true,decide_eq_true_eq] at hok
          exact hok.2.2.2.2
         simp only [Option.getD_some]; omega
        ·exact hdl s
       clear h5
       refine Zc ?_
       simp only [Eqs,reduceIte,Nat.reduceEqDiff]
       refine ZC (Zb (Zc ?_))
       simp only [Eqs,reduceIte,Nat.reduceEqDiff,Zm.r10]
       repeat (refine And.intro (by first | omega | trivial | (intro h0; simp at h0; omega)) ?_)
       refine Z3 ?_
       exact ih_key ((d.msgs.length) - (i + 1)) (by omega) (i + 1) rfl _ _ _ _ hex2 hk1d hrt hdl2 (by omega)
      ·exact absurd h.1 (by simp)
     ·rintro dd S2 h
      unfold Zdv at h
      split at h
      ·exact absurd h.1 (by simp)
      ·rename_i hbad
       obtain ⟨⟨d2,hfl,h4⟩,h5⟩:=h
       cases h4
       have hb:ZcZ dl sl m=false:=by simpa using hbad
       rw [hrb hb] at hS
       exact hex1.bad h5 (by rw [hS] at hF'; exact hF') hfl (fun s' c3 h1 h2 h3=>by obtain ⟨u1,u2,u3,rfl⟩:=Zm8 h2; refine ⟨_,by simp only [Eqs,reduceIte,Nat.reduceEqDiff,Nat.reduceAdd,Nat.reduceLeDiff,Zm.df,K3,ZaL,h1,h3]; rfl,?_⟩; trivial)
    ·simp at h1
     obtain rfl:i=d.msgs.length:=by omega
     rw [List.take_length] at hrun
     rw [hrun] at hS
     simp only [Option.elim] at hS
     refine Ys rfl (Za (Zb (Zc ?_)))
     simp only [Eqs,reduceIte,Nat.reduceEqDiff,Nat.reduceAdd,Nat.reduceLeDiff,Zm.r11,hex.ck.x,Ck.cells]
     have hcx:(S.upd x (.cells [.str k.d.name,Kf k.d.msgs,.str k.d.start,.map bd,.map bs,.int .i64 (-1),.int .i64 k.field,.str k.m.name,Wl k.m.fields]))=S.upd x (.cells (({ k with at_:=-1 }:Ck).cells bd bs)):=rfl
     rw [hcx]
     have hex1:=hex.updX { k with at_:=-1 }
     generalize S.upd x (.cells (({ k with at_:=-1 }:Ck).cells bd bs))=S1 at *
     clear hcx hex
     generalize ({ k with at_:=-1 }:Ck)=k1 at *
     have e1:=KK (vD:=QZ) Wk d.start dl
     have e3:=Qh Wk d.start
     simp only [show QY d.start=D.str d.start from rfl] at e1 e3
     refine Za (KU (Kz ?_))
     simp only [Eqs,reduceIte,Nat.reduceEqDiff,Zm.r12,Dfn.cells,hex1.ck.x,hex1.ck.bd,Ck.cells,e1,-Ke,ZhQ]
     refine Za (Zb (Zc ?_))
     simp only [Eqs,reduceIte,Nat.reduceEqDiff,Zm.r13]
     refine Z6 rfl rfl rfl rfl rfl (by trivial) (by trivial) (by exact YW hex1.ck.x (ZS d.start dl).isSome 11) ?_ ?_
     ·rintro dd S2 h
      obtain ⟨hok,rfl,rfl⟩:=W8 h
      rw [hok] at hS
      refine Zc ?_
      simp only [Eqs,reduceIte,Nat.reduceEqDiff]
      have h4b:∀ o,(S2.upd z3 o) z4=some (.cells [.bool false]):=fun o=>by rw [St.upd_ne _ _ hex1.n34.symm]; exact hex1.c4
      refine Za (Zb (Zc ?_))
      simp only [Eqs,reduceIte,Nat.reduceEqDiff,Nat.reduceAdd,Nat.reduceLeDiff,Zm.r14,hex1.c3,h4b]
      refine hF'.retU ⟨trivial,⟨rfl,rfl,trivial⟩,Zfu (Zeh (by rw [St.upd_ne _ _ hex1.n34,St.upd_same]) (St.upd_same _ _ _)) ?_⟩
      rintro b S3 rfl
      rw [ite_self]
      have g3:((S2.upd z3 (.cells [.int .i64 0,.int .i64 0,.int .i64 0])).upd z4 (.cells [.bool false])) z3=some (.cells [.int .i64 0,.int .i64 0,.int .i64 0]):=by rw [St.upd_ne _ _ hex1.n34,St.upd_same]
      have g4:((S2.upd z3 (.cells [.int .i64 0,.int .i64 0,.int .i64 0])).upd z4 (.cells [.bool false])) z4=some (.cells [.bool false]):=St.upd_same _ _ _
      refine ⟨_,[.ptr x 0,.agg [.int .i64 0,.int .i64 0,.int .i64 0],.bool false],.tup [.any,.agg [.int .i64 0,.int .i64 0,.int .i64 0],.bool false],st,by simp only [Eqs,reduceIte,Nat.reduceEqDiff,Nat.reduceAdd,Nat.reduceLeDiff,Zm.df,K3,ZaL,g3,g4]; rfl,by trivial,?_,?_,rfl,0,0,0,by rw [hS]; rfl⟩
      ·exact Zdc rfl (.cons (fun _ _ v _=>.any v) (LeC.refl _))
      ·intro b o hb
       have e1:b≠z3:=fun e=>by rw [e,hex1.f3] at hb; simp at hb
       have e2:b≠z4:=fun e=>by rw [e,hex1.f4] at hb; simp at hb
       rw [St.upd_ne _ _ e2,St.upd_ne _ _ e1]
       exact hex1.sub b o hb
     ·rintro dd S2 h
      obtain ⟨hok,hfl,rfl⟩:=W9 h
      rw [hok] at hS
      exact hex1.bad (fun _ _ _ _=>rfl) (by rw [hS] at hF'; exact hF') hfl (fun s' c3 h1 h2 h3=>by obtain ⟨u1,u2,u3,rfl⟩:=Zm8 h2; refine ⟨_,by simp only [Eqs,reduceIte,Nat.reduceEqDiff,Nat.reduceAdd,Nat.reduceLeDiff,Zm.df,K3,ZaL,h1,h3]; rfl,?_⟩; trivial)
   exact key _ 0 rfl _ k0 [] [] hex hk0 rfl (by simp [ZS]) (by omega)
  ·rintro dd S2 h
   obtain ⟨hok,hfl,rfl⟩:=W9 h
   rw [hok,Bool.false_and] at hS
   exact hex.bad (fun _ _ _ _=>rfl) (by rw [hS] at hF'; exact hF') hfl (fun s' c3 h1 h2 h3=>by obtain ⟨u1,u2,u3,rfl⟩:=Zm8 h2; refine ⟨_,by simp only [Eqs,reduceIte,Nat.reduceEqDiff,Nat.reduceAdd,Nat.reduceLeDiff,Zm.df,K3,ZaL,h1,h3]; rfl,?_⟩; trivial)
 ·rintro dd S2 h
  obtain ⟨hok,hfl,rfl⟩:=W9 h
  rw [hok,Bool.false_and] at hS
  exact hex.bad (fun _ _ _ _=>rfl) (by rw [hS] at hF'; exact hF') hfl (fun s' c3 h1 h2 h3=>by obtain ⟨u1,u2,u3,rfl⟩:=Zm8 h2; refine ⟨_,by simp only [Eqs,reduceIte,Nat.reduceEqDiff,Nat.reduceAdd,Nat.reduceLeDiff,Zm.df,K3,ZaL,h1,h3]; rfl,?_⟩; trivial)
theorem Ziu (d:Dfn) (st:St) :
  ZY Tryz.prog WK.id [.agg d.cells] st fun r S=>S=st∧∃ a f c,r = .ret (.tup [.agg [.int .i64 a,.int .i64 f,.int .i64 c],.bool (!Zbu d)]):=by
 refine ZP WK.ok fun F hF=>?_
 refine Za (Zb (Zc ?_))
 simp only [Eqs,reduceCtorEq,reduceIte,Nat.reduceEqDiff,WK.r0,Dfn.cells]
 refine Za (Zb (Zc ?_))
 simp only [Eqs,reduceIte,Nat.reduceEqDiff,Nat.reduceAdd,Nat.reduceLeDiff,WK.r1]
 rw [show (D.agg [.str d.name,Kf d.msgs,.str d.start]) = .agg d.cells from rfl]
 refine Z6 rfl rfl rfl rfl rfl (by trivial) (by trivial) (by exact Zf4 d st) ?_ ?_
 ·rintro dd S2 ⟨rfl,a,f,c,h⟩
  cases h
  refine Zc ?_
  simp only [Eqs,reduceIte,Nat.reduceEqDiff,Nat.reduceAdd,Nat.reduceLeDiff]
  refine Za (Zb (Zc ?_))
  simp only [Eqs,reduceIte,Nat.reduceEqDiff,Nat.reduceAdd,Nat.reduceLeDiff,WK.r2]
  exact hF.ret _ S2 rfl (by simp) (D.Le.refl _) (St.sub_refl _) ⟨rfl,a,f,c,rfl⟩
 ·rintro dd S2 ⟨_,a,f,c,h⟩
  cases h
theorem ZhW (d:Dfn) (st:St):YD Tryz.prog WH.id [.agg d.cells] st (.bool (Zbu d)) st:=by
 refine YG WH.ok fun hwf F hret=>?_
 clear hwf
 refine Za (Zb (Zc ?_))
 simp only [Eqs,reduceCtorEq,reduceIte,Nat.reduceEqDiff,WH.r0,Dfn.cells]
 refine Za (Zb (Zc ?_))
 simp only [Eqs,reduceIte,Nat.reduceAdd,Nat.reduceLeDiff,WH.r1]
 rw [show (D.agg [.str d.name,Kf d.msgs,.str d.start]) = .agg d.cells from rfl]
 refine Z6 rfl rfl rfl rfl rfl (by trivial) (by trivial) (by exact Ziu d st) ?_ ?_
 ·rintro dd S2 ⟨rfl,a,f,c,h⟩
  cases h
  refine Zc ?_
  simp only [Eqs,reduceIte,Nat.reduceEqDiff,Nat.reduceAdd,Nat.reduceLeDiff]
  refine Za (Zb (Zc ?_))
  simp only [Eqs,reduceIte,Nat.reduceEqDiff,WH.r2]
  exact hret rfl (by trivial) (D.Le.refl _) (St.sub_refl _)
 ·rintro dd S2 ⟨_,a,f,c,h⟩
  cases h
end Go.DL
namespace Go.DL
open Go Go.Proofs
theorem ZmT {f:Fld} (hk:JD f=true):decide (Zdp f=Zdd f.name f.kind)=ZbP f:=by
 unfold JD at hk
 simp only [Bool.and_eq_true,decide_eq_true_eq] at hk
 have hk2:f.kind=1∨f.kind=2∨f.kind=3∨f.kind=4∨f.kind=5∨f.kind=6∨f.kind=7∨f.kind=8∨f.kind=9∨f.kind=10∨f.kind=11∨f.kind=12:=by omega
 obtain ⟨name,kind,bits,little,loose,low,high,size,of,tag,from_,cases_,check,key⟩:=f
 obtain ⟨base,terms⟩:=size
 simp only at hk2
 clear hk
 rw [Bool.eq_iff_iff]
 rcases hk2 with h | h | h | h | h | h | h | h | h | h | h | h <;> subst h <;> simp [Zdp,ZlL,Zk2,ZlD,Zi6,Zk9,Zlm,Zik,ZkX,Zin,Zjz,Zjs,Zg0,Zdd,ZbP,zrA,zrB,zrC,Zfp,ZkF,ZaW] <;> (try (constructor <;> (intro h; simp_all))) <;> (try (intro _; simp only [and_assoc]))
theorem ZjB (lo hi a b:Int):W1 lo hi [a,b] = !(decide (a < lo) || (decide (b < a) || decide (hi < b))):=by
 rw [Bool.eq_iff_iff]
 simp [W1]
 omega
theorem ZpP (f:Fld):ZcE f = !ZeJ f:=by
 rw [Bool.eq_iff_iff]
 unfold ZcE ZeJ
 cases f.little <;> simp
 by_cases h0:0≤f.bits
 ·rw [Int.tmod_eq_emod_of_nonneg h0]; omega
 ·omega
theorem Zhz {α:Type} {p:α→Bool} {l:List α} {x:α}:ZQ p (l++[x])=if 0≤ZQ p l then ZQ p l else if p x then l.length else -1:=by
 induction l with
 | nil=>simp [ZQ]
 | cons y r ih =>
  have h1:=ZcR p r
  simp only [List.cons_append,ZQ,ih,List.length_cons]
  split
  ·simp
  ·by_cases h:0≤ZQ p r
   ·simp [h,show ¬ ZQ p r < 0 by omega,show 0≤ZQ p r + 1 by omega]
   ·simp only [h,if_false,show ZQ p r < 0 by omega,if_true]
    by_cases hx:p x=true
    ·simp [hx,show ¬ ((r.length:Int) < 0) by omega]
    ·simp [hx]
def Zeg (fs:List Fld) (n:Nat):Prop:=∀ i,i < n→ZQ (fun x=>decide (x.name=(fs.getD i default).name)) (fs.take i) < 0
theorem Jy {α:Type} (p:α→Bool) (l:List α) (h:0≤ZQ p l):(ZQ p l).toNat < l.length:=by
 have:=ZaF p l; omega
theorem ZhY {fs:List Fld} {n:Nat} (hn:n≤fs.length) (hd:Zeg fs n) (k:Str):ZS k (Qw fs n)=Y2 (fs.take n) k:=by
 induction n with
 | zero=>simp [Qw,ZS,Y2,ZQ]
 | succ n ih =>
  have ih:=ih (by omega) fun i hi=>hd i (by omega)
  have hdn:=hd n (by omega)
  rw [WL (show n < fs.length by omega)]
  have hlen:(fs.take n).length=n:=by simp; omega
  simp only [Qw]
  generalize fs.getD n default=f at *
  unfold Y2
  rw [Zhz]
  by_cases hk:f.name=k
  ·rw [hk] at hdn
   rw [if_neg (show ¬ 0≤ZQ (fun f=>decide (f.name=k)) (fs.take n) by omega)]
   simp only [hk,decide_true,if_true,hlen,show ¬ ((n:Int) < 0) by omega,if_false]
   have hg:(fs.take n++[f]).getD ((n:Int)).toNat default=f:=by simp [List.getD,hlen]
   rw [hg]
   split
   ·rw [J8,if_pos rfl]
   ·rw [ih]; unfold Y2; rw [if_pos hdn]
  ·have hk2:¬ k=f.name:=fun h=>hk h.symm
   have h0:ZS k (if Qc f=true then Kk f.name (KT f) (Qw fs n) else Qw fs n)=ZS k (Qw fs n):=by
    split
    ·rw [J8,if_neg hk2]
    ·rfl
   rw [h0,ih]
   unfold Y2
   simp only [hk,decide_false,Bool.false_eq_true,if_false]
   by_cases hp:0≤ZQ (fun f=>decide (f.name=k)) (fs.take n)
   ·have hl:=Jy _ _ hp
    rw [if_pos hp]
    have hg:(fs.take n++[f]).getD (ZQ (fun f=>decide (f.name=k)) (fs.take n)).toNat default=(fs.take n).getD (ZQ (fun f=>decide (f.name=k)) (fs.take n)).toNat default:=by
     simp [List.getD,List.getElem?_append_left hl]
    rw [hg]
   ·rw [if_neg hp,if_pos (by omega),if_pos (by omega)]
structure ZbQ (d:Dfn) (a:Nat) (deps:List Int) (dl:List (Str × Int)) (sl:List (Str × Bool)):Prop where
 len:deps.length=a
 dep:∀ s,ZS s dl=if ZK d s a < 0 then none else some (deps.getD (ZK d s a).toNat default)
 str:∀ s,ZS s sl=if ZK d s a < 0 then none else some ((QN d a).getD (ZK d s a).toNat default)
theorem ZbQ.has {d:Dfn} {a:Nat} {deps:List Int} {dl:List (Str × Int)} {sl:List (Str × Bool)} (h:ZbQ d a deps dl sl) (s:Str):(ZS s dl).isSome = !decide (ZK d s a < 0):=by
 rw [h.dep]; split <;> simp_all
theorem ZbQ.strict {d:Dfn} {a:Nat} {deps:List Int} {dl:List (Str × Int)} {sl:List (Str × Bool)} (h:ZbQ d a deps dl sl) (s:Str):(ZS s sl).getD false=(!decide (ZK d s a < 0) && (QN d a).getD (ZK d s a).toNat default):=by
 rw [h.str]; split <;> simp_all
theorem ZqV {f:Fld} (hk:f.kind=1∨f.kind=2):(if f.kind=1 then ck1 f else ck2 f)=decide (Zdg f=0):=by
 unfold ck1 ck2 Zdg Zk3 Zjw
 rw [ZpP,ZjB]
 cases hb:ZeJ f
 ·have hp:(0:Int) < 2 ^ f.bits.toNat:=by
   have:=Nat.two_pow_pos f.bits.toNat
   rw [show (2:Int) ^ f.bits.toNat=((2 ^ f.bits.toNat:Nat):Int) from (Int.natCast_pow 2 f.bits.toNat).symm]
   omega
  generalize (2:Int) ^ f.bits.toNat=pw at *
  rcases hk with hk | hk <;> rw [Bool.eq_iff_iff] <;> simp [hk,W1] <;> (try split) <;> (try omega)
  all_goals (try simp_all) <;> omega
 ·simp
theorem Zh4 {fs:List Fld} (hd:Zeg fs fs.length) (s:WP):ZdD fs s=decide (Za7 fs s=0):=by
 have hL:(fun k=>ZS k (QL fs))=Y2 fs:=by
  funext k
  have:=ZhY (Nat.le_refl _) hd k
  rw [List.take_length] at this; exact this
 unfold ZdD Za7 ivP
 rw [hL]
 have hk:s.terms.all (ZbA fs) = !s.terms.any (QH (Y2 fs)):=by
  rw [List.not_any_eq_all_not]
  congr 1; funext t
  have:ZS t.field (QL fs)=Y2 fs t.field:=congrFun hL _
  unfold ZbA QH; rw [this]; simp
 rw [hk]
 cases YM s
 ·simp
 ·cases s.terms.any (QH (Y2 fs))
  ·simp only [Bool.true_and,Bool.not_false,Bool.false_eq_true,if_false,Bool.true_eq_false]
   rw [Bool.eq_iff_iff]
   simp
   omega
  ·simp
theorem Zo7 {d:Dfn} {a:Nat} {deps:List Int} {dl:List (Str × Int)} {sl:List (Str × Bool)} (h:ZbQ d a deps dl sl) (hi lo:Int) (l:List Y9):Zb6 dl hi lo l=decide (ZbZ d a hi lo l=0):=by
 induction l generalizing lo with
 | nil=>simp [Zb6,ZbZ]
 | cons c r ih =>
  simp only [Zb6,ZbZ,ZjB,h.has,ih]
  rcases Bool.eq_false_or_eq_true (decide (c.low < lo) || (decide (c.high < c.low) || decide (hi < c.high))) with hb | hb <;> simp only [hb]
  ·simp
  ·simp only [Bool.not_false,Bool.true_and,Bool.false_eq_true,if_false]
   by_cases h2:ZK d c.of a < 0 <;> simp [h2]
theorem Zpq {fs:List Fld} (hd:Zeg fs fs.length) (k:Str):(ZS k (QL fs)).isSome=(!decide (ZQ (fun f=>decide (f.name=k)) fs < 0) && Qc (fs.getD (ZQ (fun f=>decide (f.name=k)) fs).toNat default)) ∧
  ((ZS k (QL fs)).isSome=true→(ZS k (QL fs)).getD (0,0)=KT (fs.getD (ZQ (fun f=>decide (f.name=k)) fs).toNat default)):=by
 have:=ZhY (Nat.le_refl _) hd k
 rw [List.take_length] at this
 rw [this]
 unfold Y2
 split
 ·rename_i h; simp [h]
 ·rename_i h
  split
  ·rename_i h2; simp only [h,h2]; simp
  ·rename_i h2; simp only [h,h2]; simp
theorem ZoI {d:Dfn} {a:Nat} {deps:List Int} {dl:List (Str × Int)} {sl:List (Str × Bool)} (h:ZbQ d a deps dl sl) {m:Msg} {i:Nat} (hi:i < m.fields.length) (hd:Zeg m.fields i) {f:Fld} (hk:JD f=true) :
  Zdz (m.fields.take i) dl sl f=decide (ZbT d a m i f=0):=by
 have hfl:(m.fields.take i).length=i:=by simp; omega
 have hd2:Zeg (m.fields.take i) (m.fields.take i).length:=fun j hj=>by
  rw [hfl] at hj
  rw [Zcb (by omega),List.take_take,Nat.min_eq_left (by omega)]; exact hd j hj
 unfold JD at hk
 simp only [Bool.and_eq_true,decide_eq_true_eq] at hk
 have hk2:f.kind=1∨f.kind=2∨f.kind=3∨f.kind=4∨f.kind=5∨f.kind=6∨f.kind=7∨f.kind=8∨f.kind=9∨f.kind=10∨f.kind=11∨f.kind=12:=by omega
 have hn:=ZqV (f:=f)
 unfold Zdz ZbT
 rcases hk2 with h1 | h1 | h1 | h1 | h1 | h1 | h1 | h1 | h1 | h1 | h1 | h1 <;> simp only [h1,Int.reduceEq,if_true,if_false,true_or,or_true,or_self,forall_const,false_implies] at hn ⊢
 ·exact hn
 ·exact hn
 ·unfold ck3; rw [ZjB,Znc]
  by_cases hA:0≤f.low∧f.low≤f.high∧f.high < 34359738368
  ·simp [hA]; omega
  ·rw [Bool.eq_iff_iff]; simp; omega
 ·exact Zh4 hd2 _
 ·unfold ck5; rw [Bool.eq_iff_iff]; simp [W1] <;> omega
 ·unfold ck6; rw [Bool.eq_iff_iff]; simp [W1] <;> omega
 ·unfold ck7; rw [h.has,Zh4 hd2]
  by_cases h2:ZK d f.of a < 0 <;> simp [h2]
 ·unfold ck8; rw [h.has]
  by_cases h2:ZK d f.of a < 0 <;> simp [h2]
 ·have ht:=Zpq hd2 f.tag
  unfold Zgw ZfF Zi0
  rw [Zo7 h]
  have hff:J5 m f.tag i=ZQ (fun f'=>decide (f'.name=f.tag)) (m.fields.take i):=rfl
  rw [hff]
  have htt:ZmD m f.tag i=Zdo (m.fields.take i) f:=rfl
  rw [htt]
  generalize hz:ZQ (fun f'=>decide (f'.name=f.tag)) (m.fields.take i)=z at *
  by_cases hz0:z < 0
  ·simp [ht.1,hz0]
  ·have hzl:=Jy (fun f':Fld=>decide (f'.name=f.tag)) (m.fields.take i) (by omega)
   rw [hz,hfl] at hzl
   have hg:(m.fields.take i).getD z.toNat default=m.fields.getD z.toNat default:=Zcb hzl
   rw [hg] at ht
   by_cases hnum:Qc (m.fields.getD z.toNat default)=true
   ·have hs:(ZS f.tag (QL (m.fields.take i))).isSome=true:=by rw [ht.1,hnum]; simp [hz0]
    rw [ht.2 hs,hs,hnum]
    cases Zdo (m.fields.take i) f
    ·simp only [hz0,decide_false,Bool.not_true,Bool.or_self,Bool.not_false,Bool.true_and,Bool.false_eq_true,if_false]
     by_cases hl:1≤f.cases.length∧f.cases.length≤40
     ·have hc1:(decide (1≤(f.cases.length:Int)) && decide ((f.cases.length:Int)≤40))=true:=by simp only [Bool.and_eq_true,decide_eq_true_eq]; omega
      have hc2:(decide (f.cases.length < 1) || decide (40 < f.cases.length))=false:=by simp only [Bool.or_eq_false_iff,decide_eq_false_iff_not]; omega
      rw [hc1,hc2]; simp
     ·have hc1:(decide (1≤(f.cases.length:Int)) && decide ((f.cases.length:Int)≤40))=false:=by simp only [Bool.and_eq_false_iff,decide_eq_false_iff_not]; omega
      have hc2:(decide (f.cases.length < 1) || decide (40 < f.cases.length))=true:=by simp only [Bool.or_eq_true,decide_eq_true_eq]; omega
      rw [hc1,hc2]; simp
    ·simp
   ·have hnum2:Qc (m.fields.getD z.toNat default)=false:=by simpa using hnum
    rw [ht.1,hnum2]; simp
 ·unfold ZmH ZnH
  rw [Bool.eq_iff_iff]
  generalize f.bits=b
  by_cases h0:0≤b
  ·rw [Int.tmod_eq_emod_of_nonneg h0]; simp; omega
  ·simp; omega
 ·unfold Zm5
  have hff:J5 m f.from_ i=ZQ (fun f'=>decide (f'.name=f.from_)) (m.fields.take i):=rfl
  rw [hff]
  rw [Bool.eq_iff_iff]; simp [W1]
  generalize ZQ (fun f'=>decide (f'.name=f.from_)) (m.fields.take i)=z
  split
  ·simp; omega
  ·split <;> simp <;> omega
 ·unfold Zni Zjy
  rw [h.strict,Zh4 hd2]
  by_cases hkk:f.key < 0∨4294967295 < f.key
  ·rw [if_pos (by simpa using hkk)]; simp [W1]; omega
  ·rw [if_neg (by simpa using hkk)]
   have:W1 0 4294967295 [f.key]=true:=by simp [W1]; omega
   rw [this]
   by_cases h2:ZK d f.of a < 0
   ·simp [h2]
   ·simp only [h2,decide_false,Bool.not_false,Bool.true_and,Bool.false_or]
    cases (QN d a).getD (ZK d f.of a).toNat default <;> simp
theorem Zpb {d:Dfn} {a:Nat} {deps:List Int} {dl:List (Str × Int)} {sl:List (Str × Bool)} (h:ZbQ d a deps dl sl) {m:Msg} {i:Nat} (hi:i < m.fields.length) (hd:Zeg m.fields i) (f:Fld) :
  Jn (m.fields.take i) dl sl f=decide (Qv d a m i f=0):=by
 unfold Jn Qv
 rw [show ZQ (fun x=>decide (x.name=f.name)) (m.fields.take i)=J5 m f.name i from rfl]
 cases K7 f.name
 ·simp
 ·by_cases h1:0≤J5 m f.name i
  ·simp [h1]
  ·by_cases hk:JD f=true
   ·have hk2:(decide (f.kind < 1) || decide (12 < f.kind))=false:=by
     unfold JD at hk
     simp only [Bool.and_eq_true,decide_eq_true_eq] at hk
     simp only [Bool.or_eq_false_iff,decide_eq_false_iff_not]; omega
    rw [ZmT hk,ZoI h hi hd hk,hk,hk2]
    cases ZbP f <;> simp [h1]
   ·have hk1:JD f=false:=by simpa using hk
    have hk2:(decide (f.kind < 1) || decide (12 < f.kind))=true:=by
     unfold JD at hk
     simp only [Bool.and_eq_true,decide_eq_true_eq] at hk
     simp only [Bool.or_eq_true,decide_eq_true_eq]; omega
    rw [hk1,hk2]
    simp [h1]
theorem Zjq (d:Dfn) (a:Nat) (m:Msg) (j:Nat) (l l':List Fld) (h:Km d a m j l=none):Km d a m j (l++l')=Km d a m (j + l.length) l':=by
 induction l generalizing j with
 | nil=>rfl
 | cons f r ih =>
  simp only [Km] at h
  split at h
  ·rename_i hf
   simp only [List.cons_append,Km,hf,if_true,List.length_cons]
   rw [ih _ h]
   congr 1; omega
  ·simp at h
theorem ZnE {d:Dfn} {a:Nat} {deps:List Int} {dl:List (Str × Int)} {sl:List (Str × Bool)} (h:ZbQ d a deps dl sl) {m:Msg} (n:Nat) (hn:n≤m.fields.length) :
  (Jh dl sl m n=true↔Km d a m 0 (m.fields.take n)=none)∧(Jh dl sl m n=true→Zeg m.fields n):=by
 induction n with
 | zero=>simp [Jh,Km,Zeg]
 | succ n ih =>
  have ih:=ih (by omega)
  rw [Zgp,WL (show n < m.fields.length by omega),Bool.and_eq_true]
  have hlen:(m.fields.take n).length=n:=by simp; omega
  by_cases hp:Jh dl sl m n=true
  ·have hf:=ih.1.1 hp
   have hd:=ih.2 hp
   rw [Zjq _ _ _ _ _ _ hf,Zpb h (show n < m.fields.length by omega) hd,hlen,Nat.zero_add]
   simp only [Km]
   refine ⟨?_,fun hh=>?_⟩
   ·simp only [hp,true_and,decide_eq_true_eq]
    split <;> simp_all
   ·have hz:Qv d a m n (m.fields.getD n default)=0:=by simpa using hh.2
    intro j hj
    by_cases hjn:j < n
    ·exact hd j hjn
    ·obtain rfl:j=n:=by omega
     unfold Qv at hz
     split at hz; · omega
     split at hz; · omega
     rename_i h2
     unfold J5 at h2; omega
  ·refine ⟨?_,fun hh=>absurd hh.1 hp⟩
   constructor
   ·intro hh; exact absurd hh.1 hp
   ·intro hh
    exfalso
    apply hp
    refine ih.1.2 ?_
    have key:∀ (j:Nat) (l l':List Fld),Km d a m j (l++l')=none→Km d a m j l=none:=by
     intro j l l'
     induction l generalizing j with
     | nil=>intro _; rfl
     | cons f r ih2 =>
      simp only [List.cons_append,Km]
      split
      ·exact ih2 _
      ·simp
    exact key _ _ _ hh
theorem ZiU {α:Type} (l:List α) (p q:α→Int) (h:∀ s∈l,p s=q s) (b:Int):l.foldl (fun a s=>max a (p s)) b=l.foldl (fun a s=>max a (q s)) b:=by
 induction l generalizing b with
 | nil=>rfl
 | cons x r ih =>
  simp only [List.foldl_cons,h x (by simp)]
  exact ih (fun s hs=>h s (by simp [hs])) _
theorem Znl {α:Type} {p q:α→Bool} {l:List α} (h:∀ x∈l,p x=q x):l.all p=l.all q:=by
 induction l with
 | nil=>rfl
 | cons x r ih=>simp only [List.all_cons,h x (by simp),ih fun y hy=>h y (by simp [hy])]
theorem ZqA {d:Dfn} {a:Nat} {deps:List Int} {dl:List (Str × Int)} {sl:List (Str × Bool)} (h:ZbQ d a deps dl sl) {m:Msg} (hm:d.msgs.getD a default=m) :
  (ZcZ dl sl m=true↔Qd d a m=none∧ZdL d a deps m≤16)∧(Qd d a m=none→Qk dl m + 1=ZdL d a deps m∧JO sl m=Zdr d m (QN d a)):=by
 have hf:=ZnE h (m:=m) m.fields.length (Nat.le_refl _)
 rw [List.take_length] at hf
 have h2:Qd d a m=none→Qk dl m + 1=ZdL d a deps m∧JO sl m=Zdr d m (QN d a):=fun hh=>by
  have hok:=(Zo8 hm hh).ref
  rw [hm] at hok
  constructor
  ·unfold Qk ZdL ZnD
   congr 1
   refine ZiU _ _ _ (fun s hs=>?_) _
   have:=hok s hs
   rw [h.dep,if_neg (by omega)]; rfl
  ·unfold JO Zdr
   congr 1
   refine Znl fun s hs=>?_
   have:=hok s hs
   rw [h.strict,ZbV]
   simp [show ¬ ZK d s a < 0 by omega]
 refine ⟨?_,h2⟩
 unfold ZcZ
 rw [h.has]
 by_cases hn:K7 m.name=true
 ·by_cases hd:ZK d m.name a < 0
  ·by_cases hl:1≤m.fields.length∧m.fields.length≤40
   ·have hc1:(decide (1≤(m.fields.length:Int)) && decide ((m.fields.length:Int)≤40))=true:=by simp only [Bool.and_eq_true,decide_eq_true_eq]; omega
    have hc2:(decide (m.fields.length < 1) || decide (40 < m.fields.length))=false:=by simp only [Bool.or_eq_false_iff,decide_eq_false_iff_not]; omega
    have hfl:Qd d a m=Km d a m 0 m.fields:=by
     unfold Qd
     rw [if_neg (by simp [hn]),if_neg (by omega),hc2]; rfl
    rw [hfl] at h2 ⊢
    rw [hc1,hn]
    simp only [hd,decide_true,Bool.not_true,Bool.not_false,Bool.true_and,Bool.and_eq_true,decide_eq_true_eq,hf.1]
    constructor
    ·rintro ⟨h3,h4⟩
     have:=(h2 h3).1
     exact ⟨h3,by omega⟩
    ·rintro ⟨h3,h4⟩
     have:=(h2 h3).1
     exact ⟨h3,by omega⟩
   ·have hc1:(decide (1≤(m.fields.length:Int)) && decide ((m.fields.length:Int)≤40))=false:=by simp only [Bool.and_eq_false_iff,decide_eq_false_iff_not]; omega
    have hc2:(decide (m.fields.length < 1) || decide (40 < m.fields.length))=true:=by simp only [Bool.or_eq_true,decide_eq_true_eq]; omega
    unfold Qd
    rw [hc1,hc2,if_neg (by simp [hn]),if_neg (by omega)]
    simp
  ·unfold Qd
   rw [if_neg (by simp [hn]),if_pos (by omega)]
   simp [hd]
 ·have hn2:K7 m.name=false:=by simpa using hn
  unfold Qd
  rw [hn2]
  simp
theorem Zi8 {d:Dfn} {a:Nat} {m:Msg} (ha:a < d.msgs.length) (hm:d.msgs.getD a default=m) (s:Str):ZK d s (a + 1)=if 0≤ZK d s a then ZK d s a else if m.name=s then (a:Int) else -1:=by
 unfold ZK
 rw [WL ha,hm,Zhz]
 have:(d.msgs.take a).length=a:=by simp; omega
 rw [this]; simp
theorem Zgx {α:Type} [Inhabited α] {l:List α} {a:Nat} {v:α} (h:l.length=a):(l++[v]).getD a default=v:=by subst h; simp [List.getD]
theorem ZfU {α:Type} [Inhabited α] {l:List α} {a:Nat} {v:α} (h:a < l.length):(l++[v]).getD a default=l.getD a default:=by simp [List.getD,List.getElem?_append_left h]
theorem ZbQ.step {d:Dfn} {a:Nat} {deps:List Int} {dl:List (Str × Int)} {sl:List (Str × Bool)} (h:ZbQ d a deps dl sl) {m:Msg} (ha:a < d.msgs.length) (hm:d.msgs.getD a default=m) (hnew:ZK d m.name a < 0) (v:Int) :
  ZbQ d (a + 1) (deps++[v]) (Kk m.name v dl) (Kk m.name (Zdr d m (QN d a)) sl):={
 len:=by simp [h.len]
 dep s:=by
  rw [J8,Zi8 ha hm,h.dep]
  by_cases hs:s=m.name
  ·subst hs
   rw [if_pos rfl,if_neg (show ¬ 0≤ZK d m.name a by omega),if_pos rfl,if_neg (by omega)]
   rw [show ((a:Int)).toNat=a from rfl,Zgx h.len]
  ·rw [if_neg hs]
   by_cases hp:0≤ZK d s a
   ·have hlt:(ZK d s a).toNat < deps.length:=by
     have:=Jy _ _ hp
     rw [h.len]
     have h3:(d.msgs.take a).length≤a:=by simp; omega
     unfold ZK; omega
    rw [if_pos hp,if_neg (by omega),if_neg (by omega),ZfU hlt]
   ·rw [if_neg hp,if_neg (show ¬ m.name=s from fun e=>hs e.symm),if_pos (by omega),if_pos (by omega)]
 str s:=by
  rw [J8,Zi8 ha hm,h.str]
  simp only [QN,hm]
  by_cases hs:s=m.name
  ·subst hs
   rw [if_pos rfl,if_neg (show ¬ 0≤ZK d m.name a by omega),if_pos rfl,if_neg (by omega)]
   rw [show ((a:Int)).toNat=a from rfl,Zgx (ZbV d a)]
  ·rw [if_neg hs]
   by_cases hp:0≤ZK d s a
   ·have hlt:(ZK d s a).toNat < (QN d a).length:=by
     have:=Jy _ _ hp
     rw [ZbV]
     have h3:(d.msgs.take a).length≤a:=by simp; omega
     unfold ZK; omega
    rw [if_pos hp,if_neg (by omega),if_neg (by omega),ZfU hlt]
   ·rw [if_neg hp,if_neg (show ¬ m.name=s from fun e=>hs e.symm),if_pos (by omega),if_pos (by omega)] }
theorem ZqL {d:Dfn} (n:Nat):∀ {a:Nat} {deps:List Int} {dl:List (Str × Int)} {sl:List (Str × Bool)},ZbQ d a deps dl sl→a + n=d.msgs.length →
  ((ZbM dl sl (d.msgs.drop a)).elim false fun p=>(ZS d.start p.1).isSome)=(J3 d a (d.msgs.drop a) deps).isNone:=by
 induction n with
 | zero =>
  intro a deps dl sl h ha
  obtain rfl:a=d.msgs.length:=by omega
  rw [List.drop_length]
  simp only [ZbM,J3,Option.elim,h.has]
  by_cases hs:ZK d d.start d.msgs.length < 0 <;> simp [hs]
 | succ n ih =>
  intro a deps dl sl h ha
  have hal:a < d.msgs.length:=by omega
  rw [J4 hal]
  generalize hm:d.msgs.getD a default=m
  have he:=ZqA h hm
  simp only [ZbM,J3]
  by_cases hp:ZcZ dl sl m=true
  ·obtain ⟨h1,h2⟩:=he.1.1 hp
   obtain ⟨h3,h4⟩:=he.2 h1
   rw [if_pos hp,h1]
   simp only
   rw [if_neg (by omega),h3,h4]
   refine ih (h.step hal hm ?_ _) (by omega)
   unfold Qd at h1
   split at h1; · simp at h1
   split at h1; · simp at h1
   omega
  ·rw [if_neg hp]
   cases h1:Qd d a m with
   | some x=>obtain ⟨i,c⟩:=x; rfl
   | none =>
    have:¬ ZdL d a deps m≤16:=fun h2=>hp (he.1.2 ⟨h1,h2⟩)
    simp only
    rw [if_pos (by omega)]; rfl
theorem ZlC (d:Dfn):Zbu d=YU d:=by
 unfold Zbu YU Zlr
 cases hn:K7 d.name
 ·rfl
 ·by_cases hl:1≤d.msgs.length∧d.msgs.length≤60
  ·have hc1:(decide (1≤(d.msgs.length:Int)) && decide ((d.msgs.length:Int)≤60))=true:=by simp only [Bool.and_eq_true,decide_eq_true_eq]; omega
   have hc2:(decide (d.msgs.length < 1) || decide (60 < d.msgs.length))=false:=by simp only [Bool.or_eq_false_iff,decide_eq_false_iff_not]; omega
   rw [hc1,hc2]
   simp only [Bool.true_and,Bool.true_eq_false,Bool.false_eq_true,if_false]
   have h0:ZbQ d 0 [] [] []:=⟨rfl,fun s=>by simp [ZS,ZK,ZQ],fun s=>by simp [ZS,ZK,ZQ]⟩
   have:=ZqL d.msgs.length h0 (by omega)
   rw [List.drop_zero] at this
   exact this
  ·have hc1:(decide (1≤(d.msgs.length:Int)) && decide ((d.msgs.length:Int)≤60))=false:=by simp only [Bool.and_eq_false_iff,decide_eq_false_iff_not]; omega
   have hc2:(decide (d.msgs.length < 1) || decide (60 < d.msgs.length))=true:=by simp only [Bool.or_eq_true,decide_eq_true_eq]; omega
   rw [hc1,hc2]; rfl
theorem Q1 (d:Dfn) (st:St):YD Tryz.prog WH.id [.agg d.cells] st (.bool (YU d)) st:=by
 rw [← ZlC]; exact ZhW d st
end Go.DL
namespace Go.DL
open Go Go.Proofs
def KG (m:Msg) (f g:Fld):List D:=m.cells++f.cells++g.cells
theorem Zk0 (m:Msg) (f g:Fld):D.agg [.str m.name,Wl m.fields,.str f.name,.int .i64 f.kind,.int .i64 f.bits,.bool f.little,.bool f.loose,.int .i64 f.low,.int .i64 f.high,.int .i64 f.size.base,Y4 f.size.terms,.str f.of,.str f.tag,.str f.from_,Kx f.cases,.int .i64 f.check,.int .i64 f.key,
   .str g.name,.int .i64 g.kind,.int .i64 g.bits,.bool g.little,.bool g.loose,.int .i64 g.low,.int .i64 g.high,.int .i64 g.size.base,Y4 g.size.terms,.str g.of,.str g.tag,.str g.from_,Kx g.cases,.int .i64 g.check,.int .i64 g.key] = .agg (KG m f g):=rfl
theorem Zhp (m:Msg) (f g:Fld):Yk Tryz.prog WA.id [.agg (KG m f g)] (.bool (decide (f.name=g.name))):=by
 refine YR WA.ok fun F st hret=>?_
 refine Za (Zb (Zc ?_))
 simp only [Eqs,reduceCtorEq,reduceIte,Nat.reduceEqDiff,WA.r0,KG,Msg.cells,Fld.cells]
 refine Za (Zb (Zc ?_))
 simp only [Eqs,reduceIte,Nat.reduceEqDiff,WA.r1]
 refine hret rfl (by first | trivial | simp) (Y1 ?_) (by first | exact St.sub_refl _ | exact ZM (by first | trivial | assumption) | assumption | exact St.sub_upd _ (by assumption))
 rfl
theorem Zhb (m:Msg) (f g:Fld):Yk Tryz.prog Wz.id [.agg (KG m f g)] (.bool (decide (f.kind=g.kind))):=by
 refine YR Wz.ok fun F st hret=>?_
 refine Za (Zb (Zc ?_))
 simp only [Eqs,reduceCtorEq,reduceIte,Nat.reduceEqDiff,Wz.r0,KG,Msg.cells,Fld.cells]
 refine Za (Zb (Zc ?_))
 simp only [Eqs,reduceIte,Nat.reduceEqDiff,Nat.reduceAdd,Wz.r1]
 refine hret rfl (by first | trivial | simp) (Y1 ?_) (by first | exact St.sub_refl _ | exact ZM (by first | trivial | assumption) | assumption | exact St.sub_upd _ (by assumption))
 rfl
def ZeB (f g:Fld):Bool:=(decide (f.bits=g.bits) && decide (f.little=g.little) && decide (f.check=g.check) && decide (f.key=g.key)) && (!decide (f.kind=5) || decide (f.low=g.low))
theorem Zg8 (m:Msg) (f g:Fld):Yk Tryz.prog Wb.id [.agg (KG m f g)] (.bool (ZeB f g)):=by
 refine YR Wb.ok fun F st hret=>?_
 refine Za (Zb (Zc ?_))
 simp only [Eqs,reduceCtorEq,reduceIte,Nat.reduceEqDiff,Wb.r0,KG,Msg.cells,Fld.cells]
 refine Za (Zb (Zc ?_))
 simp only [Eqs,reduceIte,Nat.reduceEqDiff,Nat.reduceAdd,Wb.r1]
 refine Za (Zb (Zc ?_))
 simp only [Eqs,reduceIte,Nat.reduceEqDiff,Nat.reduceAdd,Wb.r2]
 refine hret rfl (by first | trivial | simp) (Y1 ?_) (by first | exact St.sub_refl _ | exact ZM (by first | trivial | assumption) | assumption | exact St.sub_upd _ (by assumption))
 simp [ZeB,Bool.and_assoc]
theorem Zha (m:Msg) (f g:Fld):Yk Tryz.prog WF.id [.agg (KG m f g)] (.bool (!f.loose || g.loose)):=by
 refine YR WF.ok fun F st hret=>?_
 refine Za (Zb (Zc ?_))
 simp only [Eqs,reduceCtorEq,reduceIte,Nat.reduceEqDiff,WF.r0,KG,Msg.cells,Fld.cells]
 refine Za (Zb (Zc ?_))
 simp only [Eqs,reduceIte,Nat.reduceEqDiff,Nat.reduceAdd,WF.r1]
 refine hret rfl (by first | trivial | simp) (Y1 ?_) (by first | exact St.sub_refl _ | exact ZM (by first | trivial | assumption) | assumption | exact St.sub_upd _ (by assumption))
 cases f.loose <;> simp
theorem Zhn (m:Msg) (f g:Fld):Yk Tryz.prog WB.id [.agg (KG m f g)] (.bool (ZbI f.size g.size)):=by
 refine YR WB.ok fun F st hret=>?_
 refine Za (Zb (Zc ?_))
 simp only [Eqs,reduceCtorEq,reduceIte,Nat.reduceEqDiff,WB.r0,KG,Msg.cells,Fld.cells]
 refine Za (Zb (Zc ?_))
 simp only [Eqs,reduceIte,Nat.reduceEqDiff,Nat.reduceAdd,Nat.reduceLeDiff,WB.r1]
 refine YS rfl rfl rfl rfl rfl (by trivial) (by trivial) (by exact ZkA f.size g.size) (Zc ?_)
 simp only [Eqs,reduceIte,Nat.reduceEqDiff]
 refine hret rfl (by first | trivial | simp) (Y1 ?_) (by first | exact St.sub_refl _ | exact ZM (by first | trivial | assumption) | assumption | exact St.sub_upd _ (by assumption))
 rfl
theorem Zhk (m:Msg) (f g:Fld):Yk Tryz.prog WD.id [.agg (KG m f g)] (.bool (decide (f.tag=g.tag) && decide (f.from_=g.from_))):=by
 refine YR WD.ok fun F st hret=>?_
 refine Za (Zb (Zc ?_))
 simp only [Eqs,reduceCtorEq,reduceIte,Nat.reduceEqDiff,WD.r0,KG,Msg.cells,Fld.cells]
 refine Za (Zb (Zc ?_))
 simp only [Eqs,reduceIte,Nat.reduceEqDiff,Nat.reduceAdd,WD.r1]
 refine hret rfl (by first | trivial | simp) (Y1 ?_) (by first | exact St.sub_refl _ | exact ZM (by first | trivial | assumption) | assumption | exact St.sub_upd _ (by assumption))
 simp
def Ze3 (f g:Fld):Bool:=if f.kind=2 then decide (f.low=g.low) else if f.kind=1∨f.kind=3 then decide (g.low≤f.low) && decide (f.high≤g.high) else decide (f.high≤g.high)
theorem Ze1 (m:Msg) (f g:Fld):Yk Tryz.prog ZF.id [.agg (KG m f g)] (.bool (Ze3 f g)):=by
 refine YR ZF.ok fun F st hret=>?_
 refine Za (Zb (Zc ?_))
 simp only [Eqs,reduceCtorEq,reduceIte,Nat.reduceEqDiff,ZF.r0,KG,Msg.cells,Fld.cells]
 refine Za (Wy (ZO ?_))
 simp only [Eqs,reduceIte,Nat.reduceEqDiff,Nat.reduceAdd,Nat.reduceLeDiff,ZF.r1]
 refine Za (Za (Zb (Zc ?_)))
 simp only [Eqs,reduceIte,Nat.reduceEqDiff,Nat.reduceAdd,ZF.r2]
 refine Zo (Za (Zb (Zc ?_)))
 simp only [Eqs,reduceIte,Nat.reduceEqDiff,ZF.r3]
 refine Zg rfl trivial (fun h2=>?_) (fun h2=>?_)
 ·have h2':f.kind=2:=by simpa using h2
  refine Za (Zb (Zc ?_))
  simp only [Eqs,reduceIte,Nat.reduceEqDiff,ZF.r4]
  refine hret rfl (by first | trivial | simp) (Y1 ?_) (by first | exact St.sub_refl _ | exact ZM (by first | trivial | assumption) | assumption | exact St.sub_upd _ (by assumption))
  rw [Ze3,if_pos h2']
 ·have h2':¬ f.kind=2:=by simpa using h2
  refine Za (Za (Zb (Zc ?_)))
  simp only [Eqs,reduceIte,Nat.reduceEqDiff,ZF.r5]
  have jn:∀ c:Bool,(c=true↔(f.kind=1∨f.kind=3))→ZU F [.code (qC 29 (.seq (qR ZF.r7 [2]) .ret) .skip),.inBlock 0,.code (.seq (qR ZF.r8 [2]) .ret)] [(3,.loc 3 0),(4,.loc 4 0),(29,.d (.bool c))] [(3,[.int .i64 f.low,.int .i64 f.high]),(4,[.int .i64 g.low,.int .i64 g.high])] st:=by
   intro c hc
   refine Zg rfl trivial (fun h4=>?_) (fun h4=>?_)
   ·have hcc:=hc.1 h4
    refine Za (Zb (Zc ?_))
    simp only [Eqs,reduceIte,Nat.reduceEqDiff,ZF.r7]
    refine hret rfl (by first | trivial | simp) (Y1 ?_) (by first | exact St.sub_refl _ | exact ZM (by first | trivial | assumption) | assumption | exact St.sub_upd _ (by assumption))
    rw [Ze3,if_neg h2',if_pos hcc]
   ·have hcc:¬ (f.kind=1∨f.kind=3):=fun e=>by rw [hc.2 e] at h4; simp at h4
    refine Zq (ZC (Za (Zb (Zc ?_))))
    simp only [Eqs,reduceIte,Nat.reduceEqDiff,ZF.r8]
    refine hret rfl (by first | trivial | simp) (Y1 ?_) (by first | exact St.sub_refl _ | exact ZM (by first | trivial | assumption) | assumption | exact St.sub_upd _ (by assumption))
    rw [Ze3,if_neg h2',if_neg hcc]
  refine Zg rfl trivial (fun h3=>?_) (fun h3=>?_)
  ·have h3':f.kind=1:=by simpa using h3
   refine Zq ?_
   refine Zbv [3,4,29] ?_
   simp only [Eqs,reduceIte,Nat.reduceEqDiff]
   exact jn _ (by simp [h3'])
  ·have h3':¬ f.kind=1:=by simpa using h3
   refine Zb (Zc ?_)
   simp only [Eqs,reduceIte,Nat.reduceEqDiff,ZF.r6]
   exact jn _ (by simp [h3'])
end Go.DL
namespace Go.DL
open Go Go.Proofs
theorem Zev:Yk Tryz.prog Y6.id [] (.bool true):=by
 refine YR Y6.ok fun F st hret=>?_
 refine Za (Zb (Zc ?_))
 simp only [Eqs,Y6.r0]
 refine Za (Zb (Zc ?_))
 simp only [Eqs,reduceIte,Y6.r1]
 refine hret rfl (by first | trivial | simp) (Y1 ?_) (by first | exact St.sub_refl _ | exact ZM (by first | trivial | assumption) | assumption | exact St.sub_upd _ (by assumption))
 rfl
theorem Zew:Yk Tryz.prog Y7.id [] (.bool true):=by
 refine YR Y7.ok fun F st hret=>?_
 refine Za (Zb (Zc ?_))
 simp only [Eqs,Y7.r0]
 refine Za (Zb (Zc ?_))
 simp only [Eqs,reduceIte,Y7.r1]
 refine hret rfl (by first | trivial | simp) (Y1 ?_) (by first | exact St.sub_refl _ | exact ZM (by first | trivial | assumption) | assumption | exact St.sub_upd _ (by assumption))
 rfl
def ZgV (m:Msg) (f:Fld):Int:=(KJ f.size fun k=>ZS k (QL m.fields)).2.1
theorem ZeL (m:Msg) (f g:Fld) (y:Nat) (st:St) (hy:st y=some (.cells (KG m f g))):YD Tryz.prog Yy.id [.ptr y 0] st (.bool (decide (0 < ZgV m f))) st:=by
 refine YG Yy.ok fun hwf F hret=>?_
 clear hwf
 have hmo:(KJ f.size fun k=>ZS k (QL m.fields)).2.1=ZgV m f:=rfl
 refine Za (Zb (Zc ?_))
 simp only [Eqs,reduceCtorEq,reduceIte,Yy.r0]
 refine Za (Wy (ZO ?_))
 simp only [Eqs,reduceCtorEq,reduceIte,Nat.reduceEqDiff,Nat.reduceAdd,Nat.reduceLeDiff,Yy.r1,hy,KG,Msg.cells,Fld.cells]
 rw [show (D.agg [.str m.name,Wl m.fields]) = .agg m.cells from rfl]
 refine JP rfl rfl rfl rfl rfl (by trivial) (by trivial) (by exact Zia m st) ?_ ?_
 ·rintro d S ⟨b,hb,hd,rfl⟩
  cases hd
  have hby:(st.upd b (.map (Jr (Qw m.fields m.fields.length)))) y=st y:=St.upd_ne _ _ (fun e=>by rw [e,hb] at hy; simp at hy)
  refine ⟨by simp [KO,QG,hby],?_⟩
  refine ZO ?_
  simp only [Eqs,reduceIte]
  have hsub:=St.sub_upd (.map (Jr (Qw m.fields m.fields.length))) hb
  have hgb:=St.upd_same st b (.map (Jr (Qw m.fields m.fields.length)))
  generalize st.upd b (.map (Jr (Qw m.fields m.fields.length)))=S at *
  rw [show (D.agg [.int .i64 f.size.base,Y4 f.size.terms]) = .agg f.size.cells from rfl]
  refine JP rfl rfl rfl rfl rfl (by trivial) (by trivial) (by exact ZdI f.size b (QL m.fields) S hgb) ?_ ?_
  ·rintro d S2 ⟨hd,rfl⟩
   cases hd
   refine ⟨by trivial,?_⟩
   rw [hmo]
   refine ZO ?_
   simp only [Eqs,reduceCtorEq,reduceIte,Nat.reduceEqDiff,Nat.reduceAdd,Nat.reduceLeDiff,QX]
   refine Za (Zb (Zc ?_))
   simp only [Eqs,reduceIte,Nat.reduceEqDiff,Yy.r2]
   exact hret rfl (by trivial) (D.Le.refl _) hsub
  ·rintro d S2 ⟨hd,_⟩
   cases hd
 ·rintro d S ⟨b,hb,hd,_⟩
  cases hd
def QI (m:Msg) (f:Fld):Bool:=if f.kind=8 then true else if f.kind=12 then true else if f.kind=7 then decide (0 < ZgV m f) else false
theorem Zb8 (m:Msg) (f g:Fld) (st:St):YD Tryz.prog Yh.id [.agg (KG m f g)] st (.bool (QI m f)) st:=by
  refine YG Yh.ok fun hwf F hret=>?_
  clear hwf
  refine Za (Zb (Zc ?_))
  simp only [Eqs,reduceCtorEq,reduceIte,Nat.reduceEqDiff,Yh.r0,KG,Msg.cells,Fld.cells]
  refine Za ?_
  refine Yp 1 rfl fun y hy=>?_
  simp only [reduceIte,Yz,Wi,delL]
  rw [show ([.str m.name,Wl m.fields,.str f.name,.int .i64 f.kind,.int .i64 f.bits,.bool f.little,.bool f.loose,.int .i64 f.low,.int .i64 f.high,.int .i64 f.size.base,Y4 f.size.terms,.str f.of,.str f.tag,.str f.from_,Kx f.cases,.int .i64 f.check,.int .i64 f.key,
   .str g.name,.int .i64 g.kind,.int .i64 g.bits,.bool g.little,.bool g.loose,.int .i64 g.low,.int .i64 g.high,.int .i64 g.size.base,Y4 g.size.terms,.str g.of,.str g.tag,.str g.from_,Kx g.cases,.int .i64 g.check,.int .i64 g.key]:List D)=KG m f g from rfl]
  have hsub:=St.sub_upd (.cells (KG m f g)) hy
  have hgy:=St.upd_same st y (.cells (KG m f g))
  generalize st.upd y (.cells (KG m f g))=S at *
  have hgy2:∀ b o,S b=none→(S.upd b o) y=some (.cells (KG m f g)):=fun b o h=>by rw [St.upd_ne _ _ (fun e=>by rw [← e,hgy] at h; simp at h)]; exact hgy
  by_cases h8:f.kind=8
  · skip
    refine Zb (Zc ?_)
    simp +contextual only [Eqs,reduceIte,Nat.reduceEqDiff,Nat.reduceAdd,Yh.r1,hgy2,KG,Msg.cells,Fld.cells,h8,Zak,ZbE,Int.reduceEq,decide_false,St.upd_same,St.upd_upd]
    intro b hb
    refine Za (Zb (Zc ?_))
    simp only [Eqs,reduceIte,Nat.reduceEqDiff,Yh.r2]
    refine ZaR rfl rfl rfl rfl rfl (by trivial) (by trivial) (by exact Zev.VT (first:=[]) (args:=[]) (caps:=[]) _) (Zc ?_)
    simp only [Eqs,reduceIte,Nat.reduceEqDiff]
    exact hret rfl (by trivial) (by rw [show QI m f=true by rw [QI,if_pos h8]]; exact D.Le.refl _) (St.sub_trans hsub (St.sub_upd _ hb))
  · skip
    by_cases h12:f.kind=12
    · skip
      refine Zb (Zc ?_)
      simp +contextual only [Eqs,reduceIte,Nat.reduceEqDiff,Nat.reduceAdd,Yh.r1,hgy2,KG,Msg.cells,Fld.cells,h12,Zak,ZbE,Int.reduceEq,decide_false,St.upd_same,St.upd_upd]
      intro b hb
      refine Za (Zb (Zc ?_))
      simp only [Eqs,reduceIte,Nat.reduceEqDiff,Yh.r2]
      refine ZaR rfl rfl rfl rfl rfl (by trivial) (by trivial) (by exact Zew.VT (first:=[]) (args:=[]) (caps:=[]) _) (Zc ?_)
      simp only [Eqs,reduceIte,Nat.reduceEqDiff]
      exact hret rfl (by trivial) (by rw [show QI m f=true by rw [QI,if_neg h8,if_pos h12]]; exact D.Le.refl _) (St.sub_trans hsub (St.sub_upd _ hb))
    · skip
      by_cases h7:f.kind=7
      · skip
        refine Zb (Zc ?_)
        simp +contextual only [Eqs,reduceIte,Nat.reduceEqDiff,Nat.reduceAdd,Yh.r1,hgy2,KG,Msg.cells,Fld.cells,h7,Zak,ZbE,Int.reduceEq,decide_false,St.upd_same,St.upd_upd]
        intro b hb
        refine Za (Zb (Zc ?_))
        simp only [Eqs,reduceIte,Nat.reduceEqDiff,Yh.r2]
        refine ZaR rfl rfl rfl rfl rfl (by trivial) (by trivial) (by exact (ZeL m f g y _ (hgy2 b _ hb)).VT (first:=[]) (args:=[]) (caps:=[_])) (Zc ?_)
        simp only [Eqs,reduceIte,Nat.reduceEqDiff]
        exact hret rfl (by trivial) (by rw [show QI m f=decide (0 < ZgV m f) by rw [QI,if_neg h8,if_neg h12,if_pos h7]]; exact D.Le.refl _) (St.sub_trans hsub (St.sub_upd _ hb))
      · skip
        refine Zb (Zc ?_)
        simp +contextual only [Eqs,reduceIte,Nat.reduceEqDiff,Nat.reduceAdd,Yh.r1,hgy2,KG,Msg.cells,Fld.cells,h7,h8,h12,Zak,ZbE,Int.reduceEq,decide_false,St.upd_same,St.upd_upd]
        intro b hb
        refine Za (Zb (Zc ?_))
        simp only [Eqs,reduceIte,Nat.reduceEqDiff,Yh.r2]
        refine Zaj rfl (e:=.d (.bool false)) (Zc ?_)
        simp only [Eqs,reduceIte,Nat.reduceEqDiff]
        exact hret rfl (by trivial) (by rw [show QI m f=false by rw [QI,if_neg h8,if_neg h12,if_neg h7]]; exact D.Le.refl _) (St.sub_trans hsub (St.sub_upd _ hb))
theorem Zg7 (m:Msg) (f g:Fld) (st:St):YD Tryz.prog WG.id [.agg (KG m f g)] st (.bool (!QI m f || decide (f.of=g.of))) st:=by
 refine YG WG.ok fun hwf F hret=>?_
 clear hwf
 refine Za (Zb (Zc ?_))
 simp only [Eqs,reduceCtorEq,reduceIte,Nat.reduceEqDiff,WG.r0,KG,Msg.cells,Fld.cells]
 refine Za (Zb (Zc ?_))
 simp only [Eqs,reduceIte,Nat.reduceAdd,Nat.reduceLeDiff,WG.r1]
 rw [Zk0]
 refine YF rfl rfl rfl rfl rfl (by trivial) (by trivial) (by exact Zb8 m f g _) (Zc ?_)
 simp only [Eqs,reduceIte,Nat.reduceEqDiff,Nat.reduceAdd]
 exact hret rfl (by trivial) (by cases QI m f <;> exact D.Le.refl _) (St.sub_refl _)
structure Srt (l:List Y9):Prop where
 ord:∀ i j,i < j→j < l.length→(l.getD i default).high < (l.getD j default).low
 ne:∀ i,i < l.length→(l.getD i default).low≤(l.getD i default).high
 hi:∀ i,i < l.length→(l.getD i default).high≤34359738367
 lo:∀ i,i < l.length→0≤(l.getD i default).low
def Zh9 (c:Y9) (v:Int) (x:Y9):Prop:=x.low≤v∧v≤x.high∧x.of=c.of
theorem Zlg {c:Y9} {v:Int} {l l2:List Y9} (h:∀ x∈l,¬ Zh9 c v x):Y3 c v (l++l2)=Y3 c v l2:=by
 induction l with
 | nil=>rfl
 | cons x r ih =>
  have h1:=h x (by simp)
  unfold Zh9 at h1
  simp only [List.cons_append,Y3]
  rw [if_neg (by simpa only [Bool.and_eq_true,decide_eq_true_eq] using h1)]
  exact ih fun y hy=>h y (by simp [hy])
theorem Zj4 {c:Y9} {v:Int} {l:List Y9} (h:∀ x∈l,¬ Zh9 c v x):Y3 c v l=false:=by
 have:=Zlg (l2:=[]) h
 rw [List.append_nil] at this; rw [this]; rfl
theorem Zpf {c:Y9} {v:Int} {g:Fld} (h:Zc9 g v < 0):Y3 c v g.cases=false:=Zj4 fun x hx=>by
 have:=ZmV h x hx
 simp only [Bool.and_eq_false_iff,decide_eq_false_iff_not] at this
 unfold Zh9; omega
structure Zm1 (g:Fld) (v:Int) (q:Nat):Prop where
 lt:q < g.cases.length
 lo:(g.cases.getD q default).low≤v
 hi:v≤(g.cases.getD q default).high
theorem ZqT {v:Int} {g:Fld} (h:0≤Zc9 g v):Zm1 g v (Zc9 g v).toNat:=by
 have h1:=Zek h
 have h2:=Jy _ _ h
 simp only [Bool.and_eq_true,decide_eq_true_eq] at h1
 exact ⟨h2,h1.1.1,h1.1.2⟩
theorem Zn3 {c:Y9} {v:Int} {g:Fld} (hs:Srt g.cases) {q:Nat} (h:Zm1 g v q) (hn:(g.cases.getD q default).of≠c.of):Y3 c v g.cases=false:=Zj4 fun x hx=>by
 obtain ⟨i,hi,rfl⟩:=List.getElem_of_mem hx
 have e:g.cases[i]=g.cases.getD i default:=by simp [List.getD,hi]
 rw [e]
 rintro ⟨h1,h2,h3⟩
 have:=h.lo
 have:=h.hi
 rcases Nat.lt_trichotomy i q with h4 | h4 | h4
 ·have:=hs.ord i q h4 h.lt; omega
 ·subst h4; exact hn h3
 ·have:=hs.ord q i h4 hi; omega
theorem Zpx {c:Y9} {v:Int} {g:Fld} (hs:Srt g.cases) {q:Nat} (h:Zm1 g v q) (hn:(g.cases.getD q default).of=c.of):Y3 c v g.cases=if c.high≤(g.cases.getD q default).high then true else Y3 c ((g.cases.getD q default).high + 1) g.cases:=by
 have hd:g.cases.drop q=g.cases.getD q default :: g.cases.drop (q + 1):=J4 h.lt
 have key:∀ w:Int,(∀ i,i < q→(g.cases.getD i default).high < w)→Y3 c w g.cases=Y3 c w (g.cases.drop q):=fun w hw=>by
  conv=>lhs; rw [← List.take_append_drop q g.cases]
  refine Zlg fun x hx=>?_
  obtain ⟨i,hi,rfl⟩:=(Zkp (Nat.le_of_lt h.lt)).1 hx
  rintro ⟨h1,h2,h3⟩
  have:=hw i hi; omega
 have hlo:=h.lo
 have hhi:=h.hi
 rw [key v (fun i hi=>by have:=hs.ord i q hi h.lt; omega),hd,Y3,if_pos (by simp only [Bool.and_eq_true,decide_eq_true_eq]; exact ⟨hlo,hhi,hn⟩)]
 split
 ·rfl
 ·rw [key ((g.cases.getD q default).high + 1) (fun i hi=>by have:=hs.ord i q hi h.lt; omega),hd,Y3,if_neg]
  simp only [Bool.and_eq_true,decide_eq_true_eq]; omega
theorem Zen (m:Msg) (f g:Fld) (hs:Srt g.cases) (hf:∀ c∈f.cases,c.low≤c.high):Yk Tryz.prog Zj.id [.agg (KG m f g)] (.bool (f.cases.all fun c=>Y3 c c.low g.cases)):=by
 refine Qo Zj.ok fun hwf F st hret=>?_
 have hw:f.cases.length≤big:=by
  have h1:=(hwf _ (List.mem_cons_self ..)).agg_inv (Kx f.cases) (by simp [KG,Msg.cells,Fld.cells])
  exact (K6 h1).1
 unfold big at hw
 clear hwf
 refine Za (Zb (Zc ?_))
 simp only [Eqs,reduceCtorEq,reduceIte,Nat.reduceEqDiff,Zj.r0,KG,Msg.cells,Fld.cells]
 refine Za (Za (Zb (Zc ?_)))
 simp only [Eqs,reduceIte,Nat.reduceEqDiff,Nat.reduceAdd,Zj.r1,Kx,slD]
 have hcL:D.agg [.str g.name,.int .i64 g.kind,.int .i64 g.bits,.bool g.little,.bool g.loose,.int .i64 g.low,.int .i64 g.high,.int .i64 g.size.base,Y4 g.size.terms,.str g.of,.str g.tag,.str g.from_,Kx g.cases,.int .i64 g.check,.int .i64 g.key] = .agg g.cells:=rfl
 refine Qy (s':=st) (by first | exact St.sub_refl _ | exact ZM (by first | trivial | assumption) | exact St.sub_trans (ZM (by first | trivial | assumption)) (ZM (by first | trivial | assumption)) | assumption) (ZaT (ρ':=[(1,.loc 1 0),(10,.d (Kx f.cases)),(11,.d (.int .i64 f.cases.length)),(12,.d (.int .i64 (0:Nat)))]) (L':=[(1,KG m f g)]) ?_ ?_ ?_)
 ·exact Zcf _
 ·exact ZdB _
 refine Zo (YH ?_)
 have key:∀ (n i:Nat),(f.cases.length) - i=n→(f.cases.take i).all (fun c=>Y3 c c.low g.cases)=true→i≤f.cases.length→ZU F [.code (Zj.l0),.inLoop Zj.l0,.inBlock 0,.code (.seq (qR Zj.r11 [2]) .ret)] [(1,.loc 1 0),(10,.d (Kx f.cases)),(11,.d (.int .i64 f.cases.length)),(12,.d (.int .i64 i))] [(1,KG m f g)] st:=by
  intro n
  induction n using Nat.strongRecOn with
  | ind n ih_key =>
  intro i hn hall hi
  refine Za (Zb (Zc ?_))
  simp only [Eqs,reduceIte,Nat.reduceEqDiff,Zj.r2]
  refine Za (Zg rfl trivial (fun h1=>?_) (fun h1=>?_))
  ·simp at h1
   have hsn:=Zfh (p:=fun c=>Y3 c c.low g.cases) h1
   have hcm:=hf _ (KQ h1)
   have hnot:Y3 (f.cases.getD i default) (f.cases.getD i default).low g.cases=false→(f.cases.all fun c=>Y3 c c.low g.cases)=false:=fun h=>List.all_eq_false.2 ⟨_,KQ h1,by rw [h]; simp⟩
   generalize hc:f.cases.getD i default=c at *
   refine Zq (Za (Zo (Za (Zb (Zc ?_)))))
   simp only [Eqs,reduceIte,Nat.reduceEqDiff,Nat.reduceAdd,Nat.reduceLeDiff,Zj.r3,Kx,slD,Y9.cells,hc]
   repeat (refine And.intro (by first | omega | trivial | (intro h0; simp at h0; omega)) ?_)
   refine Za (Zb (Zc ?_))
   simp only [Eqs,reduceIte,Nat.reduceEqDiff,Zj.r4]
   refine Zo (YH ?_)
   have key2:∀ (n q:Nat),(g.cases.length) - q=n→∀ v,(∀ j,j < q→(g.cases.getD j default).high < v)→(v≤c.high→Y3 c c.low g.cases=Y3 c v g.cases)→(c.high < v→Y3 c c.low g.cases=true)→q≤g.cases.length→ZU F [.code (Zj.l1),.inLoop Zj.l1,.inBlock 2,.inBlock 1,.code (qR Zj.r10 [1,10,11,12]),.inLoop Zj.l0,.inBlock 0,.code (.seq (qR Zj.r11 [2]) .ret)] [(1,.loc 1 0),(4,.loc 4 0),(5,.d (.int .i64 v)),(10,.d (Kx f.cases)),(11,.d (.int .i64 f.cases.length)),(12,.d (.int .i64 i))] [(1,KG m f g),(4,c.cells)] st:=by
    intro n
    induction n using Nat.strongRecOn with
    | ind n ih_key2 =>
    intro q hnq v hq hv1 hv2 hql
    refine Za (Za (Zb (Zc ?_)))
    simp only [Eqs,reduceIte,Nat.reduceEqDiff,Zj.r5,Y9.cells]
    refine Zg rfl trivial (fun h2=>?_) (fun h2=>?_)
    ·have hvc:v≤c.high:=by simpa using h2
     have hv1:=hv1 hvc
     refine Zq (Zo (Za (Zb (Zc ?_))))
     simp only [Eqs,reduceIte,Nat.reduceEqDiff,Nat.reduceAdd,Nat.reduceLeDiff,Zj.r6,KG,Msg.cells,Fld.cells,Kx,slD]
     rw [show D.agg [.str g.name,.int .i64 g.kind,.int .i64 g.bits,.bool g.little,.bool g.loose,.int .i64 g.low,.int .i64 g.high,.int .i64 g.size.base,Y4 g.size.terms,.str g.of,.str g.tag,.str g.from_,.sl .none g.cases.length 3 (fun i=>(g.cases.getD i default).cells),.int .i64 g.check,.int .i64 g.key] = .agg g.cells from rfl]
     refine YS rfl rfl rfl rfl rfl (by trivial) (by trivial) (by exact ZjG g v) (Zc ?_)
     simp only [Eqs,reduceIte,Nat.reduceEqDiff]
     by_cases hz:0≤Zc9 g v
     ·have hat:=ZqT hz
      have hmx:max (Zc9 g v) 0=((Zc9 g v).toNat:Int):=by omega
      have hlt:=hat.lt
      rw [hmx,decide_eq_true hz]
      generalize hr:(Zc9 g v).toNat=r at *
      refine Za (Za (KU (Kz ?_)))
      simp only [Eqs,reduceIte,Nat.reduceEqDiff,Nat.reduceAdd,Zj.r7,Y9.cells]
      repeat (refine And.intro (by first | omega | trivial | (intro h0; simp at h0; omega)) ?_)
      refine Zg rfl trivial (fun h3=>?_) (fun h3=>?_)
      ·have h3':(g.cases.getD r default).of≠c.of:=by simpa using h3
       have:=hnot (hv1.trans (Zn3 hs hat h3'))
       refine Za (Zb (Zc ?_))
       simp only [Eqs,reduceIte,Nat.reduceEqDiff,Zj.r8]
       refine hret rfl (by first | trivial | simp) (Y1 ?_) (by first | exact St.sub_refl _ | exact ZM (by first | trivial | assumption) | assumption | exact St.sub_upd _ (by assumption))
       exact this.symm
      ·have h3':(g.cases.getD r default).of=c.of:=by simpa using h3
       have hcs:=Zpx hs hat h3'
       have hhi:=hs.hi r hlt
       have hlo:=hs.lo r hlt
       have hne:=hs.ne r hlt
       have hrq:q≤r:=by
        rcases Nat.lt_or_ge r q with h | h
        ·have:=hq r h; have:=hat.hi; omega
        ·exact h
       refine Zq (Zb (Zc ?_))
       simp only [Eqs,reduceIte,Nat.reduceEqDiff,Nat.reduceAdd,Zj.r9]
       repeat (refine And.intro (by first | omega | trivial | (intro h0; simp at h0; omega)) ?_)
       refine ZC (Z3 ?_)
       exact ih_key2 (g.cases.length - (r + 1)) (by omega) (r + 1) rfl _ (fun j hj=>by
        rcases Nat.lt_or_ge j r with h | h
        ·have:=hs.ord j r h hlt; have:=hs.ne r hlt; omega
        ·obtain rfl:j=r:=by omega
         omega) (fun h=>by rw [hv1,hcs,if_neg (by omega)]) (fun h=>by rw [hv1,hcs,if_pos (by omega)]) (by omega)
     ·rw [decide_eq_false hz]
      have:=hnot (hv1.trans (Zpf (by omega)))
      refine Za (Za (KU (Kz ?_)))
      simp only [Eqs,reduceIte,Nat.reduceEqDiff,Nat.reduceAdd,Zj.r7,Y9.cells]
      refine Zg rfl trivial (fun _=>?_) (fun h=>by simp at h)
      refine Za (Zb (Zc ?_))
      simp only [Eqs,reduceIte,Nat.reduceEqDiff,Zj.r8]
      refine hret rfl (by first | trivial | simp) (Y1 ?_) (by first | exact St.sub_refl _ | exact ZM (by first | trivial | assumption) | assumption | exact St.sub_upd _ (by assumption))
      exact this.symm
    ·have hvc:c.high < v:=by simpa using h2
     refine Ys rfl (ZC (Zb (Zc ?_)))
     simp only [Eqs,reduceIte,Nat.reduceEqDiff,Zj.r10]
     repeat (refine And.intro (by first | omega | trivial | (intro h0; simp at h0; omega)) ?_)
     refine Z3 ?_
     exact ih_key ((f.cases.length) - (i + 1)) (by omega) (i + 1) rfl (by rw [hsn,hall,hv2 hvc]; rfl) (by omega)
   exact key2 _ 0 rfl c.low (by intro j hj; omega) (fun _=>rfl) (fun h=>by omega) (by omega)
  ·simp at h1
   obtain rfl:i=f.cases.length:=by omega
   rw [List.take_length] at hall
   refine Ys rfl (Za (Zb (Zc ?_)))
   simp only [Eqs,reduceIte,Nat.reduceEqDiff,Zj.r11]
   refine hret rfl (by first | trivial | simp) (Y1 ?_) (by first | exact St.sub_refl _ | exact ZM (by first | trivial | assumption) | assumption | exact St.sub_upd _ (by assumption))
   exact hall.symm
 exact key _ 0 rfl (by simp) (by omega)
end Go.DL
namespace Go.DL
open Go Go.Proofs
def ZaZ:List (Int × Nat):=[(3,WA.id),(4,Wz.id),(5,Wb.id),(6,ZF.id),(7,WF.id),(8,WB.id),(9,WD.id),(10,WG.id),(11,Zj.id)]
def Znz (x:Int × Nat):List D:=[.int .i64 x.1,.fn (.func x.2) [] []]
def ZiO:D:=slD 2 Znz ZaZ
theorem Zij:Yk Tryz.prog Kb.id [] ZiO:=by
 refine YR Kb.ok fun F st hret=>?_
 refine Za (Zb (Zc ?_))
 simp only [Eqs,Kb.r0]
 refine Za (Zb (Zc ?_))
 simp only [Eqs,reduceCtorEq,reduceIte,Nat.reduceEqDiff,Nat.reduceAdd,Nat.reduceLeDiff,Kb.r1]
 refine hret rfl (by trivial) (ZaN (We.le (l:=ZaZ) ?_ rfl)) (St.sub_refl _)
 intro i hi
 have hi9:i < 9:=hi
 match i,hi9 with
 | 0,_ | 1,_ | 2,_ | 3,_ | 4,_ | 5,_ | 6,_ | 7,_ | 8,_=>rfl
 | n + 9,h=>omega
def JR (m:Msg) (f g:Fld) (i:Nat):Bool :=
 match i with
 | 0=>decide (f.name=g.name)
 | 1=>decide (f.kind=g.kind)
 | 2=>ZeB f g
 | 3=>Ze3 f g
 | 4=>!f.loose || g.loose
 | 5=>ZbI f.size g.size
 | 6=>decide (f.tag=g.tag) && decide (f.from_=g.from_)
 | 7=>!QI m f || decide (f.of=g.of)
 | _=>f.cases.all fun c=>Y3 c c.low g.cases
theorem Zp0 (m:Msg) (f g:Fld) (hs:Srt g.cases) (hf:∀ c∈f.cases,c.low≤c.high) (i:Nat) (hi:i < 9) (st:St):VT Tryz.prog (.fn (.func (ZaZ.getD i default).2) [] []) [.agg (KG m f g)] st (.bool (JR m f g i)) st:=by
 match i,hi with
 | 0,_=>exact (Zhp m f g).VT (first:=[]) (args:=[_]) (caps:=[]) st
 | 1,_=>exact (Zhb m f g).VT (first:=[]) (args:=[_]) (caps:=[]) st
 | 2,_=>exact (Zg8 m f g).VT (first:=[]) (args:=[_]) (caps:=[]) st
 | 3,_=>exact (Ze1 m f g).VT (first:=[]) (args:=[_]) (caps:=[]) st
 | 4,_=>exact (Zha m f g).VT (first:=[]) (args:=[_]) (caps:=[]) st
 | 5,_=>exact (Zhn m f g).VT (first:=[]) (args:=[_]) (caps:=[]) st
 | 6,_=>exact (Zhk m f g).VT (first:=[]) (args:=[_]) (caps:=[]) st
 | 7,_=>exact (Zg7 m f g st).VT (first:=[]) (args:=[_]) (caps:=[])
 | 8,_=>exact (Zen m f g hs hf).VT (first:=[]) (args:=[_]) (caps:=[]) st
 | n + 9,h=>omega
theorem Zns (l:List Ran) (x:Ran) (s:Str):ZgM (l++[x]) s=if x.name=s then some (x.low,x.high) else ZgM l s:=by
 unfold ZgM
 rw [Znn]
 split
 ·rename_i h
  rw [if_neg (by omega)]
  simp [List.getD]
 ·have h1:=Zk7 s l
  have h2:=Zpa s l
  split
  ·rfl
  ·rw [show ((l++[x]).getD (Jb s l).toNat default)=l.getD (Jb s l).toNat default by simp [List.getD,List.getElem?_append_left (show (Jb s l).toNat < l.length by omega)]]
theorem Zj8 (fs:List Fld) (n:Nat) (hn:n≤fs.length) (s:Str):ZgM (ZjK (fs.take n)) s=ZS s (Qw fs n):=by
 induction n with
 | zero=>simp [ZjK,ZgM,Jb,Qw,ZS]
 | succ n ih =>
  rw [ZnS (by omega)]
  simp only [Qw]
  split
  ·rw [Zns,J8,ih (by omega)]
   show (if (fs.getD n default).name=s then some ((KT (fs.getD n default)).1,(KT (fs.getD n default)).2) else ZS s (Qw fs n))=_
   by_cases h:s=(fs.getD n default).name
   ·rw [if_pos h.symm,if_pos h]
   ·rw [if_neg (fun e=>h e.symm),if_neg h]
  ·rw [List.append_nil]; exact ih (by omega)
theorem Zp4 (m:Msg) (f:Fld):ZgV m f=ZgD m f:=by
 unfold ZgV ZgD
 congr 3
 funext k
 have:=Zj8 m.fields m.fields.length (Nat.le_refl _) k
 rw [List.take_length] at this
 exact this.symm
theorem Zh0 (m:Msg) (f:Fld):QI m f=Qa m f:=by
 unfold QI Qa
 rw [Zp4]
 by_cases h8:f.kind=8
 ·simp [h8]
 ·by_cases h12:f.kind=12
  ·simp [h12]
  ·by_cases h7:f.kind=7 <;> simp [h8,h12,h7]
def Zae (f:Fld):Prop:=f.kind=1∨f.kind=2∨f.kind=3∨f.kind=5∨f.kind=6∨f.high=0
theorem Zp3 {f g:Fld} (hk:f.kind=g.kind) (hf:Zae f) (hg:Zae g):Zdi f g = !Ze3 f g:=by
 unfold Zdi Ze3 Zae at *
 rw [← hk] at hg
 by_cases h2:f.kind=2
 ·simp [h2]
 ·by_cases h1:f.kind=1
  ·rw [Bool.eq_iff_iff]; simp [h1] <;> (intros; omega)
  ·by_cases h3:f.kind=3
   ·rw [Bool.eq_iff_iff]; simp [h3] <;> omega
   ·by_cases h5:f.kind=5
    ·rw [Bool.eq_iff_iff]; simp [h5]
    ·by_cases h6:f.kind=6
     ·rw [Bool.eq_iff_iff]; simp [h6]
     ·simp [h1,h2,h3,h5,h6]; omega
theorem ZnI (f g:Fld):Zbt f g = !ZeB f g:=by
 unfold Zbt ZeB
 rw [Bool.eq_iff_iff]
 by_cases h1:f.bits=g.bits <;> by_cases h2:f.little=g.little <;> by_cases h3:f.check=g.check <;> by_cases h4:f.key=g.key <;> by_cases h5:f.kind=5 <;> by_cases h6:f.low=g.low <;> simp [h1,h2,h3,h4,h5,h6]
theorem Zj6 {m:Msg} {f g:Fld} (hf:Zae f) (hg:Zae g):Ji m f g =
  if JR m f g 0=false then 3 else if JR m f g 1=false then 4 else if JR m f g 2=false then 5 else if JR m f g 3=false then 6 else if JR m f g 4=false then 7 else
  if JR m f g 5=false then 8 else if JR m f g 6=false then 9 else if JR m f g 7=false then 10 else if JR m f g 8=false then 11 else 0:=by
 unfold Ji
 simp only [JR]
 by_cases h1:f.kind=g.kind
 ·rw [ZnI,Zp3 h1 hf hg,← Zh0]
  have e1:(!decide (f.tag=g.tag) || !decide (f.from_=g.from_)) = !(decide (f.tag=g.tag) && decide (f.from_=g.from_)):=by rw [Bool.not_and]
  have e2:(QI m f && !decide (f.of=g.of)) = !(!QI m f || decide (f.of=g.of)):=by rw [Bool.not_or,Bool.not_not]
  have e3:(f.loose && !g.loose) = !(!f.loose || g.loose):=by rw [Bool.not_or,Bool.not_not]
  rw [e1,e2,e3]
  simp only [Bool.not_eq_true',ne_eq,decide_eq_false_iff_not]
  congr 8
  split
  ·rename_i h; rw [h]; simp
  ·rename_i h; simp at h; simp [h]
 ·have h1':decide (f.kind=g.kind)=false:=decide_eq_false h1
  simp only [ne_eq,h1,not_false_eq_true,if_true,decide_eq_false_iff_not]
theorem Zop {m:Msg} {f g:Fld} (hf:Zae f) (hg:Zae g) {k:Nat} (hk:k < 9) (h:∀ i,i < k→JR m f g i=true) (hb:JR m f g k=false):Ji m f g=3 + k:=by
 rw [Zj6 hf hg]
 match k,hk with
 | 0,_=>simp [hb]
 | 1,_=>simp [hb,h 0]
 | 2,_=>simp [hb,h 0,h 1]
 | 3,_=>simp [hb,h 0,h 1,h 2]
 | 4,_=>simp [hb,h 0,h 1,h 2,h 3]
 | 5,_=>simp [hb,h 0,h 1,h 2,h 3,h 4]
 | 6,_=>simp [hb,h 0,h 1,h 2,h 3,h 4,h 5]
 | 7,_=>simp [hb,h 0,h 1,h 2,h 3,h 4,h 5,h 6]
 | 8,_=>simp [hb,h 0,h 1,h 2,h 3,h 4,h 5,h 6,h 7]
 | n + 9,h=>omega
theorem Zl1 {m:Msg} {f g:Fld} (hf:Zae f) (hg:Zae g) (h:∀ i,i < 9→JR m f g i=true):Ji m f g=0:=by
 rw [Zj6 hf hg]
 simp [h 0,h 1,h 2,h 3,h 4,h 5,h 6,h 7,h 8]
theorem Znf {f:Fld} (h1:1≤f.kind) (h2:f.kind≤12) (h:ZbP f=true):Zae f:=by
 have hk:f.kind=1∨f.kind=2∨f.kind=3∨f.kind=4∨f.kind=5∨f.kind=6∨f.kind=7∨f.kind=8∨f.kind=9∨f.kind=10∨f.kind=11∨f.kind=12:=by omega
 unfold Zae
 simp only [ZbP,Bool.and_eq_true] at h
 have h3:=h.1
 rcases hk with hk | hk | hk | hk | hk | hk | hk | hk | hk | hk | hk | hk <;> rw [hk] at h3 <;> simp [zrA,Zfp,ZkF,ZaW] at h3 <;> simp [hk,h3]
theorem Zm2 {d:Dfn} {a:Nat} {high lo:Int} {l:List Y9} (h:ZbZ d a high lo l=0) (hlo:0≤lo) (hh:high≤34359738367):Srt l∧∀ i,i < l.length→lo≤(l.getD i default).low:=by
 induction l generalizing lo with
 | nil=>exact ⟨⟨fun i j _ h=>by simp at h,fun i h=>by simp at h,fun i h=>by simp at h,fun i h=>by simp at h⟩,fun i h=>by simp at h⟩
 | cons c r ih =>
  simp only [ZbZ] at h
  split at h
  ·omega
  ·rename_i hc
   simp only [Bool.or_eq_true,decide_eq_true_eq,not_or,Int.not_lt] at hc
   split at h
   ·omega
   ·obtain ⟨h1,h2⟩:=ih h (by omega)
    refine ⟨⟨fun i j hij hj=>?_,fun i hi=>?_,fun i hi=>?_,fun i hi=>?_⟩,fun i hi=>?_⟩
    ·match j,i,hij with
     | j + 1,0,_=>simp at hj ⊢; have:=h2 j hj; simp at this; omega
     | j + 1,i + 1,hij=>simp at hj ⊢; have:=h1.ord i j (by omega) hj; simpa using this
    ·match i with
     | 0=>simp; omega
     | i + 1=>simp at hi ⊢; simpa using h1.ne i hi
    ·match i with
     | 0=>simp; omega
     | i + 1=>simp at hi ⊢; simpa using h1.hi i hi
    ·match i with
     | 0=>simp; omega
     | i + 1=>simp at hi ⊢; simpa using h1.lo i hi
    ·match i with
     | 0=>simp; omega
     | i + 1=>simp at hi ⊢; have:=h2 i hi; simp at this; omega
theorem Srt.nil:Srt []:=⟨fun i j _ h=>by simp at h,fun i h=>by simp at h,fun i h=>by simp at h,fun i h=>by simp at h⟩
structure Ziy (f:Fld):Prop where
 high:Zae f
 srt:Srt f.cases
 le:∀ c∈f.cases,c.low≤c.high
theorem Zps {d:Dfn} {a i:Nat} {m:Msg} {f:Fld} (h:Qv d a m i f=0) (hn:Qc f=true):0≤(KT f).1∧(KT f).2≤34359738367:=by
 unfold Qv at h
 split at h; · omega
 split at h; · omega
 split at h; · omega
 split at h; · omega
 unfold Qc at hn
 simp only [Bool.and_eq_true,decide_eq_true_eq] at hn
 have hk:f.kind=1∨f.kind=2∨f.kind=3:=by omega
 have hnum:Zdg f=0→0≤f.low∧Zjw f≤34359738367:=fun h=>by
  unfold Zdg at h
  split at h; · omega
  rename_i hb
  split at h; · omega
  rename_i hn
  unfold ZeJ at hb
  unfold Zk3 at hn
  simp only [Bool.or_eq_true,decide_eq_true_eq,not_or,Int.not_lt] at hb hn
  have:=ZcS (b:=f.bits) (by omega) (by omega)
  generalize (2:Int) ^ f.bits.toNat=pw at *
  omega
 unfold ZbT at h
 unfold KT
 rcases hk with hk | hk | hk <;> simp only [hk,Int.reduceEq,if_true,if_false] at h ⊢
 ·have:=hnum h
  unfold Zjw at this
  rw [if_neg (by omega)] at this; exact this
 ·have:=hnum h
  unfold Zjw at this
  rw [if_pos hk] at this; omega
 ·split at h
  ·rename_i hw
   unfold Znc at hw
   simp only [Bool.and_eq_true,decide_eq_true_eq] at hw
   omega
  ·omega
theorem Zot {d:Dfn} {a:Nat} {m:Msg} (hm:∀ i,i < m.fields.length→Qv d a m i (m.fields.getD i default)=0) {i:Nat} (hi:i < m.fields.length):Ziy (m.fields.getD i default):=by
 have h:=hm i hi
 have h0:=Zlu h
 unfold Qv at h
 split at h; · omega
 split at h; · omega
 split at h; · omega
 rename_i hk
 split at h; · omega
 rename_i hz
 simp only [Bool.or_eq_true,decide_eq_true_eq,not_or,Int.not_lt] at hk
 have hhigh:=Znf (f:=m.fields.getD i default) (by omega) (by omega) (by simpa using hz)
 by_cases hc:(m.fields.getD i default).cases=[]
 ·exact ⟨hhigh,by rw [hc]; exact .nil,by rw [hc]; simp⟩
 ·have h9:=h0.cases hc
  generalize hf:m.fields.getD i default=f at *
  unfold ZbT at h
  simp only [h9,Int.reduceEq,if_true,if_false] at h
  split at h; · omega
  rename_i hch
  unfold Zi0 at h
  split at h; · omega
  unfold ZfF at hch
  simp only [Bool.or_eq_true,decide_eq_true_eq,not_or,Int.not_lt,Bool.not_eq_true',Bool.not_eq_false] at hch
  have hlt:(J5 m f.tag i).toNat < i:=by
   have:=ZaF (fun f':Fld=>decide (f'.name=f.tag)) (m.fields.take i)
   rw [List.length_take] at this
   unfold J5 at hch ⊢; omega
  have hr:=Zps (hm (J5 m f.tag i).toNat (by omega)) hch.2.1
  have hs:=Zm2 h hr.1 hr.2
  refine ⟨hhigh,hs.1,fun c hcm=>?_⟩
  obtain ⟨j,hj,rfl⟩:=List.getElem_of_mem hcm
  have:=hs.1.ne j hj
  simpa [List.getD,hj] using this
theorem KF.rule {d:Dfn} (h:KF d) {j i:Nat} (hj:j < d.msgs.length) (hi:i < (d.msgs.getD j default).fields.length):Ziy ((d.msgs.getD j default).fields.getD i default):=Zot (h.msg hj).field hi
end Go.DL
namespace Go.Proofs
open Go.Shelf Go.RowKit
def Tryz.joinL_ren:Go.Shelf.Ren:=⟨fun | 156=>44 | 165=>61 | 166=>62 | 169=>63 | 240=>101 | 241=>102 | 276=>123 | 277=>124 | n=>n,fun | 31=>96 | 9=>9 | 3=>3 | 4=>4 | 0=>0 | 20=>20 | 72=>139 | 76=>143 | 70=>136 | 37=>137 | 75=>142 | 127=>177 | 164=>205 | 5=>5 | 80=>145 | n=>n,fun | n=>n⟩
theorem Tryz.joinL:Go.Proofs.Lays.n156 Tryz.prog Tryz.joinL_ren:={
 mixed:=by kernel_rfl
 f156:=Tryz.func44.trans (congrArg some (by kernel_rfl))
 f165:=Tryz.func61.trans (congrArg some (by kernel_rfl))
 f166:=Tryz.func62.trans (congrArg some (by kernel_rfl))
 f169:=Tryz.func63.trans (congrArg some (by kernel_rfl))
 f240:=Tryz.func101.trans (congrArg some (by kernel_rfl))
 f241:=Tryz.func102.trans (congrArg some (by kernel_rfl))
 f276:=Tryz.func123.trans (congrArg some (by kernel_rfl))
 f277:=Tryz.func124.trans (congrArg some (by kernel_rfl))
 t0:=Tryz.underlying0
 a0:=Tryz.isAgg0
 z0:=Tryz.sizeOf0
 v0:=Tryz.zeroValue0
 t3:=Tryz.underlying3
 a3:=Tryz.isAgg3
 z3:=Tryz.sizeOf3
 v3:=Tryz.zeroValue3
 t4:=Tryz.underlying4
 a4:=Tryz.isAgg4
 z4:=Tryz.sizeOf4
 v4:=Tryz.zeroValue4
 t9:=Tryz.underlying9
 a9:=Tryz.isAgg9
 z9:=Tryz.sizeOf9
 v9:=Tryz.zeroValue9
 t20:=Tryz.underlying20
 a20:=Tryz.isAgg20
 z20:=Tryz.sizeOf20
 v20:=Tryz.zeroValue20
 t31:=Tryz.underlying96
 a31:=Tryz.isAgg96
 z31:=Tryz.sizeOf96
 v31:=Tryz.zeroValue96
 t37:=Tryz.underlying137
 a37:=Tryz.isAgg137
 z37:=Tryz.sizeOf137
 v37:=Tryz.zeroValue137
 t70:=Tryz.underlying136
 a70:=Tryz.isAgg136
 z70:=Tryz.sizeOf136
 v70:=Tryz.zeroValue136
 t72:=Tryz.underlying139
 a72:=Tryz.isAgg139
 z72:=Tryz.sizeOf139
 v72:=Tryz.zeroValue139
 t75:=Tryz.underlying142
 a75:=Tryz.isAgg142
 z75:=Tryz.sizeOf142
 v75:=Tryz.zeroValue142
 t76:=Tryz.underlying143
 a76:=Tryz.isAgg143
 z76:=Tryz.sizeOf143
 v76:=Tryz.zeroValue143
 t127:=Tryz.underlying177
 a127:=Tryz.isAgg177
 z127:=Tryz.sizeOf177
 v127:=Tryz.zeroValue177
 t164:=Tryz.underlying205
 a164:=Tryz.isAgg205
 z164:=Tryz.sizeOf205
 v164:=Tryz.zeroValue205 }
theorem Tryz.joinX:Builder.Extra Tryz.prog Tryz.joinL_ren:={
 sizeBuilder:=by kernel_rfl
 liesBuilder:=by kernel_rfl
 t5:=Tryz.underlying5
 a5:=Tryz.isAgg5
 z5:=Tryz.sizeOf5
 v5:=Tryz.zeroValue5
 infoByte:=by kernel_rfl
 cellsByte:=by kernel_rfl
 sizeByte:=by kernel_rfl
 neB5:=by decide }
end Go.Proofs
namespace Go.DL
open Go Go.Proofs Go.Lib Go.RowKit
theorem ZpN {w:World} {b o:Nat} {v:Value} (h:w.cell? ⟨b,o,none⟩=some v):b < w.heap.size:=by
 refine Nat.lt_of_not_le fun hle=>?_
 have hn:w.heap[b]? = none:=Array.getElem?_eq_none hle
 simp [World.cell?,hn] at h
def joinL (l:List Str) (sep:Str):Str:=sep.intercalate l
theorem ZdU (l:List Str) (hn:l.length≤100000) (hj:(joinL l [46]).length≤100000000):Yk Tryz.prog strings_Join.id [slD 1 Qg l,.str [46]] (.str (joinL l [46])):=fun st=>by
 refine ⟨⟨_,Tryz.func44,by kernel_rfl,by kernel_rfl⟩,fun g w vs hs ha=>?_⟩
 cases ha with
 | cons h1 ha =>
 cases ha with
 | cons h2 ha =>
 cases ha
 cases h2 with
 | str sep _ hsep hsb =>
 have hsep2:sep=⟨#[46]⟩:=by
  obtain ⟨a⟩:=sep
  have:a.toList=[46]:=hsep
  have h2:a = #[46]:=by apply Array.ext'; simpa using this
  rw [h2]
 subst hsep2
 unfold slD at h1
 have hgrow:∀ w':World,Below w.heap.size w w'→Zay g w g w':=fun w' hbel=>⟨hbel.size,fun c hc=>hbel.block c hc,fun _ _=>rfl,fun c hc=>(hs.fresh c (Nat.le_trans hbel.size hc)).1,rfl,hbel.os,hbel.output,hbel.tape⟩
 generalize hrow:(fun i=>Qg (l.getD i default))=row at h1
 generalize hln:l.length=n at h1
 cases h1 with
 | sl0 av _ _ _ ht =>
  obtain rfl:l=[]:=List.eq_nil_of_length_eq_zero hln
  refine (Any.strings_Join_none Tryz.joinL Tryz.joinX av 0 ⟨#[46]⟩ w).mono ?_
  rintro e w' ⟨rfl,rfl⟩
  exact ⟨g,st,.ret (.str []),Ext.refl g _,hs,.str _ _ rfl (by simp [big]),rfl,rfl⟩
 | sl b o _ cap _ _ _ f hl hc hp hr one ht hcap hb =>
  subst hln
  subst hrow
  have hx:∀ i (hi:i < l.length),∃ x:ByteArray,f i 0 = .string x∧x.data.toList=l[i]:=fun i hi=>by
   have:=hr i 0 (.str (l.getD i default)) hi rfl
   generalize f i 0=v at this
   cases this with
   | str x _ h1 h2=>exact ⟨x,rfl,by rw [h1]; simp [List.getD,hi]⟩
  have hxs:∃ xs:List ByteArray,xs.length=l.length∧xs.map (·.data.toList)=l∧∀ (j:Nat) x,xs[j]? = some x→f j 0 = .string x:=by
   refine ⟨List.ofFn fun i:Fin l.length=>Classical.choose (hx i.1 i.2),by simp,?_,fun j x hj=>?_⟩
   ·apply List.ext_getElem
    ·simp
    ·intro i h1 h2
     simp at h1
     simp only [List.getElem_map,List.getElem_ofFn]
     exact (Classical.choose_spec (hx i h1)).2
   ·obtain ⟨hj1,hj2⟩:=List.getElem?_eq_some_iff.1 hj
    simp only [List.length_ofFn] at hj1
    simp only [List.getElem_ofFn] at hj2
    rw [← hj2]
    exact (Classical.choose_spec (hx j hj1)).1
  obtain ⟨xs,hx1,hx2,hx3⟩:=hxs
  have hbk:0 < l.length→b < w.heap.size:=fun h0=>by
   have:=hc 0 0 h0 (by omega)
   exact ZpN this
  have hJ:(Lib.join (xs.map (·.data.toList)) (⟨#[46]⟩:ByteArray).data.toList)=joinL l [46]:=by rw [hx2]; rfl
  have hfin:∀ w',Below w.heap.size w w'→∃ g' s' res,Ext g w g' w'∧Kg g' s' w'∧Rep g' w' (.string ⟨(joinL l [46]).toArray⟩) (.str (joinL l [46]))∧res=Res.ret (.str (joinL l [46]))∧s'=st:=fun w' hbel =>
   ⟨g,st,.ret (.str (joinL l [46])),(hgrow w' hbel).ext hs.fresh,hs.grow (hgrow w' hbel),.str _ _ (by simp) (by unfold big; omega),rfl,rfl⟩
  by_cases h0:l.length=0
  ·obtain rfl:l=[]:=List.eq_nil_of_length_eq_zero h0
   refine (Any.strings_Join_none Tryz.joinL Tryz.joinX (some ⟨b,o,none⟩) cap ⟨#[46]⟩ w).mono ?_
   rintro e w' ⟨rfl,rfl⟩
   exact ⟨g,st,.ret (.str []),Ext.refl g _,hs,.str _ _ rfl (by simp [big]),rfl,rfl⟩
  ·have hcall:=Any.strings_Join Tryz.joinL Tryz.joinX b o cap xs ⟨#[46]⟩ w (fun j x hj=>by
     have hjl:j < l.length:=by rw [← hx1]; exact (List.getElem?_eq_some_iff.1 hj).1
     have:=hc j 0 hjl (by omega)
     rw [hx3 j x hj] at this
     simpa using this) (hbk (by omega)) (by omega) (by omega) (by rw [hJ]; omega)
   rw [hJ,hx1] at hcall
   refine hcall.mono ?_
   rintro e w' ⟨rfl,hbel⟩
   obtain ⟨g',s',res,a1,a2,a3,a4,a5⟩:=hfin w' hbel
   exact ⟨g',s',res,a1,a2,by rw [a4]; exact a3,a4,a5⟩
end Go.DL
namespace Go.DL
open Go Go.Proofs
theorem ZjD:ZeY (.st [(0,.int),(1,.int)]) prK:=fun a b=>by
 simp only [QU,prK,List.length_cons,List.length_nil,and_self,if_true,K8,Kh]
 simp [Prod.ext_iff]
def prM (p:Prs):List ((Int × Int) × Bool):=p.map fun x=>(x,true)
def prE (p:Prs):List (D × D):=QF prK D.bool (prM p)
theorem ZpJ (x:Int × Int) (p:Prs):(ZS x (prM p)).getD false=decide (x∈p):=by
 induction p with
 | nil=>rfl
 | cons y r ih =>
  simp only [prM,List.map_cons,ZS]
  by_cases h:x=y
  ·simp [h]
  ·simp only [h,if_false,List.mem_cons,false_or]; exact ih
theorem Zqb {x:Int × Int} {p:Prs} (h:x ∉ p):Kk x true (prM p)=prM (p++[x]):=by
 induction p with
 | nil=>rfl
 | cons y r ih =>
  simp only [List.mem_cons,not_or] at h
  simp only [prM,List.map_cons,Kk,h.1,if_false,List.cons_append]
  congr 1
  exact ih h.2
def cmC (w r:Dfn) (b:Nat):List D:=[.str w.name,Kf w.msgs,.str w.start,.str r.name,Kf r.msgs,.str r.start,.map b]
structure CmT (w r:Dfn) (x b:Nat) (T:Prs→St):Prop where
 cx:∀ p,T p x=some (.cells (cmC w r b))
 cb:∀ p,T p b=some (.map (prE p))
 u:∀ p p',(T p).upd b (.map (prE p'))=T p'
 d:∀ p p' c,T p c=none→T p' c=none
theorem CmT.disj {w r:Dfn} {x b:Nat} {T:Prs→St} (h:CmT w r x b T) {a:St} {p p':Prs} (hd:Wt a (T p)):Wt a (T p'):=fun c o hc=>by
 cases hp:T p c with
 | some o'=>exact hd c _ hp
 | none=>rw [h.d p p' c hp] at hc; simp at hc
theorem CmT.gx {w r:Dfn} {x b:Nat} {T:Prs→St} (h:CmT w r x b T) {a:St} {p:Prs} (hd:Wt a (T p)):(a.or (T p)) x=some (.cells (cmC w r b)):=by
 rw [Yr (hd x _ (h.cx p)),h.cx]
theorem CmT.gb {w r:Dfn} {x b:Nat} {T:Prs→St} (h:CmT w r x b T) {a:St} {p:Prs} (hd:Wt a (T p)):(a.or (T p)) b=some (.map (prE p)):=by
 rw [Yr (hd b _ (h.cb p)),h.cb]
theorem CmT.ub {w r:Dfn} {x b:Nat} {T:Prs→St} (h:CmT w r x b T) {a:St} {p p':Prs} (hd:Wt a (T p)):(a.or (T p)).upd b (.map (prE p'))=a.or (T p'):=by
 funext c
 have hab:=hd b _ (h.cb p)
 by_cases hc:c=b
 ·subst hc
  rw [St.upd_same,Yr hab,h.cb]
 ·rw [St.upd_ne _ _ hc]
  cases ha:a c with
  | some o=>rw [Ya ha,Ya ha]
  | none=>rw [Yr ha,Yr ha,← h.u p p',St.upd_ne _ _ hc]
def AtL (args:Nat→List D) (j:Nat) (l:List Dif):Prop:=∀ i,i < l.length→args (j + i)=[.agg (l.getD i default).cells]
theorem AtL.head {args:Nat→List D} {j:Nat} {x:Dif} {l:List Dif} (h:AtL args j (x :: l)):args j=[.agg x.cells]:=by simpa using h 0 (by simp)
theorem AtL.left {args:Nat→List D} {j:Nat} {l l':List Dif} (h:AtL args j (l++l')):AtL args j l:=fun i hi=>by
 rw [h i (by rw [List.length_append]; omega)]
 simp [List.getD,List.getElem?_append_left hi]
theorem AtL.right {args:Nat→List D} {j:Nat} {l l':List Dif} (h:AtL args j (l++l')):AtL args (j + l.length) l':=fun i hi=>by
 have:=h (l.length + i) (by rw [List.length_append]; omega)
 rw [show j + l.length + i=j + (l.length + i) by omega,this]
 simp [List.getD,List.getElem?_append_right]
theorem AtL.tail {args:Nat→List D} {j:Nat} {x:Dif} {l:List Dif} (h:AtL args j (x :: l)):AtL args (j + 1) l:=(show AtL args j ([x]++l) from h).right
inductive ZmN (go:Nat→Oc) (A:Nat→St→Prop) (T:Prs→St) (j:Nat) (p:Prs):Res→St→Prop where
 | all (a:St) (h:∀ i,i < j→go i = .next) (ha:A j a) (hd:Wt a (T p)):ZmN go A T j p (.ret (.bool true)) (a.or (T p))
 | stop (m:Nat) (c:Code) (a S:St) (hm:m < j) (h:∀ i,i < m→go i = .next) (hc:go m = .stop c) (ha:A (m + 1) a) (hs:a.sub S):ZmN go A T j p (.ret (.bool false)) S
 | pan (m:Nat) (d:D) (a S:St) (hm:m < j) (h:∀ i,i < m→go i = .next) (hc:go m = .pan d) (ha:A (m + 1) a) (hs:a.sub S):ZmN go A T j p (.panic d) S
theorem Zgr (sep:Str):joinL [] sep=[]:=rfl
theorem ZiT (path:List Str) (n:Str) (h:∀ s∈path,s≠[]):joinL (path++[n]) [46]=ZaS (joinL path [46]) n:=by
 have key:∀ (l:List Str) (x:Str),joinL ((x :: l)++[n]) [46]=joinL (x :: l) [46]++[46]++n:=by
  intro l
  induction l with
  | nil=>intro x; simp [joinL,List.intercalate,List.intersperse]
  | cons y r ih =>
   intro x
   have h1:=ih y
   have h2:∀ z:List Str,joinL (x :: y :: z) [46]=x++([46]++joinL (y :: z) [46]):=fun z=>by simp [joinL,List.intercalate,List.intersperse]
   rw [List.cons_append,List.cons_append,h2,← List.cons_append,h1,h2]
   simp
 cases path with
 | nil=>simp [joinL,ZaS,List.intercalate,List.intersperse]
 | cons x r =>
  rw [key]
  unfold ZaS
  have:joinL (x :: r) [46]≠[]:=by
   have hx:=h x (by simp)
   cases r with
   | nil=>simpa [joinL,List.intercalate,List.intersperse] using hx
   | cons y r=>intro e; apply hx; simp [joinL,List.intercalate,List.intersperse] at e
  rw [if_neg this]
theorem ZjZ {s:Str} (h:K7 s=true):s≠[]:=by
 rintro rfl; simp [K7] at h
end Go.DL
namespace Go.DL
open Go Go.Proofs
theorem Zm7 (d:Dfn) (s:Str):ZQ (fun x=>decide (x.name=s)) d.msgs=ZK d s d.msgs.length:=by unfold ZK; rw [List.take_length]
theorem Zj3 {path:List Str} (h:∀ s∈path,s≠[]∧s.length≤32):(joinL path [46]).length≤33 * path.length:=by
 induction path with
 | nil=>simp [joinL,List.intercalate,List.intersperse]
 | cons x r ih =>
  have h1:=(h x (by simp)).2
  have h2:=ih fun s hs=>h s (by simp [hs])
  cases r with
  | nil=>simp [joinL,List.intercalate,List.intersperse]; omega
  | cons z r =>
   have h3:joinL (x :: z :: r) [46]=x++([46]++joinL (z :: r) [46]):=by simp [joinL,List.intercalate,List.intersperse]
   rw [h3]; simp only [List.length_append,List.length_cons,List.length_nil] at h2 ⊢; omega
def ZiH (path:List Str):Prop:=∀ s∈path,s≠[]∧s.length≤32
theorem Znj {P:Program} {f:FuncId} {args:List D} {s s':St} {Φ:Res→St→Prop} (hs:s.sub s') (h:ZY P f args s Φ):ZY P f args s' Φ :=
 ⟨h.1,fun g w vs hst ha=>h.2 g w vs (hst.sub hs) ha⟩
theorem KF.name_ne {d:Dfn} (h:KF d) {s:Str} (hs:0≤ZK d s d.msgs.length):s≠[]:=by
 have h1:=Zim hs
 have h2:=(KW d s).2
 have h3:=h.flaw (ZK d s d.msgs.length).toNat (by omega)
 unfold Qd at h3
 split at h3
 ·simp at h3
 ·rename_i hn
  rw [h1] at hn
  exact ZjZ (by simpa using hn)
theorem ZiH.snoc {path:List Str} (h:ZiH path) {n:Str} (h1:n≠[]) (h2:n.length≤32):ZiH (path++[n]):=fun s hs=>by
 rcases List.mem_append.1 hs with hs | hs
 ·exact h s hs
 ·simp at hs; subst hs; exact ⟨h1,h2⟩
theorem ZfR {w r:Dfn} (hw:KF w) (hr:KF r) {x b:Nat} {T:Prs→St} (hT:CmT w r x b T) {y:D} {n:Nat} {args:Nat→List D} {go:Nat→Oc} {A:Nat→St→Prop} (hcons:Zcd Tryz.prog y n args go A) :
  ∀ (fu:Nat) (na nb:Str) (path:List Str) (p:Prs) (j:Nat) (a0:St),ZK w na w.msgs.length < fu→0≤ZK w na w.msgs.length→0≤ZK r nb r.msgs.length→ZiH path→path.length + 2 * fu≤1000→JA w.msgs.length r.msgs.length p →
  A j a0→Wt a0 (T p)→(∀ i,i < j→go i = .next)→AtL args j (YE w r fu p na nb (joinL path [46])).2→j + (YE w r fu p na nb (joinL path [46])).2.length≤n →
  ZY Tryz.prog Zd.id [.ptr x 0,.str na,.str nb,slD 1 Qg path,y] (a0.or (T p)) (ZmN go A T (j + (YE w r fu p na nb (joinL path [46])).2.length) (YE w r fu p na nb (joinL path [46])).1):=by
 intro fu
 induction fu with
 | zero=>intro na nb path p j a0 h0 h1; omega
 | succ fu ih =>
  intro na nb path p j a0 hin hi0 hk0 hpath hpl hp hA hd hno hat hjn
  have hmw:=hw.many
  have hmr:=hr.many
  have hil:=(KW w na).2
  have hkl:=(KW r nb).2
  have hM:YE w r (fu + 1) p na nb (joinL path [46])=_:=YE.eq_2 _ _ _ _ _ _ _
  refine ZP Zd.ok fun F hF=>?_
  have gx:∀ {a:St} {p:Prs},Wt a (T p)→(a.or (T p)) x=some (.cells (cmC w r b)):=hT.gx
  have gb:∀ {a:St} {p:Prs},Wt a (T p)→(a.or (T p)) b=some (.map (prE p)):=hT.gb
  have hfi:=ZeE w na
  have hfk:=ZeE r nb
  rw [Zm7] at hfi hfk
  generalize hgi:ZK w na w.msgs.length=gi at *
  generalize hgk:ZK r nb r.msgs.length=gk at *
  rw [show max gi 0=gi by omega,decide_eq_true hi0] at hfi
  rw [show max gk 0=gk by omega,decide_eq_true hk0] at hfk
  have e1:=KK (vD:=D.bool) ZjD (gi,gk) (prM p)
  have e3:=Qh ZjD (gi,gk)
  simp only [show prK (gi,gk)=D.agg [.int .i64 gi,.int .i64 gk] from rfl] at e1 e3
  have hgm:=ZpJ (gi,gk) p
  generalize YE w r (fu + 1) p na nb (joinL path [46])=M at *
  refine Za (Zb (Zc ?_))
  simp only [Eqs,reduceCtorEq,reduceIte,Nat.reduceEqDiff,Nat.reduceAdd,Zd.r0]
  refine ZiY (Za (Zb (Zc ?_)))
  simp only [Eqs,reduceCtorEq,reduceIte,Nat.reduceEqDiff,Nat.reduceAdd,Nat.reduceLeDiff,Zd.r1,gx hd,cmC]
  rw [show (D.agg [.str w.name,Kf w.msgs,.str w.start]) = .agg w.cells from rfl]
  refine YS rfl rfl rfl rfl rfl (by trivial) (by trivial) (by exact hfi) (Zc ?_)
  simp only [Eqs,reduceCtorEq,reduceIte,Nat.reduceEqDiff]
  refine Za (Zb (Zc ?_))
  simp only [Eqs,reduceCtorEq,reduceIte,Nat.reduceEqDiff,Nat.reduceAdd,Nat.reduceLeDiff,Zd.r2,gx hd,cmC]
  rw [show (D.agg [.str r.name,Kf r.msgs,.str r.start]) = .agg r.cells from rfl]
  refine YS rfl rfl rfl rfl rfl (by trivial) (by trivial) (by exact hfk) (Zc ?_)
  simp only [Eqs,reduceCtorEq,reduceIte,Nat.reduceEqDiff]
  refine Za (Za (Zb (Zc ?_)))
  simp only [Eqs,reduceCtorEq,reduceIte,Nat.reduceEqDiff,Nat.reduceAdd,Nat.reduceLeDiff,Zd.r3,gx hd,gb hd,cmC,prE,e1,-Ke,Zfl,hgm]
  refine Zg rfl trivial (fun h1=>?_) (fun h1=>?_)
  ·have h1':(gi,gk)∈p:=by simpa using h1
   rw [if_pos h1'] at hM
   refine Za (Zb (Zc ?_))
   simp only [Eqs,reduceCtorEq,reduceIte,Nat.reduceEqDiff,Zd.r4]
   refine hF.ret (.bool true) _ rfl (by trivial) (D.Le.refl _) (St.sub_refl _) ?_
   rw [hM]
   exact .all a0 hno hA hd
  ·have h1':(gi,gk) ∉ p:=by simpa using h1
   rw [if_neg h1'] at hM
   have hp1:JA w.msgs.length r.msgs.length (p++[(gi,gk)]):=by
    subst hgi; subst hgk; exact hp.snoc h1'
   have e2:=Zby (vD:=D.bool) ZjD (gi,gk) true (prM p)
   rw [Zqb h1'] at e2
   simp only [show prK (gi,gk)=D.agg [.int .i64 gi,.int .i64 gk] from rfl] at e2
   have hgi':gi.toNat < w.msgs.length:=by omega
   have hgk':gk.toNat < r.msgs.length:=by omega
   have hmo:=hw.msg hgi'
   have hmo':=hr.msg hgk'
   have hfo:=fun i hi=>hw.fld (i:=i) hgi' hi
   have hru:=fun i hi=>hw.rule (i:=i) hgi' hi
   have hnc:=fun i hi=>hw.ncases (i:=i) hgi' hi
   have hfo':=fun i hi=>hr.fld (i:=i) hgk' hi
   have hru':=fun i hi=>hr.rule (i:=i) hgk' hi
   have hfnn:∀ i,i < (w.msgs.getD gi.toNat default).fields.length→∀ f,(w.msgs.getD gi.toNat default).fields.getD i default=f→f.name≠[]:=fun i hi f e=>by
    have:=hmo.field i hi
    rw [e] at this
    unfold Qv at this
    split at this
    ·omega
    ·rename_i h; exact ZjZ (by simpa using h)
   generalize hm:w.msgs.getD gi.toNat default=m at *
   generalize hm':r.msgs.getD gk.toNat default=m' at *
   have hmf:=hmo.many
   have hmf':=hmo'.many
   refine Zq (Za (Zb (Zc ?_)))
   simp only [Eqs,reduceCtorEq,reduceIte,Nat.reduceEqDiff,Nat.reduceAdd,Nat.reduceLeDiff,Zd.r5,gx hd,gb hd,cmC,prE,e2]
   have hub:=hT.ub (p':=p++[(gi,gk)]) hd
   unfold prE at hub
   rw [hub]
   clear hub e1 e2 e3
   have hd:=hT.disj (p':=p++[(gi,gk)]) hd
   generalize hp1e:p++[(gi,gk)]=p1 at *
   refine Za (Wy (ZO ?_))
   simp only [Eqs,reduceCtorEq,reduceIte,Nat.reduceEqDiff,Nat.reduceAdd,Nat.reduceLeDiff,Zd.r6,gx hd,cmC,Msg.cells,Kf,slD,hm,hm']
   repeat (refine And.intro (by first | omega | trivial | (intro h0; simp at h0; omega)) ?_)
   have hjl:=Zj3 hpath
   refine Za (Za (Zb (Zc ?_)))
   simp only [Eqs,reduceCtorEq,reduceIte,Nat.reduceEqDiff,Zd.r7,Wl,slD]
   have hz:=@List.length_zip _ _ m.fields m'.fields
   generalize hjE:j + M.2.length=jE at *
   generalize hpE:M.1=pE at *
   have jn:∀ j1 a1,A j1 a1→Wt a1 (T p1)→(∀ i,i < j1→go i = .next)→AtL args j1 (Wg (YE w r fu) m (joinL path [46]) p1 ((m.fields.zip m'.fields).drop 0)).2→j1 + (Wg (YE w r fu) m (joinL path [46]) p1 ((m.fields.zip m'.fields).drop 0)).2.length=jE→(Wg (YE w r fu) m (joinL path [46]) p1 ((m.fields.zip m'.fields).drop 0)).1=pE→ZU F [.code (.seq (.label 0) (.seq (.seq (qR Zd.r9 [0,3,4,15,16,94,95]) (.block 0 (.loop Zd.l0))) (.seq (qR Zd.r30 [10]) .ret))),.inScope (.seq (qR Zd.r1 [0,2,3,4,11]) (.seq (qR Zd.r2 [0,3,4,11,13]) (.seq (.seq (qR Zd.r3 [0,3,4,11,13,49]) (qC 49 (.seq (qR Zd.r4 [10]) .ret) .skip)) (.seq (qR Zd.r5 [0,3,4,11,13]) (.seq (.regD [0,1,2,3,4,5,6,7,8,9,10,11,12,13,14,15,16,17,18,19] Zd.r6 (some [0,3,4,15,16])) (.seq (.seq (qR Zd.r7 [0,3,4,15,16,87]) (qC 87 (.seq (qR Zd.r8 [10]) .ret) .skip)) (.seq (.label 0) (.seq (.seq (qR Zd.r9 [0,3,4,15,16,94,95]) (.block 0 (.loop Zd.l0))) (.seq (qR Zd.r30 [10]) .ret)))))))))] [(0,.d (.ptr x 0)),(3,.d (slD 1 Qg path)),(4,.d y),(15,.loc 15 0),(16,.loc 16 0)] [(15,m.cells),(16,m'.cells)] (a1.or (T p1)):=by
    clear hat hM hA hd hno hjE hpE
    intro j1 a1 hA hd hno hat hjE hpE
    refine Za (ZiP (Za (Za (Zb (Zc ?_)))))
    simp only [Eqs,reduceCtorEq,reduceIte,Nat.reduceEqDiff,Zd.r9,Msg.cells,Wl,slD]
    refine Zo (YH ?_)
    have key:∀ (n i:Nat),((min m.fields.length m'.fields.length)) - i=n→∀ p2 j2 a2,A j2 a2→Wt a2 (T p2)→JA w.msgs.length r.msgs.length p2→(∀ i,i < j2→go i = .next)→AtL args j2 (Wg (YE w r fu) m (joinL path [46]) p2 ((m.fields.zip m'.fields).drop i)).2→j2 + (Wg (YE w r fu) m (joinL path [46]) p2 ((m.fields.zip m'.fields).drop i)).2.length=jE→(Wg (YE w r fu) m (joinL path [46]) p2 ((m.fields.zip m'.fields).drop i)).1=pE→i≤min m.fields.length m'.fields.length→ZU F [.code (Zd.l0),.inLoop Zd.l0,.inBlock 0,.code (.seq (qR Zd.r30 [10]) .ret),.inScope (.seq (qR Zd.r1 [0,2,3,4,11]) (.seq (qR Zd.r2 [0,3,4,11,13]) (.seq (.seq (qR Zd.r3 [0,3,4,11,13,49]) (qC 49 (.seq (qR Zd.r4 [10]) .ret) .skip)) (.seq (qR Zd.r5 [0,3,4,11,13]) (.seq (.regD [0,1,2,3,4,5,6,7,8,9,10,11,12,13,14,15,16,17,18,19] Zd.r6 (some [0,3,4,15,16])) (.seq (.seq (qR Zd.r7 [0,3,4,15,16,87]) (qC 87 (.seq (qR Zd.r8 [10]) .ret) .skip)) (.seq (.label 0) (.seq (.seq (qR Zd.r9 [0,3,4,15,16,94,95]) (.block 0 (.loop Zd.l0))) (.seq (qR Zd.r30 [10]) .ret)))))))))] [(0,.d (.ptr x 0)),(3,.d (slD 1 Qg path)),(4,.d y),(15,.loc 15 0),(16,.loc 16 0),(94,.d (.int .i64 (min (m.fields.length:Int) m'.fields.length))),(95,.d (.int .i64 i))] [(15,m.cells),(16,m'.cells)] (a2.or (T p2)):=by
     intro n
     induction n using Nat.strongRecOn with
     | ind n ih_key =>
     clear hA hd hno hat hjE hpE hp1
     intro i hni p2 j2 a2 hA hd hp2 hno hat hjE hpE hi
     refine Za (Zb (Zc ?_))
     simp only [Eqs,reduceCtorEq,reduceIte,Nat.reduceEqDiff,Zd.r10]
     refine Za (Zg rfl trivial (fun h4=>?_) (fun h4=>?_))
     ·rw [decide_eq_true_eq] at h4
      have h4:i < m.fields.length∧i < m'.fields.length:=by omega
      have hzl:i < (m.fields.zip m'.fields).length:=by rw [hz]; omega
      rw [J4 hzl,Zfk h4.1 h4.2] at hat hjE hpE
      simp only [Wg,JS] at hat hjE hpE
      have hff:=hfo i h4.1
      have hrf:=hru i h4.1
      have hncf:=hnc i h4.1
      have hfg:=hfo' i h4.2
      have hrg:=hru' i h4.2
      generalize hf:m.fields.getD i default=f at *
      generalize hg:m'.fields.getD i default=g at *
      refine Zq (Za (Zo (Za (Zb (Zc ?_)))))
      simp only [Eqs,reduceCtorEq,reduceIte,Nat.reduceEqDiff,Zd.r11]
      refine Za (KU (Kz ?_))
      simp only [Eqs,reduceCtorEq,reduceIte,Nat.reduceEqDiff,Nat.reduceAdd,Nat.reduceLeDiff,Zd.r12,Msg.cells,Fld.cells,Wl,slD,hf,hg]
      repeat (refine And.intro (by first | omega | trivial | (intro h0; simp at h0; omega)) ?_)
      have hfn:=hff.name
      have hnn:f.name≠[]:=hfnn i h4.1 f hf
      have hW:=Jp.eq_1 (YE w r fu) m (joinL path [46]) p2 f g
      rw [← ZiT path f.name (fun s hs=>(hpath s hs).1)] at hW
      have hpath2:=hpath.snoc hnn hfn
      generalize Jp (YE w r fu) m (joinL path [46]) p2 f g=W at *
      refine Za (KU (Kz ?_))
      simp only [Eqs,reduceCtorEq,reduceIte,Nat.reduceEqDiff,Zd.r13]
      refine ⟨by omega,by omega,by omega,?_⟩
      refine ZoG ((a2.or (T p2))) (.full) rfl rfl rfl rfl rfl rfl (by trivial) (by trivial) rfl (by first | trivial | assumption) (by omega) (by (unfold big; omega)) fun t1 ht1=>Kz ?_
      simp only [Eqs,reduceCtorEq,reduceIte,Nat.reduceEqDiff]
      refine Za (Za ?_)
      refine Qy (s':=(a2.or (T p2))) (by first | exact St.sub_refl _ | exact ZM (by first | trivial | assumption) | exact St.sub_trans (ZM (by first | trivial | assumption)) (ZM (by first | trivial | assumption)) | assumption) (ZaT (ρ':=[(0,.d (.ptr x 0)),(3,.d (slD 1 Qg path)),(4,.d y),(15,.loc 15 0),(16,.loc 16 0),(18,.loc 18 0),(19,.d (slD 1 Qg (path++[f.name]))),(94,.d (.int .i64 (min (m.fields.length:Int) m'.fields.length))),(95,.d (.int .i64 i))]) (L':=[(15,m.cells),(16,m'.cells),(18,KG m f g)]) ?_ ?_ ?_)
      ·exact .skip (.skip (.skip (.skip (.skip (.skip (.cons (.d (We.le ((We.self (f:=Qg) (l:=path)).snoc (x:=f.name) rfl rfl) (by simp))) (.skip (.skip .nil))))))))
      ·exact ZdB _
      clear ht1
      have hatl:(path++[f.name]).length=path.length + 1:=by simp
      generalize path++[f.name]=at_ at *
      have hjat:=Zj3 hpath2
      refine Zb (Zc ?_)
      simp only [Eqs,Zd.r14]
      refine YS rfl rfl rfl rfl rfl (by trivial) (by trivial) (by exact Zij) (Zc ?_)
      simp only [Eqs,reduceCtorEq,reduceIte,Nat.reduceEqDiff,ZiO,slD]
      refine Zo (YH ?_)
      have key2:∀ (n q:Nat),(9) - q=n→(∀ i,i < q→JR m f g i=true)→q≤9→ZU F [.code (Zd.l1),.inLoop Zd.l1,.inBlock 2,.code (.seq (.seq (qR Zd.r21 [0,3,4,15,16,18,19,94,95,154]) (qC 154 (.seq (qR Zd.r22 [10]) .ret) .skip)) (.seq (qR Zd.r23 [0,3,4,15,16,19,94,95,157,158,159]) (.block 4 (.loop Zd.l2)))),.inBlock 1,.code (qR Zd.r29 [0,3,4,15,16,94,95]),.inLoop Zd.l0,.inBlock 0,.code (.seq (qR Zd.r30 [10]) .ret),.inScope (.seq (qR Zd.r1 [0,2,3,4,11]) (.seq (qR Zd.r2 [0,3,4,11,13]) (.seq (.seq (qR Zd.r3 [0,3,4,11,13,49]) (qC 49 (.seq (qR Zd.r4 [10]) .ret) .skip)) (.seq (qR Zd.r5 [0,3,4,11,13]) (.seq (.regD [0,1,2,3,4,5,6,7,8,9,10,11,12,13,14,15,16,17,18,19] Zd.r6 (some [0,3,4,15,16])) (.seq (.seq (qR Zd.r7 [0,3,4,15,16,87]) (qC 87 (.seq (qR Zd.r8 [10]) .ret) .skip)) (.seq (.label 0) (.seq (.seq (qR Zd.r9 [0,3,4,15,16,94,95]) (.block 0 (.loop Zd.l0))) (.seq (qR Zd.r30 [10]) .ret)))))))))] [(0,.d (.ptr x 0)),(3,.d (slD 1 Qg path)),(4,.d y),(15,.loc 15 0),(16,.loc 16 0),(18,.loc 18 0),(19,.d (slD 1 Qg at_)),(94,.d (.int .i64 (min (m.fields.length:Int) m'.fields.length))),(95,.d (.int .i64 i)),(121,.d ZiO),(122,.d (.int .i64 9)),(123,.d (.int .i64 q))] [(15,m.cells),(16,m'.cells),(18,KG m f g)] (a2.or (T p2)):=by
       intro n
       induction n using Nat.strongRecOn with
       | ind n ih_key2 =>
       intro q hnq hq hql
       refine Za (Zb (Zc ?_))
       simp only [Eqs,reduceCtorEq,reduceIte,Nat.reduceEqDiff,Zd.r15]
       refine Za (Zg rfl trivial (fun h5=>?_) (fun h5=>?_))
       ·rw [decide_eq_true_eq] at h5
        have h5:q < 9:=by omega
        have hrow:(fun i=>Znz (ZaZ.getD i default)) q=[.int .i64 (ZaZ.getD q default).1,.fn (.func (ZaZ.getD q default).2) [] []]:=rfl
        have hlen9:ZaZ.length=9:=rfl
        have hcode:(ZaZ.getD q default).1=3 + q:=by
         match q,h5 with
         | 0,_ | 1,_ | 2,_ | 3,_ | 4,_ | 5,_ | 6,_ | 7,_ | 8,_=>rfl
         | n + 9,h=>omega
        have hvt:=Zp0 m f g hrg.srt hrf.le q h5 (a2.or (T p2))
        refine Zq (Za (Zo (Za (Zb (Zc ?_)))))
        simp only [Eqs,reduceCtorEq,reduceIte,Nat.reduceEqDiff,Nat.reduceAdd,Nat.reduceLeDiff,Zd.r16,ZiO,slD,hlen9,Znz]
        refine ⟨by omega,?_⟩
        refine ⟨by exact_mod_cast h5,?_⟩
        generalize (ZaZ.getD q default).1=code at *
        generalize (ZaZ.getD q default).2=fid at *
        refine Za (Za (Zb (Zc ?_)))
        simp only [Eqs,reduceCtorEq,reduceIte,Nat.reduceEqDiff,Nat.reduceAdd,Nat.reduceLeDiff,Zd.r17,KG,Msg.cells,Fld.cells]
        rw [Zk0]
        refine ZaR rfl rfl rfl rfl rfl (by trivial) (by trivial) (by exact hvt) (Zc ?_)
        simp only [Eqs,reduceCtorEq,reduceIte,Nat.reduceEqDiff]
        refine Zg rfl trivial (fun h6=>?_) (fun h6=>?_)
        ·refine Ys rfl (Zb (Zc ?_))
         simp only [Eqs,reduceCtorEq,reduceIte,Nat.reduceEqDiff,Zd.r20]
         repeat (refine And.intro (by first | omega | trivial | (intro h0; simp at h0; omega)) ?_)
         refine Z3 ?_
         exact ih_key2 ((9) - (q + 1)) (by omega) (q + 1) rfl (KD (q:=fun i=>JR m f g i=true) hq h6) (by omega)
        ·have hdf:=Zop hrf.high hrg.high h5 hq h6
         rw [if_pos (by omega),hdf] at hW
         rw [hW] at hat hjE hpE
         subst hcode
         simp only [List.cons_append,List.nil_append,List.length_cons] at hat hjE hpE
         have hcall:=(hcons j2 (by omega) hno a2 hA).frame hd
         rw [hat.head] at hcall
         refine Zq (Za (Za (Wy (ZO ?_))))
         simp only [Eqs,reduceCtorEq,reduceIte,Nat.reduceEqDiff,Zd.r18]
         refine Kp rfl rfl rfl rfl rfl (by trivial) (by trivial) (by exact ZdU at_ (by omega) (by omega)) (ZO ?_)
         simp only [Eqs,reduceCtorEq,reduceIte,Nat.reduceEqDiff,Nat.reduceAdd,Nat.reduceLeDiff]
         refine ZdW rfl rfl rfl rfl rfl (by trivial) (by trivial) (by exact hcall) ?_ ?_
         ·rintro dv S ⟨s',⟨hrr,hA'⟩,hd',rfl⟩
          cases hgo:go j2 with
          | next =>
           rw [hgo] at hrr
           cases hrr
           refine ⟨by trivial,?_⟩
           refine ZO ?_
           simp only [Eqs,reduceCtorEq,reduceIte,Nat.reduceEqDiff]
           refine Zg rfl trivial (fun h=>by simp at h) (fun _=>?_)
           refine Zq (Ys rfl (Zb (Zc ?_)))
           simp only [Eqs,reduceCtorEq,reduceIte,Nat.reduceEqDiff,Zd.r29]
           repeat (refine And.intro (by first | omega | trivial | (intro h0; simp at h0; omega)) ?_)
           refine Z3 ?_
           exact ih_key (((min m.fields.length m'.fields.length)) - (i + 1)) (by omega) (i + 1) rfl p2 (j2 + 1) s' hA' hd' hp2 (KD (q:=fun i=>go i = .next) hno hgo) hat.tail (by omega) hpE (by omega)
          | stop c =>
           rw [hgo] at hrr
           cases hrr
           refine ⟨by trivial,?_⟩
           refine ZO ?_
           simp only [Eqs,reduceCtorEq,reduceIte,Nat.reduceEqDiff]
           refine Zg rfl trivial (fun _=>?_) (fun h=>by simp at h)
           refine Za (Zb (Zc ?_))
           simp only [Eqs,reduceCtorEq,reduceIte,Nat.reduceEqDiff,Zd.r19]
           exact hF.ret (.bool false) _ rfl (by trivial) (D.Le.refl _) (St.sub_refl _) (.stop j2 c s' _ (by omega) hno hgo hA' (Qi _ _))
          | pan d=>rw [hgo] at hrr; cases hrr
         ·rintro dv S ⟨s',⟨hrr,hA'⟩,hd',rfl⟩
          cases hgo:go j2 with
          | pan d' =>
           rw [hgo] at hrr
           cases hrr
           exact hF.pan _ (St.sub_refl _) (.pan j2 dv s' _ (by omega) hno hgo hA' (Qi _ _))
          | next=>rw [hgo] at hrr; cases hrr
          | stop c=>rw [hgo] at hrr; cases hrr
       ·rw [decide_eq_false_iff_not] at h5
        obtain rfl:q=9:=by omega
        have hdf:=Zl1 hrf.high hrg.high hq
        have hdo:=ZmJ hdf
        rw [if_neg (by omega)] at hW
        refine Ys rfl (Za (Za (Zb (Zc ?_))))
        simp only [Eqs,reduceCtorEq,reduceIte,Nat.reduceEqDiff,Nat.reduceAdd,Nat.reduceLeDiff,Zd.r21,KG,Msg.cells,Fld.cells]
        rw [Zk0]
        refine YF rfl rfl rfl rfl rfl (by trivial) (by trivial) (by exact Zb8 m f g _) (Zc ?_)
        simp only [Eqs,reduceCtorEq,reduceIte,Nat.reduceEqDiff,Nat.reduceAdd]
        have jn2:∀ p3 j3 a3,A j3 a3→Wt a3 (T p3)→JA w.msgs.length r.msgs.length p3→(∀ i,i < j3→go i = .next)→AtL args j3 ((W2 (YE w r fu) (joinL at_ [46]) p3 f.cases).2++(Wg (YE w r fu) m (joinL path [46]) (W2 (YE w r fu) (joinL at_ [46]) p3 f.cases).1 (List.drop (i + 1) (m.fields.zip m'.fields))).2)→j3 + ((W2 (YE w r fu) (joinL at_ [46]) p3 f.cases).2++(Wg (YE w r fu) m (joinL path [46]) (W2 (YE w r fu) (joinL at_ [46]) p3 f.cases).1 (List.drop (i + 1) (m.fields.zip m'.fields))).2).length=jE→(Wg (YE w r fu) m (joinL path [46]) (W2 (YE w r fu) (joinL at_ [46]) p3 f.cases).1 (List.drop (i + 1) (m.fields.zip m'.fields))).1=pE→ZU F [.code (.seq (qR Zd.r23 [0,3,4,15,16,19,94,95,157,158,159]) (.block 4 (.loop Zd.l2))),.inBlock 1,.code (qR Zd.r29 [0,3,4,15,16,94,95]),.inLoop Zd.l0,.inBlock 0,.code (.seq (qR Zd.r30 [10]) .ret),.inScope (.seq (qR Zd.r1 [0,2,3,4,11]) (.seq (qR Zd.r2 [0,3,4,11,13]) (.seq (.seq (qR Zd.r3 [0,3,4,11,13,49]) (qC 49 (.seq (qR Zd.r4 [10]) .ret) .skip)) (.seq (qR Zd.r5 [0,3,4,11,13]) (.seq (.regD [0,1,2,3,4,5,6,7,8,9,10,11,12,13,14,15,16,17,18,19] Zd.r6 (some [0,3,4,15,16])) (.seq (.seq (qR Zd.r7 [0,3,4,15,16,87]) (qC 87 (.seq (qR Zd.r8 [10]) .ret) .skip)) (.seq (.label 0) (.seq (.seq (qR Zd.r9 [0,3,4,15,16,94,95]) (.block 0 (.loop Zd.l0))) (.seq (qR Zd.r30 [10]) .ret)))))))))] [(0,.d (.ptr x 0)),(3,.d (slD 1 Qg path)),(4,.d y),(15,.loc 15 0),(16,.loc 16 0),(18,.loc 18 0),(19,.d (slD 1 Qg at_)),(94,.d (.int .i64 (min (m.fields.length:Int) m'.fields.length))),(95,.d (.int .i64 i))] [(15,m.cells),(16,m'.cells),(18,KG m f g)] (a3.or (T p3)):=by
         clear hA hd hp2 hno hat hjE hpE hW
         clear hdf hq
         intro p3 j3 a3 hA hd hp3 hno hat hjE hpE
         refine Za (Zb (Zc ?_))
         simp only [Eqs,reduceCtorEq,reduceIte,Nat.reduceEqDiff,Nat.reduceAdd,Zd.r23,KG,Msg.cells,Fld.cells,Kx,slD]
         refine Qy (s':=(a3.or (T p3))) (by first | exact St.sub_refl _ | exact ZM (by first | trivial | assumption) | exact St.sub_trans (ZM (by first | trivial | assumption)) (ZM (by first | trivial | assumption)) | assumption) (ZaT (ρ':=[(0,.d (.ptr x 0)),(3,.d (slD 1 Qg path)),(4,.d y),(15,.loc 15 0),(16,.loc 16 0),(19,.d (slD 1 Qg at_)),(94,.d (.int .i64 (min (m.fields.length:Int) m'.fields.length))),(95,.d (.int .i64 i)),(157,.d (Kx f.cases)),(158,.d (.int .i64 f.cases.length)),(159,.d (.int .i64 (0:Nat)))]) (L':=[(15,m.cells),(16,m'.cells)]) ?_ ?_ ?_)
         ·exact Zcf _
         ·exact ZdB _
         refine Zo (YH ?_)
         have key3:∀ (n q:Nat),(f.cases.length) - q=n→∀ p4 j4 a4,A j4 a4→Wt a4 (T p4)→JA w.msgs.length r.msgs.length p4→(∀ i,i < j4→go i = .next)→AtL args j4 ((W2 (YE w r fu) (joinL at_ [46]) p4 (f.cases.drop q)).2++(Wg (YE w r fu) m (joinL path [46]) (W2 (YE w r fu) (joinL at_ [46]) p4 (f.cases.drop q)).1 (List.drop (i + 1) (m.fields.zip m'.fields))).2)→j4 + ((W2 (YE w r fu) (joinL at_ [46]) p4 (f.cases.drop q)).2++(Wg (YE w r fu) m (joinL path [46]) (W2 (YE w r fu) (joinL at_ [46]) p4 (f.cases.drop q)).1 (List.drop (i + 1) (m.fields.zip m'.fields))).2).length=jE→(Wg (YE w r fu) m (joinL path [46]) (W2 (YE w r fu) (joinL at_ [46]) p4 (f.cases.drop q)).1 (List.drop (i + 1) (m.fields.zip m'.fields))).1=pE→q≤f.cases.length→ZU F [.code (Zd.l2),.inLoop Zd.l2,.inBlock 4,.inBlock 1,.code (qR Zd.r29 [0,3,4,15,16,94,95]),.inLoop Zd.l0,.inBlock 0,.code (.seq (qR Zd.r30 [10]) .ret),.inScope (.seq (qR Zd.r1 [0,2,3,4,11]) (.seq (qR Zd.r2 [0,3,4,11,13]) (.seq (.seq (qR Zd.r3 [0,3,4,11,13,49]) (qC 49 (.seq (qR Zd.r4 [10]) .ret) .skip)) (.seq (qR Zd.r5 [0,3,4,11,13]) (.seq (.regD [0,1,2,3,4,5,6,7,8,9,10,11,12,13,14,15,16,17,18,19] Zd.r6 (some [0,3,4,15,16])) (.seq (.seq (qR Zd.r7 [0,3,4,15,16,87]) (qC 87 (.seq (qR Zd.r8 [10]) .ret) .skip)) (.seq (.label 0) (.seq (.seq (qR Zd.r9 [0,3,4,15,16,94,95]) (.block 0 (.loop Zd.l0))) (.seq (qR Zd.r30 [10]) .ret)))))))))] [(0,.d (.ptr x 0)),(3,.d (slD 1 Qg path)),(4,.d y),(15,.loc 15 0),(16,.loc 16 0),(19,.d (slD 1 Qg at_)),(94,.d (.int .i64 (min (m.fields.length:Int) m'.fields.length))),(95,.d (.int .i64 i)),(157,.d (Kx f.cases)),(158,.d (.int .i64 f.cases.length)),(159,.d (.int .i64 q))] [(15,m.cells),(16,m'.cells)] (a4.or (T p4)):=by
          intro n
          induction n using Nat.strongRecOn with
          | ind n ih_key3 =>
          clear hA hd hp3 hno hat hjE hpE
          intro q hnq p4 j4 a4 hA hd hp4 hno hat hjE hpE hq
          refine Za (Zb (Zc ?_))
          simp only [Eqs,reduceCtorEq,reduceIte,Nat.reduceEqDiff,Zd.r24]
          refine Za (Zg rfl trivial (fun h7=>?_) (fun h7=>?_))
          ·rw [decide_eq_true_eq] at h7
           have h7:q < f.cases.length:=by omega
           rw [J4 h7] at hat hjE hpE
           simp only [W2,JS] at hat hjE hpE
           have hcm:=KQ h7
           have hk9:=hff.cases (by intro e; rw [e] at h7; simp at h7)
           generalize hcs:f.cases.getD q default=cs at *
           obtain ⟨yc,hyc,hye⟩:=Zhw (hdo.2.2 cs hcm)
           have hz1:=hff.ref cs.of (ZeP hk9 hcm)
           have hz2:=hfg.ref cs.of (by rw [← hye]; exact ZeP (hdo.1 ▸ hk9) hyc)
           have hol:=hw.name_len hz1.1
           have hon:=hw.name_ne hz1.1
           have hadd:=ZcB hw.fields fu p4 cs.of cs.of (ZaS (joinL at_ [46]) cs.of) hp4
           have hpath3:=hpath2.snoc hon hol
           rw [← ZiT at_ cs.of (fun s hs=>(hpath2 s hs).1)] at hat hjE hpE hadd
           rw [List.append_assoc] at hat hjE
           have hrec:=ih cs.of cs.of (at_++[cs.of]) p4 j4 a4 (by omega) hz1.1 hz2.1 hpath3 (by simp; omega) hp4 hA hd hno hat.left (by simp only [List.length_append] at hjE; omega)
           generalize hY:YE w r fu p4 cs.of cs.of (joinL (at_++[cs.of]) [46])=Y at *
           refine Zq (Za (Zo (Za (Zb (Zc ?_)))))
           simp only [Eqs,reduceCtorEq,reduceIte,Nat.reduceEqDiff,Nat.reduceAdd,Nat.reduceLeDiff,Zd.r25,Kx,slD,Y9.cells,hcs]
           repeat (refine And.intro (by first | omega | trivial | (intro h0; simp at h0; omega)) ?_)
           refine Za (Wy (ZO ?_))
           simp only [Eqs,reduceCtorEq,reduceIte,Nat.reduceEqDiff,Zd.r26]
           refine ⟨by omega,by omega,by omega,?_⟩
           refine Zmo ((a4.or (T p4))) (.full) rfl rfl rfl rfl rfl rfl (by trivial) (by trivial) rfl (by first | trivial | assumption) (by omega) (by (unfold big; omega)) fun t1 ht1=>⟨by first | trivial | exact ⟨rfl,trivial⟩ | simp [Eqs,reduceCtorEq,Int.reduceToNat,reduceIte,Nat.reduceEqDiff,Nat.reduceAdd,Nat.reduceLeDiff],ZO ?_⟩
           simp only [Eqs]
           refine JP rfl rfl rfl rfl rfl (by trivial) (by trivial) (by exact (Znj (ZM ht1) (ZY.leA (.cons (D.Le.refl _) (.cons (D.Le.refl _) (.cons (D.Le.refl _) (.cons (We.le ((We.self (f:=Qg) (l:=at_)).snoc (x:=cs.of) rfl rfl) (by simp)) (.cons (D.Le.refl _) .nil))))) hrec))) ?_ ?_
           ·rintro dv S h
            cases h with
            | all a' hno' hA' hd' =>
             refine ⟨by trivial,?_⟩
             refine ZO ?_
             simp only [Eqs,reduceCtorEq,reduceIte,Nat.reduceEqDiff]
             refine Zg rfl trivial (fun h=>by simp at h) (fun _=>?_)
             refine Zq (ZC (Zb (Zc ?_)))
             simp only [Eqs,reduceCtorEq,reduceIte,Nat.reduceEqDiff,Zd.r28]
             repeat (refine And.intro (by first | omega | trivial | (intro h0; simp at h0; omega)) ?_)
             refine Z3 ?_
             exact ih_key3 ((f.cases.length) - (q + 1)) (by omega) (q + 1) rfl Y.1 (j4 + Y.2.length) a' hA' hd' hadd.ok hno' hat.right (by rw [List.length_append] at hjE; omega) hpE (by omega)
            | stop mm c a' _ hm hno' hc ha hs =>
             refine ⟨by trivial,?_⟩
             refine ZO ?_
             simp only [Eqs,reduceCtorEq,reduceIte,Nat.reduceEqDiff]
             refine Zg rfl trivial (fun _=>?_) (fun h=>by simp at h)
             refine Za (Zb (Zc ?_))
             simp only [Eqs,reduceCtorEq,reduceIte,Nat.reduceEqDiff,Zd.r27]
             exact hF.ret (.bool false) _ rfl (by trivial) (D.Le.refl _) (St.sub_refl _) (.stop mm c a' _ (by rw [List.length_append] at hjE; omega) hno' hc ha hs)
           ·rintro dv S h
            cases h with
            | pan mm _ a' _ hm hno' hc ha hs =>
             exact hF.pan _ (St.sub_refl _) (.pan mm dv a' _ (by rw [List.length_append] at hjE; omega) hno' hc ha hs)
          ·rw [decide_eq_false_iff_not] at h7
           obtain rfl:q=f.cases.length:=by omega
           rw [List.drop_length] at hat hjE hpE
           simp only [W2,List.nil_append] at hat hjE hpE
           refine Ys rfl (ZC (Zb (Zc ?_)))
           simp only [Eqs,reduceCtorEq,reduceIte,Nat.reduceEqDiff,Zd.r29]
           repeat (refine And.intro (by first | omega | trivial | (intro h0; simp at h0; omega)) ?_)
           refine Z3 ?_
           exact ih_key (((min m.fields.length m'.fields.length)) - (i + 1)) (by omega) (i + 1) rfl p4 j4 a4 hA hd hp4 hno hat hjE hpE (by omega)
         exact key3 _ 0 rfl p3 j3 a3 hA hd hp3 hno hat hjE hpE (by omega)
        rw [← Zh0] at hW
        by_cases hin:QI m f=true
        ·have hinS:Qa m f=true:=by rw [← Zh0]; exact hin
         have hz1:=hff.ref f.of (ZfH hinS)
         have hz2:=hfg.ref g.of (Znt hinS hdo.1)
         rw [if_pos hin] at hW
         have hadd:=ZcB hw.fields fu p2 f.of g.of (joinL at_ [46]) hp2
         have hW1:W.1=(W2 (YE w r fu) (joinL at_ [46]) (YE w r fu p2 f.of g.of (joinL at_ [46])).1 f.cases).1:=by rw [hW]; rfl
         have hW2:W.2=(YE w r fu p2 f.of g.of (joinL at_ [46])).2++(W2 (YE w r fu) (joinL at_ [46]) (YE w r fu p2 f.of g.of (joinL at_ [46])).1 f.cases).2:=by rw [hW]; rfl
         rw [hW1,hW2,List.append_assoc] at hat hjE
         rw [hW1] at hpE
         have hrec:=ih f.of g.of at_ p2 j2 a2 (by omega) hz1.1 hz2.1 hpath2 (by omega) hp2 hA hd hno hat.left (by simp only [List.length_append] at hjE; omega)
         generalize hY:YE w r fu p2 f.of g.of (joinL at_ [46])=Y at *
         simp only [hin]
         refine Z6 rfl rfl rfl rfl rfl (by trivial) (by trivial) (by exact hrec) ?_ ?_
         ·rintro dv S h
          cases h with
          | all a' hno' hA' hd' =>
           refine Zc ?_
           simp only [Eqs,reduceCtorEq,reduceIte,Nat.reduceEqDiff]
           refine Zg rfl trivial (fun h=>by simp at h) (fun _=>?_)
           refine Zq ?_
           refine Zbv [0,3,4,15,16,18,19,94,95] ?_
           simp only [Eqs,reduceCtorEq,reduceIte,Nat.reduceEqDiff]
           exact jn2 Y.1 (j2 + Y.2.length) a' hA' hd' hadd.ok hno' hat.right (by rw [List.length_append] at hjE; omega) hpE
          | stop mm c a' _ hm hno' hc ha hs =>
           refine Zc ?_
           simp only [Eqs,reduceCtorEq,reduceIte,Nat.reduceEqDiff]
           refine Zg rfl trivial (fun _=>?_) (fun h=>by simp at h)
           refine Za (Zb (Zc ?_))
           simp only [Eqs,reduceCtorEq,reduceIte,Nat.reduceEqDiff,Zd.r22]
           exact hF.ret (.bool false) _ rfl (by trivial) (D.Le.refl _) (St.sub_refl _) (.stop mm c a' _ (by rw [List.length_append] at hjE; omega) hno' hc ha hs)
         ·rintro dv S h
          cases h with
          | pan mm _ a' _ hm hno' hc ha hs =>
           exact hF.pan _ (St.sub_refl _) (.pan mm dv a' _ (by rw [List.length_append] at hjE; omega) hno' hc ha hs)
        ·have hin2:QI m f=false:=by simpa using hin
         rw [if_neg hin] at hW
         have hW1:W.1=(W2 (YE w r fu) (joinL at_ [46]) p2 f.cases).1:=by rw [hW]; rfl
         have hW2:W.2=(W2 (YE w r fu) (joinL at_ [46]) p2 f.cases).2:=by rw [hW]; rfl
         rw [hW1,hW2] at hat hjE
         rw [hW1] at hpE
         simp only [hin2]
         refine Zaj rfl (e:=.d (.bool false)) (Zc ?_)
         simp only [Eqs,reduceCtorEq,reduceIte,Nat.reduceEqDiff]
         refine Zg rfl trivial (fun h=>by simp at h) (fun _=>?_)
         refine Zq ?_
         refine Zbv [0,3,4,15,16,18,19,94,95] ?_
         simp only [Eqs,reduceCtorEq,reduceIte,Nat.reduceEqDiff]
         exact jn2 p2 j2 a2 hA hd hp2 hno hat hjE hpE
      exact key2 _ 0 rfl (by intro i hi; omega) (by omega)
     ·rw [decide_eq_false_iff_not] at h4
      have hz2:(m.fields.zip m'.fields).drop i=[]:=List.drop_eq_nil_of_le (by rw [hz]; omega)
      rw [hz2] at hat hjE hpE
      simp only [Wg,List.length_nil,Nat.add_zero] at hjE hpE
      subst hjE
      subst hpE
      refine Ys rfl (Za (Zb (Zc ?_)))
      simp only [Eqs,reduceCtorEq,reduceIte,Nat.reduceEqDiff,Zd.r30]
      exact hF.ret (.bool true) _ rfl (by trivial) (D.Le.refl _) (St.sub_refl _) (.all a2 hno hA hd)
    exact key _ 0 rfl p1 j1 a1 hA hd hp1 hno hat hjE hpE (by omega)
   by_cases hne:m.fields.length=m'.fields.length
   ·have hgd:(!decide ((m.fields.length:Int)=m'.fields.length))=false:=by simp [hne]
    rw [if_neg (by simp [hne])] at hM
    simp only [hgd]
    refine Zaj rfl (e:=.d (.str [])) (Zc ?_)
    simp only [Eqs,reduceCtorEq,reduceIte,Nat.reduceEqDiff,Nat.reduceAdd,Nat.reduceLeDiff]
    refine Zaj rfl (e:=.d (.bool false)) (Zc ?_)
    simp only [Eqs,reduceCtorEq,reduceIte,Nat.reduceEqDiff]
    refine Zg rfl trivial (fun h=>by simp at h) (fun _=>?_)
    refine Zq ?_
    refine Zbv [0,3,4,15,16] ?_
    simp only [Eqs,reduceCtorEq,reduceIte,Nat.reduceEqDiff]
    have h2:M.2=(Wg (YE w r fu) m (joinL path [46]) p1 ((m.fields.zip m'.fields).drop 0)).2:=by rw [hM]; rfl
    have h1:M.1=(Wg (YE w r fu) m (joinL path [46]) p1 ((m.fields.zip m'.fields).drop 0)).1:=by rw [hM]; rfl
    exact jn j a0 hA hd hno (by rw [← h2]; exact hat) (by rw [← h2]; exact hjE) (by rw [← h1]; exact hpE)
   ·have hgd:(!decide ((m.fields.length:Int)=m'.fields.length))=true:=by simp; omega
    rw [if_pos hne] at hM
    simp only [hgd]
    have h2:M.2=⟨joinL path [46],2⟩ :: (Wg (YE w r fu) m (joinL path [46]) p1 ((m.fields.zip m'.fields).drop 0)).2:=by rw [hM]; rfl
    have h1:M.1=(Wg (YE w r fu) m (joinL path [46]) p1 ((m.fields.zip m'.fields).drop 0)).1:=by rw [hM]; rfl
    rw [h2] at hat hjE
    rw [List.length_cons] at hjE
    rw [h1] at hpE
    have hcall:=(hcons j (by omega) hno a0 hA).frame hd
    rw [hat.head] at hcall
    refine YS rfl rfl rfl rfl rfl (by trivial) (by trivial) (by exact ZdU path (by omega) (by omega)) (Zc ?_)
    simp only [Eqs,reduceCtorEq,reduceIte,Nat.reduceEqDiff,Nat.reduceAdd,Nat.reduceLeDiff]
    refine ZaH rfl rfl rfl rfl rfl (by trivial) (by trivial) (by exact hcall) ?_ ?_
    ·rintro d S ⟨s',⟨hrr,hA'⟩,hd',rfl⟩
     cases hgo:go j with
     | next =>
      rw [hgo] at hrr
      cases hrr
      refine Zc ?_
      simp only [Eqs,reduceCtorEq,reduceIte,Nat.reduceEqDiff]
      refine Zg rfl trivial (fun h=>by simp at h) (fun _=>?_)
      refine Zq ?_
      refine Zbv [0,3,4,15,16] ?_
      simp only [Eqs,reduceCtorEq,reduceIte,Nat.reduceEqDiff]
      exact jn (j + 1) s' hA' hd' (KD (q:=fun i=>go i = .next) hno hgo) hat.tail (by omega) hpE
     | stop c =>
      rw [hgo] at hrr
      cases hrr
      refine Zc ?_
      simp only [Eqs,reduceCtorEq,reduceIte,Nat.reduceEqDiff]
      refine Zg rfl trivial (fun _=>?_) (fun h=>by simp at h)
      refine Za (Zb (Zc ?_))
      simp only [Eqs,reduceCtorEq,reduceIte,Nat.reduceEqDiff,Zd.r8]
      exact hF.ret (.bool false) _ rfl (by trivial) (D.Le.refl _) (St.sub_refl _) (.stop j c s' _ (by omega) hno hgo hA' (Qi _ _))
     | pan d=>rw [hgo] at hrr; cases hrr
    ·rintro d S ⟨s',⟨hrr,hA'⟩,hd',rfl⟩
     cases hgo:go j with
     | pan d' =>
      rw [hgo] at hrr
      cases hrr
      exact hF.pan _ (St.sub_refl _) (.pan j d s' _ (by omega) hno hgo hA' (Qi _ _))
     | next=>rw [hgo] at hrr; cases hrr
     | stop c=>rw [hgo] at hrr; cases hrr
end Go.DL
namespace Go.DL
open Go Go.Proofs
def ZaG (w r:Dfn) (z2 z3:Nat):St:=(St.single z2 (.cells w.cells)).or (St.single z3 (.cells r.cells))
theorem Zou {w r:Dfn} {z2 z3:Nat}:(ZaG w r z2 z3) z2=some (.cells w.cells):=Ya (KB _ _)
theorem ZnZ {w r:Dfn} {z2 z3:Nat} (h:z3≠z2):(ZaG w r z2 z3) z3=some (.cells r.cells):=by
 unfold ZaG; rw [Yr (JE _ h)]; exact KB _ _
theorem Zlc {st:St} {w r:Dfn} {z2 z3:Nat} (h2:st z2=none) (h3:st z3=none):Wt st (ZaG w r z2 z3):=fun b o hb=>by
 unfold ZaG at hb
 cases h:(St.single z2 (.cells w.cells)) b with
 | some x=>exact Jc h2 _ _ h
 | none=>rw [Yr h] at hb; exact Jc h3 _ _ hb
theorem Zpm {st:St} {w r:Dfn} {z2 z3:Nat} (h2:st z2=none) (h3:(st.upd z2 (.cells w.cells)) z3=none):(st.upd z2 (.cells w.cells)).upd z3 (.cells r.cells)=st.or (ZaG w r z2 z3):=by
 rw [Q6 h3,Q6 h2,or_assoc]; rfl
theorem Zbw (w r:Dfn) (st:St):ZY Tryz.prog Y5.id [.agg w.cells,.agg r.cells] st fun q S=>∃ z2 z3,st z2=none∧st z3=none∧z3≠z2∧q = .ret (.fn (.func 30) [] [.ptr z2 0,.ptr z3 0])∧S=st.or (ZaG w r z2 z3):=by
 refine ZP Y5.ok fun F hF=>?_
 refine Za (Zb (Zc ?_))
 simp only [Eqs,reduceCtorEq,reduceIte,Nat.reduceEqDiff,Nat.reduceAdd,Y5.r0,Dfn.cells]
 refine Za ?_
 refine Yp 2 rfl fun z2 h2=>?_
 simp only [reduceIte,Nat.reduceEqDiff,Yz,Wi,delL]
 refine Yp 3 rfl fun z3 h3=>?_
 simp only [reduceIte,Yz,Wi,delL]
 refine Zb (Zc ?_)
 simp only [Eqs,reduceIte,Nat.reduceEqDiff,Y5.r1]
 have h3a:=YY h3
 refine hF.ret _ _ rfl (by trivial) (D.Le.refl _) (St.sub_refl _) ⟨z2,z3,h2,h3a.2,h3a.1,rfl,?_⟩
 exact Zpm (w:=w) (r:=r) h2 h3
def Ze5 (w r:Dfn) (x b:Nat) (p:Prs):St:=(St.single x (.cells (cmC w r b))).or (St.single b (.map (prE p)))
theorem Ziw {w r:Dfn} {x b:Nat} (p:Prs):Ze5 w r x b p x=some (.cells (cmC w r b)):=Ya (KB _ _)
theorem ZlK {w r:Dfn} {x b:Nat} (h:b≠x) (p:Prs):Ze5 w r x b p b=some (.map (prE p)):=by
 unfold Ze5; rw [Yr (JE _ h)]; exact KB _ _
theorem ZgJ {w r:Dfn} {x b c:Nat} (h1:c≠x) (h2:c≠b) (p:Prs):Ze5 w r x b p c=none:=by
 unfold Ze5; rw [Yr (JE _ h1)]; exact JE _ h2
theorem Zp8 {w r:Dfn} {x b:Nat} (h:b≠x):CmT w r x b (Ze5 w r x b):={
 cx:=Ziw
 cb:=ZlK h
 u p p':=by
  funext c
  by_cases hb:c=b
  ·subst hb; rw [St.upd_same,ZlK h]
  ·rw [St.upd_ne _ _ hb]
   by_cases hx:c=x
   ·subst hx; rw [Ziw,Ziw]
   ·rw [ZgJ hx hb,ZgJ hx hb]
 d p p' c hc:=by
  by_cases hb:c=b
  ·subst hb; rw [ZlK h] at hc; simp at hc
  ·by_cases hx:c=x
   ·subst hx; rw [Ziw] at hc; simp at hc
   ·exact ZgJ hx hb _ }
theorem Zn5 {w r:Dfn} {x b:Nat} {s:St} (hx:s x=none) (hb:s b=none) (p:Prs):Wt s (Ze5 w r x b p):=fun c o hc=>by
 by_cases h1:c=x
 ·rw [h1]; exact hx
 ·by_cases h2:c=b
  ·rw [h2]; exact hb
  ·rw [ZgJ h1 h2] at hc; simp at hc
theorem Zcd.frame {P:Program} {y:D} {n:Nat} {args:Nat→List D} {go:Nat→Oc} {A:Nat→St→Prop} {t:St} (h:Zcd P y n args go A):Zcd P y n args go (fun j S=>∃ a,A j a∧Wt a t∧S=a.or t):=by
 rintro j hj hno S ⟨a,hA,hd,rfl⟩
 exact ((h j hj hno a hA).frame hd).mono fun r S ⟨s',⟨h1,h2⟩,h3,h4⟩=>⟨h1,s',h2,h3,h4⟩
theorem ZaU {w r:Dfn} (hw:KF w) (hr:KF r) {z2 z3:Nat} (hz:z3≠z2):Zbi Tryz.prog (.fn (.func 30) [] [.ptr z2 0,.ptr z3 0]) (KA w r).length (fun j=>[.agg ((KA w r).getD j default).cells]) (ZaG w r z2 z3):=by
 intro y go A a0 hcons hA hd
 refine ZY.V (first:=[]) (args:=[y]) (caps:=[.ptr z2 0,.ptr z3 0]) (ZP Z9.ok fun F hF=>?_)
 have g2:(a0.or (ZaG w r z2 z3)) z2=some (.cells w.cells):=by rw [Yr (hd z2 _ Zou),Zou]
 have g3:(a0.or (ZaG w r z2 z3)) z3=some (.cells r.cells):=by rw [Yr (hd z3 _ (ZnZ hz)),ZnZ hz]
 have hS:=KA.eq_1 w r
 refine Za (Za (Zb (Zc ?_)))
 simp only [Eqs,reduceCtorEq,reduceIte,Nat.reduceEqDiff,Nat.reduceAdd,Z9.r0,g2,g3,Dfn.cells]
 refine Zg rfl trivial (fun h1=>?_) (fun h1=>?_)
 ·have h1':w.start≠r.start:=by simpa using h1
  rw [if_pos h1'] at hS
  rw [hS] at hcons hF
  have hcall:=(hcons 0 (by simp) (by intro i hi; omega) a0 hA).frame hd
  refine Za (Zb (Zc ?_))
  simp only [Eqs,reduceCtorEq,reduceIte,Nat.reduceAdd,Nat.reduceLeDiff,Z9.r1]
  refine ZaH rfl rfl rfl rfl rfl (by trivial) (by trivial) (by exact hcall) ?_ ?_
  ·rintro dv S ⟨s',⟨hrr,hA'⟩,hd',rfl⟩
   cases hgo:go 0 with
   | next =>
    rw [hgo] at hrr
    cases hrr
    refine Zc ?_
    simp only [Eqs]
    exact hF.ret (.tup []) _ rfl trivial (D.Le.refl _) (St.sub_refl _) ⟨s',.all (fun i hi=>by
     obtain rfl:i=0:=by simp at hi; exact hi
     exact hgo) hA',Qi _ _⟩
   | stop c =>
    rw [hgo] at hrr
    cases hrr
    refine Zc ?_
    simp only [Eqs]
    exact hF.ret (.tup []) _ rfl trivial (D.Le.refl _) (St.sub_refl _) ⟨s',.stop 0 c (by simp) (by intro i hi; omega) hgo hA',Qi _ _⟩
   | pan d=>rw [hgo] at hrr; cases hrr
  ·rintro dv S ⟨s',⟨hrr,hA'⟩,hd',rfl⟩
   cases hgo:go 0 with
   | pan d' =>
    rw [hgo] at hrr
    cases hrr
    exact hF.pan _ (St.sub_refl _) ⟨s',.pan 0 dv (by simp) (by intro i hi; omega) hgo hA',Qi _ _⟩
   | next=>rw [hgo] at hrr; cases hrr
   | stop c=>rw [hgo] at hrr; cases hrr
 ·have h1':w.start=r.start:=by simpa using h1
  rw [if_neg (by simpa using h1)] at hS
  refine Zq ?_
  refine Za (Zb (Zc ?_))
  simp only [Eqs,reduceCtorEq,reduceIte,Nat.reduceEqDiff,Nat.reduceAdd,Nat.reduceLeDiff,Z9.r2,g2,g3,Dfn.cells]
  intro b hb
  refine Yp 17 rfl fun x hx=>?_
  simp only [reduceIte,Yz,Wi,delL]
  have hxb:=YY hx
  have hT:=Zp8 (w:=w) (r:=r) (x:=x) (b:=b) (Ne.symm hxb.1)
  have hst:((a0.or (ZaG w r z2 z3)).upd b (.map [])).upd x (.cells [.str w.name,Kf w.msgs,.str w.start,.str r.name,Kf r.msgs,.str r.start,.map b])=(a0.or (ZaG w r z2 z3)).or (Ze5 w r x b []):=by
   rw [Q6 hx,Q6 hb,or_assoc]
   congr 1
   exact Zqj (Jc (JE _ hxb.1))
  have g2b:∀ c o,(a0.or (ZaG w r z2 z3)) c=some o→(((a0.or (ZaG w r z2 z3)).upd b (.map [])).upd x (.cells [.str w.name,Kf w.msgs,.str w.start,.str r.name,Kf r.msgs,.str r.start,.map b])) c=some o:=fun c o hc=>by
   rw [St.upd_ne _ _ (fun e=>by rw [e,hxb.2] at hc; simp at hc),St.upd_ne _ _ (fun e=>by rw [e,hb] at hc; simp at hc)]; exact hc
  have g2':=g2b _ _ g2
  have g3':=g2b _ _ g3
  clear g2b
  rw [hst] at g2' g3' ⊢
  have hd2:Wt (a0.or (ZaG w r z2 z3)) (Ze5 w r x b []):=Zn5 hxb.2 hb []
  have hws:=hw.start
  have hrs:=hr.start
  have hwm:=hw.many
  have hwr:=(KW w w.start).2
  have hmsg:=ZfR hw hr hT (hcons.frame (t:=ZaG w r z2 z3)) (w.msgs.length + 1) w.start r.start [] [] 0 (a0.or (ZaG w r z2 z3)) (by omega) hws hrs (fun s hs=>by simp at hs) (by simp; omega) ⟨by simp,by simp⟩ ⟨a0,hA,hd,rfl⟩ hd2 (by intro i hi; omega)
   (by
    rw [Zgr,← hS]
    intro i hi
    rw [Nat.zero_add]) (by rw [Zgr,← hS]; omega)
  rw [Zgr,← hS,Nat.zero_add] at hmsg
  refine Zb (Zc ?_)
  simp only [Eqs,reduceCtorEq,reduceIte,Nat.reduceEqDiff,Z9.r3,g2',g3',Dfn.cells]
  refine Z6 rfl rfl rfl rfl rfl (by trivial) (by trivial) (by exact (ZY.leA (.cons (D.Le.refl _) (.cons (D.Le.refl _) (.cons (D.Le.refl _) (.cons (K9 (by simp)) (.cons (D.Le.refl _) .nil))))) hmsg)) ?_ ?_
  ·rintro dv S h
   refine Zc ?_
   simp only [Eqs]
   cases h with
   | all a' hno' hA' hd' =>
    obtain ⟨a'',hA'',hd'',rfl⟩:=hA'
    exact hF.fin (.tup []) _ rfl trivial (D.Le.refl _) (St.sub_refl _) ⟨a'',.all hno' hA'',St.sub_trans (Qi _ _) (Qi _ _)⟩
   | stop mm c a' _ hm hno' hc ha hs =>
    obtain ⟨a'',hA'',hd'',rfl⟩:=ha
    exact hF.fin (.tup []) _ rfl trivial (D.Le.refl _) (St.sub_refl _) ⟨a'',.stop mm c hm hno' hc hA'',St.sub_trans (Qi _ _) hs⟩
  ·rintro dv S h
   cases h with
   | pan mm _ a' _ hm hno' hc ha hs =>
    obtain ⟨a'',hA'',hd'',rfl⟩:=ha
    exact hF.pan _ (St.sub_refl _) ⟨a'',.pan mm dv hm hno' hc hA'',St.sub_trans (Qi _ _) hs⟩
end Go.DL
namespace Go.DL
open Go Go.Proofs
def ZcA:List Dif→List D
 | []=>[.str [],.int .i64 0]
 | d :: _=>d.cells
def ZdE (w r:Dfn):D:=if YU w && YU r then .tup [.agg (ZcA (KA w r)),.bool (!(KA w r).isEmpty),.int .i64 0] else .tup [.agg [.str [],.int .i64 0],.bool false,.int .i64 2]
def ZaX (s0:St) (z4 z5:Nat) (l:List Dif) (j:Nat):St:=(s0.upd z4 (.cells (ZcA (l.take j)))).upd z5 (.cells [.bool (decide (0 < j))])
theorem Zgi {s0:St} {z4 z5:Nat} {l:List Dif} {j:Nat} (h:z5≠z4):(ZaX s0 z4 z5 l j) z4=some (.cells (ZcA (l.take j))):=by
 unfold ZaX; rw [St.upd_ne _ _ h.symm,St.upd_same]
theorem Zf6 {s0:St} {z4 z5:Nat} {l:List Dif} {j:Nat}:(ZaX s0 z4 z5 l j) z5=some (.cells [.bool (decide (0 < j))]):=St.upd_same _ _ _
theorem Zk4 {s0:St} {z4 z5:Nat} {l:List Dif} {j:Nat} (h4:s0 z4=none) (h5:s0 z5=none):s0.sub (ZaX s0 z4 z5 l j):=fun b o hb=>by
 unfold ZaX
 rw [St.upd_ne _ _ (fun e=>by rw [e,h5] at hb; simp at hb),St.upd_ne _ _ (fun e=>by rw [e,h4] at hb; simp at hb)]; exact hb
theorem Zoe {s0:St} {z4 z5:Nat} {l:List Dif} {j j':Nat} {t:St} (h:Wt (ZaX s0 z4 z5 l j) t):Wt (ZaX s0 z4 z5 l j') t:=fun b o hb=>by
 have h1:=h b o hb
 unfold ZaX at h1 ⊢
 have a1:=YY h1
 have a2:=YY a1.2
 rw [St.upd_ne _ _ a1.1,St.upd_ne _ _ a2.1]; exact a2.2
theorem St.upd_self {s:St} {b:Nat} {o:Kq} (h:s b=some o):s.upd b o=s:=by
 funext c
 by_cases hc:c=b
 ·subst hc; rw [St.upd_same,h]
 ·rw [St.upd_ne _ _ hc]
theorem Zbz (w r:Dfn) (st:St):YD Tryz.prog Z1.id [.agg w.cells,.agg r.cells] st (ZdE w r) st:=by
 refine ZP Z1.ok fun F hF=>?_
 have hS:=ZdE.eq_1 w r
 refine Za (Zb (Zc ?_))
 simp only [Eqs,reduceCtorEq,reduceIte,Nat.reduceEqDiff,Nat.reduceAdd,Z1.r0,Dfn.cells]
 refine ZiY (Za (Za (Zb (Zc ?_))))
 simp only [Eqs,reduceIte,Nat.reduceEqDiff,Nat.reduceAdd,Nat.reduceLeDiff,Z1.r1]
 rw [show (D.agg [.str w.name,Kf w.msgs,.str w.start]) = .agg w.cells from rfl]
 by_cases hv:(YU w && YU r)=true
 ·rw [if_pos hv] at hS
  rw [Bool.and_eq_true] at hv
  have hvw:=JG hv.1
  have hvr:=JG hv.2
  have h1:=Q1 w st
  have h2:=Q1 r st
  rw [hv.1] at h1
  rw [hv.2] at h2
  refine YF rfl rfl rfl rfl rfl (by trivial) (by trivial) (by exact h1) (Zc ?_)
  simp only [Eqs,reduceIte,Nat.reduceEqDiff,Nat.reduceAdd,Nat.reduceLeDiff,Dfn.cells]
  rw [show (D.agg [.str r.name,Kf r.msgs,.str r.start]) = .agg r.cells from rfl]
  refine YF rfl rfl rfl rfl rfl (by trivial) (by trivial) (by exact h2) (Zc ?_)
  simp only [Eqs,reduceIte,Nat.reduceEqDiff]
  refine Zg rfl trivial (fun h=>by simp at h) (fun _=>?_)
  refine Zq ?_
  refine Za (ZiP (Za (Za ?_)))
  refine Yp 4 rfl fun z4 h4=>?_
  simp only [reduceIte,Nat.reduceEqDiff,Yz,Wi,delL]
  refine Yp 5 rfl fun z5 h5=>?_
  simp only [reduceIte,Nat.reduceEqDiff,Yz,Wi,delL]
  have h54:=YY h5
  rw [show (st.upd z4 (.cells [.str [],.int .i64 0])).upd z5 (.cells [.bool false])=ZaX st z4 z5 (KA w r) 0 from rfl]
  refine Zb (Zc ?_)
  simp only [Eqs,reduceIte,Nat.reduceEqDiff,Nat.reduceAdd,Nat.reduceLeDiff,Z1.r3]
  refine Z6 rfl rfl rfl rfl rfl (by trivial) (by trivial) (by exact Zbw w r (ZaX st z4 z5 (KA w r) 0)) ?_ ?_
  ·rintro dv S ⟨z2,z3,n2,n3,hne,hq,rfl⟩
   cases hq
   refine Zc ?_
   simp only [Eqs,reduceIte,Nat.reduceEqDiff]
   refine Zo ?_
   refine ZaK hF rfl trivial [4,5] (by show ([4,5]:List Nat).Nodup; decide) (Zlc n2 n3) (ZaU hvw hvr hne) (fun j hj=>rfl) (fun _=>.stop (.exit 0)) (fun j a=>a=ZaX st z4 z5 (KA w r) j) rfl ?_ ?_ ?_ ?_ ?_ ?_
   ·intro j a hj hno hB F' ready busy hdr hbeg hend
    have hj0:j=0:=by
     rcases Nat.eq_zero_or_pos j with h | h
     ·exact h
     ·exact absurd (hno 0 h) (by simp)
    subst hj0
    subst hB
    generalize hl:KA w r=l at *
    simp only [Eqs,reduceIte,Nat.reduceEqDiff,Jw,Zab,Za9,JH,List.isEmpty_nil]
    refine Zb (Zc ?_)
    simp only [Eqs,reduceIte,Nat.reduceEqDiff,Nat.reduceAdd,Nat.reduceLeDiff,Z1.r4,Dif.cells]
    refine hbeg fun hdb=>?_
    have g4:∀ c,(((ZaX st z4 z5 l 0).upd z4 c).or busy) z5=some (.cells [.bool false]):=fun c=>Ya (by rw [St.upd_ne _ _ h54.1]; exact Zf6)
    refine Zo (Za (Zb (Zc ?_)))
    simp only [Eqs,reduceIte,Nat.reduceEqDiff,Nat.reduceAdd,Nat.reduceLeDiff,Z1.r5,Ya (Zgi (s0:=st) (l:=l) (j:=0) h54.1),Jt,g4,ZcA]
    have hstep:((ZaX st z4 z5 l 0).upd z4 (.cells (l.getD 0 default).cells)).upd z5 (.cells [.bool true])=ZaX st z4 z5 l 1:=by
     unfold ZaX
     rw [St.upd_comm _ _ _ h54.1.symm,St.upd_upd,St.upd_upd]
     match l,hj with
     | x :: rr,_=>rfl
    exact hend.exit (a:=ZaX st z4 z5 l 1) rfl ⟨rfl,rfl⟩ (Zoe hdb) (by rw [← hstep]; exact St.sub_refl _)
   ·intro q a hno hB hq
    subst hB
    have hn0:(KA w r).length=0:=by
     rcases Nat.eq_zero_or_pos (KA w r).length with h | h
     ·exact h
     ·exact absurd (hno 0 h) (by simp)
    have hnil:=List.eq_nil_of_length_eq_zero hn0
    rw [hn0] at hq ⊢
    have g4:=Ya (t:=St.single q .dfr) (Zgi (s0:=st) (z4:=z4) (z5:=z5) (l:=KA w r) (j:=0) h54.1)
    have g5:=Ya (t:=St.single q .dfr) (Zf6 (s0:=st) (z4:=z4) (z5:=z5) (l:=KA w r) (j:=0))
    have u4:=St.upd_self g4
    have u5:=St.upd_self g5
    have hh:∃ d1 d2,ZcA ((KA w r).take 0)=[d1,d2]∧ZcA (KA w r)=[d1,d2]:=⟨.str [],.int .i64 0,rfl,by rw [hnil]; rfl⟩
    obtain ⟨d1,d2,hh1,hh2⟩:=hh
    rw [hh1] at g4 u4
    rw [hh2,show (!(KA w r).isEmpty)=decide (0 < 0) by rw [hnil]; rfl] at hS
    rw [Q6 hq]
    refine ZC (Za (Wy (ZO ?_)))
    simp only [Eqs,reduceIte,Nat.reduceEqDiff,Nat.reduceAdd,Nat.reduceLeDiff,Z1.r6,g4,g5,u4,u5]
    exact hF.ret1 hq _ _ (by simp only [Eqs,reduceIte,Nat.reduceEqDiff,Nat.reduceAdd,Nat.reduceLeDiff,Z1.df,K3,ZaL,Zgi (s0:=st) (z4:=z4) (z5:=z5) (l:=KA w r) (j:=0) h54.1,Zf6 (s0:=st) (z4:=z4) (z5:=z5) (l:=KA w r) (j:=0),show ZcA ([]:List Dif)=[d1,d2] from hh1]; rfl) (by trivial) (D.Le.refl _) (Zk4 h4 h54.2) ⟨by rw [hS]; rfl,rfl⟩
   ·intro q a m hm hno hgo; simp at hgo
   ·intro q a m id hm hno hgo hB hq
    have hm0:m=0:=by
     rcases Nat.eq_zero_or_pos m with h | h
     ·exact h
     ·exact absurd (hno 0 h) (by simp)
    subst hm0
    subst hB
    have hid:id=0:=by simp at hgo; exact hgo.symm
    subst hid
    rw [Nat.zero_add] at hq ⊢
    refine Ys rfl ?_
    have g4:=Ya (t:=St.single q .dfr) (Zgi (s0:=st) (z4:=z4) (z5:=z5) (l:=KA w r) (j:=1) h54.1)
    have g5:=Ya (t:=St.single q .dfr) (Zf6 (s0:=st) (z4:=z4) (z5:=z5) (l:=KA w r) (j:=1))
    have u4:=St.upd_self g4
    have u5:=St.upd_self g5
    have hh:∃ d1 d2,ZcA ((KA w r).take 1)=[d1,d2]∧ZcA (KA w r)=[d1,d2]:=by
     match KA w r,hm with
     | x :: rr,_=>exact ⟨_,_,rfl,rfl⟩
    obtain ⟨d1,d2,hh1,hh2⟩:=hh
    rw [hh1] at g4 u4
    rw [hh2,show (!(KA w r).isEmpty)=decide (0 < 1) by match KA w r,hm with | x :: rr,_=>rfl] at hS
    rw [Q6 hq]
    refine Za (Wy (ZO ?_))
    simp only [Eqs,reduceIte,Nat.reduceEqDiff,Nat.reduceAdd,Nat.reduceLeDiff,Z1.r6,g4,g5,u4,u5]
    exact hF.ret1 hq _ _ (by simp only [Eqs,reduceIte,Nat.reduceEqDiff,Nat.reduceAdd,Nat.reduceLeDiff,Z1.df,K3,ZaL,Zgi (s0:=st) (z4:=z4) (z5:=z5) (l:=KA w r) (j:=1) h54.1,Zf6 (s0:=st) (z4:=z4) (z5:=z5) (l:=KA w r) (j:=1),hh1]; rfl) (by trivial) (D.Le.refl _) (Zk4 h4 h54.2) ⟨by rw [hS]; rfl,rfl⟩
   ·intro q a m d hm hno hgo; simp at hgo
   ·intro m c hgo; simp at hgo; exact .inr ⟨0,hgo.symm⟩
  ·rintro dv S ⟨z2,z3,n2,n3,hne,hq,_⟩
   cases hq
 ·rw [if_neg hv] at hS
  have h1:=Q1 w st
  have h2:=Q1 r st
  have hfin:∀ {dk:List ZR} {ρ:Env} {L:Loc},K3 ρ L st Z1.df.res=some (True,[.agg [.str [],.int .i64 0],.bool false,.int .i64 2])→ZU F (.code .ret :: dk) ρ L st:=fun h =>
   hF.ret _ st h trivial (D.Le.refl _) (St.sub_refl _) ⟨by rw [hS]; rfl,rfl⟩
  by_cases hvw:YU w=true
  ·have hvr:YU r=false:=by simpa [hvw] using hv
   rw [hvw] at h1
   rw [hvr] at h2
   refine YF rfl rfl rfl rfl rfl (by trivial) (by trivial) (by exact h1) (Zc ?_)
   simp only [Eqs,reduceIte,Nat.reduceEqDiff,Nat.reduceAdd,Nat.reduceLeDiff,Dfn.cells]
   rw [show (D.agg [.str r.name,Kf r.msgs,.str r.start]) = .agg r.cells from rfl]
   refine YF rfl rfl rfl rfl rfl (by trivial) (by trivial) (by exact h2) (Zc ?_)
   simp only [Eqs,reduceIte,Nat.reduceEqDiff]
   refine Zg rfl trivial (fun _=>?_) (fun h=>by simp at h)
   refine Za (Zb (Zc ?_))
   simp only [Eqs,reduceIte,Nat.reduceEqDiff,Nat.reduceAdd,Nat.reduceLeDiff,Z1.r2]
   exact hF.ret _ st rfl (by simp) (D.Le.refl _) (St.sub_refl _) ⟨by rw [hS]; rfl,rfl⟩
  ·have hvw2:YU w=false:=by simpa using hvw
   rw [hvw2] at h1
   refine YF rfl rfl rfl rfl rfl (by trivial) (by trivial) (by exact h1) (Zc ?_)
   simp only [Eqs,reduceIte,Nat.reduceEqDiff,Nat.reduceAdd,Nat.reduceLeDiff,Dfn.cells]
   refine Zaj rfl (e:=.d (.bool false)) (Zc ?_)
   simp only [Eqs,reduceIte,Nat.reduceEqDiff]
   refine Zg rfl trivial (fun _=>?_) (fun h=>by simp at h)
   refine Za (Zb (Zc ?_))
   simp only [Eqs,reduceIte,Nat.reduceEqDiff,Nat.reduceAdd,Nat.reduceLeDiff,Z1.r2]
   exact hF.ret _ st rfl (by simp) (D.Le.refl _) (St.sub_refl _) ⟨by rw [hS]; rfl,rfl⟩
end Go.DL
namespace Go.DL
open Go Go.Proofs
def WY (w r:Dfn):Bool:=(YU w && YU r) && (KA w r).isEmpty
def J2 (w r:Dfn):Int:=if YU w && YU r then 0 else 2
theorem Qx (w r:Dfn) (st:St):YD Tryz.prog WE.id [.agg w.cells,.agg r.cells] st (.tup [.bool (WY w r),.int .i64 (J2 w r)]) st:=by
 refine YG WE.ok fun hwf F hret=>?_
 clear hwf
 have hF1:=Zbz w r st
 have hhead:∃ d1 d2,ZcA (KA w r)=[d1,d2]:=by
  cases KA w r with
  | nil=>exact ⟨_,_,rfl⟩
  | cons x rr=>exact ⟨_,_,rfl⟩
 obtain ⟨d1,d2,hh⟩:=hhead
 unfold ZdE at hF1
 rw [hh] at hF1
 refine Za (Zb (Zc ?_))
 simp only [Eqs,reduceCtorEq,reduceIte,Nat.reduceEqDiff,Nat.reduceAdd,WE.r0,Dfn.cells]
 refine Za (Zb (Zc ?_))
 simp only [Eqs,reduceIte,Nat.reduceEqDiff,Nat.reduceAdd,Nat.reduceLeDiff,WE.r1]
 rw [show (D.agg [.str w.name,Kf w.msgs,.str w.start]) = .agg w.cells from rfl,show (D.agg [.str r.name,Kf r.msgs,.str r.start]) = .agg r.cells from rfl]
 by_cases hv:(YU w && YU r)=true
 ·rw [if_pos hv] at hF1
  refine YF rfl rfl rfl rfl rfl (by trivial) (by trivial) (by exact hF1) (Zc ?_)
  simp only [Eqs,reduceIte,Nat.reduceEqDiff,Nat.reduceAdd,Nat.reduceLeDiff]
  repeat (refine And.intro (by simp) ?_)
  refine Za (Zb (Zc ?_))
  simp only [Eqs,reduceIte,Nat.reduceEqDiff,WE.r2]
  exact hret rfl (by trivial) (by rw [WY,J2,hv]; cases (KA w r).isEmpty <;> exact D.Le.refl _) (St.sub_refl _)
 ·rw [if_neg hv] at hF1
  have hv2:(YU w && YU r)=false:=by simpa using hv
  refine YF rfl rfl rfl rfl rfl (by trivial) (by trivial) (by exact hF1) (Zc ?_)
  simp only [Eqs,reduceIte,Nat.reduceEqDiff,Nat.reduceAdd,Nat.reduceLeDiff]
  repeat (refine And.intro (by simp) ?_)
  refine Za (Zb (Zc ?_))
  simp only [Eqs,reduceIte,Nat.reduceEqDiff,WE.r2]
  exact hret rfl (by trivial) (by rw [WY,J2,hv2]; exact D.Le.refl _) (St.sub_refl _)
def Js (s0:St) (x:Nat) (t:Tok) (k:Nat) (c:Kq):St:=(s0.own t k).upd x c
structure ZbC (s0:St) (x:Nat) (t:Tok):Prop where
 ox:s0 x=none
 ot:t.okIn s0
 xt:∀ k,(s0.own t k) x=none
theorem ZlH {s u:St} {t:Tok} {k:Nat}:(s.or u).own t k=(s.own t k).or u:=by
 cases t with
 | tip b=>exact Jt _ _ _ _
 | _=>rfl
theorem Zqh {s u:St} {t:Tok} (h:t.okIn (s.or u)):t.okIn s:=by
 cases t with
 | tip b =>
  simp only [Tok.okIn] at h ⊢
  cases hs:s b with
  | none=>rfl
  | some o=>rw [Ya hs] at h; simp at h
 | full=>trivial
 | none=>exact h.elim
theorem Zo5 {s u:St} {t:Tok} (h:t.okIn (s.or u)):∀ k,t.okIn s→Wt s u→Wt (s.own t k) u:=fun k hs hd=>by
 cases t with
 | tip b =>
  simp only [Tok.okIn] at h hs
  intro c o hc
  have hcb:c≠b:=fun e=>by rw [e] at hc; rw [Yr hs,hc] at h; simp at h
  simp only [St.own]; rw [St.upd_ne _ _ hcb]; exact hd c o hc
 | full=>exact hd
 | none=>exact h.elim
theorem ZbC.form {s0:St} {x:Nat} {t:Tok} (h:ZbC s0 x t) {k:Nat} {c:Kq} {u:St}:(Js s0 x t k c).or u=((s0.upd x c).or u).own t k:=by
 have h1:t.okIn (s0.upd x c):=ZkR (k:=k) c h.ot (h.xt k)
 unfold Js
 rw [ZlH,(Zlw h1).2]
theorem ZbC.okf {s0:St} {x:Nat} {t:Tok} (h:ZbC s0 x t) {k:Nat} {c:Kq} {u:St} (hd:Wt (Js s0 x t k c) u):t.okIn ((s0.upd x c).or u):=by
 have h1:t.okIn (s0.upd x c):=ZkR (k:=k) c h.ot (h.xt k)
 cases t with
 | tip b =>
  simp only [Tok.okIn] at h1 ⊢
  rw [Yr h1]
  cases hu:u b with
  | none=>rfl
  | some o =>
   have:=hd b o hu
   unfold Js at this
   have h2:=YY this
   simp only [St.own,St.upd_same] at h2
   simp at h2
 | full=>trivial
 | none=>exact h1.elim
theorem ZbC.next {s0:St} {x:Nat} {t:Tok} (h:ZbC s0 x t) {t1:Tok} {k:Nat} {c:Kq} {u:St} (hd:Wt (Js s0 x t k c) u) (h1:t1.okIn ((s0.upd x c).or u)) :
  ZbC s0 x t1∧(∀ k',(((s0.upd x c).or u).own t1 k') x=some c)∧(∀ k' c',(((s0.upd x c).or u).own t1 k').upd x c'=(Js s0 x t1 k' c').or u)∧∀ k' c',Wt (Js s0 x t1 k' c') u:=by
 have h2:=Zqh h1
 have h3:=Zlw h2
 have hux:Wt (s0.upd x c) u:=fun b o hb=>by
  have:=hd b o hb
  unfold Js at this
  have e:=YY this
  rw [St.upd_ne _ _ e.1]; exact (ZoM e.2).1
 refine ⟨⟨h.ox,h3.1,fun k'=>Zp6 h2 h.ox k'⟩,fun k'=>?_,fun k' c'=>?_,fun k' c'=>?_⟩
 ·rw [ZlH,h3.2]; exact Ya (St.upd_same _ _ _)
 ·rw [ZlH,Jt,h3.2,St.upd_upd]; rfl
 ·have hdd:=Zo5 h1 k' h2 hux
  intro b o hb
  have e:=hdd b o hb
  rw [h3.2] at e
  have e2:=YY e
  unfold Js
  rw [St.upd_ne _ _ e2.1]; exact e2.2
end Go.DL
namespace Go.DL
open Go Go.Proofs
theorem ZbJ (l:List Dif) (hl:l.length≤1000000) {fv:D} {t st:St} (hd:Wt st t) (hit:Zbi Tryz.prog fv l.length (fun j=>[.agg (l.getD j default).cells]) t) :
  ZY Tryz.prog Zx.id [.nilsl,fv] (st.or t) fun r S=>r = .ret (Qm l)∧S=st:=by
 refine ZP Zx.ok fun F hF=>?_
 refine Za (Zb (Zc ?_))
 simp only [Eqs,reduceCtorEq,reduceIte,Nat.reduceEqDiff,Nat.reduceAdd,Zx.r0]
 refine Za (Za ?_)
 refine Yp 2 rfl fun x hx=>?_
 simp only [reduceIte,Yz,Wi,delL]
 have hx1:st x=none:=by
  cases h:st x with
  | none=>rfl
  | some o=>rw [Ya h] at hx; simp at hx
 have hx2:t x=none:=by rw [Yr hx1] at hx; exact hx
 rw [Jt]
 refine QO (b:=x) (Ya (St.upd_same _ _ _)) (.cons (K9 (t:=.full) (s:=2) (row:=fun _=>[]) (fun b h=>by cases h)) .nil) ?_
 rw [Jt,St.upd_upd]
 have hok0:ZbC st x .full:=⟨hx1,trivial,fun _=>hx1⟩
 have hd0:Wt (Js st x .full (0 * 2) (.cells [.sl .full 0 2 fun _=>[]])) t:=fun b o hb=>by
  have hbx:b≠x:=fun e=>by rw [e,hx2] at hb; simp at hb
  unfold Js
  rw [St.upd_ne _ _ hbx]; exact hd b o hb
 rw [show st.upd x (.cells [.sl .full 0 2 fun _=>[]])=Js st x .full (0 * 2) (.cells [.sl .full 0 2 fun _=>[]]) from rfl]
 refine Zb (Zc ?_)
 simp only [Eqs,reduceIte,Nat.reduceEqDiff,Zx.r1]
 refine Zo ?_
 refine ZaK hF rfl trivial [2] (by show ([2]:List Nat).Nodup; decide) hd0 hit (fun j hj=>rfl) (fun _=>.next)
  (fun j a=>∃ tk row,ZbC st x tk∧We Dif.cells row (l.take j)∧a=Js st x tk (j * 2) (.cells [.sl tk j 2 row])) ⟨.full,_,hok0,We.nil,rfl⟩ ?_ ?_ ?_ ?_ ?_ ?_
 ·rintro j a hj hno ⟨tk,row,hok,hrow,rfl⟩ F' ready busy hdr hbeg hend
  simp only [Eqs,reduceIte,Nat.reduceEqDiff,Jw,Zab,Za9,JH,List.isEmpty_nil]
  refine Zb (Zc ?_)
  simp only [Eqs,reduceIte,Nat.reduceEqDiff,Nat.reduceAdd,Nat.reduceLeDiff,Zx.r2,Dif.cells]
  refine hbeg fun hdb=>?_
  have gx:((Js st x tk (j * 2) (.cells [.sl tk j 2 row])).or busy) x=some (.cells [.sl tk j 2 row]):=Ya (St.upd_same _ _ _)
  refine Zo (Zb (Zc ?_))
  simp only [Eqs,reduceIte,Nat.reduceEqDiff,Nat.reduceAdd,Nat.reduceLeDiff,Zx.r3,gx]
  refine ZcQ (_) (tk) rfl rfl rfl rfl rfl rfl (by trivial) (by trivial) hok.form (hok.okf hdb) (by omega) (by (unfold big; omega)) fun t1 ht1=>Zc ?_
  simp only [Eqs,reduceIte,Nat.reduceEqDiff,Nat.reduceLeDiff,(hok.next hdb ht1).2.1,(hok.next hdb ht1).2.2.1]
  refine ZC ?_
  have hnx:=hok.next hdb ht1
  have htk:=WL hj
  exact hend.fin (a:=Js st x t1 ((j + 1) * 2) (.cells [.sl t1 (j + 1) 2 (K0 j row (Wu [.str [],.int .i64 0] ([0].zip [.agg [.str (l.getD j default).path,.int .i64 (l.getD j default).code]])))])) ⟨rfl,t1,_,hnx.1,by rw [htk]; exact hrow.snoc (x:=l.getD j default) rfl (by simp; omega),rfl⟩ (hnx.2.2.2 _ _) (St.sub_refl _)
 ·rintro q a hno ⟨tk,row,hok,hrow,rfl⟩ hq
  rw [List.take_length] at hrow
  rw [Q6 hq]
  have gx:((Js st x tk (l.length * 2) (.cells [.sl tk l.length 2 row])).or (St.single q .dfr)) x=some (.cells [.sl tk l.length 2 row]):=Ya (St.upd_same _ _ _)
  refine ZC (Za (Zb (Zc ?_)))
  simp only [Eqs,reduceIte,Nat.reduceEqDiff,Zx.r4,gx]
  refine hF.ret1 hq _ st rfl (by trivial) (ZaN (hrow.le rfl)) (St.sub_trans (ZM hok.ot) (St.sub_upd _ (hok.xt _))) ⟨rfl,rfl⟩
 ·intro q a m hm hno hgo; simp at hgo
 ·intro q a m id hm hno hgo; simp at hgo
 ·intro q a m d hm hno hgo; simp at hgo
 ·intro m c hgo; simp at hgo
theorem Zb9 (l:List Dif) (hl:l.length≤1000000) {fv:D} {t st:St} (hd:Wt st t) (hit:Zbi Tryz.prog fv l.length (fun j=>[.agg (l.getD j default).cells]) t) :
  ZY Tryz.prog Yf.id [fv] (st.or t) fun r S=>r = .ret (Qm l)∧S=st:=by
 refine ZP Yf.ok fun F hF=>?_
 refine Za (Zb (Zc ?_))
 simp only [Eqs,reduceCtorEq,reduceIte,Yf.r0]
 refine Za (Zb (Zc ?_))
 simp only [Eqs,reduceIte,Yf.r1]
 refine Z6 rfl rfl rfl rfl rfl (by trivial) (by trivial) (by exact ZbJ l hl hd hit) ?_ ?_
 ·rintro dv S ⟨h,rfl⟩
  cases h
  refine Zc ?_
  simp only [Eqs,reduceCtorEq,reduceIte,Nat.reduceEqDiff]
  exact hF.ret _ _ rfl (by trivial) (D.Le.refl _) (St.sub_refl _) ⟨rfl,rfl⟩
 ·rintro dv S ⟨h,_⟩
  cases h
end Go.DL
