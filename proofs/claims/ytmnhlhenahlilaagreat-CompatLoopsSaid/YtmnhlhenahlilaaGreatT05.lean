/- Lemmas: S09, S10, S11, S12, S13, S14, S15, S16, S17, S18, S19, S20, S21, S22, S23, S24, S25, S26, SLay3, S27, S28, S29, S30, S31, S32. -/
import Derived.Test.YtmnhlhenahlilaaGreatT04
set_option maxHeartbeats 16000000
set_option linter.all false
open And renaming intro → Zut
open Bool renaming and_eq_true → ZuA, or_eq_true → ZuL, true_and → ZuP
open Go.DL.D.Le renaming refl → Zux
open Go.DL.Dfn renaming cells → ZuM
open Go.DL.Fld renaming cells → ZuD
open Go.DL.Msg renaming cells → ZuG
open Go.DL.St renaming single → ZuN, sub_refl → Zuw, sub_trans → ZuK, sub_upd → Zuy, upd_ne → ZuE, upd_same → ZuB, upd_upd → ZuQ
open Go.DL.Z5 renaming cells → ZuR
open Go.Proofs.Tryz renaming prog → Zuv
open List renaming getElem_of_mem → ZuJ, length_append → ZuF, length_cons → ZuI, take_length → ZuH
open Nat renaming le_refl → ZuO, reduceAdd → Zur, reduceEqDiff → Zuq, reduceLeDiff → Zus
namespace Go.DL
open Go Go.Proofs
theorem Zn5 (o:Option Int):JD (.int .i64 0) false (o.map JS) = .int .i64 (o.getD 0):=by cases o <;> rfl
abbrev Zg4 (l:List (Str × Int)):List (D × D):=Jv JU JS l
def mkT (l:List (Str × Int)) (k:Str):Z5:=⟨k,(Z8 k l).getD 0⟩
theorem ZkN (b:Nat) (l:List (Str × Int)) (hn:(l.map (·.1)).Nodup) (hl:l.length≤1000) (st:St) (hb:st b=some (.map (Zg4 l))) :
  Yf Zuv YH.id [.map b] st fun r S=>r = .ret (Yj (Zeo l))∧S=st:=by
 refine Z2 YH.ok fun F hF=>?_
 refine Za (Zb (Zc ?_))
 simp only [Eqs,reduceCtorEq,reduceIte,YH.r0]
 refine Za (Za (Zb (Zc ?_)))
 simp only [Eqs,reduceCtorEq,reduceIte,YH.r1]
 refine Yn rfl rfl rfl rfl rfl (by trivial) (by trivial) (by exact Zi0 b st) ?_ ?_
 ·rintro d S ⟨x,hx,hd,rfl⟩
  cases hd
  refine Zc ?_
  simp only [Eqs]
  have hbx:b≠x:=fun e=>by rw [e,hx] at hb; simp at hb
  have hb2:(st.upd x (.cells [.map b])) b=some (.map (Zg4 l)):=by rw [ZuE _ _ hbx]; exact hb
  have hsub:=Zuy (.cells [.map b]) hx
  refine Yn rfl rfl rfl rfl rfl (by trivial) (by trivial) (by exact ZeU b x l hn hl _ hb2 (ZuB _ _ _)) ?_ ?_
  ·rintro d S ⟨hd,rfl⟩
   cases hd
   refine Zc ?_
   simp only [Eqs,reduceCtorEq,reduceIte,Zuq,slD]
   generalize hS:st.upd x (.cells [.map b])=S at *
   have hkl:((l.map (·.1)).mergeSort leS).length≤1000:=by rw [List.length_mergeSort]; simpa using hl
   have hst:Zeo l=((l.map (·.1)).mergeSort leS).map (mkT l):=rfl
   generalize (l.map (·.1)).mergeSort leS=ks at *
   refine Zj ?_
   refine Ku (s':=S) (by first | exact Zuw _ | exact Zl (by first | trivial | assumption) | exact ZuK (Zl (by first | trivial | assumption)) (Zl (by first | trivial | assumption)) | assumption) (Qz (ρ':=[(0,.d (.map b)),(2,.d (.sl .full 0 2 fun _=>[])),(7,.d (slD 1 Q5 ks)),(8,.d (.int .i64 ks.length)),(9,.d (.int .i64 (0:Nat)))]) (L':=[]) ?_ ?_ ?_)
   ·exact .skip (.cons (.d (Qa fun b h=>by cases h)) (.skip (.skip (.skip .nil))))
   ·exact Q9 _
   refine ZX ?_
   have key:∀ (n i:Nat),(ks.length) - i=n→∀ tk row out,tk.okIn S→YE ZuR row out→out=(ks.take i).map (mkT l)→i≤ks.length→ZT F [.code (YH.l0),.inLoop YH.l0,.inBlock 0,.code (.seq (qR YH.r6 [2]) .ret)] [(0,.d (.map b)),(2,.d (.sl tk out.length 2 row)),(7,.d (slD 1 Q5 ks)),(8,.d (.int .i64 ks.length)),(9,.d (.int .i64 i))] [] (S.own tk (out.length * 2)):=by
    intro n
    induction n using Nat.strongRecOn with
    | ind n ih_key =>
    intro i hni tk row out htk hrow hout hi
    have hol:out.length=i:=by rw [hout]; simp; omega
    refine Za (Zb (Zc ?_))
    simp only [Eqs,reduceCtorEq,reduceIte,Zuq,YH.r2]
    refine Za (Ze rfl trivial (fun h1=>?_) (fun h1=>?_))
    ·simp at h1
     have hsn:(ks.take (i + 1)).map (mkT l)=out++[mkT l (ks.getD i default)]:=by rw [Wz h1,List.map_append,hout]; rfl
     generalize hk:ks.getD i default=k at *
     have e1:=Qo (vD:=JS) WP k l
     have e3:=Ja WP k
     simp only [show JU k=D.str k from rfl] at e1 e3
     have hbo:=ZhU (k:=out.length * 2) htk hb2
     refine Zg (Za (Zj (Za (Zb (Zc ?_)))))
     simp only [Eqs,reduceCtorEq,reduceIte,Zuq,YH.r3,slD,Q5,hk]
     repeat (refine Zut (by first | omega | trivial | (intro h0; simp at h0; omega)) ?_)
     refine Zb (Zc ?_)
     simp only [Eqs,reduceCtorEq,reduceIte,Zuq,Zur,Zus,YH.r4,hbo,e1,Zn5]
     refine JO (S) (tk) rfl rfl rfl rfl rfl rfl (by trivial) (by trivial) rfl (by first | trivial | assumption) (by omega) (by (unfold big; omega)) fun t1 ht1=>Zc ?_
     simp only [Eqs,reduceCtorEq,reduceIte,Zuq]
     refine Zm (Zb (Zc ?_))
     simp only [Eqs,reduceCtorEq,reduceIte,Zuq,YH.r5]
     repeat (refine Zut (by first | omega | trivial | (intro h0; simp at h0; omega)) ?_)
     refine Zy ?_
     have hnext:=ih_key ((ks.length) - (i + 1)) (by omega) (i + 1) rfl t1 _ (out++[mkT l k]) ht1 (hrow.snoc (x:=mkT l k) (row2:=Wy [.str [],.int .i64 0] ([0].zip [.agg [.str k,.int .i64 ((Z8 k l).getD 0)]])) rfl rfl) (by rw [hsn]) (by omega)
     rw [ZuF] at hnext
     exact hnext
    ·simp at h1
     obtain rfl:i=ks.length:=by omega
     rw [ZuH] at hout
     refine ZQ rfl (Za (Zb (Zc ?_)))
     simp only [Eqs,reduceCtorEq,reduceIte,Zuq,YH.r6]
     refine hF.ret _ st rfl (by trivial) (Zac (hrow.le rfl)) (ZuK hsub (Zl htk)) ⟨by rw [hout,hst]; rfl,rfl⟩
   exact key _ 0 rfl .full _ [] trivial YE.nil rfl (by omega)
  ·rintro d S ⟨hd,_⟩
   cases hd
 ·rintro d S ⟨x,hx,hd,rfl⟩
  cases hd
def Zbk:Wu:=⟨0,[]⟩
theorem Zjd {s:Wu} (h:YN s=true):(s.terms.map (·.field)).Nodup:=by
 unfold YN at h
 simp only [ZuA] at h
 have:∀ (seen:List Str) (l:List Z5),QR seen l=true→(l.map (·.field)).Nodup∧∀ t∈l,t.field ∉ seen:=by
  intro seen l
  induction l generalizing seen with
  | nil=>intro _; simp
  | cons t r ih =>
   intro hv
   simp only [QR,ZuA,Bool.not_eq_true',decide_eq_false_iff_not] at hv
   have h1:=ih _ hv.2
   refine ⟨?_,fun x hx=>?_⟩
   ·simp only [List.map_cons,List.nodup_cons]
    refine ⟨fun hm=>?_,h1.1⟩
    obtain ⟨y,hy,he⟩:=List.mem_map.1 hm
    exact h1.2 y hy (by rw [he]; simp)
   ·rcases List.mem_cons.1 hx with rfl | hx
    ·exact hv.1.2
    ·exact fun hm=>h1.2 x hx (by simp [hm])
 exact (this [] s.terms h.2).1
theorem Zjc {s:Wu} (h:YN s=true):∀ t∈s.terms,t.factor≠0:=by
 unfold YN at h
 simp only [ZuA] at h
 have:∀ (seen:List Str) (l:List Z5),QR seen l=true→∀ t∈l,t.factor≠0:=by
  intro seen l
  induction l generalizing seen with
  | nil=>intro _; simp
  | cons t r ih =>
   intro hv
   simp only [QR,Jq,ZuA,Bool.not_eq_true',decide_eq_false_iff_not] at hv
   intro x hx
   rcases List.mem_cons.1 hx with rfl | hx
   ·exact hv.1.1.1.2
   ·exact ih _ hv.2 x hx
 exact this [] s.terms h.2
theorem ZqT {k:Str} {v:Int} {l:List (Str × Int)} (h:Z8 k l=none):K3 k v l=l++[(k,v)]:=by
 induction l with
 | nil=>rfl
 | cons x r ih =>
  simp only [Z8] at h
  split at h
  ·simp at h
  ·rename_i hk; simp [K3,hk,ih h]
theorem ZjG {l:List Z5} {i:Nat} (hi:i < l.length) (hn:(l.map (·.field)).Nodup):Z8 (l.getD i default).field (J5 (l.take i))=none:=by
 rw [Zlb]
 intro hm
 have h1:(l.getD i default).field∈(l.take i).map (·.field):=by simpa [J5,Function.comp_def] using hm
 have h2:=Wz hi
 have h3:((l.take (i + 1)).map (·.field)).Nodup:=by
  have:(l.map (·.field)).Nodup:=hn
  rw [← List.take_append_drop (i + 1) l,List.map_append] at this
  exact (List.nodup_append.1 this).1
 rw [h2,List.map_append] at h3
 exact (List.nodup_append.1 h3).2.2 _ h1 _ (by simp) rfl
theorem Zoy {l:List Z5} {i:Nat} (hi:i < l.length) (hn:(l.map (·.field)).Nodup):K3 (l.getD i default).field (0 + (l.getD i default).factor) (J5 (l.take i))=J5 (l.take (i + 1)):=by
 rw [ZqT (ZjG hi hn),Wz hi,Int.zero_add]
 simp [J5]
theorem ZlI (t:Z5):ZR Zuv Qi.id [.agg t.cells] (.bool (!Q4 t.factor)):=by
 refine Z0 Qi.ok fun F st hret=>?_
 refine Za (Zb (Zc ?_))
 simp only [Eqs,reduceCtorEq,reduceIte,Zuq,Qi.r0,ZuR]
 refine Za (Zb (Zc ?_))
 simp only [Eqs,reduceIte,Zuq,Qi.r1]
 refine ZW rfl rfl rfl rfl rfl (by trivial) (by trivial) (by exact Zbi t.factor) (Zc ?_)
 simp only [Eqs,reduceIte,Zuq]
 refine hret rfl (by first | trivial | simp) (Yk ?_) (by first | exact Zuw _ | exact Zl (by first | trivial | assumption) | assumption | exact Zuy _ (by assumption))
 rfl
theorem ZpU (l:List Z5):ZR Zuv Yd.id [Yj l,.fn (.func Qi.id) [] []] (.bool (l.any fun t=>!Q4 t.factor)) :=
 fun st=>ZdZ l _ _ (fun _=>st) fun i _=>(ZlI _).VT (first:=[]) (caps:=[]) st
theorem Zm0 (s:Wu) (hv:YN s=true) (st:St):Yf Zuv Z3.id [.agg s.cells,.agg Zbk.cells] st fun r S=>r = .ret (.tup [.agg (ZdD s).cells,.int .i64 0])∧S=st:=by
 have hfew:=Zbj hv
 have hsm:=Zfa hv
 have hnd:=Zjd hv
 have hfz:=Zjc hv
 refine Z2 Z3.ok fun F hF=>?_
 refine Za (Zb (Zc ?_))
 simp only [Eqs,reduceCtorEq,reduceIte,Zuq,Zur,Z3.r0,Wu.cells]
 refine Za (Za (Wq (ZM ?_)))
 simp only [Eqs,reduceIte,Zuq,Zur,Zus,Z3.r1]
 refine Kd rfl rfl rfl rfl rfl (by trivial) (by trivial) (by exact JZ s) (ZM ?_)
 simp only [Eqs,reduceIte,hv]
 refine Kd rfl rfl rfl rfl rfl (by trivial) (by trivial) (by exact JZ Zbk) (ZM ?_)
 simp only [Eqs,reduceIte,Zuq]
 refine Kd rfl rfl rfl rfl rfl (by trivial) (by trivial) (by exact ZdX _ _) (ZM ?_)
 simp only [Eqs,reduceIte,Zuq]
 refine Ze rfl trivial (fun h=>by simp [show YN Zbk=true from by decide] at h) (fun _=>?_)
 refine Zg (Za (Zb (Zc ?_)))
 simp only [Eqs,reduceIte,Zuq,Z3.r3]
 intro b hb
 have hrw:YE ltC (Wy [.nilsl] ([0,1].zip [Yj s.terms,Yj Zbk.terms])) [s.terms,[]]:=fun i hi=>by
  match i,hi with
  | 0,_=>rfl
  | 1,_=>rfl
 have hflat:[s.terms,[]].flatten=s.terms:=by simp
 have hcon:Yf Zuv Zo.id [.sl .full 2 1 (Wy [.nilsl] ([0,1].zip [Yj s.terms,Yj Zbk.terms]))] (st.upd b (.map [])) _:=Yf.leA (LeC.one (hrw.le rfl)) (ZfK [s.terms,[]] (by simp) (by rw [hflat]; omega) _)
 refine Za (Za (Zb (Zc ?_)))
 simp only [Eqs,reduceIte,Zuq,Z3.r4]
 refine ⟨rfl,?_⟩
 refine Yn rfl rfl rfl rfl rfl (by trivial) (by trivial) (by exact hcon) ?_ ?_
 ·rintro d S ⟨hd,rfl⟩
  cases hd
  rw [hflat]
  refine Zc ?_
  simp only [Eqs,reduceIte,Zuq,Yj,slD]
  refine Zj (ZX ?_)
  have key:∀ (n i:Nat),(s.terms.length) - i=n→i≤s.terms.length→ZT F [.code (Z3.l0),.inLoop Z3.l0,.inBlock 0,.code (.seq (.regD [0,1,2,3,4,5,8,6,7,9] Z3.r11 (some [4,9])) (.seq (.block 2 (.seq (qR Z3.r12 [4,9,54]) (qC 54 (.seq (qR Z3.r13 [4,5]) .ret) (.seq (qR Z3.r14 [4,9,65]) (qC 65 (.seq (qR Z3.r15 [4,5]) .ret) .skip))))) (.seq (qR Z3.r16 [4,5]) .ret)))] [(2,.loc 2 0),(3,.loc 3 0),(4,.loc 4 0),(6,.d (.map b)),(24,.d (Yj s.terms)),(25,.d (.int .i64 s.terms.length)),(26,.d (.int .i64 i))] [(2,s.cells),(3,Zbk.cells),(4,[.int .i64 0,.nilsl])] (st.upd b (.map (Zg4 (J5 (s.terms.take i))))):=by
   intro n
   induction n using Nat.strongRecOn with
   | ind n ih_key =>
   intro i hn hi
   refine Za (Zb (Zc ?_))
   simp only [Eqs,reduceIte,Zuq,Z3.r5]
   refine Za (Ze rfl trivial (fun h1=>?_) (fun h1=>?_))
   ·simp at h1
    have hfs:=Zoy h1 hnd
    have hg:=ZjG h1 hnd
    have hf0:=hfz _ (Ki h1)
    have hfr:=hsm.2 _ (Ki h1)
    generalize htm:s.terms.getD i default=tm at *
    generalize J5 (s.terms.take i)=fs at *
    have e1:=Qo (vD:=JS) WP tm.field fs
    have e2:=ZcB (vD:=JS) WP tm.field (0 + tm.factor) fs
    have e3:=Ja WP tm.field
    have e4:=Qo (vD:=JS) WP tm.field (K3 tm.field (0 + tm.factor) fs)
    rw [hg] at e1
    rw [Zbb,if_pos rfl] at e4
    simp only [show JU tm.field=D.str tm.field from rfl,Option.map_some,show JS (0 + tm.factor)=D.int .i64 (0 + tm.factor) from rfl] at e1 e2 e3 e4
    refine Zg (Za (Zj (Za (Zb (Zc ?_)))))
    simp only [Eqs,reduceIte,Zuq,Zur,Zus,Z3.r6,ZuR,Yj,slD,htm]
    repeat (refine Zut (by first | omega | trivial | (intro h0; simp at h0; omega)) ?_)
    refine Za (Zb (Zc ?_))
    simp only [Eqs,reduceIte,Zuq,Z3.r7,e1,e2,ZuB,ZuQ]
    repeat (refine Zut (by first | omega | trivial | (intro h0; simp at h0; omega)) ?_)
    refine Za (Zb (Zc ?_))
    simp only [Eqs,reduceIte,Zuq,Z3.r8,e4,ZuB]
    refine Ze rfl trivial (fun h=>by simp at h; omega) (fun _=>?_)
    refine Zg (Zm (Zb (Zc ?_)))
    simp only [Eqs,reduceIte,Zuq,Z3.r10]
    repeat (refine Zut (by first | omega | trivial | (intro h0; simp at h0; omega)) ?_)
    rw [hfs]
    refine Zy ?_
    exact ih_key ((s.terms.length) - (i + 1)) (by omega) (i + 1) rfl (by omega)
   ·simp at h1
    obtain rfl:i=s.terms.length:=by omega
    rw [ZuH]
    have hnk:((J5 s.terms).map (·.1)).Nodup:=by simpa [J5,Function.comp_def] using hnd
    have hnl:(J5 s.terms).length≤1000:=by simp [J5]; omega
    have hz0:Zbk.base=0:=rfl
    refine ZQ rfl (Za (Wq (ZM ?_)))
    simp only [Eqs,reduceIte,Zuq,Z3.r11,Wu.cells,hz0,Int.add_zero]
    repeat (refine Zut (by first | omega | trivial | (intro h0; simp at h0; omega)) ?_)
    refine Zah rfl rfl rfl rfl rfl (by trivial) (by trivial) (by exact ZkN b (J5 s.terms) hnk hnl _ (ZuB _ _ _)) ?_ ?_
    ·rintro d S ⟨hd,rfl⟩
     cases hd
     rw [ZoO hnd]
     refine ⟨by first | trivial | exact ⟨rfl,rfl,trivial⟩,?_⟩
     refine ZM ?_
     simp only [Eqs,reduceIte,Zuq,Zur,Zus,Yj,slD]
     have hnw:((Zbu s.terms).any fun t=>!Q4 t.factor)=false:=Zfq fun i hi=>by
      have h1:=Ki hi
      have h2:=hsm.2 _ (((Zee s.terms).mem_iff).1 h1)
      simp only [Q4,Bool.not_eq_eq_eq_not,Bool.not_false,ZuA,decide_eq_true_eq]; exact h2
     have hnl4:(Zbu s.terms).length≤4:=by rw [(Zee s.terms).length_eq]; exact hfew
     have hsb:Q4 s.base=true:=by simp [Q4,hsm.1]
     refine Za (Zj (Za (Zb (Zc ?_))))
     simp only [Eqs,reduceIte,Zuq,Z3.r12]
     refine ZW rfl rfl rfl rfl rfl (by trivial) (by trivial) (by exact Zbi s.base) (Zc ?_)
     simp only [Eqs,reduceIte,Zuq,hsb]
     refine KA rfl rfl rfl rfl rfl (fun hcg=>⟨by first | trivial | (simpa [Qu] using hcg),trivial,ZpU (Zbu s.terms)⟩) (Zc ?_)
     simp only [Eqs,reduceIte,Zuq,hnw]
     refine Ze rfl trivial (fun h=>by simp at h) (fun _=>?_)
     refine Za (Zb (Zc ?_))
     simp only [Eqs,reduceIte,Zuq,Z3.r14]
     refine Ze rfl trivial (fun h=>by simp at h; omega) (fun _=>?_)
     refine Zg (Zm (Za (Zb (Zc ?_))))
     simp only [Eqs,reduceIte,Zuq,Zur,Zus,Z3.r16]
     refine hF.ret _ st rfl (by first | trivial | simp) (Qm ?_ rfl) (Zuy _ hb) ⟨rfl,rfl⟩
     rfl
    ·rintro d S ⟨hd,_⟩
     cases hd
  exact key _ 0 rfl (by omega)
 ·rintro d S ⟨hd,_⟩
  cases hd
theorem ZkK (s:Wu) (hv:YN s=false):ZR Zuv Z3.id [.agg s.cells,.agg Zbk.cells] (.tup [.agg Zbk.cells,.int .i64 2]):=by
 refine Z0 Z3.ok fun F st hret=>?_
 refine Za (Zb (Zc ?_))
 simp only [Eqs,reduceCtorEq,reduceIte,Zuq,Zur,Z3.r0,Wu.cells]
 refine Za (Za (Wq (ZM ?_)))
 simp only [Eqs,reduceIte,Zuq,Zur,Zus,Z3.r1]
 refine Kd rfl rfl rfl rfl rfl (by trivial) (by trivial) (by exact JZ s) (ZM ?_)
 simp only [Eqs,reduceIte,hv]
 refine Kd rfl rfl rfl rfl rfl (by trivial) (by trivial) (by exact JZ Zbk) (ZM ?_)
 simp only [Eqs,reduceIte,Zuq]
 refine Kd rfl rfl rfl rfl rfl (by trivial) (by trivial) (by exact ZdX _ _) (ZM ?_)
 simp only [Eqs,reduceIte,Zuq]
 refine Ze rfl trivial (fun _=>?_) (fun h=>by simp at h)
 refine Za (Zb (Zc ?_))
 simp only [Eqs,reduceIte,Zuq,Zur,Zus,Z3.r2]
 refine hret rfl (by first | trivial | simp) (Zel rfl (.cons (Zjk (.cons (Zux _) (.cons (Qa (by simp)) .nil))) (.cons (Zux _) .nil))) (Zuw _)
def Zbd (s:Wu):Wu × Int:=if YN s then (ZdD s,0) else (Zbk,2)
theorem ZfI (s:Wu):ZR Zuv K8.id [.agg s.cells] (.tup [.agg (Zbd s).1.cells,.int .i64 (Zbd s).2]):=by
 refine Z0 K8.ok fun F st hret=>?_
 have hadd:Yf Zuv Z3.id [.agg s.cells,.agg [.int .i64 0,.nilsl]] st fun r S=>r = .ret (.tup [.agg (Zbd s).1.cells,.int .i64 (Zbd s).2])∧S=st:=by
  refine Yf.leA (LeC.two (Zux _) (Zjk (cs':=Zbk.cells) (.cons (Zux _) (.cons (Qa (by simp)) .nil)))) ?_
  unfold Zbd
  cases hv:YN s with
  | true=>exact Zm0 s hv st
  | false=>exact ZkK s hv st
 refine Za (Zb (Zc ?_))
 simp only [Eqs,reduceCtorEq,reduceIte,Zuq,K8.r0,Wu.cells]
 refine Za (Zb (Zc ?_))
 simp only [Eqs,reduceIte,Zuq,Zur,Zus,K8.r1]
 refine Yn rfl rfl rfl rfl rfl (by trivial) (by trivial) (by exact hadd) ?_ ?_
 ·rintro d S ⟨hd,rfl⟩
  cases hd
  refine Zc ?_
  simp only [Eqs,reduceIte,Zuq,Zur,Zus,Wu.cells]
  exact hret rfl (by first | trivial | simp) (Qm rfl rfl) (Zuw _)
 ·rintro d S ⟨hd,_⟩
  cases hd
def inC (n:Int):List D:=[.int .i64 n]
def orS:List Int→Int
 | []=>0
 | x :: r=>if x=0 then orS r else x
theorem Zjx (l:List Int):ZR Zuv Yc.id [slD 1 inC l] (.int .i64 (orS l)):=by
 refine WD Yc.ok fun hwf F st hret=>?_
 have hw:=(QD (hwf (slD 1 inC l) (by simp))).1
 unfold big at hw
 clear hwf
 refine Za (Zb (Zc ?_))
 simp only [Eqs,reduceCtorEq,reduceIte,Yc.r0]
 refine Za (Zb (Zc ?_))
 simp only [Eqs,reduceCtorEq,reduceIte,Yc.r1]
 refine Za (Za (Zb (Zc ?_)))
 simp only [Eqs,reduceCtorEq,reduceIte,Zuq,Yc.r2,slD]
 refine Zj (ZX ?_)
 have key:∀ (n i:Nat),(l.length) - i=n→i≤l.length→orS l=orS (l.drop i)→ZT F [.code (Yc.l0),.inLoop Yc.l0,.inBlock 0,.code (.seq (qR Yc.r8 [2]) .ret)] [(3,.d (.int .i64 0)),(6,.d (slD 1 inC l)),(7,.d (.int .i64 l.length)),(8,.d (.int .i64 i))] [] st:=by
  intro n
  induction n using Nat.strongRecOn with
  | ind n ih_key =>
  intro i hn hi hS
  refine Za (Zb (Zc ?_))
  simp only [Eqs,reduceIte,Zuq,Yc.r3]
  refine Za (Ze rfl trivial (fun h1=>?_) (fun h1=>?_))
  ·simp at h1
   rw [Qf h1,orS] at hS
   generalize hx:l.getD i default=x at *
   refine Zg (Za (Zj (Za (Zb (Zc ?_)))))
   simp only [Eqs,reduceIte,Zuq,Yc.r4,slD,inC,hx]
   repeat (refine Zut (by first | omega | trivial | (intro h0; simp at h0; omega)) ?_)
   refine Za (Zb (Zc ?_))
   simp only [Eqs,reduceIte,Zuq,Yc.r5]
   refine Ze rfl trivial (fun h2=>?_) (fun h2=>?_)
   ·rw [if_neg (by simpa using h2)] at hS
    refine Za (Zb (Zc ?_))
    simp only [Eqs,reduceIte,Zuq,Yc.r6]
    refine hret rfl (by first | trivial | simp) (YG ?_) (by first | exact Zuw _ | exact Zl (by first | trivial | assumption) | assumption | exact Zuy _ (by assumption))
    exact hS.symm
   ·rw [if_pos (by simpa using h2)] at hS
    refine Zg (Zm (Zb (Zc ?_)))
    simp only [Eqs,reduceIte,Zuq,Yc.r7]
    repeat (refine Zut (by first | omega | trivial | (intro h0; simp at h0; omega)) ?_)
    refine Zy ?_
    exact ih_key ((l.length) - (i + 1)) (by omega) (i + 1) rfl (by omega) hS
  ·simp at h1
   obtain rfl:i=l.length:=by omega
   rw [List.drop_length,orS] at hS
   refine ZQ rfl (Za (Zb (Zc ?_)))
   simp only [Eqs,reduceIte,Zuq,Yc.r8]
   refine hret rfl (by first | trivial | simp) (YG ?_) (by first | exact Zuw _ | exact Zl (by first | trivial | assumption) | assumption | exact Zuy _ (by assumption))
   exact hS.symm
 exact key _ 0 rfl (by omega) rfl
theorem Zro (a b:Int):ZR Zuv Yc.id [.sl .full 2 1 (Wy [.int .i64 0] ([0,1].zip [.int .i64 a,.int .i64 b]))] (.int .i64 (if a=0 then b else a)):=by
 have h:YE inC (Wy [.int .i64 0] ([0,1].zip [.int .i64 a,.int .i64 b])) [a,b]:=fun i hi=>by
  match i,hi with
  | 0,_=>rfl
  | 1,_=>rfl
 refine ((Zjx [a,b]).leA (LeC.one (h.le rfl))).le ?_
 simp only [orS]
 split
 ·split
  ·rename_i h; rw [h]
  ·rfl
 ·rfl
theorem ZlJ (a b:Wu):ZR Zuv Kk.id [.agg a.cells,.agg b.cells] (.bool (ZdV a b)):=by
 refine Z0 Kk.ok fun F st hret=>?_
 refine Za (Zb (Zc ?_))
 simp only [Eqs,reduceCtorEq,reduceIte,Zuq,Zur,Kk.r0,Wu.cells]
 refine Za (Zb (Zc ?_))
 simp only [Eqs,reduceIte,Zuq,Zur,Zus,Kk.r1]
 refine ZW rfl rfl rfl rfl rfl (by trivial) (by trivial) (by exact ZfI a) (Zc ?_)
 simp only [Eqs,reduceIte,Zuq,Zur,Zus,Wu.cells,Yj,slD]
 refine Za (Zb (Zc ?_))
 simp only [Eqs,reduceIte,Zuq,Zur,Zus,Kk.r2]
 refine ZW rfl rfl rfl rfl rfl (by trivial) (by trivial) (by exact ZfI b) (Zc ?_)
 simp only [Eqs,reduceIte,Zuq,Zur,Zus,Wu.cells,Yj,slD]
 refine Za (Zb (Zc ?_))
 simp only [Eqs,reduceIte,Zuq,Kk.r3]
 refine ZW rfl rfl rfl rfl rfl (by trivial) (by trivial) (by exact Zro _ _) (Zc ?_)
 simp only [Eqs,reduceIte,Zuq]
 refine KA rfl rfl rfl rfl rfl (fun hcg=>⟨by first | trivial | (simpa [Qu] using hcg),trivial,Zc7 (Zbd a).1.terms (Zbd b).1.terms⟩) (Zc ?_)
 simp only [Eqs,reduceIte,Zuq]
 have hE:ZdV a b=(decide ((if (Zbd a).2=0 then (Zbd b).2 else (Zbd a).2)=0) && decide ((Zbd a).1.base=(Zbd b).1.base) && decide ((Zbd a).1.terms=(Zbd b).1.terms)):=by
  unfold ZdV Zbd
  cases YN a
  ·simp
  ·cases YN b
   ·simp
   ·simp only [if_true,ZuP,decide_true]
    generalize ZdD a=x
    generalize ZdD b=y
    cases x; cases y; simp
 rw [hE] at hret
 refine hret rfl (by first | trivial | simp) (Yk ?_) (by first | exact Zuw _ | exact Zl (by first | trivial | assumption) | assumption | exact Zuy _ (by assumption))
 trivial
end Go.DL
namespace Go.DL
open Go Go.Proofs
theorem ZqA (f:Fld):QZ f=(decide (f.kind=1) || decide (f.kind=2) || decide (f.kind=3)):=by
 unfold QZ
 rw [Bool.eq_iff_iff]
 simp only [ZuA,ZuL,decide_eq_true_eq]
 omega
theorem Zi4 (f:Fld):ZR Zuv Kw.id [.agg f.cells] (.bool (QZ f)):=by
 refine Z0 Kw.ok fun F st hret=>?_
 refine Za (Zb (Zc ?_))
 simp only [Eqs,reduceCtorEq,reduceIte,Zuq,Kw.r0,ZuD]
 refine Za (Zb (Zc ?_))
 simp only [Eqs,reduceIte,Zuq,Kw.r1]
 refine hret rfl (by first | trivial | simp) (Yk ?_) (by first | exact Zuw _ | exact Zl (by first | trivial | assumption) | assumption | exact Zuy _ (by assumption))
 exact (ZqA f).symm
def Zhd (f:Fld):(Int × Int) × Int:=if QZ f then (Kv f,0) else ((0,0),2)
theorem Zki (f:Fld):ZR Zuv Y7.id [.agg f.cells] (.tup [JT (Zhd f).1,.int .i64 (Zhd f).2]):=by
 refine Z0 Y7.ok fun F st hret=>?_
 have hS:=Zhd.eq_1 f
 refine Za (Zb (Zc ?_))
 simp only [Eqs,reduceCtorEq,reduceIte,Zuq,Y7.r0,ZuD]
 refine Za (Zj (Za (Zb (Zc ?_))))
 simp only [Eqs,reduceIte,Zuq,Zur,Zus,Y7.r1]
 refine ZW rfl rfl rfl rfl rfl (by trivial) (by trivial) (by exact Zi4 f) (Zc ?_)
 simp only [Eqs,reduceIte,Zuq]
 refine Ze rfl trivial (fun h1=>?_) (fun h1=>?_)
 ·rw [if_neg (by simpa using h1)] at hS
  refine Za (Zb (Zc ?_))
  simp only [Eqs,reduceIte,Zuq,Zur,Zus,Y7.r2]
  refine hret rfl (by first | trivial | simp) (Qm ?_ rfl) (Zuw _)
  rw [hS]; rfl
 ·rw [if_pos (by simpa using h1)] at hS
  refine Za (Zb (Zc ?_))
  simp only [Eqs,reduceIte,Zuq,Y7.r3]
  refine Ze rfl trivial (fun h2=>?_) (fun h2=>?_)
  ·refine Za (Zb (Zc ?_))
   simp only [Eqs,reduceIte,Zuq,Zur,Zus,Y7.r4]
   refine hret rfl (by first | trivial | simp) (Qm ?_ rfl) (Zuw _)
   rw [hS,Kv,if_pos (by simpa using h2)]; rfl
  ·refine Zg (Zm (Za (Zb (Zc ?_))))
   simp only [Eqs,reduceIte,Zuq,Zur,Zus,Y7.r5]
   refine hret rfl (by first | trivial | simp) (Qm ?_ rfl) (Zuw _)
   rw [hS,Kv,if_neg (by simpa using h2)]; rfl
def Jo (fs:List Fld):Nat→ZiN
 | 0=>[]
 | i + 1=>if QZ (fs.getD i default) then K3 (fs.getD i default).name (Kv (fs.getD i default)) (Jo fs i) else Jo fs i
theorem Zcp (fs:List Fld) (st:St):Yf Zuv ZZ.id [Yo fs] st fun r S=>∃ b,st b=none∧r = .ret (.map b)∧S=st.upd b (.map (Zao (Jo fs fs.length))):=by
 refine Zdx ZZ.ok fun hwf F hF=>?_
 have hw:=(ZgY (hwf (Yo fs) (by simp))).1
 unfold big at hw
 clear hwf
 refine Za (Zb (Zc ?_))
 simp only [Eqs,reduceCtorEq,reduceIte,ZZ.r0]
 refine Za (Zb (Zc ?_))
 simp only [Eqs,reduceCtorEq,reduceIte,Zuq,ZZ.r1]
 intro b hb
 refine Za (Za (Zb (Zc ?_)))
 simp only [Eqs,reduceCtorEq,reduceIte,Zuq,ZZ.r2,Yo,slD]
 refine Zj (ZX ?_)
 have key:∀ (n i:Nat),(fs.length) - i=n→i≤fs.length→ZT F [.code (ZZ.l0),.inLoop ZZ.l0,.inBlock 0,.code (.seq (qR ZZ.r9 [2]) .ret)] [(3,.d (.map b)),(9,.d (Yo fs)),(10,.d (.int .i64 fs.length)),(11,.d (.int .i64 i))] [] (st.upd b (.map (Zao (Jo fs i)))):=by
  intro n
  induction n using Nat.strongRecOn with
  | ind n ih_key =>
  intro i hn hi
  refine Za (Zb (Zc ?_))
  simp only [Eqs,reduceIte,Zuq,ZZ.r3]
  refine Za (Ze rfl trivial (fun h1=>?_) (fun h1=>?_))
  ·simp at h1
   have hsn:Jo fs (i + 1)=if QZ (fs.getD i default) then K3 (fs.getD i default).name (Kv (fs.getD i default)) (Jo fs i) else Jo fs i:=rfl
   generalize hf:fs.getD i default=f at *
   have hP:=Zhd.eq_1 f
   refine Zg (Za (Zj (Za (Zb (Zc ?_)))))
   simp only [Eqs,reduceIte,Zuq,Zur,Zus,ZZ.r4,Yo,slD,ZuD,hf]
   repeat (refine Zut (by first | omega | trivial | (intro h0; simp at h0; omega)) ?_)
   refine Za (Zb (Zc ?_))
   simp only [Eqs,reduceIte,Zuq,Zur,Zus,ZZ.r5]
   refine ZW rfl rfl rfl rfl rfl (by trivial) (by trivial) (by exact Zki f) (Zc ?_)
   simp only [Eqs,reduceIte,Zuq,Zur,Zus,JT]
   refine Za (Zb (Zc ?_))
   simp only [Eqs,reduceIte,Zuq,ZZ.r6]
   refine Ze rfl trivial (fun h2=>?_) (fun h2=>?_)
   ·have hnum:QZ f=true:=by
     cases hx:QZ f with
     | true=>rfl
     | false=>rw [hP,hx] at h2; simp at h2
    rw [if_pos hnum] at hP hsn
    have e2:=ZcB (vD:=JT) WP f.name (Kv f) (Jo fs i)
    have e3:=Ja WP f.name
    simp only [show JU f.name=D.str f.name from rfl,show JT (Kv f)=D.agg [.int .i64 (Kv f).1,.int .i64 (Kv f).2] from rfl] at e2 e3
    have hP1:(Zhd f).1=Kv f:=by rw [hP]
    refine Zb (Zc ?_)
    simp only [Eqs,reduceIte,Zuq,Zur,Zus,ZZ.r7,hP1,e2,ZuB,ZuQ]
    refine Zm (Zb (Zc ?_))
    simp only [Eqs,reduceIte,Zuq,ZZ.r8]
    repeat (refine Zut (by first | omega | trivial | (intro h0; simp at h0; omega)) ?_)
    rw [← hsn]
    refine Zy ?_
    exact ih_key ((fs.length) - (i + 1)) (by omega) (i + 1) rfl (by omega)
   ·have hnum:QZ f=false:=by
     cases hx:QZ f with
     | true=>rw [hP,hx] at h2; simp at h2
     | false=>rfl
    rw [if_neg (by rw [hnum]; simp)] at hsn
    refine Zg (Zm (Zb (Zc ?_)))
    simp only [Eqs,reduceIte,Zuq,ZZ.r8]
    repeat (refine Zut (by first | omega | trivial | (intro h0; simp at h0; omega)) ?_)
    rw [← hsn]
    refine Zy ?_
    exact ih_key ((fs.length) - (i + 1)) (by omega) (i + 1) rfl (by omega)
  ·simp at h1
   obtain rfl:i=fs.length:=by omega
   refine ZQ rfl (Za (Zb (Zc ?_)))
   simp only [Eqs,reduceIte,Zuq,ZZ.r9]
   exact hF.ret _ _ rfl (by trivial) (Zux _) (Zuw _) ⟨b,hb,rfl,rfl⟩
 exact key _ 0 rfl (by omega)
theorem Zi5 (m:Msg) (st:St):Yf Zuv Kx.id [.agg m.cells] st fun r S=>∃ b,st b=none∧r = .ret (.map b)∧S=st.upd b (.map (Zao (Jo m.fields m.fields.length))):=by
 refine Z2 Kx.ok fun F hF=>?_
 refine Za (Zb (Zc ?_))
 simp only [Eqs,reduceCtorEq,reduceIte,Zuq,Kx.r0,ZuG]
 refine Za (Zb (Zc ?_))
 simp only [Eqs,reduceIte,Zuq,Kx.r1]
 refine Yn rfl rfl rfl rfl rfl (by trivial) (by trivial) (by exact Zcp m.fields st) ?_ ?_
 ·rintro d S ⟨b,hb,hd,rfl⟩
  cases hd
  refine Zc ?_
  simp only [Eqs,reduceIte,Zuq]
  exact hF.ret _ _ rfl (by trivial) (Zux _) (Zuw _) ⟨b,hb,rfl,rfl⟩
 ·rintro d S ⟨b,hb,hd,_⟩
  cases hd
end Go.DL
namespace Go.DL
open Go Go.Proofs
theorem ZeS (l:List Msg) (f:D) (p:Msg→Bool) (sts:Nat→St)
  (hf:∀ i,i < l.length→VT Zuv f [.agg (l.getD i default).cells] (sts i) (.bool (p (l.getD i default))) (sts (i + 1))) :
  Y3 Zuv YI.id [slD 2 ZuG l,f] (sts 0) (.tup [.int .i64 (max (Z7 p l) 0),.bool (decide (0≤Z7 p l))]) (sts (JN p l)):=by
 refine Y4 YI.ok fun hwf F hret=>?_
 clear hwf
 refine Za (Zb (Zc ?_))
 simp only [Eqs,reduceCtorEq,reduceIte,Zuq,Zur,YI.r0]
 refine Za (Zb (Zc ?_))
 simp only [Eqs,reduceCtorEq,reduceIte,Zuq,YI.r1]
 refine Wn rfl rfl rfl rfl rfl (by trivial) (by trivial) (by exact Zd1 l f p sts hf) (Zc ?_)
 simp only [Eqs,reduceCtorEq,reduceIte,Zuq]
 refine Za (Zb (Zc ?_))
 simp only [Eqs,reduceIte,Zuq,YI.r2]
 exact hret rfl (by trivial) (Qm rfl rfl) (Zuw _)
theorem ZfH (l:List Fld) (f:D) (p:Fld→Bool) (sts:Nat→St)
  (hf:∀ i,i < l.length→VT Zuv f [.agg (l.getD i default).cells] (sts i) (.bool (p (l.getD i default))) (sts (i + 1))) :
  Y3 Zuv YY.id [slD 15 ZuD l,f] (sts 0) (.tup [.int .i64 (max (Z7 p l) 0),.bool (decide (0≤Z7 p l))]) (sts (JN p l)):=by
 refine Y4 YY.ok fun hwf F hret=>?_
 clear hwf
 refine Za (Zb (Zc ?_))
 simp only [Eqs,reduceCtorEq,reduceIte,Zuq,Zur,YY.r0]
 refine Za (Zb (Zc ?_))
 simp only [Eqs,reduceCtorEq,reduceIte,Zuq,YY.r1]
 refine Wn rfl rfl rfl rfl rfl (by trivial) (by trivial) (by exact Zbx l f p sts hf) (Zc ?_)
 simp only [Eqs,reduceCtorEq,reduceIte,Zuq]
 refine Za (Zb (Zc ?_))
 simp only [Eqs,reduceIte,Zuq,YY.r2]
 exact hret rfl (by trivial) (Qm rfl rfl) (Zuw _)
theorem Zge (l:List WK) (f:D) (p:WK→Bool) (sts:Nat→St)
  (hf:∀ i,i < l.length→VT Zuv f [.agg (l.getD i default).cells] (sts i) (.bool (p (l.getD i default))) (sts (i + 1))) :
  Y3 Zuv Wc.id [slD 3 WK.cells l,f] (sts 0) (.tup [.int .i64 (max (Z7 p l) 0),.bool (decide (0≤Z7 p l))]) (sts (JN p l)):=by
 refine Y4 Wc.ok fun hwf F hret=>?_
 clear hwf
 refine Za (Zb (Zc ?_))
 simp only [Eqs,reduceCtorEq,reduceIte,Zuq,Zur,Wc.r0]
 refine Za (Zb (Zc ?_))
 simp only [Eqs,reduceCtorEq,reduceIte,Zuq,Wc.r1]
 refine Wn rfl rfl rfl rfl rfl (by trivial) (by trivial) (by exact ZeM l f p sts hf) (Zc ?_)
 simp only [Eqs,reduceCtorEq,reduceIte,Zuq]
 refine Za (Zb (Zc ?_))
 simp only [Eqs,reduceIte,Zuq,Wc.r2]
 exact hret rfl (by trivial) (Qm rfl rfl) (Zuw _)
theorem Zi3 (x:Msg) (s:Str) (b:Nat) (st:St) (hb:st b=some (.cells [.str s])):Y3 Zuv Kh.id [.agg x.cells,.ptr b 0] st (.bool (decide (x.name=s))) st:=by
 refine Y4 Kh.ok fun hwf F hret=>?_
 clear hwf
 refine Za (Zb (Zc ?_))
 simp only [Eqs,reduceCtorEq,reduceIte,Zuq,Zur,Kh.r0,ZuG]
 refine Za (Zb (Zc ?_))
 simp only [Eqs,reduceIte,Zuq,Kh.r1,hb]
 exact hret rfl (by trivial) (Zux _) (Zuw _)
theorem Zid (x:Fld) (s:Str) (b:Nat) (st:St) (hb:st b=some (.cells [.str s])):Y3 Zuv Ka.id [.agg x.cells,.ptr b 0] st (.bool (decide (x.name=s))) st:=by
 refine Y4 Ka.ok fun hwf F hret=>?_
 clear hwf
 refine Za (Zb (Zc ?_))
 simp only [Eqs,reduceCtorEq,reduceIte,Zuq,Zur,Ka.r0,ZuD]
 refine Za (Zb (Zc ?_))
 simp only [Eqs,reduceIte,Zuq,Ka.r1,hb]
 exact hret rfl (by trivial) (Zux _) (Zuw _)
theorem ZfF (d:Dfn) (s:Str):ZR Zuv K7.id [.agg d.cells,.str s] (.tup [.int .i64 (max (Z7 (fun x=>decide (x.name=s)) d.msgs) 0),.bool (decide (0≤Z7 (fun x=>decide (x.name=s)) d.msgs))]):=by
 refine Z0 K7.ok fun F st hret=>?_
 refine Za (Zb (Zc ?_))
 simp only [Eqs,reduceCtorEq,reduceIte,Zuq,Zur,K7.r0,ZuM]
 refine Za ?_
 refine YJ 3 rfl fun b hb=>?_
 simp only [reduceIte,Zuq,YU,WM,delL]
 refine Zb (Zc ?_)
 simp only [Eqs,reduceIte,Zuq,K7.r1]
 refine Wn rfl rfl rfl rfl rfl (by trivial) (by trivial) (by exact ZeS d.msgs (.fn (.func Kh.id) [] [.ptr b 0]) (fun x=>decide (x.name=s)) (fun _=>st.upd b (.cells [.str s])) (fun i hi=>(Zi3 _ s b _ (ZuB _ _ _)).VT (first:=[]) (args:=[_]) (caps:=[_]))) (Zc ?_)
 simp only [Eqs,reduceIte,Zuq]
 exact hret rfl (by trivial) (Qm rfl rfl) (Zuy _ hb)
theorem Ze3 (d:Msg) (s:Str):ZR Zuv KM.id [.agg d.cells,.str s] (.tup [.int .i64 (max (Z7 (fun x=>decide (x.name=s)) d.fields) 0),.bool (decide (0≤Z7 (fun x=>decide (x.name=s)) d.fields))]):=by
 refine Z0 KM.ok fun F st hret=>?_
 refine Za (Zb (Zc ?_))
 simp only [Eqs,reduceCtorEq,reduceIte,Zuq,Zur,KM.r0,ZuG]
 refine Za ?_
 refine YJ 3 rfl fun b hb=>?_
 simp only [reduceIte,Zuq,YU,WM,delL]
 refine Zb (Zc ?_)
 simp only [Eqs,reduceIte,Zuq,KM.r1]
 refine Wn rfl rfl rfl rfl rfl (by trivial) (by trivial) (by exact ZfH d.fields (.fn (.func Ka.id) [] [.ptr b 0]) (fun x=>decide (x.name=s)) (fun _=>st.upd b (.cells [.str s])) (fun i hi=>(Zid _ s b _ (ZuB _ _ _)).VT (first:=[]) (args:=[_]) (caps:=[_]))) (Zc ?_)
 simp only [Eqs,reduceIte,Zuq]
 exact hret rfl (by trivial) (Qm rfl rfl) (Zuy _ hb)
theorem Zi2 (c:WK) (tag:Int) (b:Nat) (st:St) (hb:st b=some (.cells [.int .i64 tag])):Y3 Zuv Kg.id [.agg c.cells,.ptr b 0] st (.bool (decide (c.low≤tag) && decide (tag≤c.high))) st:=by
 refine Y4 Kg.ok fun hwf F hret=>?_
 clear hwf
 refine Za (Zb (Zc ?_))
 simp only [Eqs,reduceCtorEq,reduceIte,Zuq,Zur,Kg.r0,WK.cells]
 refine Za (Zb (Zc ?_))
 simp only [Eqs,reduceIte,Zuq,Kg.r1,hb]
 exact hret rfl (by trivial) (Zux _) (Zuw _)
theorem ZkH (f:Fld) (tag:Int):ZR Zuv K6.id [.agg f.cells,.int .i64 tag] (.tup [.int .i64 (max (Zec f tag) 0),.bool (decide (0≤Zec f tag))]):=by
 refine Z0 K6.ok fun F st hret=>?_
 refine Za (Zb (Zc ?_))
 simp only [Eqs,reduceCtorEq,reduceIte,Zuq,Zur,K6.r0,ZuD]
 refine Za ?_
 refine YJ 3 rfl fun b hb=>?_
 simp only [reduceIte,Zuq,YU,WM,delL]
 refine Zb (Zc ?_)
 simp only [Eqs,reduceIte,Zuq,K6.r1]
 refine Wn rfl rfl rfl rfl rfl (by trivial) (by trivial) (by exact Zge f.cases (.fn (.func Kg.id) [] [.ptr b 0]) (fun c=>decide (c.low≤tag) && decide (tag≤c.high)) (fun _=>st.upd b (.cells [.int .i64 tag])) (fun i hi=>(Zi2 _ tag b _ (ZuB _ _ _)).VT (first:=[]) (args:=[_]) (caps:=[_]))) (Zc ?_)
 simp only [Eqs,reduceIte,Zuq]
 exact hret rfl (by trivial) (Qm rfl rfl) (Zuy _ hb)
end Go.DL
namespace Go.DL
open Go Go.Proofs
structure Ck where
 d:Dfn
 at_:Int
 field:Int
 m:Msg
def Ck.cells (k:Ck) (bd bs:Nat):List D:=[.str k.d.name,We k.d.msgs,.str k.d.start,.map bd,.map bs,.int .i64 k.at_,.int .i64 k.field,.str k.m.name,Yo k.m.fields]
structure JX (st:St) (x bd bs:Nat) (k:Ck) (dl:List (Str × Int)) (sl:List (Str × Bool)):Prop where
 x:st x=some (.cells (k.cells bd bs))
 bd:st bd=some (.map (Zg4 dl))
 bs:st bs=some (.map (Zeb sl))
theorem JX.mono {st A:St} {x bd bs:Nat} {k:Ck} {dl:List (Str × Int)} {sl:List (Str × Bool)} (h:JX st x bd bs k dl sl) (hs:st.sub A):JX A x bd bs k dl sl:=⟨hs _ _ h.x,hs _ _ h.bd,hs _ _ h.bs⟩
def ZdJ (d:D):Prop:=∃ a f c,d = .iface 72 (.agg [.int .i64 a,.int .i64 f,.int .i64 c])
def QL (ok:Bool) (st:St) (r:Res) (S:St):Prop:=S=st∧if ok then r = .ret (.tup []) else ∃ d,ZdJ d∧r = .panic d
theorem KK {ok:Bool} {st S:St} {d:D} (h:QL ok st (.ret d) S):ok=true∧d = .tup []∧S=st:=by
 obtain ⟨h1,h2⟩:=h
 cases ok with
 | true=>simp at h2; exact ⟨rfl,h2,h1⟩
 | false=>simp at h2
theorem KJ {ok:Bool} {st S:St} {d:D} (h:QL ok st (.panic d) S):ok=false∧ZdJ d∧S=st:=by
 obtain ⟨h1,h2⟩:=h
 cases ok with
 | true=>simp at h2
 | false=>simp at h2; exact ⟨rfl,h2,h1⟩
theorem ZbZ {ok:Bool} {st:St} (h:ok=true):QL ok st (.ret (.tup [])) st:=by subst h; exact ⟨rfl,rfl⟩
theorem Qy {ok:Bool} {st:St} {d:D} (h:ok=false) (hd:ZdJ d):QL ok st (.panic d) st:=by subst h; exact ⟨rfl,d,hd,rfl⟩
def ZhO (a f c:Int):D:=.iface 72 (.agg [.int .i64 a,.int .i64 f,.int .i64 c])
theorem Zmv (a f c:Int):ZdJ (ZhO a f c):=⟨a,f,c,rfl⟩
theorem Ze4 {x bd bs:Nat} {k:Ck} {st:St} (hx:st x=some (.cells (k.cells bd bs))) (fine:Bool) (code:Int):Yf Zuv Wa.id [.ptr x 0,.bool fine,.int .i64 code] st (fun r S=>S=st∧r=if fine then .ret (.tup []) else .panic (ZhO k.at_ k.field code)):=by
 refine Z2 Wa.ok fun F hF=>?_
 refine Za (Zb (Zc ?_))
 simp only [Eqs,reduceCtorEq,reduceIte,Zuq,Zur,Wa.r0]
 refine Ze rfl trivial (fun h=>?_) (fun h=>?_)
 ·have hf:fine=false:=by simpa using h
  refine WB (Wj ?_)
  simp only [Eqs,reduceCtorEq,reduceIte,Zuq,Zur,Zus,Wa.r1,hx,Ck.cells]
  refine Zod rfl rfl rfl trivial ?_
  exact hF.pan st (Zuw _) ⟨rfl,by rw [hf]; rfl⟩
 ·have hf:fine=true:=by simpa using h
  refine Zg ?_
  exact hF.fin (.tup []) st rfl trivial (Zux _) (Zuw _) ⟨rfl,by rw [hf]; rfl⟩
theorem Wm {x bd bs:Nat} {k:Ck} {st:St} (hx:st x=some (.cells (k.cells bd bs))) (fine:Bool) (code:Int):Yf Zuv Wa.id [.ptr x 0,.bool fine,.int .i64 code] st (QL fine st) :=
 (Ze4 hx fine code).mono fun r S ⟨h1,h2⟩=>by
  subst h1
  cases fine with
  | true=>exact ⟨rfl,h2⟩
  | false=>exact ⟨rfl,_,Zmv _ _ _,h2⟩
theorem ZiZ (o:Option Int):JD (.int .i64 0) true (o.map JS) = .tup [.int .i64 (o.getD 0),.bool o.isSome]:=by cases o <;> rfl
theorem ZjZ (o:Option (Int × Int)):JD (.agg [.int .i64 0,.int .i64 0]) true (o.map JT) = .tup [.agg [.int .i64 (o.getD (0,0)).1,.int .i64 (o.getD (0,0)).2],.bool o.isSome]:=by cases o <;> rfl
theorem Zc3 {x bd bs:Nat} {k:Ck} {dl:List (Str × Int)} {sl:List (Str × Bool)} {st:St} (hst:JX st x bd bs k dl sl) (name:Str):Yf Zuv Wb.id [.ptr x 0,.str name] st (QL (Z8 name dl).isSome st):=by
 refine Z2 Wb.ok fun F hF=>?_
 have e1:=Qo (vD:=JS) WP name dl
 have e3:=Ja WP name
 simp only [show JU name=D.str name from rfl] at e1 e3
 refine Za (Zb (Zc ?_))
 simp only [Eqs,reduceCtorEq,reduceIte,Zuq,Zur,Wb.r0,hst.x,hst.bd,Ck.cells,e1,ZiZ]
 refine Zb (Zc ?_)
 simp only [Eqs,reduceCtorEq,reduceIte,Zuq,Wb.r1]
 refine Yn rfl rfl rfl rfl rfl (by trivial) (by trivial) (by exact Wm hst.x (Z8 name dl).isSome 8) ?_ ?_
 ·rintro d S h
  obtain ⟨hok,rfl,rfl⟩:=KK h
  refine Zc ?_
  simp only [Eqs]
  exact hF.fin (.tup []) S rfl trivial (Zux _) (Zuw _) (ZbZ hok)
 ·rintro d S h
  obtain ⟨hok,hfl,rfl⟩:=KJ h
  exact hF.pan S (Zuw _) (Qy hok hfl)
theorem Zas {x bd bs:Nat} {k:Ck} {st:St} (hx:st x=some (.cells (k.cells bd bs))) {n:Nat} (hn:k.field=n) (hl:n≤k.m.fields.length):Y3 Zuv Y1.id [.ptr x 0] st (Yo (k.m.fields.take n)) st:=by
 refine Y4 Y1.ok fun hwf F hret=>?_
 clear hwf
 refine Za (Zb (Zc ?_))
 simp only [Eqs,reduceCtorEq,reduceIte,Y1.r0]
 refine Za (WB (Wj ?_))
 simp only [Eqs,reduceCtorEq,reduceIte,Zuq,Zur,Y1.r1,hx,Ck.cells,Yo,slD,hn]
 refine ⟨by omega,by omega,by omega,?_⟩
 rw [ite_self]
 have hrow:YE ZuD (fun i=>(k.m.fields.getD i default).cells) (k.m.fields.take n):=YE.self.take n
 exact hret rfl (by trivial) (Zac (hrow.le (by rw [List.length_take]; omega))) (Zuw _)
def Kz:Int→Int→List Int→Bool
 | _,_,[]=>true
 | low,high,n :: r=>decide (low≤n) && decide (n≤high) && Kz n high r
theorem ZeI {x bd bs:Nat} {k:Ck} {st:St} (hx:st x=some (.cells (k.cells bd bs))) (low high:Int) (l:List Int):Yf Zuv ZN.id [.ptr x 0,.int .i64 low,.int .i64 high,slD 1 inC l] st (QL (Kz low high l) st):=by
 refine Zdx ZN.ok fun hwf F hF=>?_
 have hw:=(QD (hwf (slD 1 inC l) (by simp))).1
 unfold big at hw
 clear hwf
 refine Za (Zb (Zc ?_))
 simp only [Eqs,reduceCtorEq,reduceIte,Zuq,Zur,ZN.r0,slD]
 refine Zj (ZX ?_)
 have key:∀ (n i:Nat),(l.length) - i=n→∀ lo,Kz low high l=Kz lo high (l.drop i)→i≤l.length→ZT F [.code (ZN.l0),.inLoop ZN.l0,.inBlock 0] [(0,.d (.ptr x 0)),(1,.d (.int .i64 lo)),(2,.d (.int .i64 high)),(10,.d (slD 1 inC l)),(11,.d (.int .i64 l.length)),(12,.d (.int .i64 i))] [] st:=by
  intro n
  induction n using Nat.strongRecOn with
  | ind n ih_key =>
  intro i hn lo hS hi
  refine Za (Zb (Zc ?_))
  simp only [Eqs,reduceCtorEq,reduceIte,Zuq,ZN.r1]
  refine Za (Ze rfl trivial (fun h1=>?_) (fun h1=>?_))
  ·simp at h1
   rw [Qf h1,Kz] at hS
   generalize hv:l.getD i default=v at *
   refine Zg (Za (Zj (Za (Zb (Zc ?_)))))
   simp only [Eqs,reduceCtorEq,reduceIte,Zuq,ZN.r2,slD,inC,hv]
   repeat (refine Zut (by first | omega | trivial | (intro h0; simp at h0; omega)) ?_)
   refine Za (Zb (Zc ?_))
   simp only [Eqs,reduceCtorEq,reduceIte,Zuq,ZN.r3]
   refine Yn rfl rfl rfl rfl rfl (by trivial) (by trivial) (by exact Wm hx (decide (lo≤v) && decide (v≤high)) 7) ?_ ?_
   ·rintro d S h
    obtain ⟨hok,rfl,rfl⟩:=KK h
    rw [hok,ZuP] at hS
    refine Zc ?_
    simp only [Eqs,reduceCtorEq,reduceIte,Zuq]
    refine Zb (Zc ?_)
    simp only [Eqs,reduceCtorEq,reduceIte,Zuq,ZN.r4]
    refine Zm (Zb (Zc ?_))
    simp only [Eqs,reduceCtorEq,reduceIte,Zuq,ZN.r5]
    repeat (refine Zut (by first | omega | trivial | (intro h0; simp at h0; omega)) ?_)
    refine Zy ?_
    exact ih_key ((l.length) - (i + 1)) (by omega) (i + 1) rfl v hS (by omega)
   ·rintro d S h
    obtain ⟨hok,hfl,rfl⟩:=KJ h
    rw [hok,Bool.false_and] at hS
    exact hF.pan S (Zuw _) (Qy hS hfl)
  ·simp at h1
   obtain rfl:i=l.length:=by omega
   rw [List.drop_length,Kz] at hS
   refine ZQ rfl ?_
   exact hF.fin (.tup []) st rfl trivial (Zux _) (Zuw _) (ZbZ hS)
 exact key _ 0 rfl low rfl (by omega)
def Zdy (f:Fld):Bool:=decide (1≤f.bits) && decide (f.bits≤32) && (!f.little || (decide (8 < f.bits) && decide (f.bits.tmod 8=0)))
theorem ZfG {x bd bs:Nat} {k:Ck} {st:St} (hx:st x=some (.cells (k.cells bd bs))) (f:Fld):Yf Zuv Wl.id [.ptr x 0,.agg f.cells] st (QL (Zdy f) st):=by
 refine Z2 Wl.ok fun F hF=>?_
 refine Za (Zb (Zc ?_))
 simp only [Eqs,reduceCtorEq,reduceIte,Zuq,Zur,Wl.r0,ZuD]
 refine Zb (Zc ?_)
 simp only [Eqs,reduceCtorEq,reduceIte,Zuq,Wl.r1]
 have ht1:=Int.tmod_lt_of_pos f.bits (by decide:(0:Int) < 8)
 have ht2:=Int.lt_tmod_of_pos f.bits (by decide:(0:Int) < 8)
 refine ⟨fun _=>⟨by decide,by omega,by omega⟩,?_⟩
 refine Yn rfl rfl rfl rfl rfl (by trivial) (by trivial) (by exact Wm hx (Zdy f) 6) ?_ ?_
 ·rintro d S h
  obtain ⟨hok,rfl,rfl⟩:=KK h
  refine Zc ?_
  simp only [Eqs]
  exact hF.fin (.tup []) S rfl trivial (Zux _) (Zuw _) (ZbZ hok)
 ·rintro d S h
  obtain ⟨hok,hfl,rfl⟩:=KJ h
  exact hF.pan S (Zuw _) (Qy hok hfl)
end Go.DL
namespace Go.DL
open Go Go.Proofs
abbrev JF (fs:List Fld):ZiN:=Jo fs fs.length
abbrev ivP (fs:List Fld) (s:Wu):Int × Int × Int:=Km s fun k=>Z8 k (JF fs)
def ZcU (fs:List Fld) (t:Z5):Bool:=(Z8 t.field (JF fs)).isSome
def ZeK (fs:List Fld) (s:Wu):Bool:=YN s && (s.terms.all (ZcU fs) && (decide ((ivP fs s).2.2=0) && decide (0≤(ivP fs s).1) && decide ((ivP fs s).2.1≤1048576)))
theorem Zc4 {x bd bs:Nat} {k:Ck} {st:St} (hx:st x=some (.cells (k.cells bd bs))) {n:Nat} (hn:k.field=n) (hl:n≤k.m.fields.length) (f:Fld) :
  Yf Zuv ZE.id [.ptr x 0,.agg f.cells] st (QL (ZeK (k.m.fields.take n) f.size) st):=by
 refine Z2 ZE.ok fun F hF=>?_
 have hS:=ZeK.eq_1 (k.m.fields.take n) f.size
 generalize hfs:k.m.fields.take n=fs at *
 refine Za (Zb (Zc ?_))
 simp only [Eqs,reduceCtorEq,reduceIte,Zuq,Zur,ZE.r0,ZuD]
 refine Za (Wq (ZM ?_))
 simp only [Eqs,reduceIte,Zuq,Zur,Zus,ZE.r1]
 have hsz:D.agg [D.int IntKind.i64 f.size.base,Yj f.size.terms] = .agg f.size.cells:=rfl
 simp only [hsz]
 refine Kd rfl rfl rfl rfl rfl (by trivial) (by trivial) (by exact JZ f.size) (ZM ?_)
 simp only [Eqs,reduceIte]
 refine Zah rfl rfl rfl rfl rfl (by trivial) (by trivial) (by exact Wm hx (YN f.size) 9) ?_ ?_
 ·rintro d S h
  obtain ⟨hv,rfl,rfl⟩:=KK h
  rw [hv,ZuP] at hS
  first | refine ⟨by first | trivial | exact ⟨rfl,rfl,trivial⟩ | exact ⟨rfl,trivial⟩,?_⟩ | skip
  refine ZM ?_
  simp only [Eqs,reduceIte,Zuq]
  refine Za (Zb (Zc ?_))
  simp only [Eqs,reduceIte,Zuq,ZE.r2]
  refine Wn rfl rfl rfl rfl rfl (by trivial) (by trivial) (by exact Zas hx hn hl) (Zc ?_)
  simp only [Eqs,hfs]
  refine Yn rfl rfl rfl rfl rfl (by trivial) (by trivial) (by exact Zcp fs S) ?_ ?_
  ·rintro d S' ⟨b,hb,hd,rfl⟩
   cases hd
   refine Zc ?_
   simp only [Eqs,reduceIte,Zuq,Zus]
   refine Za (Za ?_)
   refine YJ 2 rfl fun z2 h2=>?_
   simp only [reduceIte,Zuq,YU,WM,delL]
   refine YJ 4 rfl fun z4 h4=>?_
   simp only [reduceIte,Zuq,YU,WM,delL]
   have k2:=Wp h2
   have k4:=Wp h4
   have k4a:=Wp k4.2
   have hxb:x≠b:=fun e=>by rw [e,hb] at hx; simp at hx
   have hx2:x≠z2:=fun e=>by rw [e,k2.2] at hx; simp at hx
   have hx4:x≠z4:=fun e=>by rw [e,k4a.2] at hx; simp at hx
   obtain ⟨A,hA⟩:∃ A,A=((S.upd b (.map (Zao (Jo fs fs.length)))).upd z2 (.cells [.ptr x 0])).upd z4 (.cells [.map b]):=⟨_,rfl⟩
   have gx:A x=some (.cells (k.cells bd bs)):=by rw [hA,ZuE _ _ hx4,ZuE _ _ hx2,ZuE _ _ hxb]; exact hx
   have gb:A b=some (.map (Zao (JF fs))):=by rw [hA,ZuE _ _ k4a.1.symm,ZuE _ _ k2.1.symm]; exact ZuB _ _ _
   have g2:A z2=some (.cells [.ptr x 0]):=by rw [hA,ZuE _ _ k4.1.symm]; exact ZuB _ _ _
   have g4:A z4=some (.cells [.map b]):=by rw [hA]; exact ZuB _ _ _
   have hSA:S.sub A:=by rw [hA]; exact ZuK (Zuy _ hb) (ZuK (Zuy _ h2) (Zuy _ h4))
   rw [← hA]
   clear hA h2 h4 k2 k4 k4a
   refine Zb (Zc ?_)
   simp only [Eqs,reduceIte,Zuq,Zur,Zus,ZE.r3]
   simp only [hsz]
   have hfew:=Zbj hv
   refine Yn rfl rfl rfl rfl rfl (by trivial) (by trivial) (by exact Zgz f.size hv _) ?_ ?_
   ·rintro d S' ⟨y,hy,hd,rfl⟩
    cases hd
    refine Zc ?_
    simp only [Eqs,reduceIte,Zuq]
    refine Zj ?_
    refine ZbQ hF rfl trivial [2,4] (by show ([2,4]:List Nat).Nodup; decide) (J9 hy) (Ze6 f.size.terms (by unfold big; omega) y) (fun j hj=>rfl)
     (fun j=>if ZcU fs (f.size.terms.getD j default) then .next else .pan (ZhO k.at_ k.field 8)) (fun j a=>a=A) rfl ?_ ?_ ?_ ?_ ?_ ?_
    ·intro j a hj hno hB F' ready busy hdr hbeg hend
     subst hB
     simp only [Eqs,reduceIte,Zuq,ZaE,Zbe,Zcf,ZaK,List.isEmpty_nil]
     refine Zb (Zc ?_)
     simp only [Eqs,reduceIte,Zuq,ZE.r4]
     refine hbeg fun hdb=>?_
     generalize htm:f.size.terms.getD j default=tm at *
     have e1:=Qo (vD:=JT) WP tm.field (JF fs)
     have e3:=Ja WP tm.field
     simp only [show JU tm.field=D.str tm.field from rfl] at e1 e3
     refine Zj (Za (Zb (Zc ?_)))
     simp only [Eqs,reduceIte,Zuq,Zur,Zus,ZE.r5,Yv g4,Yv gb,e1,ZjZ]
     refine Zb (Zc ?_)
     simp only [Eqs,reduceIte,Zuq,ZE.r6,Yv g2]
     refine Yn rfl rfl rfl rfl rfl (by trivial) (by trivial) (by exact Ze4 (st:=a.or busy) (Yv gx) (Z8 tm.field (JF fs)).isSome 8) ?_ ?_
     ·rintro d S' ⟨rfl,h⟩
      cases hk:(Z8 tm.field (JF fs)).isSome with
      | false=>rw [hk] at h; simp at h
      | true =>
       rw [hk] at h
       simp at h
       subst h
       refine Zc ?_
       simp only [Eqs,reduceIte,Zuq]
       refine Zm ?_
       exact hend.fin ⟨by rw [if_pos (show ZcU fs tm=true from hk)],rfl⟩ hdb (Zuw _)
     ·rintro d S' ⟨rfl,h⟩
      cases hk:(Z8 tm.field (JF fs)).isSome with
      | true=>rw [hk] at h; simp at h
      | false =>
       rw [hk] at h
       simp at h
       subst h
       exact hend.pan ⟨by rw [if_neg (by rw [show ZcU fs tm=false from hk]; simp)],rfl⟩ hdb (Zuw _)
    ·intro q a hno hB hq
     subst hB
     have hall:f.size.terms.all (ZcU fs)=true:=by
      apply List.all_eq_true.2
      intro t ht
      obtain ⟨i,hi,rfl⟩:=ZuJ ht
      have:=hno i hi
      split at this
      ·rename_i h; simpa [List.getD,hi] using h
      ·simp at this
     rw [hall,ZuP] at hS
     rw [J2 hq]
     refine Zm (Za (Zb (Zc ?_)))
     simp only [Eqs,reduceIte,Zuq,Zur,Zus,ZE.r7,Yv g4]
     simp only [hsz]
     refine Yn rfl rfl rfl rfl rfl (by trivial) (by trivial) (by exact ZeJ f.size b (JF fs) _ (Yv gb)) ?_ ?_
     ·rintro d S' ⟨hd,rfl⟩
      cases hd
      refine Zc ?_
      simp only [Eqs,reduceIte,Zuq,Zur,Zus,JT]
      refine Zb (Zc ?_)
      simp only [Eqs,reduceIte,Zuq,ZE.r8,Yv g2]
      refine Yn rfl rfl rfl rfl rfl (by trivial) (by trivial) (by exact Wm (st:=a.or (ZuN q .dfr)) (Yv gx) (decide ((ivP fs f.size).2.2=0) && decide (0≤(ivP fs f.size).1) && decide ((ivP fs f.size).2.1≤1048576)) 9) ?_ ?_
      ·rintro d S' h
       obtain ⟨hok,rfl,rfl⟩:=KK h
       rw [hok] at hS
       refine Zc ?_
       simp only [Eqs]
       exact hF.fin1 hq (.tup []) S rfl trivial (Zux _) hSA (ZbZ hS)
      ·rintro d S' h
       obtain ⟨hok,hfl,rfl⟩:=KJ h
       rw [hok] at hS
       exact hF.pan1 hq S hSA (Qy hS hfl)
     ·rintro d S' ⟨hd,_⟩
      cases hd
    ·intro q a m hm hno hgo
     split at hgo <;> simp at hgo
    ·intro q a m id hm hno hgo
     split at hgo <;> simp at hgo
    ·intro q a m d hm hno hgo hB hq
     subst hB
     rw [J2 hq]
     have hbad:ZcU fs (f.size.terms.getD m default)=false:=by
      split at hgo
      ·simp at hgo
      ·rename_i h; simpa using h
     have hall:f.size.terms.all (ZcU fs)=false:=by
      apply List.all_eq_false.2
      exact ⟨_,Ki hm,by rw [hbad]; simp⟩
     rw [hall,Bool.false_and] at hS
     split at hgo
     ·simp at hgo
     ·simp at hgo
      subst hgo
      exact hF.pan1 hq S hSA (Qy hS (Zmv _ _ _))
    ·intro m c hgo
     split at hgo <;> simp at hgo
   ·rintro d S' ⟨y,hy,hd,_⟩
    cases hd
  ·rintro d S' ⟨b,hb,hd,_⟩
   cases hd
 ·rintro d S h
  obtain ⟨hv,hfl,rfl⟩:=KJ h
  rw [hv,Bool.false_and] at hS
  exact hF.pan S (Zuw _) (Qy hS hfl)
end Go.DL
namespace Go.DL
open Go Go.Proofs
def ZcK (dl:List (Str × Int)) (high:Int):Int→List WK→Bool
 | _,[]=>true
 | low,c :: r=>Kz low high [c.low,c.high] && ((Z8 c.of dl).isSome && ZcK dl high (c.high + 1) r)
def ZeQ (fs:List Fld) (f:Fld):Bool:=fs.any fun o=>decide (o.kind=9) && decide (o.tag=f.tag)
def ZgO (fs:List Fld) (dl:List (Str × Int)) (f:Fld):Bool :=
 ((Z8 f.tag (JF fs)).isSome && !ZeQ fs f) && ((decide (1≤(f.cases.length:Int)) && decide ((f.cases.length:Int)≤40)) && ZcK dl ((Z8 f.tag (JF fs)).getD (0,0)).2 ((Z8 f.tag (JF fs)).getD (0,0)).1 f.cases)
theorem Zie (o:Fld) (f:Fld) (y:Nat) (st:St) (hy:st y=some (.cells f.cells)):Y3 Zuv YL.id [.agg o.cells,.ptr y 0] st (.bool (decide (o.kind=9) && decide (o.tag=f.tag))) st:=by
 refine Y4 YL.ok fun hwf F hret=>?_
 clear hwf
 refine Za (Zb (Zc ?_))
 simp only [Eqs,reduceCtorEq,reduceIte,Zuq,Zur,YL.r0,ZuD]
 refine Za (Zb (Zc ?_))
 simp only [Eqs,reduceIte,Zuq,YL.r1,hy,ZuD]
 exact hret rfl (by trivial) (Zux _) (Zuw _)
theorem Zp0 (a b:Int):YE inC (Wy [.int .i64 0] ([0,1].zip [.int .i64 a,.int .i64 b])) [a,b]:=fun i hi=>by
 match i,hi with
 | 0,_=>rfl
 | 1,_=>rfl
theorem Zdo {x bd bs:Nat} {k:Ck} {st:St} (hx:st x=some (.cells (k.cells bd bs))) (low high a b:Int):Yf Zuv ZN.id [.ptr x 0,.int .i64 low,.int .i64 high,.sl .full 2 1 (Wy [.int .i64 0] ([0,1].zip [.int .i64 a,.int .i64 b]))] st (QL (Kz low high [a,b]) st) :=
 Yf.leA (.cons (Zux _) (.cons (Zux _) (.cons (Zux _) (LeC.one ((Zp0 a b).le rfl))))) (ZeI hx low high [a,b])
theorem Zag {x bd bs:Nat} {k:Ck} {st:St} (hx:st x=some (.cells (k.cells bd bs))) (low high a:Int):Yf Zuv ZN.id [.ptr x 0,.int .i64 low,.int .i64 high,.sl .full 1 1 (Wy [.int .i64 0] ([0].zip [.int .i64 a]))] st (QL (Kz low high [a]) st) :=
 Yf.leA (.cons (Zux _) (.cons (Zux _) (.cons (Zux _) (LeC.one ((YE.one (f:=inC) (x:=a) rfl).le rfl))))) (ZeI hx low high [a])
theorem Zkj {x bd bs:Nat} {k:Ck} {dl:List (Str × Int)} {sl:List (Str × Bool)} {st:St} (hst:JX st x bd bs k dl sl) {n:Nat} (hn:k.field=n) (hl:n≤k.m.fields.length) (f:Fld)
  (hR:((Z8 f.tag (JF (k.m.fields.take n))).getD (0,0)).2 < 4611686018427387904) :
  Yf Zuv Zu.id [.ptr x 0,.agg f.cells] st (QL (ZgO (k.m.fields.take n) dl f) st):=by
 refine Zdx Zu.ok fun hwf F hF=>?_
 have hcw:=(Zpt (s:=f) (hwf _ (by simp))).cases
 clear hwf
 have hx:=hst.x
 have hS:=ZgO.eq_1 (k.m.fields.take n) dl f
 generalize hfs:k.m.fields.take n=fs at *
 have e1:=Qo (vD:=JT) WP f.tag (JF fs)
 have e3:=Ja WP f.tag
 simp only [show JU f.tag=D.str f.tag from rfl] at e1 e3
 refine Za (Zb (Zc ?_))
 simp only [Eqs,reduceCtorEq,reduceIte,Zuq,Zur,Zu.r0,ZuD]
 refine Za (Wq (ZM ?_))
 simp only [Eqs,reduceCtorEq,reduceIte,Zuq,Zu.r1]
 refine Zcr rfl rfl rfl rfl rfl (by trivial) (by trivial) (by exact Zas hx hn hl) (by first | trivial | exact ⟨rfl,trivial⟩ | simp [Qx,Jy]) (ZM ?_)
 simp only [Eqs,reduceIte,hfs]
 refine Zah rfl rfl rfl rfl rfl (by trivial) (by trivial) (by exact Zcp fs st) ?_ ?_
 ·rintro d S ⟨b,hb,hd,rfl⟩
  cases hd
  first | refine ⟨by first | trivial | exact ⟨rfl,rfl,trivial⟩ | exact ⟨rfl,trivial⟩,?_⟩ | skip
  have hxb:x≠b:=fun e=>by rw [e,hb] at hx; simp at hx
  generalize hr:(Z8 f.tag (JF fs)).getD (0,0)=r at *
  refine ZM ?_
  simp only [Eqs,reduceCtorEq,reduceIte,Zuq,Zur,Zus,e1,ZjZ,hr,ZuB]
  refine Za ?_
  refine YJ 3 rfl fun y hy=>?_
  simp only [reduceIte,Zuq,YU,WM,delL]
  obtain ⟨A,hA⟩:∃ A,A=((st.upd b (.map (Zao (Jo fs fs.length)))).upd y (.cells f.cells)):=⟨_,rfl⟩
  have hSA:st.sub A:=by rw [hA]; exact ZuK (Zuy _ hb) (Zuy _ hy)
  have gy:A y=some (.cells f.cells):=by rw [hA]; exact ZuB _ _ _
  have hsA:=hst.mono hSA
  have hfc:[D.str f.name,D.int IntKind.i64 f.kind,D.int IntKind.i64 f.bits,D.bool f.little,D.bool f.loose,D.int IntKind.i64 f.low,D.int IntKind.i64 f.high,D.int IntKind.i64 f.size.base,Yj f.size.terms,D.str f.of,D.str f.tag,D.str f.from_,W0 f.cases,D.int IntKind.i64 f.check,D.int IntKind.i64 f.key]=f.cells:=rfl
  rw [hfc,← hA]
  clear hA hy
  refine Zb (Zc ?_)
  simp only [Eqs,reduceCtorEq,reduceIte,Zu.r2]
  refine Wn rfl rfl rfl rfl rfl (by trivial) (by trivial) (by exact Zas hsA.x hn hl) (Zc ?_)
  simp only [Eqs,reduceCtorEq,reduceIte,Zuq,hfs]
  refine Wn rfl rfl rfl rfl rfl (by trivial) (by trivial) (by exact Zdq fs (.fn (.func YL.id) [] [.ptr y 0]) (fun o=>decide (o.kind=9) && decide (o.tag=f.tag)) (fun _=>A) (fun i hi=>(Zie _ f y A gy).VT (first:=[]) (args:=[_]) (caps:=[_]))) (Zc ?_)
  simp only [Eqs,reduceCtorEq,reduceIte,Zuq]
  rw [show (fs.any fun o=>decide (o.kind=9) && decide (o.tag=f.tag))=ZeQ fs f from rfl]
  refine Za (Zb (Zc ?_))
  simp only [Eqs,reduceCtorEq,reduceIte,Zuq,Zu.r3]
  refine Yn rfl rfl rfl rfl rfl (by trivial) (by trivial) (by exact Wm hsA.x ((Z8 f.tag (JF fs)).isSome && !ZeQ fs f) 8) ?_ ?_
  ·rintro d S h
   obtain ⟨hok,rfl,rfl⟩:=KK h
   rw [hok,ZuP] at hS
   refine Zc ?_
   simp only [Eqs,reduceCtorEq,reduceIte,Zuq]
   refine Za (Zb (Zc ?_))
   simp only [Eqs,reduceCtorEq,reduceIte,Zuq,Zu.r4,gy,ZuD,W0,slD]
   refine Yn rfl rfl rfl rfl rfl (by trivial) (by trivial) (by exact Wm hsA.x (decide (1≤(f.cases.length:Int)) && decide ((f.cases.length:Int)≤40)) 3) ?_ ?_
   ·rintro d S2 h
    obtain ⟨hok,rfl,rfl⟩:=KK h
    rw [hok,ZuP] at hS
    simp only [ZuA,decide_eq_true_eq] at hok
    refine Zc ?_
    simp only [Eqs,reduceCtorEq,reduceIte,Zuq]
    refine Za (Zb (Zc ?_))
    simp only [Eqs,reduceCtorEq,reduceIte,Zuq,Zu.r5]
    refine Za (Zb (Zc ?_))
    simp only [Eqs,reduceCtorEq,reduceIte,Zuq,Zu.r6,gy,ZuD,W0,slD]
    refine Zj (ZX ?_)
    have key:∀ (n i:Nat),(f.cases.length) - i=n→∀ lo,ZcK dl r.2 r.1 f.cases=ZcK dl r.2 lo (f.cases.drop i)→i≤f.cases.length→ZT F [.code (Zu.l0),.inLoop Zu.l0,.inBlock 0] [(0,.d (.ptr x 0)),(4,.loc 4 0),(7,.d (.int .i64 lo)),(45,.d (W0 f.cases)),(46,.d (.int .i64 f.cases.length)),(47,.d (.int .i64 i))] [(4,[.int .i64 r.1,.int .i64 r.2])] S2:=by
     intro n
     induction n using Nat.strongRecOn with
     | ind n ih_key =>
     intro i hni lo hL hi
     refine Za (Zb (Zc ?_))
     simp only [Eqs,reduceCtorEq,reduceIte,Zuq,Zu.r7]
     refine Za (Ze rfl trivial (fun h1=>?_) (fun h1=>?_))
     ·simp at h1
      rw [Qf h1,ZcK] at hL
      have hcb:-9223372036854775808≤(f.cases.getD i default).high∧(f.cases.getD i default).high≤9223372036854775807:=(hcw _ (Ki h1)).high
      generalize hc:f.cases.getD i default=c at *
      refine Zg (Za (Zj (Za (Zb (Zc ?_)))))
      simp only [Eqs,reduceCtorEq,reduceIte,Zuq,Zur,Zus,Zu.r8,W0,slD,WK.cells,hc]
      repeat (refine Zut (by first | omega | trivial | (intro h0; simp at h0; omega)) ?_)
      refine Za (Zb (Zc ?_))
      simp only [Eqs,reduceCtorEq,reduceIte,Zuq,Zu.r9]
      refine Yn rfl rfl rfl rfl rfl (by trivial) (by trivial) (by exact Zdo hsA.x lo r.2 c.low c.high) ?_ ?_
      ·rintro d S3 h
       obtain ⟨hok2,rfl,rfl⟩:=KK h
       rw [hok2,ZuP] at hL
       simp only [Kz,Bool.and_true,ZuA,decide_eq_true_eq] at hok2
       refine Zc ?_
       simp only [Eqs,reduceCtorEq,reduceIte,Zuq]
       refine Za (Zb (Zc ?_))
       simp only [Eqs,reduceCtorEq,reduceIte,Zuq,Zu.r10]
       refine Yn rfl rfl rfl rfl rfl (by trivial) (by trivial) (by exact Zc3 hsA c.of) ?_ ?_
       ·rintro d S4 h
        obtain ⟨hok3,rfl,rfl⟩:=KK h
        rw [hok3,ZuP] at hL
        refine Zc ?_
        simp only [Eqs,reduceCtorEq,reduceIte,Zuq]
        refine Zb (Zc ?_)
        simp only [Eqs,reduceCtorEq,reduceIte,Zuq,Zu.r11]
        repeat (refine Zut (by first | omega | trivial | (intro h0; simp at h0; omega)) ?_)
        refine Zm (Zb (Zc ?_))
        simp only [Eqs,reduceCtorEq,reduceIte,Zuq,Zu.r12]
        repeat (refine Zut (by first | omega | trivial | (intro h0; simp at h0; omega)) ?_)
        refine Zy ?_
        exact ih_key ((f.cases.length) - (i + 1)) (by omega) (i + 1) rfl (c.high + 1) hL (by omega)
       ·rintro d S4 h
        obtain ⟨hok3,hfl,rfl⟩:=KJ h
        rw [hok3,Bool.false_and] at hL
        exact hF.pan st hSA (Qy (hS.trans hL) hfl)
      ·rintro d S3 h
       obtain ⟨hok2,hfl,rfl⟩:=KJ h
       rw [hok2,Bool.false_and] at hL
       exact hF.pan st hSA (Qy (hS.trans hL) hfl)
     ·simp at h1
      obtain rfl:i=f.cases.length:=by omega
      rw [List.drop_length,ZcK] at hL
      refine ZQ rfl ?_
      exact hF.fin (.tup []) st rfl trivial (Zux _) hSA (ZbZ (hS.trans hL))
    exact key _ 0 rfl r.1 rfl (by omega)
   ·rintro d S2 h
    obtain ⟨hok,hfl,rfl⟩:=KJ h
    rw [hok,Bool.false_and] at hS
    exact hF.pan st hSA (Qy hS hfl)
  ·rintro d S h
   obtain ⟨hok,hfl,rfl⟩:=KJ h
   rw [hok,Bool.false_and] at hS
   exact hF.pan st hSA (Qy hS hfl)
 ·rintro d S ⟨b,hb,hd,_⟩
  cases hd
end Go.DL
namespace Go.DL
open Go Go.Proofs
def Zmc (f:Fld):Fld:={ f with bits:=0,little:=false,low:=0,high:=0 }
theorem Zig (f:Fld) (y:Nat) (s:St) (hy:s y=some (.cells f.cells)):Y3 Zuv KD.id [.ptr y 0] s (.tup []) (s.upd y (.cells (Zmc f).cells)):=by
 refine Z2 KD.ok fun F hF=>?_
 refine Zb (Zc ?_)
 simp only [Eqs,reduceCtorEq,reduceIte,Zuq,Zur,Zus,KD.r0,hy,ZuD,ZuB,ZuQ]
 exact hF.fin (.tup []) _ rfl trivial (Zux _) (Zuw _) ⟨rfl,rfl⟩
def Zmd (f:Fld):Fld:={ f with bits:=0,little:=false,low:=0 }
theorem Zii (f:Fld) (y:Nat) (s:St) (hy:s y=some (.cells f.cells)):Y3 Zuv KE.id [.ptr y 0] s (.tup []) (s.upd y (.cells (Zmd f).cells)):=by
 refine Z2 KE.ok fun F hF=>?_
 refine Zb (Zc ?_)
 simp only [Eqs,reduceCtorEq,reduceIte,Zuq,Zur,Zus,KE.r0,hy,ZuD,ZuB,ZuQ]
 exact hF.fin (.tup []) _ rfl trivial (Zux _) (Zuw _) ⟨rfl,rfl⟩
def Zme (f:Fld):Fld:={ f with loose:=false,low:=0,high:=0 }
theorem Zik (f:Fld) (y:Nat) (s:St) (hy:s y=some (.cells f.cells)):Y3 Zuv KF.id [.ptr y 0] s (.tup []) (s.upd y (.cells (Zme f).cells)):=by
 refine Z2 KF.ok fun F hF=>?_
 refine Zb (Zc ?_)
 simp only [Eqs,reduceCtorEq,reduceIte,Zuq,Zur,Zus,KF.r0,hy,ZuD,ZuB,ZuQ]
 exact hF.fin (.tup []) _ rfl trivial (Zux _) (Zuw _) ⟨rfl,rfl⟩
def Zjt (f:Fld):Fld:={ f with size:=⟨0,[]⟩ }
theorem Zim (f:Fld) (y:Nat) (s:St) (hy:s y=some (.cells f.cells)):Y3 Zuv KG.id [.ptr y 0] s (.tup []) (s.upd y (.cells (Zjt f).cells)):=by
 refine Z2 KG.ok fun F hF=>?_
 refine Zb (Zc ?_)
 simp only [Eqs,reduceCtorEq,reduceIte,Zuq,Zur,Zus,KG.r0,hy,ZuD]
 refine JG (ds':=(Zjt f).cells) (ZuB _ _ _) (.cons (Zux _) (.cons (Zux _) (.cons (Zux _) (.cons (Zux _) (.cons (Zux _) (.cons (Zux _) (.cons (Zux _) (.cons (Zux _) (.cons (Qa (by simp)) (.cons (Zux _) (.cons (Zux _) (.cons (Zux _) (.cons (Zux _) (.cons (Zux _) (.cons (Zux _) (.nil)))))))))))))))) ?_
 rw [ZuQ]
 exact hF.fin (.tup []) _ rfl trivial (Zux _) (Zuw _) ⟨rfl,rfl⟩
def Zmf (f:Fld):Fld:={ f with low:=0,high:=0 }
theorem Zin (f:Fld) (y:Nat) (s:St) (hy:s y=some (.cells f.cells)):Y3 Zuv KH.id [.ptr y 0] s (.tup []) (s.upd y (.cells (Zmf f).cells)):=by
 refine Z2 KH.ok fun F hF=>?_
 refine Zb (Zc ?_)
 simp only [Eqs,reduceCtorEq,reduceIte,Zuq,Zur,Zus,KH.r0,hy,ZuD,ZuB,ZuQ]
 exact hF.fin (.tup []) _ rfl trivial (Zux _) (Zuw _) ⟨rfl,rfl⟩
def Zmg (f:Fld):Fld:={ f with loose:=false,high:=0 }
theorem Zhl (f:Fld) (y:Nat) (s:St) (hy:s y=some (.cells f.cells)):Y3 Zuv Kn.id [.ptr y 0] s (.tup []) (s.upd y (.cells (Zmg f).cells)):=by
 refine Z2 Kn.ok fun F hF=>?_
 refine Zb (Zc ?_)
 simp only [Eqs,reduceCtorEq,reduceIte,Zuq,Zur,Zus,Kn.r0,hy,ZuD,ZuB,ZuQ]
 exact hF.fin (.tup []) _ rfl trivial (Zux _) (Zuw _) ⟨rfl,rfl⟩
def Zju (f:Fld):Fld:={ f with of:=[],size:=⟨0,[]⟩ }
theorem Zhn (f:Fld) (y:Nat) (s:St) (hy:s y=some (.cells f.cells)):Y3 Zuv Ko.id [.ptr y 0] s (.tup []) (s.upd y (.cells (Zju f).cells)):=by
 refine Z2 Ko.ok fun F hF=>?_
 refine Zb (Zc ?_)
 simp only [Eqs,reduceCtorEq,reduceIte,Zuq,Zur,Zus,Ko.r0,hy,ZuD,ZuB,ZuQ]
 refine JG (ds':=(Zju f).cells) (ZuB _ _ _) (.cons (Zux _) (.cons (Zux _) (.cons (Zux _) (.cons (Zux _) (.cons (Zux _) (.cons (Zux _) (.cons (Zux _) (.cons (Zux _) (.cons (Qa (by simp)) (.cons (Zux _) (.cons (Zux _) (.cons (Zux _) (.cons (Zux _) (.cons (Zux _) (.cons (Zux _) (.nil)))))))))))))))) ?_
 rw [ZuQ]
 exact hF.fin (.tup []) _ rfl trivial (Zux _) (Zuw _) ⟨rfl,rfl⟩
def Zmh (f:Fld):Fld:={ f with of:=[] }
theorem Zhp (f:Fld) (y:Nat) (s:St) (hy:s y=some (.cells f.cells)):Y3 Zuv Kp.id [.ptr y 0] s (.tup []) (s.upd y (.cells (Zmh f).cells)):=by
 refine Z2 Kp.ok fun F hF=>?_
 refine Zb (Zc ?_)
 simp only [Eqs,reduceCtorEq,reduceIte,Zuq,Zur,Zus,Kp.r0,hy,ZuD]
 exact hF.fin (.tup []) _ rfl trivial (Zux _) (Zuw _) ⟨rfl,rfl⟩
def Zjv (f:Fld):Fld:={ f with tag:=[],cases:=[] }
theorem Zhr (f:Fld) (y:Nat) (s:St) (hy:s y=some (.cells f.cells)):Y3 Zuv Kq.id [.ptr y 0] s (.tup []) (s.upd y (.cells (Zjv f).cells)):=by
 refine Z2 Kq.ok fun F hF=>?_
 refine Zb (Zc ?_)
 simp only [Eqs,reduceCtorEq,reduceIte,Zuq,Zur,Zus,Kq.r0,hy,ZuD,ZuB,ZuQ]
 refine JG (ds':=(Zjv f).cells) (ZuB _ _ _) (.cons (Zux _) (.cons (Zux _) (.cons (Zux _) (.cons (Zux _) (.cons (Zux _) (.cons (Zux _) (.cons (Zux _) (.cons (Zux _) (.cons (Zux _) (.cons (Zux _) (.cons (Zux _) (.cons (Zux _) (.cons (Qa (by simp)) (.cons (Zux _) (.cons (Zux _) (.nil)))))))))))))))) ?_
 rw [ZuQ]
 exact hF.fin (.tup []) _ rfl trivial (Zux _) (Zuw _) ⟨rfl,rfl⟩
def Zku (f:Fld):Fld:={ f with bits:=0 }
theorem Zhs (f:Fld) (y:Nat) (s:St) (hy:s y=some (.cells f.cells)):Y3 Zuv Kr.id [.ptr y 0] s (.tup []) (s.upd y (.cells (Zku f).cells)):=by
 refine Z2 Kr.ok fun F hF=>?_
 refine Zb (Zc ?_)
 simp only [Eqs,reduceCtorEq,reduceIte,Zuq,Zur,Zus,Kr.r0,hy,ZuD]
 exact hF.fin (.tup []) _ rfl trivial (Zux _) (Zuw _) ⟨rfl,rfl⟩
def Zkv (f:Fld):Fld:={ f with from_:=[],check:=0 }
theorem Zhu (f:Fld) (y:Nat) (s:St) (hy:s y=some (.cells f.cells)):Y3 Zuv Ks.id [.ptr y 0] s (.tup []) (s.upd y (.cells (Zkv f).cells)):=by
 refine Z2 Ks.ok fun F hF=>?_
 refine Zb (Zc ?_)
 simp only [Eqs,reduceCtorEq,reduceIte,Zuq,Zur,Zus,Ks.r0,hy,ZuD,ZuB,ZuQ]
 exact hF.fin (.tup []) _ rfl trivial (Zux _) (Zuw _) ⟨rfl,rfl⟩
def ZhJ (f:Fld):Fld:={ f with of:=[],size:=⟨0,[]⟩,key:=0 }
theorem Zhw (f:Fld) (y:Nat) (s:St) (hy:s y=some (.cells f.cells)):Y3 Zuv Kt.id [.ptr y 0] s (.tup []) (s.upd y (.cells (ZhJ f).cells)):=by
 refine Z2 Kt.ok fun F hF=>?_
 refine Zb (Zc ?_)
 simp only [Eqs,reduceCtorEq,reduceIte,Zuq,Zur,Zus,Kt.r0,hy,ZuD,ZuB,ZuQ]
 refine JG (ds':=(ZhJ f).cells) (ZuB _ _ _) (.cons (Zux _) (.cons (Zux _) (.cons (Zux _) (.cons (Zux _) (.cons (Zux _) (.cons (Zux _) (.cons (Zux _) (.cons (Zux _) (.cons (Qa (by simp)) (.cons (Zux _) (.cons (Zux _) (.cons (Zux _) (.cons (Zux _) (.cons (Zux _) (.cons (Zux _) (.nil)))))))))))))))) ?_
 rw [ZuQ]
 exact hF.fin (.tup []) _ rfl trivial (Zux _) (Zuw _) ⟨rfl,rfl⟩
end Go.DL
namespace Go.DL
open Go Go.Proofs
def ck1 (f:Fld):Bool:=Zdy f && Kz 0 (2 ^ f.bits.toNat - 1) [f.low,f.high]
def ck2 (f:Fld):Bool:=Zdy f && Kz 0 (2 ^ f.bits.toNat - 1) [f.low]
def ck3 (f:Fld):Bool:=Kz 0 34359738367 [f.low,f.high]
def ck5 (f:Fld):Bool:=Kz 0 255 [f.low] && Kz 0 1048576 [f.high]
def ck6 (f:Fld):Bool:=Kz 2 1048576 [f.high]
def ck7 (fs:List Fld) (dl:List (Str × Int)) (f:Fld):Bool:=(Z8 f.of dl).isSome && ZeK fs f.size
def ck8 (dl:List (Str × Int)) (f:Fld):Bool:=(Z8 f.of dl).isSome
def Zos (f:Fld):Bool:=decide (f.bits=2) || decide (f.bits=4) || (decide (8≤f.bits) && decide (f.bits≤512) && decide (f.bits.tmod 8=0))
def Zot (fs:List Fld) (f:Fld):Bool:=Kz 1 3 [f.check] && decide (0≤Z7 (fun x=>decide (x.name=f.from_)) fs)
def Zou (fs:List Fld) (sl:List (Str × Bool)) (f:Fld):Bool:=Kz 0 4294967295 [f.key] && ((Z8 f.of sl).getD false && ZeK fs f.size)
theorem ZdQ (f:Fld):D.agg [D.str f.name,D.int IntKind.i64 f.kind,D.int IntKind.i64 f.bits,D.bool f.little,D.bool f.loose,D.int IntKind.i64 f.low,D.int IntKind.i64 f.high,D.int IntKind.i64 f.size.base,Yj f.size.terms,D.str f.of,D.str f.tag,D.str f.from_,W0 f.cases,D.int IntKind.i64 f.check,D.int IntKind.i64 f.key] = .agg f.cells:=rfl
theorem Zih {x bd bs:Nat} {k:Ck} {dl:List (Str × Int)} {sl:List (Str × Bool)} {st:St} (hst:JX st x bd bs k dl sl) {n:Nat} (hn:k.field=n) (hl:n≤k.m.fields.length) (f:Fld) :
  Yf Zuv WH.id [.ptr x 0,.agg f.cells] st (QL (ck1 f) st):=by
 refine Z2 WH.ok fun F hF=>?_
 have hS:=ck1.eq_1 f
 refine Za (Zb (Zc ?_))
 simp only [Eqs,reduceCtorEq,reduceIte,Zuq,Zur,WH.r0,ZuD]
 refine Za (Zb (Zc ?_))
 simp only [Eqs,reduceCtorEq,reduceIte,Zuq,Zur,Zus,WH.r1]
 simp only [ZdQ]
 refine Yn rfl rfl rfl rfl rfl (by trivial) (by trivial) (by exact ZfG hst.x f) ?_ ?_
 ·rintro d S h
  obtain ⟨hok,rfl,rfl⟩:=KK h
  rw [hok,ZuP] at hS
  first | refine ⟨by first | trivial | exact ⟨rfl,trivial⟩,?_⟩ | skip
  refine Zc ?_
  simp only [Eqs,reduceCtorEq,reduceIte,Zuq]
  have hb1:1≤f.bits∧f.bits≤32:=by
   unfold Zdy at hok
   simp only [ZuA,decide_eq_true_eq] at hok
   exact hok.1
  have hsh:=ZqV (b:=f.bits) (by omega) (by omega)
  have h2p:=ZcD (b:=f.bits) (by omega) (by omega)
  refine WB (Wj ?_)
  simp only [Eqs,reduceCtorEq,reduceIte,Zuq,WH.r2]
  rw [hsh]
  generalize hpw:(2:Int) ^ f.bits.toNat=pw at *
  refine ⟨by omega,by omega,by omega,by omega,by omega,?_⟩
  refine ZgE rfl rfl rfl rfl rfl (by trivial) (by trivial) (by exact Zdo hst.x 0 (pw - 1) f.low f.high) ?_ ?_
  ·rintro d S h
   obtain ⟨hok,rfl,rfl⟩:=KK h
   rw [hok] at hS
   refine Wj ?_
   simp only [Eqs]
   exact hF.fin (.tup []) _ rfl trivial (Zux _) (Zuw _) (ZbZ hS)
  ·rintro d S h
   obtain ⟨hok,hfl,rfl⟩:=KJ h
   rw [hok] at hS
   exact hF.pan _ (Zuw _) (Qy hS hfl)
 ·rintro d S h
  obtain ⟨hok,hfl,rfl⟩:=KJ h
  rw [hok,Bool.false_and] at hS
  exact hF.pan _ (Zuw _) (Qy hS hfl)
theorem Zij {x bd bs:Nat} {k:Ck} {dl:List (Str × Int)} {sl:List (Str × Bool)} {st:St} (hst:JX st x bd bs k dl sl) {n:Nat} (hn:k.field=n) (hl:n≤k.m.fields.length) (f:Fld) :
  Yf Zuv WI.id [.ptr x 0,.agg f.cells] st (QL (ck2 f) st):=by
 refine Z2 WI.ok fun F hF=>?_
 have hS:=ck2.eq_1 f
 refine Za (Zb (Zc ?_))
 simp only [Eqs,reduceCtorEq,reduceIte,Zuq,Zur,WI.r0,ZuD]
 refine Za (Zb (Zc ?_))
 simp only [Eqs,reduceCtorEq,reduceIte,Zuq,Zur,Zus,WI.r1]
 simp only [ZdQ]
 refine Yn rfl rfl rfl rfl rfl (by trivial) (by trivial) (by exact ZfG hst.x f) ?_ ?_
 ·rintro d S h
  obtain ⟨hok,rfl,rfl⟩:=KK h
  rw [hok,ZuP] at hS
  first | refine ⟨by first | trivial | exact ⟨rfl,trivial⟩,?_⟩ | skip
  refine Zc ?_
  simp only [Eqs,reduceCtorEq,reduceIte,Zuq]
  have hb1:1≤f.bits∧f.bits≤32:=by
   unfold Zdy at hok
   simp only [ZuA,decide_eq_true_eq] at hok
   exact hok.1
  have hsh:=ZqV (b:=f.bits) (by omega) (by omega)
  have h2p:=ZcD (b:=f.bits) (by omega) (by omega)
  refine WB (Wj ?_)
  simp only [Eqs,reduceCtorEq,reduceIte,Zuq,WI.r2]
  rw [hsh]
  generalize hpw:(2:Int) ^ f.bits.toNat=pw at *
  refine ⟨by omega,by omega,by omega,by omega,by omega,?_⟩
  refine ZgE rfl rfl rfl rfl rfl (by trivial) (by trivial) (by exact Zag hst.x 0 (pw - 1) f.low) ?_ ?_
  ·rintro d S h
   obtain ⟨hok,rfl,rfl⟩:=KK h
   rw [hok] at hS
   refine Wj ?_
   simp only [Eqs]
   exact hF.fin (.tup []) _ rfl trivial (Zux _) (Zuw _) (ZbZ hS)
  ·rintro d S h
   obtain ⟨hok,hfl,rfl⟩:=KJ h
   rw [hok] at hS
   exact hF.pan _ (Zuw _) (Qy hS hfl)
 ·rintro d S h
  obtain ⟨hok,hfl,rfl⟩:=KJ h
  rw [hok,Bool.false_and] at hS
  exact hF.pan _ (Zuw _) (Qy hS hfl)
theorem Zil {x bd bs:Nat} {k:Ck} {dl:List (Str × Int)} {sl:List (Str × Bool)} {st:St} (hst:JX st x bd bs k dl sl) {n:Nat} (hn:k.field=n) (hl:n≤k.m.fields.length) (f:Fld) :
  Yf Zuv Kc.id [.ptr x 0,.agg f.cells] st (QL (ck3 f) st):=by
 refine Z2 Kc.ok fun F hF=>?_
 have hS:=ck3.eq_1 f
 refine Za (Zb (Zc ?_))
 simp only [Eqs,reduceCtorEq,reduceIte,Zuq,Zur,Kc.r0,ZuD]
 refine Zb (Zc ?_)
 simp only [Eqs,reduceCtorEq,reduceIte,Zuq,Kc.r1]
 refine Yn rfl rfl rfl rfl rfl (by trivial) (by trivial) (by exact Zdo hst.x 0 34359738367 f.low f.high) ?_ ?_
 ·rintro d S h
  obtain ⟨hok,rfl,rfl⟩:=KK h
  rw [hok] at hS
  refine Zc ?_
  simp only [Eqs]
  exact hF.fin (.tup []) _ rfl trivial (Zux _) (Zuw _) (ZbZ hS)
 ·rintro d S h
  obtain ⟨hok,hfl,rfl⟩:=KJ h
  rw [hok] at hS
  exact hF.pan _ (Zuw _) (Qy hS hfl)
theorem Zio {x bd bs:Nat} {k:Ck} {dl:List (Str × Int)} {sl:List (Str × Bool)} {st:St} (hst:JX st x bd bs k dl sl) {n:Nat} (hn:k.field=n) (hl:n≤k.m.fields.length) (f:Fld) :
  Yf Zuv WJ.id [.ptr x 0,.agg f.cells] st (QL (ck5 f) st):=by
 refine Z2 WJ.ok fun F hF=>?_
 have hS:=ck5.eq_1 f
 refine Za (Zb (Zc ?_))
 simp only [Eqs,reduceCtorEq,reduceIte,Zuq,Zur,WJ.r0,ZuD]
 refine Za (Zb (Zc ?_))
 simp only [Eqs,reduceCtorEq,reduceIte,Zuq,WJ.r1]
 refine Yn rfl rfl rfl rfl rfl (by trivial) (by trivial) (by exact Zag hst.x 0 255 f.low) ?_ ?_
 ·rintro d S h
  obtain ⟨hok,rfl,rfl⟩:=KK h
  rw [hok,ZuP] at hS
  first | refine ⟨by first | trivial | exact ⟨rfl,trivial⟩,?_⟩ | skip
  refine Zc ?_
  simp only [Eqs,reduceCtorEq,reduceIte,Zuq]
  refine Zb (Zc ?_)
  simp only [Eqs,reduceCtorEq,reduceIte,Zuq,WJ.r2]
  refine Yn rfl rfl rfl rfl rfl (by trivial) (by trivial) (by exact Zag hst.x 0 1048576 f.high) ?_ ?_
  ·rintro d S h
   obtain ⟨hok,rfl,rfl⟩:=KK h
   rw [hok] at hS
   refine Zc ?_
   simp only [Eqs]
   exact hF.fin (.tup []) _ rfl trivial (Zux _) (Zuw _) (ZbZ hS)
  ·rintro d S h
   obtain ⟨hok,hfl,rfl⟩:=KJ h
   rw [hok] at hS
   exact hF.pan _ (Zuw _) (Qy hS hfl)
 ·rintro d S h
  obtain ⟨hok,hfl,rfl⟩:=KJ h
  rw [hok,Bool.false_and] at hS
  exact hF.pan _ (Zuw _) (Qy hS hfl)
theorem Zhm {x bd bs:Nat} {k:Ck} {dl:List (Str × Int)} {sl:List (Str × Bool)} {st:St} (hst:JX st x bd bs k dl sl) {n:Nat} (hn:k.field=n) (hl:n≤k.m.fields.length) (f:Fld) :
  Yf Zuv WT.id [.ptr x 0,.agg f.cells] st (QL (ck6 f) st):=by
 refine Z2 WT.ok fun F hF=>?_
 have hS:=ck6.eq_1 f
 refine Za (Zb (Zc ?_))
 simp only [Eqs,reduceCtorEq,reduceIte,Zuq,Zur,WT.r0,ZuD]
 refine Zb (Zc ?_)
 simp only [Eqs,reduceCtorEq,reduceIte,Zuq,WT.r1]
 refine Yn rfl rfl rfl rfl rfl (by trivial) (by trivial) (by exact Zag hst.x 2 1048576 f.high) ?_ ?_
 ·rintro d S h
  obtain ⟨hok,rfl,rfl⟩:=KK h
  rw [hok] at hS
  refine Zc ?_
  simp only [Eqs]
  exact hF.fin (.tup []) _ rfl trivial (Zux _) (Zuw _) (ZbZ hS)
 ·rintro d S h
  obtain ⟨hok,hfl,rfl⟩:=KJ h
  rw [hok] at hS
  exact hF.pan _ (Zuw _) (Qy hS hfl)
theorem Zho {x bd bs:Nat} {k:Ck} {dl:List (Str × Int)} {sl:List (Str × Bool)} {st:St} (hst:JX st x bd bs k dl sl) {n:Nat} (hn:k.field=n) (hl:n≤k.m.fields.length) (f:Fld) :
  Yf Zuv Wr.id [.ptr x 0,.agg f.cells] st (QL (ck7 (k.m.fields.take n) dl f) st):=by
 refine Z2 Wr.ok fun F hF=>?_
 have hS:=ck7.eq_1 (k.m.fields.take n) dl f
 refine Za (Zb (Zc ?_))
 simp only [Eqs,reduceCtorEq,reduceIte,Zuq,Zur,Wr.r0,ZuD]
 refine Za (Zb (Zc ?_))
 simp only [Eqs,reduceCtorEq,reduceIte,Zuq,Wr.r1]
 refine Yn rfl rfl rfl rfl rfl (by trivial) (by trivial) (by exact Zc3 hst f.of) ?_ ?_
 ·rintro d S h
  obtain ⟨hok,rfl,rfl⟩:=KK h
  rw [hok,ZuP] at hS
  first | refine ⟨by first | trivial | exact ⟨rfl,trivial⟩,?_⟩ | skip
  refine Zc ?_
  simp only [Eqs,reduceCtorEq,reduceIte,Zuq]
  refine Zb (Zc ?_)
  simp only [Eqs,reduceCtorEq,reduceIte,Zuq,Zur,Zus,Wr.r2]
  simp only [ZdQ]
  refine Yn rfl rfl rfl rfl rfl (by trivial) (by trivial) (by exact Zc4 hst.x hn hl f) ?_ ?_
  ·rintro d S h
   obtain ⟨hok,rfl,rfl⟩:=KK h
   rw [hok] at hS
   refine Zc ?_
   simp only [Eqs]
   exact hF.fin (.tup []) _ rfl trivial (Zux _) (Zuw _) (ZbZ hS)
  ·rintro d S h
   obtain ⟨hok,hfl,rfl⟩:=KJ h
   rw [hok] at hS
   exact hF.pan _ (Zuw _) (Qy hS hfl)
 ·rintro d S h
  obtain ⟨hok,hfl,rfl⟩:=KJ h
  rw [hok,Bool.false_and] at hS
  exact hF.pan _ (Zuw _) (Qy hS hfl)
theorem Zhq {x bd bs:Nat} {k:Ck} {dl:List (Str × Int)} {sl:List (Str × Bool)} {st:St} (hst:JX st x bd bs k dl sl) {n:Nat} (hn:k.field=n) (hl:n≤k.m.fields.length) (f:Fld) :
  Yf Zuv WU.id [.ptr x 0,.agg f.cells] st (QL (ck8 dl f) st):=by
 refine Z2 WU.ok fun F hF=>?_
 have hS:=ck8.eq_1 dl f
 refine Za (Zb (Zc ?_))
 simp only [Eqs,reduceCtorEq,reduceIte,Zuq,Zur,WU.r0,ZuD]
 refine Zb (Zc ?_)
 simp only [Eqs,reduceCtorEq,reduceIte,Zuq,WU.r1]
 refine Yn rfl rfl rfl rfl rfl (by trivial) (by trivial) (by exact Zc3 hst f.of) ?_ ?_
 ·rintro d S h
  obtain ⟨hok,rfl,rfl⟩:=KK h
  rw [hok] at hS
  refine Zc ?_
  simp only [Eqs]
  exact hF.fin (.tup []) _ rfl trivial (Zux _) (Zuw _) (ZbZ hS)
 ·rintro d S h
  obtain ⟨hok,hfl,rfl⟩:=KJ h
  rw [hok] at hS
  exact hF.pan _ (Zuw _) (Qy hS hfl)
theorem Zht {x bd bs:Nat} {k:Ck} {dl:List (Str × Int)} {sl:List (Str × Bool)} {st:St} (hst:JX st x bd bs k dl sl) {n:Nat} (hn:k.field=n) (hl:n≤k.m.fields.length) (f:Fld) :
  Yf Zuv WV.id [.ptr x 0,.agg f.cells] st (QL (Zos f) st):=by
 refine Z2 WV.ok fun F hF=>?_
 have hS:=Zos.eq_1 f
 refine Za (Zb (Zc ?_))
 simp only [Eqs,reduceCtorEq,reduceIte,Zuq,Zur,WV.r0,ZuD]
 refine Zb (Zc ?_)
 simp only [Eqs,reduceCtorEq,reduceIte,Zuq,WV.r1]
 have ht1:=Int.tmod_lt_of_pos f.bits (by decide:(0:Int) < 8)
 have ht2:=Int.lt_tmod_of_pos f.bits (by decide:(0:Int) < 8)
 refine ⟨fun _=>⟨by decide,by omega,by omega⟩,?_⟩
 refine Yn rfl rfl rfl rfl rfl (by trivial) (by trivial) (by exact Wm hst.x (decide (f.bits=2) || decide (f.bits=4) || decide (8≤f.bits) && decide (f.bits≤512) && decide (f.bits.tmod 8=0)) 6) ?_ ?_
 ·rintro d S h
  obtain ⟨hok,rfl,rfl⟩:=KK h
  rw [hok] at hS
  refine Zc ?_
  simp only [Eqs]
  exact hF.fin (.tup []) _ rfl trivial (Zux _) (Zuw _) (ZbZ hS)
 ·rintro d S h
  obtain ⟨hok,hfl,rfl⟩:=KJ h
  rw [hok] at hS
  exact hF.pan _ (Zuw _) (Qy hS hfl)
theorem Zhv {x bd bs:Nat} {k:Ck} {dl:List (Str × Int)} {sl:List (Str × Bool)} {st:St} (hst:JX st x bd bs k dl sl) {n:Nat} (hn:k.field=n) (hl:n≤k.m.fields.length) (f:Fld) :
  Yf Zuv YZ.id [.ptr x 0,.agg f.cells] st (QL (Zot (k.m.fields.take n) f) st):=by
 refine Z2 YZ.ok fun F hF=>?_
 have hS:=Zot.eq_1 (k.m.fields.take n) f
 refine Za (Zb (Zc ?_))
 simp only [Eqs,reduceCtorEq,reduceIte,Zuq,Zur,YZ.r0,ZuD]
 refine Za (Zb (Zc ?_))
 simp only [Eqs,reduceCtorEq,reduceIte,Zuq,YZ.r1]
 refine Yn rfl rfl rfl rfl rfl (by trivial) (by trivial) (by exact Zag hst.x 1 3 f.check) ?_ ?_
 ·rintro d S h
  obtain ⟨hok,rfl,rfl⟩:=KK h
  rw [hok,ZuP] at hS
  first | refine ⟨by first | trivial | exact ⟨rfl,trivial⟩,?_⟩ | skip
  refine Zc ?_
  simp only [Eqs,reduceCtorEq,reduceIte,Zuq]
  refine Za (Wq (ZM ?_))
  simp only [Eqs,reduceCtorEq,reduceIte,Zuq,YZ.r2]
  refine Zcr rfl rfl rfl rfl rfl (by trivial) (by trivial) (by exact Zas hst.x hn hl) (by first | trivial | exact ⟨rfl,trivial⟩ | simp [Qx,Jy]) (ZM ?_)
  simp only [Eqs,reduceCtorEq,reduceIte,Zuq,Zur,Zus,Yo,slD]
  refine Kd rfl rfl rfl rfl rfl (by trivial) (by trivial) (by exact (Ze3 ⟨[],k.m.fields.take n⟩ f.from_)) (ZM ?_)
  simp only [Eqs,reduceCtorEq,reduceIte,Zuq]
  refine Zb (Zc ?_)
  simp only [Eqs,reduceCtorEq,reduceIte,Zuq,YZ.r3]
  refine Yn rfl rfl rfl rfl rfl (by trivial) (by trivial) (by exact Wm hst.x (decide (0≤Z7 (fun x=>decide (x.name=f.from_)) (k.m.fields.take n))) 8) ?_ ?_
  ·rintro d S h
   obtain ⟨hok,rfl,rfl⟩:=KK h
   rw [hok] at hS
   refine Zc ?_
   simp only [Eqs]
   exact hF.fin (.tup []) _ rfl trivial (Zux _) (Zuw _) (ZbZ hS)
  ·rintro d S h
   obtain ⟨hok,hfl,rfl⟩:=KJ h
   rw [hok] at hS
   exact hF.pan _ (Zuw _) (Qy hS hfl)
 ·rintro d S h
  obtain ⟨hok,hfl,rfl⟩:=KJ h
  rw [hok,Bool.false_and] at hS
  exact hF.pan _ (Zuw _) (Qy hS hfl)
theorem Zhx {x bd bs:Nat} {k:Ck} {dl:List (Str × Int)} {sl:List (Str × Bool)} {st:St} (hst:JX st x bd bs k dl sl) {n:Nat} (hn:k.field=n) (hl:n≤k.m.fields.length) (f:Fld) :
  Yf Zuv Y0.id [.ptr x 0,.agg f.cells] st (QL (Zou (k.m.fields.take n) sl f) st):=by
 refine Z2 Y0.ok fun F hF=>?_
 have hS:=Zou.eq_1 (k.m.fields.take n) sl f
 refine Za (Zb (Zc ?_))
 simp only [Eqs,reduceCtorEq,reduceIte,Zuq,Zur,Y0.r0,ZuD]
 refine Za (Zb (Zc ?_))
 simp only [Eqs,reduceCtorEq,reduceIte,Zuq,Y0.r1]
 refine Yn rfl rfl rfl rfl rfl (by trivial) (by trivial) (by exact Zag hst.x 0 4294967295 f.key) ?_ ?_
 ·rintro d S h
  obtain ⟨hok,rfl,rfl⟩:=KK h
  rw [hok,ZuP] at hS
  first | refine ⟨by first | trivial | exact ⟨rfl,trivial⟩,?_⟩ | skip
  refine Zc ?_
  simp only [Eqs,reduceCtorEq,reduceIte,Zuq]
  have e1:=Qo (vD:=D.bool) WP f.of sl
  have e3:=Ja WP f.of
  simp only [show JU f.of=D.str f.of from rfl] at e1 e3
  refine Za (WB (Wj ?_))
  simp only [Eqs,reduceCtorEq,reduceIte,Zuq,Y0.r2,hst.x,hst.bs,Ck.cells,e1,Zf9]
  refine ZgE rfl rfl rfl rfl rfl (by trivial) (by trivial) (by exact Wm hst.x ((Z8 f.of sl).getD false) 8) ?_ ?_
  ·rintro d S h
   obtain ⟨hok,rfl,rfl⟩:=KK h
   rw [hok,ZuP] at hS
   first | refine ⟨by first | trivial | exact ⟨rfl,trivial⟩,?_⟩ | skip
   refine Wj ?_
   simp only [Eqs,reduceCtorEq,reduceIte,Zuq]
   refine Zb (Zc ?_)
   simp only [Eqs,reduceCtorEq,reduceIte,Zuq,Zur,Zus,Y0.r3]
   simp only [ZdQ]
   refine Yn rfl rfl rfl rfl rfl (by trivial) (by trivial) (by exact Zc4 hst.x hn hl f) ?_ ?_
   ·rintro d S h
    obtain ⟨hok,rfl,rfl⟩:=KK h
    rw [hok] at hS
    refine Zc ?_
    simp only [Eqs]
    exact hF.fin (.tup []) _ rfl trivial (Zux _) (Zuw _) (ZbZ hS)
   ·rintro d S h
    obtain ⟨hok,hfl,rfl⟩:=KJ h
    rw [hok] at hS
    exact hF.pan _ (Zuw _) (Qy hS hfl)
  ·rintro d S h
   obtain ⟨hok,hfl,rfl⟩:=KJ h
   rw [hok,Bool.false_and] at hS
   exact hF.pan _ (Zuw _) (Qy hS hfl)
 ·rintro d S h
  obtain ⟨hok,hfl,rfl⟩:=KJ h
  rw [hok,Bool.false_and] at hS
  exact hF.pan _ (Zuw _) (Qy hS hfl)
end Go.DL
namespace Go.DL
open Go Go.Proofs
def ZpG (f:Fld):List D:=[.str f.name,.str f.of,.str f.tag,.str f.from_,.int .i64 f.kind,.int .i64 f.bits,.int .i64 f.low,.int .i64 f.high,.int .i64 f.size.base,.int .i64 f.check,.int .i64 f.key,.bool f.little,.bool f.loose]
theorem Ze5 (f:Fld):ZR Zuv KO.id [.agg f.cells] (.agg (ZpG f)):=by
 refine Z0 KO.ok fun F st hret=>?_
 refine Za (Zb (Zc ?_))
 simp only [Eqs,reduceCtorEq,reduceIte,Zuq,KO.r0,ZuD]
 refine Za (Zb (Zc ?_))
 simp only [Eqs,reduceIte,Zuq,Zur,Zus,KO.r1]
 exact hret rfl (by first | trivial | simp) (Zux _) (Zuw _)
theorem ZgB (a b:Fld):ZR Zuv WR.id [.agg a.cells,.agg b.cells] (.bool (decide (a=b))):=by
 refine Z0 WR.ok fun F st hret=>?_
 refine Za (Zb (Zc ?_))
 simp only [Eqs,reduceCtorEq,reduceIte,Zuq,Zur,WR.r0,ZuD]
 refine Za (Wq (ZM ?_))
 simp only [Eqs,reduceIte,Zuq,Zur,Zus,WR.r1]
 simp only [ZdQ]
 refine Kd rfl rfl rfl rfl rfl (by trivial) (by trivial) (by exact Ze5 a) (ZM ?_)
 simp only [Eqs,reduceIte]
 refine Kd rfl rfl rfl rfl rfl (by trivial) (by trivial) (by exact Ze5 b) (ZM ?_)
 simp only [Eqs,reduceIte,Zuq,Zur,ZpG]
 refine Za7 rfl rfl rfl rfl rfl (fun hcg=>⟨by first | trivial | (simpa [Qu] using hcg),trivial,Zc7 a.size.terms b.size.terms⟩) (ZM ?_)
 simp only [Eqs,reduceIte,Zuq]
 refine Za7 rfl rfl rfl rfl rfl (fun hcg=>⟨by first | trivial | (simpa [Qu] using hcg),trivial,Zgi a.cases b.cases⟩) (ZM ?_)
 simp only [Eqs,reduceIte,Zuq]
 refine hret rfl (by trivial) (Yk ?_) (Zuw _)
 rw [Bool.eq_iff_iff]
 simp only [ZuA,decide_eq_true_eq]
 constructor
 ·rintro ⟨⟨⟨h1,h2,h3,h4,h5,h6,h7,h8,h9,h10,h11,h12,h13⟩,h14⟩,h15⟩
  obtain ⟨n1,k1,b1,l1,o1,lo1,hi1,⟨sb1,st1⟩,of1,t1,f1,c1,ch1,ke1⟩:=a
  obtain ⟨n2,k2,b2,l2,o2,lo2,hi2,⟨sb2,st2⟩,of2,t2,f2,c2,ch2,ke2⟩:=b
  simp only at h1 h2 h3 h4 h5 h6 h7 h8 h9 h10 h11 h12 h13 h14 h15
  subst h1; subst h2; subst h3; subst h4; subst h5; subst h6; subst h7; subst h8; subst h9; subst h10; subst h11; subst h12; subst h13; subst h14; subst h15
  rfl
 ·rintro rfl
  simp
abbrev ZlP (x:Nat × Nat):D:=.agg [.fn (.func x.1) [] [],.fn (.func x.2) [] []]
def Zf7:List (Int × (Nat × Nat)):=[(1,(KD.id,WH.id)),(2,(KE.id,WI.id)),(3,(KF.id,Kc.id)),(4,(KG.id,ZE.id)),(5,(KH.id,WJ.id)),(6,(Kn.id,WT.id)),(7,(Ko.id,Wr.id)),(8,(Kp.id,WU.id)),(9,(Kq.id,Zu.id)),(10,(Kr.id,WV.id)),(11,(Ks.id,YZ.id)),(12,(Kt.id,Y0.id))]
theorem Zkk (st:St):Yf Zuv KN.id [] st fun r S=>∃ b,st b=none∧r = .ret (.map b)∧S=st.upd b (.map (Jv JS ZlP Zf7)):=by
 refine Z2 KN.ok fun F hF=>?_
 refine Za (Zb (Zc ?_))
 simp only [Eqs,KN.r0]
 refine Za (Zb (Zc ?_))
 simp only [Eqs,reduceCtorEq,reduceIte,Zuq,Zur,Zus,KN.r1,Zbp,Int.reduceEq,decide_false,ZuB,ZuQ]
 intro b hb
 exact hF.ret _ _ rfl (by trivial) (Zux _) (Zuw _) ⟨b,hb,rfl,rfl⟩
def Zep (n:Str) (k:Int):Fld:=⟨n,k,0,false,false,0,0,⟨0,[]⟩,[],[],[],[],0,0⟩
def Zew (f:Fld):Fld :=
 if f.kind=1 then Zmc f else if f.kind=2 then Zmd f else if f.kind=3 then Zme f else if f.kind=4 then Zjt f else if f.kind=5 then Zmf f else if f.kind=6 then Zmg f
 else if f.kind=7 then Zju f else if f.kind=8 then Zmh f else if f.kind=9 then Zjv f else if f.kind=10 then Zku f else if f.kind=11 then Zkv f else ZhJ f
def Zev (fs:List Fld) (dl:List (Str × Int)) (sl:List (Str × Bool)) (f:Fld):Bool :=
 if f.kind=1 then ck1 f else if f.kind=2 then ck2 f else if f.kind=3 then ck3 f else if f.kind=4 then ZeK fs f.size else if f.kind=5 then ck5 f else if f.kind=6 then ck6 f
 else if f.kind=7 then ck7 fs dl f else if f.kind=8 then ck8 dl f else if f.kind=9 then ZgO fs dl f else if f.kind=10 then Zos f else if f.kind=11 then Zot fs f else Zou fs sl f
def ZaJ (f:Fld):Bool:=decide (1≤f.kind) && decide (f.kind≤12)
theorem Zru {x bd bs:Nat} {k:Ck} {dl:List (Str × Int)} {sl:List (Str × Bool)} {st:St} (hst:JX st x bd bs k dl sl) {n:Nat} (hn:k.field=n) (hl:n≤k.m.fields.length) (f:Fld)
  (hR:((Z8 f.tag (JF (k.m.fields.take n))).getD (0,0)).2 < 4611686018427387904) (hk:ZaJ f=true) :
  ∃ c q,Z8 f.kind Zf7=some (c,q)∧(∀ y s,s y=some (.cells f.cells)→Y3 Zuv c [.ptr y 0] s (.tup []) (s.upd y (.cells (Zew f).cells))) ∧
   ∀ A,st.sub A→Yf Zuv q [.ptr x 0,.agg f.cells] A (QL (Zev (k.m.fields.take n) dl sl f) A):=by
 unfold ZaJ at hk
 simp only [ZuA,decide_eq_true_eq] at hk
 have hk2:f.kind=1∨f.kind=2∨f.kind=3∨f.kind=4∨f.kind=5∨f.kind=6∨f.kind=7∨f.kind=8∨f.kind=9∨f.kind=10∨f.kind=11∨f.kind=12:=by omega
 unfold Zew Zev
 rcases hk2 with h | h | h | h | h | h | h | h | h | h | h | h <;> simp only [h,Int.reduceEq,if_true,if_false]
 ·exact ⟨_,_,rfl,fun y s hy=>Zig f y s hy,fun A hA=>Zih (hst.mono hA) hn hl f⟩
 ·exact ⟨_,_,rfl,fun y s hy=>Zii f y s hy,fun A hA=>Zij (hst.mono hA) hn hl f⟩
 ·exact ⟨_,_,rfl,fun y s hy=>Zik f y s hy,fun A hA=>Zil (hst.mono hA) hn hl f⟩
 ·exact ⟨_,_,rfl,fun y s hy=>Zim f y s hy,fun A hA=>Zc4 (hst.mono hA).x hn hl f⟩
 ·exact ⟨_,_,rfl,fun y s hy=>Zin f y s hy,fun A hA=>Zio (hst.mono hA) hn hl f⟩
 ·exact ⟨_,_,rfl,fun y s hy=>Zhl f y s hy,fun A hA=>Zhm (hst.mono hA) hn hl f⟩
 ·exact ⟨_,_,rfl,fun y s hy=>Zhn f y s hy,fun A hA=>Zho (hst.mono hA) hn hl f⟩
 ·exact ⟨_,_,rfl,fun y s hy=>Zhp f y s hy,fun A hA=>Zhq (hst.mono hA) hn hl f⟩
 ·exact ⟨_,_,rfl,fun y s hy=>Zhr f y s hy,fun A hA=>Zkj (hst.mono hA) hn hl f hR⟩
 ·exact ⟨_,_,rfl,fun y s hy=>Zhs f y s hy,fun A hA=>Zht (hst.mono hA) hn hl f⟩
 ·exact ⟨_,_,rfl,fun y s hy=>Zhu f y s hy,fun A hA=>Zhv (hst.mono hA) hn hl f⟩
 ·exact ⟨_,_,rfl,fun y s hy=>Zhw f y s hy,fun A hA=>Zhx (hst.mono hA) hn hl f⟩
theorem Zpx {f:Fld} (hk:ZaJ f=false):Z8 f.kind Zf7=none:=by
 rw [Zlb]
 unfold ZaJ at hk
 simp only [Bool.and_eq_false_iff,decide_eq_false_iff_not] at hk
 simp only [Zf7,List.map_cons,List.map_nil,List.mem_cons,List.not_mem_nil,or_false]
 omega
end Go.DL
namespace Go.DL
open Go Go.Proofs
def Zaj (fs:List Fld) (dl:List (Str × Int)) (sl:List (Str × Bool)) (f:Fld):Bool :=
 K0 f.name && (!decide (0≤Z7 (fun x=>decide (x.name=f.name)) fs) && (ZaJ f && (decide (Zew f=Zep f.name f.kind) && Zev fs dl sl f)))
theorem Zif {x bd bs:Nat} {k:Ck} {dl:List (Str × Int)} {sl:List (Str × Bool)} {st:St} (hst:JX st x bd bs k dl sl) {n:Nat} (hn:k.field=n) (hl:n≤k.m.fields.length) (f:Fld)
  (hR:((Z8 f.tag (JF (k.m.fields.take n))).getD (0,0)).2 < 4611686018427387904) :
  Yf Zuv ZA.id [.ptr x 0,.agg f.cells] st (QL (Zaj (k.m.fields.take n) dl sl f) st):=by
 refine Z2 ZA.ok fun F hF=>?_
 have hS:=Zaj.eq_1 (k.m.fields.take n) dl sl f
 refine Za (Zb (Zc ?_))
 simp only [Eqs,reduceCtorEq,reduceIte,Zuq,Zur,ZA.r0,ZuD]
 refine Za (Zb (Zc ?_))
 simp only [Eqs,reduceCtorEq,reduceIte,Zuq,ZA.r1]
 refine ZW rfl rfl rfl rfl rfl (by trivial) (by trivial) (by exact Zc5 f.name) (Zc ?_)
 simp only [Eqs]
 refine Yn rfl rfl rfl rfl rfl (by trivial) (by trivial) (by exact Wm hst.x (K0 f.name) 1) ?_ ?_
 ·rintro d S h
  obtain ⟨hok,rfl,rfl⟩:=KK h
  rw [hok,ZuP] at hS
  refine Zc ?_
  simp only [Eqs,reduceCtorEq,reduceIte,Zuq]
  refine Za (Wq (ZM ?_))
  simp only [Eqs,reduceCtorEq,reduceIte,Zuq,ZA.r2]
  refine Zcr rfl rfl rfl rfl rfl (by trivial) (by trivial) (by exact Zas hst.x hn hl) (by first | trivial | exact ⟨rfl,trivial⟩ | simp [Qx,Jy]) (ZM ?_)
  simp only [Eqs,reduceCtorEq,reduceIte,Zuq,Zur,Zus,Yo,slD]
  refine Kd rfl rfl rfl rfl rfl (by trivial) (by trivial) (by exact (Ze3 ⟨[],k.m.fields.take n⟩ f.name)) (ZM ?_)
  simp only [Eqs,reduceCtorEq,reduceIte,Zuq]
  refine Za (Zb (Zc ?_))
  simp only [Eqs,reduceCtorEq,reduceIte,Zuq,ZA.r3]
  refine Yn rfl rfl rfl rfl rfl (by trivial) (by trivial) (by exact Wm hst.x (!decide (0≤Z7 (fun x=>decide (x.name=f.name)) (k.m.fields.take n))) 2) ?_ ?_
  ·rintro d S2 h
   obtain ⟨hok2,rfl,rfl⟩:=KK h
   rw [hok2,ZuP] at hS
   refine Zc ?_
   simp only [Eqs,reduceCtorEq,reduceIte,Zuq]
   refine Za (Wq (ZM ?_))
   simp only [Eqs,reduceCtorEq,reduceIte,Zuq,ZA.r4]
   refine Zah rfl rfl rfl rfl rfl (by trivial) (by trivial) (by exact Zkk S2) ?_ ?_
   ·rintro d S3 ⟨b,hb,hd,rfl⟩
    cases hd
    refine ⟨by first | trivial | exact ⟨rfl,trivial⟩,?_⟩
    have e1:=Qo (vD:=ZlP) ZmA f.kind Zf7
    have e3:=Ja ZmA f.kind
    simp only [show JS f.kind=D.int .i64 f.kind from rfl] at e1 e3
    have hsb:=Zuy (.map (Jv JS ZlP Zf7)) hb
    cases hko:ZaJ f with
    | false =>
     rw [hko,Bool.false_and] at hS
     rw [Zpx hko] at e1
     refine ZM ?_
     simp only [Eqs,reduceCtorEq,reduceIte,Zuq,Zur,Zus,e1,ZuB]
     refine Za (Zb (Zc ?_))
     simp only [Eqs,reduceCtorEq,reduceIte,Zuq,ZA.r5]
     refine Yn rfl rfl rfl rfl rfl (by trivial) (by trivial) (by exact Wm (hst.mono hsb).x false 4) ?_ ?_
     ·rintro d S4 h
      exact absurd (KK h).1 (by simp)
     ·rintro d S4 h
      obtain ⟨_,hfl,rfl⟩:=KJ h
      exact hF.pan S2 hsb (Qy hS hfl)
    | true =>
     rw [hko,ZuP] at hS
     obtain ⟨c,q,hg,hclear,hcheck⟩:=Zru hst hn hl f hR hko
     rw [hg] at e1
     refine ZM ?_
     simp only [Eqs,reduceCtorEq,reduceIte,Zuq,Zur,Zus,e1,ZuB]
     refine Za (Zb (Zc ?_))
     simp only [Eqs,reduceCtorEq,reduceIte,Zuq,ZA.r5]
     refine Yn rfl rfl rfl rfl rfl (by trivial) (by trivial) (by exact Wm (hst.mono hsb).x true 4) ?_ ?_
     ·rintro d S4 h
      obtain ⟨_,rfl,rfl⟩:=KK h
      refine Zc ?_
      simp only [Eqs,reduceCtorEq,reduceIte,Zuq]
      refine Za (Zb (Zc ?_))
      simp only [Eqs,reduceCtorEq,reduceIte,Zuq,Zur,Zus,ZA.r6]
      refine Za ?_
      refine YJ 7 rfl fun y hy=>?_
      simp only [reduceIte,Zuq,YU,WM,delL]
      have hfc:[D.str f.name,D.int IntKind.i64 f.kind,D.int IntKind.i64 f.bits,D.bool f.little,D.bool f.loose,D.int IntKind.i64 f.low,D.int IntKind.i64 f.high,D.int IntKind.i64 f.size.base,Yj f.size.terms,D.str f.of,D.str f.tag,D.str f.from_,W0 f.cases,D.int IntKind.i64 f.check,D.int IntKind.i64 f.key]=f.cells:=rfl
      simp only [hfc]
      have hsy:∀ o,S2.sub (((S2.upd b (.map (Jv JS ZlP Zf7)))).upd y o):=fun o=>ZuK hsb (Zuy _ hy)
      refine Zb (Zc ?_)
      simp only [Eqs,reduceCtorEq,reduceIte,Zuq,ZA.r7]
      refine Wn rfl rfl rfl rfl rfl (by trivial) (by trivial) (by exact hclear y _ (ZuB _ _ _)) (Zc ?_)
      simp only [Eqs,reduceCtorEq,reduceIte,Zuq]
      simp only [ZuQ]
      refine Za (Zb (Zc ?_))
      simp only [Eqs,reduceCtorEq,reduceIte,Zuq,Zur,Zus,ZA.r8,ZuD,ZuB]
      simp only [ZdQ]
      refine ZW rfl rfl rfl rfl rfl (by trivial) (by trivial) (by exact (ZgB (Zew f) (Zep f.name f.kind)).leA (LeC.two (Zux _) (Zjk (cs':=(Zep f.name f.kind).cells) (.cons (Zux _) (.cons (Zux _) (.cons (Zux _) (.cons (Zux _) (.cons (Zux _) (.cons (Zux _) (.cons (Zux _) (.cons (Zux _) (.cons (Qa (by simp)) (.cons (Zux _) (.cons (Zux _) (.cons (Zux _) (.cons (Qa (by simp)) (.cons (Zux _) (.cons (Zux _) .nil)))))))))))))))))) (Zc ?_)
      simp only [Eqs]
      refine Yn rfl rfl rfl rfl rfl (by trivial) (by trivial) (by exact Wm (hst.mono (hsy _)).x (decide (Zew f=Zep f.name f.kind)) 5) ?_ ?_
      ·rintro d S5 h
       obtain ⟨hok5,rfl,rfl⟩:=KK h
       rw [hok5,ZuP] at hS
       refine Zc ?_
       simp only [Eqs,reduceCtorEq,reduceIte,Zuq]
       refine Zb (Zc ?_)
       simp only [Eqs,reduceCtorEq,reduceIte,Zuq,Zur,Zus,ZA.r9]
       simp only [ZdQ]
       refine Yn rfl rfl rfl rfl rfl (by trivial) (by trivial) (by exact hcheck _ (hsy _)) ?_ ?_
       ·rintro d S6 h
        obtain ⟨hok6,rfl,rfl⟩:=KK h
        rw [hok6] at hS
        refine Zc ?_
        simp only [Eqs]
        exact hF.fin (.tup []) S2 rfl trivial (Zux _) (hsy _) (ZbZ hS)
       ·rintro d S6 h
        obtain ⟨hok6,hfl,rfl⟩:=KJ h
        rw [hok6] at hS
        exact hF.pan S2 (hsy _) (Qy hS hfl)
      ·rintro d S5 h
       obtain ⟨hok5,hfl,rfl⟩:=KJ h
       rw [hok5,Bool.false_and] at hS
       exact hF.pan S2 (hsy _) (Qy hS hfl)
     ·rintro d S4 h
      exact absurd (KJ h).1 (by simp)
   ·rintro d S3 ⟨b,hb,hd,_⟩
    cases hd
  ·rintro d S2 h
   obtain ⟨hok2,hfl,rfl⟩:=KJ h
   rw [hok2,Bool.false_and] at hS
   exact hF.pan _ (Zuw _) (Qy hS hfl)
 ·rintro d S h
  obtain ⟨hok,hfl,rfl⟩:=KJ h
  rw [hok,Bool.false_and] at hS
  exact hF.pan _ (Zuw _) (Qy hS hfl)
end Go.DL
namespace Go.DL
open Go Go.Proofs
def ddS (l:List Str):List Str:=l.foldl Zay []
theorem Zne (l out:List Str):∃ r,l.foldl Zay out=out++r:=by
 induction l generalizing out with
 | nil=>exact ⟨[],by simp⟩
 | cons x r ih =>
  obtain ⟨q,hq⟩:=ih (Zay out x)
  rw [List.foldl_cons,hq]
  unfold Zay
  split
  ·exact ⟨q,rfl⟩
  ·exact ⟨[x]++q,by simp⟩
theorem Zmn {l:List Str} {i:Nat} (h:i < l.length):ddS (l.take (i + 1))=Zay (ddS (l.take i)) (l.getD i default):=by
 unfold ddS; rw [Wz h,List.foldl_append]; rfl
theorem Zn3 {l:List Str} {s:Str}:s∈ddS l↔s∈l:=by unfold ddS; rw [ZfB]; simp
theorem Zrp (l:List Str) (i:Nat):∃ r,ddS l=ddS (l.take i)++r:=by
 conv=>enter [1,r]; lhs; rw [← List.take_append_drop i l]
 unfold ddS
 rw [List.foldl_append]
 exact Zne _ _
theorem Zr5 {l:List Str} {i:Nat} (h:i < l.length) (hn:l.getD i default ∉ l.take i):(ddS (l.take i)).length < (ddS l).length∧(ddS l).getD (ddS (l.take i)).length default=l.getD i default∧(ddS (l.take (i + 1))).length=(ddS (l.take i)).length + 1:=by
 have h1:=Zmn h
 have hm:l.getD i default ∉ ddS (l.take i):=fun hm=>hn (Zn3.1 hm)
 rw [Zay,if_neg hm] at h1
 obtain ⟨r,hr⟩:=Zrp l (i + 1)
 rw [h1] at hr
 refine ⟨by rw [hr]; simp,by rw [hr]; simp [List.getD],by rw [h1]; simp⟩
theorem Zqs {l:List Str} {i:Nat} (h:i < l.length) (hn:l.getD i default∈l.take i):ddS (l.take (i + 1))=ddS (l.take i):=by
 rw [Zmn h,Zay,if_pos (Zn3.2 hn)]
theorem ZgU (l:List Str) (i:Nat) (h:i≤l.length) (tk:Tok) (s:Str):ZR Zuv YM.id [.sl tk i 1 (fun i=>[.str (l.getD i default)]),.str s] (.bool (decide (s∈l.take i))):=by
 have hrow:YE Q5 (fun i=>[.str (l.getD i default)]) (l.take i):=(YE.self (f:=Q5) (l:=l)).take i
 exact (Zeg (l.take i) s).leA (LeC.two (hrow.le (by rw [List.length_take]; omega)) (Zux _))
theorem Zhj (l:List Str) (hl:l.length≤big) (x:Nat):Zcj Zuv (.fn (.func Yh.id) [] [.ptr x 0]) (ddS l).length (fun j=>[.str ((ddS l).getD j default)]) (ZuN x (.cells [Q8 l])):=by
 intro y go A a0 hcons hA hd
 have hw:=hl
 unfold big at hw
 refine Yf.V (first:=[]) (args:=[y]) (caps:=[.ptr x 0]) (Z2 Yh.ok fun F hF=>?_)
 have hx:∀ a,WX a (ZuN x (.cells [Q8 l]))→(a.or (ZuN x (.cells [Q8 l]))) x=some (.cells [Q8 l]):=fun a hda=>by
  rw [YR (hda x _ (Qh _ _)),Qh]
 generalize hT:ZuN x (.cells [Q8 l])=T at *
 refine Za (Zb (Zc ?_))
 simp only [Eqs,reduceCtorEq,reduceIte,Zuq,Zur,Yh.r0,hx a0 hd,Q8,slD]
 refine Zj (ZX ?_)
 have key:∀ (n i:Nat),(l.length) - i=n→∀ a,A (ddS (l.take i)).length a→WX a T→(∀ j,j < (ddS (l.take i)).length→go j = .next)→i≤l.length→ZT F [.code (Yh.l0),.inLoop Yh.l0,.inBlock 0] [(0,.d y),(1,.d (.ptr x 0)),(5,.d (Q8 l)),(6,.d (.int .i64 l.length)),(7,.d (.int .i64 i))] [] (a.or T):=by
  intro n
  induction n using Nat.strongRecOn with
  | ind n ih_key =>
  clear hA hd
  intro i hn a hA hd hno hi
  refine Za (Zb (Zc ?_))
  simp only [Eqs,reduceCtorEq,reduceIte,Zuq,Yh.r1]
  refine Za (Ze rfl trivial (fun h1=>?_) (fun h1=>?_))
  ·simp at h1
   by_cases hm:l.getD i default∈l.take i
   ·have hsm:=Zqs h1 hm
    refine Zg (Za (Zj (Za (Zb (Zc ?_)))))
    simp only [Eqs,reduceCtorEq,reduceIte,Zuq,Yh.r2,Q8,slD]
    repeat (refine Zut (by first | omega | trivial | (intro h0; simp at h0; omega)) ?_)
    refine Za (Zb (Zc ?_))
    simp only [Eqs,reduceCtorEq,reduceIte,Zuq,Yh.r3,hx a hd,Q8,slD]
    repeat (refine Zut (by first | omega | trivial | (intro h0; simp at h0; omega)) ?_)
    refine ZW rfl rfl rfl rfl rfl (by trivial) (by trivial) (by exact ZgU l i (by omega) _ _) (Zc ?_)
    simp only [Eqs,reduceCtorEq,reduceIte,Zuq,decide_eq_true hm]
    refine Zbl rfl (e:=.d (.bool false)) (Zc ?_)
    simp only [Eqs,reduceCtorEq,reduceIte,Zuq]
    refine Ze rfl trivial (fun h=>by simp at h) (fun _=>?_)
    refine Zg (Zm (Zb (Zc ?_)))
    simp only [Eqs,reduceCtorEq,reduceIte,Zuq,Yh.r4]
    repeat (refine Zut (by first | omega | trivial | (intro h0; simp at h0; omega)) ?_)
    refine Zy ?_
    exact ih_key ((l.length) - (i + 1)) (by omega) (i + 1) rfl a (by rw [hsm]; exact hA) hd (by rw [hsm]; exact hno) (by omega)
   ·have hat:=Zr5 h1 hm
    refine Zg (Za (Zj (Za (Zb (Zc ?_)))))
    simp only [Eqs,reduceCtorEq,reduceIte,Zuq,Yh.r2,Q8,slD]
    repeat (refine Zut (by first | omega | trivial | (intro h0; simp at h0; omega)) ?_)
    refine Za (Zb (Zc ?_))
    simp only [Eqs,reduceCtorEq,reduceIte,Zuq,Yh.r3,hx a hd,Q8,slD]
    repeat (refine Zut (by first | omega | trivial | (intro h0; simp at h0; omega)) ?_)
    refine ZW rfl rfl rfl rfl rfl (by trivial) (by trivial) (by exact ZgU l i (by omega) _ _) (Zc ?_)
    simp only [Eqs,reduceCtorEq,reduceIte,Zuq,decide_eq_false hm]
    have hcall:=(hcons _ hat.1 hno a hA).frame hd
    simp only [hat.2.1] at hcall
    refine ZbA rfl rfl rfl rfl rfl (by trivial) (by trivial) (by exact hcall) ?_ ?_
    ·rintro d S ⟨s',⟨hr,hA'⟩,hd',rfl⟩
     cases hgo:go (ddS (l.take i)).length with
     | next =>
      rw [hgo] at hr
      cases hr
      refine Zc ?_
      simp only [Eqs,reduceCtorEq,reduceIte,Zuq]
      refine Ze rfl trivial (fun h=>by simp at h) (fun _=>?_)
      refine Zg (Zm (Zb (Zc ?_)))
      simp only [Eqs,reduceCtorEq,reduceIte,Zuq,Yh.r4]
      repeat (refine Zut (by first | omega | trivial | (intro h0; simp at h0; omega)) ?_)
      refine Zy ?_
      exact ih_key ((l.length) - (i + 1)) (by omega) (i + 1) rfl s' (by rw [hat.2.2]; exact hA') hd' (by rw [hat.2.2]; exact K4 (q:=fun i=>go i = .next) hno hgo) (by omega)
     | stop c =>
      rw [hgo] at hr
      cases hr
      refine Zc ?_
      simp only [Eqs,reduceCtorEq,reduceIte,Zuq]
      refine Ze rfl trivial (fun _=>?_) (fun h=>by simp at h)
      exact hF.ret (.tup []) _ rfl trivial (Zux _) (Zuw _) ⟨s',.stop _ c hat.1 hno hgo hA',Jf _ _⟩
     | pan d=>rw [hgo] at hr; cases hr
    ·rintro d S ⟨s',⟨hr,hA'⟩,hd',rfl⟩
     cases hgo:go (ddS (l.take i)).length with
     | pan d' =>
      rw [hgo] at hr
      cases hr
      exact hF.pan _ (Zuw _) ⟨s',.pan _ d hat.1 hno hgo hA',Jf _ _⟩
     | next=>rw [hgo] at hr; cases hr
     | stop c=>rw [hgo] at hr; cases hr
  ·simp at h1
   obtain rfl:i=l.length:=by omega
   rw [ZuH] at hA hno
   refine ZQ rfl ?_
   exact hF.fin (.tup []) _ rfl trivial (Zux _) (Zuw _) ⟨a,.all hno hA,Jf _ _⟩
 exact key _ 0 rfl a0 hA hd (by intro i hi; simp [ddS] at hi) (by omega)
theorem Zi6 (m:Msg) (hb:(m.fields.flatMap Wk).length≤1000000) (st:St):Yf Zuv Zr.id [.agg m.cells] st fun r S=>∃ x,st x=none∧r = .ret (.fn (.func Yh.id) [] [.ptr x 0])∧S=st.or (ZuN x (.cells [Q8 (m.fields.flatMap Wk)])):=by
 refine Zdx Zr.ok fun hwf F hF=>?_
 have hw:=(ZdU (s:=m) (hwf _ (by simp))).nfields
 have hfw:=(ZdU (s:=m) (hwf _ (by simp))).fields
 unfold big at hw
 clear hwf
 refine Za (Zb (Zc ?_))
 simp only [Eqs,reduceCtorEq,reduceIte,Zuq,Zr.r0,ZuG]
 refine Za (Zb (Zc ?_))
 simp only [Eqs,reduceIte,Zuq,Zr.r1]
 refine Za (Za (Zb (Zc ?_)))
 simp only [Eqs,reduceIte,Zuq,Zr.r2,Yo,slD]
 refine Zj ?_
 refine Ku (s':=st) (by first | exact Zuw _ | exact Zl (by first | trivial | assumption) | exact ZuK (Zl (by first | trivial | assumption)) (Zl (by first | trivial | assumption)) | assumption) (Qz (ρ':=[(3,.loc 3 0),(9,.d (Yo m.fields)),(10,.d (.int .i64 m.fields.length)),(11,.d (.int .i64 (0:Nat)))]) (L':=[(3,[.sl .full 0 1 fun _=>[]])]) ?_ ?_ ?_)
 ·exact Zai _
 ·exact .cons (.cons (Qa (by simp)) .nil) .nil
 refine ZX ?_
 have key:∀ (n i:Nat),(m.fields.length) - i=n→∀ tk row out,tk.okIn st→YE (fun s=>[.str s]) row out→out=(m.fields.take i).flatMap Wk→i≤m.fields.length→ZT F [.code (Zr.l0),.inLoop Zr.l0,.inBlock 0,.code (.seq (qR Zr.r17 [2]) .ret)] [(3,.loc 3 0),(9,.d (Yo m.fields)),(10,.d (.int .i64 m.fields.length)),(11,.d (.int .i64 i))] [(3,[.sl tk out.length 1 row])] (st.own tk (out.length * 1)):=by
  intro n
  induction n using Nat.strongRecOn with
  | ind n ih_key =>
  intro i hn tk row out htk hrow hout hi
  refine Za (Zb (Zc ?_))
  simp only [Eqs,reduceIte,Zuq,Zr.r3]
  refine Za (Ze rfl trivial (fun h1=>?_) (fun h1=>?_))
  ·simp at h1
   have hsn:=Zd7 m.fields i h1
   have hlt2:=Zbn m.fields (i + 1)
   rw [hsn,ZuF,← hout] at hlt2
   have hnc:=(hfw _ (Ki h1)).ncases
   unfold big at hnc
   generalize hf:m.fields.getD i default=f at *
   refine Zg (Za (Zj (Za (Zb (Zc ?_)))))
   simp only [Eqs,reduceIte,Zuq,Zur,Zus,Zr.r4,Yo,slD,ZuD,hf]
   repeat (refine Zut (by first | omega | trivial | (intro h0; simp at h0; omega)) ?_)
   refine Za (Zb (Zc ?_))
   simp only [Eqs,reduceIte,Zuq,Zr.r5]
   refine Zj (Za (Za (Zb (Zc ?_))))
   simp only [Eqs,reduceIte,Zuq,Zr.r6]
   have jn:∀ bb:Bool,bb=(decide (f.kind=7) || (decide (f.kind=8) || decide (f.kind=12)))→ZT F [.code (qC 17 (qR Zr.r9 [3,9,10,11]) (.seq (qR Zr.r10 [3,5,9,10,11,26]) (qC 26 (.seq (qR Zr.r11 [3,9,10,11,29,30,31]) (.block 3 (.loop Zr.l1))) .skip))),.inBlock 2,.inBlock 1,.code (qR Zr.r16 [3,9,10,11]),.inLoop Zr.l0,.inBlock 0,.code (.seq (qR Zr.r17 [2]) .ret)] [(3,.loc 3 0),(5,.loc 5 0),(9,.d (Yo m.fields)),(10,.d (.int .i64 m.fields.length)),(11,.d (.int .i64 i)),(16,.d (.int .i64 f.kind)),(17,.d (.bool bb))] [(3,[.sl tk out.length 1 row]),(5,f.cells)] (st.own tk (out.length * 1)):=by
    intro bb hbb
    refine Ze rfl trivial (fun h3=>?_) (fun h3=>?_)
    ·have hrf:Wk f=[f.of]:=by
      subst h3
      have h9:¬ f.kind=9:=by
       intro e; rw [e] at hbb; simp at hbb
      unfold Wk Jz
      rw [← hbb,if_pos rfl,if_neg h9,List.append_nil]
     rw [hrf] at hsn hlt2
     simp only [ZuI,List.length_nil] at hlt2
     refine Zb (Zc ?_)
     simp only [Eqs,reduceIte,Zuq,Zr.r9,ZuD]
     refine JO (st) (tk) rfl rfl rfl rfl rfl rfl (by trivial) (by trivial) rfl (by first | trivial | assumption) (by omega) (by (unfold big; omega)) fun t1 ht1=>Zc ?_
     simp only [Eqs,reduceIte,Zuq,Zus]
     refine Zm (Zm (Zb (Zc ?_)))
     simp only [Eqs,reduceIte,Zuq,Zr.r16]
     repeat (refine Zut (by first | omega | trivial | (intro h0; simp at h0; omega)) ?_)
     refine Zy ?_
     have hnext:=ih_key ((m.fields.length) - (i + 1)) (by omega) (i + 1) rfl t1 _ (out++[f.of]) ht1 (hrow.snoc (x:=f.of) (row2:=Wy [.str []] ([0].zip [.str f.of])) rfl rfl) (by rw [hsn,hout]) (by omega)
     rw [ZuF] at hnext
     exact hnext
    ·have hrf:Wk f=if f.kind=9 then f.cases.map (·.of) else []:=by
      subst h3
      unfold Wk Jz
      rw [← hbb,if_neg (by simp),List.nil_append]
     rw [hrf] at hsn hlt2
     refine Za (Zb (Zc ?_))
     simp only [Eqs,reduceIte,Zuq,Zr.r10]
     refine Ze rfl trivial (fun h4=>?_) (fun h4=>?_)
     ·have h9:f.kind=9:=by simpa using h4
      rw [if_pos h9] at hsn hlt2
      simp only [List.length_map] at hlt2
      refine Za (Zb (Zc ?_))
      simp only [Eqs,reduceIte,Zuq,Zr.r11,ZuD,W0,slD]
      refine Zj (ZX ?_)
      have key2:∀ (n q:Nat),(f.cases.length) - q=n→∀ tk row o,tk.okIn st→YE (fun s=>[.str s]) row o→o=out++(f.cases.take q).map (·.of)→q≤f.cases.length→ZT F [.code (Zr.l1),.inLoop Zr.l1,.inBlock 3,.inBlock 2,.inBlock 1,.code (qR Zr.r16 [3,9,10,11]),.inLoop Zr.l0,.inBlock 0,.code (.seq (qR Zr.r17 [2]) .ret)] [(3,.loc 3 0),(9,.d (Yo m.fields)),(10,.d (.int .i64 m.fields.length)),(11,.d (.int .i64 i)),(29,.d (W0 f.cases)),(30,.d (.int .i64 f.cases.length)),(31,.d (.int .i64 q))] [(3,[.sl tk o.length 1 row])] (st.own tk (o.length * 1)):=by
       intro n
       induction n using Nat.strongRecOn with
       | ind n ih_key2 =>
       clear hrow htk
       intro q hnq tk row o htk hrow ho hq
       have hol:o.length=out.length + q:=by rw [ho]; simp; omega
       refine Za (Zb (Zc ?_))
       simp only [Eqs,reduceIte,Zuq,Zr.r12]
       refine Za (Ze rfl trivial (fun h5=>?_) (fun h5=>?_))
       ·simp at h5
        have hsn2:(f.cases.take (q + 1)).map (·.of)=(f.cases.take q).map (·.of)++[(f.cases.getD q default).of]:=by rw [Wz h5,List.map_append]; rfl
        generalize hc:f.cases.getD q default=c at *
        refine Zg (Za (Zj (Za (Zb (Zc ?_)))))
        simp only [Eqs,reduceIte,Zuq,Zur,Zus,Zr.r13,W0,slD,WK.cells,hc]
        repeat (refine Zut (by first | omega | trivial | (intro h0; simp at h0; omega)) ?_)
        refine Zb (Zc ?_)
        simp only [Eqs,reduceIte,Zuq,Zr.r14]
        refine JO (st) (tk) rfl rfl rfl rfl rfl rfl (by trivial) (by trivial) rfl (by first | trivial | assumption) (by omega) (by (unfold big; omega)) fun t1 ht1=>Zc ?_
        simp only [Eqs,reduceIte,Zuq,Zus]
        refine Zm (Zb (Zc ?_))
        simp only [Eqs,reduceIte,Zuq,Zr.r15]
        repeat (refine Zut (by first | omega | trivial | (intro h0; simp at h0; omega)) ?_)
        refine Zy ?_
        have hnext:=ih_key2 ((f.cases.length) - (q + 1)) (by omega) (q + 1) rfl t1 _ (o++[c.of]) ht1 (hrow.snoc (x:=c.of) (row2:=Wy [.str []] ([0].zip [.str c.of])) rfl rfl) (by rw [hsn2,ho,List.append_assoc]) (by omega)
        rw [ZuF] at hnext
        exact hnext
       ·simp at h5
        obtain rfl:q=f.cases.length:=by omega
        rw [ZuH] at ho
        refine ZQ rfl (Zm (Zm (Zb (Zc ?_))))
        simp only [Eqs,reduceIte,Zuq,Zr.r16]
        repeat (refine Zut (by first | omega | trivial | (intro h0; simp at h0; omega)) ?_)
        refine Zy ?_
        exact ih_key ((m.fields.length) - (i + 1)) (by omega) (i + 1) rfl tk row o htk hrow (by rw [hsn,ho,hout]) (by omega)
      exact key2 _ 0 rfl tk row out htk hrow (by simp) (by omega)
     ·have h9:¬ f.kind=9:=by simpa using h4
      rw [if_neg h9,List.append_nil] at hsn
      refine Zg ?_
      refine Zm (Zm (Zb (Zc ?_)))
      simp only [Eqs,reduceIte,Zuq,Zr.r16]
      repeat (refine Zut (by first | omega | trivial | (intro h0; simp at h0; omega)) ?_)
      refine Zy ?_
      exact ih_key ((m.fields.length) - (i + 1)) (by omega) (i + 1) rfl tk row out htk hrow (by rw [hsn,hout]) (by omega)
   refine Ze rfl trivial (fun h2=>?_) (fun h2=>?_)
   ·refine Zg ?_
    refine jn _ ?_
    rw [h2,Bool.true_or]
   ·refine Za (Zb (Zc ?_))
    simp only [Eqs,reduceIte,Zuq,Zr.r7]
    refine Ze rfl trivial (fun h3=>?_) (fun h3=>?_)
    ·refine Zg ?_
     refine jn _ ?_
     rw [h2,h3]; rfl
    ·refine Zb (Zc ?_)
     simp only [Eqs,reduceIte,Zuq,Zr.r8]
     refine jn _ ?_
     rw [h2,h3]; rfl
  ·simp at h1
   obtain rfl:i=m.fields.length:=by omega
   rw [ZuH] at hout
   refine ZQ rfl (Za ?_)
   refine Ku (s':=st) (by first | exact Zuw _ | exact Zl (by first | trivial | assumption) | exact ZuK (Zl (by first | trivial | assumption)) (Zl (by first | trivial | assumption)) | assumption) (Qz (ρ':=[(3,.loc 3 0),(9,.d (Yo m.fields)),(10,.d (.int .i64 m.fields.length)),(11,.d (.int .i64 m.fields.length)),(12,.d (.bool (decide ((m.fields.length:Int) < m.fields.length))))]) (L':=[(3,[Q8 out])]) ?_ ?_ ?_)
   ·exact Zai _
   ·exact .cons (.cons (hrow.le rfl) .nil) .nil
   refine YJ 3 rfl fun x hx=>?_
   simp only [reduceIte,YU,WM,delL]
   refine Zb (Zc ?_)
   simp only [Eqs,reduceIte,Zuq,Zr.r17]
   exact hF.ret _ _ rfl (by trivial) (Zux _) (Zuw _) ⟨x,hx,rfl,by rw [← hout]; exact J2 hx⟩
 exact key _ 0 rfl .full _ [] trivial YE.nil rfl (by omega)
end Go.DL
namespace Go.DL
open Go Go.Proofs
def Jd (dl:List (Str × Int)) (m:Msg):Int:=(Qe m).foldl (fun a s=>max a ((Z8 s dl).getD 0)) 0
def ZaS (sl:List (Str × Bool)) (m:Msg):Bool:=(m.fields.all fun f=>!f.loose) && (Qe m).all fun s=>(Z8 s sl).getD false
def Zae (dl:List (Str × Int)) (sl:List (Str × Bool)) (m:Msg) (n:Nat):Bool:=(List.range n).all fun i=>Zaj (m.fields.take i) dl sl (m.fields.getD i default)
def Zd5 (dl:List (Str × Int)) (sl:List (Str × Bool)) (m:Msg):Bool :=
 K0 m.name && (!(Z8 m.name dl).isSome && ((decide (1≤(m.fields.length:Int)) && decide ((m.fields.length:Int)≤40)) && (Zae dl sl m m.fields.length && decide (Jd dl m < 16))))
def Zkp:Int:=4611686018427387904
theorem Zky {fs:List Fld} {dl:List (Str × Int)} {sl:List (Str × Bool)} {f:Fld} (h:Zaj fs dl sl f=true) (hn:QZ f=true):(Kv f).2 < Zkp:=by
 unfold Zaj at h
 simp only [ZuA] at h
 have hc:=h.2.2.2.2
 unfold QZ at hn
 simp only [ZuA,decide_eq_true_eq] at hn
 have hk:f.kind=1∨f.kind=2∨f.kind=3:=by omega
 unfold Zev at hc
 unfold Kv Zkp
 rcases hk with hk | hk | hk <;> simp only [hk,Int.reduceEq,if_true,if_false] at hc ⊢
 ·unfold ck1 Zdy at hc
  simp only [Kz,ZuA,decide_eq_true_eq,Bool.and_true] at hc
  have:=ZcD (b:=f.bits) (by omega) (by omega)
  generalize (2:Int) ^ f.bits.toNat=pw at *
  omega
 ·unfold ck2 Zdy at hc
  simp only [Kz,ZuA,decide_eq_true_eq,Bool.and_true] at hc
  have:=ZcD (b:=f.bits) (by omega) (by omega)
  generalize (2:Int) ^ f.bits.toNat=pw at *
  omega
 ·unfold ck3 at hc
  simp only [Kz,ZuA,decide_eq_true_eq,Bool.and_true] at hc
  omega
theorem ZoH {fs:List Fld} {i:Nat} (h:∀ j,j < i→QZ (fs.getD j default)=true→(Kv (fs.getD j default)).2 < Zkp) (k:Str):((Z8 k (Jo fs i)).getD (0,0)).2 < Zkp:=by
 induction i with
 | zero=>simp [Jo,Z8,Zkp]
 | succ i ih =>
  have h1:=ih fun j hj=>h j (by omega)
  simp only [Jo]
  split
  ·rename_i hn
   rw [Zbb]
   split
   ·exact h i (by omega) hn
   ·exact h1
  ·exact h1
theorem ZlB {dl:List (Str × Int)} {sl:List (Str × Bool)} {m:Msg} {i:Nat} (h:Zae dl sl m i=true) (hi:i≤m.fields.length) (k:Str):((Z8 k (JF (m.fields.take i))).getD (0,0)).2 < 4611686018427387904:=by
 refine ZoH (fun j hj hn=>?_) k
 rw [List.length_take] at hj
 rw [Zbg (by omega)] at hn ⊢
 exact Zky (List.all_eq_true.1 h j (by simp; omega)) hn
theorem Zlz {fs:List Fld} {dl:List (Str × Int)} {sl:List (Str × Bool)} {f:Fld} (h:Zaj fs dl sl f=true):(Wk f).length≤41:=by
 unfold Zaj at h
 simp only [ZuA] at h
 have hc:=h.2.2.2.2
 unfold Wk
 rw [ZuF]
 have h1:(Jz f).length≤1:=by unfold Jz; split <;> simp
 split
 ·rename_i h9
  unfold Zev at hc
  simp only [h9,Int.reduceEq,if_true,if_false] at hc
  unfold ZgO at hc
  simp only [ZuA,decide_eq_true_eq] at hc
  simp only [List.length_map]
  omega
 ·simp; omega
theorem Zmu {dl:List (Str × Int)} {sl:List (Str × Bool)} {m:Msg} (h:Zae dl sl m m.fields.length=true) (hm:m.fields.length≤40):(m.fields.flatMap Wk).length≤1000000:=by
 have key:∀ l:List Fld,(∀ f∈l,(Wk f).length≤41)→(l.flatMap Wk).length≤41 * l.length:=by
  intro l
  induction l with
  | nil=>simp
  | cons x r ih =>
   intro hx
   have:=ih fun f hf=>hx f (by simp [hf])
   have:=hx x (by simp)
   simp only [List.flatMap_cons,ZuF,ZuI]; omega
 have:=key m.fields fun f hf=>by
  obtain ⟨i,hi,rfl⟩:=ZuJ hf
  have:=Zlz (List.all_eq_true.1 h i (by simpa using hi))
  simpa [List.getD,hi] using this
 omega
theorem ZgX {dl:List (Str × Int)} {sl:List (Str × Bool)} {m:Msg} {i:Nat}:Zae dl sl m (i + 1)=(Zae dl sl m i && Zaj (m.fields.take i) dl sl (m.fields.getD i default)):=by
 unfold Zae; rw [List.range_succ,List.all_append]; simp
theorem ZlA {dl:List (Str × Int)} {sl:List (Str × Bool)} {m:Msg} {i n:Nat} (hi:i < n) (h:Zaj (m.fields.take i) dl sl (m.fields.getD i default)=false):Zae dl sl m n=false :=
 List.all_eq_false.2 ⟨i,by simpa using hi,by rw [h]; simp⟩
theorem JX.ne {st:St} {x bd bs:Nat} {k:Ck} {dl:List (Str × Int)} {sl:List (Str × Bool)} (h:JX st x bd bs k dl sl):x≠bd∧x≠bs :=
 ⟨fun e=>by have:=h.x; rw [e,h.bd] at this; simp at this,fun e=>by have:=h.x; rw [e,h.bs] at this; simp at this⟩
theorem JX.updX {st:St} {x bd bs:Nat} {k:Ck} {dl:List (Str × Int)} {sl:List (Str × Bool)} (h:JX st x bd bs k dl sl) (k':Ck):JX (st.upd x (.cells (k'.cells bd bs))) x bd bs k' dl sl :=
 ⟨ZuB _ _ _,by rw [ZuE _ _ h.ne.1.symm]; exact h.bd,by rw [ZuE _ _ h.ne.2.symm]; exact h.bs⟩
def Zeq (ok:Bool) (st:St) (x bd bs:Nat) (k:Ck) (dl:List (Str × Int)) (sl:List (Str × Bool)) (r:Res) (S:St):Prop :=
 if ok then r = .ret (.tup [])∧S=((st.upd x (.cells (k.cells bd bs))).upd bd (.map (Zg4 dl))).upd bs (.map (Zeb sl)) else (∃ d,ZdJ d∧r = .panic d)∧∀ b,b≠x→b≠bd→b≠bs→S b=st b
theorem Zn7 {ok:Bool} {st:St} {x bd bs:Nat} {k:Ck} {dl:List (Str × Int)} {sl:List (Str × Bool)} {d:D} {c:List D} (h:ok=false) (hd:ZdJ d):Zeq ok st x bd bs k dl sl (.panic d) (st.upd x (.cells c)):=by
 subst h; exact ⟨⟨d,hd,rfl⟩,fun b h1 _ _=>ZuE _ _ h1⟩
theorem Zk6 {K V:Type} [DecidableEq K] {kp:KP} {kD:K→D} {vD:V→D} (h:ZfQ kp kD) (k:K) (z:D) (l:List (K × V)):Zf2 kp (kD k) z (Jv kD vD l)=some ((Z8 k l).elim z vD):=by
 induction l with
 | nil=>rfl
 | cons e r ih =>
  simp only [Jv,List.map_cons,Zf2,h k e.1,Z8]
  by_cases hk:k=e.1
  ·simp [hk]
  ·simp only [hk,decide_false,if_false]; exact ih
def nxS (s1:St) (x z2 z6 z9:Nat) (sb:Bool) (dp:Int):St:=((s1.upd z2 (.cells [.ptr x 0])).upd z6 (.cells [.bool sb])).upd z9 (.cells [.int .i64 dp])
structure J3 (s1:St) (z2 z6 z9:Nat):Prop where
 n2:s1 z2=none
 n6:z6≠z2∧s1 z6=none
 n9:z9≠z6∧z9≠z2∧s1 z9=none
section
variable {s1:St} {x z2 z6 z9:Nat} {sb:Bool} {dp:Int}
theorem J3.g2 (h:J3 s1 z2 z6 z9):(nxS s1 x z2 z6 z9 sb dp) z2=some (.cells [.ptr x 0]):=by
 simp [nxS,St.upd,h.n6.1.symm,h.n9.2.1.symm]
theorem J3.g6 (h:J3 s1 z2 z6 z9):(nxS s1 x z2 z6 z9 sb dp) z6=some (.cells [.bool sb]):=by
 simp [nxS,St.upd,h.n9.1.symm]
theorem J3.g9:(nxS s1 x z2 z6 z9 sb dp) z9=some (.cells [.int .i64 dp]):=by
 simp [nxS,St.upd]
theorem J3.gs (h:J3 s1 z2 z6 z9) {b:Nat} {o:KC} (hb:s1 b=some o):(nxS s1 x z2 z6 z9 sb dp) b=some o:=by
 have h2:b≠z2:=fun e=>by rw [e,h.n2] at hb; simp at hb
 have h6:b≠z6:=fun e=>by rw [e,h.n6.2] at hb; simp at hb
 have h9:b≠z9:=fun e=>by rw [e,h.n9.2.2] at hb; simp at hb
 simp [nxS,St.upd,h2,h6,h9,hb]
theorem J3.sub (h:J3 s1 z2 z6 z9):s1.sub (nxS s1 x z2 z6 z9 sb dp):=fun b o hb=>h.gs hb
theorem J3.u9 (dp':Int):(nxS s1 x z2 z6 z9 sb dp).upd z9 (.cells [.int .i64 dp'])=nxS s1 x z2 z6 z9 sb dp':=by
 unfold nxS; rw [ZuQ]
theorem J3.u6 (h:J3 s1 z2 z6 z9) (sb':Bool):(nxS s1 x z2 z6 z9 sb dp).upd z6 (.cells [.bool sb'])=nxS s1 x z2 z6 z9 sb' dp:=by
 unfold nxS; rw [St.upd_comm _ _ _ h.n9.1.symm,ZuQ]
theorem J3.disj {sb':Bool} {dp':Int} {t:St} (h:WX (nxS s1 x z2 z6 z9 sb dp) t):WX (nxS s1 x z2 z6 z9 sb' dp') t:=fun c o hc=>by
 have:=h c o hc
 unfold nxS at this ⊢
 have k9:=Wp this
 have k6:=Wp k9.2
 rw [ZuE _ _ k9.1,ZuE _ _ k6.1]; exact k6.2
theorem J3.ub (h:J3 s1 z2 z6 z9) {b:Nat} {o o':KC} (hb:s1 b=some o):(nxS s1 x z2 z6 z9 sb dp).upd b o'=nxS (s1.upd b o') x z2 z6 z9 sb dp:=by
 have h2:b≠z2:=fun e=>by rw [e,h.n2] at hb; simp at hb
 have h6:b≠z6:=fun e=>by rw [e,h.n6.2] at hb; simp at hb
 have h9:b≠z9:=fun e=>by rw [e,h.n9.2.2] at hb; simp at hb
 unfold nxS; rw [St.upd_comm _ _ _ h9,St.upd_comm _ _ _ h6,St.upd_comm _ _ _ h2]
theorem J3.of (h:J3 s1 z2 z6 z9) {b:Nat} {o o':KC} (hb:s1 b=some o):J3 (s1.upd b o') z2 z6 z9:=by
 have h2:z2≠b:=fun e=>by rw [← e,h.n2] at hb; simp at hb
 have h6:z6≠b:=fun e=>by rw [← e,h.n6.2] at hb; simp at hb
 have h9:z9≠b:=fun e=>by rw [← e,h.n9.2.2] at hb; simp at hb
 exact ⟨by rw [ZuE _ _ h2]; exact h.n2,⟨h.n6.1,by rw [ZuE _ _ h6]; exact h.n6.2⟩,⟨h.n9.1,h.n9.2.1,by rw [ZuE _ _ h9]; exact h.n9.2.2⟩⟩
end
end Go.DL
namespace Go.DL
open Go Go.Proofs
theorem Zgt {dl:List (Str × Int)} {m:Msg} (h:∀ s,0≤(Z8 s dl).getD 0∧(Z8 s dl).getD 0≤16):0≤Jd dl m∧Jd dl m≤16:=by
 unfold Jd
 have:∀ (l:List Str) (b:Int),0≤b→b≤16→0≤l.foldl (fun a s=>max a ((Z8 s dl).getD 0)) b∧l.foldl (fun a s=>max a ((Z8 s dl).getD 0)) b≤16:=by
  intro l
  induction l with
  | nil=>intro b h1 h2; exact ⟨h1,h2⟩
  | cons s r ih =>
   intro b h1 h2
   have:=h s
   exact ih (max b ((Z8 s dl).getD 0)) (by omega) (by omega)
 exact this _ 0 (by omega) (by omega)
theorem ZkI {x bd bs:Nat} {k:Ck} {dl:List (Str × Int)} {sl:List (Str × Bool)} {st:St} (hst:JX st x bd bs k dl sl) (hdd:bd≠bs) (hdl:∀ s,0≤(Z8 s dl).getD 0∧(Z8 s dl).getD 0≤16) (m:Msg) :
  Yf Zuv Zi.id [.ptr x 0,.agg m.cells] st (Zeq (Zd5 dl sl m) st x bd bs { k with field:=-1,m:=m } (K3 m.name (Jd dl m + 1) dl) (K3 m.name (ZaS sl m) sl)):=by
 refine Z2 Zi.ok fun F hF=>?_
 have hS:=Zd5.eq_1 dl sl m
 have hx:=hst.x
 have hne:=hst.ne
 refine Za (Zb (Zc ?_))
 simp only [Eqs,reduceCtorEq,reduceIte,Zuq,Zur,Zi.r0,ZuG]
 refine Za (Wq (ZM ?_))
 simp only [Eqs,reduceIte,Zuq,Zur,Zus,Zi.r1,hx,Ck.cells,ZuB,ZuQ]
 obtain ⟨k1,hk1⟩:∃ k1:Ck,k1={ k with field:=-1,m:=m }:=⟨_,rfl⟩
 have hst1:=hst.updX k1
 have hS1:(st.upd x (.cells [.str k.d.name,We k.d.msgs,.str k.d.start,.map bd,.map bs,.int .i64 k.at_,.int .i64 (-1),.str m.name,Yo m.fields]))=st.upd x (.cells (k1.cells bd bs)):=by rw [hk1]; rfl
 rw [hS1]
 rw [← hk1] at hF
 generalize hS1e:st.upd x (.cells (k1.cells bd bs))=S1 at *
 have e1:=Qo (vD:=JS) WP m.name dl
 have e3:=Ja WP m.name
 simp only [show JU m.name=D.str m.name from rfl] at e1 e3
 have hbad:∀ d,Zd5 dl sl m=false→ZdJ d→Zeq (Zd5 dl sl m) st x bd bs k1 (K3 m.name (Jd dl m + 1) dl) (K3 m.name (ZaS sl m) sl) (.panic d) S1:=fun d h hd=>by rw [← hS1e]; exact Zn7 h hd
 clear hS1
 refine Za (Wq (ZM ?_))
 simp only [Eqs,reduceIte,Zuq,Zi.r2]
 refine Kd rfl rfl rfl rfl rfl (by trivial) (by trivial) (by exact Zc5 m.name) (ZM ?_)
 simp only [Eqs,reduceIte]
 refine Zah rfl rfl rfl rfl rfl (by trivial) (by trivial) (by exact Wm hst1.x (K0 m.name) 1) ?_ ?_
 ·rintro d S h
  obtain ⟨hok,rfl,rfl⟩:=KK h
  rw [hok,ZuP] at hS
  first | refine ⟨by first | trivial | exact ⟨rfl,trivial⟩,?_⟩ | skip
  refine ZM ?_
  simp only [Eqs,reduceIte,Zuq]
  refine Za (WB (Wj ?_))
  simp only [Eqs,reduceIte,Zuq,Zi.r3,hst1.x,hst1.bd,Ck.cells,e1,ZiZ]
  refine Za (Zb (Zc ?_))
  simp only [Eqs,reduceIte,Zuq,Zi.r4]
  refine Yn rfl rfl rfl rfl rfl (by trivial) (by trivial) (by exact Wm hst1.x (!(Z8 m.name dl).isSome) 2) ?_ ?_
  ·rintro d S h
   obtain ⟨hok,rfl,rfl⟩:=KK h
   rw [hok,ZuP] at hS
   refine Zc ?_
   simp only [Eqs,reduceIte,Zuq]
   refine Za (Zb (Zc ?_))
   simp only [Eqs,reduceIte,Zuq,Zi.r5,Yo,slD]
   refine Yn rfl rfl rfl rfl rfl (by trivial) (by trivial) (by exact Wm hst1.x (decide (1≤(m.fields.length:Int)) && decide ((m.fields.length:Int)≤40)) 3) ?_ ?_
   ·rintro d S h
    obtain ⟨hok,rfl,rfl⟩:=KK h
    rw [hok,ZuP] at hS
    simp only [ZuA,decide_eq_true_eq] at hok
    refine Zc ?_
    simp only [Eqs,reduceIte,Zuq]
    refine Za (Zb (Zc ?_))
    simp only [Eqs,reduceIte,Zuq,Zus,Zi.r6]
    refine Za (Za (Zb (Zc ?_)))
    simp only [Eqs,reduceIte,Zuq,Zi.r7]
    subst hk1
    refine Zj (ZX ?_)
    have key:∀ (n i:Nat),(m.fields.length) - i=n→∀ fl:Int,Zae dl sl m i=true→i≤m.fields.length→ZT F [.code (Zi.l0),.inLoop Zi.l0,.inBlock 0,.code (.seq (qR Zi.r14 [2,3,6,76]) (.seq (qR Zi.r15 [2,3,6,9,76]) (.seq (.seq (qR Zi.r16 [2,3,6,9,75,76]) (.block 2 (.rangeF (.tmp 75) [76] Zi.a1 Zi.b1))) (.seq (.regD [0,1,2,3,4,5,6,7,8,9,10,11,12,13,14,15,16,17,18,19,20] Zi.r20 (some [2,9])) (qR Zi.r21 [])))))] [(2,.loc 2 0),(3,.loc 3 0),(6,.loc 6 0),(50,.d (Yo m.fields)),(51,.d (.int .i64 m.fields.length)),(52,.d (.int .i64 i))] [(2,[.ptr x 0]),(3,m.cells),(6,[.bool ((m.fields.take i).all fun f=>!f.loose)])] (st.upd x (.cells (({ k with field:=fl,m:=m }:Ck).cells bd bs))):=by
     intro n
     induction n using Nat.strongRecOn with
     | ind n ih_key =>
     intro i hn fl hfp hi
     refine Za (Zb (Zc ?_))
     simp only [Eqs,reduceIte,Zuq,Zi.r8]
     refine Za (Ze rfl trivial (fun h1=>?_) (fun h1=>?_))
     ·simp at h1
      have hR:=ZlB hfp hi
      have hsn:=ZgX (dl:=dl) (sl:=sl) (m:=m) (i:=i)
      have hall:=Zdd (p:=fun f:Fld=>!f.loose) h1
      generalize hf:m.fields.getD i default=f at *
      refine Zg (Za (Zj (Za (Zb (Zc ?_)))))
      simp only [Eqs,reduceIte,Zuq,Zur,Zus,Zi.r9,Yo,slD,ZuD,hf]
      repeat (refine Zut (by first | omega | trivial | (intro h0; simp at h0; omega)) ?_)
      refine Za (Zb (Zc ?_))
      simp only [Eqs,reduceIte,Zuq,Zur,Zus,Zi.r10,Ck.cells,ZuB,ZuQ]
      have hsi:=hst.updX ({ k with field:=(i:Int),m:=m }:Ck)
      refine Za (Zb (Zc ?_))
      simp only [Eqs,reduceIte,Zuq,Zur,Zus,Zi.r11]
      simp only [ZdQ]
      refine Yn rfl rfl rfl rfl rfl (by trivial) (by trivial) (by exact Zif hsi (n:=i) rfl hi f (hR _)) ?_ ?_
      ·rintro d S2 h
       obtain ⟨hok2,rfl,rfl⟩:=KK h
       refine Zc ?_
       simp only [Eqs,reduceIte,Zuq]
       refine Zb (Zc ?_)
       simp only [Eqs,reduceIte,Zuq,Zus,Zi.r12]
       refine Zm (Zb (Zc ?_))
       simp only [Eqs,reduceIte,Zuq,Zi.r13]
       repeat (refine Zut (by first | omega | trivial | (intro h0; simp at h0; omega)) ?_)
       rw [show (m.fields.take i)=({ k with field:=(i:Int),m:=m }:Ck).m.fields.take i from rfl] at hsn
       rw [hok2,Bool.and_true] at hsn
       refine Zy ?_
       have hnext:=ih_key ((m.fields.length) - (i + 1)) (by omega) (i + 1) rfl i (hsn.trans hfp) (by omega)
       rw [hall] at hnext
       exact hnext
      ·rintro d S2 h
       obtain ⟨hok2,hfl,rfl⟩:=KJ h
       rw [ZlA h1 (by rw [hf]; exact hok2),Bool.false_and] at hS
       exact hF.pan _ (Zuw _) (Zn7 hS hfl)
     ·simp at h1
      obtain rfl:i=m.fields.length:=by omega
      rw [ZuH]
      rw [hfp,ZuP] at hS
      have hrefs:=Zmu hfp (by omega)
      refine ZQ rfl (Za (Zb (Zc ?_)))
      simp only [Eqs,reduceIte,Zuq,Zur,Zus,Zi.r14,Ck.cells,ZuB,ZuQ]
      refine Za (Zb (Zc ?_))
      simp only [Eqs,reduceIte,Zuq,Zus,Zi.r15]
      refine Za (Za ?_)
      refine YJ 2 rfl fun z2 h2=>?_
      simp only [reduceIte,Zuq,YU,WM,delL]
      refine YJ 6 rfl fun z6 h6=>?_
      simp only [reduceIte,Zuq,YU,WM,delL]
      refine YJ 9 rfl fun z9 h9=>?_
      simp only [reduceIte,Zuq,YU,WM,delL]
      have k6:=Wp h6
      have k9:=Wp h9
      have k9a:=Wp k9.2
      have hS1f:(st.upd x (.cells [.str k.d.name,We k.d.msgs,.str k.d.start,.map bd,.map bs,.int .i64 k.at_,.int .i64 (-1),.str m.name,Yo m.fields]))=S:=hS1e
      rw [hS1f] at h2 k6 k9 k9a ⊢
      have hnx:J3 S z2 z6 z9:=⟨h2,k6,⟨k9.1,k9a⟩⟩
      clear h6 h9 k6 k9 k9a h2
      have hlen:(Qe m).length≤1000000:=by
       have:=J1 (m.fields.flatMap Wk) []
       unfold Qe
       simp only [List.length_nil,Nat.zero_add] at this
       omega
      have hmst:S.sub (nxS S x z2 z6 z9 (m.fields.all fun f=>!f.loose) 0):=hnx.sub
      rw [show ((S.upd z2 (.cells [.ptr x 0])).upd z6 (.cells [.bool (m.fields.all fun f=>!f.loose)])).upd z9 (.cells [.int .i64 0])=nxS S x z2 z6 z9 (m.fields.all fun f=>!f.loose) 0 from rfl]
      refine Zb (Zc ?_)
      simp only [Eqs,reduceIte,Zuq,Zur,Zus,Zi.r16,ZuG]
      refine Yn rfl rfl rfl rfl rfl (by trivial) (by trivial) (by exact Zi6 m hrefs _) ?_ ?_
      ·rintro d S2 ⟨y,hy,hd,rfl⟩
       cases hd
       refine Zc ?_
       simp only [Eqs,reduceIte,Zuq]
       refine Zj ?_
       have hld:ddS (m.fields.flatMap Wk)=Qe m:=rfl
       have hit:=Zhj (m.fields.flatMap Wk) (by unfold big; omega) y
       rw [hld] at hit
       refine ZbQ hF rfl trivial [2,6,9] (by show ([2,6,9]:List Nat).Nodup; decide) (J9 hy) hit (fun j hj=>rfl) (fun _=>.next)
        (fun j a=>a=nxS S x z2 z6 z9 ((m.fields.all fun f=>!f.loose) && ((Qe m).take j).all fun s=>(Z8 s sl).getD false) (((Qe m).take j).foldl (fun a s=>max a ((Z8 s dl).getD 0)) 0)) (by simp) ?_ ?_ ?_ ?_ ?_ ?_
       ·intro j a hj hno hB F' ready busy hdr hbeg hend
        subst hB
        simp only [Eqs,reduceIte,Zuq,ZaE,Zbe,Zcf,ZaK,List.isEmpty_nil]
        refine Zb (Zc ?_)
        simp only [Eqs,reduceIte,Zuq,Zi.r17]
        refine hbeg fun hdb=>?_
        have hall:=Zdd (p:=fun s:Str=>(Z8 s sl).getD false) hj
        have hfold:=ZjQ (f:=fun a s=>max a ((Z8 s dl).getD 0)) (b:=(0:Int)) hj
        generalize hnm:(Qe m).getD j default=nm at *
        have e1:=Qo (vD:=JS) WP nm dl
        have e2:=Qo (vD:=D.bool) WP nm sl
        have e3:=Ja WP nm
        simp only [show JU nm=D.str nm from rfl] at e1 e2 e3
        rw [hall,hfold] at hend
        generalize ((Qe m).take j).foldl (fun a s=>max a ((Z8 s dl).getD 0)) 0=dp at *
        generalize ((Qe m).take j).all (fun s=>(Z8 s sl).getD false)=sb at *
        generalize (m.fields.all fun f=>!f.loose)=lo at *
        refine Zj (Za (WB (Wj ?_)))
        simp only [Eqs,reduceIte,Zuq,Zus,Zi.r18,Yv (hnx.g2 ),Yv (J3.g9 ),Yv (hnx.gs hst1.x),Yv (hnx.gs hst1.bd),Ck.cells,e1,Zn5,Zal,J3.u9]
        refine Zb (Zc ?_)
        simp only [Eqs,reduceIte,Zuq,Zus,Zi.r19,Yv (hnx.g2 ),Yv (hnx.g6 ),Yv (hnx.gs hst1.x),Yv (hnx.gs hst1.bs),Ck.cells,e2,Zf9,Zal,hnx.u6]
        refine Zm ?_
        exact hend.fin ⟨rfl,by rw [← Bool.and_assoc]⟩ (J3.disj hdb) (Zuw _)
       ·intro q a hno hB hq
        subst hB
        rw [ZuH] at hq ⊢
        rw [J2 hq]
        rw [show ((m.fields.all fun f=>!f.loose) && (Qe m).all fun s=>(Z8 s sl).getD false)=ZaS sl m from rfl,show (Qe m).foldl (fun a s=>max a ((Z8 s dl).getD 0)) 0=Jd dl m from rfl] at hq ⊢
        have hdp:=Zgt (m:=m) hdl
        generalize ZaS sl m=sb at *
        generalize Jd dl m=dp at *
        have gX2:=Yv (t:=ZuN q .dfr) (hnx.g2 (x:=x) (sb:=sb) (dp:=dp))
        have gX6:=Yv (t:=ZuN q .dfr) (hnx.g6 (x:=x) (sb:=sb) (dp:=dp))
        have gX9:=Yv (t:=ZuN q .dfr) (J3.g9 (s1:=S) (x:=x) (z2:=z2) (z6:=z6) (z9:=z9) (sb:=sb) (dp:=dp))
        have gXx:=Yv (t:=ZuN q .dfr) (hnx.gs (x:=x) (sb:=sb) (dp:=dp) hst1.x)
        have gXd:=Yv (t:=ZuN q .dfr) (hnx.gs (x:=x) (sb:=sb) (dp:=dp) hst1.bd)
        have gXs:=Yv (t:=ZuN q .dfr) (hnx.gs (x:=x) (sb:=sb) (dp:=dp) hst1.bs)
        generalize hX:(nxS S x z2 z6 z9 sb dp).or (ZuN q .dfr)=X at *
        have n2:∀ b o,S b=some o→z2≠b:=fun b o h e=>by rw [← e,hnx.n2] at h; simp at h
        have n6:∀ b o,S b=some o→z6≠b:=fun b o h e=>by rw [← e,hnx.n6.2] at h; simp at h
        have n9:∀ b o,S b=some o→z9≠b:=fun b o h e=>by rw [← e,hnx.n9.2.2] at h; simp at h
        have u2:∀ (Y:St) o,(Y.upd bd o) z2=Y z2:=fun Y o=>ZuE _ _ (n2 _ _ hst1.bd)
        have u6:∀ (Y:St) o,(Y.upd bd o) z6=Y z6:=fun Y o=>ZuE _ _ (n6 _ _ hst1.bd)
        have u9:∀ (Y:St) o,(Y.upd bd o) z9=Y z9:=fun Y o=>ZuE _ _ (n9 _ _ hst1.bd)
        have ux:∀ (Y:St) o,(Y.upd bd o) x=Y x:=fun Y o=>ZuE _ _ hne.1
        have us:∀ (Y:St) o,(Y.upd bd o) bs=Y bs:=fun Y o=>ZuE _ _ hdd.symm
        have v2:∀ (Y:St) o,(Y.upd bs o) z2=Y z2:=fun Y o=>ZuE _ _ (n2 _ _ hst1.bs)
        have v6:∀ (Y:St) o,(Y.upd bs o) z6=Y z6:=fun Y o=>ZuE _ _ (n6 _ _ hst1.bs)
        have v9:∀ (Y:St) o,(Y.upd bs o) z9=Y z9:=fun Y o=>ZuE _ _ (n9 _ _ hst1.bs)
        have vx:∀ (Y:St) o,(Y.upd bs o) x=Y x:=fun Y o=>ZuE _ _ hne.2
        have d1:=Zk6 (vD:=JS) WP m.name (D.int .i64 0) dl
        have d2:=ZcB (vD:=JS) WP m.name (dp + 1) dl
        have s1:=Zk6 (vD:=D.bool) WP m.name (D.bool false) sl
        have s2:=ZcB (vD:=D.bool) WP m.name sb sl
        simp only [show JU m.name=D.str m.name from rfl,show JS (dp + 1)=D.int .i64 (dp + 1) from rfl] at d1 d2 s1 s2
        refine Zm (Za (Wq (ZM ?_)))
        simp only [Eqs,reduceIte,Zuq,Zi.r20,gX2,gX6,gX9,gXx,gXd,gXs,u2,u6,u9,ux,us,v2,v6,v9,vx,d1,d2,s1,s2,Ck.cells,ZuB,ZuQ]
        repeat (refine Zut (by first | omega | trivial | (intro h0; simp at h0; omega)) ?_)
        refine Zb (Zc ?_)
        simp only [Eqs,reduceIte,Zuq,Zi.r21,u2,v2,gX2,u9,v9,gX9]
        have hX2:(X.upd bd (.map (Jv JU JS (K3 m.name (dp + 1) dl)))).upd bs (.map (Jv JU D.bool (K3 m.name sb sl)))=(nxS ((S.upd bd (.map (Zg4 (K3 m.name (dp + 1) dl)))).upd bs (.map (Zeb (K3 m.name sb sl)))) x z2 z6 z9 sb dp).or (ZuN q .dfr):=by
         rw [← hX,Zal,Zal,hnx.ub hst1.bd,(hnx.of hst1.bd).ub (by rw [us]; exact hst1.bs)]
        have hnx2:J3 ((S.upd bd (.map (Zg4 (K3 m.name (dp + 1) dl)))).upd bs (.map (Zeb (K3 m.name sb sl)))) z2 z6 z9:=(hnx.of hst1.bd).of (by rw [us]; exact hst1.bs)
        have hq2:(nxS ((S.upd bd (.map (Zg4 (K3 m.name (dp + 1) dl)))).upd bs (.map (Zeb (K3 m.name sb sl)))) x z2 z6 z9 sb dp) q=none:=by
         have hqb:q≠bs:=fun e=>by have:=hnx.gs (x:=x) (sb:=sb) (dp:=dp) hst1.bs; rw [← e,hq] at this; simp at this
         have hqd:q≠bd:=fun e=>by have:=hnx.gs (x:=x) (sb:=sb) (dp:=dp) hst1.bd; rw [← e,hq] at this; simp at this
         rw [← (hnx.of hst1.bd).ub (by rw [us]; exact hst1.bs),← hnx.ub hst1.bd,ZuE _ _ hqb,ZuE _ _ hqd]; exact hq
        have hx3:((X.upd bd (.map (Jv JU JS (K3 m.name (dp + 1) dl)))).upd bs (.map (Jv JU D.bool (K3 m.name sb sl)))) x=some (.cells (({ k with field:=-1,m:=m }:Ck).cells bd bs)):=by rw [vx,ux]; exact gXx
        refine Yn rfl rfl rfl rfl rfl (by trivial) (by trivial) (by exact Wm hx3 (decide (dp < 16)) 10) ?_ ?_
        ·rintro d S3 h
         obtain ⟨hok3,rfl,rfl⟩:=KK h
         rw [hok3] at hS
         refine Zc ?_
         simp only [Eqs]
         rw [hX2]
         exact hF.fin1 hq2 (.tup []) _ rfl trivial (Zux _) hnx2.sub (by rw [hS]; exact ⟨rfl,by rw [← hS1e]⟩)
        ·rintro d S3 h
         obtain ⟨hok3,hfl,rfl⟩:=KJ h
         rw [hok3] at hS
         rw [hX2]
         exact hF.pan1 hq2 _ hnx2.sub (by rw [hS]; exact ⟨⟨d,hfl,rfl⟩,fun b h1 h2 h3=>by rw [ZuE _ _ h3,ZuE _ _ h2,← hS1e,ZuE _ _ h1]⟩)
       ·intro q a m hm hno hgo; simp at hgo
       ·intro q a m id hm hno hgo; simp at hgo
       ·intro q a m d hm hno hgo; simp at hgo
       ·intro m c hgo; simp at hgo
      ·rintro d S2 ⟨y,hy,hd,_⟩
       cases hd
    have hkk:=key _ 0 rfl (-1) (by simp [Zae]) (by omega)
    rw [hS1e] at hkk
    exact hkk
   ·rintro d S h
    obtain ⟨hok,hfl,rfl⟩:=KJ h
    rw [hok,Bool.false_and] at hS
    exact hF.pan _ (Zuw _) (hbad _ hS hfl)
  ·rintro d S h
   obtain ⟨hok,hfl,rfl⟩:=KJ h
   rw [hok,Bool.false_and] at hS
   exact hF.pan _ (Zuw _) (hbad _ hS hfl)
 ·rintro d S h
  obtain ⟨hok,hfl,rfl⟩:=KJ h
  rw [hok,Bool.false_and] at hS
  exact hF.pan _ (Zuw _) (hbad _ hS hfl)
end Go.DL
namespace Go.DL
open Go Go.Proofs
theorem Zo7 {P:Program} {F:Fr P} {ρ:Env} {L:Loc} {d:D} {s:St} (h:DWf d→QM F ρ L d s):QM F ρ L d s :=
 fun g ν w v todo tmps hN m hr=>h hr.wf g ν w v todo tmps hN m hr
theorem DWf.iface_inv {t:TypeId} {d:D} (h:DWf (.iface t d)):DWf d:=by
 cases h with
 | iface _ _ h=>exact h
 | other _ h=>exact absurd h (by simp)
theorem Zgs {P:Program} {i:FuncId} {args:List D} {m:Option D} {s:St} {Ψ Ψ':Bool→St→Prop} (h:Zdc P i args m s Ψ) (hi:∀ b S,Ψ b S→Ψ' b S):Zdc P i args m s Ψ' :=
 ⟨h.1,fun g w vs cf cs h1 h2 h3=>by
  obtain ⟨g',w',s',b,a1,a2,a3,a4⟩:=h.2 g w vs cf cs h1 h2 h3
  exact ⟨g',w',s',b,a1,a2,hi _ _ a3,a4⟩⟩
theorem Zfj {z3 z4:Nat} {c:KC} {b:Bool} {st:St} (h3:st z3=some c) (h4:st z4=some (.cells [.bool b])) :
  Zdc Zuv Yi.id [.ptr z3 0,.ptr z4 0] none st fun _ S=>S=st:=by
 refine ZgF Yi.ok rfl (by simp) fun F hF=>?_
 refine Za (Zb (Zc ?_))
 simp only [Eqs,Zur,Yi.r0]
 refine Znb hF rfl rfl ?_
 refine Zc ?_
 simp only [Eqs,reduceCtorEq,reduceIte,Zuq]
 refine Za (Zb (Zc ?_))
 simp only [Eqs,reduceCtorEq,reduceIte,Zuq,Yi.r1]
 refine Ze rfl trivial (fun h=>?_) (fun h=>?_)
 ·simp at h
 ·refine Zg ?_
  exact hF.fin (Zuw _) rfl
theorem Zfk {z3 z4:Nat} {b:Bool} {st:St} (hz:z3≠z4) (x y z:Int) (hx:inR .i64 x) (hy:inR .i64 y) (hw:inR .i64 z) (h3:st z3=some (.cells [.int .i64 0,.int .i64 0,.int .i64 0])) (h4:st z4=some (.cells [.bool b])) :
  Zdc Zuv Yi.id [.ptr z3 0,.ptr z4 0] (some (ZhO x y z)) st fun b S=>b=true∧S=(st.upd z3 (.cells [.int .i64 x,.int .i64 y,.int .i64 z])).upd z4 (.cells [.bool true]):=by
 refine ZgF Yi.ok rfl (by rintro d ⟨⟩; exact ⟨hx,hy,hw,trivial⟩) fun F hF=>?_
 have h4b:∀ o,(st.upd z3 o) z4=some (.cells [.bool b]):=fun o=>by rw [ZuE _ _ (Ne.symm hz)]; exact h4
 refine Za (Zb (Zc ?_))
 simp only [Eqs,Zur,Yi.r0]
 refine Zoh hF rfl rfl fun F2 hF2=>?_
 refine Zc ?_
 simp only [Eqs,reduceCtorEq,reduceIte,Zuq]
 refine Za (Zb (Zc ?_))
 simp only [Eqs,reduceCtorEq,reduceIte,Zuq,Yi.r1,ZhO]
 refine Ze rfl trivial (fun h=>?_) (fun h=>?_)
 ·refine Za (Zb (Zc ?_))
  simp only [Eqs,reduceCtorEq,reduceIte,Zuq,Zur,Zus,Yi.r2,h3,h4b]
  refine Za (Zb (Zc ?_))
  simp only [Eqs,reduceIte,Zuq,Yi.r3,ZuB]
  refine Ze rfl trivial (fun h5=>?_) (fun h5=>?_)
  ·simp at h5
  ·refine Zg ?_
   exact hF2.fin (Zuw _) ⟨rfl,rfl⟩
 ·simp [ZhO] at h
def Zc1 (dl:List (Str × Int)) (sl:List (Str × Bool)):List Msg→Option (List (Str × Int) × List (Str × Bool))
 | []=>some (dl,sl)
 | m :: r=>if Zd5 dl sl m then Zc1 (K3 m.name (Jd dl m + 1) dl) (K3 m.name (ZaS sl m) sl) r else none
def Zcx (d:Dfn):Bool :=
 K0 d.name && ((decide (1≤(d.msgs.length:Int)) && decide ((d.msgs.length:Int)≤60)) && (Zc1 [] [] d.msgs).elim false fun p=>(Z8 d.start p.1).isSome)
theorem ZiF (dl:List (Str × Int)) (sl:List (Str × Bool)) (l l':List Msg):Zc1 dl sl (l++l')=(Zc1 dl sl l).elim none fun p=>Zc1 p.1 p.2 l':=by
 induction l generalizing dl sl with
 | nil=>rfl
 | cons m r ih =>
  simp only [List.cons_append,Zc1]
  split
  ·exact ih _ _
  ·rfl
theorem Zln {l:List Msg} {i:Nat} {dl:List (Str × Int)} {sl:List (Str × Bool)} (h:Zc1 [] [] (l.take i)=some (dl,sl)) (hi:i < l.length):Zc1 [] [] (l.take (i + 1))=if Zd5 dl sl (l.getD i default) then some (K3 (l.getD i default).name (Jd dl (l.getD i default) + 1) dl,K3 (l.getD i default).name (ZaS sl (l.getD i default)) sl) else none:=by
 rw [Wz hi,ZiF,h]; rfl
theorem ZqS {l:List Msg} {i:Nat} {dl:List (Str × Int)} {sl:List (Str × Bool)} (h:Zc1 [] [] (l.take i)=some (dl,sl)) (hi:i < l.length) (hb:Zd5 dl sl (l.getD i default)=false):Zc1 [] [] l=none:=by
 have h1:=Zln h hi
 rw [hb] at h1
 rw [← List.take_append_drop (i + 1) l,ZiF,h1]
 rfl
structure ZbY (S st:St) (x bd bs z3 z4:Nat) (k:Ck) (dl:List (Str × Int)) (sl:List (Str × Bool)):Prop where
 ck:JX S x bd bs k dl sl
 c3:S z3=some (.cells [.int .i64 0,.int .i64 0,.int .i64 0])
 c4:S z4=some (.cells [.bool false])
 sub:st.sub S
 fx:st x=none
 fd:st bd=none
 fs:st bs=none
 f3:st z3=none
 f4:st z4=none
 nd:bd≠bs
 n34:z3≠z4
section
variable {S st:St} {x bd bs z3 z4:Nat} {k:Ck} {dl:List (Str × Int)} {sl:List (Str × Bool)}
theorem ZbY.n3 (h:ZbY S st x bd bs z3 z4 k dl sl):z3≠x∧z3≠bd∧z3≠bs:=by
 refine ⟨fun e=>?_,fun e=>?_,fun e=>?_⟩
 ·have h3:=h.c3; rw [e,h.ck.x] at h3; simp [Ck.cells] at h3
 ·have h3:=h.c3; rw [e,h.ck.bd] at h3; simp at h3
 ·have h3:=h.c3; rw [e,h.ck.bs] at h3; simp at h3
theorem ZbY.n4 (h:ZbY S st x bd bs z3 z4 k dl sl):z4≠x∧z4≠bd∧z4≠bs:=by
 refine ⟨fun e=>?_,fun e=>?_,fun e=>?_⟩
 ·have h3:=h.c4; rw [e,h.ck.x] at h3; simp [Ck.cells] at h3
 ·have h3:=h.c4; rw [e,h.ck.bd] at h3; simp at h3
 ·have h3:=h.c4; rw [e,h.ck.bs] at h3; simp at h3
theorem ZbY.move (h:ZbY S st x bd bs z3 z4 k dl sl) {S':St} {k':Ck} {dl':List (Str × Int)} {sl':List (Str × Bool)} (hc:JX S' x bd bs k' dl' sl') (ho:∀ b,b≠x→b≠bd→b≠bs→S' b=S b):ZbY S' st x bd bs z3 z4 k' dl' sl':={
 ck:=hc
 c3:=by rw [ho _ h.n3.1 h.n3.2.1 h.n3.2.2]; exact h.c3
 c4:=by rw [ho _ h.n4.1 h.n4.2.1 h.n4.2.2]; exact h.c4
 sub b o hb:=by
  rw [ho b (fun e=>by rw [e,h.fx] at hb; simp at hb) (fun e=>by rw [e,h.fd] at hb; simp at hb) (fun e=>by rw [e,h.fs] at hb; simp at hb)]; exact h.sub b o hb
 fx:=h.fx
 fd:=h.fd
 fs:=h.fs
 f3:=h.f3
 f4:=h.f4
 nd:=h.nd
 n34:=h.n34 }
theorem ZbY.updX (h:ZbY S st x bd bs z3 z4 k dl sl) (k':Ck):ZbY (S.upd x (.cells (k'.cells bd bs))) st x bd bs z3 z4 k' dl sl :=
 h.move (h.ck.updX k') fun b h1 _ _=>ZuE _ _ h1
theorem ZbY.bad (h:ZbY S st x bd bs z3 z4 k dl sl) {S':St} (ho:∀ b,b≠x→b≠bd→b≠bs→S' b=S b) {F:Fr Zuv}
  (hF:Ql F Zv.df.res (fun r S=>S=st∧∃ a f c,r=Res.ret (.tup [.any,.agg [.int .i64 a,.int .i64 f,.int .i64 c],.bool true])) [.fn Yi.id [] [.ptr z3 0,.ptr z4 0]])
  {ρ:Env} {L:Loc} {d:D} (hd:ZdJ d) (hr:∀ s' c3,s' z3=some (.cells c3)→c3.length=3→s' z4=some (.cells [.bool true])→∃ p,QQ ρ L s' Zv.df.res=some (p,[.ptr x 0,.agg c3,.bool true])∧p):QM F ρ L d S':=by
 obtain ⟨a,f,c,rfl⟩:=hd
 refine Zo7 fun hw=>?_
 have hw2:=DWf.agg_inv (DWf.iface_inv hw)
 have h1:inR .i64 a:=(hw2 _ (by simp)).int_inv
 have h2:inR .i64 f:=(hw2 _ (by simp)).int_inv
 have h3:inR .i64 c:=(hw2 _ (by simp)).int_inv
 have z3':S' z3=some (.cells [.int .i64 0,.int .i64 0,.int .i64 0]):=by rw [ho _ h.n3.1 h.n3.2.1 h.n3.2.2]; exact h.c3
 have z4':S' z4=some (.cells [.bool false]):=by rw [ho _ h.n4.1 h.n4.2.1 h.n4.2.2]; exact h.c4
 refine hF.panU ⟨trivial,⟨rfl,rfl,trivial⟩,Zgs (Zfk h.n34 a f c h1 h2 h3 z3' z4') ?_⟩
 rintro b S2 ⟨rfl,rfl⟩
 obtain ⟨p,hp1,hp2⟩:=hr ((S'.upd z3 (.cells [.int .i64 a,.int .i64 f,.int .i64 c])).upd z4 (.cells [.bool true])) [.int .i64 a,.int .i64 f,.int .i64 c] (by rw [ZuE _ _ h.n34,ZuB]) rfl (ZuB _ _ _)
 refine ⟨p,_,_,st,hp1,hp2,?_,?_,rfl,a,f,c,rfl⟩
 ·exact Zel rfl (.cons (fun _ _ v _=>.any v) (LeC.refl _))
 ·intro b o hb
  have e1:b≠z3:=fun e=>by rw [e,h.f3] at hb; simp at hb
  have e2:b≠z4:=fun e=>by rw [e,h.f4] at hb; simp at hb
  rw [ZuE _ _ e2,ZuE _ _ e1]
  rw [ho b (fun e=>by rw [e,h.fx] at hb; simp at hb) (fun e=>by rw [e,h.fd] at hb; simp at hb) (fun e=>by rw [e,h.fs] at hb; simp at hb)]; exact h.sub b o hb
end
theorem ZbY.mk0 {st:St} {bd bs x z3 z4:Nat} {c:List D} (hbd:st bd=none) (hbs:st.upd bd (.map []) bs=none) (hx:(st.upd bd (.map [])).upd bs (.map []) x=none)
  (h3:((st.upd bd (.map [])).upd bs (.map [])).upd x (.cells c) z3=none) (h4:(((st.upd bd (.map [])).upd bs (.map [])).upd x (.cells c)).upd z3 (.cells [.int .i64 0,.int .i64 0,.int .i64 0]) z4=none) (k:Ck) :
  ((((st.upd bd (.map [])).upd bs (.map [])).upd x (.cells c)).upd z3 (.cells [.int .i64 0,.int .i64 0,.int .i64 0])).upd z4 (.cells [.bool false]) x=some (.cells c) ∧
  ZbY ((((((st.upd bd (.map [])).upd bs (.map [])).upd x (.cells c)).upd z3 (.cells [.int .i64 0,.int .i64 0,.int .i64 0])).upd z4 (.cells [.bool false])).upd x (.cells (k.cells bd bs))) st x bd bs z3 z4 k [] []:=by
 have a4:=Wp h4
 have b4:=Wp a4.2
 have c4:=Wp b4.2
 have d4:=Wp c4.2
 have a3:=Wp h3
 have b3:=Wp a3.2
 have c3:=Wp b3.2
 have ax:=Wp hx
 have bx:=Wp ax.2
 have as1:=Wp hbs
 refine ⟨?_,⟨⟨?_,?_,?_⟩,?_,?_,?_,?_,?_,?_,?_,?_,?_,?_⟩⟩
 ·rw [ZuE _ _ b4.1.symm,ZuE _ _ a3.1.symm,ZuB]
 ·exact ZuB _ _ _
 ·rw [ZuE _ _ bx.1.symm,ZuE _ _ d4.1.symm,ZuE _ _ c3.1.symm,ZuE _ _ bx.1.symm,ZuE _ _ as1.1.symm,ZuB]; rfl
 ·rw [ZuE _ _ ax.1.symm,ZuE _ _ c4.1.symm,ZuE _ _ b3.1.symm,ZuE _ _ ax.1.symm,ZuB]; rfl
 ·rw [ZuE _ _ a3.1,ZuE _ _ a4.1.symm,ZuB]
 ·rw [ZuE _ _ b4.1,ZuB]
 ·intro b o hb
  have e:∀ y,st y=none→b≠y:=fun y hy e=>by rw [e,hy] at hb; simp at hb
  rw [ZuE _ _ (e _ bx.2),ZuE _ _ (e _ d4.2),ZuE _ _ (e _ c3.2),ZuE _ _ (e _ bx.2),ZuE _ _ (e _ as1.2),ZuE _ _ (e _ hbd)]; exact hb
 ·exact bx.2
 ·exact hbd
 ·exact as1.2
 ·exact c3.2
 ·exact d4.2
 ·exact as1.1.symm
 ·exact a4.1.symm
theorem ZoE {c:List D} (h:c.length=3):∃ a b d,c=[a,b,d]:=by
 match c,h with
 | [a,b,d],_=>exact ⟨a,b,d,rfl⟩
theorem Zhk (d:Dfn) (st:St) :
  Yf Zuv Zv.id [.agg d.cells] st fun r S=>S=st∧∃ a f c,r = .ret (.tup [.any,.agg [.int .i64 a,.int .i64 f,.int .i64 c],.bool (!Zcx d)]):=by
 refine Z2 Zv.ok fun F hF=>?_
 have hS:=Zcx.eq_1 d
 refine Za (Zb (Zc ?_))
 simp only [Eqs,reduceCtorEq,reduceIte,Zuq,Zv.r0,ZuM]
 refine Za (Zb (Zc ?_))
 simp only [Eqs,reduceIte,Zuq,Zur,Zus,Zv.r1]
 intro bd hbd bs hbs
 refine Za ?_
 refine YJ 13 rfl fun x hx=>?_
 simp only [reduceIte,Zuq,YU,WM,delL]
 refine YJ 3 rfl fun z3 h3=>?_
 simp only [reduceIte,Zuq,YU,WM,delL]
 refine YJ 4 rfl fun z4 h4=>?_
 simp only [reduceIte,Zuq,YU,WM,delL]
 refine Zb (Zc ?_)
 simp only [Eqs,reduceIte,Zuq,Zv.r2]
 refine Zp4 (by obtain ⟨_,_,_,_,_,_,rfl⟩:=hF; rfl) rfl rfl rfl rfl rfl rfl trivial trivial ?_ ?_ ?_
 ·trivial
 ·exact ⟨rfl,rfl,trivial⟩
 have hF':=hF.defer 55 [] [.ptr z3 0,.ptr z4 0]
 clear hF
 refine Zc ?_
 simp only [Eqs,reduceIte,Zuq]
 generalize F.defer 55 [] [.ptr z3 0,.ptr z4 0]=F at hF' ⊢
 obtain ⟨hx0,hex⟩:=ZbY.mk0 hbd hbs hx h3 h4 ⟨d,-1,-1,⟨[],[]⟩⟩
 refine JG hx0 (ds':=Ck.cells ⟨d,-1,-1,⟨[],[]⟩⟩ bd bs) (.cons (Zux _) (.cons (Zux _) (.cons (Zux _) (.cons (Zux _) (.cons (Zux _) (.cons (Zux _) (.cons (Zux _) (.cons (Zux _) (.cons (Qa fun b h=>by cases h) .nil))))))))) ?_
 generalize (St.upd (St.upd (St.upd (St.upd (St.upd (St.upd st _ _) _ _) _ _) _ _) _ _) _ _)=S at *
 clear hbd hbs hx h3 h4 hx0
 refine Za (Zb (Zc ?_))
 simp only [Eqs,reduceIte,Zuq,Zv.r3]
 refine ZW rfl rfl rfl rfl rfl (by trivial) (by trivial) (by exact Zc5 d.name) (Zc ?_)
 simp only [Eqs]
 refine Yn rfl rfl rfl rfl rfl (by trivial) (by trivial) (by exact Wm hex.ck.x (K0 d.name) 1) ?_ ?_
 ·rintro dd S2 h
  obtain ⟨hok,rfl,rfl⟩:=KK h
  rw [hok,ZuP] at hS
  refine Zc ?_
  simp only [Eqs,reduceIte,Zuq]
  refine Za (Zb (Zc ?_))
  simp only [Eqs,reduceIte,Zuq,Zv.r4,We,slD]
  refine Yn rfl rfl rfl rfl rfl (by trivial) (by trivial) (by exact Wm hex.ck.x (decide (1≤(d.msgs.length:Int)) && decide ((d.msgs.length:Int)≤60)) 3) ?_ ?_
  ·rintro dd S2 h
   obtain ⟨hok,rfl,rfl⟩:=KK h
   rw [hok,ZuP] at hS
   simp only [ZuA,decide_eq_true_eq] at hok
   have hlen:=hok.2
   refine Zc ?_
   simp only [Eqs,reduceIte,Zuq]
   refine Za (Za (Zb (Zc ?_)))
   simp only [Eqs,reduceIte,Zuq,Zv.r5]
   generalize hkk:(⟨d,-1,-1,⟨[],[]⟩⟩:Ck)=k0 at *
   have hk0:k0.d=d:=by rw [← hkk]
   clear hkk
   refine Zj (ZX ?_)
   have key:∀ (n i:Nat),(d.msgs.length) - i=n→∀ (S:St) (k:Ck) dl sl,ZbY S st x bd bs z3 z4 k dl sl→k.d=d→Zc1 [] [] (d.msgs.take i)=some (dl,sl)→(∀ s,0≤(Z8 s dl).getD 0∧(Z8 s dl).getD 0≤16)→i≤d.msgs.length→ZT F [.code (Zv.l0),.inLoop Zv.l0,.inBlock 0,.code (.seq (qR Zv.r11 [1,2,3,4]) (.seq (.regD [0,1,2,3,4,5,6,7,8,9,10,11] (Jb Zv.r12) (some [2,3,4,8])) (.seq (qR Zv.r13 [2,3,4]) (.seq (qR Zv.r14 [2,3,4]) .ret))))] [(1,.loc 1 0),(2,.d (.ptr x 0)),(3,.d (.ptr z3 0)),(4,.d (.ptr z4 0)),(33,.d (We d.msgs)),(34,.d (.int .i64 d.msgs.length)),(35,.d (.int .i64 i))] [(1,d.cells)] S:=by
    intro n
    induction n using Nat.strongRecOn with
    | ind n ih_key =>
    intro i hni S k dl sl hex hkd hrun hdl hi
    refine Za (Zb (Zc ?_))
    simp only [Eqs,reduceIte,Zuq,Zv.r6]
    refine Za (Ze rfl trivial (fun h1=>?_) (fun h1=>?_))
    ·simp at h1
     refine Zg (Za (Zj (Za (Zb (Zc ?_)))))
     simp only [Eqs,reduceIte,Zuq,Zur,Zus,Zv.r7,We,slD,ZuG]
     repeat (refine Zut (by first | omega | trivial | (intro h0; simp at h0; omega)) ?_)
     refine Za (Zb (Zc ?_))
     simp only [Eqs,reduceIte,Zuq,Zur,Zus,Zv.r8,hex.ck.x,Ck.cells]
     have hcx:(S.upd x (.cells [.str k.d.name,We k.d.msgs,.str k.d.start,.map bd,.map bs,.int .i64 i,.int .i64 k.field,.str k.m.name,Yo k.m.fields]))=S.upd x (.cells (({ k with at_:=i }:Ck).cells bd bs)):=rfl
     rw [hcx]
     have hex1:=hex.updX { k with at_:=i }
     generalize S.upd x (.cells (({ k with at_:=i }:Ck).cells bd bs))=S1 at *
     have hk1d:({ k with at_:=(i:Int) }:Ck).d=d:=hkd
     clear hcx hex
     generalize ({ k with at_:=i }:Ck)=k1 at *
     have hrt:=Zln hrun h1
     have hrb:=ZqS hrun h1
     generalize hm:d.msgs.getD i default=m at *
     refine Zb (Zc ?_)
     simp only [Eqs,reduceIte,Zuq,Zur,Zus,Zv.r9]
     rw [show (D.agg [.str m.name,Yo m.fields]) = .agg m.cells from rfl]
     refine Yn rfl rfl rfl rfl rfl (by trivial) (by trivial) (by exact ZkI hex1.ck hex1.nd hdl m) ?_ ?_
     ·rintro dd S2 h
      unfold Zeq at h
      split at h
      ·rename_i hok
       rw [if_pos hok] at hrt
       obtain ⟨h4,h5⟩:=h
       cases h4
       have hex2:=hex1.move (S':=S2) (k':={ k1 with field:=-1,m:=m }) (dl':=K3 m.name (Jd dl m + 1) dl) (sl':=K3 m.name (ZaS sl m) sl) (by
         subst h5
         have hne:=hex1.ck.ne
         exact ⟨by rw [ZuE _ _ hne.2,ZuE _ _ hne.1,ZuB],by rw [ZuE _ _ hex1.nd,ZuB],ZuB _ _ _⟩) (fun b h1 h2 h3=>by rw [h5,ZuE _ _ h3,ZuE _ _ h2,ZuE _ _ h1])
       have hdl2:∀ s,0≤(Z8 s (K3 m.name (Jd dl m + 1) dl)).getD 0∧(Z8 s (K3 m.name (Jd dl m + 1) dl)).getD 0≤16:=fun s=>by
        rw [Zbb]
        split
        ·have hd16:=Zgt (m:=m) hdl
         have:Jd dl m < 16:=by
          unfold Zd5 at hok
          simp only [ZuA,decide_eq_true_eq] at hok
          exact hok.2.2.2.2
         simp only [Option.getD_some]; omega
        ·exact hdl s
       clear h5
       refine Zc ?_
       simp only [Eqs,reduceIte,Zuq]
       refine Zm (Zb (Zc ?_))
       simp only [Eqs,reduceIte,Zuq,Zv.r10]
       repeat (refine Zut (by first | omega | trivial | (intro h0; simp at h0; omega)) ?_)
       refine Zy ?_
       exact ih_key ((d.msgs.length) - (i + 1)) (by omega) (i + 1) rfl _ _ _ _ hex2 hk1d hrt hdl2 (by omega)
      ·exact absurd h.1 (by simp)
     ·rintro dd S2 h
      unfold Zeq at h
      split at h
      ·exact absurd h.1 (by simp)
      ·rename_i hbad
       obtain ⟨⟨d2,hfl,h4⟩,h5⟩:=h
       cases h4
       have hb:Zd5 dl sl m=false:=by simpa using hbad
       rw [hrb hb] at hS
       exact hex1.bad h5 (by rw [hS] at hF'; exact hF') hfl (fun s' c3 h1 h2 h3=>by obtain ⟨u1,u2,u3,rfl⟩:=ZoE h2; refine ⟨_,by simp only [Eqs,reduceIte,Zuq,Zur,Zus,Zv.df,QQ,ZbT,h1,h3]; rfl,?_⟩; trivial)
    ·simp at h1
     obtain rfl:i=d.msgs.length:=by omega
     rw [ZuH] at hrun
     rw [hrun] at hS
     simp only [Option.elim] at hS
     refine ZQ rfl (Za (Zb (Zc ?_)))
     simp only [Eqs,reduceIte,Zuq,Zur,Zus,Zv.r11,hex.ck.x,Ck.cells]
     have hcx:(S.upd x (.cells [.str k.d.name,We k.d.msgs,.str k.d.start,.map bd,.map bs,.int .i64 (-1),.int .i64 k.field,.str k.m.name,Yo k.m.fields]))=S.upd x (.cells (({ k with at_:=-1 }:Ck).cells bd bs)):=rfl
     rw [hcx]
     have hex1:=hex.updX { k with at_:=-1 }
     generalize S.upd x (.cells (({ k with at_:=-1 }:Ck).cells bd bs))=S1 at *
     clear hcx hex
     generalize ({ k with at_:=-1 }:Ck)=k1 at *
     have e1:=Qo (vD:=JS) WP d.start dl
     have e3:=Ja WP d.start
     simp only [show JU d.start=D.str d.start from rfl] at e1 e3
     refine Za (WB (Wj ?_))
     simp only [Eqs,reduceIte,Zuq,Zv.r12,ZuM,hex1.ck.x,hex1.ck.bd,Ck.cells,e1,ZiZ]
     refine Za (Zb (Zc ?_))
     simp only [Eqs,reduceIte,Zuq,Zv.r13]
     refine Yn rfl rfl rfl rfl rfl (by trivial) (by trivial) (by exact Wm hex1.ck.x (Z8 d.start dl).isSome 11) ?_ ?_
     ·rintro dd S2 h
      obtain ⟨hok,rfl,rfl⟩:=KK h
      rw [hok] at hS
      refine Zc ?_
      simp only [Eqs,reduceIte,Zuq]
      have h4b:∀ o,(S2.upd z3 o) z4=some (.cells [.bool false]):=fun o=>by rw [ZuE _ _ hex1.n34.symm]; exact hex1.c4
      refine Za (Zb (Zc ?_))
      simp only [Eqs,reduceIte,Zuq,Zur,Zus,Zv.r14,hex1.c3,h4b]
      refine hF'.retU ⟨trivial,⟨rfl,rfl,trivial⟩,Zgs (Zfj (by rw [ZuE _ _ hex1.n34,ZuB]) (ZuB _ _ _)) ?_⟩
      rintro b S3 rfl
      rw [ite_self]
      have g3:((S2.upd z3 (.cells [.int .i64 0,.int .i64 0,.int .i64 0])).upd z4 (.cells [.bool false])) z3=some (.cells [.int .i64 0,.int .i64 0,.int .i64 0]):=by rw [ZuE _ _ hex1.n34,ZuB]
      have g4:((S2.upd z3 (.cells [.int .i64 0,.int .i64 0,.int .i64 0])).upd z4 (.cells [.bool false])) z4=some (.cells [.bool false]):=ZuB _ _ _
      refine ⟨_,[.ptr x 0,.agg [.int .i64 0,.int .i64 0,.int .i64 0],.bool false],.tup [.any,.agg [.int .i64 0,.int .i64 0,.int .i64 0],.bool false],st,by simp only [Eqs,reduceIte,Zuq,Zur,Zus,Zv.df,QQ,ZbT,g3,g4]; rfl,by trivial,?_,?_,rfl,0,0,0,by rw [hS]; rfl⟩
      ·exact Zel rfl (.cons (fun _ _ v _=>.any v) (LeC.refl _))
      ·intro b o hb
       have e1:b≠z3:=fun e=>by rw [e,hex1.f3] at hb; simp at hb
       have e2:b≠z4:=fun e=>by rw [e,hex1.f4] at hb; simp at hb
       rw [ZuE _ _ e2,ZuE _ _ e1]
       exact hex1.sub b o hb
     ·rintro dd S2 h
      obtain ⟨hok,hfl,rfl⟩:=KJ h
      rw [hok] at hS
      exact hex1.bad (fun _ _ _ _=>rfl) (by rw [hS] at hF'; exact hF') hfl (fun s' c3 h1 h2 h3=>by obtain ⟨u1,u2,u3,rfl⟩:=ZoE h2; refine ⟨_,by simp only [Eqs,reduceIte,Zuq,Zur,Zus,Zv.df,QQ,ZbT,h1,h3]; rfl,?_⟩; trivial)
   exact key _ 0 rfl _ k0 [] [] hex hk0 rfl (by simp [Z8]) (by omega)
  ·rintro dd S2 h
   obtain ⟨hok,hfl,rfl⟩:=KJ h
   rw [hok,Bool.false_and] at hS
   exact hex.bad (fun _ _ _ _=>rfl) (by rw [hS] at hF'; exact hF') hfl (fun s' c3 h1 h2 h3=>by obtain ⟨u1,u2,u3,rfl⟩:=ZoE h2; refine ⟨_,by simp only [Eqs,reduceIte,Zuq,Zur,Zus,Zv.df,QQ,ZbT,h1,h3]; rfl,?_⟩; trivial)
 ·rintro dd S2 h
  obtain ⟨hok,hfl,rfl⟩:=KJ h
  rw [hok,Bool.false_and] at hS
  exact hex.bad (fun _ _ _ _=>rfl) (by rw [hS] at hF'; exact hF') hfl (fun s' c3 h1 h2 h3=>by obtain ⟨u1,u2,u3,rfl⟩:=ZoE h2; refine ⟨_,by simp only [Eqs,reduceIte,Zuq,Zur,Zus,Zv.df,QQ,ZbT,h1,h3]; rfl,?_⟩; trivial)
theorem Zkh (d:Dfn) (st:St) :
  Yf Zuv Ke.id [.agg d.cells] st fun r S=>S=st∧∃ a f c,r = .ret (.tup [.agg [.int .i64 a,.int .i64 f,.int .i64 c],.bool (!Zcx d)]):=by
 refine Z2 Ke.ok fun F hF=>?_
 refine Za (Zb (Zc ?_))
 simp only [Eqs,reduceCtorEq,reduceIte,Zuq,Ke.r0,ZuM]
 refine Za (Zb (Zc ?_))
 simp only [Eqs,reduceIte,Zuq,Zur,Zus,Ke.r1]
 rw [show (D.agg [.str d.name,We d.msgs,.str d.start]) = .agg d.cells from rfl]
 refine Yn rfl rfl rfl rfl rfl (by trivial) (by trivial) (by exact Zhk d st) ?_ ?_
 ·rintro dd S2 ⟨rfl,a,f,c,h⟩
  cases h
  refine Zc ?_
  simp only [Eqs,reduceIte,Zuq,Zur,Zus]
  refine Za (Zb (Zc ?_))
  simp only [Eqs,reduceIte,Zuq,Zur,Zus,Ke.r2]
  exact hF.ret _ S2 rfl (by simp) (Zux _) (Zuw _) ⟨rfl,a,f,c,rfl⟩
 ·rintro dd S2 ⟨_,a,f,c,h⟩
  cases h
theorem Zi7 (d:Dfn) (st:St):Y3 Zuv Kb.id [.agg d.cells] st (.bool (Zcx d)) st:=by
 refine Y4 Kb.ok fun hwf F hret=>?_
 clear hwf
 refine Za (Zb (Zc ?_))
 simp only [Eqs,reduceCtorEq,reduceIte,Zuq,Kb.r0,ZuM]
 refine Za (Zb (Zc ?_))
 simp only [Eqs,reduceIte,Zur,Zus,Kb.r1]
 rw [show (D.agg [.str d.name,We d.msgs,.str d.start]) = .agg d.cells from rfl]
 refine Yn rfl rfl rfl rfl rfl (by trivial) (by trivial) (by exact Zkh d st) ?_ ?_
 ·rintro dd S2 ⟨rfl,a,f,c,h⟩
  cases h
  refine Zc ?_
  simp only [Eqs,reduceIte,Zuq,Zur,Zus]
  refine Za (Zb (Zc ?_))
  simp only [Eqs,reduceIte,Zuq,Kb.r2]
  exact hret rfl (by trivial) (Zux _) (Zuw _)
 ·rintro dd S2 ⟨_,a,f,c,h⟩
  cases h
end Go.DL
namespace Go.DL
open Go Go.Proofs
theorem Zow {f:Fld} (hk:ZaJ f=true):decide (Zew f=Zep f.name f.kind)=Zci f:=by
 unfold ZaJ at hk
 simp only [ZuA,decide_eq_true_eq] at hk
 have hk2:f.kind=1∨f.kind=2∨f.kind=3∨f.kind=4∨f.kind=5∨f.kind=6∨f.kind=7∨f.kind=8∨f.kind=9∨f.kind=10∨f.kind=11∨f.kind=12:=by omega
 obtain ⟨name,kind,bits,little,loose,low,high,size,of,tag,from_,cases_,check,key⟩:=f
 obtain ⟨base,terms⟩:=size
 simp only at hk2
 clear hk
 rw [Bool.eq_iff_iff]
 rcases hk2 with h | h | h | h | h | h | h | h | h | h | h | h <;> subst h <;> simp [Zew,Zmc,Zmd,Zme,Zjt,Zmf,Zmg,Zju,Zmh,Zjv,Zku,Zkv,ZhJ,Zep,Zci,zrA,zrB,zrC,ZdH,ZlR,JB] <;> (try (constructor <;> (intro h; simp_all))) <;> (try (intro _; simp only [and_assoc]))
theorem ZkS (lo hi a b:Int):Kz lo hi [a,b] = !(decide (a < lo) || (decide (b < a) || decide (hi < b))):=by
 rw [Bool.eq_iff_iff]
 simp [Kz]
 omega
theorem Zre (f:Fld):Zdy f = !Zbm f:=by
 rw [Bool.eq_iff_iff]
 unfold Zdy Zbm
 cases f.little <;> simp
 by_cases h0:0≤f.bits
 ·rw [Int.tmod_eq_emod_of_nonneg h0]; omega
 ·omega
theorem Ziv {α:Type} {p:α→Bool} {l:List α} {x:α}:Z7 p (l++[x])=if 0≤Z7 p l then Z7 p l else if p x then l.length else -1:=by
 induction l with
 | nil=>simp [Z7]
 | cons y r ih =>
  have h1:=Za6 p r
  simp only [List.cons_append,Z7,ih,ZuI]
  split
  ·simp
  ·by_cases h:0≤Z7 p r
   ·simp [h,show ¬ Z7 p r < 0 by omega,show 0≤Z7 p r + 1 by omega]
   ·simp only [h,if_false,show Z7 p r < 0 by omega,if_true]
    by_cases hx:p x=true
    ·simp [hx,show ¬ ((r.length:Int) < 0) by omega]
    ·simp [hx]
def ZgG (fs:List Fld) (n:Nat):Prop:=∀ i,i < n→Z7 (fun x=>decide (x.name=(fs.getD i default).name)) (fs.take i) < 0
theorem ZaG {α:Type} (p:α→Bool) (l:List α) (h:0≤Z7 p l):(Z7 p l).toNat < l.length:=by
 have:=Zaa p l; omega
theorem ZmW {fs:List Fld} {n:Nat} (hn:n≤fs.length) (hd:ZgG fs n) (k:Str):Z8 k (Jo fs n)=WE (fs.take n) k:=by
 induction n with
 | zero=>simp [Jo,Z8,WE,Z7]
 | succ n ih =>
  have ih:=ih (by omega) fun i hi=>hd i (by omega)
  have hdn:=hd n (by omega)
  rw [Wz (show n < fs.length by omega)]
  have hlen:(fs.take n).length=n:=by simp; omega
  simp only [Jo]
  generalize fs.getD n default=f at *
  unfold WE
  rw [Ziv]
  by_cases hk:f.name=k
  ·rw [hk] at hdn
   rw [if_neg (show ¬ 0≤Z7 (fun f=>decide (f.name=k)) (fs.take n) by omega)]
   simp only [hk,decide_true,if_true,hlen,show ¬ ((n:Int) < 0) by omega,if_false]
   have hg:(fs.take n++[f]).getD ((n:Int)).toNat default=f:=by simp [List.getD,hlen]
   rw [hg]
   split
   ·rw [Zbb,if_pos rfl]
   ·rw [ih]; unfold WE; rw [if_pos hdn]
  ·have hk2:¬ k=f.name:=fun h=>hk h.symm
   have h0:Z8 k (if QZ f=true then K3 f.name (Kv f) (Jo fs n) else Jo fs n)=Z8 k (Jo fs n):=by
    split
    ·rw [Zbb,if_neg hk2]
    ·rfl
   rw [h0,ih]
   unfold WE
   simp only [hk,decide_false,Bool.false_eq_true,if_false]
   by_cases hp:0≤Z7 (fun f=>decide (f.name=k)) (fs.take n)
   ·have hl:=ZaG _ _ hp
    rw [if_pos hp]
    have hg:(fs.take n++[f]).getD (Z7 (fun f=>decide (f.name=k)) (fs.take n)).toNat default=(fs.take n).getD (Z7 (fun f=>decide (f.name=k)) (fs.take n)).toNat default:=by
     simp [List.getD,List.getElem?_append_left hl]
    rw [hg]
   ·rw [if_neg hp,if_pos (by omega),if_pos (by omega)]
structure ZcG (d:Dfn) (a:Nat) (deps:List Int) (dl:List (Str × Int)) (sl:List (Str × Bool)):Prop where
 len:deps.length=a
 dep:∀ s,Z8 s dl=if Z6 d s a < 0 then none else some (deps.getD (Z6 d s a).toNat default)
 str:∀ s,Z8 s sl=if Z6 d s a < 0 then none else some ((QU d a).getD (Z6 d s a).toNat default)
theorem ZcG.has {d:Dfn} {a:Nat} {deps:List Int} {dl:List (Str × Int)} {sl:List (Str × Bool)} (h:ZcG d a deps dl sl) (s:Str):(Z8 s dl).isSome = !decide (Z6 d s a < 0):=by
 rw [h.dep]; split <;> simp_all
theorem ZcG.strict {d:Dfn} {a:Nat} {deps:List Int} {dl:List (Str × Int)} {sl:List (Str × Bool)} (h:ZcG d a deps dl sl) (s:Str):(Z8 s sl).getD false=(!decide (Z6 d s a < 0) && (QU d a).getD (Z6 d s a).toNat default):=by
 rw [h.str]; split <;> simp_all
theorem Zsi {f:Fld} (hk:f.kind=1∨f.kind=2):(if f.kind=1 then ck1 f else ck2 f)=decide (ZaD f=0):=by
 unfold ck1 ck2 ZaD ZbM Zfm
 rw [Zre,ZkS]
 cases hb:Zbm f
 ·have hp:(0:Int) < 2 ^ f.bits.toNat:=by
   have:=Nat.two_pow_pos f.bits.toNat
   rw [show (2:Int) ^ f.bits.toNat=((2 ^ f.bits.toNat:Nat):Int) from (Int.natCast_pow 2 f.bits.toNat).symm]
   omega
  generalize (2:Int) ^ f.bits.toNat=pw at *
  rcases hk with hk | hk <;> rw [Bool.eq_iff_iff] <;> simp [hk,Kz] <;> (try split) <;> (try omega)
  all_goals (try simp_all) <;> omega
 ·simp
theorem Zi9 {fs:List Fld} (hd:ZgG fs fs.length) (s:Wu):ZeK fs s=decide (Zcb fs s=0):=by
 have hL:(fun k=>Z8 k (JF fs))=WE fs:=by
  funext k
  have:=ZmW (ZuO _) hd k
  rw [ZuH] at this; exact this
 unfold ZeK Zcb ivP
 rw [hL]
 have hk:s.terms.all (ZcU fs) = !s.terms.any (KW (WE fs)):=by
  rw [List.not_any_eq_all_not]
  congr 1; funext t
  have:Z8 t.field (JF fs)=WE fs t.field:=congrFun hL _
  unfold ZcU KW; rw [this]; simp
 rw [hk]
 cases YN s
 ·simp
 ·cases s.terms.any (KW (WE fs))
  ·simp only [ZuP,Bool.not_false,Bool.false_eq_true,if_false,Bool.true_eq_false]
   rw [Bool.eq_iff_iff]
   simp
   omega
  ·simp
theorem Zqh {d:Dfn} {a:Nat} {deps:List Int} {dl:List (Str × Int)} {sl:List (Str × Bool)} (h:ZcG d a deps dl sl) (hi lo:Int) (l:List WK):ZcK dl hi lo l=decide (ZaV d a hi lo l=0):=by
 induction l generalizing lo with
 | nil=>simp [ZcK,ZaV]
 | cons c r ih =>
  simp only [ZcK,ZaV,ZkS,h.has,ih]
  rcases Bool.eq_false_or_eq_true (decide (c.low < lo) || (decide (c.high < c.low) || decide (hi < c.high))) with hb | hb <;> simp only [hb]
  ·simp
  ·simp only [Bool.not_false,ZuP,Bool.false_eq_true,if_false]
   by_cases h2:Z6 d c.of a < 0 <;> simp [h2]
theorem Zqu {fs:List Fld} (hd:ZgG fs fs.length) (k:Str):(Z8 k (JF fs)).isSome=(!decide (Z7 (fun f=>decide (f.name=k)) fs < 0) && QZ (fs.getD (Z7 (fun f=>decide (f.name=k)) fs).toNat default)) ∧
  ((Z8 k (JF fs)).isSome=true→(Z8 k (JF fs)).getD (0,0)=Kv (fs.getD (Z7 (fun f=>decide (f.name=k)) fs).toNat default)):=by
 have:=ZmW (ZuO _) hd k
 rw [ZuH] at this
 rw [this]
 unfold WE
 split
 ·rename_i h; simp [h]
 ·rename_i h
  split
  ·rename_i h2; simp only [h,h2]; simp
  ·rename_i h2; simp only [h,h2]; simp
theorem ZqC {d:Dfn} {a:Nat} {deps:List Int} {dl:List (Str × Int)} {sl:List (Str × Bool)} (h:ZcG d a deps dl sl) {m:Msg} {i:Nat} (hi:i < m.fields.length) (hd:ZgG m.fields i) {f:Fld} (hk:ZaJ f=true) :
  Zev (m.fields.take i) dl sl f=decide (K1 d a m i f=0):=by
 have hfl:(m.fields.take i).length=i:=by simp; omega
 have hd2:ZgG (m.fields.take i) (m.fields.take i).length:=fun j hj=>by
  rw [hfl] at hj
  rw [Zbg (by omega),List.take_take,Nat.min_eq_left (by omega)]; exact hd j hj
 unfold ZaJ at hk
 simp only [ZuA,decide_eq_true_eq] at hk
 have hk2:f.kind=1∨f.kind=2∨f.kind=3∨f.kind=4∨f.kind=5∨f.kind=6∨f.kind=7∨f.kind=8∨f.kind=9∨f.kind=10∨f.kind=11∨f.kind=12:=by omega
 have hn:=Zsi (f:=f)
 unfold Zev K1
 rcases hk2 with h1 | h1 | h1 | h1 | h1 | h1 | h1 | h1 | h1 | h1 | h1 | h1 <;> simp only [h1,Int.reduceEq,if_true,if_false,true_or,or_true,or_self,forall_const,false_implies] at hn ⊢
 ·exact hn
 ·exact hn
 ·unfold ck3; rw [ZkS,Zgr]
  by_cases hA:0≤f.low∧f.low≤f.high∧f.high < 34359738368
  ·simp [hA]; omega
  ·rw [Bool.eq_iff_iff]; simp; omega
 ·exact Zi9 hd2 _
 ·unfold ck5; rw [Bool.eq_iff_iff]; simp [Kz] <;> omega
 ·unfold ck6; rw [Bool.eq_iff_iff]; simp [Kz] <;> omega
 ·unfold ck7; rw [h.has,Zi9 hd2]
  by_cases h2:Z6 d f.of a < 0 <;> simp [h2]
 ·unfold ck8; rw [h.has]
  by_cases h2:Z6 d f.of a < 0 <;> simp [h2]
 ·have ht:=Zqu hd2 f.tag
  unfold ZgO ZeX ZcJ
  rw [Zqh h]
  have hff:Jl m f.tag i=Z7 (fun f'=>decide (f'.name=f.tag)) (m.fields.take i):=rfl
  rw [hff]
  have htt:ZkQ m f.tag i=ZeQ (m.fields.take i) f:=rfl
  rw [htt]
  generalize hz:Z7 (fun f'=>decide (f'.name=f.tag)) (m.fields.take i)=z at *
  by_cases hz0:z < 0
  ·simp [ht.1,hz0]
  ·have hzl:=ZaG (fun f':Fld=>decide (f'.name=f.tag)) (m.fields.take i) (by omega)
   rw [hz,hfl] at hzl
   have hg:(m.fields.take i).getD z.toNat default=m.fields.getD z.toNat default:=Zbg hzl
   rw [hg] at ht
   by_cases hnum:QZ (m.fields.getD z.toNat default)=true
   ·have hs:(Z8 f.tag (JF (m.fields.take i))).isSome=true:=by rw [ht.1,hnum]; simp [hz0]
    rw [ht.2 hs,hs,hnum]
    cases ZeQ (m.fields.take i) f
    ·simp only [hz0,decide_false,Bool.not_true,Bool.or_self,Bool.not_false,ZuP,Bool.false_eq_true,if_false]
     by_cases hl:1≤f.cases.length∧f.cases.length≤40
     ·have hc1:(decide (1≤(f.cases.length:Int)) && decide ((f.cases.length:Int)≤40))=true:=by simp only [ZuA,decide_eq_true_eq]; omega
      have hc2:(decide (f.cases.length < 1) || decide (40 < f.cases.length))=false:=by simp only [Bool.or_eq_false_iff,decide_eq_false_iff_not]; omega
      rw [hc1,hc2]; simp
     ·have hc1:(decide (1≤(f.cases.length:Int)) && decide ((f.cases.length:Int)≤40))=false:=by simp only [Bool.and_eq_false_iff,decide_eq_false_iff_not]; omega
      have hc2:(decide (f.cases.length < 1) || decide (40 < f.cases.length))=true:=by simp only [ZuL,decide_eq_true_eq]; omega
      rw [hc1,hc2]; simp
    ·simp
   ·have hnum2:QZ (m.fields.getD z.toNat default)=false:=by simpa using hnum
    rw [ht.1,hnum2]; simp
 ·unfold Zos Zj8
  rw [Bool.eq_iff_iff]
  generalize f.bits=b
  by_cases h0:0≤b
  ·rw [Int.tmod_eq_emod_of_nonneg h0]; simp; omega
  ·simp; omega
 ·unfold Zot
  have hff:Jl m f.from_ i=Z7 (fun f'=>decide (f'.name=f.from_)) (m.fields.take i):=rfl
  rw [hff]
  rw [Bool.eq_iff_iff]; simp [Kz]
  generalize Z7 (fun f'=>decide (f'.name=f.from_)) (m.fields.take i)=z
  split
  ·simp; omega
  ·split <;> simp <;> omega
 ·unfold Zou Zh3
  rw [h.strict,Zi9 hd2]
  by_cases hkk:f.key < 0∨4294967295 < f.key
  ·rw [if_pos (by simpa using hkk)]; simp [Kz]; omega
  ·rw [if_neg (by simpa using hkk)]
   have:Kz 0 4294967295 [f.key]=true:=by simp [Kz]; omega
   rw [this]
   by_cases h2:Z6 d f.of a < 0
   ·simp [h2]
   ·simp only [h2,decide_false,Bool.not_false,ZuP,Bool.false_or]
    cases (QU d a).getD (Z6 d f.of a).toNat default <;> simp
theorem Zqw {d:Dfn} {a:Nat} {deps:List Int} {dl:List (Str × Int)} {sl:List (Str × Bool)} (h:ZcG d a deps dl sl) {m:Msg} {i:Nat} (hi:i < m.fields.length) (hd:ZgG m.fields i) (f:Fld) :
  Zaj (m.fields.take i) dl sl f=decide (Je d a m i f=0):=by
 unfold Zaj Je
 rw [show Z7 (fun x=>decide (x.name=f.name)) (m.fields.take i)=Jl m f.name i from rfl]
 cases K0 f.name
 ·simp
 ·by_cases h1:0≤Jl m f.name i
  ·simp [h1]
  ·by_cases hk:ZaJ f=true
   ·have hk2:(decide (f.kind < 1) || decide (12 < f.kind))=false:=by
     unfold ZaJ at hk
     simp only [ZuA,decide_eq_true_eq] at hk
     simp only [Bool.or_eq_false_iff,decide_eq_false_iff_not]; omega
    rw [Zow hk,ZqC h hi hd hk,hk,hk2]
    cases Zci f <;> simp [h1]
   ·have hk1:ZaJ f=false:=by simpa using hk
    have hk2:(decide (f.kind < 1) || decide (12 < f.kind))=true:=by
     unfold ZaJ at hk
     simp only [ZuA,decide_eq_true_eq] at hk
     simp only [ZuL,decide_eq_true_eq]; omega
    rw [hk1,hk2]
    simp [h1]
theorem Zkz (d:Dfn) (a:Nat) (m:Msg) (j:Nat) (l l':List Fld) (h:Ky d a m j l=none):Ky d a m j (l++l')=Ky d a m (j + l.length) l':=by
 induction l generalizing j with
 | nil=>rfl
 | cons f r ih =>
  simp only [Ky] at h
  split at h
  ·rename_i hf
   simp only [List.cons_append,Ky,hf,if_true,ZuI]
   rw [ih _ h]
   congr 1; omega
  ·simp at h
theorem Zps {d:Dfn} {a:Nat} {deps:List Int} {dl:List (Str × Int)} {sl:List (Str × Bool)} (h:ZcG d a deps dl sl) {m:Msg} (n:Nat) (hn:n≤m.fields.length) :
  (Zae dl sl m n=true↔Ky d a m 0 (m.fields.take n)=none)∧(Zae dl sl m n=true→ZgG m.fields n):=by
 induction n with
 | zero=>simp [Zae,Ky,ZgG]
 | succ n ih =>
  have ih:=ih (by omega)
  rw [ZgX,Wz (show n < m.fields.length by omega),ZuA]
  have hlen:(m.fields.take n).length=n:=by simp; omega
  by_cases hp:Zae dl sl m n=true
  ·have hf:=ih.1.1 hp
   have hd:=ih.2 hp
   rw [Zkz _ _ _ _ _ _ hf,Zqw h (show n < m.fields.length by omega) hd,hlen,Nat.zero_add]
   simp only [Ky]
   refine ⟨?_,fun hh=>?_⟩
   ·simp only [hp,true_and,decide_eq_true_eq]
    split <;> simp_all
   ·have hz:Je d a m n (m.fields.getD n default)=0:=by simpa using hh.2
    intro j hj
    by_cases hjn:j < n
    ·exact hd j hjn
    ·obtain rfl:j=n:=by omega
     unfold Je at hz
     split at hz; · omega
     split at hz; · omega
     rename_i h2
     unfold Jl at h2; omega
  ·refine ⟨?_,fun hh=>absurd hh.1 hp⟩
   constructor
   ·intro hh; exact absurd hh.1 hp
   ·intro hh
    exfalso
    apply hp
    refine ih.1.2 ?_
    have key:∀ (j:Nat) (l l':List Fld),Ky d a m j (l++l')=none→Ky d a m j l=none:=by
     intro j l l'
     induction l generalizing j with
     | nil=>intro _; rfl
     | cons f r ih2 =>
      simp only [List.cons_append,Ky]
      split
      ·exact ih2 _
      ·simp
    exact key _ _ _ hh
theorem ZjO {α:Type} (l:List α) (p q:α→Int) (h:∀ s∈l,p s=q s) (b:Int):l.foldl (fun a s=>max a (p s)) b=l.foldl (fun a s=>max a (q s)) b:=by
 induction l generalizing b with
 | nil=>rfl
 | cons x r ih =>
  simp only [List.foldl_cons,h x (by simp)]
  exact ih (fun s hs=>h s (by simp [hs])) _
theorem Zon {α:Type} {p q:α→Bool} {l:List α} (h:∀ x∈l,p x=q x):l.all p=l.all q:=by
 induction l with
 | nil=>rfl
 | cons x r ih=>simp only [List.all_cons,h x (by simp),ih fun y hy=>h y (by simp [hy])]
theorem Zsg {d:Dfn} {a:Nat} {deps:List Int} {dl:List (Str × Int)} {sl:List (Str × Bool)} (h:ZcG d a deps dl sl) {m:Msg} (hm:d.msgs.getD a default=m) :
  (Zd5 dl sl m=true↔QS d a m=none∧ZdP d a deps m≤16)∧(QS d a m=none→Jd dl m + 1=ZdP d a deps m∧ZaS sl m=Zav d m (QU d a)):=by
 have hf:=Zps h (m:=m) m.fields.length (ZuO _)
 rw [ZuH] at hf
 have h2:QS d a m=none→Jd dl m + 1=ZdP d a deps m∧ZaS sl m=Zav d m (QU d a):=fun hh=>by
  have hok:=(ZmY hm hh).ref
  rw [hm] at hok
  constructor
  ·unfold Jd ZdP ZbH
   congr 1
   refine ZjO _ _ _ (fun s hs=>?_) _
   have:=hok s hs
   rw [h.dep,if_neg (by omega)]; rfl
  ·unfold ZaS Zav
   congr 1
   refine Zon fun s hs=>?_
   have:=hok s hs
   rw [h.strict,ZaO]
   simp [show ¬ Z6 d s a < 0 by omega]
 refine ⟨?_,h2⟩
 unfold Zd5
 rw [h.has]
 by_cases hn:K0 m.name=true
 ·by_cases hd:Z6 d m.name a < 0
  ·by_cases hl:1≤m.fields.length∧m.fields.length≤40
   ·have hc1:(decide (1≤(m.fields.length:Int)) && decide ((m.fields.length:Int)≤40))=true:=by simp only [ZuA,decide_eq_true_eq]; omega
    have hc2:(decide (m.fields.length < 1) || decide (40 < m.fields.length))=false:=by simp only [Bool.or_eq_false_iff,decide_eq_false_iff_not]; omega
    have hfl:QS d a m=Ky d a m 0 m.fields:=by
     unfold QS
     rw [if_neg (by simp [hn]),if_neg (by omega),hc2]; rfl
    rw [hfl] at h2 ⊢
    rw [hc1,hn]
    simp only [hd,decide_true,Bool.not_true,Bool.not_false,ZuP,ZuA,decide_eq_true_eq,hf.1]
    constructor
    ·rintro ⟨h3,h4⟩
     have:=(h2 h3).1
     exact ⟨h3,by omega⟩
    ·rintro ⟨h3,h4⟩
     have:=(h2 h3).1
     exact ⟨h3,by omega⟩
   ·have hc1:(decide (1≤(m.fields.length:Int)) && decide ((m.fields.length:Int)≤40))=false:=by simp only [Bool.and_eq_false_iff,decide_eq_false_iff_not]; omega
    have hc2:(decide (m.fields.length < 1) || decide (40 < m.fields.length))=true:=by simp only [ZuL,decide_eq_true_eq]; omega
    unfold QS
    rw [hc1,hc2,if_neg (by simp [hn]),if_neg (by omega)]
    simp
  ·unfold QS
   rw [if_neg (by simp [hn]),if_pos (by omega)]
   simp [hd]
 ·have hn2:K0 m.name=false:=by simpa using hn
  unfold QS
  rw [hn2]
  simp
theorem ZjK {d:Dfn} {a:Nat} {m:Msg} (ha:a < d.msgs.length) (hm:d.msgs.getD a default=m) (s:Str):Z6 d s (a + 1)=if 0≤Z6 d s a then Z6 d s a else if m.name=s then (a:Int) else -1:=by
 unfold Z6
 rw [Wz ha,hm,Ziv]
 have:(d.msgs.take a).length=a:=by simp; omega
 rw [this]; simp
theorem Zg2 {α:Type} [Inhabited α] {l:List α} {a:Nat} {v:α} (h:l.length=a):(l++[v]).getD a default=v:=by subst h; simp [List.getD]
theorem Zg3 {α:Type} [Inhabited α] {l:List α} {a:Nat} {v:α} (h:a < l.length):(l++[v]).getD a default=l.getD a default:=by simp [List.getD,List.getElem?_append_left h]
theorem ZcG.step {d:Dfn} {a:Nat} {deps:List Int} {dl:List (Str × Int)} {sl:List (Str × Bool)} (h:ZcG d a deps dl sl) {m:Msg} (ha:a < d.msgs.length) (hm:d.msgs.getD a default=m) (hnew:Z6 d m.name a < 0) (v:Int) :
  ZcG d (a + 1) (deps++[v]) (K3 m.name v dl) (K3 m.name (Zav d m (QU d a)) sl):={
 len:=by simp [h.len]
 dep s:=by
  rw [Zbb,ZjK ha hm,h.dep]
  by_cases hs:s=m.name
  ·subst hs
   rw [if_pos rfl,if_neg (show ¬ 0≤Z6 d m.name a by omega),if_pos rfl,if_neg (by omega)]
   rw [show ((a:Int)).toNat=a from rfl,Zg2 h.len]
  ·rw [if_neg hs]
   by_cases hp:0≤Z6 d s a
   ·have hlt:(Z6 d s a).toNat < deps.length:=by
     have:=ZaG _ _ hp
     rw [h.len]
     have h3:(d.msgs.take a).length≤a:=by simp; omega
     unfold Z6; omega
    rw [if_pos hp,if_neg (by omega),if_neg (by omega),Zg3 hlt]
   ·rw [if_neg hp,if_neg (show ¬ m.name=s from fun e=>hs e.symm),if_pos (by omega),if_pos (by omega)]
 str s:=by
  rw [Zbb,ZjK ha hm,h.str]
  simp only [QU,hm]
  by_cases hs:s=m.name
  ·subst hs
   rw [if_pos rfl,if_neg (show ¬ 0≤Z6 d m.name a by omega),if_pos rfl,if_neg (by omega)]
   rw [show ((a:Int)).toNat=a from rfl,Zg2 (ZaO d a)]
  ·rw [if_neg hs]
   by_cases hp:0≤Z6 d s a
   ·have hlt:(Z6 d s a).toNat < (QU d a).length:=by
     have:=ZaG _ _ hp
     rw [ZaO]
     have h3:(d.msgs.take a).length≤a:=by simp; omega
     unfold Z6; omega
    rw [if_pos hp,if_neg (by omega),if_neg (by omega),Zg3 hlt]
   ·rw [if_neg hp,if_neg (show ¬ m.name=s from fun e=>hs e.symm),if_pos (by omega),if_pos (by omega)] }
theorem Zso {d:Dfn} (n:Nat):∀ {a:Nat} {deps:List Int} {dl:List (Str × Int)} {sl:List (Str × Bool)},ZcG d a deps dl sl→a + n=d.msgs.length →
  ((Zc1 dl sl (d.msgs.drop a)).elim false fun p=>(Z8 d.start p.1).isSome)=(JQ d a (d.msgs.drop a) deps).isNone:=by
 induction n with
 | zero =>
  intro a deps dl sl h ha
  obtain rfl:a=d.msgs.length:=by omega
  rw [List.drop_length]
  simp only [Zc1,JQ,Option.elim,h.has]
  by_cases hs:Z6 d d.start d.msgs.length < 0 <;> simp [hs]
 | succ n ih =>
  intro a deps dl sl h ha
  have hal:a < d.msgs.length:=by omega
  rw [Qf hal]
  generalize hm:d.msgs.getD a default=m
  have he:=Zsg h hm
  simp only [Zc1,JQ]
  by_cases hp:Zd5 dl sl m=true
  ·obtain ⟨h1,h2⟩:=he.1.1 hp
   obtain ⟨h3,h4⟩:=he.2 h1
   rw [if_pos hp,h1]
   simp only
   rw [if_neg (by omega),h3,h4]
   refine ih (h.step hal hm ?_ _) (by omega)
   unfold QS at h1
   split at h1; · simp at h1
   split at h1; · simp at h1
   omega
  ·rw [if_neg hp]
   cases h1:QS d a m with
   | some x=>obtain ⟨i,c⟩:=x; rfl
   | none =>
    have:¬ ZdP d a deps m≤16:=fun h2=>hp (he.1.2 ⟨h1,h2⟩)
    simp only
    rw [if_pos (by omega)]; rfl
theorem ZmL (d:Dfn):Zcx d=Wt d:=by
 unfold Zcx Wt ZdN
 cases hn:K0 d.name
 ·rfl
 ·by_cases hl:1≤d.msgs.length∧d.msgs.length≤60
  ·have hc1:(decide (1≤(d.msgs.length:Int)) && decide ((d.msgs.length:Int)≤60))=true:=by simp only [ZuA,decide_eq_true_eq]; omega
   have hc2:(decide (d.msgs.length < 1) || decide (60 < d.msgs.length))=false:=by simp only [Bool.or_eq_false_iff,decide_eq_false_iff_not]; omega
   rw [hc1,hc2]
   simp only [ZuP,Bool.true_eq_false,Bool.false_eq_true,if_false]
   have h0:ZcG d 0 [] [] []:=⟨rfl,fun s=>by simp [Z8,Z6,Z7],fun s=>by simp [Z8,Z6,Z7]⟩
   have:=Zso d.msgs.length h0 (by omega)
   rw [List.drop_zero] at this
   exact this
  ·have hc1:(decide (1≤(d.msgs.length:Int)) && decide ((d.msgs.length:Int)≤60))=false:=by simp only [Bool.and_eq_false_iff,decide_eq_false_iff_not]; omega
   have hc2:(decide (d.msgs.length < 1) || decide (60 < d.msgs.length))=true:=by simp only [ZuL,decide_eq_true_eq]; omega
   rw [hc1,hc2]; rfl
theorem JW (d:Dfn) (st:St):Y3 Zuv Kb.id [.agg d.cells] st (.bool (Wt d)) st:=by
 rw [← ZmL]; exact Zi7 d st
end Go.DL
namespace Go.DL
open Go Go.Proofs
def Qk (m:Msg) (f g:Fld):List D:=m.cells++f.cells++g.cells
theorem Zm5 (m:Msg) (f g:Fld):D.agg [.str m.name,Yo m.fields,.str f.name,.int .i64 f.kind,.int .i64 f.bits,.bool f.little,.bool f.loose,.int .i64 f.low,.int .i64 f.high,.int .i64 f.size.base,Yj f.size.terms,.str f.of,.str f.tag,.str f.from_,W0 f.cases,.int .i64 f.check,.int .i64 f.key,
   .str g.name,.int .i64 g.kind,.int .i64 g.bits,.bool g.little,.bool g.loose,.int .i64 g.low,.int .i64 g.high,.int .i64 g.size.base,Yj g.size.terms,.str g.of,.str g.tag,.str g.from_,W0 g.cases,.int .i64 g.check,.int .i64 g.key] = .agg (Qk m f g):=rfl
theorem Zh4 (m:Msg) (f g:Fld):ZR Zuv W4.id [.agg (Qk m f g)] (.bool (decide (f.name=g.name))):=by
 refine Z0 W4.ok fun F st hret=>?_
 refine Za (Zb (Zc ?_))
 simp only [Eqs,reduceCtorEq,reduceIte,Zuq,W4.r0,Qk,ZuG,ZuD]
 refine Za (Zb (Zc ?_))
 simp only [Eqs,reduceIte,Zuq,W4.r1]
 refine hret rfl (by first | trivial | simp) (Yk ?_) (by first | exact Zuw _ | exact Zl (by first | trivial | assumption) | assumption | exact Zuy _ (by assumption))
 rfl
theorem Zh5 (m:Msg) (f g:Fld):ZR Zuv W5.id [.agg (Qk m f g)] (.bool (decide (f.kind=g.kind))):=by
 refine Z0 W5.ok fun F st hret=>?_
 refine Za (Zb (Zc ?_))
 simp only [Eqs,reduceCtorEq,reduceIte,Zuq,W5.r0,Qk,ZuG,ZuD]
 refine Za (Zb (Zc ?_))
 simp only [Eqs,reduceIte,Zuq,Zur,W5.r1]
 refine hret rfl (by first | trivial | simp) (Yk ?_) (by first | exact Zuw _ | exact Zl (by first | trivial | assumption) | assumption | exact Zuy _ (by assumption))
 rfl
def ZfC (f g:Fld):Bool:=(decide (f.bits=g.bits) && decide (f.little=g.little) && decide (f.check=g.check) && decide (f.key=g.key)) && (!decide (f.kind=5) || decide (f.low=g.low))
theorem Zh6 (m:Msg) (f g:Fld):ZR Zuv WG.id [.agg (Qk m f g)] (.bool (ZfC f g)):=by
 refine Z0 WG.ok fun F st hret=>?_
 refine Za (Zb (Zc ?_))
 simp only [Eqs,reduceCtorEq,reduceIte,Zuq,WG.r0,Qk,ZuG,ZuD]
 refine Za (Zb (Zc ?_))
 simp only [Eqs,reduceIte,Zuq,Zur,WG.r1]
 refine Za (Zb (Zc ?_))
 simp only [Eqs,reduceIte,Zuq,Zur,WG.r2]
 refine hret rfl (by first | trivial | simp) (Yk ?_) (by first | exact Zuw _ | exact Zl (by first | trivial | assumption) | assumption | exact Zuy _ (by assumption))
 simp [ZfC,Bool.and_assoc]
theorem Zh7 (m:Msg) (f g:Fld):ZR Zuv W6.id [.agg (Qk m f g)] (.bool (!f.loose || g.loose)):=by
 refine Z0 W6.ok fun F st hret=>?_
 refine Za (Zb (Zc ?_))
 simp only [Eqs,reduceCtorEq,reduceIte,Zuq,W6.r0,Qk,ZuG,ZuD]
 refine Za (Zb (Zc ?_))
 simp only [Eqs,reduceIte,Zuq,Zur,W6.r1]
 refine hret rfl (by first | trivial | simp) (Yk ?_) (by first | exact Zuw _ | exact Zl (by first | trivial | assumption) | assumption | exact Zuy _ (by assumption))
 cases f.loose <;> simp
theorem Zh8 (m:Msg) (f g:Fld):ZR Zuv W7.id [.agg (Qk m f g)] (.bool (ZdV f.size g.size)):=by
 refine Z0 W7.ok fun F st hret=>?_
 refine Za (Zb (Zc ?_))
 simp only [Eqs,reduceCtorEq,reduceIte,Zuq,W7.r0,Qk,ZuG,ZuD]
 refine Za (Zb (Zc ?_))
 simp only [Eqs,reduceIte,Zuq,Zur,Zus,W7.r1]
 refine ZW rfl rfl rfl rfl rfl (by trivial) (by trivial) (by exact ZlJ f.size g.size) (Zc ?_)
 simp only [Eqs,reduceIte,Zuq]
 refine hret rfl (by first | trivial | simp) (Yk ?_) (by first | exact Zuw _ | exact Zl (by first | trivial | assumption) | assumption | exact Zuy _ (by assumption))
 rfl
theorem Zh9 (m:Msg) (f g:Fld):ZR Zuv W8.id [.agg (Qk m f g)] (.bool (decide (f.tag=g.tag) && decide (f.from_=g.from_))):=by
 refine Z0 W8.ok fun F st hret=>?_
 refine Za (Zb (Zc ?_))
 simp only [Eqs,reduceCtorEq,reduceIte,Zuq,W8.r0,Qk,ZuG,ZuD]
 refine Za (Zb (Zc ?_))
 simp only [Eqs,reduceIte,Zuq,Zur,W8.r1]
 refine hret rfl (by first | trivial | simp) (Yk ?_) (by first | exact Zuw _ | exact Zl (by first | trivial | assumption) | assumption | exact Zuy _ (by assumption))
 simp
def Zgl (f g:Fld):Bool:=if f.kind=2 then decide (f.low=g.low) else if f.kind=1∨f.kind=3 then decide (g.low≤f.low) && decide (f.high≤g.high) else decide (f.high≤g.high)
theorem ZfX (m:Msg) (f g:Fld):ZR Zuv ZO.id [.agg (Qk m f g)] (.bool (Zgl f g)):=by
 refine Z0 ZO.ok fun F st hret=>?_
 refine Za (Zb (Zc ?_))
 simp only [Eqs,reduceCtorEq,reduceIte,Zuq,ZO.r0,Qk,ZuG,ZuD]
 refine Za (Wq (ZM ?_))
 simp only [Eqs,reduceIte,Zuq,Zur,Zus,ZO.r1]
 refine Za (Za (Zb (Zc ?_)))
 simp only [Eqs,reduceIte,Zuq,Zur,ZO.r2]
 refine Zj (Za (Zb (Zc ?_)))
 simp only [Eqs,reduceIte,Zuq,ZO.r3]
 refine Ze rfl trivial (fun h2=>?_) (fun h2=>?_)
 ·have h2':f.kind=2:=by simpa using h2
  refine Za (Zb (Zc ?_))
  simp only [Eqs,reduceIte,Zuq,ZO.r4]
  refine hret rfl (by first | trivial | simp) (Yk ?_) (by first | exact Zuw _ | exact Zl (by first | trivial | assumption) | assumption | exact Zuy _ (by assumption))
  rw [Zgl,if_pos h2']
 ·have h2':¬ f.kind=2:=by simpa using h2
  refine Za (Za (Zb (Zc ?_)))
  simp only [Eqs,reduceIte,Zuq,ZO.r5]
  have jn:∀ c:Bool,(c=true↔(f.kind=1∨f.kind=3))→ZT F [.code (qC 29 (.seq (qR ZO.r7 [2]) .ret) .skip),.inBlock 0,.code (.seq (qR ZO.r8 [2]) .ret)] [(3,.loc 3 0),(4,.loc 4 0),(29,.d (.bool c))] [(3,[.int .i64 f.low,.int .i64 f.high]),(4,[.int .i64 g.low,.int .i64 g.high])] st:=by
   intro c hc
   refine Ze rfl trivial (fun h4=>?_) (fun h4=>?_)
   ·have hcc:=hc.1 h4
    refine Za (Zb (Zc ?_))
    simp only [Eqs,reduceIte,Zuq,ZO.r7]
    refine hret rfl (by first | trivial | simp) (Yk ?_) (by first | exact Zuw _ | exact Zl (by first | trivial | assumption) | assumption | exact Zuy _ (by assumption))
    rw [Zgl,if_neg h2',if_pos hcc]
   ·have hcc:¬ (f.kind=1∨f.kind=3):=fun e=>by rw [hc.2 e] at h4; simp at h4
    refine Zg (Zm (Za (Zb (Zc ?_))))
    simp only [Eqs,reduceIte,Zuq,ZO.r8]
    refine hret rfl (by first | trivial | simp) (Yk ?_) (by first | exact Zuw _ | exact Zl (by first | trivial | assumption) | assumption | exact Zuy _ (by assumption))
    rw [Zgl,if_neg h2',if_neg hcc]
  refine Ze rfl trivial (fun h3=>?_) (fun h3=>?_)
  ·have h3':f.kind=1:=by simpa using h3
   refine Zg ?_
   refine JP [3,4,29] ?_
   simp only [Eqs,reduceIte,Zuq]
   exact jn _ (by simp [h3'])
  ·have h3':¬ f.kind=1:=by simpa using h3
   refine Zb (Zc ?_)
   simp only [Eqs,reduceIte,Zuq,ZO.r6]
   exact jn _ (by simp [h3'])
end Go.DL
namespace Go.DL
open Go Go.Proofs
theorem Zft:ZR Zuv Ww.id [] (.bool true):=by
 refine Z0 Ww.ok fun F st hret=>?_
 refine Za (Zb (Zc ?_))
 simp only [Eqs,Ww.r0]
 refine Za (Zb (Zc ?_))
 simp only [Eqs,reduceIte,Ww.r1]
 refine hret rfl (by first | trivial | simp) (Yk ?_) (by first | exact Zuw _ | exact Zl (by first | trivial | assumption) | assumption | exact Zuy _ (by assumption))
 rfl
theorem Zfu:ZR Zuv Wx.id [] (.bool true):=by
 refine Z0 Wx.ok fun F st hret=>?_
 refine Za (Zb (Zc ?_))
 simp only [Eqs,Wx.r0]
 refine Za (Zb (Zc ?_))
 simp only [Eqs,reduceIte,Wx.r1]
 refine hret rfl (by first | trivial | simp) (Yk ?_) (by first | exact Zuw _ | exact Zl (by first | trivial | assumption) | assumption | exact Zuy _ (by assumption))
 rfl
def ZhS (m:Msg) (f:Fld):Int:=(Km f.size fun k=>Z8 k (JF m.fields)).2.1
theorem Zfv (m:Msg) (f g:Fld) (y:Nat) (st:St) (hy:st y=some (.cells (Qk m f g))):Y3 Zuv YX.id [.ptr y 0] st (.bool (decide (0 < ZhS m f))) st:=by
 refine Y4 YX.ok fun hwf F hret=>?_
 clear hwf
 have hmo:(Km f.size fun k=>Z8 k (JF m.fields)).2.1=ZhS m f:=rfl
 refine Za (Zb (Zc ?_))
 simp only [Eqs,reduceCtorEq,reduceIte,YX.r0]
 refine Za (Wq (ZM ?_))
 simp only [Eqs,reduceCtorEq,reduceIte,Zuq,Zur,Zus,YX.r1,hy,Qk,ZuG,ZuD]
 rw [show (D.agg [.str m.name,Yo m.fields]) = .agg m.cells from rfl]
 refine Zah rfl rfl rfl rfl rfl (by trivial) (by trivial) (by exact Zi5 m st) ?_ ?_
 ·rintro d S ⟨b,hb,hd,rfl⟩
  cases hd
  have hby:(st.upd b (.map (Zao (Jo m.fields m.fields.length)))) y=st y:=ZuE _ _ (fun e=>by rw [e,hb] at hy; simp at hy)
  refine ⟨by simp [Qx,Jy,hby],?_⟩
  refine ZM ?_
  simp only [Eqs,reduceIte]
  have hsub:=Zuy (.map (Zao (Jo m.fields m.fields.length))) hb
  have hgb:=ZuB st b (.map (Zao (Jo m.fields m.fields.length)))
  generalize st.upd b (.map (Zao (Jo m.fields m.fields.length)))=S at *
  rw [show (D.agg [.int .i64 f.size.base,Yj f.size.terms]) = .agg f.size.cells from rfl]
  refine Zah rfl rfl rfl rfl rfl (by trivial) (by trivial) (by exact ZeJ f.size b (JF m.fields) S hgb) ?_ ?_
  ·rintro d S2 ⟨hd,rfl⟩
   cases hd
   refine ⟨by trivial,?_⟩
   rw [hmo]
   refine ZM ?_
   simp only [Eqs,reduceCtorEq,reduceIte,Zuq,Zur,Zus,JT]
   refine Za (Zb (Zc ?_))
   simp only [Eqs,reduceIte,Zuq,YX.r2]
   exact hret rfl (by trivial) (Zux _) hsub
  ·rintro d S2 ⟨hd,_⟩
   cases hd
 ·rintro d S ⟨b,hb,hd,_⟩
  cases hd
def Jx (m:Msg) (f:Fld):Bool:=if f.kind=8 then true else if f.kind=12 then true else if f.kind=7 then decide (0 < ZhS m f) else false
theorem Zda (m:Msg) (f g:Fld) (st:St):Y3 Zuv YB.id [.agg (Qk m f g)] st (.bool (Jx m f)) st:=by
  refine Y4 YB.ok fun hwf F hret=>?_
  clear hwf
  refine Za (Zb (Zc ?_))
  simp only [Eqs,reduceCtorEq,reduceIte,Zuq,YB.r0,Qk,ZuG,ZuD]
  refine Za ?_
  refine YJ 1 rfl fun y hy=>?_
  simp only [reduceIte,YU,WM,delL]
  rw [show ([.str m.name,Yo m.fields,.str f.name,.int .i64 f.kind,.int .i64 f.bits,.bool f.little,.bool f.loose,.int .i64 f.low,.int .i64 f.high,.int .i64 f.size.base,Yj f.size.terms,.str f.of,.str f.tag,.str f.from_,W0 f.cases,.int .i64 f.check,.int .i64 f.key,
   .str g.name,.int .i64 g.kind,.int .i64 g.bits,.bool g.little,.bool g.loose,.int .i64 g.low,.int .i64 g.high,.int .i64 g.size.base,Yj g.size.terms,.str g.of,.str g.tag,.str g.from_,W0 g.cases,.int .i64 g.check,.int .i64 g.key]:List D)=Qk m f g from rfl]
  have hsub:=Zuy (.cells (Qk m f g)) hy
  have hgy:=ZuB st y (.cells (Qk m f g))
  generalize st.upd y (.cells (Qk m f g))=S at *
  have hgy2:∀ b o,S b=none→(S.upd b o) y=some (.cells (Qk m f g)):=fun b o h=>by rw [ZuE _ _ (fun e=>by rw [← e,hgy] at h; simp at h)]; exact hgy
  by_cases h8:f.kind=8
  · skip
    refine Zb (Zc ?_)
    simp +contextual only [Eqs,reduceIte,Zuq,Zur,YB.r1,hgy2,Qk,ZuG,ZuD,h8,Zbp,ZcQ,Int.reduceEq,decide_false,ZuB,ZuQ]
    intro b hb
    refine Za (Zb (Zc ?_))
    simp only [Eqs,reduceIte,Zuq,YB.r2]
    refine ZbP rfl rfl rfl rfl rfl (by trivial) (by trivial) (by exact Zft.VT (first:=[]) (args:=[]) (caps:=[]) _) (Zc ?_)
    simp only [Eqs,reduceIte,Zuq]
    exact hret rfl (by trivial) (by rw [show Jx m f=true by rw [Jx,if_pos h8]]; exact Zux _) (ZuK hsub (Zuy _ hb))
  · skip
    by_cases h12:f.kind=12
    · skip
      refine Zb (Zc ?_)
      simp +contextual only [Eqs,reduceIte,Zuq,Zur,YB.r1,hgy2,Qk,ZuG,ZuD,h12,Zbp,ZcQ,Int.reduceEq,decide_false,ZuB,ZuQ]
      intro b hb
      refine Za (Zb (Zc ?_))
      simp only [Eqs,reduceIte,Zuq,YB.r2]
      refine ZbP rfl rfl rfl rfl rfl (by trivial) (by trivial) (by exact Zfu.VT (first:=[]) (args:=[]) (caps:=[]) _) (Zc ?_)
      simp only [Eqs,reduceIte,Zuq]
      exact hret rfl (by trivial) (by rw [show Jx m f=true by rw [Jx,if_neg h8,if_pos h12]]; exact Zux _) (ZuK hsub (Zuy _ hb))
    · skip
      by_cases h7:f.kind=7
      · skip
        refine Zb (Zc ?_)
        simp +contextual only [Eqs,reduceIte,Zuq,Zur,YB.r1,hgy2,Qk,ZuG,ZuD,h7,Zbp,ZcQ,Int.reduceEq,decide_false,ZuB,ZuQ]
        intro b hb
        refine Za (Zb (Zc ?_))
        simp only [Eqs,reduceIte,Zuq,YB.r2]
        refine ZbP rfl rfl rfl rfl rfl (by trivial) (by trivial) (by exact (Zfv m f g y _ (hgy2 b _ hb)).VT (first:=[]) (args:=[]) (caps:=[_])) (Zc ?_)
        simp only [Eqs,reduceIte,Zuq]
        exact hret rfl (by trivial) (by rw [show Jx m f=decide (0 < ZhS m f) by rw [Jx,if_neg h8,if_neg h12,if_pos h7]]; exact Zux _) (ZuK hsub (Zuy _ hb))
      · skip
        refine Zb (Zc ?_)
        simp +contextual only [Eqs,reduceIte,Zuq,Zur,YB.r1,hgy2,Qk,ZuG,ZuD,h7,h8,h12,Zbp,ZcQ,Int.reduceEq,decide_false,ZuB,ZuQ]
        intro b hb
        refine Za (Zb (Zc ?_))
        simp only [Eqs,reduceIte,Zuq,YB.r2]
        refine Zbl rfl (e:=.d (.bool false)) (Zc ?_)
        simp only [Eqs,reduceIte,Zuq]
        exact hret rfl (by trivial) (by rw [show Jx m f=false by rw [Jx,if_neg h8,if_neg h12,if_neg h7]]; exact Zux _) (ZuK hsub (Zuy _ hb))
theorem Zia (m:Msg) (f g:Fld) (st:St):Y3 Zuv W9.id [.agg (Qk m f g)] st (.bool (!Jx m f || decide (f.of=g.of))) st:=by
 refine Y4 W9.ok fun hwf F hret=>?_
 clear hwf
 refine Za (Zb (Zc ?_))
 simp only [Eqs,reduceCtorEq,reduceIte,Zuq,W9.r0,Qk,ZuG,ZuD]
 refine Za (Zb (Zc ?_))
 simp only [Eqs,reduceIte,Zur,Zus,W9.r1]
 rw [Zm5]
 refine Wn rfl rfl rfl rfl rfl (by trivial) (by trivial) (by exact Zda m f g _) (Zc ?_)
 simp only [Eqs,reduceIte,Zuq,Zur]
 exact hret rfl (by trivial) (by cases Jx m f <;> exact Zux _) (Zuw _)
structure Srt (l:List WK):Prop where
 ord:∀ i j,i < j→j < l.length→(l.getD i default).high < (l.getD j default).low
 ne:∀ i,i < l.length→(l.getD i default).low≤(l.getD i default).high
 hi:∀ i,i < l.length→(l.getD i default).high≤34359738367
 lo:∀ i,i < l.length→0≤(l.getD i default).low
def ZoD (c:WK) (v:Int) (x:WK):Prop:=x.low≤v∧v≤x.high∧x.of=c.of
theorem Zmm {c:WK} {v:Int} {l l2:List WK} (h:∀ x∈l,¬ ZoD c v x):WA c v (l++l2)=WA c v l2:=by
 induction l with
 | nil=>rfl
 | cons x r ih =>
  have h1:=h x (by simp)
  unfold ZoD at h1
  simp only [List.cons_append,WA]
  rw [if_neg (by simpa only [ZuA,decide_eq_true_eq] using h1)]
  exact ih fun y hy=>h y (by simp [hy])
theorem Zk3 {c:WK} {v:Int} {l:List WK} (h:∀ x∈l,¬ ZoD c v x):WA c v l=false:=by
 have:=Zmm (l2:=[]) h
 rw [List.append_nil] at this; rw [this]; rfl
theorem Zqq {c:WK} {v:Int} {g:Fld} (h:Zec g v < 0):WA c v g.cases=false:=Zk3 fun x hx=>by
 have:=ZoA h x hx
 simp only [Bool.and_eq_false_iff,decide_eq_false_iff_not] at this
 unfold ZoD; omega
structure Zob (g:Fld) (v:Int) (q:Nat):Prop where
 lt:q < g.cases.length
 lo:(g.cases.getD q default).low≤v
 hi:v≤(g.cases.getD q default).high
theorem Zr4 {v:Int} {g:Fld} (h:0≤Zec g v):Zob g v (Zec g v).toNat:=by
 have h1:=Zfd h
 have h2:=ZaG _ _ h
 simp only [ZuA,decide_eq_true_eq] at h1
 exact ⟨h2,h1.1.1,h1.1.2⟩
theorem Zpp {c:WK} {v:Int} {g:Fld} (hs:Srt g.cases) {q:Nat} (h:Zob g v q) (hn:(g.cases.getD q default).of≠c.of):WA c v g.cases=false:=Zk3 fun x hx=>by
 obtain ⟨i,hi,rfl⟩:=ZuJ hx
 have e:g.cases[i]=g.cases.getD i default:=by simp [List.getD,hi]
 rw [e]
 rintro ⟨h1,h2,h3⟩
 have:=h.lo
 have:=h.hi
 rcases Nat.lt_trichotomy i q with h4 | h4 | h4
 ·have:=hs.ord i q h4 h.lt; omega
 ·subst h4; exact hn h3
 ·have:=hs.ord q i h4 hi; omega
theorem Zqr {c:WK} {v:Int} {g:Fld} (hs:Srt g.cases) {q:Nat} (h:Zob g v q) (hn:(g.cases.getD q default).of=c.of):WA c v g.cases=if c.high≤(g.cases.getD q default).high then true else WA c ((g.cases.getD q default).high + 1) g.cases:=by
 have hd:g.cases.drop q=g.cases.getD q default :: g.cases.drop (q + 1):=Qf h.lt
 have key:∀ w:Int,(∀ i,i < q→(g.cases.getD i default).high < w)→WA c w g.cases=WA c w (g.cases.drop q):=fun w hw=>by
  conv=>lhs; rw [← List.take_append_drop q g.cases]
  refine Zmm fun x hx=>?_
  obtain ⟨i,hi,rfl⟩:=(ZaC (Nat.le_of_lt h.lt)).1 hx
  rintro ⟨h1,h2,h3⟩
  have:=hw i hi; omega
 have hlo:=h.lo
 have hhi:=h.hi
 rw [key v (fun i hi=>by have:=hs.ord i q hi h.lt; omega),hd,WA,if_pos (by simp only [ZuA,decide_eq_true_eq]; exact ⟨hlo,hhi,hn⟩)]
 split
 ·rfl
 ·rw [key ((g.cases.getD q default).high + 1) (fun i hi=>by have:=hs.ord i q hi h.lt; omega),hd,WA,if_neg]
  simp only [ZuA,decide_eq_true_eq]; omega
theorem Zfs (m:Msg) (f g:Fld) (hs:Srt g.cases) (hf:∀ c∈f.cases,c.low≤c.high):ZR Zuv Zs.id [.agg (Qk m f g)] (.bool (f.cases.all fun c=>WA c c.low g.cases)):=by
 refine WD Zs.ok fun hwf F st hret=>?_
 have hw:f.cases.length≤big:=by
  have h1:=(hwf _ (List.mem_cons_self ..)).agg_inv (W0 f.cases) (by simp [Qk,ZuG,ZuD])
  exact (QD h1).1
 unfold big at hw
 clear hwf
 refine Za (Zb (Zc ?_))
 simp only [Eqs,reduceCtorEq,reduceIte,Zuq,Zs.r0,Qk,ZuG,ZuD]
 refine Za (Za (Zb (Zc ?_)))
 simp only [Eqs,reduceIte,Zuq,Zur,Zs.r1,W0,slD]
 have hcL:D.agg [.str g.name,.int .i64 g.kind,.int .i64 g.bits,.bool g.little,.bool g.loose,.int .i64 g.low,.int .i64 g.high,.int .i64 g.size.base,Yj g.size.terms,.str g.of,.str g.tag,.str g.from_,W0 g.cases,.int .i64 g.check,.int .i64 g.key] = .agg g.cells:=rfl
 refine Ku (s':=st) (by first | exact Zuw _ | exact Zl (by first | trivial | assumption) | exact ZuK (Zl (by first | trivial | assumption)) (Zl (by first | trivial | assumption)) | assumption) (Qz (ρ':=[(1,.loc 1 0),(10,.d (W0 f.cases)),(11,.d (.int .i64 f.cases.length)),(12,.d (.int .i64 (0:Nat)))]) (L':=[(1,Qk m f g)]) ?_ ?_ ?_)
 ·exact Zai _
 ·exact Q9 _
 refine Zj (ZX ?_)
 have key:∀ (n i:Nat),(f.cases.length) - i=n→(f.cases.take i).all (fun c=>WA c c.low g.cases)=true→i≤f.cases.length→ZT F [.code (Zs.l0),.inLoop Zs.l0,.inBlock 0,.code (.seq (qR Zs.r11 [2]) .ret)] [(1,.loc 1 0),(10,.d (W0 f.cases)),(11,.d (.int .i64 f.cases.length)),(12,.d (.int .i64 i))] [(1,Qk m f g)] st:=by
  intro n
  induction n using Nat.strongRecOn with
  | ind n ih_key =>
  intro i hn hall hi
  refine Za (Zb (Zc ?_))
  simp only [Eqs,reduceIte,Zuq,Zs.r2]
  refine Za (Ze rfl trivial (fun h1=>?_) (fun h1=>?_))
  ·simp at h1
   have hsn:=Zdd (p:=fun c=>WA c c.low g.cases) h1
   have hcm:=hf _ (Ki h1)
   have hnot:WA (f.cases.getD i default) (f.cases.getD i default).low g.cases=false→(f.cases.all fun c=>WA c c.low g.cases)=false:=fun h=>List.all_eq_false.2 ⟨_,Ki h1,by rw [h]; simp⟩
   generalize hc:f.cases.getD i default=c at *
   refine Zg (Za (Zj (Za (Zb (Zc ?_)))))
   simp only [Eqs,reduceIte,Zuq,Zur,Zus,Zs.r3,W0,slD,WK.cells,hc]
   repeat (refine Zut (by first | omega | trivial | (intro h0; simp at h0; omega)) ?_)
   refine Za (Zb (Zc ?_))
   simp only [Eqs,reduceIte,Zuq,Zs.r4]
   refine Zj (ZX ?_)
   have key2:∀ (n q:Nat),(g.cases.length) - q=n→∀ v,(∀ j,j < q→(g.cases.getD j default).high < v)→(v≤c.high→WA c c.low g.cases=WA c v g.cases)→(c.high < v→WA c c.low g.cases=true)→q≤g.cases.length→ZT F [.code (Zs.l1),.inLoop Zs.l1,.inBlock 2,.inBlock 1,.code (qR Zs.r10 [1,10,11,12]),.inLoop Zs.l0,.inBlock 0,.code (.seq (qR Zs.r11 [2]) .ret)] [(1,.loc 1 0),(4,.loc 4 0),(5,.d (.int .i64 v)),(10,.d (W0 f.cases)),(11,.d (.int .i64 f.cases.length)),(12,.d (.int .i64 i))] [(1,Qk m f g),(4,c.cells)] st:=by
    intro n
    induction n using Nat.strongRecOn with
    | ind n ih_key2 =>
    intro q hnq v hq hv1 hv2 hql
    refine Za (Za (Zb (Zc ?_)))
    simp only [Eqs,reduceIte,Zuq,Zs.r5,WK.cells]
    refine Ze rfl trivial (fun h2=>?_) (fun h2=>?_)
    ·have hvc:v≤c.high:=by simpa using h2
     have hv1:=hv1 hvc
     refine Zg (Zj (Za (Zb (Zc ?_))))
     simp only [Eqs,reduceIte,Zuq,Zur,Zus,Zs.r6,Qk,ZuG,ZuD,W0,slD]
     rw [show D.agg [.str g.name,.int .i64 g.kind,.int .i64 g.bits,.bool g.little,.bool g.loose,.int .i64 g.low,.int .i64 g.high,.int .i64 g.size.base,Yj g.size.terms,.str g.of,.str g.tag,.str g.from_,.sl .none g.cases.length 3 (fun i=>(g.cases.getD i default).cells),.int .i64 g.check,.int .i64 g.key] = .agg g.cells from rfl]
     refine ZW rfl rfl rfl rfl rfl (by trivial) (by trivial) (by exact ZkH g v) (Zc ?_)
     simp only [Eqs,reduceIte,Zuq]
     by_cases hz:0≤Zec g v
     ·have hat:=Zr4 hz
      have hmx:max (Zec g v) 0=((Zec g v).toNat:Int):=by omega
      have hlt:=hat.lt
      rw [hmx,decide_eq_true hz]
      generalize hr:(Zec g v).toNat=r at *
      refine Za (Za (WB (Wj ?_)))
      simp only [Eqs,reduceIte,Zuq,Zur,Zs.r7,WK.cells]
      repeat (refine Zut (by first | omega | trivial | (intro h0; simp at h0; omega)) ?_)
      refine Ze rfl trivial (fun h3=>?_) (fun h3=>?_)
      ·have h3':(g.cases.getD r default).of≠c.of:=by simpa using h3
       have:=hnot (hv1.trans (Zpp hs hat h3'))
       refine Za (Zb (Zc ?_))
       simp only [Eqs,reduceIte,Zuq,Zs.r8]
       refine hret rfl (by first | trivial | simp) (Yk ?_) (by first | exact Zuw _ | exact Zl (by first | trivial | assumption) | assumption | exact Zuy _ (by assumption))
       exact this.symm
      ·have h3':(g.cases.getD r default).of=c.of:=by simpa using h3
       have hcs:=Zqr hs hat h3'
       have hhi:=hs.hi r hlt
       have hlo:=hs.lo r hlt
       have hne:=hs.ne r hlt
       have hrq:q≤r:=by
        rcases Nat.lt_or_ge r q with h | h
        ·have:=hq r h; have:=hat.hi; omega
        ·exact h
       refine Zg (Zb (Zc ?_))
       simp only [Eqs,reduceIte,Zuq,Zur,Zs.r9]
       repeat (refine Zut (by first | omega | trivial | (intro h0; simp at h0; omega)) ?_)
       refine Zm (Zy ?_)
       exact ih_key2 (g.cases.length - (r + 1)) (by omega) (r + 1) rfl _ (fun j hj=>by
        rcases Nat.lt_or_ge j r with h | h
        ·have:=hs.ord j r h hlt; have:=hs.ne r hlt; omega
        ·obtain rfl:j=r:=by omega
         omega) (fun h=>by rw [hv1,hcs,if_neg (by omega)]) (fun h=>by rw [hv1,hcs,if_pos (by omega)]) (by omega)
     ·rw [decide_eq_false hz]
      have:=hnot (hv1.trans (Zqq (by omega)))
      refine Za (Za (WB (Wj ?_)))
      simp only [Eqs,reduceIte,Zuq,Zur,Zs.r7,WK.cells]
      refine Ze rfl trivial (fun _=>?_) (fun h=>by simp at h)
      refine Za (Zb (Zc ?_))
      simp only [Eqs,reduceIte,Zuq,Zs.r8]
      refine hret rfl (by first | trivial | simp) (Yk ?_) (by first | exact Zuw _ | exact Zl (by first | trivial | assumption) | assumption | exact Zuy _ (by assumption))
      exact this.symm
    ·have hvc:c.high < v:=by simpa using h2
     refine ZQ rfl (Zm (Zb (Zc ?_)))
     simp only [Eqs,reduceIte,Zuq,Zs.r10]
     repeat (refine Zut (by first | omega | trivial | (intro h0; simp at h0; omega)) ?_)
     refine Zy ?_
     exact ih_key ((f.cases.length) - (i + 1)) (by omega) (i + 1) rfl (by rw [hsn,hall,hv2 hvc]; rfl) (by omega)
   exact key2 _ 0 rfl c.low (by intro j hj; omega) (fun _=>rfl) (fun h=>by omega) (by omega)
  ·simp at h1
   obtain rfl:i=f.cases.length:=by omega
   rw [ZuH] at hall
   refine ZQ rfl (Za (Zb (Zc ?_)))
   simp only [Eqs,reduceIte,Zuq,Zs.r11]
   refine hret rfl (by first | trivial | simp) (Yk ?_) (by first | exact Zuw _ | exact Zl (by first | trivial | assumption) | assumption | exact Zuy _ (by assumption))
   exact hall.symm
 exact key _ 0 rfl (by simp) (by omega)
end Go.DL
namespace Go.DL
open Go Go.Proofs
def Zb9:List (Int × Nat):=[(3,W4.id),(4,W5.id),(5,WG.id),(6,ZO.id),(7,W6.id),(8,W7.id),(9,W8.id),(10,W9.id),(11,Zs.id)]
def ZoM (x:Int × Nat):List D:=[.int .i64 x.1,.fn (.func x.2) [] []]
def Zkf:D:=slD 2 ZoM Zb9
theorem Zjy:ZR Zuv KL.id [] Zkf:=by
 refine Z0 KL.ok fun F st hret=>?_
 refine Za (Zb (Zc ?_))
 simp only [Eqs,KL.r0]
 refine Za (Zb (Zc ?_))
 simp only [Eqs,reduceCtorEq,reduceIte,Zuq,Zur,Zus,KL.r1]
 refine hret rfl (by trivial) (Zac (YE.le (l:=Zb9) ?_ rfl)) (Zuw _)
 intro i hi
 have hi9:i < 9:=hi
 match i,hi9 with
 | 0,_ | 1,_ | 2,_ | 3,_ | 4,_ | 5,_ | 6,_ | 7,_ | 8,_=>rfl
 | n + 9,h=>omega
def ZaU (m:Msg) (f g:Fld) (i:Nat):Bool :=
 match i with
 | 0=>decide (f.name=g.name)
 | 1=>decide (f.kind=g.kind)
 | 2=>ZfC f g
 | 3=>Zgl f g
 | 4=>!f.loose || g.loose
 | 5=>ZdV f.size g.size
 | 6=>decide (f.tag=g.tag) && decide (f.from_=g.from_)
 | 7=>!Jx m f || decide (f.of=g.of)
 | _=>f.cases.all fun c=>WA c c.low g.cases
theorem ZrK (m:Msg) (f g:Fld) (hs:Srt g.cases) (hf:∀ c∈f.cases,c.low≤c.high) (i:Nat) (hi:i < 9) (st:St):VT Zuv (.fn (.func (Zb9.getD i default).2) [] []) [.agg (Qk m f g)] st (.bool (ZaU m f g i)) st:=by
 match i,hi with
 | 0,_=>exact (Zh4 m f g).VT (first:=[]) (args:=[_]) (caps:=[]) st
 | 1,_=>exact (Zh5 m f g).VT (first:=[]) (args:=[_]) (caps:=[]) st
 | 2,_=>exact (Zh6 m f g).VT (first:=[]) (args:=[_]) (caps:=[]) st
 | 3,_=>exact (ZfX m f g).VT (first:=[]) (args:=[_]) (caps:=[]) st
 | 4,_=>exact (Zh7 m f g).VT (first:=[]) (args:=[_]) (caps:=[]) st
 | 5,_=>exact (Zh8 m f g).VT (first:=[]) (args:=[_]) (caps:=[]) st
 | 6,_=>exact (Zh9 m f g).VT (first:=[]) (args:=[_]) (caps:=[]) st
 | 7,_=>exact (Zia m f g st).VT (first:=[]) (args:=[_]) (caps:=[])
 | 8,_=>exact (Zfs m f g hs hf).VT (first:=[]) (args:=[_]) (caps:=[]) st
 | n + 9,h=>omega
theorem ZoL (l:List Ran) (x:Ran) (s:Str):KU (l++[x]) s=if x.name=s then some (x.low,x.high) else KU l s:=by
 unfold KU
 rw [Zf8]
 split
 ·rename_i h
  rw [if_neg (by omega)]
  simp [List.getD]
 ·have h1:=ZiX s l
  have h2:=ZiY s l
  split
  ·rfl
  ·rw [show ((l++[x]).getD (Kj s l).toNat default)=l.getD (Kj s l).toNat default by simp [List.getD,List.getElem?_append_left (show (Kj s l).toNat < l.length by omega)]]
theorem ZpP (fs:List Fld) (n:Nat) (hn:n≤fs.length) (s:Str):KU (Zhc (fs.take n)) s=Z8 s (Jo fs n):=by
 induction n with
 | zero=>simp [Zhc,KU,Kj,Jo,Z8]
 | succ n ih =>
  rw [Zll (by omega)]
  simp only [Jo]
  split
  ·rw [ZoL,Zbb,ih (by omega)]
   show (if (fs.getD n default).name=s then some ((Kv (fs.getD n default)).1,(Kv (fs.getD n default)).2) else Z8 s (Jo fs n))=_
   by_cases h:s=(fs.getD n default).name
   ·rw [if_pos h.symm,if_pos h]
   ·rw [if_neg (fun e=>h e.symm),if_neg h]
  ·rw [List.append_nil]; exact ih (by omega)
theorem ZrA (m:Msg) (f:Fld):ZhS m f=Zj4 m f:=by
 unfold ZhS Zj4
 congr 3
 funext k
 have:=ZpP m.fields m.fields.length (ZuO _) k
 rw [ZuH] at this
 exact this.symm
theorem ZiW (m:Msg) (f:Fld):Jx m f=ZaX m f:=by
 unfold Jx ZaX
 rw [ZrA]
 by_cases h8:f.kind=8
 ·simp [h8]
 ·by_cases h12:f.kind=12
  ·simp [h12]
  ·by_cases h7:f.kind=7 <;> simp [h8,h12,h7]
def Zbh (f:Fld):Prop:=f.kind=1∨f.kind=2∨f.kind=3∨f.kind=5∨f.kind=6∨f.high=0
theorem ZrM {f g:Fld} (hk:f.kind=g.kind) (hf:Zbh f) (hg:Zbh g):ZfL f g = !Zgl f g:=by
 unfold ZfL Zgl Zbh at *
 rw [← hk] at hg
 by_cases h2:f.kind=2
 ·simp [h2]
 ·by_cases h1:f.kind=1
  ·rw [Bool.eq_iff_iff]; simp [h1] <;> (intros; omega)
  ·by_cases h3:f.kind=3
   ·rw [Bool.eq_iff_iff]; simp [h3] <;> omega
   ·by_cases h5:f.kind=5
    ·rw [Bool.eq_iff_iff]; simp [h5]
    ·by_cases h6:f.kind=6
     ·rw [Bool.eq_iff_iff]; simp [h6]
     ·simp [h1,h2,h3,h5,h6]; omega
theorem ZpA (f g:Fld):ZdS f g = !ZfC f g:=by
 unfold ZdS ZfC
 rw [Bool.eq_iff_iff]
 by_cases h1:f.bits=g.bits <;> by_cases h2:f.little=g.little <;> by_cases h3:f.check=g.check <;> by_cases h4:f.key=g.key <;> by_cases h5:f.kind=5 <;> by_cases h6:f.low=g.low <;> simp [h1,h2,h3,h4,h5,h6]
theorem Zk4 {m:Msg} {f g:Fld} (hf:Zbh f) (hg:Zbh g):ZaW m f g =
  if ZaU m f g 0=false then 3 else if ZaU m f g 1=false then 4 else if ZaU m f g 2=false then 5 else if ZaU m f g 3=false then 6 else if ZaU m f g 4=false then 7 else
  if ZaU m f g 5=false then 8 else if ZaU m f g 6=false then 9 else if ZaU m f g 7=false then 10 else if ZaU m f g 8=false then 11 else 0:=by
 unfold ZaW
 simp only [ZaU]
 by_cases h1:f.kind=g.kind
 ·rw [ZpA,ZrM h1 hf hg,← ZiW]
  have e1:(!decide (f.tag=g.tag) || !decide (f.from_=g.from_)) = !(decide (f.tag=g.tag) && decide (f.from_=g.from_)):=by rw [Bool.not_and]
  have e2:(Jx m f && !decide (f.of=g.of)) = !(!Jx m f || decide (f.of=g.of)):=by rw [Bool.not_or,Bool.not_not]
  have e3:(f.loose && !g.loose) = !(!f.loose || g.loose):=by rw [Bool.not_or,Bool.not_not]
  rw [e1,e2,e3]
  simp only [Bool.not_eq_true',ne_eq,decide_eq_false_iff_not]
  congr 8
  split
  ·rename_i h; rw [h]; simp
  ·rename_i h; simp at h; simp [h]
 ·have h1':decide (f.kind=g.kind)=false:=decide_eq_false h1
  simp only [ne_eq,h1,not_false_eq_true,if_true,decide_eq_false_iff_not]
theorem Zpq {m:Msg} {f g:Fld} (hf:Zbh f) (hg:Zbh g) {k:Nat} (hk:k < 9) (h:∀ i,i < k→ZaU m f g i=true) (hb:ZaU m f g k=false):ZaW m f g=3 + k:=by
 rw [Zk4 hf hg]
 match k,hk with
 | 0,_=>simp [hb]
 | 1,_=>simp [hb,h 0]
 | 2,_=>simp [hb,h 0,h 1]
 | 3,_=>simp [hb,h 0,h 1,h 2]
 | 4,_=>simp [hb,h 0,h 1,h 2,h 3]
 | 5,_=>simp [hb,h 0,h 1,h 2,h 3,h 4]
 | 6,_=>simp [hb,h 0,h 1,h 2,h 3,h 4,h 5]
 | 7,_=>simp [hb,h 0,h 1,h 2,h 3,h 4,h 5,h 6]
 | 8,_=>simp [hb,h 0,h 1,h 2,h 3,h 4,h 5,h 6,h 7]
 | n + 9,h=>omega
theorem Znh {m:Msg} {f g:Fld} (hf:Zbh f) (hg:Zbh g) (h:∀ i,i < 9→ZaU m f g i=true):ZaW m f g=0:=by
 rw [Zk4 hf hg]
 simp [h 0,h 1,h 2,h 3,h 4,h 5,h 6,h 7,h 8]
theorem ZoZ {f:Fld} (h1:1≤f.kind) (h2:f.kind≤12) (h:Zci f=true):Zbh f:=by
 have hk:f.kind=1∨f.kind=2∨f.kind=3∨f.kind=4∨f.kind=5∨f.kind=6∨f.kind=7∨f.kind=8∨f.kind=9∨f.kind=10∨f.kind=11∨f.kind=12:=by omega
 unfold Zbh
 simp only [Zci,ZuA] at h
 have h3:=h.1
 rcases hk with hk | hk | hk | hk | hk | hk | hk | hk | hk | hk | hk | hk <;> rw [hk] at h3 <;> simp [zrA,ZdH,ZlR,JB] at h3 <;> simp [hk,h3]
theorem Zor {d:Dfn} {a:Nat} {high lo:Int} {l:List WK} (h:ZaV d a high lo l=0) (hlo:0≤lo) (hh:high≤34359738367):Srt l∧∀ i,i < l.length→lo≤(l.getD i default).low:=by
 induction l generalizing lo with
 | nil=>exact ⟨⟨fun i j _ h=>by simp at h,fun i h=>by simp at h,fun i h=>by simp at h,fun i h=>by simp at h⟩,fun i h=>by simp at h⟩
 | cons c r ih =>
  simp only [ZaV] at h
  split at h
  ·omega
  ·rename_i hc
   simp only [ZuL,decide_eq_true_eq,not_or,Int.not_lt] at hc
   split at h
   ·omega
   ·obtain ⟨h1,h2⟩:=ih h (by omega)
    refine ⟨⟨fun i j hij hj=>?_,fun i hi=>?_,fun i hi=>?_,fun i hi=>?_⟩,fun i hi=>?_⟩
    ·match j,i,hij with
     | j + 1,0,_=>simp at hj ⊢; have:=h2 j hj; simp at this; omega
     | j + 1,i + 1,hij=>simp at hj ⊢; have:=h1.ord i j (by omega) hj; simpa using this
    ·match i with
     | 0=>simp; omega
     | i + 1=>simp at hi ⊢; simpa using h1.ne i hi
    ·match i with
     | 0=>simp; omega
     | i + 1=>simp at hi ⊢; simpa using h1.hi i hi
    ·match i with
     | 0=>simp; omega
     | i + 1=>simp at hi ⊢; simpa using h1.lo i hi
    ·match i with
     | 0=>simp; omega
     | i + 1=>simp at hi ⊢; have:=h2 i hi; simp at this; omega
theorem Srt.nil:Srt []:=⟨fun i j _ h=>by simp at h,fun i h=>by simp at h,fun i h=>by simp at h,fun i h=>by simp at h⟩
structure Zo8 (f:Fld):Prop where
 high:Zbh f
 srt:Srt f.cases
 le:∀ c∈f.cases,c.low≤c.high
theorem ZqO {d:Dfn} {a i:Nat} {m:Msg} {f:Fld} (h:Je d a m i f=0) (hn:QZ f=true):0≤(Kv f).1∧(Kv f).2≤34359738367:=by
 unfold Je at h
 split at h; · omega
 split at h; · omega
 split at h; · omega
 split at h; · omega
 unfold QZ at hn
 simp only [ZuA,decide_eq_true_eq] at hn
 have hk:f.kind=1∨f.kind=2∨f.kind=3:=by omega
 have hnum:ZaD f=0→0≤f.low∧Zfm f≤34359738367:=fun h=>by
  unfold ZaD at h
  split at h; · omega
  rename_i hb
  split at h; · omega
  rename_i hn
  unfold Zbm at hb
  unfold ZbM at hn
  simp only [ZuL,decide_eq_true_eq,not_or,Int.not_lt] at hb hn
  have:=ZcD (b:=f.bits) (by omega) (by omega)
  generalize (2:Int) ^ f.bits.toNat=pw at *
  omega
 unfold K1 at h
 unfold Kv
 rcases hk with hk | hk | hk <;> simp only [hk,Int.reduceEq,if_true,if_false] at h ⊢
 ·have:=hnum h
  unfold Zfm at this
  rw [if_neg (by omega)] at this; exact this
 ·have:=hnum h
  unfold Zfm at this
  rw [if_pos hk] at this; omega
 ·split at h
  ·rename_i hw
   unfold Zgr at hw
   simp only [ZuA,decide_eq_true_eq] at hw
   omega
  ·omega
theorem ZpR {d:Dfn} {a:Nat} {m:Msg} (hm:∀ i,i < m.fields.length→Je d a m i (m.fields.getD i default)=0) {i:Nat} (hi:i < m.fields.length):Zo8 (m.fields.getD i default):=by
 have h:=hm i hi
 have h0:=Zmw h
 unfold Je at h
 split at h; · omega
 split at h; · omega
 split at h; · omega
 rename_i hk
 split at h; · omega
 rename_i hz
 simp only [ZuL,decide_eq_true_eq,not_or,Int.not_lt] at hk
 have hhigh:=ZoZ (f:=m.fields.getD i default) (by omega) (by omega) (by simpa using hz)
 by_cases hc:(m.fields.getD i default).cases=[]
 ·exact ⟨hhigh,by rw [hc]; exact .nil,by rw [hc]; simp⟩
 ·have h9:=h0.cases hc
  generalize hf:m.fields.getD i default=f at *
  unfold K1 at h
  simp only [h9,Int.reduceEq,if_true,if_false] at h
  split at h; · omega
  rename_i hch
  unfold ZcJ at h
  split at h; · omega
  unfold ZeX at hch
  simp only [ZuL,decide_eq_true_eq,not_or,Int.not_lt,Bool.not_eq_true',Bool.not_eq_false] at hch
  have hlt:(Jl m f.tag i).toNat < i:=by
   have:=Zaa (fun f':Fld=>decide (f'.name=f.tag)) (m.fields.take i)
   rw [List.length_take] at this
   unfold Jl at hch ⊢; omega
  have hr:=ZqO (hm (Jl m f.tag i).toNat (by omega)) hch.2.1
  have hs:=Zor h hr.1 hr.2
  refine ⟨hhigh,hs.1,fun c hcm=>?_⟩
  obtain ⟨j,hj,rfl⟩:=ZuJ hcm
  have:=hs.1.ne j hj
  simpa [List.getD,hj] using this
theorem QB.rule {d:Dfn} (h:QB d) {j i:Nat} (hj:j < d.msgs.length) (hi:i < (d.msgs.getD j default).fields.length):Zo8 ((d.msgs.getD j default).fields.getD i default):=ZpR (h.msg hj).field hi
end Go.DL
namespace Go.Proofs
open Go.Shelf Go.RowKit
def Tryz.joinL_ren:Go.Shelf.Ren:=⟨fun | 156=>44 | 165=>61 | 166=>62 | 169=>63 | 240=>101 | 241=>102 | 276=>123 | 277=>124 | n=>n,fun | 31=>96 | 9=>9 | 3=>3 | 4=>4 | 0=>0 | 20=>20 | 72=>139 | 76=>143 | 70=>136 | 37=>137 | 75=>142 | 127=>177 | 164=>205 | 5=>5 | 80=>145 | n=>n,fun | n=>n⟩
theorem Tryz.joinL:Go.Proofs.Lays.n156 Zuv Tryz.joinL_ren:={
 mixed:=by kernel_rfl
 f156:=Tryz.func44.trans (congrArg some (by kernel_rfl))
 f165:=Tryz.func61.trans (congrArg some (by kernel_rfl))
 f166:=Tryz.func62.trans (congrArg some (by kernel_rfl))
 f169:=Tryz.func63.trans (congrArg some (by kernel_rfl))
 f240:=Tryz.func101.trans (congrArg some (by kernel_rfl))
 f241:=Tryz.func102.trans (congrArg some (by kernel_rfl))
 f276:=Tryz.func123.trans (congrArg some (by kernel_rfl))
 f277:=Tryz.func124.trans (congrArg some (by kernel_rfl))
 t0:=Tryz.underlying0
 a0:=Tryz.isAgg0
 z0:=Tryz.sizeOf0
 v0:=Tryz.zeroValue0
 t3:=Tryz.underlying3
 a3:=Tryz.isAgg3
 z3:=Tryz.sizeOf3
 v3:=Tryz.zeroValue3
 t4:=Tryz.underlying4
 a4:=Tryz.isAgg4
 z4:=Tryz.sizeOf4
 v4:=Tryz.zeroValue4
 t9:=Tryz.underlying9
 a9:=Tryz.isAgg9
 z9:=Tryz.sizeOf9
 v9:=Tryz.zeroValue9
 t20:=Tryz.underlying20
 a20:=Tryz.isAgg20
 z20:=Tryz.sizeOf20
 v20:=Tryz.zeroValue20
 t31:=Tryz.underlying96
 a31:=Tryz.isAgg96
 z31:=Tryz.sizeOf96
 v31:=Tryz.zeroValue96
 t37:=Tryz.underlying137
 a37:=Tryz.isAgg137
 z37:=Tryz.sizeOf137
 v37:=Tryz.zeroValue137
 t70:=Tryz.underlying136
 a70:=Tryz.isAgg136
 z70:=Tryz.sizeOf136
 v70:=Tryz.zeroValue136
 t72:=Tryz.underlying139
 a72:=Tryz.isAgg139
 z72:=Tryz.sizeOf139
 v72:=Tryz.zeroValue139
 t75:=Tryz.underlying142
 a75:=Tryz.isAgg142
 z75:=Tryz.sizeOf142
 v75:=Tryz.zeroValue142
 t76:=Tryz.underlying143
 a76:=Tryz.isAgg143
 z76:=Tryz.sizeOf143
 v76:=Tryz.zeroValue143
 t127:=Tryz.underlying177
 a127:=Tryz.isAgg177
 z127:=Tryz.sizeOf177
 v127:=Tryz.zeroValue177
 t164:=Tryz.underlying205
 a164:=Tryz.isAgg205
 z164:=Tryz.sizeOf205
 v164:=Tryz.zeroValue205 }
theorem Tryz.joinX:Builder.Extra Zuv Tryz.joinL_ren:={
 sizeBuilder:=by kernel_rfl
 liesBuilder:=by kernel_rfl
 t5:=Tryz.underlying5
 a5:=Tryz.isAgg5
 z5:=Tryz.sizeOf5
 v5:=Tryz.zeroValue5
 infoByte:=by kernel_rfl
 cellsByte:=by kernel_rfl
 sizeByte:=by kernel_rfl
 neB5:=by decide }
end Go.Proofs
namespace Go.DL
open Go Go.Proofs Go.Lib Go.RowKit
theorem Zrk {w:World} {b o:Nat} {v:Value} (h:w.cell? ⟨b,o,none⟩=some v):b < w.heap.size:=by
 refine Nat.lt_of_not_le fun hle=>?_
 have hn:w.heap[b]? = none:=Array.getElem?_eq_none hle
 simp [World.cell?,hn] at h
def joinL (l:List Str) (sep:Str):Str:=sep.intercalate l
theorem Ze8 (l:List Str) (hn:l.length≤100000) (hj:(joinL l [46]).length≤100000000):ZR Zuv strings_Join.id [slD 1 Q5 l,.str [46]] (.str (joinL l [46])):=fun st=>by
 refine ⟨⟨_,Tryz.func44,by kernel_rfl,by kernel_rfl⟩,fun g w vs hs ha=>?_⟩
 cases ha with
 | cons h1 ha =>
 cases ha with
 | cons h2 ha =>
 cases ha
 cases h2 with
 | str sep _ hsep hsb =>
 have hsep2:sep=⟨#[46]⟩:=by
  obtain ⟨a⟩:=sep
  have:a.toList=[46]:=hsep
  have h2:a = #[46]:=by apply Array.ext'; simpa using this
  rw [h2]
 subst hsep2
 unfold slD at h1
 have hgrow:∀ w':World,Below w.heap.size w w'→ZbB g w g w':=fun w' hbel=>⟨hbel.size,fun c hc=>hbel.block c hc,fun _ _=>rfl,fun c hc=>(hs.fresh c (Nat.le_trans hbel.size hc)).1,rfl,hbel.os,hbel.output,hbel.tape⟩
 generalize hrow:(fun i=>Q5 (l.getD i default))=row at h1
 generalize hln:l.length=n at h1
 cases h1 with
 | sl0 av _ _ _ ht =>
  obtain rfl:l=[]:=List.eq_nil_of_length_eq_zero hln
  refine (Any.strings_Join_none Tryz.joinL Tryz.joinX av 0 ⟨#[46]⟩ w).mono ?_
  rintro e w' ⟨rfl,rfl⟩
  exact ⟨g,st,.ret (.str []),Ext.refl g _,hs,.str _ _ rfl (by simp [big]),rfl,rfl⟩
 | sl b o _ cap _ _ _ f hl hc hp hr one ht hcap hb =>
  subst hln
  subst hrow
  have hx:∀ i (hi:i < l.length),∃ x:ByteArray,f i 0 = .string x∧x.data.toList=l[i]:=fun i hi=>by
   have:=hr i 0 (.str (l.getD i default)) hi rfl
   generalize f i 0=v at this
   cases this with
   | str x _ h1 h2=>exact ⟨x,rfl,by rw [h1]; simp [List.getD,hi]⟩
  have hxs:∃ xs:List ByteArray,xs.length=l.length∧xs.map (·.data.toList)=l∧∀ (j:Nat) x,xs[j]? = some x→f j 0 = .string x:=by
   refine ⟨List.ofFn fun i:Fin l.length=>Classical.choose (hx i.1 i.2),by simp,?_,fun j x hj=>?_⟩
   ·apply List.ext_getElem
    ·simp
    ·intro i h1 h2
     simp at h1
     simp only [List.getElem_map,List.getElem_ofFn]
     exact (Classical.choose_spec (hx i h1)).2
   ·obtain ⟨hj1,hj2⟩:=List.getElem?_eq_some_iff.1 hj
    simp only [List.length_ofFn] at hj1
    simp only [List.getElem_ofFn] at hj2
    rw [← hj2]
    exact (Classical.choose_spec (hx j hj1)).1
  obtain ⟨xs,hx1,hx2,hx3⟩:=hxs
  have hbk:0 < l.length→b < w.heap.size:=fun h0=>by
   have:=hc 0 0 h0 (by omega)
   exact Zrk this
  have hJ:(Lib.join (xs.map (·.data.toList)) (⟨#[46]⟩:ByteArray).data.toList)=joinL l [46]:=by rw [hx2]; rfl
  have hfin:∀ w',Below w.heap.size w w'→∃ g' s' res,Ext g w g' w'∧KS g' s' w'∧Rep g' w' (.string ⟨(joinL l [46]).toArray⟩) (.str (joinL l [46]))∧res=Res.ret (.str (joinL l [46]))∧s'=st:=fun w' hbel =>
   ⟨g,st,.ret (.str (joinL l [46])),(hgrow w' hbel).ext hs.fresh,hs.grow (hgrow w' hbel),.str _ _ (by simp) (by unfold big; omega),rfl,rfl⟩
  by_cases h0:l.length=0
  ·obtain rfl:l=[]:=List.eq_nil_of_length_eq_zero h0
   refine (Any.strings_Join_none Tryz.joinL Tryz.joinX (some ⟨b,o,none⟩) cap ⟨#[46]⟩ w).mono ?_
   rintro e w' ⟨rfl,rfl⟩
   exact ⟨g,st,.ret (.str []),Ext.refl g _,hs,.str _ _ rfl (by simp [big]),rfl,rfl⟩
  ·have hcall:=Any.strings_Join Tryz.joinL Tryz.joinX b o cap xs ⟨#[46]⟩ w (fun j x hj=>by
     have hjl:j < l.length:=by rw [← hx1]; exact (List.getElem?_eq_some_iff.1 hj).1
     have:=hc j 0 hjl (by omega)
     rw [hx3 j x hj] at this
     simpa using this) (hbk (by omega)) (by omega) (by omega) (by rw [hJ]; omega)
   rw [hJ,hx1] at hcall
   refine hcall.mono ?_
   rintro e w' ⟨rfl,hbel⟩
   obtain ⟨g',s',res,a1,a2,a3,a4,a5⟩:=hfin w' hbel
   exact ⟨g',s',res,a1,a2,by rw [a4]; exact a3,a4,a5⟩
end Go.DL
namespace Go.DL
open Go Go.Proofs
theorem ZkD:ZfQ (.st [(0,.int),(1,.int)]) prK:=fun a b=>by
 simp only [JM,prK,ZuI,List.length_nil,and_self,if_true,QV,KV]
 simp [Prod.ext_iff]
def prM (p:Prs):List ((Int × Int) × Bool):=p.map fun x=>(x,true)
def prE (p:Prs):List (D × D):=Jv prK D.bool (prM p)
theorem Zrs (x:Int × Int) (p:Prs):(Z8 x (prM p)).getD false=decide (x∈p):=by
 induction p with
 | nil=>rfl
 | cons y r ih =>
  simp only [prM,List.map_cons,Z8]
  by_cases h:x=y
  ·simp [h]
  ·simp only [h,if_false,List.mem_cons,false_or]; exact ih
theorem ZrL {x:Int × Int} {p:Prs} (h:x ∉ p):K3 x true (prM p)=prM (p++[x]):=by
 induction p with
 | nil=>rfl
 | cons y r ih =>
  simp only [List.mem_cons,not_or] at h
  simp only [prM,List.map_cons,K3,h.1,if_false,List.cons_append]
  congr 1
  exact ih h.2
def cmC (w r:Dfn) (b:Nat):List D:=[.str w.name,We w.msgs,.str w.start,.str r.name,We r.msgs,.str r.start,.map b]
structure CmT (w r:Dfn) (x b:Nat) (T:Prs→St):Prop where
 cx:∀ p,T p x=some (.cells (cmC w r b))
 cb:∀ p,T p b=some (.map (prE p))
 u:∀ p p',(T p).upd b (.map (prE p'))=T p'
 d:∀ p p' c,T p c=none→T p' c=none
theorem CmT.disj {w r:Dfn} {x b:Nat} {T:Prs→St} (h:CmT w r x b T) {a:St} {p p':Prs} (hd:WX a (T p)):WX a (T p'):=fun c o hc=>by
 cases hp:T p c with
 | some o'=>exact hd c _ hp
 | none=>rw [h.d p p' c hp] at hc; simp at hc
theorem CmT.gx {w r:Dfn} {x b:Nat} {T:Prs→St} (h:CmT w r x b T) {a:St} {p:Prs} (hd:WX a (T p)):(a.or (T p)) x=some (.cells (cmC w r b)):=by
 rw [YR (hd x _ (h.cx p)),h.cx]
theorem CmT.gb {w r:Dfn} {x b:Nat} {T:Prs→St} (h:CmT w r x b T) {a:St} {p:Prs} (hd:WX a (T p)):(a.or (T p)) b=some (.map (prE p)):=by
 rw [YR (hd b _ (h.cb p)),h.cb]
theorem CmT.ub {w r:Dfn} {x b:Nat} {T:Prs→St} (h:CmT w r x b T) {a:St} {p p':Prs} (hd:WX a (T p)):(a.or (T p)).upd b (.map (prE p'))=a.or (T p'):=by
 funext c
 have hab:=hd b _ (h.cb p)
 by_cases hc:c=b
 ·subst hc
  rw [ZuB,YR hab,h.cb]
 ·rw [ZuE _ _ hc]
  cases ha:a c with
  | some o=>rw [Yv ha,Yv ha]
  | none=>rw [YR ha,YR ha,← h.u p p',ZuE _ _ hc]
def AtL (args:Nat→List D) (j:Nat) (l:List Dif):Prop:=∀ i,i < l.length→args (j + i)=[.agg (l.getD i default).cells]
theorem AtL.head {args:Nat→List D} {j:Nat} {x:Dif} {l:List Dif} (h:AtL args j (x :: l)):args j=[.agg x.cells]:=by simpa using h 0 (by simp)
theorem AtL.left {args:Nat→List D} {j:Nat} {l l':List Dif} (h:AtL args j (l++l')):AtL args j l:=fun i hi=>by
 rw [h i (by rw [ZuF]; omega)]
 simp [List.getD,List.getElem?_append_left hi]
theorem AtL.right {args:Nat→List D} {j:Nat} {l l':List Dif} (h:AtL args j (l++l')):AtL args (j + l.length) l':=fun i hi=>by
 have:=h (l.length + i) (by rw [ZuF]; omega)
 rw [show j + l.length + i=j + (l.length + i) by omega,this]
 simp [List.getD,List.getElem?_append_right]
theorem AtL.tail {args:Nat→List D} {j:Nat} {x:Dif} {l:List Dif} (h:AtL args j (x :: l)):AtL args (j + 1) l:=(show AtL args j ([x]++l) from h).right
inductive Zok (go:Nat→Oc) (A:Nat→St→Prop) (T:Prs→St) (j:Nat) (p:Prs):Res→St→Prop where
 | all (a:St) (h:∀ i,i < j→go i = .next) (ha:A j a) (hd:WX a (T p)):Zok go A T j p (.ret (.bool true)) (a.or (T p))
 | stop (m:Nat) (c:Code) (a S:St) (hm:m < j) (h:∀ i,i < m→go i = .next) (hc:go m = .stop c) (ha:A (m + 1) a) (hs:a.sub S):Zok go A T j p (.ret (.bool false)) S
 | pan (m:Nat) (d:D) (a S:St) (hm:m < j) (h:∀ i,i < m→go i = .next) (hc:go m = .pan d) (ha:A (m + 1) a) (hs:a.sub S):Zok go A T j p (.panic d) S
theorem Zg5 (sep:Str):joinL [] sep=[]:=rfl
theorem ZjV (path:List Str) (n:Str) (h:∀ s∈path,s≠[]):joinL (path++[n]) [46]=J6 (joinL path [46]) n:=by
 have key:∀ (l:List Str) (x:Str),joinL ((x :: l)++[n]) [46]=joinL (x :: l) [46]++[46]++n:=by
  intro l
  induction l with
  | nil=>intro x; simp [joinL,List.intercalate,List.intersperse]
  | cons y r ih =>
   intro x
   have h1:=ih y
   have h2:∀ z:List Str,joinL (x :: y :: z) [46]=x++([46]++joinL (y :: z) [46]):=fun z=>by simp [joinL,List.intercalate,List.intersperse]
   rw [List.cons_append,List.cons_append,h2,← List.cons_append,h1,h2]
   simp
 cases path with
 | nil=>simp [joinL,J6,List.intercalate,List.intersperse]
 | cons x r =>
  rw [key]
  unfold J6
  have:joinL (x :: r) [46]≠[]:=by
   have hx:=h x (by simp)
   cases r with
   | nil=>simpa [joinL,List.intercalate,List.intersperse] using hx
   | cons y r=>intro e; apply hx; simp [joinL,List.intercalate,List.intersperse] at e
  rw [if_neg this]
theorem Zle {s:Str} (h:K0 s=true):s≠[]:=by
 rintro rfl; simp [K0] at h
end Go.DL
namespace Go.DL
open Go Go.Proofs
theorem Zoz (d:Dfn) (s:Str):Z7 (fun x=>decide (x.name=s)) d.msgs=Z6 d s d.msgs.length:=by unfold Z6; rw [ZuH]
theorem Zlf {path:List Str} (h:∀ s∈path,s≠[]∧s.length≤32):(joinL path [46]).length≤33 * path.length:=by
 induction path with
 | nil=>simp [joinL,List.intercalate,List.intersperse]
 | cons x r ih =>
  have h1:=(h x (by simp)).2
  have h2:=ih fun s hs=>h s (by simp [hs])
  cases r with
  | nil=>simp [joinL,List.intercalate,List.intersperse]; omega
  | cons z r =>
   have h3:joinL (x :: z :: r) [46]=x++([46]++joinL (z :: r) [46]):=by simp [joinL,List.intercalate,List.intersperse]
   rw [h3]; simp only [ZuF,ZuI,List.length_nil] at h2 ⊢; omega
def Zjm (path:List Str):Prop:=∀ s∈path,s≠[]∧s.length≤32
theorem Zoc {P:Program} {f:FuncId} {args:List D} {s s':St} {Φ:Res→St→Prop} (hs:s.sub s') (h:Yf P f args s Φ):Yf P f args s' Φ :=
 ⟨h.1,fun g w vs hst ha=>h.2 g w vs (hst.sub hs) ha⟩
theorem QB.name_ne {d:Dfn} (h:QB d) {s:Str} (hs:0≤Z6 d s d.msgs.length):s≠[]:=by
 have h1:=ZjJ hs
 have h2:=(Jh d s).2
 have h3:=h.flaw (Z6 d s d.msgs.length).toNat (by omega)
 unfold QS at h3
 split at h3
 ·simp at h3
 ·rename_i hn
  rw [h1] at hn
  exact Zle (by simpa using hn)
theorem Zjm.snoc {path:List Str} (h:Zjm path) {n:Str} (h1:n≠[]) (h2:n.length≤32):Zjm (path++[n]):=fun s hs=>by
 rcases List.mem_append.1 hs with hs | hs
 ·exact h s hs
 ·simp at hs; subst hs; exact ⟨h1,h2⟩
theorem ZgS {w r:Dfn} (hw:QB w) (hr:QB r) {x b:Nat} {T:Prs→St} (hT:CmT w r x b T) {y:D} {n:Nat} {args:Nat→List D} {go:Nat→Oc} {A:Nat→St→Prop} (hcons:Zdb Zuv y n args go A) :
  ∀ (fu:Nat) (na nb:Str) (path:List Str) (p:Prs) (j:Nat) (a0:St),Z6 w na w.msgs.length < fu→0≤Z6 w na w.msgs.length→0≤Z6 r nb r.msgs.length→Zjm path→path.length + 2 * fu≤1000→Ju w.msgs.length r.msgs.length p →
  A j a0→WX a0 (T p)→(∀ i,i < j→go i = .next)→AtL args j (YD w r fu p na nb (joinL path [46])).2→j + (YD w r fu p na nb (joinL path [46])).2.length≤n →
  Yf Zuv Zd.id [.ptr x 0,.str na,.str nb,slD 1 Q5 path,y] (a0.or (T p)) (Zok go A T (j + (YD w r fu p na nb (joinL path [46])).2.length) (YD w r fu p na nb (joinL path [46])).1):=by
 intro fu
 induction fu with
 | zero=>intro na nb path p j a0 h0 h1; omega
 | succ fu ih =>
  intro na nb path p j a0 hin hi0 hk0 hpath hpl hp hA hd hno hat hjn
  have hmw:=hw.many
  have hmr:=hr.many
  have hil:=(Jh w na).2
  have hkl:=(Jh r nb).2
  have hM:YD w r (fu + 1) p na nb (joinL path [46])=_:=YD.eq_2 _ _ _ _ _ _ _
  refine Z2 Zd.ok fun F hF=>?_
  have gx:∀ {a:St} {p:Prs},WX a (T p)→(a.or (T p)) x=some (.cells (cmC w r b)):=hT.gx
  have gb:∀ {a:St} {p:Prs},WX a (T p)→(a.or (T p)) b=some (.map (prE p)):=hT.gb
  have hfi:=ZfF w na
  have hfk:=ZfF r nb
  rw [Zoz] at hfi hfk
  generalize hgi:Z6 w na w.msgs.length=gi at *
  generalize hgk:Z6 r nb r.msgs.length=gk at *
  rw [show max gi 0=gi by omega,decide_eq_true hi0] at hfi
  rw [show max gk 0=gk by omega,decide_eq_true hk0] at hfk
  have e1:=Qo (vD:=D.bool) ZkD (gi,gk) (prM p)
  have e3:=Ja ZkD (gi,gk)
  simp only [show prK (gi,gk)=D.agg [.int .i64 gi,.int .i64 gk] from rfl] at e1 e3
  have hgm:=Zrs (gi,gk) p
  generalize YD w r (fu + 1) p na nb (joinL path [46])=M at *
  refine Za (Zb (Zc ?_))
  simp only [Eqs,reduceCtorEq,reduceIte,Zuq,Zur,Zd.r0]
  refine Zjh (Za (Zb (Zc ?_)))
  simp only [Eqs,reduceCtorEq,reduceIte,Zuq,Zur,Zus,Zd.r1,gx hd,cmC]
  rw [show (D.agg [.str w.name,We w.msgs,.str w.start]) = .agg w.cells from rfl]
  refine ZW rfl rfl rfl rfl rfl (by trivial) (by trivial) (by exact hfi) (Zc ?_)
  simp only [Eqs,reduceCtorEq,reduceIte,Zuq]
  refine Za (Zb (Zc ?_))
  simp only [Eqs,reduceCtorEq,reduceIte,Zuq,Zur,Zus,Zd.r2,gx hd,cmC]
  rw [show (D.agg [.str r.name,We r.msgs,.str r.start]) = .agg r.cells from rfl]
  refine ZW rfl rfl rfl rfl rfl (by trivial) (by trivial) (by exact hfk) (Zc ?_)
  simp only [Eqs,reduceCtorEq,reduceIte,Zuq]
  refine Za (Za (Zb (Zc ?_)))
  simp only [Eqs,reduceCtorEq,reduceIte,Zuq,Zur,Zus,Zd.r3,gx hd,gb hd,cmC,prE,e1,Zf9,hgm]
  refine Ze rfl trivial (fun h1=>?_) (fun h1=>?_)
  ·have h1':(gi,gk)∈p:=by simpa using h1
   rw [if_pos h1'] at hM
   refine Za (Zb (Zc ?_))
   simp only [Eqs,reduceCtorEq,reduceIte,Zuq,Zd.r4]
   refine hF.ret (.bool true) _ rfl (by trivial) (Zux _) (Zuw _) ?_
   rw [hM]
   exact .all a0 hno hA hd
  ·have h1':(gi,gk) ∉ p:=by simpa using h1
   rw [if_neg h1'] at hM
   have hp1:Ju w.msgs.length r.msgs.length (p++[(gi,gk)]):=by
    subst hgi; subst hgk; exact hp.snoc h1'
   have e2:=ZcB (vD:=D.bool) ZkD (gi,gk) true (prM p)
   rw [ZrL h1'] at e2
   simp only [show prK (gi,gk)=D.agg [.int .i64 gi,.int .i64 gk] from rfl] at e2
   have hgi':gi.toNat < w.msgs.length:=by omega
   have hgk':gk.toNat < r.msgs.length:=by omega
   have hmo:=hw.msg hgi'
   have hmo':=hr.msg hgk'
   have hfo:=fun i hi=>hw.fld (i:=i) hgi' hi
   have hru:=fun i hi=>hw.rule (i:=i) hgi' hi
   have hnc:=fun i hi=>hw.ncases (i:=i) hgi' hi
   have hfo':=fun i hi=>hr.fld (i:=i) hgk' hi
   have hru':=fun i hi=>hr.rule (i:=i) hgk' hi
   have hfnn:∀ i,i < (w.msgs.getD gi.toNat default).fields.length→∀ f,(w.msgs.getD gi.toNat default).fields.getD i default=f→f.name≠[]:=fun i hi f e=>by
    have:=hmo.field i hi
    rw [e] at this
    unfold Je at this
    split at this
    ·omega
    ·rename_i h; exact Zle (by simpa using h)
   generalize hm:w.msgs.getD gi.toNat default=m at *
   generalize hm':r.msgs.getD gk.toNat default=m' at *
   have hmf:=hmo.many
   have hmf':=hmo'.many
   refine Zg (Za (Zb (Zc ?_)))
   simp only [Eqs,reduceCtorEq,reduceIte,Zuq,Zur,Zus,Zd.r5,gx hd,gb hd,cmC,prE,e2]
   have hub:=hT.ub (p':=p++[(gi,gk)]) hd
   unfold prE at hub
   rw [hub]
   clear hub e1 e2 e3
   have hd:=hT.disj (p':=p++[(gi,gk)]) hd
   generalize hp1e:p++[(gi,gk)]=p1 at *
   refine Za (Wq (ZM ?_))
   simp only [Eqs,reduceCtorEq,reduceIte,Zuq,Zur,Zus,Zd.r6,gx hd,cmC,ZuG,We,slD,hm,hm']
   repeat (refine Zut (by first | omega | trivial | (intro h0; simp at h0; omega)) ?_)
   have hjl:=Zlf hpath
   refine Za (Za (Zb (Zc ?_)))
   simp only [Eqs,reduceCtorEq,reduceIte,Zuq,Zd.r7,Yo,slD]
   have hz:=@List.length_zip _ _ m.fields m'.fields
   generalize hjE:j + M.2.length=jE at *
   generalize hpE:M.1=pE at *
   have jn:∀ j1 a1,A j1 a1→WX a1 (T p1)→(∀ i,i < j1→go i = .next)→AtL args j1 (WL (YD w r fu) m (joinL path [46]) p1 ((m.fields.zip m'.fields).drop 0)).2→j1 + (WL (YD w r fu) m (joinL path [46]) p1 ((m.fields.zip m'.fields).drop 0)).2.length=jE→(WL (YD w r fu) m (joinL path [46]) p1 ((m.fields.zip m'.fields).drop 0)).1=pE→ZT F [.code (.seq (.label 0) (.seq (.seq (qR Zd.r9 [0,3,4,15,16,94,95]) (.block 0 (.loop Zd.l0))) (.seq (qR Zd.r30 [10]) .ret))),.inScope (.seq (qR Zd.r1 [0,2,3,4,11]) (.seq (qR Zd.r2 [0,3,4,11,13]) (.seq (.seq (qR Zd.r3 [0,3,4,11,13,49]) (qC 49 (.seq (qR Zd.r4 [10]) .ret) .skip)) (.seq (qR Zd.r5 [0,3,4,11,13]) (.seq (.regD [0,1,2,3,4,5,6,7,8,9,10,11,12,13,14,15,16,17,18,19] Zd.r6 (some [0,3,4,15,16])) (.seq (.seq (qR Zd.r7 [0,3,4,15,16,87]) (qC 87 (.seq (qR Zd.r8 [10]) .ret) .skip)) (.seq (.label 0) (.seq (.seq (qR Zd.r9 [0,3,4,15,16,94,95]) (.block 0 (.loop Zd.l0))) (.seq (qR Zd.r30 [10]) .ret)))))))))] [(0,.d (.ptr x 0)),(3,.d (slD 1 Q5 path)),(4,.d y),(15,.loc 15 0),(16,.loc 16 0)] [(15,m.cells),(16,m'.cells)] (a1.or (T p1)):=by
    clear hat hM hA hd hno hjE hpE
    intro j1 a1 hA hd hno hat hjE hpE
    refine Za (Zjg (Za (Za (Zb (Zc ?_)))))
    simp only [Eqs,reduceCtorEq,reduceIte,Zuq,Zd.r9,ZuG,Yo,slD]
    refine Zj (ZX ?_)
    have key:∀ (n i:Nat),((min m.fields.length m'.fields.length)) - i=n→∀ p2 j2 a2,A j2 a2→WX a2 (T p2)→Ju w.msgs.length r.msgs.length p2→(∀ i,i < j2→go i = .next)→AtL args j2 (WL (YD w r fu) m (joinL path [46]) p2 ((m.fields.zip m'.fields).drop i)).2→j2 + (WL (YD w r fu) m (joinL path [46]) p2 ((m.fields.zip m'.fields).drop i)).2.length=jE→(WL (YD w r fu) m (joinL path [46]) p2 ((m.fields.zip m'.fields).drop i)).1=pE→i≤min m.fields.length m'.fields.length→ZT F [.code (Zd.l0),.inLoop Zd.l0,.inBlock 0,.code (.seq (qR Zd.r30 [10]) .ret),.inScope (.seq (qR Zd.r1 [0,2,3,4,11]) (.seq (qR Zd.r2 [0,3,4,11,13]) (.seq (.seq (qR Zd.r3 [0,3,4,11,13,49]) (qC 49 (.seq (qR Zd.r4 [10]) .ret) .skip)) (.seq (qR Zd.r5 [0,3,4,11,13]) (.seq (.regD [0,1,2,3,4,5,6,7,8,9,10,11,12,13,14,15,16,17,18,19] Zd.r6 (some [0,3,4,15,16])) (.seq (.seq (qR Zd.r7 [0,3,4,15,16,87]) (qC 87 (.seq (qR Zd.r8 [10]) .ret) .skip)) (.seq (.label 0) (.seq (.seq (qR Zd.r9 [0,3,4,15,16,94,95]) (.block 0 (.loop Zd.l0))) (.seq (qR Zd.r30 [10]) .ret)))))))))] [(0,.d (.ptr x 0)),(3,.d (slD 1 Q5 path)),(4,.d y),(15,.loc 15 0),(16,.loc 16 0),(94,.d (.int .i64 (min (m.fields.length:Int) m'.fields.length))),(95,.d (.int .i64 i))] [(15,m.cells),(16,m'.cells)] (a2.or (T p2)):=by
     intro n
     induction n using Nat.strongRecOn with
     | ind n ih_key =>
     clear hA hd hno hat hjE hpE hp1
     intro i hni p2 j2 a2 hA hd hp2 hno hat hjE hpE hi
     refine Za (Zb (Zc ?_))
     simp only [Eqs,reduceCtorEq,reduceIte,Zuq,Zd.r10]
     refine Za (Ze rfl trivial (fun h4=>?_) (fun h4=>?_))
     ·rw [decide_eq_true_eq] at h4
      have h4:i < m.fields.length∧i < m'.fields.length:=by omega
      have hzl:i < (m.fields.zip m'.fields).length:=by rw [hz]; omega
      rw [Qf hzl,Zm8 h4.1 h4.2] at hat hjE hpE
      simp only [WL,Zch] at hat hjE hpE
      have hff:=hfo i h4.1
      have hrf:=hru i h4.1
      have hncf:=hnc i h4.1
      have hfg:=hfo' i h4.2
      have hrg:=hru' i h4.2
      generalize hf:m.fields.getD i default=f at *
      generalize hg:m'.fields.getD i default=g at *
      refine Zg (Za (Zj (Za (Zb (Zc ?_)))))
      simp only [Eqs,reduceCtorEq,reduceIte,Zuq,Zd.r11]
      refine Za (WB (Wj ?_))
      simp only [Eqs,reduceCtorEq,reduceIte,Zuq,Zur,Zus,Zd.r12,ZuG,ZuD,Yo,slD,hf,hg]
      repeat (refine Zut (by first | omega | trivial | (intro h0; simp at h0; omega)) ?_)
      have hfn:=hff.name
      have hnn:f.name≠[]:=hfnn i h4.1 f hf
      have hW:=Zba.eq_1 (YD w r fu) m (joinL path [46]) p2 f g
      rw [← ZjV path f.name (fun s hs=>(hpath s hs).1)] at hW
      have hpath2:=hpath.snoc hnn hfn
      generalize Zba (YD w r fu) m (joinL path [46]) p2 f g=W at *
      refine Za (WB (Wj ?_))
      simp only [Eqs,reduceCtorEq,reduceIte,Zuq,Zd.r13]
      refine ⟨by omega,by omega,by omega,?_⟩
      refine Zp3 ((a2.or (T p2))) (.full) rfl rfl rfl rfl rfl rfl (by trivial) (by trivial) rfl (by first | trivial | assumption) (by omega) (by (unfold big; omega)) fun t1 ht1=>Wj ?_
      simp only [Eqs,reduceCtorEq,reduceIte,Zuq]
      refine Za (Za ?_)
      refine Ku (s':=(a2.or (T p2))) (by first | exact Zuw _ | exact Zl (by first | trivial | assumption) | exact ZuK (Zl (by first | trivial | assumption)) (Zl (by first | trivial | assumption)) | assumption) (Qz (ρ':=[(0,.d (.ptr x 0)),(3,.d (slD 1 Q5 path)),(4,.d y),(15,.loc 15 0),(16,.loc 16 0),(18,.loc 18 0),(19,.d (slD 1 Q5 (path++[f.name]))),(94,.d (.int .i64 (min (m.fields.length:Int) m'.fields.length))),(95,.d (.int .i64 i))]) (L':=[(15,m.cells),(16,m'.cells),(18,Qk m f g)]) ?_ ?_ ?_)
      ·exact .skip (.skip (.skip (.skip (.skip (.skip (.cons (.d (YE.le ((YE.self (f:=Q5) (l:=path)).snoc (x:=f.name) rfl rfl) (by simp))) (.skip (.skip .nil))))))))
      ·exact Q9 _
      clear ht1
      have hatl:(path++[f.name]).length=path.length + 1:=by simp
      generalize path++[f.name]=at_ at *
      have hjat:=Zlf hpath2
      refine Zb (Zc ?_)
      simp only [Eqs,Zd.r14]
      refine ZW rfl rfl rfl rfl rfl (by trivial) (by trivial) (by exact Zjy) (Zc ?_)
      simp only [Eqs,reduceCtorEq,reduceIte,Zuq,Zkf,slD]
      refine Zj (ZX ?_)
      have key2:∀ (n q:Nat),(9) - q=n→(∀ i,i < q→ZaU m f g i=true)→q≤9→ZT F [.code (Zd.l1),.inLoop Zd.l1,.inBlock 2,.code (.seq (.seq (qR Zd.r21 [0,3,4,15,16,18,19,94,95,154]) (qC 154 (.seq (qR Zd.r22 [10]) .ret) .skip)) (.seq (qR Zd.r23 [0,3,4,15,16,19,94,95,157,158,159]) (.block 4 (.loop Zd.l2)))),.inBlock 1,.code (qR Zd.r29 [0,3,4,15,16,94,95]),.inLoop Zd.l0,.inBlock 0,.code (.seq (qR Zd.r30 [10]) .ret),.inScope (.seq (qR Zd.r1 [0,2,3,4,11]) (.seq (qR Zd.r2 [0,3,4,11,13]) (.seq (.seq (qR Zd.r3 [0,3,4,11,13,49]) (qC 49 (.seq (qR Zd.r4 [10]) .ret) .skip)) (.seq (qR Zd.r5 [0,3,4,11,13]) (.seq (.regD [0,1,2,3,4,5,6,7,8,9,10,11,12,13,14,15,16,17,18,19] Zd.r6 (some [0,3,4,15,16])) (.seq (.seq (qR Zd.r7 [0,3,4,15,16,87]) (qC 87 (.seq (qR Zd.r8 [10]) .ret) .skip)) (.seq (.label 0) (.seq (.seq (qR Zd.r9 [0,3,4,15,16,94,95]) (.block 0 (.loop Zd.l0))) (.seq (qR Zd.r30 [10]) .ret)))))))))] [(0,.d (.ptr x 0)),(3,.d (slD 1 Q5 path)),(4,.d y),(15,.loc 15 0),(16,.loc 16 0),(18,.loc 18 0),(19,.d (slD 1 Q5 at_)),(94,.d (.int .i64 (min (m.fields.length:Int) m'.fields.length))),(95,.d (.int .i64 i)),(121,.d Zkf),(122,.d (.int .i64 9)),(123,.d (.int .i64 q))] [(15,m.cells),(16,m'.cells),(18,Qk m f g)] (a2.or (T p2)):=by
       intro n
       induction n using Nat.strongRecOn with
       | ind n ih_key2 =>
       intro q hnq hq hql
       refine Za (Zb (Zc ?_))
       simp only [Eqs,reduceCtorEq,reduceIte,Zuq,Zd.r15]
       refine Za (Ze rfl trivial (fun h5=>?_) (fun h5=>?_))
       ·rw [decide_eq_true_eq] at h5
        have h5:q < 9:=by omega
        have hrow:(fun i=>ZoM (Zb9.getD i default)) q=[.int .i64 (Zb9.getD q default).1,.fn (.func (Zb9.getD q default).2) [] []]:=rfl
        have hlen9:Zb9.length=9:=rfl
        have hcode:(Zb9.getD q default).1=3 + q:=by
         match q,h5 with
         | 0,_ | 1,_ | 2,_ | 3,_ | 4,_ | 5,_ | 6,_ | 7,_ | 8,_=>rfl
         | n + 9,h=>omega
        have hvt:=ZrK m f g hrg.srt hrf.le q h5 (a2.or (T p2))
        refine Zg (Za (Zj (Za (Zb (Zc ?_)))))
        simp only [Eqs,reduceCtorEq,reduceIte,Zuq,Zur,Zus,Zd.r16,Zkf,slD,hlen9,ZoM]
        refine ⟨by omega,?_⟩
        refine ⟨by exact_mod_cast h5,?_⟩
        generalize (Zb9.getD q default).1=code at *
        generalize (Zb9.getD q default).2=fid at *
        refine Za (Za (Zb (Zc ?_)))
        simp only [Eqs,reduceCtorEq,reduceIte,Zuq,Zur,Zus,Zd.r17,Qk,ZuG,ZuD]
        rw [Zm5]
        refine ZbP rfl rfl rfl rfl rfl (by trivial) (by trivial) (by exact hvt) (Zc ?_)
        simp only [Eqs,reduceCtorEq,reduceIte,Zuq]
        refine Ze rfl trivial (fun h6=>?_) (fun h6=>?_)
        ·refine ZQ rfl (Zb (Zc ?_))
         simp only [Eqs,reduceCtorEq,reduceIte,Zuq,Zd.r20]
         repeat (refine Zut (by first | omega | trivial | (intro h0; simp at h0; omega)) ?_)
         refine Zy ?_
         exact ih_key2 ((9) - (q + 1)) (by omega) (q + 1) rfl (K4 (q:=fun i=>ZaU m f g i=true) hq h6) (by omega)
        ·have hdf:=Zpq hrf.high hrg.high h5 hq h6
         rw [if_pos (by omega),hdf] at hW
         rw [hW] at hat hjE hpE
         subst hcode
         simp only [List.cons_append,List.nil_append,ZuI] at hat hjE hpE
         have hcall:=(hcons j2 (by omega) hno a2 hA).frame hd
         rw [hat.head] at hcall
         refine Zg (Za (Za (Wq (ZM ?_))))
         simp only [Eqs,reduceCtorEq,reduceIte,Zuq,Zd.r18]
         refine Kd rfl rfl rfl rfl rfl (by trivial) (by trivial) (by exact Ze8 at_ (by omega) (by omega)) (ZM ?_)
         simp only [Eqs,reduceCtorEq,reduceIte,Zuq,Zur,Zus]
         refine ZeV rfl rfl rfl rfl rfl (by trivial) (by trivial) (by exact hcall) ?_ ?_
         ·rintro dv S ⟨s',⟨hrr,hA'⟩,hd',rfl⟩
          cases hgo:go j2 with
          | next =>
           rw [hgo] at hrr
           cases hrr
           refine ⟨by trivial,?_⟩
           refine ZM ?_
           simp only [Eqs,reduceCtorEq,reduceIte,Zuq]
           refine Ze rfl trivial (fun h=>by simp at h) (fun _=>?_)
           refine Zg (ZQ rfl (Zb (Zc ?_)))
           simp only [Eqs,reduceCtorEq,reduceIte,Zuq,Zd.r29]
           repeat (refine Zut (by first | omega | trivial | (intro h0; simp at h0; omega)) ?_)
           refine Zy ?_
           exact ih_key (((min m.fields.length m'.fields.length)) - (i + 1)) (by omega) (i + 1) rfl p2 (j2 + 1) s' hA' hd' hp2 (K4 (q:=fun i=>go i = .next) hno hgo) hat.tail (by omega) hpE (by omega)
          | stop c =>
           rw [hgo] at hrr
           cases hrr
           refine ⟨by trivial,?_⟩
           refine ZM ?_
           simp only [Eqs,reduceCtorEq,reduceIte,Zuq]
           refine Ze rfl trivial (fun _=>?_) (fun h=>by simp at h)
           refine Za (Zb (Zc ?_))
           simp only [Eqs,reduceCtorEq,reduceIte,Zuq,Zd.r19]
           exact hF.ret (.bool false) _ rfl (by trivial) (Zux _) (Zuw _) (.stop j2 c s' _ (by omega) hno hgo hA' (Jf _ _))
          | pan d=>rw [hgo] at hrr; cases hrr
         ·rintro dv S ⟨s',⟨hrr,hA'⟩,hd',rfl⟩
          cases hgo:go j2 with
          | pan d' =>
           rw [hgo] at hrr
           cases hrr
           exact hF.pan _ (Zuw _) (.pan j2 dv s' _ (by omega) hno hgo hA' (Jf _ _))
          | next=>rw [hgo] at hrr; cases hrr
          | stop c=>rw [hgo] at hrr; cases hrr
       ·rw [decide_eq_false_iff_not] at h5
        obtain rfl:q=9:=by omega
        have hdf:=Znh hrf.high hrg.high hq
        have hdo:=ZjC hdf
        rw [if_neg (by omega)] at hW
        refine ZQ rfl (Za (Za (Zb (Zc ?_))))
        simp only [Eqs,reduceCtorEq,reduceIte,Zuq,Zur,Zus,Zd.r21,Qk,ZuG,ZuD]
        rw [Zm5]
        refine Wn rfl rfl rfl rfl rfl (by trivial) (by trivial) (by exact Zda m f g _) (Zc ?_)
        simp only [Eqs,reduceCtorEq,reduceIte,Zuq,Zur]
        have jn2:∀ p3 j3 a3,A j3 a3→WX a3 (T p3)→Ju w.msgs.length r.msgs.length p3→(∀ i,i < j3→go i = .next)→AtL args j3 ((KB (YD w r fu) (joinL at_ [46]) p3 f.cases).2++(WL (YD w r fu) m (joinL path [46]) (KB (YD w r fu) (joinL at_ [46]) p3 f.cases).1 (List.drop (i + 1) (m.fields.zip m'.fields))).2)→j3 + ((KB (YD w r fu) (joinL at_ [46]) p3 f.cases).2++(WL (YD w r fu) m (joinL path [46]) (KB (YD w r fu) (joinL at_ [46]) p3 f.cases).1 (List.drop (i + 1) (m.fields.zip m'.fields))).2).length=jE→(WL (YD w r fu) m (joinL path [46]) (KB (YD w r fu) (joinL at_ [46]) p3 f.cases).1 (List.drop (i + 1) (m.fields.zip m'.fields))).1=pE→ZT F [.code (.seq (qR Zd.r23 [0,3,4,15,16,19,94,95,157,158,159]) (.block 4 (.loop Zd.l2))),.inBlock 1,.code (qR Zd.r29 [0,3,4,15,16,94,95]),.inLoop Zd.l0,.inBlock 0,.code (.seq (qR Zd.r30 [10]) .ret),.inScope (.seq (qR Zd.r1 [0,2,3,4,11]) (.seq (qR Zd.r2 [0,3,4,11,13]) (.seq (.seq (qR Zd.r3 [0,3,4,11,13,49]) (qC 49 (.seq (qR Zd.r4 [10]) .ret) .skip)) (.seq (qR Zd.r5 [0,3,4,11,13]) (.seq (.regD [0,1,2,3,4,5,6,7,8,9,10,11,12,13,14,15,16,17,18,19] Zd.r6 (some [0,3,4,15,16])) (.seq (.seq (qR Zd.r7 [0,3,4,15,16,87]) (qC 87 (.seq (qR Zd.r8 [10]) .ret) .skip)) (.seq (.label 0) (.seq (.seq (qR Zd.r9 [0,3,4,15,16,94,95]) (.block 0 (.loop Zd.l0))) (.seq (qR Zd.r30 [10]) .ret)))))))))] [(0,.d (.ptr x 0)),(3,.d (slD 1 Q5 path)),(4,.d y),(15,.loc 15 0),(16,.loc 16 0),(18,.loc 18 0),(19,.d (slD 1 Q5 at_)),(94,.d (.int .i64 (min (m.fields.length:Int) m'.fields.length))),(95,.d (.int .i64 i))] [(15,m.cells),(16,m'.cells),(18,Qk m f g)] (a3.or (T p3)):=by
         clear hA hd hp2 hno hat hjE hpE hW
         clear hdf hq
         intro p3 j3 a3 hA hd hp3 hno hat hjE hpE
         refine Za (Zb (Zc ?_))
         simp only [Eqs,reduceCtorEq,reduceIte,Zuq,Zur,Zd.r23,Qk,ZuG,ZuD,W0,slD]
         refine Ku (s':=(a3.or (T p3))) (by first | exact Zuw _ | exact Zl (by first | trivial | assumption) | exact ZuK (Zl (by first | trivial | assumption)) (Zl (by first | trivial | assumption)) | assumption) (Qz (ρ':=[(0,.d (.ptr x 0)),(3,.d (slD 1 Q5 path)),(4,.d y),(15,.loc 15 0),(16,.loc 16 0),(19,.d (slD 1 Q5 at_)),(94,.d (.int .i64 (min (m.fields.length:Int) m'.fields.length))),(95,.d (.int .i64 i)),(157,.d (W0 f.cases)),(158,.d (.int .i64 f.cases.length)),(159,.d (.int .i64 (0:Nat)))]) (L':=[(15,m.cells),(16,m'.cells)]) ?_ ?_ ?_)
         ·exact Zai _
         ·exact Q9 _
         refine Zj (ZX ?_)
         have key3:∀ (n q:Nat),(f.cases.length) - q=n→∀ p4 j4 a4,A j4 a4→WX a4 (T p4)→Ju w.msgs.length r.msgs.length p4→(∀ i,i < j4→go i = .next)→AtL args j4 ((KB (YD w r fu) (joinL at_ [46]) p4 (f.cases.drop q)).2++(WL (YD w r fu) m (joinL path [46]) (KB (YD w r fu) (joinL at_ [46]) p4 (f.cases.drop q)).1 (List.drop (i + 1) (m.fields.zip m'.fields))).2)→j4 + ((KB (YD w r fu) (joinL at_ [46]) p4 (f.cases.drop q)).2++(WL (YD w r fu) m (joinL path [46]) (KB (YD w r fu) (joinL at_ [46]) p4 (f.cases.drop q)).1 (List.drop (i + 1) (m.fields.zip m'.fields))).2).length=jE→(WL (YD w r fu) m (joinL path [46]) (KB (YD w r fu) (joinL at_ [46]) p4 (f.cases.drop q)).1 (List.drop (i + 1) (m.fields.zip m'.fields))).1=pE→q≤f.cases.length→ZT F [.code (Zd.l2),.inLoop Zd.l2,.inBlock 4,.inBlock 1,.code (qR Zd.r29 [0,3,4,15,16,94,95]),.inLoop Zd.l0,.inBlock 0,.code (.seq (qR Zd.r30 [10]) .ret),.inScope (.seq (qR Zd.r1 [0,2,3,4,11]) (.seq (qR Zd.r2 [0,3,4,11,13]) (.seq (.seq (qR Zd.r3 [0,3,4,11,13,49]) (qC 49 (.seq (qR Zd.r4 [10]) .ret) .skip)) (.seq (qR Zd.r5 [0,3,4,11,13]) (.seq (.regD [0,1,2,3,4,5,6,7,8,9,10,11,12,13,14,15,16,17,18,19] Zd.r6 (some [0,3,4,15,16])) (.seq (.seq (qR Zd.r7 [0,3,4,15,16,87]) (qC 87 (.seq (qR Zd.r8 [10]) .ret) .skip)) (.seq (.label 0) (.seq (.seq (qR Zd.r9 [0,3,4,15,16,94,95]) (.block 0 (.loop Zd.l0))) (.seq (qR Zd.r30 [10]) .ret)))))))))] [(0,.d (.ptr x 0)),(3,.d (slD 1 Q5 path)),(4,.d y),(15,.loc 15 0),(16,.loc 16 0),(19,.d (slD 1 Q5 at_)),(94,.d (.int .i64 (min (m.fields.length:Int) m'.fields.length))),(95,.d (.int .i64 i)),(157,.d (W0 f.cases)),(158,.d (.int .i64 f.cases.length)),(159,.d (.int .i64 q))] [(15,m.cells),(16,m'.cells)] (a4.or (T p4)):=by
          intro n
          induction n using Nat.strongRecOn with
          | ind n ih_key3 =>
          clear hA hd hp3 hno hat hjE hpE
          intro q hnq p4 j4 a4 hA hd hp4 hno hat hjE hpE hq
          refine Za (Zb (Zc ?_))
          simp only [Eqs,reduceCtorEq,reduceIte,Zuq,Zd.r24]
          refine Za (Ze rfl trivial (fun h7=>?_) (fun h7=>?_))
          ·rw [decide_eq_true_eq] at h7
           have h7:q < f.cases.length:=by omega
           rw [Qf h7] at hat hjE hpE
           simp only [KB,Zch] at hat hjE hpE
           have hcm:=Ki h7
           have hk9:=hff.cases (by intro e; rw [e] at h7; simp at h7)
           generalize hcs:f.cases.getD q default=cs at *
           obtain ⟨yc,hyc,hye⟩:=Zis (hdo.2.2 cs hcm)
           have hz1:=hff.ref cs.of (ZfU hk9 hcm)
           have hz2:=hfg.ref cs.of (by rw [← hye]; exact ZfU (hdo.1 ▸ hk9) hyc)
           have hol:=hw.name_len hz1.1
           have hon:=hw.name_ne hz1.1
           have hadd:=Zb3 hw.fields fu p4 cs.of cs.of (J6 (joinL at_ [46]) cs.of) hp4
           have hpath3:=hpath2.snoc hon hol
           rw [← ZjV at_ cs.of (fun s hs=>(hpath2 s hs).1)] at hat hjE hpE hadd
           rw [List.append_assoc] at hat hjE
           have hrec:=ih cs.of cs.of (at_++[cs.of]) p4 j4 a4 (by omega) hz1.1 hz2.1 hpath3 (by simp; omega) hp4 hA hd hno hat.left (by simp only [ZuF] at hjE; omega)
           generalize hY:YD w r fu p4 cs.of cs.of (joinL (at_++[cs.of]) [46])=Y at *
           refine Zg (Za (Zj (Za (Zb (Zc ?_)))))
           simp only [Eqs,reduceCtorEq,reduceIte,Zuq,Zur,Zus,Zd.r25,W0,slD,WK.cells,hcs]
           repeat (refine Zut (by first | omega | trivial | (intro h0; simp at h0; omega)) ?_)
           refine Za (Wq (ZM ?_))
           simp only [Eqs,reduceCtorEq,reduceIte,Zuq,Zd.r26]
           refine ⟨by omega,by omega,by omega,?_⟩
           refine ZhF ((a4.or (T p4))) (.full) rfl rfl rfl rfl rfl rfl (by trivial) (by trivial) rfl (by first | trivial | assumption) (by omega) (by (unfold big; omega)) fun t1 ht1=>⟨by first | trivial | exact ⟨rfl,trivial⟩ | simp [Eqs,reduceCtorEq,Int.reduceToNat,reduceIte,Zuq,Zur,Zus],ZM ?_⟩
           simp only [Eqs]
           refine Zah rfl rfl rfl rfl rfl (by trivial) (by trivial) (by exact (Zoc (Zl ht1) (Yf.leA (.cons (Zux _) (.cons (Zux _) (.cons (Zux _) (.cons (YE.le ((YE.self (f:=Q5) (l:=at_)).snoc (x:=cs.of) rfl rfl) (by simp)) (.cons (Zux _) .nil))))) hrec))) ?_ ?_
           ·rintro dv S h
            cases h with
            | all a' hno' hA' hd' =>
             refine ⟨by trivial,?_⟩
             refine ZM ?_
             simp only [Eqs,reduceCtorEq,reduceIte,Zuq]
             refine Ze rfl trivial (fun h=>by simp at h) (fun _=>?_)
             refine Zg (Zm (Zb (Zc ?_)))
             simp only [Eqs,reduceCtorEq,reduceIte,Zuq,Zd.r28]
             repeat (refine Zut (by first | omega | trivial | (intro h0; simp at h0; omega)) ?_)
             refine Zy ?_
             exact ih_key3 ((f.cases.length) - (q + 1)) (by omega) (q + 1) rfl Y.1 (j4 + Y.2.length) a' hA' hd' hadd.ok hno' hat.right (by rw [ZuF] at hjE; omega) hpE (by omega)
            | stop mm c a' _ hm hno' hc ha hs =>
             refine ⟨by trivial,?_⟩
             refine ZM ?_
             simp only [Eqs,reduceCtorEq,reduceIte,Zuq]
             refine Ze rfl trivial (fun _=>?_) (fun h=>by simp at h)
             refine Za (Zb (Zc ?_))
             simp only [Eqs,reduceCtorEq,reduceIte,Zuq,Zd.r27]
             exact hF.ret (.bool false) _ rfl (by trivial) (Zux _) (Zuw _) (.stop mm c a' _ (by rw [ZuF] at hjE; omega) hno' hc ha hs)
           ·rintro dv S h
            cases h with
            | pan mm _ a' _ hm hno' hc ha hs =>
             exact hF.pan _ (Zuw _) (.pan mm dv a' _ (by rw [ZuF] at hjE; omega) hno' hc ha hs)
          ·rw [decide_eq_false_iff_not] at h7
           obtain rfl:q=f.cases.length:=by omega
           rw [List.drop_length] at hat hjE hpE
           simp only [KB,List.nil_append] at hat hjE hpE
           refine ZQ rfl (Zm (Zb (Zc ?_)))
           simp only [Eqs,reduceCtorEq,reduceIte,Zuq,Zd.r29]
           repeat (refine Zut (by first | omega | trivial | (intro h0; simp at h0; omega)) ?_)
           refine Zy ?_
           exact ih_key (((min m.fields.length m'.fields.length)) - (i + 1)) (by omega) (i + 1) rfl p4 j4 a4 hA hd hp4 hno hat hjE hpE (by omega)
         exact key3 _ 0 rfl p3 j3 a3 hA hd hp3 hno hat hjE hpE (by omega)
        rw [← ZiW] at hW
        by_cases hin:Jx m f=true
        ·have hinS:ZaX m f=true:=by rw [← ZiW]; exact hin
         have hz1:=hff.ref f.of (Zlc hinS)
         have hz2:=hfg.ref g.of (ZjS hinS hdo.1)
         rw [if_pos hin] at hW
         have hadd:=Zb3 hw.fields fu p2 f.of g.of (joinL at_ [46]) hp2
         have hW1:W.1=(KB (YD w r fu) (joinL at_ [46]) (YD w r fu p2 f.of g.of (joinL at_ [46])).1 f.cases).1:=by rw [hW]; rfl
         have hW2:W.2=(YD w r fu p2 f.of g.of (joinL at_ [46])).2++(KB (YD w r fu) (joinL at_ [46]) (YD w r fu p2 f.of g.of (joinL at_ [46])).1 f.cases).2:=by rw [hW]; rfl
         rw [hW1,hW2,List.append_assoc] at hat hjE
         rw [hW1] at hpE
         have hrec:=ih f.of g.of at_ p2 j2 a2 (by omega) hz1.1 hz2.1 hpath2 (by omega) hp2 hA hd hno hat.left (by simp only [ZuF] at hjE; omega)
         generalize hY:YD w r fu p2 f.of g.of (joinL at_ [46])=Y at *
         simp only [hin]
         refine Yn rfl rfl rfl rfl rfl (by trivial) (by trivial) (by exact hrec) ?_ ?_
         ·rintro dv S h
          cases h with
          | all a' hno' hA' hd' =>
           refine Zc ?_
           simp only [Eqs,reduceCtorEq,reduceIte,Zuq]
           refine Ze rfl trivial (fun h=>by simp at h) (fun _=>?_)
           refine Zg ?_
           refine JP [0,3,4,15,16,18,19,94,95] ?_
           simp only [Eqs,reduceCtorEq,reduceIte,Zuq]
           exact jn2 Y.1 (j2 + Y.2.length) a' hA' hd' hadd.ok hno' hat.right (by rw [ZuF] at hjE; omega) hpE
          | stop mm c a' _ hm hno' hc ha hs =>
           refine Zc ?_
           simp only [Eqs,reduceCtorEq,reduceIte,Zuq]
           refine Ze rfl trivial (fun _=>?_) (fun h=>by simp at h)
           refine Za (Zb (Zc ?_))
           simp only [Eqs,reduceCtorEq,reduceIte,Zuq,Zd.r22]
           exact hF.ret (.bool false) _ rfl (by trivial) (Zux _) (Zuw _) (.stop mm c a' _ (by rw [ZuF] at hjE; omega) hno' hc ha hs)
         ·rintro dv S h
          cases h with
          | pan mm _ a' _ hm hno' hc ha hs =>
           exact hF.pan _ (Zuw _) (.pan mm dv a' _ (by rw [ZuF] at hjE; omega) hno' hc ha hs)
        ·have hin2:Jx m f=false:=by simpa using hin
         rw [if_neg hin] at hW
         have hW1:W.1=(KB (YD w r fu) (joinL at_ [46]) p2 f.cases).1:=by rw [hW]; rfl
         have hW2:W.2=(KB (YD w r fu) (joinL at_ [46]) p2 f.cases).2:=by rw [hW]; rfl
         rw [hW1,hW2] at hat hjE
         rw [hW1] at hpE
         simp only [hin2]
         refine Zbl rfl (e:=.d (.bool false)) (Zc ?_)
         simp only [Eqs,reduceCtorEq,reduceIte,Zuq]
         refine Ze rfl trivial (fun h=>by simp at h) (fun _=>?_)
         refine Zg ?_
         refine JP [0,3,4,15,16,18,19,94,95] ?_
         simp only [Eqs,reduceCtorEq,reduceIte,Zuq]
         exact jn2 p2 j2 a2 hA hd hp2 hno hat hjE hpE
      exact key2 _ 0 rfl (by intro i hi; omega) (by omega)
     ·rw [decide_eq_false_iff_not] at h4
      have hz2:(m.fields.zip m'.fields).drop i=[]:=List.drop_eq_nil_of_le (by rw [hz]; omega)
      rw [hz2] at hat hjE hpE
      simp only [WL,List.length_nil,Nat.add_zero] at hjE hpE
      subst hjE
      subst hpE
      refine ZQ rfl (Za (Zb (Zc ?_)))
      simp only [Eqs,reduceCtorEq,reduceIte,Zuq,Zd.r30]
      exact hF.ret (.bool true) _ rfl (by trivial) (Zux _) (Zuw _) (.all a2 hno hA hd)
    exact key _ 0 rfl p1 j1 a1 hA hd hp1 hno hat hjE hpE (by omega)
   by_cases hne:m.fields.length=m'.fields.length
   ·have hgd:(!decide ((m.fields.length:Int)=m'.fields.length))=false:=by simp [hne]
    rw [if_neg (by simp [hne])] at hM
    simp only [hgd]
    refine Zbl rfl (e:=.d (.str [])) (Zc ?_)
    simp only [Eqs,reduceCtorEq,reduceIte,Zuq,Zur,Zus]
    refine Zbl rfl (e:=.d (.bool false)) (Zc ?_)
    simp only [Eqs,reduceCtorEq,reduceIte,Zuq]
    refine Ze rfl trivial (fun h=>by simp at h) (fun _=>?_)
    refine Zg ?_
    refine JP [0,3,4,15,16] ?_
    simp only [Eqs,reduceCtorEq,reduceIte,Zuq]
    have h2:M.2=(WL (YD w r fu) m (joinL path [46]) p1 ((m.fields.zip m'.fields).drop 0)).2:=by rw [hM]; rfl
    have h1:M.1=(WL (YD w r fu) m (joinL path [46]) p1 ((m.fields.zip m'.fields).drop 0)).1:=by rw [hM]; rfl
    exact jn j a0 hA hd hno (by rw [← h2]; exact hat) (by rw [← h2]; exact hjE) (by rw [← h1]; exact hpE)
   ·have hgd:(!decide ((m.fields.length:Int)=m'.fields.length))=true:=by simp; omega
    rw [if_pos hne] at hM
    simp only [hgd]
    have h2:M.2=⟨joinL path [46],2⟩ :: (WL (YD w r fu) m (joinL path [46]) p1 ((m.fields.zip m'.fields).drop 0)).2:=by rw [hM]; rfl
    have h1:M.1=(WL (YD w r fu) m (joinL path [46]) p1 ((m.fields.zip m'.fields).drop 0)).1:=by rw [hM]; rfl
    rw [h2] at hat hjE
    rw [ZuI] at hjE
    rw [h1] at hpE
    have hcall:=(hcons j (by omega) hno a0 hA).frame hd
    rw [hat.head] at hcall
    refine ZW rfl rfl rfl rfl rfl (by trivial) (by trivial) (by exact Ze8 path (by omega) (by omega)) (Zc ?_)
    simp only [Eqs,reduceCtorEq,reduceIte,Zuq,Zur,Zus]
    refine ZbA rfl rfl rfl rfl rfl (by trivial) (by trivial) (by exact hcall) ?_ ?_
    ·rintro d S ⟨s',⟨hrr,hA'⟩,hd',rfl⟩
     cases hgo:go j with
     | next =>
      rw [hgo] at hrr
      cases hrr
      refine Zc ?_
      simp only [Eqs,reduceCtorEq,reduceIte,Zuq]
      refine Ze rfl trivial (fun h=>by simp at h) (fun _=>?_)
      refine Zg ?_
      refine JP [0,3,4,15,16] ?_
      simp only [Eqs,reduceCtorEq,reduceIte,Zuq]
      exact jn (j + 1) s' hA' hd' (K4 (q:=fun i=>go i = .next) hno hgo) hat.tail (by omega) hpE
     | stop c =>
      rw [hgo] at hrr
      cases hrr
      refine Zc ?_
      simp only [Eqs,reduceCtorEq,reduceIte,Zuq]
      refine Ze rfl trivial (fun _=>?_) (fun h=>by simp at h)
      refine Za (Zb (Zc ?_))
      simp only [Eqs,reduceCtorEq,reduceIte,Zuq,Zd.r8]
      exact hF.ret (.bool false) _ rfl (by trivial) (Zux _) (Zuw _) (.stop j c s' _ (by omega) hno hgo hA' (Jf _ _))
     | pan d=>rw [hgo] at hrr; cases hrr
    ·rintro d S ⟨s',⟨hrr,hA'⟩,hd',rfl⟩
     cases hgo:go j with
     | pan d' =>
      rw [hgo] at hrr
      cases hrr
      exact hF.pan _ (Zuw _) (.pan j d s' _ (by omega) hno hgo hA' (Jf _ _))
     | next=>rw [hgo] at hrr; cases hrr
     | stop c=>rw [hgo] at hrr; cases hrr
end Go.DL
namespace Go.DL
open Go Go.Proofs
def ZbE (w r:Dfn) (z2 z3:Nat):St:=(ZuN z2 (.cells w.cells)).or (ZuN z3 (.cells r.cells))
theorem Zpb {w r:Dfn} {z2 z3:Nat}:(ZbE w r z2 z3) z2=some (.cells w.cells):=Yv (Qh _ _)
theorem Zpc {w r:Dfn} {z2 z3:Nat} (h:z3≠z2):(ZbE w r z2 z3) z3=some (.cells r.cells):=by
 unfold ZbE; rw [YR (ZaN _ h)]; exact Qh _ _
theorem Zmr {st:St} {w r:Dfn} {z2 z3:Nat} (h2:st z2=none) (h3:st z3=none):WX st (ZbE w r z2 z3):=fun b o hb=>by
 unfold ZbE at hb
 cases h:(ZuN z2 (.cells w.cells)) b with
 | some x=>exact J9 h2 _ _ h
 | none=>rw [YR h] at hb; exact J9 h3 _ _ hb
theorem ZqY {st:St} {w r:Dfn} {z2 z3:Nat} (h2:st z2=none) (h3:(st.upd z2 (.cells w.cells)) z3=none):(st.upd z2 (.cells w.cells)).upd z3 (.cells r.cells)=st.or (ZbE w r z2 z3):=by
 rw [J2 h3,J2 h2,or_assoc]; rfl
theorem Zcw (w r:Dfn) (st:St):Yf Zuv Wv.id [.agg w.cells,.agg r.cells] st fun q S=>∃ z2 z3,st z2=none∧st z3=none∧z3≠z2∧q = .ret (.fn (.func 30) [] [.ptr z2 0,.ptr z3 0])∧S=st.or (ZbE w r z2 z3):=by
 refine Z2 Wv.ok fun F hF=>?_
 refine Za (Zb (Zc ?_))
 simp only [Eqs,reduceCtorEq,reduceIte,Zuq,Zur,Wv.r0,ZuM]
 refine Za ?_
 refine YJ 2 rfl fun z2 h2=>?_
 simp only [reduceIte,Zuq,YU,WM,delL]
 refine YJ 3 rfl fun z3 h3=>?_
 simp only [reduceIte,YU,WM,delL]
 refine Zb (Zc ?_)
 simp only [Eqs,reduceIte,Zuq,Wv.r1]
 have h3a:=Wp h3
 refine hF.ret _ _ rfl (by trivial) (Zux _) (Zuw _) ⟨z2,z3,h2,h3a.2,h3a.1,rfl,?_⟩
 exact ZqY (w:=w) (r:=r) h2 h3
def ZfW (w r:Dfn) (x b:Nat) (p:Prs):St:=(ZuN x (.cells (cmC w r b))).or (ZuN b (.map (prE p)))
theorem Zjw {w r:Dfn} {x b:Nat} (p:Prs):ZfW w r x b p x=some (.cells (cmC w r b)):=Yv (Qh _ _)
theorem Zmi {w r:Dfn} {x b:Nat} (h:b≠x) (p:Prs):ZfW w r x b p b=some (.map (prE p)):=by
 unfold ZfW; rw [YR (ZaN _ h)]; exact Qh _ _
theorem ZhK {w r:Dfn} {x b c:Nat} (h1:c≠x) (h2:c≠b) (p:Prs):ZfW w r x b p c=none:=by
 unfold ZfW; rw [YR (ZaN _ h1)]; exact ZaN _ h2
theorem Zrn {w r:Dfn} {x b:Nat} (h:b≠x):CmT w r x b (ZfW w r x b):={
 cx:=Zjw
 cb:=Zmi h
 u p p':=by
  funext c
  by_cases hb:c=b
  ·subst hb; rw [ZuB,Zmi h]
  ·rw [ZuE _ _ hb]
   by_cases hx:c=x
   ·subst hx; rw [Zjw,Zjw]
   ·rw [ZhK hx hb,ZhK hx hb]
 d p p' c hc:=by
  by_cases hb:c=b
  ·subst hb; rw [Zmi h] at hc; simp at hc
  ·by_cases hx:c=x
   ·subst hx; rw [Zjw] at hc; simp at hc
   ·exact ZhK hx hb _ }
theorem Zpl {w r:Dfn} {x b:Nat} {s:St} (hx:s x=none) (hb:s b=none) (p:Prs):WX s (ZfW w r x b p):=fun c o hc=>by
 by_cases h1:c=x
 ·rw [h1]; exact hx
 ·by_cases h2:c=b
  ·rw [h2]; exact hb
  ·rw [ZhK h1 h2] at hc; simp at hc
theorem Zdb.frame {P:Program} {y:D} {n:Nat} {args:Nat→List D} {go:Nat→Oc} {A:Nat→St→Prop} {t:St} (h:Zdb P y n args go A):Zdb P y n args go (fun j S=>∃ a,A j a∧WX a t∧S=a.or t):=by
 rintro j hj hno S ⟨a,hA,hd,rfl⟩
 exact ((h j hj hno a hA).frame hd).mono fun r S ⟨s',⟨h1,h2⟩,h3,h4⟩=>⟨h1,s',h2,h3,h4⟩
theorem ZbW {w r:Dfn} (hw:QB w) (hr:QB r) {z2 z3:Nat} (hz:z3≠z2):Zcj Zuv (.fn (.func 30) [] [.ptr z2 0,.ptr z3 0]) (KZ w r).length (fun j=>[.agg ((KZ w r).getD j default).cells]) (ZbE w r z2 z3):=by
 intro y go A a0 hcons hA hd
 refine Yf.V (first:=[]) (args:=[y]) (caps:=[.ptr z2 0,.ptr z3 0]) (Z2 Ys.ok fun F hF=>?_)
 have g2:(a0.or (ZbE w r z2 z3)) z2=some (.cells w.cells):=by rw [YR (hd z2 _ Zpb),Zpb]
 have g3:(a0.or (ZbE w r z2 z3)) z3=some (.cells r.cells):=by rw [YR (hd z3 _ (Zpc hz)),Zpc hz]
 have hS:=KZ.eq_1 w r
 refine Za (Za (Zb (Zc ?_)))
 simp only [Eqs,reduceCtorEq,reduceIte,Zuq,Zur,Ys.r0,g2,g3,ZuM]
 refine Ze rfl trivial (fun h1=>?_) (fun h1=>?_)
 ·have h1':w.start≠r.start:=by simpa using h1
  rw [if_pos h1'] at hS
  rw [hS] at hcons hF
  have hcall:=(hcons 0 (by simp) (by intro i hi; omega) a0 hA).frame hd
  refine Za (Zb (Zc ?_))
  simp only [Eqs,reduceCtorEq,reduceIte,Zur,Zus,Ys.r1]
  refine ZbA rfl rfl rfl rfl rfl (by trivial) (by trivial) (by exact hcall) ?_ ?_
  ·rintro dv S ⟨s',⟨hrr,hA'⟩,hd',rfl⟩
   cases hgo:go 0 with
   | next =>
    rw [hgo] at hrr
    cases hrr
    refine Zc ?_
    simp only [Eqs]
    exact hF.ret (.tup []) _ rfl trivial (Zux _) (Zuw _) ⟨s',.all (fun i hi=>by
     obtain rfl:i=0:=by simp at hi; exact hi
     exact hgo) hA',Jf _ _⟩
   | stop c =>
    rw [hgo] at hrr
    cases hrr
    refine Zc ?_
    simp only [Eqs]
    exact hF.ret (.tup []) _ rfl trivial (Zux _) (Zuw _) ⟨s',.stop 0 c (by simp) (by intro i hi; omega) hgo hA',Jf _ _⟩
   | pan d=>rw [hgo] at hrr; cases hrr
  ·rintro dv S ⟨s',⟨hrr,hA'⟩,hd',rfl⟩
   cases hgo:go 0 with
   | pan d' =>
    rw [hgo] at hrr
    cases hrr
    exact hF.pan _ (Zuw _) ⟨s',.pan 0 dv (by simp) (by intro i hi; omega) hgo hA',Jf _ _⟩
   | next=>rw [hgo] at hrr; cases hrr
   | stop c=>rw [hgo] at hrr; cases hrr
 ·have h1':w.start=r.start:=by simpa using h1
  rw [if_neg (by simpa using h1)] at hS
  refine Zg ?_
  refine Za (Zb (Zc ?_))
  simp only [Eqs,reduceCtorEq,reduceIte,Zuq,Zur,Zus,Ys.r2,g2,g3,ZuM]
  intro b hb
  refine YJ 17 rfl fun x hx=>?_
  simp only [reduceIte,YU,WM,delL]
  have hxb:=Wp hx
  have hT:=Zrn (w:=w) (r:=r) (x:=x) (b:=b) (Ne.symm hxb.1)
  have hst:((a0.or (ZbE w r z2 z3)).upd b (.map [])).upd x (.cells [.str w.name,We w.msgs,.str w.start,.str r.name,We r.msgs,.str r.start,.map b])=(a0.or (ZbE w r z2 z3)).or (ZfW w r x b []):=by
   rw [J2 hx,J2 hb,or_assoc]
   congr 1
   exact ZrC (J9 (ZaN _ hxb.1))
  have g2b:∀ c o,(a0.or (ZbE w r z2 z3)) c=some o→(((a0.or (ZbE w r z2 z3)).upd b (.map [])).upd x (.cells [.str w.name,We w.msgs,.str w.start,.str r.name,We r.msgs,.str r.start,.map b])) c=some o:=fun c o hc=>by
   rw [ZuE _ _ (fun e=>by rw [e,hxb.2] at hc; simp at hc),ZuE _ _ (fun e=>by rw [e,hb] at hc; simp at hc)]; exact hc
  have g2':=g2b _ _ g2
  have g3':=g2b _ _ g3
  clear g2b
  rw [hst] at g2' g3' ⊢
  have hd2:WX (a0.or (ZbE w r z2 z3)) (ZfW w r x b []):=Zpl hxb.2 hb []
  have hws:=hw.start
  have hrs:=hr.start
  have hwm:=hw.many
  have hwr:=(Jh w w.start).2
  have hmsg:=ZgS hw hr hT (hcons.frame (t:=ZbE w r z2 z3)) (w.msgs.length + 1) w.start r.start [] [] 0 (a0.or (ZbE w r z2 z3)) (by omega) hws hrs (fun s hs=>by simp at hs) (by simp; omega) ⟨by simp,by simp⟩ ⟨a0,hA,hd,rfl⟩ hd2 (by intro i hi; omega)
   (by
    rw [Zg5,← hS]
    intro i hi
    rw [Nat.zero_add]) (by rw [Zg5,← hS]; omega)
  rw [Zg5,← hS,Nat.zero_add] at hmsg
  refine Zb (Zc ?_)
  simp only [Eqs,reduceCtorEq,reduceIte,Zuq,Ys.r3,g2',g3',ZuM]
  refine Yn rfl rfl rfl rfl rfl (by trivial) (by trivial) (by exact (Yf.leA (.cons (Zux _) (.cons (Zux _) (.cons (Zux _) (.cons (Qa (by simp)) (.cons (Zux _) .nil))))) hmsg)) ?_ ?_
  ·rintro dv S h
   refine Zc ?_
   simp only [Eqs]
   cases h with
   | all a' hno' hA' hd' =>
    obtain ⟨a'',hA'',hd'',rfl⟩:=hA'
    exact hF.fin (.tup []) _ rfl trivial (Zux _) (Zuw _) ⟨a'',.all hno' hA'',ZuK (Jf _ _) (Jf _ _)⟩
   | stop mm c a' _ hm hno' hc ha hs =>
    obtain ⟨a'',hA'',hd'',rfl⟩:=ha
    exact hF.fin (.tup []) _ rfl trivial (Zux _) (Zuw _) ⟨a'',.stop mm c hm hno' hc hA'',ZuK (Jf _ _) hs⟩
  ·rintro dv S h
   cases h with
   | pan mm _ a' _ hm hno' hc ha hs =>
    obtain ⟨a'',hA'',hd'',rfl⟩:=ha
    exact hF.pan _ (Zuw _) ⟨a'',.pan mm dv hm hno' hc hA'',ZuK (Jf _ _) hs⟩
end Go.DL
namespace Go.DL
open Go Go.Proofs
def ZdA:List Dif→List D
 | []=>[.str [],.int .i64 0]
 | d :: _=>d.cells
def Zey (w r:Dfn):D:=if Wt w && Wt r then .tup [.agg (ZdA (KZ w r)),.bool (!(KZ w r).isEmpty),.int .i64 0] else .tup [.agg [.str [],.int .i64 0],.bool false,.int .i64 2]
def Zb0 (s0:St) (z4 z5:Nat) (l:List Dif) (j:Nat):St:=(s0.upd z4 (.cells (ZdA (l.take j)))).upd z5 (.cells [.bool (decide (0 < j))])
theorem Zg0 {s0:St} {z4 z5:Nat} {l:List Dif} {j:Nat} (h:z5≠z4):(Zb0 s0 z4 z5 l j) z4=some (.cells (ZdA (l.take j))):=by
 unfold Zb0; rw [ZuE _ _ h.symm,ZuB]
theorem Zg1 {s0:St} {z4 z5:Nat} {l:List Dif} {j:Nat}:(Zb0 s0 z4 z5 l j) z5=some (.cells [.bool (decide (0 < j))]):=ZuB _ _ _
theorem Zmy {s0:St} {z4 z5:Nat} {l:List Dif} {j:Nat} (h4:s0 z4=none) (h5:s0 z5=none):s0.sub (Zb0 s0 z4 z5 l j):=fun b o hb=>by
 unfold Zb0
 rw [ZuE _ _ (fun e=>by rw [e,h5] at hb; simp at hb),ZuE _ _ (fun e=>by rw [e,h4] at hb; simp at hb)]; exact hb
theorem Zpv {s0:St} {z4 z5:Nat} {l:List Dif} {j j':Nat} {t:St} (h:WX (Zb0 s0 z4 z5 l j) t):WX (Zb0 s0 z4 z5 l j') t:=fun b o hb=>by
 have h1:=h b o hb
 unfold Zb0 at h1 ⊢
 have a1:=Wp h1
 have a2:=Wp a1.2
 rw [ZuE _ _ a1.1,ZuE _ _ a2.1]; exact a2.2
theorem St.upd_self {s:St} {b:Nat} {o:KC} (h:s b=some o):s.upd b o=s:=by
 funext c
 by_cases hc:c=b
 ·subst hc; rw [ZuB,h]
 ·rw [ZuE _ _ hc]
theorem ZcL (w r:Dfn) (st:St):Y3 Zuv Yl.id [.agg w.cells,.agg r.cells] st (Zey w r) st:=by
 refine Z2 Yl.ok fun F hF=>?_
 have hS:=Zey.eq_1 w r
 refine Za (Zb (Zc ?_))
 simp only [Eqs,reduceCtorEq,reduceIte,Zuq,Zur,Yl.r0,ZuM]
 refine Zjh (Za (Za (Zb (Zc ?_))))
 simp only [Eqs,reduceIte,Zuq,Zur,Zus,Yl.r1]
 rw [show (D.agg [.str w.name,We w.msgs,.str w.start]) = .agg w.cells from rfl]
 by_cases hv:(Wt w && Wt r)=true
 ·rw [if_pos hv] at hS
  rw [ZuA] at hv
  have hvw:=ZcE hv.1
  have hvr:=ZcE hv.2
  have h1:=JW w st
  have h2:=JW r st
  rw [hv.1] at h1
  rw [hv.2] at h2
  refine Wn rfl rfl rfl rfl rfl (by trivial) (by trivial) (by exact h1) (Zc ?_)
  simp only [Eqs,reduceIte,Zuq,Zur,Zus,ZuM]
  rw [show (D.agg [.str r.name,We r.msgs,.str r.start]) = .agg r.cells from rfl]
  refine Wn rfl rfl rfl rfl rfl (by trivial) (by trivial) (by exact h2) (Zc ?_)
  simp only [Eqs,reduceIte,Zuq]
  refine Ze rfl trivial (fun h=>by simp at h) (fun _=>?_)
  refine Zg ?_
  refine Za (Zjg (Za (Za ?_)))
  refine YJ 4 rfl fun z4 h4=>?_
  simp only [reduceIte,Zuq,YU,WM,delL]
  refine YJ 5 rfl fun z5 h5=>?_
  simp only [reduceIte,Zuq,YU,WM,delL]
  have h54:=Wp h5
  rw [show (st.upd z4 (.cells [.str [],.int .i64 0])).upd z5 (.cells [.bool false])=Zb0 st z4 z5 (KZ w r) 0 from rfl]
  refine Zb (Zc ?_)
  simp only [Eqs,reduceIte,Zuq,Zur,Zus,Yl.r3]
  refine Yn rfl rfl rfl rfl rfl (by trivial) (by trivial) (by exact Zcw w r (Zb0 st z4 z5 (KZ w r) 0)) ?_ ?_
  ·rintro dv S ⟨z2,z3,n2,n3,hne,hq,rfl⟩
   cases hq
   refine Zc ?_
   simp only [Eqs,reduceIte,Zuq]
   refine Zj ?_
   refine ZbQ hF rfl trivial [4,5] (by show ([4,5]:List Nat).Nodup; decide) (Zmr n2 n3) (ZbW hvw hvr hne) (fun j hj=>rfl) (fun _=>.stop (.exit 0)) (fun j a=>a=Zb0 st z4 z5 (KZ w r) j) rfl ?_ ?_ ?_ ?_ ?_ ?_
   ·intro j a hj hno hB F' ready busy hdr hbeg hend
    have hj0:j=0:=by
     rcases Nat.eq_zero_or_pos j with h | h
     ·exact h
     ·exact absurd (hno 0 h) (by simp)
    subst hj0
    subst hB
    generalize hl:KZ w r=l at *
    simp only [Eqs,reduceIte,Zuq,ZaE,Zbe,Zcf,ZaK,List.isEmpty_nil]
    refine Zb (Zc ?_)
    simp only [Eqs,reduceIte,Zuq,Zur,Zus,Yl.r4,Dif.cells]
    refine hbeg fun hdb=>?_
    have g4:∀ c,(((Zb0 st z4 z5 l 0).upd z4 c).or busy) z5=some (.cells [.bool false]):=fun c=>Yv (by rw [ZuE _ _ h54.1]; exact Zg1)
    refine Zj (Za (Zb (Zc ?_)))
    simp only [Eqs,reduceIte,Zuq,Zur,Zus,Yl.r5,Yv (Zg0 (s0:=st) (l:=l) (j:=0) h54.1),Zal,g4,ZdA]
    have hstep:((Zb0 st z4 z5 l 0).upd z4 (.cells (l.getD 0 default).cells)).upd z5 (.cells [.bool true])=Zb0 st z4 z5 l 1:=by
     unfold Zb0
     rw [St.upd_comm _ _ _ h54.1.symm,ZuQ,ZuQ]
     match l,hj with
     | x :: rr,_=>rfl
    exact hend.exit (a:=Zb0 st z4 z5 l 1) rfl ⟨rfl,rfl⟩ (Zpv hdb) (by rw [← hstep]; exact Zuw _)
   ·intro q a hno hB hq
    subst hB
    have hn0:(KZ w r).length=0:=by
     rcases Nat.eq_zero_or_pos (KZ w r).length with h | h
     ·exact h
     ·exact absurd (hno 0 h) (by simp)
    have hnil:=List.eq_nil_of_length_eq_zero hn0
    rw [hn0] at hq ⊢
    have g4:=Yv (t:=ZuN q .dfr) (Zg0 (s0:=st) (z4:=z4) (z5:=z5) (l:=KZ w r) (j:=0) h54.1)
    have g5:=Yv (t:=ZuN q .dfr) (Zg1 (s0:=st) (z4:=z4) (z5:=z5) (l:=KZ w r) (j:=0))
    have u4:=St.upd_self g4
    have u5:=St.upd_self g5
    have hh:∃ d1 d2,ZdA ((KZ w r).take 0)=[d1,d2]∧ZdA (KZ w r)=[d1,d2]:=⟨.str [],.int .i64 0,rfl,by rw [hnil]; rfl⟩
    obtain ⟨d1,d2,hh1,hh2⟩:=hh
    rw [hh1] at g4 u4
    rw [hh2,show (!(KZ w r).isEmpty)=decide (0 < 0) by rw [hnil]; rfl] at hS
    rw [J2 hq]
    refine Zm (Za (Wq (ZM ?_)))
    simp only [Eqs,reduceIte,Zuq,Zur,Zus,Yl.r6,g4,g5,u4,u5]
    exact hF.ret1 hq _ _ (by simp only [Eqs,reduceIte,Zuq,Zur,Zus,Yl.df,QQ,ZbT,Zg0 (s0:=st) (z4:=z4) (z5:=z5) (l:=KZ w r) (j:=0) h54.1,Zg1 (s0:=st) (z4:=z4) (z5:=z5) (l:=KZ w r) (j:=0),show ZdA ([]:List Dif)=[d1,d2] from hh1]; rfl) (by trivial) (Zux _) (Zmy h4 h54.2) ⟨by rw [hS]; rfl,rfl⟩
   ·intro q a m hm hno hgo; simp at hgo
   ·intro q a m id hm hno hgo hB hq
    have hm0:m=0:=by
     rcases Nat.eq_zero_or_pos m with h | h
     ·exact h
     ·exact absurd (hno 0 h) (by simp)
    subst hm0
    subst hB
    have hid:id=0:=by simp at hgo; exact hgo.symm
    subst hid
    rw [Nat.zero_add] at hq ⊢
    refine ZQ rfl ?_
    have g4:=Yv (t:=ZuN q .dfr) (Zg0 (s0:=st) (z4:=z4) (z5:=z5) (l:=KZ w r) (j:=1) h54.1)
    have g5:=Yv (t:=ZuN q .dfr) (Zg1 (s0:=st) (z4:=z4) (z5:=z5) (l:=KZ w r) (j:=1))
    have u4:=St.upd_self g4
    have u5:=St.upd_self g5
    have hh:∃ d1 d2,ZdA ((KZ w r).take 1)=[d1,d2]∧ZdA (KZ w r)=[d1,d2]:=by
     match KZ w r,hm with
     | x :: rr,_=>exact ⟨_,_,rfl,rfl⟩
    obtain ⟨d1,d2,hh1,hh2⟩:=hh
    rw [hh1] at g4 u4
    rw [hh2,show (!(KZ w r).isEmpty)=decide (0 < 1) by match KZ w r,hm with | x :: rr,_=>rfl] at hS
    rw [J2 hq]
    refine Za (Wq (ZM ?_))
    simp only [Eqs,reduceIte,Zuq,Zur,Zus,Yl.r6,g4,g5,u4,u5]
    exact hF.ret1 hq _ _ (by simp only [Eqs,reduceIte,Zuq,Zur,Zus,Yl.df,QQ,ZbT,Zg0 (s0:=st) (z4:=z4) (z5:=z5) (l:=KZ w r) (j:=1) h54.1,Zg1 (s0:=st) (z4:=z4) (z5:=z5) (l:=KZ w r) (j:=1),hh1]; rfl) (by trivial) (Zux _) (Zmy h4 h54.2) ⟨by rw [hS]; rfl,rfl⟩
   ·intro q a m d hm hno hgo; simp at hgo
   ·intro m c hgo; simp at hgo; exact .inr ⟨0,hgo.symm⟩
  ·rintro dv S ⟨z2,z3,n2,n3,hne,hq,_⟩
   cases hq
 ·rw [if_neg hv] at hS
  have h1:=JW w st
  have h2:=JW r st
  have hfin:∀ {dk:List Z4} {ρ:Env} {L:Loc},QQ ρ L st Yl.df.res=some (True,[.agg [.str [],.int .i64 0],.bool false,.int .i64 2])→ZT F (.code .ret :: dk) ρ L st:=fun h =>
   hF.ret _ st h trivial (Zux _) (Zuw _) ⟨by rw [hS]; rfl,rfl⟩
  by_cases hvw:Wt w=true
  ·have hvr:Wt r=false:=by simpa [hvw] using hv
   rw [hvw] at h1
   rw [hvr] at h2
   refine Wn rfl rfl rfl rfl rfl (by trivial) (by trivial) (by exact h1) (Zc ?_)
   simp only [Eqs,reduceIte,Zuq,Zur,Zus,ZuM]
   rw [show (D.agg [.str r.name,We r.msgs,.str r.start]) = .agg r.cells from rfl]
   refine Wn rfl rfl rfl rfl rfl (by trivial) (by trivial) (by exact h2) (Zc ?_)
   simp only [Eqs,reduceIte,Zuq]
   refine Ze rfl trivial (fun _=>?_) (fun h=>by simp at h)
   refine Za (Zb (Zc ?_))
   simp only [Eqs,reduceIte,Zuq,Zur,Zus,Yl.r2]
   exact hF.ret _ st rfl (by simp) (Zux _) (Zuw _) ⟨by rw [hS]; rfl,rfl⟩
  ·have hvw2:Wt w=false:=by simpa using hvw
   rw [hvw2] at h1
   refine Wn rfl rfl rfl rfl rfl (by trivial) (by trivial) (by exact h1) (Zc ?_)
   simp only [Eqs,reduceIte,Zuq,Zur,Zus,ZuM]
   refine Zbl rfl (e:=.d (.bool false)) (Zc ?_)
   simp only [Eqs,reduceIte,Zuq]
   refine Ze rfl trivial (fun _=>?_) (fun h=>by simp at h)
   refine Za (Zb (Zc ?_))
   simp only [Eqs,reduceIte,Zuq,Zur,Zus,Yl.r2]
   exact hF.ret _ st rfl (by simp) (Zux _) (Zuw _) ⟨by rw [hS]; rfl,rfl⟩
end Go.DL
namespace Go.DL
open Go Go.Proofs
def Zap (w r:Dfn):Bool:=(Wt w && Wt r) && (KZ w r).isEmpty
def Zdg (w r:Dfn):Int:=if Wt w && Wt r then 0 else 2
theorem ZcM (w r:Dfn) (st:St):Y3 Zuv W3.id [.agg w.cells,.agg r.cells] st (.tup [.bool (Zap w r),.int .i64 (Zdg w r)]) st:=by
 refine Y4 W3.ok fun hwf F hret=>?_
 clear hwf
 have hF1:=ZcL w r st
 have hhead:∃ d1 d2,ZdA (KZ w r)=[d1,d2]:=by
  cases KZ w r with
  | nil=>exact ⟨_,_,rfl⟩
  | cons x rr=>exact ⟨_,_,rfl⟩
 obtain ⟨d1,d2,hh⟩:=hhead
 unfold Zey at hF1
 rw [hh] at hF1
 refine Za (Zb (Zc ?_))
 simp only [Eqs,reduceCtorEq,reduceIte,Zuq,Zur,W3.r0,ZuM]
 refine Za (Zb (Zc ?_))
 simp only [Eqs,reduceIte,Zuq,Zur,Zus,W3.r1]
 rw [show (D.agg [.str w.name,We w.msgs,.str w.start]) = .agg w.cells from rfl,show (D.agg [.str r.name,We r.msgs,.str r.start]) = .agg r.cells from rfl]
 by_cases hv:(Wt w && Wt r)=true
 ·rw [if_pos hv] at hF1
  refine Wn rfl rfl rfl rfl rfl (by trivial) (by trivial) (by exact hF1) (Zc ?_)
  simp only [Eqs,reduceIte,Zuq,Zur,Zus]
  repeat (refine Zut (by simp) ?_)
  refine Za (Zb (Zc ?_))
  simp only [Eqs,reduceIte,Zuq,W3.r2]
  exact hret rfl (by trivial) (by rw [Zap,Zdg,hv]; cases (KZ w r).isEmpty <;> exact Zux _) (Zuw _)
 ·rw [if_neg hv] at hF1
  have hv2:(Wt w && Wt r)=false:=by simpa using hv
  refine Wn rfl rfl rfl rfl rfl (by trivial) (by trivial) (by exact hF1) (Zc ?_)
  simp only [Eqs,reduceIte,Zuq,Zur,Zus]
  repeat (refine Zut (by simp) ?_)
  refine Za (Zb (Zc ?_))
  simp only [Eqs,reduceIte,Zuq,W3.r2]
  exact hret rfl (by trivial) (by rw [Zap,Zdg,hv2]; exact Zux _) (Zuw _)
def Zak (s0:St) (x:Nat) (t:Tok) (k:Nat) (c:KC):St:=(s0.own t k).upd x c
structure ZcF (s0:St) (x:Nat) (t:Tok):Prop where
 ox:s0 x=none
 ot:t.okIn s0
 xt:∀ k,(s0.own t k) x=none
theorem ZmJ {s u:St} {t:Tok} {k:Nat}:(s.or u).own t k=(s.own t k).or u:=by
 cases t with
 | tip b=>exact Zal _ _ _ _
 | _=>rfl
theorem ZrB {s u:St} {t:Tok} (h:t.okIn (s.or u)):t.okIn s:=by
 cases t with
 | tip b =>
  simp only [Tok.okIn] at h ⊢
  cases hs:s b with
  | none=>rfl
  | some o=>rw [Yv hs] at h; simp at h
 | full=>trivial
 | none=>exact h.elim
theorem ZqL {s u:St} {t:Tok} (h:t.okIn (s.or u)):∀ k,t.okIn s→WX s u→WX (s.own t k) u:=fun k hs hd=>by
 cases t with
 | tip b =>
  simp only [Tok.okIn] at h hs
  intro c o hc
  have hcb:c≠b:=fun e=>by rw [e] at hc; rw [YR hs,hc] at h; simp at h
  simp only [St.own]; rw [ZuE _ _ hcb]; exact hd c o hc
 | full=>exact hd
 | none=>exact h.elim
theorem ZcF.form {s0:St} {x:Nat} {t:Tok} (h:ZcF s0 x t) {k:Nat} {c:KC} {u:St}:(Zak s0 x t k c).or u=((s0.upd x c).or u).own t k:=by
 have h1:t.okIn (s0.upd x c):=Zgc (k:=k) c h.ot (h.xt k)
 unfold Zak
 rw [ZmJ,(Zdt h1).2]
theorem ZcF.okf {s0:St} {x:Nat} {t:Tok} (h:ZcF s0 x t) {k:Nat} {c:KC} {u:St} (hd:WX (Zak s0 x t k c) u):t.okIn ((s0.upd x c).or u):=by
 have h1:t.okIn (s0.upd x c):=Zgc (k:=k) c h.ot (h.xt k)
 cases t with
 | tip b =>
  simp only [Tok.okIn] at h1 ⊢
  rw [YR h1]
  cases hu:u b with
  | none=>rfl
  | some o =>
   have:=hd b o hu
   unfold Zak at this
   have h2:=Wp this
   simp only [St.own,ZuB] at h2
   simp at h2
 | full=>trivial
 | none=>exact h1.elim
theorem ZcF.next {s0:St} {x:Nat} {t:Tok} (h:ZcF s0 x t) {t1:Tok} {k:Nat} {c:KC} {u:St} (hd:WX (Zak s0 x t k c) u) (h1:t1.okIn ((s0.upd x c).or u)) :
  ZcF s0 x t1∧(∀ k',(((s0.upd x c).or u).own t1 k') x=some c)∧(∀ k' c',(((s0.upd x c).or u).own t1 k').upd x c'=(Zak s0 x t1 k' c').or u)∧∀ k' c',WX (Zak s0 x t1 k' c') u:=by
 have h2:=ZrB h1
 have h3:=Zdt h2
 have hux:WX (s0.upd x c) u:=fun b o hb=>by
  have:=hd b o hb
  unfold Zak at this
  have e:=Wp this
  rw [ZuE _ _ e.1]; exact (Zcn e.2).1
 refine ⟨⟨h.ox,h3.1,fun k'=>ZkC h2 h.ox k'⟩,fun k'=>?_,fun k' c'=>?_,fun k' c'=>?_⟩
 ·rw [ZmJ,h3.2]; exact Yv (ZuB _ _ _)
 ·rw [ZmJ,Zal,h3.2,ZuQ]; rfl
 ·have hdd:=ZqL h1 k' h2 hux
  intro b o hb
  have e:=hdd b o hb
  rw [h3.2] at e
  have e2:=Wp e
  unfold Zak
  rw [ZuE _ _ e2.1]; exact e2.2
end Go.DL
namespace Go.DL
open Go Go.Proofs
theorem Zc6 (l:List Dif) (hl:l.length≤1000000) {fv:D} {t st:St} (hd:WX st t) (hit:Zcj Zuv fv l.length (fun j=>[.agg (l.getD j default).cells]) t) :
  Yf Zuv ZH.id [.nilsl,fv] (st.or t) fun r S=>r = .ret (Q6 l)∧S=st:=by
 refine Z2 ZH.ok fun F hF=>?_
 refine Za (Zb (Zc ?_))
 simp only [Eqs,reduceCtorEq,reduceIte,Zuq,Zur,ZH.r0]
 refine Za (Za ?_)
 refine YJ 2 rfl fun x hx=>?_
 simp only [reduceIte,YU,WM,delL]
 have hx1:st x=none:=by
  cases h:st x with
  | none=>rfl
  | some o=>rw [Yv h] at hx; simp at hx
 have hx2:t x=none:=by rw [YR hx1] at hx; exact hx
 rw [Zal]
 refine JG (b:=x) (Yv (ZuB _ _ _)) (.cons (Qa (t:=.full) (s:=2) (row:=fun _=>[]) (fun b h=>by cases h)) .nil) ?_
 rw [Zal,ZuQ]
 have hok0:ZcF st x .full:=⟨hx1,trivial,fun _=>hx1⟩
 have hd0:WX (Zak st x .full (0 * 2) (.cells [.sl .full 0 2 fun _=>[]])) t:=fun b o hb=>by
  have hbx:b≠x:=fun e=>by rw [e,hx2] at hb; simp at hb
  unfold Zak
  rw [ZuE _ _ hbx]; exact hd b o hb
 rw [show st.upd x (.cells [.sl .full 0 2 fun _=>[]])=Zak st x .full (0 * 2) (.cells [.sl .full 0 2 fun _=>[]]) from rfl]
 refine Zb (Zc ?_)
 simp only [Eqs,reduceIte,Zuq,ZH.r1]
 refine Zj ?_
 refine ZbQ hF rfl trivial [2] (by show ([2]:List Nat).Nodup; decide) hd0 hit (fun j hj=>rfl) (fun _=>.next)
  (fun j a=>∃ tk row,ZcF st x tk∧YE Dif.cells row (l.take j)∧a=Zak st x tk (j * 2) (.cells [.sl tk j 2 row])) ⟨.full,_,hok0,YE.nil,rfl⟩ ?_ ?_ ?_ ?_ ?_ ?_
 ·rintro j a hj hno ⟨tk,row,hok,hrow,rfl⟩ F' ready busy hdr hbeg hend
  simp only [Eqs,reduceIte,Zuq,ZaE,Zbe,Zcf,ZaK,List.isEmpty_nil]
  refine Zb (Zc ?_)
  simp only [Eqs,reduceIte,Zuq,Zur,Zus,ZH.r2,Dif.cells]
  refine hbeg fun hdb=>?_
  have gx:((Zak st x tk (j * 2) (.cells [.sl tk j 2 row])).or busy) x=some (.cells [.sl tk j 2 row]):=Yv (ZuB _ _ _)
  refine Zj (Zb (Zc ?_))
  simp only [Eqs,reduceIte,Zuq,Zur,Zus,ZH.r3,gx]
  refine JO (_) (tk) rfl rfl rfl rfl rfl rfl (by trivial) (by trivial) hok.form (hok.okf hdb) (by omega) (by (unfold big; omega)) fun t1 ht1=>Zc ?_
  simp only [Eqs,reduceIte,Zuq,Zus,(hok.next hdb ht1).2.1,(hok.next hdb ht1).2.2.1]
  refine Zm ?_
  have hnx:=hok.next hdb ht1
  have htk:=Wz hj
  exact hend.fin (a:=Zak st x t1 ((j + 1) * 2) (.cells [.sl t1 (j + 1) 2 (QN j row (Wy [.str [],.int .i64 0] ([0].zip [.agg [.str (l.getD j default).path,.int .i64 (l.getD j default).code]])))])) ⟨rfl,t1,_,hnx.1,by rw [htk]; exact hrow.snoc (x:=l.getD j default) rfl (by simp; omega),rfl⟩ (hnx.2.2.2 _ _) (Zuw _)
 ·rintro q a hno ⟨tk,row,hok,hrow,rfl⟩ hq
  rw [ZuH] at hrow
  rw [J2 hq]
  have gx:((Zak st x tk (l.length * 2) (.cells [.sl tk l.length 2 row])).or (ZuN q .dfr)) x=some (.cells [.sl tk l.length 2 row]):=Yv (ZuB _ _ _)
  refine Zm (Za (Zb (Zc ?_)))
  simp only [Eqs,reduceIte,Zuq,ZH.r4,gx]
  refine hF.ret1 hq _ st rfl (by trivial) (Zac (hrow.le rfl)) (ZuK (Zl hok.ot) (Zuy _ (hok.xt _))) ⟨rfl,rfl⟩
 ·intro q a m hm hno hgo; simp at hgo
 ·intro q a m id hm hno hgo; simp at hgo
 ·intro q a m d hm hno hgo; simp at hgo
 ·intro m c hgo; simp at hgo
theorem Zdp (l:List Dif) (hl:l.length≤1000000) {fv:D} {t st:St} (hd:WX st t) (hit:Zcj Zuv fv l.length (fun j=>[.agg (l.getD j default).cells]) t) :
  Yf Zuv Yy.id [fv] (st.or t) fun r S=>r = .ret (Q6 l)∧S=st:=by
 refine Z2 Yy.ok fun F hF=>?_
 refine Za (Zb (Zc ?_))
 simp only [Eqs,reduceCtorEq,reduceIte,Yy.r0]
 refine Za (Zb (Zc ?_))
 simp only [Eqs,reduceIte,Yy.r1]
 refine Yn rfl rfl rfl rfl rfl (by trivial) (by trivial) (by exact Zc6 l hl hd hit) ?_ ?_
 ·rintro dv S ⟨h,rfl⟩
  cases h
  refine Zc ?_
  simp only [Eqs,reduceCtorEq,reduceIte,Zuq]
  exact hF.ret _ _ rfl (by trivial) (Zux _) (Zuw _) ⟨rfl,rfl⟩
 ·rintro dv S ⟨h,_⟩
  cases h
end Go.DL
