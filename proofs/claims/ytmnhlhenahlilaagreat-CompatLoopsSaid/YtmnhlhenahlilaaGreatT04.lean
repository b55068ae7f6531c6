/- Lemmas: R05h, R05i, R05j, R05k, R05l, R43a, R43b, R43c, R43d, Own, R43e, R43f, DlTop, Top1, C43, S00, S01, S02, Maps, S03, S04, S05, S06, SLay, S07, S08, SLay2. -/
import Derived.Test.YtmnhlhenahlilaaGreatT03
set_option maxHeartbeats 16000000
set_option linter.all false
open And renaming intro → Zut
open Bool renaming and_eq_true → ZuA, or_eq_true → ZuL, true_and → ZuP
open Go.DL.D.Le renaming refl → Zux
open Go.DL.Dfn renaming cells → ZuM
open Go.DL.Fld renaming cells → ZuD
open Go.DL.Msg renaming cells → ZuG
open Go.DL.St renaming single → ZuN, sub_refl → Zuw, sub_trans → ZuK, sub_upd → Zuy, upd_ne → ZuE, upd_same → ZuB, upd_upd → ZuQ
open Go.DL.Z5 renaming cells → ZuR
open Go.Proofs.Tryz renaming prog → Zuv
open List renaming getElem_of_mem → ZuJ, length_append → ZuF, length_cons → ZuI, take_length → ZuH
open Nat renaming le_refl → ZuO, reduceAdd → Zur, reduceEqDiff → Zuq, reduceLeDiff → Zus
open Option renaming map_eq_some_iff → ZuC
open Option.some renaming injEq → Zuu
namespace Go.DL
open Go Go.Proofs
def ZdM (l:List Bool):D:=slD 1 (fun b=>[.bool b]) l
def Zav (d:Dfn) (m:Msg) (prev:List Bool):Bool:=m.fields.all (fun f=>!f.loose) && (Qe m).all fun s=>prev.getD (Z6 d s prev.length).toNat default
def QU (d:Dfn):Nat→List Bool
 | 0=>[]
 | n + 1=>QU d n++[Zav d (d.msgs.getD n default) (QU d n)]
theorem ZaO (d:Dfn) (n:Nat):(QU d n).length=n:=by
 induction n with
 | zero=>rfl
 | succ n ih=>simp [QU,ih]
structure Zaw (d:Dfn) (j:Nat):Prop where
 few:((d.msgs.getD j default).fields.flatMap Wk).length≤1000000
 ref:∀ s∈Qe (d.msgs.getD j default),0≤Z6 d s j
theorem Zdd {α:Type} [Inhabited α] {p:α→Bool} {l:List α} {i:Nat} (h:i < l.length):(l.take (i + 1)).all p=((l.take i).all p && p (l.getD i default)):=by
 rw [Wz h,List.all_append]; simp
theorem ZkE (d:Dfn) (sm:Nat) (hs:sm≤d.msgs.length) (hsm:sm≤1000) (hr:∀ j,j < sm→Zaw d j):ZR Zuv Zz.id [.agg d.cells,.int .i64 sm] (ZdM (QU d sm)):=by
 refine WD Zz.ok fun hwf F st hret=>?_
 have hw:=(Zfw (s:=d) (hwf _ (by simp))).nmsgs
 have hmw:=(Zfw (s:=d) (hwf _ (by simp))).msgs
 unfold big at hw
 clear hwf
 refine Za (Zb (Zc ?_))
 simp only [Eqs,reduceCtorEq,reduceIte,Zuq,Zur,Zz.r0,ZuM,We,slD]
 refine Za (Zb (Zc ?_))
 simp only [Eqs,reduceIte,Zuq,Zz.r1]
 refine Za (Za (Zb (Zc ?_)))
 simp only [Eqs,reduceIte,Zuq,Zz.r2]
 refine Ku (s':=st) (by first | exact Zuw _ | exact Zl (by first | trivial | assumption) | exact ZuK (Zl (by first | trivial | assumption)) (Zl (by first | trivial | assumption)) | assumption) (Qz (ρ':=[(1,.d (.int .i64 sm)),(2,.loc 2 0),(5,.d (.sl .full 0 1 fun _=>[])),(6,.d (.int .i64 (0:Nat)))]) (L':=[(2,d.cells)]) ?_ ?_ ?_)
 ·exact .skip (.skip (.cons (.d (Qa fun b h=>by cases h)) (.skip .nil)))
 ·exact Q9 _
 refine Zj (ZX ?_)
 have key:∀ (n i:Nat),(sm) - i=n→∀ tk row out,tk.okIn st→YE (fun b=>[.bool b]) row out→out=QU d i→i≤sm→ZT F [.code (Zz.l0),.inLoop Zz.l0,.inBlock 0,.code (.seq (qR Zz.r16 [4]) .ret)] [(1,.d (.int .i64 sm)),(2,.loc 2 0),(5,.d (.sl tk out.length 1 row)),(6,.d (.int .i64 i))] [(2,d.cells)] (st.own tk (out.length * 1)):=by
  intro n
  induction n using Nat.strongRecOn with
  | ind n ih_key =>
  intro i hn tk row out htk hrow hout hi
  have hol:out.length=i:=by rw [hout,ZaO]
  refine Za (Za (Zb (Zc ?_)))
  simp only [Eqs,reduceIte,Zuq,Zz.r3,ZuM,We,slD]
  refine Ze rfl trivial (fun hd=>?_) (fun hd=>?_)
  ·simp at hd
   have hdm:i < d.msgs.length:=by omega
   have hro:=hr i hd
   have hmf:=(hmw _ (Ki hdm)).nfields
   unfold big at hmf
   have hstep:QU d (i + 1)=out++[Zav d (d.msgs.getD i default) out]:=by rw [QU,← hout]
   generalize hm:d.msgs.getD i default=m at *
   refine Zg (Za (Zj (Za (Zb (Zc ?_)))))
   simp only [Eqs,reduceIte,Zuq,Zz.r5]
   refine Za (Za (Zb (Zc ?_)))
   simp only [Eqs,reduceIte,Zuq,Zz.r6]
   refine Zj (ZX ?_)
   have key2:∀ (n k:Nat),(m.fields.length) - k=n→k≤m.fields.length→ZT F [.code (Zz.l1),.inLoop Zz.l1,.inBlock 2,.code (.seq (qR Zz.r10 [1,2,5,6,7,9]) (.seq (.seq (qR Zz.r11 [1,2,5,6,7,9,10]) (.block 4 (.loop Zz.l2))) (qR Zz.r15 [1,2,5,6]))),.inBlock 1,.code (qR Zz.r4 [1,2,5,6]),.inLoop Zz.l0,.inBlock 0,.code (.seq (qR Zz.r16 [4]) .ret)] [(1,.d (.int .i64 sm)),(2,.loc 2 0),(5,.d (.sl tk out.length 1 row)),(6,.d (.int .i64 i)),(7,.d (.bool ((m.fields.take k).all fun f=>!f.loose))),(8,.d (.int .i64 k))] [(2,d.cells)] (st.own tk (out.length * 1)):=by
    intro n
    induction n using Nat.strongRecOn with
    | ind n ih_key2 =>
    intro k hnk hk
    refine Za (Za (Zb (Zc ?_)))
    simp only [Eqs,reduceIte,Zuq,Zz.r7,ZuM,ZuG,We,Yo,slD,hm]
    repeat (refine Zut (by first | omega | trivial | (intro h0; simp at h0; omega)) ?_)
    refine Ze rfl trivial (fun h4=>?_) (fun h4=>?_)
    ·simp at h4
     have hall:=Zdd (p:=fun f:Fld=>!f.loose) h4
     refine Zg (Za (Zj (Zb (Zc ?_))))
     simp only [Eqs,reduceIte,Zuq,Zz.r9,ZuD,hm]
     repeat (refine Zut (by first | omega | trivial | (intro h0; simp at h0; omega)) ?_)
     refine Zm (Zb (Zc ?_))
     simp only [Eqs,reduceIte,Zuq,Zz.r8]
     repeat (refine Zut (by first | omega | trivial | (intro h0; simp at h0; omega)) ?_)
     refine Zy ?_
     have hnext:=ih_key2 ((m.fields.length) - (k + 1)) (by omega) (k + 1) rfl (by omega)
     rw [hall] at hnext
     exact hnext
    ·simp at h4
     obtain rfl:k=m.fields.length:=by omega
     rw [ZuH]
     refine ZQ rfl (Za (Zb (Zc ?_)))
     simp only [Eqs,reduceIte,Zuq,Zur,Zus,Zz.r10,hm]
     repeat (refine Zut (by first | omega | trivial | (intro h0; simp at h0; omega)) ?_)
     refine ZW rfl rfl rfl rfl rfl (by trivial) (by trivial) (by exact Zgx m (by have:=hro.few; rw [hm] at this; exact this)) (Zc ?_)
     simp only [Eqs,reduceIte,Zuq]
     refine Za (Za (Zb (Zc ?_)))
     simp only [Eqs,reduceIte,Zuq,Zz.r11]
     have hfew:=hro.few
     have href:=hro.ref
     rw [hm] at hfew href
     have hrl:=J1 (m.fields.flatMap Wk) []
     rw [show (m.fields.flatMap Wk).foldl Zay []=Qe m from rfl] at hrl
     simp only [List.length_nil,Nat.zero_add] at hrl
     have hst:Zav d m out=((m.fields.all fun f=>!f.loose) && (Qe m).all fun s=>out.getD (Z6 d s i).toNat default):=by rw [Zav,hol]
     generalize (m.fields.all fun f=>!f.loose)=lo at *
     generalize hrs:Qe m=rs at *
     refine Ku (s':=st.own tk (out.length * 1)) (by first | exact Zuw _ | exact Zl (by first | trivial | assumption) | exact ZuK (Zl (by first | trivial | assumption)) (Zl (by first | trivial | assumption)) | assumption) (Qz (ρ':=[(1,.d (.int .i64 sm)),(2,.loc 2 0),(5,.d (.sl tk out.length 1 row)),(6,.d (.int .i64 i)),(7,.d (.bool (lo && (rs.take 0).all fun s=>out.getD (Z6 d s i).toNat default))),(9,.d (Q8 rs)),(10,.d (.int .i64 (0:Nat)))]) (L':=[(2,d.cells)]) ?_ ?_ ?_)
     ·rw [show (lo && (rs.take 0).all fun s=>out.getD (Z6 d s i).toNat default)=lo by simp]; exact Zai _
     ·exact Q9 _
     refine Zj (ZX ?_)
     have key3:∀ (n q:Nat),(rs.length) - q=n→q≤rs.length→ZT F [.code (Zz.l2),.inLoop Zz.l2,.inBlock 4,.code (qR Zz.r15 [1,2,5,6]),.inBlock 1,.code (qR Zz.r4 [1,2,5,6]),.inLoop Zz.l0,.inBlock 0,.code (.seq (qR Zz.r16 [4]) .ret)] [(1,.d (.int .i64 sm)),(2,.loc 2 0),(5,.d (.sl tk out.length 1 row)),(6,.d (.int .i64 i)),(7,.d (.bool (lo && (rs.take q).all fun s=>out.getD (Z6 d s i).toNat default))),(9,.d (Q8 rs)),(10,.d (.int .i64 q))] [(2,d.cells)] (st.own tk (out.length * 1)):=by
      intro n
      induction n using Nat.strongRecOn with
      | ind n ih_key3 =>
      intro q hnq hq
      refine Za (Za (Zb (Zc ?_)))
      simp only [Eqs,reduceIte,Zuq,Zz.r12,Q8,slD]
      refine Ze rfl trivial (fun h5=>?_) (fun h5=>?_)
      ·simp at h5
       have hall:=Zdd (p:=fun s:Str=>out.getD (Z6 d s i).toNat default) h5
       have hge:=href _ (Ki h5)
       have hlt:=Zaa (fun m=>decide (m.name=rs.getD q default)) (d.msgs.take i)
       rw [show Z7 (fun m=>decide (m.name=rs.getD q default)) (d.msgs.take i)=Z6 d (rs.getD q default) i from rfl,List.length_take] at hlt
       have hrw:=hrow (Z6 d (rs.getD q default) i).toNat (by omega)
       refine Zg (Za (Zj (WB (Wj ?_))))
       simp only [Eqs,reduceIte,Zuq,Zur,Zus,Zz.r14,ZuM,We,slD]
       repeat (refine Zut (by first | omega | trivial | (intro h0; simp at h0; omega)) ?_)
       refine Zna rfl rfl rfl rfl rfl (fun hcg=>⟨by first | trivial | (simpa [Qu] using hcg),trivial,Jj d (rs.getD q default) i (by omega)⟩) (Wj ?_)
       simp only [Eqs,reduceIte,Zuq,hrw]
       repeat (refine Zut (by first | omega | trivial | (intro h0; simp at h0; omega)) ?_)
       refine Zm (Zb (Zc ?_))
       simp only [Eqs,reduceIte,Zuq,Zz.r13]
       repeat (refine Zut (by first | omega | trivial | (intro h0; simp at h0; omega)) ?_)
       refine Zy ?_
       have hnext:=ih_key3 ((rs.length) - (q + 1)) (by omega) (q + 1) rfl (by omega)
       rw [hall,← Bool.and_assoc] at hnext
       exact hnext
      ·simp at h5
       obtain rfl:q=rs.length:=by omega
       rw [ZuH,← hst]
       refine ZQ rfl (Zb (Zc ?_))
       simp only [Eqs,reduceIte,Zuq,Zz.r15]
       repeat (refine Zut (by first | omega | trivial | (intro h0; simp at h0; omega)) ?_)
       refine JO (st) (tk) rfl rfl rfl rfl rfl rfl (by trivial) (by trivial) rfl (by first | trivial | assumption) (by omega) (by (unfold big; omega)) fun t1 ht1=>Zc ?_
       simp only [Eqs,reduceIte,Zuq]
       refine Zm (Zb (Zc ?_))
       simp only [Eqs,reduceIte,Zuq,Zz.r4]
       repeat (refine Zut (by first | omega | trivial | (intro h0; simp at h0; omega)) ?_)
       have hnext:=ih_key (sm - (i + 1)) (by omega) (i + 1) rfl t1 _ (out++[Zav d m out]) ht1 (hrow.snoc (x:=Zav d m out) (row2:=Wy [.bool false] ([0].zip [.bool (Zav d m out)])) rfl rfl) hstep.symm (by omega)
       rw [ZuF] at hnext
       refine Zy ?_
       exact hnext
     exact key3 _ 0 rfl (by omega)
   exact key2 _ 0 rfl (by omega)
  ·simp at hd
   obtain rfl:i=sm:=by omega
   refine ZQ rfl (Za (Zb (Zc ?_)))
   simp only [Eqs,reduceIte,Zuq,Zz.r16]
   rw [← hout] at hret
   exact hret rfl (by trivial) (Zac (hrow.le rfl)) (Zl htk)
 exact key _ 0 rfl .full _ [] trivial YE.nil rfl (by omega)
end Go.DL
namespace Go.DL
open Go Go.Proofs
def Zj8 (f:Fld):Bool:=!decide (f.bits=2) && (!decide (f.bits=4) && (decide (f.bits < 8) || (decide (512 < f.bits) || !decide (Int.tmod f.bits 8=0))))
def ZeX (m:Msg) (i:Nat) (f:Fld):Bool:=decide (Jl m f.tag i < 0) || (!QZ (m.fields.getD (Jl m f.tag i).toNat default) || ZkQ m f.tag i)
def Zh3 (d:Dfn) (at_:Nat) (f:Fld):Bool:=decide (Z6 d f.of at_ < 0) || !(QU d at_).getD (Z6 d f.of at_).toNat default
def K1 (d:Dfn) (at_:Nat) (m:Msg) (i:Nat) (f:Fld):Int :=
 if f.kind=1 then ZaD f else if f.kind=2 then ZaD f
 else if f.kind=3 then (if Zgr f.low f.high then 0 else 7)
 else if f.kind=4 then Zcb (m.fields.take i) f.size
 else if f.kind=5 then (if decide (f.low < 0) || (decide (255 < f.low) || (decide (f.high < 0) || decide (1048576 < f.high))) then 7 else 0)
 else if f.kind=6 then (if decide (f.high < 2) || decide (1048576 < f.high) then 7 else 0)
 else if f.kind=7 then (if Z6 d f.of at_ < 0 then 8 else Zcb (m.fields.take i) f.size)
 else if f.kind=8 then (if Z6 d f.of at_ < 0 then 8 else 0)
 else if f.kind=9 then (if ZeX m i f then 8 else ZcJ d at_ f (Kv (m.fields.getD (Jl m f.tag i).toNat default)).1 (Kv (m.fields.getD (Jl m f.tag i).toNat default)).2)
 else if f.kind=10 then (if Zj8 f then 6 else 0)
 else if f.kind=11 then (if decide (f.check < 1) || decide (3 < f.check) then 7 else if Jl m f.from_ i < 0 then 8 else 0)
 else if f.kind=12 then (if decide (f.key < 0) || decide (4294967295 < f.key) then 7 else if Zh3 d at_ f then 8 else Zcb (m.fields.take i) f.size)
 else 0
theorem Znr (d:Dfn) (at_ i:Nat) (m:Msg) (f:Fld) (ha:at_ < d.msgs.length) (hm:d.msgs.getD at_ default=m) (hi:i < m.fields.length) (hf:m.fields.getD i default=f) (h1000:at_≤1000) (hr:∀ j,j < at_→Zaw d j) (hk:f.kind=1):ZR Zuv Zf.id [.agg d.cells,.int .i64 at_,.int .i64 i] (.int .i64 (K1 d at_ m i f)):=by
 refine Z0 Zf.ok fun F st hret=>?_
 have hS:=K1.eq_1 d at_ m i f
 simp only [hk,Int.reduceEq,if_true,if_false] at hS
 have hsz:=QC m i hi
 rw [hf] at hsz
 refine Za (Zb (Zc ?_))
 simp only [Eqs,reduceCtorEq,reduceIte,Zuq,Zur,Zf.r0,ZuM,We,slD]
 refine Za (Zb (Zc ?_))
 simp only [Eqs,reduceIte,Zuq,Zur,Zus,Zf.r1,ZuG,hm]
 repeat (refine Zut (by first | omega | trivial | (intro h0; simp at h0; omega)) ?_)
 refine Za (Zb (Zc ?_))
 simp only [Eqs,reduceIte,Zuq,Zur,Zus,Zf.r2,ZuD,Yo,slD,hf]
 repeat (refine Zut (by first | omega | trivial | (intro h0; simp at h0; omega)) ?_)
 refine Za (Za (Zb (Zc ?_)))
 simp only [Eqs,reduceIte,Zuq,Zf.r3]
 refine Zj (Za (Za (Zb (Zc ?_))))
 simp only [Eqs,reduceIte,Zuq,Zf.r4]
 refine Ze rfl trivial (fun _=>?_) (fun h=>by rw [hk] at h; simp at h)
 refine Zg ?_
 refine Ze rfl trivial (fun _=>?_) (fun h=>by rw [hk] at h; simp at h)
 refine Za (Zb (Zc ?_))
 simp only [Eqs,reduceIte,Zuq,Zur,Zus,Zf.r6]
 refine ZW rfl rfl rfl rfl rfl (by trivial) (by trivial) (by exact Zgy f) (Zc ?_)
 simp only [Eqs,reduceIte,Zuq]
 refine hret rfl (by first | trivial | simp) (YG ?_) (by first | exact Zuw _ | exact Zl (by first | trivial | assumption) | assumption | exact Zuy _ (by assumption))
 exact hS.symm
theorem Zns (d:Dfn) (at_ i:Nat) (m:Msg) (f:Fld) (ha:at_ < d.msgs.length) (hm:d.msgs.getD at_ default=m) (hi:i < m.fields.length) (hf:m.fields.getD i default=f) (h1000:at_≤1000) (hr:∀ j,j < at_→Zaw d j) (hk:f.kind=2):ZR Zuv Zf.id [.agg d.cells,.int .i64 at_,.int .i64 i] (.int .i64 (K1 d at_ m i f)):=by
 refine Z0 Zf.ok fun F st hret=>?_
 have hS:=K1.eq_1 d at_ m i f
 simp only [hk,Int.reduceEq,if_true,if_false] at hS
 have hsz:=QC m i hi
 rw [hf] at hsz
 refine Za (Zb (Zc ?_))
 simp only [Eqs,reduceCtorEq,reduceIte,Zuq,Zur,Zf.r0,ZuM,We,slD]
 refine Za (Zb (Zc ?_))
 simp only [Eqs,reduceIte,Zuq,Zur,Zus,Zf.r1,ZuG,hm]
 repeat (refine Zut (by first | omega | trivial | (intro h0; simp at h0; omega)) ?_)
 refine Za (Zb (Zc ?_))
 simp only [Eqs,reduceIte,Zuq,Zur,Zus,Zf.r2,ZuD,Yo,slD,hf]
 repeat (refine Zut (by first | omega | trivial | (intro h0; simp at h0; omega)) ?_)
 refine Za (Za (Zb (Zc ?_)))
 simp only [Eqs,reduceIte,Zuq,Zf.r3]
 refine Zj (Za (Za (Zb (Zc ?_))))
 simp only [Eqs,reduceIte,Zuq,Zf.r4]
 refine Ze rfl trivial (fun h=>by rw [hk] at h; simp at h) (fun _=>?_)
 refine Zb (Zc ?_)
 simp only [Eqs,reduceIte,Zuq,Zf.r5]
 refine Ze rfl trivial (fun _=>?_) (fun h=>by rw [hk] at h; simp at h)
 refine Za (Zb (Zc ?_))
 simp only [Eqs,reduceIte,Zuq,Zur,Zus,Zf.r6]
 refine ZW rfl rfl rfl rfl rfl (by trivial) (by trivial) (by exact Zgy f) (Zc ?_)
 simp only [Eqs,reduceIte,Zuq]
 refine hret rfl (by first | trivial | simp) (YG ?_) (by first | exact Zuw _ | exact Zl (by first | trivial | assumption) | assumption | exact Zuy _ (by assumption))
 exact hS.symm
theorem Znt (d:Dfn) (at_ i:Nat) (m:Msg) (f:Fld) (ha:at_ < d.msgs.length) (hm:d.msgs.getD at_ default=m) (hi:i < m.fields.length) (hf:m.fields.getD i default=f) (h1000:at_≤1000) (hr:∀ j,j < at_→Zaw d j) (hk:f.kind=3):ZR Zuv Zf.id [.agg d.cells,.int .i64 at_,.int .i64 i] (.int .i64 (K1 d at_ m i f)):=by
 refine Z0 Zf.ok fun F st hret=>?_
 have hS:=K1.eq_1 d at_ m i f
 simp only [hk,Int.reduceEq,if_true,if_false] at hS
 have hsz:=QC m i hi
 rw [hf] at hsz
 refine Za (Zb (Zc ?_))
 simp only [Eqs,reduceCtorEq,reduceIte,Zuq,Zur,Zf.r0,ZuM,We,slD]
 refine Za (Zb (Zc ?_))
 simp only [Eqs,reduceIte,Zuq,Zur,Zus,Zf.r1,ZuG,hm]
 repeat (refine Zut (by first | omega | trivial | (intro h0; simp at h0; omega)) ?_)
 refine Za (Zb (Zc ?_))
 simp only [Eqs,reduceIte,Zuq,Zur,Zus,Zf.r2,ZuD,Yo,slD,hf]
 repeat (refine Zut (by first | omega | trivial | (intro h0; simp at h0; omega)) ?_)
 refine Za (Za (Zb (Zc ?_)))
 simp only [Eqs,reduceIte,Zuq,Zf.r3]
 refine Zj (Za (Za (Zb (Zc ?_))))
 simp only [Eqs,reduceIte,Zuq,Zf.r4]
 refine Ze rfl trivial (fun h=>by rw [hk] at h; simp at h) (fun _=>?_)
 refine Zb (Zc ?_)
 simp only [Eqs,reduceIte,Zuq,Zf.r5]
 refine Ze rfl trivial (fun h=>by rw [hk] at h; simp at h) (fun _=>?_)
 refine Za (Zb (Zc ?_))
 simp only [Eqs,reduceIte,Zuq,Zf.r7]
 refine Ze rfl trivial (fun _=>?_) (fun h=>by rw [hk] at h; simp at h)
 refine Za (Zb (Zc ?_))
 simp only [Eqs,reduceIte,Zuq,Zf.r8]
 refine ZW rfl rfl rfl rfl rfl (by trivial) (by trivial) (by exact ZnB f.low f.high) (Zc ?_)
 simp only [Eqs,reduceIte,Zuq]
 refine Ze rfl trivial (fun h=>?_) (fun h=>?_)
 ·rw [show Zgr f.low f.high=false by simpa using h] at hS
  refine Za (Zb (Zc ?_))
  simp only [Eqs,reduceIte,Zuq,Zf.r9]
  refine hret rfl (by first | trivial | simp) (YG ?_) (by first | exact Zuw _ | exact Zl (by first | trivial | assumption) | assumption | exact Zuy _ (by assumption))
  exact hS.symm
 ·rw [show Zgr f.low f.high=true by simpa using h] at hS
  refine Zg (Zm (Za (Zb (Zc ?_))))
  simp only [Eqs,reduceIte,Zuq,Zf.r46]
  refine hret rfl (by first | trivial | simp) (YG ?_) (by first | exact Zuw _ | exact Zl (by first | trivial | assumption) | assumption | exact Zuy _ (by assumption))
  exact hS.symm
theorem Znu (d:Dfn) (at_ i:Nat) (m:Msg) (f:Fld) (ha:at_ < d.msgs.length) (hm:d.msgs.getD at_ default=m) (hi:i < m.fields.length) (hf:m.fields.getD i default=f) (h1000:at_≤1000) (hr:∀ j,j < at_→Zaw d j) (hk:f.kind=4):ZR Zuv Zf.id [.agg d.cells,.int .i64 at_,.int .i64 i] (.int .i64 (K1 d at_ m i f)):=by
 refine Z0 Zf.ok fun F st hret=>?_
 have hS:=K1.eq_1 d at_ m i f
 simp only [hk,Int.reduceEq,if_true,if_false] at hS
 have hsz:=QC m i hi
 rw [hf] at hsz
 refine Za (Zb (Zc ?_))
 simp only [Eqs,reduceCtorEq,reduceIte,Zuq,Zur,Zf.r0,ZuM,We,slD]
 refine Za (Zb (Zc ?_))
 simp only [Eqs,reduceIte,Zuq,Zur,Zus,Zf.r1,ZuG,hm]
 repeat (refine Zut (by first | omega | trivial | (intro h0; simp at h0; omega)) ?_)
 refine Za (Zb (Zc ?_))
 simp only [Eqs,reduceIte,Zuq,Zur,Zus,Zf.r2,ZuD,Yo,slD,hf]
 repeat (refine Zut (by first | omega | trivial | (intro h0; simp at h0; omega)) ?_)
 refine Za (Za (Zb (Zc ?_)))
 simp only [Eqs,reduceIte,Zuq,Zf.r3]
 refine Zj (Za (Za (Zb (Zc ?_))))
 simp only [Eqs,reduceIte,Zuq,Zf.r4]
 refine Ze rfl trivial (fun h=>by rw [hk] at h; simp at h) (fun _=>?_)
 refine Zb (Zc ?_)
 simp only [Eqs,reduceIte,Zuq,Zf.r5]
 refine Ze rfl trivial (fun h=>by rw [hk] at h; simp at h) (fun _=>?_)
 refine Za (Zb (Zc ?_))
 simp only [Eqs,reduceIte,Zuq,Zf.r7]
 refine Ze rfl trivial (fun h=>by rw [hk] at h; simp at h) (fun _=>?_)
 refine Za (Zb (Zc ?_))
 simp only [Eqs,reduceIte,Zuq,Zf.r10]
 refine Ze rfl trivial (fun _=>?_) (fun h=>by rw [hk] at h; simp at h)
 refine Za (Zb (Zc ?_))
 simp only [Eqs,reduceIte,Zuq,Zur,Zus,Zf.r11]
 refine ZW rfl rfl rfl rfl rfl (by trivial) (by trivial) (by exact hsz) (Zc ?_)
 simp only [Eqs,reduceIte,Zuq]
 refine hret rfl (by first | trivial | simp) (YG ?_) (by first | exact Zuw _ | exact Zl (by first | trivial | assumption) | assumption | exact Zuy _ (by assumption))
 exact hS.symm
theorem Znv (d:Dfn) (at_ i:Nat) (m:Msg) (f:Fld) (ha:at_ < d.msgs.length) (hm:d.msgs.getD at_ default=m) (hi:i < m.fields.length) (hf:m.fields.getD i default=f) (h1000:at_≤1000) (hr:∀ j,j < at_→Zaw d j) (hk:f.kind=5):ZR Zuv Zf.id [.agg d.cells,.int .i64 at_,.int .i64 i] (.int .i64 (K1 d at_ m i f)):=by
 refine Z0 Zf.ok fun F st hret=>?_
 have hS:=K1.eq_1 d at_ m i f
 simp only [hk,Int.reduceEq,if_true,if_false] at hS
 have hsz:=QC m i hi
 rw [hf] at hsz
 refine Za (Zb (Zc ?_))
 simp only [Eqs,reduceCtorEq,reduceIte,Zuq,Zur,Zf.r0,ZuM,We,slD]
 refine Za (Zb (Zc ?_))
 simp only [Eqs,reduceIte,Zuq,Zur,Zus,Zf.r1,ZuG,hm]
 repeat (refine Zut (by first | omega | trivial | (intro h0; simp at h0; omega)) ?_)
 refine Za (Zb (Zc ?_))
 simp only [Eqs,reduceIte,Zuq,Zur,Zus,Zf.r2,ZuD,Yo,slD,hf]
 repeat (refine Zut (by first | omega | trivial | (intro h0; simp at h0; omega)) ?_)
 refine Za (Za (Zb (Zc ?_)))
 simp only [Eqs,reduceIte,Zuq,Zf.r3]
 refine Zj (Za (Za (Zb (Zc ?_))))
 simp only [Eqs,reduceIte,Zuq,Zf.r4]
 refine Ze rfl trivial (fun h=>by rw [hk] at h; simp at h) (fun _=>?_)
 refine Zb (Zc ?_)
 simp only [Eqs,reduceIte,Zuq,Zf.r5]
 refine Ze rfl trivial (fun h=>by rw [hk] at h; simp at h) (fun _=>?_)
 refine Za (Zb (Zc ?_))
 simp only [Eqs,reduceIte,Zuq,Zf.r7]
 refine Ze rfl trivial (fun h=>by rw [hk] at h; simp at h) (fun _=>?_)
 refine Za (Zb (Zc ?_))
 simp only [Eqs,reduceIte,Zuq,Zf.r10]
 refine Ze rfl trivial (fun h=>by rw [hk] at h; simp at h) (fun _=>?_)
 refine Za (Zb (Zc ?_))
 simp only [Eqs,reduceIte,Zuq,Zf.r12]
 refine Ze rfl trivial (fun _=>?_) (fun h=>by rw [hk] at h; simp at h)
 refine Za (Zb (Zc ?_))
 simp only [Eqs,reduceIte,Zuq,Zf.r13]
 rw [← Bool.or_assoc,← Bool.or_assoc] at hS
 refine Ze rfl trivial (fun h=>?_) (fun h=>?_)
 ·rw [h] at hS
  refine Za (Zb (Zc ?_))
  simp only [Eqs,reduceIte,Zuq,Zf.r14]
  refine hret rfl (by first | trivial | simp) (YG ?_) (by first | exact Zuw _ | exact Zl (by first | trivial | assumption) | assumption | exact Zuy _ (by assumption))
  exact hS.symm
 ·rw [h] at hS
  refine Zg (Zm (Za (Zb (Zc ?_))))
  simp only [Eqs,reduceIte,Zuq,Zf.r46]
  refine hret rfl (by first | trivial | simp) (YG ?_) (by first | exact Zuw _ | exact Zl (by first | trivial | assumption) | assumption | exact Zuy _ (by assumption))
  exact hS.symm
theorem Znw (d:Dfn) (at_ i:Nat) (m:Msg) (f:Fld) (ha:at_ < d.msgs.length) (hm:d.msgs.getD at_ default=m) (hi:i < m.fields.length) (hf:m.fields.getD i default=f) (h1000:at_≤1000) (hr:∀ j,j < at_→Zaw d j) (hk:f.kind=6):ZR Zuv Zf.id [.agg d.cells,.int .i64 at_,.int .i64 i] (.int .i64 (K1 d at_ m i f)):=by
 refine Z0 Zf.ok fun F st hret=>?_
 have hS:=K1.eq_1 d at_ m i f
 simp only [hk,Int.reduceEq,if_true,if_false] at hS
 have hsz:=QC m i hi
 rw [hf] at hsz
 refine Za (Zb (Zc ?_))
 simp only [Eqs,reduceCtorEq,reduceIte,Zuq,Zur,Zf.r0,ZuM,We,slD]
 refine Za (Zb (Zc ?_))
 simp only [Eqs,reduceIte,Zuq,Zur,Zus,Zf.r1,ZuG,hm]
 repeat (refine Zut (by first | omega | trivial | (intro h0; simp at h0; omega)) ?_)
 refine Za (Zb (Zc ?_))
 simp only [Eqs,reduceIte,Zuq,Zur,Zus,Zf.r2,ZuD,Yo,slD,hf]
 repeat (refine Zut (by first | omega | trivial | (intro h0; simp at h0; omega)) ?_)
 refine Za (Za (Zb (Zc ?_)))
 simp only [Eqs,reduceIte,Zuq,Zf.r3]
 refine Zj (Za (Za (Zb (Zc ?_))))
 simp only [Eqs,reduceIte,Zuq,Zf.r4]
 refine Ze rfl trivial (fun h=>by rw [hk] at h; simp at h) (fun _=>?_)
 refine Zb (Zc ?_)
 simp only [Eqs,reduceIte,Zuq,Zf.r5]
 refine Ze rfl trivial (fun h=>by rw [hk] at h; simp at h) (fun _=>?_)
 refine Za (Zb (Zc ?_))
 simp only [Eqs,reduceIte,Zuq,Zf.r7]
 refine Ze rfl trivial (fun h=>by rw [hk] at h; simp at h) (fun _=>?_)
 refine Za (Zb (Zc ?_))
 simp only [Eqs,reduceIte,Zuq,Zf.r10]
 refine Ze rfl trivial (fun h=>by rw [hk] at h; simp at h) (fun _=>?_)
 refine Za (Zb (Zc ?_))
 simp only [Eqs,reduceIte,Zuq,Zf.r12]
 refine Ze rfl trivial (fun h=>by rw [hk] at h; simp at h) (fun _=>?_)
 refine Za (Zb (Zc ?_))
 simp only [Eqs,reduceIte,Zuq,Zf.r15]
 refine Ze rfl trivial (fun _=>?_) (fun h=>by rw [hk] at h; simp at h)
 refine Za (Zb (Zc ?_))
 simp only [Eqs,reduceIte,Zuq,Zf.r16]
 refine Ze rfl trivial (fun h=>?_) (fun h=>?_)
 ·rw [h] at hS
  refine Za (Zb (Zc ?_))
  simp only [Eqs,reduceIte,Zuq,Zf.r17]
  refine hret rfl (by first | trivial | simp) (YG ?_) (by first | exact Zuw _ | exact Zl (by first | trivial | assumption) | assumption | exact Zuy _ (by assumption))
  exact hS.symm
 ·rw [h] at hS
  refine Zg (Zm (Za (Zb (Zc ?_))))
  simp only [Eqs,reduceIte,Zuq,Zf.r46]
  refine hret rfl (by first | trivial | simp) (YG ?_) (by first | exact Zuw _ | exact Zl (by first | trivial | assumption) | assumption | exact Zuy _ (by assumption))
  exact hS.symm
theorem Znx (d:Dfn) (at_ i:Nat) (m:Msg) (f:Fld) (ha:at_ < d.msgs.length) (hm:d.msgs.getD at_ default=m) (hi:i < m.fields.length) (hf:m.fields.getD i default=f) (h1000:at_≤1000) (hr:∀ j,j < at_→Zaw d j) (hk:f.kind=7):ZR Zuv Zf.id [.agg d.cells,.int .i64 at_,.int .i64 i] (.int .i64 (K1 d at_ m i f)):=by
 refine Z0 Zf.ok fun F st hret=>?_
 have hS:=K1.eq_1 d at_ m i f
 simp only [hk,Int.reduceEq,if_true,if_false] at hS
 have hsz:=QC m i hi
 rw [hf] at hsz
 refine Za (Zb (Zc ?_))
 simp only [Eqs,reduceCtorEq,reduceIte,Zuq,Zur,Zf.r0,ZuM,We,slD]
 refine Za (Zb (Zc ?_))
 simp only [Eqs,reduceIte,Zuq,Zur,Zus,Zf.r1,ZuG,hm]
 repeat (refine Zut (by first | omega | trivial | (intro h0; simp at h0; omega)) ?_)
 refine Za (Zb (Zc ?_))
 simp only [Eqs,reduceIte,Zuq,Zur,Zus,Zf.r2,ZuD,Yo,slD,hf]
 repeat (refine Zut (by first | omega | trivial | (intro h0; simp at h0; omega)) ?_)
 refine Za (Za (Zb (Zc ?_)))
 simp only [Eqs,reduceIte,Zuq,Zf.r3]
 refine Zj (Za (Za (Zb (Zc ?_))))
 simp only [Eqs,reduceIte,Zuq,Zf.r4]
 refine Ze rfl trivial (fun h=>by rw [hk] at h; simp at h) (fun _=>?_)
 refine Zb (Zc ?_)
 simp only [Eqs,reduceIte,Zuq,Zf.r5]
 refine Ze rfl trivial (fun h=>by rw [hk] at h; simp at h) (fun _=>?_)
 refine Za (Zb (Zc ?_))
 simp only [Eqs,reduceIte,Zuq,Zf.r7]
 refine Ze rfl trivial (fun h=>by rw [hk] at h; simp at h) (fun _=>?_)
 refine Za (Zb (Zc ?_))
 simp only [Eqs,reduceIte,Zuq,Zf.r10]
 refine Ze rfl trivial (fun h=>by rw [hk] at h; simp at h) (fun _=>?_)
 refine Za (Zb (Zc ?_))
 simp only [Eqs,reduceIte,Zuq,Zf.r12]
 refine Ze rfl trivial (fun h=>by rw [hk] at h; simp at h) (fun _=>?_)
 refine Za (Zb (Zc ?_))
 simp only [Eqs,reduceIte,Zuq,Zf.r15]
 refine Ze rfl trivial (fun h=>by rw [hk] at h; simp at h) (fun _=>?_)
 refine Za (Zb (Zc ?_))
 simp only [Eqs,reduceIte,Zuq,Zf.r18]
 refine Ze rfl trivial (fun _=>?_) (fun h=>by rw [hk] at h; simp at h)
 refine Za (Za (Zb (Zc ?_)))
 simp only [Eqs,reduceIte,Zuq,Zur,Zus,Zf.r19]
 refine ZW rfl rfl rfl rfl rfl (by trivial) (by trivial) (by exact Jj d f.of at_ (by omega)) (Zc ?_)
 simp only [Eqs,reduceIte,Zuq]
 refine Ze rfl trivial (fun h=>?_) (fun h=>?_)
 ·rw [if_pos (of_decide_eq_true h)] at hS
  refine Za (Zb (Zc ?_))
  simp only [Eqs,reduceIte,Zuq,Zf.r20]
  refine hret rfl (by first | trivial | simp) (YG ?_) (by first | exact Zuw _ | exact Zl (by first | trivial | assumption) | assumption | exact Zuy _ (by assumption))
  exact hS.symm
 ·rw [if_neg (of_decide_eq_false h)] at hS
  refine Zg (Za (Zb (Zc ?_)))
  simp only [Eqs,reduceIte,Zuq,Zur,Zus,Zf.r21]
  refine ZW rfl rfl rfl rfl rfl (by trivial) (by trivial) (by exact hsz) (Zc ?_)
  simp only [Eqs,reduceIte,Zuq]
  refine hret rfl (by first | trivial | simp) (YG ?_) (by first | exact Zuw _ | exact Zl (by first | trivial | assumption) | assumption | exact Zuy _ (by assumption))
  exact hS.symm
theorem Zny (d:Dfn) (at_ i:Nat) (m:Msg) (f:Fld) (ha:at_ < d.msgs.length) (hm:d.msgs.getD at_ default=m) (hi:i < m.fields.length) (hf:m.fields.getD i default=f) (h1000:at_≤1000) (hr:∀ j,j < at_→Zaw d j) (hk:f.kind=8):ZR Zuv Zf.id [.agg d.cells,.int .i64 at_,.int .i64 i] (.int .i64 (K1 d at_ m i f)):=by
 refine Z0 Zf.ok fun F st hret=>?_
 have hS:=K1.eq_1 d at_ m i f
 simp only [hk,Int.reduceEq,if_true,if_false] at hS
 have hsz:=QC m i hi
 rw [hf] at hsz
 refine Za (Zb (Zc ?_))
 simp only [Eqs,reduceCtorEq,reduceIte,Zuq,Zur,Zf.r0,ZuM,We,slD]
 refine Za (Zb (Zc ?_))
 simp only [Eqs,reduceIte,Zuq,Zur,Zus,Zf.r1,ZuG,hm]
 repeat (refine Zut (by first | omega | trivial | (intro h0; simp at h0; omega)) ?_)
 refine Za (Zb (Zc ?_))
 simp only [Eqs,reduceIte,Zuq,Zur,Zus,Zf.r2,ZuD,Yo,slD,hf]
 repeat (refine Zut (by first | omega | trivial | (intro h0; simp at h0; omega)) ?_)
 refine Za (Za (Zb (Zc ?_)))
 simp only [Eqs,reduceIte,Zuq,Zf.r3]
 refine Zj (Za (Za (Zb (Zc ?_))))
 simp only [Eqs,reduceIte,Zuq,Zf.r4]
 refine Ze rfl trivial (fun h=>by rw [hk] at h; simp at h) (fun _=>?_)
 refine Zb (Zc ?_)
 simp only [Eqs,reduceIte,Zuq,Zf.r5]
 refine Ze rfl trivial (fun h=>by rw [hk] at h; simp at h) (fun _=>?_)
 refine Za (Zb (Zc ?_))
 simp only [Eqs,reduceIte,Zuq,Zf.r7]
 refine Ze rfl trivial (fun h=>by rw [hk] at h; simp at h) (fun _=>?_)
 refine Za (Zb (Zc ?_))
 simp only [Eqs,reduceIte,Zuq,Zf.r10]
 refine Ze rfl trivial (fun h=>by rw [hk] at h; simp at h) (fun _=>?_)
 refine Za (Zb (Zc ?_))
 simp only [Eqs,reduceIte,Zuq,Zf.r12]
 refine Ze rfl trivial (fun h=>by rw [hk] at h; simp at h) (fun _=>?_)
 refine Za (Zb (Zc ?_))
 simp only [Eqs,reduceIte,Zuq,Zf.r15]
 refine Ze rfl trivial (fun h=>by rw [hk] at h; simp at h) (fun _=>?_)
 refine Za (Zb (Zc ?_))
 simp only [Eqs,reduceIte,Zuq,Zf.r18]
 refine Ze rfl trivial (fun h=>by rw [hk] at h; simp at h) (fun _=>?_)
 refine Za (Zb (Zc ?_))
 simp only [Eqs,reduceIte,Zuq,Zf.r22]
 refine Ze rfl trivial (fun _=>?_) (fun h=>by rw [hk] at h; simp at h)
 refine Za (Zb (Zc ?_))
 simp only [Eqs,reduceIte,Zuq,Zur,Zus,Zf.r23]
 refine ZW rfl rfl rfl rfl rfl (by trivial) (by trivial) (by exact Jj d f.of at_ (by omega)) (Zc ?_)
 simp only [Eqs,reduceIte,Zuq]
 refine Ze rfl trivial (fun h=>?_) (fun h=>?_)
 ·rw [if_pos (of_decide_eq_true h)] at hS
  refine Za (Zb (Zc ?_))
  simp only [Eqs,reduceIte,Zuq,Zf.r24]
  refine hret rfl (by first | trivial | simp) (YG ?_) (by first | exact Zuw _ | exact Zl (by first | trivial | assumption) | assumption | exact Zuy _ (by assumption))
  exact hS.symm
 ·rw [if_neg (of_decide_eq_false h)] at hS
  refine Zg (Zm (Za (Zb (Zc ?_))))
  simp only [Eqs,reduceIte,Zuq,Zf.r46]
  refine hret rfl (by first | trivial | simp) (YG ?_) (by first | exact Zuw _ | exact Zl (by first | trivial | assumption) | assumption | exact Zuy _ (by assumption))
  exact hS.symm
theorem Znz (d:Dfn) (at_ i:Nat) (m:Msg) (f:Fld) (ha:at_ < d.msgs.length) (hm:d.msgs.getD at_ default=m) (hi:i < m.fields.length) (hf:m.fields.getD i default=f) (h1000:at_≤1000) (hr:∀ j,j < at_→Zaw d j) (hk:f.kind=9):ZR Zuv Zf.id [.agg d.cells,.int .i64 at_,.int .i64 i] (.int .i64 (K1 d at_ m i f)):=by
 refine Z0 Zf.ok fun F st hret=>?_
 have hS:=K1.eq_1 d at_ m i f
 simp only [hk,Int.reduceEq,if_true,if_false] at hS
 have hsz:=QC m i hi
 rw [hf] at hsz
 refine Za (Zb (Zc ?_))
 simp only [Eqs,reduceCtorEq,reduceIte,Zuq,Zur,Zf.r0,ZuM,We,slD]
 refine Za (Zb (Zc ?_))
 simp only [Eqs,reduceIte,Zuq,Zur,Zus,Zf.r1,ZuG,hm]
 repeat (refine Zut (by first | omega | trivial | (intro h0; simp at h0; omega)) ?_)
 refine Za (Zb (Zc ?_))
 simp only [Eqs,reduceIte,Zuq,Zur,Zus,Zf.r2,ZuD,Yo,slD,hf]
 repeat (refine Zut (by first | omega | trivial | (intro h0; simp at h0; omega)) ?_)
 refine Za (Za (Zb (Zc ?_)))
 simp only [Eqs,reduceIte,Zuq,Zf.r3]
 refine Zj (Za (Za (Zb (Zc ?_))))
 simp only [Eqs,reduceIte,Zuq,Zf.r4]
 refine Ze rfl trivial (fun h=>by rw [hk] at h; simp at h) (fun _=>?_)
 refine Zb (Zc ?_)
 simp only [Eqs,reduceIte,Zuq,Zf.r5]
 refine Ze rfl trivial (fun h=>by rw [hk] at h; simp at h) (fun _=>?_)
 refine Za (Zb (Zc ?_))
 simp only [Eqs,reduceIte,Zuq,Zf.r7]
 refine Ze rfl trivial (fun h=>by rw [hk] at h; simp at h) (fun _=>?_)
 refine Za (Zb (Zc ?_))
 simp only [Eqs,reduceIte,Zuq,Zf.r10]
 refine Ze rfl trivial (fun h=>by rw [hk] at h; simp at h) (fun _=>?_)
 refine Za (Zb (Zc ?_))
 simp only [Eqs,reduceIte,Zuq,Zf.r12]
 refine Ze rfl trivial (fun h=>by rw [hk] at h; simp at h) (fun _=>?_)
 refine Za (Zb (Zc ?_))
 simp only [Eqs,reduceIte,Zuq,Zf.r15]
 refine Ze rfl trivial (fun h=>by rw [hk] at h; simp at h) (fun _=>?_)
 refine Za (Zb (Zc ?_))
 simp only [Eqs,reduceIte,Zuq,Zf.r18]
 refine Ze rfl trivial (fun h=>by rw [hk] at h; simp at h) (fun _=>?_)
 refine Za (Zb (Zc ?_))
 simp only [Eqs,reduceIte,Zuq,Zf.r22]
 refine Ze rfl trivial (fun h=>by rw [hk] at h; simp at h) (fun _=>?_)
 refine Za (Zb (Zc ?_))
 simp only [Eqs,reduceIte,Zuq,Zf.r25]
 refine Ze rfl trivial (fun _=>?_) (fun h=>by rw [hk] at h; simp at h)
 refine Za (Zb (Zc ?_))
 simp only [Eqs,reduceIte,Zuq,Zur,Zus,Zf.r26]
 refine ZW rfl rfl rfl rfl rfl (by trivial) (by trivial) (by exact Zc0 m f.tag i (by omega)) (Zc ?_)
 simp only [Eqs,reduceIte,Zuq]
 have hge:=Za6 (fun g=>decide (g.name=f.tag)) (m.fields.take i)
 have hlt:=Zaa (fun g=>decide (g.name=f.tag)) (m.fields.take i)
 rw [List.length_take] at hlt
 rw [show Z7 (fun g=>decide (g.name=f.tag)) (m.fields.take i)=Jl m f.tag i from rfl] at hge hlt
 unfold ZeX at hS
 generalize Jl m f.tag i=q at *
 refine Za (Za (Zb (Zc ?_)))
 simp only [Eqs,reduceIte,Zuq,Zur,Zus,Zf.r27]
 repeat (refine Zut (by first | omega | trivial | (intro h0; simp at h0; omega)) ?_)
 refine KA rfl rfl rfl rfl rfl (fun hcg=>⟨by first | trivial | (simpa [Qu] using hcg),trivial,Zd6 (m.fields.getD q.toNat default)⟩) (Zc ?_)
 simp only [Eqs,reduceIte,Zuq,Zur,Zus]
 repeat (refine Zut (by first | omega | trivial | (intro h0; simp at h0; omega)) ?_)
 refine KA rfl rfl rfl rfl rfl (fun hcg=>⟨by first | trivial | (simpa [Qu] using hcg),trivial,ZlG m f.tag i (by omega)⟩) (Zc ?_)
 simp only [Eqs,reduceIte,Zuq]
 repeat (refine Zut (by first | omega | trivial | (intro h0; simp at h0; omega)) ?_)
 rw [← Bool.or_assoc] at hS
 refine Ze rfl trivial (fun h=>?_) (fun h=>?_)
 ·rw [h] at hS
  refine Za (Zb (Zc ?_))
  simp only [Eqs,reduceIte,Zuq,Zf.r28]
  refine hret rfl (by first | trivial | simp) (YG ?_) (by first | exact Zuw _ | exact Zl (by first | trivial | assumption) | assumption | exact Zuy _ (by assumption))
  exact hS.symm
 ·rw [h] at hS
  have hq:¬ q < 0:=by intro hq; rw [decide_eq_true hq] at h; simp at h
  refine Zg (Za (Zb (Zc ?_)))
  simp only [Eqs,reduceIte,Zuq,Zur,Zus,Zf.r29]
  repeat (refine Zut (by first | omega | trivial | (intro h0; simp at h0; omega)) ?_)
  refine ZW rfl rfl rfl rfl rfl (by trivial) (by trivial) (by exact ZeG (m.fields.getD q.toNat default)) (Zc ?_)
  simp only [Eqs,reduceIte,Zuq]
  refine Za (Zb (Zc ?_))
  simp only [Eqs,reduceIte,Zuq,Zur,Zus,Zf.r30]
  refine ZW rfl rfl rfl rfl rfl (by trivial) (by trivial) (by exact ZmQ d at_ f _ _ (by omega)) (Zc ?_)
  simp only [Eqs,reduceIte,Zuq]
  refine hret rfl (by first | trivial | simp) (YG ?_) (by first | exact Zuw _ | exact Zl (by first | trivial | assumption) | assumption | exact Zuy _ (by assumption))
  exact hS.symm
theorem ZmS (d:Dfn) (at_ i:Nat) (m:Msg) (f:Fld) (ha:at_ < d.msgs.length) (hm:d.msgs.getD at_ default=m) (hi:i < m.fields.length) (hf:m.fields.getD i default=f) (h1000:at_≤1000) (hr:∀ j,j < at_→Zaw d j) (hk:f.kind=10):ZR Zuv Zf.id [.agg d.cells,.int .i64 at_,.int .i64 i] (.int .i64 (K1 d at_ m i f)):=by
 refine Z0 Zf.ok fun F st hret=>?_
 have hS:=K1.eq_1 d at_ m i f
 simp only [hk,Int.reduceEq,if_true,if_false] at hS
 have hsz:=QC m i hi
 rw [hf] at hsz
 refine Za (Zb (Zc ?_))
 simp only [Eqs,reduceCtorEq,reduceIte,Zuq,Zur,Zf.r0,ZuM,We,slD]
 refine Za (Zb (Zc ?_))
 simp only [Eqs,reduceIte,Zuq,Zur,Zus,Zf.r1,ZuG,hm]
 repeat (refine Zut (by first | omega | trivial | (intro h0; simp at h0; omega)) ?_)
 refine Za (Zb (Zc ?_))
 simp only [Eqs,reduceIte,Zuq,Zur,Zus,Zf.r2,ZuD,Yo,slD,hf]
 repeat (refine Zut (by first | omega | trivial | (intro h0; simp at h0; omega)) ?_)
 refine Za (Za (Zb (Zc ?_)))
 simp only [Eqs,reduceIte,Zuq,Zf.r3]
 refine Zj (Za (Za (Zb (Zc ?_))))
 simp only [Eqs,reduceIte,Zuq,Zf.r4]
 refine Ze rfl trivial (fun h=>by rw [hk] at h; simp at h) (fun _=>?_)
 refine Zb (Zc ?_)
 simp only [Eqs,reduceIte,Zuq,Zf.r5]
 refine Ze rfl trivial (fun h=>by rw [hk] at h; simp at h) (fun _=>?_)
 refine Za (Zb (Zc ?_))
 simp only [Eqs,reduceIte,Zuq,Zf.r7]
 refine Ze rfl trivial (fun h=>by rw [hk] at h; simp at h) (fun _=>?_)
 refine Za (Zb (Zc ?_))
 simp only [Eqs,reduceIte,Zuq,Zf.r10]
 refine Ze rfl trivial (fun h=>by rw [hk] at h; simp at h) (fun _=>?_)
 refine Za (Zb (Zc ?_))
 simp only [Eqs,reduceIte,Zuq,Zf.r12]
 refine Ze rfl trivial (fun h=>by rw [hk] at h; simp at h) (fun _=>?_)
 refine Za (Zb (Zc ?_))
 simp only [Eqs,reduceIte,Zuq,Zf.r15]
 refine Ze rfl trivial (fun h=>by rw [hk] at h; simp at h) (fun _=>?_)
 refine Za (Zb (Zc ?_))
 simp only [Eqs,reduceIte,Zuq,Zf.r18]
 refine Ze rfl trivial (fun h=>by rw [hk] at h; simp at h) (fun _=>?_)
 refine Za (Zb (Zc ?_))
 simp only [Eqs,reduceIte,Zuq,Zf.r22]
 refine Ze rfl trivial (fun h=>by rw [hk] at h; simp at h) (fun _=>?_)
 refine Za (Zb (Zc ?_))
 simp only [Eqs,reduceIte,Zuq,Zf.r25]
 refine Ze rfl trivial (fun h=>by rw [hk] at h; simp at h) (fun _=>?_)
 refine Za (Zb (Zc ?_))
 simp only [Eqs,reduceIte,Zuq,Zf.r31]
 refine Ze rfl trivial (fun _=>?_) (fun h=>by rw [hk] at h; simp at h)
 refine Za (Zb (Zc ?_))
 simp only [Eqs,reduceIte,Zuq,Zf.r32]
 have ht1:=Int.tmod_lt_of_pos f.bits (show (0:Int) < 8 by decide)
 have ht2:=Int.lt_tmod_of_pos f.bits (show (0:Int) < 8 by decide)
 repeat (refine Zut (by first | omega | trivial | (intro h0; simp at h0; omega) | (intro _; omega)) ?_)
 have hpb:Zj8 f=(!decide (f.bits=2) && !decide (f.bits=4) && (decide (f.bits < 8) || decide (512 < f.bits) || !decide (Int.tmod f.bits 8=0))):=by simp only [Zj8,Bool.or_assoc,Bool.and_assoc]
 rw [hpb] at hS
 refine Ze rfl trivial (fun h=>?_) (fun h=>?_)
 ·rw [h] at hS
  refine Za (Zb (Zc ?_))
  simp only [Eqs,reduceIte,Zuq,Zf.r33]
  refine hret rfl (by first | trivial | simp) (YG ?_) (by first | exact Zuw _ | exact Zl (by first | trivial | assumption) | assumption | exact Zuy _ (by assumption))
  exact hS.symm
 ·rw [h] at hS
  refine Zg (Zm (Za (Zb (Zc ?_))))
  simp only [Eqs,reduceIte,Zuq,Zf.r46]
  refine hret rfl (by first | trivial | simp) (YG ?_) (by first | exact Zuw _ | exact Zl (by first | trivial | assumption) | assumption | exact Zuy _ (by assumption))
  exact hS.symm
theorem ZmT (d:Dfn) (at_ i:Nat) (m:Msg) (f:Fld) (ha:at_ < d.msgs.length) (hm:d.msgs.getD at_ default=m) (hi:i < m.fields.length) (hf:m.fields.getD i default=f) (h1000:at_≤1000) (hr:∀ j,j < at_→Zaw d j) (hk:f.kind=11):ZR Zuv Zf.id [.agg d.cells,.int .i64 at_,.int .i64 i] (.int .i64 (K1 d at_ m i f)):=by
 refine Z0 Zf.ok fun F st hret=>?_
 have hS:=K1.eq_1 d at_ m i f
 simp only [hk,Int.reduceEq,if_true,if_false] at hS
 have hsz:=QC m i hi
 rw [hf] at hsz
 refine Za (Zb (Zc ?_))
 simp only [Eqs,reduceCtorEq,reduceIte,Zuq,Zur,Zf.r0,ZuM,We,slD]
 refine Za (Zb (Zc ?_))
 simp only [Eqs,reduceIte,Zuq,Zur,Zus,Zf.r1,ZuG,hm]
 repeat (refine Zut (by first | omega | trivial | (intro h0; simp at h0; omega)) ?_)
 refine Za (Zb (Zc ?_))
 simp only [Eqs,reduceIte,Zuq,Zur,Zus,Zf.r2,ZuD,Yo,slD,hf]
 repeat (refine Zut (by first | omega | trivial | (intro h0; simp at h0; omega)) ?_)
 refine Za (Za (Zb (Zc ?_)))
 simp only [Eqs,reduceIte,Zuq,Zf.r3]
 refine Zj (Za (Za (Zb (Zc ?_))))
 simp only [Eqs,reduceIte,Zuq,Zf.r4]
 refine Ze rfl trivial (fun h=>by rw [hk] at h; simp at h) (fun _=>?_)
 refine Zb (Zc ?_)
 simp only [Eqs,reduceIte,Zuq,Zf.r5]
 refine Ze rfl trivial (fun h=>by rw [hk] at h; simp at h) (fun _=>?_)
 refine Za (Zb (Zc ?_))
 simp only [Eqs,reduceIte,Zuq,Zf.r7]
 refine Ze rfl trivial (fun h=>by rw [hk] at h; simp at h) (fun _=>?_)
 refine Za (Zb (Zc ?_))
 simp only [Eqs,reduceIte,Zuq,Zf.r10]
 refine Ze rfl trivial (fun h=>by rw [hk] at h; simp at h) (fun _=>?_)
 refine Za (Zb (Zc ?_))
 simp only [Eqs,reduceIte,Zuq,Zf.r12]
 refine Ze rfl trivial (fun h=>by rw [hk] at h; simp at h) (fun _=>?_)
 refine Za (Zb (Zc ?_))
 simp only [Eqs,reduceIte,Zuq,Zf.r15]
 refine Ze rfl trivial (fun h=>by rw [hk] at h; simp at h) (fun _=>?_)
 refine Za (Zb (Zc ?_))
 simp only [Eqs,reduceIte,Zuq,Zf.r18]
 refine Ze rfl trivial (fun h=>by rw [hk] at h; simp at h) (fun _=>?_)
 refine Za (Zb (Zc ?_))
 simp only [Eqs,reduceIte,Zuq,Zf.r22]
 refine Ze rfl trivial (fun h=>by rw [hk] at h; simp at h) (fun _=>?_)
 refine Za (Zb (Zc ?_))
 simp only [Eqs,reduceIte,Zuq,Zf.r25]
 refine Ze rfl trivial (fun h=>by rw [hk] at h; simp at h) (fun _=>?_)
 refine Za (Zb (Zc ?_))
 simp only [Eqs,reduceIte,Zuq,Zf.r31]
 refine Ze rfl trivial (fun h=>by rw [hk] at h; simp at h) (fun _=>?_)
 refine Za (Zb (Zc ?_))
 simp only [Eqs,reduceIte,Zuq,Zf.r34]
 refine Ze rfl trivial (fun _=>?_) (fun h=>by rw [hk] at h; simp at h)
 refine Za (Za (Zb (Zc ?_)))
 simp only [Eqs,reduceIte,Zuq,Zf.r35]
 refine Ze rfl trivial (fun h=>?_) (fun h=>?_)
 ·rw [h] at hS
  refine Za (Zb (Zc ?_))
  simp only [Eqs,reduceIte,Zuq,Zf.r36]
  refine hret rfl (by first | trivial | simp) (YG ?_) (by first | exact Zuw _ | exact Zl (by first | trivial | assumption) | assumption | exact Zuy _ (by assumption))
  exact hS.symm
 ·rw [h,if_neg (by decide)] at hS
  refine Zg (Za (Zb (Zc ?_)))
  simp only [Eqs,reduceIte,Zuq,Zur,Zus,Zf.r37]
  refine ZW rfl rfl rfl rfl rfl (by trivial) (by trivial) (by exact Zc0 m f.from_ i (by omega)) (Zc ?_)
  simp only [Eqs,reduceIte,Zuq]
  refine Ze rfl trivial (fun h2=>?_) (fun h2=>?_)
  ·rw [if_pos (of_decide_eq_true h2)] at hS
   refine Za (Zb (Zc ?_))
   simp only [Eqs,reduceIte,Zuq,Zf.r38]
   refine hret rfl (by first | trivial | simp) (YG ?_) (by first | exact Zuw _ | exact Zl (by first | trivial | assumption) | assumption | exact Zuy _ (by assumption))
   exact hS.symm
  ·rw [if_neg (of_decide_eq_false h2)] at hS
   refine Zg (Zm (Za (Zb (Zc ?_))))
   simp only [Eqs,reduceIte,Zuq,Zf.r46]
   refine hret rfl (by first | trivial | simp) (YG ?_) (by first | exact Zuw _ | exact Zl (by first | trivial | assumption) | assumption | exact Zuy _ (by assumption))
   exact hS.symm
theorem ZmU (d:Dfn) (at_ i:Nat) (m:Msg) (f:Fld) (ha:at_ < d.msgs.length) (hm:d.msgs.getD at_ default=m) (hi:i < m.fields.length) (hf:m.fields.getD i default=f) (h1000:at_≤1000) (hr:∀ j,j < at_→Zaw d j) (hk:f.kind=12):ZR Zuv Zf.id [.agg d.cells,.int .i64 at_,.int .i64 i] (.int .i64 (K1 d at_ m i f)):=by
 refine Z0 Zf.ok fun F st hret=>?_
 have hS:=K1.eq_1 d at_ m i f
 simp only [hk,Int.reduceEq,if_true,if_false] at hS
 have hsz:=QC m i hi
 rw [hf] at hsz
 refine Za (Zb (Zc ?_))
 simp only [Eqs,reduceCtorEq,reduceIte,Zuq,Zur,Zf.r0,ZuM,We,slD]
 refine Za (Zb (Zc ?_))
 simp only [Eqs,reduceIte,Zuq,Zur,Zus,Zf.r1,ZuG,hm]
 repeat (refine Zut (by first | omega | trivial | (intro h0; simp at h0; omega)) ?_)
 refine Za (Zb (Zc ?_))
 simp only [Eqs,reduceIte,Zuq,Zur,Zus,Zf.r2,ZuD,Yo,slD,hf]
 repeat (refine Zut (by first | omega | trivial | (intro h0; simp at h0; omega)) ?_)
 refine Za (Za (Zb (Zc ?_)))
 simp only [Eqs,reduceIte,Zuq,Zf.r3]
 refine Zj (Za (Za (Zb (Zc ?_))))
 simp only [Eqs,reduceIte,Zuq,Zf.r4]
 refine Ze rfl trivial (fun h=>by rw [hk] at h; simp at h) (fun _=>?_)
 refine Zb (Zc ?_)
 simp only [Eqs,reduceIte,Zuq,Zf.r5]
 refine Ze rfl trivial (fun h=>by rw [hk] at h; simp at h) (fun _=>?_)
 refine Za (Zb (Zc ?_))
 simp only [Eqs,reduceIte,Zuq,Zf.r7]
 refine Ze rfl trivial (fun h=>by rw [hk] at h; simp at h) (fun _=>?_)
 refine Za (Zb (Zc ?_))
 simp only [Eqs,reduceIte,Zuq,Zf.r10]
 refine Ze rfl trivial (fun h=>by rw [hk] at h; simp at h) (fun _=>?_)
 refine Za (Zb (Zc ?_))
 simp only [Eqs,reduceIte,Zuq,Zf.r12]
 refine Ze rfl trivial (fun h=>by rw [hk] at h; simp at h) (fun _=>?_)
 refine Za (Zb (Zc ?_))
 simp only [Eqs,reduceIte,Zuq,Zf.r15]
 refine Ze rfl trivial (fun h=>by rw [hk] at h; simp at h) (fun _=>?_)
 refine Za (Zb (Zc ?_))
 simp only [Eqs,reduceIte,Zuq,Zf.r18]
 refine Ze rfl trivial (fun h=>by rw [hk] at h; simp at h) (fun _=>?_)
 refine Za (Zb (Zc ?_))
 simp only [Eqs,reduceIte,Zuq,Zf.r22]
 refine Ze rfl trivial (fun h=>by rw [hk] at h; simp at h) (fun _=>?_)
 refine Za (Zb (Zc ?_))
 simp only [Eqs,reduceIte,Zuq,Zf.r25]
 refine Ze rfl trivial (fun h=>by rw [hk] at h; simp at h) (fun _=>?_)
 refine Za (Zb (Zc ?_))
 simp only [Eqs,reduceIte,Zuq,Zf.r31]
 refine Ze rfl trivial (fun h=>by rw [hk] at h; simp at h) (fun _=>?_)
 refine Za (Zb (Zc ?_))
 simp only [Eqs,reduceIte,Zuq,Zf.r34]
 refine Ze rfl trivial (fun h=>by rw [hk] at h; simp at h) (fun _=>?_)
 refine Za (Zb (Zc ?_))
 simp only [Eqs,reduceIte,Zuq,Zf.r39]
 refine Ze rfl trivial (fun _=>?_) (fun h=>by rw [hk] at h; simp at h)
 refine Za (Za (Zb (Zc ?_)))
 simp only [Eqs,reduceIte,Zuq,Zf.r40]
 refine Ze rfl trivial (fun h=>?_) (fun h=>?_)
 ·rw [h] at hS
  refine Za (Zb (Zc ?_))
  simp only [Eqs,reduceIte,Zuq,Zf.r41]
  refine hret rfl (by first | trivial | simp) (YG ?_) (by first | exact Zuw _ | exact Zl (by first | trivial | assumption) | assumption | exact Zuy _ (by assumption))
  exact hS.symm
 ·rw [h,if_neg (by decide)] at hS
  refine Zg (Za (Zb (Zc ?_)))
  simp only [Eqs,reduceIte,Zuq,Zur,Zus,Zf.r42]
  refine ZW rfl rfl rfl rfl rfl (by trivial) (by trivial) (by exact Jj d f.of at_ (by omega)) (Zc ?_)
  simp only [Eqs,reduceIte,Zuq]
  have hge:=Za6 (fun g=>decide (g.name=f.of)) (d.msgs.take at_)
  have hlt:=Zaa (fun g=>decide (g.name=f.of)) (d.msgs.take at_)
  rw [List.length_take] at hlt
  rw [show Z7 (fun g=>decide (g.name=f.of)) (d.msgs.take at_)=Z6 d f.of at_ from rfl] at hge hlt
  unfold Zh3 at hS
  generalize Z6 d f.of at_=q at *
  have hsl:=ZaO d at_
  refine Za (Za (Zb (Zc ?_)))
  simp only [Eqs,reduceIte,Zuq,Zur,Zus,Zf.r43]
  refine KA rfl rfl rfl rfl rfl (fun hcg=>⟨by first | trivial | (simpa [Qu] using hcg),trivial,ZkE d at_ (by omega) (by omega) hr⟩) (Zc ?_)
  simp only [Eqs,reduceIte,Zuq,ZdM,slD]
  rw [hsl]
  refine Zut (fun h=>by simp at h; omega) ?_
  refine Ze rfl trivial (fun h2=>?_) (fun h2=>?_)
  ·rw [h2] at hS
   refine Za (Zb (Zc ?_))
   simp only [Eqs,reduceIte,Zuq,Zf.r44]
   refine hret rfl (by first | trivial | simp) (YG ?_) (by first | exact Zuw _ | exact Zl (by first | trivial | assumption) | assumption | exact Zuy _ (by assumption))
   exact hS.symm
  ·rw [h2] at hS
   refine Zg (Za (Zb (Zc ?_)))
   simp only [Eqs,reduceIte,Zuq,Zur,Zus,Zf.r45]
   refine ZW rfl rfl rfl rfl rfl (by trivial) (by trivial) (by exact hsz) (Zc ?_)
   simp only [Eqs,reduceIte,Zuq]
   refine hret rfl (by first | trivial | simp) (YG ?_) (by first | exact Zuw _ | exact Zl (by first | trivial | assumption) | assumption | exact Zuy _ (by assumption))
   exact hS.symm
end Go.DL
namespace Go.DL
open Go Go.Proofs
theorem ZmV (d:Dfn) (at_ i:Nat) (m:Msg) (f:Fld) (ha:at_ < d.msgs.length) (hm:d.msgs.getD at_ default=m) (hi:i < m.fields.length) (hf:m.fields.getD i default=f) (h1000:at_≤1000) (hr:∀ j,j < at_→Zaw d j) (h1:1≤f.kind) (h12:f.kind≤12):ZR Zuv Zf.id [.agg d.cells,.int .i64 at_,.int .i64 i] (.int .i64 (K1 d at_ m i f)):=by
 have:f.kind=1∨f.kind=2∨f.kind=3∨f.kind=4∨f.kind=5∨f.kind=6∨f.kind=7∨f.kind=8∨f.kind=9∨f.kind=10∨f.kind=11∨f.kind=12:=by omega
 rcases this with h | h | h | h | h | h | h | h | h | h | h | h
 ·exact Znr d at_ i m f ha hm hi hf h1000 hr h
 ·exact Zns d at_ i m f ha hm hi hf h1000 hr h
 ·exact Znt d at_ i m f ha hm hi hf h1000 hr h
 ·exact Znu d at_ i m f ha hm hi hf h1000 hr h
 ·exact Znv d at_ i m f ha hm hi hf h1000 hr h
 ·exact Znw d at_ i m f ha hm hi hf h1000 hr h
 ·exact Znx d at_ i m f ha hm hi hf h1000 hr h
 ·exact Zny d at_ i m f ha hm hi hf h1000 hr h
 ·exact Znz d at_ i m f ha hm hi hf h1000 hr h
 ·exact ZmS d at_ i m f ha hm hi hf h1000 hr h
 ·exact ZmT d at_ i m f ha hm hi hf h1000 hr h
 ·exact ZmU d at_ i m f ha hm hi hf h1000 hr h
def Je (d:Dfn) (at_:Nat) (m:Msg) (i:Nat) (f:Fld):Int :=
 if K0 f.name=false then 1 else if 0≤Jl m f.name i then 2 else if decide (f.kind < 1) || decide (12 < f.kind) then 4 else if Zci f=false then 5 else K1 d at_ m i f
theorem ZmR (d:Dfn) (at_ i:Nat) (m:Msg) (f:Fld) (ha:at_ < d.msgs.length) (hm:d.msgs.getD at_ default=m) (hi:i < m.fields.length) (hf:m.fields.getD i default=f) (h1000:at_≤1000) (hr:∀ j,j < at_→Zaw d j):ZR Zuv YK.id [.agg d.cells,.int .i64 at_,.int .i64 i] (.int .i64 (Je d at_ m i f)):=by
 refine Z0 YK.ok fun F st hret=>?_
 have hS:=Je.eq_1 d at_ m i f
 refine Za (Zb (Zc ?_))
 simp only [Eqs,reduceCtorEq,reduceIte,Zuq,Zur,YK.r0,ZuM,We,slD]
 refine Za (Zb (Zc ?_))
 simp only [Eqs,reduceIte,Zuq,Zur,Zus,YK.r1,ZuG,ZuD,Yo,slD,hm,hf]
 repeat (refine Zut (by first | omega | trivial | (intro h0; simp at h0; omega)) ?_)
 refine Za (Za (Zb (Zc ?_)))
 simp only [Eqs,reduceIte,Zuq,YK.r2]
 refine ZW rfl rfl rfl rfl rfl (by trivial) (by trivial) (by exact ZdE f.name) (Zc ?_)
 simp only [Eqs,reduceIte,Zuq]
 refine Ze rfl trivial (fun h=>?_) (fun h=>?_)
 ·rw [if_pos (by simpa using h)] at hS
  refine Za (Zb (Zc ?_))
  simp only [Eqs,reduceIte,Zuq,YK.r3]
  refine hret rfl (by first | trivial | simp) (YG ?_) (by first | exact Zuw _ | exact Zl (by first | trivial | assumption) | assumption | exact Zuy _ (by assumption))
  exact hS.symm
 ·rw [if_neg (by simpa using h)] at hS
  refine Zg (Za (Za (WB (Wj ?_))))
  simp only [Eqs,reduceIte,Zuq,Zur,Zus,YK.r4,hm]
  repeat (refine Zut (by first | omega | trivial | (intro h0; simp at h0; omega)) ?_)
  refine ZfO rfl rfl rfl rfl rfl (by trivial) (by trivial) (by exact Zc0 m f.name i (by omega)) (Wj ?_)
  simp only [Eqs,reduceIte,Zuq]
  refine Ze rfl trivial (fun h2=>?_) (fun h2=>?_)
  ·rw [if_pos (of_decide_eq_true h2)] at hS
   refine Za (Zb (Zc ?_))
   simp only [Eqs,reduceIte,Zuq,YK.r5]
   refine hret rfl (by first | trivial | simp) (YG ?_) (by first | exact Zuw _ | exact Zl (by first | trivial | assumption) | assumption | exact Zuy _ (by assumption))
   exact hS.symm
  ·rw [if_neg (of_decide_eq_false h2)] at hS
   refine Zg (Za (Za (Zb (Zc ?_))))
   simp only [Eqs,reduceIte,Zuq,YK.r6]
   refine Ze rfl trivial (fun h3=>?_) (fun h3=>?_)
   ·rw [h3] at hS
    refine Za (Zb (Zc ?_))
    simp only [Eqs,reduceIte,Zuq,YK.r7]
    refine hret rfl (by first | trivial | simp) (YG ?_) (by first | exact Zuw _ | exact Zl (by first | trivial | assumption) | assumption | exact Zuy _ (by assumption))
    exact hS.symm
   ·have h33:=h3
    rw [Bool.or_eq_false_iff,decide_eq_false_iff_not,decide_eq_false_iff_not] at h33
    rw [h3,if_neg (by decide)] at hS
    refine Zg (Za (Za (Zb (Zc ?_))))
    simp only [Eqs,reduceIte,Zuq,Zur,Zus,YK.r8]
    refine ZW rfl rfl rfl rfl rfl (by trivial) (by trivial) (by exact ZnC f (by omega) (by omega)) (Zc ?_)
    simp only [Eqs,reduceIte,Zuq]
    refine Ze rfl trivial (fun h4=>?_) (fun h4=>?_)
    ·rw [if_pos (by simpa using h4)] at hS
     refine Za (Zb (Zc ?_))
     simp only [Eqs,reduceIte,Zuq,YK.r9]
     refine hret rfl (by first | trivial | simp) (YG ?_) (by first | exact Zuw _ | exact Zl (by first | trivial | assumption) | assumption | exact Zuy _ (by assumption))
     exact hS.symm
    ·rw [if_neg (by simpa using h4)] at hS
     refine Zg (Za (Zb (Zc ?_)))
     simp only [Eqs,reduceIte,Zuq,Zur,Zus,YK.r10]
     refine ZW rfl rfl rfl rfl rfl (by trivial) (by trivial) (by exact ZmV d at_ i m f ha hm hi hf h1000 hr (by omega) (by omega)) (Zc ?_)
     simp only [Eqs,reduceIte,Zuq]
     refine hret rfl (by first | trivial | simp) (YG ?_) (by first | exact Zuw _ | exact Zl (by first | trivial | assumption) | assumption | exact Zuy _ (by assumption))
     exact hS.symm
end Go.DL
namespace Go.DL
open Go Go.Proofs
def Ky (d:Dfn) (at_:Nat) (m:Msg):Nat→List Fld→Option (Int × Int)
 | _,[]=>none
 | i,f :: r=>if Je d at_ m i f=0 then Ky d at_ m (i + 1) r else some (i,Je d at_ m i f)
def QS (d:Dfn) (at_:Nat) (m:Msg):Option (Int × Int) :=
 if K0 m.name=false then some (-1,1) else if 0≤Z6 d m.name at_ then some (-1,2) else if decide (m.fields.length < 1) || decide (40 < m.fields.length) then some (-1,3) else Ky d at_ m 0 m.fields
def ZbH (d:Dfn) (at_:Nat) (deps:List Int) (b:Int) (l:List Str):Int:=l.foldl (fun a s=>max a (deps.getD (Z6 d s at_).toNat default)) b
def ZdP (d:Dfn) (at_:Nat) (deps:List Int) (m:Msg):Int:=ZbH d at_ deps 0 (Qe m) + 1
def JQ (d:Dfn):Nat→List Msg→List Int→Option (Int × Int × Int)
 | _,[],_=>if Z6 d d.start d.msgs.length < 0 then some (-1,-1,11) else none
 | at_,m :: r,deps=>match QS d at_ m with
  | some (i,c)=>some (at_,i,c)
  | none=>if 16 < ZdP d at_ deps m then some (at_,-1,10) else JQ d (at_ + 1) r (deps++[ZdP d at_ deps m])
def ZdN (d:Dfn):Option (Int × Int × Int) :=
 if K0 d.name=false then some (-1,-1,1) else if decide (d.msgs.length < 1) || decide (60 < d.msgs.length) then some (-1,-1,3) else JQ d 0 d.msgs []
def Wt (d:Dfn):Bool:=(ZdN d).isNone
theorem Zpd {d:Dfn} {at_:Nat} {high low:Int} {l:List WK} (h:ZaV d at_ high low l=0):∀ c∈l,0≤Z6 d c.of at_:=by
 induction l generalizing low with
 | nil=>simp
 | cons c r ih =>
  simp only [ZaV] at h
  split at h
  ·omega
  ·split at h
   ·omega
   ·intro x hx
    rcases List.mem_cons.1 hx with rfl | hx
    ·omega
    ·exact ih h x hx
theorem ZgW {d:Dfn} {at_ i:Nat} {m:Msg} {f:Fld} (h:Je d at_ m i f=0):(Wk f).length≤41∧∀ s∈Wk f,0≤Z6 d s at_:=by
 unfold Je at h
 split at h; · omega
 split at h; · omega
 split at h; · omega
 rename_i hk
 split at h; · omega
 simp only [ZuL,decide_eq_true_eq,not_or,Int.not_lt] at hk
 have hk2:f.kind=1∨f.kind=2∨f.kind=3∨f.kind=4∨f.kind=5∨f.kind=6∨f.kind=7∨f.kind=8∨f.kind=9∨f.kind=10∨f.kind=11∨f.kind=12:=by omega
 unfold K1 at h
 rcases hk2 with hk | hk | hk | hk | hk | hk | hk | hk | hk | hk | hk | hk <;> simp only [hk,Int.reduceEq,if_true,if_false] at h <;> (try (simp [Wk,Jz,hk]; done))
 ·simp only [Wk,Jz,hk]; split at h
  ·omega
  ·simp; omega
 ·simp only [Wk,Jz,hk]; split at h
  ·omega
  ·simp; omega
 ·split at h
  ·omega
  ·unfold ZcJ at h
   split at h
   ·omega
   ·rename_i hc
    simp only [ZuL,decide_eq_true_eq,not_or,Nat.not_lt] at hc
    have:=Zpd h
    simp [Wk,Jz,hk]
    exact ⟨by omega,this⟩
 ·split at h
  ·omega
  ·split at h
   ·omega
   ·rename_i hv
    simp only [Zh3,ZuL,decide_eq_true_eq,not_or] at hv
    simp [Wk,Jz,hk]; omega
theorem ZjH {d:Dfn} {at_:Nat} {m:Msg} {i:Nat} {l:List Fld} (h:Ky d at_ m i l=none):(l.flatMap Wk).length≤41 * l.length∧∀ s∈l.flatMap Wk,0≤Z6 d s at_:=by
 induction l generalizing i with
 | nil=>simp
 | cons f r ih =>
  simp only [Ky] at h
  split at h
  ·rename_i hf
   have h1:=ZgW hf
   have h2:=ih h
   simp only [List.flatMap_cons,ZuF,ZuI,List.mem_append]
   refine ⟨by omega,fun s hs=>?_⟩
   rcases hs with hs | hs
   ·exact h1.2 s hs
   ·exact h2.2 s hs
  ·simp at h
theorem ZfB {s:Str} {l out:List Str}:s∈l.foldl Zay out↔s∈out∨s∈l:=by
 induction l generalizing out with
 | nil=>simp
 | cons x r ih =>
  simp only [List.foldl_cons,ih,List.mem_cons]
  unfold Zay
  split
  ·rename_i h
   constructor
   ·rintro (h1 | h1)
    ·exact .inl h1
    ·exact .inr (.inr h1)
   ·rintro (h1 | rfl | h1)
    ·exact .inl h1
    ·exact .inl h
    ·exact .inr h1
  ·simp only [List.mem_append,List.mem_singleton,_root_.or_assoc]
theorem Znn {s:Str} {m:Msg}:s∈Qe m↔s∈m.fields.flatMap Wk:=by
 unfold Qe; rw [ZfB]; simp
theorem ZmY {d:Dfn} {j:Nat} {m:Msg} (hm:d.msgs.getD j default=m) (h:QS d j m=none):Zaw d j:=by
 unfold QS at h
 split at h; · simp at h
 split at h; · simp at h
 split at h; · simp at h
 rename_i hc
 simp only [ZuL,decide_eq_true_eq,not_or,Nat.not_lt] at hc
 have:=ZjH h
 subst hm
 exact ⟨by omega,fun s hs=>this.2 s (Znn.1 hs)⟩
end Go.DL
namespace Go.DL
open Go Go.Proofs
def Zst:Option (Int × Int × Int)→List D
 | none=>[.int .i64 0,.int .i64 0,.int .i64 0]
 | some (a,b,c)=>[.int .i64 a,.int .i64 b,.int .i64 c]
def Zq3 (o:Option (Int × Int × Int)):D:=.tup [.agg (Zst o),.bool o.isSome]
def Zaz (l:List Int):List D:=l.map (.int .i64)
theorem Zfc (l:List Int):(Zaz l).length=l.length:=by simp [Zaz]
theorem ZfY {l:List Int} {i:Nat} (h:i < l.length):(Zaz l)[i]? = some (.int .i64 (l.getD i default)):=by
 simp [Zaz,List.getD,List.getElem?_eq_getElem h]
theorem Zox (n:Nat):ZbV [.int .i64 0] n=Zaz (List.replicate n 0):=by
 unfold ZbV Zaz
 induction n with
 | zero=>rfl
 | succ n ih=>rw [List.replicate_succ,List.flatten_cons,ih,List.replicate_succ]; rfl
theorem Zqt {l:List Int} {i:Nat} {v:Int} (h:i < l.length):KR (Zaz l) i [.int .i64 v]=Zaz (l.set i v):=by
 unfold KR Zaz
 rw [List.map_set,List.set_eq_take_append_cons_drop,if_pos (by simpa using h)]
 simp
theorem Zmp {l:List Int} {i:Nat} {v:Int} (h:i < l.length):List.take i (Zaz l)++[.int .i64 v]++List.drop (i + 1) (Zaz l)=Zaz (l.set i v):=Zqt h
theorem ZlC {l r:List Int} {i:Nat} (h:i < l.length):(l++r).getD i default=l.getD i default:=by
 simp [List.getD,List.getElem?_append_left h]
theorem Zfe {l r:List Int} {i:Nat} {v:Int} (h:l.length=i):(l++v :: r).getD i default=v:=by
 subst h; simp [List.getD]
theorem Zkl {l r:List Int} {i:Nat} {v w:Int} (h:l.length=i):(l++v :: r).set i w=l++w :: r:=by
 subst h; simp [List.set_append]
theorem Zmq {d:Dfn} {at_:Nat} {deps:List Int} (hd:∀ x∈deps,0≤x∧x≤16) (l:List Str) {b:Int} (h0:0≤b) (h1:b≤16):0≤ZbH d at_ deps b l∧ZbH d at_ deps b l≤16:=by
 induction l generalizing b with
 | nil=>exact ⟨h0,h1⟩
 | cons s r ih =>
  have:0≤deps.getD (Z6 d s at_).toNat default∧deps.getD (Z6 d s at_).toNat default≤16:=by
   by_cases h:(Z6 d s at_).toNat < deps.length
   ·exact hd _ (Ki h)
   ·rw [List.getD,List.getElem?_eq_none (by omega)]; decide
  exact ih (b:=max b (deps.getD (Z6 d s at_).toNat default)) (by omega) (by omega)
theorem Zng {d:Dfn} {at_:Nat} {deps:List Int} {b:Int} {l:List Str} {q:Nat} (h:q < l.length) :
  ZbH d at_ deps b (l.take (q + 1))=max (ZbH d at_ deps b (l.take q)) (deps.getD (Z6 d (l.getD q default) at_).toNat default):=by
 rw [Wz h,ZbH,List.foldl_append]; rfl
theorem ZmP (d:Dfn):ZR Zuv Zn.id [.agg d.cells] (Zq3 (ZdN d)):=by
 refine WD Zn.ok fun hwf F st hret=>?_
 have hw:=(Zfw (s:=d) (hwf _ (by simp))).nmsgs
 have hmw:=(Zfw (s:=d) (hwf _ (by simp))).msgs
 unfold big at hw
 clear hwf
 have hS:=ZdN.eq_1 d
 refine Za (Zb (Zc ?_))
 simp only [Eqs,reduceCtorEq,reduceIte,Zuq,Zn.r0,ZuM]
 refine Za (Za (Zb (Zc ?_)))
 simp only [Eqs,reduceIte,Zuq,Zn.r1]
 refine ZW rfl rfl rfl rfl rfl (by trivial) (by trivial) (by exact ZdE d.name) (Zc ?_)
 simp only [Eqs,reduceIte,Zuq]
 refine Ze rfl trivial (fun h=>?_) (fun h=>?_)
 ·rw [if_pos (by simpa using h)] at hS
  refine Za (Zb (Zc ?_))
  simp only [Eqs,reduceIte,Zuq,Zur,Zus,Zn.r2]
  refine hret rfl (by first | trivial | simp) (Qm ?_ rfl) (by first | exact Zuw _ | exact Zl (by first | trivial | assumption) | assumption | exact Zuy _ (by assumption))
  rw [hS]; rfl
 ·rw [if_neg (by simpa using h)] at hS
  refine Zg (Za (Za (Zb (Zc ?_))))
  simp only [Eqs,reduceIte,Zuq,Zn.r3,We,slD]
  refine Ze rfl trivial (fun h2=>?_) (fun h2=>?_)
  ·have hcc:(decide (d.msgs.length < 1) || decide (60 < d.msgs.length))=true:=by
    rw [ZuL,decide_eq_true_eq,decide_eq_true_eq] at h2 ⊢; omega
   rw [if_pos hcc] at hS
   refine Za (Zb (Zc ?_))
   simp only [Eqs,reduceIte,Zuq,Zur,Zus,Zn.r4]
   refine hret rfl (by first | trivial | simp) (Qm ?_ rfl) (by first | exact Zuw _ | exact Zl (by first | trivial | assumption) | assumption | exact Zuy _ (by assumption))
   rw [hS]; rfl
  ·rw [Bool.or_eq_false_iff,decide_eq_false_iff_not,decide_eq_false_iff_not] at h2
   have hcc:¬ (decide (d.msgs.length < 1) || decide (60 < d.msgs.length))=true:=by
    rw [ZuL,decide_eq_true_eq,decide_eq_true_eq]; omega
   rw [if_neg hcc] at hS
   refine Zg (Za (Zb (Zc ?_)))
   simp only [Eqs,reduceIte,Zuq,Zn.r5]
   refine ⟨by omega,by omega,by omega,by unfold big; omega,fun b hb=>?_⟩
   simp only [Zox]
   refine Za (Za (Zb (Zc ?_)))
   simp only [Eqs,reduceIte,Zuq,Zn.r6]
   refine Zj (ZX ?_)
   have key:∀ (n a:Nat),(d.msgs.length) - a=n→∀ deps:List Int,deps.length=a→a≤d.msgs.length→ZdN d=JQ d a (d.msgs.drop a) deps→(∀ x∈deps,0≤x∧x≤16)→(∀ j,j < a→Zaw d j)→ZT F [.code (Zn.l0),.inLoop Zn.l0,.inBlock 0,.code (.seq (.seq (qR Zn.r30 [2,132]) (qC 132 (.seq (qR Zn.r31 [2,3]) .ret) .skip)) (.seq (qR Zn.r32 [2,3]) .ret))] [(1,.loc 1 0),(2,.loc 2 0),(4,.d (.msl b 0 d.msgs.length d.msgs.length 1)),(5,.d (.int .i64 a))] [(1,d.cells),(2,[.int .i64 0,.int .i64 0,.int .i64 0])] (st.upd b (.cells (Zaz (deps++List.replicate (d.msgs.length - a) 0)))):=by
    intro n
    induction n using Nat.strongRecOn with
    | ind n ih_key =>
    intro a hn deps hdl ha hchk hdb hro
    refine Za (Za (Zb (Zc ?_)))
    simp only [Eqs,reduceIte,Zuq,Zn.r7,ZuM,We,slD]
    refine Ze rfl trivial (fun h3=>?_) (fun h3=>?_)
    ·simp at h3
     have hdrop:d.msgs.drop a=d.msgs.getD a default :: d.msgs.drop (a + 1):=Qf h3
     have hmf:=(hmw _ (Ki h3)).nfields
     unfold big at hmf
     have hF:=QS.eq_1 d a (d.msgs.getD a default)
     rw [hdrop,JQ] at hchk
     generalize hm:d.msgs.getD a default=m at *
     refine Zg (Za (Zj (Za (Zb (Zc ?_)))))
     simp only [Eqs,reduceIte,Zuq,Zur,Zus,Zn.r9,ZuG,hm]
     repeat (refine Zut (by first | omega | trivial | (intro h0; simp at h0; omega)) ?_)
     refine Za (Za (Zb (Zc ?_)))
     simp only [Eqs,reduceIte,Zuq,Zn.r10]
     refine ZW rfl rfl rfl rfl rfl (by trivial) (by trivial) (by exact ZdE m.name) (Zc ?_)
     simp only [Eqs,reduceIte,Zuq]
     refine Ze rfl trivial (fun h4=>?_) (fun h4=>?_)
     ·rw [if_pos (by simpa using h4)] at hF
      rw [hF] at hchk
      refine Za (Zb (Zc ?_))
      simp only [Eqs,reduceIte,Zuq,Zur,Zus,Zn.r11]
      refine hret rfl (by first | trivial | simp) (Qm ?_ rfl) (by first | exact Zuw _ | exact Zl (by first | trivial | assumption) | assumption | exact Zuy _ (by assumption))
      rw [hchk]; rfl
     ·rw [if_neg (by simpa using h4)] at hF
      refine Zg (Za (Za (Zb (Zc ?_))))
      simp only [Eqs,reduceIte,Zuq,Zur,Zus,Zn.r12]
      refine ZW rfl rfl rfl rfl rfl (by trivial) (by trivial) (by exact Jj d m.name a (by omega)) (Zc ?_)
      simp only [Eqs,reduceIte,Zuq]
      refine Ze rfl trivial (fun h5=>?_) (fun h5=>?_)
      ·rw [if_pos (by simpa using h5)] at hF
       rw [hF] at hchk
       refine Za (Zb (Zc ?_))
       simp only [Eqs,reduceIte,Zuq,Zur,Zus,Zn.r13]
       refine hret rfl (by first | trivial | simp) (Qm ?_ rfl) (by first | exact Zuw _ | exact Zl (by first | trivial | assumption) | assumption | exact Zuy _ (by assumption))
       rw [hchk]; rfl
      ·rw [if_neg (by simpa using h5)] at hF
       refine Zg (Za (Za (Zb (Zc ?_))))
       simp only [Eqs,reduceIte,Zuq,Zn.r14,Yo,slD]
       refine Ze rfl trivial (fun h6=>?_) (fun h6=>?_)
       ·have hcc:(decide (m.fields.length < 1) || decide (40 < m.fields.length))=true:=by
         rw [ZuL,decide_eq_true_eq,decide_eq_true_eq] at h6 ⊢; omega
        rw [if_pos hcc] at hF
        rw [hF] at hchk
        refine Za (Zb (Zc ?_))
        simp only [Eqs,reduceIte,Zuq,Zur,Zus,Zn.r15]
        refine hret rfl (by first | trivial | simp) (Qm ?_ rfl) (by first | exact Zuw _ | exact Zl (by first | trivial | assumption) | assumption | exact Zuy _ (by assumption))
        rw [hchk]; rfl
       ·rw [Bool.or_eq_false_iff,decide_eq_false_iff_not,decide_eq_false_iff_not] at h6
        have hcc:¬ (decide (m.fields.length < 1) || decide (40 < m.fields.length))=true:=by
         rw [ZuL,decide_eq_true_eq,decide_eq_true_eq]; omega
        rw [if_neg hcc] at hF
        refine Zg (Za (Za (Zb (Zc ?_))))
        simp only [Eqs,reduceIte,Zuq,Zn.r16]
        refine Zj (ZX ?_)
        have key2:∀ (n i:Nat),(m.fields.length) - i=n→i≤m.fields.length→QS d a m=Ky d a m i (m.fields.drop i)→ZT F [.code (Zn.l1),.inLoop Zn.l1,.inBlock 2,.code (.seq (qR Zn.r22 [1,2,4,5,9]) (.seq (.seq (qR Zn.r23 [1,2,4,5,9,10]) (.block 4 (.loop Zn.l2))) (.seq (qR Zn.r27 [1,2,4,5]) (.seq (qR Zn.r28 [1,2,4,5,122]) (qC 122 (.seq (qR Zn.r29 [2,3]) .ret) .skip))))),.inBlock 1,.code (qR Zn.r8 [1,2,4,5]),.inLoop Zn.l0,.inBlock 0,.code (.seq (.seq (qR Zn.r30 [2,132]) (qC 132 (.seq (qR Zn.r31 [2,3]) .ret) .skip)) (.seq (qR Zn.r32 [2,3]) .ret))] [(1,.loc 1 0),(2,.loc 2 0),(4,.d (.msl b 0 d.msgs.length d.msgs.length 1)),(5,.d (.int .i64 a)),(6,.loc 6 0),(7,.d (.int .i64 i))] [(1,d.cells),(2,[.int .i64 0,.int .i64 0,.int .i64 0]),(6,m.cells)] (st.upd b (.cells (Zaz (deps++List.replicate (d.msgs.length - a) 0)))):=by
         intro n
         induction n using Nat.strongRecOn with
         | ind n ih_key2 =>
         intro i hni hi hF
         refine Za (Za (Zb (Zc ?_)))
         simp only [Eqs,reduceIte,Zuq,Zn.r17,ZuG,Yo,slD]
         refine Ze rfl trivial (fun h7=>?_) (fun h7=>?_)
         ·simp at h7
          rw [Qf h7,Ky] at hF
          refine Zg (Za (Zj (Za (Zb (Zc ?_)))))
          simp only [Eqs,reduceIte,Zuq,Zur,Zus,Zn.r19,ZuM,ZuG,We,Yo,slD]
          refine ZW rfl rfl rfl rfl rfl (by trivial) (by trivial) (by exact ZmR d a i m (m.fields.getD i default) h3 hm h7 rfl (by omega) hro) (Zc ?_)
          simp only [Eqs,reduceIte,Zuq]
          generalize hc:Je d a m i (m.fields.getD i default)=c at *
          refine Za (Zb (Zc ?_))
          simp only [Eqs,reduceIte,Zuq,Zn.r20]
          refine Ze rfl trivial (fun h8=>?_) (fun h8=>?_)
          ·simp only [Bool.not_eq_true',decide_eq_false_iff_not] at h8
           rw [if_neg h8] at hF
           rw [hF] at hchk
           refine Za (Zb (Zc ?_))
           simp only [Eqs,reduceIte,Zuq,Zur,Zus,Zn.r21]
           refine hret rfl (by first | trivial | simp) (Qm ?_ rfl) (by first | exact Zuw _ | exact Zl (by first | trivial | assumption) | assumption | exact Zuy _ (by assumption))
           rw [hchk]; rfl
          ·simp only [Bool.not_eq_false',decide_eq_true_eq] at h8
           rw [if_pos h8] at hF
           refine Zg (Zm (Zb (Zc ?_)))
           simp only [Eqs,reduceIte,Zuq,Zn.r18]
           repeat (refine Zut (by first | omega | trivial | (intro h0; simp at h0; omega)) ?_)
           refine Zy ?_
           exact ih_key2 ((m.fields.length) - (i + 1)) (by omega) (i + 1) rfl (by omega) hF
         ·simp at h7
          obtain rfl:i=m.fields.length:=by omega
          rw [List.drop_length,Ky] at hF
          have hok:=ZmY hm hF
          have href:=hok.ref
          have hfew:=hok.few
          rw [hm] at href hfew
          rw [hF] at hchk
          simp only at hchk
          have hro':∀ j,j < a + 1→Zaw d j:=fun j hj=>by
           rcases Nat.lt_or_eq_of_le (Nat.le_of_lt_succ hj) with h | rfl
           ·exact hro j h
           ·exact hok
          have hrl:=J1 (m.fields.flatMap Wk) []
          rw [show (m.fields.flatMap Wk).foldl Zay []=Qe m from rfl] at hrl
          simp only [List.length_nil,Nat.zero_add] at hrl
          refine ZQ rfl (Za (Zb (Zc ?_)))
          simp only [Eqs,reduceIte,Zuq,Zur,Zus,Zn.r22]
          refine ZW rfl rfl rfl rfl rfl (by trivial) (by trivial) (by exact Zgx m hfew) (Zc ?_)
          simp only [Eqs,reduceIte,Zuq]
          have hD:ZdP d a deps m=ZbH d a deps 0 (Qe m) + 1:=rfl
          generalize hrs:Qe m=rs at *
          have hrep:List.replicate (d.msgs.length - a) (0:Int)=0 :: List.replicate (d.msgs.length - (a + 1)) 0:=by
           rw [show d.msgs.length - a=(d.msgs.length - (a + 1)) + 1 by omega,List.replicate_succ]
          rw [hrep]
          generalize hz:List.replicate (d.msgs.length - (a + 1)) (0:Int)=z
          have hzl:z.length=d.msgs.length - (a + 1):=by rw [← hz,List.length_replicate]
          refine Za (Za (Zb (Zc ?_)))
          simp only [Eqs,reduceIte,Zuq,Zn.r23]
          refine Zj ?_
          refine ZX ?_
          have key3:∀ (n q:Nat),(rs.length) - q=n→q≤rs.length→ZT F [.code (Zn.l2),.inLoop Zn.l2,.inBlock 4,.code (.seq (qR Zn.r27 [1,2,4,5]) (.seq (qR Zn.r28 [1,2,4,5,122]) (qC 122 (.seq (qR Zn.r29 [2,3]) .ret) .skip))),.inBlock 1,.code (qR Zn.r8 [1,2,4,5]),.inLoop Zn.l0,.inBlock 0,.code (.seq (.seq (qR Zn.r30 [2,132]) (qC 132 (.seq (qR Zn.r31 [2,3]) .ret) .skip)) (.seq (qR Zn.r32 [2,3]) .ret))] [(1,.loc 1 0),(2,.loc 2 0),(4,.d (.msl b 0 d.msgs.length d.msgs.length 1)),(5,.d (.int .i64 a)),(9,.d (Q8 rs)),(10,.d (.int .i64 q))] [(1,d.cells),(2,[.int .i64 0,.int .i64 0,.int .i64 0])] (st.upd b (.cells (Zaz (deps++ZbH d a deps 0 (rs.take q) :: z)))):=by
           intro n
           induction n using Nat.strongRecOn with
           | ind n ih_key3 =>
           intro q hnq hq
           refine Za (Za (Zb (Zc ?_)))
           simp only [Eqs,reduceIte,Zuq,Zn.r24,Q8,slD]
           refine Ze rfl trivial (fun h9=>?_) (fun h9=>?_)
           ·simp at h9
            have hge:=href _ (Ki h9)
            have hlt:Z6 d (rs.getD q default) a < a:=by
             have:=Zaa (fun m:Msg=>decide (m.name=rs.getD q default)) (d.msgs.take a)
             rw [List.length_take] at this; unfold Z6; omega
            have htk:=Zng (d:=d) (at_:=a) (deps:=deps) (b:=0) h9
            generalize ZbH d a deps 0 (rs.take q)=X at *
            have hra:(Zaz (deps++X :: z))[a]? = some (.int .i64 X):=by
             rw [ZfY (by simp; omega),Zfe hdl]
            have hcl:(Zaz (deps++X :: z)).length=d.msgs.length:=by
             rw [Zfc]; simp; omega
            have hfx:(Z6 d (rs.getD q default) a).toNat < deps.length:=by rw [hdl]; generalize Z6 d (rs.getD q default) a=u at hge hlt ⊢; omega
            have hrf:(Zaz (deps++X :: z))[(Z6 d (rs.getD q default) a).toNat]? = some (.int .i64 (deps.getD (Z6 d (rs.getD q default) a).toNat default)):=by
             rw [ZfY (by rw [ZuF]; omega),ZlC hfx]
            refine Zg (Za (Zj (Wq (ZM ?_))))
            simp only [Eqs,reduceIte,Zuq,Zur,Zus,Zn.r26,ZuM,We,slD,hra,ZuB,Nat.mul_one]
            repeat (refine Zut (by first | omega | trivial | (intro h0; simp at h0; omega)) ?_)
            refine Kd rfl rfl rfl rfl rfl (by trivial) (by trivial) (by exact Jj d (rs.getD q default) a (by omega)) (ZM ?_)
            simp only [Eqs,reduceIte,Zuq,hrf,hcl,ZuB,ZuQ,Nat.mul_one]
            repeat (refine Zut (by first | omega | trivial | (intro h0; simp at h0; omega)) ?_)
            rw [Zmp (by rw [ZuF,ZuI]; omega),Zkl hdl,← htk]
            refine Zm (Zb (Zc ?_))
            simp only [Eqs,reduceIte,Zuq,Zn.r25]
            repeat (refine Zut (by first | omega | trivial | (intro h0; simp at h0; omega)) ?_)
            refine Zy ?_
            exact ih_key3 ((rs.length) - (q + 1)) (by omega) (q + 1) rfl (by omega)
           ·simp at h9
            obtain rfl:q=rs.length:=by omega
            rw [ZuH]
            have hbd:=Zmq (d:=d) (at_:=a) hdb rs (b:=0) (by omega) (by omega)
            rw [hD] at hchk
            generalize ZbH d a deps 0 rs=X at *
            have hra:(Zaz (deps++X :: z))[a]? = some (.int .i64 X):=by
             rw [ZfY (by rw [ZuF,ZuI]; omega),Zfe hdl]
            have hcl:(Zaz (deps++X :: z)).length=d.msgs.length:=by
             rw [Zfc,ZuF,ZuI]; omega
            have hra2:(Zaz (deps++(X + 1) :: z))[a]? = some (.int .i64 (X + 1)):=by
             rw [ZfY (by rw [ZuF,ZuI]; omega),Zfe hdl]
            have hcl2:(Zaz (deps++(X + 1) :: z)).length=d.msgs.length:=by
             rw [Zfc,ZuF,ZuI]; omega
            refine ZQ rfl (Za (Zb (Zc ?_)))
            simp only [Eqs,reduceIte,Zuq,Zn.r27,hra,hcl,ZuB,ZuQ,Nat.mul_one]
            repeat (refine Zut (by first | omega | trivial | (intro h0; simp at h0; omega)) ?_)
            rw [Zmp (by rw [ZuF,ZuI]; omega),Zkl hdl]
            refine Za (Zb (Zc ?_))
            simp only [Eqs,reduceIte,Zuq,Zn.r28,hra2,ZuB,Nat.mul_one]
            repeat (refine Zut (by first | omega | trivial | (intro h0; simp at h0; omega)) ?_)
            refine Ze rfl trivial (fun h10=>?_) (fun h10=>?_)
            ·rw [if_pos (by simpa using h10)] at hchk
             refine Za (Zb (Zc ?_))
             simp only [Eqs,reduceIte,Zuq,Zur,Zus,Zn.r29]
             refine hret rfl (by first | trivial | simp) (Qm ?_ rfl) (by first | exact Zuw _ | exact Zl (by first | trivial | assumption) | assumption | exact Zuy _ (by assumption))
             rw [hchk]; rfl
            ·rw [if_neg (by simpa using h10)] at hchk
             simp only [decide_eq_false_iff_not] at h10
             refine Zg (Zm (Zb (Zc ?_)))
             simp only [Eqs,reduceIte,Zuq,Zn.r8]
             repeat (refine Zut (by first | omega | trivial | (intro h0; simp at h0; omega)) ?_)
             have hst:deps++(X + 1) :: z=(deps++[X + 1])++List.replicate (d.msgs.length - (a + 1)) 0:=by rw [hz]; simp
             rw [hst]
             have hdb':∀ x∈deps++[X + 1],0≤x∧x≤16:=by
              intro x hx
              rcases List.mem_append.1 hx with h | h
              ·exact hdb x h
              ·simp at h; omega
             refine Zy ?_
             exact ih_key ((d.msgs.length) - (a + 1)) (by omega) (a + 1) rfl (deps++[X + 1]) (by simp; omega) (by omega) hchk hdb' hro'
          exact key3 _ 0 rfl (by omega)
        exact key2 _ 0 rfl (by omega) hF
    ·simp at h3
     obtain rfl:a=d.msgs.length:=by omega
     rw [List.drop_length,JQ] at hchk
     refine ZQ rfl (Za (Za (Zb (Zc ?_))))
     simp only [Eqs,reduceIte,Zuq,Zur,Zus,Zn.r30]
     refine ZW rfl rfl rfl rfl rfl (by trivial) (by trivial) (by exact Jj d d.start d.msgs.length (by omega)) (Zc ?_)
     simp only [Eqs,reduceIte,Zuq]
     refine Ze rfl trivial (fun h4=>?_) (fun h4=>?_)
     ·rw [if_pos (by simpa using h4)] at hchk
      refine Za (Zb (Zc ?_))
      simp only [Eqs,reduceIte,Zuq,Zur,Zus,Zn.r31]
      refine hret rfl (by first | trivial | simp) (Qm ?_ rfl) (by first | exact Zuw _ | exact Zl (by first | trivial | assumption) | assumption | exact Zuy _ (by assumption))
      rw [hchk]; rfl
     ·rw [if_neg (by simpa using h4)] at hchk
      refine Zg (Za (Zb (Zc ?_)))
      simp only [Eqs,reduceIte,Zuq,Zur,Zus,Zn.r32]
      refine hret rfl (by first | trivial | simp) (Qm ?_ rfl) (by first | exact Zuw _ | exact Zl (by first | trivial | assumption) | assumption | exact Zuy _ (by assumption))
      rw [hchk]; rfl
   exact key _ 0 rfl [] rfl (by omega) hS (by simp) (by simp)
theorem Zsk (d:Dfn):ZR Zuv Qg.id [.agg d.cells] (.bool (Wt d)):=by
 refine Z0 Qg.ok fun F st hret=>?_
 refine Za (Zb (Zc ?_))
 simp only [Eqs,reduceCtorEq,reduceIte,Zuq,Qg.r0,ZuM]
 refine Za (Zb (Zc ?_))
 simp only [Eqs,reduceIte,Zur,Zus,Qg.r1]
 refine ZW rfl rfl rfl rfl rfl (by trivial) (by trivial) (by exact ZmP d) (Zc ?_)
 simp only [Eqs,reduceIte,Zuq,Zur,Zus,Zq3]
 refine ⟨by cases ZdN d with
  | none=>rfl
  | some x=>rfl,?_⟩
 refine Za (Zb (Zc ?_))
 simp only [Eqs,reduceIte,Zuq,Qg.r2]
 refine hret rfl (by first | trivial | simp) (Yk ?_) (by first | exact Zuw _ | exact Zl (by first | trivial | assumption) | assumption | exact Zuy _ (by assumption))
 rw [Wt]; cases ZdN d <;> rfl
end Go.DL
namespace Go.DL
open Go Go.Proofs
def J6 (p n:Str):Str:=if p=[] then n else p++[46]++n
def ZoG (f:Fld):Ran:=⟨f.name,(Kv f).1,(Kv f).2⟩
def Zhc (fs:List Fld):List Ran:=(fs.filter QZ).map ZoG
def Zj4 (m:Msg) (f:Fld):Int:=(Km f.size (KU (Zhc m.fields))).2.1
def ZaX (m:Msg) (f:Fld):Bool:=decide (f.kind=8) || (decide (f.kind=12) || (decide (f.kind=7) && decide (0 < Zj4 m f)))
def WA (c:WK):Int→List WK→Bool
 | _,[]=>false
 | v,x :: r=>if decide (x.low≤v) && (decide (v≤x.high) && decide (x.of=c.of)) then (if c.high≤x.high then true else WA c (x.high + 1) r) else WA c v r
theorem ZiE (p n:Str) (h:p.length + n.length≤1000000000):ZR Zuv Qd.id [.str p,.str n] (.str (J6 p n)):=by
 refine Z0 Qd.ok fun F st hret=>?_
 refine Za (Zb (Zc ?_))
 simp only [Eqs,reduceCtorEq,reduceIte,Zuq,Zur,Qd.r0]
 refine Za (Za (Zb (Zc ?_)))
 simp only [Eqs,reduceCtorEq,reduceIte,Zuq,Qd.r1]
 refine Ze rfl trivial (fun h1=>?_) (fun h1=>?_)
 ·refine Za (Zb (Zc ?_))
  simp only [Eqs,reduceCtorEq,reduceIte,Zuq,Qd.r2]
  refine hret rfl (by first | trivial | simp) (Zl3 ?_) (by first | exact Zuw _ | exact Zl (by first | trivial | assumption) | assumption | exact Zuy _ (by assumption))
  rw [J6,if_pos (by simpa using h1)]
 ·refine Zg (Za (Zb (Zc ?_)))
  simp only [Eqs,reduceCtorEq,reduceIte,Zuq,Qd.r3]
  refine ⟨by unfold big; omega,by rw [ZuF]; unfold big; simp; omega,?_⟩
  refine hret rfl (by first | trivial | simp) (Zl3 ?_) (by first | exact Zuw _ | exact Zl (by first | trivial | assumption) | assumption | exact Zuy _ (by assumption))
  rw [J6,if_neg (by simpa using h1)]
theorem Zll {l:List Fld} {i:Nat} (h:i < l.length):Zhc (l.take (i + 1))=Zhc (l.take i)++if QZ (l.getD i default) then [ZoG (l.getD i default)] else []:=by
 unfold Zhc
 rw [Wz h,List.filter_append,List.map_append]
 congr 1
 simp only [List.filter_cons,List.filter_nil]
 split <;> rfl
theorem ZnD (m:Msg) (f:Fld) (hmany:m.fields.length≤1000000):ZR Zuv YP.id [.agg m.cells,.agg f.cells] (.int .i64 (Zj4 m f)):=by
 refine WD YP.ok fun hwf F st hret=>?_
 have hw:=(ZdU (s:=m) (hwf _ (by simp))).nfields
 unfold big at hw
 clear hwf
 refine Za (Zb (Zc ?_))
 simp only [Eqs,reduceCtorEq,reduceIte,Zuq,Zur,YP.r0,ZuG,ZuD,Yo,slD]
 refine Za (Zb (Zc ?_))
 simp only [Eqs,reduceIte,Zuq,YP.r1]
 refine Za (Za (Zb (Zc ?_)))
 simp only [Eqs,reduceIte,Zuq,YP.r2]
 refine Ku (s':=st) (by first | exact Zuw _ | exact Zl (by first | trivial | assumption) | exact ZuK (Zl (by first | trivial | assumption)) (Zl (by first | trivial | assumption)) | assumption) (Qz (ρ':=[(2,.loc 2 0),(3,.loc 3 0),(5,.d (.sl .full 0 3 fun _=>[])),(6,.d (.int .i64 (0:Nat)))]) (L':=[(2,m.cells),(3,f.cells)]) ?_ ?_ ?_)
 ·exact .skip (.skip (.cons (.d (Qa fun b h=>by cases h)) (.skip .nil)))
 ·exact Q9 _
 refine Zj (ZX ?_)
 have key:∀ (n i:Nat),(m.fields.length) - i=n→∀ tk row out,tk.okIn st→YE Ran.cells row out→out=Zhc (m.fields.take i)→i≤m.fields.length→ZT F [.code (YP.l0),.inLoop YP.l0,.inBlock 0,.code (.seq (qR YP.r8 [10]) (.seq (qR YP.r9 [4]) .ret))] [(2,.loc 2 0),(3,.loc 3 0),(5,.d (.sl tk out.length 3 row)),(6,.d (.int .i64 i))] [(2,m.cells),(3,f.cells)] (st.own tk (out.length * 3)):=by
  intro n
  induction n using Nat.strongRecOn with
  | ind n ih_key =>
  intro i hn tk row out htk hrow hout hi
  have hol:out.length≤i:=by rw [hout]; unfold Zhc; have:=List.length_filter_le QZ (m.fields.take i); simp at this ⊢; omega
  refine Za (Za (Zb (Zc ?_)))
  simp only [Eqs,reduceIte,Zuq,YP.r3,ZuG,Yo,slD]
  refine Ze rfl trivial (fun hd=>?_) (fun hd=>?_)
  ·simp at hd
   have hsucc:=Zll hd
   generalize hg:m.fields.getD i default=g at *
   refine Zg (Za (Zj (Za (Zb (Zc ?_)))))
   simp only [Eqs,reduceIte,Zuq,Zur,Zus,YP.r5,ZuD,hg]
   repeat (refine Zut (by first | omega | trivial | (intro h0; simp at h0; omega)) ?_)
   refine ZW rfl rfl rfl rfl rfl (by trivial) (by trivial) (by exact Zd6 g) (Zc ?_)
   simp only [Eqs,reduceIte,Zuq]
   refine Ze rfl trivial (fun h2=>?_) (fun h2=>?_)
   ·rw [if_pos (by simpa using h2)] at hsucc
    refine Za (Zb (Zc ?_))
    simp only [Eqs,reduceIte,Zuq,Zur,Zus,YP.r6,hg]
    repeat (refine Zut (by first | omega | trivial | (intro h0; simp at h0; omega)) ?_)
    refine ZW rfl rfl rfl rfl rfl (by trivial) (by trivial) (by exact ZeG g) (Zc ?_)
    simp only [Eqs,reduceIte,Zuq]
    refine Zb (Zc ?_)
    simp only [Eqs,reduceIte,Zuq,Zur,Zus,YP.r7,hg]
    repeat (refine Zut (by first | omega | trivial | (intro h0; simp at h0; omega)) ?_)
    refine JO (st) (tk) rfl rfl rfl rfl rfl rfl (by trivial) (by trivial) rfl (by first | trivial | assumption) (by omega) (by (unfold big; omega)) fun t1 ht1=>Zc ?_
    simp only [Eqs,reduceIte,Zuq]
    refine Zm (Zb (Zc ?_))
    simp only [Eqs,reduceIte,Zuq,YP.r4]
    repeat (refine Zut (by first | omega | trivial | (intro h0; simp at h0; omega)) ?_)
    refine Zy ?_
    have hnext:=ih_key ((m.fields.length) - (i + 1)) (by omega) (i + 1) rfl t1 _ (out++[ZoG g]) ht1 (hrow.snoc (x:=ZoG g) (row2:=Wy [.str [],.int .i64 0,.int .i64 0] ([0].zip [.agg [.str g.name,.int .i64 (Kv g).1,.int .i64 (Kv g).2]])) rfl rfl) (by rw [hsucc,hout]) (by omega)
    rw [ZuF] at hnext
    exact hnext
   ·rw [if_neg (by simpa using h2),List.append_nil] at hsucc
    refine Zg (Zm (Zb (Zc ?_)))
    simp only [Eqs,reduceIte,Zuq,YP.r4]
    repeat (refine Zut (by first | omega | trivial | (intro h0; simp at h0; omega)) ?_)
    refine Zy ?_
    exact ih_key ((m.fields.length) - (i + 1)) (by omega) (i + 1) rfl tk row out htk hrow (by rw [hsucc,hout]) (by omega)
  ·simp at hd
   obtain rfl:i=m.fields.length:=by omega
   rw [ZuH] at hout
   refine ZQ rfl (Za (JP [3,5] ?_))
   simp only [Eqs,reduceIte,Zuq]
   refine Ku (s':=st.own tk (out.length * 3)) (by first | exact Zuw _ | exact Zl (by first | trivial | assumption) | exact ZuK (Zl (by first | trivial | assumption)) (Zl (by first | trivial | assumption)) | assumption) (Qz (ρ':=[(3,.loc 3 0),(5,.d (Zbv out))]) (L':=[(3,f.cells)]) ?_ ?_ ?_)
   ·exact .skip (.cons (.d (hrow.le rfl)) .nil)
   ·exact Q9 _
   have hsz:D.agg [D.int IntKind.i64 f.size.base,Yj f.size.terms] = .agg f.size.cells:=rfl
   refine Zb (Zc ?_)
   simp only [Eqs,reduceIte,Zuq,Zur,Zus,YP.r8,ZuD]
   rw [hsz]
   refine ZW rfl rfl rfl rfl rfl (by trivial) (by trivial) (by exact Ze1 f.size out) (Zc ?_)
   simp only [Eqs,reduceIte,Zuq]
   refine Za (Zb (Zc ?_))
   simp only [Eqs,reduceIte,Zuq,YP.r9]
   refine hret rfl (by first | trivial | simp) (YG ?_) (by first | exact Zuw _ | exact Zl (by first | trivial | assumption) | assumption | exact Zuy _ (by assumption))
   rw [Zj4,hout]
 exact key _ 0 rfl .full _ [] trivial YE.nil rfl (by omega)
theorem ZkG (c:WK) (l:List WK):ZR Zuv Ye.id [.agg c.cells,W0 l] (.bool (WA c c.low l)):=by
 refine WD Ye.ok fun hwf F st hret=>?_
 have hwl:=ZiP (hwf (W0 l) (by simp))
 have hw:=hwl.1
 unfold big at hw
 refine Za (Zb (Zc ?_))
 simp only [Eqs,reduceCtorEq,reduceIte,Zuq,Zur,Ye.r0,WK.cells,W0,slD]
 refine Za (Zb (Zc ?_))
 simp only [Eqs,reduceIte,Zuq,Ye.r1]
 refine Za (Za (Zb (Zc ?_)))
 simp only [Eqs,reduceIte,Zuq,Ye.r2]
 have hch:-9223372036854775808≤c.high∧c.high≤9223372036854775807:=(WK.wf_of (t:=c) (hwf (.agg c.cells) (by simp)).agg_inv).high
 clear hwf
 refine Zj (ZX ?_)
 have key:∀ (n i:Nat),(l.length) - i=n→∀ v,WA c c.low l=WA c v (l.drop i)→i≤l.length→ZT F [.code (Ye.l0),.inLoop Ye.l0,.inBlock 0,.code (.seq (qR Ye.r9 [4]) .ret)] [(1,.d (W0 l)),(2,.loc 2 0),(5,.d (.int .i64 v)),(6,.d (.int .i64 i))] [(2,c.cells)] st:=by
  intro n
  induction n using Nat.strongRecOn with
  | ind n ih_key =>
  intro i hn v hS hi
  refine Za (Za (Zb (Zc ?_)))
  simp only [Eqs,reduceIte,Zuq,Ye.r3,WK.cells,W0,slD]
  refine Ze rfl trivial (fun hd=>?_) (fun hd=>?_)
  ·simp at hd
   rw [Qf hd,WA] at hS
   have hxh:-9223372036854775808≤(l.getD i default).high∧(l.getD i default).high≤9223372036854775807:=(hwl.2 _ (Ki hd)).high
   generalize hx:l.getD i default=x at *
   refine Zg (Za (Zj (Za (WB (Wj ?_)))))
   simp only [Eqs,reduceIte,Zuq,Ye.r5,hx]
   repeat (refine Zut (by first | omega | trivial | (intro h0; simp at h0; omega)) ?_)
   refine Ze rfl trivial (fun h2=>?_) (fun h2=>?_)
   ·rw [if_pos (by simpa only [Bool.and_assoc] using h2)] at hS
    refine Za (Za (WB (Wj ?_)))
    simp only [Eqs,reduceIte,Zuq,Ye.r6,hx]
    repeat (refine Zut (by first | omega | trivial | (intro h0; simp at h0; omega)) ?_)
    refine Ze rfl trivial (fun h3=>?_) (fun h3=>?_)
    ·rw [if_pos (by simpa using h3)] at hS
     refine Za (Zb (Zc ?_))
     simp only [Eqs,reduceIte,Zuq,Ye.r7]
     refine hret rfl (by first | trivial | simp) (Yk ?_) (by first | exact Zuw _ | exact Zl (by first | trivial | assumption) | assumption | exact Zuy _ (by assumption))
     exact hS.symm
    ·rw [if_neg (by simpa using h3)] at hS
     simp at h3
     refine Zg (Zb (Zc ?_))
     simp only [Eqs,reduceIte,Zuq,Ye.r8,hx]
     repeat (refine Zut (by first | omega | trivial | (intro h0; simp at h0; omega)) ?_)
     refine Zm (Zb (Zc ?_))
     simp only [Eqs,reduceIte,Zuq,Ye.r4]
     repeat (refine Zut (by first | omega | trivial | (intro h0; simp at h0; omega)) ?_)
     refine Zy ?_
     exact ih_key ((l.length) - (i + 1)) (by omega) (i + 1) rfl _ hS (by omega)
   ·rw [if_neg (by simpa only [Bool.and_assoc,Bool.not_eq_true] using h2)] at hS
    refine Zg (Zm (Zb (Zc ?_)))
    simp only [Eqs,reduceIte,Zuq,Ye.r4]
    repeat (refine Zut (by first | omega | trivial | (intro h0; simp at h0; omega)) ?_)
    refine Zy ?_
    exact ih_key ((l.length) - (i + 1)) (by omega) (i + 1) rfl v hS (by omega)
  ·simp at hd
   obtain rfl:i=l.length:=by omega
   rw [List.drop_length,WA] at hS
   refine ZQ rfl (Za (Zb (Zc ?_)))
   simp only [Eqs,reduceIte,Zuq,Ye.r9]
   refine hret rfl (by first | trivial | simp) (Yk ?_) (by first | exact Zuw _ | exact Zl (by first | trivial | assumption) | assumption | exact Zuy _ (by assumption))
   exact hS.symm
 exact key _ 0 rfl c.low rfl (by omega)
theorem Zhb (m:Msg) (f:Fld) (hmany:m.fields.length≤1000000):ZR Zuv QI.id [.agg m.cells,.agg f.cells] (.bool (ZaX m f)):=by
 refine Z0 QI.ok fun F st hret=>?_
 refine Za (Zb (Zc ?_))
 simp only [Eqs,reduceCtorEq,reduceIte,Zuq,Zur,QI.r0,ZuG,ZuD]
 refine Za (Zb (Zc ?_))
 simp only [Eqs,reduceIte,Zuq,Zur,Zus,QI.r1]
 refine KA rfl rfl rfl rfl rfl (fun hcg=>⟨by first | trivial | (simpa [Qu] using hcg),trivial,ZnD m f hmany⟩) (Zc ?_)
 simp only [Eqs,reduceIte,Zuq]
 refine hret rfl (by first | trivial | simp) (Yk ?_) (by first | exact Zuw _ | exact Zl (by first | trivial | assumption) | assumption | exact Zuy _ (by assumption))
 rw [ZaX,Bool.or_assoc]
end Go.DL
namespace Go.DL
open Go Go.Proofs
def ZdS (f g:Fld):Bool:=!decide (f.bits=g.bits) || (!decide (f.little=g.little) || (!decide (f.check=g.check) || (!decide (f.key=g.key) || (decide (f.kind=5) && !decide (f.low=g.low)))))
def ZfL (f g:Fld):Bool:=(decide (f.kind=2) && !decide (f.low=g.low)) || (((decide (f.kind=1) || decide (f.kind=3)) && (decide (f.low < g.low) || decide (g.high < f.high))) || ((decide (f.kind=5) || decide (f.kind=6)) && decide (g.high < f.high)))
def ZaW (m:Msg) (f g:Fld):Int :=
 if f.name≠g.name then 3 else if f.kind≠g.kind then 4 else if ZdS f g then 5 else if ZfL f g then 6 else if f.loose && !g.loose then 7 else
 if ZdV f.size g.size=false then 8 else if !decide (f.tag=g.tag) || !decide (f.from_=g.from_) then 9 else if ZaX m f && !decide (f.of=g.of) then 10 else
 if f.cases.all (fun c=>WA c c.low g.cases) then 0 else 11
theorem ZlH (m:Msg) (f g:Fld) (hmany:m.fields.length≤1000000):ZR Zuv ZB.id [.agg m.cells,.agg f.cells,.agg g.cells] (.int .i64 (ZaW m f g)):=by
 refine WD ZB.ok fun hwf F st hret=>?_
 have hw:=(Zpt (s:=f) (hwf _ (by simp))).ncases
 unfold big at hw
 clear hwf
 have hS:=ZaW.eq_1 m f g
 refine Za (Zb (Zc ?_))
 simp only [Eqs,reduceCtorEq,reduceIte,Zuq,Zur,ZB.r0,ZuG,ZuD]
 refine Za (Zb (Zc ?_))
 simp only [Eqs,reduceIte,Zuq,ZB.r1]
 refine Za (Zj (Za (Zb (Zc ?_))))
 simp only [Eqs,reduceIte,Zuq,ZB.r2]
 refine Ze rfl trivial (fun h1=>?_) (fun h1=>?_)
 ·rw [if_pos (by simpa using h1)] at hS
  refine Za (Zb (Zc ?_))
  simp only [Eqs,reduceIte,Zuq,ZB.r3]
  refine hret rfl (by first | trivial | simp) (YG ?_) (by first | exact Zuw _ | exact Zl (by first | trivial | assumption) | assumption | exact Zuy _ (by assumption))
  exact hS.symm
 ·rw [if_neg (by simpa using h1)] at hS
  refine Za (Zb (Zc ?_))
  simp only [Eqs,reduceIte,Zuq,ZB.r4]
  refine Ze rfl trivial (fun h2=>?_) (fun h2=>?_)
  ·rw [if_pos (by simpa using h2)] at hS
   refine Za (Zb (Zc ?_))
   simp only [Eqs,reduceIte,Zuq,ZB.r5]
   refine hret rfl (by first | trivial | simp) (YG ?_) (by first | exact Zuw _ | exact Zl (by first | trivial | assumption) | assumption | exact Zuy _ (by assumption))
   exact hS.symm
  ·rw [if_neg (by simpa using h2)] at hS
   refine Za (Zb (Zc ?_))
   simp only [Eqs,reduceIte,Zuq,ZB.r6]
   refine Ze rfl trivial (fun h3=>?_) (fun h3=>?_)
   ·rw [if_pos (by rw [ZdS]; simpa only [Bool.or_assoc] using h3)] at hS
    refine Za (Zb (Zc ?_))
    simp only [Eqs,reduceIte,Zuq,ZB.r7]
    refine hret rfl (by first | trivial | simp) (YG ?_) (by first | exact Zuw _ | exact Zl (by first | trivial | assumption) | assumption | exact Zuy _ (by assumption))
    exact hS.symm
   ·rw [if_neg (by rw [ZdS]; simpa only [Bool.or_assoc,Bool.not_eq_true] using h3)] at hS
    refine Za (Zb (Zc ?_))
    simp only [Eqs,reduceIte,Zuq,ZB.r8]
    refine Ze rfl trivial (fun h4=>?_) (fun h4=>?_)
    ·rw [if_pos (by rw [ZfL]; simpa only [Bool.or_assoc] using h4)] at hS
     refine Za (Zb (Zc ?_))
     simp only [Eqs,reduceIte,Zuq,ZB.r9]
     refine hret rfl (by first | trivial | simp) (YG ?_) (by first | exact Zuw _ | exact Zl (by first | trivial | assumption) | assumption | exact Zuy _ (by assumption))
     exact hS.symm
    ·rw [if_neg (by rw [ZfL]; simpa only [Bool.or_assoc,Bool.not_eq_true] using h4)] at hS
     refine Za (Zb (Zc ?_))
     simp only [Eqs,reduceIte,Zuq,ZB.r10]
     refine Ze rfl trivial (fun h5=>?_) (fun h5=>?_)
     ·rw [if_pos h5] at hS
      refine Za (Zb (Zc ?_))
      simp only [Eqs,reduceIte,Zuq,ZB.r11]
      refine hret rfl (by first | trivial | simp) (YG ?_) (by first | exact Zuw _ | exact Zl (by first | trivial | assumption) | assumption | exact Zuy _ (by assumption))
      exact hS.symm
     ·rw [if_neg (by simpa only [Bool.not_eq_true] using h5)] at hS
      have hsz:∀ x:Fld,D.agg [D.int IntKind.i64 x.size.base,Yj x.size.terms] = .agg x.size.cells:=fun _=>rfl
      refine Za (Zb (Zc ?_))
      simp only [Eqs,reduceIte,Zuq,Zur,Zus,ZB.r12]
      simp only [hsz]
      refine ZW rfl rfl rfl rfl rfl (by trivial) (by trivial) (by exact ZmN f.size g.size) (Zc ?_)
      simp only [Eqs,reduceIte,Zuq]
      refine Ze rfl trivial (fun h6=>?_) (fun h6=>?_)
      ·rw [if_pos (by simpa using h6)] at hS
       refine Za (Zb (Zc ?_))
       simp only [Eqs,reduceIte,Zuq,ZB.r13]
       refine hret rfl (by first | trivial | simp) (YG ?_) (by first | exact Zuw _ | exact Zl (by first | trivial | assumption) | assumption | exact Zuy _ (by assumption))
       exact hS.symm
      ·rw [if_neg (by simpa using h6)] at hS
       refine Za (Zb (Zc ?_))
       simp only [Eqs,reduceIte,Zuq,ZB.r14]
       refine Ze rfl trivial (fun h7=>?_) (fun h7=>?_)
       ·rw [if_pos (by simpa using h7)] at hS
        refine Za (Zb (Zc ?_))
        simp only [Eqs,reduceIte,Zuq,ZB.r15]
        refine hret rfl (by first | trivial | simp) (YG ?_) (by first | exact Zuw _ | exact Zl (by first | trivial | assumption) | assumption | exact Zuy _ (by assumption))
        exact hS.symm
       ·rw [if_neg (by simpa using h7)] at hS
        refine Za (Zb (Zc ?_))
        simp only [Eqs,reduceIte,Zuq,Zur,Zus,ZB.r16]
        refine ZW rfl rfl rfl rfl rfl (by trivial) (by trivial) (by exact Zhb m f hmany) (Zc ?_)
        simp only [Eqs,reduceIte,Zuq]
        refine Ze rfl trivial (fun h8=>?_) (fun h8=>?_)
        ·rw [if_pos h8] at hS
         refine Za (Zb (Zc ?_))
         simp only [Eqs,reduceIte,Zuq,ZB.r17]
         refine hret rfl (by first | trivial | simp) (YG ?_) (by first | exact Zuw _ | exact Zl (by first | trivial | assumption) | assumption | exact Zuy _ (by assumption))
         exact hS.symm
        ·rw [if_neg (by simpa only [Bool.not_eq_true] using h8)] at hS
         refine Zg (Zm (Za (Za (Zb (Zc ?_)))))
         simp only [Eqs,reduceIte,Zuq,ZB.r18]
         refine Zj (ZX ?_)
         have key:∀ (n i:Nat),(f.cases.length) - i=n→i≤f.cases.length→(f.cases.all (fun c=>WA c c.low g.cases))=((f.cases.drop i).all (fun c=>WA c c.low g.cases))→ZT F [.code (ZB.l0),.inLoop ZB.l0,.inBlock 1,.code (.seq (qR ZB.r23 [6]) .ret)] [(4,.loc 4 0),(5,.loc 5 0),(8,.d (.int .i64 i))] [(4,f.cells),(5,g.cells)] st:=by
          intro n
          induction n using Nat.strongRecOn with
          | ind n ih_key =>
          intro i hn hi hA
          refine Za (Za (Zb (Zc ?_)))
          simp only [Eqs,reduceIte,Zuq,ZB.r19,ZuD,W0,slD]
          refine Ze rfl trivial (fun hd=>?_) (fun hd=>?_)
          ·simp at hd
           rw [Qf hd,List.all_cons] at hA
           generalize hx:f.cases.getD i default=x at *
           refine Zg (Za (Zj (Za (WB (Wj ?_)))))
           simp only [Eqs,reduceIte,Zuq,Zur,Zus,ZB.r21,WK.cells,hx]
           repeat (refine Zut (by first | omega | trivial | (intro h0; simp at h0; omega)) ?_)
           refine ZfO rfl rfl rfl rfl rfl (by trivial) (by trivial) (by exact ZkG x g.cases) (Wj ?_)
           simp only [Eqs,reduceIte,Zuq]
           refine Ze rfl trivial (fun h9=>?_) (fun h9=>?_)
           ·have h9':WA x x.low g.cases=false:=by simpa using h9
            rw [h9',Bool.false_and] at hA
            rw [hA] at hS
            refine Za (Zb (Zc ?_))
            simp only [Eqs,reduceIte,Zuq,ZB.r22]
            refine hret rfl (by first | trivial | simp) (YG ?_) (by first | exact Zuw _ | exact Zl (by first | trivial | assumption) | assumption | exact Zuy _ (by assumption))
            exact hS.symm
           ·have h9':WA x x.low g.cases=true:=by simpa using h9
            rw [h9',ZuP] at hA
            refine Zg (Zm (Zb (Zc ?_)))
            simp only [Eqs,reduceIte,Zuq,ZB.r20]
            repeat (refine Zut (by first | omega | trivial | (intro h0; simp at h0; omega)) ?_)
            refine Zy ?_
            exact ih_key ((f.cases.length) - (i + 1)) (by omega) (i + 1) rfl (by omega) hA
          ·simp at hd
           obtain rfl:i=f.cases.length:=by omega
           rw [List.drop_length,List.all_nil] at hA
           rw [hA] at hS
           refine ZQ rfl (Za (Zb (Zc ?_)))
           simp only [Eqs,reduceIte,Zuq,ZB.r23]
           refine hret rfl (by first | trivial | simp) (YG ?_) (by first | exact Zuw _ | exact Zl (by first | trivial | assumption) | assumption | exact Zuy _ (by assumption))
           exact hS.symm
         exact key _ 0 rfl (by omega) rfl
end Go.DL
namespace Go.DL
open Go Go.Proofs
structure Dif where
 path:Str
 code:Int
deriving Inhabited,DecidableEq
def Dif.cells (d:Dif):List D:=[.str d.path,.int .i64 d.code]
def Q6 (l:List Dif):D:=slD 2 Dif.cells l
abbrev Prs:=List (Int × Int)
def Zch (x:Prs × List Dif) (y:Prs→Prs × List Dif):Prs × List Dif:=((y x.1).1,x.2++(y x.1).2)
def KB (rec:Prs→Str→Str→Str→Prs × List Dif) (at_:Str):Prs→List WK→Prs × List Dif
 | p,[]=>(p,[])
 | p,c :: r=>Zch (rec p c.of c.of (J6 at_ c.of)) fun p=>KB rec at_ p r
def Zba (rec:Prs→Str→Str→Str→Prs × List Dif) (m:Msg) (path:Str) (p:Prs) (f g:Fld):Prs × List Dif :=
 if ZaW m f g≠0 then (p,[⟨J6 path f.name,ZaW m f g⟩])
 else Zch (if ZaX m f then rec p f.of g.of (J6 path f.name) else (p,[])) fun p=>KB rec (J6 path f.name) p f.cases
def WL (rec:Prs→Str→Str→Str→Prs × List Dif) (m:Msg) (path:Str):Prs→List (Fld × Fld)→Prs × List Dif
 | p,[]=>(p,[])
 | p,x :: r=>Zch (Zba rec m path p x.1 x.2) fun p=>WL rec m path p r
def YD (w r:Dfn):Nat→Prs→Str→Str→Str→Prs × List Dif
 | 0,p,_,_,_=>(p,[])
 | n + 1,p,a,b,path =>
  if (Z6 w a w.msgs.length,Z6 r b r.msgs.length)∈p then (p,[]) else
  Zch (p++[(Z6 w a w.msgs.length,Z6 r b r.msgs.length)],if (w.msgs.getD (Z6 w a w.msgs.length).toNat default).fields.length≠(r.msgs.getD (Z6 r b r.msgs.length).toNat default).fields.length then [⟨path,2⟩] else [])
   fun p=>WL (YD w r n) (w.msgs.getD (Z6 w a w.msgs.length).toNat default) path p ((w.msgs.getD (Z6 w a w.msgs.length).toNat default).fields.zip (r.msgs.getD (Z6 r b r.msgs.length).toNat default).fields)
def KZ (w r:Dfn):List Dif:=if w.start≠r.start then [⟨[],1⟩] else (YD w r (w.msgs.length + 1) [] w.start r.start []).2
structure Ju (N M:Nat) (p:Prs):Prop where
 nodup:p.Nodup
 range:∀ x∈p,-1≤x.1∧x.1 < N∧-1≤x.2∧x.2 < M
theorem ZqK {K:Nat}:∀ {l:List Nat},l.Nodup→(∀ x∈l,x < K)→l.length≤K:=by
 induction K with
 | zero=>intro l _ h; cases l with | nil=>simp | cons x r=>exact absurd (h x (by simp)) (by omega)
 | succ K ih =>
  intro l hn h
  have h1:=ih (hn.filter (fun x=>decide (x≠K))) (fun x hx=>by
   have h2:=h x (List.mem_filter.1 hx).1
   have h3:x≠K:=by simpa using (List.mem_filter.1 hx).2
   omega)
  have h2:l.length≤(l.filter (fun x=>decide (x≠K))).length + 1:=by
   clear h1 h ih
   induction l with
   | nil=>simp
   | cons x r ihr =>
    have hr:=ihr (List.nodup_cons.1 hn).2
    by_cases hx:x=K
    ·subst hx
     have:r.filter (fun y=>decide (y≠x))=r:=List.filter_eq_self.2 fun y hy=>by
      have:y≠x:=fun e=>(List.nodup_cons.1 hn).1 (e ▸ hy)
      simpa using this
     rw [List.filter_cons,this]; simp
    ·rw [List.filter_cons,if_pos (by simpa using hx)]; simp only [ZuI]; omega
  omega
theorem Ju.few {N M:Nat} {p:Prs} (h:Ju N M p):p.length≤(N + 1) * (M + 1):=by
 have hk:∀ x∈p,(x.1 + 1).toNat < N + 1∧(x.2 + 1).toNat < M + 1:=fun x hx=>by have:=h.range x hx; omega
 have:=ZqK (K:=(N + 1) * (M + 1)) (l:=p.map fun x=>(x.1 + 1).toNat * (M + 1) + (x.2 + 1).toNat) ?_ ?_
 ·simpa using this
 ·refine List.Pairwise.map _ ?_ (List.Pairwise.and_mem.1 h.nodup)
  intro x y ⟨hx,hy,hne⟩ he
  have h1:=h.range x hx; have h2:=h.range y hy
  have h3:=hk x hx; have h4:=hk y hy
  have e1:((x.1 + 1).toNat * (M + 1) + (x.2 + 1).toNat) / (M + 1)=(x.1 + 1).toNat:=by
   rw [Nat.mul_comm,Nat.mul_add_div (by omega),Nat.div_eq_of_lt h3.2,Nat.add_zero]
  have e2:((y.1 + 1).toNat * (M + 1) + (y.2 + 1).toNat) / (M + 1)=(y.1 + 1).toNat:=by
   rw [Nat.mul_comm,Nat.mul_add_div (by omega),Nat.div_eq_of_lt h4.2,Nat.add_zero]
  have e3:((x.1 + 1).toNat * (M + 1) + (x.2 + 1).toNat) % (M + 1)=(x.2 + 1).toNat:=by
   rw [Nat.mul_comm,Nat.mul_add_mod,Nat.mod_eq_of_lt h3.2]
  have e4:((y.1 + 1).toNat * (M + 1) + (y.2 + 1).toNat) % (M + 1)=(y.2 + 1).toNat:=by
   rw [Nat.mul_comm,Nat.mul_add_mod,Nat.mod_eq_of_lt h4.2]
  have e5:(x.1 + 1).toNat=(y.1 + 1).toNat:=by rw [← e1,← e2,he]
  have e6:(x.2 + 1).toNat=(y.2 + 1).toNat:=by rw [← e3,← e4,he]
  exact hne (Prod.ext (by omega) (by omega))
 ·intro z hz
  obtain ⟨x,hx,rfl⟩:=List.mem_map.1 hz
  have h3:=hk x hx
  calc (x.1 + 1).toNat * (M + 1) + (x.2 + 1).toNat < (x.1 + 1).toNat * (M + 1) + (M + 1):=by omega
   _=((x.1 + 1).toNat + 1) * (M + 1):=by rw [Nat.add_mul,Nat.one_mul]
   _≤(N + 1) * (M + 1):=Nat.mul_le_mul_right _ (by omega)
structure ZfN (N M:Nat) (p:Prs) (z:Prs × List Dif):Prop where
 ok:Ju N M z.1
 more:z.2.length + 41 * p.length≤41 * z.1.length
theorem ZfN.refl {N M:Nat} {p:Prs} (h:Ju N M p):ZfN N M p (p,[]):=⟨h,by simp⟩
theorem ZfN.then {N M:Nat} {p:Prs} {x:Prs × List Dif} {y:Prs→Prs × List Dif} (h:ZfN N M p x) (h':ZfN N M x.1 (y x.1)):ZfN N M p (Zch x y) :=
 ⟨h'.ok,by have:=h.more; have:=h'.more; simp only [Zch,ZuF]; omega⟩
def Zom (N M:Nat) (rec:Prs→Str→Str→Str→Prs × List Dif):Prop:=∀ p a b s,Ju N M p→ZfN N M p (rec p a b s)
theorem Zlw {N M:Nat} {rec:Prs→Str→Str→Str→Prs × List Dif} (hr:Zom N M rec) {at_:Str} {l:List WK} {p:Prs} (h:Ju N M p):ZfN N M p (KB rec at_ p l):=by
 induction l generalizing p with
 | nil=>exact .refl h
 | cons c r ih=>exact (hr _ _ _ _ h).then (ih (hr _ _ _ _ h).ok)
theorem Zkw {N M:Nat} {rec:Prs→Str→Str→Str→Prs × List Dif} (hr:Zom N M rec) {m:Msg} {path:Str} {l:List (Fld × Fld)} {p:Prs} (h:Ju N M p) :
  Ju N M (WL rec m path p l).1∧(WL rec m path p l).2.length + 41 * p.length≤41 * (WL rec m path p l).1.length + l.length:=by
 induction l generalizing p with
 | nil=>exact ⟨h,by simp [WL]⟩
 | cons x r ih =>
  have h1:Ju N M (Zba rec m path p x.1 x.2).1∧(Zba rec m path p x.1 x.2).2.length + 41 * p.length≤41 * (Zba rec m path p x.1 x.2).1.length + 1:=by
   unfold Zba
   split
   ·exact ⟨h,by simp; omega⟩
   ·have h2:ZfN N M p (if ZaX m x.1 then rec p x.1.of x.2.of (J6 path x.1.name) else (p,[])):=by
     split
     ·exact hr _ _ _ _ h
     ·exact .refl h
    have h3:=h2.then (y:=fun p=>KB rec (J6 path x.1.name) p x.1.cases) (Zlw hr h2.ok)
    exact ⟨h3.ok,by have:=h3.more; omega⟩
  have h2:=ih h1.1
  refine ⟨h2.1,?_⟩
  simp only [WL,Zch,ZuF,ZuI]
  have:=h1.2; have:=h2.2; omega
theorem Jh (d:Dfn) (s:Str):-1≤Z6 d s d.msgs.length∧Z6 d s d.msgs.length < d.msgs.length:=by
 unfold Z6
 rw [ZuH]
 exact ⟨Za6 _ _,Zaa _ _⟩
theorem Ju.snoc {w r:Dfn} {p:Prs} (h:Ju w.msgs.length r.msgs.length p) {a b:Str} (hn:(Z6 w a w.msgs.length,Z6 r b r.msgs.length) ∉ p):Ju w.msgs.length r.msgs.length (p++[(Z6 w a w.msgs.length,Z6 r b r.msgs.length)]):=by
 refine ⟨List.nodup_append.2 ⟨h.nodup,by simp,fun x hx y hy=>?_⟩,fun x hx=>?_⟩
 ·rintro rfl; simp at hy; subst hy; exact hn hx
 ·rcases List.mem_append.1 hx with hx | hx
  ·exact h.range x hx
  ·simp at hx; subst hx
   have h1:=Jh w a; have h2:=Jh r b
   exact ⟨h1.1,h1.2,h2.1,h2.2⟩
theorem Zb3 {w r:Dfn} (hw:∀ m∈w.msgs,m.fields.length≤40):∀ n,Zom w.msgs.length r.msgs.length (YD w r n):=by
 intro n
 induction n with
 | zero=>intro p a b s h; exact .refl h
 | succ n ih =>
  intro p a b s h
  rw [YD]
  split
  ·exact .refl h
  ·rename_i hn
   have h1:=h.snoc hn
   have hf:(w.msgs.getD (Z6 w a w.msgs.length).toNat default).fields.length≤40:=by
    by_cases hi:(Z6 w a w.msgs.length).toNat < w.msgs.length
    ·exact hw _ (Ki hi)
    ·rw [List.getD,List.getElem?_eq_none (by omega)]; decide
   generalize (Z6 w a w.msgs.length,Z6 r b r.msgs.length)=x at *
   have h2:=Zkw (m:=w.msgs.getD (Z6 w a w.msgs.length).toNat default) (path:=s) (l:=(w.msgs.getD (Z6 w a w.msgs.length).toNat default).fields.zip (r.msgs.getD (Z6 r b r.msgs.length).toNat default).fields) ih h1
   refine ⟨h2.1,?_⟩
   simp only [Zch,ZuF]
   have h3:=h2.2
   simp only [List.length_zip,ZuF,ZuI,List.length_nil] at h3
   split
   ·simp only [ZuI,List.length_nil]; omega
   ·simp only [List.length_nil]; omega
end Go.DL
namespace Go.DL
open Go Go.Proofs
theorem Zni {α:Type} [Inhabited α] {p:α→Bool} {l:List α} {n:Nat} (h:0≤Z7 p (l.take n)):Z7 p l=Z7 p (l.take n):=by
 have h1:=Zfd h
 have h2:=Zaa p (l.take n)
 rw [List.length_take] at h2
 have h3:=JR (p:=p) (l:=l) (i:=(Z7 p (l.take n)).toNat) (by omega) (by rw [← Zbg (n:=n) (by omega)]; exact h1.1) (fun j hj=>by rw [← Zbg (n:=n) (by omega)]; exact h1.2 j hj)
 omega
theorem ZjL {d:Dfn} {s:Str} {n:Nat} (h:0≤Z6 d s n):Z6 d s d.msgs.length=Z6 d s n∧Z6 d s n < n∧Z6 d s n < d.msgs.length:=by
 unfold Z6 at *
 have h2:=Zaa (fun m:Msg=>decide (m.name=s)) (d.msgs.take n)
 rw [List.length_take] at h2
 refine ⟨?_,by omega,by omega⟩
 rw [ZuH]; exact Zni h
theorem ZjJ {d:Dfn} {s:Str} {n:Nat} (h:0≤Z6 d s n):(d.msgs.getD (Z6 d s n).toNat default).name=s:=by
 have h3:=ZjL h
 unfold Z6 at *
 have h1:=(Zfd h).1
 rw [Zbg (by omega)] at h1
 simpa using h1
theorem Zkt {d:Dfn} {at_:Nat} {l:List Msg} {deps:List Int} (h:JQ d at_ l deps=none):(∀ i,i < l.length→QS d (at_ + i) (l.getD i default)=none)∧0≤Z6 d d.start d.msgs.length:=by
 induction l generalizing at_ deps with
 | nil =>
  simp only [JQ] at h
  split at h
  ·simp at h
  ·exact ⟨fun i hi=>by simp at hi,by omega⟩
 | cons m r ih =>
  simp only [JQ] at h
  split at h
  ·simp at h
  ·rename_i hm
   split at h
   ·simp at h
   ·have h1:=ih h
    refine ⟨fun i hi=>?_,h1.2⟩
    cases i with
    | zero=>simpa using hm
    | succ i =>
     have:=h1.1 i (by simpa using hi)
     simpa [Nat.add_assoc,Nat.add_comm 1 i] using this
structure QB (d:Dfn):Prop where
 many:d.msgs.length≤60
 start:0≤Z6 d d.start d.msgs.length
 flaw:∀ i,i < d.msgs.length→QS d i (d.msgs.getD i default)=none
theorem ZcE {d:Dfn} (h:Wt d=true):QB d:=by
 unfold Wt ZdN at h
 split at h
 ·simp at h
 ·split at h
  ·simp at h
  ·rename_i hc
   simp only [ZuL,decide_eq_true_eq,not_or,Nat.not_lt] at hc
   simp only [Option.isNone_iff_eq_none] at h
   have:=Zkt h
   refine ⟨by omega,this.2,fun i hi=>by simpa using this.1 i hi⟩
theorem ZjU {s:Str} (h:K0 s=true):s.length≤32:=by
 unfold K0 at h
 split at h
 ·simp
 ·simp only [ZuA,decide_eq_true_eq] at h; exact h.1.1
structure Zq0 (d:Dfn) (j:Nat) (m:Msg):Prop where
 name:m.name.length≤32
 many:m.fields.length≤40
 field:∀ i,i < m.fields.length→Je d j m i (m.fields.getD i default)=0
theorem ZiT {d:Dfn} {j:Nat} {m:Msg} {k:Nat} {l:List Fld} (h:Ky d j m k l=none):∀ i,i < l.length→Je d j m (k + i) (l.getD i default)=0:=by
 induction l generalizing k with
 | nil=>intro i hi; simp at hi
 | cons f r ih =>
  simp only [Ky] at h
  split at h
  ·rename_i hf
   intro i hi
   cases i with
   | zero=>simpa using hf
   | succ i=>have:=ih h i (by simpa using hi); simpa [Nat.add_assoc,Nat.add_comm 1 i] using this
  ·simp at h
theorem ZqH {d:Dfn} {j:Nat} {m:Msg} (h:QS d j m=none):Zq0 d j m:=by
 unfold QS at h
 split at h; · simp at h
 rename_i h1
 split at h; · simp at h
 split at h; · simp at h
 rename_i hc
 simp only [ZuL,decide_eq_true_eq,not_or,Nat.not_lt] at hc
 exact ⟨ZjU (by simpa using h1),by omega,fun i hi=>by simpa using ZiT h i hi⟩
structure ZlN (d:Dfn) (j:Nat) (f:Fld):Prop where
 name:f.name.length≤32
 ref:∀ s∈Wk f,0≤Z6 d s d.msgs.length∧Z6 d s d.msgs.length < j
 cases:f.cases≠[]→f.kind=9
theorem ZlN.many {d:Dfn} {j:Nat} {f:Fld} (h:ZlN d j f) (hl:(Wk f).length≤41):f.cases.length≤41:=by
 by_cases hc:f.cases=[]
 ·simp [hc]
 ·unfold Wk at hl
  rw [if_pos (h.cases hc)] at hl
  simp at hl; omega
theorem ZnT {f:Fld} (h1:1≤f.kind) (h2:f.kind≤12) (h:Zci f=true) (hc:f.cases≠[]):f.kind=9:=by
 have hk:f.kind=1∨f.kind=2∨f.kind=3∨f.kind=4∨f.kind=5∨f.kind=6∨f.kind=7∨f.kind=8∨f.kind=9∨f.kind=10∨f.kind=11∨f.kind=12:=by omega
 simp only [Zci,ZuA] at h
 have h3:=h.2.2
 rcases hk with hk | hk | hk | hk | hk | hk | hk | hk | hk | hk | hk | hk <;> rw [hk] at h3 ⊢ <;> simp [zrC,ZdH,ZlR,JB,hc] at h3 <;> rfl
theorem Zmw {d:Dfn} {j i:Nat} {m:Msg} {f:Fld} (h:Je d j m i f=0):ZlN d j f:=by
 have h0:=ZgW h
 unfold Je at h
 split at h; · omega
 rename_i h1
 split at h; · omega
 split at h; · omega
 rename_i hk
 split at h; · omega
 rename_i hz
 simp only [ZuL,decide_eq_true_eq,not_or,Int.not_lt] at hk
 refine ⟨ZjU (by simpa using h1),fun s hs=>?_,fun hc=>ZnT (by omega) (by omega) (by simpa using hz) hc⟩
 have h3:=h0.2 s hs
 have h4:=ZjL h3
 exact ⟨by omega,by omega⟩
theorem QB.msg {d:Dfn} (h:QB d) {j:Nat} (hj:j < d.msgs.length):Zq0 d j (d.msgs.getD j default):=ZqH (h.flaw j hj)
theorem QB.fld {d:Dfn} (h:QB d) {j i:Nat} (hj:j < d.msgs.length) (hi:i < (d.msgs.getD j default).fields.length):ZlN d j ((d.msgs.getD j default).fields.getD i default):=Zmw ((h.msg hj).field i hi)
theorem QB.ncases {d:Dfn} (h:QB d) {j i:Nat} (hj:j < d.msgs.length) (hi:i < (d.msgs.getD j default).fields.length):((d.msgs.getD j default).fields.getD i default).cases.length≤41:=(h.fld hj hi).many (ZgW ((h.msg hj).field i hi)).1
theorem QB.fields {d:Dfn} (h:QB d):∀ m∈d.msgs,m.fields.length≤40:=by
 intro m hm
 obtain ⟨j,hj,rfl⟩:=ZuJ hm
 have:=(h.msg hj).many
 simpa [List.getD,hj] using this
theorem ZjC {m:Msg} {f g:Fld} (h:ZaW m f g=0):f.kind=g.kind∧(ZaX m f=true→f.of=g.of)∧∀ c∈f.cases,WA c c.low g.cases=true:=by
 unfold ZaW at h
 split at h; · omega
 split at h; · omega
 rename_i hk
 split at h; · omega
 split at h; · omega
 split at h; · omega
 split at h; · omega
 split at h; · omega
 split at h; · omega
 rename_i ho
 split at h
 ·rename_i hc
  refine ⟨by simpa using hk,fun hi=>?_,fun c hx=>List.all_eq_true.1 hc c hx⟩
  rw [hi] at ho; simpa using ho
 ·omega
theorem Zis {c:WK} {v:Int} {l:List WK} (h:WA c v l=true):∃ x∈l,x.of=c.of:=by
 induction l generalizing v with
 | nil=>simp [WA] at h
 | cons x r ih =>
  simp only [WA] at h
  split at h
  ·rename_i hx
   simp only [ZuA,decide_eq_true_eq] at hx
   exact ⟨x,by simp,hx.2.2⟩
  ·obtain ⟨y,hy,he⟩:=ih h
   exact ⟨y,by simp [hy],he⟩
theorem Zlc {m:Msg} {f:Fld} (h:ZaX m f=true):f.of∈Wk f:=by
 simp only [ZaX,ZuL,ZuA,decide_eq_true_eq] at h
 unfold Wk Jz
 rcases h with h | h | h
 ·simp [h]
 ·simp [h]
 ·simp [h.1]
theorem ZjS {m:Msg} {f g:Fld} (h:ZaX m f=true) (hk:f.kind=g.kind):g.of∈Wk g:=by
 simp only [ZaX,ZuL,ZuA,decide_eq_true_eq] at h
 unfold Wk Jz
 rw [← hk]
 rcases h with h | h | h
 ·simp [h]
 ·simp [h]
 ·simp [h.1]
theorem ZfU {f:Fld} {c:WK} (hk:f.kind=9) (hc:c∈f.cases):c.of∈Wk f:=by
 unfold Wk; rw [if_pos hk]; exact List.mem_append_right _ (List.mem_map_of_mem hc)
end Go.DL
namespace Go.DL
open Go
theorem K4 {q:Nat→Prop} {j:Nat} (h:∀ i,i < j→q i) (hj:q j):∀ i,i < j + 1→q i:=fun i hi=>by
 rcases Nat.lt_or_eq_of_le (Nat.le_of_lt_succ hi) with h' | rfl
 ·exact h i h'
 ·exact hj
theorem Zdt {s:St} {t:Tok} {x:Nat} {o:KC} (h:t.okIn (s.upd x o)):t.okIn s∧∀ k,(s.upd x o).own t k=(s.own t k).upd x o:=by
 cases t with
 | tip b =>
  simp only [Tok.okIn] at h
  have hb:b≠x:=fun e=>by rw [e,ZuB] at h; simp at h
  refine ⟨by simp only [Tok.okIn]; rw [ZuE s o hb] at h; exact h,fun k=>?_⟩
  simp only [St.own]; exact St.upd_comm s o _ hb
 | full=>exact ⟨trivial,fun _=>rfl⟩
 | none=>exact h.elim
theorem Zgc {s:St} {t:Tok} {x k:Nat} (o:KC) (h:t.okIn s) (hx:(s.own t k) x=none):t.okIn (s.upd x o):=by
 cases t with
 | tip b =>
  simp only [Tok.okIn,St.own] at h hx ⊢
  have hb:b≠x:=fun e=>by rw [e,ZuB] at hx; simp at hx
  rw [ZuE s o hb]; exact h
 | full=>trivial
 | none=>exact h.elim
theorem ZfD {s:St} {t u:Tok} {a:Nat} (ht:t.okIn s) (hu:u.okIn (s.own t a)):u.okIn s∧(∀ b,t.okIn (s.own u b))∧∀ b c,(s.own t c).own u b=(s.own u b).own t c:=by
 cases t with
 | tip b1 =>
  cases u with
  | tip b2 =>
   simp only [Tok.okIn,St.own] at ht hu ⊢
   have hb:b2≠b1:=fun e=>by rw [e,ZuB] at hu; simp at hu
   rw [ZuE s _ hb] at hu
   exact ⟨hu,fun k=>by rw [ZuE s _ (Ne.symm hb)]; exact ht,fun k c=>St.upd_comm s _ _ hb⟩
  | full=>exact ⟨trivial,fun _=>ht,fun _ _=>rfl⟩
  | none=>exact hu.elim
 | full =>
  cases u with
  | tip b2=>exact ⟨hu,fun _=>trivial,fun _ _=>rfl⟩
  | full=>exact ⟨trivial,fun _=>trivial,fun _ _=>rfl⟩
  | none=>exact hu.elim
 | none=>exact ht.elim
theorem ZhU {s:St} {t:Tok} {x k:Nat} (ht:t.okIn s) {o:KC} (hx:s x=some o):(s.own t k) x=some o:=Zl ht _ _ hx
theorem Zcn {s:St} {t:Tok} {x k:Nat} (hx:(s.own t k) x=none):s x=none∧∀ j,(s.own t j) x=none:=by
 cases t with
 | tip b =>
  simp only [St.own] at hx ⊢
  have hb:x≠b:=fun e=>by rw [e,ZuB] at hx; simp at hx
  rw [ZuE s _ hb] at hx
  exact ⟨hx,fun j=>by rw [ZuE s _ hb]; exact hx⟩
 | _=>exact ⟨hx,fun _=>hx⟩
theorem ZkC {s:St} {t:Tok} {x:Nat} {o:KC} (h:t.okIn (s.upd x o)) (hx:s x=none) (k:Nat):(s.own t k) x=none:=by
 cases t with
 | tip b =>
  simp only [Tok.okIn,St.own] at h ⊢
  have hb:x≠b:=fun e=>by rw [e,ZuB] at h; simp at h
  rw [ZuE s _ hb]; exact hx
 | _=>exact hx
def st2 (st:St) (t1:Tok) (k1:Nat) (t2:Tok) (k2:Nat) (x:Nat) (c:KC):St:=((st.own t1 k1).own t2 k2).upd x c
structure ZaF (st:St) (t1:Tok) (t2:Tok) (x:Nat):Prop where
 o1:t1.okIn st
 o2:∀ k,t2.okIn (st.own t1 k)
 ox:∀ k j,((st.own t1 k).own t2 j) x=none
theorem ZaF.mk' {st:St} {t1 t2:Tok} {x k1 k2:Nat} (h1:t1.okIn st) (h2:t2.okIn (st.own t1 k1)) (hx:((st.own t1 k1).own t2 k2) x=none):ZaF st t1 t2 x:=by
 have hc:∀ k,t2.okIn (st.own t1 k):=fun k=>by
  cases t1 with
  | tip b =>
   cases t2 with
   | tip b2 =>
    simp only [Tok.okIn,St.own] at h2 ⊢
    have hb:b2≠b:=fun e=>by rw [e,ZuB] at h2; simp at h2
    rw [ZuE st _ hb] at h2 ⊢; exact h2
   | full=>trivial
   | none=>exact h2.elim
  | full=>exact h2
  | none=>exact h1.elim
 refine ⟨h1,hc,fun k j=>?_⟩
 have a:=Zcn (Zcn hx).1
 have b:=ZfD h1 (hc k)
 rw [b.2.2]
 have hx2:(st.own t2 k2) x=none:=by
  have e:=(ZfD h1 h2).2.2 k2 k1
  rw [e] at hx; exact (Zcn hx).1
 have hb2:=(Zcn hx2).2 j
 cases ht:t1 with
 | tip b1 =>
  subst ht
  have h3:x≠b1:=fun e=>by have:=a.2 0; simp only [St.own] at this; rw [e,ZuB] at this; simp at this
  simp only [St.own]
  rw [ZuE _ _ h3]; exact hb2
 | _=>subst ht; exact hb2
theorem ZaF.first {st:St} {t1 t2:Tok} {x:Nat} (h:ZaF st t1 t2 x) (k1 k2:Nat) (c:KC):st2 st t1 k1 t2 k2 x c=((st.own t2 k2).upd x c).own t1 k1∧t1.okIn ((st.own t2 k2).upd x c):=by
 have h1:=ZfD h.o1 (h.o2 0)
 have h2:t1.okIn ((st.own t2 k2).upd x c):=Zgc (k:=k1) c (h1.2.1 k2) (by rw [← h1.2.2]; exact h.ox _ _)
 refine ⟨?_,h2⟩
 rw [(Zdt h2).2,← h1.2.2]; rfl
theorem ZaF.second {st:St} {t1 t2:Tok} {x:Nat} (h:ZaF st t1 t2 x) (k1 k2:Nat) (c:KC):st2 st t1 k1 t2 k2 x c=((st.own t1 k1).upd x c).own t2 k2∧t2.okIn ((st.own t1 k1).upd x c):=by
 have h2:t2.okIn ((st.own t1 k1).upd x c):=Zgc (k:=k2) c (h.o2 k1) (h.ox _ _)
 exact ⟨by rw [(Zdt h2).2]; rfl,h2⟩
theorem ZaF.first' {st:St} {t1 t2:Tok} {x:Nat} (h:ZaF st t1 t2 x) {t:Tok} {k2:Nat} {c:KC} (ht:t.okIn ((st.own t2 k2).upd x c)):ZaF st t t2 x∧(∀ k,(((st.own t2 k2).upd x c).own t k) x=some c)∧∀ k c',(((st.own t2 k2).upd x c).own t k).upd x c'=st2 st t k t2 k2 x c':=by
 have h1:=ZfD h.o1 (h.o2 0)
 have hu:=Zdt ht
 have hx2:(st.own t2 k2) x=none:=by have:=h.ox 0 k2; rw [h1.2.2] at this; exact (Zcn this).1
 have h3:=ZfD h1.1 hu.1
 have hk:∀ k,(st.own t k).own t2 k2=(st.own t2 k2).own t k:=fun k=>(h3.2.2 k k2).symm
 have hok:ZaF st t t2 x:=.mk' (k1:=0) (k2:=k2) h3.1 (h3.2.1 0) (by rw [hk]; exact ZkC ht hx2 _)
 refine ⟨hok,fun k=>?_,fun k c'=>?_⟩
 ·rw [hu.2]; exact ZuB _ _ _
 ·rw [hu.2,ZuQ,← hk]; rfl
theorem ZaF.second' {st:St} {t1 t2:Tok} {x:Nat} (h:ZaF st t1 t2 x) {t:Tok} {k1:Nat} {c:KC} (ht:t.okIn ((st.own t1 k1).upd x c)):ZaF st t1 t x∧(∀ k,(((st.own t1 k1).upd x c).own t k) x=some c)∧∀ k c',(((st.own t1 k1).upd x c).own t k).upd x c'=st2 st t1 k1 t k x c':=by
 have hu:=Zdt ht
 have hx2:(st.own t1 k1) x=none:=(Zcn (h.ox k1 0)).1
 refine ⟨.mk' (k1:=k1) (k2:=0) h.o1 hu.1 (ZkC ht hx2 _),fun k=>?_,fun k c'=>?_⟩
 ·rw [hu.2]; exact ZuB _ _ _
 ·rw [hu.2,ZuQ]; rfl
theorem ZaF.sub {st:St} {t1 t2:Tok} {x:Nat} (h:ZaF st t1 t2 x) (k1 k2:Nat) (c:KC):st.sub (st2 st t1 k1 t2 k2 x c) :=
 ZuK (Zl h.o1) (ZuK (Zl (h.o2 k1)) (Zuy _ (h.ox k1 k2)))
theorem ZcC {st:St} {t1 t2:Tok} {x k1 k2:Nat} {c:KC}:(st2 st t1 k1 t2 k2 x c) x=some c:=ZuB _ _ _
end Go.DL
namespace Go.DL
open Go Go.Proofs
def prC (x:Int × Int):List D:=[.int .i64 x.1,.int .i64 x.2]
def stC (w r:Dfn) (d1 d2:D):List D:=[.str w.name,We w.msgs,.str w.start,.str r.name,We r.msgs,.str r.start,d1,d2]
def Zd9 (w r:Dfn) (st:St) (x:Nat) (p:Prs) (o:List Dif) (s:St):Prop :=
 ∃ t1 row1 t2 row2,ZaF st t1 t2 x∧YE prC row1 p∧YE Dif.cells row2 o∧s=st2 st t1 (p.length * 2) t2 (o.length * 2) x (.cells (stC w r (.sl t1 p.length 2 row1) (.sl t2 o.length 2 row2)))
theorem Zm8 {l l':List Fld} {j:Nat} (h:j < l.length) (h':j < l'.length):(l.zip l').getD j default=(l.getD j default,l'.getD j default):=by
 have:j < (l.zip l').length:=by rw [List.length_zip]; omega
 simp [List.getD,List.getElem?_eq_getElem this,h,h']
theorem Zlg (p n:Str):(J6 p n).length≤p.length + n.length + 1:=by
 unfold J6
 split
 ·omega
 ·simp only [ZuF,ZuI,List.length_nil]; omega
theorem QB.name_len {d:Dfn} (h:QB d) {s:Str} (hs:0≤Z6 d s d.msgs.length):s.length≤32:=by
 have h1:=ZjJ hs
 have h2:=(Jh d s).2
 have h3:=(h.msg (j:=(Z6 d s d.msgs.length).toNat) (by omega)).name
 rw [h1] at h3; exact h3
theorem Zp8 {P:Program} {F:Fr P} {dk:List Z4} {ρ:Env} {L:Loc} {w r:Dfn} {st:St} {x:Nat} {p:Prs} {o:List Dif} {s:St} (h:Zd9 w r st x p o s) (k:∀ S,Zd9 w r st x p o S→ZT F dk ρ L S):ZT F dk ρ L s:=k s h
theorem ZkF {w r:Dfn} (hw:QB w) (hr:QB r):∀ (fu:Nat) (a b path:Str) (p:Prs) (o:List Dif) (st:St) (x:Nat) (s:St),
  Z6 w a w.msgs.length < fu→0≤Z6 w a w.msgs.length→0≤Z6 r b r.msgs.length→path.length + 100 * fu≤1000000→Ju w.msgs.length r.msgs.length p→o.length≤41 * p.length→Zd9 w r st x p o s →
  Yf Zuv Zh.id [.ptr x 0,.str a,.str b,.str path] s (fun q s'=>q = .ret (.tup [])∧Zd9 w r st x (YD w r fu p a b path).1 (o++(YD w r fu p a b path).2) s'):=by
 intro fu
 induction fu with
 | zero=>intro a b path p o st x s h0 h1; omega
 | succ fu ih =>
  intro a b path p o st x s hin hi0 hk0 hpath hp ho ⟨t1,row1,t2,row2,hok,hrow1,hrow2,hs⟩
  subst hs
  have hmw:=hw.many
  have hmr:=hr.many
  have hfew:p.length≤61 * 61:=Nat.le_trans hp.few (Nat.mul_le_mul (by omega) (by omega))
  have hil:=(Jh w a).2
  have hkl:=(Jh r b).2
  refine Z2 Zh.ok fun F hF=>?_
  have hM:YD w r (fu + 1) p a b path=_:=YD.eq_2 _ _ _ _ _ _ _
  generalize hgi:Z6 w a w.msgs.length=gi at *
  generalize hgk:Z6 r b r.msgs.length=gk at *
  refine Za (Wq (ZM ?_))
  simp only [Eqs,reduceCtorEq,reduceIte,Zuq,Zur,Zus,Zh.r0,stC,We,slD,ZcC]
  refine Kd rfl rfl rfl rfl rfl (by trivial) (by trivial) (by exact Jj w a w.msgs.length (ZuO _)) (ZM ?_)
  simp only [Eqs,reduceIte,hgi]
  refine Kd rfl rfl rfl rfl rfl (by trivial) (by trivial) (by exact Jj r b r.msgs.length (ZuO _)) (ZM ?_)
  simp only [Eqs,reduceCtorEq,reduceIte,Zuq,hgk]
  refine Za (Za (Zb (Zc ?_)))
  simp only [Eqs,reduceCtorEq,reduceIte,Zuq,Zh.r1]
  refine Zj (ZX ?_)
  have key:∀ (n j:Nat),(p.length) - j=n→j≤p.length→(∀ i,i < j→p.getD i default≠(gi,gk))→ZT F [.code (Zh.l0),.inLoop Zh.l0,.inBlock 0,.code (.seq (qR Zh.r5 [0,3,8,9]) (.seq (.regD [0,1,2,3,4,5,6,7,8,9,10,11,12,13,14,15,16,17,18,19] Zh.r6 (some [0,3,11,12])) (.seq (.seq (qR Zh.r7 [0,3,11,12,97]) (qC 97 (qR Zh.r8 [0,3,11,12]) .skip)) (.seq (qR Zh.r9 [0,3,11,12,13]) (.block 2 (.loop Zh.l1))))))] [(0,.d (.ptr x 0)),(3,.d (.str path)),(8,.d (.int .i64 gi)),(9,.d (.int .i64 gk)),(10,.d (.int .i64 j))] [] (st2 st t1 (p.length * 2) t2 (o.length * 2) x (.cells (stC w r (.sl t1 p.length 2 row1) (.sl t2 o.length 2 row2)))):=by
   intro n
   induction n using Nat.strongRecOn with
   | ind n ih_key =>
   intro j hn hj hno
   refine Za (Za (Zb (Zc ?_)))
   simp only [Eqs,reduceCtorEq,reduceIte,Zuq,Zh.r2,stC,ZcC]
   refine Ze rfl trivial (fun h1=>?_) (fun h1=>?_)
   ·simp at h1
    have hr1:=hrow1 j h1
    generalize hy:p.getD j default=y at *
    refine Zg (Za (Zj (Za (Zb (Zc ?_)))))
    simp only [Eqs,reduceCtorEq,reduceIte,Zuq,Zur,Zus,Zh.r4,prC,hr1,ZcC]
    repeat (refine Zut (by first | omega | trivial | (intro h0; simp at h0; omega)) ?_)
    refine Ze rfl trivial (fun h2=>?_) (fun h2=>?_)
    ·have hyp:(gi,gk)∈p:=by
      have:y=(gi,gk):=by
       simp only [ZuA,decide_eq_true_eq] at h2
       exact Prod.ext h2.1 h2.2
      rw [← this,← hy]; exact Ki h1
     rw [if_pos hyp] at hM
     refine hF.ret (.tup []) _ rfl trivial (Zux _) (Zuw _) ⟨rfl,?_⟩
     rw [hM,List.append_nil]
     exact ⟨t1,row1,t2,row2,hok,hrow1,hrow2,rfl⟩
    ·have hne:y≠(gi,gk):=by
      rintro rfl
      exact absurd h2 (by simp)
     clear h2
     refine Zg (Zm (Zb (Zc ?_)))
     simp only [Eqs,reduceCtorEq,reduceIte,Zuq,Zh.r3]
     repeat (refine Zut (by first | omega | trivial | (intro h0; simp at h0; omega)) ?_)
     refine Zy ?_
     exact ih_key ((p.length) - (j + 1)) (by omega) (j + 1) rfl (by omega) (K4 (q:=fun i=>p.getD i default≠(gi,gk)) hno (by rw [hy]; exact hne))
   ·simp at h1
    obtain rfl:j=p.length:=by omega
    have hyp:(gi,gk) ∉ p:=by
     intro hm
     obtain ⟨i,hi,he⟩:=ZuJ hm
     exact hno i hi (by simp [List.getD,hi,he])
    rw [if_neg hyp] at hM
    have hp1:Ju w.msgs.length r.msgs.length (p++[(gi,gk)]):=by
     subst hgi; subst hgk; exact hp.snoc hyp
    clear hno hn hj ih_key
    refine ZQ rfl (Za (Zb (Zc ?_)))
    simp only [Eqs,reduceCtorEq,reduceIte,Zuq,Zur,Zus,Zh.r5,ZcC]
    refine JO (_) (t1) rfl rfl rfl rfl rfl rfl (by trivial) (by trivial) (hok.first _ _ _).1 (hok.first 0 _ _).2 (by omega) (by (unfold big; omega)) fun t5 ht5=>Zc ?_
    simp only [Eqs,reduceCtorEq,reduceIte,Zuq,Zur,Zus,(hok.first' ht5).2.1,(hok.first' ht5).2.2]
    refine Zp8 (w:=w) (r:=r) (st:=st) (x:=x) (p:=p++[(gi,gk)]) (o:=o) ⟨t5,_,t2,row2,(hok.first' ht5).1,hrow1.snoc (x:=(gi,gk)) rfl rfl,hrow2,by rw [ZuF]; rfl⟩ fun S hS=>?_
    clear ht5 t5 hrow1 hrow2 hok
    clear t1 row1 t2 row2
    have hgi':gi.toNat < w.msgs.length:=by omega
    have hgk':gk.toNat < r.msgs.length:=by omega
    have hmo:=hw.msg hgi'
    have hmo':=hr.msg hgk'
    have hfo:=fun i hi=>hw.fld (i:=i) hgi' hi
    have hnc:=fun i hi=>hw.ncases (i:=i) hgi' hi
    have hfo':=fun i hi=>hr.fld (i:=i) hgk' hi
    generalize hm:w.msgs.getD gi.toNat default=m at *
    generalize hm':r.msgs.getD gk.toNat default=m' at *
    have hmf:=hmo.many
    have hmf':=hmo'.many
    obtain ⟨t1,row1,t2,row2,hok,hrow1,hrow2,rfl⟩:=hS
    refine Za (Wq (ZM ?_))
    simp only [Eqs,reduceCtorEq,reduceIte,Zuq,Zur,Zus,Zh.r6,stC,ZuG,We,slD,hm,hm',ZcC]
    repeat (refine Zut (by first | omega | trivial | (intro h0; simp at h0; omega)) ?_)
    refine Za (Za (Zb (Zc ?_)))
    simp only [Eqs,reduceCtorEq,reduceIte,Zuq,Zh.r7,Yo,slD]
    have jn:∀ o1 S,Zd9 w r st x (p++[(gi,gk)]) o1 S→o1=o++(if m.fields.length≠m'.fields.length then [⟨path,2⟩] else [])→ZT F [.code (.seq (qR Zh.r9 [0,3,11,12,13]) (.block 2 (.loop Zh.l1)))] [(0,.d (.ptr x 0)),(3,.d (.str path)),(11,.loc 11 0),(12,.loc 12 0)] [(11,m.cells),(12,m'.cells)] S:=by
     clear hok hrow1 hrow2
     clear t1 row1 t2 row2
     intro o1 S hS ho1
     have hT1:(YD w r (fu + 1) p a b path).1=(WL (YD w r fu) m path (p++[(gi,gk)]) ((m.fields.zip m'.fields).drop 0)).1:=by rw [hM]; rfl
     have hT2:o++(YD w r (fu + 1) p a b path).2=o1++(WL (YD w r fu) m path (p++[(gi,gk)]) ((m.fields.zip m'.fields).drop 0)).2:=by rw [hM,ho1,List.append_assoc]; rfl
     have hb1:o1.length + 40≤41 * (p++[(gi,gk)]).length + 0:=by
      rw [ho1]; simp only [ZuF,ZuI,List.length_nil]; split <;> simp <;> omega
     generalize YD w r (fu + 1) p a b path=T at *
     clear hM ho1 hfew hp ho hyp
     refine Za (Zb (Zc ?_))
     simp only [Eqs,reduceCtorEq,reduceIte,Zuq,Zh.r9]
     refine Zj (ZX ?_)
     have key2:∀ (n j:Nat),(m.fields.length) - j=n→∀ p2 o2 S,Zd9 w r st x p2 o2 S→Ju w.msgs.length r.msgs.length p2→o2.length + 40≤41 * p2.length + j→T.1=(WL (YD w r fu) m path p2 ((m.fields.zip m'.fields).drop j)).1→o++T.2=o2++(WL (YD w r fu) m path p2 ((m.fields.zip m'.fields).drop j)).2→j≤m.fields.length→ZT F [.code (Zh.l1),.inLoop Zh.l1,.inBlock 2] [(0,.d (.ptr x 0)),(3,.d (.str path)),(11,.loc 11 0),(12,.loc 12 0),(13,.d (.int .i64 j))] [(11,m.cells),(12,m'.cells)] S:=by
      intro n
      induction n using Nat.strongRecOn with
      | ind n ih_key2 =>
      clear hS hT1 hT2 hb1 hp1
      intro j hn p2 o2 S hS hp2 hb2 hT1 hT2 hj
      refine Za (Za (Zb (Zc ?_)))
      simp only [Eqs,reduceCtorEq,reduceIte,Zuq,Zh.r10,ZuG,Yo,slD]
      refine Ze rfl trivial (fun h4=>?_) (fun h4=>?_)
      ·simp at h4
       have hzl:j < (m.fields.zip m'.fields).length:=by rw [List.length_zip]; omega
       rw [Qf hzl,Zm8 h4.1 h4.2,WL,Zch] at hT1 hT2
       have hff:=hfo j h4.1
       have hfg:=hfo' j h4.2
       have hncf:=hnc j h4.1
       try simp only at hT1 hT2
       generalize hf:m.fields.getD j default=f at *
       generalize hg:m'.fields.getD j default=g at *
       have hcf:=Zba.eq_1 (YD w r fu) m path p2 f g
       generalize Zba (YD w r fu) m path p2 f g=W at *
       have hfn:=hff.name
       refine Zg (Za (Zj (Za (Wq (ZM ?_)))))
       simp only [Eqs,reduceCtorEq,reduceIte,Zuq,Zur,Zus,Zh.r12,ZuD,hf,hg]
       repeat (refine Zut (by first | omega | trivial | (intro h0; simp at h0; omega)) ?_)
       refine Za (Zb (Zc ?_))
       simp only [Eqs,reduceCtorEq,reduceIte,Zuq,Zh.r13]
       refine ZW rfl rfl rfl rfl rfl (by trivial) (by trivial) (by exact ZiE path f.name (by omega)) (Zc ?_)
       simp only [Eqs,reduceCtorEq,reduceIte,Zuq]
       have hal:(J6 path f.name).length≤path.length + 33:=by have:=Zlg path f.name; omega
       generalize J6 path f.name=at_ at *
       refine Za (Za (Zb (Zc ?_)))
       simp only [Eqs,reduceCtorEq,reduceIte,Zuq,Zur,Zus,Zh.r14]
       refine ZW rfl rfl rfl rfl rfl (by trivial) (by trivial) (by exact ZlH m f g (by omega)) (Zc ?_)
       simp only [Eqs,reduceCtorEq,reduceIte,Zuq]
       generalize hc:ZaW m f g=c at *
       refine Za (Zb (Zc ?_))
       simp only [Eqs,reduceCtorEq,reduceIte,Zuq,Zh.r15]
       refine Ze rfl trivial (fun h5=>?_) (fun h5=>?_)
       ·have h5':¬ c=0:=by simpa using h5
        rw [if_pos h5'] at hcf
        rw [hcf] at hT1 hT2
        obtain ⟨t1,row1,t2,row2,hok,hrow1,hrow2,rfl⟩:=hS
        have hp2f:p2.length≤61 * 61:=Nat.le_trans hp2.few (Nat.mul_le_mul (by omega) (by omega))
        refine Za (Zb (Zc ?_))
        simp only [Eqs,reduceCtorEq,reduceIte,Zuq,Zur,Zus,Zh.r16,stC,ZcC]
        refine JO (_) (t2) rfl rfl rfl rfl rfl rfl (by trivial) (by trivial) (hok.second _ _ _).1 (hok.second _ 0 _).2 (by omega) (by (unfold big; omega)) fun t6 ht6=>Zc ?_
        simp only [Eqs,reduceCtorEq,reduceIte,Zuq,Zur,Zus,(hok.second' ht6).2.1,(hok.second' ht6).2.2]
        refine ZQ rfl (Zb (Zc ?_))
        simp only [Eqs,reduceCtorEq,reduceIte,Zuq,Zh.r11]
        repeat (refine Zut (by first | omega | trivial | (intro h0; simp at h0; omega)) ?_)
        refine Zy ?_
        exact ih_key2 ((m.fields.length) - (j + 1)) (by omega) (j + 1) rfl p2 (o2++[⟨at_,c⟩]) _ ⟨t1,_,t6,_,(hok.second' ht6).1,hrow1,hrow2.snoc (x:=⟨at_,c⟩) rfl rfl,by rw [show (o2++[(⟨at_,c⟩:Dif)]).length=o2.length + 1 by simp]; rfl⟩ hp2 (by simp; omega) hT1 (by rw [hT2,List.append_assoc]) (by omega)
       ·have h5':c=0:=by simpa using h5
        rw [if_neg (by omega)] at hcf
        have hdf:=ZjC (hc.trans h5')
        refine Zg (Za (Za (Zb (Zc ?_))))
        simp only [Eqs,reduceCtorEq,reduceIte,Zuq,Zur,Zus,Zh.r17]
        refine ZW rfl rfl rfl rfl rfl (by trivial) (by trivial) (by exact Zhb m f (by omega)) (Zc ?_)
        simp only [Eqs,reduceCtorEq,reduceIte,Zuq]
        have jn2:∀ p3 o3 S,Zd9 w r st x p3 o3 S→Ju w.msgs.length r.msgs.length p3→o3.length + 40≤41 * p3.length + j→W.1=(KB (YD w r fu) at_ p3 f.cases).1→o2++W.2=o3++(KB (YD w r fu) at_ p3 f.cases).2→ZT F [.code (.seq (qR Zh.r19 [0,3,11,12,13,14,16,18]) (.block 4 (.loop Zh.l2))),.inBlock 3,.code (qR Zh.r11 [0,3,11,12,13]),.inLoop Zh.l1,.inBlock 2] [(0,.d (.ptr x 0)),(3,.d (.str path)),(11,.loc 11 0),(12,.loc 12 0),(13,.d (.int .i64 j)),(14,.loc 14 0),(16,.d (.str at_))] [(11,m.cells),(12,m'.cells),(14,f.cells)] S:=by
         clear hS hp2 hb2
         intro p3 o3 S hS hp3 hb3 hW1 hW2
         refine Za (Zb (Zc ?_))
         simp only [Eqs,reduceCtorEq,reduceIte,Zuq,Zh.r19]
         refine Zj (ZX ?_)
         have key3:∀ (n q:Nat),(f.cases.length) - q=n→∀ p4 o4 S,Zd9 w r st x p4 o4 S→Ju w.msgs.length r.msgs.length p4→o4.length + 40≤41 * p4.length + j→W.1=(KB (YD w r fu) at_ p4 (f.cases.drop q)).1→o2++W.2=o4++(KB (YD w r fu) at_ p4 (f.cases.drop q)).2→q≤f.cases.length→ZT F [.code (Zh.l2),.inLoop Zh.l2,.inBlock 4,.inBlock 3,.code (qR Zh.r11 [0,3,11,12,13]),.inLoop Zh.l1,.inBlock 2] [(0,.d (.ptr x 0)),(3,.d (.str path)),(11,.loc 11 0),(12,.loc 12 0),(13,.d (.int .i64 j)),(14,.loc 14 0),(16,.d (.str at_)),(18,.d (.int .i64 q))] [(11,m.cells),(12,m'.cells),(14,f.cells)] S:=by
          intro n
          induction n using Nat.strongRecOn with
          | ind n ih_key3 =>
          clear hS hp3 hb3 hW1 hW2
          intro q hnq p4 o4 S hS hp4 hb4 hW1 hW2 hq
          refine Za (Za (Zb (Zc ?_)))
          simp only [Eqs,reduceCtorEq,reduceIte,Zuq,Zh.r20,ZuD,W0,slD]
          refine Ze rfl trivial (fun h7=>?_) (fun h7=>?_)
          ·simp at h7
           rw [Qf h7,KB,Zch] at hW1 hW2
           have hcm:=Ki h7
           generalize hx:f.cases.getD q default=cs at *
           simp only at hW1 hW2
           have hk9:=hff.cases (by intro e; rw [e] at h7; simp at h7)
           obtain ⟨y,hy,hye⟩:=Zis (hdf.2.2 cs hcm)
           have hz1:=hff.ref cs.of (ZfU hk9 hcm)
           have hz2:=hfg.ref cs.of (by rw [← hye]; exact ZfU (hdf.1 ▸ hk9) hy)
           have hol:=hw.name_len hz1.1
           have hjl:=Zlg at_ cs.of
           have hadd:=Zb3 hw.fields fu p4 cs.of cs.of (J6 at_ cs.of) hp4
           refine Zg (Za (Zj (Wq (ZM ?_))))
           simp only [Eqs,reduceCtorEq,reduceIte,Zuq,Zh.r22,WK.cells,hx]
           repeat (refine Zut (by first | omega | trivial | (intro h0; simp at h0; omega)) ?_)
           refine Kd rfl rfl rfl rfl rfl (by trivial) (by trivial) (by exact ZiE at_ cs.of (by omega)) (ZM ?_)
           simp only [Eqs,reduceIte]
           refine Zah rfl rfl rfl rfl rfl (by trivial) (by trivial) (by exact (ih cs.of cs.of (J6 at_ cs.of) p4 o4 st x S (by omega) hz1.1 hz2.1 (by omega) hp4 (by omega) hS)) ?_ ?_
           ·rintro d s' ⟨hd,hS'⟩
            cases hd
            refine ⟨by trivial,?_⟩
            refine ZM ?_
            simp only [Eqs,reduceCtorEq,reduceIte,Zuq]
            refine Zm (Zb (Zc ?_))
            simp only [Eqs,reduceCtorEq,reduceIte,Zuq,Zh.r21]
            repeat (refine Zut (by first | omega | trivial | (intro h0; simp at h0; omega)) ?_)
            refine Zy ?_
            exact ih_key3 ((f.cases.length) - (q + 1)) (by omega) (q + 1) rfl _ _ s' hS' hadd.ok (by have:=hadd.more; rw [ZuF]; omega) hW1 (by rw [hW2,List.append_assoc]) (by omega)
           ·rintro d s' ⟨hd,_⟩
            cases hd
          ·simp at h7
           obtain rfl:q=f.cases.length:=by omega
           rw [List.drop_length,KB] at hW1 hW2
           simp only [List.append_nil] at hW1 hW2
           refine ZQ rfl (Zm (Zb (Zc ?_)))
           simp only [Eqs,reduceCtorEq,reduceIte,Zuq,Zh.r11]
           repeat (refine Zut (by first | omega | trivial | (intro h0; simp at h0; omega)) ?_)
           refine Zy ?_
           exact ih_key2 ((m.fields.length) - (j + 1)) (by omega) (j + 1) rfl p4 o4 S hS hp4 (by omega) (by rw [hT1,hW1]) (by rw [hT2,← List.append_assoc,hW2,hW1]) (by omega)
         exact key3 _ 0 rfl p3 o3 S hS hp3 hb3 hW1 hW2 (by omega)
        refine Ze rfl trivial (fun h6=>?_) (fun h6=>?_)
        ·rw [if_pos h6] at hcf
         have hz1:=hff.ref f.of (Zlc h6)
         have hz2:=hfg.ref g.of (ZjS h6 hdf.1)
         have hadd:=Zb3 hw.fields fu p2 f.of g.of at_ hp2
         refine Zb (Zc ?_)
         simp only [Eqs,reduceCtorEq,reduceIte,Zuq,Zh.r18]
         refine Yn rfl rfl rfl rfl rfl (by trivial) (by trivial) (by exact (ih f.of g.of at_ p2 o2 st x S (by omega) hz1.1 hz2.1 (by omega) hp2 (by omega) hS)) ?_ ?_
         ·rintro d s' ⟨hd,hS'⟩
          cases hd
          refine Zc ?_
          simp only [Eqs,reduceCtorEq,reduceIte,Zuq]
          exact jn2 _ _ s' hS' hadd.ok (by have:=hadd.more; rw [ZuF]; omega) (by rw [hcf]; rfl) (by rw [hcf,List.append_assoc]; rfl)
         ·rintro d s' ⟨hd,_⟩
          cases hd
        ·rw [if_neg (by rw [h6]; simp)] at hcf
         refine Zg ?_
         refine JP [0,3,11,12,13,14,16] ?_
         simp only [Eqs,reduceCtorEq,reduceIte,Zuq]
         exact jn2 p2 o2 S hS hp2 hb2 (by rw [hcf]; rfl) (by rw [hcf]; rfl)
      ·simp at h4
       have hz:(m.fields.zip m'.fields).drop j=[]:=List.drop_eq_nil_of_le (by rw [List.length_zip]; omega)
       rw [hz,WL] at hT1 hT2
       refine ZQ rfl ?_
       refine hF.fin (.tup []) _ rfl trivial (Zux _) (Zuw _) ⟨rfl,?_⟩
       rw [hT1,hT2,List.append_nil]
       exact hS
     exact key2 _ 0 rfl _ _ S hS hp1 hb1 hT1 hT2 (by omega)
    refine Ze rfl trivial (fun h3=>?_) (fun h3=>?_)
    ·refine Zb (Zc ?_)
     simp only [Eqs,reduceCtorEq,reduceIte,Zuq,Zur,Zus,Zh.r8,ZcC]
     refine JO (_) (t2) rfl rfl rfl rfl rfl rfl (by trivial) (by trivial) (hok.second _ _ _).1 (hok.second _ 0 _).2 (by omega) (by (unfold big; omega)) fun t6 ht6=>Zc ?_
     simp only [Eqs,reduceCtorEq,reduceIte,Zuq,Zur,Zus,(hok.second' ht6).2.1,(hok.second' ht6).2.2]
     exact jn (o++[⟨path,2⟩]) _ ⟨t1,_,t6,_,(hok.second' ht6).1,hrow1,hrow2.snoc (x:=⟨path,2⟩) rfl rfl,by rw [show (o++[(⟨path,2⟩:Dif)]).length=o.length + 1 by simp]; rfl⟩ (by rw [if_pos (by intro e; rw [e] at h3; simp at h3)])
    ·refine Zg ?_
     refine JP [0,3,11,12] ?_
     simp only [Eqs,reduceCtorEq,reduceIte,Zuq]
     exact jn o _ ⟨t1,_,t2,_,hok,hrow1,hrow2,rfl⟩ (by rw [if_neg (by intro e; apply e; simp at h3; omega),List.append_nil])
  exact key _ 0 rfl (by omega) (by intro i hi; omega)
end Go.DL
namespace Go.DL
open Go Go.Proofs
theorem Zsw (w r:Dfn) (hw:QB w) (hr:QB r):ZR Zuv KQ.id [.agg w.cells,.agg r.cells] (Q6 (KZ w r)):=by
 refine Z0 KQ.ok fun F st hret=>?_
 refine Za (Zb (Zc ?_))
 simp only [Eqs,reduceCtorEq,reduceIte,Zuq,Zur,KQ.r0,ZuM]
 refine Za (Za (Zb (Zc ?_)))
 simp only [Eqs,reduceIte,Zuq,KQ.r1]
 refine Ze rfl trivial (fun h1=>?_) (fun h1=>?_)
 ·refine Za (Zb (Zc ?_))
  simp only [Eqs,reduceIte,Zuq,Zur,Zus,KQ.r2]
  have hl:KZ w r=[⟨[],1⟩]:=by rw [KZ,if_pos (by simpa using h1)]
  rw [hl] at hret
  refine hret rfl (by trivial) (Zac ((YE.one (x:=(⟨[],1⟩:Dif)) rfl).le rfl)) (Zuw _)
 ·have h1':w.start=r.start:=by simpa using h1
  have hl:KZ w r=(YD w r (w.msgs.length + 1) [] w.start r.start []).2:=by rw [KZ,if_neg (by simpa using h1)]
  rw [hl] at hret
  refine Zg (Za (Zb (Zc ?_)))
  simp only [Eqs,reduceIte,Zuq,Zur,Zus,KQ.r3]
  refine Za ?_
  refine Ku (s':=st) (by first | exact Zuw _ | exact Zl (by first | trivial | assumption) | exact ZuK (Zl (by first | trivial | assumption)) (Zl (by first | trivial | assumption)) | assumption) (Qz (ρ':=[(2,.loc 2 0),(3,.loc 3 0),(5,.loc 16 0)]) (L':=[(2,w.cells),(3,r.cells),(16,stC w r (.sl .full 0 2 fun _=>[]) (.sl .full 0 2 fun _=>[]))]) ?_ ?_ ?_)
  ·exact Zai _
  ·exact .skip (.skip (.cons (.cons (Zux _) (.cons (Zux _) (.cons (Zux _) (.cons (Zux _) (.cons (Zux _) (.cons (Zux _) (.cons (Qa fun b h=>by cases h) (.cons (Qa fun b h=>by cases h) .nil)))))))) .nil))
  refine YJ 16 rfl fun x hx=>?_
  simp only [reduceIte,Zuq,YU,WM,delL]
  have hC:Zd9 w r st x [] [] (st.upd x (.cells (stC w r (.sl .full 0 2 fun _=>[]) (.sl .full 0 2 fun _=>[])))) :=
   ⟨.full,_,.full,_,ZaF.mk' (k1:=0) (k2:=0) trivial trivial hx,YE.nil,YE.nil,rfl⟩
  generalize st.upd x (.cells (stC w r (.sl .full 0 2 fun _=>[]) (.sl .full 0 2 fun _=>[])))=S at *
  have hws:=hw.start
  have hrs:=hr.start
  have hwm:=hw.many
  have hwr:=(Jh w w.start).2
  refine Zb (Zc ?_)
  simp only [Eqs,reduceIte,Zuq,KQ.r4,ZuM]
  refine Yn rfl rfl rfl rfl rfl (by trivial) (by trivial) (by exact (ZkF hw hr (w.msgs.length + 1) w.start r.start [] [] [] st x S (by omega) hws hrs (by simp; omega) ⟨by simp,by simp⟩ (by simp) hC)) ?_ ?_
  ·rintro d s' ⟨hd,t1,row1,t2,row2,hok,hrow1,hrow2,rfl⟩
   cases hd
   simp only [List.nil_append] at hrow1 hrow2 ⊢
   generalize (YD w r (w.msgs.length + 1) [] w.start r.start []).2=o at *
   generalize (YD w r (w.msgs.length + 1) [] w.start r.start []).1=p at *
   refine Zc ?_
   simp only [Eqs,reduceIte,Zuq]
   refine Za (Zb (Zc ?_))
   simp only [Eqs,reduceIte,Zuq,KQ.r5,stC,ZcC]
   refine hret rfl (by trivial) (Zac (hrow2.le rfl)) (hok.sub _ _ _)
  ·rintro d s' ⟨hd,_⟩
   cases hd
def Zdl (l:List Dfn) (i:Nat):Bool:=l.all fun w=>decide (((KZ w (l.getD i default)).length:Int)=0)
def ZbL (l:List Dfn):Nat→Int
 | 0=>-1
 | i + 1=>if Zdl l i then i else ZbL l i
def Zbq (l:List Dfn):D:=slD 3 ZuM l
end Go.DL
namespace Go.DL
open Go Go.ChangeShapes Go.RowKit Go.WideShapes Go.ChangeAt
def ZeR (W:World):G:={ prot:=fun b=>match W.heap[b]? with | some (.cells vs _ _)=>vs.size | _=>0,kept:=fun b=>b < W.heap.size }
theorem ZrP (W:World):KS (ZeR W) (fun _=>none) W:={
 obj b o h:=by simp at h
 kept b o h:=by simp at h
 fresh b hb:=⟨by simp [ZeR,hb],by simp only [ZeR]; omega⟩ }
theorem ZqX {P:Program} {f:FuncId} {args:List D} (h:ZR P f args (.bool true)) {W:World} {vs:List Value} (ha:Wh (Rep (ZeR W) W) vs args) :
  Calls P f vs.toArray W fun e W'=>e = .returned (.bool true)∧Below W.heap.size W W':=by
 refine ((h (fun _=>none)).2 _ W vs (ZrP W) ha).mono fun e W' hp=>?_
 obtain ⟨g',s',r,he,hs,hr,hq,_⟩:=hp
 subst hq
 cases e with
 | returned v=>cases hr; exact ⟨rfl,he.os,he.tape,he.output,he.size,fun b hb=>he.kept b hb⟩
 | _=>exact hr.elim
section
variable {H:Type} {enc:TypeId × Value→H} {P:Program} {w:World}
def JH (enc:TypeId × Value→H) (P:Program) (w:World) (t:TypeId) (R:List D→Prop):Prop :=
 ∀ fuel cs x,DataW.trod enc P w 0 (fun _=>true) true fuel t cs=some x→∃ ds,R ds∧Wh (Rep (ZeR w) w) cs ds∧∀ v∈cs,v.one1=true
theorem Zsf {k:IntKind} {n:Int} (h:(Lit.int k n).wf=true):inR k n:=by
 simpa [Lit.wf,inR] using h
theorem Zcy {t:TypeId} {k:IntKind} (ht:P.underlying t=some (.int k)):JH enc P w t fun ds=>∃ n,ds=[.int k n]:=by
 intro fuel cs x h
 obtain ⟨n,rfl,_,hn⟩:=DataW.trod_int ht h
 exact ⟨_,⟨n,rfl⟩,.cons (.int k n (Zsf hn)) .nil,fun v hv=>by simp at hv; subst hv; rfl⟩
theorem ZoJ {t:TypeId} (ht:P.underlying t=some .bool):JH enc P w t fun ds=>∃ b,ds=[.bool b]:=by
 intro fuel cs x h
 obtain ⟨n,rfl,_⟩:=DataW.trod_bool ht h
 exact ⟨_,⟨n,rfl⟩,.cons (.bool n) .nil,fun v hv=>by simp at hv; subst hv; rfl⟩
theorem Zcz {t:TypeId} (ht:P.underlying t=some .string):JH enc P w t fun ds=>∃ s,ds=[.str s]:=by
 intro fuel cs x h
 obtain ⟨s,rfl,_,hs⟩:=DataW.trod_string ht h
 refine ⟨_,⟨s.data.toList,rfl⟩,.cons (.str s _ rfl ?_) .nil,fun v hv=>by simp at hv; subst hv; rfl⟩
 have:s.data.toList.length=s.size:=by rw [Array.length_toList]; rfl
 rw [this]; simp only [maxLen] at hs; simp only [big]; omega
theorem Znf {α β:Type} {R:α→β→Prop} {a a':List α} {b b':List β} (h:Wh R a b) (h':Wh R a' b'):Wh R (a++a') (b++b'):=by
 induction h with
 | nil=>exact h'
 | cons h1 _ ih=>exact .cons h1 ih
def Cat:List (List D→Prop)→List D→Prop
 | [],ds=>ds=[]
 | R :: Rs,ds=>∃ a b,ds=a++b∧R a∧Cat Rs b
def ZmH (P:Program):Nat→List Field→Nat→Bool
 | o,[],n=>o == n
 | o,f :: r,n=>f.offset == o && ZmH P (o + P.cellsOf f.type) r n
inductive ZgJ (enc:TypeId × Value→H) (P:Program) (w:World):List Field→List (List D→Prop)→Prop where
 | nil:ZgJ enc P w [] []
 | cons {f:Field} {fs:List Field} {R:List D→Prop} {Rs:List (List D→Prop)} (h:JH enc P w f.type R) (t:ZgJ enc P w fs Rs):ZgJ enc P w (f :: fs) (R :: Rs)
theorem ZpK {fs:List Field} {Rs:List (List D→Prop)} (hR:ZgJ enc P w fs Rs):∀ {o n m:Nat} {cs:List Value},ZmH P o fs n=true→cs.length=n →
  (∀ f∈fs,∃ x,DataW.trod enc P w 0 (fun _=>true) true m f.type ((cs.drop f.offset).take (P.cellsOf f.type))=some x) →
  ∃ ds,Cat Rs ds∧Wh (Rep (ZeR w) w) (cs.drop o) ds∧∀ v∈cs.drop o,v.one1=true:=by
 induction hR with
 | nil =>
  intro o n m cs ho hl _
  simp only [ZmH,beq_iff_eq] at ho
  subst ho; subst hl
  exact ⟨[],rfl,by rw [List.drop_length]; exact .nil,by simp⟩
 | cons h _ ih =>
  rename_i f fs R Rs _
  intro o n m cs ho hl hx
  simp only [ZmH,ZuA,beq_iff_eq] at ho
  obtain ⟨ho1,ho2⟩:=ho
  obtain ⟨x,h1⟩:=hx f (List.mem_cons_self ..)
  obtain ⟨a,ha1,ha2,ha3⟩:=h _ _ _ h1
  obtain ⟨b,hb1,hb2,hb3⟩:=ih ho2 hl fun f' hf'=>hx f' (List.mem_cons_of_mem _ hf')
  rw [ho1] at ha2 ha3
  have e:cs.drop o=(cs.drop o).take (P.cellsOf f.type)++cs.drop (o + P.cellsOf f.type):=by
   rw [← List.drop_drop]; exact (List.take_append_drop _ _).symm
  refine ⟨a++b,⟨a,b,rfl,ha1,hb1⟩,by rw [e]; exact Znf ha2 hb2,fun v hv=>?_⟩
  rw [e,List.mem_append] at hv
  exact hv.elim (ha3 v) (hb3 v)
theorem Za3 {t:TypeId} {fs:Array Field} (ht:P.underlying t=some (.struct fs)) {Rs:List (List D→Prop)} (hR:ZgJ enc P w fs.toList Rs) (ho:ZmH P 0 fs.toList (P.cellsOf t)=true):JH enc P w t (Cat Rs):=by
 intro fuel cs x h
 obtain ⟨xs,n,rfl,_,hl,hxl,hx⟩:=DataW.trod_struct ht h
 obtain ⟨ds,h1,h2,h3⟩:=ZpK hR (m:=n) ho hl (fun f hf=>by
  obtain ⟨i,hi,rfl⟩:=ZuJ hf
  have hi':i < fs.size:=by simpa using hi
  refine ⟨xs[i]'(by omega),?_⟩
  have:=hx i fs[i] (by simp [hi'])
  rw [List.getElem?_eq_getElem (by omega)] at this
  simpa using this)
 rw [List.drop_zero] at h2 h3
 exact ⟨ds,h1,h2,h3⟩
theorem JH.imp {t:TypeId} {R R':List D→Prop} (h:JH enc P w t R) (hi:∀ ds,R ds→R' ds):JH enc P w t R':=fun fuel cs x hx=>by
 obtain ⟨ds,h1,h2⟩:=h fuel cs x hx
 exact ⟨ds,hi ds h1,h2⟩
theorem Zcv {a:Addr} {n:Nat} {cs:List Value} (h:w.cells? 0 a n=some cs):cs.length=n∧∀ j,j < n→w.cell? (a.add j)=cs[j]?:=by
 simp only [World.cells?,Nat.zero_le,if_true] at h
 refine ⟨by simpa using mapM_some_length h,fun j hj=>?_⟩
 have:=mapM_some_get h j j (by simp [hj])
 exact this
theorem ZdF {t e:TypeId} {n:Nat} {α:Type} [Inhabited α] {f:α→List D} (ht:P.underlying t=some (.slice e)) (hn:P.cellsOf e=n) (hn0:0 < n) (hf:∀ x,(f x).length=n)
  (he:JH enc P w e fun ds=>∃ x,ds=f x):JH enc P w t fun ds=>∃ l:List α,ds=[.sl .none l.length n fun i=>f (l.getD i default)]:=by
 intro fuel cs x h
 rcases DataW.trod_slice ht h with ⟨rfl,_⟩ | ⟨a,len,cap,elems,rest,m,rfl,rfl,_,_,hlc,hcap,hel,hx,hrest,_⟩
 ·exact ⟨_,⟨[],rfl⟩,.cons (.sl0 _ _ _ _ (by simp)) .nil,fun v hv=>by simp at hv; subst hv; rfl⟩
 have key:∀ i,i < len→∃ (cs:List Value) (y:α),w.cells? 0 (a.add (i * n)) n=some cs∧Wh (Rep (ZeR w) w) cs (f y)∧∀ v∈cs,v.one1=true:=by
  intro i hi
  have h1:=hx i hi
  rw [List.getElem?_eq_getElem (by omega),hn] at h1
  obtain ⟨cs,h2,h3⟩:=Option.bind_eq_some_iff.1 h1
  obtain ⟨ds,⟨y,rfl⟩,h4,h5⟩:=he _ _ _ h3
  exact ⟨cs,y,h2,h4,h5⟩
 have hbig:cap≤big:=by simp only [maxLen] at hcap; simp only [big]; omega
 let g:(i:Nat)→i < len→α:=fun i hi=>(Classical.choose_spec (key i hi)).choose
 let c:(i:Nat)→i < len→List Value:=fun i hi=>Classical.choose (key i hi)
 have hg:∀ i (hi:i < len),w.cells? 0 (a.add (i * n)) n=some (c i hi)∧Wh (Rep (ZeR w) w) (c i hi) (f (g i hi))∧∀ v∈c i hi,v.one1=true:=fun i hi=>(Classical.choose_spec (key i hi)).choose_spec
 let l:List α:=List.ofFn fun i:Fin len=>g i.1 i.2
 have hll:l.length=len:=by simp [l]
 have hlg:∀ i (hi:i < len),l.getD i default=g i hi:=fun i hi=>by simp [l,List.getD,hi]
 refine ⟨_,⟨l,rfl⟩,.cons ?_ .nil,fun v hv=>by simp at hv; subst hv; rfl⟩
 by_cases hl0:len=0
 ·subst hl0
  have hle:l=[]:=List.eq_nil_of_length_eq_zero hll
  rw [hle]
  by_cases hs:a.spot=none
  ·obtain ⟨b,o,sp⟩:=a
   simp only at hs
   subst hs
   exact .sl b o 0 cap n _ .none (fun _ _=>undef) (fun i hi=>by simp at hi) (fun i j hi=>by simp at hi) (fun i j hi=>by simp at hi) (fun i j d hi=>by simp at hi) (fun i j hi=>by simp at hi) trivial (Nat.zero_le _) hbig
  ·have hc0:cap=0:=by
    rcases Nat.eq_zero_or_pos cap with h0 | h0
    ·exact h0
    ·obtain ⟨h1,h2⟩:=hrest rfl
     have h3:=h2 0 (by omega)
     rw [List.getElem?_eq_getElem (by omega),hn] at h3
     obtain ⟨cs,h4,_⟩:=Option.bind_eq_some_iff.1 h3
     have h5:=(Zcv h4).2 0 (by omega)
     have h6:=(Zcv h4).1
     rw [List.getElem?_eq_getElem (by omega)] at h5
     have:=World.cell?_spot h5
     exact absurd (by simpa [Addr.add] using this) hs
   subst hc0
   exact .sl0 _ _ _ _ (by simp)
 ·have hsp:a.spot=none:=by
   have h0:=(hg 0 (by omega)).1
   have h1:=(Zcv h0).2 0 (by omega)
   have h2:(c 0 (by omega)).length=n:=(Zcv h0).1
   rw [List.getElem?_eq_getElem (by omega)] at h1
   have:=World.cell?_spot h1
   simpa [Addr.add] using this
  obtain ⟨b,o,sp⟩:=a
  simp only at hsp
  subst hsp
  have hget:∀ i j (hi:i < len) (hj:j < n),w.cell? ⟨b,o + i * n + j,none⟩=(c i hi)[j]?:=fun i j hi hj=>by
   have h1:=(Zcv (hg i hi).1).2 j hj
   rw [JA,JA] at h1
   exact h1
  have hcl:∀ i (hi:i < len),(c i hi).length=n:=fun i hi=>(Zcv (hg i hi).1).1
  rw [hll]
  refine .sl b o len cap n _ .none (fun i j=>if hi:i < len then (c i hi).getD j undef else undef) (fun i hi=>by rw [hlg i hi]; exact hf _) (fun i j hi hj=>?_) (fun i j hi hj=>?_) (fun i j d hi hd=>?_) (fun i j hi hj=>?_) trivial hlc hbig
  ·simp only [dif_pos hi]
   rw [hget i j hi hj,List.getD,List.getElem?_eq_getElem (by rw [hcl i hi]; exact hj)]; rfl
  ·have h1:=hget i j hi hj
   rw [List.getElem?_eq_getElem (by rw [hcl i hi]; exact hj)] at h1
   simp only [World.cell?] at h1
   split at h1
   ·rename_i vs T fr hh
    simp only [ZeR,hh]
    have h1':vs[o + i * n + j]? = some ((c i hi)[j]'(by rw [hcl i hi]; exact hj)):=by simpa using h1
    exact (Array.getElem?_eq_some_iff.1 h1').1
   ·simp at h1
  ·simp only [dif_pos hi]
   rw [hlg i hi] at hd
   have hj:j < n:=by rw [← hf (g i hi)]; exact (List.getElem?_eq_some_iff.1 hd).1
   refine (hg i hi).2.1.get j _ d ?_ hd
   rw [List.getD,List.getElem?_eq_getElem (by rw [hcl i hi]; exact hj)]; rfl
  ·simp only [dif_pos hi]
   refine (hg i hi).2.2 _ ?_
   rw [List.getD,List.getElem?_eq_getElem (by rw [hcl i hi]; exact hj)]
   exact List.getElem_mem _
def ZlT (enc:TypeId × Value→H) (P:Program) (t:TypeId) (Q:D→Prop):Prop :=
 ∀ (W:World) (base:Nat) (v:Value) (d:DataW H) (ps:List MemPlace),Value.okWide P W .any base t v→DataW.Trod enc P W 0 (fun _=>true) true t v d ps→∃ x,Q x∧Rep (ZeR W) W v x
theorem Zq2 {t:TypeId} {fs:Array Field} (ht:P.underlying t=some (.struct fs)) {R:List D→Prop} (h:∀ W,JH enc P W t R):ZlT enc P t fun x=>∃ ds,R ds∧x = .agg ds:=by
 intro W base v d ps hok ⟨fuel,hf⟩
 obtain ⟨cs,rfl,_⟩:=okWide_struct ht hok
 obtain ⟨ds,h1,h2,h3⟩:=h W _ _ _ hf
 exact ⟨_,⟨ds,h1,rfl⟩,.agg cs.toList ds h2.len (fun i v d hv hd=>h2.get i v d hv hd) h3⟩
inductive Zje (enc:TypeId × Value→H) (P:Program):List TypeId→List (D→Prop)→Prop where
 | nil:Zje enc P [] []
 | cons {t:TypeId} {Q:D→Prop} {ts:List TypeId} {Qs:List (D→Prop)} (h:ZlT enc P t Q) (r:Zje enc P ts Qs):Zje enc P (t :: ts) (Q :: Qs)
inductive ZlS:List (D→Prop)→List D→Prop where
 | nil:ZlS [] []
 | cons {Q:D→Prop} {x:D} {Qs:List (D→Prop)} {xs:List D} (h:Q x) (r:ZlS Qs xs):ZlS (Q :: Qs) (x :: xs)
theorem Zqe {ts:List TypeId} {Qs:List (D→Prop)} (h:Zje enc P ts Qs):∀ {W:World} {base:Nat} {vs:List Value} {ds:List (DataW H)} {ps:List MemPlace},
  (∀ (j:Nat) t v,ts[j]? = some t→vs[j]? = some v→Value.okWide P W .any base t v)→DataW.TrodAll enc P W 0 (fun _=>true) true ts vs ds ps→∃ xs,ZlS Qs xs∧Wh (Rep (ZeR W) W) vs xs:=by
 induction h with
 | nil =>
  intro W base vs ds ps _ ht
  obtain ⟨rfl,_⟩:=trodAll_nil ht
  exact ⟨[],.nil,.nil⟩
 | cons h1 _ ih =>
  intro W base vs ds ps hok ht
  obtain ⟨v,vs',d,ds',p,q,rfl,rfl,rfl,h2,h3⟩:=trodAll_cons ht
  obtain ⟨x,hx1,hx2⟩:=h1 W base v d p (hok 0 _ _ rfl rfl) h2
  obtain ⟨xs,hxs1,hxs2⟩:=ih (base:=base) (fun j t v hj hv=>hok (j + 1) t v (by simpa using hj) (by simpa using hv)) h3
  exact ⟨x :: xs,.cons hx1 hxs1,.cons hx2 hxs2⟩
theorem ZgA (hl:laidOutB P=true) {W W':World} (hb:Below W.heap.size W W'):∀ {ts:List TypeId} {vs:List Value} {ds:List (DataW H)} {ps:List MemPlace},(∀ t∈ts,P.readableRec t=true∧t < P.types.size) →
  DataW.TrodAll enc P W 0 (fun _=>true) true ts vs ds ps→(∀ x∈ps,x.block < W.heap.size)→DataW.TrodAll enc P W' 0 (fun b=>decide (b < W.heap.size)) true ts vs ds ps
 | [],vs,ds,ps,_,h,_=>by
  obtain ⟨rfl,rfl,rfl⟩:=trodAll_nil h
  rfl
 | t :: ts,vs,ds,ps,ht,h,hlt=>by
  obtain ⟨v,vs',d,ds',p,q,rfl,rfl,rfl,h2,h3⟩:=trodAll_cons h
  have h4:=ht t (List.mem_cons_self ..)
  exact trodAll_cons_mk (Below.trod hl h4.1 h4.2 h2 hb fun x hx=>hlt x (List.mem_append_left _ hx)) (ZgA hl hb (fun t ht'=>ht t (List.mem_cons_of_mem _ ht')) h3 fun x hx=>hlt x (List.mem_append_right _ hx))
theorem Zse {f:FuncId} {fn:Func} {s:ChangeSpec} {tb:TypeId} {Qs:List (D→Prop)} (hv:s.vars=[]) (hl:laidOutB P=true) (hr:∀ t∈fn.params.toList,P.readableRec t=true∧t < P.types.size)
  (hres:fn.resultTypes = #[tb]) (hb:P.underlying tb=some .bool) (hfn:∀ ds:List (DataW H),ds.length=fn.params.toList.length→s.fn H ds={ results:=[.lit (.bool true)],args:=ds })
  (hargs:Zje enc P fn.params.toList Qs) (hcall:∀ xs,ZlS Qs xs→ZR P f xs (.bool true))
  (W:World) (base:Nat) (args:Array Value) (ds gs:List (DataW H)) (before:List MemPlace)
  (hval:∀ (j:Nat) t v,fn.params[j]? = some t→args[j]? = some v→Value.okWide P W .any base t v) (hW:DataW.Whole enc P fn.params.toList s.vars false W args.toList ds gs before) :
  Calls P f args W fun e W'=>∃ v,e = .returned v∧s.post enc P fn false true false false W args v W':=by
 have hW':=hW
 obtain ⟨p,q,hA,hV,rfl,_,_⟩:=hW
 rw [hv] at hV
 obtain ⟨rfl,rfl⟩:=trodVars_none hV
 obtain ⟨xs,hx1,hx2⟩:=Zqe hargs (fun j t v hj hvj=>hval j t v (by simpa using hj) (by simpa using hvj)) hA
 have hlen:=(trodAll_length hA).2
 have hlt:∀ x∈p,x.block < W.heap.size:=fun x hx=>by simpa using hW'.lt x (by simpa using hx)
 refine (ZqX (hcall xs hx1) hx2).mono fun e W' ⟨he,hbel⟩=>⟨.bool true,he,?_⟩
 have hspec:=hfn ds hlen
 refine ⟨ds,[],p++[],[],p,[],hW',?_,?_,?_,hbel.frame _,fun h=>by cases h⟩
 ·rw [List.append_nil,hspec,hres]
  exact trodAll_mk1 ⟨1,by simp [DataW.trod,hb,Value.cells]⟩
 ·rw [List.append_nil,hspec]
  exact ZgA hl hbel hr hA hlt
 ·rw [hv,List.append_nil,hspec]
  rfl
end
end Go.DL
namespace Go.DL
open Go Go.Proofs
section
variable {H:Type} {enc:TypeId × Value→H} {w:World}
theorem ZrJ:JH enc Zuv w 85 fun ds=>∃ x:Z5,ds=x.cells:=by
 refine (Za3 (P:=Zuv) Tryz.underlying85 (Rs:=[_,_]) (.cons (Zcz Tryz.underlying9) (.cons (Zcy Tryz.underlying3) .nil)) (by kernel_rfl)).imp ?_
 rintro ds ⟨_,_,rfl,⟨a,rfl⟩,_,_,rfl,⟨b,rfl⟩,rfl⟩
 exact ⟨⟨a,b⟩,rfl⟩
theorem ZqQ:JH enc Zuv w 49 fun ds=>∃ l:List Z5,ds=[Yj l] :=
 ZdF (f:=ZuR) Tryz.underlying49 (by kernel_rfl) (by decide) (fun _=>rfl) ZrJ
theorem ZrI:JH enc Zuv w 51 fun ds=>∃ x:Wu,ds=x.cells:=by
 refine (Za3 (P:=Zuv) Tryz.underlying51 (Rs:=[_,_]) (.cons (Zcy Tryz.underlying3) (.cons ZqQ .nil)) (by kernel_rfl)).imp ?_
 rintro ds ⟨_,_,rfl,⟨a,rfl⟩,_,_,rfl,⟨b,rfl⟩,rfl⟩
 exact ⟨⟨a,b⟩,rfl⟩
theorem ZrF:JH enc Zuv w 103 fun ds=>∃ x:WK,ds=x.cells:=by
 refine (Za3 (P:=Zuv) Tryz.underlying103 (Rs:=[_,_,_]) (.cons (Zcy Tryz.underlying3) (.cons (Zcy Tryz.underlying3) (.cons (Zcz Tryz.underlying9) .nil))) (by kernel_rfl)).imp ?_
 rintro ds ⟨_,_,rfl,⟨a,rfl⟩,_,_,rfl,⟨b,rfl⟩,_,_,rfl,⟨c,rfl⟩,rfl⟩
 exact ⟨⟨a,b,c⟩,rfl⟩
theorem ZqP:JH enc Zuv w 52 fun ds=>∃ l:List WK,ds=[W0 l] :=
 ZdF (f:=WK.cells) Tryz.underlying52 (by kernel_rfl) (by decide) (fun _=>rfl) ZrF
theorem Zsl:JH enc Zuv w 54 fun ds=>∃ x:Fld,ds=x.cells:=by
 have hs:=Zcz (enc:=enc) (P:=Zuv) (w:=w) Tryz.underlying9
 have hi:=Zcy (enc:=enc) (P:=Zuv) (w:=w) Tryz.underlying3
 have hb:=ZoJ (enc:=enc) (P:=Zuv) (w:=w) Tryz.underlying4
 have hk:=Zcy (enc:=enc) (P:=Zuv) (w:=w) Tryz.underlying48
 refine (Za3 (P:=Zuv) Tryz.underlying54 (Rs:=[_,_,_,_,_,_,_,_,_,_,_,_,_,_]) (.cons hs (.cons hk (.cons hi (.cons hb (.cons hb (.cons hi (.cons hi (.cons ZrI (.cons hs (.cons hs (.cons hs (.cons ZqP (.cons hi (.cons hi .nil)))))))))))))) (by kernel_rfl)).imp ?_
 rintro ds ⟨_,_,rfl,⟨a,rfl⟩,_,_,rfl,⟨b,rfl⟩,_,_,rfl,⟨c,rfl⟩,_,_,rfl,⟨d,rfl⟩,_,_,rfl,⟨e,rfl⟩,_,_,rfl,⟨f,rfl⟩,_,_,rfl,⟨g,rfl⟩,_,_,rfl,⟨h,rfl⟩,_,_,rfl,⟨i,rfl⟩,_,_,rfl,⟨j,rfl⟩,_,_,rfl,⟨k,rfl⟩,_,_,rfl,⟨l,rfl⟩,_,_,rfl,⟨m,rfl⟩,_,_,rfl,⟨n,rfl⟩,rfl⟩
 exact ⟨⟨a,b,c,d,e,f,g,h,i,j,k,l,m,n⟩,rfl⟩
theorem ZrG:JH enc Zuv w 42 fun ds=>∃ l:List Fld,ds=[Yo l] :=
 ZdF (f:=ZuD) Tryz.underlying42 (by kernel_rfl) (by decide) (fun _=>rfl) Zsl
theorem Zsm:JH enc Zuv w 44 fun ds=>∃ x:Msg,ds=x.cells:=by
 refine (Za3 (P:=Zuv) Tryz.underlying44 (Rs:=[_,_]) (.cons (Zcz Tryz.underlying9) (.cons ZrG .nil)) (by kernel_rfl)).imp ?_
 rintro ds ⟨_,_,rfl,⟨a,rfl⟩,_,_,rfl,⟨b,rfl⟩,rfl⟩
 exact ⟨⟨a,b⟩,rfl⟩
theorem ZrH:JH enc Zuv w 22 fun ds=>∃ l:List Msg,ds=[We l] :=
 ZdF (f:=ZuG) Tryz.underlying22 (by kernel_rfl) (by decide) (fun _=>rfl) Zsm
theorem ZsE:JH enc Zuv w 24 fun ds=>∃ x:Dfn,ds=x.cells:=by
 refine (Za3 (P:=Zuv) Tryz.underlying24 (Rs:=[_,_,_]) (.cons (Zcz Tryz.underlying9) (.cons ZrH (.cons (Zcz Tryz.underlying9) .nil))) (by kernel_rfl)).imp ?_
 rintro ds ⟨_,_,rfl,⟨a,rfl⟩,_,_,rfl,⟨b,rfl⟩,_,_,rfl,⟨c,rfl⟩,rfl⟩
 exact ⟨⟨a,b,c⟩,rfl⟩
end
end Go.DL
namespace Go.Proofs.YtmnhlhenahlilaaGreat
open Go Go.DL Go.ChangeShapes Go.WideShapes Go.ChangeAt Go.RowKit
set_option linter.unusedVariables false
theorem own:ownKnob Tryz.prog.godebug=none:=by kernel_rfl
theorem laidOut:laidOutB Zuv=true:=by kernel_rfl
theorem types_ok:∀ t∈[24,56,3],Program.readableRec Zuv t=true∧t < Array.size Tryz.prog.types:=by
 intro t ht
 simp only [List.mem_cons,List.not_mem_nil,or_false] at ht
 rcases ht with rfl | rfl | rfl
 ·exact ⟨by kernel_rfl,of_decide_eq_true (by kernel_rfl)⟩
 ·exact ⟨by kernel_rfl,of_decide_eq_true (by kernel_rfl)⟩
 ·exact ⟨by kernel_rfl,of_decide_eq_true (by kernel_rfl)⟩
end Go.Proofs.YtmnhlhenahlilaaGreat
namespace Go.DL
open Go Go.Proofs
def JN {α:Type} (p:α→Bool):List α→Nat
 | []=>0
 | x :: r=>if p x then 1 else JN p r + 1
theorem Zbf {α:Type} {p:α→Bool} {l:List α} (h:∀ x∈l,p x=false):JN p l=l.length:=by
 induction l with
 | nil=>rfl
 | cons x r ih=>simp only [JN,h x (by simp),ZuI]; rw [ih fun y hy=>h y (by simp [hy])]; simp
theorem Zcq {α:Type} [Inhabited α] {p:α→Bool} {l:List α} {i:Nat} (hi:i < l.length) (hp:p (l.getD i default)=true) (h:∀ j,j < i→p (l.getD j default)=false):JN p l=i + 1:=by
 induction l generalizing i with
 | nil=>simp at hi
 | cons x r ih =>
  cases i with
  | zero=>simp at hp; simp [JN,hp]
  | succ i =>
   have h0:=h 0 (by omega)
   simp only [List.getD_cons_zero] at h0
   simp only [List.getD_cons_succ,ZuI] at hp hi
   simp only [JN,h0]
   rw [ih (by omega) hp fun j hj=>by have:=h (j + 1) (by omega); simpa only [List.getD_cons_succ] using this]
   simp
def byC (b:UInt8):List D:=[.int .u8 (b.toNat:Int)]
def ZgN (l:List Bool):List D:=[ZdM l]
theorem Za9 {α:Type} (p:α→Bool) (l:List α):l.any p=decide (0≤Z7 p l):=by
 induction l with
 | nil=>rfl
 | cons x r ih =>
  have:=Za6 p r
  rw [List.any_cons,ih]
  simp only [Z7]
  by_cases hx:p x=true
  ·simp [hx]
  ·by_cases hr:Z7 p r < 0
   ·simp [hx,hr]
   ·simp [hx,hr]; omega
theorem Zd1 (l:List Msg) (f:D) (p:Msg→Bool) (sts:Nat→St)
  (hf:∀ i,i < l.length→VT Zuv f [.agg (l.getD i default).cells] (sts i) (.bool (p (l.getD i default))) (sts (i + 1))) :
  Y3 Zuv Zx.id [slD 2 ZuG l,f] (sts 0) (.int .i64 (Z7 p l)) (sts (JN p l)):=by
 refine Y4 Zx.ok fun hwf F hret=>?_
 have hw:=(QD (hwf (slD 2 ZuG l) (by simp))).1
 unfold big at hw
 clear hwf
 refine Za (Zb (Zc ?_))
 simp only [Eqs,reduceCtorEq,reduceIte,Zuq,Zur,Zx.r0,slD]
 refine Za (Za (Zb (Zc ?_)))
 simp only [Eqs,reduceCtorEq,reduceIte,Zuq,Zx.r1]
 refine Zj (ZX ?_)
 have key:∀ (n i:Nat),(l.length) - i=n→i≤l.length→(∀ j,j < i→p (l.getD j default)=false)→ZT F [.code (Zx.l0),.inLoop Zx.l0,.inBlock 0,.code (.seq (qR Zx.r7 [4]) .ret)] [(0,.d (slD 2 ZuG l)),(1,.d f),(7,.d (.int .i64 l.length)),(8,.d (.int .i64 i))] [] (sts i):=by
  intro n
  induction n using Nat.strongRecOn with
  | ind n ih_key =>
  intro i hn hi hno
  refine Za (Zb (Zc ?_))
  simp only [Eqs,reduceCtorEq,reduceIte,Zuq,Zx.r2,slD]
  refine Za (Ze rfl trivial (fun h1=>?_) (fun h1=>?_))
  ·simp at h1
   refine Zg (Za (Zj (Za (Zb (Zc ?_)))))
   simp only [Eqs,reduceCtorEq,reduceIte,Zuq,Zx.r3]
   refine Za (Zb (Zc ?_))
   simp only [Eqs,reduceCtorEq,reduceIte,Zuq,Zur,Zus,Zx.r4,ZuG]
   repeat (refine Zut (by first | omega | trivial | (intro h0; simp at h0; omega)) ?_)
   refine ZbP rfl rfl rfl rfl rfl (by trivial) (by trivial) (by exact hf i h1) (Zc ?_)
   simp only [Eqs,reduceCtorEq,reduceIte,Zuq]
   refine Ze rfl trivial (fun h2=>?_) (fun h2=>?_)
   ·have e1:=JR h1 h2 hno
    have e2:=Zcq h1 h2 hno
    rw [e1,e2] at hret
    refine Za (Zb (Zc ?_))
    simp only [Eqs,reduceCtorEq,reduceIte,Zuq,Zx.r5]
    exact hret rfl (by trivial) (Zux _) (Zuw _)
   ·refine Zg (Zm (Zb (Zc ?_)))
    simp only [Eqs,reduceCtorEq,reduceIte,Zuq,Zx.r6]
    repeat (refine Zut (by first | omega | trivial | (intro h0; simp at h0; omega)) ?_)
    refine Zy ?_
    exact ih_key ((l.length) - (i + 1)) (by omega) (i + 1) rfl (by omega) (K4 (q:=fun j=>p (l.getD j default)=false) hno h2)
  ·simp at h1
   obtain rfl:i=l.length:=by omega
   have hall:∀ x∈l,p x=false:=fun x hx=>by
    obtain ⟨j,hj,rfl⟩:=ZuJ hx
    have:=hno j hj
    simpa [List.getD,hj] using this
   rw [Ji hall,Zbf hall] at hret
   refine ZQ rfl (Za (Zb (Zc ?_)))
   simp only [Eqs,reduceCtorEq,reduceIte,Zuq,Zx.r7]
   exact hret rfl (by trivial) (Zux _) (Zuw _)
 exact key _ 0 rfl (by omega) (by intro j hj; omega)
theorem ZeO (l:List Z5) (f:D) (p:Z5→Bool) (sts:Nat→St)
  (hf:∀ i,i < l.length→VT Zuv f [.agg (l.getD i default).cells] (sts i) (.bool (p (l.getD i default))) (sts (i + 1))) :
  Y3 Zuv Zt.id [slD 2 ZuR l,f] (sts 0) (.int .i64 (Z7 p l)) (sts (JN p l)):=by
 refine Y4 Zt.ok fun hwf F hret=>?_
 have hw:=(QD (hwf (slD 2 ZuR l) (by simp))).1
 unfold big at hw
 clear hwf
 refine Za (Zb (Zc ?_))
 simp only [Eqs,reduceCtorEq,reduceIte,Zuq,Zur,Zt.r0,slD]
 refine Za (Za (Zb (Zc ?_)))
 simp only [Eqs,reduceCtorEq,reduceIte,Zuq,Zt.r1]
 refine Zj (ZX ?_)
 have key:∀ (n i:Nat),(l.length) - i=n→i≤l.length→(∀ j,j < i→p (l.getD j default)=false)→ZT F [.code (Zt.l0),.inLoop Zt.l0,.inBlock 0,.code (.seq (qR Zt.r7 [4]) .ret)] [(0,.d (slD 2 ZuR l)),(1,.d f),(7,.d (.int .i64 l.length)),(8,.d (.int .i64 i))] [] (sts i):=by
  intro n
  induction n using Nat.strongRecOn with
  | ind n ih_key =>
  intro i hn hi hno
  refine Za (Zb (Zc ?_))
  simp only [Eqs,reduceCtorEq,reduceIte,Zuq,Zt.r2,slD]
  refine Za (Ze rfl trivial (fun h1=>?_) (fun h1=>?_))
  ·simp at h1
   refine Zg (Za (Zj (Za (Zb (Zc ?_)))))
   simp only [Eqs,reduceCtorEq,reduceIte,Zuq,Zt.r3]
   refine Za (Zb (Zc ?_))
   simp only [Eqs,reduceCtorEq,reduceIte,Zuq,Zur,Zus,Zt.r4,ZuR]
   repeat (refine Zut (by first | omega | trivial | (intro h0; simp at h0; omega)) ?_)
   refine ZbP rfl rfl rfl rfl rfl (by trivial) (by trivial) (by exact hf i h1) (Zc ?_)
   simp only [Eqs,reduceCtorEq,reduceIte,Zuq]
   refine Ze rfl trivial (fun h2=>?_) (fun h2=>?_)
   ·have e1:=JR h1 h2 hno
    have e2:=Zcq h1 h2 hno
    rw [e1,e2] at hret
    refine Za (Zb (Zc ?_))
    simp only [Eqs,reduceCtorEq,reduceIte,Zuq,Zt.r5]
    exact hret rfl (by trivial) (Zux _) (Zuw _)
   ·refine Zg (Zm (Zb (Zc ?_)))
    simp only [Eqs,reduceCtorEq,reduceIte,Zuq,Zt.r6]
    repeat (refine Zut (by first | omega | trivial | (intro h0; simp at h0; omega)) ?_)
    refine Zy ?_
    exact ih_key ((l.length) - (i + 1)) (by omega) (i + 1) rfl (by omega) (K4 (q:=fun j=>p (l.getD j default)=false) hno h2)
  ·simp at h1
   obtain rfl:i=l.length:=by omega
   have hall:∀ x∈l,p x=false:=fun x hx=>by
    obtain ⟨j,hj,rfl⟩:=ZuJ hx
    have:=hno j hj
    simpa [List.getD,hj] using this
   rw [Ji hall,Zbf hall] at hret
   refine ZQ rfl (Za (Zb (Zc ?_)))
   simp only [Eqs,reduceCtorEq,reduceIte,Zuq,Zt.r7]
   exact hret rfl (by trivial) (Zux _) (Zuw _)
 exact key _ 0 rfl (by omega) (by intro j hj; omega)
theorem ZeM (l:List WK) (f:D) (p:WK→Bool) (sts:Nat→St)
  (hf:∀ i,i < l.length→VT Zuv f [.agg (l.getD i default).cells] (sts i) (.bool (p (l.getD i default))) (sts (i + 1))) :
  Y3 Zuv ZF.id [slD 3 WK.cells l,f] (sts 0) (.int .i64 (Z7 p l)) (sts (JN p l)):=by
 refine Y4 ZF.ok fun hwf F hret=>?_
 have hw:=(QD (hwf (slD 3 WK.cells l) (by simp))).1
 unfold big at hw
 clear hwf
 refine Za (Zb (Zc ?_))
 simp only [Eqs,reduceCtorEq,reduceIte,Zuq,Zur,ZF.r0,slD]
 refine Za (Za (Zb (Zc ?_)))
 simp only [Eqs,reduceCtorEq,reduceIte,Zuq,ZF.r1]
 refine Zj (ZX ?_)
 have key:∀ (n i:Nat),(l.length) - i=n→i≤l.length→(∀ j,j < i→p (l.getD j default)=false)→ZT F [.code (ZF.l0),.inLoop ZF.l0,.inBlock 0,.code (.seq (qR ZF.r7 [4]) .ret)] [(0,.d (slD 3 WK.cells l)),(1,.d f),(7,.d (.int .i64 l.length)),(8,.d (.int .i64 i))] [] (sts i):=by
  intro n
  induction n using Nat.strongRecOn with
  | ind n ih_key =>
  intro i hn hi hno
  refine Za (Zb (Zc ?_))
  simp only [Eqs,reduceCtorEq,reduceIte,Zuq,ZF.r2,slD]
  refine Za (Ze rfl trivial (fun h1=>?_) (fun h1=>?_))
  ·simp at h1
   refine Zg (Za (Zj (Za (Zb (Zc ?_)))))
   simp only [Eqs,reduceCtorEq,reduceIte,Zuq,ZF.r3]
   refine Za (Zb (Zc ?_))
   simp only [Eqs,reduceCtorEq,reduceIte,Zuq,Zur,Zus,ZF.r4,WK.cells]
   repeat (refine Zut (by first | omega | trivial | (intro h0; simp at h0; omega)) ?_)
   refine ZbP rfl rfl rfl rfl rfl (by trivial) (by trivial) (by exact hf i h1) (Zc ?_)
   simp only [Eqs,reduceCtorEq,reduceIte,Zuq]
   refine Ze rfl trivial (fun h2=>?_) (fun h2=>?_)
   ·have e1:=JR h1 h2 hno
    have e2:=Zcq h1 h2 hno
    rw [e1,e2] at hret
    refine Za (Zb (Zc ?_))
    simp only [Eqs,reduceCtorEq,reduceIte,Zuq,ZF.r5]
    exact hret rfl (by trivial) (Zux _) (Zuw _)
   ·refine Zg (Zm (Zb (Zc ?_)))
    simp only [Eqs,reduceCtorEq,reduceIte,Zuq,ZF.r6]
    repeat (refine Zut (by first | omega | trivial | (intro h0; simp at h0; omega)) ?_)
    refine Zy ?_
    exact ih_key ((l.length) - (i + 1)) (by omega) (i + 1) rfl (by omega) (K4 (q:=fun j=>p (l.getD j default)=false) hno h2)
  ·simp at h1
   obtain rfl:i=l.length:=by omega
   have hall:∀ x∈l,p x=false:=fun x hx=>by
    obtain ⟨j,hj,rfl⟩:=ZuJ hx
    have:=hno j hj
    simpa [List.getD,hj] using this
   rw [Ji hall,Zbf hall] at hret
   refine ZQ rfl (Za (Zb (Zc ?_)))
   simp only [Eqs,reduceCtorEq,reduceIte,Zuq,ZF.r7]
   exact hret rfl (by trivial) (Zux _) (Zuw _)
 exact key _ 0 rfl (by omega) (by intro j hj; omega)
theorem Zbx (l:List Fld) (f:D) (p:Fld→Bool) (sts:Nat→St)
  (hf:∀ i,i < l.length→VT Zuv f [.agg (l.getD i default).cells] (sts i) (.bool (p (l.getD i default))) (sts (i + 1))) :
  Y3 Zuv ZC.id [slD 15 ZuD l,f] (sts 0) (.int .i64 (Z7 p l)) (sts (JN p l)):=by
 refine Y4 ZC.ok fun hwf F hret=>?_
 have hw:=(QD (hwf (slD 15 ZuD l) (by simp))).1
 unfold big at hw
 clear hwf
 refine Za (Zb (Zc ?_))
 simp only [Eqs,reduceCtorEq,reduceIte,Zuq,Zur,ZC.r0,slD]
 refine Za (Za (Zb (Zc ?_)))
 simp only [Eqs,reduceCtorEq,reduceIte,Zuq,ZC.r1]
 refine Zj (ZX ?_)
 have key:∀ (n i:Nat),(l.length) - i=n→i≤l.length→(∀ j,j < i→p (l.getD j default)=false)→ZT F [.code (ZC.l0),.inLoop ZC.l0,.inBlock 0,.code (.seq (qR ZC.r7 [4]) .ret)] [(0,.d (slD 15 ZuD l)),(1,.d f),(7,.d (.int .i64 l.length)),(8,.d (.int .i64 i))] [] (sts i):=by
  intro n
  induction n using Nat.strongRecOn with
  | ind n ih_key =>
  intro i hn hi hno
  refine Za (Zb (Zc ?_))
  simp only [Eqs,reduceCtorEq,reduceIte,Zuq,ZC.r2,slD]
  refine Za (Ze rfl trivial (fun h1=>?_) (fun h1=>?_))
  ·simp at h1
   refine Zg (Za (Zj (Za (Zb (Zc ?_)))))
   simp only [Eqs,reduceCtorEq,reduceIte,Zuq,ZC.r3]
   refine Za (Zb (Zc ?_))
   simp only [Eqs,reduceCtorEq,reduceIte,Zuq,Zur,Zus,ZC.r4,ZuD]
   repeat (refine Zut (by first | omega | trivial | (intro h0; simp at h0; omega)) ?_)
   refine ZbP rfl rfl rfl rfl rfl (by trivial) (by trivial) (by exact hf i h1) (Zc ?_)
   simp only [Eqs,reduceCtorEq,reduceIte,Zuq]
   refine Ze rfl trivial (fun h2=>?_) (fun h2=>?_)
   ·have e1:=JR h1 h2 hno
    have e2:=Zcq h1 h2 hno
    rw [e1,e2] at hret
    refine Za (Zb (Zc ?_))
    simp only [Eqs,reduceCtorEq,reduceIte,Zuq,ZC.r5]
    exact hret rfl (by trivial) (Zux _) (Zuw _)
   ·refine Zg (Zm (Zb (Zc ?_)))
    simp only [Eqs,reduceCtorEq,reduceIte,Zuq,ZC.r6]
    repeat (refine Zut (by first | omega | trivial | (intro h0; simp at h0; omega)) ?_)
    refine Zy ?_
    exact ih_key ((l.length) - (i + 1)) (by omega) (i + 1) rfl (by omega) (K4 (q:=fun j=>p (l.getD j default)=false) hno h2)
  ·simp at h1
   obtain rfl:i=l.length:=by omega
   have hall:∀ x∈l,p x=false:=fun x hx=>by
    obtain ⟨j,hj,rfl⟩:=ZuJ hx
    have:=hno j hj
    simpa [List.getD,hj] using this
   rw [Ji hall,Zbf hall] at hret
   refine ZQ rfl (Za (Zb (Zc ?_)))
   simp only [Eqs,reduceCtorEq,reduceIte,Zuq,ZC.r7]
   exact hret rfl (by trivial) (Zux _) (Zuw _)
 exact key _ 0 rfl (by omega) (by intro j hj; omega)
theorem ZeP (l:List UInt8) (f:D) (p:UInt8→Bool) (sts:Nat→St)
  (hf:∀ i,i < l.length→VT Zuv f [.int .u8 ((l.getD i default).toNat:Int)] (sts i) (.bool (p (l.getD i default))) (sts (i + 1))) :
  Y3 Zuv ZG.id [slD 1 byC l,f] (sts 0) (.int .i64 (Z7 p l)) (sts (JN p l)):=by
 refine Y4 ZG.ok fun hwf F hret=>?_
 have hw:=(QD (hwf (slD 1 byC l) (by simp))).1
 unfold big at hw
 clear hwf
 refine Za (Zb (Zc ?_))
 simp only [Eqs,reduceCtorEq,reduceIte,Zuq,Zur,ZG.r0,slD]
 refine Za (Za (Zb (Zc ?_)))
 simp only [Eqs,reduceCtorEq,reduceIte,Zuq,ZG.r1]
 refine Zj (ZX ?_)
 have key:∀ (n i:Nat),(l.length) - i=n→i≤l.length→(∀ j,j < i→p (l.getD j default)=false)→ZT F [.code (ZG.l0),.inLoop ZG.l0,.inBlock 0,.code (.seq (qR ZG.r7 [4]) .ret)] [(0,.d (slD 1 byC l)),(1,.d f),(7,.d (.int .i64 l.length)),(8,.d (.int .i64 i))] [] (sts i):=by
  intro n
  induction n using Nat.strongRecOn with
  | ind n ih_key =>
  intro i hn hi hno
  refine Za (Zb (Zc ?_))
  simp only [Eqs,reduceCtorEq,reduceIte,Zuq,ZG.r2,slD]
  refine Za (Ze rfl trivial (fun h1=>?_) (fun h1=>?_))
  ·simp at h1
   refine Zg (Za (Zj (Za (Zb (Zc ?_)))))
   simp only [Eqs,reduceCtorEq,reduceIte,Zuq,ZG.r3]
   refine Za (Zb (Zc ?_))
   simp only [Eqs,reduceCtorEq,reduceIte,Zuq,ZG.r4,byC]
   repeat (refine Zut (by first | omega | trivial | (intro h0; simp at h0; omega)) ?_)
   refine ZbP rfl rfl rfl rfl rfl (by trivial) (by trivial) (by exact hf i h1) (Zc ?_)
   simp only [Eqs,reduceCtorEq,reduceIte,Zuq]
   refine Ze rfl trivial (fun h2=>?_) (fun h2=>?_)
   ·have e1:=JR h1 h2 hno
    have e2:=Zcq h1 h2 hno
    rw [e1,e2] at hret
    refine Za (Zb (Zc ?_))
    simp only [Eqs,reduceCtorEq,reduceIte,Zuq,ZG.r5]
    exact hret rfl (by trivial) (Zux _) (Zuw _)
   ·refine Zg (Zm (Zb (Zc ?_)))
    simp only [Eqs,reduceCtorEq,reduceIte,Zuq,ZG.r6]
    repeat (refine Zut (by first | omega | trivial | (intro h0; simp at h0; omega)) ?_)
    refine Zy ?_
    exact ih_key ((l.length) - (i + 1)) (by omega) (i + 1) rfl (by omega) (K4 (q:=fun j=>p (l.getD j default)=false) hno h2)
  ·simp at h1
   obtain rfl:i=l.length:=by omega
   have hall:∀ x∈l,p x=false:=fun x hx=>by
    obtain ⟨j,hj,rfl⟩:=ZuJ hx
    have:=hno j hj
    simpa [List.getD,hj] using this
   rw [Ji hall,Zbf hall] at hret
   refine ZQ rfl (Za (Zb (Zc ?_)))
   simp only [Eqs,reduceCtorEq,reduceIte,Zuq,ZG.r7]
   exact hret rfl (by trivial) (Zux _) (Zuw _)
 exact key _ 0 rfl (by omega) (by intro j hj; omega)
theorem Zeh (l:List (List Bool)) (f:D) (p:(List Bool)→Bool) (sts:Nat→St)
  (hf:∀ i,i < l.length→VT Zuv f [ZdM (l.getD i default)] (sts i) (.bool (p (l.getD i default))) (sts (i + 1))) :
  Y3 Zuv ZD.id [slD 1 ZgN l,f] (sts 0) (.int .i64 (Z7 p l)) (sts (JN p l)):=by
 refine Y4 ZD.ok fun hwf F hret=>?_
 have hw:=(QD (hwf (slD 1 ZgN l) (by simp))).1
 unfold big at hw
 clear hwf
 refine Za (Zb (Zc ?_))
 simp only [Eqs,reduceCtorEq,reduceIte,Zuq,Zur,ZD.r0,slD]
 refine Za (Za (Zb (Zc ?_)))
 simp only [Eqs,reduceCtorEq,reduceIte,Zuq,ZD.r1]
 refine Zj (ZX ?_)
 have key:∀ (n i:Nat),(l.length) - i=n→i≤l.length→(∀ j,j < i→p (l.getD j default)=false)→ZT F [.code (ZD.l0),.inLoop ZD.l0,.inBlock 0,.code (.seq (qR ZD.r7 [4]) .ret)] [(0,.d (slD 1 ZgN l)),(1,.d f),(7,.d (.int .i64 l.length)),(8,.d (.int .i64 i))] [] (sts i):=by
  intro n
  induction n using Nat.strongRecOn with
  | ind n ih_key =>
  intro i hn hi hno
  refine Za (Zb (Zc ?_))
  simp only [Eqs,reduceCtorEq,reduceIte,Zuq,ZD.r2,slD]
  refine Za (Ze rfl trivial (fun h1=>?_) (fun h1=>?_))
  ·simp at h1
   refine Zg (Za (Zj (Za (Zb (Zc ?_)))))
   simp only [Eqs,reduceCtorEq,reduceIte,Zuq,ZD.r3]
   refine Za (Zb (Zc ?_))
   simp only [Eqs,reduceCtorEq,reduceIte,Zuq,ZD.r4,ZgN]
   repeat (refine Zut (by first | omega | trivial | (intro h0; simp at h0; omega)) ?_)
   refine ZbP rfl rfl rfl rfl rfl (by trivial) (by trivial) (by exact hf i h1) (Zc ?_)
   simp only [Eqs,reduceCtorEq,reduceIte,Zuq]
   refine Ze rfl trivial (fun h2=>?_) (fun h2=>?_)
   ·have e1:=JR h1 h2 hno
    have e2:=Zcq h1 h2 hno
    rw [e1,e2] at hret
    refine Za (Zb (Zc ?_))
    simp only [Eqs,reduceCtorEq,reduceIte,Zuq,ZD.r5]
    exact hret rfl (by trivial) (Zux _) (Zuw _)
   ·refine Zg (Zm (Zb (Zc ?_)))
    simp only [Eqs,reduceCtorEq,reduceIte,Zuq,ZD.r6]
    repeat (refine Zut (by first | omega | trivial | (intro h0; simp at h0; omega)) ?_)
    refine Zy ?_
    exact ih_key ((l.length) - (i + 1)) (by omega) (i + 1) rfl (by omega) (K4 (q:=fun j=>p (l.getD j default)=false) hno h2)
  ·simp at h1
   obtain rfl:i=l.length:=by omega
   have hall:∀ x∈l,p x=false:=fun x hx=>by
    obtain ⟨j,hj,rfl⟩:=ZuJ hx
    have:=hno j hj
    simpa [List.getD,hj] using this
   rw [Ji hall,Zbf hall] at hret
   refine ZQ rfl (Za (Zb (Zc ?_)))
   simp only [Eqs,reduceCtorEq,reduceIte,Zuq,ZD.r7]
   exact hret rfl (by trivial) (Zux _) (Zuw _)
 exact key _ 0 rfl (by omega) (by intro j hj; omega)
theorem ZdZ (l:List Z5) (f:D) (p:Z5→Bool) (sts:Nat→St)
  (hf:∀ i,i < l.length→VT Zuv f [.agg (l.getD i default).cells] (sts i) (.bool (p (l.getD i default))) (sts (i + 1))) :
  Y3 Zuv Yd.id [slD 2 ZuR l,f] (sts 0) (.bool (l.any p)) (sts (JN p l)):=by
 refine Y4 Yd.ok fun hwf F hret=>?_
 clear hwf
 refine Za (Zb (Zc ?_))
 simp only [Eqs,reduceCtorEq,reduceIte,Zuq,Zur,Yd.r0]
 refine Za (Zb (Zc ?_))
 simp only [Eqs,reduceCtorEq,reduceIte,Zuq,Yd.r1]
 refine Wn rfl rfl rfl rfl rfl (by trivial) (by trivial) (by exact ZeO l f p sts hf) (Zc ?_)
 simp only [Eqs,reduceCtorEq,reduceIte,Zuq]
 rw [Za9] at hret
 exact hret rfl (by trivial) (Zux _) (Zuw _)
theorem Zdq (l:List Fld) (f:D) (p:Fld→Bool) (sts:Nat→St)
  (hf:∀ i,i < l.length→VT Zuv f [.agg (l.getD i default).cells] (sts i) (.bool (p (l.getD i default))) (sts (i + 1))) :
  Y3 Zuv Yz.id [slD 15 ZuD l,f] (sts 0) (.bool (l.any p)) (sts (JN p l)):=by
 refine Y4 Yz.ok fun hwf F hret=>?_
 clear hwf
 refine Za (Zb (Zc ?_))
 simp only [Eqs,reduceCtorEq,reduceIte,Zuq,Zur,Yz.r0]
 refine Za (Zb (Zc ?_))
 simp only [Eqs,reduceCtorEq,reduceIte,Zuq,Yz.r1]
 refine Wn rfl rfl rfl rfl rfl (by trivial) (by trivial) (by exact Zbx l f p sts hf) (Zc ?_)
 simp only [Eqs,reduceCtorEq,reduceIte,Zuq]
 rw [Za9] at hret
 exact hret rfl (by trivial) (Zux _) (Zuw _)
theorem Zd0 (l:List UInt8) (f:D) (p:UInt8→Bool) (sts:Nat→St)
  (hf:∀ i,i < l.length→VT Zuv f [.int .u8 ((l.getD i default).toNat:Int)] (sts i) (.bool (p (l.getD i default))) (sts (i + 1))) :
  Y3 Zuv Yw.id [slD 1 byC l,f] (sts 0) (.bool (l.any p)) (sts (JN p l)):=by
 refine Y4 Yw.ok fun hwf F hret=>?_
 clear hwf
 refine Za (Zb (Zc ?_))
 simp only [Eqs,reduceCtorEq,reduceIte,Zuq,Zur,Yw.r0]
 refine Za (Zb (Zc ?_))
 simp only [Eqs,reduceCtorEq,reduceIte,Zuq,Yw.r1]
 refine Wn rfl rfl rfl rfl rfl (by trivial) (by trivial) (by exact ZeP l f p sts hf) (Zc ?_)
 simp only [Eqs,reduceCtorEq,reduceIte,Zuq]
 rw [Za9] at hret
 exact hret rfl (by trivial) (Zux _) (Zuw _)
theorem Zdr (l:List (List Bool)) (f:D) (p:(List Bool)→Bool) (sts:Nat→St)
  (hf:∀ i,i < l.length→VT Zuv f [ZdM (l.getD i default)] (sts i) (.bool (p (l.getD i default))) (sts (i + 1))) :
  Y3 Zuv YA.id [slD 1 ZgN l,f] (sts 0) (.bool (l.any p)) (sts (JN p l)):=by
 refine Y4 YA.ok fun hwf F hret=>?_
 clear hwf
 refine Za (Zb (Zc ?_))
 simp only [Eqs,reduceCtorEq,reduceIte,Zuq,Zur,YA.r0]
 refine Za (Zb (Zc ?_))
 simp only [Eqs,reduceCtorEq,reduceIte,Zuq,YA.r1]
 refine Wn rfl rfl rfl rfl rfl (by trivial) (by trivial) (by exact Zeh l f p sts hf) (Zc ?_)
 simp only [Eqs,reduceCtorEq,reduceIte,Zuq]
 rw [Za9] at hret
 exact hret rfl (by trivial) (Zux _) (Zuw _)
end Go.DL
namespace Go.DL
open Go Go.Proofs
def boC (b:Bool):List D:=[.bool b]
def Q5 (s:Str):List D:=[.str s]
theorem Zjo {α:Type} [DecidableEq α] (v:α) (l:List α):l.any (fun x=>decide (v=x))=decide (v∈l):=by
 induction l with
 | nil=>simp
 | cons x r ih=>rw [List.any_cons,ih]; simp [List.mem_cons]
theorem Zgu {α:Type} [Inhabited α] {l r:List α} (h:l.length=r.length) (h2:∀ j,j < l.length→l.getD j default=r.getD j default):l=r:=by
 apply List.ext_getElem h
 intro i h1 h3
 have:=h2 i h1
 simpa [List.getD,h1,h3] using this
theorem Zgj (l:List Bool) (v:Bool):ZR Zuv ZS.id [slD 1 boC l,.bool v] (.int .i64 (Z7 (fun x=>decide (v=x)) l)):=by
 refine WD ZS.ok fun hwf F st hret=>?_
 have hw:=(QD (hwf (slD 1 boC l) (by simp))).1
 unfold big at hw
 clear hwf
 refine Za (Zb (Zc ?_))
 simp only [Eqs,reduceCtorEq,reduceIte,Zuq,Zur,ZS.r0,slD]
 refine Za (Za (Zb (Zc ?_)))
 simp only [Eqs,reduceCtorEq,reduceIte,Zuq,ZS.r1]
 refine Zj (ZX ?_)
 have key:∀ (n i:Nat),(l.length) - i=n→i≤l.length→(∀ j,j < i→decide (v=l.getD j default)=false)→ZT F [.code (ZS.l0),.inLoop ZS.l0,.inBlock 0,.code (.seq (qR ZS.r7 [4]) .ret)] [(0,.d (slD 1 boC l)),(1,.d (.bool v)),(7,.d (.int .i64 l.length)),(8,.d (.int .i64 i))] [] st:=by
  intro n
  induction n using Nat.strongRecOn with
  | ind n ih_key =>
  intro i hn hi hno
  refine Za (Zb (Zc ?_))
  simp only [Eqs,reduceCtorEq,reduceIte,Zuq,ZS.r2,slD]
  refine Za (Ze rfl trivial (fun h1=>?_) (fun h1=>?_))
  ·simp at h1
   refine Zg (Za (Zj (Za (Zb (Zc ?_)))))
   simp only [Eqs,reduceCtorEq,reduceIte,Zuq,ZS.r3]
   refine Za (Zb (Zc ?_))
   simp only [Eqs,reduceCtorEq,reduceIte,Zuq,ZS.r4,boC]
   repeat (refine Zut (by first | omega | trivial | (intro h0; simp at h0; omega)) ?_)
   refine Ze rfl trivial (fun h2=>?_) (fun h2=>?_)
   ·have e1:=JR (p:=fun x=>decide (v=x)) h1 h2 hno
    refine Za (Zb (Zc ?_))
    simp only [Eqs,reduceCtorEq,reduceIte,Zuq,ZS.r5]
    refine hret rfl (by first | trivial | simp) (YG ?_) (by first | exact Zuw _ | exact Zl (by first | trivial | assumption) | assumption | exact Zuy _ (by assumption))
    exact e1.symm
   ·refine Zg (Zm (Zb (Zc ?_)))
    simp only [Eqs,reduceCtorEq,reduceIte,Zuq,ZS.r6]
    repeat (refine Zut (by first | omega | trivial | (intro h0; simp at h0; omega)) ?_)
    refine Zy ?_
    exact ih_key ((l.length) - (i + 1)) (by omega) (i + 1) rfl (by omega) (K4 (q:=fun j=>decide (v=l.getD j default)=false) hno h2)
  ·simp at h1
   obtain rfl:i=l.length:=by omega
   have hall:∀ x∈l,(fun x=>decide (v=x)) x=false:=fun x hx=>by
    obtain ⟨j,hj,rfl⟩:=ZuJ hx
    have:=hno j hj
    simpa [List.getD,hj] using this
   refine ZQ rfl (Za (Zb (Zc ?_)))
   simp only [Eqs,reduceCtorEq,reduceIte,Zuq,ZS.r7]
   refine hret rfl (by first | trivial | simp) (YG ?_) (by first | exact Zuw _ | exact Zl (by first | trivial | assumption) | assumption | exact Zuy _ (by assumption))
   exact (Ji hall).symm
 exact key _ 0 rfl (by omega) (by intro j hj; omega)
theorem ZeT (l:List Bool) (v:Bool):ZR Zuv Wd.id [slD 1 boC l,.bool v] (.bool (decide (v∈l))):=by
 refine Z0 Wd.ok fun F st hret=>?_
 refine Za (Zb (Zc ?_))
 simp only [Eqs,reduceCtorEq,reduceIte,Zuq,Zur,Wd.r0]
 refine Za (Zb (Zc ?_))
 simp only [Eqs,reduceCtorEq,reduceIte,Zuq,Wd.r1]
 refine ZW rfl rfl rfl rfl rfl (by trivial) (by trivial) (by exact Zgj l v) (Zc ?_)
 simp only [Eqs,reduceCtorEq,reduceIte,Zuq]
 refine hret rfl (by first | trivial | simp) (Yk ?_) (by first | exact Zuw _ | exact Zl (by first | trivial | assumption) | assumption | exact Zuy _ (by assumption))
 rw [← Za9,Zjo]; try congr
theorem Zfl (l:List Str) (v:Str):ZR Zuv ZL.id [slD 1 Q5 l,.str v] (.int .i64 (Z7 (fun x=>decide (v=x)) l)):=by
 refine WD ZL.ok fun hwf F st hret=>?_
 have hw:=(QD (hwf (slD 1 Q5 l) (by simp))).1
 unfold big at hw
 clear hwf
 refine Za (Zb (Zc ?_))
 simp only [Eqs,reduceCtorEq,reduceIte,Zuq,Zur,ZL.r0,slD]
 refine Za (Za (Zb (Zc ?_)))
 simp only [Eqs,reduceCtorEq,reduceIte,Zuq,ZL.r1]
 refine Zj (ZX ?_)
 have key:∀ (n i:Nat),(l.length) - i=n→i≤l.length→(∀ j,j < i→decide (v=l.getD j default)=false)→ZT F [.code (ZL.l0),.inLoop ZL.l0,.inBlock 0,.code (.seq (qR ZL.r7 [4]) .ret)] [(0,.d (slD 1 Q5 l)),(1,.d (.str v)),(7,.d (.int .i64 l.length)),(8,.d (.int .i64 i))] [] st:=by
  intro n
  induction n using Nat.strongRecOn with
  | ind n ih_key =>
  intro i hn hi hno
  refine Za (Zb (Zc ?_))
  simp only [Eqs,reduceCtorEq,reduceIte,Zuq,ZL.r2,slD]
  refine Za (Ze rfl trivial (fun h1=>?_) (fun h1=>?_))
  ·simp at h1
   refine Zg (Za (Zj (Za (Zb (Zc ?_)))))
   simp only [Eqs,reduceCtorEq,reduceIte,Zuq,ZL.r3]
   refine Za (Zb (Zc ?_))
   simp only [Eqs,reduceCtorEq,reduceIte,Zuq,ZL.r4,Q5]
   repeat (refine Zut (by first | omega | trivial | (intro h0; simp at h0; omega)) ?_)
   refine Ze rfl trivial (fun h2=>?_) (fun h2=>?_)
   ·have e1:=JR (p:=fun x=>decide (v=x)) h1 h2 hno
    refine Za (Zb (Zc ?_))
    simp only [Eqs,reduceCtorEq,reduceIte,Zuq,ZL.r5]
    refine hret rfl (by first | trivial | simp) (YG ?_) (by first | exact Zuw _ | exact Zl (by first | trivial | assumption) | assumption | exact Zuy _ (by assumption))
    exact e1.symm
   ·refine Zg (Zm (Zb (Zc ?_)))
    simp only [Eqs,reduceCtorEq,reduceIte,Zuq,ZL.r6]
    repeat (refine Zut (by first | omega | trivial | (intro h0; simp at h0; omega)) ?_)
    refine Zy ?_
    exact ih_key ((l.length) - (i + 1)) (by omega) (i + 1) rfl (by omega) (K4 (q:=fun j=>decide (v=l.getD j default)=false) hno h2)
  ·simp at h1
   obtain rfl:i=l.length:=by omega
   have hall:∀ x∈l,(fun x=>decide (v=x)) x=false:=fun x hx=>by
    obtain ⟨j,hj,rfl⟩:=ZuJ hx
    have:=hno j hj
    simpa [List.getD,hj] using this
   refine ZQ rfl (Za (Zb (Zc ?_)))
   simp only [Eqs,reduceCtorEq,reduceIte,Zuq,ZL.r7]
   refine hret rfl (by first | trivial | simp) (YG ?_) (by first | exact Zuw _ | exact Zl (by first | trivial | assumption) | assumption | exact Zuy _ (by assumption))
   exact (Ji hall).symm
 exact key _ 0 rfl (by omega) (by intro j hj; omega)
theorem Zeg (l:List Str) (v:Str):ZR Zuv YM.id [slD 1 Q5 l,.str v] (.bool (decide (v∈l))):=by
 refine Z0 YM.ok fun F st hret=>?_
 refine Za (Zb (Zc ?_))
 simp only [Eqs,reduceCtorEq,reduceIte,Zuq,Zur,YM.r0]
 refine Za (Zb (Zc ?_))
 simp only [Eqs,reduceCtorEq,reduceIte,Zuq,YM.r1]
 refine ZW rfl rfl rfl rfl rfl (by trivial) (by trivial) (by exact Zfl l v) (Zc ?_)
 simp only [Eqs,reduceCtorEq,reduceIte,Zuq]
 refine hret rfl (by first | trivial | simp) (Yk ?_) (by first | exact Zuw _ | exact Zl (by first | trivial | assumption) | assumption | exact Zuy _ (by assumption))
 rw [← Za9,Zjo]; try congr
theorem Zc7 (l r:List Z5):ZR Zuv ZJ.id [slD 2 ZuR l,slD 2 ZuR r] (.bool (decide (l=r))):=by
 refine WD ZJ.ok fun hwf F st hret=>?_
 have hw:=(QD (hwf (slD 2 ZuR l) (by simp))).1
 unfold big at hw
 clear hwf
 refine Za (Zb (Zc ?_))
 simp only [Eqs,reduceCtorEq,reduceIte,Zuq,Zur,ZJ.r0,slD]
 refine Za (Za (Zb (Zc ?_)))
 simp only [Eqs,reduceCtorEq,reduceIte,Zuq,ZJ.r1]
 refine Ze rfl trivial (fun h1=>?_) (fun h1=>?_)
 ·refine Za (Zb (Zc ?_))
  simp only [Eqs,reduceCtorEq,reduceIte,Zuq,ZJ.r2]
  refine hret rfl (by first | trivial | simp) (Yk ?_) (by first | exact Zuw _ | exact Zl (by first | trivial | assumption) | assumption | exact Zuy _ (by assumption))
  exact (decide_eq_false (fun e=>by rw [e] at h1; simp at h1)).symm
 ·have hlen:l.length=r.length:=by simp at h1; omega
  refine Zg (Za (Za (Zb (Zc ?_))))
  simp only [Eqs,reduceCtorEq,reduceIte,Zuq,ZJ.r3]
  refine Zj (ZX ?_)
  have key:∀ (n i:Nat),(l.length) - i=n→i≤l.length→(∀ j,j < i→l.getD j default=r.getD j default)→ZT F [.code (ZJ.l0),.inLoop ZJ.l0,.inBlock 0,.code (.seq (qR ZJ.r9 [4]) .ret)] [(0,.d (slD 2 ZuR l)),(1,.d (slD 2 ZuR r)),(12,.d (.int .i64 l.length)),(13,.d (.int .i64 i))] [] st:=by
   intro n
   induction n using Nat.strongRecOn with
   | ind n ih_key =>
   intro i hn hi hno
   refine Za (Zb (Zc ?_))
   simp only [Eqs,reduceCtorEq,reduceIte,Zuq,ZJ.r4,slD]
   refine Za (Ze rfl trivial (fun h2=>?_) (fun h2=>?_))
   ·simp at h2
    refine Zg (Za (Zj (Za (Zb (Zc ?_)))))
    simp only [Eqs,reduceCtorEq,reduceIte,Zuq,ZJ.r5]
    refine Za (WB (Wj ?_))
    simp only [Eqs,reduceCtorEq,reduceIte,Zuq,Zur,Zus,ZJ.r6,ZuR]
    repeat (refine Zut (by first | omega | trivial | (intro h0; simp at h0; omega)) ?_)
    refine Ze rfl trivial (fun h3=>?_) (fun h3=>?_)
    ·have hne:l.getD i default≠r.getD i default:=fun e=>by rw [e] at h3; simp at h3
     refine Za (Zb (Zc ?_))
     simp only [Eqs,reduceCtorEq,reduceIte,Zuq,ZJ.r7]
     refine hret rfl (by first | trivial | simp) (Yk ?_) (by first | exact Zuw _ | exact Zl (by first | trivial | assumption) | assumption | exact Zuy _ (by assumption))
     exact (decide_eq_false (fun e=>hne (by rw [e]))).symm
    ·have heq:l.getD i default=r.getD i default:=by
      generalize l.getD i default=a at h3 ⊢; generalize r.getD i default=b at h3 ⊢; cases a; cases b; simpa [and_assoc] using h3
     refine Zg (Zm (Zb (Zc ?_)))
     simp only [Eqs,reduceCtorEq,reduceIte,Zuq,ZJ.r8]
     repeat (refine Zut (by first | omega | trivial | (intro h0; simp at h0; omega)) ?_)
     refine Zy ?_
     exact ih_key ((l.length) - (i + 1)) (by omega) (i + 1) rfl (by omega) (K4 (q:=fun j=>l.getD j default=r.getD j default) hno heq)
   ·simp at h2
    obtain rfl:i=l.length:=by omega
    refine ZQ rfl (Za (Zb (Zc ?_)))
    simp only [Eqs,reduceCtorEq,reduceIte,Zuq,ZJ.r9]
    refine hret rfl (by first | trivial | simp) (Yk ?_) (by first | exact Zuw _ | exact Zl (by first | trivial | assumption) | assumption | exact Zuy _ (by assumption))
    exact (decide_eq_true (Zgu hlen hno)).symm
  exact key _ 0 rfl (by omega) (by intro j hj; omega)
theorem Zgi (l r:List WK):ZR Zuv ZI.id [slD 3 WK.cells l,slD 3 WK.cells r] (.bool (decide (l=r))):=by
 refine WD ZI.ok fun hwf F st hret=>?_
 have hw:=(QD (hwf (slD 3 WK.cells l) (by simp))).1
 unfold big at hw
 clear hwf
 refine Za (Zb (Zc ?_))
 simp only [Eqs,reduceCtorEq,reduceIte,Zuq,Zur,ZI.r0,slD]
 refine Za (Za (Zb (Zc ?_)))
 simp only [Eqs,reduceCtorEq,reduceIte,Zuq,ZI.r1]
 refine Ze rfl trivial (fun h1=>?_) (fun h1=>?_)
 ·refine Za (Zb (Zc ?_))
  simp only [Eqs,reduceCtorEq,reduceIte,Zuq,ZI.r2]
  refine hret rfl (by first | trivial | simp) (Yk ?_) (by first | exact Zuw _ | exact Zl (by first | trivial | assumption) | assumption | exact Zuy _ (by assumption))
  exact (decide_eq_false (fun e=>by rw [e] at h1; simp at h1)).symm
 ·have hlen:l.length=r.length:=by simp at h1; omega
  refine Zg (Za (Za (Zb (Zc ?_))))
  simp only [Eqs,reduceCtorEq,reduceIte,Zuq,ZI.r3]
  refine Zj (ZX ?_)
  have key:∀ (n i:Nat),(l.length) - i=n→i≤l.length→(∀ j,j < i→l.getD j default=r.getD j default)→ZT F [.code (ZI.l0),.inLoop ZI.l0,.inBlock 0,.code (.seq (qR ZI.r9 [4]) .ret)] [(0,.d (slD 3 WK.cells l)),(1,.d (slD 3 WK.cells r)),(12,.d (.int .i64 l.length)),(13,.d (.int .i64 i))] [] st:=by
   intro n
   induction n using Nat.strongRecOn with
   | ind n ih_key =>
   intro i hn hi hno
   refine Za (Zb (Zc ?_))
   simp only [Eqs,reduceCtorEq,reduceIte,Zuq,ZI.r4,slD]
   refine Za (Ze rfl trivial (fun h2=>?_) (fun h2=>?_))
   ·simp at h2
    refine Zg (Za (Zj (Za (Zb (Zc ?_)))))
    simp only [Eqs,reduceCtorEq,reduceIte,Zuq,ZI.r5]
    refine Za (WB (Wj ?_))
    simp only [Eqs,reduceCtorEq,reduceIte,Zuq,Zur,Zus,ZI.r6,WK.cells]
    repeat (refine Zut (by first | omega | trivial | (intro h0; simp at h0; omega)) ?_)
    refine Ze rfl trivial (fun h3=>?_) (fun h3=>?_)
    ·have hne:l.getD i default≠r.getD i default:=fun e=>by rw [e] at h3; simp at h3
     refine Za (Zb (Zc ?_))
     simp only [Eqs,reduceCtorEq,reduceIte,Zuq,ZI.r7]
     refine hret rfl (by first | trivial | simp) (Yk ?_) (by first | exact Zuw _ | exact Zl (by first | trivial | assumption) | assumption | exact Zuy _ (by assumption))
     exact (decide_eq_false (fun e=>hne (by rw [e]))).symm
    ·have heq:l.getD i default=r.getD i default:=by
      generalize l.getD i default=a at h3 ⊢; generalize r.getD i default=b at h3 ⊢; cases a; cases b; simpa [and_assoc] using h3
     refine Zg (Zm (Zb (Zc ?_)))
     simp only [Eqs,reduceCtorEq,reduceIte,Zuq,ZI.r8]
     repeat (refine Zut (by first | omega | trivial | (intro h0; simp at h0; omega)) ?_)
     refine Zy ?_
     exact ih_key ((l.length) - (i + 1)) (by omega) (i + 1) rfl (by omega) (K4 (q:=fun j=>l.getD j default=r.getD j default) hno heq)
   ·simp at h2
    obtain rfl:i=l.length:=by omega
    refine ZQ rfl (Za (Zb (Zc ?_)))
    simp only [Eqs,reduceCtorEq,reduceIte,Zuq,ZI.r9]
    refine hret rfl (by first | trivial | simp) (Yk ?_) (by first | exact Zuw _ | exact Zl (by first | trivial | assumption) | assumption | exact Zuy _ (by assumption))
    exact (decide_eq_true (Zgu hlen hno)).symm
  exact key _ 0 rfl (by omega) (by intro j hj; omega)
end Go.DL
namespace Go.DL
open Go Go.Proofs
theorem ZfJ (c:UInt8):ZR Zuv K9.id [.int .u8 c.toNat] (.bool (ZdT c)):=by
 refine Z0 K9.ok fun F st hret=>?_
 refine Za (Zb (Zc ?_))
 simp only [Eqs,reduceCtorEq,reduceIte,K9.r0]
 refine Za (Zb (Zc ?_))
 simp only [Eqs,reduceCtorEq,reduceIte,Zuq,K9.r1]
 refine hret rfl (by first | trivial | simp) (Yk ?_) (by first | exact Zuw _ | exact Zl (by first | trivial | assumption) | assumption | exact Zuy _ (by assumption))
 rfl
theorem ZlK (c:UInt8):ZR Zuv Qr.id [.int .u8 c.toNat] (.bool (ZhM c)):=by
 refine Z0 Qr.ok fun F st hret=>?_
 refine Za (Zb (Zc ?_))
 simp only [Eqs,reduceCtorEq,reduceIte,Qr.r0]
 refine Za (Zb (Zc ?_))
 simp only [Eqs,reduceCtorEq,reduceIte,Zuq,Qr.r1]
 refine hret rfl (by first | trivial | simp) (Yk ?_) (by first | exact Zuw _ | exact Zl (by first | trivial | assumption) | assumption | exact Zuy _ (by assumption))
 rfl
theorem Zbi (v:Int):ZR Zuv Qt.id [.int .i64 v] (.bool (Q4 v)):=by
 refine Z0 Qt.ok fun F st hret=>?_
 refine Za (Zb (Zc ?_))
 simp only [Eqs,reduceCtorEq,reduceIte,Qt.r0]
 refine Za (Zb (Zc ?_))
 simp only [Eqs,reduceCtorEq,reduceIte,Zuq,Qt.r1]
 refine hret rfl (by first | trivial | simp) (Yk ?_) (by first | exact Zuw _ | exact Zl (by first | trivial | assumption) | assumption | exact Zuy _ (by assumption))
 simp only [Q4]
theorem ZiI (l:List Bool):ZR Zuv QK.id [slD 1 boC l] (.bool (!decide (false∈l))):=by
 refine Z0 QK.ok fun F st hret=>?_
 refine Za (Zb (Zc ?_))
 simp only [Eqs,reduceCtorEq,reduceIte,QK.r0]
 refine Za (Zb (Zc ?_))
 simp only [Eqs,reduceIte,QK.r1]
 refine ZW rfl rfl rfl rfl rfl (by trivial) (by trivial) (by exact ZeT l false) (Zc ?_)
 simp only [Eqs,reduceCtorEq,reduceIte,Zuq]
 refine hret rfl (by first | trivial | simp) (Yk ?_) (by first | exact Zuw _ | exact Zl (by first | trivial | assumption) | assumption | exact Zuy _ (by assumption))
 rfl
theorem ZdX (a b:Bool):ZR Zuv QK.id [.sl .full 2 1 (Wy [.bool false] ([0,1].zip [.bool a,.bool b]))] (.bool (a && b)):=by
 have h:YE boC (Wy [.bool false] ([0,1].zip [.bool a,.bool b])) [a,b]:=fun i hi=>by
  match i,hi with
  | 0,_=>rfl
  | 1,_=>rfl
 refine ((ZiI [a,b]).leA (LeC.one (h.le rfl))).le ?_
 cases a <;> cases b <;> rfl
theorem Zlp (a b c:Bool):ZR Zuv QK.id [.sl .full 3 1 (Wy [.bool false] ([0,1,2].zip [.bool a,.bool b,.bool c]))] (.bool (a && (b && c))):=by
 have h:YE boC (Wy [.bool false] ([0,1,2].zip [.bool a,.bool b,.bool c])) [a,b,c]:=fun i hi=>by
  match i,hi with
  | 0,_=>rfl
  | 1,_=>rfl
  | 2,_=>rfl
 refine ((ZiI [a,b,c]).leA (LeC.one (h.le rfl))).le ?_
 cases a <;> cases b <;> cases c <;> rfl
theorem ZkL (c:UInt8):ZR Zuv KY.id [.int .u8 c.toNat] (.bool (!ZaL c)):=by
 refine Z0 KY.ok fun F st hret=>?_
 refine Za (Zb (Zc ?_))
 simp only [Eqs,reduceCtorEq,reduceIte,KY.r0]
 refine Za (Zb (Zc ?_))
 simp only [Eqs,reduceIte,KY.r1]
 refine ZW rfl rfl rfl rfl rfl (by trivial) (by trivial) (by exact ZfJ c) (Zc ?_)
 simp only [Eqs,reduceCtorEq,reduceIte,Zuq]
 refine KA rfl rfl rfl rfl rfl (fun hcg=>⟨by first | trivial | (simpa [Qu] using hcg),trivial,ZlK c⟩) (Zc ?_)
 simp only [Eqs,reduceCtorEq,reduceIte,Zuq]
 refine hret rfl (by first | trivial | simp) (Yk ?_) (by first | exact Zuw _ | exact Zl (by first | trivial | assumption) | assumption | exact Zuy _ (by assumption))
 unfold ZaL; cases ZdT c <;> cases ZhM c <;> rfl
theorem ZoN (s:Str):ZR Zuv Yw.id [slD 1 byC s,.fn (.func KY.id) [] []] (.bool (s.any fun c=>!ZaL c)) :=
 fun st=>Zd0 s _ _ (fun _=>st) fun i _=>(ZkL _).VT (first:=[]) (caps:=[]) st
theorem Zpw (s:Str):K0 s=(((decide (1≤(s.length:Int)) && decide ((s.length:Int)≤32)) && ZdT (s.getD 0 0)) && !(s.any fun c=>!ZaL c)):=by
 cases s with
 | nil=>rfl
 | cons c r =>
  have h:∀ l:Str,l.all ZaL = !(l.any fun c=>!ZaL c):=fun l=>by
   induction l with
   | nil=>rfl
   | cons x r ih=>simp only [List.all_cons,List.any_cons,ih]; cases ZaL x <;> simp
  simp only [K0,h,List.getD_cons_zero,ZuI]
  congr 2
  have h1:decide (1≤((r.length + 1:Nat):Int))=true:=decide_eq_true (by omega)
  rw [h1,ZuP]
  exact decide_eq_decide.2 (by omega)
theorem Zc5 (s:Str):ZR Zuv Qj.id [.str s] (.bool (K0 s)):=by
 refine WD Qj.ok fun hwf F st hret=>?_
 have hs:=(hwf (.str s) (by simp)).str_inv
 unfold big at hs
 refine Za (Zb (Zc ?_))
 simp only [Eqs,reduceCtorEq,reduceIte,Qj.r0]
 refine Za (Zb (Zc ?_))
 simp only [Eqs,reduceCtorEq,reduceIte,Qj.r1]
 refine Za (Zb (Zc ?_))
 simp only [Eqs,reduceCtorEq,reduceIte,Zuq,Qj.r2]
 refine ZW rfl rfl rfl rfl rfl (by trivial) (by trivial) (by exact ZdX _ _) (Zc ?_)
 simp only [Eqs,reduceCtorEq,reduceIte,Zuq]
 repeat (refine Zut (by first | omega | trivial | (intro h0; simp at h0; omega)) ?_)
 refine KA rfl rfl rfl rfl rfl (fun hcg=>⟨by first | trivial | (simpa [Qu] using hcg),trivial,ZfJ _⟩) (Zc ?_)
 simp only [Eqs,reduceCtorEq,reduceIte,Zuq]
 refine KA rfl rfl rfl rfl rfl (fun hcg=>⟨by first | trivial | (simpa [Qu] using hcg),trivial,ZoN s⟩) (Zc ?_)
 simp only [Eqs,reduceCtorEq,reduceIte,Zuq]
 rw [Zpw] at hret
 refine hret rfl (by first | trivial | simp) (Yk ?_) (by first | exact Zuw _ | exact Zl (by first | trivial | assumption) | assumption | exact Zuy _ (by assumption))
 trivial
end Go.DL
namespace Go.DL
open Go
section
variable {K V:Type} [DecidableEq K]
def Z8 (k:K):List (K × V)→Option V
 | []=>none
 | e :: r=>if k=e.1 then some e.2 else Z8 k r
def K3 (k:K) (v:V):List (K × V)→List (K × V)
 | []=>[(k,v)]
 | e :: r=>if k=e.1 then (k,v) :: r else e :: K3 k v r
def Jv (kD:K→D) (vD:V→D) (l:List (K × V)):List (D × D):=l.map fun e=>(kD e.1,vD e.2)
def ZfQ (kp:KP) (kD:K→D):Prop:=∀ a b,JM kp (kD a) (kD b)=some (decide (a=b))
theorem Qo {kp:KP} {kD:K→D} {vD:V→D} (h:ZfQ kp kD) (k:K) (l:List (K × V)):ZcQ kp (kD k) (Jv kD vD l)=some ((Z8 k l).map vD):=by
 induction l with
 | nil=>rfl
 | cons e r ih =>
  simp only [Jv,List.map_cons,ZcQ,h k e.1,Z8]
  by_cases hk:k=e.1
  ·simp [hk]
  ·simp only [hk,decide_false,if_false]; exact ih
theorem ZcB {kp:KP} {kD:K→D} {vD:V→D} (h:ZfQ kp kD) (k:K) (v:V) (l:List (K × V)):Zbp kp (kD k) (vD v) (Jv kD vD l)=some (Jv kD vD (K3 k v l)):=by
 induction l with
 | nil=>rfl
 | cons e r ih =>
  simp only [Jv,List.map_cons,Zbp,h k e.1,K3]
  by_cases hk:k=e.1
  ·simp [hk]
  ·simp only [hk,decide_false,if_false,List.map_cons]
   rw [show Zbp kp (kD k) (vD v) (r.map fun e=>(kD e.1,vD e.2))=_ from ih]; rfl
theorem Ja {kp:KP} {kD:K→D} (h:ZfQ kp kD) (k:K):ZaI kp (kD k)=true:=by simp [ZaI,h k k]
theorem Zbb (k j:K) (v:V) (l:List (K × V)):Z8 j (K3 k v l)=if j=k then some v else Z8 j l:=by
 induction l with
 | nil=>simp [K3,Z8]
 | cons e r ih =>
  simp only [K3]
  by_cases hk:k=e.1
  ·subst hk; simp only [if_true,Z8]; split <;> rfl
  ·simp only [hk,if_false,Z8,ih]
   by_cases hj:j=e.1
   ·subst hj; simp [Ne.symm hk]
   ·simp [hj]
theorem Zry {k:K} {v:V} {l:List (K × V)} {e:K × V} (h:e∈K3 k v l):e=(k,v)∨e∈l:=by
 induction l with
 | nil=>simp [K3] at h; exact .inl h
 | cons x r ih =>
  simp only [K3] at h
  split at h
  ·rcases List.mem_cons.1 h with h | h
   ·exact .inl h
   ·exact .inr (by simp [h])
  ·rcases List.mem_cons.1 h with h | h
   ·exact .inr (by simp [h])
   ·rcases ih h with h | h
    ·exact .inl h
    ·exact .inr (by simp [h])
theorem Zsy {k:K} {v:V} {l:List (K × V)} (h:(l.map (·.1)).Nodup):((K3 k v l).map (·.1)).Nodup:=by
 induction l with
 | nil=>simp [K3]
 | cons x r ih =>
  simp only [List.map_cons,List.nodup_cons] at h
  simp only [K3]
  split
  ·rename_i hk; subst hk; simpa using h
  ·rename_i hk
   simp only [List.map_cons,List.nodup_cons]
   refine ⟨fun hm=>?_,ih h.2⟩
   obtain ⟨e,he,he2⟩:=List.mem_map.1 hm
   rcases Zry he with rfl | he
   ·exact hk he2
   ·exact h.1 (List.mem_map.2 ⟨e,he,he2⟩)
theorem Zlb {k:K} {l:List (K × V)}:Z8 k l=none↔k ∉ l.map (·.1):=by
 induction l with
 | nil=>simp [Z8]
 | cons x r ih =>
  simp only [Z8,List.map_cons,List.mem_cons]
  by_cases h:k=x.1
  ·simp [h]
  ·simp [h,ih]
theorem Znj {k:K} {v:V} {l:List (K × V)} (hn:(l.map (·.1)).Nodup) (h:(k,v)∈l):Z8 k l=some v:=by
 induction l with
 | nil=>simp at h
 | cons x r ih =>
  simp only [List.map_cons,List.nodup_cons] at hn
  rcases List.mem_cons.1 h with rfl | h
  ·simp [Z8]
  ·have hne:k≠x.1:=fun e=>hn.1 (List.mem_map.2 ⟨_,h,e⟩)
   simp [Z8,hne,ih hn.2 h]
end
def JU (s:Str):D:=.str s
theorem WP:ZfQ (.sc .str) JU:=fun a b=>rfl
def JS (n:Int):D:=.int .i64 n
theorem ZmA:ZfQ (.sc .int) JS:=fun a b=>by simp [JM,JS,KV]
def prK (x:Int × Int):D:=.agg [.int .i64 x.1,.int .i64 x.2]
end Go.DL
namespace Go.DL
open Go Go.Proofs
def vst (st:St) (b x:Nat) (es:List (D × D)):St:=(st.upd b (.map es)).upd x (.cells [.map b])
theorem Zq6 {st:St} {b x:Nat} {es:List (D × D)}:(vst st b x es) x=some (.cells [.map b]):=ZuB _ _ _
theorem Zq5 {st:St} {b x:Nat} {es:List (D × D)} (h:b≠x):(vst st b x es) b=some (.map es):=by
 unfold vst; rw [ZuE _ _ h]; exact ZuB _ _ _
theorem ZrQ {st:St} {b x:Nat} {es es':List (D × D)} (h:b≠x):(vst st b x es).upd b (.map es')=vst st b x es':=by
 unfold vst; rw [St.upd_comm _ _ _ h,ZuQ]
abbrev Zeb (l:List (Str × Bool)):List (D × D):=Jv JU D.bool l
theorem Zf9 (o:Option Bool):JD (.bool false) false (o.map D.bool) = .bool (o.getD false):=by cases o <;> rfl
theorem Zkm (t:Z5) (st:St) (b x:Nat) (h:b≠x) (l:List (Str × Bool)) :
  Y3 Zuv WC.id [.agg t.cells,.ptr x 0] (vst st b x (Zeb l)) (.bool ((Z8 t.field l).getD false || !Jq t)) (vst st b x (Zeb (K3 t.field true l))):=by
 refine Y4 WC.ok fun hwf F hret=>?_
 have e1:=Qo (vD:=D.bool) WP t.field l
 have e2:=ZcB (vD:=D.bool) WP t.field true l
 have e3:=Ja WP t.field
 simp only [show JU t.field=D.str t.field from rfl] at e1 e2 e3
 refine Za (Zb (Zc ?_))
 simp only [Eqs,reduceCtorEq,reduceIte,Zuq,Zur,WC.r0,ZuR]
 refine Za (Zb (Zc ?_))
 simp only [Eqs,reduceIte,Zuq,WC.r1,Zq6,Zq5 h,e1,Zf9]
 generalize (Z8 t.field l).getD false=tw at *
 refine Za (Zb (Zc ?_))
 simp only [Eqs,reduceIte,Zuq,WC.r2,Zq6,Zq5 h,e2,ZrQ h]
 cases tw with
 | false =>
  refine Za (Wq (ZM ?_))
  simp only [Eqs,reduceIte,Zuq,WC.r3]
  refine Kd rfl rfl rfl rfl rfl (by trivial) (by trivial) (by exact Zc5 t.field) (ZM ?_)
  simp only [Eqs,reduceIte,Zuq]
  refine Kd rfl rfl rfl rfl rfl (by trivial) (by trivial) (by exact Zbi t.factor) (ZM ?_)
  simp only [Eqs,reduceIte,Zuq]
  refine Kd rfl rfl rfl rfl rfl (by trivial) (by trivial) (by exact Zlp _ _ _) (ZM ?_)
  simp only [Eqs,reduceIte,Zuq]
  refine hret rfl (by trivial) (Yk ?_) (Zuw _)
  unfold Jq
  cases K0 t.field <;> cases decide (t.factor=0) <;> cases Q4 t.factor <;> rfl
 | true =>
  refine Za (Wq (ZM ?_))
  simp only [Eqs,reduceIte,Zuq,WC.r3]
  refine ZfP rfl rfl (e:=.d (.bool false)) (ZM ?_)
  simp only [Eqs,reduceIte,Zuq]
  refine ZfP rfl rfl (e:=.d (.bool false)) (ZM ?_)
  simp only [Eqs,reduceIte,Zuq]
  refine ZfP rfl rfl (e:=.d (.bool false)) (ZM ?_)
  simp only [Eqs,reduceIte,Zuq]
  exact hret rfl (by trivial) (Yk (by simp)) (Zuw _)
theorem Zef {n i:Nat} (h:i < n):(List.range n).getD i default=i:=by simp [List.getD,h]
theorem ZeN (l:List Z5) (f:D) (p:Nat→Bool) (sts:Nat→St)
  (hf:∀ i,i < l.length→VT Zuv f [.agg (l.getD i default).cells] (sts i) (.bool (p i)) (sts (i + 1))) :
  Y3 Zuv Zt.id [slD 2 ZuR l,f] (sts 0) (.int .i64 (Z7 p (List.range l.length))) (sts (JN p (List.range l.length))):=by
 refine Y4 Zt.ok fun hwf F hret=>?_
 have hw:=(QD (hwf (slD 2 ZuR l) (by simp))).1
 unfold big at hw
 clear hwf
 refine Za (Zb (Zc ?_))
 simp only [Eqs,reduceCtorEq,reduceIte,Zuq,Zur,Zt.r0,slD]
 refine Za (Za (Zb (Zc ?_)))
 simp only [Eqs,reduceCtorEq,reduceIte,Zuq,Zt.r1]
 refine Zj (ZX ?_)
 have key:∀ (n i:Nat),(l.length) - i=n→i≤l.length→(∀ j,j < i→p j=false)→ZT F [.code (Zt.l0),.inLoop Zt.l0,.inBlock 0,.code (.seq (qR Zt.r7 [4]) .ret)] [(0,.d (slD 2 ZuR l)),(1,.d f),(7,.d (.int .i64 l.length)),(8,.d (.int .i64 i))] [] (sts i):=by
  intro n
  induction n using Nat.strongRecOn with
  | ind n ih_key =>
  intro i hn hi hno
  refine Za (Zb (Zc ?_))
  simp only [Eqs,reduceCtorEq,reduceIte,Zuq,Zt.r2,slD]
  refine Za (Ze rfl trivial (fun h1=>?_) (fun h1=>?_))
  ·simp at h1
   refine Zg (Za (Zj (Za (Zb (Zc ?_)))))
   simp only [Eqs,reduceCtorEq,reduceIte,Zuq,Zt.r3]
   refine Za (Zb (Zc ?_))
   simp only [Eqs,reduceCtorEq,reduceIte,Zuq,Zur,Zus,Zt.r4,ZuR]
   repeat (refine Zut (by first | omega | trivial | (intro h0; simp at h0; omega)) ?_)
   refine ZbP rfl rfl rfl rfl rfl (by trivial) (by trivial) (by exact hf i h1) (Zc ?_)
   simp only [Eqs,reduceCtorEq,reduceIte,Zuq]
   refine Ze rfl trivial (fun h2=>?_) (fun h2=>?_)
   ·have e1:=JR (p:=p) (l:=List.range l.length) (i:=i) (by simpa using h1) (by rw [Zef h1]; exact h2) (fun j hj=>by rw [Zef (by omega)]; exact hno j hj)
    have e2:=Zcq (p:=p) (l:=List.range l.length) (i:=i) (by simpa using h1) (by rw [Zef h1]; exact h2) (fun j hj=>by rw [Zef (by omega)]; exact hno j hj)
    rw [e1,e2] at hret
    refine Za (Zb (Zc ?_))
    simp only [Eqs,reduceCtorEq,reduceIte,Zuq,Zt.r5]
    exact hret rfl (by trivial) (Zux _) (Zuw _)
   ·refine Zg (Zm (Zb (Zc ?_)))
    simp only [Eqs,reduceCtorEq,reduceIte,Zuq,Zt.r6]
    repeat (refine Zut (by first | omega | trivial | (intro h0; simp at h0; omega)) ?_)
    refine Zy ?_
    exact ih_key ((l.length) - (i + 1)) (by omega) (i + 1) rfl (by omega) (K4 (q:=fun j=>p j=false) hno h2)
  ·simp at h1
   obtain rfl:i=l.length:=by omega
   have hall:∀ x∈List.range l.length,p x=false:=fun x hx=>hno x (by simpa using hx)
   rw [Ji hall,Zbf hall,List.length_range] at hret
   refine ZQ rfl (Za (Zb (Zc ?_)))
   simp only [Eqs,reduceCtorEq,reduceIte,Zuq,Zt.r7]
   exact hret rfl (by trivial) (Zux _) (Zuw _)
 exact key _ 0 rfl (by omega) (by intro j hj; omega)
theorem ZdY (l:List Z5) (f:D) (p:Nat→Bool) (sts:Nat→St)
  (hf:∀ i,i < l.length→VT Zuv f [.agg (l.getD i default).cells] (sts i) (.bool (p i)) (sts (i + 1))) :
  Y3 Zuv Yd.id [slD 2 ZuR l,f] (sts 0) (.bool ((List.range l.length).any p)) (sts (JN p (List.range l.length))):=by
 refine Y4 Yd.ok fun hwf F hret=>?_
 clear hwf
 refine Za (Zb (Zc ?_))
 simp only [Eqs,reduceCtorEq,reduceIte,Zuq,Zur,Yd.r0]
 refine Za (Zb (Zc ?_))
 simp only [Eqs,reduceCtorEq,reduceIte,Zuq,Yd.r1]
 refine Wn rfl rfl rfl rfl rfl (by trivial) (by trivial) (by exact ZeN l f p sts hf) (Zc ?_)
 simp only [Eqs,reduceCtorEq,reduceIte,Zuq]
 rw [Za9] at hret
 exact hret rfl (by trivial) (Zux _) (Zuw _)
def Zh0 (l:List Z5):Nat→List (Str × Bool)
 | 0=>[]
 | i + 1=>K3 (l.getD i default).field true (Zh0 l i)
theorem ZpT (l:List Z5) (s:Str) (i:Nat) (hi:i≤l.length):(Z8 s (Zh0 l i)).getD false=decide (s∈(l.take i).map (·.field)):=by
 induction i with
 | zero=>simp [Zh0,Z8]
 | succ i ih =>
  have h:=ih (by omega)
  rw [Zh0,Zbb,Wz (by omega),List.map_append]
  by_cases hs:s=(l.getD i default).field
  ·rw [if_pos hs]; simp [hs]
  ·rw [if_neg hs,h]; simp only [List.mem_append,List.map_cons,List.map_nil,List.mem_singleton,hs,or_false]
theorem Zdu (l r:List Z5) (k:Nat) (hr:r=l.drop k) (hk:k≤l.length):QR ((l.take k).map (·.field)) r = !((List.range r.length).any fun i=>(decide ((l.getD (k + i) default).field∈(l.take (k + i)).map (·.field)) || !Jq (l.getD (k + i) default))):=by
 induction r generalizing k with
 | nil=>rfl
 | cons t q ih =>
  have hlt:k < l.length:=by
   have:=congrArg List.length hr; simp at this; omega
  rw [Qf hlt] at hr
  injection hr with h1 h2
  have h3:=ih (k + 1) h2 (by omega)
  rw [QR,ZuI,List.range_succ_eq_map,List.any_cons,List.any_map]
  rw [show (l.take k).map (·.field)++[t.field]=(l.take (k + 1)).map (·.field) by rw [Wz hlt,List.map_append,← h1]; rfl,h3]
  simp only [Nat.add_zero,← h1,Function.comp_def,Nat.succ_eq_add_one]
  rw [show (fun i=>decide ((l.getD (k + (i + 1)) default).field∈(l.take (k + (i + 1))).map (·.field)) || !Jq (l.getD (k + (i + 1)) default))=fun i=>decide ((l.getD (k + 1 + i) default).field∈(l.take (k + 1 + i)).map (·.field)) || !Jq (l.getD (k + 1 + i) default) from funext fun i=>by rw [show k + (i + 1)=k + 1 + i by omega]]
  cases Jq t <;> cases decide (t.field∈(l.take k).map (·.field)) <;> simp
theorem JZ (s:Wu):ZR Zuv Kf.id [.agg s.cells] (.bool (YN s)):=by
 refine WD Kf.ok fun hwf F st hret=>?_
 refine Za (Zb (Zc ?_))
 simp only [Eqs,reduceCtorEq,reduceIte,Zuq,Kf.r0,Wu.cells,Yj,slD]
 refine Za (Zb (Zc ?_))
 simp only [Eqs,reduceIte,Zuq,Zus,Kf.r1]
 intro b hb
 refine Za ?_
 refine YJ 3 rfl fun x hx=>?_
 simp only [reduceIte,Zuq,YU,WM,delL]
 refine Zb (Zc ?_)
 simp only [Eqs,reduceIte,Zuq,Kf.r2]
 have hbx:b≠x:=fun e=>by rw [e,ZuB] at hx; simp at hx
 have hxn:∀ o,(st.upd b o) x=none:=fun o=>by rw [ZuE _ _ (Ne.symm hbx)] at hx ⊢; exact hx
 have hvs:(st.upd b (.map [])).upd x (.cells [.map b])=vst st b x (Zeb []):=rfl
 rw [hvs]
 cases hc:(Q4 s.base && decide ((s.terms.length:Int)≤4)) with
 | false =>
  refine Za (Wq (ZM ?_))
  simp only [Eqs,reduceIte,Zuq,Kf.r3]
  refine Kd rfl rfl rfl rfl rfl (by trivial) (by trivial) (by exact Zbi s.base) (ZM ?_)
  simp only [Eqs,reduceIte,Zuq]
  refine Kd rfl rfl rfl rfl rfl (by trivial) (by trivial) (by exact ZdX _ _) (ZM ?_)
  simp only [Eqs,reduceIte,Zuq,hc]
  refine ZfP rfl rfl (e:=.d (.bool false)) (ZM ?_)
  simp only [Eqs,reduceIte,Zuq]
  refine hret rfl (by trivial) (Yk ?_) (ZuK (Zuy _ hb) (Zuy _ (hxn _)))
  unfold YN
  rw [show decide (s.terms.length≤4)=decide ((s.terms.length:Int)≤4) from decide_eq_decide.2 (by omega),hc]; rfl
 | true =>
  refine Za (Wq (ZM ?_))
  simp only [Eqs,reduceIte,Zuq,Kf.r3]
  refine Kd rfl rfl rfl rfl rfl (by trivial) (by trivial) (by exact Zbi s.base) (ZM ?_)
  simp only [Eqs,reduceIte,Zuq]
  refine Kd rfl rfl rfl rfl rfl (by trivial) (by trivial) (by exact ZdX _ _) (ZM ?_)
  simp only [Eqs,reduceIte,Zuq,hc]
  refine Zcr rfl rfl rfl rfl rfl (by trivial) (by trivial) (by exact ZdY s.terms (.fn (.func WC.id) [] [.ptr x 0]) (fun i=>decide ((s.terms.getD i default).field∈(s.terms.take i).map (·.field)) || !Jq (s.terms.getD i default)) (fun i=>vst st b x (Zeb (Zh0 s.terms i))) (fun i hi=>(by have:=Zkm (s.terms.getD i default) st b x hbx (Zh0 s.terms i); rw [ZpT _ _ _ (by omega)] at this; exact this.VT (first:=[]) (args:=[_]) (caps:=[_])))) (by first | trivial | exact ⟨rfl,trivial⟩ | simp [Qx,Jy]) (ZM ?_)
  simp only [Eqs,reduceIte,Zuq]
  refine hret rfl (by trivial) (Yk ?_) (ZuK (Zuy _ hb) (Zuy _ (hxn _)))
  have hv:=Zdu s.terms s.terms 0 rfl (by omega)
  simp only [Nat.zero_add] at hv
  rw [← hv]
  unfold YN
  rw [show decide (s.terms.length≤4)=decide ((s.terms.length:Int)≤4) from decide_eq_decide.2 (by omega),hc,ZuP]
  rfl
end Go.DL
namespace Go.DL
open Go Go.Proofs
theorem Zgh (l:List Z5) (hl:l.length≤1000000) (st:St):Yf Zuv Yp.id [Yj l] st (fun r s=>r = .ret (Yj l)∧s=st):=by
 refine Z2 Yp.ok fun F hF=>?_
 by_cases h0:l.length=0
 ·have hl0:l=[]:=List.eq_nil_of_length_eq_zero h0
  subst hl0
  refine Zoi 0 rfl ?_ fun b off cap=>?_
  ·skip
   refine Za (Zb (Zc ?_))
   simp only [Eqs,reduceCtorEq,reduceIte,Yp.r0,Yj,slD]
   refine Za (Za (Zb (Zc ?_)))
   simp only [Eqs,reduceCtorEq,reduceIte,Zuq,Yp.r1]
   refine Ze rfl trivial (fun _=>?_) (fun h=>by simp at h)
   refine Za (Zb (Zc ?_))
   simp only [Eqs,reduceCtorEq,reduceIte,Zuq,Yp.r2]
   exact hF.ret _ st rfl (by trivial) (Zac (Qa fun b h=>by cases h)) (Zuw _) ⟨rfl,rfl⟩
  ·skip
   refine Za (Zb (Zc ?_))
   simp only [Eqs,reduceCtorEq,reduceIte,Yp.r0,Yj,slD]
   refine Za (Za (Zb (Zc ?_)))
   simp only [Eqs,reduceCtorEq,reduceIte,Zuq,Yp.r1]
   refine Ze rfl trivial (fun h=>by simp at h) (fun _=>?_)
   refine Zg (Za (Zb (Zc ?_)))
   simp only [Eqs,reduceCtorEq,reduceIte,Yp.r3]
   refine Zof (s:=st) (t:=.full) (m:=0) (row2:=fun _=>[]) rfl rfl rfl rfl rfl (by trivial) (by trivial) (fun g w v h=>ZpF h) trivial (by decide) (by unfold big; decide) fun t1 ht1=>?_
   refine Zc ?_
   simp only [Eqs,reduceCtorEq,reduceIte,Zuq]
   exact hF.ret _ st rfl (by trivial) (Zac ((YE.nil (f:=ZuR)).le rfl)) (Zl ht1) ⟨rfl,rfl⟩
 ·skip
  refine Za (Zb (Zc ?_))
  simp only [Eqs,reduceCtorEq,reduceIte,Yp.r0,Yj,slD]
  refine Za (Za (Zb (Zc ?_)))
  simp only [Eqs,reduceCtorEq,reduceIte,Zuq,Yp.r1]
  repeat (refine Zut (by first | omega | trivial | (intro h0; simp at h0; omega)) ?_)
  refine Ze rfl trivial (fun h=>by simp at h) (fun _=>?_)
  refine Zg (Za (Zb (Zc ?_)))
  simp only [Eqs,reduceCtorEq,reduceIte,Yp.r3]
  refine JO (st) (.full) rfl rfl rfl rfl rfl rfl (by trivial) (by trivial) rfl (by first | trivial | assumption) (by omega) (by (unfold big; omega)) fun t1 ht1=>Zc ?_
  simp only [Eqs,reduceCtorEq,reduceIte,Zuq]
  have hrow:YE ZuR (QN 0 (Wy [.str [],.int .i64 0] ([].zip [])) fun i=>(l.getD i default).cells) ([]++l):=YE.nil.app YE.self rfl
  exact hF.ret _ st rfl (by trivial) (Zac (hrow.le (by simp))) (Zl ht1) ⟨rfl,rfl⟩
theorem Ze6 (l:List Z5) (hl:l.length≤big) (x:Nat):Zcj Zuv (.fn (.func YS.id) [] [.ptr x 0]) l.length (fun j=>[.str (l.getD j default).field]) (ZuN x (.cells [Yj l])):=by
 intro y go A a0 hcons hA hd
 have hw:=hl
 unfold big at hw
 refine Yf.V (first:=[]) (args:=[y]) (caps:=[.ptr x 0]) (Z2 YS.ok fun F hF=>?_)
 have hx:∀ a,WX a (ZuN x (.cells [Yj l]))→(a.or (ZuN x (.cells [Yj l]))) x=some (.cells [Yj l]):=fun a hda=>by
  rw [YR (hda x _ (Qh _ _)),Qh]
 generalize hT:ZuN x (.cells [Yj l])=T at *
 refine Za (Zb (Zc ?_))
 simp only [Eqs,reduceCtorEq,reduceIte,Zuq,Zur,YS.r0,hx a0 hd,Yj,slD]
 refine Zj (ZX ?_)
 have key:∀ (n j:Nat),(l.length) - j=n→∀ a,A j a→WX a T→(∀ i,i < j→go i = .next)→j≤l.length→ZT F [.code (YS.l0),.inLoop YS.l0,.inBlock 0] [(0,.d y),(5,.d (Yj l)),(6,.d (.int .i64 l.length)),(7,.d (.int .i64 j))] [] (a.or T):=by
  intro n
  induction n using Nat.strongRecOn with
  | ind n ih_key =>
  clear hA hd
  intro j hn a hA hd hno hj
  refine Za (Zb (Zc ?_))
  simp only [Eqs,reduceCtorEq,reduceIte,Zuq,YS.r1,Yj,slD]
  refine Za (Ze rfl trivial (fun h1=>?_) (fun h1=>?_))
  ·simp at h1
   generalize hg:l.getD j default=g at *
   refine Zg (Za (Zj (Za (Zb (Zc ?_)))))
   simp only [Eqs,reduceCtorEq,reduceIte,Zuq,Zur,Zus,YS.r2,ZuR,hg]
   repeat (refine Zut (by first | omega | trivial | (intro h0; simp at h0; omega)) ?_)
   refine Za (Zb (Zc ?_))
   simp only [Eqs,reduceCtorEq,reduceIte,Zuq,YS.r3]
   have hcall:=(hcons j h1 hno a hA).frame hd
   simp only [hg] at hcall
   refine ZbA rfl rfl rfl rfl rfl (by trivial) (by trivial) (by exact hcall) ?_ ?_
   ·rintro d S ⟨s',⟨hr,hA'⟩,hd',rfl⟩
    cases hgo:go j with
    | next =>
     rw [hgo] at hr
     cases hr
     refine Zc ?_
     simp only [Eqs,reduceCtorEq,reduceIte,Zuq]
     refine Ze rfl trivial (fun h=>by simp at h) (fun _=>?_)
     refine Zg (Zm (Zb (Zc ?_)))
     simp only [Eqs,reduceCtorEq,reduceIte,Zuq,YS.r4]
     repeat (refine Zut (by first | omega | trivial | (intro h0; simp at h0; omega)) ?_)
     refine Zy ?_
     exact ih_key ((l.length) - (j + 1)) (by omega) (j + 1) rfl s' hA' hd' (K4 (q:=fun i=>go i = .next) hno hgo) (by omega)
    | stop c =>
     rw [hgo] at hr
     cases hr
     refine Zc ?_
     simp only [Eqs,reduceCtorEq,reduceIte,Zuq]
     refine Ze rfl trivial (fun _=>?_) (fun h=>by simp at h)
     exact hF.ret (.tup []) _ rfl trivial (Zux _) (Zuw _) ⟨s',.stop j c h1 hno hgo hA',Jf _ _⟩
    | pan d=>rw [hgo] at hr; cases hr
   ·rintro d S ⟨s',⟨hr,hA'⟩,hd',rfl⟩
    cases hgo:go j with
    | pan d' =>
     rw [hgo] at hr
     cases hr
     exact hF.pan _ (Zuw _) ⟨s',.pan j d h1 hno hgo hA',Jf _ _⟩
    | next=>rw [hgo] at hr; cases hr
    | stop c=>rw [hgo] at hr; cases hr
  ·simp at h1
   obtain rfl:j=l.length:=by omega
   refine ZQ rfl ?_
   exact hF.fin (.tup []) _ rfl trivial (Zux _) (Zuw _) ⟨a,.all hno hA,Jf _ _⟩
 exact key _ 0 rfl a0 hA hd (by intro i hi; omega) (by omega)
theorem Zbj {s:Wu} (h:YN s=true):s.terms.length≤4:=by
 unfold YN at h
 simp only [ZuA,decide_eq_true_eq] at h; exact h.1.2
theorem Zgz (s:Wu) (hv:YN s=true) (st:St):Yf Zuv WY.id [.agg s.cells] st (fun r S=>∃ x,st x=none∧r = .ret (.fn (.func YS.id) [] [.ptr x 0])∧S=st.or (ZuN x (.cells [Yj s.terms]))):=by
 have hfew:=Zbj hv
 refine Z2 WY.ok fun F hF=>?_
 refine Za (Zb (Zc ?_))
 simp only [Eqs,reduceCtorEq,reduceIte,Zuq,WY.r0,Wu.cells]
 refine Za (Zb (Zc ?_))
 simp only [Eqs,reduceIte,Zuq,WY.r1]
 refine Za (Za (Zb (Zc ?_)))
 simp only [Eqs,reduceIte,Zuq,Zur,Zus,WY.r2]
 refine ZW rfl rfl rfl rfl rfl (by trivial) (by trivial) (by exact JZ s) (Zc ?_)
 simp only [Eqs,reduceIte,Zuq,hv]
 refine Ze rfl trivial (fun _=>?_) (fun h=>by simp at h)
 refine Zb (Zc ?_)
 simp only [Eqs,reduceIte,Zuq,WY.r3]
 refine Yn rfl rfl rfl rfl rfl (by trivial) (by trivial) (by exact (Zgh s.terms (by omega) st)) ?_ ?_
 ·rintro d S ⟨hd,rfl⟩
  cases hd
  refine Zc ?_
  simp only [Eqs,reduceIte,Zuq,Zus]
  refine ⟨rfl,?_⟩
  refine Za ?_
  refine YJ 3 rfl fun x hx=>?_
  simp only [reduceIte,YU,WM,delL]
  refine Zb (Zc ?_)
  simp only [Eqs,reduceIte,Zuq,WY.r4]
  exact hF.ret _ _ rfl (by trivial) (Zux _) (Zuw _) ⟨x,hx,rfl,J2 hx⟩
 ·rintro d S ⟨hd,_⟩
  cases hd
end Go.DL
namespace Go.DL
open Go Go.Proofs
def JT (r:Int × Int):D:=.agg [.int .i64 r.1,.int .i64 r.2]
abbrev ZiN:=List (Str × (Int × Int))
abbrev Zao (l:ZiN):List (D × D):=Jv JU JT l
theorem Wp {s:St} {b c:Nat} {o:KC} (h:(s.upd b o) c=none):c≠b∧s c=none:=by
 have:c≠b:=fun e=>by rw [e,ZuB] at h; simp at h
 exact ⟨this,by rw [ZuE _ _ this] at h; exact h⟩
theorem Zhy (r:Int × Int):ZR Zuv Ws.id [JT r] (.bool (!Zan r)):=by
 refine Z0 Ws.ok fun F st hret=>?_
 refine Za (Zb (Zc ?_))
 simp only [Eqs,reduceCtorEq,reduceIte,Zuq,Ws.r0,JT]
 refine Za (Zb (Zc ?_))
 simp only [Eqs,reduceIte,Zuq,Ws.r1]
 refine ZW rfl rfl rfl rfl rfl (by trivial) (by trivial) (by exact Zlp _ _ _) (Zc ?_)
 simp only [Eqs,reduceIte,Zuq]
 refine hret rfl (by first | trivial | simp) (Yk ?_) (by first | exact Zuw _ | exact Zl (by first | trivial | assumption) | assumption | exact Zuy _ (by assumption))
 unfold Zan; rw [Bool.not_or,Bool.not_or,← decide_not,← decide_not,← decide_not]; simp only [Int.not_lt,Int.not_le,Bool.and_assoc]
def ckS (st:St) (b5 b6 b7 b8 b9 b:Nat) (rc:Int) (nn:Bool):St :=
 ((((st.upd b5 (.cells [.str []])).upd b6 (.cells [.map b])).upd b7 (.cells [.fn (.func Ws.id) [] []])).upd b8 (.cells [.int .i64 rc])).upd b9 (.cells [.bool nn])
structure ZaQ (st:St) (b5 b6 b7 b8 b9:Nat):Prop where
 n5:st b5=none
 n6:b6≠b5∧st b6=none
 n7:b7≠b6∧b7≠b5∧st b7=none
 n8:b8≠b7∧b8≠b6∧b8≠b5∧st b8=none
 n9:b9≠b8∧b9≠b7∧b9≠b6∧b9≠b5∧st b9=none
section
variable {st:St} {b5 b6 b7 b8 b9 b:Nat} {rc:Int} {nn:Bool}
theorem ZaQ.g5 (h:ZaQ st b5 b6 b7 b8 b9):(ckS st b5 b6 b7 b8 b9 b rc nn) b5=some (.cells [.str []]):=by
 simp [ckS,St.upd,h.n6.1.symm,h.n7.2.1.symm,h.n8.2.2.1.symm,h.n9.2.2.2.1.symm]
theorem ZaQ.g6 (h:ZaQ st b5 b6 b7 b8 b9):(ckS st b5 b6 b7 b8 b9 b rc nn) b6=some (.cells [.map b]):=by
 simp [ckS,St.upd,h.n7.1.symm,h.n8.2.1.symm,h.n9.2.2.1.symm]
theorem ZaQ.g7 (h:ZaQ st b5 b6 b7 b8 b9):(ckS st b5 b6 b7 b8 b9 b rc nn) b7=some (.cells [.fn (.func Ws.id) [] []]):=by
 simp [ckS,St.upd,h.n8.1.symm,h.n9.2.1.symm]
theorem ZaQ.g8 (h:ZaQ st b5 b6 b7 b8 b9):(ckS st b5 b6 b7 b8 b9 b rc nn) b8=some (.cells [.int .i64 rc]):=by
 simp [ckS,St.upd,h.n9.1.symm]
theorem ZaQ.g9:(ckS st b5 b6 b7 b8 b9 b rc nn) b9=some (.cells [.bool nn]):=by
 simp [ckS,St.upd]
theorem ZaQ.gm (h:ZaQ st b5 b6 b7 b8 b9) {o:KC} (hb:st b=some o):(ckS st b5 b6 b7 b8 b9 b rc nn) b=some o:=by
 have h5:b≠b5:=fun e=>by rw [e,h.n5] at hb; simp at hb
 have h6:b≠b6:=fun e=>by rw [e,h.n6.2] at hb; simp at hb
 have h7:b≠b7:=fun e=>by rw [e,h.n7.2.2] at hb; simp at hb
 have h8:b≠b8:=fun e=>by rw [e,h.n8.2.2.2] at hb; simp at hb
 have h9:b≠b9:=fun e=>by rw [e,h.n9.2.2.2.2] at hb; simp at hb
 simp [ckS,St.upd,h5,h6,h7,h8,h9,hb]
theorem ZaQ.s8 (h:ZaQ st b5 b6 b7 b8 b9) (rc':Int):(ckS st b5 b6 b7 b8 b9 b rc nn).upd b8 (.cells [.int .i64 rc'])=ckS st b5 b6 b7 b8 b9 b rc' nn:=by
 unfold ckS; rw [St.upd_comm _ _ _ h.n9.1.symm,ZuQ]
theorem ZaQ.s9 (nn':Bool):(ckS st b5 b6 b7 b8 b9 b rc nn).upd b9 (.cells [.bool nn'])=ckS st b5 b6 b7 b8 b9 b rc nn':=by
 unfold ckS; rw [ZuQ]
theorem ZaQ.sub (h:ZaQ st b5 b6 b7 b8 b9):st.sub (ckS st b5 b6 b7 b8 b9 b rc nn):=fun c o hc=>by
 have h5:c≠b5:=fun e=>by rw [e,h.n5] at hc; simp at hc
 have h6:c≠b6:=fun e=>by rw [e,h.n6.2] at hc; simp at hc
 have h7:c≠b7:=fun e=>by rw [e,h.n7.2.2] at hc; simp at hc
 have h8:c≠b8:=fun e=>by rw [e,h.n8.2.2.2] at hc; simp at hc
 have h9:c≠b9:=fun e=>by rw [e,h.n9.2.2.2.2] at hc; simp at hc
 simp [ckS,St.upd,h5,h6,h7,h8,h9,hc]
end
theorem ZhI {st t:St} {b5 b6 b7 b8 b9 b:Nat} {rc rc':Int} {nn nn':Bool} (h:WX (ckS st b5 b6 b7 b8 b9 b rc nn) t):WX (ckS st b5 b6 b7 b8 b9 b rc' nn') t:=fun c o hc=>by
 have:=h c o hc
 unfold ckS at this ⊢
 have k9:=Wp this
 have k8:=Wp k9.2
 rw [ZuE _ _ k9.1,ZuE _ _ k8.1]; exact k8.2
theorem Zmb {st:St} {b5 b6 b7 b8 b9 b:Nat} {rc:Int} {nn:Bool} (h:ZaQ st b5 b6 b7 b8 b9) {ρ:Env} {L:Loc} (hρ:WN ρ 8=some (.d (.ptr b8 0)):=by rfl) :
  QQ ρ L (ckS st b5 b6 b7 b8 b9 b rc nn) [.cell1 8]=some (True∧True,[.int .i64 rc]):=by
 simp [QQ,ZbT,hρ,Js,Zad,h.g8]
theorem Zfq {α:Type} [Inhabited α] {p:α→Bool} {l:List α} (h:∀ i,i < l.length→p (l.getD i default)=false):l.any p=false:=by
 apply List.any_eq_false.2
 intro x hx
 obtain ⟨i,hi,rfl⟩:=ZuJ hx
 have:=h i hi
 simpa [List.getD,hi] using this
theorem Zm6 {s:Wu} {j:Nat} (h:YN s=true) (hj:j < s.terms.length):(s.terms.getD j default).field≠[]:=by
 unfold YN at h
 simp only [ZuA] at h
 have h1:=Zdu s.terms s.terms 0 rfl (by omega)
 simp only [List.take_zero,List.map_nil,Nat.zero_add] at h1
 rw [h1] at h
 have h2:((List.range s.terms.length).any fun i=>decide ((s.terms.getD i default).field∈(s.terms.take i).map (·.field)) || !Jq (s.terms.getD i default))=false:=by simpa using h.2
 have h3:=List.any_eq_false.1 h2 j (by simpa using hj)
 simp only [ZuL,not_or,Bool.not_eq_true',Bool.not_eq_false] at h3
 have h4:=h3.2
 intro e
 rw [Jq,e] at h4
 simp [K0] at h4
theorem Zkn (s:Wu) (b:Nat) (l:ZiN) (st:St) (hb:st b=some (.map (Zao l))) :
  Yf Zuv Zq.id [.agg s.cells,.str [],.map b,.fn (.func Ws.id) [] []] st (fun r S=>r = .ret (.int .i64 (ZaH s (fun k=>Z8 k l)))∧S=st):=by
 refine Z2 Zq.ok fun F hF=>?_
 refine Za (Zb (Zc ?_))
 simp only [Eqs,reduceCtorEq,reduceIte,Zuq,Zur,Zq.r0,Wu.cells]
 refine Za (Za (Zb (Zc ?_)))
 simp only [Eqs,reduceIte,Zuq,Zur,Zus,Zq.r1]
 refine ZW rfl rfl rfl rfl rfl (by trivial) (by trivial) (by exact JZ s) (Zc ?_)
 simp only [Eqs,reduceIte,Zuq]
 refine Ze rfl trivial (fun hv=>?_) (fun hv=>?_)
 ·have hv':YN s=false:=by simpa using hv
  refine Za (Zb (Zc ?_))
  simp only [Eqs,reduceIte,Zuq,Zus,Zq.r2]
  refine hF.ret _ st rfl (by trivial) (YG ?_) (Zuw _) ⟨rfl,rfl⟩
  rw [ZaH,if_pos hv']
 ·have hv':YN s=true:=by simpa using hv
  refine Zg (Za (Zb (Zc ?_)))
  simp only [Eqs,reduceIte,Zuq,Zus,Zq.r3]
  refine Za (Za ?_)
  refine YJ 5 rfl fun b5 h5=>?_
  simp only [reduceIte,Zuq,YU,WM,delL]
  refine YJ 6 rfl fun b6 h6=>?_
  simp only [reduceIte,Zuq,YU,WM,delL]
  refine YJ 7 rfl fun b7 h7=>?_
  simp only [reduceIte,Zuq,YU,WM,delL]
  refine YJ 8 rfl fun b8 h8=>?_
  simp only [reduceIte,Zuq,YU,WM,delL]
  refine YJ 9 rfl fun b9 h9=>?_
  simp only [reduceIte,Zuq,YU,WM,delL]
  refine Zb (Zc ?_)
  simp only [Eqs,reduceIte,Zuq,Zur,Zus,Zq.r4]
  refine Yn rfl rfl rfl rfl rfl (by trivial) (by trivial) (by exact Zgz s hv' _) ?_ ?_
  ·rintro d S ⟨x,hx,hd,rfl⟩
   cases hd
   refine Zc ?_
   simp only [Eqs,reduceIte,Zuq]
   refine Zj ?_
   have hck:ZaQ st b5 b6 b7 b8 b9:=by
    have k6:=Wp h6
    have k7:=Wp h7
    have k7a:=Wp k7.2
    have k8:=Wp h8
    have k8a:=Wp k8.2
    have k8b:=Wp k8a.2
    have k9:=Wp h9
    have k9a:=Wp k9.2
    have k9b:=Wp k9a.2
    have k9c:=Wp k9b.2
    exact ⟨h5,k6,⟨k7.1,k7a⟩,⟨k8.1,k8a.1,k8b⟩,⟨k9.1,k9a.1,k9b.1,k9c⟩⟩
   have hfew:=Zbj hv'
   rw [show (((((st.upd b5 (.cells [.str []])).upd b6 (.cells [.map b])).upd b7 (.cells [.fn (.func Ws.id) [] []])).upd b8 (.cells [.int .i64 0])).upd b9 (.cells [.bool false]))=ckS st b5 b6 b7 b8 b9 b 0 false from rfl] at hx ⊢
   refine ZbQ hF rfl trivial [5,6,7,8,9] (by show ([5,6,7,8,9]:List Nat).Nodup; decide) (J9 hx) (Ze6 s.terms (by unfold big; omega) x) (fun j hj=>rfl)
    (fun j=>if QP (fun k=>Z8 k l) (s.terms.getD j default) then .stop .ret else .next)
    (fun j a=>((∀ i,i < j→QP (fun k=>Z8 k l) (s.terms.getD i default)=false)∧a=ckS st b5 b6 b7 b8 b9 b 0 ((s.terms.take j).any (KW fun k=>Z8 k l)))∨((∃ nn,a=ckS st b5 b6 b7 b8 b9 b 2 nn)∧∃ i,i < j∧QP (fun k=>Z8 k l) (s.terms.getD i default)=true))
    (.inl ⟨fun i hi=>by omega,rfl⟩) ?_ ?_ ?_ ?_ ?_ ?_
   ·intro j a hj hno hB F' ready busy hdr hbeg hend
    have hno':∀ i,i < j→QP (fun k=>Z8 k l) (s.terms.getD i default)=false:=fun i hi=>by
     have:=hno i hi; split at this
     ·simp at this
     ·rename_i h; simpa using h
    rcases hB with ⟨_,rfl⟩ | ⟨_,i,hi,hib⟩
    ·skip
     simp only [Eqs,reduceIte,Zuq,ZaE,Zbe,Zcf,ZaK,List.isEmpty_nil]
     refine Zb (Zc ?_)
     simp only [Eqs,reduceIte,Zuq,Zq.r5]
     refine hbeg fun hdb=>?_
     have hje:(s.terms.getD j default).field≠[]:=Zm6 hv' hj
     have hsn:=ZfR (p:=KW fun k=>Z8 k l) hj
     generalize htm:s.terms.getD j default=tm at *
     have e1:=Qo (vD:=JT) WP tm.field l
     have e3:=Ja WP tm.field
     simp only [show JU tm.field=D.str tm.field from rfl] at e1 e3
     cases hg:Z8 tm.field l with
     | none =>
      rw [hg] at e1
      have hbad:QP (fun k=>Z8 k l) tm=false:=by simp [QP,hg]
      have hnone:KW (fun k=>Z8 k l) tm=true:=by simp [KW,hg]
      rw [hnone,Bool.or_true] at hsn
      rw [if_neg (by rw [hbad]; simp)] at hend
      refine Zj (Za (Zb (Zc ?_)))
      simp only [Eqs,reduceIte,Zuq,Zur,Zus,Zq.r6,Yv (hck.g6 ),Yv (hck.gm hb),e1]
      refine Zj (Za (Zb (Zc ?_)))
      simp only [Eqs,reduceIte,Zuq,Zq.r7,Yv (hck.g5 )]
      refine Ze rfl trivial (fun h=>by simp at h; exact absurd h hje) (fun _=>?_)
      refine Za (Zb (Zc ?_))
      simp only [Eqs,reduceIte,Zuq,Zq.r8]
      refine Ze rfl trivial (fun _=>?_) (fun h=>by simp at h)
      refine Zb (Zc ?_)
      simp only [Eqs,reduceIte,Zuq,Zus,Zq.r9,Yv (ZaQ.g9 ),Zal,ZaQ.s9]
      refine Zm (Zm ?_)
      exact hend.fin ⟨rfl,.inl ⟨K4 (q:=fun i=>QP (fun k=>Z8 k l) (s.terms.getD i default)=false) hno' (by rw [htm]; exact hbad),by rw [hsn]⟩⟩ (ZhI hdb) (Zuw _)
     | some r =>
      rw [hg] at e1
      have hbad:QP (fun k=>Z8 k l) tm=Zan r:=by simp [QP,hg]
      have hnone:KW (fun k=>Z8 k l) tm=false:=by simp [KW,hg]
      rw [hnone,Bool.or_false] at hsn
      refine Zj (Za (Zb (Zc ?_)))
      simp only [Eqs,reduceIte,Zuq,Zur,Zus,Zq.r6,Yv (hck.g6 ),Yv (hck.gm hb),e1,JT]
      refine Zj (Za (Zb (Zc ?_)))
      simp only [Eqs,reduceIte,Zuq,Zq.r7,Yv (hck.g5 )]
      refine Ze rfl trivial (fun h=>by simp at h; exact absurd h hje) (fun _=>?_)
      refine Za (Zb (Zc ?_))
      simp only [Eqs,reduceIte,Zuq,Zq.r8]
      refine Ze rfl trivial (fun h=>by simp at h) (fun _=>?_)
      refine Za (Zb (Zc ?_))
      simp only [Eqs,reduceIte,Zuq,Zur,Zus,Zq.r10,Yv (hck.g7 )]
      refine ZW rfl rfl rfl rfl rfl (by trivial) (by trivial) (by exact Zhy r) (Zc ?_)
      simp only [Eqs,reduceIte,Zuq]
      refine Ze rfl trivial (fun hr=>?_) (fun hr=>?_)
      ·have hr':Zan r=true:=by simpa using hr
       rw [if_pos (by rw [hbad]; exact hr')] at hend
       refine Za (Zb (Zc ?_))
       simp only [Eqs,reduceIte,Zuq,Zus,Zq.r11,Yv (hck.g8 ),Zal,hck.s8]
       exact hend.ret ⟨rfl,.inr ⟨⟨_,rfl⟩,j,by omega,by rw [htm,hbad]; exact hr'⟩⟩ (ZhI hdb) (Zuw _)
      ·have hr':Zan r=false:=by simpa using hr
       rw [if_neg (by rw [hbad,hr']; simp)] at hend
       refine Zg (Zm (Zm ?_))
       exact hend.fin ⟨rfl,.inl ⟨K4 (q:=fun i=>QP (fun k=>Z8 k l) (s.terms.getD i default)=false) hno' (by rw [htm,hbad]; exact hr'),by rw [hsn]⟩⟩ hdb (Zuw _)
    ·rw [hno' i hi] at hib; simp at hib
   ·intro q a hno hB hq
    have hno':∀ i,i < s.terms.length→QP (fun k=>Z8 k l) (s.terms.getD i default)=false:=fun i hi=>by
     have:=hno i hi; split at this
     ·simp at this
     ·rename_i h; simpa using h
    rcases hB with ⟨_,rfl⟩ | ⟨_,i,hi,hib⟩
    ·rw [ZuH] at hq ⊢
     have hb0:s.terms.any (QP fun k=>Z8 k l)=false:=Zfq hno'
     have hI:=ZaH.eq_1 s fun k=>Z8 k l
     rw [if_neg (by rw [hv']; simp),if_neg (by rw [hb0]; simp)] at hI
     rw [J2 hq]
     have hdq:=J9 (o:=KC.dfr) hq
     generalize s.terms.any (KW fun k=>Z8 k l)=nn at *
     refine Zm (Za (Za (Zb (Zc ?_))))
     simp only [Eqs,reduceIte,Zuq,Zq.r12,Yv (ZaQ.g9 )]
     refine Ze rfl trivial (fun hn=>?_) (fun hn=>?_)
     ·rw [if_pos hn] at hI
      refine Za (Zb (Zc ?_))
      simp only [Eqs,reduceIte,Zuq,Zus,Zq.r13,Yv (hck.g8 ),Zal,hck.s8]
      exact hF.ret1 (Zk5 (ZhI hdq) (Qh _ _)) (.int .i64 9) st (Zmb hck) ⟨trivial,trivial⟩ (Zux _) hck.sub ⟨by rw [hI],rfl⟩
     ·rw [if_neg (by rw [hn]; simp)] at hI
      refine Zg (Za (Zb (Zc ?_)))
      simp only [Eqs,reduceIte,Zuq,Zus,Zq.r14,Yv (hck.g8 ),Zal,hck.s8]
      exact hF.ret1 (Zk5 (ZhI hdq) (Qh _ _)) (.int .i64 0) st (Zmb hck) ⟨trivial,trivial⟩ (Zux _) hck.sub ⟨by rw [hI],rfl⟩
    ·rw [hno' i hi] at hib; simp at hib
   ·intro q a m hm hno hgo hB hq
    have hno':∀ i,i < m→QP (fun k=>Z8 k l) (s.terms.getD i default)=false:=fun i hi=>by
     have:=hno i hi; split at this
     ·simp at this
     ·rename_i h; simpa using h
    have hbad:QP (fun k=>Z8 k l) (s.terms.getD m default)=true:=by
     split at hgo
     ·rename_i h; exact h
     ·simp at hgo
    rcases hB with ⟨hall,_⟩ | ⟨⟨nn,rfl⟩,_⟩
    ·rw [hall m (by omega)] at hbad; simp at hbad
    ·have hb0:s.terms.any (QP fun k=>Z8 k l)=true:=Zl7 hm hbad
     have hI:=ZaH.eq_1 s fun k=>Z8 k l
     rw [if_neg (by rw [hv']; simp),if_pos hb0] at hI
     rw [J2 hq]
     exact hF.ret1 hq (.int .i64 2) st (Zmb hck) ⟨trivial,trivial⟩ (Zux _) hck.sub ⟨by rw [hI],rfl⟩
   ·intro q a m id hm hno hgo
    split at hgo <;> simp at hgo
   ·intro q a m d hm hno hgo
    split at hgo <;> simp at hgo
   ·intro m c hgo
    split at hgo <;> simp at hgo
    exact .inl hgo.symm
  ·rintro d S ⟨x,hx,hd,rfl⟩
   cases hd
end Go.DL
namespace Go.DL
open Go Go.Proofs
def ZbO (v:Z5→Int):List Z5→Int
 | []=>0
 | t :: r=>t.factor * v t + ZbO v r
theorem ZpZ {v:Z5→Int} {l:List Z5} {i:Nat} (h:i < l.length):ZbO v (l.take (i + 1))=ZbO v (l.take i) + (l.getD i default).factor * v (l.getD i default):=by
 rw [Wz h]
 generalize l.getD i default=x
 induction l.take i with
 | nil=>simp [ZbO]
 | cons y r ih=>simp only [List.cons_append,ZbO,ih]; omega
theorem Zli {a b:Int} (ha:-1048576≤a∧a≤1048576) (hb:0≤b∧b < 34359738368):-36028797018963968≤a * b∧a * b≤36028797018963968:=by
 have h1:a * b≤1048576 * b:=Int.mul_le_mul_of_nonneg_right ha.2 hb.1
 have h2:-1048576 * b≤a * b:=Int.mul_le_mul_of_nonneg_right ha.1 hb.1
 omega
theorem ZoX {v:Z5→Int} {l:List Z5} (h:∀ t∈l,(-1048576≤t.factor∧t.factor≤1048576)∧0≤v t∧v t < 34359738368):-36028797018963968 * (l.length:Int)≤ZbO v l∧ZbO v l≤36028797018963968 * (l.length:Int):=by
 induction l with
 | nil=>simp [ZbO]
 | cons t r ih =>
  have h1:=ih fun x hx=>h x (by simp [hx])
  have h2:=Zli (h t (by simp)).1 (h t (by simp)).2
  simp only [ZbO,ZuI]
  generalize t.factor * v t=y at *
  omega
theorem Zfa {s:Wu} (h:YN s=true):(-1048576≤s.base∧s.base≤1048576)∧∀ t∈s.terms,-1048576≤t.factor∧t.factor≤1048576:=by
 unfold YN at h
 simp only [ZuA] at h
 refine ⟨by have:=h.1.1; simpa [Q4] using this,fun t ht=>?_⟩
 have h1:=Zdu s.terms s.terms 0 rfl (by omega)
 simp only [List.take_zero,List.map_nil,Nat.zero_add] at h1
 rw [h1] at h
 have h2:((List.range s.terms.length).any fun i=>decide ((s.terms.getD i default).field∈(s.terms.take i).map (·.field)) || !Jq (s.terms.getD i default))=false:=by simpa using h.2
 obtain ⟨j,hj,rfl⟩:=ZuJ ht
 have h3:=List.any_eq_false.1 h2 j (by simpa using hj)
 simp only [ZuL,not_or,Bool.not_eq_true',Bool.not_eq_false] at h3
 have h4:=h3.2
 unfold Jq at h4
 simp only [ZuA] at h4
 have h5:=h4.2
 simpa [Q4,List.getD,hj] using h5
theorem ZkM (s:Wu) (hv:YN s=true) (f:D) (v:Z5→Int) (st:St) (hb:∀ t∈s.terms,0≤v t∧v t < 34359738368) (hf:∀ t∈s.terms,VT Zuv f [.agg t.cells] st (.int .i64 (v t)) st) :
  Y3 Zuv Yt.id [.agg s.cells,f] st (.int .i64 (s.base + ZbO v s.terms)) st:=by
 refine Y4 Yt.ok fun hwf F hret=>?_
 clear hwf
 have hfew:=Zbj hv
 have hsm:=Zfa hv
 refine Za (Zb (Zc ?_))
 simp only [Eqs,reduceCtorEq,reduceIte,Zuq,Zur,Yt.r0,Wu.cells,Yj,slD]
 refine Za (Zb (Zc ?_))
 simp only [Eqs,reduceIte,Zuq,Yt.r1]
 refine Za (Za (Zb (Zc ?_)))
 simp only [Eqs,reduceIte,Zuq,Yt.r2]
 refine Zj (ZX ?_)
 have key:∀ (n j:Nat),(s.terms.length) - j=n→j≤s.terms.length→ZT F [.code (Yt.l0),.inLoop Yt.l0,.inBlock 0,.code (.seq (qR Yt.r7 [4]) .ret)] [(1,.d f),(5,.d (.int .i64 (s.base + ZbO v (s.terms.take j)))),(11,.d (Yj s.terms)),(12,.d (.int .i64 s.terms.length)),(13,.d (.int .i64 j))] [] st:=by
  intro n
  induction n using Nat.strongRecOn with
  | ind n ih_key =>
  intro j hn hj
  refine Za (Zb (Zc ?_))
  simp only [Eqs,reduceIte,Zuq,Yt.r3]
  refine Za (Ze rfl trivial (fun h1=>?_) (fun h1=>?_))
  ·simp at h1
   have hmem:=Ki h1
   have hsn:=ZpZ (v:=v) h1
   have hsb:=ZoX (v:=v) (l:=s.terms.take j) fun t ht=>⟨hsm.2 t (List.mem_of_mem_take ht),hb t (List.mem_of_mem_take ht)⟩
   rw [List.length_take] at hsb
   generalize htm:s.terms.getD j default=tm at *
   have hmb:=Zli (hsm.2 tm hmem) (hb tm hmem)
   refine Zg (Za (Zj (Za (Zb (Zc ?_)))))
   simp only [Eqs,reduceIte,Zuq,Zur,Zus,Yt.r4,ZuR,Yj,slD,htm]
   repeat (refine Zut (by first | omega | trivial | (intro h0; simp at h0; omega)) ?_)
   refine Wq (ZM ?_)
   simp only [Eqs,reduceIte,Zuq,Zur,Zus,Yt.r5]
   refine ZrS rfl rfl rfl rfl rfl (by trivial) (by trivial) (by exact hf tm hmem) (by first | trivial | exact ⟨rfl,trivial⟩ | simp [Qx,Jy]) (ZM ?_)
   simp only [Eqs,reduceIte,Zuq]
   generalize hmv:tm.factor * v tm=mv at *
   repeat (refine Zut (by first | omega | trivial | (intro h0; simp at h0; omega)) ?_)
   refine Zm (Zb (Zc ?_))
   simp only [Eqs,reduceIte,Zuq,Yt.r6]
   repeat (refine Zut (by first | omega | trivial | (intro h0; simp at h0; omega)) ?_)
   refine Zy ?_
   have hnext:=ih_key ((s.terms.length) - (j + 1)) (by omega) (j + 1) rfl (by omega)
   rw [hsn,← Int.add_assoc] at hnext
   exact hnext
  ·simp at h1
   obtain rfl:j=s.terms.length:=by omega
   rw [ZuH]
   refine ZQ rfl (Za (Zb (Zc ?_)))
   simp only [Eqs,reduceIte,Zuq,Yt.r7]
   exact hret rfl (by trivial) (Zux _) (Zuw _)
 have hk:=key _ 0 rfl (by omega)
 rw [List.take_zero,show ZbO v []=0 from rfl,Int.add_zero] at hk
 exact hk
def Zd4 (look:Jg) (least:Bool) (t:Z5):Int:=if least=decide (0 < t.factor) then (ZaA look t).1 else (ZaA look t).2
theorem ZrO (look:Jg) (l:List Z5):ZbO (Zd4 look true) l=loS look l:=by
 induction l with
 | nil=>rfl
 | cons t r ih =>
  simp only [ZbO,loS,ih,loT,Zd4]
  by_cases h:0 < t.factor <;> simp [h]
theorem ZrN (look:Jg) (l:List Z5):ZbO (Zd4 look false) l=hiS look l:=by
 induction l with
 | nil=>rfl
 | cons t r ih =>
  simp only [ZbO,hiS,ih,hiT,Zd4]
  by_cases h:0 < t.factor <;> simp [h]
theorem Zlh (o:Option (Int × Int)):JD (.agg [.int .i64 0,.int .i64 0]) false (o.map JT) = .agg [.int .i64 (o.getD (0,0)).1,.int .i64 (o.getD (0,0)).2]:=by cases o <;> rfl
theorem Zgf (t:Z5) (l:ZiN) (least:Bool) (b x y:Nat) (st:St) (hb:st b=some (.map (Zao l))) (hx:st x=some (.cells [.map b])) (hy:st y=some (.cells [.bool least])) :
  Y3 Zuv Yr.id [.agg t.cells,.ptr x 0,.ptr y 0] st (.int .i64 (Zd4 (fun k=>Z8 k l) least t)) st:=by
 refine Y4 Yr.ok fun hwf F hret=>?_
 clear hwf
 have e1:=Qo (vD:=JT) WP t.field l
 have e3:=Ja WP t.field
 simp only [show JU t.field=D.str t.field from rfl] at e1 e3
 refine Za (Zb (Zc ?_))
 simp only [Eqs,reduceCtorEq,reduceIte,Zuq,Zur,Yr.r0,ZuR]
 refine Za (Za (Zb (Zc ?_)))
 simp only [Eqs,reduceIte,Zuq,Zur,Zus,Yr.r1,hx,hb,e1,Zlh]
 refine Za (Zb (Zc ?_))
 simp only [Eqs,reduceIte,Zuq,Yr.r2,hy]
 refine Ze rfl trivial (fun h1=>?_) (fun h1=>?_)
 ·refine Za (Zb (Zc ?_))
  simp only [Eqs,reduceIte,Zuq,Yr.r3]
  refine hret rfl (by trivial) (YG ?_) (Zuw _)
  unfold Zd4 ZaA
  rw [if_pos (by simpa using h1)]
 ·refine Zg (Za (Zb (Zc ?_)))
  simp only [Eqs,reduceIte,Zuq,Yr.r4,hx,hb,e1,Zlh]
  refine hret rfl (by trivial) (YG ?_) (Zuw _)
  unfold Zd4 ZaA
  rw [if_neg (by simpa using h1)]
theorem ZqB {s:Wu} {look:Jg} (h:ZaH s look=0):YN s=true∧∀ t∈s.terms,∀ least,0≤Zd4 look least t∧Zd4 look least t < 34359738368:=by
 unfold ZaH at h
 split at h; · omega
 rename_i hv
 split at h; · omega
 rename_i hb
 refine ⟨by simpa using hv,fun t ht least=>?_⟩
 have h1:QP look t=false:=by
  cases hx:QP look t with
  | false=>rfl
  | true=>exact absurd (List.any_eq_true.2 ⟨t,ht,hx⟩) hb
 unfold QP at h1
 unfold Zd4 ZaA
 cases hl:look t.field with
 | none=>simp
 | some r =>
  rw [hl] at h1
  simp only [Zan,Bool.or_eq_false_iff,decide_eq_false_iff_not] at h1
  simp only [Option.getD_some]
  split <;> omega
theorem ZdW (s:Wu) (l:ZiN) (least:Bool) (b x y:Nat) (st:St) (he:ZaH s (fun k=>Z8 k l)=0) (hb:st b=some (.map (Zao l))) (hx:st x=some (.cells s.cells)) (hy:st y=some (.cells [.map b])) :
  Y3 Zuv W2.id [.bool least,.ptr x 0,.ptr y 0] st (.int .i64 (s.base + ZbO (Zd4 (fun k=>Z8 k l) least) s.terms)) st:=by
 refine Y4 W2.ok fun hwf F hret=>?_
 clear hwf
 have hok:=ZqB he
 refine Za (Zb (Zc ?_))
 simp only [Eqs,reduceCtorEq,reduceIte,Zuq,Zur,W2.r0]
 refine Za ?_
 refine YJ 3 rfl fun z hz=>?_
 simp only [reduceIte,YU,WM,delL]
 have hbz:b≠z:=fun e=>by rw [e,hz] at hb; simp at hb
 have hxz:x≠z:=fun e=>by rw [e,hz] at hx; simp at hx
 have hyz:y≠z:=fun e=>by rw [e,hz] at hy; simp at hy
 have hx2:(st.upd z (.cells [.bool least])) x=some (.cells s.cells):=by rw [ZuE _ _ hxz]; exact hx
 refine Zb (Zc ?_)
 simp only [Eqs,reduceIte,Zuq,Zur,Zus,W2.r1,hx2,Wu.cells]
 refine Wn rfl rfl rfl rfl rfl (by trivial) (by trivial) (by exact ZkM s hok.1 _ (Zd4 (fun k=>Z8 k l) least) _ (fun t ht=>hok.2 t ht least) (fun t ht=>(Zgf t l least b y z _ (by rw [ZuE _ _ hbz]; exact hb) (by rw [ZuE _ _ hyz]; exact hy) (ZuB _ _ _)).VT (first:=[]) (args:=[_]) (caps:=[_,_]))) (Zc ?_)
 simp only [Eqs,reduceIte,Zuq]
 exact hret rfl (by trivial) (Zux _) (Zuy _ hz)
theorem ZeJ (s:Wu) (b:Nat) (l:ZiN) (st:St) (hb:st b=some (.map (Zao l))) :
  Yf Zuv YC.id [.agg s.cells,.map b] st (fun r S=>r = .ret (.tup [JT ((Km s fun k=>Z8 k l).1,(Km s fun k=>Z8 k l).2.1),.int .i64 (Km s fun k=>Z8 k l).2.2])∧S=st):=by
 refine Z2 YC.ok fun F hF=>?_
 have hI:=Km.eq_1 s fun k=>Z8 k l
 refine Za (Zb (Zc ?_))
 simp only [Eqs,reduceCtorEq,reduceIte,Zuq,Zur,YC.r0,Wu.cells]
 refine Za (Zb (Zc ?_))
 simp only [Eqs,reduceIte,Zuq,YC.r1]
 refine Za (Za (Zb (Zc ?_)))
 simp only [Eqs,reduceIte,Zuq,Zur,Zus,YC.r2]
 refine Yn rfl rfl rfl rfl rfl (by trivial) (by trivial) (by exact Zkn s b l st hb) ?_ ?_
 ·rintro d S ⟨hd,rfl⟩
  cases hd
  refine Zc ?_
  simp only [Eqs,reduceIte,Zuq]
  refine Za (Zb (Zc ?_))
  simp only [Eqs,reduceIte,Zuq,YC.r3]
  refine Ze rfl trivial (fun h1=>?_) (fun h1=>?_)
  ·have h1':¬ ZaH s (fun k=>Z8 k l)=0:=by simpa using h1
   rw [if_neg h1'] at hI
   refine Za (Zb (Zc ?_))
   simp only [Eqs,reduceIte,Zuq,Zur,Zus,YC.r4]
   refine hF.ret _ S rfl (by trivial) (Qm ?_ rfl) (Zuw _) ⟨rfl,rfl⟩
   rw [hI]; rfl
  ·have h1':ZaH s (fun k=>Z8 k l)=0:=by simpa using h1
   rw [if_pos h1'] at hI
   refine Zg (Za ?_)
   refine YJ 2 rfl fun x hx=>?_
   simp only [reduceIte,Zuq,YU,WM,delL]
   refine YJ 3 rfl fun y hy=>?_
   simp only [reduceIte,Zuq,YU,WM,delL]
   have hbx:b≠x:=fun e=>by rw [e,hx] at hb; simp at hb
   have hy':=Wp hy
   have hby:b≠y:=fun e=>by rw [e,hy'.2] at hb; simp at hb
   have hb2:((S.upd x (.cells s.cells)).upd y (.cells [.map b])) b=some (.map (Zao l)):=by rw [ZuE _ _ hby,ZuE _ _ hbx]; exact hb
   have hx2:((S.upd x (.cells s.cells)).upd y (.cells [.map b])) x=some (.cells s.cells):=by rw [ZuE _ _ hy'.1.symm]; exact ZuB _ _ _
   refine Zb (Zc ?_)
   simp only [Eqs,reduceIte,Zuq,YC.r5]
   refine Za (Zb (Zc ?_))
   simp only [Eqs,reduceIte,Zuq,YC.r6]
   refine ZbP rfl rfl rfl rfl rfl (by trivial) (by trivial) (by exact (ZdW s l true b x y _ h1' hb2 hx2 (ZuB _ _ _)).VT (first:=[]) (args:=[_]) (caps:=[_,_])) (Zc ?_)
   simp only [Eqs,reduceIte,Zuq]
   refine ZbP rfl rfl rfl rfl rfl (by trivial) (by trivial) (by exact (ZdW s l false b x y _ h1' hb2 hx2 (ZuB _ _ _)).VT (first:=[]) (args:=[_]) (caps:=[_,_])) (Zc ?_)
   simp only [Eqs,reduceIte,Zuq,Zur,Zus]
   refine hF.ret _ S rfl (by first | trivial | simp) (Qm ?_ rfl) (ZuK (Zuy _ hx) (Zuy _ hy)) ⟨rfl,rfl⟩
   rw [hI,ZrO,ZrN]; rfl
 ·rintro d S ⟨hd,_⟩
  cases hd
end Go.DL
namespace Go.Proofs
open Go.Shelf
def Tryz.growT_ren:Go.Shelf.Ren:=⟨fun | 4=>177 | n=>n,fun | 22=>49 | 25=>85 | 3=>3 | 4=>4 | 9=>9 | 20=>20 | 0=>0 | n=>n,fun | n=>n⟩
theorem Tryz.growT:Go.Proofs.Lays8.n4 Zuv Tryz.growT_ren:={
 mixed:=by kernel_rfl
 f4:=⟨Tryz.f177.name,by decide,Tryz.func177.trans (congrArg some (by kernel_rfl))⟩
 t0:=Tryz.underlying0
 a0:=Tryz.isAgg0
 z0:=Tryz.sizeOf0
 v0:=Tryz.zeroValue0
 t3:=Tryz.underlying3
 a3:=Tryz.isAgg3
 z3:=Tryz.sizeOf3
 v3:=Tryz.zeroValue3
 t4:=Tryz.underlying4
 a4:=Tryz.isAgg4
 z4:=Tryz.sizeOf4
 v4:=Tryz.zeroValue4
 t9:=Tryz.underlying9
 a9:=Tryz.isAgg9
 z9:=Tryz.sizeOf9
 v9:=Tryz.zeroValue9
 t20:=Tryz.underlying20
 a20:=Tryz.isAgg20
 z20:=Tryz.sizeOf20
 v20:=Tryz.zeroValue20
 t22:=Tryz.underlying49
 a22:=Tryz.isAgg49
 z22:=Tryz.sizeOf49
 v22:=Tryz.zeroValue49 }
end Go.Proofs
namespace Go.DL
open Go Go.Proofs Go.Lib
theorem ZgC (n:Nat) (hn:n≤1000000) (st:St):Yf Zuv 177 [.nilsl,.int .i64 n] st fun r S=>∃ t:Tok,r = .ret (.sl t 0 2 fun _=>[])∧t.okIn st∧S=st.own t 0:=by
 refine ⟨⟨_,Tryz.func177,by kernel_rfl,by kernel_rfl⟩,fun g w vs hs ha=>?_⟩
 cases ha with
 | cons h1 ha =>
 cases ha with
 | cons h2 ha =>
 cases ha
 cases h1
 cases h2
 by_cases h0:n=0
 ·subst h0
  refine (Any8.slices_Grow_room Tryz.growT none 0 0 0 w (by omega) (by omega) (by omega) (by omega)).mono ?_
  rintro e w' ⟨rfl,rfl⟩
  exact ⟨g,st,.ret (.sl .full 0 2 fun _=>[]),Ext.refl g _,hs,.sl0 _ _ _ _ (by simp),.full,rfl,trivial,rfl⟩
 ·have hz:ZbU Zuv (Tryz.growT_ren.t 25)=some [.str [],.int .i64 0]:=by kernel_rfl
  have hsz:WW Zuv (Tryz.growT_ren.t 25)=some 2:=by kernel_rfl
  have hby:Program.bytesOf Zuv (Tryz.growT_ren.t 25)=24:=by kernel_rfl
  obtain ⟨zv,hz1,hz2,hz3,ie,hie,hzz⟩:=Zdw (g:=g) (w:=w) hz
  have hsize:ie.size=2:=by simpa [WW,hie] using hsz
  have hbytes:ie.bytes=24:=by rw [← hby]; simp [Program.bytesOf,hie]
  have hzlen:zv.cells.size=2:=by have:=hz2.len; simpa using this
  refine (Any8.slices_Grow_grow Tryz.growT ie zv hie hzz (by omega) none 0 0 n [] w (by omega) (by omega) (by rw [hbytes]; omega) (by omega) (by simp) (fun _=>rfl) (fun a h=>by simp at h)).mono ?_
  rintro e w' ⟨rfl,rfl⟩
  have hge:=grownCap_ge w (0 + n) 0 (Tryz.growT_ren.t 25)
  have hle:=grownCap_le_maxLen w (0 + n) 0 (Tryz.growT_ren.t 25) (by simp only [maxLen]; omega)
  have hrr:Jr g w 2 0 [] (fun _=>[]):=⟨by simp,fun i hi=>by omega,fun i j v d hi=>by omega,by simp⟩
  have hnew:=ZnY (T:=Tryz.growT_ren.t 25) (cap:=grownCap w (0 + n) 0 (Tryz.growT_ren.t 25)) (rest:=(Builtin.zeroCells zv.cells (0 + n - 0)++Builtin.zeroCells zv.cells (grownCap w (0 + n) 0 (Tryz.growT_ren.t 25) - (0 + n))).toList) hs hrr (Nat.zero_le _) (by
   simp only [List.length_nil,Array.toList_append,ZuF,Array.length_toList,size_zeroCells,hzlen]; omega) (by simp only [maxLen] at hle; simp only [big]; omega)
  have harr:∀ A B:Array Value,(([]:List Value)++(A++B).toList).toArray=([]:List Value).toArray++A++B:=by intro A B; simp
  rw [harr] at hnew
  obtain ⟨a1,a2,a3,a4⟩:=hnew
  refine ⟨_,_,.ret (.sl (.tip w.heap.size) 0 2 fun _=>[]),a1.ext hs.fresh,a2,a4,.tip w.heap.size,rfl,a3,rfl⟩
end Go.DL
namespace Go.DL
open Go Go.Proofs
def ltC (l:List Z5):List D:=[Yj l]
theorem Zd8 {l:List (List Z5)} {i:Nat} (h:i < l.length):(l.take (i + 1)).flatten=(l.take i).flatten++l.getD i default:=by
 rw [Wz h,List.flatten_append]; simp
theorem Zbr (l:List (List Z5)) (i:Nat):(l.take i).flatten.length≤l.flatten.length:=by
 conv=>rhs; rw [← List.take_append_drop i l,List.flatten_append,ZuF]
 omega
theorem ZfK (ls:List (List Z5)) (hls:ls.length≤1000) (hb:ls.flatten.length≤1000000) (st:St):Yf Zuv Zo.id [slD 1 ltC ls] st (fun r S=>r = .ret (Yj ls.flatten)∧S=st):=by
 refine Z2 Zo.ok fun F hF=>?_
 refine Za (Zb (Zc ?_))
 simp only [Eqs,reduceCtorEq,reduceIte,Zo.r0]
 refine Za (Zb (Zc ?_))
 simp only [Eqs,reduceCtorEq,reduceIte,Zo.r1]
 refine Za (Za (Zb (Zc ?_)))
 simp only [Eqs,reduceCtorEq,reduceIte,Zuq,Zo.r2,slD]
 refine Zj (ZX ?_)
 have key:∀ (n i:Nat),(ls.length) - i=n→i≤ls.length→ZT F [.code (Zo.l0),.inLoop Zo.l0,.inBlock 0,.code (.seq (qR Zo.r9 [0,6]) (.seq (.seq (qR Zo.r10 [6,25,26,27]) (.block 2 (.loop Zo.l1))) (.seq (qR Zo.r15 [2]) .ret)))] [(0,.d (slD 1 ltC ls)),(3,.d (.int .i64 ((ls.take i).flatten.length:Nat))),(9,.d (slD 1 ltC ls)),(10,.d (.int .i64 ls.length)),(11,.d (.int .i64 i))] [] st:=by
  intro n
  induction n using Nat.strongRecOn with
  | ind n ih_key =>
  intro i hn hi
  have hfl:=Zbr ls i
  refine Za (Zb (Zc ?_))
  simp only [Eqs,reduceCtorEq,reduceIte,Zuq,Zo.r3]
  refine Za (Ze rfl trivial (fun h1=>?_) (fun h1=>?_))
  ·simp at h1
   have hsn:=congrArg List.length (Zd8 h1)
   have hfl2:=Zbr ls (i + 1)
   rw [ZuF] at hsn
   generalize hx:ls.getD i default=x at *
   refine Zg (Za (Zj (Za (Zb (Zc ?_)))))
   simp only [Eqs,reduceCtorEq,reduceIte,Zuq,Zo.r4,slD,ltC,hx]
   repeat (refine Zut (by first | omega | trivial | (intro h0; simp at h0; omega)) ?_)
   refine Za (Zb (Zc ?_))
   simp only [Eqs,reduceCtorEq,reduceIte,Zuq,Zo.r5,Yj,slD]
   repeat (refine Zut (by first | omega | trivial | (intro h0; simp at h0; omega)) ?_)
   refine Za (Zb (Zc ?_))
   simp only [Eqs,reduceCtorEq,reduceIte,Zuq,Zo.r6]
   refine Ze rfl trivial (fun h=>by simp at h; omega) (fun _=>?_)
   refine Zg (Zm (Zb (Zc ?_)))
   simp only [Eqs,reduceCtorEq,reduceIte,Zuq,Zo.r8]
   repeat (refine Zut (by first | omega | trivial | (intro h0; simp at h0; omega)) ?_)
   refine Zy ?_
   have hnext:=ih_key ((ls.length) - (i + 1)) (by omega) (i + 1) rfl (by omega)
   rw [hsn,Int.natCast_add] at hnext
   exact hnext
  ·simp at h1
   obtain rfl:i=ls.length:=by omega
   rw [ZuH]
   refine ZQ rfl (Za (Zb (Zc ?_)))
   simp only [Eqs,reduceCtorEq,reduceIte,Zuq,Zo.r9]
   refine Yn rfl rfl rfl rfl rfl (by trivial) (by trivial) (by exact ZgC ls.flatten.length hb st) ?_ ?_
   ·rintro d S ⟨tk,hd,htk,rfl⟩
    cases hd
    refine Zc ?_
    simp only [Eqs,reduceCtorEq,reduceIte,Zuq]
    refine Za (Za (Zb (Zc ?_)))
    simp only [Eqs,reduceCtorEq,reduceIte,Zuq,Zo.r10,slD]
    have hrow0:YE ZuR (fun _=>[]) []:=YE.nil
    refine Zj (ZX ?_)
    have key2:∀ (n k:Nat),(ls.length) - k=n→∀ tk row out,tk.okIn st→YE ZuR row out→out=(ls.take k).flatten→k≤ls.length→ZT F [.code (Zo.l1),.inLoop Zo.l1,.inBlock 2,.code (.seq (qR Zo.r15 [2]) .ret)] [(6,.d (.sl tk out.length 2 row)),(25,.d (slD 1 ltC ls)),(26,.d (.int .i64 ls.length)),(27,.d (.int .i64 k))] [] (st.own tk (out.length * 2)):=by
     intro n
     induction n using Nat.strongRecOn with
     | ind n ih_key2 =>
     clear htk
     intro k hnk tk row out htk hrow hout hk
     have hfl:=Zbr ls k
     rw [← hout] at hfl
     refine Za (Zb (Zc ?_))
     simp only [Eqs,reduceIte,Zuq,Zo.r11,slD]
     refine Za (Ze rfl trivial (fun h2=>?_) (fun h2=>?_))
     ·simp at h2
      have hsn:=Zd8 h2
      have hfl2:=Zbr ls (k + 1)
      rw [hsn,ZuF,← hout] at hfl2
      generalize hx:ls.getD k default=x at *
      refine Zg (Za (Zj (Za (Zb (Zc ?_)))))
      simp only [Eqs,reduceIte,Zuq,Zo.r12,ltC,hx]
      repeat (refine Zut (by first | omega | trivial | (intro h0; simp at h0; omega)) ?_)
      refine Zb (Zc ?_)
      simp only [Eqs,reduceIte,Zuq,Zo.r13,Yj,slD]
      refine JO (st) (tk) rfl rfl rfl rfl rfl rfl (by trivial) (by trivial) rfl (by first | trivial | assumption) (by omega) (by (unfold big; omega)) fun t1 ht1=>Zc ?_
      simp only [Eqs,reduceIte,Zuq]
      refine Zm (Zb (Zc ?_))
      simp only [Eqs,reduceIte,Zuq,Zo.r14]
      repeat (refine Zut (by first | omega | trivial | (intro h0; simp at h0; omega)) ?_)
      refine Zy ?_
      have hnext:=ih_key2 ((ls.length) - (k + 1)) (by omega) (k + 1) rfl t1 _ (out++x) ht1 (hrow.app (YE.self (l:=x)) rfl) (by rw [hsn,hout]) (by omega)
      rw [ZuF] at hnext
      exact hnext
     ·simp at h2
      obtain rfl:k=ls.length:=by omega
      rw [ZuH] at hout
      refine ZQ rfl (Za (Zb (Zc ?_)))
      simp only [Eqs,reduceIte,Zuq,Zo.r15]
      refine hF.ret _ st rfl (by trivial) (Zac (hrow.le rfl)) (Zl htk) ⟨by rw [hout]; rfl,rfl⟩
    exact key2 _ 0 rfl tk _ [] htk hrow0 rfl (by omega)
   ·rintro d S ⟨tk,hd,_⟩
    cases hd
 have hk:=key _ 0 rfl (by omega)
 rw [List.take_zero,List.flatten_nil] at hk
 exact hk
end Go.DL
namespace Go.DL
open Go Go.Proofs
theorem Zet:∀ (x y:List UInt8),Op.bytesLess x y=decide (x < y)
 | [],[]=>by simp [Op.bytesLess]
 | _ :: _,[]=>by simp [Op.bytesLess]
 | [],_ :: _=>by simp [Op.bytesLess]
 | a :: x,b :: y=>by
  rw [Op.bytesLess,Zet x y]
  rw [Bool.eq_iff_iff]
  simp only [ZuL,ZuA,decide_eq_true_eq,beq_iff_eq,List.cons_lt_cons_iff]
abbrev leS (x y:Str):Bool:=decide (x≤y)
def leT (a b:Z5):Prop:=a.field≤b.field
def Zeo (l:List (Str × Int)):List Z5:=((l.map (·.1)).mergeSort leS).map fun k=>⟨k,(Z8 k l).getD 0⟩
def J5 (l:List Z5):List (Str × Int):=l.map fun t=>(t.field,t.factor)
theorem Zld (l:List Z5) (t:Z5):(ZcS l t).Perm (t :: l):=by
 unfold ZcS
 have:=List.perm_middle (a:=t) (l₁:=l.take (QW t.field l)) (l₂:=l.drop (QW t.field l))
 rwa [List.take_append_drop] at this
theorem ZjN (l a:List Z5):(l.foldl ZcS a).Perm (l++a):=by
 induction l generalizing a with
 | nil=>exact .refl _
 | cons x r ih =>
  refine (ih (ZcS a x)).trans ?_
  refine ((Zld a x).append_left r).trans ?_
  exact List.perm_middle
theorem Zee (l:List Z5):(Zbu l).Perm l:=by
 have:=ZjN l []; rwa [List.append_nil] at this
theorem Znk {l:List Z5} {t:Z5} (h:l.Pairwise leT):(ZcS l t).Pairwise leT:=by
 unfold ZcS
 induction l with
 | nil=>simp [QW]
 | cons x r ih =>
  rw [List.pairwise_cons] at h
  simp only [QW]
  split
  ·rename_i hx
   rw [Zet,decide_eq_true_eq] at hx
   simp only [List.take_succ_cons,List.drop_succ_cons,List.cons_append,List.pairwise_cons]
   refine ⟨fun y hy=>?_,ih h.2⟩
   have:=((Zld r t).mem_iff (a:=y)).1 hy
   rcases List.mem_cons.1 this with rfl | hy
   ·exact List.le_of_lt hx
   ·exact h.1 y hy
  ·rename_i hx
   rw [Zet,decide_eq_true_eq,List.not_lt] at hx
   simp only [List.take_zero,List.drop_zero,List.nil_append,List.pairwise_cons]
   refine ⟨fun y hy=>?_,h⟩
   rcases List.mem_cons.1 hy with rfl | hy
   ·exact hx
   ·exact List.le_trans hx (h.1 y hy)
theorem Zic {l a:List Z5} (h:a.Pairwise leT):(l.foldl ZcS a).Pairwise leT:=by
 induction l generalizing a with
 | nil=>exact h
 | cons x r ih=>exact ih (Znk h)
theorem ZmG (l:List Z5):(Zbu l).Pairwise leT:=Zic .nil
theorem Zf5 {l:List Z5} (hn:(l.map (·.field)).Nodup) {t:Z5} (ht:t∈l):Z8 t.field (J5 l)=some t.factor :=
 Znj (by simpa [J5,Function.comp_def] using hn) (List.mem_map.2 ⟨t,ht,rfl⟩)
theorem ZoO {l:List Z5} (hn:(l.map (·.field)).Nodup):Zeo (J5 l)=Zbu l:=by
 have tr:∀ a b c:Str,leS a b=true→leS b c=true→leS a c=true:=fun a b c h1 h2=>by simp only [leS,decide_eq_true_eq] at *; exact List.le_trans h1 h2
 have to:∀ a b:Str,(leS a b || leS b a)=true:=fun a b=>by simp only [leS,ZuL,decide_eq_true_eq]; exact List.le_total a b
 have hk:(J5 l).map (·.1)=l.map (·.field):=by simp [J5,Function.comp_def]
 have hp:=List.mergeSort_perm (l.map (·.field)) leS
 have hs:=List.pairwise_mergeSort tr to (l.map (·.field))
 have hmap:(l.map (·.field)).map (fun k=>(⟨k,(Z8 k (J5 l)).getD 0⟩:Z5))=l:=by
  rw [List.map_map]
  conv=>rhs; rw [← List.map_id l]
  refine List.map_congr_left fun t ht=>?_
  simp only [Function.comp_def,Zf5 hn ht,Option.getD_some,id]
 refine List.Perm.eq_of_pairwise (le:=leT) (fun a b ha hb h1 h2=>?_) ?_ (ZmG l) ?_
 ·have ha':a∈l:=by
   unfold Zeo at ha
   rw [hk] at ha
   have:=((hp.map fun k=>(⟨k,(Z8 k (J5 l)).getD 0⟩:Z5)).mem_iff (a:=a)).1 ha
   rwa [hmap] at this
  have hb':b∈l:=((Zee l).mem_iff (a:=b)).1 hb
  have hf:a.field=b.field:=List.le_antisymm h1 h2
  have e1:=Zf5 hn ha'
  have e2:=Zf5 hn hb'
  rw [hf,e2] at e1
  cases a; cases b; simp at e1 hf; simp [hf,e1]
 ·unfold Zeo
  rw [hk]
  refine List.Pairwise.map _ (fun a b h=>?_) hs
  simpa [leT] using h
 ·unfold Zeo
  rw [hk]
  refine (hp.map _).trans ?_
  rw [hmap]; exact (Zee l).symm
end Go.DL
namespace Go.Proofs
open Go.RowKit Go.Maps Go.Sort Go.Shelf
def Tryz.keysI_ren:Go.Shelf.Ren:=⟨fun | 7=>179 | 10=>183 | n=>n,fun | 23=>128 | 26=>9 | 3=>3 | 28=>174 | 0=>0 | 27=>173 | 33=>92 | 4=>4 | n=>n,fun | n=>n⟩
theorem Tryz.keysI:Go.Proofs.SlLaysZ.n7 Zuv Tryz.keysI_ren:={
 mixed:=by kernel_rfl
 f7:=⟨Tryz.f179.name,by decide,Tryz.func179.trans (congrArg some (by kernel_rfl))⟩
 f10:=⟨Tryz.f183.name,by decide,Tryz.func183.trans (congrArg some (by kernel_rfl))⟩
 t0:=Tryz.underlying0
 a0:=Tryz.isAgg0
 z0:=Tryz.sizeOf0
 v0:=Tryz.zeroValue0
 t4:=Tryz.underlying4
 a4:=Tryz.isAgg4
 z4:=Tryz.sizeOf4
 v4:=Tryz.zeroValue4
 t23:=Tryz.underlying128
 a23:=Tryz.isAgg128
 z23:=Tryz.sizeOf128
 v23:=Tryz.zeroValue128
 t26:=Tryz.underlying9
 a26:=Tryz.isAgg9
 z26:=Tryz.sizeOf9
 v26:=Tryz.zeroValue9
 t27:=Tryz.underlying173
 a27:=Tryz.isAgg173
 z27:=Tryz.sizeOf173
 v27:=Tryz.zeroValue173
 t28:=Tryz.underlying174
 a28:=Tryz.isAgg174
 z28:=Tryz.sizeOf174
 v28:=Tryz.zeroValue174
 t33:=Tryz.underlying92
 a33:=Tryz.isAgg92
 z33:=Tryz.sizeOf92
 v33:=Tryz.zeroValue92 }
def Tryz.sortedI_ren:Go.Shelf.Ren:=⟨fun | 6=>178 | 8=>181 | 9=>182 | 11=>184 | 13=>186 | 12=>185 | 23=>196 | 24=>197 | 14=>187 | 15=>188 | 16=>189 | 17=>190 | 18=>191 | 19=>192 | 20=>193 | 21=>194 | 22=>195 | 25=>198 | 26=>199 | 27=>200 | 28=>201 | 29=>202 | 30=>203 | 31=>204 | n=>n,fun | 26=>9 | 28=>174 | 24=>96 | 0=>0 | 3=>3 | 37=>241 | 48=>251 | 50=>253 | 4=>4 | 40=>244 | 39=>243 | 45=>110 | 5=>5 | 9=>9 | 51=>254 | 55=>258 | 57=>260 | 58=>159 | 33=>92 | n=>n,fun | n=>n⟩
theorem Tryz.sortedI:Go.Proofs.SlLaysZ.n6 Zuv Tryz.sortedI_ren:={
 mixed:=by kernel_rfl
 f6:=⟨Tryz.f178.name,by decide,Tryz.func178.trans (congrArg some (by kernel_rfl))⟩
 f8:=⟨Tryz.f181.name,by decide,Tryz.func181.trans (congrArg some (by kernel_rfl))⟩
 f11:=⟨Tryz.f184.name,by decide,Tryz.func184.trans (congrArg some (by kernel_rfl))⟩
 t0:=Tryz.underlying0
 a0:=Tryz.isAgg0
 z0:=Tryz.sizeOf0
 v0:=Tryz.zeroValue0
 t24:=Tryz.underlying96
 a24:=Tryz.isAgg96
 z24:=Tryz.sizeOf96
 v24:=Tryz.zeroValue96
 t26:=Tryz.underlying9
 a26:=Tryz.isAgg9
 z26:=Tryz.sizeOf9
 v26:=Tryz.zeroValue9
 t28:=Tryz.underlying174
 a28:=Tryz.isAgg174
 z28:=Tryz.sizeOf174
 v28:=Tryz.zeroValue174
 i26:=by kernel_rfl }
def Tryz.sortI_ren:Go.Shelf.Ren:=⟨fun | 6=>182 | 8=>186 | 9=>185 | 19=>196 | 20=>197 | 21=>187 | 22=>188 | 23=>189 | 24=>190 | 25=>191 | 26=>192 | 27=>193 | 28=>194 | 29=>195 | 36=>198 | 31=>199 | 32=>200 | 37=>201 | 38=>202 | 39=>203 | 41=>204 | n=>n,fun | 27=>96 | 29=>9 | 3=>3 | 32=>241 | 26=>96 | 0=>0 | 44=>251 | 46=>253 | 4=>4 | 36=>244 | 35=>243 | 41=>110 | 5=>5 | 9=>9 | 53=>254 | 57=>258 | 63=>260 | 64=>159 | n=>n,fun | n=>n⟩
theorem Tryz.sortI:Go.Proofs.SlLaysM.n6 Zuv Tryz.sortI_ren:={
 mixed:=by kernel_rfl
 f6:=⟨Tryz.f182.name,by decide,Tryz.func182.trans (congrArg some (by kernel_rfl))⟩
 f8:=Tryz.func186.trans (congrArg some (by kernel_rfl))
 f9:=⟨Tryz.f185.name,by decide,Tryz.func185.trans (congrArg some (by kernel_rfl))⟩
 f19:=Tryz.func196.trans (congrArg some (by kernel_rfl))
 f20:=Tryz.func197.trans (congrArg some (by kernel_rfl))
 f21:=⟨Tryz.f187.name,by decide,Tryz.func187.trans (congrArg some (by kernel_rfl))⟩
 f22:=⟨Tryz.f188.name,by decide,Tryz.func188.trans (congrArg some (by kernel_rfl))⟩
 f23:=⟨Tryz.f189.name,by decide,Tryz.func189.trans (congrArg some (by kernel_rfl))⟩
 f24:=⟨Tryz.f190.name,by decide,Tryz.func190.trans (congrArg some (by kernel_rfl))⟩
 f25:=⟨Tryz.f191.name,by decide,Tryz.func191.trans (congrArg some (by kernel_rfl))⟩
 f26:=⟨Tryz.f192.name,by decide,Tryz.func192.trans (congrArg some (by kernel_rfl))⟩
 f27:=⟨Tryz.f193.name,by decide,Tryz.func193.trans (congrArg some (by kernel_rfl))⟩
 f28:=⟨Tryz.f194.name,by decide,Tryz.func194.trans (congrArg some (by kernel_rfl))⟩
 f29:=⟨Tryz.f195.name,by decide,Tryz.func195.trans (congrArg some (by kernel_rfl))⟩
 f31:=Tryz.func199.trans (congrArg some (by kernel_rfl))
 f32:=Tryz.func200.trans (congrArg some (by kernel_rfl))
 f36:=⟨Tryz.f198.name,by decide,Tryz.func198.trans (congrArg some (by kernel_rfl))⟩
 f37:=⟨Tryz.f201.name,by decide,Tryz.func201.trans (congrArg some (by kernel_rfl))⟩
 f38:=⟨Tryz.f202.name,by decide,Tryz.func202.trans (congrArg some (by kernel_rfl))⟩
 f39:=⟨Tryz.f203.name,by decide,Tryz.func203.trans (congrArg some (by kernel_rfl))⟩
 f41:=⟨Tryz.f204.name,by decide,Tryz.func204.trans (congrArg some (by kernel_rfl))⟩
 t0:=Tryz.underlying0
 a0:=Tryz.isAgg0
 z0:=Tryz.sizeOf0
 v0:=Tryz.zeroValue0
 t3:=Tryz.underlying3
 a3:=Tryz.isAgg3
 z3:=Tryz.sizeOf3
 v3:=Tryz.zeroValue3
 t4:=Tryz.underlying4
 a4:=Tryz.isAgg4
 z4:=Tryz.sizeOf4
 v4:=Tryz.zeroValue4
 t5:=Tryz.underlying5
 a5:=Tryz.isAgg5
 z5:=Tryz.sizeOf5
 v5:=Tryz.zeroValue5
 t9:=Tryz.underlying9
 a9:=Tryz.isAgg9
 z9:=Tryz.sizeOf9
 v9:=Tryz.zeroValue9
 t26:=Tryz.underlying96
 a26:=Tryz.isAgg96
 z26:=Tryz.sizeOf96
 v26:=Tryz.zeroValue96
 t27:=Tryz.underlying96
 a27:=Tryz.isAgg96
 z27:=Tryz.sizeOf96
 v27:=Tryz.zeroValue96
 t29:=Tryz.underlying9
 a29:=Tryz.isAgg9
 z29:=Tryz.sizeOf9
 v29:=Tryz.zeroValue9
 t32:=Tryz.underlying241
 a32:=Tryz.isAgg241
 z32:=Tryz.sizeOf241
 v32:=Tryz.zeroValue241
 t35:=Tryz.underlying243
 a35:=Tryz.isAgg243
 z35:=Tryz.sizeOf243
 v35:=Tryz.zeroValue243
 t36:=Tryz.underlying244
 a36:=Tryz.isAgg244
 z36:=Tryz.sizeOf244
 v36:=Tryz.zeroValue244
 t41:=Tryz.underlying110
 a41:=Tryz.isAgg110
 z41:=Tryz.sizeOf110
 v41:=Tryz.zeroValue110
 t44:=Tryz.underlying251
 a44:=Tryz.isAgg251
 z44:=Tryz.sizeOf251
 v44:=Tryz.zeroValue251
 t46:=Tryz.underlying253
 a46:=Tryz.isAgg253
 z46:=Tryz.sizeOf253
 v46:=Tryz.zeroValue253
 t53:=Tryz.underlying254
 a53:=Tryz.isAgg254
 z53:=Tryz.sizeOf254
 v53:=Tryz.zeroValue254
 t57:=Tryz.underlying258
 a57:=Tryz.isAgg258
 z57:=Tryz.sizeOf258
 v57:=Tryz.zeroValue258
 t63:=Tryz.underlying260
 a63:=Tryz.isAgg260
 z63:=Tryz.sizeOf260
 v63:=Tryz.zeroValue260
 t64:=Tryz.underlying159
 a64:=Tryz.isAgg159
 z64:=Tryz.sizeOf159
 v64:=Tryz.zeroValue159 }
theorem Tryz.sortsI (m:Nat):AnyZ.SortsIn Zuv Tryz.sortedI_ren Fence.wide m :=
  ⟨fun blk off cap ss W hH hblk hsz=>callsIn_wide.2 (AnyM.slices_Sort_string Tryz.sortI blk off cap ss W hH hblk hsz),
   fun p cap W=>callsIn_wide.2 (AnyM.slices_Sort_string_none Tryz.sortI p cap W)⟩
end Go.Proofs
namespace Go.DL
open Go Go.Proofs
theorem Zi0 (b:Nat) (st:St):Yf Zuv 179 [.map b] st fun r S=>∃ x,st x=none∧r = .ret (.fn (.func 183) [] [.ptr x 0])∧S=st.upd x (.cells [.map b]):=by
 refine ⟨⟨_,Tryz.func179,by kernel_rfl,by kernel_rfl⟩,fun g w vs hs ha=>?_⟩
 cases ha with
 | cons h1 ha =>
 cases ha
 cases h1
 refine (callsIn_wide.1 (AnyZ.keys_in Tryz.keysI Fence.wide 5 trivial rfl (some b) w)).mono ?_
 rintro e w' ⟨rfl,rfl⟩
 have hgr:=fun T=>Zdj (g:=g) (w:=w) (.cells #[.map (some b)] T) hs.fresh
 have hn:st w.heap.size=none:=by
  cases h:st w.heap.size with
  | none=>rfl
  | some o=>exact absurd (hs.obj _ o h).lt (Nat.lt_irrefl _)
 have hf:=hs.fresh w.heap.size (ZuO _)
 refine ⟨g,st.upd w.heap.size (.cells [.map b]),.ret (.fn (.func 183) [] [.ptr w.heap.size 0]),(hgr _).ext hs.fresh,(hs.grow (hgr _)).updL ⟨hf.1,#[.map (some b)],_,ZbD w _,rfl,?_,?_⟩ hf.2,?_,w.heap.size,hn,rfl,rfl⟩
 ·intro i v d hv hd
  match i,hv,hd with
  | 0,hv,hd =>
   simp at hv hd
   subst hv; subst hd
   exact .map b
  | i + 1,hv,hd=>simp at hd
 ·intro v hv
  simp at hv; subst hv; rfl
 ·refine .fn (.func 183) [] [.pointer (some ⟨w.heap.size,0,none⟩)] [] [.ptr w.heap.size 0] rfl rfl (by simp) ?_
  intro i v d hv hd
  match i,hv,hd with
  | 0,hv,hd =>
   simp at hv hd
   subst hv; subst hd
   exact .ptr _ _
  | i + 1,hv,hd=>simp at hd
def Zl6 (_:Value):Option (DataW Unit × List MemPlace):=some (.nil,[])
theorem ZqD {g:G} {w:World} {b:Nat} {l:List (Str × Int)} (h:Jk g w b (.map (Jv JU JS l))) (hn:(l.map (·.1)).Nodup) (hl:l.length≤1000) {k:TypeId} (hk:Program.underlying Zuv k=some .string) :
  ∃ D0:DataW Unit,w.ownsMap Zuv k Zl6 b l.length D0∧Maps.size D0=l.length∧(strKeys D0).Perm (l.map (·.1))∧∀ s∈l.map (·.1),s.length≤big:=by
 obtain ⟨hp0,en,clock,hh,hsz,hkey,_,hb1,hb2⟩:=h
 have hsz':en.size=l.length:=by simpa [Jv] using hsz
 have hkk:∀ i (hi:i < l.length),∃ s:ByteArray,(en[i]'(by omega)).key = .string s∧s.data.toList=(l[i]).1∧(l[i]).1.length≤big:=fun i hi=>by
  have:=hkey i (en[i]'(by omega)) (JU l[i].1,JS l[i].2) (by simp [hsz',hi]) (by simp [Jv,hi])
  simp only [JU] at this
  generalize (en[i]'(by omega)).key=v at this
  cases this with
  | str s _ h1 h2=>exact ⟨s,rfl,h1,h2⟩
 have hkeys:en.toList.map (·.key)=l.map fun e=>encStr e.1:=by
  apply List.ext_getElem
  ·simp [hsz']
  ·intro i h1 h2
   simp at h1 h2
   obtain ⟨s,e1,e2,_⟩:=hkk i h2
   simp only [List.getElem_map,Array.getElem_toList,e1,encStr,← e2]
 have hrd:∀ i (hi:i < l.length),WideElems.rd Zuv k Zl6 (en[i]'(by omega))=some (.string (l[i]).1,.nil):=fun i hi=>by
  obtain ⟨s,e1,e2,e3⟩:=hkk i hi
  unfold WideElems.rd keyOf mapKey Zl6
  have hms:s.size≤maxLen:=by
   have:s.size=s.data.toList.length:=by rw [Array.length_toList]; rfl
   rw [this,e2]; exact e3
  simp [hk,e1,hms,e2]
 have hrg:en.toList.map (WideElems.rg Zuv k Zl6)=l.map fun e=>((.string e.1,.nil):Lit × DataW Unit):=by
  apply List.ext_getElem
  ·simp [hsz']
  ·intro i h1 h2
   simp at h1 h2
   simp only [List.getElem_map,Array.getElem_toList,WideElems.rg,hrd i h2,Option.getD_some]
 have hfit:WideElems.Fit Zuv k Zl6 en clock:=by
  refine ⟨by simp only [maxLen]; omega,⟨fun e he=>?_,?_,?_⟩,fun e he=>?_⟩
  ·obtain ⟨i,hi,rfl⟩:=ZuJ he
   exact hb2 i _ (by simp at hi; simp [hi])
  ·refine List.pairwise_map.2 (List.pairwise_iff_getElem.2 fun i j hi hj hij e=>?_)
   have:=hb1 i j _ _ (by simp at hi; simp [hi]) (by simp at hj; simp [hj]) e
   omega
  ·rw [hkeys]
   have h0:((l.map (·.1)).map encStr).Nodup:=List.pairwise_map.2 (hn.imp fun hne e=>hne (by simpa [encStr] using e))
   simpa [Function.comp_def] using h0
  ·obtain ⟨i,hi,rfl⟩:=ZuJ he
   simp at hi
   exact ⟨_,by rw [Array.getElem_toList]; exact hrd i (by omega)⟩
 refine ⟨_,⟨en,clock,hh,hfit,by omega,rfl⟩,?_,?_,fun s hs=>?_⟩
 ·show (List.foldr DataW.insert [] _).length=_
  rw [(WideShapes.sorted_perm _).length_eq]; simp [hsz']
 ·show (List.map (fun p=>strOf p.1) (List.foldr DataW.insert [] _)).Perm _
  refine ((WideShapes.sorted_perm _).map _).trans ?_
  rw [hrg,List.map_map]
  exact .of_eq (List.map_congr_left fun e _=>rfl)
 ·obtain ⟨e,he,rfl⟩:=List.mem_map.1 hs
  obtain ⟨i,hi,rfl⟩:=ZuJ he
  obtain ⟨_,_,_,h⟩:=hkk i hi
  exact h
theorem ZeU (b x:Nat) (l:List (Str × Int)) (hn:(l.map (·.1)).Nodup) (hl:l.length≤1000) (st:St) (hb:st b=some (.map (Jv JU JS l))) (hx:st x=some (.cells [.map b])) :
  Yf Zuv 178 [.fn (.func 183) [] [.ptr x 0]] st fun r S=>r = .ret (slD 1 Q5 ((l.map (·.1)).mergeSort leS))∧S=st:=by
 refine ⟨⟨_,Tryz.func178,by kernel_rfl,by kernel_rfl⟩,fun g w vs hs ha=>?_⟩
 cases ha with
 | cons h1 ha =>
 cases ha
 cases h1 with
 | fn _ fs cs' _ _ hn1 hn2 hf hc =>
 obtain rfl:fs=[]:=by simpa using hn1
 have hcs:cs'=[.pointer (some ⟨x,0,none⟩)]:=by
  match cs',hn2 with
  | [c],_ =>
   have:=hc 0 c (.ptr x 0) rfl rfl
   cases this; rfl
 subst hcs
 obtain ⟨D0,hown,hsize,hperm,hlen⟩:=ZqD (hs.obj b _ hb) hn hl (k:=Tryz.keysI_ren.t 26) (by kernel_rfl)
 obtain ⟨hp0,cur,T,h1,h2,h3,h4⟩:=hs.obj x _ hx
 have hcur:cur[0]? = some (.map (some b)):=by
  have h0:0 < cur.size:=by rw [h2]; simp
  have:=h3 0 cur[0] (.map b) (by simp [h0]) rfl
  rw [Array.getElem?_eq_getElem h0]
  generalize cur[0]=v at this
  cases this; rfl
 have hm:w.cell? ⟨x,0,none⟩=some (.map (some b)):=by rw [Zcu h1]; exact hcur
 have hxl:=(hs.obj x _ hx).lt
 have hseq:SeqGives Fence.wide 2 Zuv 183 #[.pointer (some ⟨x,0,none⟩)] encStr (fun ss=>ss.Perm (strKeys D0)) (Maps.size D0) w :=
  AnyZ.keys_gives (ρ:=Tryz.keysI_ren) { Tryz.keysI with } Fence.wide _ trivial rfl (by omega) x b l.length D0 w hxl hm hown
 refine (callsIn_wide.1 (AnyZ.sorted_in Tryz.sortedI Fence.wide 5 trivial trivial trivial trivial rfl (by omega) (Tryz.sortsI _) (enters_of Tryz.func182 (by kernel_rfl) rfl) 183 #[.pointer (some ⟨x,0,none⟩)] trivial (enters_of Tryz.func183 (by kernel_rfl) rfl) _ (Maps.size D0) (by rw [hsize]; simp only [maxLen]; omega) (by rw [hsize]; omega) w hseq)).mono ?_
 rintro e w' ⟨v,ss,rfl,hS,hrow,_,hbel⟩
 have hss:ss.mergeSort (fun x y=>decide (x≤y))=(l.map (·.1)).mergeSort leS:=mergeSort_of_perm (hS.trans hperm)
 rw [hss] at hrow
 have hsl:ss.length=((l.map (·.1)).mergeSort leS).length:=by rw [List.length_mergeSort,(hS.trans hperm).length_eq]
 have hkl:∀ s∈(l.map (·.1)).mergeSort leS,s.length≤big:=fun s hs=>hlen s ((List.mergeSort_perm _ leS).mem_iff.1 hs)
 have hkn:((l.map (·.1)).mergeSort leS).length≤1000:=by rw [List.length_mergeSort]; simpa using hl
 rw [hsl] at hrow
 generalize (l.map (·.1)).mergeSort leS=ks at *
 obtain ⟨hx1,hrow⟩:=hrow
 rcases hrow with ⟨rfl,hz⟩ | ⟨gb,cap,cu,rfl,hge,hgb,hcap,hmax,hcsz,htk⟩
 ·have hg:ZbB g w g w':=⟨hbel.size,fun c hc=>hbel.block c hc,fun _ _=>rfl,fun c hc=>(hs.fresh c (Nat.le_trans hbel.size hc)).1,rfl,hbel.os,hbel.output,hbel.tape⟩
  have hks:ks=[]:=List.eq_nil_of_length_eq_zero hz
  subst hks
  exact ⟨g,st,.ret (slD 1 Q5 []),hg.ext hs.fresh,hs.grow hg,.sl0 _ _ _ _ (by simp),rfl,rfl⟩
 ·have hgl:gb < w'.heap.size:=(Array.getElem?_eq_some_iff.1 hgb).1
  have hg:ZbB g w (ZaZ g gb (ks.length * 1)) w':=⟨hbel.size,fun c hc=>hbel.block c hc,fun c hc=>by simp only [ZaZ,show ¬ c=gb by omega,if_false],fun c hc=>by simp only [ZaZ,show ¬ c=gb by omega,if_false]; exact (hs.fresh c (Nat.le_trans hbel.size hc)).1,rfl,hbel.os,hbel.output,hbel.tape⟩
  have hrr:Jr (ZaZ g gb (ks.length * 1)) w' 1 ks.length (ks.map encStr) (fun i=>Q5 (ks.getD i default)):=by
   refine ⟨by simp,fun i hi=>rfl,fun i j v d hi hj hv hd=>?_,fun v hv=>?_⟩
   ·obtain rfl:j=0:=by omega
    simp only [Nat.mul_one,Nat.add_zero,List.getElem?_map,ZuC] at hv
    obtain ⟨s,hs1,rfl⟩:=hv
    have hsd:ks.getD i default=s:=by simp [List.getD,hs1]
    rw [hsd] at hd
    simp only [Q5,List.getElem?_cons_zero,Zuu] at hd
    subst hd
    exact .str _ _ (by simp [encStr]) (hkl s (List.mem_of_getElem? hs1))
   ·obtain ⟨s,_,rfl⟩:=List.mem_map.1 hv
    rfl
  have hrep:=Zgg hrr hgb (by rw [htk]) hcap (by rw [hcsz]; exact ZuO _) (by simp [ZaZ]) (by simp only [maxLen] at hmax; simp only [big]; omega)
  exact ⟨ZaZ g gb (ks.length * 1),st,.ret (slD 1 Q5 ks),hg.ext hs.fresh,hs.grow hg,ZhH _ _ _ hrep,rfl,rfl⟩
end Go.DL
