/- Lemmas: S33, S34, S35, L01, L02, L03. -/
import Derived.Test.YtmnhlhenahlilaaGreatT05
set_option maxHeartbeats 16000000
set_option linter.all false
open And renaming intro → Zut
open Bool renaming and_eq_true → ZuA
open Go.DL.D.Le renaming refl → Zux
open Go.DL.Dfn renaming cells → ZuM
open Go.DL.Fld renaming cells → ZuD
open Go.DL.Msg renaming cells → ZuG
open Go.DL.St renaming single → ZuN, sub_refl → Zuw, sub_trans → ZuK, sub_upd → Zuy, upd_ne → ZuE, upd_same → ZuB, upd_upd → ZuQ
open Go.DL.Z5 renaming cells → ZuR
open Go.Proofs.Tryz renaming prog → Zuv
open List renaming length_append → ZuF, length_cons → ZuI, take_length → ZuH
open Nat renaming reduceAdd → Zur, reduceEqDiff → Zuq, reduceLeDiff → Zus
namespace Go.DL
open Go Go.Proofs
theorem Zat (l:List Dif) (st:St):Yf Zuv Y2.id [Q6 l] st fun r S=>∃ x,st x=none∧r = .ret (.fn (.func 40) [] [.ptr x 0])∧S=st.or (ZuN x (.cells [Q6 l])):=by
 refine Z2 Y2.ok fun F hF=>?_
 refine Za (Zb (Zc ?_))
 simp only [Eqs,reduceCtorEq,reduceIte,Zuq,Y2.r0,Q6,slD]
 refine Za ?_
 refine YJ 1 rfl fun x hx=>?_
 simp only [reduceIte,YU,WM,delL]
 refine Zb (Zc ?_)
 simp only [Eqs,reduceIte,Zuq,Y2.r1]
 exact hF.ret _ _ rfl (by trivial) (Zux _) (Zuw _) ⟨x,hx,rfl,J2 hx⟩
theorem Zko (l:List Dif) (hl:l.length≤big) (x:Nat):Zcj Zuv (.fn (.func 40) [] [.ptr x 0]) l.length (fun j=>[.int .i64 j,.agg (l.getD j default).cells]) (ZuN x (.cells [Q6 l])):=by
 intro y go A a0 hcons hA hd
 have hw:=hl
 unfold big at hw
 refine Yf.V (first:=[]) (args:=[y]) (caps:=[.ptr x 0]) (Z2 ZV.ok fun F hF=>?_)
 have hx:∀ a,WX a (ZuN x (.cells [Q6 l]))→(a.or (ZuN x (.cells [Q6 l]))) x=some (.cells [Q6 l]):=fun a hda=>by
  rw [YR (hda x _ (Qh _ _)),Qh]
 generalize hT:ZuN x (.cells [Q6 l])=T at *
 refine Za (Zb (Zc ?_))
 simp only [Eqs,reduceCtorEq,reduceIte,Zuq,Zur,ZV.r0,hx a0 hd,Q6,slD]
 refine Zj (ZX ?_)
 have key:∀ (n i:Nat),(l.length) - i=n→∀ a,A i a→WX a T→(∀ j,j < i→go j = .next)→i≤l.length→ZT F [.code (ZV.l0),.inLoop ZV.l0,.inBlock 0] [(0,.d y),(5,.d (Q6 l)),(6,.d (.int .i64 l.length)),(7,.d (.int .i64 i))] [] (a.or T):=by
  intro n
  induction n using Nat.strongRecOn with
  | ind n ih_key =>
  clear hA hd
  intro i hn a hA hd hno hi
  refine Za (Zb (Zc ?_))
  simp only [Eqs,reduceCtorEq,reduceIte,Zuq,ZV.r1]
  refine Za (Ze rfl trivial (fun h1=>?_) (fun h1=>?_))
  ·simp at h1
   have hcall:=(hcons i h1 hno a hA).frame hd
   refine Zg (Za (Zj (Za (Zb (Zc ?_)))))
   simp only [Eqs,reduceCtorEq,reduceIte,Zuq,Zur,Zus,ZV.r2,Q6,slD,Dif.cells]
   repeat (refine Zut (by first | omega | trivial | (intro h0; simp at h0; omega)) ?_)
   refine Za (Zb (Zc ?_))
   simp only [Eqs,reduceCtorEq,reduceIte,Zuq,Zur,Zus,ZV.r3]
   rw [show (D.agg [.str (l.getD i default).path,.int .i64 (l.getD i default).code]) = .agg (l.getD i default).cells from rfl]
   refine ZbA rfl rfl rfl rfl rfl (by trivial) (by trivial) (by exact hcall) ?_ ?_
   ·rintro dv S ⟨s',⟨hr,hA'⟩,hd',rfl⟩
    cases hgo:go i with
    | next =>
     rw [hgo] at hr
     cases hr
     refine Zc ?_
     simp only [Eqs,reduceCtorEq,reduceIte,Zuq]
     refine Ze rfl trivial (fun h=>by simp at h) (fun _=>?_)
     refine Zg (Zm (Zb (Zc ?_)))
     simp only [Eqs,reduceCtorEq,reduceIte,Zuq,ZV.r4]
     repeat (refine Zut (by first | omega | trivial | (intro h0; simp at h0; omega)) ?_)
     refine Zy ?_
     exact ih_key ((l.length) - (i + 1)) (by omega) (i + 1) rfl s' hA' hd' (K4 (q:=fun i=>go i = .next) hno hgo) (by omega)
    | stop c =>
     rw [hgo] at hr
     cases hr
     refine Zc ?_
     simp only [Eqs,reduceCtorEq,reduceIte,Zuq]
     refine Ze rfl trivial (fun _=>?_) (fun h=>by simp at h)
     exact hF.ret (.tup []) _ rfl trivial (Zux _) (Zuw _) ⟨s',.stop _ c h1 hno hgo hA',Jf _ _⟩
    | pan d=>rw [hgo] at hr; cases hr
   ·rintro dv S ⟨s',⟨hr,hA'⟩,hd',rfl⟩
    cases hgo:go i with
    | pan d' =>
     rw [hgo] at hr
     cases hr
     exact hF.pan _ (Zuw _) ⟨s',.pan _ dv h1 hno hgo hA',Jf _ _⟩
    | next=>rw [hgo] at hr; cases hr
    | stop c=>rw [hgo] at hr; cases hr
  ·simp at h1
   obtain rfl:i=l.length:=by omega
   refine ZQ rfl ?_
   exact hF.fin (.tup []) _ rfl trivial (Zux _) (Zuw _) ⟨a,.all hno hA,Jf _ _⟩
 exact key _ 0 rfl a0 hA hd (by intro i hi; omega) (by omega)
theorem Zl5 {w r:Dfn} (hw:QB w) (hr:QB r):(KZ w r).length≤200000:=by
 unfold KZ
 split
 ·simp
 ·have h:=Zb3 (r:=r) hw.fields (w.msgs.length + 1) [] w.start r.start [] ⟨by simp,by simp⟩
  have h1:=h.more
  have h2:=h.ok.few
  have h3:=hw.many
  have h4:=hr.many
  have h5:(w.msgs.length + 1) * (r.msgs.length + 1)≤61 * 61:=Nat.mul_le_mul (by omega) (by omega)
  simp only [List.length_nil] at h1
  omega
def Zfb (w r:Dfn):List Dif:=if Wt w && Wt r then KZ w r else []
theorem Zqa (w r:Dfn):(Zfb w r).length≤200000:=by
 unfold Zfb
 split
 ·rename_i h
  rw [ZuA] at h
  exact Zl5 (ZcE h.1) (ZcE h.2)
 ·simp
theorem Zlx (w r:Dfn) (st:St):Yf Zuv WO.id [.agg w.cells,.agg r.cells] st fun q S=>∃ x,st x=none∧q = .ret (.fn (.func 40) [] [.ptr x 0])∧S=st.or (ZuN x (.cells [Q6 (Zfb w r)])):=by
 refine Z2 WO.ok fun F hF=>?_
 have hS:=Zfb.eq_1 w r
 have h1:=JW w st
 have h2:=JW r st
 refine Za (Zb (Zc ?_))
 simp only [Eqs,reduceCtorEq,reduceIte,Zuq,Zur,WO.r0,ZuM]
 refine Za (Zb (Zc ?_))
 simp only [Eqs,reduceIte,Zuq,WO.r1]
 refine Za (Za (Zb (Zc ?_)))
 simp only [Eqs,reduceIte,Zuq,Zur,Zus,WO.r2]
 rw [show (D.agg [.str w.name,We w.msgs,.str w.start]) = .agg w.cells from rfl]
 by_cases hv:(Wt w && Wt r)=true
 ·rw [if_pos hv] at hS
  rw [ZuA] at hv
  have hvw:=ZcE hv.1
  have hvr:=ZcE hv.2
  rw [hv.1] at h1
  rw [hv.2] at h2
  refine Wn rfl rfl rfl rfl rfl (by trivial) (by trivial) (by exact h1) (Zc ?_)
  simp only [Eqs,reduceIte,Zuq,Zur,Zus,ZuM]
  rw [show (D.agg [.str r.name,We r.msgs,.str r.start]) = .agg r.cells from rfl]
  refine Wn rfl rfl rfl rfl rfl (by trivial) (by trivial) (by exact h2) (Zc ?_)
  simp only [Eqs,reduceIte,Zuq]
  refine Ze rfl trivial (fun _=>?_) (fun h=>by simp at h)
  refine Zb (Zc ?_)
  simp only [Eqs,reduceIte,Zuq,Zur,Zus,WO.r3]
  rw [show (D.agg [.str w.name,We w.msgs,.str w.start]) = .agg w.cells from rfl,show (D.agg [.str r.name,We r.msgs,.str r.start]) = .agg r.cells from rfl]
  refine Yn rfl rfl rfl rfl rfl (by trivial) (by trivial) (by exact Zcw w r st) ?_ ?_
  ·rintro dv S ⟨z2,z3,n2,n3,hne,hq,rfl⟩
   cases hq
   refine Zc ?_
   simp only [Eqs]
   refine Yn rfl rfl rfl rfl rfl (by trivial) (by trivial) (by exact Zdp (KZ w r) (Nat.le_trans (Zl5 hvw hvr) (by omega)) (Zmr n2 n3) (ZbW hvw hvr hne)) ?_ ?_
   ·rintro dv S ⟨hq,rfl⟩
    cases hq
    refine Zc ?_
    simp only [Eqs,reduceIte,Zuq]
    refine Za (Zb (Zc ?_))
    simp only [Eqs,reduceIte,WO.r4]
    refine Yn rfl rfl rfl rfl rfl (by trivial) (by trivial) (by exact Zat (KZ w r) S) ?_ ?_
    ·rintro dv S2 ⟨x,hx,hq,rfl⟩
     cases hq
     refine Zc ?_
     simp only [Eqs,reduceIte,Zuq]
     exact hF.ret _ _ rfl (by trivial) (Zux _) (Zuw _) ⟨x,hx,rfl,by rw [hS]⟩
    ·rintro dv S2 ⟨x,hx,hq,_⟩
     cases hq
   ·rintro dv S ⟨hq,_⟩
    cases hq
  ·rintro dv S ⟨z2,z3,n2,n3,hne,hq,_⟩
   cases hq
 ·rw [if_neg hv] at hS
  by_cases hvw:Wt w=true
  ·have hvr:Wt r=false:=by simpa [hvw] using hv
   rw [hvw] at h1
   rw [hvr] at h2
   refine Wn rfl rfl rfl rfl rfl (by trivial) (by trivial) (by exact h1) (Zc ?_)
   simp only [Eqs,reduceIte,Zuq,Zur,Zus,ZuM]
   rw [show (D.agg [.str r.name,We r.msgs,.str r.start]) = .agg r.cells from rfl]
   refine Wn rfl rfl rfl rfl rfl (by trivial) (by trivial) (by exact h2) (Zc ?_)
   simp only [Eqs,reduceIte,Zuq]
   refine Ze rfl trivial (fun h=>by simp at h) (fun _=>?_)
   refine Zg ?_
   refine Za (Zb (Zc ?_))
   simp only [Eqs,reduceIte,Zuq,WO.r4]
   refine Yn rfl rfl rfl rfl rfl (by trivial) (by trivial) (by exact (Yf.leA (LeC.one (Qa (by simp))) (Zat [] st))) ?_ ?_
   ·rintro dv S2 ⟨x,hx,hq,rfl⟩
    cases hq
    refine Zc ?_
    simp only [Eqs,reduceIte,Zuq]
    exact hF.ret _ _ rfl (by trivial) (Zux _) (Zuw _) ⟨x,hx,rfl,by rw [hS]⟩
   ·rintro dv S2 ⟨x,hx,hq,_⟩
    cases hq
  ·have hvw2:Wt w=false:=by simpa using hvw
   rw [hvw2] at h1
   refine Wn rfl rfl rfl rfl rfl (by trivial) (by trivial) (by exact h1) (Zc ?_)
   simp only [Eqs,reduceIte,Zuq,Zur,Zus,ZuM]
   refine Zbl rfl (e:=.d (.bool false)) (Zc ?_)
   simp only [Eqs,reduceIte,Zuq]
   refine Ze rfl trivial (fun h=>by simp at h) (fun _=>?_)
   refine Zg ?_
   refine Za (Zb (Zc ?_))
   simp only [Eqs,reduceIte,Zuq,WO.r4]
   refine Yn rfl rfl rfl rfl rfl (by trivial) (by trivial) (by exact (Yf.leA (LeC.one (Qa (by simp))) (Zat [] st))) ?_ ?_
   ·rintro dv S2 ⟨x,hx,hq,rfl⟩
    cases hq
    refine Zc ?_
    simp only [Eqs,reduceIte,Zuq]
    exact hF.ret _ _ rfl (by trivial) (Zux _) (Zuw _) ⟨x,hx,rfl,by rw [hS]⟩
   ·rintro dv S2 ⟨x,hx,hq,_⟩
    cases hq
end Go.DL
namespace Go.DL
open Go Go.Proofs
abbrev bC (b:Bool):List D:=[.bool b]
abbrev Zsn (l:List Bool):List D:=[slD 1 bC l]
def ZlQ (l:List (List Bool)):D:=slD 1 Zsn l
def Zgb (l:List Dfn):List (List Bool):=if l.all Wt then l.map fun w=>l.map fun r=>Zap w r else []
def ZqE (l:List Dfn):Int:=if l.all Wt then 0 else 2
def Zes (l:List Bool):List D:=l.map .bool
theorem Ziq (l:List Bool):(Zes l).length=l.length:=by simp [Zes]
theorem Zop (n:Nat):ZbV [.bool false] n=Zes (List.replicate n false):=by
 unfold ZbV Zes
 induction n with
 | zero=>rfl
 | succ n ih=>rw [List.replicate_succ,List.flatten_cons,ih,List.replicate_succ]; rfl
theorem Zqf {l:List Bool} {i:Nat} {v:Bool} (h:i < l.length):List.take i (Zes l)++[.bool v]++List.drop (i + 1) (Zes l)=Zes (l.set i v):=by
 unfold Zes
 rw [List.map_set,List.set_eq_take_append_cons_drop,if_pos (by simpa using h)]
 simp
theorem Zr6 {w r:Dfn} (h:Zdg w r=0):Wt w=true∧Wt r=true:=by
 unfold Zdg at h
 split at h
 ·rename_i h1; rw [ZuA] at h1; exact h1
 ·omega
theorem Zn4 (w r:Dfn):Zdg w r=0∨Zdg w r=2:=by unfold Zdg; split <;> simp
theorem ZqU {l r:List Bool} {i:Nat} {v w:Bool} (h:l.length=i):(l++v :: r).set i w=l++w :: r:=by
 subst h; simp [List.set_append]
theorem ZiQ (l:List Dfn) (hl:l.length≤1000) (st:St):Yf Zuv Zw.id [Zbq l] st fun q S=>q = .ret (.tup [ZlQ (Zgb l),.int .i64 (ZqE l)])∧S=st:=by
 refine Z2 Zw.ok fun F hF=>?_
 have hS:=Zgb.eq_1 l
 have hE:=ZqE.eq_1 l
 refine Za (Zb (Zc ?_))
 simp only [Eqs,reduceCtorEq,reduceIte,Zw.r0]
 refine Za (Zb (Zc ?_))
 simp only [Eqs,reduceCtorEq,reduceIte,Zw.r1]
 refine Za (Za (Zb (Zc ?_)))
 simp only [Eqs,reduceCtorEq,reduceIte,Zuq,Zw.r2,Zbq,slD]
 refine Ku (s':=st) (by first | exact Zuw _ | exact Zl (by first | trivial | assumption) | exact ZuK (Zl (by first | trivial | assumption)) (Zl (by first | trivial | assumption)) | assumption) (Qz (ρ':=[(0,.d (Zbq l)),(4,.d (.sl .full 0 1 fun _=>[])),(12,.d (Zbq l)),(13,.d (.int .i64 l.length)),(14,.d (.int .i64 (0:Nat)))]) (L':=[]) ?_ ?_ ?_)
 ·exact .skip (.cons (.d (Qa fun b h=>by cases h)) (.skip (.skip (.skip .nil))))
 ·exact Q9 _
 refine Zj (ZX ?_)
 have key:∀ (n i:Nat),(l.length) - i=n→∀ tk row out,tk.okIn st→YE Zsn row out→out=(l.take i).map (fun w=>l.map fun r=>Zap w r)→(0 < i→l.all Wt=true)→i≤l.length→ZT F [.code (Zw.l0),.inLoop Zw.l0,.inBlock 0,.code (.seq (qR Zw.r16 [2,3]) .ret)] [(0,.d (Zbq l)),(4,.d (.sl tk out.length 1 row)),(12,.d (Zbq l)),(13,.d (.int .i64 l.length)),(14,.d (.int .i64 i))] [] (st.own tk (out.length * 1)):=by
  intro n
  induction n using Nat.strongRecOn with
  | ind n ih_key =>
  intro i hn tk row out htk hrow hout hval hi
  have hol:out.length=i:=by rw [hout]; simp; omega
  refine Za (Zb (Zc ?_))
  simp only [Eqs,reduceCtorEq,reduceIte,Zuq,Zw.r3]
  refine Za (Ze rfl trivial (fun h1=>?_) (fun h1=>?_))
  ·simp at h1
   generalize hw:l.getD i default=w at *
   refine Zg (Za (Zj (Za (Zb (Zc ?_)))))
   simp only [Eqs,reduceCtorEq,reduceIte,Zuq,Zur,Zus,Zw.r4,Zbq,slD,ZuM,hw]
   repeat (refine Zut (by first | omega | trivial | (intro h0; simp at h0; omega)) ?_)
   refine Za (Zb (Zc ?_))
   simp only [Eqs,reduceCtorEq,reduceIte,Zuq,Zw.r5]
   refine ⟨by omega,by omega,by omega,by unfold big; omega,fun b hb=>?_⟩
   simp only [Zop]
   rw [show List.replicate l.length false=[]++List.replicate (l.length - 0) false by simp]
   refine Za (Za (Zb (Zc ?_)))
   simp only [Eqs,reduceCtorEq,reduceIte,Zuq,Zw.r6]
   refine Zj (ZX ?_)
   have key2:∀ (n k:Nat),(l.length) - k=n→∀ bs,bs=(l.take k).map (fun r=>Zap w r)→(l.take k).all Wt=true→(0 < k→Wt w=true)→k≤l.length→ZT F [.code (Zw.l1),.inLoop Zw.l1,.inBlock 2,.code (qR Zw.r14 [0,4,12,13,14]),.inBlock 1,.code (qR Zw.r15 [0,4,12,13,14]),.inLoop Zw.l0,.inBlock 0,.code (.seq (qR Zw.r16 [2,3]) .ret)] [(0,.d (Zbq l)),(4,.d (.sl tk out.length 1 row)),(6,.loc 6 0),(7,.d (.msl b 0 l.length l.length 1)),(12,.d (Zbq l)),(13,.d (.int .i64 l.length)),(14,.d (.int .i64 i)),(21,.d (Zbq l)),(22,.d (.int .i64 l.length)),(23,.d (.int .i64 k))] [(6,w.cells)] ((st.own tk (out.length * 1)).upd b (.cells (Zes (bs++List.replicate (l.length - k) false)))):=by
    intro n
    induction n using Nat.strongRecOn with
    | ind n ih_key2 =>
    intro k hnk bs hbs hvk hvw hk
    have hbl:bs.length=k:=by rw [hbs]; simp; omega
    refine Za (Zb (Zc ?_))
    simp only [Eqs,reduceCtorEq,reduceIte,Zuq,Zw.r7]
    refine Za (Ze rfl trivial (fun h2=>?_) (fun h2=>?_))
    ·simp at h2
     have hsn:=Zdd (p:=Wt) h2
     have htk2:=Wz h2
     have hmem:=Ki h2
     generalize hr:l.getD k default=r at *
     refine Zg (Za (Zj (Za (Zb (Zc ?_)))))
     simp only [Eqs,reduceCtorEq,reduceIte,Zuq,Zur,Zus,Zw.r8,Zbq,slD,ZuM,hr]
     repeat (refine Zut (by first | omega | trivial | (intro h0; simp at h0; omega)) ?_)
     refine Za (Zb (Zc ?_))
     simp only [Eqs,reduceCtorEq,reduceIte,Zuq,Zur,Zus,Zw.r9]
     rw [show (D.agg [.str w.name,We w.msgs,.str w.start]) = .agg w.cells from rfl,show (D.agg [.str r.name,We r.msgs,.str r.start]) = .agg r.cells from rfl]
     refine Wn rfl rfl rfl rfl rfl (by trivial) (by trivial) (by exact ZcM w r _) (Zc ?_)
     simp only [Eqs,reduceCtorEq,reduceIte,Zuq]
     refine Za (Za (Zb (Zc ?_)))
     simp only [Eqs,reduceCtorEq,reduceIte,Zuq,Zw.r10]
     refine Ze rfl trivial (fun h3=>?_) (fun h3=>?_)
     ·have he:Zdg w r=2:=by rcases Zn4 w r with h | h <;> simp_all
      have hnv:l.all Wt=false:=by
       refine Bool.eq_false_iff.2 fun hc=>?_
       have hw1:=List.all_eq_true.1 hc w (hw ▸ Ki h1)
       have hr1:=List.all_eq_true.1 hc r hmem
       unfold Zdg at he
       rw [hw1,hr1] at he; simp at he
      rw [hnv] at hS hE
      refine Za (Zb (Zc ?_))
      simp only [Eqs,reduceCtorEq,reduceIte,Zuq,Zw.r11]
      rw [he]
      exact hF.ret (.tup [ZlQ [],.int .i64 2]) st rfl (by trivial) (Zel rfl (.cons (Qa (by simp)) (LeC.refl _))) (ZuK (Zl htk) (Zuy _ hb)) ⟨by rw [hS,hE]; rfl,rfl⟩
     ·have he:Zdg w r=0:=by rcases Zn4 w r with h | h <;> simp_all
      have hvv:=Zr6 he
      have hrep:List.replicate (l.length - k) false=false :: List.replicate (l.length - (k + 1)) false:=by
       rw [show l.length - k=(l.length - (k + 1)) + 1 by omega,List.replicate_succ]
      rw [hrep]
      have hcl:(Zes (bs++false :: List.replicate (l.length - (k + 1)) false)).length=l.length:=by
       rw [Ziq]; simp; omega
      refine Zg ?_
      refine Zb (Zc ?_)
      simp only [Eqs,reduceCtorEq,reduceIte,Zuq,Zw.r12,hcl,ZuB,ZuQ,Nat.mul_one k]
      repeat (refine Zut (by first | omega | trivial | (intro h0; simp at h0; omega)) ?_)
      rw [Zqf (by rw [ZuF,ZuI]; omega),ZqU hbl]
      rw [show bs++Zap w r :: List.replicate (l.length - (k + 1)) false=(bs++[Zap w r])++List.replicate (l.length - (k + 1)) false by simp]
      refine Zm (Zb (Zc ?_))
      simp only [Eqs,reduceCtorEq,reduceIte,Zuq,Zw.r13]
      repeat (refine Zut (by first | omega | trivial | (intro h0; simp at h0; omega)) ?_)
      refine Zy ?_
      exact ih_key2 ((l.length) - (k + 1)) (by omega) (k + 1) rfl (bs++[Zap w r]) (by rw [htk2,List.map_append,hbs]; rfl) (by rw [hsn,hvk,hvv.2]; rfl) (fun _=>hvv.1) (by omega)
    ·simp at h2
     obtain rfl:k=l.length:=by omega
     rw [ZuH] at hbs hvk
     rw [Nat.sub_self,List.replicate_zero,List.append_nil]
     refine Znc 7 rfl (ZuB _ _ _) (row:=fun q=>bC (bs.getD q default)) (by rw [Ziq]; omega) (fun q hq=>?_) ?_
     ·rw [Nat.mul_one]
      unfold Zes
      rw [List.drop_eq_getElem_cons (by simp; omega)]
      simp [List.getD,show q < bs.length by omega]
     rw [Zrq hb]
     have hvw':l.all Wt=true:=hvk
     have htk2:=Wz h1
     rw [hw] at htk2
     refine ZQ rfl (Zb (Zc ?_))
     simp only [Eqs,reduceCtorEq,reduceIte,Zuq,Zw.r14]
     refine JO (st) (tk) rfl rfl rfl rfl rfl rfl (by trivial) (by trivial) rfl (by first | trivial | assumption) (by omega) (by (unfold big; omega)) fun t1 ht1=>Zc ?_
     simp only [Eqs,reduceCtorEq,reduceIte,Zuq]
     refine Zm (Zb (Zc ?_))
     simp only [Eqs,reduceCtorEq,reduceIte,Zuq,Zw.r15]
     repeat (refine Zut (by first | omega | trivial | (intro h0; simp at h0; omega)) ?_)
     refine Zy ?_
     have hnext:=ih_key ((l.length) - (i + 1)) (by omega) (i + 1) rfl t1 _ (out++[bs]) ht1 (hrow.snoc (x:=bs) (row2:=Wy [.nilsl] ([0].zip [.sl .none l.length 1 fun q=>bC (bs.getD q default)])) (by show [D.sl .none l.length 1 fun q=>bC (bs.getD q default)]=[D.sl .none bs.length 1 fun q=>bC (bs.getD q default)]; rw [hbl]) rfl) (by rw [htk2,List.map_append,hout,hbs]; rfl) (fun _=>hvk) (by omega)
     rw [ZuF] at hnext
     exact hnext
   exact key2 _ 0 rfl [] rfl (by simp) (by omega) (by omega)
  ·simp at h1
   obtain rfl:i=l.length:=by omega
   rw [ZuH] at hout
   have hall:l.all Wt=true:=by
    rcases Nat.eq_zero_or_pos l.length with h | h
    ·rw [List.eq_nil_of_length_eq_zero h]; rfl
    ·exact hval h
   rw [hall] at hS hE
   refine ZQ rfl (Za (Zb (Zc ?_)))
   simp only [Eqs,reduceCtorEq,reduceIte,Zuq,Zw.r16]
   exact hF.ret (.tup [ZlQ out,.int .i64 0]) st rfl (by trivial) (Zel rfl (.cons (hrow.le rfl) (LeC.refl _))) (Zl htk) ⟨by rw [hS,hE,hout]; rfl,rfl⟩
 exact key _ 0 rfl .full _ [] trivial YE.nil rfl (by omega) (by omega)
end Go.DL
namespace Go.DL
open Go Go.Proofs
theorem ZgR (row:List Bool) (i:Nat) (b:Nat) (st:St) (hb:st b=some (.cells [.int .i64 i])) (hi:i < row.length) :
  Y3 Zuv WS.id [ZdM row,.ptr b 0] st (.bool (!row.getD i default)) st:=by
 refine Y4 WS.ok fun hwf F hret=>?_
 clear hwf
 refine Za (Zb (Zc ?_))
 simp only [Eqs,reduceCtorEq,reduceIte,Zuq,Zur,WS.r0]
 refine Za (Zb (Zc ?_))
 simp only [Eqs,reduceCtorEq,reduceIte,Zuq,WS.r1,hb,ZdM,slD]
 repeat (refine Zut (by first | omega | trivial | (intro h0; simp at h0; omega)) ?_)
 exact hret rfl (by trivial) (Zux _) (Zuw _)
theorem Zj0 {l:List Dfn} (h:l.all Wt=true):Zgb l=l.map fun w=>l.map fun r=>Zap w r:=by rw [Zgb,if_pos h]
theorem ZmX {w r:Dfn} (hw:Wt w=true) (hr:Wt r=true):Zap w r=decide (((KZ w r).length:Int)=0):=by
 unfold Zap
 rw [hw,hr]
 cases KZ w r <;> simp
 omega
theorem ZqF {l:List Dfn} (h:l.all Wt=true) {i:Nat} (hi:i < l.length):((Zgb l).any fun row=>!row.getD i default) = !Zdl l i:=by
 have hall:=List.all_eq_true.1 h
 have e:∀ w∈l,(l.map fun r=>Zap w r).getD i default=decide (((KZ w (l.getD i default)).length:Int)=0):=fun w hw=>by
  rw [← ZmX (hall _ hw) (hall _ (Ki hi))]
  simp [List.getD,hi]
 rw [Zj0 h,List.any_map,Zdl,List.not_all_eq_any_not]
 rw [Bool.eq_iff_iff,List.any_eq_true,List.any_eq_true]
 constructor
 ·rintro ⟨w,hw,h1⟩
  refine ⟨w,hw,?_⟩
  simp only [Function.comp] at h1
  rw [e w hw] at h1; exact h1
 ·rintro ⟨w,hw,h1⟩
  refine ⟨w,hw,?_⟩
  simp only [Function.comp]
  rw [e w hw]; exact h1
def ZqJ (l:List Dfn):Int:=if l.all Wt then max (ZbL l l.length) 0 else 0
def ZqI (l:List Dfn):Int:=if l.all Wt then (if ZbL l l.length < 0 then 9 else 0) else 2
theorem ZiR (l:List Dfn) (hl:l.length≤1000) (st:St):Y3 Zuv ZP.id [Zbq l] st (.tup [.int .i64 (ZqJ l),.int .i64 (ZqI l)]) st:=by
 refine Y4 ZP.ok fun hwf F hret=>?_
 clear hwf
 have hV:=ZqJ.eq_1 l
 have hE:=ZqI.eq_1 l
 have hM:=ZiQ l hl st
 have hme:=ZqE.eq_1 l
 refine Za (Zb (Zc ?_))
 simp only [Eqs,reduceCtorEq,reduceIte,ZP.r0]
 refine Za (Zb (Zc ?_))
 simp only [Eqs,reduceIte,ZP.r1]
 refine Yn rfl rfl rfl rfl rfl (by trivial) (by trivial) (by exact hM) ?_ ?_
 ·rintro dv S ⟨hq,rfl⟩
  cases hq
  by_cases hv:l.all Wt=true
  ·rw [if_pos hv] at hV hE hme
   rw [hme]
   refine Zc ?_
   simp only [Eqs,reduceCtorEq,reduceIte,Zuq]
   refine Za (Za (Zb (Zc ?_)))
   simp only [Eqs,reduceCtorEq,reduceIte,Zuq,ZP.r2]
   refine Ze rfl trivial (fun h=>by simp at h) (fun _=>?_)
   refine Zg ?_
   refine Za (Za (Zb (Zc ?_)))
   simp only [Eqs,reduceCtorEq,reduceIte,Zuq,Zus,ZP.r4,Zbq,slD]
   repeat (refine Zut (by first | omega | trivial | (intro h0; simp at h0; omega)) ?_)
   refine Zj (ZX ?_)
   have key:∀ (n j:Nat),(l.length) - j=n→ZbL l l.length=ZbL l (l.length - j)→j≤l.length→ZT F [.code (ZP.l0),.inLoop ZP.l0,.inBlock 0,.code (.seq (qR ZP.r11 [2,3]) .ret)] [(4,.d (ZlQ (Zgb l))),(6,.loc 6 0)] [(6,[.int .i64 ((l.length:Int) - 1 - j)])] S:=by
    intro n
    induction n using Nat.strongRecOn with
    | ind n ih_key =>
    intro j hn hnt hj
    refine Za (Za (Zb (Zc ?_)))
    simp only [Eqs,reduceIte,Zuq,ZP.r5]
    refine Ze rfl trivial (fun h1=>?_) (fun h1=>?_)
    ·have h1':(j:Int) < l.length:=by simp at h1; omega
     have hjl:j < l.length:=by omega
     have hstep:ZbL l (l.length - j)=if Zdl l (l.length - (j + 1)) then ((l.length - (j + 1):Nat):Int) else ZbL l (l.length - (j + 1)):=by
      rw [show l.length - j=(l.length - (j + 1)) + 1 by omega]; rfl
     have hcast:(l.length:Int) - 1 - j=((l.length - (j + 1):Nat):Int):=by omega
     have hlt:l.length - (j + 1) < l.length:=by omega
     rw [hcast]
     refine YJ 6 rfl fun x hx=>?_
     simp only [reduceIte,YU,WM,delL]
     have hcon:=Zdr (Zgb l) (.fn (.func WS.id) [] [.ptr x 0]) (fun row=>!row.getD (l.length - (j + 1)) default) (fun _=>S.upd x (.cells [.int .i64 ((l.length - (j + 1):Nat):Int)])) (fun q hq=>by
      have hrl:((Zgb l).getD q default).length=l.length:=by
       rw [Zj0 hv] at hq ⊢
       simp only [List.length_map] at hq
       simp [List.getD,hq]
      exact Y3.VT (first:=[]) (caps:=[.ptr x 0]) (args:=[ZdM ((Zgb l).getD q default)]) (ZgR _ _ x _ (ZuB _ _ _) (by rw [hrl]; exact hlt)))
     rw [ZqF hv hlt] at hcon
     refine Zg (Za (Zj (Za (Zb (Zc ?_)))))
     simp only [Eqs,reduceIte,Zuq,ZP.r7]
     refine Wn rfl rfl rfl rfl rfl (by trivial) (by trivial) (by exact hcon) (Zc ?_)
     simp only [Eqs,reduceIte,Zuq]
     refine Ze rfl trivial (fun h2=>?_) (fun h2=>?_)
     ·have hra:Zdl l (l.length - (j + 1))=true:=by simpa using h2
      rw [if_pos hra] at hstep
      refine Za (Zb (Zc ?_))
      simp only [Eqs,reduceIte,Zuq,ZP.r8,ZuB]
      exact hret rfl (by trivial) (by rw [hV,hE,hnt,hstep,if_neg (by omega),show max (((l.length - (j + 1):Nat):Int)) 0=((l.length - (j + 1):Nat):Int) by omega]; exact Zux _) (Zuy _ hx)
     ·have hra:Zdl l (l.length - (j + 1))=false:=by simpa using h2
      rw [hra] at hstep
      refine Zg (Zm (Za (Za (Zb (Zc ?_)))))
      simp only [Eqs,reduceIte,Zuq,ZP.r9,ZuB]
      refine Zb (Zc ?_)
      simp only [Eqs,reduceIte,Zuq,Zus,ZP.r10]
      refine Zb (Zc ?_)
      simp only [Eqs,reduceIte,Zuq,Zus,ZP.r6]
      refine ⟨by omega,by omega,?_⟩
      refine Ku (Zuy _ hx) ?_
      rw [show (((l.length - (j + 1):Nat):Int)) - 1=(l.length:Int) - 1 - ((j + 1:Nat):Int) by omega]
      refine Zy ?_
      exact ih_key ((l.length) - (j + 1)) (by omega) (j + 1) rfl (hnt.trans hstep) (by omega)
    ·have h1':j=l.length:=by simp at h1; omega
     subst h1'
     rw [Nat.sub_self] at hnt
     have hm1:ZbL l l.length = -1:=hnt
     refine ZQ rfl (Za (Zb (Zc ?_)))
     simp only [Eqs,reduceIte,Zuq,ZP.r11]
     exact hret rfl (by trivial) (by rw [hV,hE,hm1]; exact Zux _) (Zuw _)
   have hk0:=key _ 0 rfl rfl (by omega)
   rw [show (l.length:Int) - 1 - ((0:Nat):Int)=(l.length:Int) - 1 by omega] at hk0
   exact hk0
  ·have hv2:l.all Wt=false:=by simpa using hv
   rw [if_neg hv] at hV hE hme
   rw [hme]
   refine Zc ?_
   simp only [Eqs,reduceCtorEq,reduceIte,Zuq]
   refine Za (Za (Zb (Zc ?_)))
   simp only [Eqs,reduceCtorEq,reduceIte,Zuq,ZP.r2]
   refine Ze rfl trivial (fun _=>?_) (fun h=>by simp at h)
   refine Za (Zb (Zc ?_))
   simp only [Eqs,reduceCtorEq,reduceIte,Zuq,ZP.r3]
   exact hret rfl (by trivial) (by rw [hV,hE]; exact Zux _) (Zuw _)
 ·rintro dv S ⟨hq,_⟩
  cases hq
end Go.DL
namespace Go.DL
open Go Go.Proofs
theorem ZbK (n:Int):ZR Zuv QE.id [.int .i64 n] (.int .i64 n):=by
 refine Z0 QE.ok fun F st hret=>?_
 refine Za (Zb (Zc ?_))
 simp only [Eqs,reduceCtorEq,reduceIte,QE.r0]
 refine Za (Zb (Zc ?_))
 simp only [Eqs,reduceCtorEq,reduceIte,Zuq,QE.r1]
 refine hret rfl (by first | trivial | simp) (YG ?_) (by first | exact Zuw _ | exact Zl (by first | trivial | assumption) | assumption | exact Zuy _ (by assumption))
 rfl
theorem Zm4 {α:Type} [Inhabited α] {a b:List α} {i:Nat} (ha:i < a.length) (hb:i < b.length) (h:a.take i=b.take i):(a.take (i + 1)=b.take (i + 1))↔a.getD i default=b.getD i default:=by
 rw [Wz ha,Wz hb,h]
 simp
theorem ZlE (a b:List Dif):ZR Zuv Yx.id [Q6 a,Q6 b] (.bool (decide (a=b))):=by
 refine WD Yx.ok fun hwf F st hret=>?_
 have hw:=(QD (α:=Dif) (n:=2) (f:=Dif.cells) (l:=a) (hwf (Q6 a) (by simp))).1
 unfold big at hw
 clear hwf
 refine Za (Zb (Zc ?_))
 simp only [Eqs,reduceCtorEq,reduceIte,Zuq,Zur,Yx.r0]
 refine Za (Za (Zb (Zc ?_)))
 simp only [Eqs,reduceCtorEq,reduceIte,Zuq,Yx.r1,Q6,slD]
 refine Ze rfl trivial (fun h1=>?_) (fun h1=>?_)
 ·have hne:a≠b:=fun e=>by rw [e] at h1; simp at h1
  rw [decide_eq_false hne] at hret
  refine Za (Zb (Zc ?_))
  simp only [Eqs,reduceCtorEq,reduceIte,Zuq,Yx.r2]
  refine hret rfl (by first | trivial | simp) (Yk ?_) (by first | exact Zuw _ | exact Zl (by first | trivial | assumption) | assumption | exact Zuy _ (by assumption))
  rfl
 ·have hl:a.length=b.length:=by simp at h1; omega
  refine Zg (Za (Za (Zb (Zc ?_))))
  simp only [Eqs,reduceCtorEq,reduceIte,Zuq,Yx.r3]
  refine Zj ?_
  refine ZX ?_
  have key:∀ (n i:Nat),(a.length) - i=n→a.take i=b.take i→i≤a.length→ZT F [.code (Yx.l0),.inLoop Yx.l0,.inBlock 0,.code (.seq (qR Yx.r8 [4]) .ret)] [(0,.d (Q6 a)),(1,.d (Q6 b)),(5,.d (.int .i64 i))] [] st:=by
   intro n
   induction n using Nat.strongRecOn with
   | ind n ih_key =>
   intro i hn heq hi
   refine Za (Za (Zb (Zc ?_)))
   simp only [Eqs,reduceCtorEq,reduceIte,Zuq,Yx.r4,Q6,slD]
   refine Ze rfl trivial (fun h2=>?_) (fun h2=>?_)
   ·simp at h2
    have hs:=Zm4 h2 (by omega) heq
    refine Zg (Za (Zj (Za (WB (Wj ?_)))))
    simp only [Eqs,reduceCtorEq,reduceIte,Zuq,Zur,Zus,Yx.r6,Dif.cells]
    repeat (refine Zut (by first | omega | trivial | (intro h0; simp at h0; omega)) ?_)
    refine Ze rfl trivial (fun h3=>?_) (fun h3=>?_)
    ·have hne:a≠b:=fun e=>by
      subst e
      simp at h3
     rw [decide_eq_false hne] at hret
     refine Za (Zb (Zc ?_))
     simp only [Eqs,reduceCtorEq,reduceIte,Zuq,Yx.r7]
     refine hret rfl (by first | trivial | simp) (Yk ?_) (by first | exact Zuw _ | exact Zl (by first | trivial | assumption) | assumption | exact Zuy _ (by assumption))
     rfl
    ·have he:a.getD i default=b.getD i default:=by
      have h3':(a.getD i default).path=(b.getD i default).path∧(a.getD i default).code=(b.getD i default).code:=by simpa using h3
      generalize a.getD i default=x at *
      generalize b.getD i default=y at *
      cases x; cases y; simp_all
     refine Zg (Zm (Zb (Zc ?_)))
     simp only [Eqs,reduceCtorEq,reduceIte,Zuq,Yx.r5]
     repeat (refine Zut (by first | omega | trivial | (intro h0; simp at h0; omega)) ?_)
     refine Zy ?_
     exact ih_key ((a.length) - (i + 1)) (by omega) (i + 1) rfl (hs.2 he) (by omega)
   ·simp at h2
    obtain rfl:i=a.length:=by omega
    have hab:a=b:=by
     rw [ZuH,hl,ZuH] at heq; exact heq
    rw [decide_eq_true hab] at hret
    refine ZQ rfl (Za (Zb (Zc ?_)))
    simp only [Eqs,reduceCtorEq,reduceIte,Zuq,Yx.r8]
    refine hret rfl (by first | trivial | simp) (Yk ?_) (by first | exact Zuw _ | exact Zl (by first | trivial | assumption) | assumption | exact Zuy _ (by assumption))
    rfl
  exact key _ 0 rfl rfl (by omega)
def Zc8 (high bits:Int):Fld:=⟨[110],1,bits,false,false,0,high,⟨0,[]⟩,[],[],[],[],0,0⟩
def Zc9 (more:Int):Fld:=⟨[98],4,0,false,false,0,0,⟨more,[⟨[110],1⟩]⟩,[],[],[],[],0,0⟩
def Zgk (high bits more:Int):Msg:=⟨[109],[Zc8 high bits,Zc9 more]⟩
def Zja (high bits more:Int):Dfn:=⟨[100],[Zgk high bits more],[109]⟩
theorem Zn8 (high bits:Int):LeC [.str [110],.int .i64 1,.int .i64 bits,.bool false,.bool false,.int .i64 0,.int .i64 high,.int .i64 0,.nilsl,.str [],.str [],.str [],.nilsl,.int .i64 0,.int .i64 0] (Zc8 high bits).cells:=by
 have h:∀ (n:Nat) (row:Nat→List D),D.nilsl.Le (.sl .none 0 n row):=fun n row=>Qa fun b h=>by cases h
 exact .cons (Zux _) (.cons (Zux _) (.cons (Zux _) (.cons (Zux _) (.cons (Zux _) (.cons (Zux _) (.cons (Zux _) (.cons (Zux _) (.cons (h _ _) (.cons (Zux _) (.cons (Zux _) (.cons (Zux _) (.cons (h _ _) (.cons (Zux _) (.cons (Zux _) .nil))))))))))))))
theorem Zn9 (more:Int):LeC [.str [98],.int .i64 4,.int .i64 0,.bool false,.bool false,.int .i64 0,.int .i64 0,.int .i64 more,.sl .full 1 2 (Wy [.str [],.int .i64 0] ([0].zip [.agg [.str [110],.int .i64 1]])),.str [],.str [],.str [],.nilsl,.int .i64 0,.int .i64 0] (Zc9 more).cells:=by
 have h:∀ (n:Nat) (row:Nat→List D),D.nilsl.Le (.sl .none 0 n row):=fun n row=>Qa fun b h=>by cases h
 have h2:(D.sl .full 1 2 (Wy [.str [],.int .i64 0] ([0].zip [.agg [.str [110],.int .i64 1]]))).Le (Yj [⟨[110],1⟩]):=(YE.one (f:=ZuR) (x:=⟨[110],1⟩) rfl).le rfl
 exact .cons (Zux _) (.cons (Zux _) (.cons (Zux _) (.cons (Zux _) (.cons (Zux _) (.cons (Zux _) (.cons (Zux _) (.cons (Zux _) (.cons h2 (.cons (Zux _) (.cons (Zux _) (.cons (Zux _) (.cons (h _ _) (.cons (Zux _) (.cons (Zux _) .nil))))))))))))))
theorem Zhi {α:Type} [Inhabited α] {f:α→List D} {row:Nat→List D} {x y:α} (h0:row 0=f x) (h1:row 1=f y):YE f row [x,y]:=by
 intro i hi
 match i,hi with
 | 0,_=>exact h0
 | 1,_=>exact h1
theorem ZkA (high bits more:Int) (st:St):Yf Zuv Y6.id [.int .i64 high,.int .i64 bits,.int .i64 more] st
  fun r S=>∃ b,st b=none∧r = .ret (.agg [.str [100],.msl b 0 1 1 2,.str [109]])∧S=st.upd b (.cells [.str [109],.sl .full 2 15 fun i=>((Zgk high bits more).fields.getD i default).cells]):=by
 refine Z2 Y6.ok fun F hF=>?_
 refine Za (Zb (Zc ?_))
 simp only [Eqs,reduceCtorEq,reduceIte,Zuq,Zur,Y6.r0]
 refine Za (Zb (Zc ?_))
 simp only [Eqs,reduceCtorEq,reduceIte,Zuq,Zur,Zus,Y6.r1]
 refine Za (Zb (Zc ?_))
 simp only [Eqs,reduceIte,Zuq,Zur,Zus,Y6.r2]
 refine Za ?_
 refine Ku (s':=st) (by first | exact Zuw _ | exact Zl (by first | trivial | assumption) | exact ZuK (Zl (by first | trivial | assumption)) (Zl (by first | trivial | assumption)) | assumption) (Qz (ρ':=[(6,.loc 6 0),(7,.loc 7 0),(8,.loc 8 0)]) (L':=[(6,[.str [],.nilsl,.str []]),(7,(Zc8 high bits).cells),(8,(Zc9 more).cells)]) ?_ ?_ ?_)
 ·exact Zai _
 ·exact .skip (.cons (Zn8 _ _) (.cons (Zn9 _) .nil))
 refine Zb (Zfn ?_)
 simp only [Eqs,reduceIte,Zuq,Zur,Zus,Zf1,Zh1,Y6.r3,ZuD]
 refine ZlX rfl rfl rfl rfl (fun _=>⟨by trivial,by rfl⟩) (.inr ⟨rfl,rfl⟩) (Zfn ?_)
 simp only [Eqs,reduceIte,Zuq,Zur,Zus,Zf1,Zh1]
 refine Zq7 rfl rfl rfl rfl (by trivial) (by rfl) (by decide) fun b hb=>Zfn ?_
 simp only [Eqs,reduceIte,Zuq,Zur,Zus,Zf1,Zh1]
 refine JG (b:=b) (ZuB _ _ _) (ds':=[.str [109],.sl .full 2 15 fun i=>((Zgk high bits more).fields.getD i default).cells]) (.cons (Zux _) (.cons ((Zhi (f:=ZuD) (x:=Zc8 high bits) (y:=Zc9 more) rfl rfl).leT rfl) .nil)) ?_
 rw [ZuQ]
 exact hF.ret _ _ rfl ⟨by simp,trivial⟩ (Zux _) (Zuw _) ⟨b,hb,rfl,rfl⟩
theorem ZcV (high bits more:Int) (st:St):Y3 Zuv Y6.id [.int .i64 high,.int .i64 bits,.int .i64 more] st (.agg (Zja high bits more).cells) st:=by
 refine Z2 Y6.ok fun F hF=>?_
 refine Za (Zb (Zc ?_))
 simp only [Eqs,reduceCtorEq,reduceIte,Zuq,Zur,Y6.r0]
 refine Za (Zb (Zc ?_))
 simp only [Eqs,reduceCtorEq,reduceIte,Zuq,Zur,Zus,Y6.r1]
 refine Za (Zb (Zc ?_))
 simp only [Eqs,reduceIte,Zuq,Zur,Zus,Y6.r2]
 refine Za ?_
 refine Ku (s':=st) (by first | exact Zuw _ | exact Zl (by first | trivial | assumption) | exact ZuK (Zl (by first | trivial | assumption)) (Zl (by first | trivial | assumption)) | assumption) (Qz (ρ':=[(6,.loc 6 0),(7,.loc 7 0),(8,.loc 8 0)]) (L':=[(6,[.str [],.nilsl,.str []]),(7,(Zc8 high bits).cells),(8,(Zc9 more).cells)]) ?_ ?_ ?_)
 ·exact Zai _
 ·exact .skip (.cons (Zn8 _ _) (.cons (Zn9 _) .nil))
 refine Zb (Zc ?_)
 simp only [Eqs,reduceIte,Zuq,Zur,Zus,Y6.r3,ZuD]
 have h1:=(Zhi (f:=ZuD) (row:=Wy [.str [],.int .i64 0,.int .i64 0,.bool false,.bool false,.int .i64 0,.int .i64 0,.int .i64 0,.nilsl,.str [],.str [],.str [],.nilsl,.int .i64 0,.int .i64 0] ([0,1].zip [.agg (Zc8 high bits).cells,.agg (Zc9 more).cells])) (x:=Zc8 high bits) (y:=Zc9 more) rfl rfl).le (t:=.full) (n:=2) (s:=15) rfl
 refine hF.ret _ _ rfl ⟨by simp,trivial⟩ (Zac (Zjk (.cons (Zux _) (.cons (D.Le.trans (ZgH (row':=fun _=>(Zgk high bits more).cells) ?_) ((YE.one (f:=ZuG) (x:=Zgk high bits more) rfl).le rfl)) (.cons (Zux _) .nil))))) (Zuw _) ⟨rfl,rfl⟩
 intro i hi
 obtain rfl:i=0:=by omega
 exact .cons (Zux _) (.cons h1 .nil)
def gt (a:Int) (n:Nat):Bool:=decide (a < (n:Int))
def ZeA (f:Fld):Bool:=gt 8 f.cases.length || (gt 8 f.size.terms.length || (gt 60 f.name.length || (gt 60 f.of.length || (gt 60 f.tag.length || gt 60 f.from_.length))))
def Zg6 (m:Msg):Bool:=(gt 12 m.fields.length || gt 60 m.name.length) || m.fields.any ZeA
def Zpy (d:Dfn):Bool:=(gt 8 d.msgs.length || (gt 60 d.name.length || gt 60 d.start.length)) || d.msgs.any Zg6
theorem ZkZ {α:Type} [Inhabited α] {p:α→Bool} {l:List α} {i:Nat} (h:i < l.length):(l.take (i + 1)).any p=((l.take i).any p || p (l.getD i default)):=by
 rw [Wz h,List.any_append]; simp
theorem Zip {α:Type} [Inhabited α] {p:α→Bool} {l:List α} {i:Nat} (h:i < l.length) (hp:p (l.getD i default)=true):l.any p=true:=List.any_eq_true.2 ⟨_,Ki h,hp⟩
theorem Zrw (d:Dfn):ZR Zuv ZK.id [.agg d.cells] (.bool (Zpy d)):=by
 refine WD ZK.ok fun hwf F st hret=>?_
 have hwm:=(Zfw (s:=d) (hwf _ (by simp)))
 have hw:=hwm.nmsgs
 unfold big at hw
 clear hwf
 have hS:=Zpy.eq_1 d
 refine Za (Zb (Zc ?_))
 simp only [Eqs,reduceCtorEq,reduceIte,Zuq,ZK.r0,ZuM]
 refine Za (Za (Zb (Zc ?_)))
 simp only [Eqs,reduceIte,Zuq,ZK.r1,We,slD]
 refine Ze rfl trivial (fun h1=>?_) (fun h1=>?_)
 ·have h1':(gt 8 d.msgs.length || (gt 60 d.name.length || gt 60 d.start.length))=true:=by simpa [gt,Bool.or_assoc] using h1
  rw [h1',Bool.true_or] at hS
  refine Za (Zb (Zc ?_))
  simp only [Eqs,reduceIte,Zuq,ZK.r2]
  refine hret rfl (by first | trivial | simp) (Yk ?_) (by first | exact Zuw _ | exact Zl (by first | trivial | assumption) | assumption | exact Zuy _ (by assumption))
  exact hS.symm
 ·have h1':(gt 8 d.msgs.length || (gt 60 d.name.length || gt 60 d.start.length))=false:=by simpa [gt,Bool.or_assoc] using h1
  rw [h1',Bool.false_or] at hS
  clear h1 h1'
  refine Zg (Za (Za (Zb (Zc ?_))))
  simp only [Eqs,reduceIte,Zuq,ZK.r3]
  refine Zj ?_
  refine ZX ?_
  have key:∀ (n i:Nat),(d.msgs.length) - i=n→(d.msgs.take i).any Zg6=false→i≤d.msgs.length→ZT F [.code (ZK.l0),.inLoop ZK.l0,.inBlock 0,.code (.seq (qR ZK.r15 [2]) .ret)] [(1,.loc 1 0),(3,.d (.int .i64 i))] [(1,d.cells)] st:=by
   intro n
   induction n using Nat.strongRecOn with
   | ind n ih_key =>
   intro i hn hno hi
   refine Za (Za (Zb (Zc ?_)))
   simp only [Eqs,reduceIte,Zuq,ZK.r4,ZuM,We,slD]
   refine Ze rfl trivial (fun h2=>?_) (fun h2=>?_)
   ·simp at h2
    have hsn:=ZkZ (p:=Zg6) h2
    have hany:=Zip (p:=Zg6) h2
    have hfw:=(hwm.msgs _ (Ki h2)).nfields
    unfold big at hfw
    generalize hm:d.msgs.getD i default=m at *
    have hM:=Zg6.eq_1 m
    refine Zg (Za (Zj (Za (Zb (Zc ?_)))))
    simp only [Eqs,reduceIte,Zuq,Zur,Zus,ZK.r6,ZuG,hm]
    repeat (refine Zut (by first | omega | trivial | (intro h0; simp at h0; omega)) ?_)
    refine Za (Za (Zb (Zc ?_)))
    simp only [Eqs,reduceIte,Zuq,ZK.r7,Yo,slD]
    refine Ze rfl trivial (fun h3=>?_) (fun h3=>?_)
    ·have h3':(gt 12 m.fields.length || gt 60 m.name.length)=true:=by simpa [gt] using h3
     rw [h3',Bool.true_or] at hM
     rw [hany hM] at hS
     refine Za (Zb (Zc ?_))
     simp only [Eqs,reduceIte,Zuq,ZK.r8]
     refine hret rfl (by first | trivial | simp) (Yk ?_) (by first | exact Zuw _ | exact Zl (by first | trivial | assumption) | assumption | exact Zuy _ (by assumption))
     exact hS.symm
    ·have h3':(gt 12 m.fields.length || gt 60 m.name.length)=false:=by simpa [gt] using h3
     rw [h3',Bool.false_or] at hM
     clear h3 h3'
     refine Zg (Za (Zb (Zc ?_)))
     simp only [Eqs,reduceIte,Zuq,ZK.r9]
     refine Zj ?_
     refine ZX ?_
     have key2:∀ (n k:Nat),(m.fields.length) - k=n→(m.fields.take k).any ZeA=false→k≤m.fields.length→ZT F [.code (ZK.l1),.inLoop ZK.l1,.inBlock 2,.inBlock 1,.code (qR ZK.r5 [1,3]),.inLoop ZK.l0,.inBlock 0,.code (.seq (qR ZK.r15 [2]) .ret)] [(1,.loc 1 0),(3,.d (.int .i64 i)),(4,.loc 4 0),(5,.d (.int .i64 k))] [(1,d.cells),(4,m.cells)] st:=by
      intro n
      induction n using Nat.strongRecOn with
      | ind n ih_key2 =>
      intro k hnk hnok hk
      refine Za (Za (Zb (Zc ?_)))
      simp only [Eqs,reduceIte,Zuq,ZK.r10,ZuG,Yo,slD]
      refine Ze rfl trivial (fun h4=>?_) (fun h4=>?_)
      ·simp at h4
       have hsn2:=ZkZ (p:=ZeA) h4
       have hany2:=Zip (p:=ZeA) h4
       generalize hf:m.fields.getD k default=f at *
       have hFF:=ZeA.eq_1 f
       refine Zg (Za (Zj (Za (Zb (Zc ?_)))))
       simp only [Eqs,reduceIte,Zuq,Zur,Zus,ZK.r12,ZuD,hf]
       repeat (refine Zut (by first | omega | trivial | (intro h0; simp at h0; omega)) ?_)
       refine Za (Zb (Zc ?_))
       simp only [Eqs,reduceIte,Zuq,Zur,ZK.r13,W0,Yj,slD]
       refine Ze rfl trivial (fun h5=>?_) (fun h5=>?_)
       ·have h5':ZeA f=true:=by rw [hFF]; simpa [gt,Bool.or_assoc] using h5
        rw [hany2 h5'] at hM
        rw [hany hM] at hS
        refine Za (Zb (Zc ?_))
        simp only [Eqs,reduceIte,Zuq,ZK.r14]
        refine hret rfl (by first | trivial | simp) (Yk ?_) (by first | exact Zuw _ | exact Zl (by first | trivial | assumption) | assumption | exact Zuy _ (by assumption))
        exact hS.symm
       ·have h5':ZeA f=false:=by rw [hFF]; simpa [gt,Bool.or_assoc] using h5
        refine Zg (Zm (Zb (Zc ?_)))
        simp only [Eqs,reduceIte,Zuq,ZK.r11]
        repeat (refine Zut (by first | omega | trivial | (intro h0; simp at h0; omega)) ?_)
        refine Zy ?_
        exact ih_key2 ((m.fields.length) - (k + 1)) (by omega) (k + 1) rfl (by rw [hsn2,hnok,h5']; rfl) (by omega)
      ·simp at h4
       obtain rfl:k=m.fields.length:=by omega
       rw [ZuH] at hnok
       rw [hnok] at hM
       refine ZQ rfl (Zm (Zb (Zc ?_)))
       simp only [Eqs,reduceIte,Zuq,ZK.r5]
       repeat (refine Zut (by first | omega | trivial | (intro h0; simp at h0; omega)) ?_)
       refine Zy ?_
       exact ih_key ((d.msgs.length) - (i + 1)) (by omega) (i + 1) rfl (by rw [hsn,hno,hM]; rfl) (by omega)
     exact key2 _ 0 rfl (by simp) (by omega)
   ·simp at h2
    obtain rfl:i=d.msgs.length:=by omega
    rw [ZuH] at hno
    rw [hno] at hS
    refine ZQ rfl (Za (Zb (Zc ?_)))
    simp only [Eqs,reduceIte,Zuq,ZK.r15]
    refine hret rfl (by first | trivial | simp) (Yk ?_) (by first | exact Zuw _ | exact Zl (by first | trivial | assumption) | assumption | exact Zuy _ (by assumption))
    exact hS.symm
  exact key _ 0 rfl (by simp) (by omega)
end Go.DL
namespace Go.DL
open Go Go.Proofs
theorem ZlD (w r:Dfn) (st:St):Y3 Zuv Ym.id [.agg w.cells,.agg r.cells] st (.tup [Q6 (Zfb w r),.bool true]) st:=by
 refine Z2 Ym.ok fun F hF=>?_
 have hfew:=Zqa w r
 refine Za (Zb (Zc ?_))
 simp only [Eqs,reduceCtorEq,reduceIte,Zuq,Zur,Ym.r0,ZuM]
 refine Za (Zb (Zc ?_))
 simp only [Eqs,reduceIte,Zuq,Zur,Zus,Ym.r1]
 rw [show (D.agg [.str w.name,We w.msgs,.str w.start]) = .agg w.cells from rfl,show (D.agg [.str r.name,We r.msgs,.str r.start]) = .agg r.cells from rfl]
 refine Yn rfl rfl rfl rfl rfl (by trivial) (by trivial) (by exact Zlx w r st) ?_ ?_
 ·rintro dv S ⟨x0,hx0,hq,rfl⟩
  cases hq
  refine Zc ?_
  simp only [Eqs,reduceIte,Zuq]
  refine Za (Za (Zb (Zc ?_)))
  simp only [Eqs,reduceIte,Zuq,Ym.r2]
  refine Ze rfl trivial (fun h=>by simp at h) (fun _=>?_)
  refine Zg (Za (Zb (Zc ?_)))
  simp only [Eqs,reduceIte,Zuq,Ym.r4]
  refine Za (Za (Zb (Zc ?_)))
  simp only [Eqs,reduceIte,Zuq,Ym.r5]
  have hit:=Zko (Zfb w r) (by unfold big; omega) x0
  have hd00:WX st (ZuN x0 (.cells [Q6 (Zfb w r)])):=J9 hx0
  generalize hT:ZuN x0 (.cells [Q6 (Zfb w r)])=T at *
  generalize hl:Zfb w r=l at *
  refine Zj ?_
  refine YJ 7 rfl fun x hx=>?_
  simp only [reduceIte,Zuq,YU,WM,delL]
  have hx1:st x=none:=by
   cases h:st x with
   | none=>rfl
   | some o=>rw [Yv h] at hx; simp at hx
  have hx2:T x=none:=by rw [YR hx1] at hx; exact hx
  rw [Zal]
  refine JG (b:=x) (Yv (ZuB _ _ _)) (.cons (Qa (t:=.full) (s:=2) (row:=fun _=>[]) (fun b h=>by cases h)) .nil) ?_
  rw [Zal,ZuQ]
  have hok0:ZcF st x .full:=⟨hx1,trivial,fun _=>hx1⟩
  have hd0:WX (Zak st x .full (0 * 2) (.cells [.sl .full 0 2 fun _=>[]])) T:=fun b o hb=>by
   have hbx:b≠x:=fun e=>by rw [e,hx2] at hb; simp at hb
   unfold Zak
   rw [ZuE _ _ hbx]; exact hd00 b o hb
  rw [show st.upd x (.cells [.sl .full 0 2 fun _=>[]])=Zak st x .full (0 * 2) (.cells [.sl .full 0 2 fun _=>[]]) from rfl]
  refine ZbQ hF rfl trivial [7] (by show ([7]:List Nat).Nodup; decide) hd0 hit (fun j hj=>rfl) (fun _=>.next)
   (fun j a=>∃ tk row,ZcF st x tk∧YE Dif.cells row (l.take j)∧a=Zak st x tk (j * 2) (.cells [.sl tk j 2 row])) ⟨.full,_,hok0,YE.nil,rfl⟩ ?_ ?_ ?_ ?_ ?_ ?_
  ·rintro j a hj hno ⟨tk,row,hok,hrow,rfl⟩ F' ready busy hdr hbeg hend
   simp only [Eqs,reduceIte,Zuq,ZaE,Zbe,Zcf,ZaK,List.isEmpty_nil]
   refine Za (Zb (Zc ?_))
   simp only [Eqs,reduceIte,Zuq,Ym.r6]
   refine Zb (Zc ?_)
   simp only [Eqs,reduceIte,Zuq,Zur,Zus,Ym.r7,Dif.cells]
   refine hbeg fun hdb=>?_
   have gx:((Zak st x tk (j * 2) (.cells [.sl tk j 2 row])).or busy) x=some (.cells [.sl tk j 2 row]):=Yv (ZuB _ _ _)
   refine Zj (Za (Za (Zb (Zc ?_))))
   simp only [Eqs,reduceIte,Zuq,Ym.r8,gx]
   refine Ze rfl trivial (fun h=>by simp at h) (fun _=>?_)
   refine Zg (Zb (Zc ?_))
   simp only [Eqs,reduceIte,Zuq,Zur,Zus,Ym.r10,gx]
   refine JO (_) (tk) rfl rfl rfl rfl rfl rfl (by trivial) (by trivial) hok.form (hok.okf hdb) (by omega) (by (unfold big; omega)) fun t1 ht1=>Zc ?_
   simp only [Eqs,reduceIte,Zuq,Zus,(hok.next hdb ht1).2.1,(hok.next hdb ht1).2.2.1]
   refine Zm ?_
   have hnx:=hok.next hdb ht1
   have htk:=Wz hj
   exact hend.fin (a:=Zak st x t1 ((j + 1) * 2) (.cells [.sl t1 (j + 1) 2 (QN j row (Wy [.str [],.int .i64 0] ([0].zip [.agg [.str (l.getD j default).path,.int .i64 (l.getD j default).code]])))])) ⟨rfl,t1,_,hnx.1,by rw [htk]; exact hrow.snoc (x:=l.getD j default) rfl (by simp; omega),rfl⟩ (hnx.2.2.2 _ _) (Zuw _)
  ·rintro q a hno ⟨tk,row,hok,hrow,rfl⟩ hq
   rw [ZuH] at hrow
   rw [J2 hq]
   have gx:((Zak st x tk (l.length * 2) (.cells [.sl tk l.length 2 row])).or (ZuN q .dfr)) x=some (.cells [.sl tk l.length 2 row]):=Yv (ZuB _ _ _)
   refine Zm (Za (Zb (Zc ?_)))
   simp only [Eqs,reduceIte,Zuq,Zus,Ym.r11,gx]
   refine hF.ret1 hq _ st rfl (by trivial) (Zel rfl (.cons (hrow.le rfl) (LeC.refl _))) (ZuK (Zl hok.ot) (Zuy _ (hok.xt _))) ⟨rfl,rfl⟩
  ·intro q a m hm hno hgo; simp at hgo
  ·intro q a m id hm hno hgo; simp at hgo
  ·intro q a m d hm hno hgo; simp at hgo
  ·intro m c hgo; simp at hgo
 ·rintro dv S ⟨x0,hx0,hq,_⟩
  cases hq
end Go.DL
namespace Go.DL
open Go Go.Proofs
def Zj3:Fld:=⟨[99],1,8,false,false,0,0,⟨0,[]⟩,[],[],[],[],0,0⟩
def ZhR:Dfn:=⟨[100],[⟨[109],[Zc8 3 8,Zc9 0,Zj3]⟩],[109]⟩
def knW:Dfn:=Zja 3 8 0
def knR:Dfn:=Zja 7 8 0
theorem kn1:Zap knW knR=true:=by decide +kernel
theorem kn2:Zdg knW knR=0:=by decide +kernel
theorem kn3:Zap knR knW=false:=by decide +kernel
theorem kn4:Zdg knR knW=0:=by decide +kernel
theorem kn5:Wt knR=true:=by decide +kernel
theorem kn6:Wt knW=true:=by decide +kernel
theorem kn7:KZ knR knW=[⟨[110],6⟩]:=by decide +kernel
theorem kn8:Zfb knW (Zja 3 16 1)=[⟨[110],5⟩,⟨[98],8⟩]:=by decide +kernel
theorem kn9:Wt ZhR=true:=by decide +kernel
theorem ZsB:KZ knW ZhR=[⟨[],2⟩]:=by decide +kernel
theorem ZsC:ZqJ [knW,knR,knW]=1:=by decide +kernel
theorem ZsD:ZqI [knW,knR,knW]=0:=by decide +kernel
theorem knF:Zey knR knW = .tup [.agg [.str [110],.int .i64 6],.bool true,.int .i64 0]:=by
 unfold Zey; rw [kn5,kn6,kn7]; rfl
theorem knG:Zey knW ZhR = .tup [.agg [.str [],.int .i64 2],.bool true,.int .i64 0]:=by
 unfold Zey; rw [kn9,kn6,ZsB]; rfl
theorem Zrz:LeC [.str [99],.int .i64 1,.int .i64 8,.bool false,.bool false,.int .i64 0,.int .i64 0,.int .i64 0,.nilsl,.str [],.str [],.str [],.nilsl,.int .i64 0,.int .i64 0] Zj3.cells:=by
 have h:∀ (n:Nat) (row:Nat→List D),D.nilsl.Le (.sl .none 0 n row):=fun n row=>Qa fun b h=>by cases h
 exact .cons (Zux _) (.cons (Zux _) (.cons (Zux _) (.cons (Zux _) (.cons (Zux _) (.cons (Zux _) (.cons (Zux _) (.cons (Zux _) (.cons (h _ _) (.cons (Zux _) (.cons (Zux _) (.cons (Zux _) (.cons (h _ _) (.cons (Zux _) (.cons (Zux _) .nil))))))))))))))
theorem Zq8 (d:Dfn):d.cells.length=3:=rfl
theorem ZcN (d:Dfn):D.agg [.str d.name,We d.msgs,.str d.start] = .agg d.cells:=rfl
theorem Zrv:ZR Zuv Ya.id [] (.bool true):=by
 refine Z0 Ya.ok fun F st hret=>?_
 refine Za (Zb (Zc ?_))
 simp only [Eqs,Ya.r0]
 refine Za (Zb (Zc ?_))
 simp only [Eqs,Ya.r1]
 refine Wn rfl rfl rfl rfl rfl (by trivial) (by trivial) (by exact ZcV 3 8 0 _) (Zc ?_)
 simp only [Eqs]
 refine Wn rfl rfl rfl rfl rfl (by trivial) (by trivial) (by exact ZcV 7 8 0 _) (Zc ?_)
 simp only [Eqs,reduceIte,Zuq,Zur,Zus,Zq8]
 rw [show Zja 3 8 0=knW from rfl,show Zja 7 8 0=knR from rfl]
 refine Za (Zb (Zc ?_))
 simp only [Eqs,reduceIte,Zuq,Zur,Zus,Ya.r2,ZuM]
 rw [ZcN,ZcN]
 refine Wn rfl rfl rfl rfl rfl (by trivial) (by trivial) (by exact ZcM knW knR _) (Zc ?_)
 simp only [Eqs,reduceIte,Zuq]
 refine Za (Zb (Zc ?_))
 simp only [Eqs,reduceIte,Zuq,Zur,Zus,Ya.r3]
 rw [ZcN,ZcN]
 refine Wn rfl rfl rfl rfl rfl (by trivial) (by trivial) (by exact ZcM knR knW _) (Zc ?_)
 simp only [Eqs,reduceIte,Zuq]
 refine Za (Zb (Zc ?_))
 simp only [Eqs,reduceIte,Zuq,Zur,Zus,Ya.r4]
 rw [ZcN,ZcN]
 refine Wn rfl rfl rfl rfl rfl (by trivial) (by trivial) (by exact knF ▸ ZcL knR knW _) (Zc ?_)
 simp only [Eqs,reduceIte,Zuq,Zur,Zus]
 rw [kn1,kn2,kn3,kn4]
 refine Za (Wq (ZM ?_))
 simp only [Eqs,reduceIte,Zuq,Zur,Zus,Ya.r5]
 rw [ZcN]
 refine Zcr rfl rfl rfl rfl rfl (by trivial) (by trivial) (by exact ZcV 3 16 1 _) (by first | trivial | exact ⟨rfl,trivial⟩ | simp [Qx,Jy]) (ZM ?_)
 simp only [Eqs,reduceIte]
 refine Zcr rfl rfl rfl rfl rfl (by trivial) (by trivial) (by exact ZlD knW (Zja 3 16 1) _) (by first | trivial | exact ⟨rfl,trivial⟩ | simp [Qx,Jy]) (ZM ?_)
 simp only [Eqs,reduceIte,Zuq]
 rw [kn8]
 refine Za (Za (Zb (Zc ?_)))
 simp only [Eqs,reduceIte,Zuq,Ya.r6]
 refine ZW rfl rfl rfl rfl rfl (by trivial) (by trivial) (by exact ZbK _) (Zc ?_)
 simp only [Eqs,reduceIte,Zuq]
 refine ZW rfl rfl rfl rfl rfl (by trivial) (by trivial) (by exact ZbK _) (Zc ?_)
 simp only [Eqs,reduceIte,Zuq]
 repeat (refine Zut (by decide) ?_)
 refine ZW rfl rfl rfl rfl rfl (by trivial) (by trivial) (by exact ZbK _) (Zc ?_)
 simp only [Eqs,reduceIte,Zuq,Zur,Zus]
 repeat (refine Zut (by decide) ?_)
 refine ZW rfl rfl rfl rfl rfl (by trivial) (by trivial) (by exact (ZR.leA (LeC.two (Zux _) ((Zhi (f:=Dif.cells) (x:=⟨[110],5⟩) (y:=⟨[98],8⟩) rfl rfl).le rfl)) (ZlE [⟨[110],5⟩,⟨[98],8⟩] _))) (Zc ?_)
 simp only [Eqs,reduceIte,Zuq]
 refine Ze rfl trivial (fun h=>by simp at h) (fun _=>?_)
 refine Zg ?_
 refine Za (Zb (Zc ?_))
 simp only [Eqs,Ya.r8]
 refine Yn rfl rfl rfl rfl rfl (by trivial) (by trivial) (by exact ZkA 3 8 0 _) ?_ ?_
 ·rintro dv S ⟨b,hb,hq,rfl⟩
  cases hq
  refine Zc ?_
  simp only [Eqs,reduceIte,Zuq,Zur,Zus]
  refine Za (Wq (ZM ?_))
  simp only [Eqs,reduceIte,Zuq,Zur,Zus,Ya.r9,ZuB,Nat.zero_mul]
  refine ⟨by decide,by decide,?_⟩
  have gb:(st.upd b (.cells [.str [109],.sl .full 2 15 fun i=>((Zgk 3 8 0).fields.getD i default).cells])) b=some (.cells [.str [109],.sl .full 2 15 fun i=>((Zgk 3 8 0).fields.getD i default).cells]):=ZuB _ _ _
  generalize hS0:st.upd b (.cells [.str [109],.sl .full 2 15 fun i=>((Zgk 3 8 0).fields.getD i default).cells])=S0 at *
  refine ZhF (S0) (.full) rfl rfl rfl rfl rfl rfl (by trivial) (by trivial) rfl trivial (by decide) (by (unfold big; decide)) fun t1 ht1=>⟨by exact ⟨(ZhU ht1 gb).trans gb.symm,rfl,rfl,trivial⟩,ZM ?_⟩
  simp only [Eqs,reduceIte,Zuq,Zur,Zus,ZhU ht1 gb,Nat.zero_mul]
  refine ⟨by decide,by decide,?_⟩
  have hfl:(D.sl t1 3 15 (QN 2 (fun i=>((Zgk 3 8 0).fields.getD i default).cells) (Wy [.str [],.int .i64 0,.int .i64 0,.bool false,.bool false,.int .i64 0,.int .i64 0,.int .i64 0,.nilsl,.str [],.str [],.str [],.nilsl,.int .i64 0,.int .i64 0]
    ([0].zip [.agg [.str [99],.int .i64 1,.int .i64 8,.bool false,.bool false,.int .i64 0,.int .i64 0,.int .i64 0,.nilsl,.str [],.str [],.str [],.nilsl,.int .i64 0,.int .i64 0]])))).Le (Yo [Zc8 3 8,Zc9 0,Zj3]):=by
   refine D.Le.trans (ZgH (row':=fun i=>([Zc8 3 8,Zc9 0,Zj3].getD i default).cells) fun i hi=>?_) ZhH
   match i,hi with
   | 0,_=>exact LeC.refl _
   | 1,_=>exact LeC.refl _
   | 2,_=>exact Zrz
  refine JG (b:=b) (ZuB _ _ _) (.cons (Zux _) (.cons hfl .nil)) ?_
  rw [ZuQ]
  refine Zl0 [b] (fun c hc=>by rw [List.mem_singleton.1 hc]; exact ⟨_,ZuB _ _ _⟩) (ρ':=[(1,.loc 1 0),(2,.loc 2 0),(12,.loc 12 0)]) (L':=[(1,knW.cells),(2,knR.cells),(12,ZhR.cells)]) (LdE.refl _)
   (.cons (LdC.refl _) (.cons (LdC.refl _) (.cons (.cons (Zd3.refl _) (.cons (Zd3.msl (ds:=[.str [109],Yo [Zc8 3 8,Zc9 0,Zj3]]) (row:=fun i=>(ZhR.msgs.getD i default).cells) (List.mem_singleton.2 rfl) ?_ ?_ ?_) (.cons (Zd3.refl _) .nil))) .nil))) ?_
  ·exact ZuB _ _ _
  ·decide
  ·intro i hi
   obtain rfl:i=0:=by omega
   exact LdC.refl _
  refine Ku (s':=st) (fun c o hc=>?_) ?_
  ·have hcb:c≠b:=fun e=>by rw [e,hb] at hc; simp at hc
   have h1:S0 c=some o:=by rw [← hS0,ZuE _ _ hcb]; exact hc
   simp only [St.delL,List.mem_singleton,hcb,if_false]
   rw [ZuE _ _ hcb]; exact ZhU ht1 h1
  refine Za (Zb (Zc ?_))
  simp only [Eqs,reduceIte,Zuq,Zur,Zus,Ya.r10,ZuM]
  rw [ZcN,ZcN]
  refine Wn rfl rfl rfl rfl rfl (by trivial) (by trivial) (by exact knG ▸ ZcL knW ZhR _) (Zc ?_)
  simp only [Eqs,reduceIte,Zuq,Zur,Zus]
  refine Za (Zb (Zc ?_))
  simp only [Eqs,reduceIte,Zuq,Zur,Zus,Ya.r11]
  have hl3:(D.sl .full 3 3 (Wy [.str [],.nilsl,.str []] ([0,1,2].zip [.agg knW.cells,.agg knR.cells,.agg knW.cells]))).Le (Zbq [knW,knR,knW]):=by
   refine D.Le.trans (ZgH (row':=fun i=>([knW,knR,knW].getD i default).cells) fun i hi=>?_) ZhH
   match i,hi with
   | 0,_=>exact LeC.refl _
   | 1,_=>exact LeC.refl _
   | 2,_=>exact LeC.refl _
  refine Wn rfl rfl rfl rfl rfl (by trivial) (by trivial) (by exact (Y3.leA (LeC.one hl3) (ZiR [knW,knR,knW] (by decide) _))) (Zc ?_)
  simp only [Eqs,reduceIte,Zuq]
  rw [ZsC,ZsD]
  refine Za (Zb (Zc ?_))
  simp only [Eqs,reduceIte,Zuq,Zur,Zus,Ya.r12]
  refine ZW rfl rfl rfl rfl rfl (by trivial) (by trivial) (by exact ZbK _) (Zc ?_)
  simp only [Eqs,reduceIte,Zuq]
  refine ZW rfl rfl rfl rfl rfl (by trivial) (by trivial) (by exact ZbK _) (Zc ?_)
  simp only [Eqs,reduceCtorEq,reduceIte,Zuq]
  repeat (refine Zut (by decide) ?_)
  exact hret rfl (by trivial) (Zux _) (Zuw _)
 ·rintro dv S ⟨b,hb,hq,_⟩
  cases hq
end Go.DL
