/- Lemmas: R05g, R05h, R05i, R05j, R05k, Own, S00, S01, S02, Maps, S03, S04, S05, S06, S10, S11, A01, A02, A03, S12, S13, S14, S15, S16, S17, S18, S19, S20, S21, S22, S23, R05l, R43d, A04. -/
import Derived.Test.YtaaaefcmpgpkgaaGreatDoorT04
set_option maxHeartbeats 16000000
set_option linter.all false
open Option renaming some → sO, none → nO
open Inhabited renaming default → dE
open Decidable renaming decide → dC
open And renaming intro → Zyf
open Bool renaming and_eq_true → Zyk, false_and → ZyH, false_eq_true → Zyt, or_eq_true → Zyu, true_and → Zyy
open Go.DL.D.Le renaming refl → Zyj
open Go.DL.St renaming single → ZyG, sub_refl → Zyi, sub_trans → ZyT, sub_upd → ZyJ, upd_ne → Zyn, upd_same → Zyo, upd_upd → Zyz
open Go.Proofs.Tryz renaming prog → Zyg
open Int renaming reduceEq → ZyN
open List renaming append_nil → ZyR, getD → Zyx, getElem?_append_left → ZyM, getElem?_eq_getElem → ZyK, getElem?_eq_none → ZyV, getElem_of_mem → ZyC, length_append → Zyr, length_cons → ZyE, length_take → Zyw, map_cons → Zyp, map_nil → ZyF, mem_cons → ZyP, range → Zyl, take_length → ZyA
open Nat renaming le_refl → Zys, reduceAdd → ZyB, reduceEqDiff → Zye, reduceLeDiff → Zyq
open Option renaming getD_some → ZyL
namespace Go.DL
open Go Go.Proofs
variable {kp:Option (List Nat)}{L:Loc}{ρ:Env}{s:St}{w:World}{os:List DOp}{ds:List D}{B:List (Nat × Rd)}{dst:Option Nat}{tmps:Array Value}{g:G}{Φ:Res→St→Prop}{ν:Nat→Nat}{xs:List Opd}{side:Prop}{row:Nat→List D}{vs:List V}
def QK(l:List Str):D:=slD 1 (fun s=>[.str s]) l
def JM(f:Fld):List Str:=if dC (f.kind=7) ||(dC (f.kind=8) ||decide (f.kind=12)) then [f.of] else []
def YW(f:Fld):List Str:=JM f++if f.kind=9 then f.cases.map (·.of) else []
def Zax(out:List Str)(s:Str):List Str:=if s∈out then out else out++[s]
def KY(m:Msg):List Str:=(m.fields.flatMap YW).foldl Zax []
theorem Zq0(out:List Str)(s:Str):(Zax out s).length≤out.length+1:=by unfold Zax;split<;>simp
theorem Zac(l out:List Str):(l.foldl Zax out).length≤out.length+l.length:=by
 induction l generalizing out with
 |nil=>simp
 |cons x r ih=>have:=ih (Zax out x);have:=Zq0 out x;simp only[List.foldl_cons,ZyE];omega
theorem ZbH(l:List Fld)(i:Nat):((l.take i).flatMap YW).length≤(l.flatMap YW).length:=by
 conv=>rhs;rw[←List.take_append_drop i l,List.flatMap_append,Zyr]
 omega
theorem ZeX(l:List Fld)(i:Nat)(hi:i<l.length):(l.take (i+1)).flatMap YW=(l.take i).flatMap YW++YW (l.getD i dE):=by
 rw[WF hi,List.flatMap_append];simp
theorem Zis(m:Msg)(hb:(m.fields.flatMap YW).length≤1000000):ZA Zyg Zs.id [.agg m.cells] (QK (KY m)):=by
 refine Kn Zs.ok fun hwf F st hret=>?_
 have hw:=(ZfG (s:=m) (hwf _ (by simp))).nfields
 have hfw:=(ZfG (s:=m) (hwf _ (by simp))).fields
 unfold big at hw
 clear hwf
 refine rx (nd2 @eQ2 (nd2 @eQ4 @eQ1)) ?_
 refine rg ?_
 refine rg ?_
 refine kl (st) [(1,.loc 1 0),(3,.d (.sl .full 0 1 fun _=>[])),(4,.d (.int .i64 (0:Nat)))] [(1,m.cells)] (.skip (.cons (.d (JL fun b h=>by cases h)) (.skip .nil))) (ZaV _) ?_
 refine Zh (fr (m.fields.length) (fun i Q=>∀tk row out,tk.okIn st→We (fun s=>[.str s]) row out→out=((m.fields.take i).flatMap YW).foldl Zax []→i≤m.fields.length→Q [(1,.loc 1 0),(3,.d (.sl tk out.length 1 row)),(4,.d (.int .i64 i))] [(1,m.cells)] (st.own tk (out.length*1))) (fun n ih_key=>?_) fun key=>?_)
 ·intro i hn tk row out htk hrow hout hi
  have hlo:=Zac ((m.fields.take i).flatMap YW) []
  have hlt:=ZbH m.fields i
  rw[←hout]at hlo
  simp only[List.length_nil,Nat.zero_add]at hlo
  refine rx (nd2 @eQ2 (nd2 @eQ4 @eQ1)) ?_
  refine cd (fun hd=>?_) (fun hd=>?_)
  ·simp at hd
   have hsucc:=ZeX m.fields i hd
   have hlt2:=ZbH m.fields (i+1)
   have hwf:=hfw _ (W4 hd)
   have hnc:=hwf.ncases
   unfold big at hnc
   generalize hf:m.fields.getD i dE=f at *
   rw[hsucc,Zyr]at hlt2
   refine rx (nd2 @eQ2 (nd2 @eQ0 (nd2 @eQ4 (nd2 @eQ1 @hf)))) ?_
   refine aa ?_
   refine rg ?_
   refine rx @eQ0 ?_
   have jn:∀tl rowl ll,tl.okIn (st.own tk (out.length*1))→We (fun s=>[.str s]) rowl ll→ll=JM f→ZS F [.code (.seq (.seq (qR Zs.r9 [1,3,4,5,6,7]) (.block 2 (.loop Zs.l1))) (.seq (qR Zs.r13 [1,3,4,6,8]) (.block 4 (.loop Zs.l2)))),.inBlock 1,.code (qR Zs.r4 [1,3,4]),.inLoop Zs.l0,.inBlock 0,.code (.seq (qR Zs.r23 [2]) .ret)] [(1,.loc 1 0),(3,.d (.sl tk out.length 1 row)),(4,.d (.int .i64 i)),(5,.loc 5 0),(6,.d (.sl tl ll.length 1 rowl))] [(1,m.cells),(5,f.cells)] ((st.own tk (out.length*1)).own tl (ll.length*1)):=by
    intro tl rowl ll htl hrowl hll
    have hl1:ll.length≤1:=by rw[hll];unfold JM;split<;>simp
    refine rx @eQ0 ?_
    refine Zh (fr (f.cases.length) (fun k Q=>∀tl rowl l,tl.okIn (st.own tk (out.length*1))→We (fun s=>[.str s]) rowl l→(l=ll++if f.kind=9 then (f.cases.take k).map (·.of) else [])→k≤f.cases.length→Q [(1,.loc 1 0),(3,.d (.sl tk out.length 1 row)),(4,.d (.int .i64 i)),(5,.loc 5 0),(6,.d (.sl tl l.length 1 rowl)),(7,.d (.int .i64 k))] [(1,m.cells),(5,f.cells)] ((st.own tk (out.length*1)).own tl (l.length*1))) (fun n ih_key2=>?_) fun key2=>?_)
    ·clear hrowl htl rowl tl
     intro k hnk tl rowl l htl hrowl hl hk
     refine rx (nd2 @eQ0 (nd2 @K3.eq_1 @eQ1)) ?_
     refine cd (fun h4=>?_) (fun h4=>?_)
     ·simp only[Zyk,decide_eq_true_eq]at h4
      have hll2:l.length=ll.length+k:=by rw[hl,if_pos h4.1];simp;omega
      have hcl:(YW f).length=ll.length+f.cases.length:=by rw[hll,YW,if_pos h4.1];simp
      refine rx (nd2 @eQ0 (nd2 @eQ9 (nd2 @K3.eq_1 @eQ1))) ?_
      refine aa ?_
      refine ZbX (st.own tk (out.length*1)) (tl) rfl rfl rfl rfl rfl rfl (by trivial) (by trivial) rfl (by first|trivial|assumption) (by omega) (by (unfold big;omega)) fun t2 ht2=>Za ?_
      simp only[Eqs,reduceIte,Zye]
      refine rg ?_
      refine aa ?_
      have hrow2:=hrowl.snoc (x:=(f.cases.getD k dE).of) (row2:=Wd [.str []] ([0].zip [.str (f.cases.getD k dE).of])) rfl rfl
      refine Zf ?_
      have hnext:=ih_key2 ((f.cases.length)-(k+1)) (by omega) (k+1) rfl t2 _ (l++[(f.cases.getD k dE).of]) ht2 hrow2 (by rw[hl,if_pos h4.1,if_pos h4.1,WF (by omega)];simp) (by omega)
      rw[Zyr]at hnext
      exact hnext
     ·have hlr:l=YW f:=by
       rw[hl,hll,YW]
       by_cases h9:f.kind=9
       ·have:k=f.cases.length:=by simp[h9]at h4;omega
        rw[if_pos h9,if_pos h9,this,ZyA]
       ·rw[if_neg h9,if_neg h9]
      clear ih_key2 h4 hl hll hl1 ll hk hnk
      have hll:l.length=(YW f).length:=by rw[hlr]
      refine rg ?_
      refine kl (st.own tk (out.length*1)) [(1,.loc 1 0),(3,.d (.sl tk out.length 1 row)),(4,.d (.int .i64 i)),(6,.d (QK l)),(8,.d (.int .i64 (0:Nat)))] [(1,m.cells)] (.skip (.skip (.skip (.cons (.d (hrowl.le rfl)) (.skip .nil))))) (ZaV _) ?_
      refine Zh (fr (l.length) (fun k Q=>∀tk row o,tk.okIn st→We (fun s=>[.str s]) row o→o=(l.take k).foldl Zax out→k≤l.length→Q [(1,.loc 1 0),(3,.d (.sl tk o.length 1 row)),(4,.d (.int .i64 i)),(6,.d (QK l)),(8,.d (.int .i64 k))] [(1,m.cells)] (st.own tk (o.length*1))) (fun n ih_key3=>?_) fun key3=>?_)
      ·clear hrow htk hrowl htl tl
       intro k hnk tk row o htk hrow ho hk
       have hol:o.length≤out.length+k:=by have:=Zac (l.take k) out;rw[←ho,Zyw]at this;omega
       refine rx (nd2 @QK.eq_1 @eQ1) ?_
       refine cd (fun h5=>?_) (fun h5=>?_)
       ·simp at h5
        have hstep:(l.take (k+1)).foldl Zax out=Zax o (l.getD k dE):=by rw[WF h5,List.foldl_append,←ho];rfl
        generalize hx:l.getD k dE=x at *
        refine rg ?_
        refine rg ?_
        refine kl (st.own tk (o.length*1)) [(1,.loc 1 0),(3,.d (.sl tk o.length 1 row)),(4,.d (.int .i64 i)),(6,.d (QK l)),(8,.d (.int .i64 k)),(9,.d (.bool (dC (x∈o.take 0)))),(10,.d (.int .i64 (0:Nat)))] [(1,m.cells)] (by rw[show dC (x∈o.take 0)=false by simp];exact ZdQ _) (ZaV _) ?_
        refine Zh (fr (o.length) (fun j Q=>j≤o.length→Q [(1,.loc 1 0),(3,.d (.sl tk o.length 1 row)),(4,.d (.int .i64 i)),(6,.d (QK l)),(8,.d (.int .i64 k)),(9,.d (.bool (dC (x∈o.take j)))),(10,.d (.int .i64 j))] [(1,m.cells)] (st.own tk (o.length*1))) (fun n ih_key4=>?_) fun key4=>?_)
        ·intro j hnj hj
         refine rx (nd2 @QK.eq_1 @eQ1) ?_
         refine cd (fun h6=>?_) (fun h6=>?_)
         ·simp at h6
          have hrj:=hrow j h6
          have hmem:dC (x∈o.take (j+1))=(dC (x∈o.take j) ||decide (o.getD j dE=x)):=by
           rw[WF h6,Bool.eq_iff_iff];simp only[List.mem_append,List.mem_singleton,Zyu,decide_eq_true_eq];exact or_congr Iff.rfl ⟨Eq.symm,Eq.symm⟩
          refine rx (nd2 @QK.eq_1 (nd2 @eQ1 (nd2 @hx @hrj))) ?_
          refine aa ?_
          refine rg ?_
          refine aa ?_
          refine Zf ?_
          have hnext:=ih_key4 ((o.length)-(j+1)) (by omega) (j+1) rfl (by omega)
          rw[hmem]at hnext
          exact hnext
         ·simp at h6
          obtain rfl:j=o.length:=by omega
          rw[ZyA]
          refine rg ?_
          refine cd (fun h7=>?_) (fun h7=>?_)
          ·have hxo:x∉o:=by simpa using h7
           refine rx (nd2 @QK.eq_1 (nd2 @eQ1 @hx)) ?_
           refine aa ?_
           refine ZbX (st) (tk) rfl rfl rfl rfl rfl rfl (by trivial) (by trivial) rfl (by first|trivial|assumption) (by omega) (by (unfold big;omega)) fun t3 ht3=>Za ?_
           simp only[Eqs,reduceIte,Zye]
           refine rg ?_
           refine aa ?_
           have hrow3:=hrow.snoc (x:=x) (row2:=Wd [.str []] ([0].zip [.str x])) rfl rfl
           have hnext:=ih_key3 (l.length-(k+1)) (by omega) (k+1) rfl t3 _ (o++[x]) ht3 hrow3 (by rw[hstep,Zax,if_neg hxo]) (by omega)
           rw[Zyr]at hnext
           refine Zf ?_
           exact hnext
          ·have hxo:x∈o:=by simpa using h7
           refine rg ?_
           refine aa ?_
           have hnext:=ih_key3 (l.length-(k+1)) (by omega) (k+1) rfl tk row o htk hrow (by rw[hstep,Zax,if_pos hxo]) (by omega)
           refine Zf ?_
           exact hnext
        exact key4 _ 0 rfl (by omega)
       ·simp at h5
        obtain rfl:k=l.length:=by omega
        rw[ZyA]at ho
        refine rg ?_
        refine aa ?_
        have hnext:=ih_key (m.fields.length-(i+1)) (by omega) (i+1) rfl tk row o htk hrow (by rw[hsucc,List.foldl_append,←hout,ho,hlr]) (by omega)
        refine Zf ?_
        exact hnext
      exact key3 _ 0 rfl tk row out htk hrow rfl (by omega)
    exact key2 _ 0 rfl tl rowl ll htl hrowl (by simp) (by omega)
   refine cd (fun h3=>?_) (fun h3=>?_)
   ·refine rx @eQ0 ?_
    refine ZbX (st.own tk (out.length*1)) (.full) rfl rfl rfl rfl rfl rfl (by trivial) (by trivial) rfl (by first|trivial|assumption) (by decide) (by (unfold big;decide)) fun t2 ht2=>Za ?_
    simp only[Eqs,reduceIte,Zye]
    have hone:[f.of]=JM f:=by unfold JM;rw[if_pos (by rw[←Bool.or_assoc];exact h3)]
    exact jn t2 _ [f.of] ht2 (We.nil.snoc (x:=f.of) rfl rfl) hone
   ·refine Yw ?_
    refine JH [1,3,4,5,6] ?_
    simp only[Eqs,reduceIte,Zye]
    refine kl (st.own tk (out.length*1)) [(1,.loc 1 0),(3,.d (.sl tk out.length 1 row)),(4,.d (.int .i64 i)),(5,.loc 5 0),(6,.d (.sl .full 0 1 fun _=>[]))] [(1,m.cells),(5,f.cells)] (.skip (.skip (.skip (.skip (.cons (.d (JL fun b h=>by cases h)) .nil))))) (ZaV _) ?_
    have hone:[]=JM f:=by unfold JM;rw[if_neg (by rw[←Bool.or_assoc,h3];simp)]
    exact jn .full _ [] trivial We.nil hone
  ·simp at hd
   obtain rfl:i=m.fields.length:=by omega
   rw[ZyA]at hout
   refine rg ?_
   have hrs:KY m=out:=hout.symm
   rw[hrs]at hret
   exact hret rfl (by trivial) (Zff (hrow.le rfl)) (Qz htk)
 exact key _ 0 rfl .full _ [] trivial We.nil rfl (by omega)
def ZtK(l:List Bool):D:=slD 1 (fun b=>[.bool b]) l
def Zas(d:Dfn)(m:Msg)(prev:List Bool):Bool:=m.fields.all (fun f=>!f.loose)&&(KY m).all fun s=>prev.getD (Z5 d s prev.length).toNat dE
def QW(d:Dfn):Nat→List Bool
 |0=>[]
 |n+1=>QW d n++[Zas d (d.msgs.getD n dE) (QW d n)]
theorem ZaQ(d:Dfn)(n:Nat):(QW d n).length=n:=by
 induction n with
 |zero=>rfl
 |succ n ih=>simp[QW,ih]
structure Zaw(d:Dfn)(j:Nat):Prop where
 few:((d.msgs.getD j default).fields.flatMap YW).length≤1000000
 ref:∀s∈KY (d.msgs.getD j default),0≤Z5 d s j
theorem Zhr{α:Type}[Inhabited α]{p:α→Bool}{l:List α}{i:Nat}(h:i<l.length):(l.take (i+1)).all p=((l.take i).all p&&p (l.getD i dE)):=by
 rw[WF h,List.all_append];simp
theorem Znq(d:Dfn)(sm:Nat)(hs:sm≤d.msgs.length)(hsm:sm≤1000)(hr:∀j,j<sm→Zaw d j):ZA Zyg ZJ.id [.agg d.cells,.int .i64 sm] (ZtK (QW d sm)):=by
 refine Kn ZJ.ok fun hwf F st hret=>?_
 have hw:=(ZgW (s:=d) (hwf _ (by simp))).nmsgs
 have hmw:=(ZgW (s:=d) (hwf _ (by simp))).msgs
 unfold big at hw
 clear hwf
 refine rx (nd2 @eQ3 (nd2 @eQ5 @eQ1)) ?_
 refine rg ?_
 refine rg ?_
 refine kl (st) [(1,.d (.int .i64 sm)),(2,.loc 2 0),(5,.d (.sl .full 0 1 fun _=>[])),(6,.d (.int .i64 (0:Nat)))] [(2,d.cells)] (.skip (.skip (.cons (.d (JL fun b h=>by cases h)) (.skip .nil)))) (ZaV _) ?_
 refine Zh (fr (sm) (fun i Q=>∀tk row out,tk.okIn st→We (fun b=>[.bool b]) row out→out=QW d i→i≤sm→Q [(1,.d (.int .i64 sm)),(2,.loc 2 0),(5,.d (.sl tk out.length 1 row)),(6,.d (.int .i64 i))] [(2,d.cells)] (st.own tk (out.length*1))) (fun n ih_key=>?_) fun key=>?_)
 ·intro i hn tk row out htk hrow hout hi
  have hol:out.length=i:=by rw[hout,ZaQ]
  refine rx (nd2 @eQ3 (nd2 @eQ5 @eQ1)) ?_
  refine cd (fun hd=>?_) (fun hd=>?_)
  ·simp at hd
   have hdm:i<d.msgs.length:=by omega
   have hro:=hr i hd
   have hmf:=(hmw _ (W4 hdm)).nfields
   unfold big at hmf
   have hstep:QW d (i+1)=out++[Zas d (d.msgs.getD i dE) out]:=by rw[QW,←hout]
   generalize hm:d.msgs.getD i dE=m at *
   refine rg ?_
   refine rg ?_
   refine Zh (fr (m.fields.length) (fun k Q=>k≤m.fields.length→Q [(1,.d (.int .i64 sm)),(2,.loc 2 0),(5,.d (.sl tk out.length 1 row)),(6,.d (.int .i64 i)),(7,.d (.bool ((m.fields.take k).all fun f=>!f.loose))),(8,.d (.int .i64 k))] [(2,d.cells)] (st.own tk (out.length*1))) (fun n ih_key2=>?_) fun key2=>?_)
   ·intro k hnk hk
    refine rx (nd2 @eQ3 (nd2 @eQ2 (nd2 @eQ5 (nd2 @eQ4 (nd2 @eQ1 @hm))))) ?_
    refine aa ?_
    refine cd (fun h4=>?_) (fun h4=>?_)
    ·simp at h4
     have hall:=Zhr (p:=fun f:Fld=>!f.loose) h4
     refine rx (nd2 @eQ3 (nd2 @eQ2 (nd2 @eQ0 (nd2 @eQ5 (nd2 @eQ4 (nd2 @eQ1 @hm)))))) ?_
     refine aa ?_
     refine rg ?_
     refine aa ?_
     refine Zf ?_
     have hnext:=ih_key2 ((m.fields.length)-(k+1)) (by omega) (k+1) rfl (by omega)
     rw[hall]at hnext
     exact hnext
    ·simp at h4
     obtain rfl:k=m.fields.length:=by omega
     rw[ZyA]
     refine rx (nd2 @eQ3 (nd2 @eQ2 (nd2 @eQ5 (nd2 @eQ1 @hm)))) ?_
     refine aa ?_
     refine YF rfl rfl rfl rfl rfl (by trivial) (by trivial) (by exact Zis m (by have:=hro.few;rw[hm]at this;exact this)) (Za ?_)
     simp only[Eqs,reduceIte,Zye]
     refine rg ?_
     have hfew:=hro.few
     have href:=hro.ref
     rw[hm]at hfew href
     have hrl:=Zac (m.fields.flatMap YW) []
     rw[show(m.fields.flatMap YW).foldl Zax []=KY m from rfl]at hrl
     simp only[List.length_nil,Nat.zero_add]at hrl
     have hst:Zas d m out=((m.fields.all fun f=>!f.loose)&&(KY m).all fun s=>out.getD (Z5 d s i).toNat dE):=by rw[Zas,hol]
     generalize (m.fields.all fun f=>!f.loose)=lo at *
     generalize hrs:KY m=rs at *
     refine kl (st.own tk (out.length*1)) [(1,.d (.int .i64 sm)),(2,.loc 2 0),(5,.d (.sl tk out.length 1 row)),(6,.d (.int .i64 i)),(7,.d (.bool (lo&&(rs.take 0).all fun s=>out.getD (Z5 d s i).toNat dE))),(9,.d (QK rs)),(10,.d (.int .i64 (0:Nat)))] [(2,d.cells)] (by rw[show(lo&&(rs.take 0).all fun s=>out.getD (Z5 d s i).toNat dE)=lo by simp];exact ZdQ _) (ZaV _) ?_
     refine Zh (fr (rs.length) (fun q Q=>q≤rs.length→Q [(1,.d (.int .i64 sm)),(2,.loc 2 0),(5,.d (.sl tk out.length 1 row)),(6,.d (.int .i64 i)),(7,.d (.bool (lo&&(rs.take q).all fun s=>out.getD (Z5 d s i).toNat dE))),(9,.d (QK rs)),(10,.d (.int .i64 q))] [(2,d.cells)] (st.own tk (out.length*1))) (fun n ih_key3=>?_) fun key3=>?_)
     ·intro q hnq hq
      refine rx (nd2 @QK.eq_1 @eQ1) ?_
      refine cd (fun h5=>?_) (fun h5=>?_)
      ·simp at h5
       have hall:=Zhr (p:=fun s:Str=>out.getD (Z5 d s i).toNat dE) h5
       have hge:=href _ (W4 h5)
       have hlt:=QA (fun m=>dC (m.name=rs.getD q dE)) (d.msgs.take i)
       rw[show ZB (fun m=>dC (m.name=rs.getD q dE)) (d.msgs.take i)=Z5 d (rs.getD q dE) i from rfl,Zyw]at hlt
       have hrw:=hrow (Z5 d (rs.getD q dE) i).toNat (by omega)
       refine rx (nd2 @eQ3 (nd2 @eQ5 (nd2 @QK.eq_1 @eQ1))) ?_
       refine aa ?_
       refine Zkw rfl rfl rfl rfl rfl (fun hcg=>⟨by first|trivial|(simpa[Qa]using hcg),trivial,Qy d (rs.getD q dE) i (by omega)⟩) (Ql ?_)
       simp only[Eqs,reduceIte,Zye,hrw]
       refine aa ?_
       refine rg ?_
       refine aa ?_
       refine Zf ?_
       have hnext:=ih_key3 ((rs.length)-(q+1)) (by omega) (q+1) rfl (by omega)
       rw[hall,←Bool.and_assoc]at hnext
       exact hnext
      ·simp at h5
       obtain rfl:q=rs.length:=by omega
       rw[ZyA,←hst]
       refine rg ?_
       refine aa ?_
       refine ZbX (st) (tk) rfl rfl rfl rfl rfl rfl (by trivial) (by trivial) rfl (by first|trivial|assumption) (by omega) (by (unfold big;omega)) fun t1 ht1=>Za ?_
       simp only[Eqs,reduceIte,Zye]
       refine rg ?_
       refine aa ?_
       have hnext:=ih_key (sm-(i+1)) (by omega) (i+1) rfl t1 _ (out++[Zas d m out]) ht1 (hrow.snoc (x:=Zas d m out) (row2:=Wd [.bool false] ([0].zip [.bool (Zas d m out)])) rfl rfl) hstep.symm (by omega)
       rw[Zyr]at hnext
       refine Zf ?_
       exact hnext
     exact key3 _ 0 rfl (by omega)
   exact key2 _ 0 rfl (by omega)
  ·simp at hd
   obtain rfl:i=sm:=by omega
   refine rg ?_
   rw[←hout]at hret
   exact hret rfl (by trivial) (Zff (hrow.le rfl)) (Qz htk)
 exact key _ 0 rfl .full _ [] trivial We.nil rfl (by omega)
def Zha(f:Fld):Bool:=!dC (f.bits=2)&&(!dC (f.bits=4)&&(dC (f.bits<8) ||(dC (512<f.bits)||!dC (Int.tmod f.bits 8=0))))
def Zga(m:Msg)(i:Nat)(f:Fld):Bool:=dC (Yr m f.tag i<0) ||(!KV (m.fields.getD (Yr m f.tag i).toNat dE) ||ZnF m f.tag i)
def Zkj(d:Dfn)(at_:Nat)(f:Fld):Bool:=dC (Z5 d f.of at_<0)||!(QW d at_).getD (Z5 d f.of at_).toNat dE
def W7(d:Dfn)(at_:Nat)(m:Msg)(i:Nat)(f:Fld):Int :=
 if f.kind=1 then JF f else if f.kind=2 then JF f
 else if f.kind=3 then (if Zij f.low f.high then 0 else 7)
 else if f.kind=4 then Zbz (m.fields.take i) f.size
 else if f.kind=5 then (if dC (f.low<0) ||(dC (255<f.low) ||(dC (f.high<0) ||decide (1048576<f.high))) then 7 else 0)
 else if f.kind=6 then (if dC (f.high<2) ||decide (1048576<f.high) then 7 else 0)
 else if f.kind=7 then (if Z5 d f.of at_<0 then 8 else Zbz (m.fields.take i) f.size)
 else if f.kind=8 then (if Z5 d f.of at_<0 then 8 else 0)
 else if f.kind=9 then (if Zga m i f then 8 else Zdq d at_ f (Wz (m.fields.getD (Yr m f.tag i).toNat dE)).1 (Wz (m.fields.getD (Yr m f.tag i).toNat dE)).2)
 else if f.kind=10 then (if Zha f then 6 else 0)
 else if f.kind=11 then (if dC (f.check<1) ||decide (3<f.check) then 7 else if Yr m f.from_ i<0 then 8 else 0)
 else if f.kind=12 then (if dC (f.key<0) ||decide (4294967295<f.key) then 7 else if Zkj d at_ f then 8 else Zbz (m.fields.take i) f.size)
 else 0
theorem Zra(d:Dfn)(at_ i:Nat)(m:Msg)(f:Fld)(ha:at_<d.msgs.length)(hm:d.msgs.getD at_ dE=m)(hi:i<m.fields.length)(hf:m.fields.getD i dE=f)(h1000:at_≤1000)(hr:∀j,j<at_→Zaw d j)(hk:f.kind=1):ZA Zyg Zd.id [.agg d.cells,.int .i64 at_,.int .i64 i] (.int .i64 (W7 d at_ m i f)):=by
 refine ZP Zd.ok fun F st hret=>?_
 have hS:=W7.eq_1 d at_ m i f
 simp only[hk,ZyN,if_true,if_false]at hS
 have hsz:=Qt m i hi
 rw[hf]at hsz
 refine rx (nd2 @eQ3 (nd2 @eQ5 @eQ1)) ?_
 refine rx (nd2 @eQ3 (nd2 @eQ2 (nd2 @eQ5 (nd2 @eQ1 @hm)))) ?_
 refine aa ?_
 refine rx (nd2 @eQ2 (nd2 @eQ0 (nd2 @eQ4 (nd2 @eQ1 @hf)))) ?_
 refine aa ?_
 refine rg ?_
 refine rg ?_
 refine i1 ?_
 refine Yw ?_
 refine i1 ?_
 refine rx @eQ0 ?_
 refine YF rfl rfl rfl rfl rfl (by trivial) (by trivial) (by exact Zit f) (Za ?_)
 simp only[Eqs,reduceIte,Zye]
 refine ri hret ?_
 exact hS.symm
theorem Zrb(d:Dfn)(at_ i:Nat)(m:Msg)(f:Fld)(ha:at_<d.msgs.length)(hm:d.msgs.getD at_ dE=m)(hi:i<m.fields.length)(hf:m.fields.getD i dE=f)(h1000:at_≤1000)(hr:∀j,j<at_→Zaw d j)(hk:f.kind=2):ZA Zyg Zd.id [.agg d.cells,.int .i64 at_,.int .i64 i] (.int .i64 (W7 d at_ m i f)):=by
 refine ZP Zd.ok fun F st hret=>?_
 have hS:=W7.eq_1 d at_ m i f
 simp only[hk,ZyN,if_true,if_false]at hS
 have hsz:=Qt m i hi
 rw[hf]at hsz
 refine rx (nd2 @eQ3 (nd2 @eQ5 @eQ1)) ?_
 refine rx (nd2 @eQ3 (nd2 @eQ2 (nd2 @eQ5 (nd2 @eQ1 @hm)))) ?_
 refine aa ?_
 refine rx (nd2 @eQ2 (nd2 @eQ0 (nd2 @eQ4 (nd2 @eQ1 @hf)))) ?_
 refine aa ?_
 refine rg ?_
 refine rg ?_
 refine i0 ?_
 refine rg ?_
 refine i1 ?_
 refine rx @eQ0 ?_
 refine YF rfl rfl rfl rfl rfl (by trivial) (by trivial) (by exact Zit f) (Za ?_)
 simp only[Eqs,reduceIte,Zye]
 refine ri hret ?_
 exact hS.symm
theorem Zrc(d:Dfn)(at_ i:Nat)(m:Msg)(f:Fld)(ha:at_<d.msgs.length)(hm:d.msgs.getD at_ dE=m)(hi:i<m.fields.length)(hf:m.fields.getD i dE=f)(h1000:at_≤1000)(hr:∀j,j<at_→Zaw d j)(hk:f.kind=3):ZA Zyg Zd.id [.agg d.cells,.int .i64 at_,.int .i64 i] (.int .i64 (W7 d at_ m i f)):=by
 refine ZP Zd.ok fun F st hret=>?_
 have hS:=W7.eq_1 d at_ m i f
 simp only[hk,ZyN,if_true,if_false]at hS
 have hsz:=Qt m i hi
 rw[hf]at hsz
 refine rx (nd2 @eQ3 (nd2 @eQ5 @eQ1)) ?_
 refine rx (nd2 @eQ3 (nd2 @eQ2 (nd2 @eQ5 (nd2 @eQ1 @hm)))) ?_
 refine aa ?_
 refine rx (nd2 @eQ2 (nd2 @eQ0 (nd2 @eQ4 (nd2 @eQ1 @hf)))) ?_
 refine aa ?_
 refine rg ?_
 refine rg ?_
 refine i0 ?_
 refine rg ?_
 refine i0 ?_
 refine rg ?_
 refine i1 ?_
 refine rx @eQ0 ?_
 refine cl (Zrk f.low f.high) ?_
 refine cd (fun h=>?_) (fun h=>?_)
 ·rw[show Zij f.low f.high=false by simpa using h]at hS
  refine rg ?_
  refine ri hret ?_
  exact hS.symm
 ·rw[show Zij f.low f.high=true by simpa using h]at hS
  refine rg ?_
  refine ri hret ?_
  exact hS.symm
theorem Zrd(d:Dfn)(at_ i:Nat)(m:Msg)(f:Fld)(ha:at_<d.msgs.length)(hm:d.msgs.getD at_ dE=m)(hi:i<m.fields.length)(hf:m.fields.getD i dE=f)(h1000:at_≤1000)(hr:∀j,j<at_→Zaw d j)(hk:f.kind=4):ZA Zyg Zd.id [.agg d.cells,.int .i64 at_,.int .i64 i] (.int .i64 (W7 d at_ m i f)):=by
 refine ZP Zd.ok fun F st hret=>?_
 have hS:=W7.eq_1 d at_ m i f
 simp only[hk,ZyN,if_true,if_false]at hS
 have hsz:=Qt m i hi
 rw[hf]at hsz
 refine rx (nd2 @eQ3 (nd2 @eQ5 @eQ1)) ?_
 refine rx (nd2 @eQ3 (nd2 @eQ2 (nd2 @eQ5 (nd2 @eQ1 @hm)))) ?_
 refine aa ?_
 refine rx (nd2 @eQ2 (nd2 @eQ0 (nd2 @eQ4 (nd2 @eQ1 @hf)))) ?_
 refine aa ?_
 refine rg ?_
 refine rg ?_
 refine i0 ?_
 refine rg ?_
 refine i0 ?_
 refine rg ?_
 refine i0 ?_
 refine rg ?_
 refine i1 ?_
 refine rx (nd2 @eQ2 (nd2 @eQ4 @eQ1)) ?_
 refine cl (hsz) ?_
 refine ri hret ?_
 exact hS.symm
theorem Zre(d:Dfn)(at_ i:Nat)(m:Msg)(f:Fld)(ha:at_<d.msgs.length)(hm:d.msgs.getD at_ dE=m)(hi:i<m.fields.length)(hf:m.fields.getD i dE=f)(h1000:at_≤1000)(hr:∀j,j<at_→Zaw d j)(hk:f.kind=5):ZA Zyg Zd.id [.agg d.cells,.int .i64 at_,.int .i64 i] (.int .i64 (W7 d at_ m i f)):=by
 refine ZP Zd.ok fun F st hret=>?_
 have hS:=W7.eq_1 d at_ m i f
 simp only[hk,ZyN,if_true,if_false]at hS
 have hsz:=Qt m i hi
 rw[hf]at hsz
 refine rx (nd2 @eQ3 (nd2 @eQ5 @eQ1)) ?_
 refine rx (nd2 @eQ3 (nd2 @eQ2 (nd2 @eQ5 (nd2 @eQ1 @hm)))) ?_
 refine aa ?_
 refine rx (nd2 @eQ2 (nd2 @eQ0 (nd2 @eQ4 (nd2 @eQ1 @hf)))) ?_
 refine aa ?_
 refine rg ?_
 refine rg ?_
 refine i0 ?_
 refine rg ?_
 refine i0 ?_
 refine rg ?_
 refine i0 ?_
 refine rg ?_
 refine i0 ?_
 refine rg ?_
 refine i1 ?_
 refine rx @eQ0 ?_
 rw[←Bool.or_assoc,←Bool.or_assoc]at hS
 refine cd (fun h=>?_) (fun h=>?_)
 ·rw[h]at hS
  refine rg ?_
  refine ri hret ?_
  exact hS.symm
 ·rw[h]at hS
  refine rg ?_
  refine ri hret ?_
  exact hS.symm
theorem Zrf(d:Dfn)(at_ i:Nat)(m:Msg)(f:Fld)(ha:at_<d.msgs.length)(hm:d.msgs.getD at_ dE=m)(hi:i<m.fields.length)(hf:m.fields.getD i dE=f)(h1000:at_≤1000)(hr:∀j,j<at_→Zaw d j)(hk:f.kind=6):ZA Zyg Zd.id [.agg d.cells,.int .i64 at_,.int .i64 i] (.int .i64 (W7 d at_ m i f)):=by
 refine ZP Zd.ok fun F st hret=>?_
 have hS:=W7.eq_1 d at_ m i f
 simp only[hk,ZyN,if_true,if_false]at hS
 have hsz:=Qt m i hi
 rw[hf]at hsz
 refine rx (nd2 @eQ3 (nd2 @eQ5 @eQ1)) ?_
 refine rx (nd2 @eQ3 (nd2 @eQ2 (nd2 @eQ5 (nd2 @eQ1 @hm)))) ?_
 refine aa ?_
 refine rx (nd2 @eQ2 (nd2 @eQ0 (nd2 @eQ4 (nd2 @eQ1 @hf)))) ?_
 refine aa ?_
 refine rg ?_
 refine rg ?_
 refine i0 ?_
 refine rg ?_
 refine i0 ?_
 refine rg ?_
 refine i0 ?_
 refine rg ?_
 refine i0 ?_
 refine rg ?_
 refine i0 ?_
 refine rg ?_
 refine i1 ?_
 refine rx @eQ0 ?_
 refine cd (fun h=>?_) (fun h=>?_)
 ·rw[h]at hS
  refine rg ?_
  refine ri hret ?_
  exact hS.symm
 ·rw[h]at hS
  refine rg ?_
  refine ri hret ?_
  exact hS.symm
theorem Zrg(d:Dfn)(at_ i:Nat)(m:Msg)(f:Fld)(ha:at_<d.msgs.length)(hm:d.msgs.getD at_ dE=m)(hi:i<m.fields.length)(hf:m.fields.getD i dE=f)(h1000:at_≤1000)(hr:∀j,j<at_→Zaw d j)(hk:f.kind=7):ZA Zyg Zd.id [.agg d.cells,.int .i64 at_,.int .i64 i] (.int .i64 (W7 d at_ m i f)):=by
 refine ZP Zd.ok fun F st hret=>?_
 have hS:=W7.eq_1 d at_ m i f
 simp only[hk,ZyN,if_true,if_false]at hS
 have hsz:=Qt m i hi
 rw[hf]at hsz
 refine rx (nd2 @eQ3 (nd2 @eQ5 @eQ1)) ?_
 refine rx (nd2 @eQ3 (nd2 @eQ2 (nd2 @eQ5 (nd2 @eQ1 @hm)))) ?_
 refine aa ?_
 refine rx (nd2 @eQ2 (nd2 @eQ0 (nd2 @eQ4 (nd2 @eQ1 @hf)))) ?_
 refine aa ?_
 refine rg ?_
 refine rg ?_
 refine i0 ?_
 refine rg ?_
 refine i0 ?_
 refine rg ?_
 refine i0 ?_
 refine rg ?_
 refine i0 ?_
 refine rg ?_
 refine i0 ?_
 refine rg ?_
 refine i0 ?_
 refine rg ?_
 refine i1 ?_
 refine rx (nd2 @eQ3 (nd2 @eQ0 (nd2 @eQ5 @eQ1))) ?_
 refine YF rfl rfl rfl rfl rfl (by trivial) (by trivial) (by exact Qy d f.of at_ (by omega)) (Za ?_)
 simp only[Eqs,reduceIte,Zye]
 refine cd (fun h=>?_) (fun h=>?_)
 ·rw[if_pos (of_decide_eq_true h)]at hS
  refine rg ?_
  refine ri hret ?_
  exact hS.symm
 ·rw[if_neg (of_decide_eq_false h)]at hS
  refine rx (nd2 @eQ2 (nd2 @eQ4 @eQ1)) ?_
  refine cl (hsz) ?_
  refine ri hret ?_
  exact hS.symm
theorem Zrh(d:Dfn)(at_ i:Nat)(m:Msg)(f:Fld)(ha:at_<d.msgs.length)(hm:d.msgs.getD at_ dE=m)(hi:i<m.fields.length)(hf:m.fields.getD i dE=f)(h1000:at_≤1000)(hr:∀j,j<at_→Zaw d j)(hk:f.kind=8):ZA Zyg Zd.id [.agg d.cells,.int .i64 at_,.int .i64 i] (.int .i64 (W7 d at_ m i f)):=by
 refine ZP Zd.ok fun F st hret=>?_
 have hS:=W7.eq_1 d at_ m i f
 simp only[hk,ZyN,if_true,if_false]at hS
 have hsz:=Qt m i hi
 rw[hf]at hsz
 refine rx (nd2 @eQ3 (nd2 @eQ5 @eQ1)) ?_
 refine rx (nd2 @eQ3 (nd2 @eQ2 (nd2 @eQ5 (nd2 @eQ1 @hm)))) ?_
 refine aa ?_
 refine rx (nd2 @eQ2 (nd2 @eQ0 (nd2 @eQ4 (nd2 @eQ1 @hf)))) ?_
 refine aa ?_
 refine rg ?_
 refine rg ?_
 refine i0 ?_
 refine rg ?_
 refine i0 ?_
 refine rg ?_
 refine i0 ?_
 refine rg ?_
 refine i0 ?_
 refine rg ?_
 refine i0 ?_
 refine rg ?_
 refine i0 ?_
 refine rg ?_
 refine i0 ?_
 refine rg ?_
 refine i1 ?_
 refine rx (nd2 @eQ3 (nd2 @eQ0 (nd2 @eQ5 @eQ1))) ?_
 refine YF rfl rfl rfl rfl rfl (by trivial) (by trivial) (by exact Qy d f.of at_ (by omega)) (Za ?_)
 simp only[Eqs,reduceIte,Zye]
 refine cd (fun h=>?_) (fun h=>?_)
 ·rw[if_pos (of_decide_eq_true h)]at hS
  refine rg ?_
  refine ri hret ?_
  exact hS.symm
 ·rw[if_neg (of_decide_eq_false h)]at hS
  refine rg ?_
  refine ri hret ?_
  exact hS.symm
theorem Zri(d:Dfn)(at_ i:Nat)(m:Msg)(f:Fld)(ha:at_<d.msgs.length)(hm:d.msgs.getD at_ dE=m)(hi:i<m.fields.length)(hf:m.fields.getD i dE=f)(h1000:at_≤1000)(hr:∀j,j<at_→Zaw d j)(hk:f.kind=9):ZA Zyg Zd.id [.agg d.cells,.int .i64 at_,.int .i64 i] (.int .i64 (W7 d at_ m i f)):=by
 refine ZP Zd.ok fun F st hret=>?_
 have hS:=W7.eq_1 d at_ m i f
 simp only[hk,ZyN,if_true,if_false]at hS
 have hsz:=Qt m i hi
 rw[hf]at hsz
 refine rx (nd2 @eQ3 (nd2 @eQ5 @eQ1)) ?_
 refine rx (nd2 @eQ3 (nd2 @eQ2 (nd2 @eQ5 (nd2 @eQ1 @hm)))) ?_
 refine aa ?_
 refine rx (nd2 @eQ2 (nd2 @eQ0 (nd2 @eQ4 (nd2 @eQ1 @hf)))) ?_
 refine aa ?_
 refine rg ?_
 refine rg ?_
 refine i0 ?_
 refine rg ?_
 refine i0 ?_
 refine rg ?_
 refine i0 ?_
 refine rg ?_
 refine i0 ?_
 refine rg ?_
 refine i0 ?_
 refine rg ?_
 refine i0 ?_
 refine rg ?_
 refine i0 ?_
 refine rg ?_
 refine i0 ?_
 refine rg ?_
 refine i1 ?_
 refine rx (nd2 @eQ2 (nd2 @eQ0 (nd2 @eQ4 @eQ1))) ?_
 refine YF rfl rfl rfl rfl rfl (by trivial) (by trivial) (by exact Zbc m f.tag i (by omega)) (Za ?_)
 simp only[Eqs,reduceIte,Zye]
 have hge:=Zbi (fun g=>dC (g.name=f.tag)) (m.fields.take i)
 have hlt:=QA (fun g=>dC (g.name=f.tag)) (m.fields.take i)
 rw[Zyw]at hlt
 rw[show ZB (fun g=>dC (g.name=f.tag)) (m.fields.take i)=Yr m f.tag i from rfl]at hge hlt
 unfold Zga at hS
 generalize Yr m f.tag i=q at *
 refine rx (nd2 @eQ2 (nd2 @eQ0 (nd2 @eQ4 @eQ1))) ?_
 refine aa ?_
 refine Kt rfl rfl rfl rfl rfl (fun hcg=>⟨by first|trivial|(simpa[Qa]using hcg),trivial,Zir (m.fields.getD q.toNat dE)⟩) (Za ?_)
 simp only[Eqs,reduceIte,Zye,ZyB,Zyq]
 refine aa ?_
 refine Kt rfl rfl rfl rfl rfl (fun hcg=>⟨by first|trivial|(simpa[Qa]using hcg),trivial,ZoJ m f.tag i (by omega)⟩) (Za ?_)
 simp only[Eqs,reduceIte,Zye]
 refine aa ?_
 rw[←Bool.or_assoc]at hS
 refine cd (fun h=>?_) (fun h=>?_)
 ·rw[h]at hS
  refine rg ?_
  refine ri hret ?_
  exact hS.symm
 ·rw[h]at hS
  have hq:¬q<0:=by intro hq;rw[decide_eq_true hq]at h;simp at h
  refine rx (nd2 @eQ2 (nd2 @eQ0 (nd2 @eQ4 @eQ1))) ?_
  refine aa ?_
  refine cl (ZfN (m.fields.getD q.toNat dE)) ?_
  refine rx (nd2 @eQ3 @eQ0) ?_
  refine YF rfl rfl rfl rfl rfl (by trivial) (by trivial) (by exact ZqA d at_ f _ _ (by omega)) (Za ?_)
  simp only[Eqs,reduceIte,Zye]
  refine ri hret ?_
  exact hS.symm
theorem ZqC(d:Dfn)(at_ i:Nat)(m:Msg)(f:Fld)(ha:at_<d.msgs.length)(hm:d.msgs.getD at_ dE=m)(hi:i<m.fields.length)(hf:m.fields.getD i dE=f)(h1000:at_≤1000)(hr:∀j,j<at_→Zaw d j)(hk:f.kind=10):ZA Zyg Zd.id [.agg d.cells,.int .i64 at_,.int .i64 i] (.int .i64 (W7 d at_ m i f)):=by
 refine ZP Zd.ok fun F st hret=>?_
 have hS:=W7.eq_1 d at_ m i f
 simp only[hk,ZyN,if_true,if_false]at hS
 have hsz:=Qt m i hi
 rw[hf]at hsz
 refine rx (nd2 @eQ3 (nd2 @eQ5 @eQ1)) ?_
 refine rx (nd2 @eQ3 (nd2 @eQ2 (nd2 @eQ5 (nd2 @eQ1 @hm)))) ?_
 refine aa ?_
 refine rx (nd2 @eQ2 (nd2 @eQ0 (nd2 @eQ4 (nd2 @eQ1 @hf)))) ?_
 refine aa ?_
 refine rg ?_
 refine rg ?_
 refine i0 ?_
 refine rg ?_
 refine i0 ?_
 refine rg ?_
 refine i0 ?_
 refine rg ?_
 refine i0 ?_
 refine rg ?_
 refine i0 ?_
 refine rg ?_
 refine i0 ?_
 refine rg ?_
 refine i0 ?_
 refine rg ?_
 refine i0 ?_
 refine rg ?_
 refine i0 ?_
 refine rg ?_
 refine i1 ?_
 refine rx @eQ0 ?_
 have ht1:=Int.tmod_lt_of_pos f.bits (show(0:Int)<8 by decide)
 have ht2:=Int.lt_tmod_of_pos f.bits (show(0:Int)<8 by decide)
 repeat(refine Zyf (by first|omega|trivial|(intro h0;simp at h0;omega)|(intro _;omega)) ?_)
 have hpb:Zha f=(!dC (f.bits=2)&&!dC (f.bits=4)&&(dC (f.bits<8) ||decide (512<f.bits)||!dC (Int.tmod f.bits 8=0))):=by simp only[Zha,Bool.or_assoc,Bool.and_assoc]
 rw[hpb]at hS
 refine cd (fun h=>?_) (fun h=>?_)
 ·rw[h]at hS
  refine rg ?_
  refine ri hret ?_
  exact hS.symm
 ·rw[h]at hS
  refine rg ?_
  refine ri hret ?_
  exact hS.symm
theorem ZqD(d:Dfn)(at_ i:Nat)(m:Msg)(f:Fld)(ha:at_<d.msgs.length)(hm:d.msgs.getD at_ dE=m)(hi:i<m.fields.length)(hf:m.fields.getD i dE=f)(h1000:at_≤1000)(hr:∀j,j<at_→Zaw d j)(hk:f.kind=11):ZA Zyg Zd.id [.agg d.cells,.int .i64 at_,.int .i64 i] (.int .i64 (W7 d at_ m i f)):=by
 refine ZP Zd.ok fun F st hret=>?_
 have hS:=W7.eq_1 d at_ m i f
 simp only[hk,ZyN,if_true,if_false]at hS
 have hsz:=Qt m i hi
 rw[hf]at hsz
 refine rx (nd2 @eQ3 (nd2 @eQ5 @eQ1)) ?_
 refine rx (nd2 @eQ3 (nd2 @eQ2 (nd2 @eQ5 (nd2 @eQ1 @hm)))) ?_
 refine aa ?_
 refine rx (nd2 @eQ2 (nd2 @eQ0 (nd2 @eQ4 (nd2 @eQ1 @hf)))) ?_
 refine aa ?_
 refine rg ?_
 refine rg ?_
 refine i0 ?_
 refine rg ?_
 refine i0 ?_
 refine rg ?_
 refine i0 ?_
 refine rg ?_
 refine i0 ?_
 refine rg ?_
 refine i0 ?_
 refine rg ?_
 refine i0 ?_
 refine rg ?_
 refine i0 ?_
 refine rg ?_
 refine i0 ?_
 refine rg ?_
 refine i0 ?_
 refine rg ?_
 refine i0 ?_
 refine rg ?_
 refine i1 ?_
 refine rx @eQ0 ?_
 refine cd (fun h=>?_) (fun h=>?_)
 ·rw[h]at hS
  refine rg ?_
  refine ri hret ?_
  exact hS.symm
 ·rw[h,if_neg (by decide)]at hS
  refine rx (nd2 @eQ2 (nd2 @eQ0 (nd2 @eQ4 @eQ1))) ?_
  refine YF rfl rfl rfl rfl rfl (by trivial) (by trivial) (by exact Zbc m f.from_ i (by omega)) (Za ?_)
  simp only[Eqs,reduceIte,Zye]
  refine cd (fun h2=>?_) (fun h2=>?_)
  ·rw[if_pos (of_decide_eq_true h2)]at hS
   refine rg ?_
   refine ri hret ?_
   exact hS.symm
  ·rw[if_neg (of_decide_eq_false h2)]at hS
   refine rg ?_
   refine ri hret ?_
   exact hS.symm
theorem ZqE(d:Dfn)(at_ i:Nat)(m:Msg)(f:Fld)(ha:at_<d.msgs.length)(hm:d.msgs.getD at_ dE=m)(hi:i<m.fields.length)(hf:m.fields.getD i dE=f)(h1000:at_≤1000)(hr:∀j,j<at_→Zaw d j)(hk:f.kind=12):ZA Zyg Zd.id [.agg d.cells,.int .i64 at_,.int .i64 i] (.int .i64 (W7 d at_ m i f)):=by
 refine ZP Zd.ok fun F st hret=>?_
 have hS:=W7.eq_1 d at_ m i f
 simp only[hk,ZyN,if_true,if_false]at hS
 have hsz:=Qt m i hi
 rw[hf]at hsz
 refine rx (nd2 @eQ3 (nd2 @eQ5 @eQ1)) ?_
 refine rx (nd2 @eQ3 (nd2 @eQ2 (nd2 @eQ5 (nd2 @eQ1 @hm)))) ?_
 refine aa ?_
 refine rx (nd2 @eQ2 (nd2 @eQ0 (nd2 @eQ4 (nd2 @eQ1 @hf)))) ?_
 refine aa ?_
 refine rg ?_
 refine rg ?_
 refine i0 ?_
 refine rg ?_
 refine i0 ?_
 refine rg ?_
 refine i0 ?_
 refine rg ?_
 refine i0 ?_
 refine rg ?_
 refine i0 ?_
 refine rg ?_
 refine i0 ?_
 refine rg ?_
 refine i0 ?_
 refine rg ?_
 refine i0 ?_
 refine rg ?_
 refine i0 ?_
 refine rg ?_
 refine i0 ?_
 refine rg ?_
 refine i0 ?_
 refine rg ?_
 refine i1 ?_
 refine rx @eQ0 ?_
 refine cd (fun h=>?_) (fun h=>?_)
 ·rw[h]at hS
  refine rg ?_
  refine ri hret ?_
  exact hS.symm
 ·rw[h,if_neg (by decide)]at hS
  refine rx (nd2 @eQ3 (nd2 @eQ0 (nd2 @eQ5 @eQ1))) ?_
  refine YF rfl rfl rfl rfl rfl (by trivial) (by trivial) (by exact Qy d f.of at_ (by omega)) (Za ?_)
  simp only[Eqs,reduceIte,Zye]
  have hge:=Zbi (fun g=>dC (g.name=f.of)) (d.msgs.take at_)
  have hlt:=QA (fun g=>dC (g.name=f.of)) (d.msgs.take at_)
  rw[Zyw]at hlt
  rw[show ZB (fun g=>dC (g.name=f.of)) (d.msgs.take at_)=Z5 d f.of at_ from rfl]at hge hlt
  unfold Zkj at hS
  generalize Z5 d f.of at_=q at *
  have hsl:=ZaQ d at_
  refine rx (nd2 @eQ3 (nd2 @eQ5 @eQ1)) ?_
  refine Kt rfl rfl rfl rfl rfl (fun hcg=>⟨by first|trivial|(simpa[Qa]using hcg),trivial,Znq d at_ (by omega) (by omega) hr⟩) (Za ?_)
  simp only[Eqs,reduceIte,Zye,ZtK,slD]
  rw[hsl]
  refine Zyf (fun h=>by simp at h;omega) ?_
  refine cd (fun h2=>?_) (fun h2=>?_)
  ·rw[h2]at hS
   refine rg ?_
   refine ri hret ?_
   exact hS.symm
  ·rw[h2]at hS
   refine rx (nd2 @eQ2 (nd2 @eQ4 @eQ1)) ?_
   refine cl (hsz) ?_
   refine ri hret ?_
   exact hS.symm
theorem ZqF(d:Dfn)(at_ i:Nat)(m:Msg)(f:Fld)(ha:at_<d.msgs.length)(hm:d.msgs.getD at_ dE=m)(hi:i<m.fields.length)(hf:m.fields.getD i dE=f)(h1000:at_≤1000)(hr:∀j,j<at_→Zaw d j)(h1:1≤f.kind)(h12:f.kind≤12):ZA Zyg Zd.id [.agg d.cells,.int .i64 at_,.int .i64 i] (.int .i64 (W7 d at_ m i f)):=by
 have:f.kind=1∨f.kind=2∨f.kind=3∨f.kind=4∨f.kind=5∨f.kind=6∨f.kind=7∨f.kind=8∨f.kind=9∨f.kind=10∨f.kind=11∨f.kind=12:=by omega
 rcases this with h|h|h|h|h|h|h|h|h|h|h|h
 ·exact Zra d at_ i m f ha hm hi hf h1000 hr h
 ·exact Zrb d at_ i m f ha hm hi hf h1000 hr h
 ·exact Zrc d at_ i m f ha hm hi hf h1000 hr h
 ·exact Zrd d at_ i m f ha hm hi hf h1000 hr h
 ·exact Zre d at_ i m f ha hm hi hf h1000 hr h
 ·exact Zrf d at_ i m f ha hm hi hf h1000 hr h
 ·exact Zrg d at_ i m f ha hm hi hf h1000 hr h
 ·exact Zrh d at_ i m f ha hm hi hf h1000 hr h
 ·exact Zri d at_ i m f ha hm hi hf h1000 hr h
 ·exact ZqC d at_ i m f ha hm hi hf h1000 hr h
 ·exact ZqD d at_ i m f ha hm hi hf h1000 hr h
 ·exact ZqE d at_ i m f ha hm hi hf h1000 hr h
def QF(d:Dfn)(at_:Nat)(m:Msg)(i:Nat)(f:Fld):Int :=
 if K4 f.name=false then 1 else if 0≤Yr m f.name i then 2 else if dC (f.kind<1) ||decide (12<f.kind) then 4 else if Zeo f=false then 5 else W7 d at_ m i f
theorem ZqB(d:Dfn)(at_ i:Nat)(m:Msg)(f:Fld)(ha:at_<d.msgs.length)(hm:d.msgs.getD at_ dE=m)(hi:i<m.fields.length)(hf:m.fields.getD i dE=f)(h1000:at_≤1000)(hr:∀j,j<at_→Zaw d j):ZA Zyg Y4.id [.agg d.cells,.int .i64 at_,.int .i64 i] (.int .i64 (QF d at_ m i f)):=by
 refine ZP Y4.ok fun F st hret=>?_
 have hS:=QF.eq_1 d at_ m i f
 refine rx (nd2 @eQ3 (nd2 @eQ5 @eQ1)) ?_
 refine rx (nd2 @eQ3 (nd2 @eQ2 (nd2 @eQ0 (nd2 @eQ5 (nd2 @eQ4 (nd2 @eQ1 (nd2 @hm @hf))))))) ?_
 refine aa ?_
 refine rx @eQ0 ?_
 refine cl (Zel f.name) ?_
 refine cd (fun h=>?_) (fun h=>?_)
 ·rw[if_pos (by simpa using h)]at hS
  refine rg ?_
  refine ri hret ?_
  exact hS.symm
 ·rw[if_neg (by simpa using h)]at hS
  refine rx (nd2 @eQ3 (nd2 @eQ2 (nd2 @eQ0 (nd2 @eQ5 (nd2 @eQ4 (nd2 @eQ1 @hm)))))) ?_
  refine aa ?_
  refine Zdh rfl rfl rfl rfl rfl (by trivial) (by trivial) (by exact Zbc m f.name i (by omega)) (Ql ?_)
  simp only[Eqs,reduceIte,Zye]
  refine cd (fun h2=>?_) (fun h2=>?_)
  ·rw[if_pos (of_decide_eq_true h2)]at hS
   refine rg ?_
   refine ri hret ?_
   exact hS.symm
  ·rw[if_neg (of_decide_eq_false h2)]at hS
   refine rx @eQ0 ?_
   refine cd (fun h3=>?_) (fun h3=>?_)
   ·rw[h3]at hS
    refine rg ?_
    refine ri hret ?_
    exact hS.symm
   ·have h33:=h3
    rw[Bool.or_eq_false_iff,decide_eq_false_iff_not,decide_eq_false_iff_not]at h33
    rw[h3,if_neg (by decide)]at hS
    refine rx @eQ0 ?_
    refine YF rfl rfl rfl rfl rfl (by trivial) (by trivial) (by exact Zrl f (by omega) (by omega)) (Za ?_)
    simp only[Eqs,reduceIte,Zye]
    refine cd (fun h4=>?_) (fun h4=>?_)
    ·rw[if_pos (by simpa using h4)]at hS
     refine rg ?_
     refine ri hret ?_
     exact hS.symm
    ·rw[if_neg (by simpa using h4)]at hS
     refine rx @eQ3 ?_
     refine YF rfl rfl rfl rfl rfl (by trivial) (by trivial) (by exact ZqF d at_ i m f ha hm hi hf h1000 hr (by omega) (by omega)) (Za ?_)
     simp only[Eqs,reduceIte,Zye]
     refine ri hret ?_
     exact hS.symm
def W9(d:Dfn)(at_:Nat)(m:Msg):Nat→List Fld→Option (Int×Int)
 |_,[]=>nO
 |i,f::r=>if QF d at_ m i f=0 then W9 d at_ m (i+1) r else sO (i,QF d at_ m i f)
def QP(d:Dfn)(at_:Nat)(m:Msg):Option (Int×Int) :=
 if K4 m.name=false then sO (-1,1) else if 0≤Z5 d m.name at_ then sO (-1,2) else if dC (m.fields.length<1) ||decide (40<m.fields.length) then sO (-1,3) else W9 d at_ m 0 m.fields
def Zb4(d:Dfn)(at_:Nat)(deps:List Int)(b:Int)(l:List Str):Int:=l.foldl (fun a s=>max a (deps.getD (Z5 d s at_).toNat dE)) b
def Zev(d:Dfn)(at_:Nat)(deps:List Int)(m:Msg):Int:=Zb4 d at_ deps 0 (KY m)+1
def JW(d:Dfn):Nat→List Msg→List Int→Option (Int×Int×Int)
 |_,[],_=>if Z5 d d.start d.msgs.length<0 then sO (-1,-1,11) else nO
 |at_,m::r,deps=>match QP d at_ m with
  |some (i,c)=>sO (at_,i,c)
  |none=>if 16<Zev d at_ deps m then sO (at_,-1,10) else JW d (at_+1) r (deps++[Zev d at_ deps m])
def Zcz(d:Dfn):Option (Int×Int×Int) :=
 if K4 d.name=false then sO (-1,-1,1) else if dC (d.msgs.length<1) ||decide (60<d.msgs.length) then sO (-1,-1,3) else JW d 0 d.msgs []
def ZcK(d:Dfn):Bool:=(Zcz d).isNone
theorem ZtL{d:Dfn}{at_:Nat}{high low:Int}{l:List QB}(h:Za5 d at_ high low l=0):∀c∈l,0≤Z5 d c.of at_:=by
 induction l generalizing low with
 |nil=>simp
 |cons c r ih =>
  simp only[Za5]at h
  split at h
  ·omega
  ·split at h
   ·omega
   ·intro x hx
    rcases List.mem_cons.1 hx with rfl|hx
    ·omega
    ·exact ih h x hx
theorem ZiV{d:Dfn}{at_ i:Nat}{m:Msg}{f:Fld}(h:QF d at_ m i f=0):(YW f).length≤41∧∀s∈YW f,0≤Z5 d s at_:=by
 unfold QF at h
 split at h;· omega
 split at h;· omega
 split at h;· omega
 rename_i hk
 split at h;· omega
 simp only[Zyu,decide_eq_true_eq,not_or,Int.not_lt]at hk
 have hk2:f.kind=1∨f.kind=2∨f.kind=3∨f.kind=4∨f.kind=5∨f.kind=6∨f.kind=7∨f.kind=8∨f.kind=9∨f.kind=10∨f.kind=11∨f.kind=12:=by omega
 unfold W7 at h
 rcases hk2 with hk|hk|hk|hk|hk|hk|hk|hk|hk|hk|hk|hk<;>simp only[hk,ZyN,if_true,if_false]at h<;>(try(simp[YW,JM,hk];done))
 ·simp only[YW,JM,hk];split at h
  ·omega
  ·simp;omega
 ·simp only[YW,JM,hk];split at h
  ·omega
  ·simp;omega
 ·split at h
  ·omega
  ·unfold Zdq at h
   split at h
   ·omega
   ·rename_i hc
    simp only[Zyu,decide_eq_true_eq,not_or,Nat.not_lt]at hc
    have:=ZtL h
    simp[YW,JM,hk]
    exact⟨by omega,this⟩
 ·split at h
  ·omega
  ·split at h
   ·omega
   ·rename_i hv
    simp only[Zkj,Zyu,decide_eq_true_eq,not_or]at hv
    simp[YW,JM,hk];omega
theorem Zl4{d:Dfn}{at_:Nat}{m:Msg}{i:Nat}{l:List Fld}(h:W9 d at_ m i l=nO):(l.flatMap YW).length≤41*l.length∧∀s∈l.flatMap YW,0≤Z5 d s at_:=by
 induction l generalizing i with
 |nil=>simp
 |cons f r ih =>
  simp only[W9]at h
  split at h
  ·rename_i hf
   have h1:=ZiV hf
   have h2:=ih h
   simp only[List.flatMap_cons,Zyr,ZyE,List.mem_append]
   refine⟨by omega,fun s hs=>?_⟩
   rcases hs with hs|hs
   ·exact h1.2 s hs
   ·exact h2.2 s hs
  ·simp at h
theorem Zg1{s:Str}{l out:List Str}:s∈l.foldl Zax out↔s∈out∨s∈l:=by
 induction l generalizing out with
 |nil=>simp
 |cons x r ih =>
  simp only[List.foldl_cons,ih,ZyP]
  unfold Zax
  split
  ·rename_i h
   constructor
   ·rintro(h1|h1)
    ·exact .inl h1
    ·exact .inr (.inr h1)
   ·rintro(h1|rfl|h1)
    ·exact .inl h1
    ·exact .inl h
    ·exact .inr h1
  ·simp only[List.mem_append,List.mem_singleton,_root_.or_assoc]
theorem Zq9{s:Str}{m:Msg}:s∈KY m↔s∈m.fields.flatMap YW:=by
 unfold KY;rw[Zg1];simp
theorem ZqK{d:Dfn}{j:Nat}{m:Msg}(hm:d.msgs.getD j dE=m)(h:QP d j m=nO):Zaw d j:=by
 unfold QP at h
 split at h;· simp at h
 split at h;· simp at h
 split at h;· simp at h
 rename_i hc
 simp only[Zyu,decide_eq_true_eq,not_or,Nat.not_lt]at hc
 have:=Zl4 h
 subst hm
 exact⟨by omega,fun s hs=>this.2 s (Zq9.1 hs)⟩
end Go.DL
namespace Go.DL
open Go
variable {kp:Option (List Nat)}{L:Loc}{ρ:Env}{s:St}{w:World}{os:List DOp}{ds:List D}{B:List (Nat × Rd)}{dst:Option Nat}{tmps:Array Value}{g:G}{Φ:Res→St→Prop}{ν:Nat→Nat}{xs:List Opd}{side:Prop}{row:Nat→List D}{vs:List V}
theorem Ke{q:Nat→Prop}{j:Nat}(h:∀i,i<j→q i)(hj:q j):∀i,i<j+1→q i:=fun i hi=>by
 rcases Nat.lt_or_eq_of_le (Nat.le_of_lt_succ hi) with h' |rfl
 ·exact h i h'
 ·exact hj
def st2(st:St)(t1:Tok)(k1:Nat)(t2:Tok)(k2:Nat)(x:Nat)(c:Wt):St:=((st.own t1 k1).own t2 k2).upd x c
theorem KZ{st:St}{t1 t2:Tok}{x k1 k2:Nat}{c:Wt}:(st2 st t1 k1 t2 k2 x c) x=sO c:=Zyo _ _ _
theorem K0{st:St}{t1 t2:Tok}{x k1 k2:Nat}{c c':Wt}:(st2 st t1 k1 t2 k2 x c).upd x c'=st2 st t1 k1 t2 k2 x c':=Zyz _ _ _ _
open Go.Proofs
def Zbu{α:Type}(p:α→Bool):List α→Nat
 | []=>0
 |x::r=>if p x then 1 else Zbu p r+1
theorem Ze9{α:Type}{p:α→Bool}{l:List α}(h:∀x∈l,p x=false):Zbu p l=l.length:=by
 induction l with
 |nil=>rfl
 |cons x r ih=>simp only[Zbu,h x (by simp),ZyE];rw[ih fun y hy=>h y (by simp[hy])];simp
theorem Zh6{α:Type}[Inhabited α]{p:α→Bool}{l:List α}{i:Nat}(hi:i<l.length)(hp:p (l.getD i dE)=true)(h:∀j,j<i→p (l.getD j dE)=false):Zbu p l=i+1:=by
 induction l generalizing i with
 |nil=>simp at hi
 |cons x r ih =>
  cases i with
  |zero=>simp at hp;simp[Zbu,hp]
  |succ i =>
   have h0:=h 0 (by omega)
   simp only[List.getD_cons_zero]at h0
   simp only[List.getD_cons_succ,ZyE]at hp hi
   simp only[Zbu,h0]
   rw[ih (by omega) hp fun j hj=>by have:=h (j+1) (by omega);simpa only[List.getD_cons_succ]using this]
   simp
def byC(b:UInt8):List D:=[.int .u8 (b.toNat:Int)]
theorem Zdn{α:Type}(p:α→Bool)(l:List α):l.any p=dC (0≤ZB p l):=by
 induction l with
 |nil=>rfl
 |cons x r ih =>
  have:=Zbi p r
  rw[List.any_cons,ih]
  simp only[ZB]
  by_cases hx:p x=true
  ·simp[hx]
  ·by_cases hr:ZB p r<0
   ·simp[hx,hr]
   ·simp[hx,hr];omega
theorem ZeG(l:List Msg)(f:D)(p:Msg→Bool)(sts:Nat→St)(hf:∀i,i<l.length→VT Zyg f [.agg (l.getD i dE).cells] (sts i) (.bool (p (l.getD i dE))) (sts (i+1))):
  Wi Zyg Zt.id [slD 2 Msg.cells l,f] (sts 0) (.int .i64 (ZB p l)) (sts (Zbu p l)):=by
 refine Wb Zt.ok fun hwf F hret=>?_
 have hw:=(JE (hwf (slD 2 Msg.cells l) (by simp))).1
 unfold big at hw
 clear hwf
 refine rx @eQ1 ?_
 refine rx @eQ1 ?_
 refine Zh (fr (l.length) (fun i Q=>i≤l.length→(∀j,j<i→p (l.getD j dE)=false)→Q [(0,.d (slD 2 Msg.cells l)),(1,.d f),(7,.d (.int .i64 l.length)),(8,.d (.int .i64 i))] [] (sts i)) (fun n ih_key=>?_) fun key=>?_)
 ·intro i hn hi hno
  refine rx @eQ1 ?_
  refine Zi (YC rfl trivial (fun h1=>?_) (fun h1=>?_))
  ·simp at h1
   refine rx @eQ1 ?_
   refine rx (nd2 @eQ1 @eQ2) ?_
   refine aa ?_
   refine ZcL rfl rfl rfl rfl rfl (by trivial) (by trivial) (by exact hf i h1) (Za ?_)
   simp only[Eqs,reduceCtorEq,reduceIte,Zye]
   refine cd (fun h2=>?_) (fun h2=>?_)
   ·have e1:=ZaM h1 h2 hno
    have e2:=Zh6 h1 h2 hno
    rw[e1,e2]at hret
    refine rg ?_
    exact hret rfl (by trivial) (Zyj _) (Zyi _)
   ·refine rg ?_
    refine aa ?_
    refine Zf ?_
    exact ih_key ((l.length)-(i+1)) (by omega) (i+1) rfl (by omega) (Ke (q:=fun j=>p (l.getD j dE)=false) hno h2)
  ·simp at h1
   obtain rfl:i=l.length:=by omega
   have hall:∀x∈l,p x=false:=fun x hx=>by
    obtain⟨j,hj,rfl⟩:=ZyC hx
    have:=hno j hj
    simpa[Zyx,hj]using this
   rw[ZaX hall,Ze9 hall]at hret
   refine rg ?_
   exact hret rfl (by trivial) (Zyj _) (Zyi _)
 exact key _ 0 rfl (by omega) (by intro j hj;omega)
theorem ZbS(l:List Fld)(f:D)(p:Fld→Bool)(sts:Nat→St)(hf:∀i,i<l.length→VT Zyg f [.agg (l.getD i dE).cells] (sts i) (.bool (p (l.getD i dE))) (sts (i+1))):
  Wi Zyg Zz.id [slD 15 Fld.cells l,f] (sts 0) (.int .i64 (ZB p l)) (sts (Zbu p l)):=by
 refine Wb Zz.ok fun hwf F hret=>?_
 have hw:=(JE (hwf (slD 15 Fld.cells l) (by simp))).1
 unfold big at hw
 clear hwf
 refine rx @eQ1 ?_
 refine rx @eQ1 ?_
 refine Zh (fr (l.length) (fun i Q=>i≤l.length→(∀j,j<i→p (l.getD j dE)=false)→Q [(0,.d (slD 15 Fld.cells l)),(1,.d f),(7,.d (.int .i64 l.length)),(8,.d (.int .i64 i))] [] (sts i)) (fun n ih_key=>?_) fun key=>?_)
 ·intro i hn hi hno
  refine rx @eQ1 ?_
  refine Zi (YC rfl trivial (fun h1=>?_) (fun h1=>?_))
  ·simp at h1
   refine rx @eQ1 ?_
   refine rx (nd2 @eQ1 @eQ0) ?_
   refine aa ?_
   refine ZcL rfl rfl rfl rfl rfl (by trivial) (by trivial) (by exact hf i h1) (Za ?_)
   simp only[Eqs,reduceCtorEq,reduceIte,Zye]
   refine cd (fun h2=>?_) (fun h2=>?_)
   ·have e1:=ZaM h1 h2 hno
    have e2:=Zh6 h1 h2 hno
    rw[e1,e2]at hret
    refine rg ?_
    exact hret rfl (by trivial) (Zyj _) (Zyi _)
   ·refine rg ?_
    refine aa ?_
    refine Zf ?_
    exact ih_key ((l.length)-(i+1)) (by omega) (i+1) rfl (by omega) (Ke (q:=fun j=>p (l.getD j dE)=false) hno h2)
  ·simp at h1
   obtain rfl:i=l.length:=by omega
   have hall:∀x∈l,p x=false:=fun x hx=>by
    obtain⟨j,hj,rfl⟩:=ZyC hx
    have:=hno j hj
    simpa[Zyx,hj]using this
   rw[ZaX hall,Ze9 hall]at hret
   refine rg ?_
   exact hret rfl (by trivial) (Zyj _) (Zyi _)
 exact key _ 0 rfl (by omega) (by intro j hj;omega)
theorem ZfZ(l:List UInt8)(f:D)(p:UInt8→Bool)(sts:Nat→St)(hf:∀i,i<l.length→VT Zyg f [.int .u8 ((l.getD i dE).toNat:Int)] (sts i) (.bool (p (l.getD i dE))) (sts (i+1))):
  Wi Zyg ZD.id [slD 1 byC l,f] (sts 0) (.int .i64 (ZB p l)) (sts (Zbu p l)):=by
 refine Wb ZD.ok fun hwf F hret=>?_
 have hw:=(JE (hwf (slD 1 byC l) (by simp))).1
 unfold big at hw
 clear hwf
 refine rx @eQ1 ?_
 refine rx @eQ1 ?_
 refine Zh (fr (l.length) (fun i Q=>i≤l.length→(∀j,j<i→p (l.getD j dE)=false)→Q [(0,.d (slD 1 byC l)),(1,.d f),(7,.d (.int .i64 l.length)),(8,.d (.int .i64 i))] [] (sts i)) (fun n ih_key=>?_) fun key=>?_)
 ·intro i hn hi hno
  refine rx @eQ1 ?_
  refine Zi (YC rfl trivial (fun h1=>?_) (fun h1=>?_))
  ·simp at h1
   refine rx @eQ1 ?_
   refine rx (nd2 @eQ1 @byC.eq_1) ?_
   refine aa ?_
   refine ZcL rfl rfl rfl rfl rfl (by trivial) (by trivial) (by exact hf i h1) (Za ?_)
   simp only[Eqs,reduceCtorEq,reduceIte,Zye]
   refine cd (fun h2=>?_) (fun h2=>?_)
   ·have e1:=ZaM h1 h2 hno
    have e2:=Zh6 h1 h2 hno
    rw[e1,e2]at hret
    refine rg ?_
    exact hret rfl (by trivial) (Zyj _) (Zyi _)
   ·refine rg ?_
    refine aa ?_
    refine Zf ?_
    exact ih_key ((l.length)-(i+1)) (by omega) (i+1) rfl (by omega) (Ke (q:=fun j=>p (l.getD j dE)=false) hno h2)
  ·simp at h1
   obtain rfl:i=l.length:=by omega
   have hall:∀x∈l,p x=false:=fun x hx=>by
    obtain⟨j,hj,rfl⟩:=ZyC hx
    have:=hno j hj
    simpa[Zyx,hj]using this
   rw[ZaX hall,Ze9 hall]at hret
   refine rg ?_
   exact hret rfl (by trivial) (Zyj _) (Zyi _)
 exact key _ 0 rfl (by omega) (by intro j hj;omega)
theorem Zd6(l:List Fld)(f:D)(p:Fld→Bool)(sts:Nat→St)(hf:∀i,i<l.length→VT Zyg f [.agg (l.getD i dE).cells] (sts i) (.bool (p (l.getD i dE))) (sts (i+1))):
  Wi Zyg Yp.id [slD 15 Fld.cells l,f] (sts 0) (.bool (l.any p)) (sts (Zbu p l)):=by
 refine Wb Yp.ok fun hwf F hret=>?_
 clear hwf
 refine rg ?_
 refine rg ?_
 refine ct (ZbS l f p sts hf) ?_
 rw[Zdn]at hret
 exact hret rfl (by trivial) (Zyj _) (Zyi _)
theorem ZeF(l:List UInt8)(f:D)(p:UInt8→Bool)(sts:Nat→St)(hf:∀i,i<l.length→VT Zyg f [.int .u8 ((l.getD i dE).toNat:Int)] (sts i) (.bool (p (l.getD i dE))) (sts (i+1))):
  Wi Zyg Yn.id [slD 1 byC l,f] (sts 0) (.bool (l.any p)) (sts (Zbu p l)):=by
 refine Wb Yn.ok fun hwf F hret=>?_
 clear hwf
 refine rg ?_
 refine rg ?_
 refine ct (ZfZ l f p sts hf) ?_
 rw[Zdn]at hret
 exact hret rfl (by trivial) (Zyj _) (Zyi _)
def boC(b:Bool):List D:=[.bool b]
def ZgL(s:Str):List D:=[.str s]
theorem ZlM{α:Type}[DecidableEq α](v:α)(l:List α):l.any (fun x=>dC (v=x))=dC (v∈l):=by
 induction l with
 |nil=>simp
 |cons x r ih=>rw[List.any_cons,ih];simp[ZyP]
theorem Zip{α:Type}[Inhabited α]{l r:List α}(h:l.length=r.length)(h2:∀j,j<l.length→l.getD j dE=r.getD j dE):l=r:=by
 apply List.ext_getElem h
 intro i h1 h3
 have:=h2 i h1
 simpa[Zyx,h1,h3]using this
theorem Zib(l:List Bool)(v:Bool):ZA Zyg ZY.id [slD 1 boC l,.bool v] (.int .i64 (ZB (fun x=>dC (v=x)) l)):=by
 refine Kn ZY.ok fun hwf F st hret=>?_
 have hw:=(JE (hwf (slD 1 boC l) (by simp))).1
 unfold big at hw
 clear hwf
 refine rx @eQ1 ?_
 refine rx @eQ1 ?_
 refine Zh (fr (l.length) (fun i Q=>i≤l.length→(∀j,j<i→dC (v=l.getD j dE)=false)→Q [(0,.d (slD 1 boC l)),(1,.d (.bool v)),(7,.d (.int .i64 l.length)),(8,.d (.int .i64 i))] [] st) (fun n ih_key=>?_) fun key=>?_)
 ·intro i hn hi hno
  refine rx @eQ1 ?_
  refine Zi (YC rfl trivial (fun h1=>?_) (fun h1=>?_))
  ·simp at h1
   refine rx @eQ1 ?_
   refine rx (nd2 @eQ1 @boC.eq_1) ?_
   refine aa ?_
   refine cd (fun h2=>?_) (fun h2=>?_)
   ·have e1:=ZaM (p:=fun x=>dC (v=x)) h1 h2 hno
    refine rg ?_
    refine ri hret ?_
    exact e1.symm
   ·refine rg ?_
    refine aa ?_
    refine Zf ?_
    exact ih_key ((l.length)-(i+1)) (by omega) (i+1) rfl (by omega) (Ke (q:=fun j=>dC (v=l.getD j dE)=false) hno h2)
  ·simp at h1
   obtain rfl:i=l.length:=by omega
   have hall:∀x∈l,(fun x=>dC (v=x)) x=false:=fun x hx=>by
    obtain⟨j,hj,rfl⟩:=ZyC hx
    have:=hno j hj
    simpa[Zyx,hj]using this
   refine rg ?_
   refine ri hret ?_
   exact(ZaX hall).symm
 exact key _ 0 rfl (by omega) (by intro j hj;omega)
theorem Zf5(l:List Bool)(v:Bool):ZA Zyg YR.id [slD 1 boC l,.bool v] (.bool (dC (v∈l))):=by
 refine ZP YR.ok fun F st hret=>?_
 refine rg ?_
 refine rg ?_
 refine cl (Zib l v) ?_
 refine rb hret ?_
 rw[←Zdn,ZlM];try congr
theorem ZgK(l:List Str)(v:Str):ZA Zyg ZI.id [slD 1 ZgL l,.str v] (.int .i64 (ZB (fun x=>dC (v=x)) l)):=by
 refine Kn ZI.ok fun hwf F st hret=>?_
 have hw:=(JE (hwf (slD 1 ZgL l) (by simp))).1
 unfold big at hw
 clear hwf
 refine rx @eQ1 ?_
 refine rx @eQ1 ?_
 refine Zh (fr (l.length) (fun i Q=>i≤l.length→(∀j,j<i→dC (v=l.getD j dE)=false)→Q [(0,.d (slD 1 ZgL l)),(1,.d (.str v)),(7,.d (.int .i64 l.length)),(8,.d (.int .i64 i))] [] st) (fun n ih_key=>?_) fun key=>?_)
 ·intro i hn hi hno
  refine rx @eQ1 ?_
  refine Zi (YC rfl trivial (fun h1=>?_) (fun h1=>?_))
  ·simp at h1
   refine rx @eQ1 ?_
   refine rx (nd2 @eQ1 @ZgL.eq_1) ?_
   refine aa ?_
   refine cd (fun h2=>?_) (fun h2=>?_)
   ·have e1:=ZaM (p:=fun x=>dC (v=x)) h1 h2 hno
    refine rg ?_
    refine ri hret ?_
    exact e1.symm
   ·refine rg ?_
    refine aa ?_
    refine Zf ?_
    exact ih_key ((l.length)-(i+1)) (by omega) (i+1) rfl (by omega) (Ke (q:=fun j=>dC (v=l.getD j dE)=false) hno h2)
  ·simp at h1
   obtain rfl:i=l.length:=by omega
   have hall:∀x∈l,(fun x=>dC (v=x)) x=false:=fun x hx=>by
    obtain⟨j,hj,rfl⟩:=ZyC hx
    have:=hno j hj
    simpa[Zyx,hj]using this
   refine rg ?_
   refine ri hret ?_
   exact(ZaX hall).symm
 exact key _ 0 rfl (by omega) (by intro j hj;omega)
theorem Zfa(l:List Str)(v:Str):ZA Zyg Yy.id [slD 1 ZgL l,.str v] (.bool (dC (v∈l))):=by
 refine ZP Yy.ok fun F st hret=>?_
 refine rg ?_
 refine rg ?_
 refine cl (ZgK l v) ?_
 refine rb hret ?_
 rw[←Zdn,ZlM];try congr
theorem Zia(l r:List YN):ZA Zyg ZL.id [slD 2 YN.cells l,slD 2 YN.cells r] (.bool (dC (l=r))):=by
 refine Kn ZL.ok fun hwf F st hret=>?_
 have hw:=(JE (hwf (slD 2 YN.cells l) (by simp))).1
 unfold big at hw
 clear hwf
 refine rx @eQ1 ?_
 refine rx @eQ1 ?_
 refine cd (fun h1=>?_) (fun h1=>?_)
 ·refine rg ?_
  refine rb hret ?_
  exact(decide_eq_false (fun e=>by rw[e]at h1;simp at h1)).symm
 ·have hlen:l.length=r.length:=by simp at h1;omega
  refine rx @eQ1 ?_
  refine Zh (fr (l.length) (fun i Q=>i≤l.length→(∀j,j<i→l.getD j dE=r.getD j dE)→Q [(0,.d (slD 2 YN.cells l)),(1,.d (slD 2 YN.cells r)),(12,.d (.int .i64 l.length)),(13,.d (.int .i64 i))] [] st) (fun n ih_key=>?_) fun key=>?_)
  ·intro i hn hi hno
   refine rx @eQ1 ?_
   refine Zi (YC rfl trivial (fun h2=>?_) (fun h2=>?_))
   ·simp at h2
    refine rx @eQ1 ?_
    refine rx (nd2 @eQ1 @eQ8) ?_
    refine aa ?_
    refine cd (fun h3=>?_) (fun h3=>?_)
    ·have hne:l.getD i dE≠r.getD i dE:=fun e=>by rw[e]at h3;simp at h3
     refine rg ?_
     refine rb hret ?_
     exact(decide_eq_false (fun e=>hne (by rw[e]))).symm
    ·have heq:l.getD i dE=r.getD i dE:=by
      generalize l.getD i dE=a at h3⊢;generalize r.getD i dE=b at h3⊢;cases a;cases b;simpa[and_assoc]using h3
     refine rg ?_
     refine aa ?_
     refine Zf ?_
     exact ih_key ((l.length)-(i+1)) (by omega) (i+1) rfl (by omega) (Ke (q:=fun j=>l.getD j dE=r.getD j dE) hno heq)
   ·simp at h2
    obtain rfl:i=l.length:=by omega
    refine rg ?_
    refine rb hret ?_
    exact(decide_eq_true (Zip hlen hno)).symm
  exact key _ 0 rfl (by omega) (by intro j hj;omega)
theorem Zh9(l r:List QB):ZA Zyg ZK.id [slD 3 QB.cells l,slD 3 QB.cells r] (.bool (dC (l=r))):=by
 refine Kn ZK.ok fun hwf F st hret=>?_
 have hw:=(JE (hwf (slD 3 QB.cells l) (by simp))).1
 unfold big at hw
 clear hwf
 refine rx @eQ1 ?_
 refine rx @eQ1 ?_
 refine cd (fun h1=>?_) (fun h1=>?_)
 ·refine rg ?_
  refine rb hret ?_
  exact(decide_eq_false (fun e=>by rw[e]at h1;simp at h1)).symm
 ·have hlen:l.length=r.length:=by simp at h1;omega
  refine rx @eQ1 ?_
  refine Zh (fr (l.length) (fun i Q=>i≤l.length→(∀j,j<i→l.getD j dE=r.getD j dE)→Q [(0,.d (slD 3 QB.cells l)),(1,.d (slD 3 QB.cells r)),(12,.d (.int .i64 l.length)),(13,.d (.int .i64 i))] [] st) (fun n ih_key=>?_) fun key=>?_)
  ·intro i hn hi hno
   refine rx @eQ1 ?_
   refine Zi (YC rfl trivial (fun h2=>?_) (fun h2=>?_))
   ·simp at h2
    refine rx @eQ1 ?_
    refine rx (nd2 @eQ1 @eQ9) ?_
    refine aa ?_
    refine cd (fun h3=>?_) (fun h3=>?_)
    ·have hne:l.getD i dE≠r.getD i dE:=fun e=>by rw[e]at h3;simp at h3
     refine rg ?_
     refine rb hret ?_
     exact(decide_eq_false (fun e=>hne (by rw[e]))).symm
    ·have heq:l.getD i dE=r.getD i dE:=by
      generalize l.getD i dE=a at h3⊢;generalize r.getD i dE=b at h3⊢;cases a;cases b;simpa[and_assoc]using h3
     refine rg ?_
     refine aa ?_
     refine Zf ?_
     exact ih_key ((l.length)-(i+1)) (by omega) (i+1) rfl (by omega) (Ke (q:=fun j=>l.getD j dE=r.getD j dE) hno heq)
   ·simp at h2
    obtain rfl:i=l.length:=by omega
    refine rg ?_
    refine rb hret ?_
    exact(decide_eq_true (Zip hlen hno)).symm
  exact key _ 0 rfl (by omega) (by intro j hj;omega)
theorem Zhi(c:UInt8):ZA Zyg K8.id [.int .u8 c.toNat] (.bool (ZeA c)):=by
 refine ZP K8.ok fun F st hret=>?_
 refine rg ?_
 refine rg ?_
 refine rb hret ?_
 rfl
theorem ZoK(c:UInt8):ZA Zyg Qo.id [.int .u8 c.toNat] (.bool (Zj0 c)):=by
 refine ZP Qo.ok fun F st hret=>?_
 refine rg ?_
 refine rg ?_
 refine rb hret ?_
 rfl
theorem ZeW(v:Int):ZA Zyg Qp.id [.int .i64 v] (.bool (J1 v)):=by
 refine ZP Qp.ok fun F st hret=>?_
 refine rg ?_
 refine rg ?_
 refine rb hret ?_
 simp only[J1]
theorem ZkP(l:List Bool):ZA Zyg QV.id [slD 1 boC l] (.bool (!dC (false∈l))):=by
 refine ZP QV.ok fun F st hret=>?_
 refine rg ?_
 refine rg ?_
 refine cl (Zf5 l false) ?_
 refine rb hret ?_
 rfl
theorem ZjC(a b:Bool):ZA Zyg QV.id [.sl .full 2 1 (Wd [.bool false] ([0,1].zip [.bool a,.bool b]))] (.bool (a&&b)):=by
 have h:We boC (Wd [.bool false] ([0,1].zip [.bool a,.bool b])) [a,b]:=fun i hi=>by
  match i,hi with
  |0,_=>rfl
  |1,_=>rfl
 refine((ZkP [a,b]).leA (LeC.one (h.le rfl))).le ?_
 cases a<;>cases b<;>rfl
theorem Zou(a b c:Bool):ZA Zyg QV.id [.sl .full 3 1 (Wd [.bool false] ([0,1,2].zip [.bool a,.bool b,.bool c]))] (.bool (a&&(b&&c))):=by
 have h:We boC (Wd [.bool false] ([0,1,2].zip [.bool a,.bool b,.bool c])) [a,b,c]:=fun i hi=>by
  match i,hi with
  |0,_=>rfl
  |1,_=>rfl
  |2,_=>rfl
 refine((ZkP [a,b,c]).leA (LeC.one (h.le rfl))).le ?_
 cases a<;>cases b<;>cases c<;>rfl
theorem ZnD(c:UInt8):ZA Zyg KU.id [.int .u8 c.toNat] (.bool (!ZaO c)):=by
 refine ZP KU.ok fun F st hret=>?_
 refine rg ?_
 refine rg ?_
 refine cl (Zhi c) ?_
 refine Kt rfl rfl rfl rfl rfl (fun hcg=>⟨by first|trivial|(simpa[Qa]using hcg),trivial,ZoK c⟩) (Za ?_)
 simp only[Eqs,reduceCtorEq,reduceIte,Zye]
 refine rb hret ?_
 unfold ZaO;cases ZeA c<;>cases Zj0 c<;>rfl
theorem Ztg(s:Str):ZA Zyg Yn.id [slD 1 byC s,.fn (.func KU.id) [] []] (.bool (s.any fun c=>!ZaO c)) :=
 fun st=>ZeF s _ _ (fun _=>st) fun i _=>(ZnD _).VT (first:=[]) (caps:=[]) st
theorem Zt9(s:Str):K4 s=(((dC (1≤(s.length:Int))&&dC ((s.length:Int)≤32))&&ZeA (s.getD 0 0))&&!(s.any fun c=>!ZaO c)):=by
 cases s with
 |nil=>rfl
 |cons c r =>
  have h:∀l:Str,l.all ZaO=!(l.any fun c=>!ZaO c):=fun l=>by
   induction l with
   |nil=>rfl
   |cons x r ih=>simp only[List.all_cons,List.any_cons,ih];cases ZaO x<;>simp
  simp only[K4,h,List.getD_cons_zero,ZyE]
  congr 2
  have h1:dC (1≤((r.length+1:Nat):Int))=true:=decide_eq_true (by omega)
  rw[h1,Zyy]
  exact decide_eq_decide.2 (by omega)
theorem ZdK(s:Str):ZA Zyg Qj.id [.str s] (.bool (K4 s)):=by
 refine Kn Qj.ok fun hwf F st hret=>?_
 have hs:=(hwf (.str s) (by simp)).str_inv
 unfold big at hs
 refine rg ?_
 refine rg ?_
 refine rg ?_
 refine YF rfl rfl rfl rfl rfl (by trivial) (by trivial) (by exact ZjC _ _) (Za ?_)
 simp only[Eqs,reduceCtorEq,reduceIte,Zye]
 refine aa ?_
 refine Kt rfl rfl rfl rfl rfl (fun hcg=>⟨by first|trivial|(simpa[Qa]using hcg),trivial,Zhi _⟩) (Za ?_)
 simp only[Eqs,reduceCtorEq,reduceIte,Zye]
 refine Kt rfl rfl rfl rfl rfl (fun hcg=>⟨by first|trivial|(simpa[Qa]using hcg),trivial,Ztg s⟩) (Za ?_)
 simp only[Eqs,reduceCtorEq,reduceIte,Zye]
 rw[Zt9]at hret
 refine rb hret ?_
 trivial
end Go.DL
namespace Go.DL
open Go
variable {kp:Option (List Nat)}{L:Loc}{ρ:Env}{s:St}{w:World}{os:List DOp}{ds:List D}{B:List (Nat × Rd)}{dst:Option Nat}{tmps:Array Value}{g:G}{Φ:Res→St→Prop}{ν:Nat→Nat}{xs:List Opd}{side:Prop}{row:Nat→List D}{vs:List V}
section
variable {K V:Type} [DecidableEq K]
def ZQ(k:K):List (K×V)→Option V
 | []=>nO
 |e::r=>if k=e.1 then sO e.2 else ZQ k r
def KI(k:K)(v:V):List (K×V)→List (K×V)
 | []=>[(k,v)]
 |e::r=>if k=e.1 then (k,v)::r else e::KI k v r
def ZaL(kD:K→D)(vD:V→D)(l:List (K×V)):List (D×D):=l.map fun e=>(kD e.1,vD e.2)
def ZjU(kp:KP)(kD:K→D):Prop:=∀a b,Jt kp (kD a) (kD b)=sO (dC (a=b))
theorem QG{kp:KP}{kD:K→D}{vD:V→D}(h:ZjU kp kD)(k:K)(l:List (K×V)):ZcQ kp (kD k) (ZaL kD vD l)=sO ((ZQ k l).map vD):=by
 induction l with
 |nil=>rfl
 |cons e r ih =>
  simp only[ZaL,Zyp,ZcQ,h k e.1,ZQ]
  by_cases hk:k=e.1
  ·simp[hk]
  ·simp only[hk,decide_false,if_false];exact ih
theorem Zdf{kp:KP}{kD:K→D}{vD:V→D}(h:ZjU kp kD)(k:K)(v:V)(l:List (K×V)):ZbM kp (kD k) (vD v) (ZaL kD vD l)=sO (ZaL kD vD (KI k v l)):=by
 induction l with
 |nil=>rfl
 |cons e r ih =>
  simp only[ZaL,Zyp,ZbM,h k e.1,KI]
  by_cases hk:k=e.1
  ·simp[hk]
  ·simp only[hk,decide_false,if_false,Zyp]
   rw[show ZbM kp (kD k) (vD v) (r.map fun e=>(kD e.1,vD e.2))=_ from ih];rfl
theorem Jl{kp:KP}{kD:K→D}(h:ZjU kp kD)(k:K):Zai kp (kD k)=true:=by simp[Zai,h k k]
theorem Zbn(k j:K)(v:V)(l:List (K×V)):ZQ j (KI k v l)=if j=k then sO v else ZQ j l:=by
 induction l with
 |nil=>simp[KI,ZQ]
 |cons e r ih =>
  simp only[KI]
  by_cases hk:k=e.1
  ·subst hk;simp only[if_true,ZQ];split<;>rfl
  ·simp only[hk,if_false,ZQ,ih]
   by_cases hj:j=e.1
   ·subst hj;simp[Ne.symm hk]
   ·simp[hj]
theorem ZwI{k:K}{v:V}{l:List (K×V)}{e:K×V}(h:e∈KI k v l):e=(k,v)∨e∈l:=by
 induction l with
 |nil=>simp[KI]at h;exact .inl h
 |cons x r ih =>
  simp only[KI]at h
  split at h
  ·rcases List.mem_cons.1 h with h|h
   ·exact .inl h
   ·exact .inr (by simp[h])
  ·rcases List.mem_cons.1 h with h|h
   ·exact .inr (by simp[h])
   ·rcases ih h with h|h
    ·exact .inl h
    ·exact .inr (by simp[h])
theorem Zt4{k:K}{l:List (K×V)}:ZQ k l=nO↔k∉l.map (·.1):=by
 induction l with
 |nil=>simp[ZQ]
 |cons x r ih =>
  simp only[ZQ,Zyp,ZyP]
  by_cases h:k=x.1
  ·simp[h]
  ·simp[h,ih]
theorem ZhM{k:K}{v:V}{l:List (K×V)}(h:ZQ k l=sO v):(k,v)∈l:=by
 induction l with
 |nil=>simp[ZQ]at h
 |cons x r ih =>
  simp only[ZQ]at h
  split at h
  ·rename_i hk;cases h;subst hk;simp
  ·simp[ih h]
end
def Zar(s:Str):D:=.str s
theorem Wa:ZjU (.sc .str) Zar:=fun a b=>rfl
def ZbJ(n:Int):D:=.int .i64 n
theorem Zp9:ZjU (.sc .int) ZbJ:=fun a b=>by simp[Jt,ZbJ,WH]
open Go.Proofs
def vst(st:St)(b x:Nat)(es:List (D×D)):St:=(st.upd b (.map es)).upd x (.cells [.map b])
theorem Zv7{st:St}{b x:Nat}{es:List (D×D)}:(vst st b x es) x=sO (.cells [.map b]):=Zyo _ _ _
theorem Zv6{st:St}{b x:Nat}{es:List (D×D)}(h:b≠x):(vst st b x es) b=sO (.map es):=by
 unfold vst;rw[Zyn _ _ h];exact Zyo _ _ _
theorem Zw4{st:St}{b x:Nat}{es es':List (D×D)}(h:b≠x):(vst st b x es).upd b (.map es')=vst st b x es':=by
 unfold vst;rw[St.upd_comm _ _ _ h,Zyz]
abbrev Jz(l:List (Str×Bool)):List (D×D):=ZaL Zar D.bool l
theorem Zlh(o:Option Bool):Qg (.bool false) false (o.map D.bool)=.bool (o.getD false):=by cases o<;>rfl
theorem ZmL(t:YN)(st:St)(b x:Nat)(h:b≠x)(l:List (Str×Bool)):
  Wi Zyg Wq.id [.agg t.cells,.ptr x 0] (vst st b x (Jz l)) (.bool ((ZQ t.field l).getD false||!JD t)) (vst st b x (Jz (KI t.field true l))):=by
 refine Wb Wq.ok fun hwf F hret=>?_
 have e1:=QG (vD:=D.bool) Wa t.field l
 have e2:=Zdf (vD:=D.bool) Wa t.field true l
 have e3:=Jl Wa t.field
 simp only[show Zar t.field=D.str t.field from rfl]at e1 e2 e3
 refine rx @eQ8 ?_
 refine Zi (Ys (Za ?_))
 simp only[Eqs,reduceIte,Zye,Wq.r1,Zv7,Zv6 h,e1,Zlh]
 generalize (ZQ t.field l).getD false=tw at *
 refine Zi (Ys (Za ?_))
 simp only[Eqs,reduceIte,Zye,Wq.r2,Zv7,Zv6 h,e2,Zw4 h]
 cases tw with
 |false =>
  refine rx @eQ8 ?_
  refine clD (ZdK t.field) ?_
  refine clD (ZeW t.factor) ?_
  refine ZaF rfl rfl rfl rfl rfl (by trivial) (by trivial) (by exact Zou _ _ _) (Y6 ?_)
  simp only[Eqs,reduceIte,Zye]
  refine hret rfl (by trivial) (Zfe ?_) (Zyi _)
  unfold JD
  cases K4 t.field<;>cases dC (t.factor=0)<;>cases J1 t.factor<;>rfl
 |true =>
  refine rx @eQ8 ?_
  refine Zfk rfl rfl (e:=.d (.bool false)) (Y6 ?_)
  simp only[Eqs,reduceIte,Zye]
  refine Zfk rfl rfl (e:=.d (.bool false)) (Y6 ?_)
  simp only[Eqs,reduceIte,Zye]
  refine Zfk rfl rfl (e:=.d (.bool false)) (Y6 ?_)
  simp only[Eqs,reduceIte,Zye]
  exact hret rfl (by trivial) (Zfe (by simp)) (Zyi _)
theorem Ze8{n i:Nat}(h:i<n):(Zyl n).getD i dE=i:=by simp[Zyx,h]
theorem ZfY(l:List YN)(f:D)(p:Nat→Bool)(sts:Nat→St)(hf:∀i,i<l.length→VT Zyg f [.agg (l.getD i dE).cells] (sts i) (.bool (p i)) (sts (i+1))):
  Wi Zyg ZC.id [slD 2 YN.cells l,f] (sts 0) (.int .i64 (ZB p (Zyl l.length))) (sts (Zbu p (Zyl l.length))):=by
 refine Wb ZC.ok fun hwf F hret=>?_
 have hw:=(JE (hwf (slD 2 YN.cells l) (by simp))).1
 unfold big at hw
 clear hwf
 refine rx @eQ1 ?_
 refine rx @eQ1 ?_
 refine Zh (fr (l.length) (fun i Q=>i≤l.length→(∀j,j<i→p j=false)→Q [(0,.d (slD 2 YN.cells l)),(1,.d f),(7,.d (.int .i64 l.length)),(8,.d (.int .i64 i))] [] (sts i)) (fun n ih_key=>?_) fun key=>?_)
 ·intro i hn hi hno
  refine rx @eQ1 ?_
  refine Zi (YC rfl trivial (fun h1=>?_) (fun h1=>?_))
  ·simp at h1
   refine rx @eQ1 ?_
   refine rx (nd2 @eQ1 @eQ8) ?_
   refine aa ?_
   refine ZcL rfl rfl rfl rfl rfl (by trivial) (by trivial) (by exact hf i h1) (Za ?_)
   simp only[Eqs,reduceCtorEq,reduceIte,Zye]
   refine cd (fun h2=>?_) (fun h2=>?_)
   ·have e1:=ZaM (p:=p) (l:=Zyl l.length) (i:=i) (by simpa using h1) (by rw[Ze8 h1];exact h2) (fun j hj=>by rw[Ze8 (by omega)];exact hno j hj)
    have e2:=Zh6 (p:=p) (l:=Zyl l.length) (i:=i) (by simpa using h1) (by rw[Ze8 h1];exact h2) (fun j hj=>by rw[Ze8 (by omega)];exact hno j hj)
    rw[e1,e2]at hret
    refine rg ?_
    exact hret rfl (by trivial) (Zyj _) (Zyi _)
   ·refine rg ?_
    refine aa ?_
    refine Zf ?_
    exact ih_key ((l.length)-(i+1)) (by omega) (i+1) rfl (by omega) (Ke (q:=fun j=>p j=false) hno h2)
  ·simp at h1
   obtain rfl:i=l.length:=by omega
   have hall:∀x∈Zyl l.length,p x=false:=fun x hx=>hno x (by simpa using hx)
   rw[ZaX hall,Ze9 hall,List.length_range]at hret
   refine rg ?_
   exact hret rfl (by trivial) (Zyj _) (Zyi _)
 exact key _ 0 rfl (by omega) (by intro j hj;omega)
theorem ZeE(l:List YN)(f:D)(p:Nat→Bool)(sts:Nat→St)(hf:∀i,i<l.length→VT Zyg f [.agg (l.getD i dE).cells] (sts i) (.bool (p i)) (sts (i+1))):
  Wi Zyg Yt.id [slD 2 YN.cells l,f] (sts 0) (.bool ((Zyl l.length).any p)) (sts (Zbu p (Zyl l.length))):=by
 refine Wb Yt.ok fun hwf F hret=>?_
 clear hwf
 refine rg ?_
 refine rg ?_
 refine ct (ZfY l f p sts hf) ?_
 rw[Zdn]at hret
 exact hret rfl (by trivial) (Zyj _) (Zyi _)
def Zkf(l:List YN):Nat→List (Str×Bool)
 |0=>[]
 |i+1=>KI (l.getD i dE).field true (Zkf l i)
theorem ZuH(l:List YN)(s:Str)(i:Nat)(hi:i≤l.length):(ZQ s (Zkf l i)).getD false=dC (s∈(l.take i).map (·.field)):=by
 induction i with
 |zero=>simp[Zkf,ZQ]
 |succ i ih =>
  have h:=ih (by omega)
  rw[Zkf,Zbn,WF (by omega),List.map_append]
  by_cases hs:s=(l.getD i dE).field
  ·rw[if_pos hs];simp[hs]
  ·rw[if_neg hs,h];simp only[List.mem_append,Zyp,ZyF,List.mem_singleton,hs,or_false]
theorem Zd8(l r:List YN)(k:Nat)(hr:r=l.drop k)(hk:k≤l.length):Jh ((l.take k).map (·.field)) r=!((Zyl r.length).any fun i=>(dC ((l.getD (k+i) dE).field∈(l.take (k+i)).map (·.field))||!JD (l.getD (k+i) dE))):=by
 induction r generalizing k with
 |nil=>rfl
 |cons t q ih =>
  have hlt:k<l.length:=by
   have:=congrArg List.length hr;simp at this;omega
  rw[ZaK hlt]at hr
  injection hr with h1 h2
  have h3:=ih (k+1) h2 (by omega)
  rw[Jh,ZyE,List.range_succ_eq_map,List.any_cons,List.any_map]
  rw[show(l.take k).map (·.field)++[t.field]=(l.take (k+1)).map (·.field) by rw[WF hlt,List.map_append,←h1];rfl,h3]
  simp only[Nat.add_zero,←h1,Function.comp_def,Nat.succ_eq_add_one]
  rw[show(fun i=>dC ((l.getD (k+(i+1)) dE).field∈(l.take (k+(i+1))).map (·.field))||!JD (l.getD (k+(i+1)) dE))=fun i=>dC ((l.getD (k+1+i) dE).field∈(l.take (k+1+i)).map (·.field))||!JD (l.getD (k+1+i) dE) from funext fun i=>by rw[show k+(i+1)=k+1+i by omega]]
  cases JD t<;>cases dC (t.field∈(l.take k).map (·.field))<;>simp
theorem ZeV(s:Qr):ZA Zyg KS.id [.agg s.cells] (.bool (Wm s)):=by
 refine Kn KS.ok fun hwf F st hret=>?_
 refine rx (nd2 @eQ7 (nd2 @eQ6 @eQ1)) ?_
 refine rg ?_
 intro b hb
 refine Zi ?_
 refine Z1 3 rfl fun x hx=>?_
 simp only[reduceIte,Zye,Yd,Yz,delL]
 refine rg ?_
 have hbx:b≠x:=fun e=>by rw[e,Zyo]at hx;simp at hx
 have hxn:∀o,(st.upd b o) x=nO:=fun o=>by rw[Zyn _ _ (Ne.symm hbx)]at hx⊢;exact hx
 have hvs:(st.upd b (.map [])).upd x (.cells [.map b])=vst st b x (Jz []):=rfl
 rw[hvs]
 cases hc:(J1 s.base&&dC ((s.terms.length:Int)≤4)) with
 |false =>
  refine rx (nd2 @eQ7 (nd2 @eQ6 @eQ1)) ?_
  refine clD (ZeW s.base) ?_
  refine ZaF rfl rfl rfl rfl rfl (by trivial) (by trivial) (by exact ZjC _ _) (Y6 ?_)
  simp only[Eqs,reduceIte,Zye,hc]
  refine Zfk rfl rfl (e:=.d (.bool false)) (Y6 ?_)
  simp only[Eqs,reduceIte,Zye]
  refine hret rfl (by trivial) (Zfe ?_) (ZyT (ZyJ _ hb) (ZyJ _ (hxn _)))
  unfold Wm
  rw[show dC (s.terms.length≤4)=dC ((s.terms.length:Int)≤4) from decide_eq_decide.2 (by omega),hc];rfl
 |true =>
  refine rx (nd2 @eQ7 (nd2 @eQ6 @eQ1)) ?_
  refine clD (ZeW s.base) ?_
  refine ZaF rfl rfl rfl rfl rfl (by trivial) (by trivial) (by exact ZjC _ _) (Y6 ?_)
  simp only[Eqs,reduceIte,Zye,hc]
  refine Zc5 rfl rfl rfl rfl rfl (by trivial) (by trivial) (by exact ZeE s.terms (.fn (.func Wq.id) [] [.ptr x 0]) (fun i=>dC ((s.terms.getD i dE).field∈(s.terms.take i).map (·.field))||!JD (s.terms.getD i dE)) (fun i=>vst st b x (Jz (Zkf s.terms i))) (fun i hi=>(by have:=ZmL (s.terms.getD i dE) st b x hbx (Zkf s.terms i);rw[ZuH _ _ _ (by omega)]at this;exact this.VT (first:=[]) (args:=[_]) (caps:=[_])))) (by first|trivial|exact⟨rfl,trivial⟩|simp[KB,JA]) (Y6 ?_)
  simp only[Eqs,reduceIte,Zye]
  refine hret rfl (by trivial) (Zfe ?_) (ZyT (ZyJ _ hb) (ZyJ _ (hxn _)))
  have hv:=Zd8 s.terms s.terms 0 rfl (by omega)
  simp only[Nat.zero_add]at hv
  rw[←hv]
  unfold Wm
  rw[show dC (s.terms.length≤4)=dC ((s.terms.length:Int)≤4) from decide_eq_decide.2 (by omega),hc,Zyy]
  rfl
theorem Zh8(l:List YN)(hl:l.length≤1000000)(st:St):ZN Zyg YK.id [Qk l] st (fun r s=>r=.ret (Qk l)∧s=st):=by
 refine ZM YK.ok fun F hF=>?_
 by_cases h0:l.length=0
 ·have hl0:l=[]:=List.eq_nil_of_length_eq_zero h0
  subst hl0
  refine Zsh 0 rfl ?_ fun b off cap=>?_
  ·skip
   refine rx (nd2 @eQ6 @eQ1) ?_
   refine rg ?_
   refine i1 ?_
   refine rg ?_
   exact hF.ret _ st rfl (by trivial) (Zff (JL fun b h=>by cases h)) (Zyi _) ⟨rfl,rfl⟩
  ·skip
   refine rx (nd2 @eQ6 @eQ1) ?_
   refine rg ?_
   refine i0 ?_
   refine rg ?_
   refine Zse (s:=st) (t:=.full) (m:=0) (row2:=fun _=>[]) rfl rfl rfl rfl rfl (by trivial) (by trivial) (fun g w v h=>Zum h) trivial (by decide) (by unfold big;decide) fun t1 ht1=>?_
   refine Za ?_
   simp only[Eqs,reduceCtorEq,reduceIte,Zye]
   exact hF.ret _ st rfl (by trivial) (Zff ((We.nil (f:=YN.cells)).le rfl)) (Qz ht1) ⟨rfl,rfl⟩
 ·skip
  refine rx (nd2 @eQ6 @eQ1) ?_
  refine rg ?_
  refine aa ?_
  refine i0 ?_
  refine rg ?_
  refine ZbX (st) (.full) rfl rfl rfl rfl rfl rfl (by trivial) (by trivial) rfl (by first|trivial|assumption) (by omega) (by (unfold big;omega)) fun t1 ht1=>Za ?_
  simp only[Eqs,reduceCtorEq,reduceIte,Zye]
  have hrow:We YN.cells (Q2 0 (Wd [.str [],.int .i64 0] ([].zip [])) fun i=>(l.getD i dE).cells) ([]++l):=We.nil.app We.self rfl
  exact hF.ret _ st rfl (by trivial) (Zff (hrow.le (by simp))) (Qz ht1) ⟨rfl,rfl⟩
theorem Zgl(l:List YN)(hl:l.length≤big)(x:Nat):Zhp Zyg (.fn (.func YX.id) [] [.ptr x 0]) l.length (fun j=>[.str (l.getD j dE).field]) (ZyG x (.cells [Qk l])):=by
 intro y go A a0 hcons hA hd
 have hw:=hl
 unfold big at hw
 refine ZN.V (first:=[]) (args:=[y]) (caps:=[.ptr x 0]) (ZM YX.ok fun F hF=>?_)
 have hx:∀a,Kz a (ZyG x (.cells [Qk l]))→(a.or (ZyG x (.cells [Qk l]))) x=sO (.cells [Qk l]):=fun a hda=>by
  rw[Yj (hda x _ (KA _ _)),KA]
 generalize hT:ZyG x (.cells [Qk l])=T at *
 refine Zi (Ys (Za ?_))
 simp only[Eqs,reduceCtorEq,reduceIte,Zye,ZyB,YX.r0,hx a0 hd,Qk,slD]
 refine Zh (fr (l.length) (fun j Q=>∀a,A j a→Kz a T→(∀i,i<j→go i=.next)→j≤l.length→Q [(0,.d y),(5,.d (Qk l)),(6,.d (.int .i64 l.length)),(7,.d (.int .i64 j))] [] (a.or T)) (fun n ih_key=>?_) fun key=>?_)
 ·clear hA hd
  intro j hn a hA hd hno hj
  refine rx (nd2 @eQ6 @eQ1) ?_
  refine Zi (YC rfl trivial (fun h1=>?_) (fun h1=>?_))
  ·simp at h1
   generalize hg:l.getD j dE=g at *
   refine rx (nd2 @eQ8 (nd2 @eQ6 (nd2 @eQ1 @hg))) ?_
   refine aa ?_
   refine rg ?_
   have hcall:=(hcons j h1 hno a hA).frame hd
   simp only[hg]at hcall
   refine Jw rfl rfl rfl rfl rfl (by trivial) (by trivial) (by exact hcall) ?_ ?_
   ·rintro d S ⟨s',⟨hr,hA'⟩,hd',rfl⟩
    cases hgo:go j with
    |next =>
     rw[hgo]at hr
     cases hr
     refine Za ?_
     simp only[Eqs,reduceCtorEq,reduceIte,Zye]
     refine i0 ?_
     refine rg ?_
     refine aa ?_
     refine Zf ?_
     exact ih_key ((l.length)-(j+1)) (by omega) (j+1) rfl s' hA' hd' (Ke (q:=fun i=>go i=.next) hno hgo) (by omega)
    |stop c =>
     rw[hgo]at hr
     cases hr
     refine Za ?_
     simp only[Eqs,reduceCtorEq,reduceIte,Zye]
     refine i1 ?_
     exact hF.ret (.tup []) _ rfl trivial (Zyj _) (Zyi _) ⟨s',.stop j c h1 hno hgo hA',Zat _ _⟩
    |pan d=>rw[hgo]at hr;cases hr
   ·rintro d S ⟨s',⟨hr,hA'⟩,hd',rfl⟩
    cases hgo:go j with
    |pan d' =>
     rw[hgo]at hr
     cases hr
     exact hF.pan _ (Zyi _) ⟨s',.pan j d h1 hno hgo hA',Zat _ _⟩
    |next=>rw[hgo]at hr;cases hr
    |stop c=>rw[hgo]at hr;cases hr
  ·simp at h1
   obtain rfl:j=l.length:=by omega
   refine Wr rfl ?_
   exact hF.fin (.tup []) _ rfl trivial (Zyj _) (Zyi _) ⟨a,.all hno hA,Zat _ _⟩
 exact key _ 0 rfl a0 hA hd (by intro i hi;omega) (by omega)
theorem ZcX{s:Qr}(h:Wm s=true):s.terms.length≤4:=by
 unfold Wm at h
 simp only[Zyk,decide_eq_true_eq]at h;exact h.1.2
theorem Ziu(s:Qr)(hv:Wm s=true)(st:St):ZN Zyg Kb.id [.agg s.cells] st (fun r S=>∃x,st x=nO∧r=.ret (.fn (.func YX.id) [] [.ptr x 0])∧S=st.or (ZyG x (.cells [Qk s.terms]))):=by
 have hfew:=ZcX hv
 refine ZM Kb.ok fun F hF=>?_
 refine rx @eQ7 ?_
 refine rg ?_
 refine rx @eQ7 ?_
 refine YF rfl rfl rfl rfl rfl (by trivial) (by trivial) (by exact ZeV s) (Za ?_)
 simp only[Eqs,reduceIte,Zye,hv]
 refine i1 ?_
 refine rx @eQ7 ?_
 refine Ye rfl rfl rfl rfl rfl (by trivial) (by trivial) (by exact(Zh8 s.terms (by omega) st)) ?_ ?_
 ·rintro d S ⟨hd,rfl⟩
  cases hd
  refine Za ?_
  simp only[Eqs,reduceIte,Zye,Zyq]
  refine⟨rfl,?_⟩
  refine Zi ?_
  refine Z1 3 rfl fun x hx=>?_
  simp only[reduceIte,Yd,Yz,delL]
  refine rg ?_
  exact hF.ret _ _ rfl (by trivial) (Zyj _) (Zyi _) ⟨x,hx,rfl,Zbg hx⟩
 ·rintro d S ⟨hd,_⟩
  cases hd
def QJ(r:Int×Int):D:=.agg [.int .i64 r.1,.int .i64 r.2]
abbrev Zhq:=List (Str×(Int×Int))
abbrev Zby(l:Zhq):List (D×D):=ZaL Zar QJ l
theorem Ya{b c:Nat}{o:Wt}(h:(s.upd b o) c=nO):c≠b∧s c=nO:=by
 have:c≠b:=fun e=>by rw[e,Zyo]at h;simp at h
 exact⟨this,by rw[Zyn _ _ this]at h;exact h⟩
theorem ZjB(r:Int×Int):ZA Zyg Y3.id [QJ r] (.bool (!JP r)):=by
 refine ZP Y3.ok fun F st hret=>?_
 refine rx @QJ.eq_1 ?_
 refine rg ?_
 refine YF rfl rfl rfl rfl rfl (by trivial) (by trivial) (by exact Zou _ _ _) (Za ?_)
 simp only[Eqs,reduceIte,Zye]
 refine rb hret ?_
 unfold JP;rw[Bool.not_or,Bool.not_or,←decide_not,←decide_not,←decide_not];simp only[Int.not_lt,Int.not_le,Bool.and_assoc]
def ckS(st:St)(b5 b6 b7 b8 b9 b:Nat)(rc:Int)(nn:Bool):St :=
 ((((st.upd b5 (.cells [.str []])).upd b6 (.cells [.map b])).upd b7 (.cells [.fn (.func Y3.id) [] []])).upd b8 (.cells [.int .i64 rc])).upd b9 (.cells [.bool nn])
structure ZaS(st:St)(b5 b6 b7 b8 b9:Nat):Prop where
 n5:st b5=none
 n6:b6≠b5∧st b6=none
 n7:b7≠b6∧b7≠b5∧st b7=none
 n8:b8≠b7∧b8≠b6∧b8≠b5∧st b8=none
 n9:b9≠b8∧b9≠b7∧b9≠b6∧b9≠b5∧st b9=none
section
variable {st:St} {b5 b6 b7 b8 b9 b:Nat} {rc:Int} {nn:Bool}
theorem ZaS.g5(h:ZaS st b5 b6 b7 b8 b9):(ckS st b5 b6 b7 b8 b9 b rc nn) b5=sO (.cells [.str []]):=by
 simp[ckS,St.upd,h.n6.1.symm,h.n7.2.1.symm,h.n8.2.2.1.symm,h.n9.2.2.2.1.symm]
theorem ZaS.g6(h:ZaS st b5 b6 b7 b8 b9):(ckS st b5 b6 b7 b8 b9 b rc nn) b6=sO (.cells [.map b]):=by
 simp[ckS,St.upd,h.n7.1.symm,h.n8.2.1.symm,h.n9.2.2.1.symm]
theorem ZaS.g7(h:ZaS st b5 b6 b7 b8 b9):(ckS st b5 b6 b7 b8 b9 b rc nn) b7=sO (.cells [.fn (.func Y3.id) [] []]):=by
 simp[ckS,St.upd,h.n8.1.symm,h.n9.2.1.symm]
theorem ZaS.g8(h:ZaS st b5 b6 b7 b8 b9):(ckS st b5 b6 b7 b8 b9 b rc nn) b8=sO (.cells [.int .i64 rc]):=by
 simp[ckS,St.upd,h.n9.1.symm]
theorem ZaS.g9:(ckS st b5 b6 b7 b8 b9 b rc nn) b9=sO (.cells [.bool nn]):=by
 simp[ckS,St.upd]
theorem ZaS.gm(h:ZaS st b5 b6 b7 b8 b9){o:Wt}(hb:st b=sO o):(ckS st b5 b6 b7 b8 b9 b rc nn) b=sO o:=by
 have h5:b≠b5:=fun e=>by rw[e,h.n5]at hb;simp at hb
 have h6:b≠b6:=fun e=>by rw[e,h.n6.2]at hb;simp at hb
 have h7:b≠b7:=fun e=>by rw[e,h.n7.2.2]at hb;simp at hb
 have h8:b≠b8:=fun e=>by rw[e,h.n8.2.2.2]at hb;simp at hb
 have h9:b≠b9:=fun e=>by rw[e,h.n9.2.2.2.2]at hb;simp at hb
 simp[ckS,St.upd,h5,h6,h7,h8,h9,hb]
theorem ZaS.s8(h:ZaS st b5 b6 b7 b8 b9)(rc':Int):(ckS st b5 b6 b7 b8 b9 b rc nn).upd b8 (.cells [.int .i64 rc'])=ckS st b5 b6 b7 b8 b9 b rc' nn:=by
 unfold ckS;rw[St.upd_comm _ _ _ h.n9.1.symm,Zyz]
theorem ZaS.s9(nn':Bool):(ckS st b5 b6 b7 b8 b9 b rc nn).upd b9 (.cells [.bool nn'])=ckS st b5 b6 b7 b8 b9 b rc nn':=by
 unfold ckS;rw[Zyz]
theorem ZaS.sub(h:ZaS st b5 b6 b7 b8 b9):st.sub (ckS st b5 b6 b7 b8 b9 b rc nn):=fun c o hc=>by
 have h5:c≠b5:=fun e=>by rw[e,h.n5]at hc;simp at hc
 have h6:c≠b6:=fun e=>by rw[e,h.n6.2]at hc;simp at hc
 have h7:c≠b7:=fun e=>by rw[e,h.n7.2.2]at hc;simp at hc
 have h8:c≠b8:=fun e=>by rw[e,h.n8.2.2.2]at hc;simp at hc
 have h9:c≠b9:=fun e=>by rw[e,h.n9.2.2.2.2]at hc;simp at hc
 simp[ckS,St.upd,h5,h6,h7,h8,h9,hc]
end
theorem ZjY{st t:St}{b5 b6 b7 b8 b9 b:Nat}{rc rc':Int}{nn nn':Bool}(h:Kz (ckS st b5 b6 b7 b8 b9 b rc nn) t):Kz (ckS st b5 b6 b7 b8 b9 b rc' nn') t:=fun c o hc=>by
 have:=h c o hc
 unfold ckS at this⊢
 have k9:=Ya this
 have k8:=Ya k9.2
 rw[Zyn _ _ k9.1,Zyn _ _ k8.1];exact k8.2
theorem ZpC{st:St}{b5 b6 b7 b8 b9 b:Nat}{rc:Int}{nn:Bool}(h:ZaS st b5 b6 b7 b8 b9)(hρ:Yv ρ 8=sO (.d (.ptr b8 0)):=by rfl):
  K5 ρ L (ckS st b5 b6 b7 b8 b9 b rc nn) [.cell1 8]=sO (True∧True,[.int .i64 rc]):=by
 simp[K5,JU,hρ,Q0,Wk,h.g8]
theorem Zm2{α:Type}[Inhabited α]{p:α→Bool}{l:List α}(h:∀i,i<l.length→p (l.getD i dE)=false):l.any p=false:=by
 apply List.any_eq_false.2
 intro x hx
 obtain⟨i,hi,rfl⟩:=ZyC hx
 have:=h i hi
 simpa[Zyx,hi]using this
theorem ZqW{s:Qr}{j:Nat}(h:Wm s=true)(hj:j<s.terms.length):(s.terms.getD j dE).field≠[]:=by
 unfold Wm at h
 simp only[Zyk]at h
 have h1:=Zd8 s.terms s.terms 0 rfl (by omega)
 simp only[List.take_zero,ZyF,Nat.zero_add]at h1
 rw[h1]at h
 have h2:((Zyl s.terms.length).any fun i=>dC ((s.terms.getD i dE).field∈(s.terms.take i).map (·.field))||!JD (s.terms.getD i dE))=false:=by simpa using h.2
 have h3:=List.any_eq_false.1 h2 j (by simpa using hj)
 simp only[Zyu,not_or,Bool.not_eq_true',Bool.not_eq_false]at h3
 have h4:=h3.2
 intro e
 rw[JD,e]at h4
 simp[K4]at h4
theorem ZmM(s:Qr)(b:Nat)(l:Zhq)(st:St)(hb:st b=sO (.map (Zby l))):
  ZN Zyg Ze.id [.agg s.cells,.str [],.map b,.fn (.func Y3.id) [] []] st (fun r S=>r=.ret (.int .i64 (Zah s (fun k=>ZQ k l)))∧S=st):=by
 refine ZM Ze.ok fun F hF=>?_
 refine rx @eQ7 ?_
 refine rx @eQ7 ?_
 refine cl (ZeV s) ?_
 refine cd (fun hv=>?_) (fun hv=>?_)
 ·have hv':Wm s=false:=by simpa using hv
  refine rg ?_
  refine hF.ret _ st rfl (by trivial) (ZlC ?_) (Zyi _) ⟨rfl,rfl⟩
  rw[Zah,if_pos hv']
 ·have hv':Wm s=true:=by simpa using hv
  refine rg ?_
  refine Zi (Zi ?_)
  refine Z1 5 rfl fun b5 h5=>?_
  simp only[reduceIte,Zye,Yd,Yz,delL]
  refine Z1 6 rfl fun b6 h6=>?_
  simp only[reduceIte,Zye,Yd,Yz,delL]
  refine Z1 7 rfl fun b7 h7=>?_
  simp only[reduceIte,Zye,Yd,Yz,delL]
  refine Z1 8 rfl fun b8 h8=>?_
  simp only[reduceIte,Zye,Yd,Yz,delL]
  refine Z1 9 rfl fun b9 h9=>?_
  simp only[reduceIte,Zye,Yd,Yz,delL]
  refine rx @eQ7 ?_
  refine Ye rfl rfl rfl rfl rfl (by trivial) (by trivial) (by exact Ziu s hv' _) ?_ ?_
  ·rintro d S ⟨x,hx,hd,rfl⟩
   cases hd
   refine Za ?_
   simp only[Eqs,reduceIte,Zye]
   refine Zh ?_
   have hck:ZaS st b5 b6 b7 b8 b9:=by
    have k6:=Ya h6
    have k7:=Ya h7
    have k7a:=Ya k7.2
    have k8:=Ya h8
    have k8a:=Ya k8.2
    have k8b:=Ya k8a.2
    have k9:=Ya h9
    have k9a:=Ya k9.2
    have k9b:=Ya k9a.2
    have k9c:=Ya k9b.2
    exact⟨h5,k6,⟨k7.1,k7a⟩,⟨k8.1,k8a.1,k8b⟩,⟨k9.1,k9a.1,k9b.1,k9c⟩⟩
   have hfew:=ZcX hv'
   rw[show(((((st.upd b5 (.cells [.str []])).upd b6 (.cells [.map b])).upd b7 (.cells [.fn (.func Y3.id) [] []])).upd b8 (.cells [.int .i64 0])).upd b9 (.cells [.bool false]))=ckS st b5 b6 b7 b8 b9 b 0 false from rfl]at hx⊢
   refine Zdi hF rfl trivial [5,6,7,8,9] (by show([5,6,7,8,9]:List Nat).Nodup;decide) (ZbC hx) (Zgl s.terms (by unfold big;omega) x) (fun j hj=>rfl)
    (fun j=>if Qv (fun k=>ZQ k l) (s.terms.getD j dE) then .stop .ret else .next)
    (fun j a=>((∀i,i<j→Qv (fun k=>ZQ k l) (s.terms.getD i dE)=false)∧a=ckS st b5 b6 b7 b8 b9 b 0 ((s.terms.take j).any (W6 fun k=>ZQ k l)))∨((∃nn,a=ckS st b5 b6 b7 b8 b9 b 2 nn)∧∃i,i<j∧Qv (fun k=>ZQ k l) (s.terms.getD i dE)=true))
    (.inl ⟨fun i hi=>by omega,rfl⟩) ?_ ?_ ?_ ?_ ?_ ?_
   ·intro j a hj hno hB F' ready busy hdr hbeg hend
    have hno':∀i,i<j→Qv (fun k=>ZQ k l) (s.terms.getD i dE)=false:=fun i hi=>by
     have:=hno i hi;split at this
     ·simp at this
     ·rename_i h;simpa using h
    rcases hB with ⟨_,rfl⟩|⟨_,i,hi,hib⟩
    ·skip
     simp only[Eqs,reduceIte,Zye,Ja,JC,Zbs,JK,List.isEmpty_nil]
     refine rg ?_
     refine hbeg fun hdb=>?_
     have hje:(s.terms.getD j dE).field≠[]:=ZqW hv' hj
     have hsn:=Zhu (p:=W6 fun k=>ZQ k l) hj
     generalize htm:s.terms.getD j dE=tm at *
     have e1:=QG (vD:=QJ) Wa tm.field l
     have e3:=Jl Wa tm.field
     simp only[show Zar tm.field=D.str tm.field from rfl]at e1 e3
     cases hg:ZQ tm.field l with
     |none =>
      rw[hg]at e1
      have hbad:Qv (fun k=>ZQ k l) tm=false:=by simp[Qv,hg]
      have hnone:W6 (fun k=>ZQ k l) tm=true:=by simp[W6,hg]
      rw[hnone,Bool.or_true]at hsn
      rw[if_neg (by rw[hbad];simp)]at hend
      refine Zh (Zi (Ys (Za ?_)))
      simp only[Eqs,reduceIte,Zye,ZyB,Zyq,Ze.r6,ZU (hck.g6 ),ZU (hck.gm hb),e1]
      refine Zh (Zi (Ys (Za ?_)))
      simp only[Eqs,reduceIte,Zye,Ze.r7,ZU (hck.g5 )]
      refine YC rfl trivial (fun h=>by simp at h;exact absurd h hje) (fun _=>?_)
      refine rg ?_
      refine i1 ?_
      refine Ys (Za ?_)
      simp only[Eqs,reduceIte,Zye,Zyq,Ze.r9,ZU (ZaS.g9 ),JB,ZaS.s9]
      refine ZW (ZW ?_)
      exact hend.fin ⟨rfl,.inl ⟨Ke (q:=fun i=>Qv (fun k=>ZQ k l) (s.terms.getD i dE)=false) hno' (by rw[htm];exact hbad),by rw[hsn]⟩⟩ (ZjY hdb) (Zyi _)
     |some r =>
      rw[hg]at e1
      have hbad:Qv (fun k=>ZQ k l) tm=JP r:=by simp[Qv,hg]
      have hnone:W6 (fun k=>ZQ k l) tm=false:=by simp[W6,hg]
      rw[hnone,Bool.or_false]at hsn
      refine Zh (Zi (Ys (Za ?_)))
      simp only[Eqs,reduceIte,Zye,ZyB,Zyq,Ze.r6,ZU (hck.g6 ),ZU (hck.gm hb),e1,QJ]
      refine Zh (Zi (Ys (Za ?_)))
      simp only[Eqs,reduceIte,Zye,Ze.r7,ZU (hck.g5 )]
      refine YC rfl trivial (fun h=>by simp at h;exact absurd h hje) (fun _=>?_)
      refine rg ?_
      refine i0 ?_
      refine Zi (Ys (Za ?_))
      simp only[Eqs,reduceIte,Zye,ZyB,Zyq,Ze.r10,ZU (hck.g7 )]
      refine cl (ZjB r) ?_
      refine cd (fun hr=>?_) (fun hr=>?_)
      ·have hr':JP r=true:=by simpa using hr
       rw[if_pos (by rw[hbad];exact hr')]at hend
       refine Zi (Ys (Za ?_))
       simp only[Eqs,reduceIte,Zye,Zyq,Ze.r11,ZU (hck.g8 ),JB,hck.s8]
       exact hend.ret ⟨rfl,.inr ⟨⟨_,rfl⟩,j,by omega,by rw[htm,hbad];exact hr'⟩⟩ (ZjY hdb) (Zyi _)
      ·have hr':JP r=false:=by simpa using hr
       rw[if_neg (by rw[hbad,hr'];simp)]at hend
       refine Yw (ZW (ZW ?_))
       exact hend.fin ⟨rfl,.inl ⟨Ke (q:=fun i=>Qv (fun k=>ZQ k l) (s.terms.getD i dE)=false) hno' (by rw[htm,hbad];exact hr'),by rw[hsn]⟩⟩ hdb (Zyi _)
    ·rw[hno' i hi]at hib;simp at hib
   ·intro q a hno hB hq
    have hno':∀i,i<s.terms.length→Qv (fun k=>ZQ k l) (s.terms.getD i dE)=false:=fun i hi=>by
     have:=hno i hi;split at this
     ·simp at this
     ·rename_i h;simpa using h
    rcases hB with ⟨_,rfl⟩|⟨_,i,hi,hib⟩
    ·rw[ZyA]at hq⊢
     have hb0:s.terms.any (Qv fun k=>ZQ k l)=false:=Zm2 hno'
     have hI:=Zah.eq_1 s fun k=>ZQ k l
     rw[if_neg (by rw[hv'];simp),if_neg (by rw[hb0];simp)]at hI
     rw[Zbg hq]
     have hdq:=ZbC (o:=Wt.dfr) hq
     generalize s.terms.any (W6 fun k=>ZQ k l)=nn at *
     refine ZW (Zi (Zi (Ys (Za ?_))))
     simp only[Eqs,reduceIte,Zye,Ze.r12,ZU (ZaS.g9 )]
     refine cd (fun hn=>?_) (fun hn=>?_)
     ·rw[if_pos hn]at hI
      refine Zi (Ys (Za ?_))
      simp only[Eqs,reduceIte,Zye,Zyq,Ze.r13,ZU (hck.g8 ),JB,hck.s8]
      exact hF.ret1 (Zn3 (ZjY hdq) (KA _ _)) (.int .i64 9) st (ZpC hck) ⟨trivial,trivial⟩ (Zyj _) hck.sub ⟨by rw[hI],rfl⟩
     ·rw[if_neg (by rw[hn];simp)]at hI
      refine Yw (Zi (Ys (Za ?_)))
      simp only[Eqs,reduceIte,Zye,Zyq,Ze.r14,ZU (hck.g8 ),JB,hck.s8]
      exact hF.ret1 (Zn3 (ZjY hdq) (KA _ _)) (.int .i64 0) st (ZpC hck) ⟨trivial,trivial⟩ (Zyj _) hck.sub ⟨by rw[hI],rfl⟩
    ·rw[hno' i hi]at hib;simp at hib
   ·intro q a m hm hno hgo hB hq
    have hno':∀i,i<m→Qv (fun k=>ZQ k l) (s.terms.getD i dE)=false:=fun i hi=>by
     have:=hno i hi;split at this
     ·simp at this
     ·rename_i h;simpa using h
    have hbad:Qv (fun k=>ZQ k l) (s.terms.getD m dE)=true:=by
     split at hgo
     ·rename_i h;exact h
     ·simp at hgo
    rcases hB with ⟨hall,_⟩|⟨⟨nn,rfl⟩,_⟩
    ·rw[hall m (by omega)]at hbad;simp at hbad
    ·have hb0:s.terms.any (Qv fun k=>ZQ k l)=true:=Zpp hm hbad
     have hI:=Zah.eq_1 s fun k=>ZQ k l
     rw[if_neg (by rw[hv'];simp),if_pos hb0]at hI
     rw[Zbg hq]
     exact hF.ret1 hq (.int .i64 2) st (ZpC hck) ⟨trivial,trivial⟩ (Zyj _) hck.sub ⟨by rw[hI],rfl⟩
   ·intro q a m id hm hno hgo
    split at hgo<;>simp at hgo
   ·intro q a m d hm hno hgo
    split at hgo<;>simp at hgo
   ·intro m c hgo
    split at hgo<;>simp at hgo
    exact .inl hgo.symm
  ·rintro d S ⟨x,hx,hd,rfl⟩
   cases hd
def Zci(v:YN→Int):List YN→Int
 | []=>0
 |t::r=>t.factor*v t+Zci v r
theorem ZuP{v:YN→Int}{l:List YN}{i:Nat}(h:i<l.length):Zci v (l.take (i+1))=Zci v (l.take i)+(l.getD i dE).factor*v (l.getD i dE):=by
 rw[WF h]
 generalize l.getD i dE=x
 induction l.take i with
 |nil=>simp[Zci]
 |cons y r ih=>simp only[List.cons_append,Zci,ih];omega
theorem Zoi{a b:Int}(ha:-1048576≤a∧a≤1048576)(hb:0≤b∧b<34359738368):-36028797018963968≤a*b∧a*b≤36028797018963968:=by
 have h1:a*b≤1048576*b:=Int.mul_le_mul_of_nonneg_right ha.2 hb.1
 have h2:-1048576*b≤a*b:=Int.mul_le_mul_of_nonneg_right ha.1 hb.1
 omega
theorem Ztq{v:YN→Int}{l:List YN}(h:∀t∈l,(-1048576≤t.factor∧t.factor≤1048576)∧0≤v t∧v t<34359738368):-36028797018963968*(l.length:Int)≤Zci v l∧Zci v l≤36028797018963968*(l.length:Int):=by
 induction l with
 |nil=>simp[Zci]
 |cons t r ih =>
  have h1:=ih fun x hx=>h x (by simp[hx])
  have h2:=Zoi (h t (by simp)).1 (h t (by simp)).2
  simp only[Zci,ZyE]
  generalize t.factor*v t=y at *
  omega
theorem ZmR{s:Qr}(h:Wm s=true):(-1048576≤s.base∧s.base≤1048576)∧∀t∈s.terms,-1048576≤t.factor∧t.factor≤1048576:=by
 unfold Wm at h
 simp only[Zyk]at h
 refine⟨by have:=h.1.1;simpa[J1]using this,fun t ht=>?_⟩
 have h1:=Zd8 s.terms s.terms 0 rfl (by omega)
 simp only[List.take_zero,ZyF,Nat.zero_add]at h1
 rw[h1]at h
 have h2:((Zyl s.terms.length).any fun i=>dC ((s.terms.getD i dE).field∈(s.terms.take i).map (·.field))||!JD (s.terms.getD i dE))=false:=by simpa using h.2
 obtain⟨j,hj,rfl⟩:=ZyC ht
 have h3:=List.any_eq_false.1 h2 j (by simpa using hj)
 simp only[Zyu,not_or,Bool.not_eq_true',Bool.not_eq_false]at h3
 have h4:=h3.2
 unfold JD at h4
 simp only[Zyk]at h4
 have h5:=h4.2
 simpa[J1,Zyx,hj]using h5
theorem ZnE(s:Qr)(hv:Wm s=true)(f:D)(v:YN→Int)(st:St)(hb:∀t∈s.terms,0≤v t∧v t<34359738368)(hf:∀t∈s.terms,VT Zyg f [.agg t.cells] st (.int .i64 (v t)) st):
  Wi Zyg YT.id [.agg s.cells,f] st (.int .i64 (s.base+Zci v s.terms)) st:=by
 refine Wb YT.ok fun hwf F hret=>?_
 clear hwf
 have hfew:=ZcX hv
 have hsm:=ZmR hv
 refine rx (nd2 @eQ7 (nd2 @eQ6 @eQ1)) ?_
 refine rx @eQ7 ?_
 refine rx (nd2 @eQ7 (nd2 @eQ6 @eQ1)) ?_
 refine Zh (fr (s.terms.length) (fun j Q=>j≤s.terms.length→Q [(1,.d f),(5,.d (.int .i64 (s.base+Zci v (s.terms.take j)))),(11,.d (Qk s.terms)),(12,.d (.int .i64 s.terms.length)),(13,.d (.int .i64 j))] [] st) (fun n ih_key=>?_) fun key=>?_)
 ·intro j hn hj
  refine rg ?_
  refine Zi (YC rfl trivial (fun h1=>?_) (fun h1=>?_))
  ·simp at h1
   have hmem:=W4 h1
   have hsn:=ZuP (v:=v) h1
   have hsb:=Ztq (v:=v) (l:=s.terms.take j) fun t ht=>⟨hsm.2 t (List.mem_of_mem_take ht),hb t (List.mem_of_mem_take ht)⟩
   rw[Zyw]at hsb
   generalize htm:s.terms.getD j dE=tm at *
   have hmb:=Zoi (hsm.2 tm hmem) (hb tm hmem)
   refine rx (nd2 @eQ8 (nd2 @eQ6 (nd2 @eQ1 @htm))) ?_
   refine aa ?_
   refine rx @eQ8 ?_
   refine Zw6 rfl rfl rfl rfl rfl (by trivial) (by trivial) (by exact hf tm hmem) (by first|trivial|exact⟨rfl,trivial⟩|simp[KB,JA]) (Y6 ?_)
   simp only[Eqs,reduceIte,Zye]
   generalize hmv:tm.factor*v tm=mv at *
   refine aa ?_
   refine rg ?_
   refine aa ?_
   refine Zf ?_
   have hnext:=ih_key ((s.terms.length)-(j+1)) (by omega) (j+1) rfl (by omega)
   rw[hsn,←Int.add_assoc]at hnext
   exact hnext
  ·simp at h1
   obtain rfl:j=s.terms.length:=by omega
   rw[ZyA]
   refine rg ?_
   exact hret rfl (by trivial) (Zyj _) (Zyi _)
 have hk:=key _ 0 rfl (by omega)
 rw[List.take_zero,show Zci v []=0 from rfl,Int.add_zero]at hk
 exact hk
def ZeO(look:QQ)(least:Bool)(t:YN):Int:=if least=dC (0<t.factor) then (Q4 look t).1 else (Q4 look t).2
theorem ZwZ(look:QQ)(l:List YN):Zci (ZeO look true) l=loS look l:=by
 induction l with
 |nil=>rfl
 |cons t r ih =>
  simp only[Zci,loS,ih,loT,ZeO]
  by_cases h:0<t.factor<;>simp[h]
theorem ZwY(look:QQ)(l:List YN):Zci (ZeO look false) l=hiS look l:=by
 induction l with
 |nil=>rfl
 |cons t r ih =>
  simp only[Zci,hiS,ih,hiT,ZeO]
  by_cases h:0<t.factor<;>simp[h]
theorem Zog(o:Option (Int×Int)):Qg (.agg [.int .i64 0,.int .i64 0]) false (o.map QJ)=.agg [.int .i64 (o.getD (0,0)).1,.int .i64 (o.getD (0,0)).2]:=by cases o<;>rfl
theorem Zh7(t:YN)(l:Zhq)(least:Bool)(b x y:Nat)(st:St)(hb:st b=sO (.map (Zby l)))(hx:st x=sO (.cells [.map b]))(hy:st y=sO (.cells [.bool least])):
  Wi Zyg Ym.id [.agg t.cells,.ptr x 0,.ptr y 0] st (.int .i64 (ZeO (fun k=>ZQ k l) least t)) st:=by
 refine Wb Ym.ok fun hwf F hret=>?_
 clear hwf
 have e1:=QG (vD:=QJ) Wa t.field l
 have e3:=Jl Wa t.field
 simp only[show Zar t.field=D.str t.field from rfl]at e1 e3
 refine rx @eQ8 ?_
 refine Zi (Zi (Ys (Za ?_)))
 simp only[Eqs,reduceIte,Zye,ZyB,Zyq,Ym.r1,hx,hb,e1,Zog]
 refine rx @hy ?_
 refine cd (fun h1=>?_) (fun h1=>?_)
 ·refine rg ?_
  refine hret rfl (by trivial) (ZlC ?_) (Zyi _)
  unfold ZeO Q4
  rw[if_pos (by simpa using h1)]
 ·refine Yw (Zi (Ys (Za ?_)))
  simp only[Eqs,reduceIte,Zye,Ym.r4,hx,hb,e1,Zog]
  refine hret rfl (by trivial) (ZlC ?_) (Zyi _)
  unfold ZeO Q4
  rw[if_neg (by simpa using h1)]
theorem Zvs{s:Qr}{look:QQ}(h:Zah s look=0):Wm s=true∧∀t∈s.terms,∀least,0≤ZeO look least t∧ZeO look least t<34359738368:=by
 unfold Zah at h
 split at h;· omega
 rename_i hv
 split at h;· omega
 rename_i hb
 refine⟨by simpa using hv,fun t ht least=>?_⟩
 have h1:Qv look t=false:=by
  cases hx:Qv look t with
  |false=>rfl
  |true=>exact absurd (List.any_eq_true.2 ⟨t,ht,hx⟩) hb
 unfold Qv at h1
 unfold ZeO Q4
 cases hl:look t.field with
 |none=>simp
 |some r =>
  rw[hl]at h1
  simp only[JP,Bool.or_eq_false_iff,decide_eq_false_iff_not]at h1
  simp only[ZyL]
  split<;>omega
theorem ZeD(s:Qr)(l:Zhq)(least:Bool)(b x y:Nat)(st:St)(he:Zah s (fun k=>ZQ k l)=0)(hb:st b=sO (.map (Zby l)))(hx:st x=sO (.cells s.cells))(hy:st y=sO (.cells [.map b])):
  Wi Zyg WJ.id [.bool least,.ptr x 0,.ptr y 0] st (.int .i64 (s.base+Zci (ZeO (fun k=>ZQ k l) least) s.terms)) st:=by
 refine Wb WJ.ok fun hwf F hret=>?_
 clear hwf
 have hok:=Zvs he
 refine rg ?_
 refine Zi ?_
 refine Z1 3 rfl fun z hz=>?_
 simp only[reduceIte,Yd,Yz,delL]
 have hbz:b≠z:=fun e=>by rw[e,hz]at hb;simp at hb
 have hxz:x≠z:=fun e=>by rw[e,hz]at hx;simp at hx
 have hyz:y≠z:=fun e=>by rw[e,hz]at hy;simp at hy
 have hx2:(st.upd z (.cells [.bool least])) x=sO (.cells s.cells):=by rw[Zyn _ _ hxz];exact hx
 refine rx (nd2 @hx2 @eQ7) ?_
 refine JN rfl rfl rfl rfl rfl (by trivial) (by trivial) (by exact ZnE s hok.1 _ (ZeO (fun k=>ZQ k l) least) _ (fun t ht=>hok.2 t ht least) (fun t ht=>(Zh7 t l least b y z _ (by rw[Zyn _ _ hbz];exact hb) (by rw[Zyn _ _ hyz];exact hy) (Zyo _ _ _)).VT (first:=[]) (args:=[_]) (caps:=[_,_]))) (Za ?_)
 simp only[Eqs,reduceIte,Zye]
 exact hret rfl (by trivial) (Zyj _) (ZyJ _ hz)
theorem ZfW(s:Qr)(b:Nat)(l:Zhq)(st:St)(hb:st b=sO (.map (Zby l))):
  ZN Zyg YL.id [.agg s.cells,.map b] st (fun r S=>r=.ret (.tup [QJ ((WU s fun k=>ZQ k l).1,(WU s fun k=>ZQ k l).2.1),.int .i64 (WU s fun k=>ZQ k l).2.2])∧S=st):=by
 refine ZM YL.ok fun F hF=>?_
 have hI:=WU.eq_1 s fun k=>ZQ k l
 refine rx @eQ7 ?_
 refine rg ?_
 refine rx @eQ7 ?_
 refine Ye rfl rfl rfl rfl rfl (by trivial) (by trivial) (by exact ZmM s b l st hb) ?_ ?_
 ·rintro d S ⟨hd,rfl⟩
  cases hd
  refine Za ?_
  simp only[Eqs,reduceIte,Zye]
  refine rg ?_
  refine cd (fun h1=>?_) (fun h1=>?_)
  ·have h1':¬Zah s (fun k=>ZQ k l)=0:=by simpa using h1
   rw[if_neg h1']at hI
   refine rg ?_
   refine hF.ret _ S rfl (by trivial) (Za4 ?_ rfl) (Zyi _) ⟨rfl,rfl⟩
   rw[hI];rfl
  ·have h1':Zah s (fun k=>ZQ k l)=0:=by simpa using h1
   rw[if_pos h1']at hI
   refine Yw (Zi ?_)
   refine Z1 2 rfl fun x hx=>?_
   simp only[reduceIte,Zye,Yd,Yz,delL]
   refine Z1 3 rfl fun y hy=>?_
   simp only[reduceIte,Zye,Yd,Yz,delL]
   have hbx:b≠x:=fun e=>by rw[e,hx]at hb;simp at hb
   have hy':=Ya hy
   have hby:b≠y:=fun e=>by rw[e,hy'.2]at hb;simp at hb
   have hb2:((S.upd x (.cells s.cells)).upd y (.cells [.map b])) b=sO (.map (Zby l)):=by rw[Zyn _ _ hby,Zyn _ _ hbx];exact hb
   have hx2:((S.upd x (.cells s.cells)).upd y (.cells [.map b])) x=sO (.cells s.cells):=by rw[Zyn _ _ hy'.1.symm];exact Zyo _ _ _
   refine rg ?_
   refine rg ?_
   refine ZcL rfl rfl rfl rfl rfl (by trivial) (by trivial) (by exact(ZeD s l true b x y _ h1' hb2 hx2 (Zyo _ _ _)).VT (first:=[]) (args:=[_]) (caps:=[_,_])) (Za ?_)
   simp only[Eqs,reduceIte,Zye]
   refine ZcL rfl rfl rfl rfl rfl (by trivial) (by trivial) (by exact(ZeD s l false b x y _ h1' hb2 hx2 (Zyo _ _ _)).VT (first:=[]) (args:=[_]) (caps:=[_,_])) (Za ?_)
   simp only[Eqs,reduceIte,Zye,ZyB,Zyq]
   refine hF.ret _ S rfl (by first|trivial|simp) (Za4 ?_ rfl) (ZyT (ZyJ _ hx) (ZyJ _ hy)) ⟨rfl,rfl⟩
   rw[hI,ZwZ,ZwY];rfl
 ·rintro d S ⟨hd,_⟩
  cases hd
theorem ZwH(o:Option Int):Qg (.int .i64 0) false (o.map ZbJ)=.int .i64 (o.getD 0):=by cases o<;>rfl
abbrev Zp8(l:List (Str×Int)):List (D×D):=ZaL Zar ZbJ l
def inC(n:Int):List D:=[.int .i64 n]
theorem Zvr(f:Fld):KV f=(dC (f.kind=1) ||decide (f.kind=2) ||decide (f.kind=3)):=by
 unfold KV
 rw[Bool.eq_iff_iff]
 simp only[Zyk,Zyu,decide_eq_true_eq]
 omega
theorem ZfS(f:Fld):ZA Zyg Kr.id [.agg f.cells] (.bool (KV f)):=by
 refine ZP Kr.ok fun F st hret=>?_
 refine rx @eQ0 ?_
 refine rx @eQ0 ?_
 refine rb hret ?_
 exact(Zvr f).symm
def ZfO(f:Fld):(Int×Int)×Int:=if KV f then (Wz f,0) else ((0,0),2)
theorem Zgh(f:Fld):ZA Zyg Y9.id [.agg f.cells] (.tup [QJ (ZfO f).1,.int .i64 (ZfO f).2]):=by
 refine ZP Y9.ok fun F st hret=>?_
 have hS:=ZfO.eq_1 f
 refine rx @eQ0 ?_
 refine rx @eQ0 ?_
 refine cl (ZfS f) ?_
 refine cd (fun h1=>?_) (fun h1=>?_)
 ·rw[if_neg (by simpa using h1)]at hS
  refine rg ?_
  refine hret rfl (by first|trivial|simp) (Za4 ?_ rfl) (Zyi _)
  rw[hS];rfl
 ·rw[if_pos (by simpa using h1)]at hS
  refine rx @eQ0 ?_
  refine cd (fun h2=>?_) (fun h2=>?_)
  ·refine rx @eQ0 ?_
   refine hret rfl (by first|trivial|simp) (Za4 ?_ rfl) (Zyi _)
   rw[hS,Wz,if_pos (by simpa using h2)];rfl
  ·refine rx @eQ0 ?_
   refine hret rfl (by first|trivial|simp) (Za4 ?_ rfl) (Zyi _)
   rw[hS,Wz,if_neg (by simpa using h2)];rfl
def ZaA(fs:List Fld):Nat→Zhq
 |0=>[]
 |i+1=>if KV (fs.getD i dE) then KI (fs.getD i dE).name (Wz (fs.getD i dE)) (ZaA fs i) else ZaA fs i
theorem Zc4(fs:List Fld)(st:St):ZN Zyg Yc.id [Z0 fs] st fun r S=>∃b,st b=nO∧r=.ret (.map b)∧S=st.upd b (.map (Zby (ZaA fs fs.length))):=by
 refine Zcw Yc.ok fun hwf F hF=>?_
 have hw:=(Zew (hwf (Z0 fs) (by simp))).1
 unfold big at hw
 clear hwf
 refine rg ?_
 refine rg ?_
 intro b hb
 refine rx (nd2 @eQ4 @eQ1) ?_
 refine Zh (fr (fs.length) (fun i Q=>i≤fs.length→Q [(3,.d (.map b)),(9,.d (Z0 fs)),(10,.d (.int .i64 fs.length)),(11,.d (.int .i64 i))] [] (st.upd b (.map (Zby (ZaA fs i))))) (fun n ih_key=>?_) fun key=>?_)
 ·intro i hn hi
  refine rg ?_
  refine Zi (YC rfl trivial (fun h1=>?_) (fun h1=>?_))
  ·simp at h1
   have hsn:ZaA fs (i+1)=if KV (fs.getD i dE) then KI (fs.getD i dE).name (Wz (fs.getD i dE)) (ZaA fs i) else ZaA fs i:=rfl
   generalize hf:fs.getD i dE=f at *
   have hP:=ZfO.eq_1 f
   refine rx (nd2 @eQ4 (nd2 @eQ1 (nd2 @eQ0 @hf))) ?_
   refine aa ?_
   refine rx @eQ0 ?_
   refine YF rfl rfl rfl rfl rfl (by trivial) (by trivial) (by exact Zgh f) (Za ?_)
   simp only[Eqs,reduceIte,Zye,ZyB,Zyq,QJ]
   refine rg ?_
   refine cd (fun h2=>?_) (fun h2=>?_)
   ·have hnum:KV f=true:=by
     cases hx:KV f with
     |true=>rfl
     |false=>rw[hP,hx]at h2;simp at h2
    rw[if_pos hnum]at hP hsn
    have e2:=Zdf (vD:=QJ) Wa f.name (Wz f) (ZaA fs i)
    have e3:=Jl Wa f.name
    simp only[show Zar f.name=D.str f.name from rfl,show QJ (Wz f)=D.agg [.int .i64 (Wz f).1,.int .i64 (Wz f).2] from rfl]at e2 e3
    have hP1:(ZfO f).1=Wz f:=by rw[hP]
    refine rx (nd2 @eQ0 (nd2 @hP1 (nd2 @e2 (nd2 @e3 (nd2 @Zyo (nd2 @Zyz (nd2 @KZ @K0))))))) ?_
    refine rg ?_
    refine aa ?_
    rw[←hsn]
    refine Zf ?_
    exact ih_key ((fs.length)-(i+1)) (by omega) (i+1) rfl (by omega)
   ·have hnum:KV f=false:=by
     cases hx:KV f with
     |true=>rw[hP,hx]at h2;simp at h2
     |false=>rfl
    rw[if_neg (by rw[hnum];simp)]at hsn
    refine rg ?_
    refine aa ?_
    rw[←hsn]
    refine Zf ?_
    exact ih_key ((fs.length)-(i+1)) (by omega) (i+1) rfl (by omega)
  ·simp at h1
   obtain rfl:i=fs.length:=by omega
   refine rg ?_
   exact hF.ret _ _ rfl (by trivial) (Zyj _) (Zyi _) ⟨b,hb,rfl,rfl⟩
 exact key _ 0 rfl (by omega)
theorem Zlq(m:Msg)(st:St):ZN Zyg Ks.id [.agg m.cells] st fun r S=>∃b,st b=nO∧r=.ret (.map b)∧S=st.upd b (.map (Zby (ZaA m.fields m.fields.length))):=by
 refine ZM Ks.ok fun F hF=>?_
 refine rx @eQ2 ?_
 refine rx @eQ2 ?_
 refine Ye rfl rfl rfl rfl rfl (by trivial) (by trivial) (by exact Zc4 m.fields st) ?_ ?_
 ·rintro d S ⟨b,hb,hd,rfl⟩
  cases hd
  refine Za ?_
  simp only[Eqs,reduceIte,Zye]
  exact hF.ret _ _ rfl (by trivial) (Zyj _) (Zyi _) ⟨b,hb,rfl,rfl⟩
 ·rintro d S ⟨b,hb,hd,_⟩
  cases hd
theorem Zf4(l:List Msg)(f:D)(p:Msg→Bool)(sts:Nat→St)(hf:∀i,i<l.length→VT Zyg f [.agg (l.getD i dE).cells] (sts i) (.bool (p (l.getD i dE))) (sts (i+1))):
  Wi Zyg YE.id [slD 2 Msg.cells l,f] (sts 0) (.tup [.int .i64 (max (ZB p l) 0),.bool (dC (0≤ZB p l))]) (sts (Zbu p l)):=by
 refine Wb YE.ok fun hwf F hret=>?_
 clear hwf
 refine rg ?_
 refine rg ?_
 refine ct (ZeG l f p sts hf) ?_
 refine rg ?_
 exact hret rfl (by trivial) (Za4 rfl rfl) (Zyi _)
theorem Zhh(l:List Fld)(f:D)(p:Fld→Bool)(sts:Nat→St)(hf:∀i,i<l.length→VT Zyg f [.agg (l.getD i dE).cells] (sts i) (.bool (p (l.getD i dE))) (sts (i+1))):
  Wi Zyg YO.id [slD 15 Fld.cells l,f] (sts 0) (.tup [.int .i64 (max (ZB p l) 0),.bool (dC (0≤ZB p l))]) (sts (Zbu p l)):=by
 refine Wb YO.ok fun hwf F hret=>?_
 clear hwf
 refine rg ?_
 refine rg ?_
 refine ct (ZbS l f p sts hf) ?_
 refine rg ?_
 exact hret rfl (by trivial) (Za4 rfl rfl) (Zyi _)
theorem Zlp(x:Msg)(s:Str)(b:Nat)(st:St)(hb:st b=sO (.cells [.str s])):Wi Zyg W8.id [.agg x.cells,.ptr b 0] st (.bool (dC (x.name=s))) st:=by
 refine Wb W8.ok fun hwf F hret=>?_
 clear hwf
 refine rx @eQ2 ?_
 refine rx @hb ?_
 exact hret rfl (by trivial) (Zyj _) (Zyi _)
theorem Zkk(x:Fld)(s:Str)(b:Nat)(st:St)(hb:st b=sO (.cells [.str s])):Wi Zyg WK.id [.agg x.cells,.ptr b 0] st (.bool (dC (x.name=s))) st:=by
 refine Wb WK.ok fun hwf F hret=>?_
 clear hwf
 refine rx @eQ0 ?_
 refine rx @hb ?_
 exact hret rfl (by trivial) (Zyj _) (Zyi _)
theorem Znx(d:Dfn)(s:Str):ZA Zyg K7.id [.agg d.cells,.str s] (.tup [.int .i64 (max (ZB (fun x=>dC (x.name=s)) d.msgs) 0),.bool (dC (0≤ZB (fun x=>dC (x.name=s)) d.msgs))]):=by
 refine ZP K7.ok fun F st hret=>?_
 refine rx @eQ3 ?_
 refine Zi ?_
 refine Z1 3 rfl fun b hb=>?_
 simp only[reduceIte,Zye,Yd,Yz,delL]
 refine rx @eQ3 ?_
 refine JN rfl rfl rfl rfl rfl (by trivial) (by trivial) (by exact Zf4 d.msgs (.fn (.func W8.id) [] [.ptr b 0]) (fun x=>dC (x.name=s)) (fun _=>st.upd b (.cells [.str s])) (fun i hi=>(Zlp _ s b _ (Zyo _ _ _)).VT (first:=[]) (args:=[_]) (caps:=[_]))) (Za ?_)
 simp only[Eqs,reduceIte,Zye]
 exact hret rfl (by trivial) (Za4 rfl rfl) (ZyJ _ hb)
theorem ZbR(d:Msg)(s:Str):ZA Zyg KN.id [.agg d.cells,.str s] (.tup [.int .i64 (max (ZB (fun x=>dC (x.name=s)) d.fields) 0),.bool (dC (0≤ZB (fun x=>dC (x.name=s)) d.fields))]):=by
 refine ZP KN.ok fun F st hret=>?_
 refine rx @eQ2 ?_
 refine Zi ?_
 refine Z1 3 rfl fun b hb=>?_
 simp only[reduceIte,Zye,Yd,Yz,delL]
 refine rx @eQ2 ?_
 refine JN rfl rfl rfl rfl rfl (by trivial) (by trivial) (by exact Zhh d.fields (.fn (.func WK.id) [] [.ptr b 0]) (fun x=>dC (x.name=s)) (fun _=>st.upd b (.cells [.str s])) (fun i hi=>(Zkk _ s b _ (Zyo _ _ _)).VT (first:=[]) (args:=[_]) (caps:=[_]))) (Za ?_)
 simp only[Eqs,reduceIte,Zye]
 exact hret rfl (by trivial) (Za4 rfl rfl) (ZyJ _ hb)
def upS(v of:Int):Int:=((v+of)-1).tdiv of*of
theorem ZxP{v of:Int}(hv:-2000≤v∧v≤2000)(ho:1≤of∧of≤1000):(-4000≤((v+of)-1).tdiv of∧((v+of)-1).tdiv of≤4000)∧-5000≤upS v of∧upS v of≤5000:=by
 unfold upS
 have h1:=Int.mul_tdiv_add_tmod (v+of-1) of
 have h2:=Int.tmod_lt_of_pos (v+of-1) (show 0<of by omega)
 have h3:=Int.lt_tmod_of_pos (v+of-1) (show 0<of by omega)
 rw[Int.mul_comm]at h1
 generalize (v+of-1).tmod of=r at *
 generalize (v+of-1).tdiv of=q at *
 have h4:-4000≤q*of∧q*of≤4000:=by omega
 refine⟨?_,by omega⟩
 rcases Int.lt_trichotomy q 0 with hq|hq|hq
 ·have:=Int.mul_le_mul_of_nonneg_left (show(1:Int)≤of by omega) (show 0≤-q by omega)
  simp only[Int.neg_mul,Int.mul_one]at this
  omega
 ·omega
 ·have:=Int.mul_le_mul_of_nonneg_left (show(1:Int)≤of by omega) (show 0≤q by omega)
  omega
theorem Zq3{v of:Int}(hv:-2000≤v∧v≤2000)(ho:1≤of∧of≤1000):ZA Zyg Jj.id [.int .i64 v,.int .i64 of] (.int .i64 (upS v of)):=by
 have hb:=ZxP hv ho
 have he:((v+of)-1).tdiv of*of=upS v of:=rfl
 refine ZP Jj.ok fun F st hret=>?_
 refine rg ?_
 refine rg ?_
 generalize ((v+of)-1).tdiv of=q at *
 rw[he]
 generalize upS v of=u at *
 refine aa ?_
 refine ri hret ?_
 rfl
structure ZgM(f:Fld):Prop where
 num:f.kind=1∨f.kind=2→-1000≤f.bits∧f.bits≤1000
 pad:f.kind=10→1≤f.bits∧f.bits≤1000
def Zbr(f:Fld)(o:Int):Int:=if f.kind=1∨f.kind=2 then (o+f.bits).tmod 8 else if f.kind=10 then (upS o f.bits).tmod 8 else 0
def KG(l:List Fld):Nat→Int
 |0=>0
 |i+1=>Zbr (l.getD i dE) (KG l i)
theorem ZvC(f:Fld)(o:Int):-8<Zbr f o∧Zbr f o<8:=by
 have h:∀x:Int,-8<x.tmod 8∧x.tmod 8<8:=fun x=>⟨Int.lt_tmod_of_pos x (by decide),Int.tmod_lt_of_pos x (by decide)⟩
 unfold Zbr
 split
 ·exact h _
 ·split
  ·exact h _
  ·omega
theorem Znm(l:List Fld)(i:Nat):-8<KG l i∧KG l i<8:=by
 cases i with
 |zero=>simp[KG]
 |succ i=>exact ZvC _ _
theorem ZkW(f:Fld){o:Int}(ho:-2000≤o∧o≤2000)(hb:-1000≤f.bits∧f.bits≤1000):ZA Zyg Wj.id [.agg f.cells,.int .i64 o] (.int .i64 (o+f.bits)):=by
 refine ZP Wj.ok fun F st hret=>?_
 refine rx @eQ0 ?_
 refine rx @eQ0 ?_
 refine aa ?_
 refine ri hret ?_
 rfl
theorem ZkX(f:Fld){o:Int}(ho:-2000≤o∧o≤2000)(hb:1≤f.bits∧f.bits≤1000):ZA Zyg WD.id [.agg f.cells,.int .i64 o] (.int .i64 (upS o f.bits)):=by
 refine ZP WD.ok fun F st hret=>?_
 refine rx @eQ0 ?_
 refine rx @eQ0 ?_
 refine cl (Zq3 ho hb) ?_
 refine ri hret ?_
 rfl
def Zpm:List (D×D):=[(.int .i64 1,.fn (.func Wj.id) [] []),(.int .i64 2,.fn (.func Wj.id) [] []),(.int .i64 10,.fn (.func WD.id) [] [])]
theorem ZgQ(st:St):ZN Zyg Ko.id [] st fun r S=>∃b,st b=nO∧r=.ret (.map b)∧S=st.upd b (.map Zpm):=by
 refine ZM Ko.ok fun F hF=>?_
 refine rg ?_
 refine rg ?_
 refine Zi (Ys (Za ?_))
 simp only[Eqs,reduceCtorEq,reduceIte,Zye,Ko.r2,ZbM,Jt,WH,Zyo,Zyz,decide_false,ZyN,ite_false]
 intro b hb
 exact hF.ret _ _ rfl (by trivial) (Zyj _) (Zyi _) ⟨b,hb,rfl,rfl⟩
def Zeg(k:Int):Bool:=dC (k=1) ||(dC (k=2) ||decide (k=10))
def Ze5(k:Int):D:=if k=1 then .fn (.func Wj.id) [] [] else if k=2 then .fn (.func Wj.id) [] [] else if k=10 then .fn (.func WD.id) [] [] else .nilfn
theorem Zl9(k:Int):ZcQ (.sc .int) (.int .i64 k) Zpm=sO (if Zeg k then sO (Ze5 k) else nO):=by
 simp only[Zpm,ZcQ,Jt,WH,if_true,Zeg,Ze5]
 by_cases h1:k=1
 ·simp[h1]
 ·by_cases h2:k=2
  ·simp[h2]
  ·by_cases h3:k=10
   ·simp[h3]
   ·simp[h1,h2,h3]
theorem Zof(k:Int):Qg .nilfn true (if Zeg k=true then sO (Ze5 k) else nO)=.tup [Ze5 k,.bool (Zeg k)]:=by
 unfold Zeg Ze5
 by_cases h1:k=1
 ·simp[h1,Qg]
 ·by_cases h2:k=2
  ·simp[h2,Qg]
  ·by_cases h3:k=10
   ·simp[h3,Qg]
   ·simp[h1,h2,h3,Qg]
def Zcb(f:Fld):Bool:=!Zeg f.kind ||f.little
theorem Zm0(f:Fld)(st:St):Wi Zyg KT.id [.agg f.cells] st (.bool (Zcb f)) st:=by
 refine Wb KT.ok fun hwf F hret=>?_
 clear hwf
 refine rx @eQ0 ?_
 refine rx @eQ0 ?_
 refine ZbW rfl rfl rfl rfl rfl (by trivial) (by trivial) (by exact ZgQ _) ?_ ?_
 ·rintro d S ⟨b,hb,hd,rfl⟩
  cases hd
  refine⟨by simp[KB,JA,Kx,ZbK],?_⟩
  have hfa:=Zl9 f.kind
  refine Y6 ?_
  simp only[Eqs,reduceIte,Zye,hfa,Zyo,Zof]
  refine rx @eQ0 ?_
  exact hret rfl (by trivial) (by unfold Zcb;cases Zeg f.kind<;>exact Zyj _) (ZyJ _ hb)
 ·rintro d S ⟨b,hb,hd,_⟩
  cases hd
def Zs1(l:List Fld)(j:Nat):List D:=[.int .i64 j,.int .i64 (KG l j)]
theorem Zes(l:List Fld)(hl:l.length≤1000)(hb:∀f∈l,ZgM f)(x:Nat):Zhp Zyg (.fn (.func ZH.id) [] [.ptr x 0]) (l.length+1) (Zs1 l) (ZyG x (.cells [Z0 l])):=by
 intro y go A a0 hcons hA hd
 refine ZN.V (first:=[]) (args:=[y]) (caps:=[.ptr x 0]) (ZM ZH.ok fun F hF=>?_)
 have hx:∀a,Kz a (ZyG x (.cells [Z0 l]))→(a.or (ZyG x (.cells [Z0 l]))) x=sO (.cells [Z0 l]):=fun a hda=>by
  rw[Yj (hda x _ (KA _ _)),KA]
 generalize hT:ZyG x (.cells [Z0 l])=T at *
 refine rg ?_
 refine Zi (Zi (Ys (Za ?_)))
 simp only[Eqs,reduceCtorEq,reduceIte,Zye,ZH.r1,hx a0 hd,Z0,slD]
 refine Zh (fr (l.length) (fun j Q=>∀a,A j a→Kz a T→(∀i,i<j→go i=.next)→j≤l.length→Q [(0,.d y),(1,.d (.ptr x 0)),(3,.d (.int .i64 (KG l j))),(8,.d (Z0 l)),(9,.d (.int .i64 l.length)),(10,.d (.int .i64 j))] [] (a.or T)) (fun n ih_key=>?_) fun key=>?_)
 ·clear hA hd
  intro j hn a hA hd hno hj
  refine rg ?_
  have hcall:=(hcons j (by omega) hno a hA).frame hd
  unfold Zs1 at hcall
  have ho:=Znm l j
  refine Zi (YC rfl trivial (fun h1=>?_) (fun h1=>?_))
  ·simp at h1
   have hbj:=hb (l.getD j dE) (by simp[Zyx,h1])
   have hnx:KG l (j+1)=Zbr (l.getD j dE) (KG l j):=rfl
   generalize hg:l.getD j dE=g at *
   refine rx (nd2 @eQ4 (nd2 @eQ1 (nd2 @hg @eQ0))) ?_
   refine aa ?_
   refine rg ?_
   refine Jw rfl rfl rfl rfl rfl (by trivial) (by trivial) (by exact hcall) ?_ ?_
   ·rintro d S ⟨s',⟨hr,hA'⟩,hd',rfl⟩
    cases hgo:go j with
    |next =>
     rw[hgo]at hr
     cases hr
     refine Za ?_
     simp only[Eqs,reduceCtorEq,reduceIte,Zye]
     refine i0 ?_
     refine rx @eQ0 ?_
     refine ZbW rfl rfl rfl rfl rfl (by trivial) (by trivial) (by exact ZgQ _) ?_ ?_
     ·rintro d S ⟨b,hb2,hd2,rfl⟩
      cases hd2
      have hfa:=Zl9 g.kind
      refine⟨by simp[KB,JA,Kx,ZbK],?_⟩
      refine Y6 ?_
      simp only[Eqs,reduceCtorEq,reduceIte,Zye,hfa,Zyo,Zof]
      refine rg ?_
      have h8:=Znm l (j+1)
      refine cd (fun hk=>?_) (fun hk=>?_)
      ·by_cases h10:g.kind=10
       ·have hnf:Ze5 g.kind=.fn (.func WD.id) [] []:=by simp[Ze5,h10]
        have hoff:(upS (KG l j) g.bits).tmod 8=KG l (j+1):=by rw[hnx,Zbr,if_neg (by omega),if_pos h10]
        rw[←hoff]at h8
        rw[hnf]
        refine rx @eQ0 ?_
        refine ZcL rfl rfl rfl rfl rfl (by trivial) (by trivial) (by exact(ZkX g (by omega) (hbj.pad h10)).VT (first:=[]) (args:=[_,_]) (caps:=[]) _) (Za ?_)
        simp only[Eqs,reduceCtorEq,reduceIte,Zye]
        refine aa ?_
        rw[hoff]
        refine rg ?_
        refine aa ?_
        refine J9 (ZyJ _ hb2) ?_
        refine Zf ?_
        exact ih_key ((l.length)-(j+1)) (by omega) (j+1) rfl s' hA' hd' (Ke (q:=fun i=>go i=.next) hno hgo) (by omega)
       ·have h12:g.kind=1∨g.kind=2:=by
         simp only[Zeg,Zyu,decide_eq_true_eq]at hk;omega
        have hnf:Ze5 g.kind=.fn (.func Wj.id) [] []:=by rcases h12 with h|h<;>simp[Ze5,h]
        have hoff:(KG l j+g.bits).tmod 8=KG l (j+1):=by rw[hnx,Zbr,if_pos h12]
        rw[←hoff]at h8
        rw[hnf]
        refine rx @eQ0 ?_
        refine ZcL rfl rfl rfl rfl rfl (by trivial) (by trivial) (by exact(ZkW g (by omega) (hbj.num h12)).VT (first:=[]) (args:=[_,_]) (caps:=[]) _) (Za ?_)
        simp only[Eqs,reduceCtorEq,reduceIte,Zye]
        refine aa ?_
        rw[hoff]
        refine rg ?_
        refine aa ?_
        refine J9 (ZyJ _ hb2) ?_
        refine Zf ?_
        exact ih_key ((l.length)-(j+1)) (by omega) (j+1) rfl s' hA' hd' (Ke (q:=fun i=>go i=.next) hno hgo) (by omega)
      ·have hoff:(0:Int)=KG l (j+1):=by
        simp only[Zeg,Bool.or_eq_false_iff,decide_eq_false_iff_not]at hk
        rw[hnx,Zbr,if_neg (by omega),if_neg (by omega)]
       refine rg ?_
       refine rg ?_
       refine aa ?_
       rw[show(D.int IntKind.i64 0)=.int .i64 (KG l (j+1)) by rw[←hoff]]
       refine J9 (ZyJ _ hb2) ?_
       refine Zf ?_
       exact ih_key ((l.length)-(j+1)) (by omega) (j+1) rfl s' hA' hd' (Ke (q:=fun i=>go i=.next) hno hgo) (by omega)
     ·rintro d S ⟨b,hb2,hd2,_⟩
      cases hd2
    |stop c =>
     rw[hgo]at hr
     cases hr
     refine Za ?_
     simp only[Eqs,reduceCtorEq,reduceIte,Zye]
     refine i1 ?_
     exact hF.ret (.tup []) _ rfl trivial (Zyj _) (Zyi _) ⟨s',.stop j c (by omega) hno hgo hA',Zat _ _⟩
    |pan d=>rw[hgo]at hr;cases hr
   ·rintro d S ⟨s',⟨hr,hA'⟩,hd',rfl⟩
    cases hgo:go j with
    |pan d' =>
     rw[hgo]at hr
     cases hr
     exact hF.pan _ (Zyi _) ⟨s',.pan j d (by omega) hno hgo hA',Zat _ _⟩
    |next=>rw[hgo]at hr;cases hr
    |stop c=>rw[hgo]at hr;cases hr
  ·simp at h1
   obtain rfl:j=l.length:=by omega
   refine Wr rfl (Ys (Za ?_))
   simp only[Eqs,reduceCtorEq,reduceIte,Zye,ZH.r10,hx a hd,Z0,slD]
   refine Jw rfl rfl rfl rfl rfl (by trivial) (by trivial) (by exact hcall) ?_ ?_
   ·rintro d S ⟨s',⟨hr,hA'⟩,hd',rfl⟩
    cases hgo:go l.length with
    |next =>
     rw[hgo]at hr
     cases hr
     refine Za ?_
     simp only[Eqs]
     exact hF.fin (.tup []) _ rfl trivial (Zyj _) (Zyi _) ⟨s',.all (Ke (q:=fun i=>go i=.next) hno hgo) hA',Zat _ _⟩
    |stop c =>
     rw[hgo]at hr
     cases hr
     refine Za ?_
     simp only[Eqs]
     exact hF.fin (.tup []) _ rfl trivial (Zyj _) (Zyi _) ⟨s',.stop l.length c (by omega) hno hgo hA',Zat _ _⟩
    |pan d=>rw[hgo]at hr;cases hr
   ·rintro d S ⟨s',⟨hr,hA'⟩,hd',rfl⟩
    cases hgo:go l.length with
    |pan d' =>
     rw[hgo]at hr
     cases hr
     exact hF.pan _ (Zyi _) ⟨s',.pan l.length d (by omega) hno hgo hA',Zat _ _⟩
    |next=>rw[hgo]at hr;cases hr
    |stop c=>rw[hgo]at hr;cases hr
 exact key _ 0 rfl a0 hA hd (by intro i hi;omega) (by omega)
theorem Zfo(l:List Fld)(st:St):ZN Zyg Kp.id [Z0 l] st fun r S=>∃x,st x=nO∧r=.ret (.fn (.func ZH.id) [] [.ptr x 0])∧S=st.or (ZyG x (.cells [Z0 l])):=by
 refine ZM Kp.ok fun F hF=>?_
 refine rx (nd2 @eQ4 @eQ1) ?_
 refine Zi ?_
 refine Z1 1 rfl fun x hx=>?_
 simp only[reduceIte,Yd,Yz,delL]
 refine rg ?_
 exact hF.ret _ _ rfl (by trivial) (Zyj _) (Zyi _) ⟨x,hx,rfl,Zbg hx⟩
theorem Zq2(l:List Fld)(hl:l.length≤1000)(hb:∀f∈l,ZgM f)(k:Nat)(hk:k≤l.length)(st:St):Wi Zyg Wo.id [Z0 l,.int .i64 k] st (.int .i64 (KG l k)) st:=by
 refine ZM Wo.ok fun F hF=>?_
 refine rx (nd2 @eQ4 @eQ1) ?_
 refine rg ?_
 rw[show(D.sl .none l.length 15 fun i=>(l.getD i dE).cells)=Z0 l from rfl]
 refine Ye rfl rfl rfl rfl rfl (by trivial) (by trivial) (by exact Zfo l st) ?_ ?_
 ·rintro d S ⟨x,hx,hd,rfl⟩
  cases hd
  refine Za ?_
  simp only[Eqs,reduceCtorEq,reduceIte,Zye]
  refine Zh ?_
  refine Z1 3 rfl fun z3 h3=>?_
  simp only[reduceIte,Zye,Yd,Yz,delL]
  refine Z1 4 rfl fun z4 h4=>?_
  simp only[reduceIte,Yd,Yz,delL]
  have hx3:z3≠x:=fun e=>by subst e;rw[Yj hx,KA]at h3;simp at h3
  have hs3:st z3=nO:=by
   cases h:st z3 with
   |none=>rfl
   |some o=>rw[ZU h]at h3;simp at h3
  have k4:=Ya h4
  have hx4:z4≠x:=fun e=>by subst e;have:=k4.2;rw[Yj hx,KA]at this;simp at this
  have hs4:st z4=nO:=by
   cases h:st z4 with
   |none=>rfl
   |some o=>have:=k4.2;rw[ZU h]at this;simp at this
  have hA:∀v,∃A:St,A=(st.upd z3 (.cells [.int .i64 k])).upd z4 (.cells [.int .i64 v])∧A z3=sO (.cells [.int .i64 k])∧A z4=sO (.cells [.int .i64 v])∧st.sub A∧A x=nO:=fun v=>by
   refine⟨_,rfl,by rw[Zyn _ _ (Ne.symm k4.1)];exact Zyo _ _ _,Zyo _ _ _,ZyT (ZyJ _ hs3) (ZyJ _ (by rw[Zyn _ _ k4.1];exact hs4)),?_⟩
   rw[Zyn _ _ (Ne.symm hx4),Zyn _ _ (Ne.symm hx3)];exact hx
  obtain⟨A0,e0,g3,g4,hsub0,hx0⟩:=hA 0
  obtain⟨A1,e1,g3',g4',hsub1,hx1⟩:=hA (KG l k)
  have e01:A0.upd z4 (.cells [.int .i64 (KG l k)])=A1:=by rw[e0,e1,Zyz]
  have hst:(((st.or (ZyG x (.cells [Z0 l]))).upd z3 (.cells [.int .i64 k])).upd z4 (.cells [.int .i64 0]))=A0.or (ZyG x (.cells [Z0 l])):=by
   rw[e0]
   funext c
   by_cases c4:c=z4
   ·subst c4;rw[Zyo,ZU (Zyo _ _ _)]
   ·rw[Zyn _ _ c4]
    by_cases c3:c=z3
    ·subst c3;rw[Zyo,ZU (by rw[Zyn _ _ c4];exact Zyo _ _ _)]
    ·rw[Zyn _ _ c3]
     show(match st c with|some o=>sO o|none=>_)=match ((st.upd z3 _).upd z4 _) c with|some o=>sO o|none=>_
     rw[Zyn _ _ c4,Zyn _ _ c3]
  rw[hst]
  clear hst hA
  refine Zdi hF rfl trivial [3,4] (by show([3,4]:List Nat).Nodup;decide) (ZbC hx0) (Zes l hl hb x) (fun j hj=>rfl)
   (fun j=>if j=k then .stop .ret else .next) (fun j a=>(j≤k∧a=A0)∨(k<j∧a=A1)) (.inl ⟨Nat.zero_le _,rfl⟩) ?_ ?_ ?_ ?_ ?_ ?_
  ·intro j a hj hno hB F' ready busy hdr hbeg hend
   have hjk:j≤k:=by
    refine Nat.le_of_not_lt fun h=>?_
    have:=hno k h
    simp at this
   rcases hB with ⟨_,rfl⟩|⟨h,_⟩
   ·skip
    simp only[Eqs,reduceIte,Zye,Ja,JC,Zbs,JK,List.isEmpty_nil,Zs1]
    refine rg ?_
    refine rg ?_
    refine hbeg fun hdb=>?_
    refine Zh (Zi (Ys (Za ?_)))
    simp only[Eqs,reduceIte,Zye,Wo.r4,ZU g3]
    refine cd (fun hc=>?_) (fun hc=>?_)
    ·have hc':j=k:=by simp at hc;omega
     subst hc'
     rw[if_pos rfl]at hend
     refine Zi (Ys (Za ?_))
     simp only[Eqs,reduceIte,Zye,Zyq,Wo.r5,ZU g4,JB]
     rw[e01]
     exact hend.ret ⟨rfl,.inr ⟨by omega,rfl⟩⟩ (fun b o hb2=>by rw[←e01,Zyn _ _ (fun e=>by subst e;rw[hdb _ o hb2]at g4;simp at g4)];exact hdb b o hb2) (Zyi _)
    ·have hc':j≠k:=by simp at hc;omega
     rw[if_neg hc']at hend
     refine Yw (ZW ?_)
     exact hend.fin ⟨rfl,.inl ⟨by omega,rfl⟩⟩ hdb (Zyi _)
   ·omega
  ·intro q a hno hB hq
   have:=hno k (by omega)
   simp at this
  ·intro q a m hm hno hgo hB hq
   have hmk:m=k:=by
    split at hgo
    ·assumption
    ·simp at hgo
   subst hmk
   rcases hB with ⟨h,_⟩|⟨_,rfl⟩
   ·omega
   ·rw[Zbg hq]
    exact hF.ret1 hq (.int .i64 (KG l m)) st (by simp only[Eqs,reduceIte,Zye,Wo.df,K5,JU,g4'];rfl) (by trivial) (Zyj _) hsub1 ⟨rfl,rfl⟩
  ·intro q a m id hm hno hgo
   split at hgo<;>simp at hgo
  ·intro q a m d hm hno hgo
   split at hgo<;>simp at hgo
  ·intro m c hgo
   split at hgo<;>simp at hgo
   exact .inl hgo.symm
 ·rintro d S ⟨x,hx,hd,_⟩
  cases hd
def Js(l:List Fld)(i:Nat):Bool:=if i=l.length then !dC (KG l i=0) else !(dC (KG l i=0)||!Zcb (l.getD i dE))||!(!dC ((l.getD i dE).kind=11) ||decide (KG l (max (ZB (fun x=>dC (x.name=(l.getD i dE).from_)) l) 0).toNat=0))
theorem ZkY{st:St}{a c:Nat}{o:Int}{f:Fld}(ha:st a=sO (.cells [.int .i64 o]))(hc:st c=sO (.cells f.cells)):Wi Zyg WN.id [.ptr a 0,.ptr c 0] st (.bool (dC (o=0)||!Zcb f)) st:=by
 refine Wb WN.ok fun hwf F hret=>?_
 clear hwf
 by_cases h0:o=0
 ·subst h0
  refine rg ?_
  refine rx (nd2 @ha @hc) ?_
  refine ZaB rfl (e:=.d (.bool false)) (Za ?_)
  simp only[Eqs,reduceCtorEq,reduceIte,Zye]
  exact hret rfl (by simp) (Zyj _) (Zyi _)
 ·have h1:dC (o=0)=false:=decide_eq_false h0
  rw[h1,Bool.false_or]at hret
  refine rg ?_
  refine rx (nd2 @ha (nd2 @hc (nd2 @h1 @eQ0))) ?_
  refine JN rfl rfl rfl rfl rfl (by trivial) (by trivial) (by exact Zm0 f _) (Za ?_)
  simp only[Eqs,reduceCtorEq,reduceIte,Zye]
  exact hret rfl (by simp) (by cases Zcb f<;>exact Zyj _) (Zyi _)
theorem okF(l:List Fld):Q3 (Z0 l)=true:=rfl
theorem ceF(l:List Fld):cellsOf (Z0 l)=[Z0 l]:=rfl
theorem ZkZ{st:St}{a c:Nat}{l:List Fld}(hl:l.length≤1000)(hb:∀f∈l,ZgM f){f:Fld}(ha:st a=sO (.cells [Z0 l]))(hc:st c=sO (.cells f.cells))(hpos:0<l.length):
  Wi Zyg Ws.id [.ptr a 0,.ptr c 0] st (.bool (!dC (f.kind=11) ||decide (KG l (max (ZB (fun x=>dC (x.name=f.from_)) l) 0).toNat=0))) st:=by
 refine Wb Ws.ok fun hwf F hret=>?_
 clear hwf
 have hq1:=QA (fun x=>dC (x.name=f.from_)) l
 have hq0:=Zbi (fun x:Fld=>dC (x.name=f.from_)) l
 have hmsg:D.agg [.str [],Z0 l]=.agg (Msg.mk [] l).cells:=rfl
 refine rg ?_
 refine rx (nd2 @ha (nd2 @hc (nd2 @eQ0 (nd2 @okF @ceF)))) ?_
 rw[hmsg]
 refine cl (ZbR ⟨[],l⟩ f.from_) ?_
 obtain⟨q,hq⟩:∃q:Nat,max (ZB (fun x=>dC (x.name=f.from_)) l) 0=q:=⟨(max (ZB (fun x=>dC (x.name=f.from_)) l) 0).toNat,by omega⟩
 simp only[hq,Int.toNat_natCast]at hret⊢
 by_cases h0:f.kind=11
 ·have h1:dC (f.kind=11)=true:=decide_eq_true h0
  rw[h1,Bool.not_true,Bool.false_or]at hret
  refine rx (nd2 @ha (nd2 @hc (nd2 @eQ0 @h1))) ?_
  refine JN rfl rfl rfl rfl rfl (by trivial) (by trivial) (by exact Zq2 l hl hb q (by omega) _) (Za ?_)
  simp only[Eqs,reduceCtorEq,reduceIte,Zye]
  exact hret rfl (by simp) (Zyj _) (Zyi _)
 ·have h1:dC (f.kind=11)=false:=decide_eq_false h0
  rw[h1,Bool.not_false,Bool.true_or]at hret
  refine rx (nd2 @ha (nd2 @hc (nd2 @eQ0 @h1))) ?_
  refine ZaB rfl (e:=.d (.int .i64 0)) (Za ?_)
  simp only[Eqs,reduceCtorEq,reduceIte,Zye]
  exact hret rfl (by simp) (Zyj _) (Zyi _)
theorem Zfp{c:D}{v:Bool}{st:St}(h:VT Zyg c [] st (.bool v) st):Wi Zyg WO.id [c] st (.bool (!v)) st:=by
 refine Wb WO.ok fun hwf F hret=>?_
 clear hwf
 refine rg ?_
 refine rg ?_
 refine ZcL rfl rfl rfl rfl rfl (by trivial) (by trivial) (by exact h) (Za ?_)
 simp only[Eqs,reduceCtorEq,reduceIte,Zye]
 exact hret rfl (by trivial) (Zyj _) (Zyi _)
structure Ck where
 d:Dfn
 at_:Int
 field:Int
 m:Msg
def Ck.cells(k:Ck)(bd bs:Nat):List D:=[.str k.d.name,Ka k.d.msgs,.str k.d.start,.map bd,.map bs,.int .i64 k.at_,.int .i64 k.field,.str k.m.name,Z0 k.m.fields]
structure J8(st:St)(x bd bs:Nat)(k:Ck)(dl:List (Str×Int))(sl:List (Str×Bool)):Prop where
 x:st x=some (.cells (k.cells bd bs))
 bd:st bd=some (.map (Zp8 dl))
 bs:st bs=some (.map (Jz sl))
theorem J8.mono{st A:St}{x bd bs:Nat}{k:Ck}{dl:List (Str×Int)}{sl:List (Str×Bool)}(h:J8 st x bd bs k dl sl)(hs:st.sub A):J8 A x bd bs k dl sl:=⟨hs _ _ h.x,hs _ _ h.bd,hs _ _ h.bs⟩
def Zeq(d:D):Prop:=∃a f c,d=.iface 76 (.agg [.int .i64 a,.int .i64 f,.int .i64 c])
def QE(ok:Bool)(st:St)(r:Res)(S:St):Prop:=S=st∧if ok then r=.ret (.tup []) else ∃d,Zeq d∧r=.panic d
theorem Kv{ok:Bool}{st S:St}{d:D}(h:QE ok st (.ret d) S):ok=true∧d=.tup []∧S=st:=by
 obtain⟨h1,h2⟩:=h
 cases ok with
 |true=>simp at h2;exact⟨rfl,h2,h1⟩
 |false=>simp at h2
theorem Ku{ok:Bool}{st S:St}{d:D}(h:QE ok st (.panic d) S):ok=false∧Zeq d∧S=st:=by
 obtain⟨h1,h2⟩:=h
 cases ok with
 |true=>simp at h2
 |false=>simp at h2;exact⟨rfl,h2,h1⟩
theorem Zcs{ok:Bool}{st:St}(h:ok=true):QE ok st (.ret (.tup [])) st:=by subst h;exact⟨rfl,rfl⟩
theorem Qi{ok:Bool}{st:St}{d:D}(h:ok=false)(hd:Zeq d):QE ok st (.panic d) st:=by subst h;exact⟨rfl,d,hd,rfl⟩
def ZhH(a f c:Int):D:=.iface 76 (.agg [.int .i64 a,.int .i64 f,.int .i64 c])
theorem Zp2(a f c:Int):Zeq (ZhH a f c):=⟨a,f,c,rfl⟩
theorem Zgi{x bd bs:Nat}{k:Ck}{st:St}(hx:st x=sO (.cells (k.cells bd bs)))(fine:Bool)(code:Int):ZN Zyg Y0.id [.ptr x 0,.bool fine,.int .i64 code] st (fun r S=>S=st∧r=if fine then .ret (.tup []) else .panic (ZhH k.at_ k.field code)):=by
 refine ZM Y0.ok fun F hF=>?_
 refine rg ?_
 refine cd (fun h=>?_) (fun h=>?_)
 ·have hf:fine=false:=by simpa using h
  refine rx (nd2 @hx @Ck.cells.eq_1) ?_
  refine Zsc rfl rfl rfl trivial ?_
  exact hF.pan st (Zyi _) ⟨rfl,by rw[hf];rfl⟩
 ·have hf:fine=true:=by simpa using h
  refine Yw ?_
  exact hF.fin (.tup []) st rfl trivial (Zyj _) (Zyi _) ⟨rfl,by rw[hf];rfl⟩
theorem YP{x bd bs:Nat}{k:Ck}{st:St}(hx:st x=sO (.cells (k.cells bd bs)))(fine:Bool)(code:Int):ZN Zyg Y0.id [.ptr x 0,.bool fine,.int .i64 code] st (QE fine st) :=
 (Zgi hx fine code).mono fun r S ⟨h1,h2⟩=>by
  subst h1
  cases fine with
  |true=>exact⟨rfl,h2⟩
  |false=>exact⟨rfl,_,Zp2 _ _ _,h2⟩
theorem Zli(o:Option Int):Qg (.int .i64 0) true (o.map ZbJ)=.tup [.int .i64 (o.getD 0),.bool o.isSome]:=by cases o<;>rfl
theorem Zmn(o:Option (Int×Int)):Qg (.agg [.int .i64 0,.int .i64 0]) true (o.map QJ)=.tup [.agg [.int .i64 (o.getD (0,0)).1,.int .i64 (o.getD (0,0)).2],.bool o.isSome]:=by cases o<;>rfl
theorem ZdI{x bd bs:Nat}{k:Ck}{dl:List (Str×Int)}{sl:List (Str×Bool)}{st:St}(hst:J8 st x bd bs k dl sl)(name:Str):ZN Zyg YJ.id [.ptr x 0,.str name] st (QE (ZQ name dl).isSome st):=by
 refine ZM YJ.ok fun F hF=>?_
 have e1:=QG (vD:=ZbJ) Wa name dl
 have e3:=Jl Wa name
 simp only[show Zar name=D.str name from rfl]at e1 e3
 refine Zi (Ys (Za ?_))
 simp only[Eqs,reduceCtorEq,reduceIte,Zye,ZyB,YJ.r0,hst.x,hst.bd,Ck.cells,e1,Zli]
 refine rg ?_
 refine Ye rfl rfl rfl rfl rfl (by trivial) (by trivial) (by exact YP hst.x (ZQ name dl).isSome 8) ?_ ?_
 ·rintro d S h
  obtain⟨hok,rfl,rfl⟩:=Kv h
  refine Za ?_
  simp only[Eqs]
  exact hF.fin (.tup []) S rfl trivial (Zyj _) (Zyi _) (Zcs hok)
 ·rintro d S h
  obtain⟨hok,hfl,rfl⟩:=Ku h
  exact hF.pan S (Zyi _) (Qi hok hfl)
theorem Zaq{x bd bs:Nat}{k:Ck}{st:St}(hx:st x=sO (.cells (k.cells bd bs))){n:Nat}(hn:k.field=n)(hl:n≤k.m.fields.length):Wi Zyg YU.id [.ptr x 0] st (Z0 (k.m.fields.take n)) st:=by
 refine Wb YU.ok fun hwf F hret=>?_
 clear hwf
 refine rg ?_
 refine rx (nd2 @hx (nd2 @Ck.cells.eq_1 (nd2 @eQ4 (nd2 @eQ1 @hn)))) ?_
 refine⟨by omega,by omega,by omega,?_⟩
 rw[ite_self]
 have hrow:We Fld.cells (fun i=>(k.m.fields.getD i dE).cells) (k.m.fields.take n):=We.self.take n
 exact hret rfl (by trivial) (Zff (hrow.le (by rw[Zyw];omega))) (Zyi _)
def Kc:Int→Int→List Int→Bool
 |_,_,[]=>true
 |low,high,n::r=>dC (low≤n)&&dC (n≤high)&&Kc n high r
theorem ZfT{x bd bs:Nat}{k:Ck}{st:St}(hx:st x=sO (.cells (k.cells bd bs)))(low high:Int)(l:List Int):ZN Zyg ZG.id [.ptr x 0,.int .i64 low,.int .i64 high,slD 1 inC l] st (QE (Kc low high l) st):=by
 refine Zcw ZG.ok fun hwf F hF=>?_
 have hw:=(JE (hwf (slD 1 inC l) (by simp))).1
 unfold big at hw
 clear hwf
 refine rx @eQ1 ?_
 refine Zh (fr (l.length) (fun i Q=>∀lo,Kc low high l=Kc lo high (l.drop i)→i≤l.length→Q [(0,.d (.ptr x 0)),(1,.d (.int .i64 lo)),(2,.d (.int .i64 high)),(10,.d (slD 1 inC l)),(11,.d (.int .i64 l.length)),(12,.d (.int .i64 i))] [] st) (fun n ih_key=>?_) fun key=>?_)
 ·intro i hn lo hS hi
  refine rg ?_
  refine Zi (YC rfl trivial (fun h1=>?_) (fun h1=>?_))
  ·simp at h1
   rw[ZaK h1,Kc]at hS
   generalize hv:l.getD i dE=v at *
   refine rx (nd2 @eQ1 (nd2 @inC.eq_1 @hv)) ?_
   refine aa ?_
   refine rg ?_
   refine Ye rfl rfl rfl rfl rfl (by trivial) (by trivial) (by exact YP hx (dC (lo≤v)&&dC (v≤high)) 7) ?_ ?_
   ·rintro d S h
    obtain⟨hok,rfl,rfl⟩:=Kv h
    rw[hok,Zyy]at hS
    refine Za ?_
    simp only[Eqs,reduceCtorEq,reduceIte,Zye]
    refine rg ?_
    refine rg ?_
    refine aa ?_
    refine Zf ?_
    exact ih_key ((l.length)-(i+1)) (by omega) (i+1) rfl v hS (by omega)
   ·rintro d S h
    obtain⟨hok,hfl,rfl⟩:=Ku h
    rw[hok,ZyH]at hS
    exact hF.pan S (Zyi _) (Qi hS hfl)
  ·simp at h1
   obtain rfl:i=l.length:=by omega
   rw[List.drop_length,Kc]at hS
   refine Wr rfl ?_
   exact hF.fin (.tup []) st rfl trivial (Zyj _) (Zyi _) (Zcs hS)
 exact key _ 0 rfl low rfl (by omega)
def Zec(f:Fld):Bool:=dC (1≤f.bits)&&dC (f.bits≤32)&&(!f.little ||(dC (8<f.bits)&&dC (f.bits.tmod 8=0)))
theorem Zhg{x bd bs:Nat}{k:Ck}{st:St}(hx:st x=sO (.cells (k.cells bd bs)))(f:Fld):ZN Zyg YZ.id [.ptr x 0,.agg f.cells] st (QE (Zec f) st):=by
 refine ZM YZ.ok fun F hF=>?_
 refine rx @eQ0 ?_
 refine rx @eQ0 ?_
 have ht1:=Int.tmod_lt_of_pos f.bits (by decide:(0:Int)<8)
 have ht2:=Int.lt_tmod_of_pos f.bits (by decide:(0:Int)<8)
 refine⟨fun _=>⟨by decide,by omega,by omega⟩,?_⟩
 refine Ye rfl rfl rfl rfl rfl (by trivial) (by trivial) (by exact YP hx (Zec f) 6) ?_ ?_
 ·rintro d S h
  obtain⟨hok,rfl,rfl⟩:=Kv h
  refine Za ?_
  simp only[Eqs]
  exact hF.fin (.tup []) S rfl trivial (Zyj _) (Zyi _) (Zcs hok)
 ·rintro d S h
  obtain⟨hok,hfl,rfl⟩:=Ku h
  exact hF.pan S (Zyi _) (Qi hok hfl)
abbrev Zaj(fs:List Fld):Zhq:=ZaA fs fs.length
abbrev ivP(fs:List Fld)(s:Qr):Int×Int×Int:=WU s fun k=>ZQ k (Zaj fs)
def Zdy(fs:List Fld)(t:YN):Bool:=(ZQ t.field (Zaj fs)).isSome
def ZfX(fs:List Fld)(s:Qr):Bool:=Wm s&&(s.terms.all (Zdy fs)&&(dC ((ivP fs s).2.2=0)&&dC (0≤(ivP fs s).1)&&dC ((ivP fs s).2.1≤1048576)))
theorem ZdJ{x bd bs:Nat}{k:Ck}{st:St}(hx:st x=sO (.cells (k.cells bd bs))){n:Nat}(hn:k.field=n)(hl:n≤k.m.fields.length)(f:Fld):
  ZN Zyg Zp.id [.ptr x 0,.agg f.cells] st (QE (ZfX (k.m.fields.take n) f.size) st):=by
 refine ZM Zp.ok fun F hF=>?_
 have hS:=ZfX.eq_1 (k.m.fields.take n) f.size
 generalize hfs:k.m.fields.take n=fs at *
 refine rx @eQ0 ?_
 refine rx @eQ0 ?_
 have hsz:D.agg [D.int IntKind.i64 f.size.base,Qk f.size.terms]=.agg f.size.cells:=rfl
 simp only[hsz]
 refine clD (ZeV f.size) ?_
 refine ZbW rfl rfl rfl rfl rfl (by trivial) (by trivial) (by exact YP hx (Wm f.size) 9) ?_ ?_
 ·rintro d S h
  obtain⟨hv,rfl,rfl⟩:=Kv h
  rw[hv,Zyy]at hS
  first|refine⟨by first|trivial|exact⟨rfl,rfl,trivial⟩|exact⟨rfl,trivial⟩,?_⟩|skip
  refine Y6 ?_
  simp only[Eqs,reduceIte,Zye]
  refine rg ?_
  refine JN rfl rfl rfl rfl rfl (by trivial) (by trivial) (by exact Zaq hx hn hl) (Za ?_)
  simp only[Eqs,hfs]
  refine Ye rfl rfl rfl rfl rfl (by trivial) (by trivial) (by exact Zc4 fs S) ?_ ?_
  ·rintro d S' ⟨b,hb,hd,rfl⟩
   cases hd
   refine Za ?_
   simp only[Eqs,reduceIte,Zye,Zyq]
   refine Zi (Zi ?_)
   refine Z1 2 rfl fun z2 h2=>?_
   simp only[reduceIte,Zye,Yd,Yz,delL]
   refine Z1 4 rfl fun z4 h4=>?_
   simp only[reduceIte,Zye,Yd,Yz,delL]
   have k2:=Ya h2
   have k4:=Ya h4
   have k4a:=Ya k4.2
   have hxb:x≠b:=fun e=>by rw[e,hb]at hx;simp at hx
   have hx2:x≠z2:=fun e=>by rw[e,k2.2]at hx;simp at hx
   have hx4:x≠z4:=fun e=>by rw[e,k4a.2]at hx;simp at hx
   obtain⟨A,hA⟩:∃A,A=((S.upd b (.map (Zby (ZaA fs fs.length)))).upd z2 (.cells [.ptr x 0])).upd z4 (.cells [.map b]):=⟨_,rfl⟩
   have gx:A x=sO (.cells (k.cells bd bs)):=by rw[hA,Zyn _ _ hx4,Zyn _ _ hx2,Zyn _ _ hxb];exact hx
   have gb:A b=sO (.map (Zby (Zaj fs))):=by rw[hA,Zyn _ _ k4a.1.symm,Zyn _ _ k2.1.symm];exact Zyo _ _ _
   have g2:A z2=sO (.cells [.ptr x 0]):=by rw[hA,Zyn _ _ k4.1.symm];exact Zyo _ _ _
   have g4:A z4=sO (.cells [.map b]):=by rw[hA];exact Zyo _ _ _
   have hSA:S.sub A:=by rw[hA];exact ZyT (ZyJ _ hb) (ZyT (ZyJ _ h2) (ZyJ _ h4))
   rw[←hA]
   clear hA h2 h4 k2 k4 k4a
   refine rx @eQ0 ?_
   simp only[hsz]
   have hfew:=ZcX hv
   refine Ye rfl rfl rfl rfl rfl (by trivial) (by trivial) (by exact Ziu f.size hv _) ?_ ?_
   ·rintro d S' ⟨y,hy,hd,rfl⟩
    cases hd
    refine Za ?_
    simp only[Eqs,reduceIte,Zye]
    refine Zh ?_
    refine Zdi hF rfl trivial [2,4] (by show([2,4]:List Nat).Nodup;decide) (ZbC hy) (Zgl f.size.terms (by unfold big;omega) y) (fun j hj=>rfl)
     (fun j=>if Zdy fs (f.size.terms.getD j dE) then .next else .pan (ZhH k.at_ k.field 8)) (fun j a=>a=A) rfl ?_ ?_ ?_ ?_ ?_ ?_
    ·intro j a hj hno hB F' ready busy hdr hbeg hend
     subst hB
     simp only[Eqs,reduceIte,Zye,Ja,JC,Zbs,JK,List.isEmpty_nil]
     refine rg ?_
     refine hbeg fun hdb=>?_
     generalize htm:f.size.terms.getD j dE=tm at *
     have e1:=QG (vD:=QJ) Wa tm.field (Zaj fs)
     have e3:=Jl Wa tm.field
     simp only[show Zar tm.field=D.str tm.field from rfl]at e1 e3
     refine Zh (Zi (Ys (Za ?_)))
     simp only[Eqs,reduceIte,Zye,ZyB,Zyq,Zp.r5,ZU g4,ZU gb,e1,Zmn]
     refine Ys (Za ?_)
     simp only[Eqs,reduceIte,Zye,Zp.r6,ZU g2]
     refine Ye rfl rfl rfl rfl rfl (by trivial) (by trivial) (by exact Zgi (st:=a.or busy) (ZU gx) (ZQ tm.field (Zaj fs)).isSome 8) ?_ ?_
     ·rintro d S' ⟨rfl,h⟩
      cases hk:(ZQ tm.field (Zaj fs)).isSome with
      |false=>rw[hk]at h;simp at h
      |true =>
       rw[hk]at h
       simp at h
       subst h
       refine Za ?_
       simp only[Eqs,reduceIte,Zye]
       refine ZW ?_
       exact hend.fin ⟨by rw[if_pos (show Zdy fs tm=true from hk)],rfl⟩ hdb (Zyi _)
     ·rintro d S' ⟨rfl,h⟩
      cases hk:(ZQ tm.field (Zaj fs)).isSome with
      |true=>rw[hk]at h;simp at h
      |false =>
       rw[hk]at h
       simp at h
       subst h
       exact hend.pan ⟨by rw[if_neg (by rw[show Zdy fs tm=false from hk];simp)],rfl⟩ hdb (Zyi _)
    ·intro q a hno hB hq
     subst hB
     have hall:f.size.terms.all (Zdy fs)=true:=by
      apply List.all_eq_true.2
      intro t ht
      obtain⟨i,hi,rfl⟩:=ZyC ht
      have:=hno i hi
      split at this
      ·rename_i h;simpa[Zyx,hi]using h
      ·simp at this
     rw[hall,Zyy]at hS
     rw[Zbg hq]
     refine ZW (Zi (Ys (Za ?_)))
     simp only[Eqs,reduceIte,Zye,ZyB,Zyq,Zp.r7,ZU g4]
     simp only[hsz]
     refine Ye rfl rfl rfl rfl rfl (by trivial) (by trivial) (by exact ZfW f.size b (Zaj fs) _ (ZU gb)) ?_ ?_
     ·rintro d S' ⟨hd,rfl⟩
      cases hd
      refine Za ?_
      simp only[Eqs,reduceIte,Zye,ZyB,Zyq,QJ]
      refine Ys (Za ?_)
      simp only[Eqs,reduceIte,Zye,Zp.r8,ZU g2]
      refine Ye rfl rfl rfl rfl rfl (by trivial) (by trivial) (by exact YP (st:=a.or (ZyG q .dfr)) (ZU gx) (dC ((ivP fs f.size).2.2=0)&&dC (0≤(ivP fs f.size).1)&&dC ((ivP fs f.size).2.1≤1048576)) 9) ?_ ?_
      ·rintro d S' h
       obtain⟨hok,rfl,rfl⟩:=Kv h
       rw[hok]at hS
       refine Za ?_
       simp only[Eqs]
       exact hF.fin1 hq (.tup []) S rfl trivial (Zyj _) hSA (Zcs hS)
      ·rintro d S' h
       obtain⟨hok,hfl,rfl⟩:=Ku h
       rw[hok]at hS
       exact hF.pan1 hq S hSA (Qi hS hfl)
     ·rintro d S' ⟨hd,_⟩
      cases hd
    ·intro q a m hm hno hgo
     split at hgo<;>simp at hgo
    ·intro q a m id hm hno hgo
     split at hgo<;>simp at hgo
    ·intro q a m d hm hno hgo hB hq
     subst hB
     rw[Zbg hq]
     have hbad:Zdy fs (f.size.terms.getD m dE)=false:=by
      split at hgo
      ·simp at hgo
      ·rename_i h;simpa using h
     have hall:f.size.terms.all (Zdy fs)=false:=by
      apply List.all_eq_false.2
      exact⟨_,W4 hm,by rw[hbad];simp⟩
     rw[hall,ZyH]at hS
     split at hgo
     ·simp at hgo
     ·simp at hgo
      subst hgo
      exact hF.pan1 hq S hSA (Qi hS (Zp2 _ _ _))
    ·intro m c hgo
     split at hgo<;>simp at hgo
   ·rintro d S' ⟨y,hy,hd,_⟩
    cases hd
  ·rintro d S' ⟨b,hb,hd,_⟩
   cases hd
 ·rintro d S h
  obtain⟨hv,hfl,rfl⟩:=Ku h
  rw[hv,ZyH]at hS
  exact hF.pan S (Zyi _) (Qi hS hfl)
def Zdr(dl:List (Str×Int))(high:Int):Int→List QB→Bool
 |_,[]=>true
 |low,c::r=>Kc low high [c.low,c.high]&&((ZQ c.of dl).isSome&&Zdr dl high (c.high+1) r)
def Zf2(fs:List Fld)(f:Fld):Bool:=fs.any fun o=>dC (o.kind=9)&&dC (o.tag=f.tag)
def ZiL(fs:List Fld)(dl:List (Str×Int))(f:Fld):Bool :=
 ((ZQ f.tag (Zaj fs)).isSome&&!Zf2 fs f)&&((dC (1≤(f.cases.length:Int))&&dC ((f.cases.length:Int)≤40))&&Zdr dl ((ZQ f.tag (Zaj fs)).getD (0,0)).2 ((ZQ f.tag (Zaj fs)).getD (0,0)).1 f.cases)
theorem Zkl(o:Fld)(f:Fld)(y:Nat)(st:St)(hy:st y=sO (.cells f.cells)):Wi Zyg Yx.id [.agg o.cells,.ptr y 0] st (.bool (dC (o.kind=9)&&dC (o.tag=f.tag))) st:=by
 refine Wb Yx.ok fun hwf F hret=>?_
 clear hwf
 refine rx @eQ0 ?_
 refine rx (nd2 @hy @eQ0) ?_
 exact hret rfl (by trivial) (Zyj _) (Zyi _)
theorem ZuR(a b:Int):We inC (Wd [.int .i64 0] ([0,1].zip [.int .i64 a,.int .i64 b])) [a,b]:=fun i hi=>by
 match i,hi with
 |0,_=>rfl
 |1,_=>rfl
theorem Zd5{x bd bs:Nat}{k:Ck}{st:St}(hx:st x=sO (.cells (k.cells bd bs)))(low high a b:Int):ZN Zyg ZG.id [.ptr x 0,.int .i64 low,.int .i64 high,.sl .full 2 1 (Wd [.int .i64 0] ([0,1].zip [.int .i64 a,.int .i64 b]))] st (QE (Kc low high [a,b]) st) :=
 ZN.leA (.cons (Zyj _) (.cons (Zyj _) (.cons (Zyj _) (LeC.one ((ZuR a b).le rfl))))) (ZfT hx low high [a,b])
theorem Zam{x bd bs:Nat}{k:Ck}{st:St}(hx:st x=sO (.cells (k.cells bd bs)))(low high a:Int):ZN Zyg ZG.id [.ptr x 0,.int .i64 low,.int .i64 high,.sl .full 1 1 (Wd [.int .i64 0] ([0].zip [.int .i64 a]))] st (QE (Kc low high [a]) st) :=
 ZN.leA (.cons (Zyj _) (.cons (Zyj _) (.cons (Zyj _) (LeC.one ((We.one (f:=inC) (x:=a) rfl).le rfl))))) (ZfT hx low high [a])
theorem ZmI{x bd bs:Nat}{k:Ck}{dl:List (Str×Int)}{sl:List (Str×Bool)}{st:St}(hst:J8 st x bd bs k dl sl){n:Nat}(hn:k.field=n)(hl:n≤k.m.fields.length)(f:Fld)(hR:((ZQ f.tag (Zaj (k.m.fields.take n))).getD (0,0)).2<4611686018427387904):
  ZN Zyg Zj.id [.ptr x 0,.agg f.cells] st (QE (ZiL (k.m.fields.take n) dl f) st):=by
 refine Zcw Zj.ok fun hwf F hF=>?_
 have hcw:=(Zxm (s:=f) (hwf _ (by simp))).cases
 clear hwf
 have hx:=hst.x
 have hS:=ZiL.eq_1 (k.m.fields.take n) dl f
 generalize hfs:k.m.fields.take n=fs at *
 have e1:=QG (vD:=QJ) Wa f.tag (Zaj fs)
 have e3:=Jl Wa f.tag
 simp only[show Zar f.tag=D.str f.tag from rfl]at e1 e3
 refine rx @eQ0 ?_
 refine rx @eQ0 ?_
 refine Zc5 rfl rfl rfl rfl rfl (by trivial) (by trivial) (by exact Zaq hx hn hl) (by first|trivial|exact⟨rfl,trivial⟩|simp[KB,JA]) (Y6 ?_)
 simp only[Eqs,reduceIte,hfs]
 refine ZbW rfl rfl rfl rfl rfl (by trivial) (by trivial) (by exact Zc4 fs st) ?_ ?_
 ·rintro d S ⟨b,hb,hd,rfl⟩
  cases hd
  first|refine⟨by first|trivial|exact⟨rfl,rfl,trivial⟩|exact⟨rfl,trivial⟩,?_⟩|skip
  have hxb:x≠b:=fun e=>by rw[e,hb]at hx;simp at hx
  generalize hr:(ZQ f.tag (Zaj fs)).getD (0,0)=r at *
  refine Y6 ?_
  simp only[Eqs,reduceCtorEq,reduceIte,Zye,ZyB,Zyq,e1,Zmn,hr,Zyo]
  refine Zi ?_
  refine Z1 3 rfl fun y hy=>?_
  simp only[reduceIte,Zye,Yd,Yz,delL]
  obtain⟨A,hA⟩:∃A,A=((st.upd b (.map (Zby (ZaA fs fs.length)))).upd y (.cells f.cells)):=⟨_,rfl⟩
  have hSA:st.sub A:=by rw[hA];exact ZyT (ZyJ _ hb) (ZyJ _ hy)
  have gy:A y=sO (.cells f.cells):=by rw[hA];exact Zyo _ _ _
  have hsA:=hst.mono hSA
  have hfc:[D.str f.name,D.int IntKind.i64 f.kind,D.int IntKind.i64 f.bits,D.bool f.little,D.bool f.loose,D.int IntKind.i64 f.low,D.int IntKind.i64 f.high,D.int IntKind.i64 f.size.base,Qk f.size.terms,D.str f.of,D.str f.tag,D.str f.from_,K3 f.cases,D.int IntKind.i64 f.check,D.int IntKind.i64 f.key]=f.cells:=rfl
  rw[hfc,←hA]
  clear hA hy
  refine rg ?_
  refine JN rfl rfl rfl rfl rfl (by trivial) (by trivial) (by exact Zaq hsA.x hn hl) (Za ?_)
  simp only[Eqs,reduceCtorEq,reduceIte,Zye,hfs]
  refine JN rfl rfl rfl rfl rfl (by trivial) (by trivial) (by exact Zd6 fs (.fn (.func Yx.id) [] [.ptr y 0]) (fun o=>dC (o.kind=9)&&dC (o.tag=f.tag)) (fun _=>A) (fun i hi=>(Zkl _ f y A gy).VT (first:=[]) (args:=[_]) (caps:=[_]))) (Za ?_)
  simp only[Eqs,reduceCtorEq,reduceIte,Zye]
  rw[show(fs.any fun o=>dC (o.kind=9)&&dC (o.tag=f.tag))=Zf2 fs f from rfl]
  refine rg ?_
  refine Ye rfl rfl rfl rfl rfl (by trivial) (by trivial) (by exact YP hsA.x ((ZQ f.tag (Zaj fs)).isSome&&!Zf2 fs f) 8) ?_ ?_
  ·rintro d S h
   obtain⟨hok,rfl,rfl⟩:=Kv h
   rw[hok,Zyy]at hS
   refine Za ?_
   simp only[Eqs,reduceCtorEq,reduceIte,Zye]
   refine rx (nd2 @gy (nd2 @eQ0 (nd2 @K3.eq_1 @eQ1))) ?_
   refine Ye rfl rfl rfl rfl rfl (by trivial) (by trivial) (by exact YP hsA.x (dC (1≤(f.cases.length:Int))&&dC ((f.cases.length:Int)≤40)) 3) ?_ ?_
   ·rintro d S2 h
    obtain⟨hok,rfl,rfl⟩:=Kv h
    rw[hok,Zyy]at hS
    simp only[Zyk,decide_eq_true_eq]at hok
    refine Za ?_
    simp only[Eqs,reduceCtorEq,reduceIte,Zye]
    refine rg ?_
    refine rx (nd2 @gy (nd2 @eQ0 (nd2 @K3.eq_1 @eQ1))) ?_
    refine Zh (fr (f.cases.length) (fun i Q=>∀lo,Zdr dl r.2 r.1 f.cases=Zdr dl r.2 lo (f.cases.drop i)→i≤f.cases.length→Q [(0,.d (.ptr x 0)),(4,.loc 4 0),(7,.d (.int .i64 lo)),(45,.d (K3 f.cases)),(46,.d (.int .i64 f.cases.length)),(47,.d (.int .i64 i))] [(4,[.int .i64 r.1,.int .i64 r.2])] S2) (fun n ih_key=>?_) fun key=>?_)
    ·intro i hni lo hL hi
     refine rg ?_
     refine Zi (YC rfl trivial (fun h1=>?_) (fun h1=>?_))
     ·simp at h1
      rw[ZaK h1,Zdr]at hL
      have hcb:-9223372036854775808≤(f.cases.getD i dE).high∧(f.cases.getD i dE).high≤9223372036854775807:=(hcw _ (W4 h1)).high
      generalize hc:f.cases.getD i dE=c at *
      refine rx (nd2 @K3.eq_1 (nd2 @eQ1 (nd2 @eQ9 @hc))) ?_
      refine aa ?_
      refine rx @eQ9 ?_
      refine Ye rfl rfl rfl rfl rfl (by trivial) (by trivial) (by exact Zd5 hsA.x lo r.2 c.low c.high) ?_ ?_
      ·rintro d S3 h
       obtain⟨hok2,rfl,rfl⟩:=Kv h
       rw[hok2,Zyy]at hL
       simp only[Kc,Bool.and_true,Zyk,decide_eq_true_eq]at hok2
       refine Za ?_
       simp only[Eqs,reduceCtorEq,reduceIte,Zye]
       refine rx @eQ9 ?_
       refine Ye rfl rfl rfl rfl rfl (by trivial) (by trivial) (by exact ZdI hsA c.of) ?_ ?_
       ·rintro d S4 h
        obtain⟨hok3,rfl,rfl⟩:=Kv h
        rw[hok3,Zyy]at hL
        refine Za ?_
        simp only[Eqs,reduceCtorEq,reduceIte,Zye]
        refine rx @eQ9 ?_
        refine aa ?_
        refine rg ?_
        refine aa ?_
        refine Zf ?_
        exact ih_key ((f.cases.length)-(i+1)) (by omega) (i+1) rfl (c.high+1) hL (by omega)
       ·rintro d S4 h
        obtain⟨hok3,hfl,rfl⟩:=Ku h
        rw[hok3,ZyH]at hL
        exact hF.pan st hSA (Qi (hS.trans hL) hfl)
      ·rintro d S3 h
       obtain⟨hok2,hfl,rfl⟩:=Ku h
       rw[hok2,ZyH]at hL
       exact hF.pan st hSA (Qi (hS.trans hL) hfl)
     ·simp at h1
      obtain rfl:i=f.cases.length:=by omega
      rw[List.drop_length,Zdr]at hL
      refine Wr rfl ?_
      exact hF.fin (.tup []) st rfl trivial (Zyj _) hSA (Zcs (hS.trans hL))
    exact key _ 0 rfl r.1 rfl (by omega)
   ·rintro d S2 h
    obtain⟨hok,hfl,rfl⟩:=Ku h
    rw[hok,ZyH]at hS
    exact hF.pan st hSA (Qi hS hfl)
  ·rintro d S h
   obtain⟨hok,hfl,rfl⟩:=Ku h
   rw[hok,ZyH]at hS
   exact hF.pan st hSA (Qi hS hfl)
 ·rintro d S ⟨b,hb,hd,_⟩
  cases hd
def ZpD(f:Fld):Fld:={ f with bits:=0,little:=false,low:=0,high:=0 }
theorem Zkn(f:Fld)(y:Nat)(s:St)(hy:s y=sO (.cells f.cells)):Wi Zyg Ki.id [.ptr y 0] s (.tup []) (s.upd y (.cells (ZpD f).cells)):=by
 refine ZM Ki.ok fun F hF=>?_
 refine rx (nd2 @hy (nd2 @eQ0 (nd2 @Zyo (nd2 @Zyz (nd2 @KZ @K0))))) ?_
 exact hF.fin (.tup []) _ rfl trivial (Zyj _) (Zyi _) ⟨rfl,rfl⟩
def ZpE(f:Fld):Fld:={ f with bits:=0,little:=false,low:=0 }
theorem Zkp(f:Fld)(y:Nat)(s:St)(hy:s y=sO (.cells f.cells)):Wi Zyg Kj.id [.ptr y 0] s (.tup []) (s.upd y (.cells (ZpE f).cells)):=by
 refine ZM Kj.ok fun F hF=>?_
 refine rx (nd2 @hy (nd2 @eQ0 (nd2 @Zyo (nd2 @Zyz (nd2 @KZ @K0))))) ?_
 exact hF.fin (.tup []) _ rfl trivial (Zyj _) (Zyi _) ⟨rfl,rfl⟩
def ZpF(f:Fld):Fld:={ f with loose:=false,low:=0,high:=0 }
theorem Zkr(f:Fld)(y:Nat)(s:St)(hy:s y=sO (.cells f.cells)):Wi Zyg Kk.id [.ptr y 0] s (.tup []) (s.upd y (.cells (ZpF f).cells)):=by
 refine ZM Kk.ok fun F hF=>?_
 refine rx (nd2 @hy (nd2 @eQ0 (nd2 @Zyo (nd2 @Zyz (nd2 @KZ @K0))))) ?_
 exact hF.fin (.tup []) _ rfl trivial (Zyj _) (Zyi _) ⟨rfl,rfl⟩
def ZlT(f:Fld):Fld:={ f with size:=⟨0,[]⟩ }
theorem Zkt(f:Fld)(y:Nat)(s:St)(hy:s y=sO (.cells f.cells)):Wi Zyg Kl.id [.ptr y 0] s (.tup []) (s.upd y (.cells (ZlT f).cells)):=by
 refine ZM Kl.ok fun F hF=>?_
 refine rx (nd2 @hy (nd2 @eQ0 (nd2 @Zyo (nd2 @Zyz (nd2 @KZ @K0))))) ?_
 refine ZbB (ds':=(ZlT f).cells) (Zyo _ _ _) (.cons (Zyj _) (.cons (Zyj _) (.cons (Zyj _) (.cons (Zyj _) (.cons (Zyj _) (.cons (Zyj _) (.cons (Zyj _) (.cons (Zyj _) (.cons (JL (by simp)) (.cons (Zyj _) (.cons (Zyj _) (.cons (Zyj _) (.cons (Zyj _) (.cons (Zyj _) (.cons (Zyj _) (.nil)))))))))))))))) ?_
 rw[Zyz]
 exact hF.fin (.tup []) _ rfl trivial (Zyj _) (Zyi _) ⟨rfl,rfl⟩
def ZpG(f:Fld):Fld:={ f with low:=0,high:=0 }
theorem Zku(f:Fld)(y:Nat)(s:St)(hy:s y=sO (.cells f.cells)):Wi Zyg Km.id [.ptr y 0] s (.tup []) (s.upd y (.cells (ZpG f).cells)):=by
 refine ZM Km.ok fun F hF=>?_
 refine rx (nd2 @hy (nd2 @eQ0 (nd2 @Zyo (nd2 @Zyz (nd2 @KZ @K0))))) ?_
 exact hF.fin (.tup []) _ rfl trivial (Zyj _) (Zyi _) ⟨rfl,rfl⟩
def ZpH(f:Fld):Fld:={ f with loose:=false,high:=0 }
theorem Zjl(f:Fld)(y:Nat)(s:St)(hy:s y=sO (.cells f.cells)):Wi Zyg WW.id [.ptr y 0] s (.tup []) (s.upd y (.cells (ZpH f).cells)):=by
 refine ZM WW.ok fun F hF=>?_
 refine rx (nd2 @hy (nd2 @eQ0 (nd2 @Zyo (nd2 @Zyz (nd2 @KZ @K0))))) ?_
 exact hF.fin (.tup []) _ rfl trivial (Zyj _) (Zyi _) ⟨rfl,rfl⟩
def ZlU(f:Fld):Fld:={ f with of:=[],size:=⟨0,[]⟩ }
theorem Zjn(f:Fld)(y:Nat)(s:St)(hy:s y=sO (.cells f.cells)):Wi Zyg WX.id [.ptr y 0] s (.tup []) (s.upd y (.cells (ZlU f).cells)):=by
 refine ZM WX.ok fun F hF=>?_
 refine rx (nd2 @hy (nd2 @eQ0 (nd2 @Zyo (nd2 @Zyz (nd2 @KZ @K0))))) ?_
 refine ZbB (ds':=(ZlU f).cells) (Zyo _ _ _) (.cons (Zyj _) (.cons (Zyj _) (.cons (Zyj _) (.cons (Zyj _) (.cons (Zyj _) (.cons (Zyj _) (.cons (Zyj _) (.cons (Zyj _) (.cons (JL (by simp)) (.cons (Zyj _) (.cons (Zyj _) (.cons (Zyj _) (.cons (Zyj _) (.cons (Zyj _) (.cons (Zyj _) (.nil)))))))))))))))) ?_
 rw[Zyz]
 exact hF.fin (.tup []) _ rfl trivial (Zyj _) (Zyi _) ⟨rfl,rfl⟩
def ZpI(f:Fld):Fld:={ f with of:=[] }
theorem Zjp(f:Fld)(y:Nat)(s:St)(hy:s y=sO (.cells f.cells)):Wi Zyg WY.id [.ptr y 0] s (.tup []) (s.upd y (.cells (ZpI f).cells)):=by
 refine ZM WY.ok fun F hF=>?_
 refine rx (nd2 @hy (nd2 @eQ0 (nd2 @Zyo (nd2 @Zyz (nd2 @KZ @K0))))) ?_
 exact hF.fin (.tup []) _ rfl trivial (Zyj _) (Zyi _) ⟨rfl,rfl⟩
def ZlV(f:Fld):Fld:={ f with tag:=[],cases:=[] }
theorem Zjr(f:Fld)(y:Nat)(s:St)(hy:s y=sO (.cells f.cells)):Wi Zyg WZ.id [.ptr y 0] s (.tup []) (s.upd y (.cells (ZlV f).cells)):=by
 refine ZM WZ.ok fun F hF=>?_
 refine rx (nd2 @hy (nd2 @eQ0 (nd2 @Zyo (nd2 @Zyz (nd2 @KZ @K0))))) ?_
 refine ZbB (ds':=(ZlV f).cells) (Zyo _ _ _) (.cons (Zyj _) (.cons (Zyj _) (.cons (Zyj _) (.cons (Zyj _) (.cons (Zyj _) (.cons (Zyj _) (.cons (Zyj _) (.cons (Zyj _) (.cons (Zyj _) (.cons (Zyj _) (.cons (Zyj _) (.cons (Zyj _) (.cons (JL (by simp)) (.cons (Zyj _) (.cons (Zyj _) (.nil)))))))))))))))) ?_
 rw[Zyz]
 exact hF.fin (.tup []) _ rfl trivial (Zyj _) (Zyi _) ⟨rfl,rfl⟩
def Zm9(f:Fld):Fld:={ f with bits:=0 }
theorem Zjs(f:Fld)(y:Nat)(s:St)(hy:s y=sO (.cells f.cells)):Wi Zyg W0.id [.ptr y 0] s (.tup []) (s.upd y (.cells (Zm9 f).cells)):=by
 refine ZM W0.ok fun F hF=>?_
 refine rx (nd2 @hy (nd2 @eQ0 (nd2 @Zyo (nd2 @Zyz (nd2 @KZ @K0))))) ?_
 exact hF.fin (.tup []) _ rfl trivial (Zyj _) (Zyi _) ⟨rfl,rfl⟩
def Zna(f:Fld):Fld:={ f with from_:=[],check:=0 }
theorem Zju(f:Fld)(y:Nat)(s:St)(hy:s y=sO (.cells f.cells)):Wi Zyg W1.id [.ptr y 0] s (.tup []) (s.upd y (.cells (Zna f).cells)):=by
 refine ZM W1.ok fun F hF=>?_
 refine rx (nd2 @hy (nd2 @eQ0 (nd2 @Zyo (nd2 @Zyz (nd2 @KZ @K0))))) ?_
 exact hF.fin (.tup []) _ rfl trivial (Zyj _) (Zyi _) ⟨rfl,rfl⟩
def ZjZ(f:Fld):Fld:={ f with of:=[],size:=⟨0,[]⟩,key:=0 }
theorem Zjw(f:Fld)(y:Nat)(s:St)(hy:s y=sO (.cells f.cells)):Wi Zyg W2.id [.ptr y 0] s (.tup []) (s.upd y (.cells (ZjZ f).cells)):=by
 refine ZM W2.ok fun F hF=>?_
 refine rx (nd2 @hy (nd2 @eQ0 (nd2 @Zyo (nd2 @Zyz (nd2 @KZ @K0))))) ?_
 refine ZbB (ds':=(ZjZ f).cells) (Zyo _ _ _) (.cons (Zyj _) (.cons (Zyj _) (.cons (Zyj _) (.cons (Zyj _) (.cons (Zyj _) (.cons (Zyj _) (.cons (Zyj _) (.cons (Zyj _) (.cons (JL (by simp)) (.cons (Zyj _) (.cons (Zyj _) (.cons (Zyj _) (.cons (Zyj _) (.cons (Zyj _) (.cons (Zyj _) (.nil)))))))))))))))) ?_
 rw[Zyz]
 exact hF.fin (.tup []) _ rfl trivial (Zyj _) (Zyi _) ⟨rfl,rfl⟩
def ck1(f:Fld):Bool:=Zec f&&Kc 0 (2 ^ f.bits.toNat-1) [f.low,f.high]
def ck2(f:Fld):Bool:=Zec f&&Kc 0 (2 ^ f.bits.toNat-1) [f.low]
def ck3(f:Fld):Bool:=Kc 0 34359738367 [f.low,f.high]
def ck5(f:Fld):Bool:=Kc 0 255 [f.low]&&Kc 0 1048576 [f.high]
def ck6(f:Fld):Bool:=Kc 2 1048576 [f.high]
def ck7(fs:List Fld)(dl:List (Str×Int))(f:Fld):Bool:=(ZQ f.of dl).isSome&&ZfX fs f.size
def ck8(dl:List (Str×Int))(f:Fld):Bool:=(ZQ f.of dl).isSome
def Zsr(f:Fld):Bool:=dC (f.bits=2) ||decide (f.bits=4) ||(dC (8≤f.bits)&&dC (f.bits≤512)&&dC (f.bits.tmod 8=0))
def Zss(fs:List Fld)(f:Fld):Bool:=Kc 1 3 [f.check]&&dC (0≤ZB (fun x=>dC (x.name=f.from_)) fs)
def Zst(fs:List Fld)(sl:List (Str×Bool))(f:Fld):Bool:=Kc 0 4294967295 [f.key]&&((ZQ f.of sl).getD false&&ZfX fs f.size)
theorem Zex(f:Fld):D.agg [D.str f.name,D.int IntKind.i64 f.kind,D.int IntKind.i64 f.bits,D.bool f.little,D.bool f.loose,D.int IntKind.i64 f.low,D.int IntKind.i64 f.high,D.int IntKind.i64 f.size.base,Qk f.size.terms,D.str f.of,D.str f.tag,D.str f.from_,K3 f.cases,D.int IntKind.i64 f.check,D.int IntKind.i64 f.key]=.agg f.cells:=rfl
theorem Zko{x bd bs:Nat}{k:Ck}{dl:List (Str×Int)}{sl:List (Str×Bool)}{st:St}(hst:J8 st x bd bs k dl sl){n:Nat}(hn:k.field=n)(hl:n≤k.m.fields.length)(f:Fld):
  ZN Zyg WA.id [.ptr x 0,.agg f.cells] st (QE (ck1 f) st):=by
 refine ZM WA.ok fun F hF=>?_
 have hS:=ck1.eq_1 f
 refine rx @eQ0 ?_
 refine rx @eQ0 ?_
 simp only[Zex]
 refine Ye rfl rfl rfl rfl rfl (by trivial) (by trivial) (by exact Zhg hst.x f) ?_ ?_
 ·rintro d S h
  obtain⟨hok,rfl,rfl⟩:=Kv h
  rw[hok,Zyy]at hS
  first|refine⟨by first|trivial|exact⟨rfl,trivial⟩,?_⟩|skip
  refine Za ?_
  simp only[Eqs,reduceCtorEq,reduceIte,Zye]
  have hb1:1≤f.bits∧f.bits≤32:=by
   unfold Zec at hok
   simp only[Zyk,decide_eq_true_eq]at hok
   exact hok.1
  have hsh:=ZvT (b:=f.bits) (by omega) (by omega)
  have h2p:=Zdg (b:=f.bits) (by omega) (by omega)
  refine rx @eQ0 ?_
  rw[hsh]
  generalize hpw:(2:Int) ^ f.bits.toNat=pw at *
  refine⟨by omega,by omega,by omega,by omega,by omega,?_⟩
  refine ZiC rfl rfl rfl rfl rfl (by trivial) (by trivial) (by exact Zd5 hst.x 0 (pw-1) f.low f.high) ?_ ?_
  ·rintro d S h
   obtain⟨hok,rfl,rfl⟩:=Kv h
   rw[hok]at hS
   refine Ql ?_
   simp only[Eqs]
   exact hF.fin (.tup []) _ rfl trivial (Zyj _) (Zyi _) (Zcs hS)
  ·rintro d S h
   obtain⟨hok,hfl,rfl⟩:=Ku h
   rw[hok]at hS
   exact hF.pan _ (Zyi _) (Qi hS hfl)
 ·rintro d S h
  obtain⟨hok,hfl,rfl⟩:=Ku h
  rw[hok,ZyH]at hS
  exact hF.pan _ (Zyi _) (Qi hS hfl)
theorem Zkq{x bd bs:Nat}{k:Ck}{dl:List (Str×Int)}{sl:List (Str×Bool)}{st:St}(hst:J8 st x bd bs k dl sl){n:Nat}(hn:k.field=n)(hl:n≤k.m.fields.length)(f:Fld):
  ZN Zyg WB.id [.ptr x 0,.agg f.cells] st (QE (ck2 f) st):=by
 refine ZM WB.ok fun F hF=>?_
 have hS:=ck2.eq_1 f
 refine rx @eQ0 ?_
 refine rx @eQ0 ?_
 simp only[Zex]
 refine Ye rfl rfl rfl rfl rfl (by trivial) (by trivial) (by exact Zhg hst.x f) ?_ ?_
 ·rintro d S h
  obtain⟨hok,rfl,rfl⟩:=Kv h
  rw[hok,Zyy]at hS
  first|refine⟨by first|trivial|exact⟨rfl,trivial⟩,?_⟩|skip
  refine Za ?_
  simp only[Eqs,reduceCtorEq,reduceIte,Zye]
  have hb1:1≤f.bits∧f.bits≤32:=by
   unfold Zec at hok
   simp only[Zyk,decide_eq_true_eq]at hok
   exact hok.1
  have hsh:=ZvT (b:=f.bits) (by omega) (by omega)
  have h2p:=Zdg (b:=f.bits) (by omega) (by omega)
  refine rx @eQ0 ?_
  rw[hsh]
  generalize hpw:(2:Int) ^ f.bits.toNat=pw at *
  refine⟨by omega,by omega,by omega,by omega,by omega,?_⟩
  refine ZiC rfl rfl rfl rfl rfl (by trivial) (by trivial) (by exact Zam hst.x 0 (pw-1) f.low) ?_ ?_
  ·rintro d S h
   obtain⟨hok,rfl,rfl⟩:=Kv h
   rw[hok]at hS
   refine Ql ?_
   simp only[Eqs]
   exact hF.fin (.tup []) _ rfl trivial (Zyj _) (Zyi _) (Zcs hS)
  ·rintro d S h
   obtain⟨hok,hfl,rfl⟩:=Ku h
   rw[hok]at hS
   exact hF.pan _ (Zyi _) (Qi hS hfl)
 ·rintro d S h
  obtain⟨hok,hfl,rfl⟩:=Ku h
  rw[hok,ZyH]at hS
  exact hF.pan _ (Zyi _) (Qi hS hfl)
theorem Zks{x bd bs:Nat}{k:Ck}{dl:List (Str×Int)}{sl:List (Str×Bool)}{st:St}(hst:J8 st x bd bs k dl sl){n:Nat}(hn:k.field=n)(hl:n≤k.m.fields.length)(f:Fld):
  ZN Zyg WL.id [.ptr x 0,.agg f.cells] st (QE (ck3 f) st):=by
 refine ZM WL.ok fun F hF=>?_
 have hS:=ck3.eq_1 f
 refine rx @eQ0 ?_
 refine rx @eQ0 ?_
 refine Ye rfl rfl rfl rfl rfl (by trivial) (by trivial) (by exact Zd5 hst.x 0 34359738367 f.low f.high) ?_ ?_
 ·rintro d S h
  obtain⟨hok,rfl,rfl⟩:=Kv h
  rw[hok]at hS
  refine Za ?_
  simp only[Eqs]
  exact hF.fin (.tup []) _ rfl trivial (Zyj _) (Zyi _) (Zcs hS)
 ·rintro d S h
  obtain⟨hok,hfl,rfl⟩:=Ku h
  rw[hok]at hS
  exact hF.pan _ (Zyi _) (Qi hS hfl)
theorem Zkv{x bd bs:Nat}{k:Ck}{dl:List (Str×Int)}{sl:List (Str×Bool)}{st:St}(hst:J8 st x bd bs k dl sl){n:Nat}(hn:k.field=n)(hl:n≤k.m.fields.length)(f:Fld):
  ZN Zyg Wn.id [.ptr x 0,.agg f.cells] st (QE (ck5 f) st):=by
 refine ZM Wn.ok fun F hF=>?_
 have hS:=ck5.eq_1 f
 refine rx @eQ0 ?_
 refine rx @eQ0 ?_
 refine Ye rfl rfl rfl rfl rfl (by trivial) (by trivial) (by exact Zam hst.x 0 255 f.low) ?_ ?_
 ·rintro d S h
  obtain⟨hok,rfl,rfl⟩:=Kv h
  rw[hok,Zyy]at hS
  first|refine⟨by first|trivial|exact⟨rfl,trivial⟩,?_⟩|skip
  refine Za ?_
  simp only[Eqs,reduceCtorEq,reduceIte,Zye]
  refine rx @eQ0 ?_
  refine Ye rfl rfl rfl rfl rfl (by trivial) (by trivial) (by exact Zam hst.x 0 1048576 f.high) ?_ ?_
  ·rintro d S h
   obtain⟨hok,rfl,rfl⟩:=Kv h
   rw[hok]at hS
   refine Za ?_
   simp only[Eqs]
   exact hF.fin (.tup []) _ rfl trivial (Zyj _) (Zyi _) (Zcs hS)
  ·rintro d S h
   obtain⟨hok,hfl,rfl⟩:=Ku h
   rw[hok]at hS
   exact hF.pan _ (Zyi _) (Qi hS hfl)
 ·rintro d S h
  obtain⟨hok,hfl,rfl⟩:=Ku h
  rw[hok,ZyH]at hS
  exact hF.pan _ (Zyi _) (Qi hS hfl)
theorem Zjm{x bd bs:Nat}{k:Ck}{dl:List (Str×Int)}{sl:List (Str×Bool)}{st:St}(hst:J8 st x bd bs k dl sl){n:Nat}(hn:k.field=n)(hl:n≤k.m.fields.length)(f:Fld):
  ZN Zyg Wu.id [.ptr x 0,.agg f.cells] st (QE (ck6 f) st):=by
 refine ZM Wu.ok fun F hF=>?_
 have hS:=ck6.eq_1 f
 refine rx @eQ0 ?_
 refine rx @eQ0 ?_
 refine Ye rfl rfl rfl rfl rfl (by trivial) (by trivial) (by exact Zam hst.x 2 1048576 f.high) ?_ ?_
 ·rintro d S h
  obtain⟨hok,rfl,rfl⟩:=Kv h
  rw[hok]at hS
  refine Za ?_
  simp only[Eqs]
  exact hF.fin (.tup []) _ rfl trivial (Zyj _) (Zyi _) (Zcs hS)
 ·rintro d S h
  obtain⟨hok,hfl,rfl⟩:=Ku h
  rw[hok]at hS
  exact hF.pan _ (Zyi _) (Qi hS hfl)
theorem Zjo{x bd bs:Nat}{k:Ck}{dl:List (Str×Int)}{sl:List (Str×Bool)}{st:St}(hst:J8 st x bd bs k dl sl){n:Nat}(hn:k.field=n)(hl:n≤k.m.fields.length)(f:Fld):
  ZN Zyg Wc.id [.ptr x 0,.agg f.cells] st (QE (ck7 (k.m.fields.take n) dl f) st):=by
 refine ZM Wc.ok fun F hF=>?_
 have hS:=ck7.eq_1 (k.m.fields.take n) dl f
 refine rx @eQ0 ?_
 refine rx @eQ0 ?_
 refine Ye rfl rfl rfl rfl rfl (by trivial) (by trivial) (by exact ZdI hst f.of) ?_ ?_
 ·rintro d S h
  obtain⟨hok,rfl,rfl⟩:=Kv h
  rw[hok,Zyy]at hS
  first|refine⟨by first|trivial|exact⟨rfl,trivial⟩,?_⟩|skip
  refine Za ?_
  simp only[Eqs,reduceCtorEq,reduceIte,Zye]
  refine rx @eQ0 ?_
  simp only[Zex]
  refine Ye rfl rfl rfl rfl rfl (by trivial) (by trivial) (by exact ZdJ hst.x hn hl f) ?_ ?_
  ·rintro d S h
   obtain⟨hok,rfl,rfl⟩:=Kv h
   rw[hok]at hS
   refine Za ?_
   simp only[Eqs]
   exact hF.fin (.tup []) _ rfl trivial (Zyj _) (Zyi _) (Zcs hS)
  ·rintro d S h
   obtain⟨hok,hfl,rfl⟩:=Ku h
   rw[hok]at hS
   exact hF.pan _ (Zyi _) (Qi hS hfl)
 ·rintro d S h
  obtain⟨hok,hfl,rfl⟩:=Ku h
  rw[hok,ZyH]at hS
  exact hF.pan _ (Zyi _) (Qi hS hfl)
theorem Zjq{x bd bs:Nat}{k:Ck}{dl:List (Str×Int)}{sl:List (Str×Bool)}{st:St}(hst:J8 st x bd bs k dl sl){n:Nat}(hn:k.field=n)(hl:n≤k.m.fields.length)(f:Fld):
  ZN Zyg Wv.id [.ptr x 0,.agg f.cells] st (QE (ck8 dl f) st):=by
 refine ZM Wv.ok fun F hF=>?_
 have hS:=ck8.eq_1 dl f
 refine rx @eQ0 ?_
 refine rx @eQ0 ?_
 refine Ye rfl rfl rfl rfl rfl (by trivial) (by trivial) (by exact ZdI hst f.of) ?_ ?_
 ·rintro d S h
  obtain⟨hok,rfl,rfl⟩:=Kv h
  rw[hok]at hS
  refine Za ?_
  simp only[Eqs]
  exact hF.fin (.tup []) _ rfl trivial (Zyj _) (Zyi _) (Zcs hS)
 ·rintro d S h
  obtain⟨hok,hfl,rfl⟩:=Ku h
  rw[hok]at hS
  exact hF.pan _ (Zyi _) (Qi hS hfl)
theorem Zjt{x bd bs:Nat}{k:Ck}{dl:List (Str×Int)}{sl:List (Str×Bool)}{st:St}(hst:J8 st x bd bs k dl sl){n:Nat}(hn:k.field=n)(hl:n≤k.m.fields.length)(f:Fld):
  ZN Zyg Ww.id [.ptr x 0,.agg f.cells] st (QE (Zsr f) st):=by
 refine ZM Ww.ok fun F hF=>?_
 have hS:=Zsr.eq_1 f
 refine rx @eQ0 ?_
 refine rx @eQ0 ?_
 have ht1:=Int.tmod_lt_of_pos f.bits (by decide:(0:Int)<8)
 have ht2:=Int.lt_tmod_of_pos f.bits (by decide:(0:Int)<8)
 refine⟨fun _=>⟨by decide,by omega,by omega⟩,?_⟩
 refine Ye rfl rfl rfl rfl rfl (by trivial) (by trivial) (by exact YP hst.x (dC (f.bits=2) ||decide (f.bits=4) ||decide (8≤f.bits)&&dC (f.bits≤512)&&dC (f.bits.tmod 8=0)) 6) ?_ ?_
 ·rintro d S h
  obtain⟨hok,rfl,rfl⟩:=Kv h
  rw[hok]at hS
  refine Za ?_
  simp only[Eqs]
  exact hF.fin (.tup []) _ rfl trivial (Zyj _) (Zyi _) (Zcs hS)
 ·rintro d S h
  obtain⟨hok,hfl,rfl⟩:=Ku h
  rw[hok]at hS
  exact hF.pan _ (Zyi _) (Qi hS hfl)
theorem Zjv{x bd bs:Nat}{k:Ck}{dl:List (Str×Int)}{sl:List (Str×Bool)}{st:St}(hst:J8 st x bd bs k dl sl){n:Nat}(hn:k.field=n)(hl:n≤k.m.fields.length)(f:Fld):
  ZN Zyg Y2.id [.ptr x 0,.agg f.cells] st (QE (Zss (k.m.fields.take n) f) st):=by
 refine ZM Y2.ok fun F hF=>?_
 have hS:=Zss.eq_1 (k.m.fields.take n) f
 refine rx @eQ0 ?_
 refine rx @eQ0 ?_
 refine Ye rfl rfl rfl rfl rfl (by trivial) (by trivial) (by exact Zam hst.x 1 3 f.check) ?_ ?_
 ·rintro d S h
  obtain⟨hok,rfl,rfl⟩:=Kv h
  rw[hok,Zyy]at hS
  first|refine⟨by first|trivial|exact⟨rfl,trivial⟩,?_⟩|skip
  refine Za ?_
  simp only[Eqs,reduceCtorEq,reduceIte,Zye]
  refine rx @eQ0 ?_
  refine Zc5 rfl rfl rfl rfl rfl (by trivial) (by trivial) (by exact Zaq hst.x hn hl) (by first|trivial|exact⟨rfl,trivial⟩|simp[KB,JA]) (Y6 ?_)
  simp only[Eqs,reduceCtorEq,reduceIte,Zye,ZyB,Zyq,Z0,slD]
  refine clD ((ZbR ⟨[],k.m.fields.take n⟩ f.from_)) ?_
  refine rg ?_
  refine Ye rfl rfl rfl rfl rfl (by trivial) (by trivial) (by exact YP hst.x (dC (0≤ZB (fun x=>dC (x.name=f.from_)) (k.m.fields.take n))) 8) ?_ ?_
  ·rintro d S h
   obtain⟨hok,rfl,rfl⟩:=Kv h
   rw[hok]at hS
   refine Za ?_
   simp only[Eqs]
   exact hF.fin (.tup []) _ rfl trivial (Zyj _) (Zyi _) (Zcs hS)
  ·rintro d S h
   obtain⟨hok,hfl,rfl⟩:=Ku h
   rw[hok]at hS
   exact hF.pan _ (Zyi _) (Qi hS hfl)
 ·rintro d S h
  obtain⟨hok,hfl,rfl⟩:=Ku h
  rw[hok,ZyH]at hS
  exact hF.pan _ (Zyi _) (Qi hS hfl)
theorem Zjx{x bd bs:Nat}{k:Ck}{dl:List (Str×Int)}{sl:List (Str×Bool)}{st:St}(hst:J8 st x bd bs k dl sl){n:Nat}(hn:k.field=n)(hl:n≤k.m.fields.length)(f:Fld):
  ZN Zyg YV.id [.ptr x 0,.agg f.cells] st (QE (Zst (k.m.fields.take n) sl f) st):=by
 refine ZM YV.ok fun F hF=>?_
 have hS:=Zst.eq_1 (k.m.fields.take n) sl f
 refine rx @eQ0 ?_
 refine rx @eQ0 ?_
 refine Ye rfl rfl rfl rfl rfl (by trivial) (by trivial) (by exact Zam hst.x 0 4294967295 f.key) ?_ ?_
 ·rintro d S h
  obtain⟨hok,rfl,rfl⟩:=Kv h
  rw[hok,Zyy]at hS
  first|refine⟨by first|trivial|exact⟨rfl,trivial⟩,?_⟩|skip
  refine Za ?_
  simp only[Eqs,reduceCtorEq,reduceIte,Zye]
  have e1:=QG (vD:=D.bool) Wa f.of sl
  have e3:=Jl Wa f.of
  simp only[show Zar f.of=D.str f.of from rfl]at e1 e3
  refine Zi (Zdj (Ql ?_))
  simp only[Eqs,reduceCtorEq,reduceIte,Zye,YV.r2,hst.x,hst.bs,Ck.cells,e1,Zlh]
  refine ZiC rfl rfl rfl rfl rfl (by trivial) (by trivial) (by exact YP hst.x ((ZQ f.of sl).getD false) 8) ?_ ?_
  ·rintro d S h
   obtain⟨hok,rfl,rfl⟩:=Kv h
   rw[hok,Zyy]at hS
   first|refine⟨by first|trivial|exact⟨rfl,trivial⟩,?_⟩|skip
   refine Ql ?_
   simp only[Eqs,reduceCtorEq,reduceIte,Zye]
   refine rx @eQ0 ?_
   simp only[Zex]
   refine Ye rfl rfl rfl rfl rfl (by trivial) (by trivial) (by exact ZdJ hst.x hn hl f) ?_ ?_
   ·rintro d S h
    obtain⟨hok,rfl,rfl⟩:=Kv h
    rw[hok]at hS
    refine Za ?_
    simp only[Eqs]
    exact hF.fin (.tup []) _ rfl trivial (Zyj _) (Zyi _) (Zcs hS)
   ·rintro d S h
    obtain⟨hok,hfl,rfl⟩:=Ku h
    rw[hok]at hS
    exact hF.pan _ (Zyi _) (Qi hS hfl)
  ·rintro d S h
   obtain⟨hok,hfl,rfl⟩:=Ku h
   rw[hok,ZyH]at hS
   exact hF.pan _ (Zyi _) (Qi hS hfl)
 ·rintro d S h
  obtain⟨hok,hfl,rfl⟩:=Ku h
  rw[hok,ZyH]at hS
  exact hF.pan _ (Zyi _) (Qi hS hfl)
def Zuu(f:Fld):List D:=[.str f.name,.str f.of,.str f.tag,.str f.from_,.int .i64 f.kind,.int .i64 f.bits,.int .i64 f.low,.int .i64 f.high,.int .i64 f.size.base,.int .i64 f.check,.int .i64 f.key,.bool f.little,.bool f.loose]
theorem Zgj(f:Fld):ZA Zyg KO.id [.agg f.cells] (.agg (Zuu f)):=by
 refine ZP KO.ok fun F st hret=>?_
 refine rx @eQ0 ?_
 refine rx @eQ0 ?_
 exact hret rfl (by first|trivial|simp) (Zyj _) (Zyi _)
theorem Ziw(a b:Fld):ZA Zyg WI.id [.agg a.cells,.agg b.cells] (.bool (dC (a=b))):=by
 refine ZP WI.ok fun F st hret=>?_
 refine rx @eQ0 ?_
 refine rx @eQ0 ?_
 simp only[Zex]
 refine clD (Zgj a) ?_
 refine ZaF rfl rfl rfl rfl rfl (by trivial) (by trivial) (by exact Zgj b) (Y6 ?_)
 simp only[Eqs,reduceIte,Zye,ZyB,Zuu]
 refine Zcj rfl rfl rfl rfl rfl (fun hcg=>⟨by first|trivial|(simpa[Qa]using hcg),trivial,Zia a.size.terms b.size.terms⟩) (Y6 ?_)
 simp only[Eqs,reduceIte,Zye]
 refine Zcj rfl rfl rfl rfl rfl (fun hcg=>⟨by first|trivial|(simpa[Qa]using hcg),trivial,Zh9 a.cases b.cases⟩) (Y6 ?_)
 simp only[Eqs,reduceIte,Zye]
 refine hret rfl (by trivial) (Zfe ?_) (Zyi _)
 rw[Bool.eq_iff_iff]
 simp only[Zyk,decide_eq_true_eq]
 constructor
 ·rintro⟨⟨⟨h1,h2,h3,h4,h5,h6,h7,h8,h9,h10,h11,h12,h13⟩,h14⟩,h15⟩
  obtain⟨n1,k1,b1,l1,o1,lo1,hi1,⟨sb1,st1⟩,of1,t1,f1,c1,ch1,ke1⟩:=a
  obtain⟨n2,k2,b2,l2,o2,lo2,hi2,⟨sb2,st2⟩,of2,t2,f2,c2,ch2,ke2⟩:=b
  simp only at h1 h2 h3 h4 h5 h6 h7 h8 h9 h10 h11 h12 h13 h14 h15
  subst h1;subst h2;subst h3;subst h4;subst h5;subst h6;subst h7;subst h8;subst h9;subst h10;subst h11;subst h12;subst h13;subst h14;subst h15
  rfl
 ·rintro rfl
  simp
abbrev Zo1(x:Nat×Nat):D:=.agg [.fn (.func x.1) [] [],.fn (.func x.2) [] []]
def ZhS:List (Int×(Nat×Nat)):=[(1,(Ki.id,WA.id)),(2,(Kj.id,WB.id)),(3,(Kk.id,WL.id)),(4,(Kl.id,Zp.id)),(5,(Km.id,Wn.id)),(6,(WW.id,Wu.id)),(7,(WX.id,Wc.id)),(8,(WY.id,Wv.id)),(9,(WZ.id,Zj.id)),(10,(W0.id,Ww.id)),(11,(W1.id,Y2.id)),(12,(W2.id,YV.id))]
theorem ZmJ(st:St):ZN Zyg Ky.id [] st fun r S=>∃b,st b=nO∧r=.ret (.map b)∧S=st.upd b (.map (ZaL ZbJ Zo1 ZhS)):=by
 refine ZM Ky.ok fun F hF=>?_
 refine rg ?_
 refine Zi (Ys (Za ?_))
 simp only[Eqs,reduceCtorEq,reduceIte,Zye,ZyB,Zyq,Ky.r1,ZbM,ZyN,decide_false,Zyo,Zyz]
 intro b hb
 exact hF.ret _ _ rfl (by trivial) (Zyj _) (Zyi _) ⟨b,hb,rfl,rfl⟩
def Zfi(n:Str)(k:Int):Fld:=⟨n,k,0,false,false,0,0,⟨0,[]⟩,[],[],[],[],0,0⟩
def Zfw(f:Fld):Fld :=
 if f.kind=1 then ZpD f else if f.kind=2 then ZpE f else if f.kind=3 then ZpF f else if f.kind=4 then ZlT f else if f.kind=5 then ZpG f else if f.kind=6 then ZpH f
 else if f.kind=7 then ZlU f else if f.kind=8 then ZpI f else if f.kind=9 then ZlV f else if f.kind=10 then Zm9 f else if f.kind=11 then Zna f else ZjZ f
def Zfu(fs:List Fld)(dl:List (Str×Int))(sl:List (Str×Bool))(f:Fld):Bool :=
 if f.kind=1 then ck1 f else if f.kind=2 then ck2 f else if f.kind=3 then ck3 f else if f.kind=4 then ZfX fs f.size else if f.kind=5 then ck5 f else if f.kind=6 then ck6 f
 else if f.kind=7 then ck7 fs dl f else if f.kind=8 then ck8 dl f else if f.kind=9 then ZiL fs dl f else if f.kind=10 then Zsr f else if f.kind=11 then Zss fs f else Zst fs sl f
def ZaN(f:Fld):Bool:=dC (1≤f.kind)&&dC (f.kind≤12)
theorem ZwD{x bd bs:Nat}{k:Ck}{dl:List (Str×Int)}{sl:List (Str×Bool)}{st:St}(hst:J8 st x bd bs k dl sl){n:Nat}(hn:k.field=n)(hl:n≤k.m.fields.length)(f:Fld)(hR:((ZQ f.tag (Zaj (k.m.fields.take n))).getD (0,0)).2<4611686018427387904)(hk:ZaN f=true):
  ∃c q,ZQ f.kind ZhS=sO (c,q)∧(∀y s,s y=sO (.cells f.cells)→Wi Zyg c [.ptr y 0] s (.tup []) (s.upd y (.cells (Zfw f).cells))) ∧
   ∀A,st.sub A→ZN Zyg q [.ptr x 0,.agg f.cells] A (QE (Zfu (k.m.fields.take n) dl sl f) A):=by
 unfold ZaN at hk
 simp only[Zyk,decide_eq_true_eq]at hk
 have hk2:f.kind=1∨f.kind=2∨f.kind=3∨f.kind=4∨f.kind=5∨f.kind=6∨f.kind=7∨f.kind=8∨f.kind=9∨f.kind=10∨f.kind=11∨f.kind=12:=by omega
 unfold Zfw Zfu
 rcases hk2 with h|h|h|h|h|h|h|h|h|h|h|h<;>simp only[h,ZyN,if_true,if_false]
 ·exact⟨_,_,rfl,fun y s hy=>Zkn f y s hy,fun A hA=>Zko (hst.mono hA) hn hl f⟩
 ·exact⟨_,_,rfl,fun y s hy=>Zkp f y s hy,fun A hA=>Zkq (hst.mono hA) hn hl f⟩
 ·exact⟨_,_,rfl,fun y s hy=>Zkr f y s hy,fun A hA=>Zks (hst.mono hA) hn hl f⟩
 ·exact⟨_,_,rfl,fun y s hy=>Zkt f y s hy,fun A hA=>ZdJ (hst.mono hA).x hn hl f⟩
 ·exact⟨_,_,rfl,fun y s hy=>Zku f y s hy,fun A hA=>Zkv (hst.mono hA) hn hl f⟩
 ·exact⟨_,_,rfl,fun y s hy=>Zjl f y s hy,fun A hA=>Zjm (hst.mono hA) hn hl f⟩
 ·exact⟨_,_,rfl,fun y s hy=>Zjn f y s hy,fun A hA=>Zjo (hst.mono hA) hn hl f⟩
 ·exact⟨_,_,rfl,fun y s hy=>Zjp f y s hy,fun A hA=>Zjq (hst.mono hA) hn hl f⟩
 ·exact⟨_,_,rfl,fun y s hy=>Zjr f y s hy,fun A hA=>ZmI (hst.mono hA) hn hl f hR⟩
 ·exact⟨_,_,rfl,fun y s hy=>Zjs f y s hy,fun A hA=>Zjt (hst.mono hA) hn hl f⟩
 ·exact⟨_,_,rfl,fun y s hy=>Zju f y s hy,fun A hA=>Zjv (hst.mono hA) hn hl f⟩
 ·exact⟨_,_,rfl,fun y s hy=>Zjw f y s hy,fun A hA=>Zjx (hst.mono hA) hn hl f⟩
theorem Zub{f:Fld}(hk:ZaN f=false):ZQ f.kind ZhS=nO:=by
 rw[Zt4]
 unfold ZaN at hk
 simp only[Bool.and_eq_false_iff,decide_eq_false_iff_not]at hk
 simp only[ZhS,Zyp,ZyF,ZyP,List.not_mem_nil,or_false]
 omega
def Zan(fs:List Fld)(dl:List (Str×Int))(sl:List (Str×Bool))(f:Fld):Bool :=
 K4 f.name&&(!dC (0≤ZB (fun x=>dC (x.name=f.name)) fs)&&(ZaN f&&(dC (Zfw f=Zfi f.name f.kind)&&Zfu fs dl sl f)))
theorem Zkm{x bd bs:Nat}{k:Ck}{dl:List (Str×Int)}{sl:List (Str×Bool)}{st:St}(hst:J8 st x bd bs k dl sl){n:Nat}(hn:k.field=n)(hl:n≤k.m.fields.length)(f:Fld)(hR:((ZQ f.tag (Zaj (k.m.fields.take n))).getD (0,0)).2<4611686018427387904):
  ZN Zyg Zv.id [.ptr x 0,.agg f.cells] st (QE (Zan (k.m.fields.take n) dl sl f) st):=by
 refine ZM Zv.ok fun F hF=>?_
 have hS:=Zan.eq_1 (k.m.fields.take n) dl sl f
 refine rx @eQ0 ?_
 refine rx @eQ0 ?_
 refine cl (ZdK f.name) ?_
 refine Ye rfl rfl rfl rfl rfl (by trivial) (by trivial) (by exact YP hst.x (K4 f.name) 1) ?_ ?_
 ·rintro d S h
  obtain⟨hok,rfl,rfl⟩:=Kv h
  rw[hok,Zyy]at hS
  refine Za ?_
  simp only[Eqs,reduceCtorEq,reduceIte,Zye]
  refine rx @eQ0 ?_
  refine Zc5 rfl rfl rfl rfl rfl (by trivial) (by trivial) (by exact Zaq hst.x hn hl) (by first|trivial|exact⟨rfl,trivial⟩|simp[KB,JA]) (Y6 ?_)
  simp only[Eqs,reduceCtorEq,reduceIte,Zye,ZyB,Zyq,Z0,slD]
  refine clD ((ZbR ⟨[],k.m.fields.take n⟩ f.name)) ?_
  refine rg ?_
  refine Ye rfl rfl rfl rfl rfl (by trivial) (by trivial) (by exact YP hst.x (!dC (0≤ZB (fun x=>dC (x.name=f.name)) (k.m.fields.take n))) 2) ?_ ?_
  ·rintro d S2 h
   obtain⟨hok2,rfl,rfl⟩:=Kv h
   rw[hok2,Zyy]at hS
   refine Za ?_
   simp only[Eqs,reduceCtorEq,reduceIte,Zye]
   refine rx @eQ0 ?_
   refine ZbW rfl rfl rfl rfl rfl (by trivial) (by trivial) (by exact ZmJ S2) ?_ ?_
   ·rintro d S3 ⟨b,hb,hd,rfl⟩
    cases hd
    refine⟨by first|trivial|exact⟨rfl,trivial⟩,?_⟩
    have e1:=QG (vD:=Zo1) Zp9 f.kind ZhS
    have e3:=Jl Zp9 f.kind
    simp only[show ZbJ f.kind=D.int .i64 f.kind from rfl]at e1 e3
    have hsb:=ZyJ (.map (ZaL ZbJ Zo1 ZhS)) hb
    cases hko:ZaN f with
    |false =>
     rw[hko,ZyH]at hS
     rw[Zub hko]at e1
     refine Y6 ?_
     simp only[Eqs,reduceCtorEq,reduceIte,Zye,ZyB,Zyq,e1,Zyo]
     refine rg ?_
     refine Ye rfl rfl rfl rfl rfl (by trivial) (by trivial) (by exact YP (hst.mono hsb).x false 4) ?_ ?_
     ·rintro d S4 h
      exact absurd (Kv h).1 (by simp)
     ·rintro d S4 h
      obtain⟨_,hfl,rfl⟩:=Ku h
      exact hF.pan S2 hsb (Qi hS hfl)
    |true =>
     rw[hko,Zyy]at hS
     obtain⟨c,q,hg,hclear,hcheck⟩:=ZwD hst hn hl f hR hko
     rw[hg]at e1
     refine Y6 ?_
     simp only[Eqs,reduceCtorEq,reduceIte,Zye,ZyB,Zyq,e1,Zyo]
     refine rg ?_
     refine Ye rfl rfl rfl rfl rfl (by trivial) (by trivial) (by exact YP (hst.mono hsb).x true 4) ?_ ?_
     ·rintro d S4 h
      obtain⟨_,rfl,rfl⟩:=Kv h
      refine Za ?_
      simp only[Eqs,reduceCtorEq,reduceIte,Zye]
      refine rx @eQ0 ?_
      refine Zi ?_
      refine Z1 7 rfl fun y hy=>?_
      simp only[reduceIte,Zye,Yd,Yz,delL]
      have hfc:[D.str f.name,D.int IntKind.i64 f.kind,D.int IntKind.i64 f.bits,D.bool f.little,D.bool f.loose,D.int IntKind.i64 f.low,D.int IntKind.i64 f.high,D.int IntKind.i64 f.size.base,Qk f.size.terms,D.str f.of,D.str f.tag,D.str f.from_,K3 f.cases,D.int IntKind.i64 f.check,D.int IntKind.i64 f.key]=f.cells:=rfl
      simp only[hfc]
      have hsy:∀o,S2.sub (((S2.upd b (.map (ZaL ZbJ Zo1 ZhS)))).upd y o):=fun o=>ZyT hsb (ZyJ _ hy)
      refine rg ?_
      refine JN rfl rfl rfl rfl rfl (by trivial) (by trivial) (by exact hclear y _ (Zyo _ _ _)) (Za ?_)
      simp only[Eqs,reduceCtorEq,reduceIte,Zye]
      simp only[Zyz]
      refine rx (nd2 @eQ0 (nd2 @Zyo (nd2 @Zyz (nd2 @KZ @K0)))) ?_
      simp only[Zex]
      refine YF rfl rfl rfl rfl rfl (by trivial) (by trivial) (by exact(Ziw (Zfw f) (Zfi f.name f.kind)).leA (LeC.two (Zyj _) (Zxb (cs':=(Zfi f.name f.kind).cells) (.cons (Zyj _) (.cons (Zyj _) (.cons (Zyj _) (.cons (Zyj _) (.cons (Zyj _) (.cons (Zyj _) (.cons (Zyj _) (.cons (Zyj _) (.cons (JL (by simp)) (.cons (Zyj _) (.cons (Zyj _) (.cons (Zyj _) (.cons (JL (by simp)) (.cons (Zyj _) (.cons (Zyj _) .nil)))))))))))))))))) (Za ?_)
      simp only[Eqs]
      refine Ye rfl rfl rfl rfl rfl (by trivial) (by trivial) (by exact YP (hst.mono (hsy _)).x (dC (Zfw f=Zfi f.name f.kind)) 5) ?_ ?_
      ·rintro d S5 h
       obtain⟨hok5,rfl,rfl⟩:=Kv h
       rw[hok5,Zyy]at hS
       refine Za ?_
       simp only[Eqs,reduceCtorEq,reduceIte,Zye]
       refine rx @eQ0 ?_
       simp only[Zex]
       refine Ye rfl rfl rfl rfl rfl (by trivial) (by trivial) (by exact hcheck _ (hsy _)) ?_ ?_
       ·rintro d S6 h
        obtain⟨hok6,rfl,rfl⟩:=Kv h
        rw[hok6]at hS
        refine Za ?_
        simp only[Eqs]
        exact hF.fin (.tup []) S2 rfl trivial (Zyj _) (hsy _) (Zcs hS)
       ·rintro d S6 h
        obtain⟨hok6,hfl,rfl⟩:=Ku h
        rw[hok6]at hS
        exact hF.pan S2 (hsy _) (Qi hS hfl)
      ·rintro d S5 h
       obtain⟨hok5,hfl,rfl⟩:=Ku h
       rw[hok5,ZyH]at hS
       exact hF.pan S2 (hsy _) (Qi hS hfl)
     ·rintro d S4 h
      exact absurd (Ku h).1 (by simp)
   ·rintro d S3 ⟨b,hb,hd,_⟩
    cases hd
  ·rintro d S2 h
   obtain⟨hok2,hfl,rfl⟩:=Ku h
   rw[hok2,ZyH]at hS
   exact hF.pan _ (Zyi _) (Qi hS hfl)
 ·rintro d S h
  obtain⟨hok,hfl,rfl⟩:=Ku h
  rw[hok,ZyH]at hS
  exact hF.pan _ (Zyi _) (Qi hS hfl)
def ddS(l:List Str):List Str:=l.foldl Zax []
theorem Zq1(l out:List Str):∃r,l.foldl Zax out=out++r:=by
 induction l generalizing out with
 |nil=>exact⟨[],by simp⟩
 |cons x r ih =>
  obtain⟨q,hq⟩:=ih (Zax out x)
  rw[List.foldl_cons,hq]
  unfold Zax
  split
  ·exact⟨q,rfl⟩
  ·exact⟨[x]++q,by simp⟩
theorem ZpM{l:List Str}{i:Nat}(h:i<l.length):ddS (l.take (i+1))=Zax (ddS (l.take i)) (l.getD i dE):=by
 unfold ddS;rw[WF h,List.foldl_append];rfl
theorem ZrM{l:List Str}{s:Str}:s∈ddS l↔s∈l:=by unfold ddS;rw[Zg1];simp
theorem Zww(l:List Str)(i:Nat):∃r,ddS l=ddS (l.take i)++r:=by
 conv=>enter [1,r];lhs;rw[←List.take_append_drop i l]
 unfold ddS
 rw[List.foldl_append]
 exact Zq1 _ _
theorem Zxk{l:List Str}{i:Nat}(h:i<l.length)(hn:l.getD i dE∉l.take i):(ddS (l.take i)).length<(ddS l).length∧(ddS l).getD (ddS (l.take i)).length dE=l.getD i dE∧(ddS (l.take (i+1))).length=(ddS (l.take i)).length+1:=by
 have h1:=ZpM h
 have hm:l.getD i dE∉ddS (l.take i):=fun hm=>hn (ZrM.1 hm)
 rw[Zax,if_neg hm]at h1
 obtain⟨r,hr⟩:=Zww l (i+1)
 rw[h1]at hr
 refine⟨by rw[hr];simp,by rw[hr];simp[Zyx],by rw[h1];simp⟩
theorem Zve{l:List Str}{i:Nat}(h:i<l.length)(hn:l.getD i dE∈l.take i):ddS (l.take (i+1))=ddS (l.take i):=by
 rw[ZpM h,Zax,if_pos (ZrM.2 hn)]
theorem ZiR(l:List Str)(i:Nat)(h:i≤l.length)(tk:Tok)(s:Str):ZA Zyg Yy.id [.sl tk i 1 (fun i=>[.str (l.getD i dE)]),.str s] (.bool (dC (s∈l.take i))):=by
 have hrow:We ZgL (fun i=>[.str (l.getD i dE)]) (l.take i):=(We.self (f:=ZgL) (l:=l)).take i
 exact(Zfa (l.take i) s).leA (LeC.two (hrow.le (by rw[Zyw];omega)) (Zyj _))
theorem Zjj(l:List Str)(hl:l.length≤big)(x:Nat):Zhp Zyg (.fn (.func Yk.id) [] [.ptr x 0]) (ddS l).length (fun j=>[.str ((ddS l).getD j dE)]) (ZyG x (.cells [QK l])):=by
 intro y go A a0 hcons hA hd
 have hw:=hl
 unfold big at hw
 refine ZN.V (first:=[]) (args:=[y]) (caps:=[.ptr x 0]) (ZM Yk.ok fun F hF=>?_)
 have hx:∀a,Kz a (ZyG x (.cells [QK l]))→(a.or (ZyG x (.cells [QK l]))) x=sO (.cells [QK l]):=fun a hda=>by
  rw[Yj (hda x _ (KA _ _)),KA]
 generalize hT:ZyG x (.cells [QK l])=T at *
 refine Zi (Ys (Za ?_))
 simp only[Eqs,reduceCtorEq,reduceIte,Zye,ZyB,Yk.r0,hx a0 hd,QK,slD]
 refine Zh (fr (l.length) (fun i Q=>∀a,A (ddS (l.take i)).length a→Kz a T→(∀j,j<(ddS (l.take i)).length→go j=.next)→i≤l.length→Q [(0,.d y),(1,.d (.ptr x 0)),(5,.d (QK l)),(6,.d (.int .i64 l.length)),(7,.d (.int .i64 i))] [] (a.or T)) (fun n ih_key=>?_) fun key=>?_)
 ·clear hA hd
  intro i hn a hA hd hno hi
  refine rg ?_
  refine Zi (YC rfl trivial (fun h1=>?_) (fun h1=>?_))
  ·simp at h1
   by_cases hm:l.getD i dE∈l.take i
   ·have hsm:=Zve h1 hm
    refine rx (nd2 @QK.eq_1 @eQ1) ?_
    refine aa ?_
    refine Zi (Ys (Za ?_))
    simp only[Eqs,reduceCtorEq,reduceIte,Zye,Yk.r3,hx a hd,QK,slD]
    refine aa ?_
    refine YF rfl rfl rfl rfl rfl (by trivial) (by trivial) (by exact ZiR l i (by omega) _ _) (Za ?_)
    simp only[Eqs,reduceCtorEq,reduceIte,Zye,decide_eq_true hm]
    refine ZaB rfl (e:=.d (.bool false)) (Za ?_)
    simp only[Eqs,reduceCtorEq,reduceIte,Zye]
    refine i0 ?_
    refine rg ?_
    refine aa ?_
    refine Zf ?_
    exact ih_key ((l.length)-(i+1)) (by omega) (i+1) rfl a (by rw[hsm];exact hA) hd (by rw[hsm];exact hno) (by omega)
   ·have hat:=Zxk h1 hm
    refine rx (nd2 @QK.eq_1 @eQ1) ?_
    refine aa ?_
    refine Zi (Ys (Za ?_))
    simp only[Eqs,reduceCtorEq,reduceIte,Zye,Yk.r3,hx a hd,QK,slD]
    refine aa ?_
    refine YF rfl rfl rfl rfl rfl (by trivial) (by trivial) (by exact ZiR l i (by omega) _ _) (Za ?_)
    simp only[Eqs,reduceCtorEq,reduceIte,Zye,decide_eq_false hm]
    have hcall:=(hcons _ hat.1 hno a hA).frame hd
    simp only[hat.2.1]at hcall
    refine Jw rfl rfl rfl rfl rfl (by trivial) (by trivial) (by exact hcall) ?_ ?_
    ·rintro d S ⟨s',⟨hr,hA'⟩,hd',rfl⟩
     cases hgo:go (ddS (l.take i)).length with
     |next =>
      rw[hgo]at hr
      cases hr
      refine Za ?_
      simp only[Eqs,reduceCtorEq,reduceIte,Zye]
      refine i0 ?_
      refine rg ?_
      refine aa ?_
      refine Zf ?_
      exact ih_key ((l.length)-(i+1)) (by omega) (i+1) rfl s' (by rw[hat.2.2];exact hA') hd' (by rw[hat.2.2];exact Ke (q:=fun i=>go i=.next) hno hgo) (by omega)
     |stop c =>
      rw[hgo]at hr
      cases hr
      refine Za ?_
      simp only[Eqs,reduceCtorEq,reduceIte,Zye]
      refine i1 ?_
      exact hF.ret (.tup []) _ rfl trivial (Zyj _) (Zyi _) ⟨s',.stop _ c hat.1 hno hgo hA',Zat _ _⟩
     |pan d=>rw[hgo]at hr;cases hr
    ·rintro d S ⟨s',⟨hr,hA'⟩,hd',rfl⟩
     cases hgo:go (ddS (l.take i)).length with
     |pan d' =>
      rw[hgo]at hr
      cases hr
      exact hF.pan _ (Zyi _) ⟨s',.pan _ d hat.1 hno hgo hA',Zat _ _⟩
     |next=>rw[hgo]at hr;cases hr
     |stop c=>rw[hgo]at hr;cases hr
  ·simp at h1
   obtain rfl:i=l.length:=by omega
   rw[ZyA]at hA hno
   refine Wr rfl ?_
   exact hF.fin (.tup []) _ rfl trivial (Zyj _) (Zyi _) ⟨a,.all hno hA,Zat _ _⟩
 exact key _ 0 rfl a0 hA hd (by intro i hi;simp[ddS]at hi) (by omega)
theorem Zlr(m:Msg)(hb:(m.fields.flatMap YW).length≤1000000)(st:St):ZN Zyg Zm.id [.agg m.cells] st fun r S=>∃x,st x=nO∧r=.ret (.fn (.func Yk.id) [] [.ptr x 0])∧S=st.or (ZyG x (.cells [QK (m.fields.flatMap YW)])):=by
 refine Zcw Zm.ok fun hwf F hF=>?_
 have hw:=(ZfG (s:=m) (hwf _ (by simp))).nfields
 have hfw:=(ZfG (s:=m) (hwf _ (by simp))).fields
 unfold big at hw
 clear hwf
 refine rx @eQ2 ?_
 refine rg ?_
 refine rx (nd2 @eQ2 (nd2 @eQ4 @eQ1)) ?_
 refine Zh ?_
 refine kl (st) [(3,.loc 3 0),(9,.d (Z0 m.fields)),(10,.d (.int .i64 m.fields.length)),(11,.d (.int .i64 (0:Nat)))] [(3,[.sl .full 0 1 fun _=>[]])] (ZdQ _) (.cons (.cons (JL (by simp)) .nil) .nil) ?_
 refine fr (m.fields.length) (fun i Q=>∀tk row out,tk.okIn st→We (fun s=>[.str s]) row out→out=(m.fields.take i).flatMap YW→i≤m.fields.length→Q [(3,.loc 3 0),(9,.d (Z0 m.fields)),(10,.d (.int .i64 m.fields.length)),(11,.d (.int .i64 i))] [(3,[.sl tk out.length 1 row])] (st.own tk (out.length*1))) (fun n ih_key=>?_) fun key=>?_
 ·intro i hn tk row out htk hrow hout hi
  refine rg ?_
  refine Zi (YC rfl trivial (fun h1=>?_) (fun h1=>?_))
  ·simp at h1
   have hsn:=ZeX m.fields i h1
   have hlt2:=ZbH m.fields (i+1)
   rw[hsn,Zyr,←hout]at hlt2
   have hnc:=(hfw _ (W4 h1)).ncases
   unfold big at hnc
   generalize hf:m.fields.getD i dE=f at *
   refine rx (nd2 @eQ4 (nd2 @eQ1 (nd2 @eQ0 @hf))) ?_
   refine aa ?_
   refine rx @eQ0 ?_
   refine rg ?_
   have jn:∀bb:Bool,bb=(dC (f.kind=7) ||(dC (f.kind=8) ||decide (f.kind=12)))→ZS F [.code (qC 17 (qR Zm.r9 [3,9,10,11]) (.seq (qR Zm.r10 [3,5,9,10,11,26]) (qC 26 (.seq (qR Zm.r11 [3,9,10,11,29,30,31]) (.block 3 (.loop Zm.l1))) .skip))),.inBlock 2,.inBlock 1,.code (qR Zm.r16 [3,9,10,11]),.inLoop Zm.l0,.inBlock 0,.code (.seq (qR Zm.r17 [2]) .ret)] [(3,.loc 3 0),(5,.loc 5 0),(9,.d (Z0 m.fields)),(10,.d (.int .i64 m.fields.length)),(11,.d (.int .i64 i)),(16,.d (.int .i64 f.kind)),(17,.d (.bool bb))] [(3,[.sl tk out.length 1 row]),(5,f.cells)] (st.own tk (out.length*1)):=by
    intro bb hbb
    refine cd (fun h3=>?_) (fun h3=>?_)
    ·have hrf:YW f=[f.of]:=by
      subst h3
      have h9:¬f.kind=9:=by
       intro e;rw[e]at hbb;simp at hbb
      unfold YW JM
      rw[←hbb,if_pos rfl,if_neg h9,ZyR]
     rw[hrf]at hsn hlt2
     simp only[ZyE,List.length_nil]at hlt2
     refine rx @eQ0 ?_
     refine ZbX (st) (tk) rfl rfl rfl rfl rfl rfl (by trivial) (by trivial) rfl (by first|trivial|assumption) (by omega) (by (unfold big;omega)) fun t1 ht1=>Za ?_
     simp only[Eqs,reduceIte,Zye,Zyq]
     refine rg ?_
     refine aa ?_
     refine Zf ?_
     have hnext:=ih_key ((m.fields.length)-(i+1)) (by omega) (i+1) rfl t1 _ (out++[f.of]) ht1 (hrow.snoc (x:=f.of) (row2:=Wd [.str []] ([0].zip [.str f.of])) rfl rfl) (by rw[hsn,hout]) (by omega)
     rw[Zyr]at hnext
     exact hnext
    ·have hrf:YW f=if f.kind=9 then f.cases.map (·.of) else []:=by
      subst h3
      unfold YW JM
      rw[←hbb,if_neg (by simp),List.nil_append]
     rw[hrf]at hsn hlt2
     refine rg ?_
     refine cd (fun h4=>?_) (fun h4=>?_)
     ·have h9:f.kind=9:=by simpa using h4
      rw[if_pos h9]at hsn hlt2
      simp only[List.length_map]at hlt2
      refine rx (nd2 @eQ0 (nd2 @K3.eq_1 @eQ1)) ?_
      refine Zh (fr (f.cases.length) (fun q Q=>∀tk row o,tk.okIn st→We (fun s=>[.str s]) row o→o=out++(f.cases.take q).map (·.of)→q≤f.cases.length→Q [(3,.loc 3 0),(9,.d (Z0 m.fields)),(10,.d (.int .i64 m.fields.length)),(11,.d (.int .i64 i)),(29,.d (K3 f.cases)),(30,.d (.int .i64 f.cases.length)),(31,.d (.int .i64 q))] [(3,[.sl tk o.length 1 row])] (st.own tk (o.length*1))) (fun n ih_key2=>?_) fun key2=>?_)
      ·clear hrow htk
       intro q hnq tk row o htk hrow ho hq
       have hol:o.length=out.length+q:=by rw[ho];simp;omega
       refine rg ?_
       refine Zi (YC rfl trivial (fun h5=>?_) (fun h5=>?_))
       ·simp at h5
        have hsn2:(f.cases.take (q+1)).map (·.of)=(f.cases.take q).map (·.of)++[(f.cases.getD q dE).of]:=by rw[WF h5,List.map_append];rfl
        generalize hc:f.cases.getD q dE=c at *
        refine rx (nd2 @K3.eq_1 (nd2 @eQ1 (nd2 @eQ9 @hc))) ?_
        refine aa ?_
        refine rx @eQ9 ?_
        refine ZbX (st) (tk) rfl rfl rfl rfl rfl rfl (by trivial) (by trivial) rfl (by first|trivial|assumption) (by omega) (by (unfold big;omega)) fun t1 ht1=>Za ?_
        simp only[Eqs,reduceIte,Zye,Zyq]
        refine rg ?_
        refine aa ?_
        refine Zf ?_
        have hnext:=ih_key2 ((f.cases.length)-(q+1)) (by omega) (q+1) rfl t1 _ (o++[c.of]) ht1 (hrow.snoc (x:=c.of) (row2:=Wd [.str []] ([0].zip [.str c.of])) rfl rfl) (by rw[hsn2,ho,List.append_assoc]) (by omega)
        rw[Zyr]at hnext
        exact hnext
       ·simp at h5
        obtain rfl:q=f.cases.length:=by omega
        rw[ZyA]at ho
        refine rg ?_
        refine aa ?_
        refine Zf ?_
        exact ih_key ((m.fields.length)-(i+1)) (by omega) (i+1) rfl tk row o htk hrow (by rw[hsn,ho,hout]) (by omega)
      exact key2 _ 0 rfl tk row out htk hrow (by simp) (by omega)
     ·have h9:¬f.kind=9:=by simpa using h4
      rw[if_neg h9,ZyR]at hsn
      refine Yw ?_
      refine rg ?_
      refine aa ?_
      refine Zf ?_
      exact ih_key ((m.fields.length)-(i+1)) (by omega) (i+1) rfl tk row out htk hrow (by rw[hsn,hout]) (by omega)
   refine cd (fun h2=>?_) (fun h2=>?_)
   ·refine Yw ?_
    refine jn _ ?_
    rw[h2,Bool.true_or]
   ·refine rg ?_
    refine cd (fun h3=>?_) (fun h3=>?_)
    ·refine Yw ?_
     refine jn _ ?_
     rw[h2,h3];rfl
    ·refine rg ?_
     refine jn _ ?_
     rw[h2,h3];rfl
  ·simp at h1
   obtain rfl:i=m.fields.length:=by omega
   rw[ZyA]at hout
   refine Wr rfl (Zi ?_)
   refine kl (st) [(3,.loc 3 0),(9,.d (Z0 m.fields)),(10,.d (.int .i64 m.fields.length)),(11,.d (.int .i64 m.fields.length)),(12,.d (.bool (dC ((m.fields.length:Int)<m.fields.length))))] [(3,[QK out])] (ZdQ _) (.cons (.cons (hrow.le rfl) .nil) .nil) ?_
   refine Z1 3 rfl fun x hx=>?_
   simp only[reduceIte,Yd,Yz,delL]
   refine rg ?_
   exact hF.ret _ _ rfl (by trivial) (Zyj _) (Zyi _) ⟨x,hx,rfl,by rw[←hout];exact Zbg hx⟩
 exact key _ 0 rfl .full _ [] trivial We.nil rfl (by omega)
def Jq(dl:List (Str×Int))(m:Msg):Int:=(KY m).foldl (fun a s=>max a ((ZQ s dl).getD 0)) 0
def Za0(sl:List (Str×Bool))(m:Msg):Bool:=(m.fields.all fun f=>!f.loose)&&(KY m).all fun s=>(ZQ s sl).getD false
def Zak(dl:List (Str×Int))(sl:List (Str×Bool))(m:Msg)(n:Nat):Bool:=(Zyl n).all fun i=>Zan (m.fields.take i) dl sl (m.fields.getD i dE)
def ZeU(dl:List (Str×Int))(sl:List (Str×Bool))(m:Msg):Bool :=
 K4 m.name&&(!(ZQ m.name dl).isSome&&((dC (1≤(m.fields.length:Int))&&dC ((m.fields.length:Int)≤40))&&(Zak dl sl m m.fields.length&&dC (Jq dl m<16))))
def ZmS:Int:=4611686018427387904
theorem Zne{fs:List Fld}{dl:List (Str×Int)}{sl:List (Str×Bool)}{f:Fld}(h:Zan fs dl sl f=true)(hn:KV f=true):(Wz f).2<ZmS:=by
 unfold Zan at h
 simp only[Zyk]at h
 have hc:=h.2.2.2.2
 unfold KV at hn
 simp only[Zyk,decide_eq_true_eq]at hn
 have hk:f.kind=1∨f.kind=2∨f.kind=3:=by omega
 unfold Zfu at hc
 unfold Wz ZmS
 rcases hk with hk|hk|hk<;>simp only[hk,ZyN,if_true,if_false]at hc⊢
 ·unfold ck1 Zec at hc
  simp only[Kc,Zyk,decide_eq_true_eq,Bool.and_true]at hc
  have:=Zdg (b:=f.bits) (by omega) (by omega)
  generalize (2:Int) ^ f.bits.toNat=pw at *
  omega
 ·unfold ck2 Zec at hc
  simp only[Kc,Zyk,decide_eq_true_eq,Bool.and_true]at hc
  have:=Zdg (b:=f.bits) (by omega) (by omega)
  generalize (2:Int) ^ f.bits.toNat=pw at *
  omega
 ·unfold ck3 at hc
  simp only[Kc,Zyk,decide_eq_true_eq,Bool.and_true]at hc
  omega
theorem Zs5{fs:List Fld}{i:Nat}(h:∀j,j<i→KV (fs.getD j dE)=true→(Wz (fs.getD j dE)).2<ZmS)(k:Str):((ZQ k (ZaA fs i)).getD (0,0)).2<ZmS:=by
 induction i with
 |zero=>simp[ZaA,ZQ,ZmS]
 |succ i ih =>
  have h1:=ih fun j hj=>h j (by omega)
  simp only[ZaA]
  split
  ·rename_i hn
   rw[Zbn]
   split
   ·exact h i (by omega) hn
   ·exact h1
  ·exact h1
theorem ZoG{dl:List (Str×Int)}{sl:List (Str×Bool)}{m:Msg}{i:Nat}(h:Zak dl sl m i=true)(hi:i≤m.fields.length)(k:Str):((ZQ k (Zaj (m.fields.take i))).getD (0,0)).2<4611686018427387904:=by
 refine Zs5 (fun j hj hn=>?_) k
 rw[Zyw]at hj
 rw[Zau (by omega)]at hn⊢
 exact Zne (List.all_eq_true.1 h j (by simp;omega)) hn
theorem ZoE{fs:List Fld}{dl:List (Str×Int)}{sl:List (Str×Bool)}{f:Fld}(h:Zan fs dl sl f=true):(YW f).length≤41:=by
 unfold Zan at h
 simp only[Zyk]at h
 have hc:=h.2.2.2.2
 unfold YW
 rw[Zyr]
 have h1:(JM f).length≤1:=by unfold JM;split<;>simp
 split
 ·rename_i h9
  unfold Zfu at hc
  simp only[h9,ZyN,if_true,if_false]at hc
  unfold ZiL at hc
  simp only[Zyk,decide_eq_true_eq]at hc
  simp only[List.length_map]
  omega
 ·simp;omega
theorem ZpX{dl:List (Str×Int)}{sl:List (Str×Bool)}{m:Msg}(h:Zak dl sl m m.fields.length=true)(hm:m.fields.length≤40):(m.fields.flatMap YW).length≤1000000:=by
 have key:∀l:List Fld,(∀f∈l,(YW f).length≤41)→(l.flatMap YW).length≤41*l.length:=by
  intro l
  induction l with
  |nil=>simp
  |cons x r ih =>
   intro hx
   have:=ih fun f hf=>hx f (by simp[hf])
   have:=hx x (by simp)
   simp only[List.flatMap_cons,Zyr,ZyE];omega
 have:=key m.fields fun f hf=>by
  obtain⟨i,hi,rfl⟩:=ZyC hf
  have:=ZoE (List.all_eq_true.1 h i (by simpa using hi))
  simpa[Zyx,hi]using this
 omega
theorem ZiW{dl:List (Str×Int)}{sl:List (Str×Bool)}{m:Msg}{i:Nat}:Zak dl sl m (i+1)=(Zak dl sl m i&&Zan (m.fields.take i) dl sl (m.fields.getD i dE)):=by
 unfold Zak;rw[List.range_succ,List.all_append];simp
theorem ZoF{dl:List (Str×Int)}{sl:List (Str×Bool)}{m:Msg}{i n:Nat}(hi:i<n)(h:Zan (m.fields.take i) dl sl (m.fields.getD i dE)=false):Zak dl sl m n=false :=
 List.all_eq_false.2 ⟨i,by simpa using hi,by rw[h];simp⟩
theorem J8.ne{st:St}{x bd bs:Nat}{k:Ck}{dl:List (Str×Int)}{sl:List (Str×Bool)}(h:J8 st x bd bs k dl sl):x≠bd∧x≠bs :=
 ⟨fun e=>by have:=h.x;rw[e,h.bd]at this;simp at this,fun e=>by have:=h.x;rw[e,h.bs]at this;simp at this⟩
theorem J8.updX{st:St}{x bd bs:Nat}{k:Ck}{dl:List (Str×Int)}{sl:List (Str×Bool)}(h:J8 st x bd bs k dl sl)(k':Ck):J8 (st.upd x (.cells (k'.cells bd bs))) x bd bs k' dl sl :=
 ⟨Zyo _ _ _,by rw[Zyn _ _ h.ne.1.symm];exact h.bd,by rw[Zyn _ _ h.ne.2.symm];exact h.bs⟩
def Zfn(ok:Bool)(st:St)(x bd bs:Nat)(k:Ck)(dl:List (Str×Int))(sl:List (Str×Bool))(r:Res)(S:St):Prop :=
 if ok then r=.ret (.tup [])∧S=((st.upd x (.cells (k.cells bd bs))).upd bd (.map (Zp8 dl))).upd bs (.map (Jz sl)) else (∃d,Zeq d∧r=.panic d)∧∀b,b≠x→b≠bd→b≠bs→S b=st b
theorem ZrZ{ok:Bool}{st:St}{x bd bs:Nat}{k:Ck}{dl:List (Str×Int)}{sl:List (Str×Bool)}{d:D}{c:List D}(h:ok=false)(hd:Zeq d):Zfn ok st x bd bs k dl sl (.panic d) (st.upd x (.cells c)):=by
 subst h;exact⟨⟨d,hd,rfl⟩,fun b h1 _ _=>Zyn _ _ h1⟩
theorem Zn4{K V:Type}[DecidableEq K]{kp:KP}{kD:K→D}{vD:V→D}(h:ZjU kp kD)(k:K)(z:D)(l:List (K×V)):ZeP kp (kD k) z (ZaL kD vD l)=sO ((ZQ k l).elim z vD):=by
 induction l with
 |nil=>rfl
 |cons e r ih =>
  simp only[ZaL,Zyp,ZeP,h k e.1,ZQ]
  by_cases hk:k=e.1
  ·simp[hk]
  ·simp only[hk,decide_false,if_false];exact ih
def nxS(s1:St)(x z2 z6 z9:Nat)(sb:Bool)(dp:Int):St:=((s1.upd z2 (.cells [.ptr x 0])).upd z6 (.cells [.bool sb])).upd z9 (.cells [.int .i64 dp])
structure Zae(s1:St)(z2 z6 z9:Nat):Prop where
 n2:s1 z2=none
 n6:z6≠z2∧s1 z6=none
 n9:z9≠z6∧z9≠z2∧s1 z9=none
section
variable {s1:St} {x z2 z6 z9:Nat} {sb:Bool} {dp:Int}
theorem Zae.g2(h:Zae s1 z2 z6 z9):(nxS s1 x z2 z6 z9 sb dp) z2=sO (.cells [.ptr x 0]):=by
 simp[nxS,St.upd,h.n6.1.symm,h.n9.2.1.symm]
theorem Zae.g6(h:Zae s1 z2 z6 z9):(nxS s1 x z2 z6 z9 sb dp) z6=sO (.cells [.bool sb]):=by
 simp[nxS,St.upd,h.n9.1.symm]
theorem Zae.g9:(nxS s1 x z2 z6 z9 sb dp) z9=sO (.cells [.int .i64 dp]):=by
 simp[nxS,St.upd]
theorem Zae.gs(h:Zae s1 z2 z6 z9){b:Nat}{o:Wt}(hb:s1 b=sO o):(nxS s1 x z2 z6 z9 sb dp) b=sO o:=by
 have h2:b≠z2:=fun e=>by rw[e,h.n2]at hb;simp at hb
 have h6:b≠z6:=fun e=>by rw[e,h.n6.2]at hb;simp at hb
 have h9:b≠z9:=fun e=>by rw[e,h.n9.2.2]at hb;simp at hb
 simp[nxS,St.upd,h2,h6,h9,hb]
theorem Zae.sub(h:Zae s1 z2 z6 z9):s1.sub (nxS s1 x z2 z6 z9 sb dp):=fun b o hb=>h.gs hb
theorem Zae.u9(dp':Int):(nxS s1 x z2 z6 z9 sb dp).upd z9 (.cells [.int .i64 dp'])=nxS s1 x z2 z6 z9 sb dp':=by
 unfold nxS;rw[Zyz]
theorem Zae.u6(h:Zae s1 z2 z6 z9)(sb':Bool):(nxS s1 x z2 z6 z9 sb dp).upd z6 (.cells [.bool sb'])=nxS s1 x z2 z6 z9 sb' dp:=by
 unfold nxS;rw[St.upd_comm _ _ _ h.n9.1.symm,Zyz]
theorem Zae.disj{sb':Bool}{dp':Int}{t:St}(h:Kz (nxS s1 x z2 z6 z9 sb dp) t):Kz (nxS s1 x z2 z6 z9 sb' dp') t:=fun c o hc=>by
 have:=h c o hc
 unfold nxS at this⊢
 have k9:=Ya this
 have k6:=Ya k9.2
 rw[Zyn _ _ k9.1,Zyn _ _ k6.1];exact k6.2
theorem Zae.ub(h:Zae s1 z2 z6 z9){b:Nat}{o o':Wt}(hb:s1 b=sO o):(nxS s1 x z2 z6 z9 sb dp).upd b o'=nxS (s1.upd b o') x z2 z6 z9 sb dp:=by
 have h2:b≠z2:=fun e=>by rw[e,h.n2]at hb;simp at hb
 have h6:b≠z6:=fun e=>by rw[e,h.n6.2]at hb;simp at hb
 have h9:b≠z9:=fun e=>by rw[e,h.n9.2.2]at hb;simp at hb
 unfold nxS;rw[St.upd_comm _ _ _ h9,St.upd_comm _ _ _ h6,St.upd_comm _ _ _ h2]
theorem Zae.of(h:Zae s1 z2 z6 z9){b:Nat}{o o':Wt}(hb:s1 b=sO o):Zae (s1.upd b o') z2 z6 z9:=by
 have h2:z2≠b:=fun e=>by rw[←e,h.n2]at hb;simp at hb
 have h6:z6≠b:=fun e=>by rw[←e,h.n6.2]at hb;simp at hb
 have h9:z9≠b:=fun e=>by rw[←e,h.n9.2.2]at hb;simp at hb
 exact⟨by rw[Zyn _ _ h2];exact h.n2,⟨h.n6.1,by rw[Zyn _ _ h6];exact h.n6.2⟩,⟨h.n9.1,h.n9.2.1,by rw[Zyn _ _ h9];exact h.n9.2.2⟩⟩
end
theorem Zim{dl:List (Str×Int)}{m:Msg}(h:∀s,0≤(ZQ s dl).getD 0∧(ZQ s dl).getD 0≤16):0≤Jq dl m∧Jq dl m≤16:=by
 unfold Jq
 have:∀(l:List Str) (b:Int),0≤b→b≤16→0≤l.foldl (fun a s=>max a ((ZQ s dl).getD 0)) b∧l.foldl (fun a s=>max a ((ZQ s dl).getD 0)) b≤16:=by
  intro l
  induction l with
  |nil=>intro b h1 h2;exact⟨h1,h2⟩
  |cons s r ih =>
   intro b h1 h2
   have:=h s
   exact ih (max b ((ZQ s dl).getD 0)) (by omega) (by omega)
 exact this _ 0 (by omega) (by omega)
theorem Zny{x bd bs:Nat}{k:Ck}{dl:List (Str×Int)}{sl:List (Str×Bool)}{st:St}(hst:J8 st x bd bs k dl sl)(hdd:bd≠bs)(hdl:∀s,0≤(ZQ s dl).getD 0∧(ZQ s dl).getD 0≤16)(m:Msg):
  ZN Zyg Zc.id [.ptr x 0,.agg m.cells] st (Zfn (ZeU dl sl m) st x bd bs { k with field:=-1,m:=m } (KI m.name (Jq dl m+1) dl) (KI m.name (Za0 sl m) sl)):=by
 refine ZM Zc.ok fun F hF=>?_
 have hS:=ZeU.eq_1 dl sl m
 have hx:=hst.x
 have hne:=hst.ne
 refine rx @eQ2 ?_
 refine rx (nd2 @eQ2 (nd2 @hx (nd2 @Ck.cells.eq_1 (nd2 @Zyo (nd2 @Zyz (nd2 @KZ @K0)))))) ?_
 obtain⟨k1,hk1⟩:∃k1:Ck,k1={ k with field:=-1,m:=m }:=⟨_,rfl⟩
 have hst1:=hst.updX k1
 have hS1:(st.upd x (.cells [.str k.d.name,Ka k.d.msgs,.str k.d.start,.map bd,.map bs,.int .i64 k.at_,.int .i64 (-1),.str m.name,Z0 m.fields]))=st.upd x (.cells (k1.cells bd bs)):=by rw[hk1];rfl
 rw[hS1]
 rw[←hk1]at hF
 generalize hS1e:st.upd x (.cells (k1.cells bd bs))=S1 at *
 have e1:=QG (vD:=ZbJ) Wa m.name dl
 have e3:=Jl Wa m.name
 simp only[show Zar m.name=D.str m.name from rfl]at e1 e3
 have hbad:∀d,ZeU dl sl m=false→Zeq d→Zfn (ZeU dl sl m) st x bd bs k1 (KI m.name (Jq dl m+1) dl) (KI m.name (Za0 sl m) sl) (.panic d) S1:=fun d h hd=>by rw[←hS1e];exact ZrZ h hd
 clear hS1
 refine rx @eQ2 ?_
 refine clD (ZdK m.name) ?_
 refine ZbW rfl rfl rfl rfl rfl (by trivial) (by trivial) (by exact YP hst1.x (K4 m.name) 1) ?_ ?_
 ·rintro d S h
  obtain⟨hok,rfl,rfl⟩:=Kv h
  rw[hok,Zyy]at hS
  first|refine⟨by first|trivial|exact⟨rfl,trivial⟩,?_⟩|skip
  refine Y6 ?_
  simp only[Eqs,reduceIte,Zye]
  refine Zi (Zdj (Ql ?_))
  simp only[Eqs,reduceIte,Zye,Zc.r3,hst1.x,hst1.bd,Ck.cells,e1,Zli]
  refine rg ?_
  refine Ye rfl rfl rfl rfl rfl (by trivial) (by trivial) (by exact YP hst1.x (!(ZQ m.name dl).isSome) 2) ?_ ?_
  ·rintro d S h
   obtain⟨hok,rfl,rfl⟩:=Kv h
   rw[hok,Zyy]at hS
   refine Za ?_
   simp only[Eqs,reduceIte,Zye]
   refine rx (nd2 @eQ2 (nd2 @eQ4 @eQ1)) ?_
   refine Ye rfl rfl rfl rfl rfl (by trivial) (by trivial) (by exact YP hst1.x (dC (1≤(m.fields.length:Int))&&dC ((m.fields.length:Int)≤40)) 3) ?_ ?_
   ·rintro d S h
    obtain⟨hok,rfl,rfl⟩:=Kv h
    rw[hok,Zyy]at hS
    simp only[Zyk,decide_eq_true_eq]at hok
    refine Za ?_
    simp only[Eqs,reduceIte,Zye]
    refine rg ?_
    refine rx (nd2 @eQ2 (nd2 @eQ4 @eQ1)) ?_
    subst hk1
    refine Zh (fr (m.fields.length) (fun i Q=>∀fl:Int,Zak dl sl m i=true→i≤m.fields.length→Q [(2,.loc 2 0),(3,.loc 3 0),(6,.loc 6 0),(50,.d (Z0 m.fields)),(51,.d (.int .i64 m.fields.length)),(52,.d (.int .i64 i))] [(2,[.ptr x 0]),(3,m.cells),(6,[.bool ((m.fields.take i).all fun f=>!f.loose)])] (st.upd x (.cells (({ k with field:=fl,m:=m }:Ck).cells bd bs)))) (fun n ih_key=>?_) fun key=>?_)
    ·intro i hn fl hfp hi
     refine rg ?_
     refine Zi (YC rfl trivial (fun h1=>?_) (fun h1=>?_))
     ·simp at h1
      have hR:=ZoG hfp hi
      have hsn:=ZiW (dl:=dl) (sl:=sl) (m:=m) (i:=i)
      have hall:=Zhr (p:=fun f:Fld=>!f.loose) h1
      generalize hf:m.fields.getD i dE=f at *
      refine rx (nd2 @eQ4 (nd2 @eQ1 (nd2 @eQ0 @hf))) ?_
      refine aa ?_
      refine rx (nd2 @eQ0 (nd2 @Ck.cells.eq_1 (nd2 @Zyo (nd2 @Zyz (nd2 @KZ @K0))))) ?_
      have hsi:=hst.updX ({ k with field:=(i:Int),m:=m }:Ck)
      refine rx @eQ0 ?_
      simp only[Zex]
      refine Ye rfl rfl rfl rfl rfl (by trivial) (by trivial) (by exact Zkm hsi (n:=i) rfl hi f (hR _)) ?_ ?_
      ·rintro d S2 h
       obtain⟨hok2,rfl,rfl⟩:=Kv h
       refine Za ?_
       simp only[Eqs,reduceIte,Zye]
       refine rx @eQ0 ?_
       refine rg ?_
       refine aa ?_
       rw[show(m.fields.take i)=({ k with field:=(i:Int),m:=m }:Ck).m.fields.take i from rfl]at hsn
       rw[hok2,Bool.and_true]at hsn
       refine Zf ?_
       have hnext:=ih_key ((m.fields.length)-(i+1)) (by omega) (i+1) rfl i (hsn.trans hfp) (by omega)
       rw[hall]at hnext
       exact hnext
      ·rintro d S2 h
       obtain⟨hok2,hfl,rfl⟩:=Ku h
       rw[ZoF h1 (by rw[hf];exact hok2),ZyH]at hS
       exact hF.pan _ (Zyi _) (ZrZ hS hfl)
     ·simp at h1
      obtain rfl:i=m.fields.length:=by omega
      rw[ZyA]
      rw[hfp,Zyy]at hS
      have hrefs:=ZpX hfp (by omega)
      refine rx (nd2 @Ck.cells.eq_1 (nd2 @Zyo (nd2 @Zyz (nd2 @KZ @K0)))) ?_
      refine rg ?_
      refine Zi (Zi ?_)
      refine Z1 2 rfl fun z2 h2=>?_
      simp only[reduceIte,Zye,Yd,Yz,delL]
      refine Z1 6 rfl fun z6 h6=>?_
      simp only[reduceIte,Zye,Yd,Yz,delL]
      refine Z1 9 rfl fun z9 h9=>?_
      simp only[reduceIte,Zye,Yd,Yz,delL]
      have k6:=Ya h6
      have k9:=Ya h9
      have k9a:=Ya k9.2
      have hS1f:(st.upd x (.cells [.str k.d.name,Ka k.d.msgs,.str k.d.start,.map bd,.map bs,.int .i64 k.at_,.int .i64 (-1),.str m.name,Z0 m.fields]))=S:=hS1e
      rw[hS1f]at h2 k6 k9 k9a⊢
      have hnx:Zae S z2 z6 z9:=⟨h2,k6,⟨k9.1,k9a⟩⟩
      clear h6 h9 k6 k9 k9a h2
      have hlen:(KY m).length≤1000000:=by
       have:=Zac (m.fields.flatMap YW) []
       unfold KY
       simp only[List.length_nil,Nat.zero_add]at this
       omega
      have hmst:S.sub (nxS S x z2 z6 z9 (m.fields.all fun f=>!f.loose) 0):=hnx.sub
      rw[show((S.upd z2 (.cells [.ptr x 0])).upd z6 (.cells [.bool (m.fields.all fun f=>!f.loose)])).upd z9 (.cells [.int .i64 0])=nxS S x z2 z6 z9 (m.fields.all fun f=>!f.loose) 0 from rfl]
      refine rx @eQ2 ?_
      refine Ye rfl rfl rfl rfl rfl (by trivial) (by trivial) (by exact Zlr m hrefs _) ?_ ?_
      ·rintro d S2 ⟨y,hy,hd,rfl⟩
       cases hd
       refine Za ?_
       simp only[Eqs,reduceIte,Zye]
       refine Zh ?_
       have hld:ddS (m.fields.flatMap YW)=KY m:=rfl
       have hit:=Zjj (m.fields.flatMap YW) (by unfold big;omega) y
       rw[hld]at hit
       refine Zdi hF rfl trivial [2,6,9] (by show([2,6,9]:List Nat).Nodup;decide) (ZbC hy) hit (fun j hj=>rfl) (fun _=>.next)
        (fun j a=>a=nxS S x z2 z6 z9 ((m.fields.all fun f=>!f.loose)&&((KY m).take j).all fun s=>(ZQ s sl).getD false) (((KY m).take j).foldl (fun a s=>max a ((ZQ s dl).getD 0)) 0)) (by simp) ?_ ?_ ?_ ?_ ?_ ?_
       ·intro j a hj hno hB F' ready busy hdr hbeg hend
        subst hB
        simp only[Eqs,reduceIte,Zye,Ja,JC,Zbs,JK,List.isEmpty_nil]
        refine rg ?_
        refine hbeg fun hdb=>?_
        have hall:=Zhr (p:=fun s:Str=>(ZQ s sl).getD false) hj
        have hfold:=ZsH (f:=fun a s=>max a ((ZQ s dl).getD 0)) (b:=(0:Int)) hj
        generalize hnm:(KY m).getD j dE=nm at *
        have e1:=QG (vD:=ZbJ) Wa nm dl
        have e2:=QG (vD:=D.bool) Wa nm sl
        have e3:=Jl Wa nm
        simp only[show Zar nm=D.str nm from rfl]at e1 e2 e3
        rw[hall,hfold]at hend
        generalize ((KY m).take j).foldl (fun a s=>max a ((ZQ s dl).getD 0)) 0=dp at *
        generalize ((KY m).take j).all (fun s=>(ZQ s sl).getD false)=sb at *
        generalize (m.fields.all fun f=>!f.loose)=lo at *
        refine Zh (Zi (Zdj (Ql ?_)))
        simp only[Eqs,reduceIte,Zye,Zyq,Zc.r18,ZU (hnx.g2 ),ZU (Zae.g9 ),ZU (hnx.gs hst1.x),ZU (hnx.gs hst1.bd),Ck.cells,e1,ZwH,JB,Zae.u9]
        refine Ys (Za ?_)
        simp only[Eqs,reduceIte,Zye,Zyq,Zc.r19,ZU (hnx.g2 ),ZU (hnx.g6 ),ZU (hnx.gs hst1.x),ZU (hnx.gs hst1.bs),Ck.cells,e2,Zlh,JB,hnx.u6]
        refine ZW ?_
        exact hend.fin ⟨rfl,by rw[←Bool.and_assoc]⟩ (Zae.disj hdb) (Zyi _)
       ·intro q a hno hB hq
        subst hB
        rw[ZyA]at hq⊢
        rw[Zbg hq]
        rw[show((m.fields.all fun f=>!f.loose)&&(KY m).all fun s=>(ZQ s sl).getD false)=Za0 sl m from rfl,show(KY m).foldl (fun a s=>max a ((ZQ s dl).getD 0)) 0=Jq dl m from rfl]at hq⊢
        have hdp:=Zim (m:=m) hdl
        generalize Za0 sl m=sb at *
        generalize Jq dl m=dp at *
        have gX2:=ZU (t:=ZyG q .dfr) (hnx.g2 (x:=x) (sb:=sb) (dp:=dp))
        have gX6:=ZU (t:=ZyG q .dfr) (hnx.g6 (x:=x) (sb:=sb) (dp:=dp))
        have gX9:=ZU (t:=ZyG q .dfr) (Zae.g9 (s1:=S) (x:=x) (z2:=z2) (z6:=z6) (z9:=z9) (sb:=sb) (dp:=dp))
        have gXx:=ZU (t:=ZyG q .dfr) (hnx.gs (x:=x) (sb:=sb) (dp:=dp) hst1.x)
        have gXd:=ZU (t:=ZyG q .dfr) (hnx.gs (x:=x) (sb:=sb) (dp:=dp) hst1.bd)
        have gXs:=ZU (t:=ZyG q .dfr) (hnx.gs (x:=x) (sb:=sb) (dp:=dp) hst1.bs)
        generalize hX:(nxS S x z2 z6 z9 sb dp).or (ZyG q .dfr)=X at *
        have n2:∀b o,S b=sO o→z2≠b:=fun b o h e=>by rw[←e,hnx.n2]at h;simp at h
        have n6:∀b o,S b=sO o→z6≠b:=fun b o h e=>by rw[←e,hnx.n6.2]at h;simp at h
        have n9:∀b o,S b=sO o→z9≠b:=fun b o h e=>by rw[←e,hnx.n9.2.2]at h;simp at h
        have u2:∀(Y:St) o,(Y.upd bd o) z2=Y z2:=fun Y o=>Zyn _ _ (n2 _ _ hst1.bd)
        have u6:∀(Y:St) o,(Y.upd bd o) z6=Y z6:=fun Y o=>Zyn _ _ (n6 _ _ hst1.bd)
        have u9:∀(Y:St) o,(Y.upd bd o) z9=Y z9:=fun Y o=>Zyn _ _ (n9 _ _ hst1.bd)
        have ux:∀(Y:St) o,(Y.upd bd o) x=Y x:=fun Y o=>Zyn _ _ hne.1
        have us:∀(Y:St) o,(Y.upd bd o) bs=Y bs:=fun Y o=>Zyn _ _ hdd.symm
        have v2:∀(Y:St) o,(Y.upd bs o) z2=Y z2:=fun Y o=>Zyn _ _ (n2 _ _ hst1.bs)
        have v6:∀(Y:St) o,(Y.upd bs o) z6=Y z6:=fun Y o=>Zyn _ _ (n6 _ _ hst1.bs)
        have v9:∀(Y:St) o,(Y.upd bs o) z9=Y z9:=fun Y o=>Zyn _ _ (n9 _ _ hst1.bs)
        have vx:∀(Y:St) o,(Y.upd bs o) x=Y x:=fun Y o=>Zyn _ _ hne.2
        have d1:=Zn4 (vD:=ZbJ) Wa m.name (D.int .i64 0) dl
        have d2:=Zdf (vD:=ZbJ) Wa m.name (dp+1) dl
        have s1:=Zn4 (vD:=D.bool) Wa m.name (D.bool false) sl
        have s2:=Zdf (vD:=D.bool) Wa m.name sb sl
        simp only[show Zar m.name=D.str m.name from rfl,show ZbJ (dp+1)=D.int .i64 (dp+1) from rfl]at d1 d2 s1 s2
        refine rx (nd2 @eQ2 (nd2 @gX2 (nd2 @gX6 (nd2 @gX9 (nd2 @gXx (nd2 @gXd (nd2 @gXs (nd2 @u2 (nd2 @u6 (nd2 @u9 (nd2 @ux (nd2 @us (nd2 @v2 (nd2 @v6 (nd2 @v9 (nd2 @vx (nd2 @d1 (nd2 @d2 (nd2 @s1 (nd2 @s2 (nd2 @e3 (nd2 @Ck.cells.eq_1 (nd2 @Zyo (nd2 @Zyz (nd2 @KZ @K0))))))))))))))))))))))))) ?_
        refine aa ?_
        refine rx (nd2 @u2 (nd2 @v2 (nd2 @gX2 (nd2 @u9 (nd2 @v9 @gX9))))) ?_
        have hX2:(X.upd bd (.map (ZaL Zar ZbJ (KI m.name (dp+1) dl)))).upd bs (.map (ZaL Zar D.bool (KI m.name sb sl)))=(nxS ((S.upd bd (.map (Zp8 (KI m.name (dp+1) dl)))).upd bs (.map (Jz (KI m.name sb sl)))) x z2 z6 z9 sb dp).or (ZyG q .dfr):=by
         rw[←hX,JB,JB,hnx.ub hst1.bd,(hnx.of hst1.bd).ub (by rw[us];exact hst1.bs)]
        have hnx2:Zae ((S.upd bd (.map (Zp8 (KI m.name (dp+1) dl)))).upd bs (.map (Jz (KI m.name sb sl)))) z2 z6 z9:=(hnx.of hst1.bd).of (by rw[us];exact hst1.bs)
        have hq2:(nxS ((S.upd bd (.map (Zp8 (KI m.name (dp+1) dl)))).upd bs (.map (Jz (KI m.name sb sl)))) x z2 z6 z9 sb dp) q=nO:=by
         have hqb:q≠bs:=fun e=>by have:=hnx.gs (x:=x) (sb:=sb) (dp:=dp) hst1.bs;rw[←e,hq]at this;simp at this
         have hqd:q≠bd:=fun e=>by have:=hnx.gs (x:=x) (sb:=sb) (dp:=dp) hst1.bd;rw[←e,hq]at this;simp at this
         rw[←(hnx.of hst1.bd).ub (by rw[us];exact hst1.bs),←hnx.ub hst1.bd,Zyn _ _ hqb,Zyn _ _ hqd];exact hq
        have hx3:((X.upd bd (.map (ZaL Zar ZbJ (KI m.name (dp+1) dl)))).upd bs (.map (ZaL Zar D.bool (KI m.name sb sl)))) x=sO (.cells (({ k with field:=-1,m:=m }:Ck).cells bd bs)):=by rw[vx,ux];exact gXx
        refine Ye rfl rfl rfl rfl rfl (by trivial) (by trivial) (by exact YP hx3 (dC (dp<16)) 10) ?_ ?_
        ·rintro d S3 h
         obtain⟨hok3,rfl,rfl⟩:=Kv h
         rw[hok3]at hS
         refine Za ?_
         simp only[Eqs]
         rw[hX2]
         exact hF.fin1 hq2 (.tup []) _ rfl trivial (Zyj _) hnx2.sub (by rw[hS];exact⟨rfl,by rw[←hS1e]⟩)
        ·rintro d S3 h
         obtain⟨hok3,hfl,rfl⟩:=Ku h
         rw[hok3]at hS
         rw[hX2]
         exact hF.pan1 hq2 _ hnx2.sub (by rw[hS];exact⟨⟨d,hfl,rfl⟩,fun b h1 h2 h3=>by rw[Zyn _ _ h3,Zyn _ _ h2,←hS1e,Zyn _ _ h1]⟩)
       ·intro q a m hm hno hgo;simp at hgo
       ·intro q a m id hm hno hgo;simp at hgo
       ·intro q a m d hm hno hgo;simp at hgo
       ·intro m c hgo;simp at hgo
      ·rintro d S2 ⟨y,hy,hd,_⟩
       cases hd
    have hkk:=key _ 0 rfl (-1) (by simp[Zak]) (by omega)
    rw[hS1e]at hkk
    exact hkk
   ·rintro d S h
    obtain⟨hok,hfl,rfl⟩:=Ku h
    rw[hok,ZyH]at hS
    exact hF.pan _ (Zyi _) (hbad _ hS hfl)
  ·rintro d S h
   obtain⟨hok,hfl,rfl⟩:=Ku h
   rw[hok,ZyH]at hS
   exact hF.pan _ (Zyi _) (hbad _ hS hfl)
 ·rintro d S h
  obtain⟨hok,hfl,rfl⟩:=Ku h
  rw[hok,ZyH]at hS
  exact hF.pan _ (Zyi _) (hbad _ hS hfl)
theorem ZtF{P:Program}{F:Fr P}{d:D}(h:DWf d→K1 F ρ L d s):K1 F ρ L d s :=
 fun g ν w v todo tmps hN m hr=>h hr.wf g ν w v todo tmps hN m hr
theorem DWf.iface_inv{t:TypeId}{d:D}(h:DWf (.iface t d)):DWf d:=by
 cases h with
 |iface _ _ h=>exact h
 |other _ h=>exact absurd h (by simp)
theorem Zik{P:Program}{i:FuncId}{args:List D}{m:Option D}{Ψ Ψ':Bool→St→Prop}(h:ZcY P i args m s Ψ)(hi:∀b S,Ψ b S→Ψ' b S):ZcY P i args m s Ψ' :=
 ⟨h.1,fun g w vs cf cs h1 h2 h3=>by
  obtain⟨g',w',s',b,a1,a2,a3,a4⟩:=h.2 g w vs cf cs h1 h2 h3
  exact⟨g',w',s',b,a1,a2,hi _ _ a3,a4⟩⟩
theorem ZgH{z3 z4:Nat}{c:Wt}{b:Bool}{st:St}(h3:st z3=sO c)(h4:st z4=sO (.cells [.bool b])):
  ZcY Zyg Yg.id [.ptr z3 0,.ptr z4 0] nO st fun _ S=>S=st:=by
 refine ZiF Yg.ok rfl (by simp) fun F hF=>?_
 refine rg ?_
 refine Zkx hF rfl rfl ?_
 refine Za ?_
 simp only[Eqs,reduceCtorEq,reduceIte,Zye]
 refine rg ?_
 refine cd (fun h=>?_) (fun h=>?_)
 ·simp at h
 ·refine Yw ?_
  exact hF.fin (Zyi _) rfl
theorem ZgI{z3 z4:Nat}{b:Bool}{st:St}(hz:z3≠z4)(x y z:Int)(hx:inR .i64 x)(hy:inR .i64 y)(hw:inR .i64 z)(h3:st z3=sO (.cells [.int .i64 0,.int .i64 0,.int .i64 0]))(h4:st z4=sO (.cells [.bool b])):
  ZcY Zyg Yg.id [.ptr z3 0,.ptr z4 0] (sO (ZhH x y z)) st fun b S=>b=true∧S=(st.upd z3 (.cells [.int .i64 x,.int .i64 y,.int .i64 z])).upd z4 (.cells [.bool true]):=by
 refine ZiF Yg.ok rfl (by rintro d ⟨⟩;exact⟨hx,hy,hw,trivial⟩) fun F hF=>?_
 have h4b:∀o,(st.upd z3 o) z4=sO (.cells [.bool b]):=fun o=>by rw[Zyn _ _ (Ne.symm hz)];exact h4
 refine rg ?_
 refine Zsg hF rfl rfl fun F2 hF2=>?_
 refine Za ?_
 simp only[Eqs,reduceCtorEq,reduceIte,Zye]
 refine rx @ZhH.eq_1 ?_
 refine cd (fun h=>?_) (fun h=>?_)
 ·refine rx (nd2 @ZhH.eq_1 (nd2 @h3 (nd2 @h4 (nd2 @h4b (nd2 @Zyo (nd2 @Zyz (nd2 @KZ @K0))))))) ?_
  refine rx (nd2 @h4 (nd2 @h4b (nd2 @Zyo (nd2 @Zyz (nd2 @KZ @K0))))) ?_
  refine cd (fun h5=>?_) (fun h5=>?_)
  ·simp at h5
  ·refine Yw ?_
   exact hF2.fin (Zyi _) ⟨rfl,rfl⟩
 ·simp[ZhH]at h
def ZdG(dl:List (Str×Int))(sl:List (Str×Bool)):List Msg→Option (List (Str×Int)×List (Str×Bool))
 | []=>sO (dl,sl)
 |m::r=>if ZeU dl sl m then ZdG (KI m.name (Jq dl m+1) dl) (KI m.name (Za0 sl m) sl) r else nO
def ZeB(d:Dfn):Bool :=
 K4 d.name&&((dC (1≤(d.msgs.length:Int))&&dC ((d.msgs.length:Int)≤60))&&(ZdG [] [] d.msgs).elim false fun p=>(ZQ d.start p.1).isSome)
theorem ZkL(dl:List (Str×Int))(sl:List (Str×Bool))(l l':List Msg):ZdG dl sl (l++l')=(ZdG dl sl l).elim nO fun p=>ZdG p.1 p.2 l':=by
 induction l generalizing dl sl with
 |nil=>rfl
 |cons m r ih =>
  simp only[List.cons_append,ZdG]
  split
  ·exact ih _ _
  ·rfl
theorem Zor{l:List Msg}{i:Nat}{dl:List (Str×Int)}{sl:List (Str×Bool)}(h:ZdG [] [] (l.take i)=sO (dl,sl))(hi:i<l.length):ZdG [] [] (l.take (i+1))=if ZeU dl sl (l.getD i dE) then sO (KI (l.getD i dE).name (Jq dl (l.getD i dE)+1) dl,KI (l.getD i dE).name (Za0 sl (l.getD i dE)) sl) else nO:=by
 rw[WF hi,ZkL,h];rfl
theorem ZvS{l:List Msg}{i:Nat}{dl:List (Str×Int)}{sl:List (Str×Bool)}(h:ZdG [] [] (l.take i)=sO (dl,sl))(hi:i<l.length)(hb:ZeU dl sl (l.getD i dE)=false):ZdG [] [] l=nO:=by
 have h1:=Zor h hi
 rw[hb]at h1
 rw[←List.take_append_drop (i+1) l,ZkL,h1]
 rfl
structure Zcr(S st:St)(x bd bs z3 z4:Nat)(k:Ck)(dl:List (Str×Int))(sl:List (Str×Bool)):Prop where
 ck:J8 S x bd bs k dl sl
 c3:S z3=some (.cells [.int .i64 0,.int .i64 0,.int .i64 0])
 c4:S z4=some (.cells [.bool false])
 sub:st.sub S
 fx:st x=none
 fd:st bd=none
 fs:st bs=none
 f3:st z3=none
 f4:st z4=none
 nd:bd≠bs
 n34:z3≠z4
section
variable {S st:St} {x bd bs z3 z4:Nat} {k:Ck} {dl:List (Str × Int)} {sl:List (Str × Bool)}
theorem Zcr.n3(h:Zcr S st x bd bs z3 z4 k dl sl):z3≠x∧z3≠bd∧z3≠bs:=by
 refine⟨fun e=>?_,fun e=>?_,fun e=>?_⟩
 ·have h3:=h.c3;rw[e,h.ck.x]at h3;simp[Ck.cells]at h3
 ·have h3:=h.c3;rw[e,h.ck.bd]at h3;simp at h3
 ·have h3:=h.c3;rw[e,h.ck.bs]at h3;simp at h3
theorem Zcr.n4(h:Zcr S st x bd bs z3 z4 k dl sl):z4≠x∧z4≠bd∧z4≠bs:=by
 refine⟨fun e=>?_,fun e=>?_,fun e=>?_⟩
 ·have h3:=h.c4;rw[e,h.ck.x]at h3;simp[Ck.cells]at h3
 ·have h3:=h.c4;rw[e,h.ck.bd]at h3;simp at h3
 ·have h3:=h.c4;rw[e,h.ck.bs]at h3;simp at h3
theorem Zcr.move(h:Zcr S st x bd bs z3 z4 k dl sl){S':St}{k':Ck}{dl':List (Str×Int)}{sl':List (Str×Bool)}(hc:J8 S' x bd bs k' dl' sl')(ho:∀b,b≠x→b≠bd→b≠bs→S' b=S b):Zcr S' st x bd bs z3 z4 k' dl' sl':={
 ck:=hc
 c3:=by rw[ho _ h.n3.1 h.n3.2.1 h.n3.2.2];exact h.c3
 c4:=by rw[ho _ h.n4.1 h.n4.2.1 h.n4.2.2];exact h.c4
 sub b o hb:=by
  rw[ho b (fun e=>by rw[e,h.fx]at hb;simp at hb) (fun e=>by rw[e,h.fd]at hb;simp at hb) (fun e=>by rw[e,h.fs]at hb;simp at hb)];exact h.sub b o hb
 fx:=h.fx
 fd:=h.fd
 fs:=h.fs
 f3:=h.f3
 f4:=h.f4
 nd:=h.nd
 n34:=h.n34 }
theorem Zcr.updX(h:Zcr S st x bd bs z3 z4 k dl sl)(k':Ck):Zcr (S.upd x (.cells (k'.cells bd bs))) st x bd bs z3 z4 k' dl sl :=
 h.move (h.ck.updX k') fun b h1 _ _=>Zyn _ _ h1
theorem Zcr.bad(h:Zcr S st x bd bs z3 z4 k dl sl){S':St}(ho:∀b,b≠x→b≠bd→b≠bs→S' b=S b){F:Fr Zyg}(hF:KJ F Zn.df.res (fun r S=>S=st∧∃a f c,r=Res.ret (.tup [.any,.agg [.int .i64 a,.int .i64 f,.int .i64 c],.bool true])) [.fn Yg.id [] [.ptr z3 0,.ptr z4 0]]){d:D}(hd:Zeq d)(hr:∀s' c3,s' z3=sO (.cells c3)→c3.length=3→s' z4=sO (.cells [.bool true])→∃p,K5 ρ L s' Zn.df.res=sO (p,[.ptr x 0,.agg c3,.bool true])∧p):K1 F ρ L d S':=by
 obtain⟨a,f,c,rfl⟩:=hd
 refine ZtF fun hw=>?_
 have hw2:=DWf.agg_inv (DWf.iface_inv hw)
 have h1:inR .i64 a:=(hw2 _ (by simp)).int_inv
 have h2:inR .i64 f:=(hw2 _ (by simp)).int_inv
 have h3:inR .i64 c:=(hw2 _ (by simp)).int_inv
 have z3':S' z3=sO (.cells [.int .i64 0,.int .i64 0,.int .i64 0]):=by rw[ho _ h.n3.1 h.n3.2.1 h.n3.2.2];exact h.c3
 have z4':S' z4=sO (.cells [.bool false]):=by rw[ho _ h.n4.1 h.n4.2.1 h.n4.2.2];exact h.c4
 refine hF.panU ⟨trivial,⟨rfl,rfl,trivial⟩,Zik (ZgI h.n34 a f c h1 h2 h3 z3' z4') ?_⟩
 rintro b S2 ⟨rfl,rfl⟩
 obtain⟨p,hp1,hp2⟩:=hr ((S'.upd z3 (.cells [.int .i64 a,.int .i64 f,.int .i64 c])).upd z4 (.cells [.bool true])) [.int .i64 a,.int .i64 f,.int .i64 c] (by rw[Zyn _ _ h.n34,Zyo]) rfl (Zyo _ _ _)
 refine⟨p,_,_,st,hp1,hp2,?_,?_,rfl,a,f,c,rfl⟩
 ·exact ZmX rfl (.cons (fun _ _ v _=>.any v) (LeC.refl _))
 ·intro b o hb
  have e1:b≠z3:=fun e=>by rw[e,h.f3]at hb;simp at hb
  have e2:b≠z4:=fun e=>by rw[e,h.f4]at hb;simp at hb
  rw[Zyn _ _ e2,Zyn _ _ e1]
  rw[ho b (fun e=>by rw[e,h.fx]at hb;simp at hb) (fun e=>by rw[e,h.fd]at hb;simp at hb) (fun e=>by rw[e,h.fs]at hb;simp at hb)];exact h.sub b o hb
end
theorem Zcr.mk0{st:St}{bd bs x z3 z4:Nat}{c:List D}(hbd:st bd=nO)(hbs:st.upd bd (.map []) bs=nO)(hx:(st.upd bd (.map [])).upd bs (.map []) x=nO)(h3:((st.upd bd (.map [])).upd bs (.map [])).upd x (.cells c) z3=nO)(h4:(((st.upd bd (.map [])).upd bs (.map [])).upd x (.cells c)).upd z3 (.cells [.int .i64 0,.int .i64 0,.int .i64 0]) z4=nO)(k:Ck):
  ((((st.upd bd (.map [])).upd bs (.map [])).upd x (.cells c)).upd z3 (.cells [.int .i64 0,.int .i64 0,.int .i64 0])).upd z4 (.cells [.bool false]) x=sO (.cells c) ∧
  Zcr ((((((st.upd bd (.map [])).upd bs (.map [])).upd x (.cells c)).upd z3 (.cells [.int .i64 0,.int .i64 0,.int .i64 0])).upd z4 (.cells [.bool false])).upd x (.cells (k.cells bd bs))) st x bd bs z3 z4 k [] []:=by
 have a4:=Ya h4
 have b4:=Ya a4.2
 have c4:=Ya b4.2
 have d4:=Ya c4.2
 have a3:=Ya h3
 have b3:=Ya a3.2
 have c3:=Ya b3.2
 have ax:=Ya hx
 have bx:=Ya ax.2
 have as1:=Ya hbs
 refine⟨?_,⟨⟨?_,?_,?_⟩,?_,?_,?_,?_,?_,?_,?_,?_,?_,?_⟩⟩
 ·rw[Zyn _ _ b4.1.symm,Zyn _ _ a3.1.symm,Zyo]
 ·exact Zyo _ _ _
 ·rw[Zyn _ _ bx.1.symm,Zyn _ _ d4.1.symm,Zyn _ _ c3.1.symm,Zyn _ _ bx.1.symm,Zyn _ _ as1.1.symm,Zyo];rfl
 ·rw[Zyn _ _ ax.1.symm,Zyn _ _ c4.1.symm,Zyn _ _ b3.1.symm,Zyn _ _ ax.1.symm,Zyo];rfl
 ·rw[Zyn _ _ a3.1,Zyn _ _ a4.1.symm,Zyo]
 ·rw[Zyn _ _ b4.1,Zyo]
 ·intro b o hb
  have e:∀y,st y=nO→b≠y:=fun y hy e=>by rw[e,hy]at hb;simp at hb
  rw[Zyn _ _ (e _ bx.2),Zyn _ _ (e _ d4.2),Zyn _ _ (e _ c3.2),Zyn _ _ (e _ bx.2),Zyn _ _ (e _ as1.2),Zyn _ _ (e _ hbd)];exact hb
 ·exact bx.2
 ·exact hbd
 ·exact as1.2
 ·exact c3.2
 ·exact d4.2
 ·exact as1.1.symm
 ·exact a4.1.symm
theorem ZsW{c:List D}(h:c.length=3):∃a b d,c=[a,b,d]:=by
 match c,h with
 | [a,b,d],_=>exact⟨a,b,d,rfl⟩
theorem Zjk(d:Dfn)(st:St):
  ZN Zyg Zn.id [.agg d.cells] st fun r S=>S=st∧∃a f c,r=.ret (.tup [.any,.agg [.int .i64 a,.int .i64 f,.int .i64 c],.bool (!ZeB d)]):=by
 refine ZM Zn.ok fun F hF=>?_
 have hS:=ZeB.eq_1 d
 refine rx @eQ3 ?_
 refine rx @eQ3 ?_
 intro bd hbd bs hbs
 refine Zi ?_
 refine Z1 13 rfl fun x hx=>?_
 simp only[reduceIte,Zye,Yd,Yz,delL]
 refine Z1 3 rfl fun z3 h3=>?_
 simp only[reduceIte,Zye,Yd,Yz,delL]
 refine Z1 4 rfl fun z4 h4=>?_
 simp only[reduceIte,Zye,Yd,Yz,delL]
 refine rg ?_
 refine Zpc (by obtain⟨_,_,_,_,_,_,rfl⟩:=hF;rfl) rfl rfl rfl rfl rfl rfl trivial trivial ?_ ?_ ?_
 ·trivial
 ·exact⟨rfl,rfl,trivial⟩
 have hF':=hF.defer 106 [] [.ptr z3 0,.ptr z4 0]
 clear hF
 refine Za ?_
 simp only[Eqs,reduceIte,Zye]
 generalize F.defer 106 [] [.ptr z3 0,.ptr z4 0]=F at hF'⊢
 obtain⟨hx0,hex⟩:=Zcr.mk0 hbd hbs hx h3 h4 ⟨d,-1,-1,⟨[],[]⟩⟩
 refine ZbB hx0 (ds':=Ck.cells ⟨d,-1,-1,⟨[],[]⟩⟩ bd bs) (.cons (Zyj _) (.cons (Zyj _) (.cons (Zyj _) (.cons (Zyj _) (.cons (Zyj _) (.cons (Zyj _) (.cons (Zyj _) (.cons (Zyj _) (.cons (JL fun b h=>by cases h) .nil))))))))) ?_
 generalize (St.upd (St.upd (St.upd (St.upd (St.upd (St.upd st _ _) _ _) _ _) _ _) _ _) _ _)=S at *
 clear hbd hbs hx h3 h4 hx0
 refine rx @eQ3 ?_
 refine cl (ZdK d.name) ?_
 refine Ye rfl rfl rfl rfl rfl (by trivial) (by trivial) (by exact YP hex.ck.x (K4 d.name) 1) ?_ ?_
 ·rintro dd S2 h
  obtain⟨hok,rfl,rfl⟩:=Kv h
  rw[hok,Zyy]at hS
  refine Za ?_
  simp only[Eqs,reduceIte,Zye]
  refine rx (nd2 @eQ3 (nd2 @eQ5 @eQ1)) ?_
  refine Ye rfl rfl rfl rfl rfl (by trivial) (by trivial) (by exact YP hex.ck.x (dC (1≤(d.msgs.length:Int))&&dC ((d.msgs.length:Int)≤60)) 3) ?_ ?_
  ·rintro dd S2 h
   obtain⟨hok,rfl,rfl⟩:=Kv h
   rw[hok,Zyy]at hS
   simp only[Zyk,decide_eq_true_eq]at hok
   have hlen:=hok.2
   refine Za ?_
   simp only[Eqs,reduceIte,Zye]
   refine rx (nd2 @eQ3 (nd2 @eQ5 @eQ1)) ?_
   generalize hkk:(⟨d,-1,-1,⟨[],[]⟩⟩:Ck)=k0 at *
   have hk0:k0.d=d:=by rw[←hkk]
   clear hkk
   refine Zh (fr (d.msgs.length) (fun i Q=>∀(S:St) (k:Ck) dl sl,Zcr S st x bd bs z3 z4 k dl sl→k.d=d→ZdG [] [] (d.msgs.take i)=sO (dl,sl)→(∀s,0≤(ZQ s dl).getD 0∧(ZQ s dl).getD 0≤16)→i≤d.msgs.length→Q [(1,.loc 1 0),(2,.d (.ptr x 0)),(3,.d (.ptr z3 0)),(4,.d (.ptr z4 0)),(33,.d (Ka d.msgs)),(34,.d (.int .i64 d.msgs.length)),(35,.d (.int .i64 i))] [(1,d.cells)] S) (fun n ih_key=>?_) fun key=>?_)
   ·intro i hni S k dl sl hex hkd hrun hdl hi
    refine rg ?_
    refine Zi (YC rfl trivial (fun h1=>?_) (fun h1=>?_))
    ·simp at h1
     refine rx (nd2 @eQ5 (nd2 @eQ1 @eQ2)) ?_
     refine aa ?_
     refine rx (nd2 @hex.ck.x (nd2 @Ck.cells.eq_1 (nd2 @Zyo (nd2 @Zyz (nd2 @KZ @K0))))) ?_
     have hcx:(S.upd x (.cells [.str k.d.name,Ka k.d.msgs,.str k.d.start,.map bd,.map bs,.int .i64 i,.int .i64 k.field,.str k.m.name,Z0 k.m.fields]))=S.upd x (.cells (({ k with at_:=i }:Ck).cells bd bs)):=rfl
     rw[hcx]
     have hex1:=hex.updX { k with at_:=i }
     generalize S.upd x (.cells (({ k with at_:=i }:Ck).cells bd bs))=S1 at *
     have hk1d:({ k with at_:=(i:Int) }:Ck).d=d:=hkd
     clear hcx hex
     generalize ({ k with at_:=i }:Ck)=k1 at *
     have hrt:=Zor hrun h1
     have hrb:=ZvS hrun h1
     generalize hm:d.msgs.getD i dE=m at *
     refine rx @hm ?_
     rw[show(D.agg [.str m.name,Z0 m.fields])=.agg m.cells from rfl]
     refine Ye rfl rfl rfl rfl rfl (by trivial) (by trivial) (by exact Zny hex1.ck hex1.nd hdl m) ?_ ?_
     ·rintro dd S2 h
      unfold Zfn at h
      split at h
      ·rename_i hok
       rw[if_pos hok]at hrt
       obtain⟨h4,h5⟩:=h
       cases h4
       have hex2:=hex1.move (S':=S2) (k':={ k1 with field:=-1,m:=m }) (dl':=KI m.name (Jq dl m+1) dl) (sl':=KI m.name (Za0 sl m) sl) (by
         subst h5
         have hne:=hex1.ck.ne
         exact⟨by rw[Zyn _ _ hne.2,Zyn _ _ hne.1,Zyo],by rw[Zyn _ _ hex1.nd,Zyo],Zyo _ _ _⟩) (fun b h1 h2 h3=>by rw[h5,Zyn _ _ h3,Zyn _ _ h2,Zyn _ _ h1])
       have hdl2:∀s,0≤(ZQ s (KI m.name (Jq dl m+1) dl)).getD 0∧(ZQ s (KI m.name (Jq dl m+1) dl)).getD 0≤16:=fun s=>by
        rw[Zbn]
        split
        ·have hd16:=Zim (m:=m) hdl
         have:Jq dl m<16:=by
          unfold ZeU at hok
          simp only[Zyk,decide_eq_true_eq]at hok
          exact hok.2.2.2.2
         simp only[ZyL];omega
        ·exact hdl s
       clear h5
       refine Za ?_
       simp only[Eqs,reduceIte,Zye]
       refine rg ?_
       refine aa ?_
       refine Zf ?_
       exact ih_key ((d.msgs.length)-(i+1)) (by omega) (i+1) rfl _ _ _ _ hex2 hk1d hrt hdl2 (by omega)
      ·exact absurd h.1 (by simp)
     ·rintro dd S2 h
      unfold Zfn at h
      split at h
      ·exact absurd h.1 (by simp)
      ·rename_i hbad
       obtain⟨⟨d2,hfl,h4⟩,h5⟩:=h
       cases h4
       have hb:ZeU dl sl m=false:=by simpa using hbad
       rw[hrb hb]at hS
       exact hex1.bad h5 (by rw[hS]at hF';exact hF') hfl (fun s' c3 h1 h2 h3=>by obtain⟨u1,u2,u3,rfl⟩:=ZsW h2;refine⟨_,by simp only[Eqs,reduceIte,Zye,ZyB,Zyq,Zn.df,K5,JU,h1,h3];rfl,?_⟩;trivial)
    ·simp at h1
     obtain rfl:i=d.msgs.length:=by omega
     rw[ZyA]at hrun
     rw[hrun]at hS
     simp only[Option.elim]at hS
     refine rx (nd2 @hex.ck.x (nd2 @Ck.cells.eq_1 (nd2 @Zyo (nd2 @Zyz (nd2 @KZ @K0))))) ?_
     have hcx:(S.upd x (.cells [.str k.d.name,Ka k.d.msgs,.str k.d.start,.map bd,.map bs,.int .i64 (-1),.int .i64 k.field,.str k.m.name,Z0 k.m.fields]))=S.upd x (.cells (({ k with at_:=-1 }:Ck).cells bd bs)):=rfl
     rw[hcx]
     have hex1:=hex.updX { k with at_:=-1 }
     generalize S.upd x (.cells (({ k with at_:=-1 }:Ck).cells bd bs))=S1 at *
     clear hcx hex
     generalize ({ k with at_:=-1 }:Ck)=k1 at *
     have e1:=QG (vD:=ZbJ) Wa d.start dl
     have e3:=Jl Wa d.start
     simp only[show Zar d.start=D.str d.start from rfl]at e1 e3
     refine Zi (Zdj (Ql ?_))
     simp only[Eqs,reduceIte,Zye,Zn.r12,Dfn.cells,hex1.ck.x,hex1.ck.bd,Ck.cells,e1,Zli]
     refine rg ?_
     refine Ye rfl rfl rfl rfl rfl (by trivial) (by trivial) (by exact YP hex1.ck.x (ZQ d.start dl).isSome 11) ?_ ?_
     ·rintro dd S2 h
      obtain⟨hok,rfl,rfl⟩:=Kv h
      rw[hok]at hS
      refine Za ?_
      simp only[Eqs,reduceIte,Zye]
      have h4b:∀o,(S2.upd z3 o) z4=sO (.cells [.bool false]):=fun o=>by rw[Zyn _ _ hex1.n34.symm];exact hex1.c4
      refine rx (nd2 @hex1.c3 (nd2 @hex1.c4 (nd2 @h4b (nd2 @Zyo (nd2 @Zyz (nd2 @KZ @K0)))))) ?_
      refine hF'.retU ⟨trivial,⟨rfl,rfl,trivial⟩,Zik (ZgH (by rw[Zyn _ _ hex1.n34,Zyo]) (Zyo _ _ _)) ?_⟩
      rintro b S3 rfl
      rw[ite_self]
      have g3:((S2.upd z3 (.cells [.int .i64 0,.int .i64 0,.int .i64 0])).upd z4 (.cells [.bool false])) z3=sO (.cells [.int .i64 0,.int .i64 0,.int .i64 0]):=by rw[Zyn _ _ hex1.n34,Zyo]
      have g4:((S2.upd z3 (.cells [.int .i64 0,.int .i64 0,.int .i64 0])).upd z4 (.cells [.bool false])) z4=sO (.cells [.bool false]):=Zyo _ _ _
      refine⟨_,[.ptr x 0,.agg [.int .i64 0,.int .i64 0,.int .i64 0],.bool false],.tup [.any,.agg [.int .i64 0,.int .i64 0,.int .i64 0],.bool false],st,by simp only[Eqs,reduceIte,Zye,ZyB,Zyq,Zn.df,K5,JU,g3,g4];rfl,by trivial,?_,?_,rfl,0,0,0,by rw[hS];rfl⟩
      ·exact ZmX rfl (.cons (fun _ _ v _=>.any v) (LeC.refl _))
      ·intro b o hb
       have e1:b≠z3:=fun e=>by rw[e,hex1.f3]at hb;simp at hb
       have e2:b≠z4:=fun e=>by rw[e,hex1.f4]at hb;simp at hb
       rw[Zyn _ _ e2,Zyn _ _ e1]
       exact hex1.sub b o hb
     ·rintro dd S2 h
      obtain⟨hok,hfl,rfl⟩:=Ku h
      rw[hok]at hS
      exact hex1.bad (fun _ _ _ _=>rfl) (by rw[hS]at hF';exact hF') hfl (fun s' c3 h1 h2 h3=>by obtain⟨u1,u2,u3,rfl⟩:=ZsW h2;refine⟨_,by simp only[Eqs,reduceIte,Zye,ZyB,Zyq,Zn.df,K5,JU,h1,h3];rfl,?_⟩;trivial)
   exact key _ 0 rfl _ k0 [] [] hex hk0 rfl (by simp[ZQ]) (by omega)
  ·rintro dd S2 h
   obtain⟨hok,hfl,rfl⟩:=Ku h
   rw[hok,ZyH]at hS
   exact hex.bad (fun _ _ _ _=>rfl) (by rw[hS]at hF';exact hF') hfl (fun s' c3 h1 h2 h3=>by obtain⟨u1,u2,u3,rfl⟩:=ZsW h2;refine⟨_,by simp only[Eqs,reduceIte,Zye,ZyB,Zyq,Zn.df,K5,JU,h1,h3];rfl,?_⟩;trivial)
 ·rintro dd S2 h
  obtain⟨hok,hfl,rfl⟩:=Ku h
  rw[hok,ZyH]at hS
  exact hex.bad (fun _ _ _ _=>rfl) (by rw[hS]at hF';exact hF') hfl (fun s' c3 h1 h2 h3=>by obtain⟨u1,u2,u3,rfl⟩:=ZsW h2;refine⟨_,by simp only[Eqs,reduceIte,Zye,ZyB,Zyq,Zn.df,K5,JU,h1,h3];rfl,?_⟩;trivial)
theorem ZmH(d:Dfn)(st:St):
  ZN Zyg Kd.id [.agg d.cells] st fun r S=>S=st∧∃a f c,r=.ret (.tup [.agg [.int .i64 a,.int .i64 f,.int .i64 c],.bool (!ZeB d)]):=by
 refine ZM Kd.ok fun F hF=>?_
 refine rx @eQ3 ?_
 refine rx @eQ3 ?_
 rw[show(D.agg [.str d.name,Ka d.msgs,.str d.start])=.agg d.cells from rfl]
 refine Ye rfl rfl rfl rfl rfl (by trivial) (by trivial) (by exact Zjk d st) ?_ ?_
 ·rintro dd S2 ⟨rfl,a,f,c,h⟩
  cases h
  refine Za ?_
  simp only[Eqs,reduceIte,Zye,ZyB,Zyq]
  refine rg ?_
  exact hF.ret _ S2 rfl (by simp) (Zyj _) (Zyi _) ⟨rfl,a,f,c,rfl⟩
 ·rintro dd S2 ⟨_,a,f,c,h⟩
  cases h
theorem Zsv{f:Fld}(hk:ZaN f=true):dC (Zfw f=Zfi f.name f.kind)=Zeo f:=by
 unfold ZaN at hk
 simp only[Zyk,decide_eq_true_eq]at hk
 have hk2:f.kind=1∨f.kind=2∨f.kind=3∨f.kind=4∨f.kind=5∨f.kind=6∨f.kind=7∨f.kind=8∨f.kind=9∨f.kind=10∨f.kind=11∨f.kind=12:=by omega
 obtain⟨name,kind,bits,little,loose,low,high,size,of,tag,from_,cases_,check,key⟩:=f
 obtain⟨base,terms⟩:=size
 simp only at hk2
 clear hk
 rw[Bool.eq_iff_iff]
 rcases hk2 with h|h|h|h|h|h|h|h|h|h|h|h<;>subst h<;>simp[Zfw,ZpD,ZpE,ZpF,ZlT,ZpG,ZpH,ZlU,ZpI,ZlV,Zm9,Zna,ZjZ,Zfi,Zeo,zrA,zrB,zrC,Zfc,Ztu,JX]<;>(try(constructor<;>(intro h;simp_all)))<;>(try(intro _;simp only[and_assoc]))
theorem ZnN(lo hi a b:Int):Kc lo hi [a,b]=!(dC (a<lo) ||(dC (b<a) ||decide (hi<b))):=by
 rw[Bool.eq_iff_iff]
 simp[Kc]
 omega
theorem Zwl(f:Fld):Zec f=!ZaC f:=by
 rw[Bool.eq_iff_iff]
 unfold Zec ZaC
 cases f.little<;>simp
 by_cases h0:0≤f.bits
 ·rw[Int.tmod_eq_emod_of_nonneg h0];omega
 ·omega
theorem Zgu{α:Type}{p:α→Bool}{l:List α}{x:α}:ZB p (l++[x])=if 0≤ZB p l then ZB p l else if p x then l.length else -1:=by
 induction l with
 |nil=>simp[ZB]
 |cons y r ih =>
  have h1:=Zbi p r
  simp only[List.cons_append,ZB,ih,ZyE]
  split
  ·simp
  ·by_cases h:0≤ZB p r
   ·simp[h,show ¬ZB p r<0 by omega,show 0≤ZB p r+1 by omega]
   ·simp only[h,if_false,show ZB p r<0 by omega,if_true]
    by_cases hx:p x=true
    ·simp[hx,show ¬((r.length:Int)<0) by omega]
    ·simp[hx]
def Zfl(fs:List Fld)(n:Nat):Prop:=∀i,i<n→ZB (fun x=>dC (x.name=(fs.getD i dE).name)) (fs.take i)<0
theorem ZbP{α:Type}(p:α→Bool)(l:List α)(h:0≤ZB p l):(ZB p l).toNat<l.length:=by
 have:=QA p l;omega
theorem Zlm{fs:List Fld}{n:Nat}(hn:n≤fs.length)(hd:Zfl fs n)(k:Str):ZQ k (ZaA fs n)=YH (fs.take n) k:=by
 induction n with
 |zero=>simp[ZaA,ZQ,YH,ZB]
 |succ n ih =>
  have ih:=ih (by omega) fun i hi=>hd i (by omega)
  have hdn:=hd n (by omega)
  rw[WF (show n<fs.length by omega)]
  have hlen:(fs.take n).length=n:=by simp;omega
  simp only[ZaA]
  generalize fs.getD n dE=f at *
  unfold YH
  rw[Zgu]
  by_cases hk:f.name=k
  ·rw[hk]at hdn
   rw[if_neg (show ¬0≤ZB (fun f=>dC (f.name=k)) (fs.take n) by omega)]
   simp only[hk,decide_true,if_true,hlen,show ¬((n:Int)<0) by omega,if_false]
   have hg:(fs.take n++[f]).getD ((n:Int)).toNat dE=f:=by simp[Zyx,hlen]
   rw[hg]
   split
   ·rw[Zbn,if_pos rfl]
   ·rw[ih];unfold YH;rw[if_pos hdn]
  ·have hk2:¬k=f.name:=fun h=>hk h.symm
   have h0:ZQ k (if KV f=true then KI f.name (Wz f) (ZaA fs n) else ZaA fs n)=ZQ k (ZaA fs n):=by
    split
    ·rw[Zbn,if_neg hk2]
    ·rfl
   rw[h0,ih]
   unfold YH
   simp only[hk,decide_false,Zyt,if_false]
   by_cases hp:0≤ZB (fun f=>dC (f.name=k)) (fs.take n)
   ·have hl:=ZbP _ _ hp
    rw[if_pos hp]
    have hg:(fs.take n++[f]).getD (ZB (fun f=>dC (f.name=k)) (fs.take n)).toNat dE=(fs.take n).getD (ZB (fun f=>dC (f.name=k)) (fs.take n)).toNat dE:=by
     simp[Zyx,ZyM hl]
    rw[hg]
   ·rw[if_neg hp,if_pos (by omega),if_pos (by omega)]
structure Zdk(d:Dfn)(a:Nat)(deps:List Int)(dl:List (Str×Int))(sl:List (Str×Bool)):Prop where
 len:deps.length=a
 dep:∀s,ZQ s dl=if Z5 d s a<0 then none else some (deps.getD (Z5 d s a).toNat default)
 str:∀s,ZQ s sl=if Z5 d s a<0 then none else some ((QW d a).getD (Z5 d s a).toNat default)
theorem Zdk.has{d:Dfn}{a:Nat}{deps:List Int}{dl:List (Str×Int)}{sl:List (Str×Bool)}(h:Zdk d a deps dl sl)(s:Str):(ZQ s dl).isSome=!dC (Z5 d s a<0):=by
 rw[h.dep];split<;>simp_all
theorem Zdk.strict{d:Dfn}{a:Nat}{deps:List Int}{dl:List (Str×Int)}{sl:List (Str×Bool)}(h:Zdk d a deps dl sl)(s:Str):(ZQ s sl).getD false=(!dC (Z5 d s a<0)&&(QW d a).getD (Z5 d s a).toNat dE):=by
 rw[h.str];split<;>simp_all
theorem ZxA{f:Fld}(hk:f.kind=1∨f.kind=2):(if f.kind=1 then ck1 f else ck2 f)=dC (JF f=0):=by
 unfold ck1 ck2 JF Zcc ZjJ
 rw[Zwl,ZnN]
 cases hb:ZaC f
 ·have hp:(0:Int)<2 ^ f.bits.toNat:=by
   have:=Nat.two_pow_pos f.bits.toNat
   rw[show(2:Int) ^ f.bits.toNat=((2 ^ f.bits.toNat:Nat):Int) from(Int.natCast_pow 2 f.bits.toNat).symm]
   omega
  generalize (2:Int) ^ f.bits.toNat=pw at *
  rcases hk with hk|hk<;>rw[Bool.eq_iff_iff]<;>simp[hk,Kc]<;>(try split)<;>(try omega)
  all_goals (try simp_all)<;>omega
 ·simp
theorem Zlu{fs:List Fld}(hd:Zfl fs fs.length)(s:Qr):ZfX fs s=dC (Zbz fs s=0):=by
 have hL:(fun k=>ZQ k (Zaj fs))=YH fs:=by
  funext k
  have:=Zlm (Zys _) hd k
  rw[ZyA]at this;exact this
 unfold ZfX Zbz ivP
 rw[hL]
 have hk:s.terms.all (Zdy fs)=!s.terms.any (W6 (YH fs)):=by
  rw[List.not_any_eq_all_not]
  congr 1;funext t
  have:ZQ t.field (Zaj fs)=YH fs t.field:=congrFun hL _
  unfold Zdy W6;rw[this];simp
 rw[hk]
 cases Wm s
 ·simp
 ·cases s.terms.any (W6 (YH fs))
  ·simp only[Zyy,Bool.not_false,Zyt,if_false,Bool.true_eq_false]
   rw[Bool.eq_iff_iff]
   simp
   omega
  ·simp
theorem Zu5{d:Dfn}{a:Nat}{deps:List Int}{dl:List (Str×Int)}{sl:List (Str×Bool)}(h:Zdk d a deps dl sl)(hi lo:Int)(l:List QB):Zdr dl hi lo l=dC (Za5 d a hi lo l=0):=by
 induction l generalizing lo with
 |nil=>simp[Zdr,Za5]
 |cons c r ih =>
  simp only[Zdr,Za5,ZnN,h.has,ih]
  rcases Bool.eq_false_or_eq_true (dC (c.low<lo) ||(dC (c.high<c.low) ||decide (hi<c.high))) with hb|hb<;>simp only[hb]
  ·simp
  ·simp only[Bool.not_false,Zyy,Zyt,if_false]
   by_cases h2:Z5 d c.of a<0<;>simp[h2]
theorem Zvg{fs:List Fld}(hd:Zfl fs fs.length)(k:Str):(ZQ k (Zaj fs)).isSome=(!dC (ZB (fun f=>dC (f.name=k)) fs<0)&&KV (fs.getD (ZB (fun f=>dC (f.name=k)) fs).toNat dE)) ∧
  ((ZQ k (Zaj fs)).isSome=true→(ZQ k (Zaj fs)).getD (0,0)=Wz (fs.getD (ZB (fun f=>dC (f.name=k)) fs).toNat dE)):=by
 have:=Zlm (Zys _) hd k
 rw[ZyA]at this
 rw[this]
 unfold YH
 split
 ·rename_i h;simp[h]
 ·rename_i h
  split
  ·rename_i h2;simp only[h,h2];simp
  ·rename_i h2;simp only[h,h2];simp
theorem Zvv{d:Dfn}{a:Nat}{deps:List Int}{dl:List (Str×Int)}{sl:List (Str×Bool)}(h:Zdk d a deps dl sl){m:Msg}{i:Nat}(hi:i<m.fields.length)(hd:Zfl m.fields i){f:Fld}(hk:ZaN f=true):
  Zfu (m.fields.take i) dl sl f=dC (W7 d a m i f=0):=by
 have hfl:(m.fields.take i).length=i:=by simp;omega
 have hd2:Zfl (m.fields.take i) (m.fields.take i).length:=fun j hj=>by
  rw[hfl]at hj
  rw[Zau (by omega),List.take_take,Nat.min_eq_left (by omega)];exact hd j hj
 unfold ZaN at hk
 simp only[Zyk,decide_eq_true_eq]at hk
 have hk2:f.kind=1∨f.kind=2∨f.kind=3∨f.kind=4∨f.kind=5∨f.kind=6∨f.kind=7∨f.kind=8∨f.kind=9∨f.kind=10∨f.kind=11∨f.kind=12:=by omega
 have hn:=ZxA (f:=f)
 unfold Zfu W7
 rcases hk2 with h1|h1|h1|h1|h1|h1|h1|h1|h1|h1|h1|h1<;>simp only[h1,ZyN,if_true,if_false,true_or,or_true,or_self,forall_const,false_implies]at hn⊢
 ·exact hn
 ·exact hn
 ·unfold ck3;rw[ZnN,Zij]
  by_cases hA:0≤f.low∧f.low≤f.high∧f.high<34359738368
  ·simp[hA];omega
  ·rw[Bool.eq_iff_iff];simp;omega
 ·exact Zlu hd2 _
 ·unfold ck5;rw[Bool.eq_iff_iff];simp[Kc]<;>omega
 ·unfold ck6;rw[Bool.eq_iff_iff];simp[Kc]<;>omega
 ·unfold ck7;rw[h.has,Zlu hd2]
  by_cases h2:Z5 d f.of a<0<;>simp[h2]
 ·unfold ck8;rw[h.has]
  by_cases h2:Z5 d f.of a<0<;>simp[h2]
 ·have ht:=Zvg hd2 f.tag
  unfold ZiL Zga Zdq
  rw[Zu5 h]
  have hff:Yr m f.tag i=ZB (fun f'=>dC (f'.name=f.tag)) (m.fields.take i):=rfl
  rw[hff]
  have htt:ZnF m f.tag i=Zf2 (m.fields.take i) f:=rfl
  rw[htt]
  generalize hz:ZB (fun f'=>dC (f'.name=f.tag)) (m.fields.take i)=z at *
  by_cases hz0:z<0
  ·simp[ht.1,hz0]
  ·have hzl:=ZbP (fun f':Fld=>dC (f'.name=f.tag)) (m.fields.take i) (by omega)
   rw[hz,hfl]at hzl
   have hg:(m.fields.take i).getD z.toNat dE=m.fields.getD z.toNat dE:=Zau hzl
   rw[hg]at ht
   by_cases hnum:KV (m.fields.getD z.toNat dE)=true
   ·have hs:(ZQ f.tag (Zaj (m.fields.take i))).isSome=true:=by rw[ht.1,hnum];simp[hz0]
    rw[ht.2 hs,hs,hnum]
    cases Zf2 (m.fields.take i) f
    ·simp only[hz0,decide_false,Bool.not_true,Bool.or_self,Bool.not_false,Zyy,Zyt,if_false]
     by_cases hl:1≤f.cases.length∧f.cases.length≤40
     ·have hc1:(dC (1≤(f.cases.length:Int))&&dC ((f.cases.length:Int)≤40))=true:=by simp only[Zyk,decide_eq_true_eq];omega
      have hc2:(dC (f.cases.length<1) ||decide (40<f.cases.length))=false:=by simp only[Bool.or_eq_false_iff,decide_eq_false_iff_not];omega
      rw[hc1,hc2];simp
     ·have hc1:(dC (1≤(f.cases.length:Int))&&dC ((f.cases.length:Int)≤40))=false:=by simp only[Bool.and_eq_false_iff,decide_eq_false_iff_not];omega
      have hc2:(dC (f.cases.length<1) ||decide (40<f.cases.length))=true:=by simp only[Zyu,decide_eq_true_eq];omega
      rw[hc1,hc2];simp
    ·simp
   ·have hnum2:KV (m.fields.getD z.toNat dE)=false:=by simpa using hnum
    rw[ht.1,hnum2];simp
 ·unfold Zsr Zha
  rw[Bool.eq_iff_iff]
  generalize f.bits=b
  by_cases h0:0≤b
  ·rw[Int.tmod_eq_emod_of_nonneg h0];simp;omega
  ·simp;omega
 ·unfold Zss
  have hff:Yr m f.from_ i=ZB (fun f'=>dC (f'.name=f.from_)) (m.fields.take i):=rfl
  rw[hff]
  rw[Bool.eq_iff_iff];simp[Kc]
  generalize ZB (fun f'=>dC (f'.name=f.from_)) (m.fields.take i)=z
  split
  ·simp;omega
  ·split<;>simp<;>omega
 ·unfold Zst Zkj
  rw[h.strict,Zlu hd2]
  by_cases hkk:f.key<0∨4294967295<f.key
  ·rw[if_pos (by simpa using hkk)];simp[Kc];omega
  ·rw[if_neg (by simpa using hkk)]
   have:Kc 0 4294967295 [f.key]=true:=by simp[Kc];omega
   rw[this]
   by_cases h2:Z5 d f.of a<0
   ·simp[h2]
   ·simp only[h2,decide_false,Bool.not_false,Zyy,Bool.false_or]
    cases(QW d a).getD (Z5 d f.of a).toNat dE<;>simp
theorem Zvi{d:Dfn}{a:Nat}{deps:List Int}{dl:List (Str×Int)}{sl:List (Str×Bool)}(h:Zdk d a deps dl sl){m:Msg}{i:Nat}(hi:i<m.fields.length)(hd:Zfl m.fields i)(f:Fld):
  Zan (m.fields.take i) dl sl f=dC (QF d a m i f=0):=by
 unfold Zan QF
 rw[show ZB (fun x=>dC (x.name=f.name)) (m.fields.take i)=Yr m f.name i from rfl]
 cases K4 f.name
 ·simp
 ·by_cases h1:0≤Yr m f.name i
  ·simp[h1]
  ·by_cases hk:ZaN f=true
   ·have hk2:(dC (f.kind<1) ||decide (12<f.kind))=false:=by
     unfold ZaN at hk
     simp only[Zyk,decide_eq_true_eq]at hk
     simp only[Bool.or_eq_false_iff,decide_eq_false_iff_not];omega
    rw[Zsv hk,Zvv h hi hd hk,hk,hk2]
    cases Zeo f<;>simp[h1]
   ·have hk1:ZaN f=false:=by simpa using hk
    have hk2:(dC (f.kind<1) ||decide (12<f.kind))=true:=by
     unfold ZaN at hk
     simp only[Zyk,decide_eq_true_eq]at hk
     simp only[Zyu,decide_eq_true_eq];omega
    rw[hk1,hk2]
    simp[h1]
theorem Znf(d:Dfn)(a:Nat)(m:Msg)(j:Nat)(l l':List Fld)(h:W9 d a m j l=nO):W9 d a m j (l++l')=W9 d a m (j+l.length) l':=by
 induction l generalizing j with
 |nil=>rfl
 |cons f r ih =>
  simp only[W9]at h
  split at h
  ·rename_i hf
   simp only[List.cons_append,W9,hf,if_true,ZyE]
   rw[ih _ h]
   congr 1;omega
  ·simp at h
theorem Zt3{d:Dfn}{a:Nat}{deps:List Int}{dl:List (Str×Int)}{sl:List (Str×Bool)}(h:Zdk d a deps dl sl){m:Msg}(n:Nat)(hn:n≤m.fields.length):
  (Zak dl sl m n=true↔W9 d a m 0 (m.fields.take n)=nO)∧(Zak dl sl m n=true→Zfl m.fields n):=by
 induction n with
 |zero=>simp[Zak,W9,Zfl]
 |succ n ih =>
  have ih:=ih (by omega)
  rw[ZiW,WF (show n<m.fields.length by omega),Zyk]
  have hlen:(m.fields.take n).length=n:=by simp;omega
  by_cases hp:Zak dl sl m n=true
  ·have hf:=ih.1.1 hp
   have hd:=ih.2 hp
   rw[Znf _ _ _ _ _ _ hf,Zvi h (show n<m.fields.length by omega) hd,hlen,Nat.zero_add]
   simp only[W9]
   refine⟨?_,fun hh=>?_⟩
   ·simp only[hp,true_and,decide_eq_true_eq]
    split<;>simp_all
   ·have hz:QF d a m n (m.fields.getD n dE)=0:=by simpa using hh.2
    intro j hj
    by_cases hjn:j<n
    ·exact hd j hjn
    ·obtain rfl:j=n:=by omega
     unfold QF at hz
     split at hz;· omega
     split at hz;· omega
     rename_i h2
     unfold Yr at h2;omega
  ·refine⟨?_,fun hh=>absurd hh.1 hp⟩
   constructor
   ·intro hh;exact absurd hh.1 hp
   ·intro hh
    exfalso
    apply hp
    refine ih.1.2 ?_
    have key:∀(j:Nat) (l l':List Fld),W9 d a m j (l++l')=nO→W9 d a m j l=nO:=by
     intro j l l'
     induction l generalizing j with
     |nil=>intro _;rfl
     |cons f r ih2 =>
      simp only[List.cons_append,W9]
      split
      ·exact ih2 _
      ·simp
    exact key _ _ _ hh
theorem Zmc{α:Type}(l:List α)(p q:α→Int)(h:∀s∈l,p s=q s)(b:Int):l.foldl (fun a s=>max a (p s)) b=l.foldl (fun a s=>max a (q s)) b:=by
 induction l generalizing b with
 |nil=>rfl
 |cons x r ih =>
  simp only[List.foldl_cons,h x (by simp)]
  exact ih (fun s hs=>h s (by simp[hs])) _
theorem Zsn{α:Type}{p q:α→Bool}{l:List α}(h:∀x∈l,p x=q x):l.all p=l.all q:=by
 induction l with
 |nil=>rfl
 |cons x r ih=>simp only[List.all_cons,h x (by simp),ih fun y hy=>h y (by simp[hy])]
theorem Zxw{d:Dfn}{a:Nat}{deps:List Int}{dl:List (Str×Int)}{sl:List (Str×Bool)}(h:Zdk d a deps dl sl){m:Msg}(hm:d.msgs.getD a dE=m):
  (ZeU dl sl m=true↔QP d a m=nO∧Zev d a deps m≤16)∧(QP d a m=nO→Jq dl m+1=Zev d a deps m∧Za0 sl m=Zas d m (QW d a)):=by
 have hf:=Zt3 h (m:=m) m.fields.length (Zys _)
 rw[ZyA]at hf
 have h2:QP d a m=nO→Jq dl m+1=Zev d a deps m∧Za0 sl m=Zas d m (QW d a):=fun hh=>by
  have hok:=(ZqK hm hh).ref
  rw[hm]at hok
  constructor
  ·unfold Jq Zev Zb4
   congr 1
   refine Zmc _ _ _ (fun s hs=>?_) _
   have:=hok s hs
   rw[h.dep,if_neg (by omega)];rfl
  ·unfold Za0 Zas
   congr 1
   refine Zsn fun s hs=>?_
   have:=hok s hs
   rw[h.strict,ZaQ]
   simp[show ¬Z5 d s a<0 by omega]
 refine⟨?_,h2⟩
 unfold ZeU
 rw[h.has]
 by_cases hn:K4 m.name=true
 ·by_cases hd:Z5 d m.name a<0
  ·by_cases hl:1≤m.fields.length∧m.fields.length≤40
   ·have hc1:(dC (1≤(m.fields.length:Int))&&dC ((m.fields.length:Int)≤40))=true:=by simp only[Zyk,decide_eq_true_eq];omega
    have hc2:(dC (m.fields.length<1) ||decide (40<m.fields.length))=false:=by simp only[Bool.or_eq_false_iff,decide_eq_false_iff_not];omega
    have hfl:QP d a m=W9 d a m 0 m.fields:=by
     unfold QP
     rw[if_neg (by simp[hn]),if_neg (by omega),hc2];rfl
    rw[hfl]at h2⊢
    rw[hc1,hn]
    simp only[hd,decide_true,Bool.not_true,Bool.not_false,Zyy,Zyk,decide_eq_true_eq,hf.1]
    constructor
    ·rintro⟨h3,h4⟩
     have:=(h2 h3).1
     exact⟨h3,by omega⟩
    ·rintro⟨h3,h4⟩
     have:=(h2 h3).1
     exact⟨h3,by omega⟩
   ·have hc1:(dC (1≤(m.fields.length:Int))&&dC ((m.fields.length:Int)≤40))=false:=by simp only[Bool.and_eq_false_iff,decide_eq_false_iff_not];omega
    have hc2:(dC (m.fields.length<1) ||decide (40<m.fields.length))=true:=by simp only[Zyu,decide_eq_true_eq];omega
    unfold QP
    rw[hc1,hc2,if_neg (by simp[hn]),if_neg (by omega)]
    simp
  ·unfold QP
   rw[if_neg (by simp[hn]),if_pos (by omega)]
   simp[hd]
 ·have hn2:K4 m.name=false:=by simpa using hn
  unfold QP
  rw[hn2]
  simp
theorem Zl6{d:Dfn}{a:Nat}{m:Msg}(ha:a<d.msgs.length)(hm:d.msgs.getD a dE=m)(s:Str):Z5 d s (a+1)=if 0≤Z5 d s a then Z5 d s a else if m.name=s then (a:Int) else -1:=by
 unfold Z5
 rw[WF ha,hm,Zgu]
 have:(d.msgs.take a).length=a:=by simp;omega
 rw[this];simp
theorem ZiY{α:Type}[Inhabited α]{l:List α}{a:Nat}{v:α}(h:l.length=a):(l++[v]).getD a dE=v:=by subst h;simp[Zyx]
theorem ZiZ{α:Type}[Inhabited α]{l:List α}{a:Nat}{v:α}(h:a<l.length):(l++[v]).getD a dE=l.getD a dE:=by simp[Zyx,ZyM h]
theorem Zdk.step{d:Dfn}{a:Nat}{deps:List Int}{dl:List (Str×Int)}{sl:List (Str×Bool)}(h:Zdk d a deps dl sl){m:Msg}(ha:a<d.msgs.length)(hm:d.msgs.getD a dE=m)(hnew:Z5 d m.name a<0)(v:Int):
  Zdk d (a+1) (deps++[v]) (KI m.name v dl) (KI m.name (Zas d m (QW d a)) sl):={
 len:=by simp[h.len]
 dep s:=by
  rw[Zbn,Zl6 ha hm,h.dep]
  by_cases hs:s=m.name
  ·subst hs
   rw[if_pos rfl,if_neg (show ¬0≤Z5 d m.name a by omega),if_pos rfl,if_neg (by omega)]
   rw[show((a:Int)).toNat=a from rfl,ZiY h.len]
  ·rw[if_neg hs]
   by_cases hp:0≤Z5 d s a
   ·have hlt:(Z5 d s a).toNat<deps.length:=by
     have:=ZbP _ _ hp
     rw[h.len]
     have h3:(d.msgs.take a).length≤a:=by simp;omega
     unfold Z5;omega
    rw[if_pos hp,if_neg (by omega),if_neg (by omega),ZiZ hlt]
   ·rw[if_neg hp,if_neg (show ¬m.name=s from fun e=>hs e.symm),if_pos (by omega),if_pos (by omega)]
 str s:=by
  rw[Zbn,Zl6 ha hm,h.str]
  simp only[QW,hm]
  by_cases hs:s=m.name
  ·subst hs
   rw[if_pos rfl,if_neg (show ¬0≤Z5 d m.name a by omega),if_pos rfl,if_neg (by omega)]
   rw[show((a:Int)).toNat=a from rfl,ZiY (ZaQ d a)]
  ·rw[if_neg hs]
   by_cases hp:0≤Z5 d s a
   ·have hlt:(Z5 d s a).toNat<(QW d a).length:=by
     have:=ZbP _ _ hp
     rw[ZaQ]
     have h3:(d.msgs.take a).length≤a:=by simp;omega
     unfold Z5;omega
    rw[if_pos hp,if_neg (by omega),if_neg (by omega),ZiZ hlt]
   ·rw[if_neg hp,if_neg (show ¬m.name=s from fun e=>hs e.symm),if_pos (by omega),if_pos (by omega)] }
theorem ZxK{d:Dfn}(n:Nat):∀{a:Nat} {deps:List Int} {dl:List (Str×Int)} {sl:List (Str×Bool)},Zdk d a deps dl sl→a+n=d.msgs.length →
  ((ZdG dl sl (d.msgs.drop a)).elim false fun p=>(ZQ d.start p.1).isSome)=(JW d a (d.msgs.drop a) deps).isNone:=by
 induction n with
 |zero =>
  intro a deps dl sl h ha
  obtain rfl:a=d.msgs.length:=by omega
  rw[List.drop_length]
  simp only[ZdG,JW,Option.elim,h.has]
  by_cases hs:Z5 d d.start d.msgs.length<0<;>simp[hs]
 |succ n ih =>
  intro a deps dl sl h ha
  have hal:a<d.msgs.length:=by omega
  rw[ZaK hal]
  generalize hm:d.msgs.getD a dE=m
  have he:=Zxw h hm
  simp only[ZdG,JW]
  by_cases hp:ZeU dl sl m=true
  ·obtain⟨h1,h2⟩:=he.1.1 hp
   obtain⟨h3,h4⟩:=he.2 h1
   rw[if_pos hp,h1]
   simp only
   rw[if_neg (by omega),h3,h4]
   refine ih (h.step hal hm ?_ _) (by omega)
   unfold QP at h1
   split at h1;· simp at h1
   split at h1;· simp at h1
   omega
  ·rw[if_neg hp]
   cases h1:QP d a m with
   |some x=>obtain⟨i,c⟩:=x;rfl
   |none =>
    have:¬Zev d a deps m≤16:=fun h2=>hp (he.1.2 ⟨h1,h2⟩)
    simp only
    rw[if_pos (by omega)];rfl
theorem Zqu(d:Dfn):ZeB d=ZcK d:=by
 unfold ZeB ZcK Zcz
 cases hn:K4 d.name
 ·rfl
 ·by_cases hl:1≤d.msgs.length∧d.msgs.length≤60
  ·have hc1:(dC (1≤(d.msgs.length:Int))&&dC ((d.msgs.length:Int)≤60))=true:=by simp only[Zyk,decide_eq_true_eq];omega
   have hc2:(dC (d.msgs.length<1) ||decide (60<d.msgs.length))=false:=by simp only[Bool.or_eq_false_iff,decide_eq_false_iff_not];omega
   rw[hc1,hc2]
   simp only[Zyy,Bool.true_eq_false,Zyt,if_false]
   have h0:Zdk d 0 [] [] []:=⟨rfl,fun s=>by simp[ZQ,Z5,ZB],fun s=>by simp[ZQ,Z5,ZB]⟩
   have:=ZxK d.msgs.length h0 (by omega)
   rw[List.drop_zero]at this
   exact this
  ·have hc1:(dC (1≤(d.msgs.length:Int))&&dC ((d.msgs.length:Int)≤60))=false:=by simp only[Bool.and_eq_false_iff,decide_eq_false_iff_not];omega
   have hc2:(dC (d.msgs.length<1) ||decide (60<d.msgs.length))=true:=by simp only[Zyu,decide_eq_true_eq];omega
   rw[hc1,hc2];rfl
def Zv1:Option (Int×Int×Int)→List D
 |none=>[.int .i64 0,.int .i64 0,.int .i64 0]
 |some (a,b,c)=>[.int .i64 a,.int .i64 b,.int .i64 c]
def Zv2(o:Option (Int×Int×Int)):D:=.tup [.agg (Zv1 o),.bool o.isSome]
def Zaz(l:List Int):List D:=l.map (.int .i64)
theorem Zgt(l:List Int):(Zaz l).length=l.length:=by simp[Zaz]
theorem ZhB{l:List Int}{i:Nat}(h:i<l.length):(Zaz l)[i]?=sO (.int .i64 (l.getD i dE)):=by
 simp[Zaz,Zyx,ZyK h]
theorem Zsw(n:Nat):Ju [.int .i64 0] n=Zaz (List.replicate n 0):=by
 unfold Ju Zaz
 induction n with
 |zero=>rfl
 |succ n ih=>rw[List.replicate_succ,List.flatten_cons,ih,List.replicate_succ];rfl
theorem Zvf{l:List Int}{i:Nat}{v:Int}(h:i<l.length):ZF (Zaz l) i [.int .i64 v]=Zaz (l.set i v):=by
 unfold ZF Zaz
 rw[List.map_set,List.set_eq_take_append_cons_drop,if_pos (by simpa using h)]
 simp
theorem ZpP{l:List Int}{i:Nat}{v:Int}(h:i<l.length):List.take i (Zaz l)++[.int .i64 v]++List.drop (i+1) (Zaz l)=Zaz (l.set i v):=Zvf h
theorem ZoH{l r:List Int}{i:Nat}(h:i<l.length):(l++r).getD i dE=l.getD i dE:=by
 simp[Zyx,ZyM h]
theorem Zgv{l r:List Int}{i:Nat}{v:Int}(h:l.length=i):(l++v::r).getD i dE=v:=by
 subst h;simp[Zyx]
theorem ZmK{l r:List Int}{i:Nat}{v w:Int}(h:l.length=i):(l++v::r).set i w=l++w::r:=by
 subst h;simp[List.set_append]
theorem ZpQ{d:Dfn}{at_:Nat}{deps:List Int}(hd:∀x∈deps,0≤x∧x≤16)(l:List Str){b:Int}(h0:0≤b)(h1:b≤16):0≤Zb4 d at_ deps b l∧Zb4 d at_ deps b l≤16:=by
 induction l generalizing b with
 |nil=>exact⟨h0,h1⟩
 |cons s r ih =>
  have:0≤deps.getD (Z5 d s at_).toNat dE∧deps.getD (Z5 d s at_).toNat dE≤16:=by
   by_cases h:(Z5 d s at_).toNat<deps.length
   ·exact hd _ (W4 h)
   ·rw[Zyx,ZyV (by omega)];decide
  exact ih (b:=max b (deps.getD (Z5 d s at_).toNat dE)) (by omega) (by omega)
theorem Zq5{d:Dfn}{at_:Nat}{deps:List Int}{b:Int}{l:List Str}{q:Nat}(h:q<l.length):
  Zb4 d at_ deps b (l.take (q+1))=max (Zb4 d at_ deps b (l.take q)) (deps.getD (Z5 d (l.getD q dE) at_).toNat dE):=by
 rw[WF h,Zb4,List.foldl_append];rfl
theorem Zqz(d:Dfn):ZA Zyg Zr.id [.agg d.cells] (Zv2 (Zcz d)):=by
 refine Kn Zr.ok fun hwf F st hret=>?_
 have hw:=(ZgW (s:=d) (hwf _ (by simp))).nmsgs
 have hmw:=(ZgW (s:=d) (hwf _ (by simp))).msgs
 unfold big at hw
 clear hwf
 have hS:=Zcz.eq_1 d
 refine rx @eQ3 ?_
 refine rx @eQ3 ?_
 refine cl (Zel d.name) ?_
 refine cd (fun h=>?_) (fun h=>?_)
 ·rw[if_pos (by simpa using h)]at hS
  refine rg ?_
  refine rt hret ?_
  rw[hS];rfl
 ·rw[if_neg (by simpa using h)]at hS
  refine rx (nd2 @eQ3 (nd2 @eQ5 @eQ1)) ?_
  refine cd (fun h2=>?_) (fun h2=>?_)
  ·have hcc:(dC (d.msgs.length<1) ||decide (60<d.msgs.length))=true:=by
    rw[Zyu,decide_eq_true_eq,decide_eq_true_eq]at h2⊢;omega
   rw[if_pos hcc]at hS
   refine rg ?_
   refine rt hret ?_
   rw[hS];rfl
  ·rw[Bool.or_eq_false_iff,decide_eq_false_iff_not,decide_eq_false_iff_not]at h2
   have hcc:¬(dC (d.msgs.length<1) ||decide (60<d.msgs.length))=true:=by
    rw[Zyu,decide_eq_true_eq,decide_eq_true_eq];omega
   rw[if_neg hcc]at hS
   refine rx (nd2 @eQ3 (nd2 @eQ5 @eQ1)) ?_
   refine⟨by omega,by omega,by omega,by unfold big;omega,fun b hb=>?_⟩
   simp only[Zsw]
   refine rg ?_
   refine Zh (fr (d.msgs.length) (fun a Q=>∀deps:List Int,deps.length=a→a≤d.msgs.length→Zcz d=JW d a (d.msgs.drop a) deps→(∀x∈deps,0≤x∧x≤16)→(∀j,j<a→Zaw d j)→Q [(1,.loc 1 0),(2,.loc 2 0),(4,.d (.msl b 0 d.msgs.length d.msgs.length 1)),(5,.d (.int .i64 a))] [(1,d.cells),(2,[.int .i64 0,.int .i64 0,.int .i64 0])] (st.upd b (.cells (Zaz (deps++List.replicate (d.msgs.length-a) 0))))) (fun n ih_key=>?_) fun key=>?_)
   ·intro a hn deps hdl ha hchk hdb hro
    refine rx (nd2 @eQ3 (nd2 @eQ5 @eQ1)) ?_
    refine cd (fun h3=>?_) (fun h3=>?_)
    ·simp at h3
     have hdrop:d.msgs.drop a=d.msgs.getD a dE::d.msgs.drop (a+1):=ZaK h3
     have hmf:=(hmw _ (W4 h3)).nfields
     unfold big at hmf
     have hF:=QP.eq_1 d a (d.msgs.getD a dE)
     rw[hdrop,JW]at hchk
     generalize hm:d.msgs.getD a dE=m at *
     refine rx (nd2 @eQ3 (nd2 @eQ2 (nd2 @eQ5 (nd2 @eQ1 @hm)))) ?_
     refine aa ?_
     refine rx @eQ2 ?_
     refine cl (Zel m.name) ?_
     refine cd (fun h4=>?_) (fun h4=>?_)
     ·rw[if_pos (by simpa using h4)]at hF
      rw[hF]at hchk
      refine rg ?_
      refine rt hret ?_
      rw[hchk];rfl
     ·rw[if_neg (by simpa using h4)]at hF
      refine rx (nd2 @eQ3 @eQ2) ?_
      refine YF rfl rfl rfl rfl rfl (by trivial) (by trivial) (by exact Qy d m.name a (by omega)) (Za ?_)
      simp only[Eqs,reduceIte,Zye]
      refine cd (fun h5=>?_) (fun h5=>?_)
      ·rw[if_pos (by simpa using h5)]at hF
       rw[hF]at hchk
       refine rg ?_
       refine rt hret ?_
       rw[hchk];rfl
      ·rw[if_neg (by simpa using h5)]at hF
       refine rx (nd2 @eQ2 (nd2 @eQ4 @eQ1)) ?_
       refine cd (fun h6=>?_) (fun h6=>?_)
       ·have hcc:(dC (m.fields.length<1) ||decide (40<m.fields.length))=true:=by
         rw[Zyu,decide_eq_true_eq,decide_eq_true_eq]at h6⊢;omega
        rw[if_pos hcc]at hF
        rw[hF]at hchk
        refine rg ?_
        refine rt hret ?_
        rw[hchk];rfl
       ·rw[Bool.or_eq_false_iff,decide_eq_false_iff_not,decide_eq_false_iff_not]at h6
        have hcc:¬(dC (m.fields.length<1) ||decide (40<m.fields.length))=true:=by
         rw[Zyu,decide_eq_true_eq,decide_eq_true_eq];omega
        rw[if_neg hcc]at hF
        refine rx (nd2 @eQ2 (nd2 @eQ4 @eQ1)) ?_
        refine Zh (fr (m.fields.length) (fun i Q=>i≤m.fields.length→QP d a m=W9 d a m i (m.fields.drop i)→Q [(1,.loc 1 0),(2,.loc 2 0),(4,.d (.msl b 0 d.msgs.length d.msgs.length 1)),(5,.d (.int .i64 a)),(6,.loc 6 0),(7,.d (.int .i64 i))] [(1,d.cells),(2,[.int .i64 0,.int .i64 0,.int .i64 0]),(6,m.cells)] (st.upd b (.cells (Zaz (deps++List.replicate (d.msgs.length-a) 0))))) (fun n ih_key2=>?_) fun key2=>?_)
        ·intro i hni hi hF
         refine rx (nd2 @eQ2 (nd2 @eQ4 @eQ1)) ?_
         refine cd (fun h7=>?_) (fun h7=>?_)
         ·simp at h7
          rw[ZaK h7,W9]at hF
          refine rx (nd2 @eQ3 (nd2 @eQ2 (nd2 @eQ5 (nd2 @eQ4 @eQ1)))) ?_
          refine YF rfl rfl rfl rfl rfl (by trivial) (by trivial) (by exact ZqB d a i m (m.fields.getD i dE) h3 hm h7 rfl (by omega) hro) (Za ?_)
          simp only[Eqs,reduceIte,Zye]
          generalize hc:QF d a m i (m.fields.getD i dE)=c at *
          refine rg ?_
          refine cd (fun h8=>?_) (fun h8=>?_)
          ·simp only[Bool.not_eq_true',decide_eq_false_iff_not]at h8
           rw[if_neg h8]at hF
           rw[hF]at hchk
           refine rg ?_
           refine rt hret ?_
           rw[hchk];rfl
          ·simp only[Bool.not_eq_false',decide_eq_true_eq]at h8
           rw[if_pos h8]at hF
           refine rg ?_
           refine aa ?_
           refine Zf ?_
           exact ih_key2 ((m.fields.length)-(i+1)) (by omega) (i+1) rfl (by omega) hF
         ·simp at h7
          obtain rfl:i=m.fields.length:=by omega
          rw[List.drop_length,W9]at hF
          have hok:=ZqK hm hF
          have href:=hok.ref
          have hfew:=hok.few
          rw[hm]at href hfew
          rw[hF]at hchk
          simp only at hchk
          have hro':∀j,j<a+1→Zaw d j:=fun j hj=>by
           rcases Nat.lt_or_eq_of_le (Nat.le_of_lt_succ hj) with h|rfl
           ·exact hro j h
           ·exact hok
          have hrl:=Zac (m.fields.flatMap YW) []
          rw[show(m.fields.flatMap YW).foldl Zax []=KY m from rfl]at hrl
          simp only[List.length_nil,Nat.zero_add]at hrl
          refine rx @eQ2 ?_
          refine cl (Zis m hfew) ?_
          have hD:Zev d a deps m=Zb4 d a deps 0 (KY m)+1:=rfl
          generalize hrs:KY m=rs at *
          have hrep:List.replicate (d.msgs.length-a) (0:Int)=0::List.replicate (d.msgs.length-(a+1)) 0:=by
           rw[show d.msgs.length-a=(d.msgs.length-(a+1))+1 by omega,List.replicate_succ]
          rw[hrep]
          generalize hz:List.replicate (d.msgs.length-(a+1)) (0:Int)=z
          have hzl:z.length=d.msgs.length-(a+1):=by rw[←hz,List.length_replicate]
          refine rg ?_
          refine Zh ?_
          refine fr (rs.length) (fun q Q=>q≤rs.length→Q [(1,.loc 1 0),(2,.loc 2 0),(4,.d (.msl b 0 d.msgs.length d.msgs.length 1)),(5,.d (.int .i64 a)),(9,.d (QK rs)),(10,.d (.int .i64 q))] [(1,d.cells),(2,[.int .i64 0,.int .i64 0,.int .i64 0])] (st.upd b (.cells (Zaz (deps++Zb4 d a deps 0 (rs.take q)::z))))) (fun n ih_key3=>?_) fun key3=>?_
          ·intro q hnq hq
           refine rx (nd2 @QK.eq_1 @eQ1) ?_
           refine cd (fun h9=>?_) (fun h9=>?_)
           ·simp at h9
            have hge:=href _ (W4 h9)
            have hlt:Z5 d (rs.getD q dE) a<a:=by
             have:=QA (fun m:Msg=>dC (m.name=rs.getD q dE)) (d.msgs.take a)
             rw[Zyw]at this;unfold Z5;omega
            have htk:=Zq5 (d:=d) (at_:=a) (deps:=deps) (b:=0) h9
            generalize Zb4 d a deps 0 (rs.take q)=X at *
            have hra:(Zaz (deps++X::z))[a]?=sO (.int .i64 X):=by
             rw[ZhB (by simp;omega),Zgv hdl]
            have hcl:(Zaz (deps++X::z)).length=d.msgs.length:=by
             rw[Zgt];simp;omega
            have hfx:(Z5 d (rs.getD q dE) a).toNat<deps.length:=by rw[hdl];generalize Z5 d (rs.getD q dE) a=u at hge hlt⊢;omega
            have hrf:(Zaz (deps++X::z))[(Z5 d (rs.getD q dE) a).toNat]?=sO (.int .i64 (deps.getD (Z5 d (rs.getD q dE) a).toNat dE)):=by
             rw[ZhB (by rw[Zyr];omega),ZoH hfx]
            refine rx (nd2 @eQ3 (nd2 @eQ5 (nd2 @QK.eq_1 (nd2 @eQ1 (nd2 @hra (nd2 @hcl (nd2 @Zyo (nd2 @Zyz @Nat.mul_one)))))))) ?_
            refine aa ?_
            refine ZaF rfl rfl rfl rfl rfl (by trivial) (by trivial) (by exact Qy d (rs.getD q dE) a (by omega)) (Y6 ?_)
            simp only[Eqs,reduceIte,Zye,hrf,hcl,Zyo,Zyz,Nat.mul_one]
            refine aa ?_
            rw[ZpP (by rw[Zyr,ZyE];omega),ZmK hdl,←htk]
            refine rg ?_
            refine aa ?_
            refine Zf ?_
            exact ih_key3 ((rs.length)-(q+1)) (by omega) (q+1) rfl (by omega)
           ·simp at h9
            obtain rfl:q=rs.length:=by omega
            rw[ZyA]
            have hbd:=ZpQ (d:=d) (at_:=a) hdb rs (b:=0) (by omega) (by omega)
            rw[hD]at hchk
            generalize Zb4 d a deps 0 rs=X at *
            have hra:(Zaz (deps++X::z))[a]?=sO (.int .i64 X):=by
             rw[ZhB (by rw[Zyr,ZyE];omega),Zgv hdl]
            have hcl:(Zaz (deps++X::z)).length=d.msgs.length:=by
             rw[Zgt,Zyr,ZyE];omega
            have hra2:(Zaz (deps++(X+1)::z))[a]?=sO (.int .i64 (X+1)):=by
             rw[ZhB (by rw[Zyr,ZyE];omega),Zgv hdl]
            have hcl2:(Zaz (deps++(X+1)::z)).length=d.msgs.length:=by
             rw[Zgt,Zyr,ZyE];omega
            refine rx (nd2 @hra (nd2 @hcl (nd2 @Zyo (nd2 @Zyz @Nat.mul_one)))) ?_
            refine aa ?_
            rw[ZpP (by rw[Zyr,ZyE];omega),ZmK hdl]
            refine rx (nd2 @hra2 (nd2 @hcl2 (nd2 @Zyo (nd2 @Zyz @Nat.mul_one)))) ?_
            refine aa ?_
            refine cd (fun h10=>?_) (fun h10=>?_)
            ·rw[if_pos (by simpa using h10)]at hchk
             refine rg ?_
             refine rt hret ?_
             rw[hchk];rfl
            ·rw[if_neg (by simpa using h10)]at hchk
             simp only[decide_eq_false_iff_not]at h10
             refine rg ?_
             refine aa ?_
             have hst:deps++(X+1)::z=(deps++[X+1])++List.replicate (d.msgs.length-(a+1)) 0:=by rw[hz];simp
             rw[hst]
             have hdb':∀x∈deps++[X+1],0≤x∧x≤16:=by
              intro x hx
              rcases List.mem_append.1 hx with h|h
              ·exact hdb x h
              ·simp at h;omega
             refine Zf ?_
             exact ih_key ((d.msgs.length)-(a+1)) (by omega) (a+1) rfl (deps++[X+1]) (by simp;omega) (by omega) hchk hdb' hro'
          exact key3 _ 0 rfl (by omega)
        exact key2 _ 0 rfl (by omega) hF
    ·simp at h3
     obtain rfl:a=d.msgs.length:=by omega
     rw[List.drop_length,JW]at hchk
     refine rx (nd2 @eQ3 (nd2 @eQ5 @eQ1)) ?_
     refine YF rfl rfl rfl rfl rfl (by trivial) (by trivial) (by exact Qy d d.start d.msgs.length (by omega)) (Za ?_)
     simp only[Eqs,reduceIte,Zye]
     refine cd (fun h4=>?_) (fun h4=>?_)
     ·rw[if_pos (by simpa using h4)]at hchk
      refine rg ?_
      refine rt hret ?_
      rw[hchk];rfl
     ·rw[if_neg (by simpa using h4)]at hchk
      refine rg ?_
      refine rt hret ?_
      rw[hchk];rfl
   exact key _ 0 rfl [] rfl (by omega) hS (by simp) (by simp)
theorem ZkC{α:Type}[Inhabited α]{p:α→Bool}{l:List α}{n:Nat}(h:0≤ZB p (l.take n)):ZB p l=ZB p (l.take n):=by
 have h1:=Zef h
 have h2:=QA p (l.take n)
 rw[Zyw]at h2
 have h3:=ZaM (p:=p) (l:=l) (i:=(ZB p (l.take n)).toNat) (by omega) (by rw[←Zau (n:=n) (by omega)];exact h1.1) (fun j hj=>by rw[←Zau (n:=n) (by omega)];exact h1.2 j hj)
 omega
theorem ZsE{d:Dfn}{s:Str}{n:Nat}(h:0≤Z5 d s n):Z5 d s d.msgs.length=Z5 d s n∧Z5 d s n<n∧Z5 d s n<d.msgs.length:=by
 unfold Z5 at *
 have h2:=QA (fun m:Msg=>dC (m.name=s)) (d.msgs.take n)
 rw[Zyw]at h2
 refine⟨?_,by omega,by omega⟩
 rw[ZyA];exact ZkC h
theorem Zm8{d:Dfn}{at_:Nat}{l:List Msg}{deps:List Int}(h:JW d at_ l deps=nO):(∀i,i<l.length→QP d (at_+i) (l.getD i dE)=nO)∧0≤Z5 d d.start d.msgs.length:=by
 induction l generalizing at_ deps with
 |nil =>
  simp only[JW]at h
  split at h
  ·simp at h
  ·exact⟨fun i hi=>by simp at hi,by omega⟩
 |cons m r ih =>
  simp only[JW]at h
  split at h
  ·simp at h
  ·rename_i hm
   split at h
   ·simp at h
   ·have h1:=ih h
    refine⟨fun i hi=>?_,h1.2⟩
    cases i with
    |zero=>simpa using hm
    |succ i =>
     have:=h1.1 i (by simpa using hi)
     simpa[Nat.add_assoc,Nat.add_comm 1 i]using this
structure Jd(d:Dfn):Prop where
 many:d.msgs.length≤60
 start:0≤Z5 d d.start d.msgs.length
 flaw:∀i,i<d.msgs.length→QP d i (d.msgs.getD i default)=none
theorem ZjO{d:Dfn}(h:ZcK d=true):Jd d:=by
 unfold ZcK Zcz at h
 split at h
 ·simp at h
 ·split at h
  ·simp at h
  ·rename_i hc
   simp only[Zyu,decide_eq_true_eq,not_or,Nat.not_lt]at hc
   simp only[Option.isNone_iff_eq_none]at h
   have:=Zm8 h
   refine⟨by omega,this.2,fun i hi=>by simpa using this.1 i hi⟩
theorem Zmi{s:Str}(h:K4 s=true):s.length≤32:=by
 unfold K4 at h
 split at h
 ·simp
 ·simp only[Zyk,decide_eq_true_eq]at h;exact h.1.1
structure Zeb(d:Dfn)(j:Nat)(m:Msg):Prop where
 name:m.name.length≤32
 many:m.fields.length≤40
 field:∀i,i<m.fields.length→QF d j m i (m.fields.getD i default)=0
theorem Zk9{d:Dfn}{j:Nat}{m:Msg}{k:Nat}{l:List Fld}(h:W9 d j m k l=nO):∀i,i<l.length→QF d j m (k+i) (l.getD i dE)=0:=by
 induction l generalizing k with
 |nil=>intro i hi;simp at hi
 |cons f r ih =>
  simp only[W9]at h
  split at h
  ·rename_i hf
   intro i hi
   cases i with
   |zero=>simpa using hf
   |succ i=>have:=ih h i (by simpa using hi);simpa[Nat.add_assoc,Nat.add_comm 1 i]using this
  ·simp at h
theorem ZvA{d:Dfn}{j:Nat}{m:Msg}(h:QP d j m=nO):Zeb d j m:=by
 unfold QP at h
 split at h;· simp at h
 rename_i h1
 split at h;· simp at h
 split at h;· simp at h
 rename_i hc
 simp only[Zyu,decide_eq_true_eq,not_or,Nat.not_lt]at hc
 exact⟨Zmi (by simpa using h1),by omega,fun i hi=>by simpa using Zk9 h i hi⟩
structure ZoO(d:Dfn)(j:Nat)(f:Fld):Prop where
 name:f.name.length≤32
 ref:∀s∈YW f,0≤Z5 d s d.msgs.length∧Z5 d s d.msgs.length<j
 cases:f.cases≠[]→f.kind=9
theorem ZoO.many{d:Dfn}{j:Nat}{f:Fld}(h:ZoO d j f)(hl:(YW f).length≤41):f.cases.length≤41:=by
 by_cases hc:f.cases=[]
 ·simp[hc]
 ·unfold YW at hl
  rw[if_pos (h.cases hc)]at hl
  simp at hl;omega
theorem ZrC{f:Fld}(h1:1≤f.kind)(h2:f.kind≤12)(h:Zeo f=true)(hc:f.cases≠[]):f.kind=9:=by
 have hk:f.kind=1∨f.kind=2∨f.kind=3∨f.kind=4∨f.kind=5∨f.kind=6∨f.kind=7∨f.kind=8∨f.kind=9∨f.kind=10∨f.kind=11∨f.kind=12:=by omega
 simp only[Zeo,Zyk]at h
 have h3:=h.2.2
 rcases hk with hk|hk|hk|hk|hk|hk|hk|hk|hk|hk|hk|hk<;>rw[hk]at h3⊢<;>simp[zrC,Zfc,Ztu,JX,hc]at h3<;>rfl
theorem Zvk{d:Dfn}{j i:Nat}{m:Msg}{f:Fld}(h:QF d j m i f=0):ZoO d j f:=by
 have h0:=ZiV h
 unfold QF at h
 split at h;· omega
 rename_i h1
 split at h;· omega
 split at h;· omega
 rename_i hk
 split at h;· omega
 rename_i hz
 simp only[Zyu,decide_eq_true_eq,not_or,Int.not_lt]at hk
 refine⟨Zmi (by simpa using h1),fun s hs=>?_,fun hc=>ZrC (by omega) (by omega) (by simpa using hz) hc⟩
 have h3:=h0.2 s hs
 have h4:=ZsE h3
 exact⟨by omega,by omega⟩
theorem Jd.msg{d:Dfn}(h:Jd d){j:Nat}(hj:j<d.msgs.length):Zeb d j (d.msgs.getD j dE):=ZvA (h.flaw j hj)
theorem Jd.fld{d:Dfn}(h:Jd d){j i:Nat}(hj:j<d.msgs.length)(hi:i<(d.msgs.getD j dE).fields.length):ZoO d j ((d.msgs.getD j dE).fields.getD i dE):=Zvk ((h.msg hj).field i hi)
theorem Jd.ncases{d:Dfn}(h:Jd d){j i:Nat}(hj:j<d.msgs.length)(hi:i<(d.msgs.getD j dE).fields.length):((d.msgs.getD j dE).fields.getD i dE).cases.length≤41:=(h.fld hj hi).many (ZiV ((h.msg hj).field i hi)).1
theorem Zpn{st:St}{b:Nat}{c0 c1:D}{v0 v1:Bool}(hb:st b=sO (.cells [c0,c1]))(h0:VT Zyg c0 [] st (.bool v0) st)(h1:VT Zyg c1 [] st (.bool v1) st):
  Wi Zyg Zq.id [.msl b 0 2 2 1,.fn (.func WO.id) [] []] st (.int .i64 (if v0 then (if v1 then -1 else 1) else 0)) st:=by
 refine Wb Zq.ok fun hwf F hret=>?_
 clear hwf
 have g0:=(Zfp h0).VT (first:=[]) (args:=[c0]) (caps:=[])
 have g1:=(Zfp h1).VT (first:=[]) (args:=[c1]) (caps:=[])
 refine rg ?_
 refine rg ?_
 refine Zh (ZaG ?_)
 refine rg ?_
 refine i1 ?_
 refine rg ?_
 refine rx @hb ?_
 refine aa ?_
 refine ZcL rfl rfl rfl rfl rfl (by trivial) (by trivial) (by exact g0) (Za ?_)
 simp only[Eqs,reduceCtorEq,reduceIte,Zye]
 refine cd (fun hc=>?_) (fun hc=>?_)
 ·have hv:v0=false:=by cases v0<;>simp_all
  rw[hv]at hret
  refine rg ?_
  exact hret rfl (by trivial) (Zyj _) (Zyi _)
 ·have hv:v0=true:=by cases v0<;>simp_all
  rw[hv]at hret
  refine rg ?_
  refine aa ?_
  rw[show(0:Int)+1=1 from rfl]
  refine Zf ?_
  refine rg ?_
  refine i1 ?_
  refine rg ?_
  refine rx @hb ?_
  refine aa ?_
  refine ZcL rfl rfl rfl rfl rfl (by trivial) (by trivial) (by exact g1) (Za ?_)
  simp only[Eqs,reduceCtorEq,reduceIte,Zye]
  refine cd (fun hd=>?_) (fun hd=>?_)
  ·have hv1:v1=false:=by cases v1<;>simp_all
   rw[hv1]at hret
   refine rg ?_
   exact hret rfl (by trivial) (Zyj _) (Zyi _)
  ·have hv1:v1=true:=by cases v1<;>simp_all
   rw[hv1]at hret
   refine rg ?_
   refine aa ?_
   rw[show(1:Int)+1=2 from rfl]
   refine Zf ?_
   refine rg ?_
   refine i0 ?_
   refine rg ?_
   exact hret rfl (by trivial) (Zyj _) (Zyi _)
theorem ZoA{st:St}{b:Nat}{c0 c1:D}{v0 v1:Bool}(hb:st b=sO (.cells [c0,c1]))(h0:VT Zyg c0 [] st (.bool v0) st)(h1:VT Zyg c1 [] st (.bool v1) st):
  Wi Zyg Yb.id [.msl b 0 2 2 1,.fn (.func WO.id) [] []] st (.bool (!v0||!v1)) st:=by
 refine Wb Yb.ok fun hwf F hret=>?_
 clear hwf
 refine rg ?_
 refine rg ?_
 refine ct (Zpn hb h0 h1) ?_
 exact hret rfl (by trivial) (by cases v0<;>cases v1<;>exact Zyj _) (Zyi _)
theorem ZeT{L:DL.Loc}(l:List Fld):qv L s .lenL [.d (Z0 l)]=sO (True,.d (.int .i64 l.length)):=rfl
theorem atF{L:DL.Loc}(l:List Fld)(i:Int):qv L s (.iaddr 15) [.d (Z0 l),.d (.int .i64 i)]=sO (0≤i∧i<l.length,.d (.ep (l.getD i.toNat dE).cells 0)):=rfl
theorem Znj(f:Fld):f.cells.length=15:=rfl
theorem ZnG(f:Fld):List.take 15 f.cells=f.cells:=rfl
theorem ZgR(l:List Fld)(hl:l.length≤1000)(hb:∀f∈l,ZgM f)(i:Nat)(hi:i≤l.length)(st:St):Wi Zyg Wp.id [Z0 l,.int .i64 i,.int .i64 (KG l i)] st (.bool (Js l i)) st:=by
 refine Wb Wp.ok fun hwf F hret=>?_
 clear hwf
 have hW:=Js.eq_1 l i
 refine rx (nd2 @okF @ceF) ?_
 refine rx @ZeT ?_
 refine cd (fun hc=>?_) (fun hc=>?_)
 ·have hc':i=l.length:=by simp at hc;omega
  rw[if_pos hc']at hW
  refine rg ?_
  exact hret rfl (by trivial) (by rw[hW];exact Zyj _) (Zyi _)
 ·have hc':i<l.length:=by simp at hc;omega
  rw[if_neg (by omega)]at hW
  generalize hg:l.getD i dE=g at *
  refine rx (nd2 @atF (nd2 @hg (nd2 @Znj @ZnG))) ?_
  refine aa ?_
  refine Zi ?_
  refine Z1 3 rfl fun z3 h3=>?_
  simp only[reduceIte,Zye,Yd,Yz,delL]
  refine Z1 5 rfl fun z5 h5=>?_
  simp only[reduceIte,Zye,Yd,Yz,delL]
  refine Z1 7 rfl fun z7 h7=>?_
  simp only[reduceIte,Yd,Yz,delL]
  refine rg ?_
  refine Zi ?_
  refine Z1 8 rfl fun z8 h8=>?_
  simp only[reduceIte,Yd,Yz,delL]
  have k5:=Ya h5
  have k7:=Ya h7
  have k7a:=Ya k7.2
  have k8:=Ya h8
  have k8a:=Ya k8.2
  have k8b:=Ya k8a.2
  obtain⟨A,hA⟩:∃A,A=((((st.upd z3 (.cells [Z0 l])).upd z5 (.cells [.int .i64 (KG l i)])).upd z7 (.cells g.cells)).upd z8 (.cells [.fn (.func WN.id) [] [.ptr z5 0,.ptr z7 0],.fn (.func Ws.id) [] [.ptr z3 0,.ptr z7 0]])):=⟨_,rfl⟩
  have g3:A z3=sO (.cells [Z0 l]):=by rw[hA,Zyn _ _ k8b.1.symm,Zyn _ _ k7a.1.symm,Zyn _ _ k5.1.symm];exact Zyo _ _ _
  have g5:A z5=sO (.cells [.int .i64 (KG l i)]):=by rw[hA,Zyn _ _ k8a.1.symm,Zyn _ _ k7.1.symm];exact Zyo _ _ _
  have g7:A z7=sO (.cells g.cells):=by rw[hA,Zyn _ _ k8.1.symm];exact Zyo _ _ _
  have g8:A z8=sO (.cells [.fn (.func WN.id) [] [.ptr z5 0,.ptr z7 0],.fn (.func Ws.id) [] [.ptr z3 0,.ptr z7 0]]):=by rw[hA];exact Zyo _ _ _
  have hsub:st.sub A:=by rw[hA];exact ZyT (ZyJ _ h3) (ZyT (ZyJ _ h5) (ZyT (ZyJ _ h7) (ZyJ _ h8)))
  have hv1:=(ZkY g5 g7).VT (first:=[]) (args:=[]) (caps:=[_,_])
  have hv2:=(ZkZ hl hb g3 g7 (by omega)).VT (first:=[]) (args:=[]) (caps:=[_,_])
  have hcon:=ZoA g8 hv1 hv2
  rw[←hA]
  clear hA
  refine rg ?_
  refine⟨by decide,by decide,by decide,by decide,by unfold big;decide,?_⟩
  rw[show(if ((2:Nat):Int)=0 then 0 else 0*1)=(0:Nat) from rfl]
  refine ct (hcon) ?_
  exact hret rfl (by trivial) (by rw[hW];exact Zyj _) hsub
end Go.DL
