/- For every definition and every name, the law UniqueOccurs returns true: the program tells of each message whether it occurs, just as the reference does. No condition beyond the card's own. -/
import Derived.Test.YtaaaefcmpgpkgaaGreatDoorT05
import Derived.Test.YtaaaefcmpgpkgaaGreatDoorRows
import Derived.Test.YtaaaefcmpgpkgaaGreatDoorCards
import Derived.Test.YtaaaefcmpgpkgaaGreatDoorTie
set_option maxHeartbeats 16000000
set_option linter.all false
open And renaming intro → ZvI
open Bool renaming and_eq_true → ZvN
open Go.DL.D.Le renaming refl → ZvM
open Go.Proofs.Tryz renaming prog → ZvJ
open List renaming getElem_of_mem → ZvX
open Option renaming map_eq_some_iff → ZvO
open Option.some renaming injEq → ZvD
namespace Go.Proofs
open Go.Shelf Go.RowKit
def Tryz.joinL_ren:Go.Shelf.Ren:=⟨fun | 156=>274 | 165=>303 | 166=>304 | 169=>305 | 240=>320 | 241=>321 | 276=>333 | 277=>334 | n=>n,fun | 31=>102 | 9=>9 | 3=>3 | 4=>4 | 0=>0 | 20=>20 | 72=>360 | 76=>119 | 70=>358 | 37=>53 | 75=>118 | 127=>287 | 164=>388 | 5=>5 | 80=>362 | n=>n,fun | n=>n⟩
theorem Tryz.joinL:Go.Proofs.Lays.n156 ZvJ Tryz.joinL_ren:={
 mixed:=by kernel_rfl
 f156:=Tryz.func274.trans (congrArg some (by kernel_rfl))
 f165:=Tryz.func303.trans (congrArg some (by kernel_rfl))
 f166:=Tryz.func304.trans (congrArg some (by kernel_rfl))
 f169:=Tryz.func305.trans (congrArg some (by kernel_rfl))
 f240:=Tryz.func320.trans (congrArg some (by kernel_rfl))
 f241:=Tryz.func321.trans (congrArg some (by kernel_rfl))
 f276:=Tryz.func333.trans (congrArg some (by kernel_rfl))
 f277:=Tryz.func334.trans (congrArg some (by kernel_rfl))
 t0:=Tryz.underlying0
 a0:=Tryz.isAgg0
 z0:=Tryz.sizeOf0
 v0:=Tryz.zeroValue0
 t3:=Tryz.underlying3
 a3:=Tryz.isAgg3
 z3:=Tryz.sizeOf3
 v3:=Tryz.zeroValue3
 t4:=Tryz.underlying4
 a4:=Tryz.isAgg4
 z4:=Tryz.sizeOf4
 v4:=Tryz.zeroValue4
 t9:=Tryz.underlying9
 a9:=Tryz.isAgg9
 z9:=Tryz.sizeOf9
 v9:=Tryz.zeroValue9
 t20:=Tryz.underlying20
 a20:=Tryz.isAgg20
 z20:=Tryz.sizeOf20
 v20:=Tryz.zeroValue20
 t31:=Tryz.underlying102
 a31:=Tryz.isAgg102
 z31:=Tryz.sizeOf102
 v31:=Tryz.zeroValue102
 t37:=Tryz.underlying53
 a37:=Tryz.isAgg53
 z37:=Tryz.sizeOf53
 v37:=Tryz.zeroValue53
 t70:=Tryz.underlying358
 a70:=Tryz.isAgg358
 z70:=Tryz.sizeOf358
 v70:=Tryz.zeroValue358
 t72:=Tryz.underlying360
 a72:=Tryz.isAgg360
 z72:=Tryz.sizeOf360
 v72:=Tryz.zeroValue360
 t75:=Tryz.underlying118
 a75:=Tryz.isAgg118
 z75:=Tryz.sizeOf118
 v75:=Tryz.zeroValue118
 t76:=Tryz.underlying119
 a76:=Tryz.isAgg119
 z76:=Tryz.sizeOf119
 v76:=Tryz.zeroValue119
 t127:=Tryz.underlying287
 a127:=Tryz.isAgg287
 z127:=Tryz.sizeOf287
 v127:=Tryz.zeroValue287
 t164:=Tryz.underlying388
 a164:=Tryz.isAgg388
 z164:=Tryz.sizeOf388
 v164:=Tryz.zeroValue388 }
theorem Tryz.joinX:Builder.Extra ZvJ Tryz.joinL_ren:={
 sizeBuilder:=by kernel_rfl
 liesBuilder:=by kernel_rfl
 t5:=Tryz.underlying5
 a5:=Tryz.isAgg5
 z5:=Tryz.sizeOf5
 v5:=Tryz.zeroValue5
 infoByte:=by kernel_rfl
 cellsByte:=by kernel_rfl
 sizeByte:=by kernel_rfl
 neB5:=by decide }
end Go.Proofs
namespace Go.DL
open Go Go.Proofs Go.Lib Go.RowKit
theorem ZtZ {w:World} {b o:Nat} {v:Value} (h:w.cell? ⟨b,o,none⟩=some v):b < w.heap.size:=by
 refine Nat.lt_of_not_le fun hle=>?_
 have hn:w.heap[b]? = none:=Array.getElem?_eq_none hle
 simp [World.cell?,hn] at h
def joinL (l:List Str) (sep:Str):Str:=sep.intercalate l
theorem Zk6 (l:List Str) (hn:l.length≤100000) (hj:(joinL l [46]).length≤100000000):Z7 ZvJ 274 [slD 1 Zfs l,.str [46]] (.str (joinL l [46])):=fun st=>by
 refine ⟨⟨_,Tryz.func274,by kernel_rfl,by kernel_rfl⟩,fun g w vs hs ha=>?_⟩
 cases ha with
 | cons h1 ha =>
 cases ha with
 | cons h2 ha =>
 cases ha
 cases h2 with
 | str sep _ hsep hsb =>
 have hsep2:sep=⟨#[46]⟩:=by
  obtain ⟨a⟩:=sep
  have:a.toList=[46]:=hsep
  have h2:a = #[46]:=by apply Array.ext'; simpa using this
  rw [h2]
 subst hsep2
 unfold slD at h1
 have hgrow:∀ w':World,Below w.heap.size w w'→Zau g w g w':=fun w' hbel=>⟨hbel.size,fun c hc=>hbel.block c hc,fun _ _=>rfl,fun c hc=>(hs.fresh c (Nat.le_trans hbel.size hc)).1,rfl,hbel.os,hbel.output,hbel.tape⟩
 generalize hrow:(fun i=>Zfs (l.getD i default))=row at h1
 generalize hln:l.length=n at h1
 cases h1 with
 | sl0 av _ _ _ ht =>
  obtain rfl:l=[]:=List.eq_nil_of_length_eq_zero hln
  refine (Any.strings_Join_none Tryz.joinL Tryz.joinX av 0 ⟨#[46]⟩ w).mono ?_
  rintro e w' ⟨rfl,rfl⟩
  exact ⟨g,st,.ret (.str []),Ext.refl g _,hs,.str _ _ rfl (by simp [big]),rfl,rfl⟩
 | sl b o _ cap _ _ _ f hl hc hp hr one ht hcap hb =>
  subst hln
  subst hrow
  have hx:∀ i (hi:i < l.length),∃ x:ByteArray,f i 0 = .string x∧x.data.toList=l[i]:=fun i hi=>by
   have:=hr i 0 (.str (l.getD i default)) hi rfl
   generalize f i 0=v at this
   cases this with
   | str x _ h1 h2=>exact ⟨x,rfl,by rw [h1]; simp [List.getD,hi]⟩
  have hxs:∃ xs:List ByteArray,xs.length=l.length∧xs.map (·.data.toList)=l∧∀ (j:Nat) x,xs[j]? = some x→f j 0 = .string x:=by
   refine ⟨List.ofFn fun i:Fin l.length=>Classical.choose (hx i.1 i.2),by simp,?_,fun j x hj=>?_⟩
   ·apply List.ext_getElem
    ·simp
    ·intro i h1 h2
     simp at h1
     simp only [List.getElem_map,List.getElem_ofFn]
     exact (Classical.choose_spec (hx i h1)).2
   ·obtain ⟨hj1,hj2⟩:=List.getElem?_eq_some_iff.1 hj
    simp only [List.length_ofFn] at hj1
    simp only [List.getElem_ofFn] at hj2
    rw [← hj2]
    exact (Classical.choose_spec (hx j hj1)).1
  obtain ⟨xs,hx1,hx2,hx3⟩:=hxs
  have hbk:0 < l.length→b < w.heap.size:=fun h0=>by
   have:=hc 0 0 h0 (by omega)
   exact ZtZ this
  have hJ:(Lib.join (xs.map (·.data.toList)) (⟨#[46]⟩:ByteArray).data.toList)=joinL l [46]:=by rw [hx2]; rfl
  have hfin:∀ w',Below w.heap.size w w'→∃ g' s' res,Ext g w g' w'∧Wo g' s' w'∧Rep g' w' (.string ⟨(joinL l [46]).toArray⟩) (.str (joinL l [46]))∧res=Res.ret (.str (joinL l [46]))∧s'=st:=fun w' hbel =>
   ⟨g,st,.ret (.str (joinL l [46])),(hgrow w' hbel).ext hs.fresh,hs.grow (hgrow w' hbel),.str _ _ (by simp) (by unfold big; omega),rfl,rfl⟩
  by_cases h0:l.length=0
  ·obtain rfl:l=[]:=List.eq_nil_of_length_eq_zero h0
   refine (Any.strings_Join_none Tryz.joinL Tryz.joinX (some ⟨b,o,none⟩) cap ⟨#[46]⟩ w).mono ?_
   rintro e w' ⟨rfl,rfl⟩
   exact ⟨g,st,.ret (.str []),Ext.refl g _,hs,.str _ _ rfl (by simp [big]),rfl,rfl⟩
  ·have hcall:=Any.strings_Join Tryz.joinL Tryz.joinX b o cap xs ⟨#[46]⟩ w (fun j x hj=>by
     have hjl:j < l.length:=by rw [← hx1]; exact (List.getElem?_eq_some_iff.1 hj).1
     have:=hc j 0 hjl (by omega)
     rw [hx3 j x hj] at this
     simpa using this) (hbk (by omega)) (by omega) (by omega) (by rw [hJ]; omega)
   rw [hJ,hx1] at hcall
   refine hcall.mono ?_
   rintro e w' ⟨rfl,hbel⟩
   obtain ⟨g',s',res,a1,a2,a3,a4,a5⟩:=hfin w' hbel
   exact ⟨g',s',res,a1,a2,by rw [a4]; exact a3,a4,a5⟩
end Go.DL
namespace Go.DL
open Go Go.Proofs
theorem ZcM (l:List Str) (hn:l.length≤100) (hj:(joinL l [46]).length≤1000) {row:Nat→List D} (hr:∀ i,i < l.length→row i=[.str (l.getD i default)]) {n:Nat} (he:n=l.length) {r:List UInt8} (hr2:r=joinL l [46]):Z7 ZvJ 274 [.sl .none n 1 row,.str [46]] (.str r):=by
 subst he; subst hr2
 have h:Ku Zfs row l:=hr
 exact (Zk6 l (by omega) (by omega)).leA (LeC.two (h.le rfl) (ZvM _))
theorem ZmX:KK ZvJ ⟨274,40,40,[.sl 0 1 1 [.agg [.str [110]]],.str [46]],.str [110]⟩:=ZaX _ (ZcM [[110]] (by decide) (by decide) (fun i hi=>by match i,hi with | 0,_=>rfl) rfl rfl) (by kernel_rfl) (by kernel_rfl)
theorem ZmY:KK ZvJ ⟨274,40,40,[.sl 0 1 1 [.agg [.str [108]]],.str [46]],.str [108]⟩:=ZaX _ (ZcM [[108]] (by decide) (by decide) (fun i hi=>by match i,hi with | 0,_=>rfl) rfl rfl) (by kernel_rfl) (by kernel_rfl)
theorem ZmZ:KK ZvJ ⟨274,40,40,[.sl 0 1 1 [.agg [.str [97]]],.str [46]],.str [97]⟩:=ZaX _ (ZcM [[97]] (by decide) (by decide) (fun i hi=>by match i,hi with | 0,_=>rfl) rfl rfl) (by kernel_rfl) (by kernel_rfl)
theorem Zm0:KK ZvJ ⟨274,40,40,[.sl 0 1 1 [.agg [.str [104]]],.str [46]],.str [104]⟩:=ZaX _ (ZcM [[104]] (by decide) (by decide) (fun i hi=>by match i,hi with | 0,_=>rfl) rfl rfl) (by kernel_rfl) (by kernel_rfl)
theorem Zm1:KK ZvJ ⟨274,40,40,[.sl 0 2 1 [.agg [.str [108]],.agg [.str [109]]],.str [46]],.str [108,46,109]⟩:=ZaX _ (ZcM [[108],[109]] (by decide) (by decide) (fun i hi=>by match i,hi with | 0,_=>rfl | 1,_=>rfl) rfl rfl) (by kernel_rfl) (by kernel_rfl)
theorem Zm2:KK ZvJ ⟨274,40,40,[.sl 0 2 1 [.agg [.str [108,46,109]],.agg [.str [97]]],.str [46]],.str [108,46,109,46,97]⟩:=ZaX _ (ZcM [[108,46,109],[97]] (by decide) (by decide) (fun i hi=>by match i,hi with | 0,_=>rfl | 1,_=>rfl) rfl rfl) (by kernel_rfl) (by kernel_rfl)
theorem Zm3:KK ZvJ ⟨274,40,40,[.sl 0 2 1 [.agg [.str [108,46,109]],.agg [.str [104]]],.str [46]],.str [108,46,109,46,104]⟩:=ZaX _ (ZcM [[108,46,109],[104]] (by decide) (by decide) (fun i hi=>by match i,hi with | 0,_=>rfl | 1,_=>rfl) rfl rfl) (by kernel_rfl) (by kernel_rfl)
end Go.DL
namespace Go.DL
open Go Go.Proofs
theorem Zgm:∀ k∈([⟨11,40,40,[Q6],.bool true⟩,⟨11,40,40,[ZaV],.bool true⟩,⟨274,40,40,[.sl 0 1 1 [.agg [.str [110]]],.str [46]],.str [110]⟩,⟨274,40,40,[.sl 0 1 1 [.agg [.str [108]]],.str [46]],.str [108]⟩,⟨274,40,40,[.sl 0 1 1 [.agg [.str [97]]],.str [46]],.str [97]⟩,⟨274,40,40,[.sl 0 1 1 [.agg [.str [104]]],.str [46]],.str [104]⟩,⟨274,40,40,[.sl 0 2 1 [.agg [.str [108]],.agg [.str [109]]],.str [46]],.str [108,46,109]⟩,⟨274,40,40,[.sl 0 2 1 [.agg [.str [108,46,109]],.agg [.str [97]]],.str [46]],.str [108,46,109,46,97]⟩,⟨274,40,40,[.sl 0 2 1 [.agg [.str [108,46,109]],.agg [.str [104]]],.str [46]],.str [108,46,109,46,104]⟩]:List Zbi),KK ZvJ k:=by
 intro k hk
 simp only [List.mem_cons,List.not_mem_nil,or_false] at hk
 rcases hk with rfl | rfl | rfl | rfl | rfl | rfl | rfl | rfl | rfl
 ·exact ZmV
 ·exact ZmW
 ·exact ZmX
 ·exact ZmY
 ·exact ZmZ
 ·exact Zm0
 ·exact Zm1
 ·exact Zm2
 ·exact Zm3
theorem Zvn:KK ZvJ ⟨10,40,40,[Q6],.bool false⟩:=J0 (C:=⟨ZvJ,Zgs 120 [⟨11,40,40,[Q6],.bool true⟩,⟨11,40,40,[ZaV],.bool true⟩,⟨274,40,40,[.sl 0 1 1 [.agg [.str [110]]],.str [46]],.str [110]⟩,⟨274,40,40,[.sl 0 1 1 [.agg [.str [108]]],.str [46]],.str [108]⟩,⟨274,40,40,[.sl 0 1 1 [.agg [.str [97]]],.str [46]],.str [97]⟩,⟨274,40,40,[.sl 0 1 1 [.agg [.str [104]]],.str [46]],.str [104]⟩,⟨274,40,40,[.sl 0 2 1 [.agg [.str [108]],.agg [.str [109]]],.str [46]],.str [108,46,109]⟩,⟨274,40,40,[.sl 0 2 1 [.agg [.str [108,46,109]],.agg [.str [97]]],.str [46]],.str [108,46,109,46,97]⟩,⟨274,40,40,[.sl 0 2 1 [.agg [.str [108,46,109]],.agg [.str [104]]],.str [46]],.str [108,46,109,46,104]⟩],ZcP⟩) (ZcN Q8 Zgm) ⟨10,40,40,[Q6],.bool false⟩ (m:=20000) (by kernel_rfl)
theorem Zvo:KK ZvJ ⟨10,40,40,[ZaV],.bool true⟩:=J0 (C:=⟨ZvJ,Zgs 120 [⟨11,40,40,[Q6],.bool true⟩,⟨11,40,40,[ZaV],.bool true⟩,⟨274,40,40,[.sl 0 1 1 [.agg [.str [110]]],.str [46]],.str [110]⟩,⟨274,40,40,[.sl 0 1 1 [.agg [.str [108]]],.str [46]],.str [108]⟩,⟨274,40,40,[.sl 0 1 1 [.agg [.str [97]]],.str [46]],.str [97]⟩,⟨274,40,40,[.sl 0 1 1 [.agg [.str [104]]],.str [46]],.str [104]⟩,⟨274,40,40,[.sl 0 2 1 [.agg [.str [108]],.agg [.str [109]]],.str [46]],.str [108,46,109]⟩,⟨274,40,40,[.sl 0 2 1 [.agg [.str [108,46,109]],.agg [.str [97]]],.str [46]],.str [108,46,109,46,97]⟩,⟨274,40,40,[.sl 0 2 1 [.agg [.str [108,46,109]],.agg [.str [104]]],.str [46]],.str [108,46,109,46,104]⟩],ZcP⟩) (ZcN Q8 Zgm) ⟨10,40,40,[ZaV],.bool true⟩ (m:=20000) (by kernel_rfl)
theorem Zvp:KK ZvJ ⟨12,40,40,[Q6,.str [109]],.bool true⟩:=J0 (C:=⟨ZvJ,Zgs 120 [⟨11,40,40,[Q6],.bool true⟩,⟨11,40,40,[ZaV],.bool true⟩,⟨274,40,40,[.sl 0 1 1 [.agg [.str [110]]],.str [46]],.str [110]⟩,⟨274,40,40,[.sl 0 1 1 [.agg [.str [108]]],.str [46]],.str [108]⟩,⟨274,40,40,[.sl 0 1 1 [.agg [.str [97]]],.str [46]],.str [97]⟩,⟨274,40,40,[.sl 0 1 1 [.agg [.str [104]]],.str [46]],.str [104]⟩,⟨274,40,40,[.sl 0 2 1 [.agg [.str [108]],.agg [.str [109]]],.str [46]],.str [108,46,109]⟩,⟨274,40,40,[.sl 0 2 1 [.agg [.str [108,46,109]],.agg [.str [97]]],.str [46]],.str [108,46,109,46,97]⟩,⟨274,40,40,[.sl 0 2 1 [.agg [.str [108,46,109]],.agg [.str [104]]],.str [46]],.str [108,46,109,46,104]⟩],ZcP⟩) (ZcN Q8 Zgm) ⟨12,40,40,[Q6,.str [109]],.bool true⟩ (m:=20000) (by kernel_rfl)
theorem Zvq:KK ZvJ ⟨18,40,40,[Q6,.str [115],.agg [.str [115],.int .i64 0,.nilsl,.nilsl,.sl 0 2 5 [.agg [.str [110],.int .i64 0,.nilsl,.nilsl,.nilsl],.agg [.str [108],.int .i64 0,.nilsl,.nilsl,.nilsl]]]],.tup [.bool true,.int .i64 0]⟩:=J0 (C:=⟨ZvJ,Zgs 120 [⟨11,40,40,[Q6],.bool true⟩,⟨11,40,40,[ZaV],.bool true⟩,⟨274,40,40,[.sl 0 1 1 [.agg [.str [110]]],.str [46]],.str [110]⟩,⟨274,40,40,[.sl 0 1 1 [.agg [.str [108]]],.str [46]],.str [108]⟩,⟨274,40,40,[.sl 0 1 1 [.agg [.str [97]]],.str [46]],.str [97]⟩,⟨274,40,40,[.sl 0 1 1 [.agg [.str [104]]],.str [46]],.str [104]⟩,⟨274,40,40,[.sl 0 2 1 [.agg [.str [108]],.agg [.str [109]]],.str [46]],.str [108,46,109]⟩,⟨274,40,40,[.sl 0 2 1 [.agg [.str [108,46,109]],.agg [.str [97]]],.str [46]],.str [108,46,109,46,97]⟩,⟨274,40,40,[.sl 0 2 1 [.agg [.str [108,46,109]],.agg [.str [104]]],.str [46]],.str [108,46,109,46,104]⟩],ZcP⟩) (ZcN Q8 Zgm) ⟨18,40,40,[Q6,.str [115],.agg [.str [115],.int .i64 0,.nilsl,.nilsl,.sl 0 2 5 [.agg [.str [110],.int .i64 0,.nilsl,.nilsl,.nilsl],.agg [.str [108],.int .i64 0,.nilsl,.nilsl,.nilsl]]]],.tup [.bool true,.int .i64 0]⟩ (m:=20000) (by kernel_rfl)
end Go.DL
namespace Go.DL
open Go Go.Proofs
theorem Zs7:∀ k∈([⟨11,40,40,[Q6],.bool true⟩,⟨11,40,40,[ZaV],.bool true⟩,⟨17,40,40,[.str [115,40,110,32,108,41]],.tup [.agg [.str [115],.int .i64 0,.nilsl,.nilsl,.sl 0 2 5 [.agg [.str [110],.int .i64 0,.nilsl,.nilsl,.nilsl],.agg [.str [108],.int .i64 0,.nilsl,.nilsl,.nilsl]]],.int .i64 0]⟩,⟨17,40,40,[.str [109,40,97,61,53,32,104,41]],.tup [.agg [.str [109],.int .i64 0,.nilsl,.nilsl,.sl 0 2 5 [.agg [.str [97],.int .i64 5,.nilsl,.nilsl,.nilsl],.agg [.str [104],.int .i64 0,.nilsl,.nilsl,.nilsl]]],.int .i64 0]⟩,⟨17,40,40,[.str [115,40,110,61,49,32,108,40,109,40,97,61,51,48,48,32,104,41,41,41]],.tup [.agg [.str [115],.int .i64 0,.nilsl,.nilsl,.sl 0 2 5 [.agg [.str [110],.int .i64 1,.nilsl,.nilsl,.nilsl],.agg [.str [108],.int .i64 0,.nilsl,.nilsl,.sl 0 1 5 [.agg [.str [109],.int .i64 0,.nilsl,.nilsl,.sl 0 2 5 [.agg [.str [97],.int .i64 300,.nilsl,.nilsl,.nilsl],.agg [.str [104],.int .i64 0,.nilsl,.nilsl,.nilsl]]]]]]],.int .i64 0]⟩,⟨274,40,40,[.sl 0 1 1 [.agg [.str [110]]],.str [46]],.str [110]⟩,⟨274,40,40,[.sl 0 1 1 [.agg [.str [108]]],.str [46]],.str [108]⟩,⟨274,40,40,[.sl 0 1 1 [.agg [.str [97]]],.str [46]],.str [97]⟩,⟨274,40,40,[.sl 0 1 1 [.agg [.str [104]]],.str [46]],.str [104]⟩,⟨274,40,40,[.sl 0 2 1 [.agg [.str [108]],.agg [.str [109]]],.str [46]],.str [108,46,109]⟩,⟨274,40,40,[.sl 0 2 1 [.agg [.str [108,46,109]],.agg [.str [97]]],.str [46]],.str [108,46,109,46,97]⟩,⟨274,40,40,[.sl 0 2 1 [.agg [.str [108,46,109]],.agg [.str [104]]],.str [46]],.str [108,46,109,46,104]⟩]:List Zbi),KK ZvJ k:=by
 intro k hk
 simp only [List.mem_cons,List.not_mem_nil,or_false] at hk
 rcases hk with rfl | rfl | rfl | rfl | rfl | rfl | rfl | rfl | rfl | rfl | rfl | rfl
 ·exact ZmV
 ·exact ZmW
 ·exact ZqB
 ·exact ZqC
 ·exact ZqD
 ·exact ZmX
 ·exact ZmY
 ·exact ZmZ
 ·exact Zm0
 ·exact Zm1
 ·exact Zm2
 ·exact Zm3
theorem Zvr:KK ZvJ ⟨19,40,40,[.str [109],.str [109,40,97,61,53,32,104,41],.str [133,0,13,10],.int .i64 0],.bool true⟩:=J0 (C:=⟨ZvJ,Zgs 120 [⟨11,40,40,[Q6],.bool true⟩,⟨11,40,40,[ZaV],.bool true⟩,⟨17,40,40,[.str [115,40,110,32,108,41]],.tup [.agg [.str [115],.int .i64 0,.nilsl,.nilsl,.sl 0 2 5 [.agg [.str [110],.int .i64 0,.nilsl,.nilsl,.nilsl],.agg [.str [108],.int .i64 0,.nilsl,.nilsl,.nilsl]]],.int .i64 0]⟩,⟨17,40,40,[.str [109,40,97,61,53,32,104,41]],.tup [.agg [.str [109],.int .i64 0,.nilsl,.nilsl,.sl 0 2 5 [.agg [.str [97],.int .i64 5,.nilsl,.nilsl,.nilsl],.agg [.str [104],.int .i64 0,.nilsl,.nilsl,.nilsl]]],.int .i64 0]⟩,⟨17,40,40,[.str [115,40,110,61,49,32,108,40,109,40,97,61,51,48,48,32,104,41,41,41]],.tup [.agg [.str [115],.int .i64 0,.nilsl,.nilsl,.sl 0 2 5 [.agg [.str [110],.int .i64 1,.nilsl,.nilsl,.nilsl],.agg [.str [108],.int .i64 0,.nilsl,.nilsl,.sl 0 1 5 [.agg [.str [109],.int .i64 0,.nilsl,.nilsl,.sl 0 2 5 [.agg [.str [97],.int .i64 300,.nilsl,.nilsl,.nilsl],.agg [.str [104],.int .i64 0,.nilsl,.nilsl,.nilsl]]]]]]],.int .i64 0]⟩,⟨274,40,40,[.sl 0 1 1 [.agg [.str [110]]],.str [46]],.str [110]⟩,⟨274,40,40,[.sl 0 1 1 [.agg [.str [108]]],.str [46]],.str [108]⟩,⟨274,40,40,[.sl 0 1 1 [.agg [.str [97]]],.str [46]],.str [97]⟩,⟨274,40,40,[.sl 0 1 1 [.agg [.str [104]]],.str [46]],.str [104]⟩,⟨274,40,40,[.sl 0 2 1 [.agg [.str [108]],.agg [.str [109]]],.str [46]],.str [108,46,109]⟩,⟨274,40,40,[.sl 0 2 1 [.agg [.str [108,46,109]],.agg [.str [97]]],.str [46]],.str [108,46,109,46,97]⟩,⟨274,40,40,[.sl 0 2 1 [.agg [.str [108,46,109]],.agg [.str [104]]],.str [46]],.str [108,46,109,46,104]⟩],ZcP⟩) (ZcN Q8 Zs7) ⟨19,40,40,[.str [109],.str [109,40,97,61,53,32,104,41],.str [133,0,13,10],.int .i64 0],.bool true⟩ (m:=20000) (by kernel_rfl)
end Go.DL
namespace Go.DL
open Go Go.Proofs
theorem Zs8:∀ k∈([⟨11,40,40,[Q6],.bool true⟩,⟨11,40,40,[ZaV],.bool true⟩,⟨17,40,40,[.str [115,40,110,32,108,41]],.tup [.agg [.str [115],.int .i64 0,.nilsl,.nilsl,.sl 0 2 5 [.agg [.str [110],.int .i64 0,.nilsl,.nilsl,.nilsl],.agg [.str [108],.int .i64 0,.nilsl,.nilsl,.nilsl]]],.int .i64 0]⟩,⟨17,40,40,[.str [109,40,97,61,53,32,104,41]],.tup [.agg [.str [109],.int .i64 0,.nilsl,.nilsl,.sl 0 2 5 [.agg [.str [97],.int .i64 5,.nilsl,.nilsl,.nilsl],.agg [.str [104],.int .i64 0,.nilsl,.nilsl,.nilsl]]],.int .i64 0]⟩,⟨17,40,40,[.str [115,40,110,61,49,32,108,40,109,40,97,61,51,48,48,32,104,41,41,41]],.tup [.agg [.str [115],.int .i64 0,.nilsl,.nilsl,.sl 0 2 5 [.agg [.str [110],.int .i64 1,.nilsl,.nilsl,.nilsl],.agg [.str [108],.int .i64 0,.nilsl,.nilsl,.sl 0 1 5 [.agg [.str [109],.int .i64 0,.nilsl,.nilsl,.sl 0 2 5 [.agg [.str [97],.int .i64 300,.nilsl,.nilsl,.nilsl],.agg [.str [104],.int .i64 0,.nilsl,.nilsl,.nilsl]]]]]]],.int .i64 0]⟩,⟨274,40,40,[.sl 0 1 1 [.agg [.str [110]]],.str [46]],.str [110]⟩,⟨274,40,40,[.sl 0 1 1 [.agg [.str [108]]],.str [46]],.str [108]⟩,⟨274,40,40,[.sl 0 1 1 [.agg [.str [97]]],.str [46]],.str [97]⟩,⟨274,40,40,[.sl 0 1 1 [.agg [.str [104]]],.str [46]],.str [104]⟩,⟨274,40,40,[.sl 0 2 1 [.agg [.str [108]],.agg [.str [109]]],.str [46]],.str [108,46,109]⟩,⟨274,40,40,[.sl 0 2 1 [.agg [.str [108,46,109]],.agg [.str [97]]],.str [46]],.str [108,46,109,46,97]⟩,⟨274,40,40,[.sl 0 2 1 [.agg [.str [108,46,109]],.agg [.str [104]]],.str [46]],.str [108,46,109,46,104]⟩]:List Zbi),KK ZvJ k:=by
 intro k hk
 simp only [List.mem_cons,List.not_mem_nil,or_false] at hk
 rcases hk with rfl | rfl | rfl | rfl | rfl | rfl | rfl | rfl | rfl | rfl | rfl | rfl
 ·exact ZmV
 ·exact ZmW
 ·exact ZqB
 ·exact ZqC
 ·exact ZqD
 ·exact ZmX
 ·exact ZmY
 ·exact ZmZ
 ·exact Zm0
 ·exact Zm1
 ·exact Zm2
 ·exact Zm3
theorem Zvs:KK ZvJ ⟨19,40,40,[.str [115],.str [115,40,110,61,49,32,108,40,109,40,97,61,51,48,48,32,104,41,41,41],.str [1,172,130,0,13,10],.int .i64 0],.bool true⟩:=J0 (C:=⟨ZvJ,Zgs 120 [⟨11,40,40,[Q6],.bool true⟩,⟨11,40,40,[ZaV],.bool true⟩,⟨17,40,40,[.str [115,40,110,32,108,41]],.tup [.agg [.str [115],.int .i64 0,.nilsl,.nilsl,.sl 0 2 5 [.agg [.str [110],.int .i64 0,.nilsl,.nilsl,.nilsl],.agg [.str [108],.int .i64 0,.nilsl,.nilsl,.nilsl]]],.int .i64 0]⟩,⟨17,40,40,[.str [109,40,97,61,53,32,104,41]],.tup [.agg [.str [109],.int .i64 0,.nilsl,.nilsl,.sl 0 2 5 [.agg [.str [97],.int .i64 5,.nilsl,.nilsl,.nilsl],.agg [.str [104],.int .i64 0,.nilsl,.nilsl,.nilsl]]],.int .i64 0]⟩,⟨17,40,40,[.str [115,40,110,61,49,32,108,40,109,40,97,61,51,48,48,32,104,41,41,41]],.tup [.agg [.str [115],.int .i64 0,.nilsl,.nilsl,.sl 0 2 5 [.agg [.str [110],.int .i64 1,.nilsl,.nilsl,.nilsl],.agg [.str [108],.int .i64 0,.nilsl,.nilsl,.sl 0 1 5 [.agg [.str [109],.int .i64 0,.nilsl,.nilsl,.sl 0 2 5 [.agg [.str [97],.int .i64 300,.nilsl,.nilsl,.nilsl],.agg [.str [104],.int .i64 0,.nilsl,.nilsl,.nilsl]]]]]]],.int .i64 0]⟩,⟨274,40,40,[.sl 0 1 1 [.agg [.str [110]]],.str [46]],.str [110]⟩,⟨274,40,40,[.sl 0 1 1 [.agg [.str [108]]],.str [46]],.str [108]⟩,⟨274,40,40,[.sl 0 1 1 [.agg [.str [97]]],.str [46]],.str [97]⟩,⟨274,40,40,[.sl 0 1 1 [.agg [.str [104]]],.str [46]],.str [104]⟩,⟨274,40,40,[.sl 0 2 1 [.agg [.str [108]],.agg [.str [109]]],.str [46]],.str [108,46,109]⟩,⟨274,40,40,[.sl 0 2 1 [.agg [.str [108,46,109]],.agg [.str [97]]],.str [46]],.str [108,46,109,46,97]⟩,⟨274,40,40,[.sl 0 2 1 [.agg [.str [108,46,109]],.agg [.str [104]]],.str [46]],.str [108,46,109,46,104]⟩],ZcP⟩) (ZcN Q8 Zs8) ⟨19,40,40,[.str [115],.str [115,40,110,61,49,32,108,40,109,40,97,61,51,48,48,32,104,41,41,41],.str [1,172,130,0,13,10],.int .i64 0],.bool true⟩ (m:=20000) (by kernel_rfl)
end Go.DL
namespace Go.DL
open Go Go.Proofs
theorem Zt7:∀ k∈([⟨11,40,40,[Q6],.bool true⟩,⟨11,40,40,[ZaV],.bool true⟩,⟨17,40,40,[.str [115,40,110,32,108,41]],.tup [.agg [.str [115],.int .i64 0,.nilsl,.nilsl,.sl 0 2 5 [.agg [.str [110],.int .i64 0,.nilsl,.nilsl,.nilsl],.agg [.str [108],.int .i64 0,.nilsl,.nilsl,.nilsl]]],.int .i64 0]⟩,⟨17,40,40,[.str [109,40,97,61,53,32,104,41]],.tup [.agg [.str [109],.int .i64 0,.nilsl,.nilsl,.sl 0 2 5 [.agg [.str [97],.int .i64 5,.nilsl,.nilsl,.nilsl],.agg [.str [104],.int .i64 0,.nilsl,.nilsl,.nilsl]]],.int .i64 0]⟩,⟨17,40,40,[.str [115,40,110,61,49,32,108,40,109,40,97,61,51,48,48,32,104,41,41,41]],.tup [.agg [.str [115],.int .i64 0,.nilsl,.nilsl,.sl 0 2 5 [.agg [.str [110],.int .i64 1,.nilsl,.nilsl,.nilsl],.agg [.str [108],.int .i64 0,.nilsl,.nilsl,.sl 0 1 5 [.agg [.str [109],.int .i64 0,.nilsl,.nilsl,.sl 0 2 5 [.agg [.str [97],.int .i64 300,.nilsl,.nilsl,.nilsl],.agg [.str [104],.int .i64 0,.nilsl,.nilsl,.nilsl]]]]]]],.int .i64 0]⟩,⟨274,40,40,[.sl 0 1 1 [.agg [.str [110]]],.str [46]],.str [110]⟩,⟨274,40,40,[.sl 0 1 1 [.agg [.str [108]]],.str [46]],.str [108]⟩,⟨274,40,40,[.sl 0 1 1 [.agg [.str [97]]],.str [46]],.str [97]⟩,⟨274,40,40,[.sl 0 1 1 [.agg [.str [104]]],.str [46]],.str [104]⟩,⟨274,40,40,[.sl 0 2 1 [.agg [.str [108]],.agg [.str [109]]],.str [46]],.str [108,46,109]⟩,⟨274,40,40,[.sl 0 2 1 [.agg [.str [108,46,109]],.agg [.str [97]]],.str [46]],.str [108,46,109,46,97]⟩,⟨274,40,40,[.sl 0 2 1 [.agg [.str [108,46,109]],.agg [.str [104]]],.str [46]],.str [108,46,109,46,104]⟩,⟨10,40,40,[Q6],.bool false⟩,⟨10,40,40,[ZaV],.bool true⟩,⟨12,40,40,[Q6,.str [109]],.bool true⟩,⟨18,40,40,[Q6,.str [115],.agg [.str [115],.int .i64 0,.nilsl,.nilsl,.sl 0 2 5 [.agg [.str [110],.int .i64 0,.nilsl,.nilsl,.nilsl],.agg [.str [108],.int .i64 0,.nilsl,.nilsl,.nilsl]]]],.tup [.bool true,.int .i64 0]⟩,⟨19,40,40,[.str [109],.str [109,40,97,61,53,32,104,41],.str [133,0,13,10],.int .i64 0],.bool true⟩,⟨19,40,40,[.str [115],.str [115,40,110,61,49,32,108,40,109,40,97,61,51,48,48,32,104,41,41,41],.str [1,172,130,0,13,10],.int .i64 0],.bool true⟩]:List Zbi),KK ZvJ k:=by
 intro k hk
 simp only [List.mem_cons,List.not_mem_nil,or_false] at hk
 rcases hk with rfl | rfl | rfl | rfl | rfl | rfl | rfl | rfl | rfl | rfl | rfl | rfl | rfl | rfl | rfl | rfl | rfl | rfl
 ·exact ZmV
 ·exact ZmW
 ·exact ZqB
 ·exact ZqC
 ·exact ZqD
 ·exact ZmX
 ·exact ZmY
 ·exact ZmZ
 ·exact Zm0
 ·exact Zm1
 ·exact Zm2
 ·exact Zm3
 ·exact Zvn
 ·exact Zvo
 ·exact Zvp
 ·exact Zvq
 ·exact Zvr
 ·exact Zvs
theorem Zlx:Z7 ZvJ 6 [] (.bool true):=Zuw (C:=⟨ZvJ,Zgs 120 [⟨11,40,40,[Q6],.bool true⟩,⟨11,40,40,[ZaV],.bool true⟩,⟨17,40,40,[.str [115,40,110,32,108,41]],.tup [.agg [.str [115],.int .i64 0,.nilsl,.nilsl,.sl 0 2 5 [.agg [.str [110],.int .i64 0,.nilsl,.nilsl,.nilsl],.agg [.str [108],.int .i64 0,.nilsl,.nilsl,.nilsl]]],.int .i64 0]⟩,⟨17,40,40,[.str [109,40,97,61,53,32,104,41]],.tup [.agg [.str [109],.int .i64 0,.nilsl,.nilsl,.sl 0 2 5 [.agg [.str [97],.int .i64 5,.nilsl,.nilsl,.nilsl],.agg [.str [104],.int .i64 0,.nilsl,.nilsl,.nilsl]]],.int .i64 0]⟩,⟨17,40,40,[.str [115,40,110,61,49,32,108,40,109,40,97,61,51,48,48,32,104,41,41,41]],.tup [.agg [.str [115],.int .i64 0,.nilsl,.nilsl,.sl 0 2 5 [.agg [.str [110],.int .i64 1,.nilsl,.nilsl,.nilsl],.agg [.str [108],.int .i64 0,.nilsl,.nilsl,.sl 0 1 5 [.agg [.str [109],.int .i64 0,.nilsl,.nilsl,.sl 0 2 5 [.agg [.str [97],.int .i64 300,.nilsl,.nilsl,.nilsl],.agg [.str [104],.int .i64 0,.nilsl,.nilsl,.nilsl]]]]]]],.int .i64 0]⟩,⟨274,40,40,[.sl 0 1 1 [.agg [.str [110]]],.str [46]],.str [110]⟩,⟨274,40,40,[.sl 0 1 1 [.agg [.str [108]]],.str [46]],.str [108]⟩,⟨274,40,40,[.sl 0 1 1 [.agg [.str [97]]],.str [46]],.str [97]⟩,⟨274,40,40,[.sl 0 1 1 [.agg [.str [104]]],.str [46]],.str [104]⟩,⟨274,40,40,[.sl 0 2 1 [.agg [.str [108]],.agg [.str [109]]],.str [46]],.str [108,46,109]⟩,⟨274,40,40,[.sl 0 2 1 [.agg [.str [108,46,109]],.agg [.str [97]]],.str [46]],.str [108,46,109,46,97]⟩,⟨274,40,40,[.sl 0 2 1 [.agg [.str [108,46,109]],.agg [.str [104]]],.str [46]],.str [108,46,109,46,104]⟩,⟨10,40,40,[Q6],.bool false⟩,⟨10,40,40,[ZaV],.bool true⟩,⟨12,40,40,[Q6,.str [109]],.bool true⟩,⟨18,40,40,[Q6,.str [115],.agg [.str [115],.int .i64 0,.nilsl,.nilsl,.sl 0 2 5 [.agg [.str [110],.int .i64 0,.nilsl,.nilsl,.nilsl],.agg [.str [108],.int .i64 0,.nilsl,.nilsl,.nilsl]]]],.tup [.bool true,.int .i64 0]⟩,⟨19,40,40,[.str [109],.str [109,40,97,61,53,32,104,41],.str [133,0,13,10],.int .i64 0],.bool true⟩,⟨19,40,40,[.str [115],.str [115,40,110,61,49,32,108,40,109,40,97,61,51,48,48,32,104,41,41,41],.str [1,172,130,0,13,10],.int .i64 0],.bool true⟩],ZcP⟩) (ZcN Q8 Zt7) (m:=100000) (by kernel_rfl)
end Go.DL
namespace Go.DL
open Go Go.ChangeShapes Go.RowKit Go.WideShapes Go.ChangeAt
variable [Znt]
def ZcC (W:World):G:={ prot:=fun b=>match W.heap[b]? with | some (.cells vs _ _)=>vs.size | _=>0,kept:=fun b=>b < W.heap.size }
def Zj4 (W:World):Prop:=∀ n cs,Znt.tab n=some cs→Rep (ZcC W) W (.pointer (some ⟨n,0,none⟩)) (.ep cs 0)
theorem Zuv {W:World} (ht:Zj4 W):Wo (ZcC W) (fun _=>none) W:={
 tabs:=ht
 obj b o h:=by simp at h
 kept b o h:=by simp at h
 fresh b hb:=⟨by simp [ZcC,hb],by simp only [ZcC]; omega⟩ }
theorem Zut {P:Program} {W:World} {name:String} {g:Nat} {k:IntKind} {zs:List Int} (h:W.var? P name=some (zs.map fun z=>Value.int k z).toArray) (hg:P.globalNamed name=some g) (hz:∀ z∈zs,inR k z) :
  Rep (ZcC W) W (.pointer (some ⟨g,0,none⟩)) (.ep (zs.map fun z=>.int k z) 0):=by
 unfold World.var? at h
 rw [hg] at h
 simp only [Option.bind_some] at h
 split at h <;> (try (simp at h; done))
 rename_i cs T fr hh
 simp only [ZvD] at h
 subst h
 have key:∀ i (hi:i < zs.length),W.cell? ⟨g,0 + i,none⟩=some (.int k zs[i]):=fun i hi=>by
  simp only [World.cell?,hh]
  simp [hi]
 refine .ep g 0 0 _ (fun i=>.int k (zs.getD i 0)) (fun i hi=>?_) (fun i hi=>?_) (fun i d hd=>?_) (fun i hi=>rfl)
 ·simp only [List.length_map] at hi
  rw [key i hi]; simp [List.getD,hi]
 ·simp only [List.length_map] at hi
  simp only [ZcC,hh]; simpa using hi
 ·simp only [List.getElem?_map,ZvO] at hd
  obtain ⟨z,hz1,rfl⟩:=hd
  simp only [List.getD,hz1,Option.getD_some]
  exact .int k z (hz z (List.mem_of_getElem? hz1))
theorem Zty {P:Program} {f:FuncId} {args:List D} (h:Z7 P f args (.bool true)) {W:World} (ht:Zj4 W) {vs:List Value} (ha:ZZ (Rep (ZcC W) W) vs args) :
  Calls P f vs.toArray W fun e W'=>e = .returned (.bool true)∧Below W.heap.size W W':=by
 refine ((h (fun _=>none)).2 _ W vs (Zuv ht) ha).mono fun e W' hp=>?_
 obtain ⟨g',s',r,he,hs,hr,hq,_⟩:=hp
 subst hq
 cases e with
 | returned v=>cases hr; exact ⟨rfl,he.os,he.tape,he.output,he.size,fun b hb=>he.kept b hb⟩
 | _=>exact hr.elim
section
variable {H:Type} {enc:TypeId × Value→H} {P:Program} {w:World}
def JF (p:Nat→Prop) (enc:TypeId × Value→H) (P:Program) (w:World) (t:TypeId) (R:List D→Prop):Prop :=
 ∀ fuel cs x,p fuel→DataW.trod enc P w 0 (fun _=>true) true fuel t cs=some x→∃ ds,R ds∧ZZ (Rep (ZcC w) w) cs ds∧∀ v∈cs,v.one1=true
abbrev ZbC (enc:TypeId × Value→H) (P:Program) (w:World) (t:TypeId) (R:List D→Prop):Prop:=JF (fun _=>True) enc P w t R
variable {p q:Nat→Prop}
theorem ZrZ {k:IntKind} {n:Int} (h:(Lit.int k n).wf=true):inR k n:=by
 simpa [Lit.wf,inR] using h
theorem ZqT {t:TypeId} {k:IntKind} (ht:P.underlying t=some (.int k)):JF p enc P w t fun ds=>∃ n,inR k n∧ds=[.int k n]:=by
 intro fuel cs x _ h
 obtain ⟨n,rfl,_,hn⟩:=DataW.trod_int ht h
 exact ⟨_,⟨n,ZrZ hn,rfl⟩,.cons (.int k n (ZrZ hn)) .nil,fun v hv=>by simp at hv; subst hv; rfl⟩
theorem JF.imp {t:TypeId} {R R':List D→Prop} (h:JF p enc P w t R) (hi:∀ ds,R ds→R' ds):JF p enc P w t R':=fun fuel cs x hp hx=>by
 obtain ⟨ds,h1,h2⟩:=h fuel cs x hp hx
 exact ⟨ds,hi ds h1,h2⟩
theorem Zb2 {t:TypeId} {k:IntKind} (ht:P.underlying t=some (.int k)):JF p enc P w t fun ds=>∃ n,ds=[.int k n]:=(ZqT ht).imp fun _ ⟨n,_,h⟩=>⟨n,h⟩
theorem ZqS {t:TypeId} (ht:P.underlying t=some .bool):JF p enc P w t fun ds=>∃ b,ds=[.bool b]:=by
 intro fuel cs x _ h
 obtain ⟨n,rfl,_⟩:=DataW.trod_bool ht h
 exact ⟨_,⟨n,rfl⟩,.cons (.bool n) .nil,fun v hv=>by simp at hv; subst hv; rfl⟩
theorem Za1 {t:TypeId} (ht:P.underlying t=some .string):JF p enc P w t fun ds=>∃ s,ds=[.str s]:=by
 intro fuel cs x _ h
 obtain ⟨s,rfl,_,hs⟩:=DataW.trod_string ht h
 refine ⟨_,⟨s.data.toList,rfl⟩,.cons (.str s _ rfl ?_) .nil,fun v hv=>by simp at hv; subst hv; rfl⟩
 have:s.data.toList.length=s.size:=by rw [Array.length_toList]; rfl
 rw [this]; simp only [maxLen] at hs; simp only [big]; omega
theorem Zo4 {α β:Type} {R:α→β→Prop} {a a':List α} {b b':List β} (h:ZZ R a b) (h':ZZ R a' b'):ZZ R (a++a') (b++b'):=by
 induction h with
 | nil=>exact h'
 | cons h1 _ ih=>exact .cons h1 ih
def Cat:List (List D→Prop)→List D→Prop
 | [],ds=>ds=[]
 | R :: Rs,ds=>∃ a b,ds=a++b∧R a∧Cat Rs b
def Zov (P:Program):Nat→List Field→Nat→Bool
 | o,[],n=>o == n
 | o,f :: r,n=>f.offset == o && Zov P (o + P.cellsOf f.type) r n
inductive Zg7 (p:Nat→Prop) (enc:TypeId × Value→H) (P:Program) (w:World):List Field→List (List D→Prop)→Prop where
 | nil:Zg7 p enc P w [] []
 | cons {f:Field} {fs:List Field} {R:List D→Prop} {Rs:List (List D→Prop)} (h:JF p enc P w f.type R) (t:Zg7 p enc P w fs Rs):Zg7 p enc P w (f :: fs) (R :: Rs)
theorem Zsh {fs:List Field} {Rs:List (List D→Prop)} (hR:Zg7 q enc P w fs Rs):∀ {o n m:Nat} {cs:List Value},q m→Zov P o fs n=true→cs.length=n →
  (∀ f∈fs,∃ x,DataW.trod enc P w 0 (fun _=>true) true m f.type ((cs.drop f.offset).take (P.cellsOf f.type))=some x) →
  ∃ ds,Cat Rs ds∧ZZ (Rep (ZcC w) w) (cs.drop o) ds∧∀ v∈cs.drop o,v.one1=true:=by
 induction hR with
 | nil =>
  intro o n m cs _ ho hl _
  simp only [Zov,beq_iff_eq] at ho
  subst ho; subst hl
  exact ⟨[],rfl,by rw [List.drop_length]; exact .nil,by simp⟩
 | cons h _ ih =>
  rename_i f fs R Rs _
  intro o n m cs hm ho hl hx
  simp only [Zov,ZvN,beq_iff_eq] at ho
  obtain ⟨ho1,ho2⟩:=ho
  obtain ⟨x,h1⟩:=hx f (List.mem_cons_self ..)
  obtain ⟨a,ha1,ha2,ha3⟩:=h _ _ _ hm h1
  obtain ⟨b,hb1,hb2,hb3⟩:=ih hm ho2 hl fun f' hf'=>hx f' (List.mem_cons_of_mem _ hf')
  rw [ho1] at ha2 ha3
  have e:cs.drop o=(cs.drop o).take (P.cellsOf f.type)++cs.drop (o + P.cellsOf f.type):=by
   rw [← List.drop_drop]; exact (List.take_append_drop _ _).symm
  refine ⟨a++b,⟨a,b,rfl,ha1,hb1⟩,by rw [e]; exact Zo4 ha2 hb2,fun v hv=>?_⟩
  rw [e,List.mem_append] at hv
  exact hv.elim (ha3 v) (hb3 v)
theorem J3 {t:TypeId} {fs:Array Field} (ht:P.underlying t=some (.struct fs)) {Rs:List (List D→Prop)} (hR:Zg7 q enc P w fs.toList Rs) (ho:Zov P 0 fs.toList (P.cellsOf t)=true) (hpq:∀ n,p (n + 1)→q n:=by intros; trivial):JF p enc P w t (Cat Rs):=by
 intro fuel cs x hp h
 obtain ⟨xs,n,rfl,_,hl,hxl,hx⟩:=DataW.trod_struct ht h
 obtain ⟨ds,h1,h2,h3⟩:=Zsh hR (m:=n) (hpq n hp) ho hl (fun f hf=>by
  obtain ⟨i,hi,rfl⟩:=ZvX hf
  have hi':i < fs.size:=by simpa using hi
  refine ⟨xs[i]'(by omega),?_⟩
  have:=hx i fs[i] (by simp [hi'])
  rw [List.getElem?_eq_getElem (by omega)] at this
  simpa using this)
 rw [List.drop_zero] at h2 h3
 exact ⟨ds,h1,h2,h3⟩
theorem ZbW {a:Addr} {n:Nat} {cs:List Value} (h:w.cells? 0 a n=some cs):cs.length=n∧∀ j,j < n→w.cell? (a.add j)=cs[j]?:=by
 simp only [World.cells?,Nat.zero_le,if_true] at h
 refine ⟨by simpa using mapM_some_length h,fun j hj=>?_⟩
 have:=mapM_some_get h j j (by simp [hj])
 exact this
theorem ZoK {t e:TypeId} {n:Nat} {α:Type} [Inhabited α] {f:α→List D} {row:List α→Nat→List D} (hrow:∀ l i,i < l.length→row l i=f (l.getD i default)) (ht:P.underlying t=some (.slice e)) (hn:P.cellsOf e=n) (hn0:0 < n) (hf:∀ x,(f x).length=n)
  (he:JF q enc P w e fun ds=>∃ x,ds=f x) (hpq:∀ n,p (n + 1)→q n:=by intros; trivial):JF p enc P w t fun ds=>∃ l:List α,ds=[.sl .none l.length n (row l)]:=by
 intro fuel cs x hp h
 rcases DataW.trod_slice ht h with ⟨rfl,_⟩ | ⟨a,len,cap,elems,rest,m,rfl,rfl,_,_,hlc,hcap,hel,hx,hrest,_⟩
 ·exact ⟨_,⟨[],rfl⟩,.cons (.sl0 _ _ _ _ (by simp)) .nil,fun v hv=>by simp at hv; subst hv; rfl⟩
 have key:∀ i,i < len→∃ (cs:List Value) (y:α),w.cells? 0 (a.add (i * n)) n=some cs∧ZZ (Rep (ZcC w) w) cs (f y)∧∀ v∈cs,v.one1=true:=by
  intro i hi
  have h1:=hx i hi
  rw [List.getElem?_eq_getElem (by omega),hn] at h1
  obtain ⟨cs,h2,h3⟩:=Option.bind_eq_some_iff.1 h1
  obtain ⟨ds,⟨y,rfl⟩,h4,h5⟩:=he _ _ _ (hpq _ hp) h3
  exact ⟨cs,y,h2,h4,h5⟩
 have hbig:cap≤big:=by simp only [maxLen] at hcap; simp only [big]; omega
 let g:(i:Nat)→i < len→α:=fun i hi=>(Classical.choose_spec (key i hi)).choose
 let c:(i:Nat)→i < len→List Value:=fun i hi=>Classical.choose (key i hi)
 have hg:∀ i (hi:i < len),w.cells? 0 (a.add (i * n)) n=some (c i hi)∧ZZ (Rep (ZcC w) w) (c i hi) (f (g i hi))∧∀ v∈c i hi,v.one1=true:=fun i hi=>(Classical.choose_spec (key i hi)).choose_spec
 let l:List α:=List.ofFn fun i:Fin len=>g i.1 i.2
 have hll:l.length=len:=by simp [l]
 have hlg:∀ i (hi:i < len),l.getD i default=g i hi:=fun i hi=>by simp [l,List.getD,hi]
 have hrl:∀ i (hi:i < len),row l i=f (g i hi):=fun i hi=>by rw [hrow l i (by omega),hlg i hi]
 refine ⟨_,⟨l,rfl⟩,.cons ?_ .nil,fun v hv=>by simp at hv; subst hv; rfl⟩
 by_cases hl0:len=0
 ·subst hl0
  have hle:l=[]:=List.eq_nil_of_length_eq_zero hll
  rw [hle]
  by_cases hs:a.spot=none
  ·obtain ⟨b,o,sp⟩:=a
   simp only at hs
   subst hs
   exact .sl b o 0 cap n _ .none (fun _ _=>undef) (fun i hi=>by simp at hi) (fun i j hi=>by simp at hi) (fun i j hi=>by simp at hi) (fun i j d hi=>by simp at hi) (fun i j hi=>by simp at hi) trivial (Nat.zero_le _) hbig
  ·have hc0:cap=0:=by
    rcases Nat.eq_zero_or_pos cap with h0 | h0
    ·exact h0
    ·obtain ⟨h1,h2⟩:=hrest rfl
     have h3:=h2 0 (by omega)
     rw [List.getElem?_eq_getElem (by omega),hn] at h3
     obtain ⟨cs,h4,_⟩:=Option.bind_eq_some_iff.1 h3
     have h5:=(ZbW h4).2 0 (by omega)
     have h6:=(ZbW h4).1
     rw [List.getElem?_eq_getElem (by omega)] at h5
     have:=World.cell?_spot h5
     exact absurd (by simpa [Addr.add] using this) hs
   subst hc0
   exact .sl0 _ _ _ _ (by simp)
 ·have hsp:a.spot=none:=by
   have h0:=(hg 0 (by omega)).1
   have h1:=(ZbW h0).2 0 (by omega)
   have h2:(c 0 (by omega)).length=n:=(ZbW h0).1
   rw [List.getElem?_eq_getElem (by omega)] at h1
   have:=World.cell?_spot h1
   simpa [Addr.add] using this
  obtain ⟨b,o,sp⟩:=a
  simp only at hsp
  subst hsp
  have hget:∀ i j (hi:i < len) (hj:j < n),w.cell? ⟨b,o + i * n + j,none⟩=(c i hi)[j]?:=fun i j hi hj=>by
   have h1:=(ZbW (hg i hi).1).2 j hj
   rw [Qj,Qj] at h1
   exact h1
  have hcl:∀ i (hi:i < len),(c i hi).length=n:=fun i hi=>(ZbW (hg i hi).1).1
  rw [hll]
  refine .sl b o len cap n _ .none (fun i j=>if hi:i < len then (c i hi).getD j undef else undef) (fun i hi=>by rw [hrl i hi]; exact hf _) (fun i j hi hj=>?_) (fun i j hi hj=>?_) (fun i j d hi hd=>?_) (fun i j hi hj=>?_) trivial hlc hbig
  ·simp only [dif_pos hi]
   rw [hget i j hi hj,List.getD,List.getElem?_eq_getElem (by rw [hcl i hi]; exact hj)]; rfl
  ·have h1:=hget i j hi hj
   rw [List.getElem?_eq_getElem (by rw [hcl i hi]; exact hj)] at h1
   simp only [World.cell?] at h1
   split at h1
   ·rename_i vs T fr hh
    simp only [ZcC,hh]
    have h1':vs[o + i * n + j]? = some ((c i hi)[j]'(by rw [hcl i hi]; exact hj)):=by simpa using h1
    exact (Array.getElem?_eq_some_iff.1 h1').1
   ·simp at h1
  ·simp only [dif_pos hi]
   rw [hrl i hi] at hd
   have hj:j < n:=by rw [← hf (g i hi)]; exact (List.getElem?_eq_some_iff.1 hd).1
   refine (hg i hi).2.1.get j _ d ?_ hd
   rw [List.getD,List.getElem?_eq_getElem (by rw [hcl i hi]; exact hj)]; rfl
  ·simp only [dif_pos hi]
   refine (hg i hi).2.2 _ ?_
   rw [List.getD,List.getElem?_eq_getElem (by rw [hcl i hi]; exact hj)]
   exact List.getElem_mem _
theorem Zc9 {t e:TypeId} {n:Nat} {α:Type} [Inhabited α] {f:α→List D} (ht:P.underlying t=some (.slice e)) (hn:P.cellsOf e=n) (hn0:0 < n) (hf:∀ x,(f x).length=n)
  (he:JF q enc P w e fun ds=>∃ x,ds=f x) (hpq:∀ n,p (n + 1)→q n:=by intros; trivial):JF p enc P w t fun ds=>∃ l:List α,ds=[.sl .none l.length n fun i=>f (l.getD i default)] :=
 ZoK (row:=fun l i=>f (l.getD i default)) (fun _ _ _=>rfl) ht hn hn0 hf he hpq
def Zf0 (enc:TypeId × Value→H) (P:Program) (t:TypeId) (Q:D→Prop):Prop :=
 ∀ (W:World) (base:Nat) (v:Value) (d:DataW H) (ps:List MemPlace),Value.okWide P W .any base t v→DataW.Trod enc P W 0 (fun _=>true) true t v d ps→∃ x,Q x∧Rep (ZcC W) W v x
theorem Zkb {t:TypeId} {fs:Array Field} (ht:P.underlying t=some (.struct fs)) {R:List D→Prop} (h:∀ W,ZbC enc P W t R):Zf0 enc P t fun x=>∃ ds,R ds∧x = .agg ds:=by
 intro W base v d ps hok ⟨fuel,hf⟩
 obtain ⟨cs,rfl,_⟩:=okWide_struct ht hok
 obtain ⟨ds,h1,h2,h3⟩:=h W _ _ _ trivial hf
 exact ⟨_,⟨ds,h1,rfl⟩,.agg cs.toList ds h2.len (fun i v d hv hd=>h2.get i v d hv hd) h3⟩
theorem ZnA {t:TypeId} {R:List D→Prop} {Q:D→Prop} (h1:∀ W base v,Value.okWide P W .any base t v→v.cells = #[v]) (h:∀ W,ZbC enc P W t R) (hq:∀ ds,R ds→∃ x,ds=[x]∧Q x):Zf0 enc P t Q:=by
 intro W base v d ps hok ⟨fuel,hf⟩
 rw [h1 _ _ _ hok] at hf
 obtain ⟨ds,h2,h3,_⟩:=h W _ _ _ trivial hf
 obtain ⟨x,rfl,hx⟩:=hq ds h2
 cases h3 with | cons h4 _=>exact ⟨x,hx,h4⟩
theorem ZnB {t:TypeId} (ht:P.underlying t=some .string):Zf0 enc P t fun x=>∃ n,x = .str n :=
 ZnA (fun W base v hok=>by obtain ⟨a,rfl⟩:=okWide_string ht hok; rfl) (fun W=>Za1 ht) fun ds ⟨n,hn⟩=>⟨_,hn,n,rfl⟩
inductive ZjW (enc:TypeId × Value→H) (P:Program):List TypeId→List (D→Prop)→Prop where
 | nil:ZjW enc P [] []
 | cons {t:TypeId} {Q:D→Prop} {ts:List TypeId} {Qs:List (D→Prop)} (h:Zf0 enc P t Q) (r:ZjW enc P ts Qs):ZjW enc P (t :: ts) (Q :: Qs)
inductive Znb:List (D→Prop)→List D→Prop where
 | nil:Znb [] []
 | cons {Q:D→Prop} {x:D} {Qs:List (D→Prop)} {xs:List D} (h:Q x) (r:Znb Qs xs):Znb (Q :: Qs) (x :: xs)
theorem ZsH {ts:List TypeId} {Qs:List (D→Prop)} (h:ZjW enc P ts Qs):∀ {W:World} {base:Nat} {vs:List Value} {ds:List (DataW H)} {ps:List MemPlace},
  (∀ (j:Nat) t v,ts[j]? = some t→vs[j]? = some v→Value.okWide P W .any base t v)→DataW.TrodAll enc P W 0 (fun _=>true) true ts vs ds ps→∃ xs,Znb Qs xs∧ZZ (Rep (ZcC W) W) vs xs:=by
 induction h with
 | nil =>
  intro W base vs ds ps _ ht
  obtain ⟨rfl,_⟩:=trodAll_nil ht
  exact ⟨[],.nil,.nil⟩
 | cons h1 _ ih =>
  intro W base vs ds ps hok ht
  obtain ⟨v,vs',d,ds',p,q,rfl,rfl,rfl,h2,h3⟩:=trodAll_cons ht
  obtain ⟨x,hx1,hx2⟩:=h1 W base v d p (hok 0 _ _ rfl rfl) h2
  obtain ⟨xs,hxs1,hxs2⟩:=ih (base:=base) (fun j t v hj hv=>hok (j + 1) t v (by simpa using hj) (by simpa using hv)) h3
  exact ⟨x :: xs,.cons hx1 hxs1,.cons hx2 hxs2⟩
theorem ZgV (hl:laidOutB P=true) {W W':World} (hb:Below W.heap.size W W'):∀ {ts:List TypeId} {vs:List Value} {ds:List (DataW H)} {ps:List MemPlace},(∀ t∈ts,P.readableRec t=true∧t < P.types.size) →
  DataW.TrodAll enc P W 0 (fun _=>true) true ts vs ds ps→(∀ x∈ps,x.block < W.heap.size)→DataW.TrodAll enc P W' 0 (fun b=>decide (b < W.heap.size)) true ts vs ds ps
 | [],vs,ds,ps,_,h,_=>by
  obtain ⟨rfl,rfl,rfl⟩:=trodAll_nil h
  rfl
 | t :: ts,vs,ds,ps,ht,h,hlt=>by
  obtain ⟨v,vs',d,ds',p,q,rfl,rfl,rfl,h2,h3⟩:=trodAll_cons h
  have h4:=ht t (List.mem_cons_self ..)
  exact trodAll_cons_mk (Below.trod hl h4.1 h4.2 h2 hb fun x hx=>hlt x (List.mem_append_left _ hx)) (ZgV hl hb (fun t ht'=>ht t (List.mem_cons_of_mem _ ht')) h3 fun x hx=>hlt x (List.mem_append_right _ hx))
theorem Zoh {f:FuncId} {fn:Func} {s:ChangeSpec} {tb:TypeId} {Qs:List (D→Prop)} (hv:s.vars=[]) (hl:laidOutB P=true) (hr:∀ t∈fn.params.toList,P.readableRec t=true∧t < P.types.size)
  (hres:fn.resultTypes = #[tb]) (hb:P.underlying tb=some .bool) (hfn:∀ ds:List (DataW H),ds.length=fn.params.toList.length→s.fn H ds={ results:=[.lit (.bool true)],args:=ds })
  (hargs:ZjW enc P fn.params.toList Qs) (hcall:∀ xs,Znb Qs xs→Z7 P f xs (.bool true))
  (W:World) (ht:Zj4 W) (base:Nat) (args:Array Value) (ds gs:List (DataW H)) (before:List MemPlace)
  (hval:∀ (j:Nat) t v,fn.params[j]? = some t→args[j]? = some v→Value.okWide P W .any base t v) (hW:DataW.Whole enc P fn.params.toList s.vars false W args.toList ds gs before) :
  Calls P f args W fun e W'=>∃ v,e = .returned v∧s.post enc P fn false true false false W args v W':=by
 have hW':=hW
 obtain ⟨p,q,hA,hV,rfl,_,_⟩:=hW
 rw [hv] at hV
 obtain ⟨rfl,rfl⟩:=trodVars_none hV
 obtain ⟨xs,hx1,hx2⟩:=ZsH hargs (fun j t v hj hvj=>hval j t v (by simpa using hj) (by simpa using hvj)) hA
 have hlen:=(trodAll_length hA).2
 have hlt:∀ x∈p,x.block < W.heap.size:=fun x hx=>by simpa using hW'.lt x (by simpa using hx)
 refine (Zty (hcall xs hx1) ht hx2).mono fun e W' ⟨he,hbel⟩=>⟨.bool true,he,?_⟩
 have hspec:=hfn ds hlen
 refine ⟨ds,[],p++[],[],p,[],hW',?_,?_,?_,hbel.frame _,fun h=>by cases h⟩
 ·rw [List.append_nil,hspec,hres]
  exact trodAll_mk1 ⟨1,by simp [DataW.trod,hb,Value.cells]⟩
 ·rw [List.append_nil,hspec]
  exact ZgV hl hbel hr hA hlt
 ·rw [hv,List.append_nil,hspec]
  rfl
end
end Go.DL
namespace Go.DL
open Go Go.Proofs
section
variable {H:Type} {enc:TypeId × Value→H} {w:World}
theorem Zuo:ZbC enc ZvJ w 51 fun ds=>∃ x:YA,ds=x.cells:=by
 refine (J3 (P:=ZvJ) (q:=fun _=>True) Tryz.underlying51 (Rs:=[_,_]) (.cons (Za1 Tryz.underlying9) (.cons (Zb2 Tryz.underlying3) .nil)) (by kernel_rfl)).imp ?_
 rintro ds ⟨_,_,rfl,⟨a,rfl⟩,_,_,rfl,⟨b,rfl⟩,rfl⟩
 exact ⟨⟨a,b⟩,rfl⟩
theorem Zto:ZbC enc ZvJ w 43 fun ds=>∃ l:List YA,ds=[WS l] :=
 Zc9 (q:=fun _=>True) (f:=YA.cells) Tryz.underlying43 (by kernel_rfl) (by decide) (fun _=>rfl) Zuo
theorem Zun:ZbC enc ZvJ w 45 fun ds=>∃ x:WZ,ds=x.cells:=by
 refine (J3 (P:=ZvJ) (q:=fun _=>True) Tryz.underlying45 (Rs:=[_,_]) (.cons (Zb2 Tryz.underlying3) (.cons Zto .nil)) (by kernel_rfl)).imp ?_
 rintro ds ⟨_,_,rfl,⟨a,rfl⟩,_,_,rfl,⟨b,rfl⟩,rfl⟩
 exact ⟨⟨a,b⟩,rfl⟩
theorem Zuk:ZbC enc ZvJ w 83 fun ds=>∃ x:WK,ds=x.cells:=by
 refine (J3 (P:=ZvJ) (q:=fun _=>True) Tryz.underlying83 (Rs:=[_,_,_]) (.cons (Zb2 Tryz.underlying3) (.cons (Zb2 Tryz.underlying3) (.cons (Za1 Tryz.underlying9) .nil))) (by kernel_rfl)).imp ?_
 rintro ds ⟨_,_,rfl,⟨a,rfl⟩,_,_,rfl,⟨b,rfl⟩,_,_,rfl,⟨c,rfl⟩,rfl⟩
 exact ⟨⟨a,b,c⟩,rfl⟩
theorem Ztn:ZbC enc ZvJ w 46 fun ds=>∃ l:List WK,ds=[Qg l] :=
 Zc9 (q:=fun _=>True) (f:=WK.cells) Tryz.underlying46 (by kernel_rfl) (by decide) (fun _=>rfl) Zuk
theorem Zu7:ZbC enc ZvJ w 48 fun ds=>∃ x:Fld,ds=x.cells:=by
 have hs:=Za1 (p:=fun _=>True) (enc:=enc) (P:=ZvJ) (w:=w) Tryz.underlying9
 have hi:=Zb2 (p:=fun _=>True) (enc:=enc) (P:=ZvJ) (w:=w) Tryz.underlying3
 have hb:=ZqS (p:=fun _=>True) (enc:=enc) (P:=ZvJ) (w:=w) Tryz.underlying4
 have hk:=Zb2 (p:=fun _=>True) (enc:=enc) (P:=ZvJ) (w:=w) Tryz.underlying42
 refine (J3 (P:=ZvJ) (q:=fun _=>True) Tryz.underlying48 (Rs:=[_,_,_,_,_,_,_,_,_,_,_,_,_,_]) (.cons hs (.cons hk (.cons hi (.cons hb (.cons hb (.cons hi (.cons hi (.cons Zun (.cons hs (.cons hs (.cons hs (.cons Ztn (.cons hi (.cons hi .nil)))))))))))))) (by kernel_rfl)).imp ?_
 rintro ds ⟨_,_,rfl,⟨a,rfl⟩,_,_,rfl,⟨b,rfl⟩,_,_,rfl,⟨c,rfl⟩,_,_,rfl,⟨d,rfl⟩,_,_,rfl,⟨e,rfl⟩,_,_,rfl,⟨f,rfl⟩,_,_,rfl,⟨g,rfl⟩,_,_,rfl,⟨h,rfl⟩,_,_,rfl,⟨i,rfl⟩,_,_,rfl,⟨j,rfl⟩,_,_,rfl,⟨k,rfl⟩,_,_,rfl,⟨l,rfl⟩,_,_,rfl,⟨m,rfl⟩,_,_,rfl,⟨n,rfl⟩,rfl⟩
 exact ⟨⟨a,b,c,d,e,f,g,h,i,j,k,l,m,n⟩,rfl⟩
theorem Zul:ZbC enc ZvJ w 39 fun ds=>∃ l:List Fld,ds=[ZE l] :=
 Zc9 (q:=fun _=>True) (f:=Fld.cells) Tryz.underlying39 (by kernel_rfl) (by decide) (fun _=>rfl) Zu7
theorem Zu8:ZbC enc ZvJ w 41 fun ds=>∃ x:Msg,ds=x.cells:=by
 refine (J3 (P:=ZvJ) (q:=fun _=>True) Tryz.underlying41 (Rs:=[_,_]) (.cons (Za1 Tryz.underlying9) (.cons Zul .nil)) (by kernel_rfl)).imp ?_
 rintro ds ⟨_,_,rfl,⟨a,rfl⟩,_,_,rfl,⟨b,rfl⟩,rfl⟩
 exact ⟨⟨a,b⟩,rfl⟩
theorem Zum:ZbC enc ZvJ w 22 fun ds=>∃ l:List Msg,ds=[KC l] :=
 Zc9 (q:=fun _=>True) (f:=Msg.cells) Tryz.underlying22 (by kernel_rfl) (by decide) (fun _=>rfl) Zu8
theorem Zu6:ZbC enc ZvJ w 24 fun ds=>∃ x:Dfn,ds=x.cells:=by
 refine (J3 (P:=ZvJ) (q:=fun _=>True) Tryz.underlying24 (Rs:=[_,_,_]) (.cons (Za1 Tryz.underlying9) (.cons Zum (.cons (Za1 Tryz.underlying9) .nil))) (by kernel_rfl)).imp ?_
 rintro ds ⟨_,_,rfl,⟨a,rfl⟩,_,_,rfl,⟨b,rfl⟩,_,_,rfl,⟨c,rfl⟩,rfl⟩
 exact ⟨⟨a,b,c⟩,rfl⟩
end
end Go.DL
namespace Go.Proofs.YtaaaefcmpgpkgaaGreatDoor
open Go Go.DL Go.ChangeShapes Go.WideShapes Go.ChangeAt Go.RowKit Go.Lib
set_option linter.unusedVariables false
theorem own:ownKnob Tryz.prog.godebug=none:=by kernel_rfl
theorem laidOut:laidOutB ZvJ=true:=by kernel_rfl
theorem tabsOk {W:World} (h:laidMet ZvJ Rows.uniqueOccursRow.laid W):Zj4 W:=by
 intro n cs hn
 have hn':(match Nat.beq n 3 with
  | true=>some (ZoC.map fun z=>D.int .u64 z)
  | false=>none)=some cs:=hn
 split at hn'
 ·rename_i hb
  obtain rfl:n=3:=Nat.eq_of_beq_eq_true hb
  simp only [ZvD] at hn'
  subst hn'
  have ht:TabIs ZvJ W "internal/strconv.uint64pow10" .u64 ZoC :=
   tabIs_of_head (g:=3) (t:=336) (e:=221) (n:=20) (by kernel_rfl) (by kernel_rfl) Tryz.underlying336 Tryz.underlying221 (by kernel_rfl) (by kernel_rfl) h.tail.tail
  exact Zut ht (by kernel_rfl) (by unfold inR; decide)
 ·simp at hn'
end Go.Proofs.YtaaaefcmpgpkgaaGreatDoor
namespace Go.Proofs.YtaaaefcmpgpkgaaGreatDoor
open Go Go.DL Go.ChangeShapes Go.WideShapes Go.ChangeAt Go.RowKit Go.Lib
set_option linter.unusedVariables false
set_option maxRecDepth 100000 in
theorem occurs_lifted (os:Os) (started:os.Started) (H:Type) (enc:TypeId × Value→H) :
  ReturnsInHanded {} Tryz.checked os 4 .any (fun w args=>(Rows.uniqueOccursSpec.pre enc ZvJ Tryz.f4 [] false w args∧laidMetH ZvJ Rows.uniqueOccursRow.laid w)∧sizedMet enc ZvJ Tryz.f4 (OpenSpec.ofChange Rows.uniqueOccursSpec) false w args)
   (Rows.uniqueOccursSpec.post enc ZvJ Tryz.f4 false true false false):=by
 refine returnsInHanded_of_change_and (C:=Tryz.checked) (X:=fun w _=>laidMetH ZvJ Rows.uniqueOccursRow.laid w) (fun _ _ _ hh h=>h.of_heap hh) own started (by kernel_rfl) Tryz.func4
  (ChangeSpec.witness_shaped (enc:=enc) (C:=Tryz.checked) (os:=os) (X:=fun w _=>laidMetH ZvJ Rows.uniqueOccursRow.laid w) false (World.laidAll ZvJ os Rows.uniqueOccursRow.laid) #[.agg #[.string ⟨#[]⟩,.slice none 0 0,.string ⟨#[]⟩],.string ⟨#[]⟩] 8 (World.laidAll_os _ _ _)
   (World.shaped_of_ZipB (by kernel_rfl) (by kernel_rfl)) (by kernel_rfl) (by kernel_rfl) (by kernel_rfl)
   (by rw [MakeChecks.laidMetH_plain _ _ _ (by kernel_rfl)]; exact laidMet_laidAll _ (by kernel_rfl) (by kernel_rfl))) ?_
 intro W base args ds gs before hval hW h1 h2 h3 h4
 have hp:Tryz.f4.params.toList=[24,9]:=by rw [Tryz.params4]
 have hlaid:laidMet ZvJ Rows.uniqueOccursRow.laid W:=by rw [← MakeChecks.laidMetH_plain _ _ _ (by kernel_rfl)]; first | exact h1 | exact h2 | exact h3 | exact h4
 refine Zoh (P:=ZvJ) (tb:=4) (Qs:=[fun x=>∃ ds:List D,(∃ d:Dfn,ds=d.cells)∧x = .agg ds,fun x=>∃ s:Str,x = .str s]) rfl laidOut (fun t ht=>?_) (by kernel_rfl) Tryz.underlying4 (fun ds hds=>?_) (by
  rw [hp]
  refine .cons (Zkb Tryz.underlying24 fun W=>Zu6) (.cons (ZnB Tryz.underlying9) .nil)) (fun xs hxs=>?_) W (tabsOk hlaid) base args ds gs before hval hW
 ·rw [hp] at ht
  simp only [List.mem_cons,List.not_mem_nil,or_false] at ht
  rcases ht with rfl | rfl <;> exact ⟨by kernel_rfl,of_decide_eq_true (by kernel_rfl)⟩
 ·rw [hp] at hds
  match ds,hds with
  | [a,b],_=>rfl
 ·cases hxs with | cons h1 hxs =>
  cases hxs with | cons h2 hxs =>
  cases hxs
  obtain ⟨_,⟨d,rfl⟩,rfl⟩:=h1
  obtain ⟨s,rfl⟩:=h2
  exact ZfH Zlx d s
theorem occurs_facts:joinedFacts ZvJ 4 Tryz.f4 Rows.uniqueOccursSpec Rows.uniqueOccursRow=true:=by
 unfold joinedFacts
 simp only [ZvN]
 repeat' apply ZvI
 all_goals decide +kernel
theorem occurs_row:Rows.UniqueOccursSaid :=
 OpenClaim.holds_of_wide 4 Tryz.f4 rfl rfl rfl rfl rfl rfl rfl ⟨rfl,rfl,rfl,rfl,rfl⟩ rfl rfl rfl rfl rfl (by kernel_rfl) Tryz.func4 occurs_facts
  (of_decide_eq_true (by kernel_rfl)) (by unfold Func.isWrapper; first | (rw [if_pos (by decide +kernel)]; kernel_rfl) | (rw [if_neg (by decide +kernel)]; exact ⟨rfl,rfl⟩))
  (fun os started H enc _=>occurs_lifted os started H enc)
end Go.Proofs.YtaaaefcmpgpkgaaGreatDoor
namespace Go.Proofs.YtaaaefcmpgpkgaaGreatDoor
open Go
theorem goes_none {P:Program} (h:P.funcs.any Func.goes=false) (c:OpenClaim) (hs:c.start = .entering):c.goesBy P=false:=by
 have h1:∀ f,P.goes f=false:=fun f=>by
  unfold Program.goes
  rw [h,Bool.and_false,Bool.or_false,List.any_eq_false]
  intro g _
  cases hg:P.funcs[g]? with
  | none=>simp
  | some fn =>
   have hm:fn∈P.funcs:=Array.mem_of_getElem? hg
   rw [Array.any_eq_false'] at h
   simpa using h fn hm
 unfold OpenClaim.goesBy Program.goesAt Program.goesFrom
 rw [hs]
 cases P.funcNamed c.func <;> simp [h1]
theorem occurs_goes:false=Rows.uniqueOccursRow.goesBy ZvJ:=(goes_none (by kernel_rfl) _ rfl).symm
theorem occurs_wf:Rows.uniqueOccursRow.wfByText (OpenSpec.ofChange Rows.uniqueOccursSpec)=true:=by kernel_rfl
theorem occurs_main:Tryz.prog.mainIs=some (true,"b519238da398f7d76529939115582c160177ceece40f13cb2ec7f36528bad88e".toList):=by kernel_rfl
theorem occurs_looks:true=Tryz.prog.looks []:=by kernel_rfl
theorem occurs_holds:Rows.UniqueOccursCardSaid :=
 Claim7.holds_tied_plain_at .later [] [.data,.data,.data,.data,.sentinel,.sentinel,.pinned] true (true,"b519238da398f7d76529939115582c160177ceece40f13cb2ec7f36528bad88e") true
  occurs_row (fun _ h=>by cases h) occurs_wf (fun _ h=>by cases h) uniqueOccurs_row_tie rfl ⟨rfl,rfl⟩ occurs_main rfl
  (fun f fn hf hfn=>by
   obtain rfl:f=4:=Option.some.inj ((show Tryz.prog.funcNamed "phrasebook/phrasebooklaw22.UniqueOccurs" = some 4 by kernel_rfl).symm.trans hf) |>.symm
   obtain rfl:fn=Tryz.f4:=(Option.some.inj (Tryz.func4.symm.trans hfn)).symm
   exact ⟨occurs_looks,fun j t ht=>by
    rw [Tryz.params4] at ht
    have hm:t∈[24,9]:=by simpa using Array.mem_of_getElem? ht
    have hall:([24,9].all fun u=>!Tryz.prog.wantsStandIn u)=true:=by kernel_rfl
    exact (show Tryz.prog.wantsStandIn t=false by simpa using List.all_eq_true.1 hall t hm)⟩)
  occurs_goes
end Go.Proofs.YtaaaefcmpgpkgaaGreatDoor
