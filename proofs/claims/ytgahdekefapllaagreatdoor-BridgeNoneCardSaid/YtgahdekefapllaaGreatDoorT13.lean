/- Lemmas: K46d, DlTop. -/
import Derived.Test.YtgahdekefapllaaGreatDoorT12
set_option maxHeartbeats 16000000
set_option linter.all false
namespace Go.DL
open Go Go.Proofs
theorem k46_all : ∀ k ∈ ([⟨28, 30, 40, [(getV ((callF ⟨Tryz.prog, libB 250, mu46⟩ 13).run (run ⟨Tryz.prog, libB 250, mu46⟩ 200) [] T.nil 2))], .bool true⟩, ⟨28, 30, 40, [(getV ((callF ⟨Tryz.prog, libB 250, mu46⟩ 14).run (run ⟨Tryz.prog, libB 250, mu46⟩ 200) [] T.nil 2))], .bool true⟩, ⟨87, 30, 40, [(getV ((callF ⟨Tryz.prog, libB 250, mu46⟩ 13).run (run ⟨Tryz.prog, libB 250, mu46⟩ 200) [] T.nil 2))], .bool true⟩, ⟨87, 30, 40, [(getV ((callF ⟨Tryz.prog, libB 250, mu46⟩ 14).run (run ⟨Tryz.prog, libB 250, mu46⟩ 200) [] T.nil 2))], .bool true⟩, ⟨33, 40, 40, [.agg [.str [65], .int .i64 0, .nilsl, .nilsl, .sl 0 4 5 [.agg [.str [110], .int .i64 1, .nilsl, .nilsl, .nilsl], .agg [.str [98], .int .i64 0, .sl 0 1 1 [.agg [.int .u8 7]], .nilsl, .nilsl], .agg [.str [120], .int .i64 3, .nilsl, .nilsl, .nilsl], .agg [.str [121], .int .i64 0, .nilsl, .nilsl, .nilsl]]]], .tup [.str [65, 40, 110, 61, 49, 32, 98, 35, 48, 55, 32, 120, 61, 51, 32, 121, 41], .int .i64 0]⟩, ⟨33, 40, 40, [.agg [.str [66], .int .i64 0, .nilsl, .nilsl, .sl 0 2 5 [.agg [.str [116], .int .i64 0, .sl 0 1 1 [.agg [.int .u8 7]], .nilsl, .nilsl], .agg [.str [117], .int .i64 8, .nilsl, .nilsl, .nilsl]]]], .tup [.str [66, 40, 116, 35, 48, 55, 32, 117, 61, 56, 41], .int .i64 0]⟩, ⟨33, 40, 40, [.agg [.str [65], .int .i64 0, .nilsl, .nilsl, .sl 0 4 5 [.agg [.str [110], .int .i64 1, .nilsl, .nilsl, .nilsl], .agg [.str [98], .int .i64 0, .sl 0 1 1 [.agg [.int .u8 0]], .nilsl, .nilsl], .agg [.str [120], .int .i64 3, .nilsl, .nilsl, .nilsl], .agg [.str [121], .int .i64 0, .nilsl, .nilsl, .nilsl]]]], .tup [.str [65, 40, 110, 61, 49, 32, 98, 35, 48, 48, 32, 120, 61, 51, 32, 121, 41], .int .i64 0]⟩, ⟨33, 40, 40, [.agg [.str [], .int .i64 0, .nilsl, .nilsl, .nilsl]], .tup [.str [], .int .i64 2]⟩, ⟨33, 40, 40, [.agg [.str [65], .int .i64 0, .nilsl, .nilsl, .sl 0 4 5 [.agg [.str [110], .int .i64 1, .nilsl, .nilsl, .nilsl], .agg [.str [98], .int .i64 0, .nilsl, .nilsl, .nilsl], .agg [.str [120], .int .i64 0, .nilsl, .nilsl, .nilsl], .agg [.str [121], .int .i64 0, .nilsl, .nilsl, .nilsl]]]], .tup [.str [65, 40, 110, 61, 49, 32, 98, 32, 120, 32, 121, 41], .int .i64 0]⟩, ⟨32, 40, 40, [.str [65, 40, 110, 61, 49, 32, 98, 35, 48, 55, 32, 120, 61, 51, 32, 121, 41]], .tup [.agg [.str [65], .int .i64 0, .nilsl, .nilsl, .sl 0 4 5 [.agg [.str [110], .int .i64 1, .nilsl, .nilsl, .nilsl], .agg [.str [98], .int .i64 0, .sl 0 1 1 [.agg [.int .u8 7]], .nilsl, .nilsl], .agg [.str [120], .int .i64 3, .nilsl, .nilsl, .nilsl], .agg [.str [121], .int .i64 0, .nilsl, .nilsl, .nilsl]]], .int .i64 0]⟩, ⟨32, 40, 40, [.str [65, 40, 110, 61, 49, 32, 98, 35, 48, 48, 32, 120, 61, 51, 32, 121, 41]], .tup [.agg [.str [65], .int .i64 0, .nilsl, .nilsl, .sl 0 4 5 [.agg [.str [110], .int .i64 1, .nilsl, .nilsl, .nilsl], .agg [.str [98], .int .i64 0, .sl 0 1 1 [.agg [.int .u8 0]], .nilsl, .nilsl], .agg [.str [120], .int .i64 3, .nilsl, .nilsl, .nilsl], .agg [.str [121], .int .i64 0, .nilsl, .nilsl, .nilsl]]], .int .i64 0]⟩, ⟨32, 40, 40, [.str [65, 40, 110, 61, 49, 32, 98, 32, 120, 32, 121, 41]], .tup [.agg [.str [65], .int .i64 0, .nilsl, .nilsl, .sl 0 4 5 [.agg [.str [110], .int .i64 1, .nilsl, .nilsl, .nilsl], .agg [.str [98], .int .i64 0, .nilsl, .nilsl, .nilsl], .agg [.str [120], .int .i64 0, .nilsl, .nilsl, .nilsl], .agg [.str [121], .int .i64 0, .nilsl, .nilsl, .nilsl]]], .int .i64 0]⟩, ⟨29, 40, 40, [.agg [.str [109], .sl 0 1 3 [.agg [.str [65], .str [66], .sl 0 2 7 [.agg [.str [116], .int .i64 1, .str [98], .int .i64 0, .int .i64 0, .nilsl, .nilsl], .agg [.str [117], .int .i64 2, .str [120], .int .i64 5, .int .i64 0, .nilsl, .nilsl]]]]], (getV ((callF ⟨Tryz.prog, libB 250, mu46⟩ 13).run (run ⟨Tryz.prog, libB 250, mu46⟩ 200) [] T.nil 2)), (getV ((callF ⟨Tryz.prog, libB 250, mu46⟩ 14).run (run ⟨Tryz.prog, libB 250, mu46⟩ 200) [] T.nil 2))], .bool true⟩, ⟨29, 40, 40, [.agg [.str [109], .sl 0 1 3 [.agg [.str [65], .str [66], .sl 0 2 7 [.agg [.str [116], .int .i64 1, .str [98], .int .i64 0, .int .i64 0, .nilsl, .nilsl], .agg [.str [117], .int .i64 5, .str [120], .int .i64 0, .int .i64 0, .nilsl, .sl 0 1 3 [.agg [.int .i64 0, .int .i64 2, .int .i64 1]]]]]]], (getV ((callF ⟨Tryz.prog, libB 250, mu46⟩ 13).run (run ⟨Tryz.prog, libB 250, mu46⟩ 200) [] T.nil 2)), (getV ((callF ⟨Tryz.prog, libB 250, mu46⟩ 14).run (run ⟨Tryz.prog, libB 250, mu46⟩ 200) [] T.nil 2))], .bool true⟩, ⟨18, 40, 40, [(getV ((callF ⟨Tryz.prog, libB 250, mu46⟩ 13).run (run ⟨Tryz.prog, libB 250, mu46⟩ 200) [] T.nil 2)), .str [65], .agg [.str [65], .int .i64 0, .nilsl, .nilsl, .sl 0 4 5 [.agg [.str [110], .int .i64 1, .nilsl, .nilsl, .nilsl], .agg [.str [98], .int .i64 0, .sl 0 1 1 [.agg [.int .u8 7]], .nilsl, .nilsl], .agg [.str [120], .int .i64 3, .nilsl, .nilsl, .nilsl], .agg [.str [121], .int .i64 0, .nilsl, .nilsl, .nilsl]]]], .tup [.agg [.str [], .int .i64 0], .int .i64 0]⟩, ⟨18, 40, 40, [(getV ((callF ⟨Tryz.prog, libB 250, mu46⟩ 13).run (run ⟨Tryz.prog, libB 250, mu46⟩ 200) [] T.nil 2)), .str [65], .agg [.str [65], .int .i64 0, .nilsl, .nilsl, .sl 0 4 5 [.agg [.str [110], .int .i64 1, .nilsl, .nilsl, .nilsl], .agg [.str [98], .int .i64 0, .sl 0 1 1 [.agg [.int .u8 0]], .nilsl, .nilsl], .agg [.str [120], .int .i64 3, .nilsl, .nilsl, .nilsl], .agg [.str [121], .int .i64 0, .nilsl, .nilsl, .nilsl]]]], .tup [.agg [.str [], .int .i64 0], .int .i64 0]⟩, ⟨18, 40, 40, [(getV ((callF ⟨Tryz.prog, libB 250, mu46⟩ 13).run (run ⟨Tryz.prog, libB 250, mu46⟩ 200) [] T.nil 2)), .str [65], .agg [.str [65], .int .i64 0, .nilsl, .nilsl, .sl 0 4 5 [.agg [.str [110], .int .i64 1, .nilsl, .nilsl, .nilsl], .agg [.str [98], .int .i64 0, .nilsl, .nilsl, .nilsl], .agg [.str [120], .int .i64 0, .nilsl, .nilsl, .nilsl], .agg [.str [121], .int .i64 0, .nilsl, .nilsl, .nilsl]]]], .tup [.agg [.str [98], .int .i64 4], .int .i64 4]⟩, ⟨18, 40, 40, [(getV ((callF ⟨Tryz.prog, libB 250, mu46⟩ 14).run (run ⟨Tryz.prog, libB 250, mu46⟩ 200) [] T.nil 2)), .str [66], .agg [.str [66], .int .i64 0, .nilsl, .nilsl, .sl 0 2 5 [.agg [.str [116], .int .i64 0, .sl 0 1 1 [.agg [.int .u8 7]], .nilsl, .nilsl], .agg [.str [117], .int .i64 8, .nilsl, .nilsl, .nilsl]]]], .tup [.agg [.str [], .int .i64 0], .int .i64 0]⟩] : List Kept), KeptOk Tryz.prog k := by
  intro k hk
  simp only [List.mem_cons, List.not_mem_nil, or_false] at hk
  rcases hk with rfl | rfl | rfl | rfl | rfl | rfl | rfl | rfl | rfl | rfl | rfl | rfl | rfl | rfl | rfl | rfl | rfl | rfl
  · exact k46b0
  · exact k46b1
  · exact k46c0
  · exact k46c1
  · exact k46e0
  · exact k46e1
  · exact k46e2
  · exact k46e3
  · exact k46e4
  · exact k46f0
  · exact k46f1
  · exact k46f2
  · exact k46g0
  · exact k46g1
  · exact k46h0
  · exact k46h1
  · exact k46h2
  · exact k46h3
theorem law46_known_ok : PCalls Tryz.prog 5 [] (.bool true) := true_ok (C := ⟨Tryz.prog, libK 250 [⟨28, 30, 40, [(getV ((callF ⟨Tryz.prog, libB 250, mu46⟩ 13).run (run ⟨Tryz.prog, libB 250, mu46⟩ 200) [] T.nil 2))], .bool true⟩, ⟨28, 30, 40, [(getV ((callF ⟨Tryz.prog, libB 250, mu46⟩ 14).run (run ⟨Tryz.prog, libB 250, mu46⟩ 200) [] T.nil 2))], .bool true⟩, ⟨87, 30, 40, [(getV ((callF ⟨Tryz.prog, libB 250, mu46⟩ 13).run (run ⟨Tryz.prog, libB 250, mu46⟩ 200) [] T.nil 2))], .bool true⟩, ⟨87, 30, 40, [(getV ((callF ⟨Tryz.prog, libB 250, mu46⟩ 14).run (run ⟨Tryz.prog, libB 250, mu46⟩ 200) [] T.nil 2))], .bool true⟩, ⟨33, 40, 40, [.agg [.str [65], .int .i64 0, .nilsl, .nilsl, .sl 0 4 5 [.agg [.str [110], .int .i64 1, .nilsl, .nilsl, .nilsl], .agg [.str [98], .int .i64 0, .sl 0 1 1 [.agg [.int .u8 7]], .nilsl, .nilsl], .agg [.str [120], .int .i64 3, .nilsl, .nilsl, .nilsl], .agg [.str [121], .int .i64 0, .nilsl, .nilsl, .nilsl]]]], .tup [.str [65, 40, 110, 61, 49, 32, 98, 35, 48, 55, 32, 120, 61, 51, 32, 121, 41], .int .i64 0]⟩, ⟨33, 40, 40, [.agg [.str [66], .int .i64 0, .nilsl, .nilsl, .sl 0 2 5 [.agg [.str [116], .int .i64 0, .sl 0 1 1 [.agg [.int .u8 7]], .nilsl, .nilsl], .agg [.str [117], .int .i64 8, .nilsl, .nilsl, .nilsl]]]], .tup [.str [66, 40, 116, 35, 48, 55, 32, 117, 61, 56, 41], .int .i64 0]⟩, ⟨33, 40, 40, [.agg [.str [65], .int .i64 0, .nilsl, .nilsl, .sl 0 4 5 [.agg [.str [110], .int .i64 1, .nilsl, .nilsl, .nilsl], .agg [.str [98], .int .i64 0, .sl 0 1 1 [.agg [.int .u8 0]], .nilsl, .nilsl], .agg [.str [120], .int .i64 3, .nilsl, .nilsl, .nilsl], .agg [.str [121], .int .i64 0, .nilsl, .nilsl, .nilsl]]]], .tup [.str [65, 40, 110, 61, 49, 32, 98, 35, 48, 48, 32, 120, 61, 51, 32, 121, 41], .int .i64 0]⟩, ⟨33, 40, 40, [.agg [.str [], .int .i64 0, .nilsl, .nilsl, .nilsl]], .tup [.str [], .int .i64 2]⟩, ⟨33, 40, 40, [.agg [.str [65], .int .i64 0, .nilsl, .nilsl, .sl 0 4 5 [.agg [.str [110], .int .i64 1, .nilsl, .nilsl, .nilsl], .agg [.str [98], .int .i64 0, .nilsl, .nilsl, .nilsl], .agg [.str [120], .int .i64 0, .nilsl, .nilsl, .nilsl], .agg [.str [121], .int .i64 0, .nilsl, .nilsl, .nilsl]]]], .tup [.str [65, 40, 110, 61, 49, 32, 98, 32, 120, 32, 121, 41], .int .i64 0]⟩, ⟨32, 40, 40, [.str [65, 40, 110, 61, 49, 32, 98, 35, 48, 55, 32, 120, 61, 51, 32, 121, 41]], .tup [.agg [.str [65], .int .i64 0, .nilsl, .nilsl, .sl 0 4 5 [.agg [.str [110], .int .i64 1, .nilsl, .nilsl, .nilsl], .agg [.str [98], .int .i64 0, .sl 0 1 1 [.agg [.int .u8 7]], .nilsl, .nilsl], .agg [.str [120], .int .i64 3, .nilsl, .nilsl, .nilsl], .agg [.str [121], .int .i64 0, .nilsl, .nilsl, .nilsl]]], .int .i64 0]⟩, ⟨32, 40, 40, [.str [65, 40, 110, 61, 49, 32, 98, 35, 48, 48, 32, 120, 61, 51, 32, 121, 41]], .tup [.agg [.str [65], .int .i64 0, .nilsl, .nilsl, .sl 0 4 5 [.agg [.str [110], .int .i64 1, .nilsl, .nilsl, .nilsl], .agg [.str [98], .int .i64 0, .sl 0 1 1 [.agg [.int .u8 0]], .nilsl, .nilsl], .agg [.str [120], .int .i64 3, .nilsl, .nilsl, .nilsl], .agg [.str [121], .int .i64 0, .nilsl, .nilsl, .nilsl]]], .int .i64 0]⟩, ⟨32, 40, 40, [.str [65, 40, 110, 61, 49, 32, 98, 32, 120, 32, 121, 41]], .tup [.agg [.str [65], .int .i64 0, .nilsl, .nilsl, .sl 0 4 5 [.agg [.str [110], .int .i64 1, .nilsl, .nilsl, .nilsl], .agg [.str [98], .int .i64 0, .nilsl, .nilsl, .nilsl], .agg [.str [120], .int .i64 0, .nilsl, .nilsl, .nilsl], .agg [.str [121], .int .i64 0, .nilsl, .nilsl, .nilsl]]], .int .i64 0]⟩, ⟨29, 40, 40, [.agg [.str [109], .sl 0 1 3 [.agg [.str [65], .str [66], .sl 0 2 7 [.agg [.str [116], .int .i64 1, .str [98], .int .i64 0, .int .i64 0, .nilsl, .nilsl], .agg [.str [117], .int .i64 2, .str [120], .int .i64 5, .int .i64 0, .nilsl, .nilsl]]]]], (getV ((callF ⟨Tryz.prog, libB 250, mu46⟩ 13).run (run ⟨Tryz.prog, libB 250, mu46⟩ 200) [] T.nil 2)), (getV ((callF ⟨Tryz.prog, libB 250, mu46⟩ 14).run (run ⟨Tryz.prog, libB 250, mu46⟩ 200) [] T.nil 2))], .bool true⟩, ⟨29, 40, 40, [.agg [.str [109], .sl 0 1 3 [.agg [.str [65], .str [66], .sl 0 2 7 [.agg [.str [116], .int .i64 1, .str [98], .int .i64 0, .int .i64 0, .nilsl, .nilsl], .agg [.str [117], .int .i64 5, .str [120], .int .i64 0, .int .i64 0, .nilsl, .sl 0 1 3 [.agg [.int .i64 0, .int .i64 2, .int .i64 1]]]]]]], (getV ((callF ⟨Tryz.prog, libB 250, mu46⟩ 13).run (run ⟨Tryz.prog, libB 250, mu46⟩ 200) [] T.nil 2)), (getV ((callF ⟨Tryz.prog, libB 250, mu46⟩ 14).run (run ⟨Tryz.prog, libB 250, mu46⟩ 200) [] T.nil 2))], .bool true⟩, ⟨18, 40, 40, [(getV ((callF ⟨Tryz.prog, libB 250, mu46⟩ 13).run (run ⟨Tryz.prog, libB 250, mu46⟩ 200) [] T.nil 2)), .str [65], .agg [.str [65], .int .i64 0, .nilsl, .nilsl, .sl 0 4 5 [.agg [.str [110], .int .i64 1, .nilsl, .nilsl, .nilsl], .agg [.str [98], .int .i64 0, .sl 0 1 1 [.agg [.int .u8 7]], .nilsl, .nilsl], .agg [.str [120], .int .i64 3, .nilsl, .nilsl, .nilsl], .agg [.str [121], .int .i64 0, .nilsl, .nilsl, .nilsl]]]], .tup [.agg [.str [], .int .i64 0], .int .i64 0]⟩, ⟨18, 40, 40, [(getV ((callF ⟨Tryz.prog, libB 250, mu46⟩ 13).run (run ⟨Tryz.prog, libB 250, mu46⟩ 200) [] T.nil 2)), .str [65], .agg [.str [65], .int .i64 0, .nilsl, .nilsl, .sl 0 4 5 [.agg [.str [110], .int .i64 1, .nilsl, .nilsl, .nilsl], .agg [.str [98], .int .i64 0, .sl 0 1 1 [.agg [.int .u8 0]], .nilsl, .nilsl], .agg [.str [120], .int .i64 3, .nilsl, .nilsl, .nilsl], .agg [.str [121], .int .i64 0, .nilsl, .nilsl, .nilsl]]]], .tup [.agg [.str [], .int .i64 0], .int .i64 0]⟩, ⟨18, 40, 40, [(getV ((callF ⟨Tryz.prog, libB 250, mu46⟩ 13).run (run ⟨Tryz.prog, libB 250, mu46⟩ 200) [] T.nil 2)), .str [65], .agg [.str [65], .int .i64 0, .nilsl, .nilsl, .sl 0 4 5 [.agg [.str [110], .int .i64 1, .nilsl, .nilsl, .nilsl], .agg [.str [98], .int .i64 0, .nilsl, .nilsl, .nilsl], .agg [.str [120], .int .i64 0, .nilsl, .nilsl, .nilsl], .agg [.str [121], .int .i64 0, .nilsl, .nilsl, .nilsl]]]], .tup [.agg [.str [98], .int .i64 4], .int .i64 4]⟩, ⟨18, 40, 40, [(getV ((callF ⟨Tryz.prog, libB 250, mu46⟩ 14).run (run ⟨Tryz.prog, libB 250, mu46⟩ 200) [] T.nil 2)), .str [66], .agg [.str [66], .int .i64 0, .nilsl, .nilsl, .sl 0 2 5 [.agg [.str [116], .int .i64 0, .sl 0 1 1 [.agg [.int .u8 7]], .nilsl, .nilsl], .agg [.str [117], .int .i64 8, .nilsl, .nilsl, .nilsl]]]], .tup [.agg [.str [], .int .i64 0], .int .i64 0]⟩], mu46⟩) (libK_ok lib46_ok k46_all) (m := 100000) (by kernel_rfl)
end Go.DL
namespace Go.DL
open Go Go.ChangeShapes Go.RowKit Go.WideShapes Go.ChangeAt
def topG (W : World) : G := { prot := fun b => match W.heap[b]? with | some (.cells vs _ _) => vs.size | _ => 0, kept := fun b => b < W.heap.size }
theorem topG_st (W : World) : StOk (topG W) (fun _ => none) W := {
  obj b o h := by simp at h
  kept b o h := by simp at h
  fresh b hb := ⟨by simp [topG, hb], by simp only [topG]; omega⟩ }
theorem top_call {P : Program} {f : FuncId} {args : List D} (h : PCalls P f args (.bool true)) {W : World} {vs : List Value} (ha : All2 (Rep (topG W) W) vs args) :
    Calls P f vs.toArray W fun e W' => e = .returned (.bool true) ∧ Below W.heap.size W W' := by
  refine ((h (fun _ => none)).2 _ W vs (topG_st W) ha).mono fun e W' hp => ?_
  obtain ⟨g', s', r, he, hs, hr, hq, _⟩ := hp
  subst hq
  cases e with
  | returned v => cases hr; exact ⟨rfl, he.os, he.tape, he.output, he.size, fun b hb => he.kept b hb⟩
  | _ => exact hr.elim
section
variable {H : Type} {enc : TypeId × Value → H} {P : Program} {w : World}
def ReadsP (p : Nat → Prop) (enc : TypeId × Value → H) (P : Program) (w : World) (t : TypeId) (R : List D → Prop) : Prop :=
  ∀ fuel cs x, p fuel → DataW.trod enc P w 0 (fun _ => true) true fuel t cs = some x → ∃ ds, R ds ∧ All2 (Rep (topG w) w) cs ds ∧ ∀ v ∈ cs, v.one1 = true
abbrev Reads (enc : TypeId × Value → H) (P : Program) (w : World) (t : TypeId) (R : List D → Prop) : Prop := ReadsP (fun _ => True) enc P w t R
variable {p q : Nat → Prop}
theorem lit_in {k : IntKind} {n : Int} (h : (Lit.int k n).wf = true) : inR k n := by
  simpa [Lit.wf, inR] using h
theorem reads_intR {t : TypeId} {k : IntKind} (ht : P.underlying t = some (.int k)) : ReadsP p enc P w t fun ds => ∃ n, inR k n ∧ ds = [.int k n] := by
  intro fuel cs x _ h
  obtain ⟨n, rfl, _, hn⟩ := DataW.trod_int ht h
  exact ⟨_, ⟨n, lit_in hn, rfl⟩, .cons (.int k n (lit_in hn)) .nil, fun v hv => by simp at hv; subst hv; rfl⟩
theorem ReadsP.imp {t : TypeId} {R R' : List D → Prop} (h : ReadsP p enc P w t R) (hi : ∀ ds, R ds → R' ds) : ReadsP p enc P w t R' := fun fuel cs x hp hx => by
  obtain ⟨ds, h1, h2⟩ := h fuel cs x hp hx
  exact ⟨ds, hi ds h1, h2⟩
theorem reads_int {t : TypeId} {k : IntKind} (ht : P.underlying t = some (.int k)) : ReadsP p enc P w t fun ds => ∃ n, ds = [.int k n] := (reads_intR ht).imp fun _ ⟨n, _, h⟩ => ⟨n, h⟩
theorem reads_str {t : TypeId} (ht : P.underlying t = some .string) : ReadsP p enc P w t fun ds => ∃ s, ds = [.str s] := by
  intro fuel cs x _ h
  obtain ⟨s, rfl, _, hs⟩ := DataW.trod_string ht h
  refine ⟨_, ⟨s.data.toList, rfl⟩, .cons (.str s _ rfl ?_) .nil, fun v hv => by simp at hv; subst hv; rfl⟩
  have : s.data.toList.length = s.size := by rw [Array.length_toList]; rfl
  rw [this]; simp only [maxLen] at hs; simp only [big]; omega
theorem all2_append {α β : Type} {R : α → β → Prop} {a a' : List α} {b b' : List β} (h : All2 R a b) (h' : All2 R a' b') : All2 R (a ++ a') (b ++ b') := by
  induction h with
  | nil => exact h'
  | cons h1 _ ih => exact .cons h1 ih
def Cat : List (List D → Prop) → List D → Prop
  | [], ds => ds = []
  | R :: Rs, ds => ∃ a b, ds = a ++ b ∧ R a ∧ Cat Rs b
def offs (P : Program) : Nat → List Field → Nat → Bool
  | o, [], n => o == n
  | o, f :: r, n => f.offset == o && offs P (o + P.cellsOf f.type) r n
inductive ReadsL (p : Nat → Prop) (enc : TypeId × Value → H) (P : Program) (w : World) : List Field → List (List D → Prop) → Prop where
  | nil : ReadsL p enc P w [] []
  | cons {f : Field} {fs : List Field} {R : List D → Prop} {Rs : List (List D → Prop)} (h : ReadsP p enc P w f.type R) (t : ReadsL p enc P w fs Rs) : ReadsL p enc P w (f :: fs) (R :: Rs)
theorem readsL_ok {fs : List Field} {Rs : List (List D → Prop)} (hR : ReadsL q enc P w fs Rs) : ∀ {o n m : Nat} {cs : List Value}, q m → offs P o fs n = true → cs.length = n →
    (∀ f ∈ fs, ∃ x, DataW.trod enc P w 0 (fun _ => true) true m f.type ((cs.drop f.offset).take (P.cellsOf f.type)) = some x) →
    ∃ ds, Cat Rs ds ∧ All2 (Rep (topG w) w) (cs.drop o) ds ∧ ∀ v ∈ cs.drop o, v.one1 = true := by
  induction hR with
  | nil =>
    intro o n m cs _ ho hl _
    simp only [offs, beq_iff_eq] at ho
    subst ho; subst hl
    exact ⟨[], rfl, by rw [List.drop_length]; exact .nil, by simp⟩
  | cons h _ ih =>
    rename_i f fs R Rs _
    intro o n m cs hm ho hl hx
    simp only [offs, Bool.and_eq_true, beq_iff_eq] at ho
    obtain ⟨ho1, ho2⟩ := ho
    obtain ⟨x, h1⟩ := hx f (List.mem_cons_self ..)
    obtain ⟨a, ha1, ha2, ha3⟩ := h _ _ _ hm h1
    obtain ⟨b, hb1, hb2, hb3⟩ := ih hm ho2 hl fun f' hf' => hx f' (List.mem_cons_of_mem _ hf')
    rw [ho1] at ha2 ha3
    have e : cs.drop o = (cs.drop o).take (P.cellsOf f.type) ++ cs.drop (o + P.cellsOf f.type) := by
      rw [← List.drop_drop]; exact (List.take_append_drop _ _).symm
    refine ⟨a ++ b, ⟨a, b, rfl, ha1, hb1⟩, by rw [e]; exact all2_append ha2 hb2, fun v hv => ?_⟩
    rw [e, List.mem_append] at hv
    exact hv.elim (ha3 v) (hb3 v)
theorem reads_struct {t : TypeId} {fs : Array Field} (ht : P.underlying t = some (.struct fs)) {Rs : List (List D → Prop)} (hR : ReadsL q enc P w fs.toList Rs) (ho : offs P 0 fs.toList (P.cellsOf t) = true) (hpq : ∀ n, p (n + 1) → q n := by intros; trivial) : ReadsP p enc P w t (Cat Rs) := by
  intro fuel cs x hp h
  obtain ⟨xs, n, rfl, _, hl, hxl, hx⟩ := DataW.trod_struct ht h
  obtain ⟨ds, h1, h2, h3⟩ := readsL_ok hR (m := n) (hpq n hp) ho hl (fun f hf => by
    obtain ⟨i, hi, rfl⟩ := List.getElem_of_mem hf
    have hi' : i < fs.size := by simpa using hi
    refine ⟨xs[i]'(by omega), ?_⟩
    have := hx i fs[i] (by simp [hi'])
    rw [List.getElem?_eq_getElem (by omega)] at this
    simpa using this)
  rw [List.drop_zero] at h2 h3
  exact ⟨ds, h1, h2, h3⟩
theorem cells_get {a : Addr} {n : Nat} {cs : List Value} (h : w.cells? 0 a n = some cs) : cs.length = n ∧ ∀ j, j < n → w.cell? (a.add j) = cs[j]? := by
  simp only [World.cells?, Nat.zero_le, if_true] at h
  refine ⟨by simpa using mapM_some_length h, fun j hj => ?_⟩
  have := mapM_some_get h j j (by simp [hj])
  exact this
theorem reads_sliceR {t e : TypeId} {n : Nat} {α : Type} [Inhabited α] {f : α → List D} {row : List α → Nat → List D} (hrow : ∀ l i, i < l.length → row l i = f (l.getD i default)) (ht : P.underlying t = some (.slice e)) (hn : P.cellsOf e = n) (hn0 : 0 < n) (hf : ∀ x, (f x).length = n)
    (he : ReadsP q enc P w e fun ds => ∃ x, ds = f x) (hpq : ∀ n, p (n + 1) → q n := by intros; trivial) : ReadsP p enc P w t fun ds => ∃ l : List α, ds = [.sl .none l.length n (row l)] := by
  intro fuel cs x hp h
  rcases DataW.trod_slice ht h with ⟨rfl, _⟩ | ⟨a, len, cap, elems, rest, m, rfl, rfl, _, _, hlc, hcap, hel, hx, hrest, _⟩
  · exact ⟨_, ⟨[], rfl⟩, .cons (.sl0 _ _ _ _ (by simp)) .nil, fun v hv => by simp at hv; subst hv; rfl⟩
  have key : ∀ i, i < len → ∃ (cs : List Value) (y : α), w.cells? 0 (a.add (i * n)) n = some cs ∧ All2 (Rep (topG w) w) cs (f y) ∧ ∀ v ∈ cs, v.one1 = true := by
    intro i hi
    have h1 := hx i hi
    rw [List.getElem?_eq_getElem (by omega), hn] at h1
    obtain ⟨cs, h2, h3⟩ := Option.bind_eq_some_iff.1 h1
    obtain ⟨ds, ⟨y, rfl⟩, h4, h5⟩ := he _ _ _ (hpq _ hp) h3
    exact ⟨cs, y, h2, h4, h5⟩
  have hbig : cap ≤ big := by simp only [maxLen] at hcap; simp only [big]; omega
  let g : (i : Nat) → i < len → α := fun i hi => (Classical.choose_spec (key i hi)).choose
  let c : (i : Nat) → i < len → List Value := fun i hi => Classical.choose (key i hi)
  have hg : ∀ i (hi : i < len), w.cells? 0 (a.add (i * n)) n = some (c i hi) ∧ All2 (Rep (topG w) w) (c i hi) (f (g i hi)) ∧ ∀ v ∈ c i hi, v.one1 = true := fun i hi => (Classical.choose_spec (key i hi)).choose_spec
  let l : List α := List.ofFn fun i : Fin len => g i.1 i.2
  have hll : l.length = len := by simp [l]
  have hlg : ∀ i (hi : i < len), l.getD i default = g i hi := fun i hi => by simp [l, List.getD, hi]
  have hrl : ∀ i (hi : i < len), row l i = f (g i hi) := fun i hi => by rw [hrow l i (by omega), hlg i hi]
  refine ⟨_, ⟨l, rfl⟩, .cons ?_ .nil, fun v hv => by simp at hv; subst hv; rfl⟩
  by_cases hl0 : len = 0
  · subst hl0
    have hle : l = [] := List.eq_nil_of_length_eq_zero hll
    rw [hle]
    by_cases hs : a.spot = none
    · obtain ⟨b, o, sp⟩ := a
      simp only at hs
      subst hs
      exact .sl b o 0 cap n _ .none (fun _ _ => undef) (fun i hi => by simp at hi) (fun i j hi => by simp at hi) (fun i j hi => by simp at hi) (fun i j d hi => by simp at hi) (fun i j hi => by simp at hi) trivial (Nat.zero_le _) hbig
    · have hc0 : cap = 0 := by
        rcases Nat.eq_zero_or_pos cap with h0 | h0
        · exact h0
        · obtain ⟨h1, h2⟩ := hrest rfl
          have h3 := h2 0 (by omega)
          rw [List.getElem?_eq_getElem (by omega), hn] at h3
          obtain ⟨cs, h4, _⟩ := Option.bind_eq_some_iff.1 h3
          have h5 := (cells_get h4).2 0 (by omega)
          have h6 := (cells_get h4).1
          rw [List.getElem?_eq_getElem (by omega)] at h5
          have := World.cell?_spot h5
          exact absurd (by simpa [Addr.add] using this) hs
      subst hc0
      exact .sl0 _ _ _ _ (by simp)
  · have hsp : a.spot = none := by
      have h0 := (hg 0 (by omega)).1
      have h1 := (cells_get h0).2 0 (by omega)
      have h2 : (c 0 (by omega)).length = n := (cells_get h0).1
      rw [List.getElem?_eq_getElem (by omega)] at h1
      have := World.cell?_spot h1
      simpa [Addr.add] using this
    obtain ⟨b, o, sp⟩ := a
    simp only at hsp
    subst hsp
    have hget : ∀ i j (hi : i < len) (hj : j < n), w.cell? ⟨b, o + i * n + j, none⟩ = (c i hi)[j]? := fun i j hi hj => by
      have h1 := (cells_get (hg i hi).1).2 j hj
      rw [addr_add, addr_add] at h1
      exact h1
    have hcl : ∀ i (hi : i < len), (c i hi).length = n := fun i hi => (cells_get (hg i hi).1).1
    rw [hll]
    refine .sl b o len cap n _ .none (fun i j => if hi : i < len then (c i hi).getD j undef else undef) (fun i hi => by rw [hrl i hi]; exact hf _) (fun i j hi hj => ?_) (fun i j hi hj => ?_) (fun i j d hi hd => ?_) (fun i j hi hj => ?_) trivial hlc hbig
    · simp only [dif_pos hi]
      rw [hget i j hi hj, List.getD, List.getElem?_eq_getElem (by rw [hcl i hi]; exact hj)]; rfl
    · have h1 := hget i j hi hj
      rw [List.getElem?_eq_getElem (by rw [hcl i hi]; exact hj)] at h1
      simp only [World.cell?] at h1
      split at h1
      · rename_i vs T fr hh
        simp only [topG, hh]
        have h1' : vs[o + i * n + j]? = some ((c i hi)[j]'(by rw [hcl i hi]; exact hj)) := by simpa using h1
        exact (Array.getElem?_eq_some_iff.1 h1').1
      · simp at h1
    · simp only [dif_pos hi]
      rw [hrl i hi] at hd
      have hj : j < n := by rw [← hf (g i hi)]; exact (List.getElem?_eq_some_iff.1 hd).1
      refine (hg i hi).2.1.get j _ d ?_ hd
      rw [List.getD, List.getElem?_eq_getElem (by rw [hcl i hi]; exact hj)]; rfl
    · simp only [dif_pos hi]
      refine (hg i hi).2.2 _ ?_
      rw [List.getD, List.getElem?_eq_getElem (by rw [hcl i hi]; exact hj)]
      exact List.getElem_mem _
theorem reads_slice {t e : TypeId} {n : Nat} {α : Type} [Inhabited α] {f : α → List D} (ht : P.underlying t = some (.slice e)) (hn : P.cellsOf e = n) (hn0 : 0 < n) (hf : ∀ x, (f x).length = n)
    (he : ReadsP q enc P w e fun ds => ∃ x, ds = f x) (hpq : ∀ n, p (n + 1) → q n := by intros; trivial) : ReadsP p enc P w t fun ds => ∃ l : List α, ds = [.sl .none l.length n fun i => f (l.getD i default)] :=
  reads_sliceR (row := fun l i => f (l.getD i default)) (fun _ _ _ => rfl) ht hn hn0 hf he hpq
def ArgReads (enc : TypeId × Value → H) (P : Program) (t : TypeId) (Q : D → Prop) : Prop :=
  ∀ (W : World) (base : Nat) (v : Value) (d : DataW H) (ps : List MemPlace), Value.okWide P W .any base t v → DataW.Trod enc P W 0 (fun _ => true) true t v d ps → ∃ x, Q x ∧ Rep (topG W) W v x
theorem argReads_struct {t : TypeId} {fs : Array Field} (ht : P.underlying t = some (.struct fs)) {R : List D → Prop} (h : ∀ W, Reads enc P W t R) : ArgReads enc P t fun x => ∃ ds, R ds ∧ x = .agg ds := by
  intro W base v d ps hok ⟨fuel, hf⟩
  obtain ⟨cs, rfl, _⟩ := okWide_struct ht hok
  obtain ⟨ds, h1, h2, h3⟩ := h W _ _ _ trivial hf
  exact ⟨_, ⟨ds, h1, rfl⟩, .agg cs.toList ds h2.len (fun i v d hv hd => h2.get i v d hv hd) h3⟩
theorem argReads_one {t : TypeId} {R : List D → Prop} {Q : D → Prop} (h1 : ∀ W base v, Value.okWide P W .any base t v → v.cells = #[v]) (h : ∀ W, Reads enc P W t R) (hq : ∀ ds, R ds → ∃ x, ds = [x] ∧ Q x) : ArgReads enc P t Q := by
  intro W base v d ps hok ⟨fuel, hf⟩
  rw [h1 _ _ _ hok] at hf
  obtain ⟨ds, h2, h3, _⟩ := h W _ _ _ trivial hf
  obtain ⟨x, rfl, hx⟩ := hq ds h2
  cases h3 with | cons h4 _ => exact ⟨x, hx, h4⟩
theorem argReads_slice {t e : TypeId} (ht : P.underlying t = some (.slice e)) {R : List D → Prop} {Q : D → Prop} (h : ∀ W, Reads enc P W t R) (hq : ∀ ds, R ds → ∃ x, ds = [x] ∧ Q x) : ArgReads enc P t Q :=
  argReads_one (fun W base v hok => by obtain ⟨a, n, c, rfl⟩ := okWide_slice ht hok; rfl) h hq
inductive ArgsR (enc : TypeId × Value → H) (P : Program) : List TypeId → List (D → Prop) → Prop where
  | nil : ArgsR enc P [] []
  | cons {t : TypeId} {Q : D → Prop} {ts : List TypeId} {Qs : List (D → Prop)} (h : ArgReads enc P t Q) (r : ArgsR enc P ts Qs) : ArgsR enc P (t :: ts) (Q :: Qs)
inductive AllQ : List (D → Prop) → List D → Prop where
  | nil : AllQ [] []
  | cons {Q : D → Prop} {x : D} {Qs : List (D → Prop)} {xs : List D} (h : Q x) (r : AllQ Qs xs) : AllQ (Q :: Qs) (x :: xs)
theorem argsR_ok {ts : List TypeId} {Qs : List (D → Prop)} (h : ArgsR enc P ts Qs) : ∀ {W : World} {base : Nat} {vs : List Value} {ds : List (DataW H)} {ps : List MemPlace},
    (∀ (j : Nat) t v, ts[j]? = some t → vs[j]? = some v → Value.okWide P W .any base t v) → DataW.TrodAll enc P W 0 (fun _ => true) true ts vs ds ps → ∃ xs, AllQ Qs xs ∧ All2 (Rep (topG W) W) vs xs := by
  induction h with
  | nil =>
    intro W base vs ds ps _ ht
    obtain ⟨rfl, _⟩ := trodAll_nil ht
    exact ⟨[], .nil, .nil⟩
  | cons h1 _ ih =>
    intro W base vs ds ps hok ht
    obtain ⟨v, vs', d, ds', p, q, rfl, rfl, rfl, h2, h3⟩ := trodAll_cons ht
    obtain ⟨x, hx1, hx2⟩ := h1 W base v d p (hok 0 _ _ rfl rfl) h2
    obtain ⟨xs, hxs1, hxs2⟩ := ih (base := base) (fun j t v hj hv => hok (j + 1) t v (by simpa using hj) (by simpa using hv)) h3
    exact ⟨x :: xs, .cons hx1 hxs1, .cons hx2 hxs2⟩
theorem trodAll_below (hl : laidOutB P = true) {W W' : World} (hb : Below W.heap.size W W') : ∀ {ts : List TypeId} {vs : List Value} {ds : List (DataW H)} {ps : List MemPlace}, (∀ t ∈ ts, P.readableRec t = true ∧ t < P.types.size) →
    DataW.TrodAll enc P W 0 (fun _ => true) true ts vs ds ps → (∀ x ∈ ps, x.block < W.heap.size) → DataW.TrodAll enc P W' 0 (fun b => decide (b < W.heap.size)) true ts vs ds ps
  | [], vs, ds, ps, _, h, _ => by
    obtain ⟨rfl, rfl, rfl⟩ := trodAll_nil h
    rfl
  | t :: ts, vs, ds, ps, ht, h, hlt => by
    obtain ⟨v, vs', d, ds', p, q, rfl, rfl, rfl, h2, h3⟩ := trodAll_cons h
    have h4 := ht t (List.mem_cons_self ..)
    exact trodAll_cons_mk (Below.trod hl h4.1 h4.2 h2 hb fun x hx => hlt x (List.mem_append_left _ hx)) (trodAll_below hl hb (fun t ht' => ht t (List.mem_cons_of_mem _ ht')) h3 fun x hx => hlt x (List.mem_append_right _ hx))
theorem law_contract {f : FuncId} {fn : Func} {s : ChangeSpec} {tb : TypeId} {Qs : List (D → Prop)} (hv : s.vars = []) (hl : laidOutB P = true) (hr : ∀ t ∈ fn.params.toList, P.readableRec t = true ∧ t < P.types.size)
    (hres : fn.resultTypes = #[tb]) (hb : P.underlying tb = some .bool) (hfn : ∀ ds : List (DataW H), ds.length = fn.params.toList.length → s.fn H ds = { results := [.lit (.bool true)], args := ds })
    (hargs : ArgsR enc P fn.params.toList Qs) (hcall : ∀ xs, AllQ Qs xs → PCalls P f xs (.bool true))
    (W : World) (base : Nat) (args : Array Value) (ds gs : List (DataW H)) (before : List MemPlace)
    (hval : ∀ (j : Nat) t v, fn.params[j]? = some t → args[j]? = some v → Value.okWide P W .any base t v) (hW : DataW.Whole enc P fn.params.toList s.vars false W args.toList ds gs before) :
    Calls P f args W fun e W' => ∃ v, e = .returned v ∧ s.post enc P fn false true false false W args v W' := by
  have hW' := hW
  obtain ⟨p, q, hA, hV, rfl, _, _⟩ := hW
  rw [hv] at hV
  obtain ⟨rfl, rfl⟩ := trodVars_none hV
  obtain ⟨xs, hx1, hx2⟩ := argsR_ok hargs (fun j t v hj hvj => hval j t v (by simpa using hj) (by simpa using hvj)) hA
  have hlen := (trodAll_length hA).2
  have hlt : ∀ x ∈ p, x.block < W.heap.size := fun x hx => by simpa using hW'.lt x (by simpa using hx)
  refine (top_call (hcall xs hx1) hx2).mono fun e W' ⟨he, hbel⟩ => ⟨.bool true, he, ?_⟩
  have hspec := hfn ds hlen
  refine ⟨ds, [], p ++ [], [], p, [], hW', ?_, ?_, ?_, hbel.frame _, fun h => by cases h⟩
  · rw [List.append_nil, hspec, hres]
    exact trodAll_mk1 ⟨1, by simp [DataW.trod, hb, Value.cells]⟩
  · rw [List.append_nil, hspec]
    exact trodAll_below hl hbel hr hA hlt
  · rw [hv, List.append_nil, hspec]
    rfl
end
end Go.DL
