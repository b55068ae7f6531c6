/- Lemmas: K46b. -/
import Derived.Test.YtgahdekefapllaaGreatDoorT06
set_option maxHeartbeats 16000000
set_option linter.all false
namespace Go.DL
open Go Go.Proofs
theorem k46b0 : KeptOk Tryz.prog ⟨28, 30, 40, [(getV ((callF ⟨Tryz.prog, libB 250, mu46⟩ 13).run (run ⟨Tryz.prog, libB 250, mu46⟩ 200) [] T.nil 2))], .bool true⟩ := kept_ok (C := ⟨Tryz.prog, libB 250, mu46⟩) lib46_ok ⟨28, 30, 40, [(getV ((callF ⟨Tryz.prog, libB 250, mu46⟩ 13).run (run ⟨Tryz.prog, libB 250, mu46⟩ 200) [] T.nil 2))], .bool true⟩ (m := 20000) (by kernel_rfl)
theorem k46b1 : KeptOk Tryz.prog ⟨28, 30, 40, [(getV ((callF ⟨Tryz.prog, libB 250, mu46⟩ 14).run (run ⟨Tryz.prog, libB 250, mu46⟩ 200) [] T.nil 2))], .bool true⟩ := kept_ok (C := ⟨Tryz.prog, libB 250, mu46⟩) lib46_ok ⟨28, 30, 40, [(getV ((callF ⟨Tryz.prog, libB 250, mu46⟩ 14).run (run ⟨Tryz.prog, libB 250, mu46⟩ 200) [] T.nil 2))], .bool true⟩ (m := 20000) (by kernel_rfl)
end Go.DL
