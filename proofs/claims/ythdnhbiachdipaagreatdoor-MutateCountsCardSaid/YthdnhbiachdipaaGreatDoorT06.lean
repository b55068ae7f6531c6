/- Lemmas: M40k. -/
import Derived.Test.YthdnhbiachdipaaGreatDoorT05
set_option maxHeartbeats 16000000
set_option linter.all false
namespace Go.DL
open Go Go.Proofs
def mu40 (f : FuncId) (_ : Option Nat) : Bool := memN f [5, 7, 9, 10, 15, 16, 17, 18, 20, 33, 35, 36, 37, 38, 39, 40, 44, 64, 65, 66, 67, 72, 73, 81, 152, 201, 202, 249, 250, 251, 252, 301, 302, 303, 304, 305, 358, 360, 361, 362, 363, 364, 365, 366, 388, 397]
theorem lib40_ok (t : St) : LibOk ⟨⟨Tryz.prog, libB 89, mu40⟩, t⟩ :=
  libB_ok (n := 149) (by kernel_rfl) Tryz.func149 (by kernel_rfl) (by kernel_rfl) (by kernel_rfl) (by kernel_rfl) t
theorem m21 : isTrue ((callF ⟨Tryz.prog, libB 89, mu40⟩ 21).run (run ⟨Tryz.prog, libB 89, mu40⟩ 4000) [zV 30 (getV ((callF ⟨Tryz.prog, libB 89, mu40⟩ 8).run (run ⟨Tryz.prog, libB 89, mu40⟩ 100) [] T.nil 2))] T.nil 2) = true := by kernel_rfl
end Go.DL
