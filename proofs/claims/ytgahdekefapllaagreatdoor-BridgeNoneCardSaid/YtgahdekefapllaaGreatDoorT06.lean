/- Lemmas: K46a. -/
import Derived.Test.YtgahdekefapllaaGreatDoorT05
set_option maxHeartbeats 16000000
set_option linter.all false
namespace Go.DL
open Go Go.Proofs
def mu46 (f : FuncId) (_ : Option Nat) : Bool := memN f [18, 34, 35, 36, 45, 46, 47, 53, 54, 55, 58, 59, 60, 61, 67, 68, 69, 80, 101, 102, 103, 104, 105, 106, 108, 110, 111, 113, 167, 169, 170, 171, 172, 173, 174, 175, 176, 178, 180, 181, 182, 183, 184, 185, 192, 193, 256, 283, 284]
theorem lib46_ok (t : St) : LibOk ⟨⟨Tryz.prog, libB 250, mu46⟩, t⟩ :=
  libB_ok (n := 297) (by kernel_rfl) Tryz.func297 (by kernel_rfl) (by kernel_rfl) (by kernel_rfl) (by kernel_rfl) t
end Go.DL
