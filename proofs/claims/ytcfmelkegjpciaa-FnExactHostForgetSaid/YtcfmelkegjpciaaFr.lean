/-
  What all frames need; no condition.
-/
import Derived.Test.YtcfmelkegjpciaaP3
import Derived.OpenShut
import Derived.ShutString
import Derived.ChangeOld
import Derived.Carry
set_option linter.all false
open Go Go.Am Go.Proofs
open Go.ChangeShapes Go.WideShapes Go.ChangeAt Go.RowKit
namespace Go.Proofs.Ytcfmelkegjpciaa.T
theorem own : ownKnob Try.prog.godebug = none := by kernel_rfl
theorem laidOut : laidOutB Try.prog = true := by kernel_rfl
theorem bytes_of {y : List Int} (h : Wf kU y) : Cm.bytes y := fun i hi => by
  have h1 : (Lit.int .u8 (y.getD i 0)).wf = true := h.2 i hi
  generalize y.getD i 0 = x at h1 ⊢
  have e1 : IntKind.u8.min = 0 := rfl
  have e2 : IntKind.u8.max = 255 := rfl
  simp [Lit.wf, e1, e2] at h1
  omega
theorem wfM_of {y : Cm.Mm} (h : Wf kM y) : Cm.wfM y := ⟨h.1, fun i hi => (h.2 i hi).1⟩
end Go.Proofs.Ytcfmelkegjpciaa.T

