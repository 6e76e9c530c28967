/- The program's BoxFault: the law FnExactBoxFault holds, for all arguments. Conditions: none. -/
import Derived.Test.YtkijbknnbmbnbaaRows
import Derived.Test.YtkijbknnbmbnbaaSFnExactBoxFault
import Derived.Test.YtkijbknnbmbnbaaX12
import Derived.WalkKit
import Derived.ProofKit
import Derived.OpenShut
import Derived.ShutString
import Derived.ChangeOld
import Derived.Below
import Derived.SizedLaws
namespace Go.Proofs.Ytkijbknnbmbnbaa.fnExactBoxFault
open Go.ChangeShapes Go.WideShapes Go.ChangeAt Go.RowKit
set_option linter.unusedVariables false
theorem over : Rows.fnExactBoxFaultRow.holds Try.pinned (OpenSpec.ofChange Rows.fnExactBoxFaultSpec) :=
  OpenClaim.holds_of_wide 9 Try.f9 rfl rfl rfl rfl rfl rfl rfl ⟨rfl, rfl, rfl, rfl, rfl⟩ rfl rfl rfl rfl rfl (by kernel_rfl) Try.func9 (by kernel_rfl)
    (of_decide_eq_true (by kernel_rfl)) (by unfold Func.isWrapper; first | (rw [if_pos (by decide +kernel)]; kernel_rfl) | (rw [if_neg (by decide +kernel)]; exact ⟨rfl, rfl⟩))
    (fun os started H enc _ => lifted os started H enc)
theorem proved : Rows.FnExactBoxFaultSaid := over
#print axioms proved
end Go.Proofs.Ytkijbknnbmbnbaa.fnExactBoxFault
namespace Go.Proofs.Ytkijbknnbmbnbaa
/-- The row, under a short name, for the claim. -/
theorem fnExactBoxFault_holds : Rows.FnExactBoxFaultSaid := fnExactBoxFault.proved
end Go.Proofs.Ytkijbknnbmbnbaa
