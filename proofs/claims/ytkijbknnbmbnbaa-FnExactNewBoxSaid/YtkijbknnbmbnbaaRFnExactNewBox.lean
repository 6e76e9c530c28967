/- The program's NewBox: the law FnExactNewBox holds, for all arguments. Conditions: none. -/
import Derived.Test.YtkijbknnbmbnbaaRows
import Derived.Test.YtkijbknnbmbnbaaSFnExactNewBox
import Derived.Test.YtkijbknnbmbnbaaX14
import Derived.WalkKit
import Derived.ProofKit
import Derived.OpenShut
import Derived.ShutString
import Derived.ChangeOld
import Derived.Below
import Derived.SizedLaws
namespace Go.Proofs.Ytkijbknnbmbnbaa.fnExactNewBox
open Go.ChangeShapes Go.WideShapes Go.ChangeAt Go.RowKit
set_option linter.unusedVariables false
theorem over_named : Try.pinned.checked.prog.funcNamed Rows.fnExactNewBoxRow.func = some 11 := by kernel_rfl
theorem over_closed : joinedFacts Try.pinned.checked.prog 11 Try.f11 Rows.fnExactNewBoxSpec Rows.fnExactNewBoxRow = true := by kernel_rfl
theorem over_inst : Try.f11.isInstance Try.pinned.checked.prog Rows.fnExactNewBoxRow.origin Rows.fnExactNewBoxRow.targs := of_decide_eq_true (by kernel_rfl)
theorem over_wrap : Try.f11.isWrapper Try.pinned.checked.prog Rows.fnExactNewBoxRow.wrapper Rows.fnExactNewBoxRow.mainSum := by unfold Func.isWrapper; first | (rw [if_pos (by decide +kernel)]; kernel_rfl) | (rw [if_neg (by decide +kernel)]; exact ⟨rfl, rfl⟩)
theorem over : Rows.fnExactNewBoxRow.holds Try.pinned (OpenSpec.ofChange Rows.fnExactNewBoxSpec) :=
  OpenClaim.holds_of_wide 11 Try.f11 rfl rfl rfl rfl rfl rfl rfl ⟨rfl, rfl, rfl, rfl, rfl⟩ rfl rfl rfl rfl rfl over_named Try.func11 over_closed over_inst over_wrap
    (fun os started H enc _ => lifted os started H enc)
theorem proved : Rows.FnExactNewBoxSaid := over
#print axioms proved
end Go.Proofs.Ytkijbknnbmbnbaa.fnExactNewBox
namespace Go.Proofs.Ytkijbknnbmbnbaa
/-- The row, under a short name, for the claim. -/
theorem fnExactNewBox_holds : Rows.FnExactNewBoxSaid := fnExactNewBox.proved
end Go.Proofs.Ytkijbknnbmbnbaa
