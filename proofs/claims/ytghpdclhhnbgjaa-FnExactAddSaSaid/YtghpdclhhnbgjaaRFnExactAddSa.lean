/- The program's AddSa: the law FnExactAddSa holds, for all arguments. Conditions: none. -/
import Derived.Test.YtghpdclhhnbgjaaRows
import Derived.Test.YtghpdclhhnbgjaaSFnExactAddSa
import Derived.Test.YtghpdclhhnbgjaaX17
import Derived.WalkKit
import Derived.ProofKit
import Derived.OpenShut
import Derived.ShutString
import Derived.ChangeOld
import Derived.Below
import Derived.SizedLaws
namespace Go.Proofs.Ytghpdclhhnbgjaa.fnExactAddSa
open Go.ChangeShapes Go.WideShapes Go.ChangeAt Go.RowKit
set_option linter.unusedVariables false
theorem over_named : Try.pinned.checked.prog.funcNamed Rows.fnExactAddSaRow.func = some 7 := by kernel_rfl
theorem over_closed : joinedFacts Try.pinned.checked.prog 7 Try.f7 Rows.fnExactAddSaSpec Rows.fnExactAddSaRow = true := by kernel_rfl
theorem over_inst : Try.f7.isInstance Try.pinned.checked.prog Rows.fnExactAddSaRow.origin Rows.fnExactAddSaRow.targs := of_decide_eq_true (by kernel_rfl)
theorem over_wrap : Try.f7.isWrapper Try.pinned.checked.prog Rows.fnExactAddSaRow.wrapper Rows.fnExactAddSaRow.mainSum := by unfold Func.isWrapper; first | (rw [if_pos (by decide +kernel)]; kernel_rfl) | (rw [if_neg (by decide +kernel)]; exact ⟨rfl, rfl⟩)
theorem over : Rows.fnExactAddSaRow.holds Try.pinned (OpenSpec.ofChange Rows.fnExactAddSaSpec) :=
  OpenClaim.holds_of_wide 7 Try.f7 rfl rfl rfl rfl rfl rfl rfl ⟨rfl, rfl, rfl, rfl, rfl⟩ rfl rfl rfl rfl rfl over_named Try.func7 over_closed over_inst over_wrap
    (fun os started H enc _ => lifted os started H enc)
theorem proved : Rows.FnExactAddSaSaid := over
#print axioms proved
end Go.Proofs.Ytghpdclhhnbgjaa.fnExactAddSa
namespace Go.Proofs.Ytghpdclhhnbgjaa
/-- The row, under a short name, for the claim. -/
theorem fnExactAddSa_holds : Rows.FnExactAddSaSaid := fnExactAddSa.proved
end Go.Proofs.Ytghpdclhhnbgjaa
