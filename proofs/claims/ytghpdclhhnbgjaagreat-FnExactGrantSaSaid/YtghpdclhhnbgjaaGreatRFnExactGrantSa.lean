/- The program's GrantSa: the law FnExactGrantSa holds, for all arguments. Conditions: none. -/
import Derived.Test.YtghpdclhhnbgjaaGreatRows
import Derived.Test.YtghpdclhhnbgjaaGreatSFnExactGrantSa
import Derived.Test.YtghpdclhhnbgjaaGreatX16
import Derived.WalkKit
import Derived.ProofKit
import Derived.OpenShut
import Derived.ShutString
import Derived.ChangeOld
import Derived.Below
import Derived.SizedLaws
namespace Go.Proofs.YtghpdclhhnbgjaaGreat.fnExactGrantSa
open Go.ChangeShapes Go.WideShapes Go.ChangeAt Go.RowKit
set_option linter.unusedVariables false
theorem over_named : Tryz.pinned.checked.prog.funcNamed Rows.fnExactGrantSaRow.func = some 4 := by kernel_rfl
theorem over_closed : joinedFacts Tryz.pinned.checked.prog 4 Tryz.f4 Rows.fnExactGrantSaSpec Rows.fnExactGrantSaRow = true := by kernel_rfl
theorem over_inst : Tryz.f4.isInstance Tryz.pinned.checked.prog Rows.fnExactGrantSaRow.origin Rows.fnExactGrantSaRow.targs := of_decide_eq_true (by kernel_rfl)
theorem over_wrap : Tryz.f4.isWrapper Tryz.pinned.checked.prog Rows.fnExactGrantSaRow.wrapper Rows.fnExactGrantSaRow.mainSum := by unfold Func.isWrapper; first | (rw [if_pos (by decide +kernel)]; kernel_rfl) | (rw [if_neg (by decide +kernel)]; exact ⟨rfl, rfl⟩)
theorem over : Rows.fnExactGrantSaRow.holds Tryz.pinned (OpenSpec.ofChange Rows.fnExactGrantSaSpec) :=
  OpenClaim.holds_of_wide 4 Tryz.f4 rfl rfl rfl rfl rfl rfl rfl ⟨rfl, rfl, rfl, rfl, rfl⟩ rfl rfl rfl rfl rfl over_named Tryz.func4 over_closed over_inst over_wrap
    (fun os started H enc _ => lifted os started H enc)
theorem proved : Rows.FnExactGrantSaSaid := over
#print axioms proved
end Go.Proofs.YtghpdclhhnbgjaaGreat.fnExactGrantSa
namespace Go.Proofs.YtghpdclhhnbgjaaGreat
/-- The row, under a short name, for the claim. -/
theorem fnExactGrantSa_holds : Rows.FnExactGrantSaSaid := fnExactGrantSa.proved
end Go.Proofs.YtghpdclhhnbgjaaGreat
