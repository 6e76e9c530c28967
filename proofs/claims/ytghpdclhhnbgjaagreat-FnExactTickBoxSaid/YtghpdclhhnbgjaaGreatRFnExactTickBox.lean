/- The program's TickBox: the law FnExactTickBox holds, for all arguments. Conditions: none. -/
import Derived.Test.YtghpdclhhnbgjaaGreatRows
import Derived.Test.YtghpdclhhnbgjaaGreatSFnExactTickBox
import Derived.Test.YtghpdclhhnbgjaaGreatX15
import Derived.WalkKit
import Derived.ProofKit
import Derived.OpenShut
import Derived.ShutString
import Derived.ChangeOld
import Derived.Below
import Derived.SizedLaws
namespace Go.Proofs.YtghpdclhhnbgjaaGreat.fnExactTickBox
open Go.ChangeShapes Go.WideShapes Go.ChangeAt Go.RowKit
set_option linter.unusedVariables false
theorem over_named : Tryz.pinned.checked.prog.funcNamed Rows.fnExactTickBoxRow.func = some 3 := by kernel_rfl
theorem over_closed : joinedFacts Tryz.pinned.checked.prog 3 Tryz.f3 Rows.fnExactTickBoxSpec Rows.fnExactTickBoxRow = true := by kernel_rfl
theorem over_inst : Tryz.f3.isInstance Tryz.pinned.checked.prog Rows.fnExactTickBoxRow.origin Rows.fnExactTickBoxRow.targs := of_decide_eq_true (by kernel_rfl)
theorem over_wrap : Tryz.f3.isWrapper Tryz.pinned.checked.prog Rows.fnExactTickBoxRow.wrapper Rows.fnExactTickBoxRow.mainSum := by unfold Func.isWrapper; first | (rw [if_pos (by decide +kernel)]; kernel_rfl) | (rw [if_neg (by decide +kernel)]; exact ⟨rfl, rfl⟩)
theorem over : Rows.fnExactTickBoxRow.holds Tryz.pinned (OpenSpec.ofChange Rows.fnExactTickBoxSpec) :=
  OpenClaim.holds_of_wide 3 Tryz.f3 rfl rfl rfl rfl rfl rfl rfl ⟨rfl, rfl, rfl, rfl, rfl⟩ rfl rfl rfl rfl rfl over_named Tryz.func3 over_closed over_inst over_wrap
    (fun os started H enc _ => lifted os started H enc)
theorem proved : Rows.FnExactTickBoxSaid := over
#print axioms proved
end Go.Proofs.YtghpdclhhnbgjaaGreat.fnExactTickBox
namespace Go.Proofs.YtghpdclhhnbgjaaGreat
/-- The row, under a short name, for the claim. -/
theorem fnExactTickBox_holds : Rows.FnExactTickBoxSaid := fnExactTickBox.proved
end Go.Proofs.YtghpdclhhnbgjaaGreat
