/- The program's PartnerOf: the law FnExactPartnerOf holds, for all arguments. Conditions: none. -/
import Derived.Test.YtbddhlhpakbcdaaRows
import Derived.Test.YtbddhlhpakbcdaaSFnExactPartnerOf
import Derived.Test.YtbddhlhpakbcdaaX20
import Derived.WalkKit
import Derived.ProofKit
import Derived.OpenShut
import Derived.ShutString
import Derived.ChangeOld
import Derived.Below
import Derived.SizedLaws
namespace Go.Proofs.Ytbddhlhpakbcdaa.fnExactPartnerOf
open Go.ChangeShapes Go.WideShapes Go.ChangeAt Go.RowKit
set_option linter.unusedVariables false
theorem over_named : Try.pinned.checked.prog.funcNamed Rows.fnExactPartnerOfRow.func = some 5 := by kernel_rfl
theorem over_closed : joinedFacts Try.pinned.checked.prog 5 Try.f5 Rows.fnExactPartnerOfSpec Rows.fnExactPartnerOfRow = true := by kernel_rfl
theorem over_inst : Try.f5.isInstance Try.pinned.checked.prog Rows.fnExactPartnerOfRow.origin Rows.fnExactPartnerOfRow.targs := of_decide_eq_true (by kernel_rfl)
theorem over_wrap : Try.f5.isWrapper Try.pinned.checked.prog Rows.fnExactPartnerOfRow.wrapper Rows.fnExactPartnerOfRow.mainSum := by unfold Func.isWrapper; first | (rw [if_pos (by decide +kernel)]; kernel_rfl) | (rw [if_neg (by decide +kernel)]; exact ⟨rfl, rfl⟩)
theorem over : Rows.fnExactPartnerOfRow.holds Try.pinned (OpenSpec.ofChange Rows.fnExactPartnerOfSpec) :=
  OpenClaim.holds_of_wide 5 Try.f5 rfl rfl rfl rfl rfl rfl rfl ⟨rfl, rfl, rfl, rfl, rfl⟩ rfl rfl rfl rfl rfl over_named Try.func5 over_closed over_inst over_wrap
    (fun os started H enc _ => lifted os started H enc)
theorem proved : Rows.FnExactPartnerOfSaid := over
#print axioms proved
end Go.Proofs.Ytbddhlhpakbcdaa.fnExactPartnerOf
namespace Go.Proofs.Ytbddhlhpakbcdaa
/-- The row, under a short name, for the claim. -/
theorem fnExactPartnerOf_holds : Rows.FnExactPartnerOfSaid := fnExactPartnerOf.proved
end Go.Proofs.Ytbddhlhpakbcdaa
