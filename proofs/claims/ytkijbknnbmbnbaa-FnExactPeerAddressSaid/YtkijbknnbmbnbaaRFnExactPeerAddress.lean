/- The program's PeerAddress: the law FnExactPeerAddress holds, for all arguments. Conditions: none. -/
import Derived.Test.YtkijbknnbmbnbaaRows
import Derived.Test.YtkijbknnbmbnbaaSFnExactPeerAddress
import Derived.Test.YtkijbknnbmbnbaaX13
import Derived.WalkKit
import Derived.ProofKit
import Derived.OpenShut
import Derived.ShutString
import Derived.ChangeOld
import Derived.Below
import Derived.SizedLaws
namespace Go.Proofs.Ytkijbknnbmbnbaa.fnExactPeerAddress
open Go.ChangeShapes Go.WideShapes Go.ChangeAt Go.RowKit
set_option linter.unusedVariables false
theorem over_named : Try.pinned.checked.prog.funcNamed Rows.fnExactPeerAddressRow.func = some 10 := by kernel_rfl
theorem over_closed : joinedFacts Try.pinned.checked.prog 10 Try.f10 Rows.fnExactPeerAddressSpec Rows.fnExactPeerAddressRow = true := by kernel_rfl
theorem over_inst : Try.f10.isInstance Try.pinned.checked.prog Rows.fnExactPeerAddressRow.origin Rows.fnExactPeerAddressRow.targs := of_decide_eq_true (by kernel_rfl)
theorem over_wrap : Try.f10.isWrapper Try.pinned.checked.prog Rows.fnExactPeerAddressRow.wrapper Rows.fnExactPeerAddressRow.mainSum := by unfold Func.isWrapper; first | (rw [if_pos (by decide +kernel)]; kernel_rfl) | (rw [if_neg (by decide +kernel)]; exact ⟨rfl, rfl⟩)
theorem over : Rows.fnExactPeerAddressRow.holds Try.pinned (OpenSpec.ofChange Rows.fnExactPeerAddressSpec) :=
  OpenClaim.holds_of_wide 10 Try.f10 rfl rfl rfl rfl rfl rfl rfl ⟨rfl, rfl, rfl, rfl, rfl⟩ rfl rfl rfl rfl rfl over_named Try.func10 over_closed over_inst over_wrap
    (fun os started H enc _ => lifted os started H enc)
theorem proved : Rows.FnExactPeerAddressSaid := over
#print axioms proved
end Go.Proofs.Ytkijbknnbmbnbaa.fnExactPeerAddress
namespace Go.Proofs.Ytkijbknnbmbnbaa
/-- The row, under a short name, for the claim. -/
theorem fnExactPeerAddress_holds : Rows.FnExactPeerAddressSaid := fnExactPeerAddress.proved
end Go.Proofs.Ytkijbknnbmbnbaa
