import Derived.Test.YtbddhlhpakbcdaaLU
set_option linter.unusedSimpArgs false
set_option linter.unusedVariables false
set_option maxRecDepth 100000
set_option maxHeartbeats 4000000
namespace Go.Proofs.Ytbddhlhpakbcdaa
open Go Go.AH
attribute [local irreducible] awpT ropsT qopsT stepT condKT gdKT EndT joinK loopKT seqKT blkKT kont kontR ropsTF frKT
/-! Trees of plain values -/

theorem p64_inj {a b : Int} (h : TV.p (.int .i64 a) = .p (.int .i64 b)) : a = b := by simpa using h
theorem pb_inj {a b : Bool} (h : TV.p (.bool a) = .p (.bool b)) : a = b := by simpa using h
theorem sis_inj {a b : List Int} (h : TV.s (isT a) = .s (isT b)) : a = b := by simp at h; exact is_inj h
end Go.Proofs.Ytbddhlhpakbcdaa
