import Derived.Test.YtghpdclhhnbgjaaLU
set_option linter.unusedSimpArgs false
set_option linter.unusedVariables false
set_option maxRecDepth 100000
set_option maxHeartbeats 4000000
namespace Go.Proofs.Ytghpdclhhnbgjaa
open Go Go.AH
attribute [local irreducible] awpT ropsT qopsT stepT condKT gdKT EndT joinK loopKT seqKT blkKT kont kontR
/-! Trees of plain values -/

theorem p64_inj {a b : Int} (h : TV.p (.int .i64 a) = .p (.int .i64 b)) : a = b := by simpa using h
theorem p64n_inj {a b : Nat} (h : TV.p (.int .i64 a) = .p (.int .i64 b)) : a = b := by simp at h; omega
theorem p8_inj {a b : Int} (h : TV.p (.int .u8 a) = .p (.int .u8 b)) : a = b := by simpa using h
theorem pb_inj {a b : Bool} (h : TV.p (.bool a) = .p (.bool b)) : a = b := by simpa using h
theorem pst_inj {a b : ByteArray} (h : TV.p (.string a) = .p (.string b)) : a = b := by simpa using h
theorem pu_inj {a b : Unit} {p : Prop} (_ : p) : a = b := rfl
theorem sby_inj {a b : List Int} (h : TV.s (bsT a) = .s (bsT b)) : a = b := by simp at h; exact bs_inj h
theorem sis_inj {a b : List Int} (h : TV.s (isT a) = .s (isT b)) : a = b := by simp at h; exact is_inj h
end Go.Proofs.Ytghpdclhhnbgjaa
