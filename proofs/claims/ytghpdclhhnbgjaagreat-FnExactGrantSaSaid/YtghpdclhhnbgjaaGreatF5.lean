import Derived.Test.YtghpdclhhnbgjaaGreatF4
set_option linter.unusedSimpArgs false
set_option linter.unusedVariables false
set_option maxRecDepth 100000
set_option maxHeartbeats 4000000
namespace Go.Proofs.YtghpdclhhnbgjaaGreat
open Go Go.AH
attribute [local irreducible] awpT ropsT qopsT stepT condKT gdKT EndT joinK loopKT seqKT blkKT kont kontR
theorem sasK_tv (n : Nat) (l : List SaR) : tvC n (sasK l) = .os n 0 l.length := by simp only [sasK, tvC, List.length_map]
theorem sasK_bk (n : Nat) (l : List SaR) : bkC n (sasK l) = .cells 54 (zOf l.length 11) (tvRs (n + 1) (l.map saC)) :: bkRs (n + 1) (l.map saC) := by simp only [sasK, bkC]
def badC (f : Int) : List Cell := [.v (.int .i64 f), .nl]
def goodC (c : Cell) : List Cell := [.v (.int .i64 0), c]
theorem badC_ans (f : Int) : ansR (badC f) = (.agg [.p (.int .i64 f), .nl], []) := rfl
theorem sasC_fit (l : List SaR) : FitC sh_SaS (sasC l) := HasC.fit _ _ (sasC_has l)
/-! ExpireSas -/
abbrev smallL (l : List SaR) : Prop := l.length ≤ 1048576 ∧ ∀ y ∈ l, y.sels.length ≤ 1048576
theorem goodL_of {l : List SaR} (hz : sasF l = 0) : goodL l := by
  obtain ⟨g1, g2, _⟩ := sasF_zero hz
  exact ⟨g1, fun x hx => (saF_zero (g2 x hx)).2.2.2⟩
end Go.Proofs.YtghpdclhhnbgjaaGreat
