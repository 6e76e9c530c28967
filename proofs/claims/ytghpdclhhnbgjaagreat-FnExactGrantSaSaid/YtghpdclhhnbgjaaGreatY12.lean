import Derived.Test.YtghpdclhhnbgjaaGreatY11
import Derived.Test.YtghpdclhhnbgjaaGreatF13
set_option linter.unusedSimpArgs false
set_option linter.unusedVariables false
set_option maxRecDepth 100000
set_option maxHeartbeats 4000000
namespace Go.Proofs.YtghpdclhhnbgjaaGreat
open Go Go.AH
attribute [local irreducible] awpT ropsT qopsT stepT condKT gdKT EndT joinK loopKT seqKT blkKT kont kontR
/-! Agreements granted to boxes, as cells -/

theorem szs_app (a b : List SaR) : szRs ((a ++ b).map saC) = szRs (a.map saC) + szRs (b.map saC) := by
  induction a with
  | nil => simp [szRs]
  | cons x a ih => simp only [List.cons_append, List.map_cons, szRs, ih]; omega
theorem putS_sz (l : List SaR) (x : SaR) (p : Nat) (hp : p ≤ l.length) : szC (sasC (putS l x p)) = l.length + 1 + (szRs (l.map saC) + x.sels.length) := by
  rw [sasC_szC]
  have e1 : (putS l x p).length = l.length + 1 := by simp only [putS, List.length_append, List.length_cons, List.length_take, List.length_drop]; omega
  have e2 := szs_app (l.take p) (l.drop p)
  rw [List.take_append_drop] at e2
  have e3 : szRs ((putS l x p).map saC) = szRs ((l.take p).map saC) + (x.sels.length + szRs ((l.drop p).map saC)) := by
    rw [putS, szs_app]; simp only [List.map_cons, szRs, saC_szC]
  omega
theorem grant_H (x0 x1 : List Cell) (h0 : HasR sh_Box x0) (h1 : HasR sh_Sa x1) (y0 : szCs x0 ≤ 1048576) (y1 : szCs x1 ≤ 1048576) : ∃ w w', grant_S [.agg (fzCs x0), .agg (fzCs x1)] = some (.agg (tvCs 0 w), bkCs 0 w) ∧ grant_S [.agg (fzCs x0), .agg (fzCs x1)] = some (.agg (tvCs 0 w'), bkCs 0 w') ∧ fzCs w = fzCs w' ∧ FitR sh_BoxResult w ∧ FitR sh_BoxResult w' ∧ szCs w ≤ 1073741824 ∧ szCs w' ≤ 1073741824 := by
  obtain ⟨x, rfl⟩ := bxC_ex h0
  obtain ⟨y, rfl⟩ := saC_ex _ h1
  rw [saC_szC] at y1
  have h := grant_at x y ⟨bxC_small y0, y1⟩
  have hz := bxC_szs y0
  rw [bxC_fz]
  have e : TV.agg (fzCs (saC y)) = saT y := saC_el y
  rw [e]
  have hw : FitR sh_BoxResult (grantV x y) ∧ szCs (grantV x y) ≤ 1073741824 := by
    unfold grantV
    split
    · split
      · refine ⟨boxK_fit _ _ _ _ _ _ (sasC_fit _), ?_⟩
        have := pA_le x.sas y.spi
        rw [boxK_sz, putS_sz _ _ _ this]; omega
      · exact ⟨badB_fit _, badB_sz _⟩
    · exact ⟨badB_fit _, badB_sz _⟩
  exact ⟨_, _, h, h, rfl, hw.1, hw.1, hw.2, hw.2⟩
end Go.Proofs.YtghpdclhhnbgjaaGreat
