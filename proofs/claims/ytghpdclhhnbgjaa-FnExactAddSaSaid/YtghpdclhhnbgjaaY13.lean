import Derived.Test.YtghpdclhhnbgjaaG12
set_option linter.unusedSimpArgs false
set_option linter.unusedVariables false
set_option maxRecDepth 100000
set_option maxHeartbeats 4000000
namespace Go.Proofs.Ytghpdclhhnbgjaa
open Go Go.AH
attribute [local irreducible] awpT ropsT qopsT stepT condKT gdKT EndT joinK loopKT seqKT blkKT kont kontR
/-! AddSa as cells -/
theorem badC_fit (f : Int) : FitR sh_SasResult (badC f) := ⟨_, _, rfl, ⟨_, rfl⟩, _, _, rfl, .inl rfl, rfl⟩
theorem goodC_fit {c : Cell} (h : FitC sh_SaS c) : FitR sh_SasResult (goodC c) := ⟨_, _, rfl, ⟨_, rfl⟩, _, _, rfl, h, rfl⟩
theorem szs_app (a b : List SaR) : szRs ((a ++ b).map saC) = szRs (a.map saC) + szRs (b.map saC) := by
  induction a with
  | nil => simp [szRs]
  | cons x a ih => simp only [List.cons_append, List.map_cons, szRs, ih]; omega
theorem putS_sz (l : List SaR) (x : SaR) (p : Nat) (hp : p ≤ l.length) : szC (sasC (putS l x p)) = l.length + 1 + (szRs (l.map saC) + x.sels.length) := by
  rw [sasC_szC]
  have e1 : (putS l x p).length = l.length + 1 := by simp only [putS, List.length_append, List.length_cons, List.length_take, List.length_drop]; omega
  have e2 := szs_app (l.take p) (l.drop p)
  rw [List.take_append_drop] at e2
  have e3 : szRs ((putS l x p).map saC) = szRs ((l.take p).map saC) + (x.sels.length + szRs ((l.drop p).map saC)) := by
    rw [putS, szs_app]; simp only [List.map_cons, szRs, saC_szC]
  omega

theorem add_H (x0 : Cell) (x1 : List Cell) (h0 : HasC sh_SaS x0) (h1 : HasR sh_Sa x1) (y0 : szC x0 ≤ 1048576) (y1 : szCs x1 ≤ 1048576) : ∃ w w', add_S [fzC x0, .agg (fzCs x1)] = some (.agg (tvCs 0 w), bkCs 0 w) ∧ add_S [fzC x0, .agg (fzCs x1)] = some (.agg (tvCs 0 w'), bkCs 0 w') ∧ fzCs w = fzCs w' ∧ FitR sh_SasResult w ∧ FitR sh_SasResult w' ∧ szCs w ≤ 1073741824 ∧ szCs w' ≤ 1073741824 := by
  obtain ⟨l, rfl⟩ := sasC_ex h0
  obtain ⟨y, rfl⟩ := saC_ex _ h1
  rw [saC_szC] at y1
  have h := add_at l y ⟨sasC_small y0, y1⟩
  have e : TV.agg (fzCs (saC y)) = saT y := saC_el y
  rw [sasC_fzC, e]
  rw [sasC_szC] at y0
  have hb : ∀ f, FitR sh_SasResult (badC f) ∧ szCs (badC f) ≤ 1073741824 := fun f => ⟨badC_fit f, by simp only [badC, szCs, szC]; omega⟩
  have hw : FitR sh_SasResult (addR l y) ∧ szCs (addR l y) ≤ 1073741824 := by
    unfold addR
    split
    · split
      · split
        · exact hb _
        · split
          · exact hb _
          · refine ⟨goodC_fit (HasC.fit _ _ (sasC_has _)), ?_⟩
            have := pA_le l y.spi
            have e := putS_sz l y _ this
            simp only [goodC, szCs, szC] at e ⊢
            omega
      · exact hb _
    · exact hb _
  exact ⟨_, _, h, h, rfl, hw.1, hw.1, hw.2, hw.2⟩
end Go.Proofs.Ytghpdclhhnbgjaa
