import Derived.Test.YtghpdclhhnbgjaaGreatU9
import Derived.Test.YtghpdclhhnbgjaaGreatF7
set_option linter.unusedSimpArgs false
set_option linter.unusedVariables false
set_option maxRecDepth 100000
set_option maxHeartbeats 4000000
namespace Go.Proofs.YtghpdclhhnbgjaaGreat
open Go Go.AH
attribute [local irreducible] awpT ropsT qopsT stepT condKT gdKT EndT joinK loopKT seqKT blkKT kont kontR
/-! Boxes ticked, as cells -/

theorem rusC_fit (l : List RuR) : FitC sh_RuleS (rusC l) := HasC.fit _ _ ⟨_, rfl, fun r hr => by obtain ⟨x, _, rfl⟩ := List.mem_map.1 hr; exact ruC_has x⟩
theorem prsC_fit (l : List PrR) : FitC sh_PeerS (prsC l) := HasC.fit _ _ ⟨_, rfl, fun r hr => by obtain ⟨x, _, rfl⟩ := List.mem_map.1 hr; exact prC_has x⟩
theorem icsC_fit (l : List Int) : FitC sh_Int64S (icsC l) := HasC.fit _ _ ⟨_, rfl, fun r hr => by obtain ⟨x, _, rfl⟩ := List.mem_map.1 hr; exact icC_has x⟩
theorem badB_fit (f : Int) : FitR sh_BoxResult (badB f) := sh_BoxResult_mkFit (.inl rfl) (.inl rfl) (.inl rfl) (.inl rfl) (.inl rfl) _ _ _ _ _
theorem badB_sz (f : Int) : szCs (badB f) ≤ 1073741824 := by simp only [badB, szCs, szC]; omega
theorem boxK_fit (ad : Int) (ru : List RuR) (pe : List PrR) (sa : Cell) (now : Int) (dr : List Int) (h : FitC sh_SaS sa) : FitR sh_BoxResult (boxK ad ru pe sa now dr) := sh_BoxResult_mkFit (.inl rfl) (rusC_fit _) (prsC_fit _) h (icsC_fit _) _ _ _ _ _
theorem boxK_sz (ad : Int) (ru : List RuR) (pe : List PrR) (sa : Cell) (now : Int) (dr : List Int) : szCs (boxK ad ru pe sa now dr) = ru.length + pe.length + szC sa + dr.length := by
  simp only [boxK, szCs, szC, rusC_sz, prsC_sz, icsC_sz]; omega
theorem bxC_szs {x : BxR} (h : szCs (bxC x) ≤ 1048576) : x.rules.length + x.peers.length + (x.sas.length + szRs (x.sas.map saC)) + x.drops.length ≤ 1048576 := by
  simp only [bxC, szCs, szC, rusC_sz, prsC_sz, icsC_sz, sasC_szC] at h; omega
theorem tick_H (x0 : List Cell) (x1 : Int) (h0 : HasR sh_Box x0) (y0 : szCs x0 ≤ 1048576) : ∃ w w', tickB_S [.agg (fzCs x0), .p (.int .i64 x1)] = some (.agg (tvCs 0 w), bkCs 0 w) ∧ tickB_S [.agg (fzCs x0), .p (.int .i64 x1)] = some (.agg (tvCs 0 w'), bkCs 0 w') ∧ fzCs w = fzCs w' ∧ FitR sh_BoxResult w ∧ FitR sh_BoxResult w' ∧ szCs w ≤ 1073741824 ∧ szCs w' ≤ 1073741824 := by
  obtain ⟨x, rfl⟩ := bxC_ex h0
  have h := tickB_at x x1 (bxC_small y0)
  have hz := bxC_szs y0
  rw [bxC_fz]
  have hw : FitR sh_BoxResult (tickV x x1) ∧ szCs (tickV x x1) ≤ 1073741824 := by
    unfold tickV
    split
    · split
      · split
        · exact ⟨badB_fit _, badB_sz _⟩
        · refine ⟨boxK_fit _ _ _ _ _ _ (sasK_fit _), ?_⟩
          have := szs_filter (lateU (x.now + x1)) x.sas; have := List.length_filter_le (lateU (x.now + x1)) x.sas
          rw [boxK_sz, sasK_sz]; omega
      · exact ⟨badB_fit _, badB_sz _⟩
    · exact ⟨badB_fit _, badB_sz _⟩
  exact ⟨_, _, h, h, rfl, hw.1, hw.1, hw.2, hw.2⟩
end Go.Proofs.YtghpdclhhnbgjaaGreat
