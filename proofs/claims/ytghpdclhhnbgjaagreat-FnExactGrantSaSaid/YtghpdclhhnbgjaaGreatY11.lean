import Derived.Test.YtghpdclhhnbgjaaGreatU9
import Derived.Test.YtghpdclhhnbgjaaGreatF7
set_option linter.unusedSimpArgs false
set_option linter.unusedVariables false
set_option maxRecDepth 100000
set_option maxHeartbeats 4000000
namespace Go.Proofs.YtghpdclhhnbgjaaGreat
open Go Go.AH
attribute [local irreducible] awpT ropsT qopsT stepT condKT gdKT EndT joinK loopKT seqKT blkKT kont kontR
/-! Boxes ticked, as cells -/

theorem rusC_fit (l : List RuR) : FitC sh_RuleS (rusC l) := HasC.fit _ _ ⟨_, rfl, fun r hr => by obtain ⟨x, _, rfl⟩ := List.mem_map.1 hr; exact ruC_has x⟩
theorem prsC_fit (l : List PrR) : FitC sh_PeerS (prsC l) := HasC.fit _ _ ⟨_, rfl, fun r hr => by obtain ⟨x, _, rfl⟩ := List.mem_map.1 hr; exact prC_has x⟩
theorem icsC_fit (l : List Int) : FitC sh_Int64S (icsC l) := HasC.fit _ _ ⟨_, rfl, fun r hr => by obtain ⟨x, _, rfl⟩ := List.mem_map.1 hr; exact icC_has x⟩
theorem badB_fit (f : Int) : FitR sh_BoxResult (badB f) := sh_BoxResult_mkFit (.inl rfl) (.inl rfl) (.inl rfl) (.inl rfl) (.inl rfl) _ _ _ _ _
theorem badB_sz (f : Int) : szCs (badB f) ≤ 1073741824 := by simp only [badB, szCs, szC]; omega
theorem boxK_fit (ad : Int) (ru : List RuR) (pe : List PrR) (sa : Cell) (now : Int) (dr : List Int) (h : FitC sh_SaS sa) : FitR sh_BoxResult (boxK ad ru pe sa now dr) := sh_BoxResult_mkFit (.inl rfl) (rusC_fit _) (prsC_fit _) h (icsC_fit _) _ _ _ _ _
theorem boxK_sz (ad : Int) (ru : List RuR) (pe : List PrR) (sa : Cell) (now : Int) (dr : List Int) : szCs (boxK ad ru pe sa now dr) = ru.length + pe.length + szC sa + dr.length := by
  simp only [boxK, szCs, szC, rusC_sz, prsC_sz, icsC_sz]; omega
theorem bxC_szs {x : BxR} (h : szCs (bxC x) ≤ 1048576) : x.rules.length + x.peers.length + (x.sas.length + szRs (x.sas.map saC)) + x.drops.length ≤ 1048576 := by
  simp only [bxC, szCs, szC, rusC_sz, prsC_sz, icsC_sz, sasC_szC] at h; omega
end Go.Proofs.YtghpdclhhnbgjaaGreat
