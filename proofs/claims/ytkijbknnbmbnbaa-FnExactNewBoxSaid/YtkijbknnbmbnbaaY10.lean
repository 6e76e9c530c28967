import Derived.Test.YtkijbknnbmbnbaaU9
import Derived.Test.YtkijbknnbmbnbaaY9
import Derived.Test.YtkijbknnbmbnbaaF3
set_option linter.unusedSimpArgs false
set_option linter.unusedVariables false
set_option maxRecDepth 100000
set_option maxHeartbeats 4000000
namespace Go.Proofs.Ytkijbknnbmbnbaa
open Go Go.AH
attribute [local irreducible] awpT ropsT qopsT stepT condKT gdKT EndT joinK loopKT seqKT blkKT kont kontR
/-! New boxes as cells -/

theorem rusC_nb (l : List RuR) : nbC (rusC l) = 1 := by simp only [rusC, nbC, (ruC_rows 0 l).2.2]
theorem prsC_nb (l : List PrR) : nbC (prsC l) = 1 := by simp only [prsC, nbC, (prC_rows 0 l).2.2]
theorem rusC_fit (l : List RuR) : FitC sh_RuleS (rusC l) := HasC.fit _ _ ⟨_, rfl, fun r hr => by obtain ⟨x, _, rfl⟩ := List.mem_map.1 hr; exact ruC_has x⟩
theorem prsC_fit (l : List PrR) : FitC sh_PeerS (prsC l) := HasC.fit _ _ ⟨_, rfl, fun r hr => by obtain ⟨x, _, rfl⟩ := List.mem_map.1 hr; exact prC_has x⟩
theorem icsC_fit (l : List Int) : FitC sh_Int64S (icsC l) := HasC.fit _ _ ⟨_, rfl, fun r hr => by obtain ⟨x, _, rfl⟩ := List.mem_map.1 hr; exact icC_has x⟩
def nbW (a : Int) (ru : List RuR) (pe : List PrR) : List Cell := if baseF a 0 ru pe = 0 then [.v (.int .i64 0), .v (.int .i64 0), .v (.int .i64 0), .nl, .v (.int .i64 a), rusC ru, prsC pe, .nl, .v (.int .i64 0), icsC z11] else [.v (.int .i64 (baseF a 0 ru pe)), .v (.int .i64 0), .v (.int .i64 0), .nl, .v (.int .i64 0), .nl, .nl, .nl, .v (.int .i64 0), .nl]
theorem nbW_ans (a : Int) (ru : List RuR) (pe : List PrR) : nbV a ru pe = (.agg (tvCs 0 (nbW a ru pe)), bkCs 0 (nbW a ru pe)) := by
  unfold nbV nbW
  split
  · simp only [tvCs, tvC_v, tvC_nl, nbC, rusC_nb, prsC_nb, rusC_tv, prsC_tv, icsC_tv, bkCs, bkC, rusC_bk, prsC_bk, icsC_bk, Nat.add_zero, Nat.zero_add, Nat.reduceAdd, List.nil_append, List.append_nil, List.cons_append, z11_len]
  · rfl
theorem nbW_fit (a : Int) (ru : List RuR) (pe : List PrR) : FitR sh_BoxResult (nbW a ru pe) := by
  unfold nbW
  split
  · exact sh_BoxResult_mkFit (.inl rfl) (rusC_fit _) (prsC_fit _) (.inl rfl) (icsC_fit _) _ _ _ _ _
  · exact sh_BoxResult_mkFit (.inl rfl) (.inl rfl) (.inl rfl) (.inl rfl) (.inl rfl) _ _ _ _ _
theorem nbW_sz (a : Int) (ru : List RuR) (pe : List PrR) : szCs (nbW a ru pe) ≤ ru.length + pe.length + 11 := by
  unfold nbW
  split
  · simp only [szCs, szC, rusC_sz, prsC_sz, icsC_sz, z11_len]; omega
  · simp only [szCs, szC]; omega
theorem nb_H (x0 : Int) (x1 x2 : Cell) (h1 : HasC sh_RuleS x1) (h2 : HasC sh_PeerS x2) (y1 : szC x1 ≤ 1048576) (y2 : szC x2 ≤ 1048576) : ∃ w w', nb_S [.p (.int .i64 x0), fzC x1, fzC x2] = some (.agg (tvCs 0 w), bkCs 0 w) ∧ nb_S [.p (.int .i64 x0), fzC x1, fzC x2] = some (.agg (tvCs 0 w'), bkCs 0 w') ∧ fzCs w = fzCs w' ∧ FitR sh_BoxResult w ∧ FitR sh_BoxResult w' ∧ szCs w ≤ 1073741824 ∧ szCs w' ≤ 1073741824 := by
  obtain ⟨l1, rfl⟩ := rusC_ex h1
  obtain ⟨l2, rfl⟩ := prsC_ex h2
  rw [rusC_sz] at y1
  rw [prsC_sz] at y2
  have h := nb_at x0 l1 l2 ⟨y1, y2⟩
  rw [nbW_ans] at h
  have hz := nbW_sz x0 l1 l2
  rw [rusC_fz, prsC_fz]
  exact ⟨_, _, h, h, rfl, nbW_fit _ _ _, nbW_fit _ _ _, by omega, by omega⟩
end Go.Proofs.Ytkijbknnbmbnbaa
