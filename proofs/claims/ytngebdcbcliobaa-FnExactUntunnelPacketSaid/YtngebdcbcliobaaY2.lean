import Derived.Test.YtngebdcbcliobaaU6
import Derived.Test.YtngebdcbcliobaaY1
import Derived.Test.YtngebdcbcliobaaE16
set_option linter.unusedSimpArgs false
set_option linter.unusedVariables false
set_option maxRecDepth 100000
set_option maxHeartbeats 4000000
namespace Go.Proofs.Ytngebdcbcliobaa
open Go Go.AH
attribute [local irreducible] awpT ropsT qopsT stepT condKT gdKT EndT joinK loopKT seqKT blkKT kont kontR
/-! The answers of UntunnelPacket as cells -/

theorem bysC_fit (l : List Int) : FitC sh_ByteS (bysC l) := .inr ⟨_, _, rfl, .inr rfl, fun r hr => by obtain ⟨x, _, rfl⟩ := List.mem_map.1 hr; exact byC_fit x⟩
theorem bysC_tv (n : Nat) (l : List Int) : tvC n (bysC l) = .os n 0 l.length := by simp only [bysC, tvC, List.length_map]
theorem bysC_bk (n : Nat) (l : List Int) : bkC n (bysC l) = [.cells 5 1 (bsT l)] := by simp only [bysC, bkC, byC_rows]
noncomputable def utW (l : List Int) (k t b : Int) : List Cell := if utC l k t b = 0 then
  [.v (.int .i64 0), .v (.int .i64 (utSeq l t)), .v (.int .i64 (parseP (utI l k t)).fr), .v (.int .i64 (parseP (utI l k t)).to_), .v (.int .i64 (parseP (utI l k t)).pr), .v (.int .i64 (parseP (utI l k t)).ttl), .v (.int .i64 (parseP (utI l k t)).fp), .v (.int .i64 (parseP (utI l k t)).tp), bysC (restL (utI l k t)), .v (.int .i64 (takeW t b (utSeq l t)).1), .v (.int .i64 (takeW t b (utSeq l t)).2)]
  else [.v (.int .i64 (utC l k t b)), .v (.int .i64 0), .v (.int .i64 0), .v (.int .i64 0), .v (.int .i64 0), .v (.int .i64 0), .v (.int .i64 0), .v (.int .i64 0), .nl, .v (.int .i64 0), .v (.int .i64 0)]
theorem utW_ans (l : List Int) (k t b : Int) : utV l k t b = (.agg (tvCs 0 (utW l k t b)), bkCs 0 (utW l k t b)) := by
  unfold utV utW
  split
  · simp only [tvCs, tvC_v, nbC, bysC_tv, bkCs, bkC, bysC_bk, Nat.add_zero, List.nil_append, List.append_nil]
  · rfl
theorem utW_fit (l : List Int) (k t b : Int) : FitR sh_UntunnelResult (utW l k t b) := by
  unfold utW
  split
  · exact sh_UntunnelResult_mkFit (bysC_fit _) _ _ _ _ _ _ _ _ _ _
  · exact sh_UntunnelResult_mkFit (.inl rfl) _ _ _ _ _ _ _ _ _ _
theorem utW_sz (l : List Int) (k t b : Int) : szCs (utW l k t b) ≤ l.length := by
  unfold utW
  split
  · simp only [szCs, szC, bysC_sz]
    have h1 := restL_len (utI l k t)
    have h2 : (utI l k t).length ≤ (restL l).length := inL_len _ _ _
    have h3 := restL_len l
    omega
  · simp only [szCs, szC]; omega
theorem unt_H (x0 : Cell) (x1 : Int) (x2 : List Cell) (h0 : HasC sh_ByteS x0) (h2 : HasR sh_Window x2) (y0 : szC x0 ≤ 1048576) (y2 : szCs x2 ≤ 1048576) : ∃ w w', unt_S [fzC x0, .p (.int .i64 x1), .agg (fzCs x2)] = some (.agg (tvCs 0 w), bkCs 0 w) ∧ unt_S [fzC x0, .p (.int .i64 x1), .agg (fzCs x2)] = some (.agg (tvCs 0 w'), bkCs 0 w') ∧ fzCs w = fzCs w' ∧ FitR sh_UntunnelResult w ∧ FitR sh_UntunnelResult w' ∧ szCs w ≤ 1073741824 ∧ szCs w' ≤ 1073741824 := by
  obtain ⟨l, rfl, hb⟩ := bysC_ex h0
  obtain ⟨t, b, rfl⟩ := sh_Window_Has h2
  rw [bysC_sz] at y0
  have h : unt_S [.s (bsT l), .p (.int .i64 x1), .agg [.p (.int .i64 t), .p (.int .i64 b)]] = _ := unt_at l x1 t b ⟨hb, y0⟩
  rw [utW_ans] at h
  have h1 := utW_sz l x1 t b
  rw [bysC_fz]
  exact ⟨_, _, h, h, rfl, utW_fit _ _ _ _, utW_fit _ _ _ _, by omega, by omega⟩
end Go.Proofs.Ytngebdcbcliobaa
