import Derived.Test.YtngebdcbcliobaaD10
import Derived.Test.YtngebdcbcliobaaU5
set_option linter.unusedSimpArgs false
set_option linter.unusedVariables false
set_option maxRecDepth 100000
set_option maxHeartbeats 4000000
namespace Go.Proofs.Ytngebdcbcliobaa
open Go Go.AH
attribute [local irreducible] awpT ropsT qopsT stepT condKT gdKT EndT joinK loopKT seqKT blkKT kont kontR
/-! Bytes and packets as cells -/
def byC (n : Int) : List Cell := [.v (.int .u8 n)]
theorem byC_rows (n : Nat) (l : List Int) : tvRs n (l.map byC) = bsT l ∧ bkRs n (l.map byC) = [] ∧ nbRs (l.map byC) = 0 := flatRs_map byC bT (fun _ => rfl) (fun _ _ => rfl) (fun _ _ => rfl) n l
theorem byC_fz (l : List Int) : fzRs (l.map byC) = bsT l := fzRs_map byC l
theorem byC_szs (l : List Int) : szRs (l.map byC) = 0 := szRs_zero fun r hr => by obtain ⟨x, _, rfl⟩ := List.mem_map.1 hr; rfl
theorem byC_has (n : Int) : HasR [.i .u8] (byC n) := ⟨_, _, rfl, ⟨_, rfl⟩, rfl⟩
theorem byC_ex (r : List Cell) (h : HasR [.i .u8] r) : ∃ x, r = byC x := by
  obtain ⟨_, _, rfl, ⟨a, rfl⟩, h⟩ := h
  simp only [HasR] at h; subst h
  exact ⟨a, rfl⟩
def bysC (l : List Int) : Cell := .sl 5 1 (l.map byC)
theorem bysC_has (l : List Int) : HasC sh_ByteS (bysC l) := ⟨_, rfl, fun r hr => by obtain ⟨x, _, rfl⟩ := List.mem_map.1 hr; exact byC_has x⟩
theorem bysC_ex {c : Cell} (h : HasC sh_ByteS c) : ∃ l, c = bysC l := by
  obtain ⟨rows, rfl, hr⟩ := h
  obtain ⟨l, rfl⟩ := rows_typed byC byC_ex hr
  exact ⟨l, rfl⟩
theorem bysC_fz (l : List Int) : fzC (bysC l) = .s (bsT l) := by simp only [bysC, fzC, byC_fz]
theorem bysC_sz (l : List Int) : szC (bysC l) = l.length := by simp only [bysC, szC, byC_szs, List.length_map, Nat.add_zero]
def pkC (x : PkR) : List Cell := [.v (.int .i64 x.fr), .v (.int .i64 x.to_), .v (.int .i64 x.pr), .v (.int .i64 x.ttl), .v (.int .i64 x.fp), .v (.int .i64 x.tp), bysC x.load]
theorem pkC_has (x : PkR) : HasR sh_Packet (pkC x) := sh_Packet_mkHas (bysC_has _) _ _ _ _ _ _
theorem pkC_ex {r : List Cell} (h : HasR sh_Packet r) : ∃ x, r = pkC x := by
  obtain ⟨a0, a1, a2, a3, a4, a5, c6, rfl, h'⟩ := sh_Packet_Has h
  obtain ⟨l, rfl⟩ := bysC_ex h'
  exact ⟨⟨a0, a1, a2, a3, a4, a5, l⟩, rfl⟩
theorem pkC_fz (x : PkR) : TV.agg (fzCs (pkC x)) = pkT x := by simp only [pkC, fzCs, fzC, bysC_fz, pkT]
theorem sfp_H (x0 : Cell) (x1 : Int) (x2 : List Cell) (h0 : HasC sh_SaS x0) (h2 : HasR sh_Packet x2) (y0 : szC x0 ≤ 1048576) (y2 : szCs x2 ≤ 1048576) : ∃ w w', sfp_S [fzC x0, .p (.int .i64 x1), .agg (fzCs x2)] = some (.agg (tvCs 0 w), bkCs 0 w) ∧ sfp_S [fzC x0, .p (.int .i64 x1), .agg (fzCs x2)] = some (.agg (tvCs 0 w'), bkCs 0 w') ∧ fzCs w = fzCs w' ∧ FitR sh_SaResult w ∧ FitR sh_SaResult w' ∧ szCs w ≤ 1073741824 ∧ szCs w' ≤ 1073741824 := by
  obtain ⟨l, rfl⟩ := sasC_ex h0
  obtain ⟨p, rfl⟩ := pkC_ex h2
  obtain ⟨hl, hs⟩ := sasC_small y0
  have hS : sfp_S [.s (rowsT saT l), .p (.int .i64 x1), pkT p] = some (ansR (sfpR l x1 p)) := specP_at (enc := fun x : List SaR × Int × PkR => [.s (rowsT saT x.1), .p (.int .i64 x.2.1), pkT x.2.2]) (by rintro ⟨a, b, c⟩ ⟨a', b', c'⟩ h; simp at h; simp [sas_inj h.1, h.2.1, pkT_inj _ _ h.2.2]) (l, x1, p) ⟨hl, hs⟩
  have hb : ∀ f, FitR sh_SaResult (badSaC f) ∧ szCs (badSaC f) ≤ 1073741824 := fun f => ⟨badSa_fit f, by simp only [badSaC, zSa, szCs, szC]; omega⟩
  have hw : FitR sh_SaResult (sfpR l x1 p) ∧ szCs (sfpR l x1 p) ≤ 1073741824 := by
    unfold sfpR
    split
    · split
      · split
        · cases ho : l.findIdx? (forI (x1, p)) with
          | none => exact hb 4
          | some i =>
            obtain ⟨hi, _, _⟩ := List.findIdx?_eq_some_iff_getElem.1 ho
            obtain ⟨x, hx⟩ := get_ex hi
            rw [foundW_some hx]
            refine ⟨okSa_fit _ _, ?_⟩
            have := hs x (List.mem_of_getElem? hx)
            simp only [okSaC, szCs, szC, saC_szC, Nat.zero_add]; omega
        · exact hb 3
      · exact hb _
    · exact hb _
  rw [sasC_fzC, pkC_fz, hS]
  exact ⟨_, _, rfl, rfl, rfl, hw.1, hw.1, hw.2, hw.2⟩
end Go.Proofs.Ytngebdcbcliobaa
