import Derived.Test.YtngebdcbcliobaaU3
import Derived.Test.YtngebdcbcliobaaD4
set_option linter.unusedSimpArgs false
set_option linter.unusedVariables false
set_option maxRecDepth 100000
set_option maxHeartbeats 4000000
namespace Go.Proofs.Ytngebdcbcliobaa
open Go Go.AH
attribute [local irreducible] awpT ropsT qopsT stepT condKT gdKT EndT joinK loopKT seqKT blkKT kont kontR
/-! Selectors and agreements as cells -/
def slC (x : SlR) : List Cell := [.v (.int .i64 x.f1), .v (.int .i64 x.f2), .v (.int .i64 x.t1), .v (.int .i64 x.t2), .v (.int .i64 x.p1), .v (.int .i64 x.p2), .v (.int .i64 x.q1), .v (.int .i64 x.q2), .v (.int .i64 x.pr)]
theorem slC_el (x : SlR) : el (fzCs (slC x)) = slT x := rfl
theorem slC_has (x : SlR) : HasR sh_Sel (slC x) := sh_Sel_mkHas _ _ _ _ _ _ _ _ _
theorem slC_ex (r : List Cell) (h : HasR sh_Sel r) : ∃ x, r = slC x := by
  obtain ⟨a0, a1, a2, a3, a4, a5, a6, a7, a8, rfl⟩ := sh_Sel_Has h
  exact ⟨⟨a0, a1, a2, a3, a4, a5, a6, a7, a8⟩, rfl⟩
theorem slC_rows (n : Nat) (l : List SlR) : tvRs n (l.map slC) = rowsT slT l ∧ bkRs n (l.map slC) = [] ∧ nbRs (l.map slC) = 0 := flatRs_map slC slT (fun _ => rfl) (fun _ _ => rfl) (fun _ _ => rfl) n l
theorem slC_fz (l : List SlR) : fzRs (l.map slC) = rowsT slT l := fzRs_map slC l
theorem slC_sz (l : List SlR) : szRs (l.map slC) = 0 := szRs_zero fun r hr => by obtain ⟨x, _, rfl⟩ := List.mem_map.1 hr; rfl
def slsC (l : List SlR) : Cell := .sl 155 9 (l.map slC)
theorem slsC_has (l : List SlR) : HasC sh_SelS (slsC l) := ⟨_, rfl, fun r hr => by obtain ⟨x, _, rfl⟩ := List.mem_map.1 hr; exact slC_has x⟩
theorem slsC_ex {c : Cell} (h : HasC sh_SelS c) : ∃ l, c = slsC l := by
  obtain ⟨rows, rfl, hr⟩ := h
  obtain ⟨l, rfl⟩ := rows_typed slC slC_ex hr
  exact ⟨l, rfl⟩
theorem slsC_szC (l : List SlR) : szC (slsC l) = l.length := by simp only [slsC, szC, slC_sz, List.length_map, Nat.add_zero]
theorem slsC_fzC (l : List SlR) : fzC (slsC l) = .s (rowsT slT l) := by simp only [slsC, fzC, slC_fz]
theorem slsC_tv (n : Nat) (l : List SlR) : tvC n (slsC l) = .os n 0 l.length := by simp only [slsC, tvC, List.length_map]
theorem slsC_bk (n : Nat) (l : List SlR) : bkC n (slsC l) = [selB l] := by simp only [slsC, bkC, slC_rows]
theorem slsC_nb (l : List SlR) : nbC (slsC l) = 1 := by simp only [slsC, nbC, (slC_rows 0 l).2.2]
def saC (x : SaR) : List Cell := [.v (.int .i64 x.spi), .v (.int .i64 x.peer), .v (.int .i64 x.key), .v (.bool x.inn), .v (.int .i64 x.sent), .v (.int .i64 x.top), .v (.int .i64 x.bits), .v (.int .i64 x.byt), .v (.int .i64 x.hard), .v (.int .i64 x.til), slsC x.sels]
theorem saC_el (x : SaR) : el (fzCs (saC x)) = saT x := by simp only [saC, fzCs, fzC, slsC_fzC, el_two]; rfl
theorem saC_has (x : SaR) : HasR sh_Sa (saC x) := sh_Sa_mkHas (slsC_has _) _ _ _ _ _ _ _ _ _ _
theorem saC_ex (r : List Cell) (h : HasR sh_Sa r) : ∃ x, r = saC x := by
  obtain ⟨a0, a1, a2, a3, a4, a5, a6, a7, a8, a9, c10, rfl, h'⟩ := sh_Sa_Has h
  obtain ⟨l, rfl⟩ := slsC_ex h'
  exact ⟨⟨a0, a1, a2, a3, a4, a5, a6, a7, a8, a9, l⟩, rfl⟩
theorem saC_fz (l : List SaR) : fzRs (l.map saC) = rowsT saT l := by rw [fzRs_map]; simp only [saC_el]; rfl
theorem saC_nb (x : SaR) : nbCs (saC x) = 1 := by simp only [saC, nbCs, nbC, slsC_nb, Nat.add_zero, Nat.zero_add]
theorem saC_nbs (l : List SaR) : nbRs (l.map saC) = l.length := by induction l with
  | nil => rfl
  | cons x l ih => simp only [List.map_cons, nbRs, saC_nb, ih, List.length_cons]; omega
theorem saC_szC (x : SaR) : szCs (saC x) = x.sels.length := by simp only [saC, szCs, szC, slsC_szC, Nat.add_zero, Nat.zero_add]
def sasC (l : List SaR) : Cell := .sl 32 11 (l.map saC)
theorem sasC_has (l : List SaR) : HasC sh_SaS (sasC l) := ⟨_, rfl, fun r hr => by obtain ⟨x, _, rfl⟩ := List.mem_map.1 hr; exact saC_has x⟩
theorem sasC_ex {c : Cell} (h : HasC sh_SaS c) : ∃ l, c = sasC l := by
  obtain ⟨rows, rfl, hr⟩ := h
  obtain ⟨l, rfl⟩ := rows_typed saC saC_ex hr
  exact ⟨l, rfl⟩
theorem sasC_fzC (l : List SaR) : fzC (sasC l) = .s (rowsT saT l) := by simp only [sasC, fzC, saC_fz]
theorem saC_szs : ∀ (l : List SaR), (∀ y ∈ l, y.sels.length ≤ szRs (l.map saC))
  | [], y, hy => by cases hy
  | x :: l, y, hy => by
    simp only [List.map_cons, szRs, saC_szC]
    rcases List.mem_cons.1 hy with rfl | hy
    · omega
    · have := saC_szs l y hy; omega
theorem sasC_szC (l : List SaR) : szC (sasC l) = l.length + szRs (l.map saC) := by simp only [sasC, szC, List.length_map]
theorem sasC_small {l : List SaR} (h : szC (sasC l) ≤ 1048576) : l.length ≤ 1048576 ∧ ∀ y ∈ l, y.sels.length ≤ 1048576 := by
  rw [sasC_szC] at h
  exact ⟨by omega, fun y hy => by have := saC_szs l y hy; omega⟩
/-! SaForSpi -/
def zSa : List Cell := [.v (.int .i64 0), .v (.int .i64 0), .v (.int .i64 0), .v (.bool false), .v (.int .i64 0), .v (.int .i64 0), .v (.int .i64 0), .v (.int .i64 0), .v (.int .i64 0), .v (.int .i64 0), .nl]
def badSaC (f : Int) : List Cell := .v (.int .i64 f) :: .v (.int .i64 0) :: zSa
def okSaC (i : Nat) (x : SaR) : List Cell := .v (.int .i64 0) :: .v (.int .i64 i) :: saC x
theorem badSa_fit (f : Int) : FitR sh_SaResult (badSaC f) := ⟨_, _, rfl, ⟨_, rfl⟩, _, _, rfl, ⟨_, rfl⟩, sh_Sa_mkFit (.inl rfl) _ _ _ _ _ _ _ _ _ _⟩
theorem okSa_fit (i : Nat) (x : SaR) : FitR sh_SaResult (okSaC i x) := ⟨_, _, rfl, ⟨_, rfl⟩, _, _, rfl, ⟨_, rfl⟩, HasR.fit _ _ (saC_has x)⟩
theorem foundV_cells (l : List SaR) (o : Option Nat) (h : ∀ i, o = some i → i < l.length) : ∃ w, FitR sh_SaResult w ∧ foundV l o = (.agg (tvCs 0 w), bkCs 0 w) ∧ (szCs w = 0 ∨ ∃ x ∈ l, szCs w = x.sels.length) := by
  cases o with
  | none => exact ⟨badSaC 4, badSa_fit _, rfl, .inl rfl⟩
  | some i =>
    obtain ⟨x, hx⟩ := get_ex (h i rfl)
    refine ⟨okSaC i x, okSa_fit _ _, ?_, .inr ⟨x, List.mem_of_getElem? hx, ?_⟩⟩
    · rw [foundV_some hx]
      simp only [okSaC, saC, tvCs, tvC_v, slsC_tv, nbC, bkCs, bkC, slsC_bk, List.nil_append, List.append_nil, Nat.add_zero]
    · simp only [okSaC, szCs, szC, saC_szC, Nat.zero_add]
theorem sfsR_cells (l : List SaR) (s : Int) : ∃ w, FitR sh_SaResult w ∧ sfsR l s = (.agg (tvCs 0 w), bkCs 0 w) ∧ (szCs w = 0 ∨ ∃ x ∈ l, szCs w = x.sels.length) := by
  simp only [sfsR]
  split
  · exact foundV_cells l _ fun i hi => by obtain ⟨h, _⟩ := List.findIdx?_eq_some_iff_getElem.1 hi; exact h
  · exact ⟨badSaC _, badSa_fit _, rfl, .inl rfl⟩
theorem sfs_H (x0 : Cell) (x1 : Int) (h0 : HasC sh_SaS x0) (y0 : szC x0 ≤ 1048576) : ∃ w w', sfs_S [fzC x0, .p (.int .i64 x1)] = some (.agg (tvCs 0 w), bkCs 0 w) ∧ sfs_S [fzC x0, .p (.int .i64 x1)] = some (.agg (tvCs 0 w'), bkCs 0 w') ∧ fzCs w = fzCs w' ∧ FitR sh_SaResult w ∧ FitR sh_SaResult w' ∧ szCs w ≤ 1073741824 ∧ szCs w' ≤ 1073741824 := by
  obtain ⟨l, rfl⟩ := sasC_ex h0
  obtain ⟨hl, hs⟩ := sasC_small y0
  obtain ⟨w, f, e, z⟩ := sfsR_cells l x1
  have hS : sfs_S [.s (rowsT saT l), .p (.int .i64 x1)] = some (sfsR l x1) := specP_at (enc := fun x : List SaR × Int => [.s (rowsT saT x.1), .p (.int .i64 x.2)]) (by rintro ⟨a, b⟩ ⟨a', b'⟩ h; simp at h; simp [sas_inj h.1, h.2]) (l, x1) ⟨hl, hs⟩
  have hw : szCs w ≤ 1073741824 := by
    rcases z with z | ⟨x, hx, z⟩
    · omega
    · have := hs x hx; omega
  rw [sasC_fzC, hS, e]
  exact ⟨w, w, rfl, rfl, rfl, f, f, hw, hw⟩
end Go.Proofs.Ytngebdcbcliobaa
