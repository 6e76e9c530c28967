import Derived.Test.YtkijbknnbmbnbaaU7
import Derived.Test.YtkijbknnbmbnbaaE13
set_option linter.unusedSimpArgs false
set_option linter.unusedVariables false
set_option maxRecDepth 100000
set_option maxHeartbeats 4000000
namespace Go.Proofs.Ytkijbknnbmbnbaa
open Go Go.AH
attribute [local irreducible] awpT ropsT qopsT stepT condKT gdKT EndT joinK loopKT seqKT blkKT kont kontR
/-! Bytes as cells; wrapping and unwrapping -/
def byC (n : Int) : List Cell := [.v (.int .u8 n)]
theorem byC_rows (n : Nat) (l : List Int) : tvRs n (l.map byC) = bsT l ∧ bkRs n (l.map byC) = [] ∧ nbRs (l.map byC) = 0 := flatRs_map byC bT (fun _ => rfl) (fun _ _ => rfl) (fun _ _ => rfl) n l
theorem byC_fz (l : List Int) : fzRs (l.map byC) = bsT l := fzRs_map byC l
theorem byC_szs (l : List Int) : szRs (l.map byC) = 0 := szRs_zero fun r hr => by obtain ⟨x, _, rfl⟩ := List.mem_map.1 hr; rfl
theorem byC_has {n : Int} (h : 0 ≤ n ∧ n < 256) : HasR [.i .u8] (byC n) := ⟨_, _, rfl, ⟨_, rfl, fun _ => h⟩, rfl⟩
theorem byC_fit (n : Int) : FitR [.i .u8] (byC n) := ⟨_, _, rfl, ⟨_, rfl⟩, rfl⟩
def bysC (l : List Int) : Cell := .sl 5 1 (l.map byC)
theorem bysC_has {l : List Int} (h : isB l) : HasC sh_ByteS (bysC l) := ⟨_, rfl, fun r hr => by obtain ⟨x, hx, rfl⟩ := List.mem_map.1 hr; exact byC_has (h x hx)⟩
theorem bysC_ex {c : Cell} (h : HasC sh_ByteS c) : ∃ l, c = bysC l ∧ isB l := by
  obtain ⟨rows, rfl, hr⟩ := h
  induction rows with
  | nil => exact ⟨[], rfl, isB_nil⟩
  | cons r rows ih =>
    obtain ⟨l, hl, hb⟩ := ih fun x hx => hr x (List.mem_cons_of_mem _ hx)
    obtain ⟨_, _, rfl, ⟨a, rfl, ha⟩, h2⟩ := hr r (by simp)
    simp only [HasR] at h2; subst h2
    simp only [bysC, Cell.sl.injEq] at hl
    exact ⟨a :: l, by simp only [bysC, List.map_cons, ← hl.2.2]; rfl, isB_cons (ha rfl) hb⟩
theorem bysC_fz (l : List Int) : fzC (bysC l) = .s (bsT l) := by simp only [bysC, fzC, byC_fz]
theorem bysC_sz (l : List Int) : szC (bysC l) = l.length := by simp only [bysC, szC, byC_szs, List.length_map, Nat.add_zero]
def bysZ (l : List Int) : Cell := .sl 5 (zOf l.length 1) (l.map byC)
theorem bysZ_fit (l : List Int) : FitC sh_ByteS (bysZ l) := .inr ⟨_, _, rfl, by cases l with | nil => exact .inl rfl | cons a l => exact .inr (zOf_succ _ _), fun r hr => by obtain ⟨x, _, rfl⟩ := List.mem_map.1 hr; exact byC_fit x⟩
theorem bysZ_sz (l : List Int) : szC (bysZ l) = l.length := by simp only [bysZ, szC, byC_szs, List.length_map, Nat.add_zero]
theorem bysZ_fz (l : List Int) : fzC (bysZ l) = .s (bsT l) := by simp only [bysZ, fzC, byC_fz]
theorem bysZ_tv (n : Nat) (l : List Int) : tvC n (bysZ l) = .os n 0 l.length := by simp only [bysZ, tvC, List.length_map]
theorem bysZ_bk (n : Nat) (l : List Int) : bkC n (bysZ l) = [.cells 5 (zOf l.length 1) (bsT l)] := by simp only [bysZ, bkC, byC_rows]
def brC (c : Int) (l : List Int) : List Cell := if c = 0 then [.v (.int .i64 0), bysZ l] else [.v (.int .i64 c), .nl]
theorem brC_ans (c : Int) (l : List Int) : brV c l = (.agg (tvCs 0 (brC c l)), bkCs 0 (brC c l)) := by
  unfold brV brC
  split
  · simp only [tvCs, tvC_v, nbC, bysZ_tv, bkCs, bkC, bysZ_bk, Nat.add_zero, List.nil_append, List.append_nil]
  · rfl
theorem brC_fit (c : Int) (l : List Int) : FitR sh_BytesResult (brC c l) := by
  unfold brC; split
  · exact ⟨_, _, rfl, ⟨_, rfl⟩, _, _, rfl, bysZ_fit _, rfl⟩
  · exact ⟨_, _, rfl, ⟨_, rfl⟩, _, _, rfl, .inl rfl, rfl⟩
theorem brC_sz (c : Int) (l : List Int) : szCs (brC c l) ≤ l.length := by
  unfold brC; split
  · simp only [szCs, szC, bysZ_sz]; omega
  · simp only [szCs, szC]; omega

theorem bysC_fit (l : List Int) : FitC sh_ByteS (bysC l) := .inr ⟨_, _, rfl, .inr rfl, fun r hr => by obtain ⟨x, _, rfl⟩ := List.mem_map.1 hr; exact byC_fit x⟩
theorem bysC_tv (n : Nat) (l : List Int) : tvC n (bysC l) = .os n 0 l.length := by simp only [bysC, tvC, List.length_map]
theorem bysC_bk (n : Nat) (l : List Int) : bkC n (bysC l) = [.cells 5 1 (bsT l)] := by simp only [bysC, bkC, byC_rows]
theorem wrap_H (x0 x1 x2 : Int) (x3 : Cell) (h3 : HasC sh_ByteS x3) (y3 : szC x3 ≤ 1048576) : ∃ w w', wrap_S [.p (.int .i64 x0), .p (.int .i64 x1), .p (.int .i64 x2), fzC x3] = some (.agg (tvCs 0 w), bkCs 0 w) ∧ wrap_S [.p (.int .i64 x0), .p (.int .i64 x1), .p (.int .i64 x2), fzC x3] = some (.agg (tvCs 0 w'), bkCs 0 w') ∧ fzCs w = fzCs w' ∧ FitR sh_BytesResult w ∧ FitR sh_BytesResult w' ∧ szCs w ≤ 1073741824 ∧ szCs w' ≤ 1073741824 := by
  obtain ⟨l, rfl, hb⟩ := bysC_ex h3
  rw [bysC_sz] at y3
  have h := wrap_at x0 x1 x2 l ⟨hb, y3⟩
  rw [brC_ans] at h
  have h1 := brC_sz (wrapC x0 x1 x2 l) (wrapL x0 x1 x2 l)
  have h2 := wrapL_len x0 x1 x2 l
  have h4 := padL_len l 4 4
  have h5 := padN_bd (n := l.length) (S := 4) (by omega)
  rw [bysC_fz]
  exact ⟨_, _, h, h, rfl, brC_fit _ _, brC_fit _ _, by omega, by omega⟩
noncomputable def inW (l : List Int) (k s : Int) : List Cell := if inC l k s = 0 then [.v (.int .i64 0), .v (.int .i64 s), bysC (inL l k s)] else [.v (.int .i64 (inC l k s)), .v (.int .i64 0), .nl]
theorem inW_ans (l : List Int) (k s : Int) : inV l k s = (.agg (tvCs 0 (inW l k s)), bkCs 0 (inW l k s)) := by
  unfold inV inW
  split
  · simp only [tvCs, tvC_v, nbC, bysC_tv, bkCs, bkC, bysC_bk, Nat.add_zero, List.nil_append, List.append_nil]
  · rfl
theorem inW_fit (l : List Int) (k s : Int) : FitR sh_Inner (inW l k s) := by
  unfold inW
  split
  · exact sh_Inner_mkFit (bysC_fit _) _ _
  · exact sh_Inner_mkFit (.inl rfl) _ _
theorem inW_sz (l : List Int) (k s : Int) : szCs (inW l k s) ≤ l.length := by
  have := inL_len l k s
  unfold inW
  split
  · simp only [szCs, szC, bysC_sz]; omega
  · simp only [szCs, szC]; omega
theorem unw_H (x0 : Cell) (x1 x2 : Int) (h0 : HasC sh_ByteS x0) (y0 : szC x0 ≤ 1048576) : ∃ w w', unwrap_S [fzC x0, .p (.int .i64 x1), .p (.int .i64 x2)] = some (.agg (tvCs 0 w), bkCs 0 w) ∧ unwrap_S [fzC x0, .p (.int .i64 x1), .p (.int .i64 x2)] = some (.agg (tvCs 0 w'), bkCs 0 w') ∧ fzCs w = fzCs w' ∧ FitR sh_Inner w ∧ FitR sh_Inner w' ∧ szCs w ≤ 1073741824 ∧ szCs w' ≤ 1073741824 := by
  obtain ⟨l, rfl, hb⟩ := bysC_ex h0
  rw [bysC_sz] at y0
  have h := unwrap_at l x1 x2 ⟨hb, y0⟩
  rw [inW_ans] at h
  have h1 := inW_sz l x1 x2
  rw [bysC_fz]
  exact ⟨_, _, h, h, rfl, inW_fit _ _ _, inW_fit _ _ _, by omega, by omega⟩
end Go.Proofs.Ytkijbknnbmbnbaa
