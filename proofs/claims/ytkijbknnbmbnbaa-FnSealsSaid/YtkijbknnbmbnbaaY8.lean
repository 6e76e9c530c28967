import Derived.Test.YtkijbknnbmbnbaaE7
set_option linter.unusedSimpArgs false
set_option linter.unusedVariables false
set_option maxRecDepth 100000
set_option maxHeartbeats 4000000
namespace Go.Proofs.Ytkijbknnbmbnbaa
open Go Go.AH
attribute [local irreducible] awpT ropsT qopsT stepT condKT gdKT EndT joinK loopKT seqKT blkKT kont kontR
/-! Bytes as cells -/
def sh_ByteS : Shp := .sl 5 [.i .u8]
def byC (n : Int) : List Cell := [.v (.int .u8 n)]
theorem byC_rows (n : Nat) (l : List Int) : tvRs n (l.map byC) = bsT l ∧ bkRs n (l.map byC) = [] ∧ nbRs (l.map byC) = 0 := flatRs_map byC bT (fun _ => rfl) (fun _ _ => rfl) (fun _ _ => rfl) n l
theorem byC_fz (l : List Int) : fzRs (l.map byC) = bsT l := fzRs_map byC l
theorem byC_szs (l : List Int) : szRs (l.map byC) = 0 := szRs_zero fun r hr => by obtain ⟨x, _, rfl⟩ := List.mem_map.1 hr; rfl
theorem byC_has {n : Int} (h : 0 ≤ n ∧ n < 256) : HasR [.i .u8] (byC n) := ⟨_, _, rfl, ⟨_, rfl, fun _ => h⟩, rfl⟩
theorem byC_fit (n : Int) : FitR [.i .u8] (byC n) := ⟨_, _, rfl, ⟨_, rfl⟩, rfl⟩
def bysC (l : List Int) : Cell := .sl 5 1 (l.map byC)
theorem bysC_has {l : List Int} (h : isB l) : HasC sh_ByteS (bysC l) := ⟨_, rfl, fun r hr => by obtain ⟨x, hx, rfl⟩ := List.mem_map.1 hr; exact byC_has (h x hx)⟩
theorem bysC_ex {c : Cell} (h : HasC sh_ByteS c) : ∃ l, c = bysC l ∧ isB l := by
  obtain ⟨rows, rfl, hr⟩ := h
  induction rows with
  | nil => exact ⟨[], rfl, isB_nil⟩
  | cons r rows ih =>
    obtain ⟨l, hl, hb⟩ := ih fun x hx => hr x (List.mem_cons_of_mem _ hx)
    obtain ⟨_, _, rfl, ⟨a, rfl, ha⟩, h2⟩ := hr r (by simp)
    simp only [HasR] at h2; subst h2
    simp only [bysC, Cell.sl.injEq] at hl
    exact ⟨a :: l, by simp only [bysC, List.map_cons, ← hl.2.2]; rfl, isB_cons (ha rfl) hb⟩
theorem bysC_fz (l : List Int) : fzC (bysC l) = .s (bsT l) := by simp only [bysC, fzC, byC_fz]
theorem bysC_sz (l : List Int) : szC (bysC l) = l.length := by simp only [bysC, szC, byC_szs, List.length_map, Nat.add_zero]
end Go.Proofs.Ytkijbknnbmbnbaa
