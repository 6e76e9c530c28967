import Derived.Test.YtkijbknnbmbnbaaE2
set_option linter.unusedSimpArgs false
set_option linter.unusedVariables false
set_option maxRecDepth 100000
set_option maxHeartbeats 4000000
namespace Go.Proofs.Ytkijbknnbmbnbaa
open Go Go.AH
attribute [local irreducible] awpT ropsT qopsT stepT condKT gdKT EndT joinK loopKT seqKT blkKT kont kontR
/-! Sums of words -/
def foldN (n : Int) : Int := if n = 0 then 0 else (n - 1) % 65535 + 1
theorem foldN_bd {n : Int} (h : 0 ≤ n) : 0 ≤ foldN n ∧ foldN n ≤ 65535 := by unfold foldN; split <;> omega
theorem foldN_small {n : Int} (h : 0 ≤ n) (h1 : n ≤ 65535) : foldN n = n := by unfold foldN; split <;> omega
theorem foldN_step {n : Int} (h : 0 ≤ n) : foldN (n % 65536 + n / 65536) = foldN n := by unfold foldN; split <;> split <;> omega
theorem foldN_add {a b : Int} (h : 0 ≤ a) (hb : 0 ≤ b) : foldN (foldN a + b) = foldN (a + b) := by unfold foldN; split <;> split <;> (try split) <;> omega
theorem rem64 {n b : Int} (h : 0 ≤ n ∧ n ≤ 4611686018427387904) (hb : 0 < b) : abin .rem (.int .i64 n) (.int .i64 b) = some (.int .i64 (n % b)) := by
  have hz : ¬ b = 0 := by omega
  simp only [abin, intB, if_true, hz, if_false]
  rw [Int.tmod_eq_emod_of_nonneg h.1]
theorem quo64 {n b : Int} (h : 0 ≤ n ∧ n ≤ 4611686018427387904) (hb : 0 < b) : abin .quo (.int .i64 n) (.int .i64 b) = some (.int .i64 (n / b)) := by
  have h1 := Int.ediv_nonneg h.1 (show 0 ≤ b by omega)
  have h2 := Int.ediv_le_self b h.1
  have hz : ¬ b = 0 := by omega
  simp only [abin, intB, if_true, hz, if_false]
  rw [Int.tdiv_eq_ediv_of_nonneg h.1, w64' (by omega)]
noncomputable def fold_S := specP (fun x : Int => [.p (.int .i64 x)]) (fun x => 0 ≤ x ∧ x ≤ 281474976710656) (fun x => (.p (.int .i64 (foldN x)), []))
theorem fold_at (n : Int) (h : 0 ≤ n ∧ n ≤ 281474976710656) : fold_S [.p (.int .i64 n)] = some (.p (.int .i64 (foldN n)), []) :=
  specP_at (enc := fun x : Int => [.p (.int .i64 x)]) (by intro a b h; simpa using h) n h
-- spec.l1Fold
def c247 : AF := ⟨11,
  (.seq (.reg [⟨(some 2), none, .mv (.v (.int .i64 0))⟩])
  (.seq (.block 0 (.loop (.seq (.seq (.reg [⟨(some 3), none, .mv (.t 0)⟩,
   ⟨(some 4), none, .bin .gtr (.t 3) (.v (.int .i64 65535))⟩])
  (.cond (.t 4) .skip
  (.exit 0)))
  (.block 1 (.reg [⟨(some 5), none, .mv (.t 0)⟩,
   ⟨(some 6), none, .bin .rem (.t 5) (.v (.int .i64 65536))⟩,
   ⟨(some 7), none, .mv (.t 0)⟩,
   ⟨(some 8), none, .bin .quo (.t 7) (.v (.int .i64 65536))⟩,
   ⟨(some 9), none, .bin .add (.t 6) (.t 8)⟩,
   ⟨(some 0), none, .mv (.t 9)⟩])))))
  (.seq (.reg [⟨(some 10), none, .mv (.t 0)⟩,
   ⟨(some 2), none, .mv (.t 10)⟩])
  .ret))),
  [.t 2]⟩
theorem k247 : cFn Try.prog Try.f247 = some c247 := by kernel_rfl
theorem l1Fold_ok : OkT Try.prog 247 (pureSp fold_S) := by
  refine okT_fn (OkΓT.nil _) Try.func247 (by kernel_rfl) k247 (fun x _ => ⟨rfl, by simp only [go_sem]⟩) ?_
  rintro n ⟨h1, h2⟩
  dsimp only at *
  (dsimp only [c247]; simp (maxSteps := 8000000) (implicitDefEqProofs := false) (disch := omega) only [↓reduceIte, go_sem, if_pos, if_neg])
  refine awpT_loop (α := Int) (fun x => ⟨slots [(0, .p (.int .i64 x))], []⟩) (fun x => 0 ≤ x ∧ x ≤ 281474976710656 ∧ foldN x = foldN n) (fun x => x.toNat) n ⟨h1, h2, rfl⟩ (le_of [] (by simp (maxSteps := 8000000) (implicitDefEqProofs := false) (disch := omega) only [↓reduceIte, go_sem, if_pos, if_neg]) (by simp (maxSteps := 8000000) (implicitDefEqProofs := false) (disch := omega) only [↓reduceIte, go_sem, if_pos, if_neg]) (by decide) (by simp)) ?_
  rintro x ⟨hx1, hx2, hx3⟩
  simp (maxSteps := 8000000) (implicitDefEqProofs := false) (disch := omega) only [↓reduceIte, go_sem, if_pos, if_neg]
  refine condKT_dec (fun hlt => ?_) (fun hge => ?_)
  · have q1 := rem64 (n := x) (b := 65536) (by omega) (by decide)
    have q2 := quo64 (n := x) (b := 65536) (by omega) (by decide)
    have q3 := foldN_step hx1
    simp (maxSteps := 8000000) (implicitDefEqProofs := false) (disch := omega) only [↓reduceIte, go_sem, if_pos, if_neg, eq_true hlt, ↓q1, ↓q2]
    refine loopKT_next (x % 65536 + x / 65536) ⟨by omega, by omega, by rw [q3, hx3]⟩ (by omega) ?_
    exact (le_of [] (by simp (maxSteps := 8000000) (implicitDefEqProofs := false) (disch := omega) only [↓reduceIte, go_sem, if_pos, if_neg]) (by simp (maxSteps := 8000000) (implicitDefEqProofs := false) (disch := omega) only [↓reduceIte, go_sem, if_pos, if_neg]) (by decide) (by simp))
  · have q := foldN_small hx1 (by omega)
    rw [hx3] at q
    simp (maxSteps := 8000000) (implicitDefEqProofs := false) (disch := omega) only [↓reduceIte, go_sem, if_pos, if_neg, eq_false hge, ← q]
    refine joinK_here ?_
    simp (maxSteps := 8000000) (implicitDefEqProofs := false) (disch := omega) only [↓reduceIte, go_sem, if_pos, if_neg]
    exact endT_of [] (.inr rfl) (by simp (maxSteps := 8000000) (implicitDefEqProofs := false) (disch := omega) only [↓reduceIte, go_sem, if_pos, if_neg]; rfl) (by simp (maxSteps := 8000000) (implicitDefEqProofs := false) (disch := omega) only [↓reduceIte, go_sem, if_pos, if_neg]) (by simp (maxSteps := 8000000) (implicitDefEqProofs := false) (disch := omega) only [↓reduceIte, go_sem, if_pos, if_neg]) (by decide) (by simp)
-- impl.fold
def c225 : AF := ⟨11,
  (.seq (.reg [⟨(some 2), none, .mv (.v (.int .i64 0))⟩])
  (.seq (.block 0 (.loop (.seq (.seq (.reg [⟨(some 3), none, .mv (.t 0)⟩,
   ⟨(some 4), none, .bin .geq (.t 3) (.v (.int .i64 65536))⟩])
  (.cond (.t 4) .skip
  (.exit 0)))
  (.block 1 (.reg [⟨(some 5), none, .mv (.t 0)⟩,
   ⟨(some 6), none, .bin .rem (.t 5) (.v (.int .i64 65536))⟩,
   ⟨(some 7), none, .mv (.t 0)⟩,
   ⟨(some 8), none, .bin .quo (.t 7) (.v (.int .i64 65536))⟩,
   ⟨(some 9), none, .bin .add (.t 6) (.t 8)⟩,
   ⟨(some 0), none, .mv (.t 9)⟩])))))
  (.seq (.reg [⟨(some 10), none, .mv (.t 0)⟩,
   ⟨(some 2), none, .mv (.t 10)⟩])
  .ret))),
  [.t 2]⟩
theorem k225 : cFn Try.prog Try.f225 = some c225 := by kernel_rfl
theorem fold_ok : OkT Try.prog 225 (pureSp fold_S) := by
  refine okT_fn (OkΓT.nil _) Try.func225 (by kernel_rfl) k225 (fun x _ => ⟨rfl, by simp only [go_sem]⟩) ?_
  rintro n ⟨h1, h2⟩
  dsimp only at *
  (dsimp only [c225]; simp (maxSteps := 8000000) (implicitDefEqProofs := false) (disch := omega) only [↓reduceIte, go_sem, if_pos, if_neg])
  refine awpT_loop (α := Int) (fun x => ⟨slots [(0, .p (.int .i64 x))], []⟩) (fun x => 0 ≤ x ∧ x ≤ 281474976710656 ∧ foldN x = foldN n) (fun x => x.toNat) n ⟨h1, h2, rfl⟩ (le_of [] (by simp (maxSteps := 8000000) (implicitDefEqProofs := false) (disch := omega) only [↓reduceIte, go_sem, if_pos, if_neg]) (by simp (maxSteps := 8000000) (implicitDefEqProofs := false) (disch := omega) only [↓reduceIte, go_sem, if_pos, if_neg]) (by decide) (by simp)) ?_
  rintro x ⟨hx1, hx2, hx3⟩
  simp (maxSteps := 8000000) (implicitDefEqProofs := false) (disch := omega) only [↓reduceIte, go_sem, if_pos, if_neg]
  refine condKT_dec (fun hlt => ?_) (fun hge => ?_)
  · have q1 := rem64 (n := x) (b := 65536) (by omega) (by decide)
    have q2 := quo64 (n := x) (b := 65536) (by omega) (by decide)
    have q3 := foldN_step hx1
    simp (maxSteps := 8000000) (implicitDefEqProofs := false) (disch := omega) only [↓reduceIte, go_sem, if_pos, if_neg, eq_true hlt, ↓q1, ↓q2]
    refine loopKT_next (x % 65536 + x / 65536) ⟨by omega, by omega, by rw [q3, hx3]⟩ (by omega) ?_
    exact (le_of [] (by simp (maxSteps := 8000000) (implicitDefEqProofs := false) (disch := omega) only [↓reduceIte, go_sem, if_pos, if_neg]) (by simp (maxSteps := 8000000) (implicitDefEqProofs := false) (disch := omega) only [↓reduceIte, go_sem, if_pos, if_neg]) (by decide) (by simp))
  · have q := foldN_small hx1 (by omega)
    rw [hx3] at q
    simp (maxSteps := 8000000) (implicitDefEqProofs := false) (disch := omega) only [↓reduceIte, go_sem, if_pos, if_neg, eq_false hge, ← q]
    refine joinK_here ?_
    simp (maxSteps := 8000000) (implicitDefEqProofs := false) (disch := omega) only [↓reduceIte, go_sem, if_pos, if_neg]
    exact endT_of [] (.inr rfl) (by simp (maxSteps := 8000000) (implicitDefEqProofs := false) (disch := omega) only [↓reduceIte, go_sem, if_pos, if_neg]; rfl) (by simp (maxSteps := 8000000) (implicitDefEqProofs := false) (disch := omega) only [↓reduceIte, go_sem, if_pos, if_neg]) (by simp (maxSteps := 8000000) (implicitDefEqProofs := false) (disch := omega) only [↓reduceIte, go_sem, if_pos, if_neg]) (by decide) (by simp)
end Go.Proofs.Ytkijbknnbmbnbaa
