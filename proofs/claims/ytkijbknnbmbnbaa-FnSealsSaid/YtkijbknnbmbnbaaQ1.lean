import Derived.Test.YtkijbknnbmbnbaaQ0
import Derived.Test.YtkijbknnbmbnbaaE6
set_option linter.unusedSimpArgs false
set_option linter.unusedVariables false
set_option maxRecDepth 100000
set_option maxHeartbeats 4000000
namespace Go.Proofs.Ytkijbknnbmbnbaa
open Go Go.AH
attribute [local irreducible] awpT ropsT qopsT stepT condKT gdKT EndT joinK loopKT seqKT blkKT kont kontR
/-! Draws out of a source -/

def srcB (l : List Int) (a : Int) : TB := .cells 219 2 [.agg [.s (bsT l), .p (.int .i64 a)]]
theorem srcB_inj {l l' : List Int} {a a' : Int} (h : srcB l a = srcB l' a') : l = l' ∧ a = a' := by
  simp [srcB] at h; exact ⟨bs_inj h.1, h.2⟩
/-- What is drawn out of a code at a place, below n. -/
def drwV (l : List Int) (a n : Int) : Int := if n < 1 then 0 else if l.length = 0 then (a * 7) % n else if n > 200 then ((l.getD (a % l.length).toNat 0 + a / l.length * 37) * 251 + l.getD ((a + 1) % l.length).toNat 0 * 13 + a) % n else (l.getD (a % l.length).toNat 0 + a / l.length * 37) % n
theorem drwV_bd (l : List Int) (a n : Int) : 0 ≤ drwV l a n ∧ (1 ≤ n → drwV l a n < n) ∧ (n < 1 → drwV l a n = 0) := by
  unfold drwV
  split
  · exact ⟨by omega, fun h => by omega, fun _ => rfl⟩
  · rename_i h
    split
    · exact ⟨Int.emod_nonneg _ (by omega), fun _ => Int.emod_lt_of_pos _ (by omega), fun h => by omega⟩
    · split
      · exact ⟨Int.emod_nonneg _ (by omega), fun _ => Int.emod_lt_of_pos _ (by omega), fun h => by omega⟩
      · exact ⟨Int.emod_nonneg _ (by omega), fun _ => Int.emod_lt_of_pos _ (by omega), fun h => by omega⟩
abbrev srcP (l : List Int) (a : Int) : Prop := isB l ∧ l.length ≤ 1048576 ∧ 0 ≤ a ∧ a ≤ 1073741824
noncomputable def next_S := specL (fun x : List Int × Int × Int => [.op 0 0 0, .p (.int .i64 x.2.2)]) (fun x : List Int × Int × Int => [srcB x.1 x.2.1]) (fun x => srcP x.1 x.2.1 ∧ -4611686018427387904 ≤ x.2.2 ∧ x.2.2 ≤ 4611686018427387904) (fun x => (.p (.int .i64 (drwV x.1 x.2.1 x.2.2)), [srcB x.1 (x.2.1 + 1)]))
theorem next_at (l : List Int) (a n : Int) (h : srcP l a ∧ -4611686018427387904 ≤ n ∧ n ≤ 4611686018427387904) : next_S [.op 0 0 0, .p (.int .i64 n)] [srcB l a] = some (.p (.int .i64 (drwV l a n)), [srcB l (a + 1)]) := specL_at (enc := fun x : List Int × Int × Int => [.op 0 0 0, .p (.int .i64 x.2.2)]) (encH := fun x : List Int × Int × Int => [srcB x.1 x.2.1]) (by rintro ⟨a, b, c⟩ ⟨a1, b1, c1⟩ h k; simp only [List.cons.injEq, and_true, true_and] at h k; obtain ⟨rfl, rfl⟩ := srcB_inj k; obtain rfl := p64_inj h; rfl) (l, a, n) h
-- spec.l1Next
def c102 : AF := ⟨71,
  (.seq (.reg [⟨(some 4), none, .mv (.v (.int .i64 0))⟩])
  (.seq (.reg [⟨(some 8), none, .mv (.t 0)⟩,
   ⟨(some 9), none, .mv (.t 0)⟩,
   ⟨(some 10), none, .nilc (.t 9)⟩,
   ⟨(some 11), none, .fa (.t 10) 1⟩,
   ⟨(some 12), none, .ld (.t 11)⟩,
   ⟨(some 13), none, .bin .add (.t 12) (.v (.int .i64 1))⟩,
   ⟨(some 14), none, .nilc (.t 8)⟩,
   ⟨(some 15), none, .fa (.t 14) 1⟩,
   ⟨none, none, .st 1 (.t 15) (.t 13)⟩])
  (.seq (.seq (.reg [⟨(some 16), none, .mv (.t 1)⟩,
   ⟨(some 17), none, .bin .lss (.t 16) (.v (.int .i64 1))⟩])
  (.cond (.t 17) (.seq (.reg [⟨(some 4), none, .mv (.v (.int .i64 0))⟩])
  .ret)
  .skip))
  (.seq (.reg [⟨(some 18), none, .mv (.t 0)⟩,
   ⟨(some 19), none, .nilc (.t 18)⟩,
   ⟨(some 20), none, .fa (.t 19) 1⟩,
   ⟨(some 21), none, .ld (.t 20)⟩,
   ⟨(some 22), none, .bin .sub (.t 21) (.v (.int .i64 1))⟩,
   ⟨(some 5), none, .mv (.t 22)⟩])
  (.seq (.reg [⟨(some 23), none, .mv (.t 0)⟩,
   ⟨(some 24), none, .nilc (.t 23)⟩,
   ⟨(some 25), none, .fa (.t 24) 0⟩,
   ⟨(some 26), none, .ld (.t 25)⟩,
   ⟨(some 27), none, .len (.t 26)⟩,
   ⟨(some 6), none, .mv (.t 27)⟩])
  (.seq (.seq (.reg [⟨(some 28), none, .mv (.t 6)⟩,
   ⟨(some 29), none, .bin .eql (.t 28) (.v (.int .i64 0))⟩])
  (.cond (.t 29) (.seq (.reg [⟨(some 30), none, .mv (.t 5)⟩,
   ⟨(some 31), none, .bin .mul (.t 30) (.v (.int .i64 7))⟩,
   ⟨(some 32), none, .mv (.t 1)⟩,
   ⟨(some 33), none, .bin .rem (.t 31) (.t 32)⟩,
   ⟨(some 4), none, .mv (.t 33)⟩])
  .ret)
  .skip))
  (.seq (.drw [⟨(some 34), none, .mv (.t 0)⟩,
   ⟨(some 35), none, .nilc (.t 34)⟩,
   ⟨(some 36), none, .fa (.t 35) 0⟩,
   ⟨(some 37), none, .ld (.t 36)⟩,
   ⟨(some 38), none, .mv (.t 5)⟩,
   ⟨(some 39), none, .mv (.t 6)⟩,
   ⟨(some 40), none, .bin .rem (.t 38) (.t 39)⟩,
   ⟨(some 41), none, .ia 1 (.t 37) (.t 40)⟩,
   ⟨(some 42), none, .ld (.t 41)⟩,
   ⟨(some 43), none, .cvI .i64 (.t 42)⟩,
   ⟨(some 44), none, .mv (.t 5)⟩,
   ⟨(some 45), none, .mv (.t 6)⟩,
   ⟨(some 46), none, .bin .quo (.t 44) (.t 45)⟩,
   ⟨(some 47), none, .bin .mul (.t 46) (.v (.int .i64 37))⟩] [⟨(some 48), none, .bin .add (.t 43) (.t 47)⟩,
   ⟨(some 7), none, .mv (.t 48)⟩])
  (.seq (.seq (.reg [⟨(some 49), none, .mv (.t 1)⟩,
   ⟨(some 50), none, .bin .gtr (.t 49) (.v (.int .i64 200))⟩])
  (.cond (.t 50) (.drw [⟨(some 51), none, .mv (.t 7)⟩,
   ⟨(some 52), none, .bin .mul (.t 51) (.v (.int .i64 251))⟩,
   ⟨(some 53), none, .mv (.t 0)⟩,
   ⟨(some 54), none, .nilc (.t 53)⟩,
   ⟨(some 55), none, .fa (.t 54) 0⟩,
   ⟨(some 56), none, .ld (.t 55)⟩,
   ⟨(some 57), none, .mv (.t 5)⟩,
   ⟨(some 58), none, .bin .add (.t 57) (.v (.int .i64 1))⟩,
   ⟨(some 59), none, .mv (.t 6)⟩,
   ⟨(some 60), none, .bin .rem (.t 58) (.t 59)⟩,
   ⟨(some 61), none, .ia 1 (.t 56) (.t 60)⟩,
   ⟨(some 62), none, .ld (.t 61)⟩,
   ⟨(some 63), none, .cvI .i64 (.t 62)⟩,
   ⟨(some 64), none, .bin .mul (.t 63) (.v (.int .i64 13))⟩,
   ⟨(some 65), none, .bin .add (.t 52) (.t 64)⟩,
   ⟨(some 66), none, .mv (.t 5)⟩] [⟨(some 67), none, .bin .add (.t 65) (.t 66)⟩,
   ⟨(some 7), none, .mv (.t 67)⟩])
  .skip))
  (.seq (.reg [⟨(some 68), none, .mv (.t 7)⟩,
   ⟨(some 69), none, .mv (.t 1)⟩,
   ⟨(some 70), none, .bin .rem (.t 68) (.t 69)⟩,
   ⟨(some 4), none, .mv (.t 70)⟩])
  .ret))))))))),
  [.t 4]⟩
theorem k102 : cFn Try.prog Try.f102 = some c102 := by kernel_rfl
theorem next_ok : OkT Try.prog 102 (locSp next_S) := by
  refine okT_lc (OkΓT.nil _) Try.func102 (by kernel_rfl) k102 ?_
  rintro ⟨l, a, n⟩ ⟨⟨h1, h2, h3, h4⟩, h5, h6⟩
  refine ⟨by simp, ?_⟩
  show awpT 1 _ _ (EndK 1 _ _ _) _
  try dsimp only at *
  have hlen := bs_len l
  by_cases c0 : n < 1
  · have hv : drwV l a n = 0 := (drwV_bd l a n).2.2 c0
    rw [hv]
    dsimp only [srcB]
    (dsimp only [c102]; simp (maxSteps := 8000000) (implicitDefEqProofs := false) (disch := omega) only [↓reduceIte, go_sem, if_pos, if_neg, eq_true c0])
    exact endK_of [0] (.inr rfl) (by simp (maxSteps := 8000000) (implicitDefEqProofs := false) (disch := omega) only [↓reduceIte, go_sem, if_pos, if_neg]; rfl) (by simp (maxSteps := 8000000) (implicitDefEqProofs := false) (disch := omega) only [↓reduceIte, go_sem, if_pos, if_neg]) (by simp (maxSteps := 8000000) (implicitDefEqProofs := false) (disch := omega) only [↓reduceIte, go_sem, if_pos, if_neg]) (by decide) (by simp) (by decide)
  by_cases c1 : (l.length : Int) = 0
  · have hv : drwV l a n = (a * 7) % n := by unfold drwV; rw [if_neg c0, if_pos (by omega)]
    have q := rem64 (n := a * 7) (b := n) (by omega) (by omega)
    rw [hv]
    dsimp only [srcB]
    (dsimp only [c102]; simp (maxSteps := 8000000) (implicitDefEqProofs := false) (disch := omega) only [↓reduceIte, go_sem, if_pos, if_neg, eq_false c0, hlen, eq_true c1, show a + 1 - 1 = a by omega, ↓q])
    exact endK_of [0] (.inr rfl) (by simp (maxSteps := 8000000) (implicitDefEqProofs := false) (disch := omega) only [↓reduceIte, go_sem, if_pos, if_neg]; rfl) (by simp (maxSteps := 8000000) (implicitDefEqProofs := false) (disch := omega) only [↓reduceIte, go_sem, if_pos, if_neg]) (by simp (maxSteps := 8000000) (implicitDefEqProofs := false) (disch := omega) only [↓reduceIte, go_sem, if_pos, if_neg]) (by decide) (by simp) (by decide)
  have hk : (0 : Int) < l.length := by omega
  have m1 : 0 ≤ a % l.length ∧ a % l.length < l.length := ⟨Int.emod_nonneg _ (by omega), Int.emod_lt_of_pos _ hk⟩
  have m2 : 0 ≤ (a + 1) % l.length ∧ (a + 1) % l.length < l.length := ⟨Int.emod_nonneg _ (by omega), Int.emod_lt_of_pos _ hk⟩
  have m3 : 0 ≤ a / l.length ∧ a / l.length ≤ a := ⟨Int.ediv_nonneg h3 (by omega), Int.ediv_le_self _ h3⟩
  have q1 := rem64 (n := a) (b := l.length) (by omega) hk
  have q2 := rem64 (n := a + 1) (b := l.length) (by omega) hk
  have q3 := quo64 (n := a) (b := l.length) (by omega) hk
  have g1 := bs_get (l := l) (i := (a % l.length).toNat) (by omega)
  have g2 := bs_get (l := l) (i := ((a + 1) % l.length).toNat) (by omega)
  have b1 := isB_get h1 (a % l.length).toNat
  have b2 := isB_get h1 ((a + 1) % l.length).toNat
  have hnv : drwV l a n = if n > 200 then ((l.getD (a % l.length).toNat 0 + a / l.length * 37) * 251 + l.getD ((a + 1) % l.length).toNat 0 * 13 + a) % n else (l.getD (a % l.length).toNat 0 + a / l.length * 37) % n := by
    unfold drwV; rw [if_neg c0, if_neg (by omega)]
  generalize l.getD (a % l.length).toNat 0 = x1 at *
  generalize l.getD ((a + 1) % l.length).toNat 0 = x2 at *
  generalize a % l.length = y1 at *
  generalize (a + 1) % l.length = y2 at *
  generalize a / l.length = y3 at *
  by_cases c2 : n > 200
  · rw [if_pos c2] at hnv
    have q := rem64 (n := (x1 + y3 * 37) * 251 + x2 * 13 + a) (b := n) (by omega) (by omega)
    rw [hnv]
    dsimp only [srcB]
    (dsimp only [c102]; simp (maxSteps := 8000000) (implicitDefEqProofs := false) (disch := omega) only [↓reduceIte, go_sem, if_pos, if_neg, eq_false c0, hlen, eq_false c1, show a + 1 - 1 = a by omega, ↓q1, ↓q2, ↓q3, g1, g2, eq_true c2, ↓q])
    exact endK_of [0] (.inr rfl) (by simp (maxSteps := 8000000) (implicitDefEqProofs := false) (disch := omega) only [↓reduceIte, go_sem, if_pos, if_neg]; rfl) (by simp (maxSteps := 8000000) (implicitDefEqProofs := false) (disch := omega) only [↓reduceIte, go_sem, if_pos, if_neg]) (by simp (maxSteps := 8000000) (implicitDefEqProofs := false) (disch := omega) only [↓reduceIte, go_sem, if_pos, if_neg]) (by decide) (by simp) (by decide)
  · rw [if_neg c2] at hnv
    have q := rem64 (n := x1 + y3 * 37) (b := n) (by omega) (by omega)
    rw [hnv]
    dsimp only [srcB]
    (dsimp only [c102]; simp (maxSteps := 8000000) (implicitDefEqProofs := false) (disch := omega) only [↓reduceIte, go_sem, if_pos, if_neg, eq_false c0, hlen, eq_false c1, show a + 1 - 1 = a by omega, ↓q1, ↓q2, ↓q3, g1, g2, eq_false c2, ↓q])
    exact endK_of [0] (.inr rfl) (by simp (maxSteps := 8000000) (implicitDefEqProofs := false) (disch := omega) only [↓reduceIte, go_sem, if_pos, if_neg]; rfl) (by simp (maxSteps := 8000000) (implicitDefEqProofs := false) (disch := omega) only [↓reduceIte, go_sem, if_pos, if_neg]) (by simp (maxSteps := 8000000) (implicitDefEqProofs := false) (disch := omega) only [↓reduceIte, go_sem, if_pos, if_neg]) (by decide) (by simp) (by decide)
noncomputable def chance_S := specL (fun x : List Int × Int × Int => [.op 0 0 0, .p (.int .i64 x.2.2)]) (fun x : List Int × Int × Int => [srcB x.1 x.2.1]) (fun x => srcP x.1 x.2.1 ∧ -4611686018427387904 ≤ x.2.2 ∧ x.2.2 ≤ 4611686018427387904) (fun x => (.p (.bool (decide (drwV x.1 x.2.1 x.2.2 = 0))), [srcB x.1 (x.2.1 + 1)]))
theorem chance_at (l : List Int) (a n : Int) (h : srcP l a ∧ -4611686018427387904 ≤ n ∧ n ≤ 4611686018427387904) : chance_S [.op 0 0 0, .p (.int .i64 n)] [srcB l a] = some (.p (.bool (decide (drwV l a n = 0))), [srcB l (a + 1)]) := specL_at (enc := fun x : List Int × Int × Int => [.op 0 0 0, .p (.int .i64 x.2.2)]) (encH := fun x : List Int × Int × Int => [srcB x.1 x.2.1]) (by rintro ⟨a, b, c⟩ ⟨a1, b1, c1⟩ h k; simp only [List.cons.injEq, and_true, true_and] at h k; obtain ⟨rfl, rfl⟩ := srcB_inj k; obtain rfl := p64_inj h; rfl) (l, a, n) h
-- spec.l1Chance
def c101 : AF := ⟨9,
  (.seq (.reg [⟨(some 4), none, .mv (.v (.bool false))⟩])
  (.seq (.reg [⟨(some 5), none, .mv (.t 0)⟩,
   ⟨(some 6), none, .mv (.t 1)⟩,
   ⟨(some 7), none, .call 102 [(.t 5), (.t 6)]⟩,
   ⟨(some 8), none, .bin .eql (.t 7) (.v (.int .i64 0))⟩,
   ⟨(some 4), none, .mv (.t 8)⟩])
  .ret)),
  [.t 4]⟩
theorem k101 : cFn Try.prog Try.f101 = some c101 := by kernel_rfl
theorem chance_ok : OkT Try.prog 101 (locSp chance_S) := by
  refine okT_lc (OkΓT.cons next_ok (OkΓT.nil _)) Try.func101 (by kernel_rfl) k101 ?_
  rintro ⟨l, a, n⟩ h
  refine ⟨by simp, ?_⟩
  show awpT 1 _ _ (EndK 1 _ _ _) _
  try dsimp only at *
  have hq := next_at l a n h
  generalize drwV l a n = v at *
  dsimp only [srcB] at *
  (dsimp only [c101]; simp (maxSteps := 8000000) (implicitDefEqProofs := false) (disch := omega) only [↓reduceIte, go_sem, if_pos, if_neg, hq])
  exact endK_of [0] (.inr rfl) (by simp (maxSteps := 8000000) (implicitDefEqProofs := false) (disch := omega) only [↓reduceIte, go_sem, if_pos, if_neg]; rfl) (by simp (maxSteps := 8000000) (implicitDefEqProofs := false) (disch := omega) only [↓reduceIte, go_sem, if_pos, if_neg]) (by simp (maxSteps := 8000000) (implicitDefEqProofs := false) (disch := omega) only [↓reduceIte, go_sem, if_pos, if_neg]) (by decide) (by simp) (by decide)

theorem isT_inj2 {l l' : List Int} {e : TypeId} (h : TB.cells e 1 (isT l) = .cells e 1 (isT l')) : l = l' := by simp at h; exact is_inj h
noncomputable def pick_S := specL (fun x : List Int × Int × List Int => [.op 0 0 0, .os 1 0 x.2.2.length]) (fun x : List Int × Int × List Int => [srcB x.1 x.2.1, .cells 2 1 (isT x.2.2)]) (fun x => srcP x.1 x.2.1 ∧ 1 ≤ x.2.2.length ∧ x.2.2.length ≤ 100) (fun x => (.p (.int .i64 (x.2.2.getD (drwV x.1 x.2.1 x.2.2.length).toNat 0)), [srcB x.1 (x.2.1 + 1), .cells 2 1 (isT x.2.2)]))
theorem pick_at (l : List Int) (a : Int) (L : List Int) (h : srcP l a ∧ 1 ≤ L.length ∧ L.length ≤ 100) : pick_S [.op 0 0 0, .os 1 0 L.length] [srcB l a, .cells 2 1 (isT L)] = some (.p (.int .i64 (L.getD (drwV l a L.length).toNat 0)), [srcB l (a + 1), .cells 2 1 (isT L)]) := specL_at (enc := fun x : List Int × Int × List Int => [.op 0 0 0, .os 1 0 x.2.2.length]) (encH := fun x : List Int × Int × List Int => [srcB x.1 x.2.1, .cells 2 1 (isT x.2.2)]) (by rintro ⟨a, b, c⟩ ⟨a1, b1, c1⟩ h k; simp only [List.cons.injEq, and_true] at h k; obtain ⟨k1, k2⟩ := k; obtain ⟨rfl, rfl⟩ := srcB_inj k1; obtain rfl := isT_inj2 k2; rfl) (l, a, L) h
-- spec.l1Pick
def c94 : AF := ⟨12,
  (.seq (.reg [⟨(some 4), none, .mv (.v (.int .i64 0))⟩])
  (.seq (.reg [⟨(some 5), none, .mv (.t 1)⟩,
   ⟨(some 6), none, .mv (.t 0)⟩,
   ⟨(some 7), none, .mv (.t 1)⟩,
   ⟨(some 8), none, .len (.t 7)⟩,
   ⟨(some 9), none, .call 102 [(.t 6), (.t 8)]⟩,
   ⟨(some 10), none, .ia 1 (.t 5) (.t 9)⟩,
   ⟨(some 11), none, .ld (.t 10)⟩,
   ⟨(some 4), none, .mv (.t 11)⟩])
  .ret)),
  [.t 4]⟩
theorem k94 : cFn Try.prog Try.f94 = some c94 := by kernel_rfl
theorem pick_ok : OkT Try.prog 94 (locSp pick_S) := by
  refine okT_lc (OkΓT.cons next_ok (OkΓT.nil _)) Try.func94 (by kernel_rfl) k94 ?_
  rintro ⟨l, a, L⟩ ⟨h, h5, h6⟩
  refine ⟨by simp, ?_⟩
  show awpT 2 _ _ (EndK 2 _ _ _) _
  try dsimp only at *
  have hq := next_at l a L.length ⟨h, by omega, by omega⟩
  obtain ⟨n1, n2, _⟩ := drwV_bd l a L.length
  have n2 := n2 (by omega)
  generalize drwV l a L.length = v at *
  have g := is_get (l := L) (i := v.toNat) (by omega)
  dsimp only [srcB] at *
  (dsimp only [c94]; simp (maxSteps := 8000000) (implicitDefEqProofs := false) (disch := omega) only [↓reduceIte, go_sem, if_pos, if_neg, hq, Nat.zero_add, g])
  exact endK_of [0, 1] (.inr rfl) (by simp (maxSteps := 8000000) (implicitDefEqProofs := false) (disch := omega) only [↓reduceIte, go_sem, if_pos, if_neg]; rfl) (by simp (maxSteps := 8000000) (implicitDefEqProofs := false) (disch := omega) only [↓reduceIte, go_sem, if_pos, if_neg]) (by simp (maxSteps := 8000000) (implicitDefEqProofs := false) (disch := omega) only [↓reduceIte, go_sem, if_pos, if_neg]) (by decide) (by simp) (by decide)
noncomputable def source_S := specP (fun x : List Int => [.s (bsT x)]) (fun x => True) (fun x => (.op 0 0 0, [srcB x 0]))
theorem source_at (l : List Int) : source_S [.s (bsT l)] = some ((.op 0 0 0, [srcB l 0])) := specP_at (enc := fun x : List Int => [.s (bsT x)]) (by rintro a0 b0 h; simp only [List.cons.injEq, and_true] at h; have h0 := h; obtain rfl := sby_inj h0; rfl) l trivial
-- spec.l1Source
def c92 : AF := ⟨6,
  (.seq (.reg [⟨(some 2), none, .mv (.v (.pointer none))⟩])
  (.seq (.reg [⟨(some 3), none, .mv (.t 0)⟩,
   ⟨(some 4), none, .build [(.slice none 0 0), (.int .i64 0)] [(0, 1, (.t 3))]⟩,
   ⟨(some 5), none, .box 219 (.t 4)⟩,
   ⟨(some 2), none, .mv (.t 5)⟩])
  .ret)),
  [.t 2]⟩
theorem k92 : cFn Try.prog Try.f92 = some c92 := by kernel_rfl
theorem source_ok : OkT Try.prog 92 (shareSp source_S) := by
  refine okT_sh (OkΓT.nil _) Try.func92 (by kernel_rfl) k92 ?_
  rintro l _
  try dsimp only at *
  dsimp only [srcB]
  (dsimp only [c92]; simp (maxSteps := 8000000) (implicitDefEqProofs := false) (disch := omega) only [↓reduceIte, go_sem, if_pos, if_neg])
  exact endT_of [0] (.inr rfl) (by simp (maxSteps := 8000000) (implicitDefEqProofs := false) (disch := omega) only [↓reduceIte, go_sem, if_pos, if_neg]; rfl) (by simp (maxSteps := 8000000) (implicitDefEqProofs := false) (disch := omega) only [↓reduceIte, go_sem, if_pos, if_neg]) (by simp (maxSteps := 8000000) (implicitDefEqProofs := false) (disch := omega) only [↓reduceIte, go_sem, if_pos, if_neg]) (by decide) (by simp)

def someV (l : List Int) (a : Int) : Int := [drwV l a 256, drwV l (a + 1) 256, 0, 255].getD (drwV l (a + 2) 4).toNat 0
def someL (l : List Int) (a : Int) (n : Nat) : List Int := (List.range n).map fun (i : Nat) => someV l (a + 3 * (i : Int))
theorem someV_bd (l : List Int) (a : Int) : 0 ≤ someV l a ∧ someV l a < 256 := by
  obtain ⟨a1, a2, _⟩ := drwV_bd l a 256
  obtain ⟨b1, b2, _⟩ := drwV_bd l (a + 1) 256
  obtain ⟨c1, c2, _⟩ := drwV_bd l (a + 2) 4
  have a2 := a2 (by omega); have b2 := b2 (by omega); have c2 := c2 (by omega)
  unfold someV
  have : (drwV l (a + 2) 4).toNat = 0 ∨ (drwV l (a + 2) 4).toNat = 1 ∨ (drwV l (a + 2) 4).toNat = 2 ∨ (drwV l (a + 2) 4).toNat = 3 := by omega
  rcases this with h | h | h | h <;> rw [h] <;> simp <;> omega
theorem someL_len (l : List Int) (a : Int) (n : Nat) : (someL l a n).length = n := by simp [someL]
theorem someL_bd (l : List Int) (a : Int) (n : Nat) : isB (someL l a n) := fun x hx => by
  simp only [someL, List.mem_map] at hx
  obtain ⟨i, _, rfl⟩ := hx
  exact someV_bd _ _
theorem someL_succ (l : List Int) (a : Int) (n : Nat) : someL l a (n + 1) = someL l a n ++ [someV l (a + 3 * n)] := by simp [someL, List.range_succ]
noncomputable def some_S := specL (fun x : List Int × Int × Nat => [.op 0 0 0, .p (.int .i64 x.2.2)]) (fun x : List Int × Int × Nat => [srcB x.1 x.2.1]) (fun x => (isB x.1 ∧ x.1.length ≤ 1048576 ∧ 0 ≤ x.2.1 ∧ x.2.1 ≤ 1000000) ∧ x.2.2 ≤ 1000000) (fun x => (.os 1 0 x.2.2, [srcB x.1 (x.2.1 + 3 * x.2.2), .cells 5 (zOf x.2.2 1) (bsT (someL x.1 x.2.1 x.2.2))]))
theorem some_at (l : List Int) (a : Int) (n : Nat) (h : (isB l ∧ l.length ≤ 1048576 ∧ 0 ≤ a ∧ a ≤ 1000000) ∧ n ≤ 1000000) : some_S [.op 0 0 0, .p (.int .i64 n)] [srcB l a] = some (.os 1 0 n, [srcB l (a + 3 * n), .cells 5 (zOf n 1) (bsT (someL l a n))]) := specL_at (enc := fun x : List Int × Int × Nat => [.op 0 0 0, .p (.int .i64 x.2.2)]) (encH := fun x : List Int × Int × Nat => [srcB x.1 x.2.1]) (by rintro ⟨a, b, c⟩ ⟨a1, b1, c1⟩ h k; simp only [List.cons.injEq, and_true, true_and] at h k; obtain ⟨rfl, rfl⟩ := srcB_inj k; obtain rfl := p64n_inj h; rfl) (l, a, n) h
-- spec.l1Some
def c186 : AF := ⟨23,
  (.seq (.reg [⟨(some 4), none, .mv (.v (.slice none 0 0))⟩])
  (.seq (.reg [⟨(some 6), none, .mkS 5 0 [] []⟩,
   ⟨(some 5), none, .mv (.t 6)⟩])
  (.seq (.block 0 (.loop (.seq (.seq (.reg [⟨(some 7), none, .mv (.t 1)⟩,
   ⟨(some 8), none, .bin .gtr (.t 7) (.v (.int .i64 0))⟩])
  (.cond (.t 8) .skip
  (.exit 0)))
  (.seq (.block 1 (.reg [⟨(some 11), none, .mv (.t 5)⟩,
   ⟨(some 12), none, .mv (.t 0)⟩,
   ⟨(some 13), none, .mv (.t 0)⟩,
   ⟨(some 14), none, .call 102 [(.t 13), (.v (.int .i64 256))]⟩,
   ⟨(some 15), none, .mv (.t 0)⟩,
   ⟨(some 16), none, .call 102 [(.t 15), (.v (.int .i64 256))]⟩,
   ⟨(some 17), none, .mkS 2 4 [(.int .i64 0), (.int .i64 0), (.int .i64 0), (.int .i64 0)] [(0, 1, (.t 14)), (1, 1, (.t 16)), (2, 1, (.v (.int .i64 0))), (3, 1, (.v (.int .i64 255)))]⟩,
   ⟨(some 18), none, .call 94 [(.t 12), (.t 17)]⟩,
   ⟨(some 19), none, .cvI .u8 (.t 18)⟩,
   ⟨(some 20), none, .mkS 5 1 [(.int .u8 0)] [(0, 1, (.t 19))]⟩,
   ⟨(some 21), none, .app 5 1 1 (.t 11) (.t 20)⟩,
   ⟨(some 5), none, .mv (.t 21)⟩]))
  (.reg [⟨(some 9), none, .mv (.t 1)⟩,
   ⟨(some 10), none, .bin .sub (.t 9) (.v (.int .i64 1))⟩,
   ⟨(some 1), none, .mv (.t 10)⟩])))))
  (.seq (.reg [⟨(some 22), none, .mv (.t 5)⟩,
   ⟨(some 4), none, .mv (.t 22)⟩])
  .ret)))),
  [.t 4]⟩
theorem k186 : cFn Try.prog Try.f186 = some c186 := by kernel_rfl
theorem some_ok : OkT Try.prog 186 (locSp some_S) := by
  refine okT_lc (OkΓT.cons next_ok (OkΓT.cons pick_ok (OkΓT.nil _))) Try.func186 (by kernel_rfl) k186 ?_
  rintro ⟨l, a, n⟩ ⟨⟨h1, h2, h3, h4⟩, h5⟩
  refine ⟨by simp, ?_⟩
  show awpT 1 _ _ (EndK 1 _ _ _) _
  try dsimp only at *
  dsimp only [srcB]
  (dsimp only [c186]; simp (maxSteps := 8000000) (implicitDefEqProofs := false) (disch := omega) only [↓reduceIte, go_sem, if_pos, if_neg])
  refine awpT_loop (α := Nat) (fun i => ⟨slots [(0, .op 0 0 0), (1, .p (.int .i64 ((n : Int) - i))), (5, .os 1 0 i)], [srcB l (a + 3 * i), .cells 5 (zOf i 1) (bsT (someL l a i))]⟩) (fun i => i ≤ n) (fun i => n - i) 0 (Nat.zero_le _) (by dsimp only [srcB]; simp only [zOf_zero, show someL l a 0 = [] from rfl, bs_nil, nat0T, Int.sub_zero, Int.mul_zero, Int.add_zero]; exact (le_ofk [0, 1] (by simp (maxSteps := 8000000) (implicitDefEqProofs := false) (disch := omega) only [↓reduceIte, go_sem, if_pos, if_neg]) (by simp (maxSteps := 8000000) (implicitDefEqProofs := false) (disch := omega) only [↓reduceIte, go_sem, if_pos, if_neg]) (by decide) (by simp) (by decide))) ?_
  intro i hi
  have hl : (bsT (someL l a i)).length = i := by rw [bs_len, someL_len]
  have ht : (bsT (someL l a i)).take i = bsT (someL l a i) := List.take_of_length_le (by omega)
  have hs := someL_succ l a i
  have hv : someV l (a + 3 * i) = [drwV l (a + 3 * i) 256, drwV l (a + 3 * i + 1) 256, 0, 255].getD (drwV l (a + 3 * i + 2) 4).toNat 0 := rfl
  have hvb := someV_bd l (a + 3 * i)
  have q1 := next_at l (a + 3 * i) 256 ⟨⟨h1, h2, by omega, by omega⟩, by decide, by decide⟩
  have q2 := next_at l (a + 3 * i + 1) 256 ⟨⟨h1, h2, by omega, by omega⟩, by decide, by decide⟩
  have q3 : pick_S [.op 0 0 0, .os 1 0 4] [srcB l (a + 3 * i + 1 + 1), .cells 2 1 [.p (.int .i64 (drwV l (a + 3 * i) 256)), .p (.int .i64 (drwV l (a + 3 * i + 1) 256)), .p (.int .i64 0), .p (.int .i64 255)]] = _ := pick_at l (a + 3 * i + 1 + 1) [drwV l (a + 3 * i) 256, drwV l (a + 3 * i + 1) 256, 0, 255] ⟨⟨h1, h2, by omega, by omega⟩, (by show 1 ≤ 4; decide), (by show 4 ≤ 100; decide)⟩
  have e3 : [drwV l (a + 3 * i) 256, drwV l (a + 3 * i + 1) 256, 0, 255].getD (drwV l (a + 3 * i + 1 + 1) (([drwV l (a + 3 * i) 256, drwV l (a + 3 * i + 1) 256, 0, 255] : List Int).length : Int)).toNat 0 = someV l (a + 3 * i) := by
    rw [hv, show a + 3 * (i : Int) + 1 + 1 = a + 3 * i + 2 by omega]; rfl
  rw [e3] at q3
  have w := tu8 (n := someV l (a + 3 * i)) (by omega)
  generalize someV l (a + 3 * i) = sv at *
  have hI : isT [drwV l (a + 3 * i) 256, drwV l (a + 3 * i + 1) 256, 0, 255] = [.p (.int .i64 (drwV l (a + 3 * i) 256)), .p (.int .i64 (drwV l (a + 3 * i + 1) 256)), .p (.int .i64 0), .p (.int .i64 255)] := rfl
  rw [hI] at q3
  clear hI e3 hv
  generalize drwV l (a + 3 * i) 256 = n1 at *
  generalize drwV l (a + 3 * i + 1) 256 = n2 at *
  dsimp only [srcB] at *
  simp (maxSteps := 8000000) (implicitDefEqProofs := false) (disch := omega) only [↓reduceIte, go_sem, if_pos, if_neg]
  refine condKT_dec (fun hlt => ?_) (fun hge => ?_)
  · simp (maxSteps := 8000000) (implicitDefEqProofs := false) (disch := omega) only [↓reduceIte, go_sem, if_pos, if_neg, eq_true hlt, q1, q2, q3, w, sized_b1, zOf_or, hl, ht]
    refine loopKT_next (i + 1) (by omega) (by omega) ?_
    rw [zOf_succ, hs, show a + 3 * ((i + 1 : Nat) : Int) = a + 3 * i + 1 + 1 + 1 by omega]
    have e2 : (n : Int) - ((i : Int) + 1) = (n : Int) - i - 1 := by omega
    exact (le_ofk [0, 4] (by simp (maxSteps := 8000000) (implicitDefEqProofs := false) (disch := omega) only [↓reduceIte, go_sem, if_pos, if_neg, e2]) (by simp (maxSteps := 8000000) (implicitDefEqProofs := false) (disch := omega) only [↓reduceIte, go_sem, if_pos, if_neg, e2]) (by decide) (by simp) (by decide))
  · have hN : i = n := by omega
    subst hN
    simp (maxSteps := 8000000) (implicitDefEqProofs := false) (disch := omega) only [↓reduceIte, go_sem, if_pos, if_neg, eq_false hge]
    refine joinK_at _ (le_same _ _ (by simp)) ?_
    simp (maxSteps := 8000000) (implicitDefEqProofs := false) (disch := omega) only [↓reduceIte, go_sem, if_pos, if_neg]
    exact endK_of [0, 1] (.inr rfl) (by simp (maxSteps := 8000000) (implicitDefEqProofs := false) (disch := omega) only [↓reduceIte, go_sem, if_pos, if_neg]; rfl) (by simp (maxSteps := 8000000) (implicitDefEqProofs := false) (disch := omega) only [↓reduceIte, go_sem, if_pos, if_neg]) (by simp (maxSteps := 8000000) (implicitDefEqProofs := false) (disch := omega) only [↓reduceIte, go_sem, if_pos, if_neg]) (by decide) (by simp) (by decide)
end Go.Proofs.Ytkijbknnbmbnbaa
