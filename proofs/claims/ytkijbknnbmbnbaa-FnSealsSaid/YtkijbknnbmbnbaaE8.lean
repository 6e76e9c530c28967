import Derived.Test.YtkijbknnbmbnbaaE7
set_option linter.unusedSimpArgs false
set_option linter.unusedVariables false
set_option maxRecDepth 100000
set_option maxHeartbeats 4000000
namespace Go.Proofs.Ytkijbknnbmbnbaa
open Go Go.AH
attribute [local irreducible] awpT ropsT qopsT stepT condKT gdKT EndT joinK loopKT seqKT blkKT kont kontR
/-! Packets in and out -/

theorem parse_5 {l : List Int} (h : ¬ headP l) : parseC l = 5 := by unfold parseC; rw [if_neg h]
theorem parse_6 {l : List Int} (h : headP l) (h1 : ¬ sumN (l.take 20) = 0) : parseC l = 6 := by unfold parseC; rw [if_pos h, if_neg h1]
theorem parse_3 {l : List Int} (h : headP l) (h1 : sumN (l.take 20) = 0) (h2 : l.getD 8 0 = 0 ∨ l.getD 9 0 = 0) : parseC l = 3 := by unfold parseC; rw [if_pos h, if_pos h1, if_pos h2]
theorem parse_55 {l : List Int} (h : headP l) (h1 : sumN (l.take 20) = 0) (h2 : ¬ (l.getD 8 0 = 0 ∨ l.getD 9 0 = 0)) (h3 : (l.getD 9 0 = 6 ∨ l.getD 9 0 = 17) ∧ (l.length : Int) < 24) : parseC l = 5 := by unfold parseC; rw [if_pos h, if_pos h1, if_neg h2, if_pos h3]
theorem parse_2 {l : List Int} (h : headP l) (h1 : sumN (l.take 20) = 0) (h2 : ¬ (l.getD 8 0 = 0 ∨ l.getD 9 0 = 0)) (h3 : ¬ ((l.getD 9 0 = 6 ∨ l.getD 9 0 = 17) ∧ (l.length : Int) < 24)) (h4 : ((restL l).length : Int) > 200) : parseC l = 2 := by unfold parseC; rw [if_pos h, if_pos h1, if_neg h2, if_neg h3, if_pos h4]
theorem parse_0 {l : List Int} (h : headP l) (h1 : sumN (l.take 20) = 0) (h2 : ¬ (l.getD 8 0 = 0 ∨ l.getD 9 0 = 0)) (h3 : ¬ ((l.getD 9 0 = 6 ∨ l.getD 9 0 = 17) ∧ (l.length : Int) < 24)) (h4 : ¬ ((restL l).length : Int) > 200) : parseC l = 0 := by unfold parseC; rw [if_pos h, if_pos h1, if_neg h2, if_neg h3, if_neg h4]
noncomputable def parse_S := specP (fun x : List Int => [.s (bsT x)]) (fun x => (isB x) ∧ (x.length ≤ 1048576)) (fun x => parseV x)
theorem parse_at (l : List Int) (h : (isB l) ∧ (l.length ≤ 1048576)) : parse_S [.s (bsT l)] = some (parseV l) := specP_at (enc := fun x : List Int => [.s (bsT x)]) (by rintro a0 b0 h; simp only [List.cons.injEq, and_true] at h; have h0 := h; obtain rfl := sby_inj h0; rfl) l h
-- impl.ParsePacket
def c48 : AF := ⟨75,
  (.seq (.reg [⟨(some 2), none, .alloc 75 [(.int .i64 0), (.int .i64 0), (.int .i64 0), (.int .i64 0), (.int .i64 0), (.int .i64 0), (.int .i64 0), (.slice none 0 0)]⟩])
  (.seq (.block 0 (.seq (.reg [⟨(some 6), none, .mv (.t 0)⟩,
   ⟨(some 7), none, .call 138 [(.t 6)]⟩,
   ⟨(some 8), none, .un .not (.t 7)⟩,
   ⟨(some 5), none, .mv (.t 8)⟩])
  (.cond (.t 5) (.seq (.reg [⟨(some 9), none, .build [(.int .i64 0), (.int .i64 0), (.int .i64 0), (.int .i64 0), (.int .i64 0), (.int .i64 0), (.int .i64 0), (.slice none 0 0)] [(0, 1, (.v (.int .i64 5)))]⟩,
   ⟨none, none, .st 8 (.t 2) (.t 9)⟩])
  .ret)
  (.seq (.reg [⟨(some 11), none, .mv (.t 0)⟩,
   ⟨(some 12), none, .sl 1 (.t 11) none (some (.v (.int .i64 20)))⟩,
   ⟨(some 13), none, .call 139 [(.t 12)]⟩,
   ⟨(some 14), none, .un .not (.t 13)⟩,
   ⟨(some 10), none, .mv (.t 14)⟩])
  (.cond (.t 10) (.seq (.reg [⟨(some 15), none, .build [(.int .i64 0), (.int .i64 0), (.int .i64 0), (.int .i64 0), (.int .i64 0), (.int .i64 0), (.int .i64 0), (.slice none 0 0)] [(0, 1, (.v (.int .i64 6)))]⟩,
   ⟨none, none, .st 8 (.t 2) (.t 15)⟩])
  .ret)
  .skip)))))
  (.seq (.drw [⟨(some 16), none, .mv (.t 0)⟩,
   ⟨(some 17), none, .sl 1 (.t 16) (some (.v (.int .i64 12))) (some (.v (.int .i64 16)))⟩,
   ⟨(some 18), none, .call 111 [(.t 17)]⟩,
   ⟨(some 19), none, .mv (.t 0)⟩,
   ⟨(some 20), none, .sl 1 (.t 19) (some (.v (.int .i64 16))) (some (.v (.int .i64 20)))⟩,
   ⟨(some 21), none, .call 111 [(.t 20)]⟩,
   ⟨(some 22), none, .mv (.t 0)⟩,
   ⟨(some 23), none, .ia 1 (.t 22) (.v (.int .i64 9))⟩,
   ⟨(some 24), none, .ld (.t 23)⟩,
   ⟨(some 25), none, .cvI .i64 (.t 24)⟩,
   ⟨(some 26), none, .mv (.t 0)⟩,
   ⟨(some 27), none, .ia 1 (.t 26) (.v (.int .i64 8))⟩,
   ⟨(some 28), none, .ld (.t 27)⟩,
   ⟨(some 29), none, .cvI .i64 (.t 28)⟩,
   ⟨(some 30), none, .build [(.int .i64 0), (.int .i64 0), (.int .i64 0), (.int .i64 0), (.int .i64 0), (.int .i64 0), (.slice none 0 0)] [(0, 1, (.t 18)), (1, 1, (.t 21)), (2, 1, (.t 25)), (3, 1, (.t 29))]⟩,
   ⟨(some 3), none, .alloc 67 [(.int .i64 0), (.int .i64 0), (.int .i64 0), (.int .i64 0), (.int .i64 0), (.int .i64 0), (.slice none 0 0)]⟩] [⟨none, none, .st 7 (.t 3) (.t 30)⟩])
  (.seq (.reg [⟨(some 31), none, .mv (.t 0)⟩,
   ⟨(some 32), none, .sl 1 (.t 31) (some (.v (.int .i64 20))) none⟩,
   ⟨(some 4), none, .mv (.t 32)⟩])
  (.seq (.block 1 (.seq (.reg [⟨(some 34), none, .fa (.t 3) 3⟩,
   ⟨(some 35), none, .ld (.t 34)⟩,
   ⟨(some 36), none, .bin .eql (.t 35) (.v (.int .i64 0))⟩,
   ⟨(some 37), none, .mv (.t 36)⟩,
   ⟨(some 38), (some (37, false)), .fa (.t 3) 2⟩,
   ⟨(some 39), (some (37, false)), .ld (.t 38)⟩,
   ⟨(some 40), (some (37, false)), .bin .eql (.t 39) (.v (.int .i64 0))⟩,
   ⟨(some 41), none, .pick (.t 37) (.v (.bool true)) (.t 40)⟩,
   ⟨(some 33), none, .mv (.t 41)⟩])
  (.cond (.t 33) (.seq (.reg [⟨(some 42), none, .build [(.int .i64 0), (.int .i64 0), (.int .i64 0), (.int .i64 0), (.int .i64 0), (.int .i64 0), (.int .i64 0), (.slice none 0 0)] [(0, 1, (.v (.int .i64 3)))]⟩,
   ⟨none, none, .st 8 (.t 2) (.t 42)⟩])
  .ret)
  (.seq (.reg [⟨(some 44), none, .fa (.t 3) 2⟩,
   ⟨(some 45), none, .ld (.t 44)⟩,
   ⟨(some 46), none, .call 140 [(.t 45)]⟩,
   ⟨(some 47), none, .mv (.t 46)⟩,
   ⟨(some 48), (some (47, true)), .mv (.t 4)⟩,
   ⟨(some 49), (some (47, true)), .len (.t 48)⟩,
   ⟨(some 50), (some (47, true)), .bin .lss (.t 49) (.v (.int .i64 4))⟩,
   ⟨(some 51), none, .pick (.t 47) (.t 50) (.v (.bool false))⟩,
   ⟨(some 43), none, .mv (.t 51)⟩])
  (.cond (.t 43) (.seq (.reg [⟨(some 52), none, .build [(.int .i64 0), (.int .i64 0), (.int .i64 0), (.int .i64 0), (.int .i64 0), (.int .i64 0), (.int .i64 0), (.slice none 0 0)] [(0, 1, (.v (.int .i64 5)))]⟩,
   ⟨none, none, .st 8 (.t 2) (.t 52)⟩])
  .ret)
  .skip)))))
  (.seq (.seq (.reg [⟨(some 53), none, .fa (.t 3) 2⟩,
   ⟨(some 54), none, .ld (.t 53)⟩,
   ⟨(some 55), none, .call 140 [(.t 54)]⟩])
  (.cond (.t 55) (.drw [⟨(some 56), none, .mv (.t 4)⟩,
   ⟨(some 57), none, .sl 1 (.t 56) none (some (.v (.int .i64 2)))⟩,
   ⟨(some 58), none, .call 111 [(.t 57)]⟩,
   ⟨(some 59), none, .mv (.t 4)⟩,
   ⟨(some 60), none, .sl 1 (.t 59) (some (.v (.int .i64 2))) (some (.v (.int .i64 4)))⟩,
   ⟨(some 61), none, .call 111 [(.t 60)]⟩,
   ⟨(some 62), none, .mv (.t 4)⟩,
   ⟨(some 63), none, .sl 1 (.t 62) (some (.v (.int .i64 4))) none⟩,
   ⟨(some 64), none, .fa (.t 3) 4⟩] [⟨none, none, .st 1 (.t 64) (.t 58)⟩,
   ⟨(some 65), none, .fa (.t 3) 5⟩,
   ⟨none, none, .st 1 (.t 65) (.t 61)⟩,
   ⟨(some 4), none, .mv (.t 63)⟩])
  .skip))
  (.seq (.seq (.reg [⟨(some 66), none, .mv (.t 4)⟩,
   ⟨(some 67), none, .len (.t 66)⟩,
   ⟨(some 68), none, .bin .gtr (.t 67) (.v (.int .i64 200))⟩])
  (.cond (.t 68) (.seq (.reg [⟨(some 69), none, .build [(.int .i64 0), (.int .i64 0), (.int .i64 0), (.int .i64 0), (.int .i64 0), (.int .i64 0), (.int .i64 0), (.slice none 0 0)] [(0, 1, (.v (.int .i64 2)))]⟩,
   ⟨none, none, .st 8 (.t 2) (.t 69)⟩])
  .ret)
  .skip))
  (.seq (.reg [⟨(some 70), none, .mv (.t 4)⟩,
   ⟨(some 71), none, .call 99 [(.t 70)]⟩,
   ⟨(some 72), none, .fa (.t 3) 6⟩,
   ⟨none, none, .st 1 (.t 72) (.t 71)⟩])
  (.seq (.reg [⟨(some 73), none, .ldn 7 (.t 3)⟩,
   ⟨(some 74), none, .build [(.int .i64 0), (.int .i64 0), (.int .i64 0), (.int .i64 0), (.int .i64 0), (.int .i64 0), (.int .i64 0), (.slice none 0 0)] [(0, 1, (.v (.int .i64 0))), (1, 7, (.t 73))]⟩,
   ⟨none, none, .st 8 (.t 2) (.t 74)⟩])
  .ret))))))))),
  [.cell 2 (some 8)]⟩
theorem k48 : cFn Try.prog Try.f48 = some c48 := by kernel_rfl
theorem parseI_ok : OkT Try.prog 48 (pureSp parse_S) := by
  refine okT_fn (OkΓT.cons headOk_ok (OkΓT.cons chkI_ok (OkΓT.cons take_ok (OkΓT.cons implHasP_ok (OkΓT.cons cloneB_ok (OkΓT.nil _)))))) Try.func48 (by kernel_rfl) k48 (fun x _ => parseV_own _) ?_
  rintro l ⟨h1, h2⟩
  try dsimp only at *
  have hlen := bs_len l
  have hh := head_at l ⟨h1, h2⟩
  by_cases c0 : headP l
  case neg =>
    rw [parseV_bad (parse_5 c0) (by decide)]
    dsimp only [pkA, pkZ]
    (dsimp only [c48]; simp (maxSteps := 8000000) (implicitDefEqProofs := false) (disch := omega) only [↓reduceIte, go_sem, if_pos, if_neg, hlen, hh, eq_false c0])
    exact endT_v (.inr rfl) (by (simp (maxSteps := 8000000) (implicitDefEqProofs := false) (disch := omega) only [↓reduceIte, go_sem, if_pos, if_neg]) <;> rfl) (fun _ => rfl)
  obtain ⟨⟨k1, k2⟩, k3⟩ := id c0
  have hc := chk_at (l.take 20) (isB_take h1 _) (by simp; omega)
  by_cases c1 : sumN (l.take 20) = 0
  case neg =>
    have e1 : (sumN (l.take 20) == 0) = false := by simp [c1]
    rw [parseV_bad (parse_6 c0 c1) (by decide)]
    dsimp only [pkA, pkZ]
    (dsimp only [c48]; simp (maxSteps := 8000000) (implicitDefEqProofs := false) (disch := omega) only [↓reduceIte, go_sem, if_pos, if_neg, hlen, hh, eq_true c0, hc, e1])
    exact endT_v (.inr rfl) (by (simp (maxSteps := 8000000) (implicitDefEqProofs := false) (disch := omega) only [↓reduceIte, go_sem, if_pos, if_neg]) <;> rfl) (fun _ => rfl)
  have e1 : (sumN (l.take 20) == 0) = true := by simp [c1]
  have g8 := bs_get (l := l) (i := 8) (by omega)
  have g9 := bs_get (l := l) (i := 9) (by omega)
  have b8 := isB_get h1 8
  have b9 := isB_get h1 9
  have q12 := take_at ((l.drop 12).take 4) (isB_take (isB_drop h1 _) _) (by simp; omega)
  have q16 := take_at ((l.drop 16).take 4) (isB_take (isB_drop h1 _) _) (by simp; omega)
  by_cases c2 : l.getD 8 0 = 0 ∨ l.getD 9 0 = 0
  case pos =>
    by_cases c2' : l.getD 8 0 = 0
    · rw [parseV_bad (parse_3 c0 c1 c2) (by decide)]
      dsimp only [pkA, pkZ]
      (dsimp only [c48]; simp (maxSteps := 8000000) (implicitDefEqProofs := false) (disch := omega) only [↓reduceIte, go_sem, if_pos, if_neg, hlen, hh, eq_true c0, hc, e1, g8, g9, q12, q16, b8, b9, hasP_at, eq_true c2'])
      exact endT_v (.inr rfl) (by (simp (maxSteps := 8000000) (implicitDefEqProofs := false) (disch := omega) only [↓reduceIte, go_sem, if_pos, if_neg]) <;> rfl) (fun _ => rfl)
    · have c2'' : l.getD 9 0 = 0 := by omega
      rw [parseV_bad (parse_3 c0 c1 c2) (by decide)]
      dsimp only [pkA, pkZ]
      (dsimp only [c48]; simp (maxSteps := 8000000) (implicitDefEqProofs := false) (disch := omega) only [↓reduceIte, go_sem, if_pos, if_neg, hlen, hh, eq_true c0, hc, e1, g8, g9, q12, q16, b8, b9, hasP_at, eq_false c2', eq_true c2''])
      exact endT_v (.inr rfl) (by (simp (maxSteps := 8000000) (implicitDefEqProofs := false) (disch := omega) only [↓reduceIte, go_sem, if_pos, if_neg]) <;> rfl) (fun _ => rfl)
  have c2a : ¬ l.getD 8 0 = 0 := fun h => c2 (.inl h)
  have c2b : ¬ l.getD 9 0 = 0 := fun h => c2 (.inr h)
  have hd := bs_len (l.drop 20)
  have hdl : (l.drop 20).length = l.length - 20 := List.length_drop
  have ht20 : (l.drop 20).take ((l.length : Int) - 20).toNat = l.drop 20 := List.take_of_length_le (by omega)
  by_cases hp : l.getD 9 0 = 6 ∨ l.getD 9 0 = 17
  · by_cases c3 : (l.length : Int) < 24
    · rw [parseV_bad (parse_55 c0 c1 c2 ⟨hp, c3⟩) (by decide)]
      dsimp only [pkA, pkZ]
      (dsimp only [c48]; simp (maxSteps := 8000000) (implicitDefEqProofs := false) (disch := omega) only [↓reduceIte, go_sem, if_pos, if_neg, hlen, hh, eq_true c0, hc, e1, g8, g9, q12, q16, b8, b9, hasP_at, eq_false c2a, eq_false c2b, hd, hdl, ht20, eq_true hp, eq_true (show ((l.length - 20 : Nat) : Int) < 4 by omega)])
      exact endT_v (.inr rfl) (by (simp (maxSteps := 8000000) (implicitDefEqProofs := false) (disch := omega) only [↓reduceIte, go_sem, if_pos, if_neg]) <;> rfl) (fun _ => rfl)
    have t2 := take_at ((l.drop 20).take 2) (isB_take (isB_drop h1 _) _) (by simp; omega)
    have t22 := take_at (((l.drop 20).drop 2).take 2) (isB_take (isB_drop (isB_drop h1 _) _) _) (by simp; omega)
    have d22 : (l.drop 20).drop 2 = l.drop 22 := by rw [List.drop_drop]
    have d24 : (l.drop 20).drop 4 = l.drop 24 := by rw [List.drop_drop]
    rw [d22] at t22
    have hr : restL l = l.drop 24 := by unfold restL; rw [if_pos hp]
    have hrl : (l.drop 24).length = l.length - 24 := List.length_drop
    have hrb := bs_len (l.drop 24)
    have ht24 : (l.drop 24).take (((l.length - 20 : Nat) : Int) - 4).toNat = l.drop 24 := List.take_of_length_le (by omega)
    have hx3 : ¬ ((l.getD 9 0 = 6 ∨ l.getD 9 0 = 17) ∧ (l.length : Int) < 24) := fun h => c3 h.2
    have e4 : ((restL l).length : Int) = (l.length - 24 : Nat) := by rw [hr, hrl]
    by_cases c4 : ((l.length - 24 : Nat) : Int) > 200
    · exfalso; omega
    · have hcl := cloneB_at (l.drop 24) (by omega)
      rw [hrl] at hcl
      rw [parseV_ok (parse_0 c0 c1 c2 hx3 (by rw [e4]; exact c4))]
      dsimp only [pkA, parseP]
      rw [if_pos hp, if_pos hp, hr, hrl]
      (dsimp only [c48]; simp (maxSteps := 8000000) (implicitDefEqProofs := false) (disch := omega) only [↓reduceIte, go_sem, if_pos, if_neg, hlen, hh, eq_true c0, hc, e1, g8, g9, q12, q16, b8, b9, hasP_at, eq_false c2a, eq_false c2b, hd, hdl, ht20, eq_true hp, eq_false (show ¬ ((l.length - 20 : Nat) : Int) < 4 by omega), t2, t22, d22, d24, ht24, hrb, hrl, eq_false c4, hcl])
      exact endT_of [2] (.inr rfl) (by simp (maxSteps := 8000000) (implicitDefEqProofs := false) (disch := omega) only [↓reduceIte, go_sem, if_pos, if_neg]; rfl) (by simp (maxSteps := 8000000) (implicitDefEqProofs := false) (disch := omega) only [↓reduceIte, go_sem, if_pos, if_neg]) (by simp (maxSteps := 8000000) (implicitDefEqProofs := false) (disch := omega) only [↓reduceIte, go_sem, if_pos, if_neg]) (by decide) (by simp)
  · have hr : restL l = l.drop 20 := by unfold restL; rw [if_neg hp]
    have hx3 : ¬ ((l.getD 9 0 = 6 ∨ l.getD 9 0 = 17) ∧ (l.length : Int) < 24) := fun h => hp h.1
    have e4 : ((restL l).length : Int) = (l.length - 20 : Nat) := by rw [hr, hdl]
    by_cases c4 : ((l.length - 20 : Nat) : Int) > 200
    · rw [parseV_bad (parse_2 c0 c1 c2 hx3 (by rw [e4]; exact c4)) (by decide)]
      dsimp only [pkA, pkZ]
      (dsimp only [c48]; simp (maxSteps := 8000000) (implicitDefEqProofs := false) (disch := omega) only [↓reduceIte, go_sem, if_pos, if_neg, hlen, hh, eq_true c0, hc, e1, g8, g9, q12, q16, b8, b9, hasP_at, eq_false c2a, eq_false c2b, hd, hdl, ht20, eq_false hp, eq_true c4])
      exact endT_v (.inr rfl) (by (simp (maxSteps := 8000000) (implicitDefEqProofs := false) (disch := omega) only [↓reduceIte, go_sem, if_pos, if_neg]) <;> rfl) (fun _ => rfl)
    · have hcl := cloneB_at (l.drop 20) (by omega)
      rw [hdl] at hcl
      rw [parseV_ok (parse_0 c0 c1 c2 hx3 (by rw [e4]; exact c4))]
      dsimp only [pkA, parseP]
      rw [if_neg hp, if_neg hp, hr, hdl]
      (dsimp only [c48]; simp (maxSteps := 8000000) (implicitDefEqProofs := false) (disch := omega) only [↓reduceIte, go_sem, if_pos, if_neg, hlen, hh, eq_true c0, hc, e1, g8, g9, q12, q16, b8, b9, hasP_at, eq_false c2a, eq_false c2b, hd, hdl, ht20, eq_false hp, eq_false c4, hcl])
      exact endT_of [2] (.inr rfl) (by simp (maxSteps := 8000000) (implicitDefEqProofs := false) (disch := omega) only [↓reduceIte, go_sem, if_pos, if_neg]; rfl) (by simp (maxSteps := 8000000) (implicitDefEqProofs := false) (disch := omega) only [↓reduceIte, go_sem, if_pos, if_neg]) (by simp (maxSteps := 8000000) (implicitDefEqProofs := false) (disch := omega) only [↓reduceIte, go_sem, if_pos, if_neg]) (by decide) (by simp)
noncomputable def bad_S := specP (fun x : Int => [.p (.int .i64 x)]) (fun x => True) (fun x => (.agg (.p (.int .i64 x) :: pkA pkZ .nl), []))
theorem bad_at (c : Int) : bad_S [.p (.int .i64 c)] = some ((.agg (.p (.int .i64 c) :: pkA pkZ .nl), [])) := specP_at (enc := fun x : Int => [.p (.int .i64 x)]) (by rintro a0 b0 h; simp only [List.cons.injEq, and_true] at h; have h0 := h; obtain rfl := p64_inj h0; rfl) c trivial
end Go.Proofs.Ytkijbknnbmbnbaa
