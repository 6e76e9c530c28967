import Derived.Test.YtkijbknnbmbnbaaU8
set_option linter.unusedSimpArgs false
set_option linter.unusedVariables false
set_option maxRecDepth 100000
set_option maxHeartbeats 4000000
namespace Go.Proofs.Ytkijbknnbmbnbaa
open Go Go.AH
attribute [local irreducible] awpT ropsT qopsT stepT condKT gdKT EndT joinK loopKT seqKT blkKT kont kontR
-- laws.heldRuleS
def c209 : AF := ⟨129,
  (.seq (.reg [⟨(some 4), none, .mv (.v (.int .i64 0))⟩])
  (.seq (.seq (.reg [⟨(some 5), none, .mv (.v (.int .i64 0))⟩])
  (.block 0 (.loop (.seq (.seq (.reg [⟨(some 6), none, .mv (.t 5)⟩,
   ⟨(some 7), none, .mv (.t 0)⟩,
   ⟨(some 8), none, .len (.t 7)⟩,
   ⟨(some 9), none, .bin .lss (.t 6) (.t 8)⟩])
  (.cond (.t 9) .skip
  (.exit 0)))
  (.seq (.block 1 (.seq (.seq (.reg [⟨(some 12), none, .mv (.t 0)⟩,
   ⟨(some 13), none, .mv (.t 5)⟩,
   ⟨(some 14), none, .ia 11 (.t 12) (.t 13)⟩,
   ⟨(some 15), none, .fa (.t 14) 0⟩,
   ⟨(some 16), none, .fa (.t 15) 0⟩,
   ⟨(some 17), none, .fa (.t 16) 0⟩,
   ⟨(some 18), none, .ld (.t 17)⟩,
   ⟨(some 19), none, .mv (.t 1)⟩,
   ⟨(some 20), none, .bin .neq (.t 18) (.t 19)⟩])
  (.cond (.t 20) (.seq (.reg [⟨(some 4), none, .mv (.v (.int .i64 (-1)))⟩])
  .ret)
  .skip))
  (.seq (.reg [⟨(some 21), none, .mv (.t 1)⟩,
   ⟨(some 22), none, .bin .add (.t 21) (.v (.int .i64 1))⟩,
   ⟨(some 1), none, .mv (.t 22)⟩])
  (.seq (.seq (.reg [⟨(some 23), none, .mv (.t 0)⟩,
   ⟨(some 24), none, .mv (.t 5)⟩,
   ⟨(some 25), none, .ia 11 (.t 23) (.t 24)⟩,
   ⟨(some 26), none, .fa (.t 25) 0⟩,
   ⟨(some 27), none, .fa (.t 26) 0⟩,
   ⟨(some 28), none, .fa (.t 27) 1⟩,
   ⟨(some 29), none, .ld (.t 28)⟩,
   ⟨(some 30), none, .mv (.t 1)⟩,
   ⟨(some 31), none, .bin .neq (.t 29) (.t 30)⟩])
  (.cond (.t 31) (.seq (.reg [⟨(some 4), none, .mv (.v (.int .i64 (-1)))⟩])
  .ret)
  .skip))
  (.seq (.reg [⟨(some 32), none, .mv (.t 1)⟩,
   ⟨(some 33), none, .bin .add (.t 32) (.v (.int .i64 1))⟩,
   ⟨(some 1), none, .mv (.t 33)⟩])
  (.seq (.seq (.reg [⟨(some 34), none, .mv (.t 0)⟩,
   ⟨(some 35), none, .mv (.t 5)⟩,
   ⟨(some 36), none, .ia 11 (.t 34) (.t 35)⟩,
   ⟨(some 37), none, .fa (.t 36) 0⟩,
   ⟨(some 38), none, .fa (.t 37) 2⟩,
   ⟨(some 39), none, .fa (.t 38) 0⟩,
   ⟨(some 40), none, .ld (.t 39)⟩,
   ⟨(some 41), none, .mv (.t 1)⟩,
   ⟨(some 42), none, .bin .neq (.t 40) (.t 41)⟩])
  (.cond (.t 42) (.seq (.reg [⟨(some 4), none, .mv (.v (.int .i64 (-1)))⟩])
  .ret)
  .skip))
  (.seq (.reg [⟨(some 43), none, .mv (.t 1)⟩,
   ⟨(some 44), none, .bin .add (.t 43) (.v (.int .i64 1))⟩,
   ⟨(some 1), none, .mv (.t 44)⟩])
  (.seq (.seq (.reg [⟨(some 45), none, .mv (.t 0)⟩,
   ⟨(some 46), none, .mv (.t 5)⟩,
   ⟨(some 47), none, .ia 11 (.t 45) (.t 46)⟩,
   ⟨(some 48), none, .fa (.t 47) 0⟩,
   ⟨(some 49), none, .fa (.t 48) 2⟩,
   ⟨(some 50), none, .fa (.t 49) 1⟩,
   ⟨(some 51), none, .ld (.t 50)⟩,
   ⟨(some 52), none, .mv (.t 1)⟩,
   ⟨(some 53), none, .bin .neq (.t 51) (.t 52)⟩])
  (.cond (.t 53) (.seq (.reg [⟨(some 4), none, .mv (.v (.int .i64 (-1)))⟩])
  .ret)
  .skip))
  (.seq (.reg [⟨(some 54), none, .mv (.t 1)⟩,
   ⟨(some 55), none, .bin .add (.t 54) (.v (.int .i64 1))⟩,
   ⟨(some 1), none, .mv (.t 55)⟩])
  (.seq (.seq (.reg [⟨(some 56), none, .mv (.t 0)⟩,
   ⟨(some 57), none, .mv (.t 5)⟩,
   ⟨(some 58), none, .ia 11 (.t 56) (.t 57)⟩,
   ⟨(some 59), none, .fa (.t 58) 0⟩,
   ⟨(some 60), none, .fa (.t 59) 4⟩,
   ⟨(some 61), none, .fa (.t 60) 0⟩,
   ⟨(some 62), none, .ld (.t 61)⟩,
   ⟨(some 63), none, .mv (.t 1)⟩,
   ⟨(some 64), none, .bin .neq (.t 62) (.t 63)⟩])
  (.cond (.t 64) (.seq (.reg [⟨(some 4), none, .mv (.v (.int .i64 (-1)))⟩])
  .ret)
  .skip))
  (.seq (.reg [⟨(some 65), none, .mv (.t 1)⟩,
   ⟨(some 66), none, .bin .add (.t 65) (.v (.int .i64 1))⟩,
   ⟨(some 1), none, .mv (.t 66)⟩])
  (.seq (.seq (.reg [⟨(some 67), none, .mv (.t 0)⟩,
   ⟨(some 68), none, .mv (.t 5)⟩,
   ⟨(some 69), none, .ia 11 (.t 67) (.t 68)⟩,
   ⟨(some 70), none, .fa (.t 69) 0⟩,
   ⟨(some 71), none, .fa (.t 70) 4⟩,
   ⟨(some 72), none, .fa (.t 71) 1⟩,
   ⟨(some 73), none, .ld (.t 72)⟩,
   ⟨(some 74), none, .mv (.t 1)⟩,
   ⟨(some 75), none, .bin .neq (.t 73) (.t 74)⟩])
  (.cond (.t 75) (.seq (.reg [⟨(some 4), none, .mv (.v (.int .i64 (-1)))⟩])
  .ret)
  .skip))
  (.seq (.reg [⟨(some 76), none, .mv (.t 1)⟩,
   ⟨(some 77), none, .bin .add (.t 76) (.v (.int .i64 1))⟩,
   ⟨(some 1), none, .mv (.t 77)⟩])
  (.seq (.seq (.reg [⟨(some 78), none, .mv (.t 0)⟩,
   ⟨(some 79), none, .mv (.t 5)⟩,
   ⟨(some 80), none, .ia 11 (.t 78) (.t 79)⟩,
   ⟨(some 81), none, .fa (.t 80) 0⟩,
   ⟨(some 82), none, .fa (.t 81) 6⟩,
   ⟨(some 83), none, .fa (.t 82) 0⟩,
   ⟨(some 84), none, .ld (.t 83)⟩,
   ⟨(some 85), none, .mv (.t 1)⟩,
   ⟨(some 86), none, .bin .neq (.t 84) (.t 85)⟩])
  (.cond (.t 86) (.seq (.reg [⟨(some 4), none, .mv (.v (.int .i64 (-1)))⟩])
  .ret)
  .skip))
  (.seq (.reg [⟨(some 87), none, .mv (.t 1)⟩,
   ⟨(some 88), none, .bin .add (.t 87) (.v (.int .i64 1))⟩,
   ⟨(some 1), none, .mv (.t 88)⟩])
  (.seq (.seq (.reg [⟨(some 89), none, .mv (.t 0)⟩,
   ⟨(some 90), none, .mv (.t 5)⟩,
   ⟨(some 91), none, .ia 11 (.t 89) (.t 90)⟩,
   ⟨(some 92), none, .fa (.t 91) 0⟩,
   ⟨(some 93), none, .fa (.t 92) 6⟩,
   ⟨(some 94), none, .fa (.t 93) 1⟩,
   ⟨(some 95), none, .ld (.t 94)⟩,
   ⟨(some 96), none, .mv (.t 1)⟩,
   ⟨(some 97), none, .bin .neq (.t 95) (.t 96)⟩])
  (.cond (.t 97) (.seq (.reg [⟨(some 4), none, .mv (.v (.int .i64 (-1)))⟩])
  .ret)
  .skip))
  (.seq (.reg [⟨(some 98), none, .mv (.t 1)⟩,
   ⟨(some 99), none, .bin .add (.t 98) (.v (.int .i64 1))⟩,
   ⟨(some 1), none, .mv (.t 99)⟩])
  (.seq (.seq (.reg [⟨(some 100), none, .mv (.t 0)⟩,
   ⟨(some 101), none, .mv (.t 5)⟩,
   ⟨(some 102), none, .ia 11 (.t 100) (.t 101)⟩,
   ⟨(some 103), none, .fa (.t 102) 0⟩,
   ⟨(some 104), none, .fa (.t 103) 8⟩,
   ⟨(some 105), none, .ld (.t 104)⟩,
   ⟨(some 106), none, .mv (.t 1)⟩,
   ⟨(some 107), none, .bin .neq (.t 105) (.t 106)⟩])
  (.cond (.t 107) (.seq (.reg [⟨(some 4), none, .mv (.v (.int .i64 (-1)))⟩])
  .ret)
  .skip))
  (.seq (.reg [⟨(some 108), none, .mv (.t 1)⟩,
   ⟨(some 109), none, .bin .add (.t 108) (.v (.int .i64 1))⟩,
   ⟨(some 1), none, .mv (.t 109)⟩])
  (.seq (.seq (.reg [⟨(some 110), none, .mv (.t 0)⟩,
   ⟨(some 111), none, .mv (.t 5)⟩,
   ⟨(some 112), none, .ia 11 (.t 110) (.t 111)⟩,
   ⟨(some 113), none, .fa (.t 112) 9⟩,
   ⟨(some 114), none, .ld (.t 113)⟩,
   ⟨(some 115), none, .mv (.t 1)⟩,
   ⟨(some 116), none, .bin .neq (.t 114) (.t 115)⟩])
  (.cond (.t 116) (.seq (.reg [⟨(some 4), none, .mv (.v (.int .i64 (-1)))⟩])
  .ret)
  .skip))
  (.seq (.reg [⟨(some 117), none, .mv (.t 1)⟩,
   ⟨(some 118), none, .bin .add (.t 117) (.v (.int .i64 1))⟩,
   ⟨(some 1), none, .mv (.t 118)⟩])
  (.seq (.seq (.reg [⟨(some 119), none, .mv (.t 0)⟩,
   ⟨(some 120), none, .mv (.t 5)⟩,
   ⟨(some 121), none, .ia 11 (.t 119) (.t 120)⟩,
   ⟨(some 122), none, .fa (.t 121) 10⟩,
   ⟨(some 123), none, .ld (.t 122)⟩,
   ⟨(some 124), none, .mv (.t 1)⟩,
   ⟨(some 125), none, .bin .neq (.t 123) (.t 124)⟩])
  (.cond (.t 125) (.seq (.reg [⟨(some 4), none, .mv (.v (.int .i64 (-1)))⟩])
  .ret)
  .skip))
  (.reg [⟨(some 126), none, .mv (.t 1)⟩,
   ⟨(some 127), none, .bin .add (.t 126) (.v (.int .i64 1))⟩,
   ⟨(some 1), none, .mv (.t 127)⟩])))))))))))))))))))))))
  (.reg [⟨(some 10), none, .mv (.t 5)⟩,
   ⟨(some 11), none, .bin .add (.t 10) (.v (.int .i64 1))⟩,
   ⟨(some 5), none, .mv (.t 11)⟩]))))))
  (.seq (.reg [⟨(some 128), none, .mv (.t 1)⟩,
   ⟨(some 4), none, .mv (.t 128)⟩])
  .ret))),
  [.t 4]⟩
theorem k209 : cFn Try.prog Try.f209 = some c209 := by kernel_rfl
theorem heldRuleS_ok : OkT Try.prog 209 (pureSp (hdC_S sh_RuleS)) := by
  refine okT_hdC (OkΓT.nil _) Try.func209 (by kernel_rfl) k209 ?_
  intro c k hc h1 hz
  obtain ⟨rows, _, hr, _, hwt, hf⟩ := FitC.rows hc
  rw [hwt] at hz ⊢; rw [hf]
  have hlw : rows.length ≤ wtRs rows := wtRs_rows fun r hx => by
    have hrr := hr r hx
    obtain ⟨a0, a1, a2, a3, a4, a5, a6, a7, a8, a9, a10, rfl⟩ := sh_Rule_Fit hrr
    simp only [wtIs, wtI]; omega
  (dsimp only [c209]; simp (maxSteps := 8000000) (implicitDefEqProofs := false) (disch := omega) only [↓reduceIte, go_sem, if_pos, if_neg])
  refine awpT_loop (α := Nat) (fun i => ⟨slots [(0, .s (fzRs (mkRs rows k))), (1, .p (.int .i64 (k + (wtRs (rows.take i) : Int)))), (5, .p (.int .i64 i))], []⟩) (fun i => i ≤ rows.length) (fun i => rows.length - i) 0 (Nat.zero_le _) (by simp only [List.take_zero, wtRs, nat0T, Int.add_zero]; exact (le_of [] (by simp (maxSteps := 8000000) (implicitDefEqProofs := false) (disch := omega) only [↓reduceIte, go_sem, if_pos, if_neg]) (by simp (maxSteps := 8000000) (implicitDefEqProofs := false) (disch := omega) only [↓reduceIte, go_sem, if_pos, if_neg]) (by decide) (by simp))) ?_
  intro i hi
  simp (maxSteps := 8000000) (implicitDefEqProofs := false) (disch := omega) only [↓reduceIte, go_sem, if_pos, if_neg]
  refine condKT_dec (fun hlt => ?_) (fun hge => ?_)
  · obtain ⟨r, hx⟩ := get_ex (l := rows) (i := i) (by omega)
    have hrr := hr r (List.mem_of_getElem? hx)
    have hwr := wtRs_mem hx; have hsn := wtRs_snoc hx
    have hg := fzRs_get (mkRs_get (k := k) hx)
    generalize hm : k + (wtRs (rows.take i) : Int) = m at *
    obtain ⟨a0, a1, a2, a3, a4, a5, a6, a7, a8, a9, a10, rfl⟩ := sh_Rule_Fit hrr
    simp only [wtIs, wtI, Nat.add_zero] at hwr hsn
    simp only [mkIs, mkI, mkV, wtI, nat1T, fzCs, fzC, el_one, el_two] at hg
    simp (maxSteps := 8000000) (implicitDefEqProofs := false) (disch := omega) only [↓reduceIte, go_sem, if_pos, if_neg, eq_true hlt, hg, dec_self, Bool.not_true, not_true, decide_false]
    refine loopKT_next (i + 1) (by omega) (by omega) ?_
    have hs2 : k + (wtRs (rows.take (i + 1)) : Int) = m + 1 + 1 + 1 + 1 + 1 + 1 + 1 + 1 + 1 + 1 + 1 := by rw [hsn]; omega
    exact (le_of [] (by simp (maxSteps := 8000000) (implicitDefEqProofs := false) (disch := omega) only [↓reduceIte, go_sem, if_pos, if_neg, hs2]) (by simp (maxSteps := 8000000) (implicitDefEqProofs := false) (disch := omega) only [↓reduceIte, go_sem, if_pos, if_neg, hs2]) (by decide) (by simp))
  · have hb : rows.take i = rows := List.take_of_length_le (by omega)
    simp (maxSteps := 8000000) (implicitDefEqProofs := false) (disch := omega) only [↓reduceIte, go_sem, if_pos, if_neg, eq_false hge, hb]
    refine joinK_here ?_
    simp (maxSteps := 8000000) (implicitDefEqProofs := false) (disch := omega) only [↓reduceIte, go_sem, if_pos, if_neg]
    repeat' first
      | (refine gdKT_dec (fun hg => ?_) (fun hg => ?_) <;> (try (first | simp (maxSteps := 8000000) (implicitDefEqProofs := false) (disch := omega) only [↓reduceIte, go_sem, if_pos, if_neg, eq_false hg] | simp (maxSteps := 8000000) (implicitDefEqProofs := false) (disch := omega) only [↓reduceIte, go_sem, if_pos, if_neg, eq_true hg])))
      | (refine condKT_dec (fun hg => ?_) (fun hg => ?_) <;> (try (first | simp (maxSteps := 8000000) (implicitDefEqProofs := false) (disch := omega) only [↓reduceIte, go_sem, if_pos, if_neg, eq_false hg] | simp (maxSteps := 8000000) (implicitDefEqProofs := false) (disch := omega) only [↓reduceIte, go_sem, if_pos, if_neg, eq_true hg])))
      | (refine gdKT_split (fun hg => ?_) (fun hg => ?_) <;> (try simp (maxSteps := 8000000) (implicitDefEqProofs := false) (disch := omega) only [↓reduceIte, go_sem, if_pos, if_neg, hg]))
      | (refine condKT_split (fun hg => ?_) (fun hg => ?_) <;> (try simp (maxSteps := 8000000) (implicitDefEqProofs := false) (disch := omega) only [↓reduceIte, go_sem, if_pos, if_neg, hg]))
      | (refine endT_p (.inr rfl) (by simp (maxSteps := 8000000) (implicitDefEqProofs := false) (disch := omega) only [↓reduceIte, go_sem, if_pos, if_neg]; rfl) ?_; (first | exact vb_true (by omega) | exact vb_false (by omega) | exact vb_dec (by omega) | exact vi_eq (by omega) | rfl | (refine vi_eq ?_; simp_all; done) | (refine vi_eq ?_; simp_all; omega) | (refine vi_eq ?_; simp_all; intros; omega)))
      | exact endT_v (.inr rfl) (by simp (maxSteps := 8000000) (implicitDefEqProofs := false) (disch := omega) only [↓reduceIte, go_sem, if_pos, if_neg]; try rfl) (fun _ => rfl)
-- laws.markRuleS
def c68 : AF := ⟨107,
  (.seq (.reg [⟨(some 4), none, .mv (.v (.int .i64 0))⟩])
  (.seq (.seq (.reg [⟨(some 5), none, .mv (.v (.int .i64 0))⟩])
  (.block 0 (.loop (.seq (.seq (.reg [⟨(some 6), none, .mv (.t 5)⟩,
   ⟨(some 7), none, .mv (.t 0)⟩,
   ⟨(some 8), none, .len (.t 7)⟩,
   ⟨(some 9), none, .bin .lss (.t 6) (.t 8)⟩])
  (.cond (.t 9) .skip
  (.exit 0)))
  (.seq (.block 1 (.seq (.reg [⟨(some 12), none, .mv (.t 0)⟩,
   ⟨(some 13), none, .mv (.t 5)⟩,
   ⟨(some 14), none, .mv (.t 1)⟩,
   ⟨(some 15), none, .ia 11 (.t 12) (.t 13)⟩,
   ⟨(some 16), none, .fa (.t 15) 0⟩,
   ⟨(some 17), none, .fa (.t 16) 0⟩,
   ⟨(some 18), none, .fa (.t 17) 0⟩,
   ⟨none, none, .st 1 (.t 18) (.t 14)⟩])
  (.seq (.reg [⟨(some 19), none, .mv (.t 1)⟩,
   ⟨(some 20), none, .bin .add (.t 19) (.v (.int .i64 1))⟩,
   ⟨(some 1), none, .mv (.t 20)⟩])
  (.seq (.reg [⟨(some 21), none, .mv (.t 0)⟩,
   ⟨(some 22), none, .mv (.t 5)⟩,
   ⟨(some 23), none, .mv (.t 1)⟩,
   ⟨(some 24), none, .ia 11 (.t 21) (.t 22)⟩,
   ⟨(some 25), none, .fa (.t 24) 0⟩,
   ⟨(some 26), none, .fa (.t 25) 0⟩,
   ⟨(some 27), none, .fa (.t 26) 1⟩,
   ⟨none, none, .st 1 (.t 27) (.t 23)⟩])
  (.seq (.reg [⟨(some 28), none, .mv (.t 1)⟩,
   ⟨(some 29), none, .bin .add (.t 28) (.v (.int .i64 1))⟩,
   ⟨(some 1), none, .mv (.t 29)⟩])
  (.seq (.reg [⟨(some 30), none, .mv (.t 0)⟩,
   ⟨(some 31), none, .mv (.t 5)⟩,
   ⟨(some 32), none, .mv (.t 1)⟩,
   ⟨(some 33), none, .ia 11 (.t 30) (.t 31)⟩,
   ⟨(some 34), none, .fa (.t 33) 0⟩,
   ⟨(some 35), none, .fa (.t 34) 2⟩,
   ⟨(some 36), none, .fa (.t 35) 0⟩,
   ⟨none, none, .st 1 (.t 36) (.t 32)⟩])
  (.seq (.reg [⟨(some 37), none, .mv (.t 1)⟩,
   ⟨(some 38), none, .bin .add (.t 37) (.v (.int .i64 1))⟩,
   ⟨(some 1), none, .mv (.t 38)⟩])
  (.seq (.reg [⟨(some 39), none, .mv (.t 0)⟩,
   ⟨(some 40), none, .mv (.t 5)⟩,
   ⟨(some 41), none, .mv (.t 1)⟩,
   ⟨(some 42), none, .ia 11 (.t 39) (.t 40)⟩,
   ⟨(some 43), none, .fa (.t 42) 0⟩,
   ⟨(some 44), none, .fa (.t 43) 2⟩,
   ⟨(some 45), none, .fa (.t 44) 1⟩,
   ⟨none, none, .st 1 (.t 45) (.t 41)⟩])
  (.seq (.reg [⟨(some 46), none, .mv (.t 1)⟩,
   ⟨(some 47), none, .bin .add (.t 46) (.v (.int .i64 1))⟩,
   ⟨(some 1), none, .mv (.t 47)⟩])
  (.seq (.reg [⟨(some 48), none, .mv (.t 0)⟩,
   ⟨(some 49), none, .mv (.t 5)⟩,
   ⟨(some 50), none, .mv (.t 1)⟩,
   ⟨(some 51), none, .ia 11 (.t 48) (.t 49)⟩,
   ⟨(some 52), none, .fa (.t 51) 0⟩,
   ⟨(some 53), none, .fa (.t 52) 4⟩,
   ⟨(some 54), none, .fa (.t 53) 0⟩,
   ⟨none, none, .st 1 (.t 54) (.t 50)⟩])
  (.seq (.reg [⟨(some 55), none, .mv (.t 1)⟩,
   ⟨(some 56), none, .bin .add (.t 55) (.v (.int .i64 1))⟩,
   ⟨(some 1), none, .mv (.t 56)⟩])
  (.seq (.reg [⟨(some 57), none, .mv (.t 0)⟩,
   ⟨(some 58), none, .mv (.t 5)⟩,
   ⟨(some 59), none, .mv (.t 1)⟩,
   ⟨(some 60), none, .ia 11 (.t 57) (.t 58)⟩,
   ⟨(some 61), none, .fa (.t 60) 0⟩,
   ⟨(some 62), none, .fa (.t 61) 4⟩,
   ⟨(some 63), none, .fa (.t 62) 1⟩,
   ⟨none, none, .st 1 (.t 63) (.t 59)⟩])
  (.seq (.reg [⟨(some 64), none, .mv (.t 1)⟩,
   ⟨(some 65), none, .bin .add (.t 64) (.v (.int .i64 1))⟩,
   ⟨(some 1), none, .mv (.t 65)⟩])
  (.seq (.reg [⟨(some 66), none, .mv (.t 0)⟩,
   ⟨(some 67), none, .mv (.t 5)⟩,
   ⟨(some 68), none, .mv (.t 1)⟩,
   ⟨(some 69), none, .ia 11 (.t 66) (.t 67)⟩,
   ⟨(some 70), none, .fa (.t 69) 0⟩,
   ⟨(some 71), none, .fa (.t 70) 6⟩,
   ⟨(some 72), none, .fa (.t 71) 0⟩,
   ⟨none, none, .st 1 (.t 72) (.t 68)⟩])
  (.seq (.reg [⟨(some 73), none, .mv (.t 1)⟩,
   ⟨(some 74), none, .bin .add (.t 73) (.v (.int .i64 1))⟩,
   ⟨(some 1), none, .mv (.t 74)⟩])
  (.seq (.reg [⟨(some 75), none, .mv (.t 0)⟩,
   ⟨(some 76), none, .mv (.t 5)⟩,
   ⟨(some 77), none, .mv (.t 1)⟩,
   ⟨(some 78), none, .ia 11 (.t 75) (.t 76)⟩,
   ⟨(some 79), none, .fa (.t 78) 0⟩,
   ⟨(some 80), none, .fa (.t 79) 6⟩,
   ⟨(some 81), none, .fa (.t 80) 1⟩,
   ⟨none, none, .st 1 (.t 81) (.t 77)⟩])
  (.seq (.reg [⟨(some 82), none, .mv (.t 1)⟩,
   ⟨(some 83), none, .bin .add (.t 82) (.v (.int .i64 1))⟩,
   ⟨(some 1), none, .mv (.t 83)⟩])
  (.seq (.reg [⟨(some 84), none, .mv (.t 0)⟩,
   ⟨(some 85), none, .mv (.t 5)⟩,
   ⟨(some 86), none, .mv (.t 1)⟩,
   ⟨(some 87), none, .ia 11 (.t 84) (.t 85)⟩,
   ⟨(some 88), none, .fa (.t 87) 0⟩,
   ⟨(some 89), none, .fa (.t 88) 8⟩,
   ⟨none, none, .st 1 (.t 89) (.t 86)⟩])
  (.seq (.reg [⟨(some 90), none, .mv (.t 1)⟩,
   ⟨(some 91), none, .bin .add (.t 90) (.v (.int .i64 1))⟩,
   ⟨(some 1), none, .mv (.t 91)⟩])
  (.seq (.reg [⟨(some 92), none, .mv (.t 0)⟩,
   ⟨(some 93), none, .mv (.t 5)⟩,
   ⟨(some 94), none, .mv (.t 1)⟩,
   ⟨(some 95), none, .ia 11 (.t 92) (.t 93)⟩,
   ⟨(some 96), none, .fa (.t 95) 9⟩,
   ⟨none, none, .st 1 (.t 96) (.t 94)⟩])
  (.seq (.reg [⟨(some 97), none, .mv (.t 1)⟩,
   ⟨(some 98), none, .bin .add (.t 97) (.v (.int .i64 1))⟩,
   ⟨(some 1), none, .mv (.t 98)⟩])
  (.seq (.reg [⟨(some 99), none, .mv (.t 0)⟩,
   ⟨(some 100), none, .mv (.t 5)⟩,
   ⟨(some 101), none, .mv (.t 1)⟩,
   ⟨(some 102), none, .ia 11 (.t 99) (.t 100)⟩,
   ⟨(some 103), none, .fa (.t 102) 10⟩,
   ⟨none, none, .st 1 (.t 103) (.t 101)⟩])
  (.reg [⟨(some 104), none, .mv (.t 1)⟩,
   ⟨(some 105), none, .bin .add (.t 104) (.v (.int .i64 1))⟩,
   ⟨(some 1), none, .mv (.t 105)⟩])))))))))))))))))))))))
  (.reg [⟨(some 10), none, .mv (.t 5)⟩,
   ⟨(some 11), none, .bin .add (.t 10) (.v (.int .i64 1))⟩,
   ⟨(some 5), none, .mv (.t 11)⟩]))))))
  (.seq (.reg [⟨(some 106), none, .mv (.t 1)⟩,
   ⟨(some 4), none, .mv (.t 106)⟩])
  .ret))),
  [.t 4]⟩
theorem k68 : cFn Try.prog Try.f68 = some c68 := by kernel_rfl
theorem markRuleS_ok : OkT Try.prog 68 (mkC_Sp sh_RuleS) := by
  refine okT_mkC (OkΓT.nil _) Try.func68 (by kernel_rfl) k68 ?_
  intro c k hc h1 hz
  simp only [sh_RuleS, FitC] at hc
  rcases hc with rfl | ⟨z, rows, rfl, hz0, hr⟩
  · simp only [wtC, mkC, nbC, tvC_v, tvC_nl, tvC_sl, bkC, nat0T, Int.add_zero] at *
    (dsimp only [c68]; simp (maxSteps := 8000000) (implicitDefEqProofs := false) (disch := omega) only [↓reduceIte, go_sem, if_pos, if_neg])
    refine awpT_loop (α := Unit) (fun _ => ⟨slots [(0, .nl), (1, .p (.int .i64 k)), (5, .p (.int .i64 0))], []⟩) (fun _ => True) (fun _ => 0) () trivial (le_keep (Nat.zero_le _) (by simp (maxSteps := 8000000) (implicitDefEqProofs := false) (disch := omega) only [↓reduceIte, go_sem, if_pos, if_neg, slotsIn])) ?_
    intro _ _
    simp (maxSteps := 8000000) (implicitDefEqProofs := false) (disch := omega) only [↓reduceIte, go_sem, if_pos, if_neg]
    refine joinK_at _ (le_same _ _ (Nat.zero_le _)) ?_
    simp (maxSteps := 8000000) (implicitDefEqProofs := false) (disch := omega) only [↓reduceIte, go_sem, if_pos, if_neg]
    exact endK_same (.inr rfl) (Nat.zero_le _) (by simp (maxSteps := 8000000) (implicitDefEqProofs := false) (disch := omega) only [↓reduceIte, go_sem, if_pos, if_neg]) rfl
  · simp only [wtC] at hz ⊢
    have hlw : rows.length ≤ wtRs rows := wtRs_rows fun r hx => by
      have hrr := hr r hx
      obtain ⟨a0, a1, a2, a3, a4, a5, a6, a7, a8, a9, a10, rfl⟩ := sh_Rule_Fit hrr
      simp only [wtIs, wtI]; omega
    simp only [tvC_v, tvC_nl, tvC_sl, bkC, mkC, Nat.zero_add]
    generalize hnb : nbC _ = nb
    simp only [nbC] at hnb
    have hnb2 : ∀ i, nb = (bkRs 1 (mkAt rows k i)).length + 1 := fun i => by
      have := mkRs_nb (rows.take i) k; have h2 := nbRs_app (rows.take i) (rows.drop i)
      rw [List.take_append_drop] at h2; rw [bkRs_len, mkAt, nbRs_app]; omega
    (dsimp only [c68]; simp (maxSteps := 8000000) (implicitDefEqProofs := false) (disch := omega) only [↓reduceIte, go_sem, if_pos, if_neg])
    refine awpT_loop (α := Nat) (fun i => ⟨slots [(0, .os 0 0 rows.length), (1, .p (.int .i64 (k + (wtRs (rows.take i) : Int)))), (5, .p (.int .i64 i))], .cells 186 z (tvRs 1 (mkAt rows k i)) :: bkRs 1 (mkAt rows k i)⟩)
      (fun i => i ≤ rows.length) (fun i => rows.length - i) 0 (Nat.zero_le _) (by simp only [mkAt_zero, List.take_zero, wtRs, nat0T, Int.add_zero]; exact le_keep (by have := hnb2 0; rw [mkAt_zero] at this; rw [List.length_cons]; omega) (by simp (maxSteps := 8000000) (implicitDefEqProofs := false) (disch := omega) only [↓reduceIte, go_sem, if_pos, if_neg, slotsIn])) ?_
    intro i hi
    have hl1 : (tvRs 1 (mkAt rows k i)).length = rows.length := by rw [tvRs_len, mkAt_len]
    simp (maxSteps := 8000000) (implicitDefEqProofs := false) (disch := omega) only [↓reduceIte, go_sem, if_pos, if_neg, hl1]
    refine condKT_dec (fun hlt => ?_) (fun hge => ?_)
    · obtain ⟨r, hx⟩ := get_ex (l := rows) (i := i) (by omega)
      obtain rfl : z = 11 := by rcases hz0 with h | h; (rw [h] at hx; simp at hx); exact h
      have hrr := hr r (List.mem_of_getElem? hx)
      have hwr := wtRs_mem hx; have hsn := wtRs_snoc hx
      have hg := mkAt_get 1 (k := k) hx; have hs := mkAt_set 1 (k := k) hx
      generalize hm : k + (wtRs (rows.take i) : Int) = m at *
      obtain ⟨a0, a1, a2, a3, a4, a5, a6, a7, a8, a9, a10, rfl⟩ := sh_Rule_Fit hrr
      simp only [wtIs, wtI, Nat.add_zero] at hwr hsn
      simp only [mkIs, mkI, mkV, wtI, nat1T, tvCs, tvC_v, tvC_nl, tvC_sl, nbC, Nat.add_zero, mkC_tv, el_one, el_two] at hg hs
      have hb2 : bkRs 1 (mkAt rows k (i + 1)) = bkRs 1 (mkAt rows k i) := by rw [mkAt_bkn 1 hx, mkAt_bk 1 hx]; rfl
      simp (maxSteps := 8000000) (implicitDefEqProofs := false) (disch := omega) only [↓reduceIte, go_sem, if_pos, if_neg, hl1, hg, List.getElem?_set_self, List.set_set]
      refine loopKT_next (i + 1) (by omega) (by omega) ?_
      have hs2 : k + (wtRs (rows.take (i + 1)) : Int) = m + 1 + 1 + 1 + 1 + 1 + 1 + 1 + 1 + 1 + 1 + 1 := by rw [hsn]; omega
      rw [hs2, ← hs, hb2]
      exact le_keep (by have := hnb2 i; rw [List.length_cons]; omega) (by simp (maxSteps := 8000000) (implicitDefEqProofs := false) (disch := omega) only [↓reduceIte, go_sem, if_pos, if_neg, slotsIn])
    · have hb : rows.take i = rows := List.take_of_length_le (by omega)
      have hmf := mkAt_full (k := k) (show rows.length ≤ i by omega)
      have hnb3 := hnb2 i; rw [hmf] at hnb3
      simp (maxSteps := 8000000) (implicitDefEqProofs := false) (disch := omega) only [↓reduceIte, go_sem, if_pos, if_neg, eq_false hge, hb, hmf]
      refine joinK_at _ (le_same _ _ (by show nb ≤ List.length (_ :: _); rw [List.length_cons]; omega)) ?_
      simp (maxSteps := 8000000) (implicitDefEqProofs := false) (disch := omega) only [↓reduceIte, go_sem, if_pos, if_neg]
      exact endK_same (.inr rfl) (by rw [List.length_cons]; omega) (by simp (maxSteps := 8000000) (implicitDefEqProofs := false) (disch := omega) only [↓reduceIte, go_sem, if_pos, if_neg]) rfl
-- laws.heldPeerS
def c210 : AF := ⟨31,
  (.seq (.reg [⟨(some 4), none, .mv (.v (.int .i64 0))⟩])
  (.seq (.seq (.reg [⟨(some 5), none, .mv (.v (.int .i64 0))⟩])
  (.block 0 (.loop (.seq (.seq (.reg [⟨(some 6), none, .mv (.t 5)⟩,
   ⟨(some 7), none, .mv (.t 0)⟩,
   ⟨(some 8), none, .len (.t 7)⟩,
   ⟨(some 9), none, .bin .lss (.t 6) (.t 8)⟩])
  (.cond (.t 9) .skip
  (.exit 0)))
  (.seq (.block 1 (.seq (.seq (.reg [⟨(some 12), none, .mv (.t 0)⟩,
   ⟨(some 13), none, .mv (.t 5)⟩,
   ⟨(some 14), none, .ia 2 (.t 12) (.t 13)⟩,
   ⟨(some 15), none, .fa (.t 14) 0⟩,
   ⟨(some 16), none, .ld (.t 15)⟩,
   ⟨(some 17), none, .mv (.t 1)⟩,
   ⟨(some 18), none, .bin .neq (.t 16) (.t 17)⟩])
  (.cond (.t 18) (.seq (.reg [⟨(some 4), none, .mv (.v (.int .i64 (-1)))⟩])
  .ret)
  .skip))
  (.seq (.reg [⟨(some 19), none, .mv (.t 1)⟩,
   ⟨(some 20), none, .bin .add (.t 19) (.v (.int .i64 1))⟩,
   ⟨(some 1), none, .mv (.t 20)⟩])
  (.seq (.seq (.reg [⟨(some 21), none, .mv (.t 0)⟩,
   ⟨(some 22), none, .mv (.t 5)⟩,
   ⟨(some 23), none, .ia 2 (.t 21) (.t 22)⟩,
   ⟨(some 24), none, .fa (.t 23) 1⟩,
   ⟨(some 25), none, .ld (.t 24)⟩,
   ⟨(some 26), none, .mv (.t 1)⟩,
   ⟨(some 27), none, .bin .neq (.t 25) (.t 26)⟩])
  (.cond (.t 27) (.seq (.reg [⟨(some 4), none, .mv (.v (.int .i64 (-1)))⟩])
  .ret)
  .skip))
  (.reg [⟨(some 28), none, .mv (.t 1)⟩,
   ⟨(some 29), none, .bin .add (.t 28) (.v (.int .i64 1))⟩,
   ⟨(some 1), none, .mv (.t 29)⟩])))))
  (.reg [⟨(some 10), none, .mv (.t 5)⟩,
   ⟨(some 11), none, .bin .add (.t 10) (.v (.int .i64 1))⟩,
   ⟨(some 5), none, .mv (.t 11)⟩]))))))
  (.seq (.reg [⟨(some 30), none, .mv (.t 1)⟩,
   ⟨(some 4), none, .mv (.t 30)⟩])
  .ret))),
  [.t 4]⟩
theorem k210 : cFn Try.prog Try.f210 = some c210 := by kernel_rfl
theorem heldPeerS_ok : OkT Try.prog 210 (pureSp (hdC_S sh_PeerS)) := by
  refine okT_hdC (OkΓT.nil _) Try.func210 (by kernel_rfl) k210 ?_
  intro c k hc h1 hz
  obtain ⟨rows, _, hr, _, hwt, hf⟩ := FitC.rows hc
  rw [hwt] at hz ⊢; rw [hf]
  have hlw : rows.length ≤ wtRs rows := wtRs_rows fun r hx => by
    have hrr := hr r hx
    obtain ⟨a0, a1, rfl⟩ := sh_Peer_Fit hrr
    simp only [wtIs, wtI]; omega
  (dsimp only [c210]; simp (maxSteps := 8000000) (implicitDefEqProofs := false) (disch := omega) only [↓reduceIte, go_sem, if_pos, if_neg])
  refine awpT_loop (α := Nat) (fun i => ⟨slots [(0, .s (fzRs (mkRs rows k))), (1, .p (.int .i64 (k + (wtRs (rows.take i) : Int)))), (5, .p (.int .i64 i))], []⟩) (fun i => i ≤ rows.length) (fun i => rows.length - i) 0 (Nat.zero_le _) (by simp only [List.take_zero, wtRs, nat0T, Int.add_zero]; exact (le_of [] (by simp (maxSteps := 8000000) (implicitDefEqProofs := false) (disch := omega) only [↓reduceIte, go_sem, if_pos, if_neg]) (by simp (maxSteps := 8000000) (implicitDefEqProofs := false) (disch := omega) only [↓reduceIte, go_sem, if_pos, if_neg]) (by decide) (by simp))) ?_
  intro i hi
  simp (maxSteps := 8000000) (implicitDefEqProofs := false) (disch := omega) only [↓reduceIte, go_sem, if_pos, if_neg]
  refine condKT_dec (fun hlt => ?_) (fun hge => ?_)
  · obtain ⟨r, hx⟩ := get_ex (l := rows) (i := i) (by omega)
    have hrr := hr r (List.mem_of_getElem? hx)
    have hwr := wtRs_mem hx; have hsn := wtRs_snoc hx
    have hg := fzRs_get (mkRs_get (k := k) hx)
    generalize hm : k + (wtRs (rows.take i) : Int) = m at *
    obtain ⟨a0, a1, rfl⟩ := sh_Peer_Fit hrr
    simp only [wtIs, wtI, Nat.add_zero] at hwr hsn
    simp only [mkIs, mkI, mkV, wtI, nat1T, fzCs, fzC, el_one, el_two] at hg
    simp (maxSteps := 8000000) (implicitDefEqProofs := false) (disch := omega) only [↓reduceIte, go_sem, if_pos, if_neg, eq_true hlt, hg, dec_self, Bool.not_true, not_true, decide_false]
    refine loopKT_next (i + 1) (by omega) (by omega) ?_
    have hs2 : k + (wtRs (rows.take (i + 1)) : Int) = m + 1 + 1 := by rw [hsn]; omega
    exact (le_of [] (by simp (maxSteps := 8000000) (implicitDefEqProofs := false) (disch := omega) only [↓reduceIte, go_sem, if_pos, if_neg, hs2]) (by simp (maxSteps := 8000000) (implicitDefEqProofs := false) (disch := omega) only [↓reduceIte, go_sem, if_pos, if_neg, hs2]) (by decide) (by simp))
  · have hb : rows.take i = rows := List.take_of_length_le (by omega)
    simp (maxSteps := 8000000) (implicitDefEqProofs := false) (disch := omega) only [↓reduceIte, go_sem, if_pos, if_neg, eq_false hge, hb]
    refine joinK_here ?_
    simp (maxSteps := 8000000) (implicitDefEqProofs := false) (disch := omega) only [↓reduceIte, go_sem, if_pos, if_neg]
    repeat' first
      | (refine gdKT_dec (fun hg => ?_) (fun hg => ?_) <;> (try (first | simp (maxSteps := 8000000) (implicitDefEqProofs := false) (disch := omega) only [↓reduceIte, go_sem, if_pos, if_neg, eq_false hg] | simp (maxSteps := 8000000) (implicitDefEqProofs := false) (disch := omega) only [↓reduceIte, go_sem, if_pos, if_neg, eq_true hg])))
      | (refine condKT_dec (fun hg => ?_) (fun hg => ?_) <;> (try (first | simp (maxSteps := 8000000) (implicitDefEqProofs := false) (disch := omega) only [↓reduceIte, go_sem, if_pos, if_neg, eq_false hg] | simp (maxSteps := 8000000) (implicitDefEqProofs := false) (disch := omega) only [↓reduceIte, go_sem, if_pos, if_neg, eq_true hg])))
      | (refine gdKT_split (fun hg => ?_) (fun hg => ?_) <;> (try simp (maxSteps := 8000000) (implicitDefEqProofs := false) (disch := omega) only [↓reduceIte, go_sem, if_pos, if_neg, hg]))
      | (refine condKT_split (fun hg => ?_) (fun hg => ?_) <;> (try simp (maxSteps := 8000000) (implicitDefEqProofs := false) (disch := omega) only [↓reduceIte, go_sem, if_pos, if_neg, hg]))
      | (refine endT_p (.inr rfl) (by simp (maxSteps := 8000000) (implicitDefEqProofs := false) (disch := omega) only [↓reduceIte, go_sem, if_pos, if_neg]; rfl) ?_; (first | exact vb_true (by omega) | exact vb_false (by omega) | exact vb_dec (by omega) | exact vi_eq (by omega) | rfl | (refine vi_eq ?_; simp_all; done) | (refine vi_eq ?_; simp_all; omega) | (refine vi_eq ?_; simp_all; intros; omega)))
      | exact endT_v (.inr rfl) (by simp (maxSteps := 8000000) (implicitDefEqProofs := false) (disch := omega) only [↓reduceIte, go_sem, if_pos, if_neg]; try rfl) (fun _ => rfl)
-- laws.markPeerS
def c69 : AF := ⟨27,
  (.seq (.reg [⟨(some 4), none, .mv (.v (.int .i64 0))⟩])
  (.seq (.seq (.reg [⟨(some 5), none, .mv (.v (.int .i64 0))⟩])
  (.block 0 (.loop (.seq (.seq (.reg [⟨(some 6), none, .mv (.t 5)⟩,
   ⟨(some 7), none, .mv (.t 0)⟩,
   ⟨(some 8), none, .len (.t 7)⟩,
   ⟨(some 9), none, .bin .lss (.t 6) (.t 8)⟩])
  (.cond (.t 9) .skip
  (.exit 0)))
  (.seq (.block 1 (.seq (.reg [⟨(some 12), none, .mv (.t 0)⟩,
   ⟨(some 13), none, .mv (.t 5)⟩,
   ⟨(some 14), none, .mv (.t 1)⟩,
   ⟨(some 15), none, .ia 2 (.t 12) (.t 13)⟩,
   ⟨(some 16), none, .fa (.t 15) 0⟩,
   ⟨none, none, .st 1 (.t 16) (.t 14)⟩])
  (.seq (.reg [⟨(some 17), none, .mv (.t 1)⟩,
   ⟨(some 18), none, .bin .add (.t 17) (.v (.int .i64 1))⟩,
   ⟨(some 1), none, .mv (.t 18)⟩])
  (.seq (.reg [⟨(some 19), none, .mv (.t 0)⟩,
   ⟨(some 20), none, .mv (.t 5)⟩,
   ⟨(some 21), none, .mv (.t 1)⟩,
   ⟨(some 22), none, .ia 2 (.t 19) (.t 20)⟩,
   ⟨(some 23), none, .fa (.t 22) 1⟩,
   ⟨none, none, .st 1 (.t 23) (.t 21)⟩])
  (.reg [⟨(some 24), none, .mv (.t 1)⟩,
   ⟨(some 25), none, .bin .add (.t 24) (.v (.int .i64 1))⟩,
   ⟨(some 1), none, .mv (.t 25)⟩])))))
  (.reg [⟨(some 10), none, .mv (.t 5)⟩,
   ⟨(some 11), none, .bin .add (.t 10) (.v (.int .i64 1))⟩,
   ⟨(some 5), none, .mv (.t 11)⟩]))))))
  (.seq (.reg [⟨(some 26), none, .mv (.t 1)⟩,
   ⟨(some 4), none, .mv (.t 26)⟩])
  .ret))),
  [.t 4]⟩
theorem k69 : cFn Try.prog Try.f69 = some c69 := by kernel_rfl
theorem markPeerS_ok : OkT Try.prog 69 (mkC_Sp sh_PeerS) := by
  refine okT_mkC (OkΓT.nil _) Try.func69 (by kernel_rfl) k69 ?_
  intro c k hc h1 hz
  simp only [sh_PeerS, FitC] at hc
  rcases hc with rfl | ⟨z, rows, rfl, hz0, hr⟩
  · simp only [wtC, mkC, nbC, tvC_v, tvC_nl, tvC_sl, bkC, nat0T, Int.add_zero] at *
    (dsimp only [c69]; simp (maxSteps := 8000000) (implicitDefEqProofs := false) (disch := omega) only [↓reduceIte, go_sem, if_pos, if_neg])
    refine awpT_loop (α := Unit) (fun _ => ⟨slots [(0, .nl), (1, .p (.int .i64 k)), (5, .p (.int .i64 0))], []⟩) (fun _ => True) (fun _ => 0) () trivial (le_keep (Nat.zero_le _) (by simp (maxSteps := 8000000) (implicitDefEqProofs := false) (disch := omega) only [↓reduceIte, go_sem, if_pos, if_neg, slotsIn])) ?_
    intro _ _
    simp (maxSteps := 8000000) (implicitDefEqProofs := false) (disch := omega) only [↓reduceIte, go_sem, if_pos, if_neg]
    refine joinK_at _ (le_same _ _ (Nat.zero_le _)) ?_
    simp (maxSteps := 8000000) (implicitDefEqProofs := false) (disch := omega) only [↓reduceIte, go_sem, if_pos, if_neg]
    exact endK_same (.inr rfl) (Nat.zero_le _) (by simp (maxSteps := 8000000) (implicitDefEqProofs := false) (disch := omega) only [↓reduceIte, go_sem, if_pos, if_neg]) rfl
  · simp only [wtC] at hz ⊢
    have hlw : rows.length ≤ wtRs rows := wtRs_rows fun r hx => by
      have hrr := hr r hx
      obtain ⟨a0, a1, rfl⟩ := sh_Peer_Fit hrr
      simp only [wtIs, wtI]; omega
    simp only [tvC_v, tvC_nl, tvC_sl, bkC, mkC, Nat.zero_add]
    generalize hnb : nbC _ = nb
    simp only [nbC] at hnb
    have hnb2 : ∀ i, nb = (bkRs 1 (mkAt rows k i)).length + 1 := fun i => by
      have := mkRs_nb (rows.take i) k; have h2 := nbRs_app (rows.take i) (rows.drop i)
      rw [List.take_append_drop] at h2; rw [bkRs_len, mkAt, nbRs_app]; omega
    (dsimp only [c69]; simp (maxSteps := 8000000) (implicitDefEqProofs := false) (disch := omega) only [↓reduceIte, go_sem, if_pos, if_neg])
    refine awpT_loop (α := Nat) (fun i => ⟨slots [(0, .os 0 0 rows.length), (1, .p (.int .i64 (k + (wtRs (rows.take i) : Int)))), (5, .p (.int .i64 i))], .cells 194 z (tvRs 1 (mkAt rows k i)) :: bkRs 1 (mkAt rows k i)⟩)
      (fun i => i ≤ rows.length) (fun i => rows.length - i) 0 (Nat.zero_le _) (by simp only [mkAt_zero, List.take_zero, wtRs, nat0T, Int.add_zero]; exact le_keep (by have := hnb2 0; rw [mkAt_zero] at this; rw [List.length_cons]; omega) (by simp (maxSteps := 8000000) (implicitDefEqProofs := false) (disch := omega) only [↓reduceIte, go_sem, if_pos, if_neg, slotsIn])) ?_
    intro i hi
    have hl1 : (tvRs 1 (mkAt rows k i)).length = rows.length := by rw [tvRs_len, mkAt_len]
    simp (maxSteps := 8000000) (implicitDefEqProofs := false) (disch := omega) only [↓reduceIte, go_sem, if_pos, if_neg, hl1]
    refine condKT_dec (fun hlt => ?_) (fun hge => ?_)
    · obtain ⟨r, hx⟩ := get_ex (l := rows) (i := i) (by omega)
      obtain rfl : z = 2 := by rcases hz0 with h | h; (rw [h] at hx; simp at hx); exact h
      have hrr := hr r (List.mem_of_getElem? hx)
      have hwr := wtRs_mem hx; have hsn := wtRs_snoc hx
      have hg := mkAt_get 1 (k := k) hx; have hs := mkAt_set 1 (k := k) hx
      generalize hm : k + (wtRs (rows.take i) : Int) = m at *
      obtain ⟨a0, a1, rfl⟩ := sh_Peer_Fit hrr
      simp only [wtIs, wtI, Nat.add_zero] at hwr hsn
      simp only [mkIs, mkI, mkV, wtI, nat1T, tvCs, tvC_v, tvC_nl, tvC_sl, nbC, Nat.add_zero, mkC_tv, el_one, el_two] at hg hs
      have hb2 : bkRs 1 (mkAt rows k (i + 1)) = bkRs 1 (mkAt rows k i) := by rw [mkAt_bkn 1 hx, mkAt_bk 1 hx]; rfl
      simp (maxSteps := 8000000) (implicitDefEqProofs := false) (disch := omega) only [↓reduceIte, go_sem, if_pos, if_neg, hl1, hg, List.getElem?_set_self, List.set_set]
      refine loopKT_next (i + 1) (by omega) (by omega) ?_
      have hs2 : k + (wtRs (rows.take (i + 1)) : Int) = m + 1 + 1 := by rw [hsn]; omega
      rw [hs2, ← hs, hb2]
      exact le_keep (by have := hnb2 i; rw [List.length_cons]; omega) (by simp (maxSteps := 8000000) (implicitDefEqProofs := false) (disch := omega) only [↓reduceIte, go_sem, if_pos, if_neg, slotsIn])
    · have hb : rows.take i = rows := List.take_of_length_le (by omega)
      have hmf := mkAt_full (k := k) (show rows.length ≤ i by omega)
      have hnb3 := hnb2 i; rw [hmf] at hnb3
      simp (maxSteps := 8000000) (implicitDefEqProofs := false) (disch := omega) only [↓reduceIte, go_sem, if_pos, if_neg, eq_false hge, hb, hmf]
      refine joinK_at _ (le_same _ _ (by show nb ≤ List.length (_ :: _); rw [List.length_cons]; omega)) ?_
      simp (maxSteps := 8000000) (implicitDefEqProofs := false) (disch := omega) only [↓reduceIte, go_sem, if_pos, if_neg]
      exact endK_same (.inr rfl) (by rw [List.length_cons]; omega) (by simp (maxSteps := 8000000) (implicitDefEqProofs := false) (disch := omega) only [↓reduceIte, go_sem, if_pos, if_neg]) rfl
-- laws.heldSelS
def c220 : AF := ⟨102,
  (.seq (.reg [⟨(some 4), none, .mv (.v (.int .i64 0))⟩])
  (.seq (.seq (.reg [⟨(some 5), none, .mv (.v (.int .i64 0))⟩])
  (.block 0 (.loop (.seq (.seq (.reg [⟨(some 6), none, .mv (.t 5)⟩,
   ⟨(some 7), none, .mv (.t 0)⟩,
   ⟨(some 8), none, .len (.t 7)⟩,
   ⟨(some 9), none, .bin .lss (.t 6) (.t 8)⟩])
  (.cond (.t 9) .skip
  (.exit 0)))
  (.seq (.block 1 (.seq (.seq (.reg [⟨(some 12), none, .mv (.t 0)⟩,
   ⟨(some 13), none, .mv (.t 5)⟩,
   ⟨(some 14), none, .ia 9 (.t 12) (.t 13)⟩,
   ⟨(some 15), none, .fa (.t 14) 0⟩,
   ⟨(some 16), none, .fa (.t 15) 0⟩,
   ⟨(some 17), none, .ld (.t 16)⟩,
   ⟨(some 18), none, .mv (.t 1)⟩,
   ⟨(some 19), none, .bin .neq (.t 17) (.t 18)⟩])
  (.cond (.t 19) (.seq (.reg [⟨(some 4), none, .mv (.v (.int .i64 (-1)))⟩])
  .ret)
  .skip))
  (.seq (.reg [⟨(some 20), none, .mv (.t 1)⟩,
   ⟨(some 21), none, .bin .add (.t 20) (.v (.int .i64 1))⟩,
   ⟨(some 1), none, .mv (.t 21)⟩])
  (.seq (.seq (.reg [⟨(some 22), none, .mv (.t 0)⟩,
   ⟨(some 23), none, .mv (.t 5)⟩,
   ⟨(some 24), none, .ia 9 (.t 22) (.t 23)⟩,
   ⟨(some 25), none, .fa (.t 24) 0⟩,
   ⟨(some 26), none, .fa (.t 25) 1⟩,
   ⟨(some 27), none, .ld (.t 26)⟩,
   ⟨(some 28), none, .mv (.t 1)⟩,
   ⟨(some 29), none, .bin .neq (.t 27) (.t 28)⟩])
  (.cond (.t 29) (.seq (.reg [⟨(some 4), none, .mv (.v (.int .i64 (-1)))⟩])
  .ret)
  .skip))
  (.seq (.reg [⟨(some 30), none, .mv (.t 1)⟩,
   ⟨(some 31), none, .bin .add (.t 30) (.v (.int .i64 1))⟩,
   ⟨(some 1), none, .mv (.t 31)⟩])
  (.seq (.seq (.reg [⟨(some 32), none, .mv (.t 0)⟩,
   ⟨(some 33), none, .mv (.t 5)⟩,
   ⟨(some 34), none, .ia 9 (.t 32) (.t 33)⟩,
   ⟨(some 35), none, .fa (.t 34) 2⟩,
   ⟨(some 36), none, .fa (.t 35) 0⟩,
   ⟨(some 37), none, .ld (.t 36)⟩,
   ⟨(some 38), none, .mv (.t 1)⟩,
   ⟨(some 39), none, .bin .neq (.t 37) (.t 38)⟩])
  (.cond (.t 39) (.seq (.reg [⟨(some 4), none, .mv (.v (.int .i64 (-1)))⟩])
  .ret)
  .skip))
  (.seq (.reg [⟨(some 40), none, .mv (.t 1)⟩,
   ⟨(some 41), none, .bin .add (.t 40) (.v (.int .i64 1))⟩,
   ⟨(some 1), none, .mv (.t 41)⟩])
  (.seq (.seq (.reg [⟨(some 42), none, .mv (.t 0)⟩,
   ⟨(some 43), none, .mv (.t 5)⟩,
   ⟨(some 44), none, .ia 9 (.t 42) (.t 43)⟩,
   ⟨(some 45), none, .fa (.t 44) 2⟩,
   ⟨(some 46), none, .fa (.t 45) 1⟩,
   ⟨(some 47), none, .ld (.t 46)⟩,
   ⟨(some 48), none, .mv (.t 1)⟩,
   ⟨(some 49), none, .bin .neq (.t 47) (.t 48)⟩])
  (.cond (.t 49) (.seq (.reg [⟨(some 4), none, .mv (.v (.int .i64 (-1)))⟩])
  .ret)
  .skip))
  (.seq (.reg [⟨(some 50), none, .mv (.t 1)⟩,
   ⟨(some 51), none, .bin .add (.t 50) (.v (.int .i64 1))⟩,
   ⟨(some 1), none, .mv (.t 51)⟩])
  (.seq (.seq (.reg [⟨(some 52), none, .mv (.t 0)⟩,
   ⟨(some 53), none, .mv (.t 5)⟩,
   ⟨(some 54), none, .ia 9 (.t 52) (.t 53)⟩,
   ⟨(some 55), none, .fa (.t 54) 4⟩,
   ⟨(some 56), none, .fa (.t 55) 0⟩,
   ⟨(some 57), none, .ld (.t 56)⟩,
   ⟨(some 58), none, .mv (.t 1)⟩,
   ⟨(some 59), none, .bin .neq (.t 57) (.t 58)⟩])
  (.cond (.t 59) (.seq (.reg [⟨(some 4), none, .mv (.v (.int .i64 (-1)))⟩])
  .ret)
  .skip))
  (.seq (.reg [⟨(some 60), none, .mv (.t 1)⟩,
   ⟨(some 61), none, .bin .add (.t 60) (.v (.int .i64 1))⟩,
   ⟨(some 1), none, .mv (.t 61)⟩])
  (.seq (.seq (.reg [⟨(some 62), none, .mv (.t 0)⟩,
   ⟨(some 63), none, .mv (.t 5)⟩,
   ⟨(some 64), none, .ia 9 (.t 62) (.t 63)⟩,
   ⟨(some 65), none, .fa (.t 64) 4⟩,
   ⟨(some 66), none, .fa (.t 65) 1⟩,
   ⟨(some 67), none, .ld (.t 66)⟩,
   ⟨(some 68), none, .mv (.t 1)⟩,
   ⟨(some 69), none, .bin .neq (.t 67) (.t 68)⟩])
  (.cond (.t 69) (.seq (.reg [⟨(some 4), none, .mv (.v (.int .i64 (-1)))⟩])
  .ret)
  .skip))
  (.seq (.reg [⟨(some 70), none, .mv (.t 1)⟩,
   ⟨(some 71), none, .bin .add (.t 70) (.v (.int .i64 1))⟩,
   ⟨(some 1), none, .mv (.t 71)⟩])
  (.seq (.seq (.reg [⟨(some 72), none, .mv (.t 0)⟩,
   ⟨(some 73), none, .mv (.t 5)⟩,
   ⟨(some 74), none, .ia 9 (.t 72) (.t 73)⟩,
   ⟨(some 75), none, .fa (.t 74) 6⟩,
   ⟨(some 76), none, .fa (.t 75) 0⟩,
   ⟨(some 77), none, .ld (.t 76)⟩,
   ⟨(some 78), none, .mv (.t 1)⟩,
   ⟨(some 79), none, .bin .neq (.t 77) (.t 78)⟩])
  (.cond (.t 79) (.seq (.reg [⟨(some 4), none, .mv (.v (.int .i64 (-1)))⟩])
  .ret)
  .skip))
  (.seq (.reg [⟨(some 80), none, .mv (.t 1)⟩,
   ⟨(some 81), none, .bin .add (.t 80) (.v (.int .i64 1))⟩,
   ⟨(some 1), none, .mv (.t 81)⟩])
  (.seq (.seq (.reg [⟨(some 82), none, .mv (.t 0)⟩,
   ⟨(some 83), none, .mv (.t 5)⟩,
   ⟨(some 84), none, .ia 9 (.t 82) (.t 83)⟩,
   ⟨(some 85), none, .fa (.t 84) 6⟩,
   ⟨(some 86), none, .fa (.t 85) 1⟩,
   ⟨(some 87), none, .ld (.t 86)⟩,
   ⟨(some 88), none, .mv (.t 1)⟩,
   ⟨(some 89), none, .bin .neq (.t 87) (.t 88)⟩])
  (.cond (.t 89) (.seq (.reg [⟨(some 4), none, .mv (.v (.int .i64 (-1)))⟩])
  .ret)
  .skip))
  (.seq (.reg [⟨(some 90), none, .mv (.t 1)⟩,
   ⟨(some 91), none, .bin .add (.t 90) (.v (.int .i64 1))⟩,
   ⟨(some 1), none, .mv (.t 91)⟩])
  (.seq (.seq (.reg [⟨(some 92), none, .mv (.t 0)⟩,
   ⟨(some 93), none, .mv (.t 5)⟩,
   ⟨(some 94), none, .ia 9 (.t 92) (.t 93)⟩,
   ⟨(some 95), none, .fa (.t 94) 8⟩,
   ⟨(some 96), none, .ld (.t 95)⟩,
   ⟨(some 97), none, .mv (.t 1)⟩,
   ⟨(some 98), none, .bin .neq (.t 96) (.t 97)⟩])
  (.cond (.t 98) (.seq (.reg [⟨(some 4), none, .mv (.v (.int .i64 (-1)))⟩])
  .ret)
  .skip))
  (.reg [⟨(some 99), none, .mv (.t 1)⟩,
   ⟨(some 100), none, .bin .add (.t 99) (.v (.int .i64 1))⟩,
   ⟨(some 1), none, .mv (.t 100)⟩])))))))))))))))))))
  (.reg [⟨(some 10), none, .mv (.t 5)⟩,
   ⟨(some 11), none, .bin .add (.t 10) (.v (.int .i64 1))⟩,
   ⟨(some 5), none, .mv (.t 11)⟩]))))))
  (.seq (.reg [⟨(some 101), none, .mv (.t 1)⟩,
   ⟨(some 4), none, .mv (.t 101)⟩])
  .ret))),
  [.t 4]⟩
theorem k220 : cFn Try.prog Try.f220 = some c220 := by kernel_rfl
theorem heldSelS_ok : OkT Try.prog 220 (pureSp (hdC_S sh_SelS)) := by
  refine okT_hdC (OkΓT.nil _) Try.func220 (by kernel_rfl) k220 ?_
  intro c k hc h1 hz
  obtain ⟨rows, _, hr, _, hwt, hf⟩ := FitC.rows hc
  rw [hwt] at hz ⊢; rw [hf]
  have hlw : rows.length ≤ wtRs rows := wtRs_rows fun r hx => by
    have hrr := hr r hx
    obtain ⟨a0, a1, a2, a3, a4, a5, a6, a7, a8, rfl⟩ := sh_Sel_Fit hrr
    simp only [wtIs, wtI]; omega
  (dsimp only [c220]; simp (maxSteps := 8000000) (implicitDefEqProofs := false) (disch := omega) only [↓reduceIte, go_sem, if_pos, if_neg])
  refine awpT_loop (α := Nat) (fun i => ⟨slots [(0, .s (fzRs (mkRs rows k))), (1, .p (.int .i64 (k + (wtRs (rows.take i) : Int)))), (5, .p (.int .i64 i))], []⟩) (fun i => i ≤ rows.length) (fun i => rows.length - i) 0 (Nat.zero_le _) (by simp only [List.take_zero, wtRs, nat0T, Int.add_zero]; exact (le_of [] (by simp (maxSteps := 8000000) (implicitDefEqProofs := false) (disch := omega) only [↓reduceIte, go_sem, if_pos, if_neg]) (by simp (maxSteps := 8000000) (implicitDefEqProofs := false) (disch := omega) only [↓reduceIte, go_sem, if_pos, if_neg]) (by decide) (by simp))) ?_
  intro i hi
  simp (maxSteps := 8000000) (implicitDefEqProofs := false) (disch := omega) only [↓reduceIte, go_sem, if_pos, if_neg]
  refine condKT_dec (fun hlt => ?_) (fun hge => ?_)
  · obtain ⟨r, hx⟩ := get_ex (l := rows) (i := i) (by omega)
    have hrr := hr r (List.mem_of_getElem? hx)
    have hwr := wtRs_mem hx; have hsn := wtRs_snoc hx
    have hg := fzRs_get (mkRs_get (k := k) hx)
    generalize hm : k + (wtRs (rows.take i) : Int) = m at *
    obtain ⟨a0, a1, a2, a3, a4, a5, a6, a7, a8, rfl⟩ := sh_Sel_Fit hrr
    simp only [wtIs, wtI, Nat.add_zero] at hwr hsn
    simp only [mkIs, mkI, mkV, wtI, nat1T, fzCs, fzC, el_one, el_two] at hg
    simp (maxSteps := 8000000) (implicitDefEqProofs := false) (disch := omega) only [↓reduceIte, go_sem, if_pos, if_neg, eq_true hlt, hg, dec_self, Bool.not_true, not_true, decide_false]
    refine loopKT_next (i + 1) (by omega) (by omega) ?_
    have hs2 : k + (wtRs (rows.take (i + 1)) : Int) = m + 1 + 1 + 1 + 1 + 1 + 1 + 1 + 1 + 1 := by rw [hsn]; omega
    exact (le_of [] (by simp (maxSteps := 8000000) (implicitDefEqProofs := false) (disch := omega) only [↓reduceIte, go_sem, if_pos, if_neg, hs2]) (by simp (maxSteps := 8000000) (implicitDefEqProofs := false) (disch := omega) only [↓reduceIte, go_sem, if_pos, if_neg, hs2]) (by decide) (by simp))
  · have hb : rows.take i = rows := List.take_of_length_le (by omega)
    simp (maxSteps := 8000000) (implicitDefEqProofs := false) (disch := omega) only [↓reduceIte, go_sem, if_pos, if_neg, eq_false hge, hb]
    refine joinK_here ?_
    simp (maxSteps := 8000000) (implicitDefEqProofs := false) (disch := omega) only [↓reduceIte, go_sem, if_pos, if_neg]
    repeat' first
      | (refine gdKT_dec (fun hg => ?_) (fun hg => ?_) <;> (try (first | simp (maxSteps := 8000000) (implicitDefEqProofs := false) (disch := omega) only [↓reduceIte, go_sem, if_pos, if_neg, eq_false hg] | simp (maxSteps := 8000000) (implicitDefEqProofs := false) (disch := omega) only [↓reduceIte, go_sem, if_pos, if_neg, eq_true hg])))
      | (refine condKT_dec (fun hg => ?_) (fun hg => ?_) <;> (try (first | simp (maxSteps := 8000000) (implicitDefEqProofs := false) (disch := omega) only [↓reduceIte, go_sem, if_pos, if_neg, eq_false hg] | simp (maxSteps := 8000000) (implicitDefEqProofs := false) (disch := omega) only [↓reduceIte, go_sem, if_pos, if_neg, eq_true hg])))
      | (refine gdKT_split (fun hg => ?_) (fun hg => ?_) <;> (try simp (maxSteps := 8000000) (implicitDefEqProofs := false) (disch := omega) only [↓reduceIte, go_sem, if_pos, if_neg, hg]))
      | (refine condKT_split (fun hg => ?_) (fun hg => ?_) <;> (try simp (maxSteps := 8000000) (implicitDefEqProofs := false) (disch := omega) only [↓reduceIte, go_sem, if_pos, if_neg, hg]))
      | (refine endT_p (.inr rfl) (by simp (maxSteps := 8000000) (implicitDefEqProofs := false) (disch := omega) only [↓reduceIte, go_sem, if_pos, if_neg]; rfl) ?_; (first | exact vb_true (by omega) | exact vb_false (by omega) | exact vb_dec (by omega) | exact vi_eq (by omega) | rfl | (refine vi_eq ?_; simp_all; done) | (refine vi_eq ?_; simp_all; omega) | (refine vi_eq ?_; simp_all; intros; omega)))
      | exact endT_v (.inr rfl) (by simp (maxSteps := 8000000) (implicitDefEqProofs := false) (disch := omega) only [↓reduceIte, go_sem, if_pos, if_neg]; try rfl) (fun _ => rfl)
-- laws.markSelS
def c184 : AF := ⟨84,
  (.seq (.reg [⟨(some 4), none, .mv (.v (.int .i64 0))⟩])
  (.seq (.seq (.reg [⟨(some 5), none, .mv (.v (.int .i64 0))⟩])
  (.block 0 (.loop (.seq (.seq (.reg [⟨(some 6), none, .mv (.t 5)⟩,
   ⟨(some 7), none, .mv (.t 0)⟩,
   ⟨(some 8), none, .len (.t 7)⟩,
   ⟨(some 9), none, .bin .lss (.t 6) (.t 8)⟩])
  (.cond (.t 9) .skip
  (.exit 0)))
  (.seq (.block 1 (.seq (.reg [⟨(some 12), none, .mv (.t 0)⟩,
   ⟨(some 13), none, .mv (.t 5)⟩,
   ⟨(some 14), none, .mv (.t 1)⟩,
   ⟨(some 15), none, .ia 9 (.t 12) (.t 13)⟩,
   ⟨(some 16), none, .fa (.t 15) 0⟩,
   ⟨(some 17), none, .fa (.t 16) 0⟩,
   ⟨none, none, .st 1 (.t 17) (.t 14)⟩])
  (.seq (.reg [⟨(some 18), none, .mv (.t 1)⟩,
   ⟨(some 19), none, .bin .add (.t 18) (.v (.int .i64 1))⟩,
   ⟨(some 1), none, .mv (.t 19)⟩])
  (.seq (.reg [⟨(some 20), none, .mv (.t 0)⟩,
   ⟨(some 21), none, .mv (.t 5)⟩,
   ⟨(some 22), none, .mv (.t 1)⟩,
   ⟨(some 23), none, .ia 9 (.t 20) (.t 21)⟩,
   ⟨(some 24), none, .fa (.t 23) 0⟩,
   ⟨(some 25), none, .fa (.t 24) 1⟩,
   ⟨none, none, .st 1 (.t 25) (.t 22)⟩])
  (.seq (.reg [⟨(some 26), none, .mv (.t 1)⟩,
   ⟨(some 27), none, .bin .add (.t 26) (.v (.int .i64 1))⟩,
   ⟨(some 1), none, .mv (.t 27)⟩])
  (.seq (.reg [⟨(some 28), none, .mv (.t 0)⟩,
   ⟨(some 29), none, .mv (.t 5)⟩,
   ⟨(some 30), none, .mv (.t 1)⟩,
   ⟨(some 31), none, .ia 9 (.t 28) (.t 29)⟩,
   ⟨(some 32), none, .fa (.t 31) 2⟩,
   ⟨(some 33), none, .fa (.t 32) 0⟩,
   ⟨none, none, .st 1 (.t 33) (.t 30)⟩])
  (.seq (.reg [⟨(some 34), none, .mv (.t 1)⟩,
   ⟨(some 35), none, .bin .add (.t 34) (.v (.int .i64 1))⟩,
   ⟨(some 1), none, .mv (.t 35)⟩])
  (.seq (.reg [⟨(some 36), none, .mv (.t 0)⟩,
   ⟨(some 37), none, .mv (.t 5)⟩,
   ⟨(some 38), none, .mv (.t 1)⟩,
   ⟨(some 39), none, .ia 9 (.t 36) (.t 37)⟩,
   ⟨(some 40), none, .fa (.t 39) 2⟩,
   ⟨(some 41), none, .fa (.t 40) 1⟩,
   ⟨none, none, .st 1 (.t 41) (.t 38)⟩])
  (.seq (.reg [⟨(some 42), none, .mv (.t 1)⟩,
   ⟨(some 43), none, .bin .add (.t 42) (.v (.int .i64 1))⟩,
   ⟨(some 1), none, .mv (.t 43)⟩])
  (.seq (.reg [⟨(some 44), none, .mv (.t 0)⟩,
   ⟨(some 45), none, .mv (.t 5)⟩,
   ⟨(some 46), none, .mv (.t 1)⟩,
   ⟨(some 47), none, .ia 9 (.t 44) (.t 45)⟩,
   ⟨(some 48), none, .fa (.t 47) 4⟩,
   ⟨(some 49), none, .fa (.t 48) 0⟩,
   ⟨none, none, .st 1 (.t 49) (.t 46)⟩])
  (.seq (.reg [⟨(some 50), none, .mv (.t 1)⟩,
   ⟨(some 51), none, .bin .add (.t 50) (.v (.int .i64 1))⟩,
   ⟨(some 1), none, .mv (.t 51)⟩])
  (.seq (.reg [⟨(some 52), none, .mv (.t 0)⟩,
   ⟨(some 53), none, .mv (.t 5)⟩,
   ⟨(some 54), none, .mv (.t 1)⟩,
   ⟨(some 55), none, .ia 9 (.t 52) (.t 53)⟩,
   ⟨(some 56), none, .fa (.t 55) 4⟩,
   ⟨(some 57), none, .fa (.t 56) 1⟩,
   ⟨none, none, .st 1 (.t 57) (.t 54)⟩])
  (.seq (.reg [⟨(some 58), none, .mv (.t 1)⟩,
   ⟨(some 59), none, .bin .add (.t 58) (.v (.int .i64 1))⟩,
   ⟨(some 1), none, .mv (.t 59)⟩])
  (.seq (.reg [⟨(some 60), none, .mv (.t 0)⟩,
   ⟨(some 61), none, .mv (.t 5)⟩,
   ⟨(some 62), none, .mv (.t 1)⟩,
   ⟨(some 63), none, .ia 9 (.t 60) (.t 61)⟩,
   ⟨(some 64), none, .fa (.t 63) 6⟩,
   ⟨(some 65), none, .fa (.t 64) 0⟩,
   ⟨none, none, .st 1 (.t 65) (.t 62)⟩])
  (.seq (.reg [⟨(some 66), none, .mv (.t 1)⟩,
   ⟨(some 67), none, .bin .add (.t 66) (.v (.int .i64 1))⟩,
   ⟨(some 1), none, .mv (.t 67)⟩])
  (.seq (.reg [⟨(some 68), none, .mv (.t 0)⟩,
   ⟨(some 69), none, .mv (.t 5)⟩,
   ⟨(some 70), none, .mv (.t 1)⟩,
   ⟨(some 71), none, .ia 9 (.t 68) (.t 69)⟩,
   ⟨(some 72), none, .fa (.t 71) 6⟩,
   ⟨(some 73), none, .fa (.t 72) 1⟩,
   ⟨none, none, .st 1 (.t 73) (.t 70)⟩])
  (.seq (.reg [⟨(some 74), none, .mv (.t 1)⟩,
   ⟨(some 75), none, .bin .add (.t 74) (.v (.int .i64 1))⟩,
   ⟨(some 1), none, .mv (.t 75)⟩])
  (.seq (.reg [⟨(some 76), none, .mv (.t 0)⟩,
   ⟨(some 77), none, .mv (.t 5)⟩,
   ⟨(some 78), none, .mv (.t 1)⟩,
   ⟨(some 79), none, .ia 9 (.t 76) (.t 77)⟩,
   ⟨(some 80), none, .fa (.t 79) 8⟩,
   ⟨none, none, .st 1 (.t 80) (.t 78)⟩])
  (.reg [⟨(some 81), none, .mv (.t 1)⟩,
   ⟨(some 82), none, .bin .add (.t 81) (.v (.int .i64 1))⟩,
   ⟨(some 1), none, .mv (.t 82)⟩])))))))))))))))))))
  (.reg [⟨(some 10), none, .mv (.t 5)⟩,
   ⟨(some 11), none, .bin .add (.t 10) (.v (.int .i64 1))⟩,
   ⟨(some 5), none, .mv (.t 11)⟩]))))))
  (.seq (.reg [⟨(some 83), none, .mv (.t 1)⟩,
   ⟨(some 4), none, .mv (.t 83)⟩])
  .ret))),
  [.t 4]⟩
theorem k184 : cFn Try.prog Try.f184 = some c184 := by kernel_rfl
theorem markSelS_ok : OkT Try.prog 184 (mkC_Sp sh_SelS) := by
  refine okT_mkC (OkΓT.nil _) Try.func184 (by kernel_rfl) k184 ?_
  intro c k hc h1 hz
  simp only [sh_SelS, FitC] at hc
  rcases hc with rfl | ⟨z, rows, rfl, hz0, hr⟩
  · simp only [wtC, mkC, nbC, tvC_v, tvC_nl, tvC_sl, bkC, nat0T, Int.add_zero] at *
    (dsimp only [c184]; simp (maxSteps := 8000000) (implicitDefEqProofs := false) (disch := omega) only [↓reduceIte, go_sem, if_pos, if_neg])
    refine awpT_loop (α := Unit) (fun _ => ⟨slots [(0, .nl), (1, .p (.int .i64 k)), (5, .p (.int .i64 0))], []⟩) (fun _ => True) (fun _ => 0) () trivial (le_keep (Nat.zero_le _) (by simp (maxSteps := 8000000) (implicitDefEqProofs := false) (disch := omega) only [↓reduceIte, go_sem, if_pos, if_neg, slotsIn])) ?_
    intro _ _
    simp (maxSteps := 8000000) (implicitDefEqProofs := false) (disch := omega) only [↓reduceIte, go_sem, if_pos, if_neg]
    refine joinK_at _ (le_same _ _ (Nat.zero_le _)) ?_
    simp (maxSteps := 8000000) (implicitDefEqProofs := false) (disch := omega) only [↓reduceIte, go_sem, if_pos, if_neg]
    exact endK_same (.inr rfl) (Nat.zero_le _) (by simp (maxSteps := 8000000) (implicitDefEqProofs := false) (disch := omega) only [↓reduceIte, go_sem, if_pos, if_neg]) rfl
  · simp only [wtC] at hz ⊢
    have hlw : rows.length ≤ wtRs rows := wtRs_rows fun r hx => by
      have hrr := hr r hx
      obtain ⟨a0, a1, a2, a3, a4, a5, a6, a7, a8, rfl⟩ := sh_Sel_Fit hrr
      simp only [wtIs, wtI]; omega
    simp only [tvC_v, tvC_nl, tvC_sl, bkC, mkC, Nat.zero_add]
    generalize hnb : nbC _ = nb
    simp only [nbC] at hnb
    have hnb2 : ∀ i, nb = (bkRs 1 (mkAt rows k i)).length + 1 := fun i => by
      have := mkRs_nb (rows.take i) k; have h2 := nbRs_app (rows.take i) (rows.drop i)
      rw [List.take_append_drop] at h2; rw [bkRs_len, mkAt, nbRs_app]; omega
    (dsimp only [c184]; simp (maxSteps := 8000000) (implicitDefEqProofs := false) (disch := omega) only [↓reduceIte, go_sem, if_pos, if_neg])
    refine awpT_loop (α := Nat) (fun i => ⟨slots [(0, .os 0 0 rows.length), (1, .p (.int .i64 (k + (wtRs (rows.take i) : Int)))), (5, .p (.int .i64 i))], .cells 184 z (tvRs 1 (mkAt rows k i)) :: bkRs 1 (mkAt rows k i)⟩)
      (fun i => i ≤ rows.length) (fun i => rows.length - i) 0 (Nat.zero_le _) (by simp only [mkAt_zero, List.take_zero, wtRs, nat0T, Int.add_zero]; exact le_keep (by have := hnb2 0; rw [mkAt_zero] at this; rw [List.length_cons]; omega) (by simp (maxSteps := 8000000) (implicitDefEqProofs := false) (disch := omega) only [↓reduceIte, go_sem, if_pos, if_neg, slotsIn])) ?_
    intro i hi
    have hl1 : (tvRs 1 (mkAt rows k i)).length = rows.length := by rw [tvRs_len, mkAt_len]
    simp (maxSteps := 8000000) (implicitDefEqProofs := false) (disch := omega) only [↓reduceIte, go_sem, if_pos, if_neg, hl1]
    refine condKT_dec (fun hlt => ?_) (fun hge => ?_)
    · obtain ⟨r, hx⟩ := get_ex (l := rows) (i := i) (by omega)
      obtain rfl : z = 9 := by rcases hz0 with h | h; (rw [h] at hx; simp at hx); exact h
      have hrr := hr r (List.mem_of_getElem? hx)
      have hwr := wtRs_mem hx; have hsn := wtRs_snoc hx
      have hg := mkAt_get 1 (k := k) hx; have hs := mkAt_set 1 (k := k) hx
      generalize hm : k + (wtRs (rows.take i) : Int) = m at *
      obtain ⟨a0, a1, a2, a3, a4, a5, a6, a7, a8, rfl⟩ := sh_Sel_Fit hrr
      simp only [wtIs, wtI, Nat.add_zero] at hwr hsn
      simp only [mkIs, mkI, mkV, wtI, nat1T, tvCs, tvC_v, tvC_nl, tvC_sl, nbC, Nat.add_zero, mkC_tv, el_one, el_two] at hg hs
      have hb2 : bkRs 1 (mkAt rows k (i + 1)) = bkRs 1 (mkAt rows k i) := by rw [mkAt_bkn 1 hx, mkAt_bk 1 hx]; rfl
      simp (maxSteps := 8000000) (implicitDefEqProofs := false) (disch := omega) only [↓reduceIte, go_sem, if_pos, if_neg, hl1, hg, List.getElem?_set_self, List.set_set]
      refine loopKT_next (i + 1) (by omega) (by omega) ?_
      have hs2 : k + (wtRs (rows.take (i + 1)) : Int) = m + 1 + 1 + 1 + 1 + 1 + 1 + 1 + 1 + 1 := by rw [hsn]; omega
      rw [hs2, ← hs, hb2]
      exact le_keep (by have := hnb2 i; rw [List.length_cons]; omega) (by simp (maxSteps := 8000000) (implicitDefEqProofs := false) (disch := omega) only [↓reduceIte, go_sem, if_pos, if_neg, slotsIn])
    · have hb : rows.take i = rows := List.take_of_length_le (by omega)
      have hmf := mkAt_full (k := k) (show rows.length ≤ i by omega)
      have hnb3 := hnb2 i; rw [hmf] at hnb3
      simp (maxSteps := 8000000) (implicitDefEqProofs := false) (disch := omega) only [↓reduceIte, go_sem, if_pos, if_neg, eq_false hge, hb, hmf]
      refine joinK_at _ (le_same _ _ (by show nb ≤ List.length (_ :: _); rw [List.length_cons]; omega)) ?_
      simp (maxSteps := 8000000) (implicitDefEqProofs := false) (disch := omega) only [↓reduceIte, go_sem, if_pos, if_neg]
      exact endK_same (.inr rfl) (by rw [List.length_cons]; omega) (by simp (maxSteps := 8000000) (implicitDefEqProofs := false) (disch := omega) only [↓reduceIte, go_sem, if_pos, if_neg]) rfl
-- laws.heldSaS
def c185 : AF := ⟨116,
  (.seq (.reg [⟨(some 4), none, .mv (.v (.int .i64 0))⟩])
  (.seq (.seq (.reg [⟨(some 5), none, .mv (.v (.int .i64 0))⟩])
  (.block 0 (.loop (.seq (.seq (.reg [⟨(some 6), none, .mv (.t 5)⟩,
   ⟨(some 7), none, .mv (.t 0)⟩,
   ⟨(some 8), none, .len (.t 7)⟩,
   ⟨(some 9), none, .bin .lss (.t 6) (.t 8)⟩])
  (.cond (.t 9) .skip
  (.exit 0)))
  (.seq (.block 1 (.seq (.seq (.reg [⟨(some 12), none, .mv (.t 0)⟩,
   ⟨(some 13), none, .mv (.t 5)⟩,
   ⟨(some 14), none, .ia 11 (.t 12) (.t 13)⟩,
   ⟨(some 15), none, .fa (.t 14) 0⟩,
   ⟨(some 16), none, .ld (.t 15)⟩,
   ⟨(some 17), none, .mv (.t 1)⟩,
   ⟨(some 18), none, .bin .neq (.t 16) (.t 17)⟩])
  (.cond (.t 18) (.seq (.reg [⟨(some 4), none, .mv (.v (.int .i64 (-1)))⟩])
  .ret)
  .skip))
  (.seq (.reg [⟨(some 19), none, .mv (.t 1)⟩,
   ⟨(some 20), none, .bin .add (.t 19) (.v (.int .i64 1))⟩,
   ⟨(some 1), none, .mv (.t 20)⟩])
  (.seq (.seq (.reg [⟨(some 21), none, .mv (.t 0)⟩,
   ⟨(some 22), none, .mv (.t 5)⟩,
   ⟨(some 23), none, .ia 11 (.t 21) (.t 22)⟩,
   ⟨(some 24), none, .fa (.t 23) 1⟩,
   ⟨(some 25), none, .ld (.t 24)⟩,
   ⟨(some 26), none, .mv (.t 1)⟩,
   ⟨(some 27), none, .bin .neq (.t 25) (.t 26)⟩])
  (.cond (.t 27) (.seq (.reg [⟨(some 4), none, .mv (.v (.int .i64 (-1)))⟩])
  .ret)
  .skip))
  (.seq (.reg [⟨(some 28), none, .mv (.t 1)⟩,
   ⟨(some 29), none, .bin .add (.t 28) (.v (.int .i64 1))⟩,
   ⟨(some 1), none, .mv (.t 29)⟩])
  (.seq (.seq (.reg [⟨(some 30), none, .mv (.t 0)⟩,
   ⟨(some 31), none, .mv (.t 5)⟩,
   ⟨(some 32), none, .ia 11 (.t 30) (.t 31)⟩,
   ⟨(some 33), none, .fa (.t 32) 2⟩,
   ⟨(some 34), none, .ld (.t 33)⟩,
   ⟨(some 35), none, .mv (.t 1)⟩,
   ⟨(some 36), none, .bin .neq (.t 34) (.t 35)⟩])
  (.cond (.t 36) (.seq (.reg [⟨(some 4), none, .mv (.v (.int .i64 (-1)))⟩])
  .ret)
  .skip))
  (.seq (.reg [⟨(some 37), none, .mv (.t 1)⟩,
   ⟨(some 38), none, .bin .add (.t 37) (.v (.int .i64 1))⟩,
   ⟨(some 1), none, .mv (.t 38)⟩])
  (.seq (.seq (.reg [⟨(some 39), none, .mv (.t 0)⟩,
   ⟨(some 40), none, .mv (.t 5)⟩,
   ⟨(some 41), none, .ia 11 (.t 39) (.t 40)⟩,
   ⟨(some 42), none, .fa (.t 41) 3⟩,
   ⟨(some 43), none, .ld (.t 42)⟩,
   ⟨(some 44), none, .mv (.t 1)⟩,
   ⟨(some 45), none, .bin .rem (.t 44) (.v (.int .i64 3))⟩,
   ⟨(some 46), none, .bin .eql (.t 45) (.v (.int .i64 0))⟩,
   ⟨(some 47), none, .eqB true (.t 43) (.t 46)⟩])
  (.cond (.t 47) (.seq (.reg [⟨(some 4), none, .mv (.v (.int .i64 (-1)))⟩])
  .ret)
  .skip))
  (.seq (.reg [⟨(some 48), none, .mv (.t 1)⟩,
   ⟨(some 49), none, .bin .add (.t 48) (.v (.int .i64 1))⟩,
   ⟨(some 1), none, .mv (.t 49)⟩])
  (.seq (.seq (.reg [⟨(some 50), none, .mv (.t 0)⟩,
   ⟨(some 51), none, .mv (.t 5)⟩,
   ⟨(some 52), none, .ia 11 (.t 50) (.t 51)⟩,
   ⟨(some 53), none, .fa (.t 52) 4⟩,
   ⟨(some 54), none, .ld (.t 53)⟩,
   ⟨(some 55), none, .mv (.t 1)⟩,
   ⟨(some 56), none, .bin .neq (.t 54) (.t 55)⟩])
  (.cond (.t 56) (.seq (.reg [⟨(some 4), none, .mv (.v (.int .i64 (-1)))⟩])
  .ret)
  .skip))
  (.seq (.reg [⟨(some 57), none, .mv (.t 1)⟩,
   ⟨(some 58), none, .bin .add (.t 57) (.v (.int .i64 1))⟩,
   ⟨(some 1), none, .mv (.t 58)⟩])
  (.seq (.seq (.reg [⟨(some 59), none, .mv (.t 0)⟩,
   ⟨(some 60), none, .mv (.t 5)⟩,
   ⟨(some 61), none, .ia 11 (.t 59) (.t 60)⟩,
   ⟨(some 62), none, .fa (.t 61) 5⟩,
   ⟨(some 63), none, .fa (.t 62) 0⟩,
   ⟨(some 64), none, .ld (.t 63)⟩,
   ⟨(some 65), none, .mv (.t 1)⟩,
   ⟨(some 66), none, .bin .neq (.t 64) (.t 65)⟩])
  (.cond (.t 66) (.seq (.reg [⟨(some 4), none, .mv (.v (.int .i64 (-1)))⟩])
  .ret)
  .skip))
  (.seq (.reg [⟨(some 67), none, .mv (.t 1)⟩,
   ⟨(some 68), none, .bin .add (.t 67) (.v (.int .i64 1))⟩,
   ⟨(some 1), none, .mv (.t 68)⟩])
  (.seq (.seq (.reg [⟨(some 69), none, .mv (.t 0)⟩,
   ⟨(some 70), none, .mv (.t 5)⟩,
   ⟨(some 71), none, .ia 11 (.t 69) (.t 70)⟩,
   ⟨(some 72), none, .fa (.t 71) 5⟩,
   ⟨(some 73), none, .fa (.t 72) 1⟩,
   ⟨(some 74), none, .ld (.t 73)⟩,
   ⟨(some 75), none, .mv (.t 1)⟩,
   ⟨(some 76), none, .bin .neq (.t 74) (.t 75)⟩])
  (.cond (.t 76) (.seq (.reg [⟨(some 4), none, .mv (.v (.int .i64 (-1)))⟩])
  .ret)
  .skip))
  (.seq (.reg [⟨(some 77), none, .mv (.t 1)⟩,
   ⟨(some 78), none, .bin .add (.t 77) (.v (.int .i64 1))⟩,
   ⟨(some 1), none, .mv (.t 78)⟩])
  (.seq (.seq (.reg [⟨(some 79), none, .mv (.t 0)⟩,
   ⟨(some 80), none, .mv (.t 5)⟩,
   ⟨(some 81), none, .ia 11 (.t 79) (.t 80)⟩,
   ⟨(some 82), none, .fa (.t 81) 7⟩,
   ⟨(some 83), none, .ld (.t 82)⟩,
   ⟨(some 84), none, .mv (.t 1)⟩,
   ⟨(some 85), none, .bin .neq (.t 83) (.t 84)⟩])
  (.cond (.t 85) (.seq (.reg [⟨(some 4), none, .mv (.v (.int .i64 (-1)))⟩])
  .ret)
  .skip))
  (.seq (.reg [⟨(some 86), none, .mv (.t 1)⟩,
   ⟨(some 87), none, .bin .add (.t 86) (.v (.int .i64 1))⟩,
   ⟨(some 1), none, .mv (.t 87)⟩])
  (.seq (.seq (.reg [⟨(some 88), none, .mv (.t 0)⟩,
   ⟨(some 89), none, .mv (.t 5)⟩,
   ⟨(some 90), none, .ia 11 (.t 88) (.t 89)⟩,
   ⟨(some 91), none, .fa (.t 90) 8⟩,
   ⟨(some 92), none, .ld (.t 91)⟩,
   ⟨(some 93), none, .mv (.t 1)⟩,
   ⟨(some 94), none, .bin .neq (.t 92) (.t 93)⟩])
  (.cond (.t 94) (.seq (.reg [⟨(some 4), none, .mv (.v (.int .i64 (-1)))⟩])
  .ret)
  .skip))
  (.seq (.reg [⟨(some 95), none, .mv (.t 1)⟩,
   ⟨(some 96), none, .bin .add (.t 95) (.v (.int .i64 1))⟩,
   ⟨(some 1), none, .mv (.t 96)⟩])
  (.seq (.seq (.reg [⟨(some 97), none, .mv (.t 0)⟩,
   ⟨(some 98), none, .mv (.t 5)⟩,
   ⟨(some 99), none, .ia 11 (.t 97) (.t 98)⟩,
   ⟨(some 100), none, .fa (.t 99) 9⟩,
   ⟨(some 101), none, .ld (.t 100)⟩,
   ⟨(some 102), none, .mv (.t 1)⟩,
   ⟨(some 103), none, .bin .neq (.t 101) (.t 102)⟩])
  (.cond (.t 103) (.seq (.reg [⟨(some 4), none, .mv (.v (.int .i64 (-1)))⟩])
  .ret)
  .skip))
  (.seq (.reg [⟨(some 104), none, .mv (.t 1)⟩,
   ⟨(some 105), none, .bin .add (.t 104) (.v (.int .i64 1))⟩,
   ⟨(some 1), none, .mv (.t 105)⟩])
  (.seq (.reg [⟨(some 106), none, .mv (.t 0)⟩,
   ⟨(some 107), none, .mv (.t 5)⟩,
   ⟨(some 108), none, .ia 11 (.t 106) (.t 107)⟩,
   ⟨(some 109), none, .fa (.t 108) 10⟩,
   ⟨(some 110), none, .ld (.t 109)⟩,
   ⟨(some 111), none, .mv (.t 1)⟩,
   ⟨(some 112), none, .call 220 [(.t 110), (.t 111)]⟩,
   ⟨(some 1), none, .mv (.t 112)⟩])
  (.seq (.reg [⟨(some 113), none, .mv (.t 1)⟩,
   ⟨(some 114), none, .bin .lss (.t 113) (.v (.int .i64 0))⟩])
  (.cond (.t 114) (.seq (.reg [⟨(some 4), none, .mv (.v (.int .i64 (-1)))⟩])
  .ret)
  .skip))))))))))))))))))))))))
  (.reg [⟨(some 10), none, .mv (.t 5)⟩,
   ⟨(some 11), none, .bin .add (.t 10) (.v (.int .i64 1))⟩,
   ⟨(some 5), none, .mv (.t 11)⟩]))))))
  (.seq (.reg [⟨(some 115), none, .mv (.t 1)⟩,
   ⟨(some 4), none, .mv (.t 115)⟩])
  .ret))),
  [.t 4]⟩
theorem k185 : cFn Try.prog Try.f185 = some c185 := by kernel_rfl
theorem heldSaS_ok : OkT Try.prog 185 (pureSp (hdC_S sh_SaS)) := by
  refine okT_hdC (OkΓT.cons heldSelS_ok (OkΓT.nil _)) Try.func185 (by kernel_rfl) k185 ?_
  intro c k hc h1 hz
  obtain ⟨rows, _, hr, _, hwt, hf⟩ := FitC.rows hc
  rw [hwt] at hz ⊢; rw [hf]
  have hlw : rows.length ≤ wtRs rows := wtRs_rows fun r hx => by
    have hrr := hr r hx
    obtain ⟨a0, a1, a2, a3, a4, a5, a6, a7, a8, a9, c10, rfl, hc10⟩ := sh_Sa_Fit hrr
    simp only [wtIs, wtI]; omega
  (dsimp only [c185]; simp (maxSteps := 8000000) (implicitDefEqProofs := false) (disch := omega) only [↓reduceIte, go_sem, if_pos, if_neg])
  refine awpT_loop (α := Nat) (fun i => ⟨slots [(0, .s (fzRs (mkRs rows k))), (1, .p (.int .i64 (k + (wtRs (rows.take i) : Int)))), (5, .p (.int .i64 i))], []⟩) (fun i => i ≤ rows.length) (fun i => rows.length - i) 0 (Nat.zero_le _) (by simp only [List.take_zero, wtRs, nat0T, Int.add_zero]; exact (le_of [] (by simp (maxSteps := 8000000) (implicitDefEqProofs := false) (disch := omega) only [↓reduceIte, go_sem, if_pos, if_neg]) (by simp (maxSteps := 8000000) (implicitDefEqProofs := false) (disch := omega) only [↓reduceIte, go_sem, if_pos, if_neg]) (by decide) (by simp))) ?_
  intro i hi
  simp (maxSteps := 8000000) (implicitDefEqProofs := false) (disch := omega) only [↓reduceIte, go_sem, if_pos, if_neg]
  refine condKT_dec (fun hlt => ?_) (fun hge => ?_)
  · obtain ⟨r, hx⟩ := get_ex (l := rows) (i := i) (by omega)
    have hrr := hr r (List.mem_of_getElem? hx)
    have hwr := wtRs_mem hx; have hsn := wtRs_snoc hx
    have hg := fzRs_get (mkRs_get (k := k) hx)
    generalize hm : k + (wtRs (rows.take i) : Int) = m at *
    obtain ⟨a0, a1, a2, a3, a4, a5, a6, a7, a8, a9, c10, rfl, hc10⟩ := sh_Sa_Fit hrr
    simp only [wtIs, wtI, Nat.add_zero] at hwr hsn
    have hmk_c10 := FitC.mk hc10
    simp only [hmk_c10.1] at hwr hsn
    simp only [mkIs, mkI, mkV, wtI, nat1T, fzCs, fzC, el_one, el_two, hmk_c10.1, hmk_c10.2] at hg
    simp only [isT3] at hg
    simp (maxSteps := 8000000) (implicitDefEqProofs := false) (disch := omega) only [↓reduceIte, go_sem, if_pos, if_neg, eq_true hlt, hg, dec_self, Bool.not_true, not_true, decide_false, hdC_at hc10 (show 0 ≤ m + 1 + 1 + 1 + 1 + 1 + 1 + 1 + 1 + 1 + 1 by omega) (by omega)]
    simp (maxSteps := 8000000) (implicitDefEqProofs := false) (disch := omega) only [↓reduceIte, go_sem, if_pos, if_neg, eq_false (show ¬ (m + 1 + 1 + 1 + 1 + 1 + 1 + 1 + 1 + 1 + 1 + (wtC c10 : Int) < 0) by omega)]
    refine loopKT_next (i + 1) (by omega) (by omega) ?_
    have hs2 : k + (wtRs (rows.take (i + 1)) : Int) = m + 1 + 1 + 1 + 1 + 1 + 1 + 1 + 1 + 1 + 1 + (wtC c10 : Int) := by rw [hsn]; omega
    exact (le_of [] (by simp (maxSteps := 8000000) (implicitDefEqProofs := false) (disch := omega) only [↓reduceIte, go_sem, if_pos, if_neg, hs2]) (by simp (maxSteps := 8000000) (implicitDefEqProofs := false) (disch := omega) only [↓reduceIte, go_sem, if_pos, if_neg, hs2]) (by decide) (by simp))
  · have hb : rows.take i = rows := List.take_of_length_le (by omega)
    simp (maxSteps := 8000000) (implicitDefEqProofs := false) (disch := omega) only [↓reduceIte, go_sem, if_pos, if_neg, eq_false hge, hb]
    refine joinK_here ?_
    simp (maxSteps := 8000000) (implicitDefEqProofs := false) (disch := omega) only [↓reduceIte, go_sem, if_pos, if_neg]
    repeat' first
      | (refine gdKT_dec (fun hg => ?_) (fun hg => ?_) <;> (try (first | simp (maxSteps := 8000000) (implicitDefEqProofs := false) (disch := omega) only [↓reduceIte, go_sem, if_pos, if_neg, eq_false hg] | simp (maxSteps := 8000000) (implicitDefEqProofs := false) (disch := omega) only [↓reduceIte, go_sem, if_pos, if_neg, eq_true hg])))
      | (refine condKT_dec (fun hg => ?_) (fun hg => ?_) <;> (try (first | simp (maxSteps := 8000000) (implicitDefEqProofs := false) (disch := omega) only [↓reduceIte, go_sem, if_pos, if_neg, eq_false hg] | simp (maxSteps := 8000000) (implicitDefEqProofs := false) (disch := omega) only [↓reduceIte, go_sem, if_pos, if_neg, eq_true hg])))
      | (refine gdKT_split (fun hg => ?_) (fun hg => ?_) <;> (try simp (maxSteps := 8000000) (implicitDefEqProofs := false) (disch := omega) only [↓reduceIte, go_sem, if_pos, if_neg, hg]))
      | (refine condKT_split (fun hg => ?_) (fun hg => ?_) <;> (try simp (maxSteps := 8000000) (implicitDefEqProofs := false) (disch := omega) only [↓reduceIte, go_sem, if_pos, if_neg, hg]))
      | (refine endT_p (.inr rfl) (by simp (maxSteps := 8000000) (implicitDefEqProofs := false) (disch := omega) only [↓reduceIte, go_sem, if_pos, if_neg]; rfl) ?_; (first | exact vb_true (by omega) | exact vb_false (by omega) | exact vb_dec (by omega) | exact vi_eq (by omega) | rfl | (refine vi_eq ?_; simp_all; done) | (refine vi_eq ?_; simp_all; omega) | (refine vi_eq ?_; simp_all; intros; omega)))
      | exact endT_v (.inr rfl) (by simp (maxSteps := 8000000) (implicitDefEqProofs := false) (disch := omega) only [↓reduceIte, go_sem, if_pos, if_neg]; try rfl) (fun _ => rfl)
-- laws.markSaS
def c88 : AF := ⟨94,
  (.seq (.reg [⟨(some 4), none, .mv (.v (.int .i64 0))⟩])
  (.seq (.seq (.reg [⟨(some 5), none, .mv (.v (.int .i64 0))⟩])
  (.block 0 (.loop (.seq (.seq (.reg [⟨(some 6), none, .mv (.t 5)⟩,
   ⟨(some 7), none, .mv (.t 0)⟩,
   ⟨(some 8), none, .len (.t 7)⟩,
   ⟨(some 9), none, .bin .lss (.t 6) (.t 8)⟩])
  (.cond (.t 9) .skip
  (.exit 0)))
  (.seq (.block 1 (.seq (.reg [⟨(some 12), none, .mv (.t 0)⟩,
   ⟨(some 13), none, .mv (.t 5)⟩,
   ⟨(some 14), none, .mv (.t 1)⟩,
   ⟨(some 15), none, .ia 11 (.t 12) (.t 13)⟩,
   ⟨(some 16), none, .fa (.t 15) 0⟩,
   ⟨none, none, .st 1 (.t 16) (.t 14)⟩])
  (.seq (.reg [⟨(some 17), none, .mv (.t 1)⟩,
   ⟨(some 18), none, .bin .add (.t 17) (.v (.int .i64 1))⟩,
   ⟨(some 1), none, .mv (.t 18)⟩])
  (.seq (.reg [⟨(some 19), none, .mv (.t 0)⟩,
   ⟨(some 20), none, .mv (.t 5)⟩,
   ⟨(some 21), none, .mv (.t 1)⟩,
   ⟨(some 22), none, .ia 11 (.t 19) (.t 20)⟩,
   ⟨(some 23), none, .fa (.t 22) 1⟩,
   ⟨none, none, .st 1 (.t 23) (.t 21)⟩])
  (.seq (.reg [⟨(some 24), none, .mv (.t 1)⟩,
   ⟨(some 25), none, .bin .add (.t 24) (.v (.int .i64 1))⟩,
   ⟨(some 1), none, .mv (.t 25)⟩])
  (.seq (.reg [⟨(some 26), none, .mv (.t 0)⟩,
   ⟨(some 27), none, .mv (.t 5)⟩,
   ⟨(some 28), none, .mv (.t 1)⟩,
   ⟨(some 29), none, .ia 11 (.t 26) (.t 27)⟩,
   ⟨(some 30), none, .fa (.t 29) 2⟩,
   ⟨none, none, .st 1 (.t 30) (.t 28)⟩])
  (.seq (.reg [⟨(some 31), none, .mv (.t 1)⟩,
   ⟨(some 32), none, .bin .add (.t 31) (.v (.int .i64 1))⟩,
   ⟨(some 1), none, .mv (.t 32)⟩])
  (.seq (.reg [⟨(some 33), none, .mv (.t 0)⟩,
   ⟨(some 34), none, .mv (.t 5)⟩,
   ⟨(some 35), none, .mv (.t 1)⟩,
   ⟨(some 36), none, .bin .rem (.t 35) (.v (.int .i64 3))⟩,
   ⟨(some 37), none, .bin .eql (.t 36) (.v (.int .i64 0))⟩,
   ⟨(some 38), none, .ia 11 (.t 33) (.t 34)⟩,
   ⟨(some 39), none, .fa (.t 38) 3⟩,
   ⟨none, none, .st 1 (.t 39) (.t 37)⟩])
  (.seq (.reg [⟨(some 40), none, .mv (.t 1)⟩,
   ⟨(some 41), none, .bin .add (.t 40) (.v (.int .i64 1))⟩,
   ⟨(some 1), none, .mv (.t 41)⟩])
  (.seq (.reg [⟨(some 42), none, .mv (.t 0)⟩,
   ⟨(some 43), none, .mv (.t 5)⟩,
   ⟨(some 44), none, .mv (.t 1)⟩,
   ⟨(some 45), none, .ia 11 (.t 42) (.t 43)⟩,
   ⟨(some 46), none, .fa (.t 45) 4⟩,
   ⟨none, none, .st 1 (.t 46) (.t 44)⟩])
  (.seq (.reg [⟨(some 47), none, .mv (.t 1)⟩,
   ⟨(some 48), none, .bin .add (.t 47) (.v (.int .i64 1))⟩,
   ⟨(some 1), none, .mv (.t 48)⟩])
  (.seq (.reg [⟨(some 49), none, .mv (.t 0)⟩,
   ⟨(some 50), none, .mv (.t 5)⟩,
   ⟨(some 51), none, .mv (.t 1)⟩,
   ⟨(some 52), none, .ia 11 (.t 49) (.t 50)⟩,
   ⟨(some 53), none, .fa (.t 52) 5⟩,
   ⟨(some 54), none, .fa (.t 53) 0⟩,
   ⟨none, none, .st 1 (.t 54) (.t 51)⟩])
  (.seq (.reg [⟨(some 55), none, .mv (.t 1)⟩,
   ⟨(some 56), none, .bin .add (.t 55) (.v (.int .i64 1))⟩,
   ⟨(some 1), none, .mv (.t 56)⟩])
  (.seq (.reg [⟨(some 57), none, .mv (.t 0)⟩,
   ⟨(some 58), none, .mv (.t 5)⟩,
   ⟨(some 59), none, .mv (.t 1)⟩,
   ⟨(some 60), none, .ia 11 (.t 57) (.t 58)⟩,
   ⟨(some 61), none, .fa (.t 60) 5⟩,
   ⟨(some 62), none, .fa (.t 61) 1⟩,
   ⟨none, none, .st 1 (.t 62) (.t 59)⟩])
  (.seq (.reg [⟨(some 63), none, .mv (.t 1)⟩,
   ⟨(some 64), none, .bin .add (.t 63) (.v (.int .i64 1))⟩,
   ⟨(some 1), none, .mv (.t 64)⟩])
  (.seq (.reg [⟨(some 65), none, .mv (.t 0)⟩,
   ⟨(some 66), none, .mv (.t 5)⟩,
   ⟨(some 67), none, .mv (.t 1)⟩,
   ⟨(some 68), none, .ia 11 (.t 65) (.t 66)⟩,
   ⟨(some 69), none, .fa (.t 68) 7⟩,
   ⟨none, none, .st 1 (.t 69) (.t 67)⟩])
  (.seq (.reg [⟨(some 70), none, .mv (.t 1)⟩,
   ⟨(some 71), none, .bin .add (.t 70) (.v (.int .i64 1))⟩,
   ⟨(some 1), none, .mv (.t 71)⟩])
  (.seq (.reg [⟨(some 72), none, .mv (.t 0)⟩,
   ⟨(some 73), none, .mv (.t 5)⟩,
   ⟨(some 74), none, .mv (.t 1)⟩,
   ⟨(some 75), none, .ia 11 (.t 72) (.t 73)⟩,
   ⟨(some 76), none, .fa (.t 75) 8⟩,
   ⟨none, none, .st 1 (.t 76) (.t 74)⟩])
  (.seq (.reg [⟨(some 77), none, .mv (.t 1)⟩,
   ⟨(some 78), none, .bin .add (.t 77) (.v (.int .i64 1))⟩,
   ⟨(some 1), none, .mv (.t 78)⟩])
  (.seq (.reg [⟨(some 79), none, .mv (.t 0)⟩,
   ⟨(some 80), none, .mv (.t 5)⟩,
   ⟨(some 81), none, .mv (.t 1)⟩,
   ⟨(some 82), none, .ia 11 (.t 79) (.t 80)⟩,
   ⟨(some 83), none, .fa (.t 82) 9⟩,
   ⟨none, none, .st 1 (.t 83) (.t 81)⟩])
  (.seq (.reg [⟨(some 84), none, .mv (.t 1)⟩,
   ⟨(some 85), none, .bin .add (.t 84) (.v (.int .i64 1))⟩,
   ⟨(some 1), none, .mv (.t 85)⟩])
  (.reg [⟨(some 86), none, .mv (.t 0)⟩,
   ⟨(some 87), none, .mv (.t 5)⟩,
   ⟨(some 88), none, .ia 11 (.t 86) (.t 87)⟩,
   ⟨(some 89), none, .fa (.t 88) 10⟩,
   ⟨(some 90), none, .ld (.t 89)⟩,
   ⟨(some 91), none, .mv (.t 1)⟩,
   ⟨(some 92), none, .call 184 [(.t 90), (.t 91)]⟩,
   ⟨(some 1), none, .mv (.t 92)⟩]))))))))))))))))))))))
  (.reg [⟨(some 10), none, .mv (.t 5)⟩,
   ⟨(some 11), none, .bin .add (.t 10) (.v (.int .i64 1))⟩,
   ⟨(some 5), none, .mv (.t 11)⟩]))))))
  (.seq (.reg [⟨(some 93), none, .mv (.t 1)⟩,
   ⟨(some 4), none, .mv (.t 93)⟩])
  .ret))),
  [.t 4]⟩
theorem k88 : cFn Try.prog Try.f88 = some c88 := by kernel_rfl
theorem markSaS_ok : OkT Try.prog 88 (mkC_Sp sh_SaS) := by
  refine okT_mkC (OkΓT.cons markSelS_ok (OkΓT.nil _)) Try.func88 (by kernel_rfl) k88 ?_
  intro c k hc h1 hz
  simp only [sh_SaS, FitC] at hc
  rcases hc with rfl | ⟨z, rows, rfl, hz0, hr⟩
  · simp only [wtC, mkC, nbC, tvC_v, tvC_nl, tvC_sl, bkC, nat0T, Int.add_zero] at *
    (dsimp only [c88]; simp (maxSteps := 8000000) (implicitDefEqProofs := false) (disch := omega) only [↓reduceIte, go_sem, if_pos, if_neg])
    refine awpT_loop (α := Unit) (fun _ => ⟨slots [(0, .nl), (1, .p (.int .i64 k)), (5, .p (.int .i64 0))], []⟩) (fun _ => True) (fun _ => 0) () trivial (le_keep (Nat.zero_le _) (by simp (maxSteps := 8000000) (implicitDefEqProofs := false) (disch := omega) only [↓reduceIte, go_sem, if_pos, if_neg, slotsIn])) ?_
    intro _ _
    simp (maxSteps := 8000000) (implicitDefEqProofs := false) (disch := omega) only [↓reduceIte, go_sem, if_pos, if_neg]
    refine joinK_at _ (le_same _ _ (Nat.zero_le _)) ?_
    simp (maxSteps := 8000000) (implicitDefEqProofs := false) (disch := omega) only [↓reduceIte, go_sem, if_pos, if_neg]
    exact endK_same (.inr rfl) (Nat.zero_le _) (by simp (maxSteps := 8000000) (implicitDefEqProofs := false) (disch := omega) only [↓reduceIte, go_sem, if_pos, if_neg]) rfl
  · simp only [wtC] at hz ⊢
    have hlw : rows.length ≤ wtRs rows := wtRs_rows fun r hx => by
      have hrr := hr r hx
      obtain ⟨a0, a1, a2, a3, a4, a5, a6, a7, a8, a9, c10, rfl, hc10⟩ := sh_Sa_Fit hrr
      simp only [wtIs, wtI]; omega
    simp only [tvC_v, tvC_nl, tvC_sl, bkC, mkC, Nat.zero_add]
    generalize hnb : nbC _ = nb
    simp only [nbC] at hnb
    have hnb2 : ∀ i, nb = (bkRs 1 (mkAt rows k i)).length + 1 := fun i => by
      have := mkRs_nb (rows.take i) k; have h2 := nbRs_app (rows.take i) (rows.drop i)
      rw [List.take_append_drop] at h2; rw [bkRs_len, mkAt, nbRs_app]; omega
    (dsimp only [c88]; simp (maxSteps := 8000000) (implicitDefEqProofs := false) (disch := omega) only [↓reduceIte, go_sem, if_pos, if_neg])
    refine awpT_loop (α := Nat) (fun i => ⟨slots [(0, .os 0 0 rows.length), (1, .p (.int .i64 (k + (wtRs (rows.take i) : Int)))), (5, .p (.int .i64 i))], .cells 63 z (tvRs 1 (mkAt rows k i)) :: bkRs 1 (mkAt rows k i)⟩)
      (fun i => i ≤ rows.length) (fun i => rows.length - i) 0 (Nat.zero_le _) (by simp only [mkAt_zero, List.take_zero, wtRs, nat0T, Int.add_zero]; exact le_keep (by have := hnb2 0; rw [mkAt_zero] at this; rw [List.length_cons]; omega) (by simp (maxSteps := 8000000) (implicitDefEqProofs := false) (disch := omega) only [↓reduceIte, go_sem, if_pos, if_neg, slotsIn])) ?_
    intro i hi
    have hl1 : (tvRs 1 (mkAt rows k i)).length = rows.length := by rw [tvRs_len, mkAt_len]
    simp (maxSteps := 8000000) (implicitDefEqProofs := false) (disch := omega) only [↓reduceIte, go_sem, if_pos, if_neg, hl1]
    refine condKT_dec (fun hlt => ?_) (fun hge => ?_)
    · obtain ⟨r, hx⟩ := get_ex (l := rows) (i := i) (by omega)
      obtain rfl : z = 11 := by rcases hz0 with h | h; (rw [h] at hx; simp at hx); exact h
      have hrr := hr r (List.mem_of_getElem? hx)
      have hwr := wtRs_mem hx; have hsn := wtRs_snoc hx
      have hg := mkAt_get 1 (k := k) hx; have hs := mkAt_set 1 (k := k) hx
      have hb1 := mkAt_bk 1 (k := k) hx; have hb2 := mkAt_bkn 1 (k := k) hx
      generalize hm : k + (wtRs (rows.take i) : Int) = m at *
      obtain ⟨a0, a1, a2, a3, a4, a5, a6, a7, a8, a9, c10, rfl, hc10⟩ := sh_Sa_Fit hrr
      simp only [wtIs, wtI, Nat.add_zero] at hwr hsn
      have hmk_c10 := FitC.mk hc10
      simp only [hmk_c10.1] at hwr hsn
      simp only [mkIs, mkI, mkV, wtI, nat1T, tvCs, tvC_v, tvC_nl, tvC_sl, nbC, Nat.add_zero, mkC_tv, el_one, el_two, hmk_c10.1, hmk_c10.2] at hg hs
      simp only [isT3] at hs
      simp only [mkIs, mkI, mkV, wtI, nat1T, bkCs, bkC, nbCs, nbC, Nat.add_zero, Nat.zero_add, List.nil_append, List.append_nil, hmk_c10.1, hmk_c10.2] at hb1 hb2
      simp (maxSteps := 8000000) (implicitDefEqProofs := false) (disch := omega) only [↓reduceIte, go_sem, if_pos, if_neg, hl1, hg, List.getElem?_set_self, List.set_set]
      have m1 := fun X => mkC_seg (A := X :: bkRs 1 (mkRs (rows.take i) k)) (B := bkRs (1 + nbRs (rows.take i) + nbC c10) (rows.drop (i + 1))) (n := 1 + nbRs (rows.take i)) (k := m + 1 + 1 + 1 + 1 + 1 + 1 + 1 + 1 + 1 + 1) (by rw [List.length_cons, bkRs_len, mkRs_nb]; omega) hc10 (by omega) (by omega)
      simp only [List.cons_append, ← hb1, ← hb2] at m1
      refine mutQ_call (by simp (maxSteps := 8000000) (implicitDefEqProofs := false) (disch := omega) only [↓reduceIte, go_sem, if_pos, if_neg]; rfl) (by simp (maxSteps := 8000000) (implicitDefEqProofs := false) (disch := omega) only [↓reduceIte, go_sem, if_pos, if_neg]) (m1 _) ?_
      simp (maxSteps := 8000000) (implicitDefEqProofs := false) (disch := omega) only [↓reduceIte, go_sem, if_pos, if_neg]
      refine loopKT_next (i + 1) (by omega) (by omega) ?_
      have hs2 : k + (wtRs (rows.take (i + 1)) : Int) = m + 1 + 1 + 1 + 1 + 1 + 1 + 1 + 1 + 1 + 1 + (wtC c10 : Int) := by rw [hsn]; omega
      rw [hs2, ← hs]
      exact le_keep (by have := hnb2 (i + 1); rw [List.length_cons]; omega) (by simp (maxSteps := 8000000) (implicitDefEqProofs := false) (disch := omega) only [↓reduceIte, go_sem, if_pos, if_neg, slotsIn])
    · have hb : rows.take i = rows := List.take_of_length_le (by omega)
      have hmf := mkAt_full (k := k) (show rows.length ≤ i by omega)
      have hnb3 := hnb2 i; rw [hmf] at hnb3
      simp (maxSteps := 8000000) (implicitDefEqProofs := false) (disch := omega) only [↓reduceIte, go_sem, if_pos, if_neg, eq_false hge, hb, hmf]
      refine joinK_at _ (le_same _ _ (by show nb ≤ List.length (_ :: _); rw [List.length_cons]; omega)) ?_
      simp (maxSteps := 8000000) (implicitDefEqProofs := false) (disch := omega) only [↓reduceIte, go_sem, if_pos, if_neg]
      exact endK_same (.inr rfl) (by rw [List.length_cons]; omega) (by simp (maxSteps := 8000000) (implicitDefEqProofs := false) (disch := omega) only [↓reduceIte, go_sem, if_pos, if_neg]) rfl
-- laws.heldInt64S
def c211 : AF := ⟨21,
  (.seq (.reg [⟨(some 4), none, .mv (.v (.int .i64 0))⟩])
  (.seq (.seq (.reg [⟨(some 5), none, .mv (.v (.int .i64 0))⟩])
  (.block 0 (.loop (.seq (.seq (.reg [⟨(some 6), none, .mv (.t 5)⟩,
   ⟨(some 7), none, .mv (.t 0)⟩,
   ⟨(some 8), none, .len (.t 7)⟩,
   ⟨(some 9), none, .bin .lss (.t 6) (.t 8)⟩])
  (.cond (.t 9) .skip
  (.exit 0)))
  (.seq (.block 1 (.seq (.seq (.reg [⟨(some 12), none, .mv (.t 0)⟩,
   ⟨(some 13), none, .mv (.t 5)⟩,
   ⟨(some 14), none, .ia 1 (.t 12) (.t 13)⟩,
   ⟨(some 15), none, .ld (.t 14)⟩,
   ⟨(some 16), none, .mv (.t 1)⟩,
   ⟨(some 17), none, .bin .neq (.t 15) (.t 16)⟩])
  (.cond (.t 17) (.seq (.reg [⟨(some 4), none, .mv (.v (.int .i64 (-1)))⟩])
  .ret)
  .skip))
  (.reg [⟨(some 18), none, .mv (.t 1)⟩,
   ⟨(some 19), none, .bin .add (.t 18) (.v (.int .i64 1))⟩,
   ⟨(some 1), none, .mv (.t 19)⟩])))
  (.reg [⟨(some 10), none, .mv (.t 5)⟩,
   ⟨(some 11), none, .bin .add (.t 10) (.v (.int .i64 1))⟩,
   ⟨(some 5), none, .mv (.t 11)⟩]))))))
  (.seq (.reg [⟨(some 20), none, .mv (.t 1)⟩,
   ⟨(some 4), none, .mv (.t 20)⟩])
  .ret))),
  [.t 4]⟩
theorem k211 : cFn Try.prog Try.f211 = some c211 := by kernel_rfl
theorem heldInt64S_ok : OkT Try.prog 211 (pureSp (hdC_S sh_Int64S)) := by
  refine okT_hdC (OkΓT.nil _) Try.func211 (by kernel_rfl) k211 ?_
  intro c k hc h1 hz
  obtain ⟨rows, _, hr, _, hwt, hf⟩ := FitC.rows hc
  rw [hwt] at hz ⊢; rw [hf]
  have hlw : rows.length ≤ wtRs rows := wtRs_rows fun r hx => by
    have hrr := hr r hx
    obtain ⟨_, _, rfl, ⟨a0, rfl⟩, hrr⟩ := hrr; simp only [FitR] at hrr; subst hrr
    simp only [wtIs, wtI]; omega
  (dsimp only [c211]; simp (maxSteps := 8000000) (implicitDefEqProofs := false) (disch := omega) only [↓reduceIte, go_sem, if_pos, if_neg])
  refine awpT_loop (α := Nat) (fun i => ⟨slots [(0, .s (fzRs (mkRs rows k))), (1, .p (.int .i64 (k + (wtRs (rows.take i) : Int)))), (5, .p (.int .i64 i))], []⟩) (fun i => i ≤ rows.length) (fun i => rows.length - i) 0 (Nat.zero_le _) (by simp only [List.take_zero, wtRs, nat0T, Int.add_zero]; exact (le_of [] (by simp (maxSteps := 8000000) (implicitDefEqProofs := false) (disch := omega) only [↓reduceIte, go_sem, if_pos, if_neg]) (by simp (maxSteps := 8000000) (implicitDefEqProofs := false) (disch := omega) only [↓reduceIte, go_sem, if_pos, if_neg]) (by decide) (by simp))) ?_
  intro i hi
  simp (maxSteps := 8000000) (implicitDefEqProofs := false) (disch := omega) only [↓reduceIte, go_sem, if_pos, if_neg]
  refine condKT_dec (fun hlt => ?_) (fun hge => ?_)
  · obtain ⟨r, hx⟩ := get_ex (l := rows) (i := i) (by omega)
    have hrr := hr r (List.mem_of_getElem? hx)
    have hwr := wtRs_mem hx; have hsn := wtRs_snoc hx
    have hg := fzRs_get (mkRs_get (k := k) hx)
    generalize hm : k + (wtRs (rows.take i) : Int) = m at *
    obtain ⟨_, _, rfl, ⟨a0, rfl⟩, hrr⟩ := hrr; simp only [FitR] at hrr; subst hrr
    simp only [wtIs, wtI, Nat.add_zero] at hwr hsn
    simp only [mkIs, mkI, mkV, wtI, nat1T, fzCs, fzC, el_one, el_two] at hg
    simp (maxSteps := 8000000) (implicitDefEqProofs := false) (disch := omega) only [↓reduceIte, go_sem, if_pos, if_neg, eq_true hlt, hg, dec_self, Bool.not_true, not_true, decide_false]
    refine loopKT_next (i + 1) (by omega) (by omega) ?_
    have hs2 : k + (wtRs (rows.take (i + 1)) : Int) = m + 1 := by rw [hsn]; omega
    exact (le_of [] (by simp (maxSteps := 8000000) (implicitDefEqProofs := false) (disch := omega) only [↓reduceIte, go_sem, if_pos, if_neg, hs2]) (by simp (maxSteps := 8000000) (implicitDefEqProofs := false) (disch := omega) only [↓reduceIte, go_sem, if_pos, if_neg, hs2]) (by decide) (by simp))
  · have hb : rows.take i = rows := List.take_of_length_le (by omega)
    simp (maxSteps := 8000000) (implicitDefEqProofs := false) (disch := omega) only [↓reduceIte, go_sem, if_pos, if_neg, eq_false hge, hb]
    refine joinK_here ?_
    simp (maxSteps := 8000000) (implicitDefEqProofs := false) (disch := omega) only [↓reduceIte, go_sem, if_pos, if_neg]
    repeat' first
      | (refine gdKT_dec (fun hg => ?_) (fun hg => ?_) <;> (try (first | simp (maxSteps := 8000000) (implicitDefEqProofs := false) (disch := omega) only [↓reduceIte, go_sem, if_pos, if_neg, eq_false hg] | simp (maxSteps := 8000000) (implicitDefEqProofs := false) (disch := omega) only [↓reduceIte, go_sem, if_pos, if_neg, eq_true hg])))
      | (refine condKT_dec (fun hg => ?_) (fun hg => ?_) <;> (try (first | simp (maxSteps := 8000000) (implicitDefEqProofs := false) (disch := omega) only [↓reduceIte, go_sem, if_pos, if_neg, eq_false hg] | simp (maxSteps := 8000000) (implicitDefEqProofs := false) (disch := omega) only [↓reduceIte, go_sem, if_pos, if_neg, eq_true hg])))
      | (refine gdKT_split (fun hg => ?_) (fun hg => ?_) <;> (try simp (maxSteps := 8000000) (implicitDefEqProofs := false) (disch := omega) only [↓reduceIte, go_sem, if_pos, if_neg, hg]))
      | (refine condKT_split (fun hg => ?_) (fun hg => ?_) <;> (try simp (maxSteps := 8000000) (implicitDefEqProofs := false) (disch := omega) only [↓reduceIte, go_sem, if_pos, if_neg, hg]))
      | (refine endT_p (.inr rfl) (by simp (maxSteps := 8000000) (implicitDefEqProofs := false) (disch := omega) only [↓reduceIte, go_sem, if_pos, if_neg]; rfl) ?_; (first | exact vb_true (by omega) | exact vb_false (by omega) | exact vb_dec (by omega) | exact vi_eq (by omega) | rfl | (refine vi_eq ?_; simp_all; done) | (refine vi_eq ?_; simp_all; omega) | (refine vi_eq ?_; simp_all; intros; omega)))
      | exact endT_v (.inr rfl) (by simp (maxSteps := 8000000) (implicitDefEqProofs := false) (disch := omega) only [↓reduceIte, go_sem, if_pos, if_neg]; try rfl) (fun _ => rfl)
-- laws.markInt64S
def c208 : AF := ⟨19,
  (.seq (.reg [⟨(some 4), none, .mv (.v (.int .i64 0))⟩])
  (.seq (.seq (.reg [⟨(some 5), none, .mv (.v (.int .i64 0))⟩])
  (.block 0 (.loop (.seq (.seq (.reg [⟨(some 6), none, .mv (.t 5)⟩,
   ⟨(some 7), none, .mv (.t 0)⟩,
   ⟨(some 8), none, .len (.t 7)⟩,
   ⟨(some 9), none, .bin .lss (.t 6) (.t 8)⟩])
  (.cond (.t 9) .skip
  (.exit 0)))
  (.seq (.block 1 (.seq (.reg [⟨(some 12), none, .mv (.t 0)⟩,
   ⟨(some 13), none, .mv (.t 5)⟩,
   ⟨(some 14), none, .mv (.t 1)⟩,
   ⟨(some 15), none, .ia 1 (.t 12) (.t 13)⟩,
   ⟨none, none, .st 1 (.t 15) (.t 14)⟩])
  (.reg [⟨(some 16), none, .mv (.t 1)⟩,
   ⟨(some 17), none, .bin .add (.t 16) (.v (.int .i64 1))⟩,
   ⟨(some 1), none, .mv (.t 17)⟩])))
  (.reg [⟨(some 10), none, .mv (.t 5)⟩,
   ⟨(some 11), none, .bin .add (.t 10) (.v (.int .i64 1))⟩,
   ⟨(some 5), none, .mv (.t 11)⟩]))))))
  (.seq (.reg [⟨(some 18), none, .mv (.t 1)⟩,
   ⟨(some 4), none, .mv (.t 18)⟩])
  .ret))),
  [.t 4]⟩
theorem k208 : cFn Try.prog Try.f208 = some c208 := by kernel_rfl
theorem markInt64S_ok : OkT Try.prog 208 (mkC_Sp sh_Int64S) := by
  refine okT_mkC (OkΓT.nil _) Try.func208 (by kernel_rfl) k208 ?_
  intro c k hc h1 hz
  simp only [sh_Int64S, FitC] at hc
  rcases hc with rfl | ⟨z, rows, rfl, hz0, hr⟩
  · simp only [wtC, mkC, nbC, tvC_v, tvC_nl, tvC_sl, bkC, nat0T, Int.add_zero] at *
    (dsimp only [c208]; simp (maxSteps := 8000000) (implicitDefEqProofs := false) (disch := omega) only [↓reduceIte, go_sem, if_pos, if_neg])
    refine awpT_loop (α := Unit) (fun _ => ⟨slots [(0, .nl), (1, .p (.int .i64 k)), (5, .p (.int .i64 0))], []⟩) (fun _ => True) (fun _ => 0) () trivial (le_keep (Nat.zero_le _) (by simp (maxSteps := 8000000) (implicitDefEqProofs := false) (disch := omega) only [↓reduceIte, go_sem, if_pos, if_neg, slotsIn])) ?_
    intro _ _
    simp (maxSteps := 8000000) (implicitDefEqProofs := false) (disch := omega) only [↓reduceIte, go_sem, if_pos, if_neg]
    refine joinK_at _ (le_same _ _ (Nat.zero_le _)) ?_
    simp (maxSteps := 8000000) (implicitDefEqProofs := false) (disch := omega) only [↓reduceIte, go_sem, if_pos, if_neg]
    exact endK_same (.inr rfl) (Nat.zero_le _) (by simp (maxSteps := 8000000) (implicitDefEqProofs := false) (disch := omega) only [↓reduceIte, go_sem, if_pos, if_neg]) rfl
  · simp only [wtC] at hz ⊢
    have hlw : rows.length ≤ wtRs rows := wtRs_rows fun r hx => by
      have hrr := hr r hx
      obtain ⟨_, _, rfl, ⟨a0, rfl⟩, hrr⟩ := hrr; simp only [FitR] at hrr; subst hrr
      simp only [wtIs, wtI]; omega
    simp only [tvC_v, tvC_nl, tvC_sl, bkC, mkC, Nat.zero_add]
    generalize hnb : nbC _ = nb
    simp only [nbC] at hnb
    have hnb2 : ∀ i, nb = (bkRs 1 (mkAt rows k i)).length + 1 := fun i => by
      have := mkRs_nb (rows.take i) k; have h2 := nbRs_app (rows.take i) (rows.drop i)
      rw [List.take_append_drop] at h2; rw [bkRs_len, mkAt, nbRs_app]; omega
    (dsimp only [c208]; simp (maxSteps := 8000000) (implicitDefEqProofs := false) (disch := omega) only [↓reduceIte, go_sem, if_pos, if_neg])
    refine awpT_loop (α := Nat) (fun i => ⟨slots [(0, .os 0 0 rows.length), (1, .p (.int .i64 (k + (wtRs (rows.take i) : Int)))), (5, .p (.int .i64 i))], .cells 2 z (tvRs 1 (mkAt rows k i)) :: bkRs 1 (mkAt rows k i)⟩)
      (fun i => i ≤ rows.length) (fun i => rows.length - i) 0 (Nat.zero_le _) (by simp only [mkAt_zero, List.take_zero, wtRs, nat0T, Int.add_zero]; exact le_keep (by have := hnb2 0; rw [mkAt_zero] at this; rw [List.length_cons]; omega) (by simp (maxSteps := 8000000) (implicitDefEqProofs := false) (disch := omega) only [↓reduceIte, go_sem, if_pos, if_neg, slotsIn])) ?_
    intro i hi
    have hl1 : (tvRs 1 (mkAt rows k i)).length = rows.length := by rw [tvRs_len, mkAt_len]
    simp (maxSteps := 8000000) (implicitDefEqProofs := false) (disch := omega) only [↓reduceIte, go_sem, if_pos, if_neg, hl1]
    refine condKT_dec (fun hlt => ?_) (fun hge => ?_)
    · obtain ⟨r, hx⟩ := get_ex (l := rows) (i := i) (by omega)
      obtain rfl : z = 1 := by rcases hz0 with h | h; (rw [h] at hx; simp at hx); exact h
      have hrr := hr r (List.mem_of_getElem? hx)
      have hwr := wtRs_mem hx; have hsn := wtRs_snoc hx
      have hg := mkAt_get 1 (k := k) hx; have hs := mkAt_set 1 (k := k) hx
      generalize hm : k + (wtRs (rows.take i) : Int) = m at *
      obtain ⟨_, _, rfl, ⟨a0, rfl⟩, hrr⟩ := hrr; simp only [FitR] at hrr; subst hrr
      simp only [wtIs, wtI, Nat.add_zero] at hwr hsn
      simp only [mkIs, mkI, mkV, wtI, nat1T, tvCs, tvC_v, tvC_nl, tvC_sl, nbC, Nat.add_zero, mkC_tv, el_one, el_two] at hg hs
      have hb2 : bkRs 1 (mkAt rows k (i + 1)) = bkRs 1 (mkAt rows k i) := by rw [mkAt_bkn 1 hx, mkAt_bk 1 hx]; rfl
      simp (maxSteps := 8000000) (implicitDefEqProofs := false) (disch := omega) only [↓reduceIte, go_sem, if_pos, if_neg, hl1, hg, List.getElem?_set_self, List.set_set]
      refine loopKT_next (i + 1) (by omega) (by omega) ?_
      have hs2 : k + (wtRs (rows.take (i + 1)) : Int) = m + 1 := by rw [hsn]; omega
      rw [hs2, ← hs, hb2]
      exact le_keep (by have := hnb2 i; rw [List.length_cons]; omega) (by simp (maxSteps := 8000000) (implicitDefEqProofs := false) (disch := omega) only [↓reduceIte, go_sem, if_pos, if_neg, slotsIn])
    · have hb : rows.take i = rows := List.take_of_length_le (by omega)
      have hmf := mkAt_full (k := k) (show rows.length ≤ i by omega)
      have hnb3 := hnb2 i; rw [hmf] at hnb3
      simp (maxSteps := 8000000) (implicitDefEqProofs := false) (disch := omega) only [↓reduceIte, go_sem, if_pos, if_neg, eq_false hge, hb, hmf]
      refine joinK_at _ (le_same _ _ (by show nb ≤ List.length (_ :: _); rw [List.length_cons]; omega)) ?_
      simp (maxSteps := 8000000) (implicitDefEqProofs := false) (disch := omega) only [↓reduceIte, go_sem, if_pos, if_neg]
      exact endK_same (.inr rfl) (by rw [List.length_cons]; omega) (by simp (maxSteps := 8000000) (implicitDefEqProofs := false) (disch := omega) only [↓reduceIte, go_sem, if_pos, if_neg]) rfl
theorem hd_Box_at {c1 : Cell} {c2 : Cell} {c3 : Cell} {c5 : Cell} (hc1 : FitC sh_RuleS c1) (hc2 : FitC sh_PeerS c2) (hc3 : FitC sh_SaS c3) (hc5 : FitC sh_Int64S c5) {k : Int} (hk : 0 ≤ k) (hz : k + (wtC c1 : Int) + (wtC c2 : Int) + (wtC c3 : Int) + (wtC c5 : Int) ≤ 1099511627776) (a0 : Int) (a4 : Int) : hdR_S sh_Box [.agg [.p (.int .i64 a0), fzC (mkC c1 (k)), fzC (mkC c2 (k + (wtC c1 : Int))), fzC (mkC c3 (k + (wtC c1 : Int) + (wtC c2 : Int))), .p (.int .i64 a4), fzC (mkC c5 (k + (wtC c1 : Int) + (wtC c2 : Int) + (wtC c3 : Int)))], .p (.int .i64 k)] = some (.p (.int .i64 (k + (wtC c1 : Int) + (wtC c2 : Int) + (wtC c3 : Int) + (wtC c5 : Int))), []) := by
  have := hdR_at (k := k) (sh_Box_mkFit hc1 hc2 hc3 hc5 a0 a4) hk (by simp only [wtCs, wtC_v]; omega)
  simp only [mkCs, mkC_v, wtC_v, nat0T, Int.add_zero, fzCs, fzC, wtCs, Nat.zero_add, Nat.add_zero] at this
  rw [this]; congr 4; omega
-- laws.heldBox
def c162 : AF := ⟨30,
  (.seq (.reg [⟨(some 2), none, .box 91 (.t 0)⟩,
   ⟨(some 4), none, .mv (.v (.int .i64 0))⟩])
  (.seq (.reg [⟨(some 5), none, .fa (.t 2) 1⟩,
   ⟨(some 6), none, .ld (.t 5)⟩,
   ⟨(some 7), none, .mv (.t 1)⟩,
   ⟨(some 8), none, .call 209 [(.t 6), (.t 7)]⟩,
   ⟨(some 1), none, .mv (.t 8)⟩])
  (.seq (.seq (.reg [⟨(some 9), none, .mv (.t 1)⟩,
   ⟨(some 10), none, .bin .lss (.t 9) (.v (.int .i64 0))⟩])
  (.cond (.t 10) (.seq (.reg [⟨(some 4), none, .mv (.v (.int .i64 (-1)))⟩])
  .ret)
  .skip))
  (.seq (.reg [⟨(some 11), none, .fa (.t 2) 2⟩,
   ⟨(some 12), none, .ld (.t 11)⟩,
   ⟨(some 13), none, .mv (.t 1)⟩,
   ⟨(some 14), none, .call 210 [(.t 12), (.t 13)]⟩,
   ⟨(some 1), none, .mv (.t 14)⟩])
  (.seq (.seq (.reg [⟨(some 15), none, .mv (.t 1)⟩,
   ⟨(some 16), none, .bin .lss (.t 15) (.v (.int .i64 0))⟩])
  (.cond (.t 16) (.seq (.reg [⟨(some 4), none, .mv (.v (.int .i64 (-1)))⟩])
  .ret)
  .skip))
  (.seq (.reg [⟨(some 17), none, .fa (.t 2) 3⟩,
   ⟨(some 18), none, .ld (.t 17)⟩,
   ⟨(some 19), none, .mv (.t 1)⟩,
   ⟨(some 20), none, .call 185 [(.t 18), (.t 19)]⟩,
   ⟨(some 1), none, .mv (.t 20)⟩])
  (.seq (.seq (.reg [⟨(some 21), none, .mv (.t 1)⟩,
   ⟨(some 22), none, .bin .lss (.t 21) (.v (.int .i64 0))⟩])
  (.cond (.t 22) (.seq (.reg [⟨(some 4), none, .mv (.v (.int .i64 (-1)))⟩])
  .ret)
  .skip))
  (.seq (.reg [⟨(some 23), none, .fa (.t 2) 5⟩,
   ⟨(some 24), none, .ld (.t 23)⟩,
   ⟨(some 25), none, .mv (.t 1)⟩,
   ⟨(some 26), none, .call 211 [(.t 24), (.t 25)]⟩,
   ⟨(some 1), none, .mv (.t 26)⟩])
  (.seq (.seq (.reg [⟨(some 27), none, .mv (.t 1)⟩,
   ⟨(some 28), none, .bin .lss (.t 27) (.v (.int .i64 0))⟩])
  (.cond (.t 28) (.seq (.reg [⟨(some 4), none, .mv (.v (.int .i64 (-1)))⟩])
  .ret)
  .skip))
  (.seq (.reg [⟨(some 29), none, .mv (.t 1)⟩,
   ⟨(some 4), none, .mv (.t 29)⟩])
  .ret)))))))))),
  [.t 4]⟩
theorem k162 : cFn Try.prog Try.f162 = some c162 := by kernel_rfl
theorem heldBox_ok : OkT Try.prog 162 (pureSp (hdR_S sh_Box)) := by
  refine okT_hdR (OkΓT.cons heldRuleS_ok (OkΓT.cons heldPeerS_ok (OkΓT.cons heldSaS_ok (OkΓT.cons heldInt64S_ok (OkΓT.nil _))))) Try.func162 (by kernel_rfl) k162 ?_
  intro c k hc h1 hz
  obtain ⟨a0, a4, c1, c2, c3, c5, rfl, hc1, hc2, hc3, hc5⟩ := sh_Box_Fit hc
  simp only [wtCs, wtC_v, Nat.zero_add, Nat.add_zero] at hz ⊢
  simp only [mkCs, mkC_v, wtC_v, nat0T, Int.add_zero, fzCs, fzC]
  (dsimp only [c162]; simp (maxSteps := 8000000) (implicitDefEqProofs := false) (disch := omega) only [↓reduceIte, go_sem, if_pos, if_neg, hdC_at hc1 (show 0 ≤ k by omega) (by omega), hdC_at hc2 (show 0 ≤ k + (wtC c1 : Int) by omega) (by omega), hdC_at hc3 (show 0 ≤ k + (wtC c1 : Int) + (wtC c2 : Int) by omega) (by omega), hdC_at hc5 (show 0 ≤ k + (wtC c1 : Int) + (wtC c2 : Int) + (wtC c3 : Int) by omega) (by omega)])
  repeat' first
    | (refine gdKT_dec (fun hg => ?_) (fun hg => ?_) <;> (try (first | simp (maxSteps := 8000000) (implicitDefEqProofs := false) (disch := omega) only [↓reduceIte, go_sem, if_pos, if_neg, eq_false hg, hdC_at hc1 (show 0 ≤ k by omega) (by omega), hdC_at hc2 (show 0 ≤ k + (wtC c1 : Int) by omega) (by omega), hdC_at hc3 (show 0 ≤ k + (wtC c1 : Int) + (wtC c2 : Int) by omega) (by omega), hdC_at hc5 (show 0 ≤ k + (wtC c1 : Int) + (wtC c2 : Int) + (wtC c3 : Int) by omega) (by omega)] | simp (maxSteps := 8000000) (implicitDefEqProofs := false) (disch := omega) only [↓reduceIte, go_sem, if_pos, if_neg, eq_true hg, hdC_at hc1 (show 0 ≤ k by omega) (by omega), hdC_at hc2 (show 0 ≤ k + (wtC c1 : Int) by omega) (by omega), hdC_at hc3 (show 0 ≤ k + (wtC c1 : Int) + (wtC c2 : Int) by omega) (by omega), hdC_at hc5 (show 0 ≤ k + (wtC c1 : Int) + (wtC c2 : Int) + (wtC c3 : Int) by omega) (by omega)])))
    | (refine condKT_dec (fun hg => ?_) (fun hg => ?_) <;> (try (first | simp (maxSteps := 8000000) (implicitDefEqProofs := false) (disch := omega) only [↓reduceIte, go_sem, if_pos, if_neg, eq_false hg, hdC_at hc1 (show 0 ≤ k by omega) (by omega), hdC_at hc2 (show 0 ≤ k + (wtC c1 : Int) by omega) (by omega), hdC_at hc3 (show 0 ≤ k + (wtC c1 : Int) + (wtC c2 : Int) by omega) (by omega), hdC_at hc5 (show 0 ≤ k + (wtC c1 : Int) + (wtC c2 : Int) + (wtC c3 : Int) by omega) (by omega)] | simp (maxSteps := 8000000) (implicitDefEqProofs := false) (disch := omega) only [↓reduceIte, go_sem, if_pos, if_neg, eq_true hg, hdC_at hc1 (show 0 ≤ k by omega) (by omega), hdC_at hc2 (show 0 ≤ k + (wtC c1 : Int) by omega) (by omega), hdC_at hc3 (show 0 ≤ k + (wtC c1 : Int) + (wtC c2 : Int) by omega) (by omega), hdC_at hc5 (show 0 ≤ k + (wtC c1 : Int) + (wtC c2 : Int) + (wtC c3 : Int) by omega) (by omega)])))
    | (refine gdKT_split (fun hg => ?_) (fun hg => ?_) <;> (try simp (maxSteps := 8000000) (implicitDefEqProofs := false) (disch := omega) only [↓reduceIte, go_sem, if_pos, if_neg, hg, hdC_at hc1 (show 0 ≤ k by omega) (by omega), hdC_at hc2 (show 0 ≤ k + (wtC c1 : Int) by omega) (by omega), hdC_at hc3 (show 0 ≤ k + (wtC c1 : Int) + (wtC c2 : Int) by omega) (by omega), hdC_at hc5 (show 0 ≤ k + (wtC c1 : Int) + (wtC c2 : Int) + (wtC c3 : Int) by omega) (by omega)]))
    | (refine condKT_split (fun hg => ?_) (fun hg => ?_) <;> (try simp (maxSteps := 8000000) (implicitDefEqProofs := false) (disch := omega) only [↓reduceIte, go_sem, if_pos, if_neg, hg, hdC_at hc1 (show 0 ≤ k by omega) (by omega), hdC_at hc2 (show 0 ≤ k + (wtC c1 : Int) by omega) (by omega), hdC_at hc3 (show 0 ≤ k + (wtC c1 : Int) + (wtC c2 : Int) by omega) (by omega), hdC_at hc5 (show 0 ≤ k + (wtC c1 : Int) + (wtC c2 : Int) + (wtC c3 : Int) by omega) (by omega)]))
    | (refine endT_p (.inr rfl) (by simp (maxSteps := 8000000) (implicitDefEqProofs := false) (disch := omega) only [↓reduceIte, go_sem, if_pos, if_neg, hdC_at hc1 (show 0 ≤ k by omega) (by omega), hdC_at hc2 (show 0 ≤ k + (wtC c1 : Int) by omega) (by omega), hdC_at hc3 (show 0 ≤ k + (wtC c1 : Int) + (wtC c2 : Int) by omega) (by omega), hdC_at hc5 (show 0 ≤ k + (wtC c1 : Int) + (wtC c2 : Int) + (wtC c3 : Int) by omega) (by omega)]; rfl) ?_; (first | exact vb_true (by omega) | exact vb_false (by omega) | exact vb_dec (by omega) | exact vi_eq (by omega) | rfl | (refine vi_eq ?_; simp_all; done) | (refine vi_eq ?_; simp_all; omega) | (refine vi_eq ?_; simp_all; intros; omega)))
    | exact endT_v (.inr rfl) (by simp (maxSteps := 8000000) (implicitDefEqProofs := false) (disch := omega) only [↓reduceIte, go_sem, if_pos, if_neg, hdC_at hc1 (show 0 ≤ k by omega) (by omega), hdC_at hc2 (show 0 ≤ k + (wtC c1 : Int) by omega) (by omega), hdC_at hc3 (show 0 ≤ k + (wtC c1 : Int) + (wtC c2 : Int) by omega) (by omega), hdC_at hc5 (show 0 ≤ k + (wtC c1 : Int) + (wtC c2 : Int) + (wtC c3 : Int) by omega) (by omega)]; try rfl) (fun _ => rfl)
-- laws.markBox
def c161 : AF := ⟨22,
  (.seq (.reg [⟨(some 2), none, .box 91 (.t 0)⟩,
   ⟨(some 4), none, .mv (.v (.int .i64 0))⟩])
  (.seq (.reg [⟨(some 5), none, .fa (.t 2) 1⟩,
   ⟨(some 6), none, .ld (.t 5)⟩,
   ⟨(some 7), none, .mv (.t 1)⟩,
   ⟨(some 8), none, .call 68 [(.t 6), (.t 7)]⟩,
   ⟨(some 1), none, .mv (.t 8)⟩])
  (.seq (.reg [⟨(some 9), none, .fa (.t 2) 2⟩,
   ⟨(some 10), none, .ld (.t 9)⟩,
   ⟨(some 11), none, .mv (.t 1)⟩,
   ⟨(some 12), none, .call 69 [(.t 10), (.t 11)]⟩,
   ⟨(some 1), none, .mv (.t 12)⟩])
  (.seq (.reg [⟨(some 13), none, .fa (.t 2) 3⟩,
   ⟨(some 14), none, .ld (.t 13)⟩,
   ⟨(some 15), none, .mv (.t 1)⟩,
   ⟨(some 16), none, .call 88 [(.t 14), (.t 15)]⟩,
   ⟨(some 1), none, .mv (.t 16)⟩])
  (.seq (.reg [⟨(some 17), none, .fa (.t 2) 5⟩,
   ⟨(some 18), none, .ld (.t 17)⟩,
   ⟨(some 19), none, .mv (.t 1)⟩,
   ⟨(some 20), none, .call 208 [(.t 18), (.t 19)]⟩,
   ⟨(some 1), none, .mv (.t 20)⟩])
  (.seq (.reg [⟨(some 21), none, .mv (.t 1)⟩,
   ⟨(some 4), none, .mv (.t 21)⟩])
  .ret)))))),
  [.t 4]⟩
theorem k161 : cFn Try.prog Try.f161 = some c161 := by kernel_rfl
theorem markBox_ok : OkT Try.prog 161 (mkR_Sp sh_Box) := by
  refine okT_mkR (OkΓT.cons markRuleS_ok (OkΓT.cons markPeerS_ok (OkΓT.cons markSaS_ok (OkΓT.cons markInt64S_ok (OkΓT.nil _))))) Try.func161 (by kernel_rfl) k161 ?_
  intro c k hc h1 hz
  obtain ⟨a0, a4, c1, c2, c3, c5, rfl, hc1, hc2, hc3, hc5⟩ := sh_Box_Fit hc
  simp only [wtCs, wtC_v, Nat.zero_add, Nat.add_zero] at hz ⊢
  simp only [mkCs, mkC_v, wtC_v, nat0T, Int.add_zero]
  simp only [tvCs, tvC_v, tvC_nl, tvC_sl, nbC, Nat.add_zero, Nat.zero_add]
  generalize hN : nbCs _ = N
  have l0 : (bkCs 0 [.v (.int .i64 a0), c1, c2, c3, .v (.int .i64 a4), c5]).length = N := by rw [bkCs_len]; exact hN
  (dsimp only [c161]; simp (maxSteps := 8000000) (implicitDefEqProofs := false) (disch := omega) only [↓reduceIte, go_sem, if_pos, if_neg, l0, get_last l0])
  have m0 := fun X => mk_cell (A := [.v (.int .i64 a0)]) (B := [c2, c3, .v (.int .i64 a4), c5]) (G := [X]) (n := 0) (k := k) (by simp only [nbCs, nbC, mkC_nb] <;> omega) hc1 (by omega) (by omega)
  simp only [List.cons_append, List.nil_append, mkCs, mkC_v, wtCs, wtC_v, nat0T, Int.add_zero, Nat.add_zero, Nat.zero_add, tvCs, tvC_v, tvC_nl, tvC_sl, nbC, natAT, ← Int.add_assoc, mkC_tv, mkC_nb] at m0
  have l1 : (bkCs 0 [.v (.int .i64 a0), (mkC c1 (k)), c2, c3, .v (.int .i64 a4), c5]).length = N := by rw [bkCs_len, ← hN]; simp only [nbCs, mkC_nb]
  refine mutQ_call (by simp (maxSteps := 8000000) (implicitDefEqProofs := false) (disch := omega) only [↓reduceIte, go_sem, if_pos, if_neg]; rfl) (by simp (maxSteps := 8000000) (implicitDefEqProofs := false) (disch := omega) only [↓reduceIte, go_sem, if_pos, if_neg]) (m0 _) ?_
  simp (maxSteps := 8000000) (implicitDefEqProofs := false) (disch := omega) only [↓reduceIte, go_sem, if_pos, if_neg, l1, get_last l1]
  have m1 := fun X => mk_cell (A := [.v (.int .i64 a0), (mkC c1 (k))]) (B := [c3, .v (.int .i64 a4), c5]) (G := [X]) (n := nbC c1) (k := k + (wtC c1 : Int)) (by simp only [nbCs, nbC, mkC_nb] <;> omega) hc2 (by omega) (by omega)
  simp only [List.cons_append, List.nil_append, mkCs, mkC_v, wtCs, wtC_v, nat0T, Int.add_zero, Nat.add_zero, Nat.zero_add, tvCs, tvC_v, tvC_nl, tvC_sl, nbC, natAT, ← Int.add_assoc, mkC_tv, mkC_nb] at m1
  have l2 : (bkCs 0 [.v (.int .i64 a0), (mkC c1 (k)), (mkC c2 (k + (wtC c1 : Int))), c3, .v (.int .i64 a4), c5]).length = N := by rw [bkCs_len, ← hN]; simp only [nbCs, mkC_nb]
  refine mutQ_call (by simp (maxSteps := 8000000) (implicitDefEqProofs := false) (disch := omega) only [↓reduceIte, go_sem, if_pos, if_neg]; rfl) (by simp (maxSteps := 8000000) (implicitDefEqProofs := false) (disch := omega) only [↓reduceIte, go_sem, if_pos, if_neg]) (m1 _) ?_
  simp (maxSteps := 8000000) (implicitDefEqProofs := false) (disch := omega) only [↓reduceIte, go_sem, if_pos, if_neg, l2, get_last l2]
  have m2 := fun X => mk_cell (A := [.v (.int .i64 a0), (mkC c1 (k)), (mkC c2 (k + (wtC c1 : Int)))]) (B := [.v (.int .i64 a4), c5]) (G := [X]) (n := nbC c1 + nbC c2) (k := k + (wtC c1 : Int) + (wtC c2 : Int)) (by simp only [nbCs, nbC, mkC_nb] <;> omega) hc3 (by omega) (by omega)
  simp only [List.cons_append, List.nil_append, mkCs, mkC_v, wtCs, wtC_v, nat0T, Int.add_zero, Nat.add_zero, Nat.zero_add, tvCs, tvC_v, tvC_nl, tvC_sl, nbC, natAT, ← Int.add_assoc, mkC_tv, mkC_nb] at m2
  have l3 : (bkCs 0 [.v (.int .i64 a0), (mkC c1 (k)), (mkC c2 (k + (wtC c1 : Int))), (mkC c3 (k + (wtC c1 : Int) + (wtC c2 : Int))), .v (.int .i64 a4), c5]).length = N := by rw [bkCs_len, ← hN]; simp only [nbCs, mkC_nb]
  refine mutQ_call (by simp (maxSteps := 8000000) (implicitDefEqProofs := false) (disch := omega) only [↓reduceIte, go_sem, if_pos, if_neg]; rfl) (by simp (maxSteps := 8000000) (implicitDefEqProofs := false) (disch := omega) only [↓reduceIte, go_sem, if_pos, if_neg]) (m2 _) ?_
  simp (maxSteps := 8000000) (implicitDefEqProofs := false) (disch := omega) only [↓reduceIte, go_sem, if_pos, if_neg, l3, get_last l3]
  have m3 := fun X => mk_cell (A := [.v (.int .i64 a0), (mkC c1 (k)), (mkC c2 (k + (wtC c1 : Int))), (mkC c3 (k + (wtC c1 : Int) + (wtC c2 : Int))), .v (.int .i64 a4)]) (B := []) (G := [X]) (n := nbC c1 + nbC c2 + nbC c3) (k := k + (wtC c1 : Int) + (wtC c2 : Int) + (wtC c3 : Int)) (by simp only [nbCs, nbC, mkC_nb] <;> omega) hc5 (by omega) (by omega)
  simp only [List.cons_append, List.nil_append, mkCs, mkC_v, wtCs, wtC_v, nat0T, Int.add_zero, Nat.add_zero, Nat.zero_add, tvCs, tvC_v, tvC_nl, tvC_sl, nbC, natAT, ← Int.add_assoc, mkC_tv, mkC_nb] at m3
  have l4 : (bkCs 0 [.v (.int .i64 a0), (mkC c1 (k)), (mkC c2 (k + (wtC c1 : Int))), (mkC c3 (k + (wtC c1 : Int) + (wtC c2 : Int))), .v (.int .i64 a4), (mkC c5 (k + (wtC c1 : Int) + (wtC c2 : Int) + (wtC c3 : Int)))]).length = N := by rw [bkCs_len, ← hN]; simp only [nbCs, mkC_nb]
  refine mutQ_call (by simp (maxSteps := 8000000) (implicitDefEqProofs := false) (disch := omega) only [↓reduceIte, go_sem, if_pos, if_neg]; rfl) (by simp (maxSteps := 8000000) (implicitDefEqProofs := false) (disch := omega) only [↓reduceIte, go_sem, if_pos, if_neg]) (m3 _) ?_
  simp (maxSteps := 8000000) (implicitDefEqProofs := false) (disch := omega) only [↓reduceIte, go_sem, if_pos, if_neg, l4, get_last l4]
  exact endK_cells (.inr rfl) (by rw [← hN]; simp only [nbCs, mkC_nb]; omega) (by (simp (maxSteps := 8000000) (implicitDefEqProofs := false) (disch := omega) only [↓reduceIte, go_sem, if_pos, if_neg, natAT, ← Int.add_assoc]) <;> rfl) rfl
def sh_ByteS : Shp := .sl 5 [.i .u8]
-- laws.eqByteS
def c28 : AF := ⟨26,
  (.seq (.reg [⟨(some 4), none, .mv (.v (.bool false))⟩])
  (.seq (.seq (.reg [⟨(some 6), none, .mv (.t 0)⟩,
   ⟨(some 7), none, .len (.t 6)⟩,
   ⟨(some 8), none, .mv (.t 1)⟩,
   ⟨(some 9), none, .len (.t 8)⟩,
   ⟨(some 10), none, .bin .neq (.t 7) (.t 9)⟩])
  (.cond (.t 10) (.seq (.reg [⟨(some 4), none, .mv (.v (.bool false))⟩])
  .ret)
  .skip))
  (.seq (.seq (.reg [⟨(some 5), none, .mv (.v (.int .i64 0))⟩])
  (.block 0 (.loop (.seq (.seq (.reg [⟨(some 11), none, .mv (.t 5)⟩,
   ⟨(some 12), none, .mv (.t 0)⟩,
   ⟨(some 13), none, .len (.t 12)⟩,
   ⟨(some 14), none, .bin .lss (.t 11) (.t 13)⟩])
  (.cond (.t 14) .skip
  (.exit 0)))
  (.seq (.block 1 (.seq (.drw [⟨(some 17), none, .mv (.t 0)⟩,
   ⟨(some 18), none, .mv (.t 5)⟩,
   ⟨(some 19), none, .ia 1 (.t 17) (.t 18)⟩,
   ⟨(some 20), none, .ld (.t 19)⟩,
   ⟨(some 21), none, .mv (.t 1)⟩,
   ⟨(some 22), none, .mv (.t 5)⟩,
   ⟨(some 23), none, .ia 1 (.t 21) (.t 22)⟩,
   ⟨(some 24), none, .ld (.t 23)⟩] [⟨(some 25), none, .bin .neq (.t 20) (.t 24)⟩])
  (.cond (.t 25) (.seq (.reg [⟨(some 4), none, .mv (.v (.bool false))⟩])
  .ret)
  .skip)))
  (.reg [⟨(some 15), none, .mv (.t 5)⟩,
   ⟨(some 16), none, .bin .add (.t 15) (.v (.int .i64 1))⟩,
   ⟨(some 5), none, .mv (.t 16)⟩]))))))
  (.seq (.reg [⟨(some 4), none, .mv (.v (.bool true))⟩])
  .ret)))),
  [.t 4]⟩
theorem k28 : cFn Try.prog Try.f28 = some c28 := by kernel_rfl
theorem eqByteS_ok : OkT Try.prog 28 (pureSp (eqC_S sh_ByteS)) := by
  refine okT_eqC (OkΓT.nil _) Try.func28 (by kernel_rfl) k28 ?_
  intro c hc hz
  obtain ⟨rows, hf, hr, hsz, _⟩ := FitC.rows hc
  rw [hf]
  (dsimp only [c28]; simp (maxSteps := 8000000) (implicitDefEqProofs := false) (disch := omega) only [↓reduceIte, go_sem, if_pos, if_neg])
  refine awpT_loop (α := Nat) (fun i => ⟨slots [(0, .s (fzRs rows)), (1, .s (fzRs rows)), (5, .p (.int .i64 i))], []⟩) (fun i => i ≤ rows.length) (fun i => rows.length - i) 0 (Nat.zero_le _) (le_of [] (by simp (maxSteps := 8000000) (implicitDefEqProofs := false) (disch := omega) only [↓reduceIte, go_sem, if_pos, if_neg]) (by simp (maxSteps := 8000000) (implicitDefEqProofs := false) (disch := omega) only [↓reduceIte, go_sem, if_pos, if_neg]) (by decide) (by simp)) ?_
  intro i hi
  simp (maxSteps := 8000000) (implicitDefEqProofs := false) (disch := omega) only [↓reduceIte, go_sem, if_pos, if_neg]
  refine condKT_dec (fun hlt => ?_) (fun hge => ?_)
  · obtain ⟨r, hx⟩ := get_ex (l := rows) (i := i) (by omega)
    have hrr := hr r (List.mem_of_getElem? hx)
    have hzr := szRs_mem hx
    have hg := fzRs_get hx
    obtain ⟨_, _, rfl, ⟨a0, rfl⟩, hrr⟩ := hrr; simp only [FitR] at hrr; subst hrr
    simp only [szCs, szC] at hzr
    simp only [fzCs, fzC, el_one, el_two] at hg
    simp (maxSteps := 8000000) (implicitDefEqProofs := false) (disch := omega) only [↓reduceIte, go_sem, if_pos, if_neg, eq_true hlt, hg, not_true, decide_false]
    refine loopKT_next (i + 1) (by omega) (by omega) ?_
    exact (le_of [] (by simp (maxSteps := 8000000) (implicitDefEqProofs := false) (disch := omega) only [↓reduceIte, go_sem, if_pos, if_neg]) (by simp (maxSteps := 8000000) (implicitDefEqProofs := false) (disch := omega) only [↓reduceIte, go_sem, if_pos, if_neg]) (by decide) (by simp))
  · simp (maxSteps := 8000000) (implicitDefEqProofs := false) (disch := omega) only [↓reduceIte, go_sem, if_pos, if_neg, eq_false hge]
    refine joinK_here ?_
    simp (maxSteps := 8000000) (implicitDefEqProofs := false) (disch := omega) only [↓reduceIte, go_sem, if_pos, if_neg]
    repeat' first
      | (refine gdKT_dec (fun hg => ?_) (fun hg => ?_) <;> (try (first | simp (maxSteps := 8000000) (implicitDefEqProofs := false) (disch := omega) only [↓reduceIte, go_sem, if_pos, if_neg, eq_false hg] | simp (maxSteps := 8000000) (implicitDefEqProofs := false) (disch := omega) only [↓reduceIte, go_sem, if_pos, if_neg, eq_true hg])))
      | (refine condKT_dec (fun hg => ?_) (fun hg => ?_) <;> (try (first | simp (maxSteps := 8000000) (implicitDefEqProofs := false) (disch := omega) only [↓reduceIte, go_sem, if_pos, if_neg, eq_false hg] | simp (maxSteps := 8000000) (implicitDefEqProofs := false) (disch := omega) only [↓reduceIte, go_sem, if_pos, if_neg, eq_true hg])))
      | (refine gdKT_split (fun hg => ?_) (fun hg => ?_) <;> (try simp (maxSteps := 8000000) (implicitDefEqProofs := false) (disch := omega) only [↓reduceIte, go_sem, if_pos, if_neg, hg]))
      | (refine condKT_split (fun hg => ?_) (fun hg => ?_) <;> (try simp (maxSteps := 8000000) (implicitDefEqProofs := false) (disch := omega) only [↓reduceIte, go_sem, if_pos, if_neg, hg]))
      | (refine endT_p (.inr rfl) (by simp (maxSteps := 8000000) (implicitDefEqProofs := false) (disch := omega) only [↓reduceIte, go_sem, if_pos, if_neg]; rfl) ?_; (first | exact vb_true (by omega) | exact vb_false (by omega) | exact vb_dec (by omega) | exact vi_eq (by omega) | rfl | (refine vi_eq ?_; simp_all; done) | (refine vi_eq ?_; simp_all; omega) | (refine vi_eq ?_; simp_all; intros; omega)))
      | exact endT_v (.inr rfl) (by simp (maxSteps := 8000000) (implicitDefEqProofs := false) (disch := omega) only [↓reduceIte, go_sem, if_pos, if_neg]; try rfl) (fun _ => rfl)
-- laws.heldByteS
def c117 : AF := ⟨22,
  (.seq (.reg [⟨(some 4), none, .mv (.v (.int .i64 0))⟩])
  (.seq (.seq (.reg [⟨(some 5), none, .mv (.v (.int .i64 0))⟩])
  (.block 0 (.loop (.seq (.seq (.reg [⟨(some 6), none, .mv (.t 5)⟩,
   ⟨(some 7), none, .mv (.t 0)⟩,
   ⟨(some 8), none, .len (.t 7)⟩,
   ⟨(some 9), none, .bin .lss (.t 6) (.t 8)⟩])
  (.cond (.t 9) .skip
  (.exit 0)))
  (.seq (.block 1 (.seq (.seq (.reg [⟨(some 12), none, .mv (.t 0)⟩,
   ⟨(some 13), none, .mv (.t 5)⟩,
   ⟨(some 14), none, .ia 1 (.t 12) (.t 13)⟩,
   ⟨(some 15), none, .ld (.t 14)⟩,
   ⟨(some 16), none, .mv (.t 1)⟩,
   ⟨(some 17), none, .cvI .u8 (.t 16)⟩,
   ⟨(some 18), none, .bin .neq (.t 15) (.t 17)⟩])
  (.cond (.t 18) (.seq (.reg [⟨(some 4), none, .mv (.v (.int .i64 (-1)))⟩])
  .ret)
  .skip))
  (.reg [⟨(some 19), none, .mv (.t 1)⟩,
   ⟨(some 20), none, .bin .add (.t 19) (.v (.int .i64 1))⟩,
   ⟨(some 1), none, .mv (.t 20)⟩])))
  (.reg [⟨(some 10), none, .mv (.t 5)⟩,
   ⟨(some 11), none, .bin .add (.t 10) (.v (.int .i64 1))⟩,
   ⟨(some 5), none, .mv (.t 11)⟩]))))))
  (.seq (.reg [⟨(some 21), none, .mv (.t 1)⟩,
   ⟨(some 4), none, .mv (.t 21)⟩])
  .ret))),
  [.t 4]⟩
theorem k117 : cFn Try.prog Try.f117 = some c117 := by kernel_rfl
theorem heldByteS_ok : OkT Try.prog 117 (pureSp (hdC_S sh_ByteS)) := by
  refine okT_hdC (OkΓT.nil _) Try.func117 (by kernel_rfl) k117 ?_
  intro c k hc h1 hz
  obtain ⟨rows, _, hr, _, hwt, hf⟩ := FitC.rows hc
  rw [hwt] at hz ⊢; rw [hf]
  have hlw : rows.length ≤ wtRs rows := wtRs_rows fun r hx => by
    have hrr := hr r hx
    obtain ⟨_, _, rfl, ⟨a0, rfl⟩, hrr⟩ := hrr; simp only [FitR] at hrr; subst hrr
    simp only [wtIs, wtI]; omega
  (dsimp only [c117]; simp (maxSteps := 8000000) (implicitDefEqProofs := false) (disch := omega) only [↓reduceIte, go_sem, if_pos, if_neg])
  refine awpT_loop (α := Nat) (fun i => ⟨slots [(0, .s (fzRs (mkRs rows k))), (1, .p (.int .i64 (k + (wtRs (rows.take i) : Int)))), (5, .p (.int .i64 i))], []⟩) (fun i => i ≤ rows.length) (fun i => rows.length - i) 0 (Nat.zero_le _) (by simp only [List.take_zero, wtRs, nat0T, Int.add_zero]; exact (le_of [] (by simp (maxSteps := 8000000) (implicitDefEqProofs := false) (disch := omega) only [↓reduceIte, go_sem, if_pos, if_neg]) (by simp (maxSteps := 8000000) (implicitDefEqProofs := false) (disch := omega) only [↓reduceIte, go_sem, if_pos, if_neg]) (by decide) (by simp))) ?_
  intro i hi
  simp (maxSteps := 8000000) (implicitDefEqProofs := false) (disch := omega) only [↓reduceIte, go_sem, if_pos, if_neg]
  refine condKT_dec (fun hlt => ?_) (fun hge => ?_)
  · obtain ⟨r, hx⟩ := get_ex (l := rows) (i := i) (by omega)
    have hrr := hr r (List.mem_of_getElem? hx)
    have hwr := wtRs_mem hx; have hsn := wtRs_snoc hx
    have hg := fzRs_get (mkRs_get (k := k) hx)
    generalize hm : k + (wtRs (rows.take i) : Int) = m at *
    obtain ⟨_, _, rfl, ⟨a0, rfl⟩, hrr⟩ := hrr; simp only [FitR] at hrr; subst hrr
    simp only [wtIs, wtI, Nat.add_zero] at hwr hsn
    simp only [mkIs, mkI, mkV, wtI, nat1T, fzCs, fzC, el_one, el_two] at hg
    simp (maxSteps := 8000000) (implicitDefEqProofs := false) (disch := omega) only [↓reduceIte, go_sem, if_pos, if_neg, eq_true hlt, hg, dec_self, Bool.not_true, not_true, decide_false]
    refine loopKT_next (i + 1) (by omega) (by omega) ?_
    have hs2 : k + (wtRs (rows.take (i + 1)) : Int) = m + 1 := by rw [hsn]; omega
    exact (le_of [] (by simp (maxSteps := 8000000) (implicitDefEqProofs := false) (disch := omega) only [↓reduceIte, go_sem, if_pos, if_neg, hs2]) (by simp (maxSteps := 8000000) (implicitDefEqProofs := false) (disch := omega) only [↓reduceIte, go_sem, if_pos, if_neg, hs2]) (by decide) (by simp))
  · have hb : rows.take i = rows := List.take_of_length_le (by omega)
    simp (maxSteps := 8000000) (implicitDefEqProofs := false) (disch := omega) only [↓reduceIte, go_sem, if_pos, if_neg, eq_false hge, hb]
    refine joinK_here ?_
    simp (maxSteps := 8000000) (implicitDefEqProofs := false) (disch := omega) only [↓reduceIte, go_sem, if_pos, if_neg]
    repeat' first
      | (refine gdKT_dec (fun hg => ?_) (fun hg => ?_) <;> (try (first | simp (maxSteps := 8000000) (implicitDefEqProofs := false) (disch := omega) only [↓reduceIte, go_sem, if_pos, if_neg, eq_false hg] | simp (maxSteps := 8000000) (implicitDefEqProofs := false) (disch := omega) only [↓reduceIte, go_sem, if_pos, if_neg, eq_true hg])))
      | (refine condKT_dec (fun hg => ?_) (fun hg => ?_) <;> (try (first | simp (maxSteps := 8000000) (implicitDefEqProofs := false) (disch := omega) only [↓reduceIte, go_sem, if_pos, if_neg, eq_false hg] | simp (maxSteps := 8000000) (implicitDefEqProofs := false) (disch := omega) only [↓reduceIte, go_sem, if_pos, if_neg, eq_true hg])))
      | (refine gdKT_split (fun hg => ?_) (fun hg => ?_) <;> (try simp (maxSteps := 8000000) (implicitDefEqProofs := false) (disch := omega) only [↓reduceIte, go_sem, if_pos, if_neg, hg]))
      | (refine condKT_split (fun hg => ?_) (fun hg => ?_) <;> (try simp (maxSteps := 8000000) (implicitDefEqProofs := false) (disch := omega) only [↓reduceIte, go_sem, if_pos, if_neg, hg]))
      | (refine endT_p (.inr rfl) (by simp (maxSteps := 8000000) (implicitDefEqProofs := false) (disch := omega) only [↓reduceIte, go_sem, if_pos, if_neg]; rfl) ?_; (first | exact vb_true (by omega) | exact vb_false (by omega) | exact vb_dec (by omega) | exact vi_eq (by omega) | rfl | (refine vi_eq ?_; simp_all; done) | (refine vi_eq ?_; simp_all; omega) | (refine vi_eq ?_; simp_all; intros; omega)))
      | exact endT_v (.inr rfl) (by simp (maxSteps := 8000000) (implicitDefEqProofs := false) (disch := omega) only [↓reduceIte, go_sem, if_pos, if_neg]; try rfl) (fun _ => rfl)
-- laws.markByteS
def c29 : AF := ⟨20,
  (.seq (.reg [⟨(some 4), none, .mv (.v (.int .i64 0))⟩])
  (.seq (.seq (.reg [⟨(some 5), none, .mv (.v (.int .i64 0))⟩])
  (.block 0 (.loop (.seq (.seq (.reg [⟨(some 6), none, .mv (.t 5)⟩,
   ⟨(some 7), none, .mv (.t 0)⟩,
   ⟨(some 8), none, .len (.t 7)⟩,
   ⟨(some 9), none, .bin .lss (.t 6) (.t 8)⟩])
  (.cond (.t 9) .skip
  (.exit 0)))
  (.seq (.block 1 (.seq (.reg [⟨(some 12), none, .mv (.t 0)⟩,
   ⟨(some 13), none, .mv (.t 5)⟩,
   ⟨(some 14), none, .mv (.t 1)⟩,
   ⟨(some 15), none, .cvI .u8 (.t 14)⟩,
   ⟨(some 16), none, .ia 1 (.t 12) (.t 13)⟩,
   ⟨none, none, .st 1 (.t 16) (.t 15)⟩])
  (.reg [⟨(some 17), none, .mv (.t 1)⟩,
   ⟨(some 18), none, .bin .add (.t 17) (.v (.int .i64 1))⟩,
   ⟨(some 1), none, .mv (.t 18)⟩])))
  (.reg [⟨(some 10), none, .mv (.t 5)⟩,
   ⟨(some 11), none, .bin .add (.t 10) (.v (.int .i64 1))⟩,
   ⟨(some 5), none, .mv (.t 11)⟩]))))))
  (.seq (.reg [⟨(some 19), none, .mv (.t 1)⟩,
   ⟨(some 4), none, .mv (.t 19)⟩])
  .ret))),
  [.t 4]⟩
theorem k29 : cFn Try.prog Try.f29 = some c29 := by kernel_rfl
theorem markByteS_ok : OkT Try.prog 29 (mkC_Sp sh_ByteS) := by
  refine okT_mkC (OkΓT.nil _) Try.func29 (by kernel_rfl) k29 ?_
  intro c k hc h1 hz
  simp only [sh_ByteS, FitC] at hc
  rcases hc with rfl | ⟨z, rows, rfl, hz0, hr⟩
  · simp only [wtC, mkC, nbC, tvC_v, tvC_nl, tvC_sl, bkC, nat0T, Int.add_zero] at *
    (dsimp only [c29]; simp (maxSteps := 8000000) (implicitDefEqProofs := false) (disch := omega) only [↓reduceIte, go_sem, if_pos, if_neg])
    refine awpT_loop (α := Unit) (fun _ => ⟨slots [(0, .nl), (1, .p (.int .i64 k)), (5, .p (.int .i64 0))], []⟩) (fun _ => True) (fun _ => 0) () trivial (le_keep (Nat.zero_le _) (by simp (maxSteps := 8000000) (implicitDefEqProofs := false) (disch := omega) only [↓reduceIte, go_sem, if_pos, if_neg, slotsIn])) ?_
    intro _ _
    simp (maxSteps := 8000000) (implicitDefEqProofs := false) (disch := omega) only [↓reduceIte, go_sem, if_pos, if_neg]
    refine joinK_at _ (le_same _ _ (Nat.zero_le _)) ?_
    simp (maxSteps := 8000000) (implicitDefEqProofs := false) (disch := omega) only [↓reduceIte, go_sem, if_pos, if_neg]
    exact endK_same (.inr rfl) (Nat.zero_le _) (by simp (maxSteps := 8000000) (implicitDefEqProofs := false) (disch := omega) only [↓reduceIte, go_sem, if_pos, if_neg]) rfl
  · simp only [wtC] at hz ⊢
    have hlw : rows.length ≤ wtRs rows := wtRs_rows fun r hx => by
      have hrr := hr r hx
      obtain ⟨_, _, rfl, ⟨a0, rfl⟩, hrr⟩ := hrr; simp only [FitR] at hrr; subst hrr
      simp only [wtIs, wtI]; omega
    simp only [tvC_v, tvC_nl, tvC_sl, bkC, mkC, Nat.zero_add]
    generalize hnb : nbC _ = nb
    simp only [nbC] at hnb
    have hnb2 : ∀ i, nb = (bkRs 1 (mkAt rows k i)).length + 1 := fun i => by
      have := mkRs_nb (rows.take i) k; have h2 := nbRs_app (rows.take i) (rows.drop i)
      rw [List.take_append_drop] at h2; rw [bkRs_len, mkAt, nbRs_app]; omega
    (dsimp only [c29]; simp (maxSteps := 8000000) (implicitDefEqProofs := false) (disch := omega) only [↓reduceIte, go_sem, if_pos, if_neg])
    refine awpT_loop (α := Nat) (fun i => ⟨slots [(0, .os 0 0 rows.length), (1, .p (.int .i64 (k + (wtRs (rows.take i) : Int)))), (5, .p (.int .i64 i))], .cells 5 z (tvRs 1 (mkAt rows k i)) :: bkRs 1 (mkAt rows k i)⟩)
      (fun i => i ≤ rows.length) (fun i => rows.length - i) 0 (Nat.zero_le _) (by simp only [mkAt_zero, List.take_zero, wtRs, nat0T, Int.add_zero]; exact le_keep (by have := hnb2 0; rw [mkAt_zero] at this; rw [List.length_cons]; omega) (by simp (maxSteps := 8000000) (implicitDefEqProofs := false) (disch := omega) only [↓reduceIte, go_sem, if_pos, if_neg, slotsIn])) ?_
    intro i hi
    have hl1 : (tvRs 1 (mkAt rows k i)).length = rows.length := by rw [tvRs_len, mkAt_len]
    simp (maxSteps := 8000000) (implicitDefEqProofs := false) (disch := omega) only [↓reduceIte, go_sem, if_pos, if_neg, hl1]
    refine condKT_dec (fun hlt => ?_) (fun hge => ?_)
    · obtain ⟨r, hx⟩ := get_ex (l := rows) (i := i) (by omega)
      obtain rfl : z = 1 := by rcases hz0 with h | h; (rw [h] at hx; simp at hx); exact h
      have hrr := hr r (List.mem_of_getElem? hx)
      have hwr := wtRs_mem hx; have hsn := wtRs_snoc hx
      have hg := mkAt_get 1 (k := k) hx; have hs := mkAt_set 1 (k := k) hx
      generalize hm : k + (wtRs (rows.take i) : Int) = m at *
      obtain ⟨_, _, rfl, ⟨a0, rfl⟩, hrr⟩ := hrr; simp only [FitR] at hrr; subst hrr
      simp only [wtIs, wtI, Nat.add_zero] at hwr hsn
      simp only [mkIs, mkI, mkV, wtI, nat1T, tvCs, tvC_v, tvC_nl, tvC_sl, nbC, Nat.add_zero, mkC_tv, el_one, el_two] at hg hs
      have hb2 : bkRs 1 (mkAt rows k (i + 1)) = bkRs 1 (mkAt rows k i) := by rw [mkAt_bkn 1 hx, mkAt_bk 1 hx]; rfl
      simp (maxSteps := 8000000) (implicitDefEqProofs := false) (disch := omega) only [↓reduceIte, go_sem, if_pos, if_neg, hl1, hg, List.getElem?_set_self, List.set_set]
      refine loopKT_next (i + 1) (by omega) (by omega) ?_
      have hs2 : k + (wtRs (rows.take (i + 1)) : Int) = m + 1 := by rw [hsn]; omega
      rw [hs2, ← hs, hb2]
      exact le_keep (by have := hnb2 i; rw [List.length_cons]; omega) (by simp (maxSteps := 8000000) (implicitDefEqProofs := false) (disch := omega) only [↓reduceIte, go_sem, if_pos, if_neg, slotsIn])
    · have hb : rows.take i = rows := List.take_of_length_le (by omega)
      have hmf := mkAt_full (k := k) (show rows.length ≤ i by omega)
      have hnb3 := hnb2 i; rw [hmf] at hnb3
      simp (maxSteps := 8000000) (implicitDefEqProofs := false) (disch := omega) only [↓reduceIte, go_sem, if_pos, if_neg, eq_false hge, hb, hmf]
      refine joinK_at _ (le_same _ _ (by show nb ≤ List.length (_ :: _); rw [List.length_cons]; omega)) ?_
      simp (maxSteps := 8000000) (implicitDefEqProofs := false) (disch := omega) only [↓reduceIte, go_sem, if_pos, if_neg]
      exact endK_same (.inr rfl) (by rw [List.length_cons]; omega) (by simp (maxSteps := 8000000) (implicitDefEqProofs := false) (disch := omega) only [↓reduceIte, go_sem, if_pos, if_neg]) rfl
/-! BoxResult -/
def sh_BoxResult : List Shp := [.i .i64, .i .i64, .i .i64, sh_ByteS, .i .i64, sh_RuleS, sh_PeerS, sh_SaS, .i .i64, sh_Int64S]
theorem sh_BoxResult_Has {cs : List Cell} (h : HasR sh_BoxResult cs) : ∃ (a0 : Int) (a1 : Int) (a2 : Int) (a4 : Int) (a8 : Int) (c3 : Cell) (c5 : Cell) (c6 : Cell) (c7 : Cell) (c9 : Cell), cs = [.v (.int .i64 a0), .v (.int .i64 a1), .v (.int .i64 a2), c3, .v (.int .i64 a4), c5, c6, c7, .v (.int .i64 a8), c9] ∧ HasC sh_ByteS c3 ∧ HasC sh_RuleS c5 ∧ HasC sh_PeerS c6 ∧ HasC sh_SaS c7 ∧ HasC sh_Int64S c9 := by
  obtain ⟨_, _, rfl, ⟨a0, rfl, _⟩, _, _, rfl, ⟨a1, rfl, _⟩, _, _, rfl, ⟨a2, rfl, _⟩, c3, _, rfl, hc3, _, _, rfl, ⟨a4, rfl, _⟩, c5, _, rfl, hc5, c6, _, rfl, hc6, c7, _, rfl, hc7, _, _, rfl, ⟨a8, rfl, _⟩, c9, _, rfl, hc9, h⟩ := h
  simp only [HasR] at h; subst h
  exact ⟨a0, a1, a2, a4, a8, c3, c5, c6, c7, c9, rfl, hc3, hc5, hc6, hc7, hc9⟩
theorem sh_BoxResult_mkHas {c3 : Cell} {c5 : Cell} {c6 : Cell} {c7 : Cell} {c9 : Cell} (hc3 : HasC sh_ByteS c3) (hc5 : HasC sh_RuleS c5) (hc6 : HasC sh_PeerS c6) (hc7 : HasC sh_SaS c7) (hc9 : HasC sh_Int64S c9) (a0 : Int) (a1 : Int) (a2 : Int) (a4 : Int) (a8 : Int) : HasR sh_BoxResult [.v (.int .i64 a0), .v (.int .i64 a1), .v (.int .i64 a2), c3, .v (.int .i64 a4), c5, c6, c7, .v (.int .i64 a8), c9] := by
  exact ⟨_, _, rfl, ⟨_, rfl, fun h => by cases h⟩, _, _, rfl, ⟨_, rfl, fun h => by cases h⟩, _, _, rfl, ⟨_, rfl, fun h => by cases h⟩, _, _, rfl, hc3, _, _, rfl, ⟨_, rfl, fun h => by cases h⟩, _, _, rfl, hc5, _, _, rfl, hc6, _, _, rfl, hc7, _, _, rfl, ⟨_, rfl, fun h => by cases h⟩, _, _, rfl, hc9, rfl⟩
theorem sh_BoxResult_Fit {cs : List Cell} (h : FitR sh_BoxResult cs) : ∃ (a0 : Int) (a1 : Int) (a2 : Int) (a4 : Int) (a8 : Int) (c3 : Cell) (c5 : Cell) (c6 : Cell) (c7 : Cell) (c9 : Cell), cs = [.v (.int .i64 a0), .v (.int .i64 a1), .v (.int .i64 a2), c3, .v (.int .i64 a4), c5, c6, c7, .v (.int .i64 a8), c9] ∧ FitC sh_ByteS c3 ∧ FitC sh_RuleS c5 ∧ FitC sh_PeerS c6 ∧ FitC sh_SaS c7 ∧ FitC sh_Int64S c9 := by
  obtain ⟨_, _, rfl, ⟨a0, rfl⟩, _, _, rfl, ⟨a1, rfl⟩, _, _, rfl, ⟨a2, rfl⟩, c3, _, rfl, hc3, _, _, rfl, ⟨a4, rfl⟩, c5, _, rfl, hc5, c6, _, rfl, hc6, c7, _, rfl, hc7, _, _, rfl, ⟨a8, rfl⟩, c9, _, rfl, hc9, h⟩ := h
  simp only [FitR] at h; subst h
  exact ⟨a0, a1, a2, a4, a8, c3, c5, c6, c7, c9, rfl, hc3, hc5, hc6, hc7, hc9⟩
theorem sh_BoxResult_mkFit {c3 : Cell} {c5 : Cell} {c6 : Cell} {c7 : Cell} {c9 : Cell} (hc3 : FitC sh_ByteS c3) (hc5 : FitC sh_RuleS c5) (hc6 : FitC sh_PeerS c6) (hc7 : FitC sh_SaS c7) (hc9 : FitC sh_Int64S c9) (a0 : Int) (a1 : Int) (a2 : Int) (a4 : Int) (a8 : Int) : FitR sh_BoxResult [.v (.int .i64 a0), .v (.int .i64 a1), .v (.int .i64 a2), c3, .v (.int .i64 a4), c5, c6, c7, .v (.int .i64 a8), c9] := by
  exact ⟨_, _, rfl, ⟨_, rfl⟩, _, _, rfl, ⟨_, rfl⟩, _, _, rfl, ⟨_, rfl⟩, _, _, rfl, hc3, _, _, rfl, ⟨_, rfl⟩, _, _, rfl, hc5, _, _, rfl, hc6, _, _, rfl, hc7, _, _, rfl, ⟨_, rfl⟩, _, _, rfl, hc9, rfl⟩
theorem eq_BoxResult_at {c3 : Cell} {c5 : Cell} {c6 : Cell} {c7 : Cell} {c9 : Cell} (hc3 : FitC sh_ByteS c3) (hc5 : FitC sh_RuleS c5) (hc6 : FitC sh_PeerS c6) (hc7 : FitC sh_SaS c7) (hc9 : FitC sh_Int64S c9) (hz : szC c3 + szC c5 + szC c6 + szC c7 + szC c9 ≤ 1099511627776) (a0 : Int) (a1 : Int) (a2 : Int) (a4 : Int) (a8 : Int) : eqR_S sh_BoxResult [.agg [.p (.int .i64 a0), .p (.int .i64 a1), .p (.int .i64 a2), fzC c3, .p (.int .i64 a4), fzC c5, fzC c6, fzC c7, .p (.int .i64 a8), fzC c9], .agg [.p (.int .i64 a0), .p (.int .i64 a1), .p (.int .i64 a2), fzC c3, .p (.int .i64 a4), fzC c5, fzC c6, fzC c7, .p (.int .i64 a8), fzC c9]] = some (.p (.bool true), []) := by
  exact eqR_at (sh_BoxResult_mkFit hc3 hc5 hc6 hc7 hc9 a0 a1 a2 a4 a8) (by simp only [szCs, szC]; omega)
-- laws.eqBoxResult
def c65 : AF := ⟨32,
  (.seq (.reg [⟨(some 2), none, .box 103 (.t 0)⟩,
   ⟨(some 3), none, .box 103 (.t 1)⟩,
   ⟨(some 4), none, .mv (.v (.bool false))⟩])
  (.seq (.seq (.reg [⟨(some 5), none, .fa (.t 2) 0⟩,
   ⟨(some 6), none, .ld (.t 5)⟩,
   ⟨(some 7), none, .fa (.t 3) 0⟩,
   ⟨(some 8), none, .ld (.t 7)⟩,
   ⟨(some 9), none, .bin .neq (.t 6) (.t 8)⟩])
  (.cond (.t 9) (.seq (.reg [⟨(some 4), none, .mv (.v (.bool false))⟩])
  .ret)
  .skip))
  (.seq (.seq (.reg [⟨(some 10), none, .fa (.t 2) 1⟩,
   ⟨(some 11), none, .ld (.t 10)⟩,
   ⟨(some 12), none, .fa (.t 3) 1⟩,
   ⟨(some 13), none, .ld (.t 12)⟩,
   ⟨(some 14), none, .bin .neq (.t 11) (.t 13)⟩])
  (.cond (.t 14) (.seq (.reg [⟨(some 4), none, .mv (.v (.bool false))⟩])
  .ret)
  .skip))
  (.seq (.seq (.reg [⟨(some 15), none, .fa (.t 2) 2⟩,
   ⟨(some 16), none, .ld (.t 15)⟩,
   ⟨(some 17), none, .fa (.t 3) 2⟩,
   ⟨(some 18), none, .ld (.t 17)⟩,
   ⟨(some 19), none, .bin .neq (.t 16) (.t 18)⟩])
  (.cond (.t 19) (.seq (.reg [⟨(some 4), none, .mv (.v (.bool false))⟩])
  .ret)
  .skip))
  (.seq (.seq (.reg [⟨(some 20), none, .fa (.t 2) 3⟩,
   ⟨(some 21), none, .ld (.t 20)⟩,
   ⟨(some 22), none, .fa (.t 3) 3⟩,
   ⟨(some 23), none, .ld (.t 22)⟩,
   ⟨(some 24), none, .call 28 [(.t 21), (.t 23)]⟩,
   ⟨(some 25), none, .un .not (.t 24)⟩])
  (.cond (.t 25) (.seq (.reg [⟨(some 4), none, .mv (.v (.bool false))⟩])
  .ret)
  .skip))
  (.seq (.seq (.reg [⟨(some 26), none, .fa (.t 2) 4⟩,
   ⟨(some 27), none, .ldn 6 (.t 26)⟩,
   ⟨(some 28), none, .fa (.t 3) 4⟩,
   ⟨(some 29), none, .ldn 6 (.t 28)⟩,
   ⟨(some 30), none, .call 55 [(.t 27), (.t 29)]⟩,
   ⟨(some 31), none, .un .not (.t 30)⟩])
  (.cond (.t 31) (.seq (.reg [⟨(some 4), none, .mv (.v (.bool false))⟩])
  .ret)
  .skip))
  (.seq (.reg [⟨(some 4), none, .mv (.v (.bool true))⟩])
  .ret))))))),
  [.t 4]⟩
theorem k65 : cFn Try.prog Try.f65 = some c65 := by kernel_rfl
theorem eqBoxResult_ok : OkT Try.prog 65 (pureSp (eqR_S sh_BoxResult)) := by
  refine okT_eqR (OkΓT.cons eqByteS_ok (OkΓT.cons eqBox_ok (OkΓT.nil _))) Try.func65 (by kernel_rfl) k65 ?_
  intro c hc hz
  obtain ⟨a0, a1, a2, a4, a8, c3, c5, c6, c7, c9, rfl, hc3, hc5, hc6, hc7, hc9⟩ := sh_BoxResult_Fit hc
  simp only [szCs, szC] at hz
  simp only [fzCs, fzC]
  (dsimp only [c65]; simp (maxSteps := 8000000) (implicitDefEqProofs := false) (disch := omega) only [↓reduceIte, go_sem, if_pos, if_neg, eqC_at hc3 (by omega), eq_Box_at hc5 hc6 hc7 hc9 (by omega)])
  repeat' first
    | (refine gdKT_dec (fun hg => ?_) (fun hg => ?_) <;> (try (first | simp (maxSteps := 8000000) (implicitDefEqProofs := false) (disch := omega) only [↓reduceIte, go_sem, if_pos, if_neg, eq_false hg, eqC_at hc3 (by omega), eq_Box_at hc5 hc6 hc7 hc9 (by omega)] | simp (maxSteps := 8000000) (implicitDefEqProofs := false) (disch := omega) only [↓reduceIte, go_sem, if_pos, if_neg, eq_true hg, eqC_at hc3 (by omega), eq_Box_at hc5 hc6 hc7 hc9 (by omega)])))
    | (refine condKT_dec (fun hg => ?_) (fun hg => ?_) <;> (try (first | simp (maxSteps := 8000000) (implicitDefEqProofs := false) (disch := omega) only [↓reduceIte, go_sem, if_pos, if_neg, eq_false hg, eqC_at hc3 (by omega), eq_Box_at hc5 hc6 hc7 hc9 (by omega)] | simp (maxSteps := 8000000) (implicitDefEqProofs := false) (disch := omega) only [↓reduceIte, go_sem, if_pos, if_neg, eq_true hg, eqC_at hc3 (by omega), eq_Box_at hc5 hc6 hc7 hc9 (by omega)])))
    | (refine gdKT_split (fun hg => ?_) (fun hg => ?_) <;> (try simp (maxSteps := 8000000) (implicitDefEqProofs := false) (disch := omega) only [↓reduceIte, go_sem, if_pos, if_neg, hg, eqC_at hc3 (by omega), eq_Box_at hc5 hc6 hc7 hc9 (by omega)]))
    | (refine condKT_split (fun hg => ?_) (fun hg => ?_) <;> (try simp (maxSteps := 8000000) (implicitDefEqProofs := false) (disch := omega) only [↓reduceIte, go_sem, if_pos, if_neg, hg, eqC_at hc3 (by omega), eq_Box_at hc5 hc6 hc7 hc9 (by omega)]))
    | (refine endT_p (.inr rfl) (by simp (maxSteps := 8000000) (implicitDefEqProofs := false) (disch := omega) only [↓reduceIte, go_sem, if_pos, if_neg, eqC_at hc3 (by omega), eq_Box_at hc5 hc6 hc7 hc9 (by omega)]; rfl) ?_; (first | exact vb_true (by omega) | exact vb_false (by omega) | exact vb_dec (by omega) | exact vi_eq (by omega) | rfl | (refine vi_eq ?_; simp_all; done) | (refine vi_eq ?_; simp_all; omega) | (refine vi_eq ?_; simp_all; intros; omega)))
    | exact endT_v (.inr rfl) (by simp (maxSteps := 8000000) (implicitDefEqProofs := false) (disch := omega) only [↓reduceIte, go_sem, if_pos, if_neg, eqC_at hc3 (by omega), eq_Box_at hc5 hc6 hc7 hc9 (by omega)]; try rfl) (fun _ => rfl)
theorem hd_BoxResult_at {c3 : Cell} {c5 : Cell} {c6 : Cell} {c7 : Cell} {c9 : Cell} (hc3 : FitC sh_ByteS c3) (hc5 : FitC sh_RuleS c5) (hc6 : FitC sh_PeerS c6) (hc7 : FitC sh_SaS c7) (hc9 : FitC sh_Int64S c9) {k : Int} (hk : 0 ≤ k) (hz : k + (wtC c3 : Int) + (wtC c5 : Int) + (wtC c6 : Int) + (wtC c7 : Int) + (wtC c9 : Int) ≤ 1099511627776) (a0 : Int) (a1 : Int) (a2 : Int) (a4 : Int) (a8 : Int) : hdR_S sh_BoxResult [.agg [.p (.int .i64 a0), .p (.int .i64 a1), .p (.int .i64 a2), fzC (mkC c3 (k)), .p (.int .i64 a4), fzC (mkC c5 (k + (wtC c3 : Int))), fzC (mkC c6 (k + (wtC c3 : Int) + (wtC c5 : Int))), fzC (mkC c7 (k + (wtC c3 : Int) + (wtC c5 : Int) + (wtC c6 : Int))), .p (.int .i64 a8), fzC (mkC c9 (k + (wtC c3 : Int) + (wtC c5 : Int) + (wtC c6 : Int) + (wtC c7 : Int)))], .p (.int .i64 k)] = some (.p (.int .i64 (k + (wtC c3 : Int) + (wtC c5 : Int) + (wtC c6 : Int) + (wtC c7 : Int) + (wtC c9 : Int))), []) := by
  have := hdR_at (k := k) (sh_BoxResult_mkFit hc3 hc5 hc6 hc7 hc9 a0 a1 a2 a4 a8) hk (by simp only [wtCs, wtC_v]; omega)
  simp only [mkCs, mkC_v, wtC_v, nat0T, Int.add_zero, fzCs, fzC, wtCs, Nat.zero_add, Nat.add_zero] at this
  rw [this]; congr 4; omega
-- laws.heldBoxResult
def c71 : AF := ⟨18,
  (.seq (.reg [⟨(some 2), none, .box 103 (.t 0)⟩,
   ⟨(some 4), none, .mv (.v (.int .i64 0))⟩])
  (.seq (.reg [⟨(some 5), none, .fa (.t 2) 3⟩,
   ⟨(some 6), none, .ld (.t 5)⟩,
   ⟨(some 7), none, .mv (.t 1)⟩,
   ⟨(some 8), none, .call 117 [(.t 6), (.t 7)]⟩,
   ⟨(some 1), none, .mv (.t 8)⟩])
  (.seq (.seq (.reg [⟨(some 9), none, .mv (.t 1)⟩,
   ⟨(some 10), none, .bin .lss (.t 9) (.v (.int .i64 0))⟩])
  (.cond (.t 10) (.seq (.reg [⟨(some 4), none, .mv (.v (.int .i64 (-1)))⟩])
  .ret)
  .skip))
  (.seq (.reg [⟨(some 11), none, .fa (.t 2) 4⟩,
   ⟨(some 12), none, .ldn 6 (.t 11)⟩,
   ⟨(some 13), none, .mv (.t 1)⟩,
   ⟨(some 14), none, .call 162 [(.t 12), (.t 13)]⟩,
   ⟨(some 1), none, .mv (.t 14)⟩])
  (.seq (.seq (.reg [⟨(some 15), none, .mv (.t 1)⟩,
   ⟨(some 16), none, .bin .lss (.t 15) (.v (.int .i64 0))⟩])
  (.cond (.t 16) (.seq (.reg [⟨(some 4), none, .mv (.v (.int .i64 (-1)))⟩])
  .ret)
  .skip))
  (.seq (.reg [⟨(some 17), none, .mv (.t 1)⟩,
   ⟨(some 4), none, .mv (.t 17)⟩])
  .ret)))))),
  [.t 4]⟩
theorem k71 : cFn Try.prog Try.f71 = some c71 := by kernel_rfl
theorem heldBoxResult_ok : OkT Try.prog 71 (pureSp (hdR_S sh_BoxResult)) := by
  refine okT_hdR (OkΓT.cons heldByteS_ok (OkΓT.cons heldBox_ok (OkΓT.nil _))) Try.func71 (by kernel_rfl) k71 ?_
  intro c k hc h1 hz
  obtain ⟨a0, a1, a2, a4, a8, c3, c5, c6, c7, c9, rfl, hc3, hc5, hc6, hc7, hc9⟩ := sh_BoxResult_Fit hc
  simp only [wtCs, wtC_v, Nat.zero_add, Nat.add_zero] at hz ⊢
  simp only [mkCs, mkC_v, wtC_v, nat0T, Int.add_zero, fzCs, fzC]
  (dsimp only [c71]; simp (maxSteps := 8000000) (implicitDefEqProofs := false) (disch := omega) only [↓reduceIte, go_sem, if_pos, if_neg, hdC_at hc3 (show 0 ≤ k by omega) (by omega), hd_Box_at hc5 hc6 hc7 hc9 (show 0 ≤ k + (wtC c3 : Int) by omega) (by omega)])
  repeat' first
    | (refine gdKT_dec (fun hg => ?_) (fun hg => ?_) <;> (try (first | simp (maxSteps := 8000000) (implicitDefEqProofs := false) (disch := omega) only [↓reduceIte, go_sem, if_pos, if_neg, eq_false hg, hdC_at hc3 (show 0 ≤ k by omega) (by omega), hd_Box_at hc5 hc6 hc7 hc9 (show 0 ≤ k + (wtC c3 : Int) by omega) (by omega)] | simp (maxSteps := 8000000) (implicitDefEqProofs := false) (disch := omega) only [↓reduceIte, go_sem, if_pos, if_neg, eq_true hg, hdC_at hc3 (show 0 ≤ k by omega) (by omega), hd_Box_at hc5 hc6 hc7 hc9 (show 0 ≤ k + (wtC c3 : Int) by omega) (by omega)])))
    | (refine condKT_dec (fun hg => ?_) (fun hg => ?_) <;> (try (first | simp (maxSteps := 8000000) (implicitDefEqProofs := false) (disch := omega) only [↓reduceIte, go_sem, if_pos, if_neg, eq_false hg, hdC_at hc3 (show 0 ≤ k by omega) (by omega), hd_Box_at hc5 hc6 hc7 hc9 (show 0 ≤ k + (wtC c3 : Int) by omega) (by omega)] | simp (maxSteps := 8000000) (implicitDefEqProofs := false) (disch := omega) only [↓reduceIte, go_sem, if_pos, if_neg, eq_true hg, hdC_at hc3 (show 0 ≤ k by omega) (by omega), hd_Box_at hc5 hc6 hc7 hc9 (show 0 ≤ k + (wtC c3 : Int) by omega) (by omega)])))
    | (refine gdKT_split (fun hg => ?_) (fun hg => ?_) <;> (try simp (maxSteps := 8000000) (implicitDefEqProofs := false) (disch := omega) only [↓reduceIte, go_sem, if_pos, if_neg, hg, hdC_at hc3 (show 0 ≤ k by omega) (by omega), hd_Box_at hc5 hc6 hc7 hc9 (show 0 ≤ k + (wtC c3 : Int) by omega) (by omega)]))
    | (refine condKT_split (fun hg => ?_) (fun hg => ?_) <;> (try simp (maxSteps := 8000000) (implicitDefEqProofs := false) (disch := omega) only [↓reduceIte, go_sem, if_pos, if_neg, hg, hdC_at hc3 (show 0 ≤ k by omega) (by omega), hd_Box_at hc5 hc6 hc7 hc9 (show 0 ≤ k + (wtC c3 : Int) by omega) (by omega)]))
    | (refine endT_p (.inr rfl) (by simp (maxSteps := 8000000) (implicitDefEqProofs := false) (disch := omega) only [↓reduceIte, go_sem, if_pos, if_neg, hdC_at hc3 (show 0 ≤ k by omega) (by omega), hd_Box_at hc5 hc6 hc7 hc9 (show 0 ≤ k + (wtC c3 : Int) by omega) (by omega)]; rfl) ?_; (first | exact vb_true (by omega) | exact vb_false (by omega) | exact vb_dec (by omega) | exact vi_eq (by omega) | rfl | (refine vi_eq ?_; simp_all; done) | (refine vi_eq ?_; simp_all; omega) | (refine vi_eq ?_; simp_all; intros; omega)))
    | exact endT_v (.inr rfl) (by simp (maxSteps := 8000000) (implicitDefEqProofs := false) (disch := omega) only [↓reduceIte, go_sem, if_pos, if_neg, hdC_at hc3 (show 0 ≤ k by omega) (by omega), hd_Box_at hc5 hc6 hc7 hc9 (show 0 ≤ k + (wtC c3 : Int) by omega) (by omega)]; try rfl) (fun _ => rfl)
-- laws.markBoxResult
def c70 : AF := ⟨14,
  (.seq (.reg [⟨(some 2), none, .box 103 (.t 0)⟩,
   ⟨(some 4), none, .mv (.v (.int .i64 0))⟩])
  (.seq (.reg [⟨(some 5), none, .fa (.t 2) 3⟩,
   ⟨(some 6), none, .ld (.t 5)⟩,
   ⟨(some 7), none, .mv (.t 1)⟩,
   ⟨(some 8), none, .call 29 [(.t 6), (.t 7)]⟩,
   ⟨(some 1), none, .mv (.t 8)⟩])
  (.seq (.reg [⟨(some 9), none, .fa (.t 2) 4⟩,
   ⟨(some 10), none, .ldn 6 (.t 9)⟩,
   ⟨(some 11), none, .mv (.t 1)⟩,
   ⟨(some 12), none, .call 161 [(.t 10), (.t 11)]⟩,
   ⟨(some 1), none, .mv (.t 12)⟩])
  (.seq (.reg [⟨(some 13), none, .mv (.t 1)⟩,
   ⟨(some 4), none, .mv (.t 13)⟩])
  .ret)))),
  [.t 4]⟩
theorem k70 : cFn Try.prog Try.f70 = some c70 := by kernel_rfl
theorem markBoxResult_ok : OkT Try.prog 70 (mkR_Sp sh_BoxResult) := by
  refine okT_mkR (OkΓT.cons markByteS_ok (OkΓT.cons markBox_ok (OkΓT.nil _))) Try.func70 (by kernel_rfl) k70 ?_
  intro c k hc h1 hz
  obtain ⟨a0, a1, a2, a4, a8, c3, c5, c6, c7, c9, rfl, hc3, hc5, hc6, hc7, hc9⟩ := sh_BoxResult_Fit hc
  simp only [wtCs, wtC_v, Nat.zero_add, Nat.add_zero] at hz ⊢
  simp only [mkCs, mkC_v, wtC_v, nat0T, Int.add_zero]
  simp only [tvCs, tvC_v, tvC_nl, tvC_sl, nbC, Nat.add_zero, Nat.zero_add]
  generalize hN : nbCs _ = N
  have l0 : (bkCs 0 [.v (.int .i64 a0), .v (.int .i64 a1), .v (.int .i64 a2), c3, .v (.int .i64 a4), c5, c6, c7, .v (.int .i64 a8), c9]).length = N := by rw [bkCs_len]; exact hN
  (dsimp only [c70]; simp (maxSteps := 8000000) (implicitDefEqProofs := false) (disch := omega) only [↓reduceIte, go_sem, if_pos, if_neg, l0, get_last l0])
  have m0 := fun X => mk_cell (A := [.v (.int .i64 a0), .v (.int .i64 a1), .v (.int .i64 a2)]) (B := [.v (.int .i64 a4), c5, c6, c7, .v (.int .i64 a8), c9]) (G := [X]) (n := 0) (k := k) (by simp only [nbCs, nbC, mkC_nb] <;> omega) hc3 (by omega) (by omega)
  simp only [List.cons_append, List.nil_append, mkCs, mkC_v, wtCs, wtC_v, nat0T, Int.add_zero, Nat.add_zero, Nat.zero_add, tvCs, tvC_v, tvC_nl, tvC_sl, nbC, natAT, ← Int.add_assoc, mkC_tv, mkC_nb] at m0
  have l1 : (bkCs 0 [.v (.int .i64 a0), .v (.int .i64 a1), .v (.int .i64 a2), (mkC c3 (k)), .v (.int .i64 a4), c5, c6, c7, .v (.int .i64 a8), c9]).length = N := by rw [bkCs_len, ← hN]; simp only [nbCs, mkC_nb]
  refine mutQ_call (by simp (maxSteps := 8000000) (implicitDefEqProofs := false) (disch := omega) only [↓reduceIte, go_sem, if_pos, if_neg]; rfl) (by simp (maxSteps := 8000000) (implicitDefEqProofs := false) (disch := omega) only [↓reduceIte, go_sem, if_pos, if_neg]) (m0 _) ?_
  simp (maxSteps := 8000000) (implicitDefEqProofs := false) (disch := omega) only [↓reduceIte, go_sem, if_pos, if_neg, l1, get_last l1]
  have m1 := fun X => mk_cells (A := [.v (.int .i64 a0), .v (.int .i64 a1), .v (.int .i64 a2), (mkC c3 (k))]) (c := [.v (.int .i64 a4), c5, c6, c7, .v (.int .i64 a8), c9]) (B := []) (G := [X]) (n := nbC c3) (k := k + (wtC c3 : Int)) (by simp only [nbCs, nbC, mkC_nb] <;> omega) (sh_Box_mkFit hc5 hc6 hc7 hc9 a4 a8) (by omega) (by simp only [wtCs, wtC_v]; omega)
  simp only [List.cons_append, List.nil_append, mkCs, mkC_v, wtCs, wtC_v, nat0T, Int.add_zero, Nat.add_zero, Nat.zero_add, tvCs, tvC_v, tvC_nl, tvC_sl, nbC, natAT, ← Int.add_assoc, mkC_tv, mkC_nb] at m1
  have l2 : (bkCs 0 [.v (.int .i64 a0), .v (.int .i64 a1), .v (.int .i64 a2), (mkC c3 (k)), .v (.int .i64 a4), (mkC c5 (k + (wtC c3 : Int))), (mkC c6 (k + (wtC c3 : Int) + (wtC c5 : Int))), (mkC c7 (k + (wtC c3 : Int) + (wtC c5 : Int) + (wtC c6 : Int))), .v (.int .i64 a8), (mkC c9 (k + (wtC c3 : Int) + (wtC c5 : Int) + (wtC c6 : Int) + (wtC c7 : Int)))]).length = N := by rw [bkCs_len, ← hN]; simp only [nbCs, mkC_nb]
  refine mutQ_call (by simp (maxSteps := 8000000) (implicitDefEqProofs := false) (disch := omega) only [↓reduceIte, go_sem, if_pos, if_neg]; rfl) (by simp (maxSteps := 8000000) (implicitDefEqProofs := false) (disch := omega) only [↓reduceIte, go_sem, if_pos, if_neg]) (m1 _) ?_
  simp (maxSteps := 8000000) (implicitDefEqProofs := false) (disch := omega) only [↓reduceIte, go_sem, if_pos, if_neg, l2, get_last l2]
  exact endK_cells (.inr rfl) (by rw [← hN]; simp only [nbCs, mkC_nb]; omega) (by (simp (maxSteps := 8000000) (implicitDefEqProofs := false) (disch := omega) only [↓reduceIte, go_sem, if_pos, if_neg, natAT, ← Int.add_assoc]) <;> rfl) rfl
end Go.Proofs.Ytkijbknnbmbnbaa
