import Derived.Test.YtkijbknnbmbnbaaE11
set_option linter.unusedSimpArgs false
set_option linter.unusedVariables false
set_option maxRecDepth 100000
set_option maxHeartbeats 4000000
namespace Go.Proofs.Ytkijbknnbmbnbaa
open Go Go.AH
attribute [local irreducible] awpT ropsT qopsT stepT condKT gdKT EndT joinK loopKT seqKT blkKT kont kontR
/-! Unpadding -/
noncomputable def eqS_S := specP (fun x : List Int × List Int => [.s (bsT x.1), .s (bsT x.2)]) (fun x => (isB x.1) ∧ (isB x.2) ∧ (x.1.length ≤ 1073741824) ∧ (x.2.length ≤ 1073741824)) (fun x => (.p (.bool (decide (x.1 = x.2))), []))
theorem eqS_at (a : List Int) (b : List Int) (h : (isB a) ∧ (isB b) ∧ (a.length ≤ 1073741824) ∧ (b.length ≤ 1073741824)) : eqS_S [.s (bsT a), .s (bsT b)] = some ((.p (.bool (decide (a = b))), [])) := specP_at (enc := fun x : List Int × List Int => [.s (bsT x.1), .s (bsT x.2)]) (by rintro ⟨a0, a1⟩ ⟨b0, b1⟩ h; simp only [List.cons.injEq, and_true] at h; obtain ⟨h0, h1⟩ := h; obtain rfl := sby_inj h0; obtain rfl := sby_inj h1; rfl) (a, b) h
-- slices.Equal[[]byte,byte]
def c98 : AF := ⟨26,
  (.seq (.reg [⟨(some 4), none, .mv (.v (.bool false))⟩])
  (.seq (.seq (.reg [⟨(some 6), none, .mv (.t 0)⟩,
   ⟨(some 7), none, .len (.t 6)⟩,
   ⟨(some 8), none, .mv (.t 1)⟩,
   ⟨(some 9), none, .len (.t 8)⟩,
   ⟨(some 10), none, .bin .neq (.t 7) (.t 9)⟩])
  (.cond (.t 10) (.seq (.reg [⟨(some 4), none, .mv (.v (.bool false))⟩])
  .ret)
  .skip))
  (.seq (.seq (.reg [⟨(some 11), none, .mv (.t 0)⟩,
   ⟨(some 12), none, .len (.t 11)⟩,
   ⟨(some 13), none, .mv (.v (.int .i64 0))⟩])
  (.block 0 (.loop (.seq (.reg [⟨(some 14), none, .bin .lss (.t 13) (.t 12)⟩])
  (.seq (.cond (.t 14) .skip
  (.exit 0))
  (.seq (.block 1 (.seq (.reg [⟨(some 15), none, .mv (.t 13)⟩,
   ⟨(some 5), none, .mv (.t 15)⟩])
  (.seq (.drw [⟨(some 16), none, .mv (.t 0)⟩,
   ⟨(some 17), none, .mv (.t 5)⟩,
   ⟨(some 18), none, .ia 1 (.t 16) (.t 17)⟩,
   ⟨(some 19), none, .ld (.t 18)⟩,
   ⟨(some 20), none, .mv (.t 1)⟩,
   ⟨(some 21), none, .mv (.t 5)⟩,
   ⟨(some 22), none, .ia 1 (.t 20) (.t 21)⟩,
   ⟨(some 23), none, .ld (.t 22)⟩] [⟨(some 24), none, .bin .neq (.t 19) (.t 23)⟩])
  (.cond (.t 24) (.seq (.reg [⟨(some 4), none, .mv (.v (.bool false))⟩])
  .ret)
  .skip))))
  (.reg [⟨(some 25), none, .bin .add (.t 13) (.v (.int .i64 1))⟩,
   ⟨(some 13), none, .mv (.t 25)⟩])))))))
  (.seq (.reg [⟨(some 4), none, .mv (.v (.bool true))⟩])
  .ret)))),
  [.t 4]⟩
theorem k98 : cFn Try.prog Try.f98 = some c98 := by kernel_rfl
theorem eqSB_ok : OkT Try.prog 98 (pureSp eqS_S) := by
  refine okT_fn (OkΓT.nil _) Try.func98 (by kernel_rfl) k98 (fun x _ => ⟨by first | rfl | simp only [go_sem], by first | rfl | simp only [go_sem]⟩) ?_
  rintro ⟨a, b⟩ ⟨h1, h2, h3, h4⟩
  try dsimp only at *
  have ha := bs_len a
  have hb := bs_len b
  by_cases hl : a.length = b.length
  case neg =>
    have hl' : ¬ (a.length : Int) = b.length := by omega
    rw [decide_eq_false (fun e => hl (by rw [e]))]
    (dsimp only [c98]; simp (maxSteps := 8000000) (implicitDefEqProofs := false) (disch := omega) only [↓reduceIte, go_sem, if_pos, if_neg, ha, hb, eq_false hl'])
    exact endT_v (.inr rfl) (by (simp (maxSteps := 8000000) (implicitDefEqProofs := false) (disch := omega) only [↓reduceIte, go_sem, if_pos, if_neg]) <;> rfl) (fun _ => rfl)
  have hl' : (a.length : Int) = b.length := by omega
  (dsimp only [c98]; simp (maxSteps := 8000000) (implicitDefEqProofs := false) (disch := omega) only [↓reduceIte, go_sem, if_pos, if_neg, ha, hb, eq_true hl'])
  refine awpT_loop (α := Nat) (fun i => ⟨slots [(0, .s (bsT a)), (1, .s (bsT b)), (11, .s (bsT a)), (12, .p (.int .i64 a.length)), (13, .p (.int .i64 i))], []⟩) (fun i => i ≤ b.length ∧ a.take i = b.take i) (fun i => b.length - i) 0 ⟨Nat.zero_le _, rfl⟩ (by simp only [nat0T]; exact (le_of [] (by simp (maxSteps := 8000000) (implicitDefEqProofs := false) (disch := omega) only [↓reduceIte, go_sem, if_pos, if_neg]) (by simp (maxSteps := 8000000) (implicitDefEqProofs := false) (disch := omega) only [↓reduceIte, go_sem, if_pos, if_neg]) (by decide) (by simp))) ?_
  intro i ⟨hi, he⟩
  simp (maxSteps := 8000000) (implicitDefEqProofs := false) (disch := omega) only [↓reduceIte, go_sem, if_pos, if_neg]
  refine condKT_dec (fun hlt => ?_) (fun hge => ?_)
  · have hib : i < b.length := by omega
    have hia : i < a.length := by omega
    have ga := bs_get hia
    have gb := bs_get hib
    by_cases hx : a.getD i 0 = b.getD i 0
    · simp (maxSteps := 8000000) (implicitDefEqProofs := false) (disch := omega) only [↓reduceIte, go_sem, if_pos, if_neg, eq_true hlt, Int.toNat_natCast, ha, hb, ga, gb, eq_true hx]
      refine loopKT_next (i + 1) ⟨by omega, ?_⟩ (by omega) ?_
      · rw [List.take_succ_eq_append_getElem hia, List.take_succ_eq_append_getElem hib, he]
        congr 2
        simpa [hia, hib] using hx
      · exact (le_of [] (by simp (maxSteps := 8000000) (implicitDefEqProofs := false) (disch := omega) only [↓reduceIte, go_sem, if_pos, if_neg]) (by simp (maxSteps := 8000000) (implicitDefEqProofs := false) (disch := omega) only [↓reduceIte, go_sem, if_pos, if_neg]) (by decide) (by simp))
    · rw [decide_eq_false (fun e => hx (by rw [e]))]
      simp (maxSteps := 8000000) (implicitDefEqProofs := false) (disch := omega) only [↓reduceIte, go_sem, if_pos, if_neg, eq_true hlt, Int.toNat_natCast, ha, hb, ga, gb, eq_false hx]
      exact endT_v (.inr rfl) (by (simp (maxSteps := 8000000) (implicitDefEqProofs := false) (disch := omega) only [↓reduceIte, go_sem, if_pos, if_neg]) <;> rfl) (fun _ => rfl)
  · have hab : a = b := by
      rw [List.take_of_length_le (by omega), List.take_of_length_le (by omega)] at he
      exact he
    rw [decide_eq_true hab]
    simp (maxSteps := 8000000) (implicitDefEqProofs := false) (disch := omega) only [↓reduceIte, go_sem, if_pos, if_neg, eq_false hge]
    refine joinK_here ?_
    simp (maxSteps := 8000000) (implicitDefEqProofs := false) (disch := omega) only [↓reduceIte, go_sem, if_pos, if_neg]
    exact endT_v (.inr rfl) (by (simp (maxSteps := 8000000) (implicitDefEqProofs := false) (disch := omega) only [↓reduceIte, go_sem, if_pos, if_neg]) <;> rfl) (fun _ => rfl)

open Classical in
/-- Whether bytes are padded ones. -/
noncomputable def upB (l : List Int) : Bool := decide (2 ≤ l.length ∧ (padV l).toNat + 2 ≤ l.length ∧ l.length - 2 - (padV l).toNat ≤ 400 ∧ ∃ S, unpS l S)
theorem upB_true {l : List Int} (a : 2 ≤ l.length) (b : (padV l).toNat + 2 ≤ l.length) (c : l.length - 2 - (padV l).toNat ≤ 400) (d : ∃ S, unpS l S) : upB l = true := by
  unfold upB; simp only [decide_eq_true_eq]; exact ⟨a, b, c, d⟩
theorem upB_false {l : List Int} (h : (2 ≤ l.length ∧ (padV l).toNat + 2 ≤ l.length ∧ l.length - 2 - (padV l).toNat ≤ 400 ∧ ∃ S, unpS l S) → False) : upB l = false := by
  unfold upB; simp only [decide_eq_false_iff_not]; exact h
theorem padV_bd {l : List Int} (h : isB l) : 0 ≤ padV l ∧ padV l < 256 := isB_get h _
theorem nextV_bd {l : List Int} (h : isB l) : 0 ≤ nextV l ∧ nextV l < 256 := isB_get h _
noncomputable def upT (l : List Int) : TV × THeap := if upB l = true then (.tup [.os 0 0 (ownV l).length, .p (.int .i64 (nextV l)), .p (.int .i64 (padV l)), .p (.bool true)], [.cells 5 1 (bsT (ownV l))]) else (.tup [.nl, .p (.int .i64 0), .p (.int .i64 0), .p (.bool false)], [])
theorem upT_bad {l : List Int} (h : upB l = false) : upT l = (.tup [.nl, .p (.int .i64 0), .p (.int .i64 0), .p (.bool false)], []) := by unfold upT; rw [h]; rfl
theorem upT_ok {l : List Int} (h : upB l = true) : upT l = (.tup [.os 0 0 (ownV l).length, .p (.int .i64 (nextV l)), .p (.int .i64 (padV l)), .p (.bool true)], [.cells 5 1 (bsT (ownV l))]) := by unfold upT; rw [if_pos h]
theorem upT_own (l : List Int) : ownT (upT l).1 = true ∧ (upT l).2.all ownB = true := by
  unfold upT; split
  · exact ⟨rfl, by simp only [go_sem, List.all_cons, List.all_nil]⟩
  · exact ⟨rfl, rfl⟩
noncomputable def up_S := specP (fun x : List Int => [.s (bsT x)]) (fun x => (isB x) ∧ (x.length ≤ 1048576)) (fun x => upT x)
theorem up_at (l : List Int) (h : (isB l) ∧ (l.length ≤ 1048576)) : up_S [.s (bsT l)] = some (upT l) := specP_at (enc := fun x : List Int => [.s (bsT x)]) (by rintro a0 b0 h; simp only [List.cons.injEq, and_true] at h; have h0 := h; obtain rfl := sby_inj h0; rfl) l h
-- spec.l14Unpad
def c193 : AF := ⟨87,
  (.seq (.reg [⟨(some 2), none, .mv (.v (.slice none 0 0))⟩,
   ⟨(some 3), none, .mv (.v (.int .i64 0))⟩,
   ⟨(some 4), none, .mv (.v (.int .i64 0))⟩,
   ⟨(some 5), none, .mv (.v (.bool false))⟩])
  (.seq (.reg [⟨(some 11), none, .mv (.t 0)⟩,
   ⟨(some 12), none, .len (.t 11)⟩,
   ⟨(some 6), none, .mv (.t 12)⟩])
  (.seq (.seq (.reg [⟨(some 13), none, .mv (.t 6)⟩,
   ⟨(some 14), none, .bin .lss (.t 13) (.v (.int .i64 2))⟩])
  (.cond (.t 14) (.seq (.reg [⟨(some 2), none, .mv (.v (.slice none 0 0))⟩,
   ⟨(some 3), none, .mv (.v (.int .i64 0))⟩,
   ⟨(some 4), none, .mv (.v (.int .i64 0))⟩,
   ⟨(some 5), none, .mv (.v (.bool false))⟩])
  .ret)
  .skip))
  (.seq (.reg [⟨(some 15), none, .mv (.t 0)⟩,
   ⟨(some 16), none, .mv (.t 6)⟩,
   ⟨(some 17), none, .bin .sub (.t 16) (.v (.int .i64 2))⟩,
   ⟨(some 18), none, .ia 1 (.t 15) (.t 17)⟩,
   ⟨(some 19), none, .ld (.t 18)⟩,
   ⟨(some 20), none, .cvI .i64 (.t 19)⟩,
   ⟨(some 7), none, .mv (.t 20)⟩])
  (.seq (.seq (.reg [⟨(some 21), none, .mv (.t 7)⟩,
   ⟨(some 22), none, .bin .gtr (.t 21) (.v (.int .i64 15))⟩,
   ⟨(some 23), none, .mv (.t 22)⟩,
   ⟨(some 24), (some (23, false)), .mv (.t 7)⟩,
   ⟨(some 25), (some (23, false)), .mv (.t 6)⟩,
   ⟨(some 26), (some (23, false)), .bin .sub (.t 25) (.v (.int .i64 2))⟩,
   ⟨(some 27), (some (23, false)), .bin .gtr (.t 24) (.t 26)⟩,
   ⟨(some 28), none, .pick (.t 23) (.v (.bool true)) (.t 27)⟩])
  (.cond (.t 28) (.seq (.reg [⟨(some 2), none, .mv (.v (.slice none 0 0))⟩,
   ⟨(some 3), none, .mv (.v (.int .i64 0))⟩,
   ⟨(some 4), none, .mv (.v (.int .i64 0))⟩,
   ⟨(some 5), none, .mv (.v (.bool false))⟩])
  .ret)
  .skip))
  (.seq (.seq (.reg [⟨(some 8), none, .mv (.v (.int .i64 1))⟩])
  (.block 0 (.loop (.seq (.seq (.reg [⟨(some 29), none, .mv (.t 8)⟩,
   ⟨(some 30), none, .mv (.t 7)⟩,
   ⟨(some 31), none, .bin .leq (.t 29) (.t 30)⟩])
  (.cond (.t 31) .skip
  (.exit 0)))
  (.seq (.block 1 (.seq (.reg [⟨(some 34), none, .mv (.t 0)⟩,
   ⟨(some 35), none, .mv (.t 6)⟩,
   ⟨(some 36), none, .bin .sub (.t 35) (.v (.int .i64 2))⟩,
   ⟨(some 37), none, .mv (.t 7)⟩,
   ⟨(some 38), none, .bin .sub (.t 36) (.t 37)⟩,
   ⟨(some 39), none, .mv (.t 8)⟩,
   ⟨(some 40), none, .bin .add (.t 38) (.t 39)⟩,
   ⟨(some 41), none, .bin .sub (.t 40) (.v (.int .i64 1))⟩,
   ⟨(some 42), none, .ia 1 (.t 34) (.t 41)⟩,
   ⟨(some 43), none, .ld (.t 42)⟩,
   ⟨(some 44), none, .cvI .i64 (.t 43)⟩,
   ⟨(some 45), none, .mv (.t 8)⟩,
   ⟨(some 46), none, .bin .neq (.t 44) (.t 45)⟩])
  (.cond (.t 46) (.seq (.reg [⟨(some 2), none, .mv (.v (.slice none 0 0))⟩,
   ⟨(some 3), none, .mv (.v (.int .i64 0))⟩,
   ⟨(some 4), none, .mv (.v (.int .i64 0))⟩,
   ⟨(some 5), none, .mv (.v (.bool false))⟩])
  .ret)
  .skip)))
  (.reg [⟨(some 32), none, .mv (.t 8)⟩,
   ⟨(some 33), none, .bin .add (.t 32) (.v (.int .i64 1))⟩,
   ⟨(some 8), none, .mv (.t 33)⟩]))))))
  (.seq (.reg [⟨(some 9), none, .mv (.v (.bool false))⟩])
  (.seq (.seq (.reg [⟨(some 10), none, .mv (.v (.int .i64 1))⟩])
  (.block 2 (.loop (.seq (.seq (.reg [⟨(some 47), none, .mv (.t 10)⟩,
   ⟨(some 48), none, .bin .leq (.t 47) (.v (.int .i64 16))⟩])
  (.cond (.t 48) .skip
  (.exit 2)))
  (.seq (.block 3 (.reg [⟨(some 51), none, .mv (.t 9)⟩,
   ⟨(some 52), none, .mv (.t 51)⟩,
   ⟨(some 53), (some (52, false)), .mv (.t 6)⟩,
   ⟨(some 54), (some (52, false)), .mv (.t 10)⟩,
   ⟨(some 55), (some (52, false)), .bin .rem (.t 53) (.t 54)⟩,
   ⟨(some 56), (some (52, false)), .bin .eql (.t 55) (.v (.int .i64 0))⟩,
   ⟨(some 57), (some (52, false)), .mv (.t 56)⟩,
   ⟨(some 58), (some (57, true)), .mv (.t 7)⟩,
   ⟨(some 59), (some (57, true)), .mv (.t 10)⟩,
   ⟨(some 60), (some (57, true)), .bin .lss (.t 58) (.t 59)⟩,
   ⟨(some 61), (some (52, false)), .pick (.t 57) (.t 60) (.v (.bool false))⟩,
   ⟨(some 62), none, .pick (.t 52) (.v (.bool true)) (.t 61)⟩,
   ⟨(some 9), none, .mv (.t 62)⟩]))
  (.reg [⟨(some 49), none, .mv (.t 10)⟩,
   ⟨(some 50), none, .bin .add (.t 49) (.v (.int .i64 1))⟩,
   ⟨(some 10), none, .mv (.t 50)⟩]))))))
  (.seq (.seq (.reg [⟨(some 63), none, .mv (.t 9)⟩,
   ⟨(some 64), none, .un .not (.t 63)⟩,
   ⟨(some 65), none, .mv (.t 64)⟩,
   ⟨(some 66), (some (65, false)), .mv (.t 6)⟩,
   ⟨(some 67), (some (65, false)), .bin .sub (.t 66) (.v (.int .i64 2))⟩,
   ⟨(some 68), (some (65, false)), .mv (.t 7)⟩,
   ⟨(some 69), (some (65, false)), .bin .sub (.t 67) (.t 68)⟩,
   ⟨(some 70), (some (65, false)), .bin .gtr (.t 69) (.v (.int .i64 400))⟩,
   ⟨(some 71), none, .pick (.t 65) (.v (.bool true)) (.t 70)⟩])
  (.cond (.t 71) (.seq (.reg [⟨(some 2), none, .mv (.v (.slice none 0 0))⟩,
   ⟨(some 3), none, .mv (.v (.int .i64 0))⟩,
   ⟨(some 4), none, .mv (.v (.int .i64 0))⟩,
   ⟨(some 5), none, .mv (.v (.bool false))⟩])
  .ret)
  .skip))
  (.seq (.drw [⟨(some 72), none, .mkE⟩,
   ⟨(some 73), none, .mv (.t 0)⟩,
   ⟨(some 74), none, .mv (.t 6)⟩,
   ⟨(some 75), none, .bin .sub (.t 74) (.v (.int .i64 2))⟩,
   ⟨(some 76), none, .mv (.t 7)⟩,
   ⟨(some 77), none, .bin .sub (.t 75) (.t 76)⟩,
   ⟨(some 78), none, .sl 1 (.t 73) none (some (.t 77))⟩,
   ⟨(some 79), none, .app 5 1 1 (.t 72) (.t 78)⟩,
   ⟨(some 80), none, .mv (.t 0)⟩,
   ⟨(some 81), none, .mv (.t 6)⟩,
   ⟨(some 82), none, .bin .sub (.t 81) (.v (.int .i64 1))⟩,
   ⟨(some 83), none, .ia 1 (.t 80) (.t 82)⟩,
   ⟨(some 84), none, .ld (.t 83)⟩,
   ⟨(some 85), none, .cvI .i64 (.t 84)⟩,
   ⟨(some 86), none, .mv (.t 7)⟩,
   ⟨(some 2), none, .mv (.t 79)⟩,
   ⟨(some 3), none, .mv (.t 85)⟩] [⟨(some 4), none, .mv (.t 86)⟩,
   ⟨(some 5), none, .mv (.v (.bool true))⟩])
  .ret)))))))))),
  [.t 2, .t 3, .t 4, .t 5]⟩
theorem k193 : cFn Try.prog Try.f193 = some c193 := by kernel_rfl
theorem upS_ok : OkT Try.prog 193 (pureSp up_S) := by
  refine okT_fn (OkΓT.nil _) Try.func193 (by kernel_rfl) k193 (fun x _ => upT_own _) ?_
  rintro l ⟨h1, h2⟩
  try dsimp only at *
  have hlen := bs_len l
  have hpb := padV_bd h1
  by_cases c0 : (l.length : Int) < 2
  case pos =>
    rw [upT_bad (upB_false fun h => by omega)]
    (dsimp only [c193]; simp (maxSteps := 8000000) (implicitDefEqProofs := false) (disch := omega) only [↓reduceIte, go_sem, if_pos, if_neg, hlen, eq_true c0])
    exact endT_v (.inr rfl) (by (simp (maxSteps := 8000000) (implicitDefEqProofs := false) (disch := omega) only [↓reduceIte, go_sem, if_pos, if_neg]) <;> rfl) (fun _ => rfl)
  have g0 := bs_get (l := l) (i := l.length - 2) (by omega)
  have e0 : ((l.length : Int) - 2).toNat = l.length - 2 := by omega
  rw [show l.getD (l.length - 2) 0 = padV l from rfl] at g0
  obtain ⟨p, hp⟩ := Int.eq_ofNat_of_zero_le hpb.1
  by_cases c1 : padV l > 15
  case pos =>
    rw [upT_bad (upB_false fun h => by have := (unp_iff l h1 h.1 p hp (by omega)).1 h.2.2.2; omega)]
    (dsimp only [c193]; simp (maxSteps := 8000000) (implicitDefEqProofs := false) (disch := omega) only [↓reduceIte, go_sem, if_pos, if_neg, hlen, eq_false c0, e0, g0, eq_true c1])
    exact endT_v (.inr rfl) (by (simp (maxSteps := 8000000) (implicitDefEqProofs := false) (disch := omega) only [↓reduceIte, go_sem, if_pos, if_neg]) <;> rfl) (fun _ => rfl)
  by_cases c2 : padV l > (l.length : Int) - 2
  case pos =>
    rw [upT_bad (upB_false fun h => by omega)]
    (dsimp only [c193]; simp (maxSteps := 8000000) (implicitDefEqProofs := false) (disch := omega) only [↓reduceIte, go_sem, if_pos, if_neg, hlen, eq_false c0, e0, g0, eq_false c1, eq_true c2])
    exact endT_v (.inr rfl) (by (simp (maxSteps := 8000000) (implicitDefEqProofs := false) (disch := omega) only [↓reduceIte, go_sem, if_pos, if_neg]) <;> rfl) (fun _ => rfl)
  have hiff := unp_iff l h1 (by omega) p hp (by omega)
  (dsimp only [c193]; simp (maxSteps := 8000000) (implicitDefEqProofs := false) (disch := omega) only [↓reduceIte, go_sem, if_pos, if_neg, hlen, eq_false c0, e0, g0, eq_false c1, eq_false c2])
  simp only [hp]
  refine awpT_loop (α := Nat) (fun i => ⟨slots [(0, .s (bsT l)), (6, .p (.int .i64 l.length)), (7, .p (.int .i64 p)), (8, .p (.int .i64 ((i : Int) + 1)))], []⟩) (fun i => i ≤ p ∧ ∀ k, k < i → l.getD (l.length - 2 - p + k) 0 = (k : Int) + 1) (fun i => p - i) 0 ⟨Nat.zero_le _, fun k hk => absurd hk (by omega)⟩ (by simp only [nat0T, Int.zero_add]; exact (le_of [] (by simp (maxSteps := 8000000) (implicitDefEqProofs := false) (disch := omega) only [↓reduceIte, go_sem, if_pos, if_neg]) (by simp (maxSteps := 8000000) (implicitDefEqProofs := false) (disch := omega) only [↓reduceIte, go_sem, if_pos, if_neg]) (by decide) (by simp))) ?_
  intro i ⟨hi, he⟩
  simp (maxSteps := 8000000) (implicitDefEqProofs := false) (disch := omega) only [↓reduceIte, go_sem, if_pos, if_neg]
  refine condKT_dec (fun hlt => ?_) (fun hge => ?_)
  · have gi := bs_get (l := l) (i := l.length - 2 - p + i) (by omega)
    have ei : ((l.length : Int) - 2 - p + ((i : Int) + 1) - 1).toNat = l.length - 2 - p + i := by omega
    have hbi := isB_get h1 (l.length - 2 - p + i)
    by_cases hx : l.getD (l.length - 2 - p + i) 0 = (i : Int) + 1
    · simp (maxSteps := 8000000) (implicitDefEqProofs := false) (disch := omega) only [↓reduceIte, go_sem, if_pos, if_neg, eq_true hlt, hlen, ei, gi, eq_true hx]
      refine loopKT_next (i + 1) ⟨by omega, fun k hk => ?_⟩ (by omega) ?_
      · by_cases hki : k = i
        · subst hki; exact hx
        · exact he k (by omega)
      · exact (le_of [] (by simp (maxSteps := 8000000) (implicitDefEqProofs := false) (disch := omega) only [↓reduceIte, go_sem, if_pos, if_neg]) (by simp (maxSteps := 8000000) (implicitDefEqProofs := false) (disch := omega) only [↓reduceIte, go_sem, if_pos, if_neg]) (by decide) (by simp))
    · rw [upT_bad (upB_false fun h => hx ((hiff.1 h.2.2.2).2.1 i (by omega)))]
      simp (maxSteps := 8000000) (implicitDefEqProofs := false) (disch := omega) only [↓reduceIte, go_sem, if_pos, if_neg, eq_true hlt, hlen, ei, gi, eq_false hx]
      exact endT_v (.inr rfl) (by (simp (maxSteps := 8000000) (implicitDefEqProofs := false) (disch := omega) only [↓reduceIte, go_sem, if_pos, if_neg]) <;> rfl) (fun _ => rfl)
  · have hip : i = p := by omega
    subst hip
    simp (maxSteps := 8000000) (implicitDefEqProofs := false) (disch := omega) only [↓reduceIte, go_sem, if_pos, if_neg, eq_false hge]
    refine joinK_here ?_
    simp (maxSteps := 8000000) (implicitDefEqProofs := false) (disch := omega) only [↓reduceIte, go_sem, if_pos, if_neg]
    refine awpT_loop (α := Nat) (fun j => ⟨slots [(0, .s (bsT l)), (6, .p (.int .i64 l.length)), (7, .p (.int .i64 i)), (9, .p (.bool (fitsN l.length i j))), (10, .p (.int .i64 ((j : Int) + 1)))], []⟩) (fun j => j ≤ 16) (fun j => 16 - j) 0 (by omega) (by simp only [nat0T, Int.zero_add, fitsN]; exact (le_of [] (by simp (maxSteps := 8000000) (implicitDefEqProofs := false) (disch := omega) only [↓reduceIte, go_sem, if_pos, if_neg]) (by simp (maxSteps := 8000000) (implicitDefEqProofs := false) (disch := omega) only [↓reduceIte, go_sem, if_pos, if_neg]) (by decide) (by simp))) ?_
    intro j hj
    have hq := rem64 (n := (l.length : Int)) (b := (j : Int) + 1) (by omega) (by omega)
    rw [show (j : Int) + 1 = ((j + 1 : Nat) : Int) by omega, natmod] at hq
    have hfs : fitsN l.length i (j + 1) = (fitsN l.length i j || (decide (l.length % (j + 1) = 0) && decide (i < j + 1))) := rfl
    generalize hfg : fitsN l.length i j = f at *
    have hr1 : ((l.length % (j + 1) : Nat) : Int) = 0 ↔ l.length % (j + 1) = 0 := by omega
    generalize l.length % (j + 1) = r at *
    rw [show ((j + 1 : Nat) : Int) = (j : Int) + 1 by omega] at hq
    simp (maxSteps := 8000000) (implicitDefEqProofs := false) (disch := omega) only [↓reduceIte, go_sem, if_pos, if_neg]
    refine condKT_dec (fun hlt => ?_) (fun hge => ?_)
    · by_cases hf : f = true
      · subst hf
        simp (maxSteps := 8000000) (implicitDefEqProofs := false) (disch := omega) only [↓reduceIte, go_sem, if_pos, if_neg, eq_true hlt]
        refine loopKT_next (j + 1) (by omega) (by omega) ?_
        rw [hfs]
        exact (le_of [] (by simp (maxSteps := 8000000) (implicitDefEqProofs := false) (disch := omega) only [↓reduceIte, go_sem, if_pos, if_neg, Bool.true_or]) (by simp (maxSteps := 8000000) (implicitDefEqProofs := false) (disch := omega) only [↓reduceIte, go_sem, if_pos, if_neg, Bool.true_or]) (by decide) (by simp))
      · have hf : f = false := by simpa using hf
        subst hf
        by_cases hr : r = 0
        · by_cases hij : (i : Int) < (j : Int) + 1
          · simp (maxSteps := 8000000) (implicitDefEqProofs := false) (disch := omega) only [↓reduceIte, go_sem, if_pos, if_neg, eq_true hlt, ↓hq, eq_true (show (r : Int) = 0 by omega), eq_true hij]
            refine loopKT_next (j + 1) (by omega) (by omega) ?_
            rw [hfs, decide_eq_true hr, decide_eq_true (show i < j + 1 by omega)]
            exact (le_of [] (by simp (maxSteps := 8000000) (implicitDefEqProofs := false) (disch := omega) only [↓reduceIte, go_sem, if_pos, if_neg, Bool.false_or, Bool.and_self, Bool.true_and]) (by simp (maxSteps := 8000000) (implicitDefEqProofs := false) (disch := omega) only [↓reduceIte, go_sem, if_pos, if_neg, Bool.false_or, Bool.and_self, Bool.true_and]) (by decide) (by simp))
          · simp (maxSteps := 8000000) (implicitDefEqProofs := false) (disch := omega) only [↓reduceIte, go_sem, if_pos, if_neg, eq_true hlt, ↓hq, eq_true (show (r : Int) = 0 by omega), eq_false hij]
            refine loopKT_next (j + 1) (by omega) (by omega) ?_
            rw [hfs, decide_eq_true hr, decide_eq_false (show ¬ i < j + 1 by omega)]
            exact (le_of [] (by simp (maxSteps := 8000000) (implicitDefEqProofs := false) (disch := omega) only [↓reduceIte, go_sem, if_pos, if_neg, Bool.false_or, Bool.and_self, Bool.true_and]) (by simp (maxSteps := 8000000) (implicitDefEqProofs := false) (disch := omega) only [↓reduceIte, go_sem, if_pos, if_neg, Bool.false_or, Bool.and_self, Bool.true_and]) (by decide) (by simp))
        · simp (maxSteps := 8000000) (implicitDefEqProofs := false) (disch := omega) only [↓reduceIte, go_sem, if_pos, if_neg, eq_true hlt, ↓hq, eq_false (show ¬ (r : Int) = 0 by omega)]
          refine loopKT_next (j + 1) (by omega) (by omega) ?_
          rw [hfs, decide_eq_false hr]
          exact (le_of [] (by simp (maxSteps := 8000000) (implicitDefEqProofs := false) (disch := omega) only [↓reduceIte, go_sem, if_pos, if_neg, Bool.false_or, Bool.false_and]) (by simp (maxSteps := 8000000) (implicitDefEqProofs := false) (disch := omega) only [↓reduceIte, go_sem, if_pos, if_neg, Bool.false_or, Bool.false_and]) (by decide) (by simp))
    · have hj16 : j = 16 := by omega
      subst hj16
      have hff := fits16 l.length i
      have hown : ownV l = l.take (l.length - 2 - i) := by simp [ownV, hp]
      by_cases hf : f = true
      · subst hf
        have hfb : fitsB l.length i := hff.1 hfg
        by_cases c5 : (l.length : Int) - 2 - i > 400
        · rw [upT_bad (upB_false fun h => by omega)]
          simp (maxSteps := 8000000) (implicitDefEqProofs := false) (disch := omega) only [↓reduceIte, go_sem, if_pos, if_neg, eq_false hge]
          refine joinK_here ?_
          simp (maxSteps := 8000000) (implicitDefEqProofs := false) (disch := omega) only [↓reduceIte, go_sem, if_pos, if_neg, eq_true c5]
          exact endT_v (.inr rfl) (by (simp (maxSteps := 8000000) (implicitDefEqProofs := false) (disch := omega) only [↓reduceIte, go_sem, if_pos, if_neg]) <;> rfl) (fun _ => rfl)
        · have hex : ∃ S, unpS l S := hiff.2 ⟨by omega, he, hfb⟩
          have g1 := bs_get (l := l) (i := l.length - 1) (by omega)
          rw [show l.getD (l.length - 1) 0 = nextV l from rfl] at g1
          have hnb := nextV_bd h1
          have e1 : ((l.length : Int) - 1).toNat = l.length - 1 := by omega
          have e2 : ((l.length : Int) - 2 - i).toNat = l.length - 2 - i := by omega
          have e3 : ((l.length : Int) - 2 - i - 0).toNat = l.length - 2 - i := by omega
          have hbl := bs_len (l.take (l.length - 2 - i))
          have hll : (l.take (l.length - 2 - i)).length = l.length - 2 - i := by rw [List.length_take]; omega
          rw [upT_ok (upB_true (by omega) (by omega) (by omega) hex), hown, hp, hll]
          simp (maxSteps := 8000000) (implicitDefEqProofs := false) (disch := omega) only [↓reduceIte, go_sem, if_pos, if_neg, eq_false hge]
          refine joinK_here ?_
          simp (maxSteps := 8000000) (implicitDefEqProofs := false) (disch := omega) only [↓reduceIte, go_sem, if_pos, if_neg, eq_false c5, hlen, e1, e2, e3, g1, hbl, hll]
          exact endT_of [0] (.inr rfl) (by simp (maxSteps := 8000000) (implicitDefEqProofs := false) (disch := omega) only [↓reduceIte, go_sem, if_pos, if_neg]; rfl) (by simp (maxSteps := 8000000) (implicitDefEqProofs := false) (disch := omega) only [↓reduceIte, go_sem, if_pos, if_neg]) (by simp (maxSteps := 8000000) (implicitDefEqProofs := false) (disch := omega) only [↓reduceIte, go_sem, if_pos, if_neg]) (by decide) (by simp)
      · have hf : f = false := by simpa using hf
        subst hf
        have hfb : ¬ fitsB l.length i := fun h => by have := hff.2 h; rw [hfg] at this; cases this
        rw [upT_bad (upB_false fun h => hfb (hiff.1 h.2.2.2).2.2)]
        simp (maxSteps := 8000000) (implicitDefEqProofs := false) (disch := omega) only [↓reduceIte, go_sem, if_pos, if_neg, eq_false hge]
        refine joinK_here ?_
        simp (maxSteps := 8000000) (implicitDefEqProofs := false) (disch := omega) only [↓reduceIte, go_sem, if_pos, if_neg]
        exact endT_v (.inr rfl) (by (simp (maxSteps := 8000000) (implicitDefEqProofs := false) (disch := omega) only [↓reduceIte, go_sem, if_pos, if_neg]) <;> rfl) (fun _ => rfl)

def unV0 (c : Int) : TV × THeap := (.agg [.p (.int .i64 c), .nl, .p (.int .i64 0), .p (.int .i64 0)], [])
noncomputable def unV (l : List Int) : TV × THeap := if (l.length : Int) > 418 then unV0 2 else if upB l = true then (.agg [.p (.int .i64 0), .os 0 0 (ownV l).length, .p (.int .i64 (nextV l)), .p (.int .i64 (padV l))], [.cells 5 1 (bsT (ownV l))]) else unV0 5
theorem unV_2 {l : List Int} (h : (l.length : Int) > 418) : unV l = (.agg [.p (.int .i64 2), .nl, .p (.int .i64 0), .p (.int .i64 0)], []) := by unfold unV; rw [if_pos h]; rfl
theorem unV_5 {l : List Int} (h : ¬ (l.length : Int) > 418) (h1 : upB l = false) : unV l = (.agg [.p (.int .i64 5), .nl, .p (.int .i64 0), .p (.int .i64 0)], []) := by unfold unV; rw [if_neg h, h1]; rfl
theorem unV_0 {l : List Int} (h : ¬ (l.length : Int) > 418) (h1 : upB l = true) : unV l = (.agg [.p (.int .i64 0), .os 0 0 (ownV l).length, .p (.int .i64 (nextV l)), .p (.int .i64 (padV l))], [.cells 5 1 (bsT (ownV l))]) := by unfold unV; rw [if_neg h, if_pos h1]
theorem unV_own (l : List Int) : ownT (unV l).1 = true ∧ (unV l).2.all ownB = true := by
  unfold unV; split
  · exact ⟨rfl, rfl⟩
  · split
    · exact ⟨rfl, by simp only [go_sem, List.all_cons, List.all_nil]⟩
    · exact ⟨rfl, rfl⟩
noncomputable def unp_S := specP (fun x : List Int => [.s (bsT x)]) (fun x => (isB x) ∧ (x.length ≤ 1048576)) (fun x => unV x)
theorem unp_at (l : List Int) (h : (isB l) ∧ (l.length ≤ 1048576)) : unp_S [.s (bsT l)] = some (unV l) := specP_at (enc := fun x : List Int => [.s (bsT x)]) (by rintro a0 b0 h; simp only [List.cons.injEq, and_true] at h; have h0 := h; obtain rfl := sby_inj h0; rfl) l h
-- spec.UnpadBytes
def c120 : AF := ⟨25,
  (.seq (.reg [⟨(some 2), none, .alloc 30 [(.int .i64 0), (.slice none 0 0), (.int .i64 0), (.int .i64 0)]⟩])
  (.seq (.seq (.reg [⟨(some 7), none, .mv (.t 0)⟩,
   ⟨(some 8), none, .len (.t 7)⟩,
   ⟨(some 9), none, .bin .gtr (.t 8) (.v (.int .i64 418))⟩])
  (.cond (.t 9) (.seq (.reg [⟨(some 10), none, .build [(.int .i64 0), (.slice none 0 0), (.int .i64 0), (.int .i64 0)] [(0, 1, (.v (.int .i64 2)))]⟩,
   ⟨none, none, .st 4 (.t 2) (.t 10)⟩])
  .ret)
  .skip))
  (.seq (.reg [⟨(some 12), none, .mv (.t 0)⟩,
   ⟨(some 13), none, .call 193 [(.t 12)]⟩,
   ⟨(some 11), none, .mv (.t 13)⟩,
   ⟨(some 14), none, .ext (.t 11) 0⟩,
   ⟨(some 15), none, .ext (.t 11) 1⟩,
   ⟨(some 16), none, .ext (.t 11) 2⟩,
   ⟨(some 17), none, .ext (.t 11) 3⟩,
   ⟨(some 3), none, .mv (.t 14)⟩,
   ⟨(some 4), none, .mv (.t 15)⟩,
   ⟨(some 5), none, .mv (.t 16)⟩,
   ⟨(some 6), none, .mv (.t 17)⟩])
  (.seq (.seq (.reg [⟨(some 18), none, .mv (.t 6)⟩,
   ⟨(some 19), none, .un .not (.t 18)⟩])
  (.cond (.t 19) (.seq (.reg [⟨(some 20), none, .build [(.int .i64 0), (.slice none 0 0), (.int .i64 0), (.int .i64 0)] [(0, 1, (.v (.int .i64 5)))]⟩,
   ⟨none, none, .st 4 (.t 2) (.t 20)⟩])
  .ret)
  .skip))
  (.seq (.reg [⟨(some 21), none, .mv (.t 3)⟩,
   ⟨(some 22), none, .mv (.t 4)⟩,
   ⟨(some 23), none, .mv (.t 5)⟩,
   ⟨(some 24), none, .build [(.int .i64 0), (.slice none 0 0), (.int .i64 0), (.int .i64 0)] [(1, 1, (.t 21)), (2, 1, (.t 22)), (3, 1, (.t 23))]⟩,
   ⟨none, none, .st 4 (.t 2) (.t 24)⟩])
  .ret))))),
  [.cell 2 (some 4)]⟩
theorem k120 : cFn Try.prog Try.f120 = some c120 := by kernel_rfl
theorem unpS_ok : OkT Try.prog 120 (pureSp unp_S) := by
  refine okT_fn (OkΓT.cons upS_ok (OkΓT.nil _)) Try.func120 (by kernel_rfl) k120 (fun x _ => unV_own _) ?_
  rintro l ⟨h1, h2⟩
  try dsimp only at *
  have hlen := bs_len l
  by_cases c0 : (l.length : Int) > 418
  case pos =>
    rw [unV_2 c0]
    (dsimp only [c120]; simp (maxSteps := 8000000) (implicitDefEqProofs := false) (disch := omega) only [↓reduceIte, go_sem, if_pos, if_neg, hlen, eq_true c0])
    exact endT_v (.inr rfl) (by (simp (maxSteps := 8000000) (implicitDefEqProofs := false) (disch := omega) only [↓reduceIte, go_sem, if_pos, if_neg]) <;> rfl) (fun _ => rfl)
  have q := up_at l ⟨h1, h2⟩
  by_cases c1 : upB l = true
  · rw [upT_ok c1] at q
    rw [unV_0 c0 c1]
    (dsimp only [c120]; simp (maxSteps := 8000000) (implicitDefEqProofs := false) (disch := omega) only [↓reduceIte, go_sem, if_pos, if_neg, hlen, eq_false c0, q])
    exact endT_of [1] (.inr rfl) (by simp (maxSteps := 8000000) (implicitDefEqProofs := false) (disch := omega) only [↓reduceIte, go_sem, if_pos, if_neg]; rfl) (by simp (maxSteps := 8000000) (implicitDefEqProofs := false) (disch := omega) only [↓reduceIte, go_sem, if_pos, if_neg]) (by simp (maxSteps := 8000000) (implicitDefEqProofs := false) (disch := omega) only [↓reduceIte, go_sem, if_pos, if_neg]) (by decide) (by simp)
  · have c1 : upB l = false := by simpa using c1
    rw [upT_bad c1] at q
    rw [unV_5 c0 c1]
    (dsimp only [c120]; simp (maxSteps := 8000000) (implicitDefEqProofs := false) (disch := omega) only [↓reduceIte, go_sem, if_pos, if_neg, hlen, eq_false c0, q])
    exact endT_v (.inr rfl) (by (simp (maxSteps := 8000000) (implicitDefEqProofs := false) (disch := omega) only [↓reduceIte, go_sem, if_pos, if_neg]) <;> rfl) (fun _ => rfl)
-- impl.UnpadBytes
def c18 : AF := ⟨64,
  (.seq (.reg [⟨(some 2), none, .alloc 30 [(.int .i64 0), (.slice none 0 0), (.int .i64 0), (.int .i64 0)]⟩])
  (.seq (.seq (.reg [⟨(some 8), none, .mv (.t 0)⟩,
   ⟨(some 9), none, .len (.t 8)⟩,
   ⟨(some 10), none, .bin .gtr (.t 9) (.v (.int .i64 418))⟩])
  (.cond (.t 10) (.seq (.reg [⟨(some 11), none, .build [(.int .i64 0), (.slice none 0 0), (.int .i64 0), (.int .i64 0)] [(0, 1, (.v (.int .i64 2)))]⟩,
   ⟨none, none, .st 4 (.t 2) (.t 11)⟩])
  .ret)
  .skip))
  (.seq (.reg [⟨(some 12), none, .mv (.t 0)⟩,
   ⟨(some 13), none, .len (.t 12)⟩,
   ⟨(some 14), none, .bin .sub (.t 13) (.v (.int .i64 2))⟩,
   ⟨(some 3), none, .mv (.t 14)⟩])
  (.seq (.seq (.reg [⟨(some 15), none, .mv (.t 3)⟩,
   ⟨(some 16), none, .bin .lss (.t 15) (.v (.int .i64 0))⟩,
   ⟨(some 17), none, .mv (.t 16)⟩,
   ⟨(some 18), (some (17, false)), .mv (.t 0)⟩,
   ⟨(some 19), (some (17, false)), .mv (.t 3)⟩,
   ⟨(some 20), (some (17, false)), .ia 1 (.t 18) (.t 19)⟩,
   ⟨(some 21), (some (17, false)), .ld (.t 20)⟩,
   ⟨(some 22), (some (17, false)), .cvI .i64 (.t 21)⟩,
   ⟨(some 23), (some (17, false)), .mv (.t 3)⟩,
   ⟨(some 24), (some (17, false)), .bin .gtr (.t 22) (.t 23)⟩,
   ⟨(some 25), none, .pick (.t 17) (.v (.bool true)) (.t 24)⟩])
  (.cond (.t 25) (.seq (.reg [⟨(some 26), none, .build [(.int .i64 0), (.slice none 0 0), (.int .i64 0), (.int .i64 0)] [(0, 1, (.v (.int .i64 5)))]⟩,
   ⟨none, none, .st 4 (.t 2) (.t 26)⟩])
  .ret)
  .skip))
  (.seq (.drw [⟨(some 27), none, .mv (.t 0)⟩,
   ⟨(some 28), none, .mv (.t 3)⟩,
   ⟨(some 29), none, .ia 1 (.t 27) (.t 28)⟩,
   ⟨(some 30), none, .ld (.t 29)⟩,
   ⟨(some 31), none, .cvI .i64 (.t 30)⟩,
   ⟨(some 32), none, .mv (.t 0)⟩,
   ⟨(some 33), none, .mv (.t 3)⟩,
   ⟨(some 34), none, .bin .add (.t 33) (.v (.int .i64 1))⟩,
   ⟨(some 35), none, .ia 1 (.t 32) (.t 34)⟩,
   ⟨(some 36), none, .ld (.t 35)⟩,
   ⟨(some 4), none, .mv (.t 31)⟩] [⟨(some 5), none, .mv (.t 36)⟩])
  (.seq (.reg [⟨(some 37), none, .mv (.t 0)⟩,
   ⟨(some 38), none, .mv (.t 3)⟩,
   ⟨(some 39), none, .mv (.t 4)⟩,
   ⟨(some 40), none, .bin .sub (.t 38) (.t 39)⟩,
   ⟨(some 41), none, .sl 1 (.t 37) none (some (.t 40))⟩,
   ⟨(some 6), none, .mv (.t 41)⟩])
  (.seq (.seq (.reg [⟨(some 7), none, .mv (.v (.int .i64 1))⟩])
  (.block 0 (.loop (.seq (.seq (.reg [⟨(some 42), none, .mv (.t 7)⟩,
   ⟨(some 43), none, .bin .leq (.t 42) (.v (.int .i64 16))⟩])
  (.cond (.t 43) .skip
  (.exit 0)))
  (.seq (.block 1 (.seq (.reg [⟨(some 46), none, .mv (.t 6)⟩,
   ⟨(some 47), none, .len (.t 46)⟩,
   ⟨(some 48), none, .bin .leq (.t 47) (.v (.int .i64 400))⟩,
   ⟨(some 49), none, .mv (.t 48)⟩,
   ⟨(some 50), (some (49, true)), .mv (.t 6)⟩,
   ⟨(some 51), (some (49, true)), .mv (.t 7)⟩,
   ⟨(some 52), (some (49, true)), .mv (.t 5)⟩,
   ⟨(some 53), (some (49, true)), .call 96 [(.t 50), (.t 51), (.t 52)]⟩,
   ⟨(some 54), (some (49, true)), .mv (.t 0)⟩,
   ⟨(some 55), (some (49, true)), .call 98 [(.t 53), (.t 54)]⟩,
   ⟨(some 56), none, .pick (.t 49) (.t 55) (.v (.bool false))⟩])
  (.cond (.t 56) (.seq (.reg [⟨(some 57), none, .mv (.t 6)⟩,
   ⟨(some 58), none, .call 99 [(.t 57)]⟩,
   ⟨(some 59), none, .mv (.t 5)⟩,
   ⟨(some 60), none, .cvI .i64 (.t 59)⟩,
   ⟨(some 61), none, .mv (.t 4)⟩,
   ⟨(some 62), none, .build [(.int .i64 0), (.slice none 0 0), (.int .i64 0), (.int .i64 0)] [(0, 1, (.v (.int .i64 0))), (1, 1, (.t 58)), (2, 1, (.t 60)), (3, 1, (.t 61))]⟩,
   ⟨none, none, .st 4 (.t 2) (.t 62)⟩])
  .ret)
  .skip)))
  (.reg [⟨(some 44), none, .mv (.t 7)⟩,
   ⟨(some 45), none, .bin .add (.t 44) (.v (.int .i64 1))⟩,
   ⟨(some 7), none, .mv (.t 45)⟩]))))))
  (.seq (.reg [⟨(some 63), none, .build [(.int .i64 0), (.slice none 0 0), (.int .i64 0), (.int .i64 0)] [(0, 1, (.v (.int .i64 5)))]⟩,
   ⟨none, none, .st 4 (.t 2) (.t 63)⟩])
  .ret)))))))),
  [.cell 2 (some 4)]⟩
theorem k18 : cFn Try.prog Try.f18 = some c18 := by kernel_rfl
theorem unpI_ok : OkT Try.prog 18 (pureSp unp_S) := by
  refine okT_fn (OkΓT.cons padI_ok (OkΓT.cons eqSB_ok (OkΓT.cons cloneB_ok (OkΓT.nil _)))) Try.func18 (by kernel_rfl) k18 (fun x _ => unV_own _) ?_
  rintro l ⟨h1, h2⟩
  try dsimp only at *
  have hlen := bs_len l
  have hpb := padV_bd h1
  have hnb := nextV_bd h1
  by_cases c0 : (l.length : Int) > 418
  case pos =>
    rw [unV_2 c0]
    (dsimp only [c18]; simp (maxSteps := 8000000) (implicitDefEqProofs := false) (disch := omega) only [↓reduceIte, go_sem, if_pos, if_neg, hlen, eq_true c0])
    exact endT_v (.inr rfl) (by (simp (maxSteps := 8000000) (implicitDefEqProofs := false) (disch := omega) only [↓reduceIte, go_sem, if_pos, if_neg]) <;> rfl) (fun _ => rfl)
  by_cases c1 : (l.length : Int) - 2 < 0
  case pos =>
    rw [unV_5 c0 (upB_false fun h => by omega)]
    (dsimp only [c18]; simp (maxSteps := 8000000) (implicitDefEqProofs := false) (disch := omega) only [↓reduceIte, go_sem, if_pos, if_neg, hlen, eq_false c0, eq_true c1])
    exact endT_v (.inr rfl) (by (simp (maxSteps := 8000000) (implicitDefEqProofs := false) (disch := omega) only [↓reduceIte, go_sem, if_pos, if_neg]) <;> rfl) (fun _ => rfl)
  have g0 := bs_get (l := l) (i := l.length - 2) (by omega)
  have e0 : ((l.length : Int) - 2).toNat = l.length - 2 := by omega
  rw [show l.getD (l.length - 2) 0 = padV l from rfl] at g0
  by_cases c2 : padV l > (l.length : Int) - 2
  case pos =>
    rw [unV_5 c0 (upB_false fun h => by omega)]
    (dsimp only [c18]; simp (maxSteps := 8000000) (implicitDefEqProofs := false) (disch := omega) only [↓reduceIte, go_sem, if_pos, if_neg, hlen, eq_false c0, eq_false c1, e0, g0, eq_true c2])
    exact endT_v (.inr rfl) (by (simp (maxSteps := 8000000) (implicitDefEqProofs := false) (disch := omega) only [↓reduceIte, go_sem, if_pos, if_neg]) <;> rfl) (fun _ => rfl)
  have g1 := bs_get (l := l) (i := l.length - 1) (by omega)
  rw [show l.getD (l.length - 1) 0 = nextV l from rfl] at g1
  have e1 : ((l.length : Int) - 2 + 1).toNat = l.length - 1 := by omega
  have e3 : ((l.length : Int) - 2 - padV l - 0).toNat = l.length - 2 - (padV l).toNat := by omega
  have e4 : ((l.length : Int) - 2 - padV l).toNat = l.length - 2 - (padV l).toNat := by omega
  have hob : isB (ownV l) := isB_take h1 _
  have hol : (ownV l).length = l.length - 2 - (padV l).toNat := by unfold ownV; rw [List.length_take]; omega
  have hob2 := bs_len (ownV l)
  have how : l.take (l.length - 2 - (padV l).toNat) = ownV l := rfl
  (dsimp only [c18]; simp (maxSteps := 8000000) (implicitDefEqProofs := false) (disch := omega) only [↓reduceIte, go_sem, if_pos, if_neg, hlen, eq_false c0, eq_false c1, e0, e1, e3, e4, g0, g1, eq_false c2, how])
  refine awpT_loop (α := Nat) (fun i => ⟨slots [(0, .s (bsT l)), (2, .op 0 0 0), (4, .p (.int .i64 (padV l))), (5, .p (.int .u8 (nextV l))), (6, .s (bsT (ownV l))), (7, .p (.int .i64 ((i : Int) + 1)))], [.cells 30 4 [.agg [.p (.int .i64 0), .nl, .p (.int .i64 0), .p (.int .i64 0)]]]⟩) (fun i => i ≤ 16 ∧ ((l.length - 2 - (padV l).toNat ≤ 400) → ∀ S, unpS l S → i < S)) (fun i => 16 - i) 0 ⟨Nat.zero_le _, fun _ S hS => hS.1⟩ (by simp only [nat0T, Int.zero_add]; exact (le_of [0] (by simp (maxSteps := 8000000) (implicitDefEqProofs := false) (disch := omega) only [↓reduceIte, go_sem, if_pos, if_neg]) (by simp (maxSteps := 8000000) (implicitDefEqProofs := false) (disch := omega) only [↓reduceIte, go_sem, if_pos, if_neg]) (by decide) (by simp))) ?_
  intro i ⟨hi, he⟩
  simp (maxSteps := 8000000) (implicitDefEqProofs := false) (disch := omega) only [↓reduceIte, go_sem, if_pos, if_neg]
  refine condKT_dec (fun hlt => ?_) (fun hge => ?_)
  · by_cases c5 : ((ownV l).length : Int) ≤ 400
    · have q1 := pad_at (ownV l) (i + 1) (nextV l) ⟨hob, by omega, by omega, hnb⟩
      rw [show ((i + 1 : Nat) : Int) = (i : Int) + 1 by omega] at q1
      have hpl := padL_len (ownV l) (i + 1) (nextV l)
      have hpn := padN_bd (n := (ownV l).length) (S := i + 1) (by omega)
      have q2 := eqS_at (padL (ownV l) (i + 1) (nextV l)) l ⟨padL_bd hob (by omega) (by omega), h1, by omega, by omega⟩
      have hpt : (padL (ownV l) (i + 1) (nextV l)).take (padL (ownV l) (i + 1) (nextV l)).length = padL (ownV l) (i + 1) (nextV l) := List.take_length
      by_cases hx : padL (ownV l) (i + 1) (nextV l) = l
      · have q3 := cloneB_at (ownV l) (by omega)
        rw [unV_0 c0 (upB_true (by omega) (by omega) (by omega) ⟨i + 1, by omega, by omega, hx⟩)]
        simp (maxSteps := 8000000) (implicitDefEqProofs := false) (disch := omega) only [↓reduceIte, go_sem, if_pos, if_neg, eq_true hlt, hob2, eq_true c5, q1, hpt, q2, eq_true hx, q3]
        exact endT_of [2] (.inr rfl) (by simp (maxSteps := 8000000) (implicitDefEqProofs := false) (disch := omega) only [↓reduceIte, go_sem, if_pos, if_neg]; rfl) (by simp (maxSteps := 8000000) (implicitDefEqProofs := false) (disch := omega) only [↓reduceIte, go_sem, if_pos, if_neg]) (by simp (maxSteps := 8000000) (implicitDefEqProofs := false) (disch := omega) only [↓reduceIte, go_sem, if_pos, if_neg]) (by decide) (by simp)
      · simp (maxSteps := 8000000) (implicitDefEqProofs := false) (disch := omega) only [↓reduceIte, go_sem, if_pos, if_neg, eq_true hlt, hob2, eq_true c5, q1, hpt, q2, eq_false hx]
        refine loopKT_next (i + 1) ⟨by omega, fun h S hS => ?_⟩ (by omega) ?_
        · have := he h S hS
          by_cases hSi : S = i + 1
          · subst hSi; exact absurd hS.2.2 hx
          · omega
        · exact (le_of [0] (by simp (maxSteps := 8000000) (implicitDefEqProofs := false) (disch := omega) only [↓reduceIte, go_sem, if_pos, if_neg]) (by simp (maxSteps := 8000000) (implicitDefEqProofs := false) (disch := omega) only [↓reduceIte, go_sem, if_pos, if_neg]) (by decide) (by simp))
    · simp (maxSteps := 8000000) (implicitDefEqProofs := false) (disch := omega) only [↓reduceIte, go_sem, if_pos, if_neg, eq_true hlt, hob2, eq_false c5]
      refine loopKT_next (i + 1) ⟨by omega, fun h => absurd h (by omega)⟩ (by omega) ?_
      exact (le_of [0] (by simp (maxSteps := 8000000) (implicitDefEqProofs := false) (disch := omega) only [↓reduceIte, go_sem, if_pos, if_neg]) (by simp (maxSteps := 8000000) (implicitDefEqProofs := false) (disch := omega) only [↓reduceIte, go_sem, if_pos, if_neg]) (by decide) (by simp))
  · rw [unV_5 c0 (upB_false fun ⟨_, _, h3, S, hS⟩ => by have := he h3 S hS; have := hS.2.1; omega)]
    simp (maxSteps := 8000000) (implicitDefEqProofs := false) (disch := omega) only [↓reduceIte, go_sem, if_pos, if_neg, eq_false hge]
    refine joinK_here ?_
    simp (maxSteps := 8000000) (implicitDefEqProofs := false) (disch := omega) only [↓reduceIte, go_sem, if_pos, if_neg]
    exact endT_v (.inr rfl) (by (simp (maxSteps := 8000000) (implicitDefEqProofs := false) (disch := omega) only [↓reduceIte, go_sem, if_pos, if_neg]) <;> rfl) (fun _ => rfl)
end Go.Proofs.Ytkijbknnbmbnbaa
