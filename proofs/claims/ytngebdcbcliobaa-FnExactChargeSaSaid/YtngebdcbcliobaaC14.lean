import Derived.Test.YtngebdcbcliobaaC13
set_option linter.unusedSimpArgs false
set_option linter.unusedVariables false
set_option maxRecDepth 100000
set_option maxHeartbeats 4000000
namespace Go.Proofs.Ytngebdcbcliobaa
open Go Go.AH
attribute [local irreducible] awpT ropsT qopsT stepT condKT gdKT EndT joinK loopKT seqKT blkKT kont kontR
/-! Holding -/
noncomputable def heldS_S := specP (fun x : List SlR × Int => [.s (rowsT slT x.1), .p (.int .i64 x.2)]) (fun x => x.1 = markL x.2 x.1.length ∧ 0 ≤ x.2 ∧ x.2 ≤ 1000000000 ∧ x.1.length ≤ 1048576) (fun x => (.p (.int .i64 (x.2 + 9 * x.1.length)), []))
theorem heldS_at (l : List SlR) (m : Int) (h : l = markL m l.length ∧ 0 ≤ m ∧ m ≤ 1000000000 ∧ l.length ≤ 1048576) : heldS_S [.s (rowsT slT l), .p (.int .i64 m)] = some (.p (.int .i64 (m + 9 * l.length)), []) :=
  specP_at (enc := fun x : List SlR × Int => [.s (rowsT slT x.1), .p (.int .i64 x.2)]) (by rintro ⟨a, b⟩ ⟨a', b'⟩ h; simp at h; simp [sls_inj h.1, h.2]) (l, m) h
-- laws.heldSelS
def c152 : AF := ⟨102,
  (.seq (.reg [⟨(some 4), none, .mv (.v (.int .i64 0))⟩])
  (.seq (.seq (.reg [⟨(some 5), none, .mv (.v (.int .i64 0))⟩])
  (.block 0 (.loop (.seq (.seq (.reg [⟨(some 6), none, .mv (.t 5)⟩,
   ⟨(some 7), none, .mv (.t 0)⟩,
   ⟨(some 8), none, .len (.t 7)⟩,
   ⟨(some 9), none, .bin .lss (.t 6) (.t 8)⟩])
  (.cond (.t 9) .skip
  (.exit 0)))
  (.seq (.block 1 (.seq (.seq (.reg [⟨(some 12), none, .mv (.t 0)⟩,
   ⟨(some 13), none, .mv (.t 5)⟩,
   ⟨(some 14), none, .ia 9 (.t 12) (.t 13)⟩,
   ⟨(some 15), none, .fa (.t 14) 0⟩,
   ⟨(some 16), none, .fa (.t 15) 0⟩,
   ⟨(some 17), none, .ld (.t 16)⟩,
   ⟨(some 18), none, .mv (.t 1)⟩,
   ⟨(some 19), none, .bin .neq (.t 17) (.t 18)⟩])
  (.cond (.t 19) (.seq (.reg [⟨(some 4), none, .mv (.v (.int .i64 (-1)))⟩])
  .ret)
  .skip))
  (.seq (.reg [⟨(some 20), none, .mv (.t 1)⟩,
   ⟨(some 21), none, .bin .add (.t 20) (.v (.int .i64 1))⟩,
   ⟨(some 1), none, .mv (.t 21)⟩])
  (.seq (.seq (.reg [⟨(some 22), none, .mv (.t 0)⟩,
   ⟨(some 23), none, .mv (.t 5)⟩,
   ⟨(some 24), none, .ia 9 (.t 22) (.t 23)⟩,
   ⟨(some 25), none, .fa (.t 24) 0⟩,
   ⟨(some 26), none, .fa (.t 25) 1⟩,
   ⟨(some 27), none, .ld (.t 26)⟩,
   ⟨(some 28), none, .mv (.t 1)⟩,
   ⟨(some 29), none, .bin .neq (.t 27) (.t 28)⟩])
  (.cond (.t 29) (.seq (.reg [⟨(some 4), none, .mv (.v (.int .i64 (-1)))⟩])
  .ret)
  .skip))
  (.seq (.reg [⟨(some 30), none, .mv (.t 1)⟩,
   ⟨(some 31), none, .bin .add (.t 30) (.v (.int .i64 1))⟩,
   ⟨(some 1), none, .mv (.t 31)⟩])
  (.seq (.seq (.reg [⟨(some 32), none, .mv (.t 0)⟩,
   ⟨(some 33), none, .mv (.t 5)⟩,
   ⟨(some 34), none, .ia 9 (.t 32) (.t 33)⟩,
   ⟨(some 35), none, .fa (.t 34) 2⟩,
   ⟨(some 36), none, .fa (.t 35) 0⟩,
   ⟨(some 37), none, .ld (.t 36)⟩,
   ⟨(some 38), none, .mv (.t 1)⟩,
   ⟨(some 39), none, .bin .neq (.t 37) (.t 38)⟩])
  (.cond (.t 39) (.seq (.reg [⟨(some 4), none, .mv (.v (.int .i64 (-1)))⟩])
  .ret)
  .skip))
  (.seq (.reg [⟨(some 40), none, .mv (.t 1)⟩,
   ⟨(some 41), none, .bin .add (.t 40) (.v (.int .i64 1))⟩,
   ⟨(some 1), none, .mv (.t 41)⟩])
  (.seq (.seq (.reg [⟨(some 42), none, .mv (.t 0)⟩,
   ⟨(some 43), none, .mv (.t 5)⟩,
   ⟨(some 44), none, .ia 9 (.t 42) (.t 43)⟩,
   ⟨(some 45), none, .fa (.t 44) 2⟩,
   ⟨(some 46), none, .fa (.t 45) 1⟩,
   ⟨(some 47), none, .ld (.t 46)⟩,
   ⟨(some 48), none, .mv (.t 1)⟩,
   ⟨(some 49), none, .bin .neq (.t 47) (.t 48)⟩])
  (.cond (.t 49) (.seq (.reg [⟨(some 4), none, .mv (.v (.int .i64 (-1)))⟩])
  .ret)
  .skip))
  (.seq (.reg [⟨(some 50), none, .mv (.t 1)⟩,
   ⟨(some 51), none, .bin .add (.t 50) (.v (.int .i64 1))⟩,
   ⟨(some 1), none, .mv (.t 51)⟩])
  (.seq (.seq (.reg [⟨(some 52), none, .mv (.t 0)⟩,
   ⟨(some 53), none, .mv (.t 5)⟩,
   ⟨(some 54), none, .ia 9 (.t 52) (.t 53)⟩,
   ⟨(some 55), none, .fa (.t 54) 4⟩,
   ⟨(some 56), none, .fa (.t 55) 0⟩,
   ⟨(some 57), none, .ld (.t 56)⟩,
   ⟨(some 58), none, .mv (.t 1)⟩,
   ⟨(some 59), none, .bin .neq (.t 57) (.t 58)⟩])
  (.cond (.t 59) (.seq (.reg [⟨(some 4), none, .mv (.v (.int .i64 (-1)))⟩])
  .ret)
  .skip))
  (.seq (.reg [⟨(some 60), none, .mv (.t 1)⟩,
   ⟨(some 61), none, .bin .add (.t 60) (.v (.int .i64 1))⟩,
   ⟨(some 1), none, .mv (.t 61)⟩])
  (.seq (.seq (.reg [⟨(some 62), none, .mv (.t 0)⟩,
   ⟨(some 63), none, .mv (.t 5)⟩,
   ⟨(some 64), none, .ia 9 (.t 62) (.t 63)⟩,
   ⟨(some 65), none, .fa (.t 64) 4⟩,
   ⟨(some 66), none, .fa (.t 65) 1⟩,
   ⟨(some 67), none, .ld (.t 66)⟩,
   ⟨(some 68), none, .mv (.t 1)⟩,
   ⟨(some 69), none, .bin .neq (.t 67) (.t 68)⟩])
  (.cond (.t 69) (.seq (.reg [⟨(some 4), none, .mv (.v (.int .i64 (-1)))⟩])
  .ret)
  .skip))
  (.seq (.reg [⟨(some 70), none, .mv (.t 1)⟩,
   ⟨(some 71), none, .bin .add (.t 70) (.v (.int .i64 1))⟩,
   ⟨(some 1), none, .mv (.t 71)⟩])
  (.seq (.seq (.reg [⟨(some 72), none, .mv (.t 0)⟩,
   ⟨(some 73), none, .mv (.t 5)⟩,
   ⟨(some 74), none, .ia 9 (.t 72) (.t 73)⟩,
   ⟨(some 75), none, .fa (.t 74) 6⟩,
   ⟨(some 76), none, .fa (.t 75) 0⟩,
   ⟨(some 77), none, .ld (.t 76)⟩,
   ⟨(some 78), none, .mv (.t 1)⟩,
   ⟨(some 79), none, .bin .neq (.t 77) (.t 78)⟩])
  (.cond (.t 79) (.seq (.reg [⟨(some 4), none, .mv (.v (.int .i64 (-1)))⟩])
  .ret)
  .skip))
  (.seq (.reg [⟨(some 80), none, .mv (.t 1)⟩,
   ⟨(some 81), none, .bin .add (.t 80) (.v (.int .i64 1))⟩,
   ⟨(some 1), none, .mv (.t 81)⟩])
  (.seq (.seq (.reg [⟨(some 82), none, .mv (.t 0)⟩,
   ⟨(some 83), none, .mv (.t 5)⟩,
   ⟨(some 84), none, .ia 9 (.t 82) (.t 83)⟩,
   ⟨(some 85), none, .fa (.t 84) 6⟩,
   ⟨(some 86), none, .fa (.t 85) 1⟩,
   ⟨(some 87), none, .ld (.t 86)⟩,
   ⟨(some 88), none, .mv (.t 1)⟩,
   ⟨(some 89), none, .bin .neq (.t 87) (.t 88)⟩])
  (.cond (.t 89) (.seq (.reg [⟨(some 4), none, .mv (.v (.int .i64 (-1)))⟩])
  .ret)
  .skip))
  (.seq (.reg [⟨(some 90), none, .mv (.t 1)⟩,
   ⟨(some 91), none, .bin .add (.t 90) (.v (.int .i64 1))⟩,
   ⟨(some 1), none, .mv (.t 91)⟩])
  (.seq (.seq (.reg [⟨(some 92), none, .mv (.t 0)⟩,
   ⟨(some 93), none, .mv (.t 5)⟩,
   ⟨(some 94), none, .ia 9 (.t 92) (.t 93)⟩,
   ⟨(some 95), none, .fa (.t 94) 8⟩,
   ⟨(some 96), none, .ld (.t 95)⟩,
   ⟨(some 97), none, .mv (.t 1)⟩,
   ⟨(some 98), none, .bin .neq (.t 96) (.t 97)⟩])
  (.cond (.t 98) (.seq (.reg [⟨(some 4), none, .mv (.v (.int .i64 (-1)))⟩])
  .ret)
  .skip))
  (.reg [⟨(some 99), none, .mv (.t 1)⟩,
   ⟨(some 100), none, .bin .add (.t 99) (.v (.int .i64 1))⟩,
   ⟨(some 1), none, .mv (.t 100)⟩])))))))))))))))))))
  (.reg [⟨(some 10), none, .mv (.t 5)⟩,
   ⟨(some 11), none, .bin .add (.t 10) (.v (.int .i64 1))⟩,
   ⟨(some 5), none, .mv (.t 11)⟩]))))))
  (.seq (.reg [⟨(some 101), none, .mv (.t 1)⟩,
   ⟨(some 4), none, .mv (.t 101)⟩])
  .ret))),
  [.t 4]⟩
theorem k152 : cFn Try.prog Try.f152 = some c152 := by kernel_rfl
theorem heldSelS_ok : OkT Try.prog 152 (pureSp heldS_S) := by
  refine okT_fn (OkΓT.nil _) Try.func152 (by kernel_rfl) k152 (fun x _ => ⟨rfl, rfl⟩) ?_
  rintro ⟨l, m⟩ ⟨h0, h1, h2, h3⟩
  dsimp only at *
  (dsimp only [c152]; simp (maxSteps := 8000000) (implicitDefEqProofs := false) (disch := omega) only [go_sem, if_pos, if_neg, tw64, twu8, ↓condKT_pos, ↓condKT_neg, ↓gdKT_pt, ↓gdKT_nt, ↓gdKT_pf, ↓gdKT_nf])
  refine awpT_loop (α := Nat) (fun i => ⟨slots [(0, .s (rowsT slT l)), (1, .p (.int .i64 (m + 9 * i))), (5, .p (.int .i64 i))], []⟩) (fun i => i ≤ l.length) (fun i => l.length - i) 0 (by omega) (le_keep (by simp) (by simp (maxSteps := 8000000) (implicitDefEqProofs := false) (disch := omega) only [go_sem, if_pos, if_neg, tw64, twu8, ↓condKT_pos, ↓condKT_neg, ↓gdKT_pt, ↓gdKT_nt, ↓gdKT_pf, ↓gdKT_nf, slotsIn, Int.mul_zero, Int.add_zero])) ?_
  intro i hi
  simp (maxSteps := 8000000) (implicitDefEqProofs := false) (disch := omega) only [go_sem, if_pos, if_neg, tw64, twu8, ↓condKT_pos, ↓condKT_neg, ↓gdKT_pt, ↓gdKT_nt, ↓gdKT_pf, ↓gdKT_nf]
  refine condKT_dec (fun hlt => ?_) (fun hge => ?_)
  · have hx : l[i]? = some (markSl (m + 9 * i)) := by rw [h0]; exact markL_get m _ i (by omega)
    have hx2 := rowsT_get (f := slT) hx
    have hjb : 0 ≤ m + 9 * (i : Int) ∧ m + 9 * (i : Int) ≤ 1010000000 := by omega
    have e : m + 9 * (i : Int) + 1 + 1 + 1 + 1 + 1 + 1 + 1 + 1 + 1 = m + 9 * ((i : Int) + 1) := by omega
    revert hx2 hjb e
    generalize m + 9 * (i : Int) = j
    intro hx2 hjb e
    simp only [slT, markSl] at hx2
    simp (maxSteps := 8000000) (implicitDefEqProofs := false) (disch := omega) only [go_sem, if_pos, if_neg, tw64, twu8, ↓condKT_pos, ↓condKT_neg, ↓gdKT_pt, ↓gdKT_nt, ↓gdKT_pf, ↓gdKT_nf, hx2]
    refine loopKT_next (i + 1) (by omega) (by omega) ?_
    exact le_keep (by simp) (by simp (maxSteps := 8000000) (implicitDefEqProofs := false) (disch := omega) only [go_sem, if_pos, if_neg, tw64, twu8, ↓condKT_pos, ↓condKT_neg, ↓gdKT_pt, ↓gdKT_nt, ↓gdKT_pf, ↓gdKT_nf, slotsIn, e])
  · have hil : i = l.length := by omega
    subst hil
    simp (maxSteps := 8000000) (implicitDefEqProofs := false) (disch := omega) only [go_sem, if_pos, if_neg, tw64, twu8, ↓condKT_pos, ↓condKT_neg, ↓gdKT_pt, ↓gdKT_nt, ↓gdKT_pf, ↓gdKT_nf]
    refine joinK_here ?_
    simp (maxSteps := 8000000) (implicitDefEqProofs := false) (disch := omega) only [go_sem, if_pos, if_neg, tw64, twu8, ↓condKT_pos, ↓condKT_neg, ↓gdKT_pt, ↓gdKT_nt, ↓gdKT_pf, ↓gdKT_nf]
    repeat' first
      | (refine gdKT_dec (fun hg => ?_) (fun hg => ?_) <;> (try (first | simp (maxSteps := 8000000) (implicitDefEqProofs := false) (disch := omega) only [go_sem, if_pos, if_neg, tw64, twu8, ↓condKT_pos, ↓condKT_neg, ↓gdKT_pt, ↓gdKT_nt, ↓gdKT_pf, ↓gdKT_nf, eq_false hg] | simp (maxSteps := 8000000) (implicitDefEqProofs := false) (disch := omega) only [go_sem, if_pos, if_neg, tw64, twu8, ↓condKT_pos, ↓condKT_neg, ↓gdKT_pt, ↓gdKT_nt, ↓gdKT_pf, ↓gdKT_nf, eq_true hg])))
      | (refine condKT_dec (fun hg => ?_) (fun hg => ?_) <;> (try (first | simp (maxSteps := 8000000) (implicitDefEqProofs := false) (disch := omega) only [go_sem, if_pos, if_neg, tw64, twu8, ↓condKT_pos, ↓condKT_neg, ↓gdKT_pt, ↓gdKT_nt, ↓gdKT_pf, ↓gdKT_nf, eq_false hg] | simp (maxSteps := 8000000) (implicitDefEqProofs := false) (disch := omega) only [go_sem, if_pos, if_neg, tw64, twu8, ↓condKT_pos, ↓condKT_neg, ↓gdKT_pt, ↓gdKT_nt, ↓gdKT_pf, ↓gdKT_nf, eq_true hg])))
      | (refine gdKT_split (fun hg => ?_) (fun hg => ?_) <;> (try simp (maxSteps := 8000000) (implicitDefEqProofs := false) (disch := omega) only [go_sem, if_pos, if_neg, tw64, twu8, ↓condKT_pos, ↓condKT_neg, ↓gdKT_pt, ↓gdKT_nt, ↓gdKT_pf, ↓gdKT_nf, hg]))
      | (refine condKT_split (fun hg => ?_) (fun hg => ?_) <;> (try simp (maxSteps := 8000000) (implicitDefEqProofs := false) (disch := omega) only [go_sem, if_pos, if_neg, tw64, twu8, ↓condKT_pos, ↓condKT_neg, ↓gdKT_pt, ↓gdKT_nt, ↓gdKT_pf, ↓gdKT_nf, hg]))
      | (refine endT_p (.inr rfl) (by simp (maxSteps := 8000000) (implicitDefEqProofs := false) (disch := omega) only [go_sem, if_pos, if_neg, tw64, twu8, ↓condKT_pos, ↓condKT_neg, ↓gdKT_pt, ↓gdKT_nt, ↓gdKT_pf, ↓gdKT_nf]; rfl) ?_; (first | exact vb_true (by omega) | exact vb_false (by omega) | exact vb_dec (by omega) | exact vi_eq (by omega) | rfl | (refine vi_eq ?_; simp_all; done) | (refine vi_eq ?_; simp_all; omega) | (refine vi_eq ?_; simp_all; intros; omega)))
      | exact endT_v (.inr rfl) (by simp (maxSteps := 8000000) (implicitDefEqProofs := false) (disch := omega) only [go_sem, if_pos, if_neg, tw64, twu8, ↓condKT_pos, ↓condKT_neg, ↓gdKT_pt, ↓gdKT_nt, ↓gdKT_pf, ↓gdKT_nf]; try rfl) (fun _ => rfl)
noncomputable def heldSa_S := specP (fun x : SaR × Int => [saT x.1, .p (.int .i64 x.2)]) (fun x => x.1.sels = markL x.2 x.1.sels.length ∧ 0 ≤ x.2 ∧ x.2 ≤ 1000000000 ∧ x.1.sels.length ≤ 1048576) (fun x => (.p (.int .i64 (x.2 + 9 * x.1.sels.length)), []))
theorem heldSa_at (x : SaR) (m : Int) (h : x.sels = markL m x.sels.length ∧ 0 ≤ m ∧ m ≤ 1000000000 ∧ x.sels.length ≤ 1048576) : heldSa_S [.agg [.p (.int .i64 x.spi), .p (.int .i64 x.peer), .p (.int .i64 x.key), .p (.bool x.inn), .p (.int .i64 x.sent), .p (.int .i64 x.top), .p (.int .i64 x.bits), .p (.int .i64 x.byt), .p (.int .i64 x.hard), .p (.int .i64 x.til), .s (rowsT slT x.sels)], .p (.int .i64 m)] = some (.p (.int .i64 (m + 9 * x.sels.length)), []) :=
  specP_at (enc := fun x : SaR × Int => [saT x.1, .p (.int .i64 x.2)]) sa2_inj (x, m) h
-- laws.heldSa
def c98 : AF := ⟨12,
  (.seq (.reg [⟨(some 2), none, .box 32 (.t 0)⟩,
   ⟨(some 4), none, .mv (.v (.int .i64 0))⟩])
  (.seq (.reg [⟨(some 5), none, .fa (.t 2) 10⟩,
   ⟨(some 6), none, .ld (.t 5)⟩,
   ⟨(some 7), none, .mv (.t 1)⟩,
   ⟨(some 8), none, .call 152 [(.t 6), (.t 7)]⟩,
   ⟨(some 1), none, .mv (.t 8)⟩])
  (.seq (.seq (.reg [⟨(some 9), none, .mv (.t 1)⟩,
   ⟨(some 10), none, .bin .lss (.t 9) (.v (.int .i64 0))⟩])
  (.cond (.t 10) (.seq (.reg [⟨(some 4), none, .mv (.v (.int .i64 (-1)))⟩])
  .ret)
  .skip))
  (.seq (.reg [⟨(some 11), none, .mv (.t 1)⟩,
   ⟨(some 4), none, .mv (.t 11)⟩])
  .ret)))),
  [.t 4]⟩
theorem k98 : cFn Try.prog Try.f98 = some c98 := by kernel_rfl
theorem heldSa_ok : OkT Try.prog 98 (pureSp heldSa_S) := by
  refine okT_fn (OkΓT.cons heldSelS_ok (OkΓT.nil _)) Try.func98 (by kernel_rfl) k98 (fun x _ => ⟨rfl, rfl⟩) ?_
  rintro ⟨x, m⟩ h
  have hh := heldS_at x.sels m h
  obtain ⟨h0, h1, h2, h3⟩ := h
  dsimp only [saT] at *
  (dsimp only [c98]; simp (maxSteps := 8000000) (implicitDefEqProofs := false) (disch := omega) only [go_sem, if_pos, if_neg, tw64, twu8, ↓condKT_pos, ↓condKT_neg, ↓gdKT_pt, ↓gdKT_nt, ↓gdKT_pf, ↓gdKT_nf, hh])
  repeat' first
    | (refine gdKT_dec (fun hg => ?_) (fun hg => ?_) <;> (try (first | simp (maxSteps := 8000000) (implicitDefEqProofs := false) (disch := omega) only [go_sem, if_pos, if_neg, tw64, twu8, ↓condKT_pos, ↓condKT_neg, ↓gdKT_pt, ↓gdKT_nt, ↓gdKT_pf, ↓gdKT_nf, eq_false hg, hh] | simp (maxSteps := 8000000) (implicitDefEqProofs := false) (disch := omega) only [go_sem, if_pos, if_neg, tw64, twu8, ↓condKT_pos, ↓condKT_neg, ↓gdKT_pt, ↓gdKT_nt, ↓gdKT_pf, ↓gdKT_nf, eq_true hg, hh])))
    | (refine condKT_dec (fun hg => ?_) (fun hg => ?_) <;> (try (first | simp (maxSteps := 8000000) (implicitDefEqProofs := false) (disch := omega) only [go_sem, if_pos, if_neg, tw64, twu8, ↓condKT_pos, ↓condKT_neg, ↓gdKT_pt, ↓gdKT_nt, ↓gdKT_pf, ↓gdKT_nf, eq_false hg, hh] | simp (maxSteps := 8000000) (implicitDefEqProofs := false) (disch := omega) only [go_sem, if_pos, if_neg, tw64, twu8, ↓condKT_pos, ↓condKT_neg, ↓gdKT_pt, ↓gdKT_nt, ↓gdKT_pf, ↓gdKT_nf, eq_true hg, hh])))
    | (refine gdKT_split (fun hg => ?_) (fun hg => ?_) <;> (try simp (maxSteps := 8000000) (implicitDefEqProofs := false) (disch := omega) only [go_sem, if_pos, if_neg, tw64, twu8, ↓condKT_pos, ↓condKT_neg, ↓gdKT_pt, ↓gdKT_nt, ↓gdKT_pf, ↓gdKT_nf, hg, hh]))
    | (refine condKT_split (fun hg => ?_) (fun hg => ?_) <;> (try simp (maxSteps := 8000000) (implicitDefEqProofs := false) (disch := omega) only [go_sem, if_pos, if_neg, tw64, twu8, ↓condKT_pos, ↓condKT_neg, ↓gdKT_pt, ↓gdKT_nt, ↓gdKT_pf, ↓gdKT_nf, hg, hh]))
    | (refine endT_p (.inr rfl) (by simp (maxSteps := 8000000) (implicitDefEqProofs := false) (disch := omega) only [go_sem, if_pos, if_neg, tw64, twu8, ↓condKT_pos, ↓condKT_neg, ↓gdKT_pt, ↓gdKT_nt, ↓gdKT_pf, ↓gdKT_nf, hh]; rfl) ?_; (first | exact vb_true (by omega) | exact vb_false (by omega) | exact vb_dec (by omega) | exact vi_eq (by omega) | rfl | (refine vi_eq ?_; simp_all; done) | (refine vi_eq ?_; simp_all; omega) | (refine vi_eq ?_; simp_all; intros; omega)))
    | exact endT_v (.inr rfl) (by simp (maxSteps := 8000000) (implicitDefEqProofs := false) (disch := omega) only [go_sem, if_pos, if_neg, tw64, twu8, ↓condKT_pos, ↓condKT_neg, ↓gdKT_pt, ↓gdKT_nt, ↓gdKT_pf, ↓gdKT_nf, hh]; try rfl) (fun _ => rfl)
noncomputable def heldRes_S := specP (fun x : (Int × Int) × SaR × Int => [resT x.1.1 x.1.2 x.2.1, .p (.int .i64 x.2.2)]) (fun x => x.2.1.sels = markL x.2.2 x.2.1.sels.length ∧ 0 ≤ x.2.2 ∧ x.2.2 ≤ 1000000000 ∧ x.2.1.sels.length ≤ 1048576) (fun x => (.p (.int .i64 (x.2.2 + 9 * x.2.1.sels.length)), []))
theorem heldRes_at (f g : Int) (spi peer key : Int) (inn : Bool) (sent top bits byt hard til : Int) (n : Nat) (m : Int) (h : 0 ≤ m ∧ m ≤ 1000000000 ∧ n ≤ 1048576) : heldRes_S [.agg [.p (.int .i64 f), .p (.int .i64 g), .p (.int .i64 spi), .p (.int .i64 peer), .p (.int .i64 key), .p (.bool inn), .p (.int .i64 sent), .p (.int .i64 top), .p (.int .i64 bits), .p (.int .i64 byt), .p (.int .i64 hard), .p (.int .i64 til), .s (rowsT slT (markL m n))], .p (.int .i64 m)] = some (.p (.int .i64 (m + 9 * n)), []) := by
  have := specP_at (enc := fun x : (Int × Int) × SaR × Int => [resT x.1.1 x.1.2 x.2.1, .p (.int .i64 x.2.2)]) (Pre := fun x => x.2.1.sels = markL x.2.2 x.2.1.sels.length ∧ 0 ≤ x.2.2 ∧ x.2.2 ≤ 1000000000 ∧ x.2.1.sels.length ≤ 1048576) (R := fun x => (.p (.int .i64 (x.2.2 + 9 * x.2.1.sels.length)), [])) (by rintro ⟨⟨a, b⟩, c, d⟩ ⟨⟨a', b'⟩, c', d'⟩ h; obtain ⟨h1, h2, h3⟩ := resT_inj (List.cons.inj h).1; simp at h; simp only at h1 h2 h3; simp [h1, h2, h3, h.2]) ((f, g), ⟨spi, peer, key, inn, sent, top, bits, byt, hard, til, markL m n⟩, m) ⟨by simp only [markL_len], h.1, h.2.1, by simp only [markL_len]; exact h.2.2⟩
  simp only [markL_len] at this
  exact this
theorem heldRes_at0 (f g : Int) (spi peer key : Int) (inn : Bool) (sent top bits byt hard til : Int) (m : Int) (h : 0 ≤ m ∧ m ≤ 1000000000) : heldRes_S [.agg [.p (.int .i64 f), .p (.int .i64 g), .p (.int .i64 spi), .p (.int .i64 peer), .p (.int .i64 key), .p (.bool inn), .p (.int .i64 sent), .p (.int .i64 top), .p (.int .i64 bits), .p (.int .i64 byt), .p (.int .i64 hard), .p (.int .i64 til), .s []], .p (.int .i64 m)] = some (.p (.int .i64 m), []) := by
  have := heldRes_at f g spi peer key inn sent top bits byt hard til 0 m ⟨h.1, h.2, by omega⟩
  rw [show m + 9 * ((0 : Nat) : Int) = m by simp] at this
  exact this
-- laws.heldSaResult
def c37 : AF := ⟨12,
  (.seq (.reg [⟨(some 2), none, .box 56 (.t 0)⟩,
   ⟨(some 4), none, .mv (.v (.int .i64 0))⟩])
  (.seq (.reg [⟨(some 5), none, .fa (.t 2) 2⟩,
   ⟨(some 6), none, .ldn 11 (.t 5)⟩,
   ⟨(some 7), none, .mv (.t 1)⟩,
   ⟨(some 8), none, .call 98 [(.t 6), (.t 7)]⟩,
   ⟨(some 1), none, .mv (.t 8)⟩])
  (.seq (.seq (.reg [⟨(some 9), none, .mv (.t 1)⟩,
   ⟨(some 10), none, .bin .lss (.t 9) (.v (.int .i64 0))⟩])
  (.cond (.t 10) (.seq (.reg [⟨(some 4), none, .mv (.v (.int .i64 (-1)))⟩])
  .ret)
  .skip))
  (.seq (.reg [⟨(some 11), none, .mv (.t 1)⟩,
   ⟨(some 4), none, .mv (.t 11)⟩])
  .ret)))),
  [.t 4]⟩
theorem k37 : cFn Try.prog Try.f37 = some c37 := by kernel_rfl
theorem heldRes_ok : OkT Try.prog 37 (pureSp heldRes_S) := by
  refine okT_fn (OkΓT.cons heldSa_ok (OkΓT.nil _)) Try.func37 (by kernel_rfl) k37 (fun x _ => ⟨rfl, rfl⟩) ?_
  rintro ⟨⟨f, g⟩, x, m⟩ h
  have hh := heldSa_at x m h
  obtain ⟨h0, h1, h2, h3⟩ := h
  dsimp only [resT] at *
  (dsimp only [c37]; simp (maxSteps := 8000000) (implicitDefEqProofs := false) (disch := omega) only [go_sem, if_pos, if_neg, tw64, twu8, ↓condKT_pos, ↓condKT_neg, ↓gdKT_pt, ↓gdKT_nt, ↓gdKT_pf, ↓gdKT_nf, hh])
  repeat' first
    | (refine gdKT_dec (fun hg => ?_) (fun hg => ?_) <;> (try (first | simp (maxSteps := 8000000) (implicitDefEqProofs := false) (disch := omega) only [go_sem, if_pos, if_neg, tw64, twu8, ↓condKT_pos, ↓condKT_neg, ↓gdKT_pt, ↓gdKT_nt, ↓gdKT_pf, ↓gdKT_nf, eq_false hg, hh] | simp (maxSteps := 8000000) (implicitDefEqProofs := false) (disch := omega) only [go_sem, if_pos, if_neg, tw64, twu8, ↓condKT_pos, ↓condKT_neg, ↓gdKT_pt, ↓gdKT_nt, ↓gdKT_pf, ↓gdKT_nf, eq_true hg, hh])))
    | (refine condKT_dec (fun hg => ?_) (fun hg => ?_) <;> (try (first | simp (maxSteps := 8000000) (implicitDefEqProofs := false) (disch := omega) only [go_sem, if_pos, if_neg, tw64, twu8, ↓condKT_pos, ↓condKT_neg, ↓gdKT_pt, ↓gdKT_nt, ↓gdKT_pf, ↓gdKT_nf, eq_false hg, hh] | simp (maxSteps := 8000000) (implicitDefEqProofs := false) (disch := omega) only [go_sem, if_pos, if_neg, tw64, twu8, ↓condKT_pos, ↓condKT_neg, ↓gdKT_pt, ↓gdKT_nt, ↓gdKT_pf, ↓gdKT_nf, eq_true hg, hh])))
    | (refine gdKT_split (fun hg => ?_) (fun hg => ?_) <;> (try simp (maxSteps := 8000000) (implicitDefEqProofs := false) (disch := omega) only [go_sem, if_pos, if_neg, tw64, twu8, ↓condKT_pos, ↓condKT_neg, ↓gdKT_pt, ↓gdKT_nt, ↓gdKT_pf, ↓gdKT_nf, hg, hh]))
    | (refine condKT_split (fun hg => ?_) (fun hg => ?_) <;> (try simp (maxSteps := 8000000) (implicitDefEqProofs := false) (disch := omega) only [go_sem, if_pos, if_neg, tw64, twu8, ↓condKT_pos, ↓condKT_neg, ↓gdKT_pt, ↓gdKT_nt, ↓gdKT_pf, ↓gdKT_nf, hg, hh]))
    | (refine endT_p (.inr rfl) (by simp (maxSteps := 8000000) (implicitDefEqProofs := false) (disch := omega) only [go_sem, if_pos, if_neg, tw64, twu8, ↓condKT_pos, ↓condKT_neg, ↓gdKT_pt, ↓gdKT_nt, ↓gdKT_pf, ↓gdKT_nf, hh]; rfl) ?_; (first | exact vb_true (by omega) | exact vb_false (by omega) | exact vb_dec (by omega) | exact vi_eq (by omega) | rfl | (refine vi_eq ?_; simp_all; done) | (refine vi_eq ?_; simp_all; omega) | (refine vi_eq ?_; simp_all; intros; omega)))
    | exact endT_v (.inr rfl) (by simp (maxSteps := 8000000) (implicitDefEqProofs := false) (disch := omega) only [go_sem, if_pos, if_neg, tw64, twu8, ↓condKT_pos, ↓condKT_neg, ↓gdKT_pt, ↓gdKT_nt, ↓gdKT_pf, ↓gdKT_nf, hh]; try rfl) (fun _ => rfl)
/-! Marking -/
theorem slT_below (n : Nat) (l : List SlR) : belows n (rowsT slT l) = true := by
  induction l with
  | nil => rfl
  | cons x l ih => simp only [rowsT, List.map_cons, belows, slT, below, Bool.true_and] at ih ⊢; exact ih
theorem selB_below (l : List SlR) : ∀ (b : Nat) (e : TypeId) (z : Nat) (es : List TV), ([selB l] : THeap)[b]? = some (TB.cells e z es) → belows ([selB l] : THeap).length es = true := by
  intro b e z es h
  cases b with
  | zero => simp at h; obtain ⟨_, _, rfl⟩ := h; exact slT_below _ _
  | succ b => simp at h
theorem nil_below : ∀ (b : Nat) (e : TypeId) (z : Nat) (es : List TV), ([] : THeap)[b]? = some (TB.cells e z es) → belows ([] : THeap).length es = true := by
  intro b e z es h; simp at h
theorem markSelS_run (l : List SlR) (m : Int) (h : 0 ≤ m ∧ m ≤ 1000000000 ∧ l.length ≤ 1048576) : markSelS_F [.os 0 0 l.length, .p (.int .i64 m)] [selB l] = some (.p (.int .i64 (m + 9 * l.length)), [selB (markL m l.length)]) := mutF_at mkE_inj (some l, m) h
theorem markSelS_run0 (m : Int) (h : 0 ≤ m ∧ m ≤ 1000000000) : markSelS_F [.nl, .p (.int .i64 m)] [] = some (.p (.int .i64 m), []) := mutF_at mkE_inj (none, m) ⟨h.1, h.2, by simp [mkN]⟩
def maE : Bool × SaR × Int → List TV × THeap
  | (true, x, m) => ([.agg [.p (.int .i64 x.spi), .p (.int .i64 x.peer), .p (.int .i64 x.key), .p (.bool x.inn), .p (.int .i64 x.sent), .p (.int .i64 x.top), .p (.int .i64 x.bits), .p (.int .i64 x.byt), .p (.int .i64 x.hard), .p (.int .i64 x.til), .os 0 0 x.sels.length], .p (.int .i64 m)], [selB x.sels])
  | (false, x, m) => ([.agg [.p (.int .i64 x.spi), .p (.int .i64 x.peer), .p (.int .i64 x.key), .p (.bool x.inn), .p (.int .i64 x.sent), .p (.int .i64 x.top), .p (.int .i64 x.bits), .p (.int .i64 x.byt), .p (.int .i64 x.hard), .p (.int .i64 x.til), .nl], .p (.int .i64 m)], [])
def maR : Bool × SaR × Int → TV × THeap
  | (true, x, m) => (.p (.int .i64 (m + 9 * x.sels.length)), [selB (markL m x.sels.length)])
  | (false, x, m) => (.p (.int .i64 m), [])
theorem maE_same : ∀ x y, maE x = maE y → maR x = maR y
  | (true, x, m), (true, x', m'), h => by simp [maE] at h; simp only [maR]; rw [sls_inj h.2, h.1.2]
  | (true, x, m), (false, x', m'), h => by simp [maE] at h
  | (false, x, m), (true, x', m'), h => by simp [maE] at h
  | (false, x, m), (false, x', m'), h => by simp [maE] at h; simp only [maR]; rw [h.2]
abbrev maP (x : Bool × SaR × Int) : Prop := 0 ≤ x.2.2 ∧ x.2.2 ≤ 1000000000 ∧ x.2.1.sels.length ≤ 1048576
noncomputable def markSa_F := mutF maE maP maR
theorem markSa_run (x : SaR) (m : Int) (h : 0 ≤ m ∧ m ≤ 1000000000 ∧ x.sels.length ≤ 1048576) : markSa_F [.agg [.p (.int .i64 x.spi), .p (.int .i64 x.peer), .p (.int .i64 x.key), .p (.bool x.inn), .p (.int .i64 x.sent), .p (.int .i64 x.top), .p (.int .i64 x.bits), .p (.int .i64 x.byt), .p (.int .i64 x.hard), .p (.int .i64 x.til), .os 0 0 x.sels.length], .p (.int .i64 m)] [selB x.sels] = some (.p (.int .i64 (m + 9 * x.sels.length)), [selB (markL m x.sels.length)]) := mutF_at' (true, x, m) (maE_same _) h
theorem markSa_run0 (x : SaR) (m : Int) (h : 0 ≤ m ∧ m ≤ 1000000000 ∧ x.sels.length ≤ 1048576) : markSa_F [.agg [.p (.int .i64 x.spi), .p (.int .i64 x.peer), .p (.int .i64 x.key), .p (.bool x.inn), .p (.int .i64 x.sent), .p (.int .i64 x.top), .p (.int .i64 x.bits), .p (.int .i64 x.byt), .p (.int .i64 x.hard), .p (.int .i64 x.til), .nl], .p (.int .i64 m)] [] = some (.p (.int .i64 m), []) := mutF_at' (false, x, m) (maE_same _) h
-- laws.markSa
def c35 : AF := ⟨10,
  (.seq (.reg [⟨(some 2), none, .box 32 (.t 0)⟩,
   ⟨(some 4), none, .mv (.v (.int .i64 0))⟩])
  (.seq (.reg [⟨(some 5), none, .fa (.t 2) 10⟩,
   ⟨(some 6), none, .ld (.t 5)⟩,
   ⟨(some 7), none, .mv (.t 1)⟩,
   ⟨(some 8), none, .call 97 [(.t 6), (.t 7)]⟩,
   ⟨(some 1), none, .mv (.t 8)⟩])
  (.seq (.reg [⟨(some 9), none, .mv (.t 1)⟩,
   ⟨(some 4), none, .mv (.t 9)⟩])
  .ret))),
  [.t 4]⟩
theorem k35 : cFn Try.prog Try.f35 = some c35 := by kernel_rfl
theorem markSa_ok : OkT Try.prog 35 (mutSp markSa_F) := by
  refine okT_mutF (OkΓT.cons markSelS_ok (OkΓT.nil _)) Try.func35 (by kernel_rfl) k35 ?_
  rintro ⟨_ | _, x, m⟩ ⟨h1, h2, h3⟩
  · dsimp only [maE, maR] at *
    (dsimp only [c35]; simp (maxSteps := 8000000) (implicitDefEqProofs := false) (disch := omega) only [go_sem, if_pos, if_neg, tw64, twu8, ↓condKT_pos, ↓condKT_neg, ↓gdKT_pt, ↓gdKT_nt, ↓gdKT_pf, ↓gdKT_nf])
    refine mut_call (.p (.int .i64 m)) _ [] [.nl, .p (.int .i64 m)] [] _ _ (by simp (maxSteps := 8000000) (implicitDefEqProofs := false) (disch := omega) only [go_sem, if_pos, if_neg, tw64, twu8, ↓condKT_pos, ↓condKT_neg, ↓gdKT_pt, ↓gdKT_nt, ↓gdKT_pf, ↓gdKT_nf]) (mut0 (fun _ => rfl) (by simp (maxSteps := 8000000) (implicitDefEqProofs := false) (disch := omega) only [go_sem, if_pos, if_neg, tw64, twu8, ↓condKT_pos, ↓condKT_neg, ↓gdKT_pt, ↓gdKT_nt, ↓gdKT_pf, ↓gdKT_nf]) (markSelS_run0 m ⟨h1, h2⟩)) ?_
    simp (maxSteps := 8000000) (implicitDefEqProofs := false) (disch := omega) only [go_sem, if_pos, if_neg, tw64, twu8, ↓condKT_pos, ↓condKT_neg, ↓gdKT_pt, ↓gdKT_nt, ↓gdKT_pf, ↓gdKT_nf]
    exact endK_drop (.inr rfl) (by simp) (by simp (maxSteps := 8000000) (implicitDefEqProofs := false) (disch := omega) only [go_sem, if_pos, if_neg, tw64, twu8, ↓condKT_pos, ↓condKT_neg, ↓gdKT_pt, ↓gdKT_nt, ↓gdKT_pf, ↓gdKT_nf]) (List.nil_append _).symm rfl nil_below
  · dsimp only [maE, maR] at *
    (dsimp only [c35]; simp (maxSteps := 8000000) (implicitDefEqProofs := false) (disch := omega) only [go_sem, if_pos, if_neg, tw64, twu8, ↓condKT_pos, ↓condKT_neg, ↓gdKT_pt, ↓gdKT_nt, ↓gdKT_pf, ↓gdKT_nf])
    refine mut_call (.p (.int .i64 (m + 9 * x.sels.length))) _ [0] [.os 0 0 x.sels.length, .p (.int .i64 m)] [selB x.sels] _ _ (by simp (maxSteps := 8000000) (implicitDefEqProofs := false) (disch := omega) only [go_sem, if_pos, if_neg, tw64, twu8, ↓condKT_pos, ↓condKT_neg, ↓gdKT_pt, ↓gdKT_nt, ↓gdKT_pf, ↓gdKT_nf]) (mut1 rfl (fun ρ => sls_ren ρ _) (fun ρ => sls_ren ρ _) (fun _ => rfl) (by simp (maxSteps := 8000000) (implicitDefEqProofs := false) (disch := omega) only [go_sem, if_pos, if_neg, tw64, twu8, ↓condKT_pos, ↓condKT_neg, ↓gdKT_pt, ↓gdKT_nt, ↓gdKT_pf, ↓gdKT_nf]) (markSelS_run x.sels m ⟨h1, h2, h3⟩)) ?_
    simp (maxSteps := 8000000) (implicitDefEqProofs := false) (disch := omega) only [go_sem, if_pos, if_neg, tw64, twu8, ↓condKT_pos, ↓condKT_neg, ↓gdKT_pt, ↓gdKT_nt, ↓gdKT_pf, ↓gdKT_nf]
    exact endK_drop (G := [_]) (.inr rfl) (by simp) (by simp (maxSteps := 8000000) (implicitDefEqProofs := false) (disch := omega) only [go_sem, if_pos, if_neg, tw64, twu8, ↓condKT_pos, ↓condKT_neg, ↓gdKT_pt, ↓gdKT_nt, ↓gdKT_pf, ↓gdKT_nf]) rfl rfl (selB_below _)
def mrE : Bool × (Int × Int) × SaR × Int → List TV × THeap
  | (true, (f, g), x, m) => ([.agg [.p (.int .i64 f), .p (.int .i64 g), .p (.int .i64 x.spi), .p (.int .i64 x.peer), .p (.int .i64 x.key), .p (.bool x.inn), .p (.int .i64 x.sent), .p (.int .i64 x.top), .p (.int .i64 x.bits), .p (.int .i64 x.byt), .p (.int .i64 x.hard), .p (.int .i64 x.til), .os 0 0 x.sels.length], .p (.int .i64 m)], [selB x.sels])
  | (false, (f, g), x, m) => ([.agg [.p (.int .i64 f), .p (.int .i64 g), .p (.int .i64 x.spi), .p (.int .i64 x.peer), .p (.int .i64 x.key), .p (.bool x.inn), .p (.int .i64 x.sent), .p (.int .i64 x.top), .p (.int .i64 x.bits), .p (.int .i64 x.byt), .p (.int .i64 x.hard), .p (.int .i64 x.til), .nl], .p (.int .i64 m)], [])
def mrR : Bool × (Int × Int) × SaR × Int → TV × THeap
  | (true, _, x, m) => (.p (.int .i64 (m + 9 * x.sels.length)), [selB (markL m x.sels.length)])
  | (false, _, x, m) => (.p (.int .i64 m), [])
theorem mrE_same : ∀ x y, mrE x = mrE y → mrR x = mrR y
  | (true, (f, g), x, m), (true, (f', g'), x', m'), h => by simp [mrE] at h; simp only [mrR]; rw [sls_inj h.2, h.1.2]
  | (true, (f, g), x, m), (false, (f', g'), x', m'), h => by simp [mrE] at h
  | (false, (f, g), x, m), (true, (f', g'), x', m'), h => by simp [mrE] at h
  | (false, (f, g), x, m), (false, (f', g'), x', m'), h => by simp [mrE] at h; simp only [mrR]; rw [h.2]
abbrev mrP (x : Bool × (Int × Int) × SaR × Int) : Prop := 0 ≤ x.2.2.2 ∧ x.2.2.2 ≤ 1000000000 ∧ x.2.2.1.sels.length ≤ 1048576
noncomputable def markRes_F := mutF mrE mrP mrR
theorem markRes_run (f g : Int) (x : SaR) (m : Int) (h : 0 ≤ m ∧ m ≤ 1000000000 ∧ x.sels.length ≤ 1048576) : markRes_F [.agg [.p (.int .i64 f), .p (.int .i64 g), .p (.int .i64 x.spi), .p (.int .i64 x.peer), .p (.int .i64 x.key), .p (.bool x.inn), .p (.int .i64 x.sent), .p (.int .i64 x.top), .p (.int .i64 x.bits), .p (.int .i64 x.byt), .p (.int .i64 x.hard), .p (.int .i64 x.til), .os 0 0 x.sels.length], .p (.int .i64 m)] [selB x.sels] = some (.p (.int .i64 (m + 9 * x.sels.length)), [selB (markL m x.sels.length)]) := mutF_at' (true, (f, g), x, m) (mrE_same _) h
theorem markRes_run0 (f g : Int) (x : SaR) (m : Int) (h : 0 ≤ m ∧ m ≤ 1000000000 ∧ x.sels.length ≤ 1048576) : markRes_F [.agg [.p (.int .i64 f), .p (.int .i64 g), .p (.int .i64 x.spi), .p (.int .i64 x.peer), .p (.int .i64 x.key), .p (.bool x.inn), .p (.int .i64 x.sent), .p (.int .i64 x.top), .p (.int .i64 x.bits), .p (.int .i64 x.byt), .p (.int .i64 x.hard), .p (.int .i64 x.til), .nl], .p (.int .i64 m)] [] = some (.p (.int .i64 m), []) := mutF_at' (false, (f, g), x, m) (mrE_same _) h
-- laws.markSaResult
def c36 : AF := ⟨10,
  (.seq (.reg [⟨(some 2), none, .box 56 (.t 0)⟩,
   ⟨(some 4), none, .mv (.v (.int .i64 0))⟩])
  (.seq (.reg [⟨(some 5), none, .fa (.t 2) 2⟩,
   ⟨(some 6), none, .ldn 11 (.t 5)⟩,
   ⟨(some 7), none, .mv (.t 1)⟩,
   ⟨(some 8), none, .call 35 [(.t 6), (.t 7)]⟩,
   ⟨(some 1), none, .mv (.t 8)⟩])
  (.seq (.reg [⟨(some 9), none, .mv (.t 1)⟩,
   ⟨(some 4), none, .mv (.t 9)⟩])
  .ret))),
  [.t 4]⟩
theorem k36 : cFn Try.prog Try.f36 = some c36 := by kernel_rfl
theorem markRes_ok : OkT Try.prog 36 (mutSp markRes_F) := by
  refine okT_mutF (OkΓT.cons markSa_ok (OkΓT.nil _)) Try.func36 (by kernel_rfl) k36 ?_
  rintro ⟨_ | _, ⟨f, g⟩, x, m⟩ ⟨h1, h2, h3⟩
  · dsimp only [mrE, mrR] at *
    (dsimp only [c36]; simp (maxSteps := 8000000) (implicitDefEqProofs := false) (disch := omega) only [go_sem, if_pos, if_neg, tw64, twu8, ↓condKT_pos, ↓condKT_neg, ↓gdKT_pt, ↓gdKT_nt, ↓gdKT_pf, ↓gdKT_nf])
    refine mut_call (.p (.int .i64 m)) _ [] [.agg [.p (.int .i64 x.spi), .p (.int .i64 x.peer), .p (.int .i64 x.key), .p (.bool x.inn), .p (.int .i64 x.sent), .p (.int .i64 x.top), .p (.int .i64 x.bits), .p (.int .i64 x.byt), .p (.int .i64 x.hard), .p (.int .i64 x.til), .nl], .p (.int .i64 m)] [] _ _ (by simp (maxSteps := 8000000) (implicitDefEqProofs := false) (disch := omega) only [go_sem, if_pos, if_neg, tw64, twu8, ↓condKT_pos, ↓condKT_neg, ↓gdKT_pt, ↓gdKT_nt, ↓gdKT_pf, ↓gdKT_nf]) (mut0 (fun _ => rfl) (by simp (maxSteps := 8000000) (implicitDefEqProofs := false) (disch := omega) only [go_sem, if_pos, if_neg, tw64, twu8, ↓condKT_pos, ↓condKT_neg, ↓gdKT_pt, ↓gdKT_nt, ↓gdKT_pf, ↓gdKT_nf]) (markSa_run0 x m ⟨h1, h2, h3⟩)) ?_
    simp (maxSteps := 8000000) (implicitDefEqProofs := false) (disch := omega) only [go_sem, if_pos, if_neg, tw64, twu8, ↓condKT_pos, ↓condKT_neg, ↓gdKT_pt, ↓gdKT_nt, ↓gdKT_pf, ↓gdKT_nf]
    exact endK_drop (.inr rfl) (by simp) (by simp (maxSteps := 8000000) (implicitDefEqProofs := false) (disch := omega) only [go_sem, if_pos, if_neg, tw64, twu8, ↓condKT_pos, ↓condKT_neg, ↓gdKT_pt, ↓gdKT_nt, ↓gdKT_pf, ↓gdKT_nf]) (List.nil_append _).symm rfl nil_below
  · dsimp only [mrE, mrR] at *
    (dsimp only [c36]; simp (maxSteps := 8000000) (implicitDefEqProofs := false) (disch := omega) only [go_sem, if_pos, if_neg, tw64, twu8, ↓condKT_pos, ↓condKT_neg, ↓gdKT_pt, ↓gdKT_nt, ↓gdKT_pf, ↓gdKT_nf])
    refine mut_call (.p (.int .i64 (m + 9 * x.sels.length))) _ [0] [.agg [.p (.int .i64 x.spi), .p (.int .i64 x.peer), .p (.int .i64 x.key), .p (.bool x.inn), .p (.int .i64 x.sent), .p (.int .i64 x.top), .p (.int .i64 x.bits), .p (.int .i64 x.byt), .p (.int .i64 x.hard), .p (.int .i64 x.til), .os 0 0 x.sels.length], .p (.int .i64 m)] [selB x.sels] _ _ (by simp (maxSteps := 8000000) (implicitDefEqProofs := false) (disch := omega) only [go_sem, if_pos, if_neg, tw64, twu8, ↓condKT_pos, ↓condKT_neg, ↓gdKT_pt, ↓gdKT_nt, ↓gdKT_pf, ↓gdKT_nf]) (mut1 rfl (fun ρ => sls_ren ρ _) (fun ρ => sls_ren ρ _) (fun _ => rfl) (by simp (maxSteps := 8000000) (implicitDefEqProofs := false) (disch := omega) only [go_sem, if_pos, if_neg, tw64, twu8, ↓condKT_pos, ↓condKT_neg, ↓gdKT_pt, ↓gdKT_nt, ↓gdKT_pf, ↓gdKT_nf]) (markSa_run x m ⟨h1, h2, h3⟩)) ?_
    simp (maxSteps := 8000000) (implicitDefEqProofs := false) (disch := omega) only [go_sem, if_pos, if_neg, tw64, twu8, ↓condKT_pos, ↓condKT_neg, ↓gdKT_pt, ↓gdKT_nt, ↓gdKT_pf, ↓gdKT_nf]
    exact endK_drop (G := [_]) (.inr rfl) (by simp) (by simp (maxSteps := 8000000) (implicitDefEqProofs := false) (disch := omega) only [go_sem, if_pos, if_neg, tw64, twu8, ↓condKT_pos, ↓condKT_neg, ↓gdKT_pt, ↓gdKT_nt, ↓gdKT_pf, ↓gdKT_nf]) rfl rfl (selB_below _)
end Go.Proofs.Ytngebdcbcliobaa
