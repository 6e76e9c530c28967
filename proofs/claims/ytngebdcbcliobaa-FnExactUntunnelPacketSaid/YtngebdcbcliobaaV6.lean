import Derived.Test.YtngebdcbcliobaaU6
set_option linter.unusedSimpArgs false
set_option linter.unusedVariables false
set_option maxRecDepth 100000
set_option maxHeartbeats 4000000
namespace Go.Proofs.Ytngebdcbcliobaa
open Go Go.AH
attribute [local irreducible] awpT ropsT qopsT stepT condKT gdKT EndT joinK loopKT seqKT blkKT kont kontR
/-! FnExactUntunnelPacket -/
-- laws.FnExactUntunnelPacket
def c13 : AF := ⟨79,
  (.seq (.reg [⟨(some 5), none, .box 23 (.t 2)⟩,
   ⟨(some 6), none, .mv (.v (.bool false))⟩])
  (.seq (.seq (.reg [⟨(some 14), none, .mv (.t 0)⟩,
   ⟨(some 15), none, .len (.t 14)⟩,
   ⟨(some 16), none, .bin .gtr (.t 15) (.v (.int .i64 1048576))⟩])
  (.cond (.t 16) (.seq (.reg [⟨(some 6), none, .mv (.v (.bool true))⟩])
  .ret)
  .skip))
  (.seq (.drw [⟨(some 17), none, .mv (.t 0)⟩,
   ⟨(some 18), none, .call 64 [(.t 17)]⟩,
   ⟨(some 19), none, .mv (.t 1)⟩,
   ⟨(some 20), none, .ldn 2 (.t 5)⟩,
   ⟨(some 21), none, .call 65 [(.t 20)]⟩,
   ⟨(some 22), none, .call 63 [(.t 18), (.t 19), (.t 21)]⟩,
   ⟨(some 7), none, .alloc 86 [(.int .i64 0), (.int .i64 0), (.int .i64 0), (.int .i64 0), (.int .i64 0), (.int .i64 0), (.int .i64 0), (.int .i64 0), (.slice none 0 0), (.int .i64 0), (.int .i64 0)]⟩] [⟨none, none, .st 11 (.t 7) (.t 22)⟩])
  (.seq (.reg [⟨(some 23), none, .mv (.t 0)⟩,
   ⟨(some 24), none, .call 64 [(.t 23)]⟩,
   ⟨(some 8), none, .mv (.t 24)⟩])
  (.seq (.reg [⟨(some 25), none, .mv (.t 8)⟩,
   ⟨(some 26), none, .mv (.t 1)⟩,
   ⟨(some 27), none, .ldn 2 (.t 5)⟩,
   ⟨(some 28), none, .call 65 [(.t 27)]⟩,
   ⟨(some 29), none, .call 59 [(.t 25), (.t 26), (.t 28)]⟩,
   ⟨(some 9), none, .alloc 86 [(.int .i64 0), (.int .i64 0), (.int .i64 0), (.int .i64 0), (.int .i64 0), (.int .i64 0), (.int .i64 0), (.int .i64 0), (.slice none 0 0), (.int .i64 0), (.int .i64 0)]⟩,
   ⟨none, none, .st 11 (.t 9) (.t 29)⟩])
  (.seq (.seq (.reg [⟨(some 30), none, .ldn 11 (.t 9)⟩,
   ⟨(some 31), none, .ldn 11 (.t 7)⟩,
   ⟨(some 32), none, .call 66 [(.t 30), (.t 31)]⟩,
   ⟨(some 33), none, .un .not (.t 32)⟩])
  (.cond (.t 33) (.seq (.reg [⟨(some 6), none, .mv (.v (.bool false))⟩])
  .ret)
  .skip))
  (.seq (.seq (.reg [⟨(some 34), none, .mv (.t 8)⟩,
   ⟨(some 35), none, .mv (.t 0)⟩,
   ⟨(some 36), none, .call 64 [(.t 35)]⟩,
   ⟨(some 37), none, .call 67 [(.t 34), (.t 36)]⟩,
   ⟨(some 38), none, .un .not (.t 37)⟩])
  (.cond (.t 38) (.seq (.reg [⟨(some 6), none, .mv (.v (.bool false))⟩])
  .ret)
  .skip))
  (.seq (.reg [⟨(some 10), none, .mv (.v (.int .i64 1))⟩])
  (.seq (.reg [⟨(some 39), none, .mv (.t 8)⟩,
   ⟨(some 40), none, .mv (.t 10)⟩,
   ⟨(some 41), none, .call 68 [(.t 39), (.t 40)]⟩,
   ⟨(some 10), none, .mv (.t 41)⟩])
  (.seq (.seq (.reg [⟨(some 42), none, .mv (.t 10)⟩,
   ⟨(some 43), none, .bin .lss (.t 42) (.v (.int .i64 0))⟩,
   ⟨(some 44), none, .mv (.t 43)⟩,
   ⟨(some 45), (some (44, false)), .ldn 11 (.t 9)⟩,
   ⟨(some 46), (some (44, false)), .ldn 11 (.t 7)⟩,
   ⟨(some 47), (some (44, false)), .call 66 [(.t 45), (.t 46)]⟩,
   ⟨(some 48), (some (44, false)), .un .not (.t 47)⟩,
   ⟨(some 49), none, .pick (.t 44) (.v (.bool true)) (.t 48)⟩])
  (.cond (.t 49) (.seq (.reg [⟨(some 6), none, .mv (.v (.bool false))⟩])
  .ret)
  .skip))
  (.seq (.reg [⟨(some 11), none, .mv (.v (.int .i64 1))⟩])
  (.seq (.reg [⟨(some 50), none, .ldn 11 (.t 9)⟩,
   ⟨(some 51), none, .mv (.t 11)⟩,
   ⟨(some 52), none, .call 69 [(.t 50), (.t 51)]⟩,
   ⟨(some 11), none, .mv (.t 52)⟩])
  (.seq (.reg [⟨(some 12), none, .mv (.v (.int .i64 1))⟩])
  (.seq (.reg [⟨(some 53), none, .ldn 11 (.t 9)⟩,
   ⟨(some 54), none, .mv (.t 12)⟩,
   ⟨(some 55), none, .call 70 [(.t 53), (.t 54)]⟩,
   ⟨(some 12), none, .mv (.t 55)⟩])
  (.seq (.seq (.reg [⟨(some 56), none, .mv (.t 12)⟩,
   ⟨(some 57), none, .bin .lss (.t 56) (.v (.int .i64 0))⟩])
  (.cond (.t 57) (.seq (.reg [⟨(some 6), none, .mv (.v (.bool false))⟩])
  .ret)
  .skip))
  (.seq (.seq (.reg [⟨(some 58), none, .mv (.t 12)⟩,
   ⟨(some 59), none, .mv (.t 11)⟩,
   ⟨(some 60), none, .bin .neq (.t 58) (.t 59)⟩])
  (.cond (.t 60) (.seq (.reg [⟨(some 6), none, .mv (.v (.bool false))⟩])
  .ret)
  .skip))
  (.seq (.drw [⟨(some 61), none, .mv (.t 0)⟩,
   ⟨(some 62), none, .call 64 [(.t 61)]⟩,
   ⟨(some 63), none, .mv (.t 1)⟩,
   ⟨(some 64), none, .ldn 2 (.t 5)⟩,
   ⟨(some 65), none, .call 65 [(.t 64)]⟩,
   ⟨(some 66), none, .call 59 [(.t 62), (.t 63), (.t 65)]⟩,
   ⟨(some 13), none, .alloc 86 [(.int .i64 0), (.int .i64 0), (.int .i64 0), (.int .i64 0), (.int .i64 0), (.int .i64 0), (.int .i64 0), (.int .i64 0), (.slice none 0 0), (.int .i64 0), (.int .i64 0)]⟩] [⟨none, none, .st 11 (.t 13) (.t 66)⟩])
  (.seq (.seq (.reg [⟨(some 67), none, .ldn 11 (.t 13)⟩,
   ⟨(some 68), none, .ldn 11 (.t 7)⟩,
   ⟨(some 69), none, .call 66 [(.t 67), (.t 68)]⟩,
   ⟨(some 70), none, .un .not (.t 69)⟩])
  (.cond (.t 70) (.seq (.reg [⟨(some 6), none, .mv (.v (.bool false))⟩])
  .ret)
  .skip))
  (.seq (.reg [⟨(some 12), none, .mv (.v (.int .i64 1))⟩])
  (.seq (.reg [⟨(some 71), none, .ldn 11 (.t 9)⟩,
   ⟨(some 72), none, .mv (.t 12)⟩,
   ⟨(some 73), none, .call 70 [(.t 71), (.t 72)]⟩,
   ⟨(some 12), none, .mv (.t 73)⟩])
  (.seq (.seq (.reg [⟨(some 74), none, .mv (.t 12)⟩,
   ⟨(some 75), none, .bin .lss (.t 74) (.v (.int .i64 0))⟩])
  (.cond (.t 75) (.seq (.reg [⟨(some 6), none, .mv (.v (.bool false))⟩])
  .ret)
  .skip))
  (.seq (.seq (.reg [⟨(some 76), none, .mv (.t 12)⟩,
   ⟨(some 77), none, .mv (.t 11)⟩,
   ⟨(some 78), none, .bin .neq (.t 76) (.t 77)⟩])
  (.cond (.t 78) (.seq (.reg [⟨(some 6), none, .mv (.v (.bool false))⟩])
  .ret)
  .skip))
  (.seq (.reg [⟨(some 6), none, .mv (.v (.bool true))⟩])
  .ret))))))))))))))))))))))),
  [.t 6]⟩
theorem k13 : cFn Try.prog Try.f13 = some c13 := by kernel_rfl
theorem law_UntunnelPacket {Ss Si : List TV → Option (TV × THeap)} (okS : OkT Try.prog 63 (pureSp Ss)) (okI : OkT Try.prog 59 (pureSp Si)) (H : ∀ (x0 : Cell) (x1 : Int) (x2 : List Cell), HasC sh_ByteS x0 → HasR sh_Window x2 → szC x0 ≤ 1048576 → szCs x2 ≤ 1048576 → ∃ w w', Ss [fzC x0, .p (.int .i64 x1), .agg (fzCs x2)] = some (.agg (tvCs 0 w), bkCs 0 w) ∧ Si [fzC x0, .p (.int .i64 x1), .agg (fzCs x2)] = some (.agg (tvCs 0 w'), bkCs 0 w') ∧ fzCs w = fzCs w' ∧ FitR sh_UntunnelResult w ∧ FitR sh_UntunnelResult w' ∧ szCs w ≤ 1073741824 ∧ szCs w' ≤ 1073741824) : OkT Try.prog 13 (pureSp (tvSp (fun a => ∃ (x0 : Cell) (x1 : Int) (x2 : List Cell), a = [fzC x0, .p (.int .i64 x1), .agg (fzCs x2)] ∧ HasC sh_ByteS x0 ∧ HasR sh_Window x2 ∧ lnC x0 = true ∧ lnCs x2 = true) (fun _ => (.p (.bool true), [])))) := by
  refine okT_tv (OkΓT.cons (tsp := ansSp (toC_S sh_ByteS)) toByteS_ok (OkΓT.cons (tsp := ansSp (toR_S sh_Window)) toWindow_ok (OkΓT.cons (tsp := ansSp Ss) okS (OkΓT.cons (tsp := ansSp Si) okI (OkΓT.cons (tsp := ansSp (eqR_S sh_UntunnelResult)) eqUntunnelResult_ok (OkΓT.cons (tsp := ansSp (eqC_S sh_ByteS)) eqByteS_ok (OkΓT.cons markByteS_ok (OkΓT.cons markUntunnelResult_ok (OkΓT.cons (tsp := ansSp (hdR_S sh_UntunnelResult)) heldUntunnelResult_ok (OkΓT.nil _)))))))))) Try.func13 (by kernel_rfl) k13 (fun x hx => ⟨rfl, rfl⟩) ?_
  rintro _ ⟨x0, x1, x2, rfl, h0, h2, z0, z2⟩
  have len2 : x2.length = 2 := HasR.len h2
  obtain ⟨rows0, hr0, hq0⟩ : ∃ rows, fzC x0 = .s (fzRs rows) ∧ szC x0 = rows.length := by
    simp only [sh_ByteS, HasC] at h0; obtain ⟨rows, rfl, hr⟩ := h0; refine ⟨rows, rfl, ?_⟩; simp only [szC]; rw [szRs_zero fun r hx => by have hrr := hr r hx; obtain ⟨_, _, rfl, ⟨a0, rfl, _⟩, hrr⟩ := hrr; simp only [HasR] at hrr; subst hrr; rfl]; omega
  by_cases q0 : (rows0.length : Int) ≤ 1048576
  case neg =>
    (dsimp only [c13]; simp (maxSteps := 8000000) (implicitDefEqProofs := false) (disch := omega) only [↓reduceIte, go_sem, if_pos, if_neg, len2, fzCs_len, fzCs_one, hr0, eq_true (show (rows0.length : Int) > 1048576 by omega)])
    repeat' first
      | (refine gdKT_dec (fun hg => ?_) (fun hg => ?_) <;> (try (first | simp (maxSteps := 8000000) (implicitDefEqProofs := false) (disch := omega) only [↓reduceIte, go_sem, if_pos, if_neg, eq_false hg, len2, fzCs_len, fzCs_one, hr0, eq_true (show (rows0.length : Int) > 1048576 by omega)] | simp (maxSteps := 8000000) (implicitDefEqProofs := false) (disch := omega) only [↓reduceIte, go_sem, if_pos, if_neg, eq_true hg, len2, fzCs_len, fzCs_one, hr0, eq_true (show (rows0.length : Int) > 1048576 by omega)])))
      | (refine condKT_dec (fun hg => ?_) (fun hg => ?_) <;> (try (first | simp (maxSteps := 8000000) (implicitDefEqProofs := false) (disch := omega) only [↓reduceIte, go_sem, if_pos, if_neg, eq_false hg, len2, fzCs_len, fzCs_one, hr0, eq_true (show (rows0.length : Int) > 1048576 by omega)] | simp (maxSteps := 8000000) (implicitDefEqProofs := false) (disch := omega) only [↓reduceIte, go_sem, if_pos, if_neg, eq_true hg, len2, fzCs_len, fzCs_one, hr0, eq_true (show (rows0.length : Int) > 1048576 by omega)])))
      | (refine gdKT_split (fun hg => ?_) (fun hg => ?_) <;> (try simp (maxSteps := 8000000) (implicitDefEqProofs := false) (disch := omega) only [↓reduceIte, go_sem, if_pos, if_neg, hg, len2, fzCs_len, fzCs_one, hr0, eq_true (show (rows0.length : Int) > 1048576 by omega)]))
      | (refine condKT_split (fun hg => ?_) (fun hg => ?_) <;> (try simp (maxSteps := 8000000) (implicitDefEqProofs := false) (disch := omega) only [↓reduceIte, go_sem, if_pos, if_neg, hg, len2, fzCs_len, fzCs_one, hr0, eq_true (show (rows0.length : Int) > 1048576 by omega)]))
      | (refine endT_p (.inr rfl) (by simp (maxSteps := 8000000) (implicitDefEqProofs := false) (disch := omega) only [↓reduceIte, go_sem, if_pos, if_neg, len2, fzCs_len, fzCs_one, hr0, eq_true (show (rows0.length : Int) > 1048576 by omega)]; rfl) ?_; (first | exact vb_true (by omega) | exact vb_false (by omega) | exact vb_dec (by omega) | exact vi_eq (by omega) | rfl | (refine vi_eq ?_; simp_all; done) | (refine vi_eq ?_; simp_all; omega) | (refine vi_eq ?_; simp_all; intros; omega)))
      | exact endT_v (.inr rfl) (by simp (maxSteps := 8000000) (implicitDefEqProofs := false) (disch := omega) only [↓reduceIte, go_sem, if_pos, if_neg, len2, fzCs_len, fzCs_one, hr0, eq_true (show (rows0.length : Int) > 1048576 by omega)]; try rfl) (fun _ => rfl)
  have y0 : szC x0 ≤ 1048576 := by omega
  have y2 : szCs x2 ≤ 1048576 := by have := flat_sz_Window h2; omega
  obtain ⟨w, w', wS, wI, wE, fS, fI, sS, sI⟩ := H x0 x1 x2 h0 h2 y0 y2
  have lenS : w.length = 11 := FitR.len fS
  have lenI : w'.length = 11 := FitR.len fI
  have dS : dpCs w ≤ 9 := Nat.le_trans (FitR.dp _ _ fS) (of_decide_eq_true (by rfl))
  have dI : dpCs w' ≤ 9 := Nat.le_trans (FitR.dp _ _ fI) (of_decide_eq_true (by rfl))
  have mI : wtCs w' ≤ 64 * 1073741824 := FitR.w fI (of_decide_eq_true (by rfl)) sI
  have d0 : dpC x0 ≤ 9 := Nat.le_trans (FitC.dp _ _ (HasC.fit _ _ h0)) (of_decide_eq_true (by rfl))
  have m0 : wtC x0 ≤ 64 * 1048576 := FitC.w (HasC.fit _ _ h0) (of_decide_eq_true (by rfl)) y0
  have d2 : dpCs x2 ≤ 9 := Nat.le_trans (FitR.dp _ _ (HasR.fit _ _ h2)) (of_decide_eq_true (by rfl))
  have m2 : wtCs x2 ≤ 64 * 1048576 := FitR.w (HasR.fit _ _ h2) (of_decide_eq_true (by rfl)) y2
  (dsimp only [c13]; simp (maxSteps := 8000000) (implicitDefEqProofs := false) (disch := omega) only [↓reduceIte, go_sem, if_pos, if_neg, len2, fzCs_len, fzCs_one, lenS, lenI, tvCs_len, tvCs_one, hr0, eq_false (show ¬ ((rows0.length : Int) > 1048576) by omega)])
  simp only [← hr0]
  obtain ⟨n0, hn0⟩ := isLen_ex ([] : List TB)
  have ln0 := hn0.eq
  simp only [List.length_append, List.length_cons, List.length_nil, bkC_len, bkCs_len, mkC_nb, mkCs_nb] at ln0
  obtain ⟨n1, hn1⟩ := isLen_ex ([.cells 23 2 [.agg (fzCs x2)]] : List TB)
  have ln1 := hn1.eq
  simp only [List.length_append, List.length_cons, List.length_nil, bkC_len, bkCs_len, mkC_nb, mkCs_nb] at ln1
  have e2_ : ∀ t, (ansSp (toC_S sh_ByteS)).fn t [fzC x0] ([.cells 23 2 [.agg (fzCs x2)]] : List TB) = some (tvC n1 x0, (.cells 23 2 [.agg (fzCs x2)] :: (bkC n1 x0) : List TB)) := fun t => by
    rw [call_newC (by simp only [List.map_cons, List.map_nil, frz_p, frz_s, frz_agg, frz_fzC, frz_fzCs]; try rfl) (toC_at h0 y0) hn1.eq]; try simp only [List.append_assoc, List.cons_append, List.nil_append, List.append_nil]
  have Ln1 := bkC_len n1 x0
  have g3_ := hold_get (A := ([] : List TB)) (R := (bkC n1 x0 : List TB)) (n := n0) (by first | (simp only [List.length_append, List.length_cons, List.length_nil, bkC_len, bkCs_len, mkC_nb, mkCs_nb]; done) | (simp only [List.length_append, List.length_cons, List.length_nil, bkC_len, bkCs_len, mkC_nb, mkCs_nb]; omega))
  try simp only [List.append_assoc, List.cons_append, List.nil_append, List.append_nil] at g3_
  obtain ⟨n4, hn4⟩ := isLen_ex (.cells 23 2 [.agg (fzCs x2)] :: (bkC n1 x0) : List TB)
  have ln4 := hn4.eq
  simp only [List.length_append, List.length_cons, List.length_nil, bkC_len, bkCs_len, mkC_nb, mkCs_nb] at ln4
  have e5_ : ∀ t, (ansSp (toR_S sh_Window)).fn t [.agg (fzCs x2)] (.cells 23 2 [.agg (fzCs x2)] :: (bkC n1 x0) : List TB) = some (.agg (tvCs n4 x2), (.cells 23 2 [.agg (fzCs x2)] :: (bkC n1 x0 ++ (bkCs n4 x2)) : List TB)) := fun t => by
    rw [call_new (by simp only [List.map_cons, List.map_nil, frz_p, frz_s, frz_agg, frz_fzC, frz_fzCs]; try rfl) (toR_at h2 y2) hn4.eq]; try simp only [List.append_assoc, List.cons_append, List.nil_append, List.append_nil]
  have Ln4 := bkCs_len n4 x2
  have f6 : frzT (.cells 23 2 [.agg (fzCs x2)] :: (bkC n1 x0 ++ (bkCs n4 x2)) : List TB) 9 (tvC n1 x0) = fzC x0 := by
    have := frzC_in (A := ([.cells 23 2 [.agg (fzCs x2)]] : List TB)) (B := (bkCs n4 x2 : List TB)) (c := x0) (n := n1) (by first | (simp only [List.length_append, List.length_cons, List.length_nil, bkC_len, bkCs_len, mkC_nb, mkCs_nb]; done) | (simp only [List.length_append, List.length_cons, List.length_nil, bkC_len, bkCs_len, mkC_nb, mkCs_nb]; omega)) (by first | assumption | (rw [mkC_dp]; assumption))
    (try simp only [List.append_assoc, List.cons_append, List.nil_append, List.append_nil, mkC_tv, mkCs_tv] at this); (try simp only [List.append_assoc, List.cons_append, List.nil_append, List.append_nil, mkC_tv, mkCs_tv]); exact this
  have f7 : frzT (.cells 23 2 [.agg (fzCs x2)] :: (bkC n1 x0 ++ (bkCs n4 x2)) : List TB) 9 (.agg (tvCs n4 x2)) = .agg (fzCs x2) := by
    have := frz_in (A := (.cells 23 2 [.agg (fzCs x2)] :: (bkC n1 x0) : List TB)) (B := ([] : List TB)) (w := x2) (n := n4) (by first | (simp only [List.length_append, List.length_cons, List.length_nil, bkC_len, bkCs_len, mkC_nb, mkCs_nb]; done) | (simp only [List.length_append, List.length_cons, List.length_nil, bkC_len, bkCs_len, mkC_nb, mkCs_nb]; omega)) (by first | assumption | (rw [mkCs_dp]; assumption))
    (try simp only [List.append_assoc, List.cons_append, List.nil_append, List.append_nil, mkC_tv, mkCs_tv] at this); (try simp only [List.append_assoc, List.cons_append, List.nil_append, List.append_nil, mkC_tv, mkCs_tv]); exact this
  obtain ⟨n8, hn8⟩ := isLen_ex (.cells 23 2 [.agg (fzCs x2)] :: (bkC n1 x0 ++ (bkCs n4 x2)) : List TB)
  have ln8 := hn8.eq
  simp only [List.length_append, List.length_cons, List.length_nil, bkC_len, bkCs_len, mkC_nb, mkCs_nb] at ln8
  have e9_ : ∀ t, (ansSp Ss).fn t [tvC n1 x0, .p (.int .i64 x1), .agg (tvCs n4 x2)] (.cells 23 2 [.agg (fzCs x2)] :: (bkC n1 x0 ++ (bkCs n4 x2)) : List TB) = some (.agg (tvCs n8 w), (.cells 23 2 [.agg (fzCs x2)] :: (bkC n1 x0 ++ (bkCs n4 x2 ++ (bkCs n8 w))) : List TB)) := fun t => by
    rw [call_new (by simp only [List.map_cons, List.map_nil, frz_p, frz_s, frz_agg, frz_fzC, frz_fzCs, f6, f7]; try rfl) (wS) hn8.eq]; try simp only [List.append_assoc, List.cons_append, List.nil_append, List.append_nil]
  have Ln8 := bkCs_len n8 w
  obtain ⟨n10, hn10⟩ := isLen_ex (.cells 23 2 [.agg (fzCs x2)] :: (bkC n1 x0 ++ (bkCs n4 x2 ++ (bkCs n8 w))) : List TB)
  have ln10 := hn10.eq
  simp only [List.length_append, List.length_cons, List.length_nil, bkC_len, bkCs_len, mkC_nb, mkCs_nb] at ln10
  have g11_ := hold_get (A := (.cells 23 2 [.agg (fzCs x2)] :: (bkC n1 x0 ++ (bkCs n4 x2 ++ (bkCs n8 w))) : List TB)) (R := ([] : List TB)) (n := n10) (by first | (simp only [List.length_append, List.length_cons, List.length_nil, bkC_len, bkCs_len, mkC_nb, mkCs_nb]; done) | (simp only [List.length_append, List.length_cons, List.length_nil, bkC_len, bkCs_len, mkC_nb, mkCs_nb]; omega))
  try simp only [List.append_assoc, List.cons_append, List.nil_append, List.append_nil] at g11_
  have g11_s := hold_set (A := (.cells 23 2 [.agg (fzCs x2)] :: (bkC n1 x0 ++ (bkCs n4 x2 ++ (bkCs n8 w))) : List TB)) (R := ([] : List TB)) (n := n10) (by first | (simp only [List.length_append, List.length_cons, List.length_nil, bkC_len, bkCs_len, mkC_nb, mkCs_nb]; done) | (simp only [List.length_append, List.length_cons, List.length_nil, bkC_len, bkCs_len, mkC_nb, mkCs_nb]; omega))
  try simp only [List.append_assoc, List.cons_append, List.nil_append, List.append_nil] at g11_s
  obtain ⟨n12, hn12⟩ := isLen_ex (.cells 23 2 [.agg (fzCs x2)] :: (bkC n1 x0 ++ (bkCs n4 x2 ++ (bkCs n8 w ++ ([.cells 86 11 [.agg (tvCs n8 w)]])))) : List TB)
  have ln12 := hn12.eq
  simp only [List.length_append, List.length_cons, List.length_nil, bkC_len, bkCs_len, mkC_nb, mkCs_nb] at ln12
  have e13_ : ∀ t, (ansSp (toC_S sh_ByteS)).fn t [fzC x0] (.cells 23 2 [.agg (fzCs x2)] :: (bkC n1 x0 ++ (bkCs n4 x2 ++ (bkCs n8 w ++ ([.cells 86 11 [.agg (tvCs n8 w)]])))) : List TB) = some (tvC n12 x0, (.cells 23 2 [.agg (fzCs x2)] :: (bkC n1 x0 ++ (bkCs n4 x2 ++ (bkCs n8 w ++ (.cells 86 11 [.agg (tvCs n8 w)] :: (bkC n12 x0))))) : List TB)) := fun t => by
    rw [call_newC (by simp only [List.map_cons, List.map_nil, frz_p, frz_s, frz_agg, frz_fzC, frz_fzCs]; try rfl) (toC_at h0 y0) hn12.eq]; try simp only [List.append_assoc, List.cons_append, List.nil_append, List.append_nil]
  have Ln12 := bkC_len n12 x0
  have g14_ := hold_get (A := ([] : List TB)) (R := (bkC n1 x0 ++ (bkCs n4 x2 ++ (bkCs n8 w ++ (.cells 86 11 [.agg (tvCs n8 w)] :: (bkC n12 x0)))) : List TB)) (n := n0) (by first | (simp only [List.length_append, List.length_cons, List.length_nil, bkC_len, bkCs_len, mkC_nb, mkCs_nb]; done) | (simp only [List.length_append, List.length_cons, List.length_nil, bkC_len, bkCs_len, mkC_nb, mkCs_nb]; omega))
  try simp only [List.append_assoc, List.cons_append, List.nil_append, List.append_nil] at g14_
  obtain ⟨n15, hn15⟩ := isLen_ex (.cells 23 2 [.agg (fzCs x2)] :: (bkC n1 x0 ++ (bkCs n4 x2 ++ (bkCs n8 w ++ (.cells 86 11 [.agg (tvCs n8 w)] :: (bkC n12 x0))))) : List TB)
  have ln15 := hn15.eq
  simp only [List.length_append, List.length_cons, List.length_nil, bkC_len, bkCs_len, mkC_nb, mkCs_nb] at ln15
  have e16_ : ∀ t, (ansSp (toR_S sh_Window)).fn t [.agg (fzCs x2)] (.cells 23 2 [.agg (fzCs x2)] :: (bkC n1 x0 ++ (bkCs n4 x2 ++ (bkCs n8 w ++ (.cells 86 11 [.agg (tvCs n8 w)] :: (bkC n12 x0))))) : List TB) = some (.agg (tvCs n15 x2), (.cells 23 2 [.agg (fzCs x2)] :: (bkC n1 x0 ++ (bkCs n4 x2 ++ (bkCs n8 w ++ (.cells 86 11 [.agg (tvCs n8 w)] :: (bkC n12 x0 ++ (bkCs n15 x2)))))) : List TB)) := fun t => by
    rw [call_new (by simp only [List.map_cons, List.map_nil, frz_p, frz_s, frz_agg, frz_fzC, frz_fzCs]; try rfl) (toR_at h2 y2) hn15.eq]; try simp only [List.append_assoc, List.cons_append, List.nil_append, List.append_nil]
  have Ln15 := bkCs_len n15 x2
  have f17 : frzT (.cells 23 2 [.agg (fzCs x2)] :: (bkC n1 x0 ++ (bkCs n4 x2 ++ (bkCs n8 w ++ (.cells 86 11 [.agg (tvCs n8 w)] :: (bkC n12 x0 ++ (bkCs n15 x2)))))) : List TB) 9 (tvC n12 x0) = fzC x0 := by
    have := frzC_in (A := (.cells 23 2 [.agg (fzCs x2)] :: (bkC n1 x0 ++ (bkCs n4 x2 ++ (bkCs n8 w ++ ([.cells 86 11 [.agg (tvCs n8 w)]])))) : List TB)) (B := (bkCs n15 x2 : List TB)) (c := x0) (n := n12) (by first | (simp only [List.length_append, List.length_cons, List.length_nil, bkC_len, bkCs_len, mkC_nb, mkCs_nb]; done) | (simp only [List.length_append, List.length_cons, List.length_nil, bkC_len, bkCs_len, mkC_nb, mkCs_nb]; omega)) (by first | assumption | (rw [mkC_dp]; assumption))
    (try simp only [List.append_assoc, List.cons_append, List.nil_append, List.append_nil, mkC_tv, mkCs_tv] at this); (try simp only [List.append_assoc, List.cons_append, List.nil_append, List.append_nil, mkC_tv, mkCs_tv]); exact this
  have f18 : frzT (.cells 23 2 [.agg (fzCs x2)] :: (bkC n1 x0 ++ (bkCs n4 x2 ++ (bkCs n8 w ++ (.cells 86 11 [.agg (tvCs n8 w)] :: (bkC n12 x0 ++ (bkCs n15 x2)))))) : List TB) 9 (.agg (tvCs n15 x2)) = .agg (fzCs x2) := by
    have := frz_in (A := (.cells 23 2 [.agg (fzCs x2)] :: (bkC n1 x0 ++ (bkCs n4 x2 ++ (bkCs n8 w ++ (.cells 86 11 [.agg (tvCs n8 w)] :: (bkC n12 x0))))) : List TB)) (B := ([] : List TB)) (w := x2) (n := n15) (by first | (simp only [List.length_append, List.length_cons, List.length_nil, bkC_len, bkCs_len, mkC_nb, mkCs_nb]; done) | (simp only [List.length_append, List.length_cons, List.length_nil, bkC_len, bkCs_len, mkC_nb, mkCs_nb]; omega)) (by first | assumption | (rw [mkCs_dp]; assumption))
    (try simp only [List.append_assoc, List.cons_append, List.nil_append, List.append_nil, mkC_tv, mkCs_tv] at this); (try simp only [List.append_assoc, List.cons_append, List.nil_append, List.append_nil, mkC_tv, mkCs_tv]); exact this
  obtain ⟨n19, hn19⟩ := isLen_ex (.cells 23 2 [.agg (fzCs x2)] :: (bkC n1 x0 ++ (bkCs n4 x2 ++ (bkCs n8 w ++ (.cells 86 11 [.agg (tvCs n8 w)] :: (bkC n12 x0 ++ (bkCs n15 x2)))))) : List TB)
  have ln19 := hn19.eq
  simp only [List.length_append, List.length_cons, List.length_nil, bkC_len, bkCs_len, mkC_nb, mkCs_nb] at ln19
  have e20_ : ∀ t, (ansSp Si).fn t [tvC n12 x0, .p (.int .i64 x1), .agg (tvCs n15 x2)] (.cells 23 2 [.agg (fzCs x2)] :: (bkC n1 x0 ++ (bkCs n4 x2 ++ (bkCs n8 w ++ (.cells 86 11 [.agg (tvCs n8 w)] :: (bkC n12 x0 ++ (bkCs n15 x2)))))) : List TB) = some (.agg (tvCs n19 w'), (.cells 23 2 [.agg (fzCs x2)] :: (bkC n1 x0 ++ (bkCs n4 x2 ++ (bkCs n8 w ++ (.cells 86 11 [.agg (tvCs n8 w)] :: (bkC n12 x0 ++ (bkCs n15 x2 ++ (bkCs n19 w'))))))) : List TB)) := fun t => by
    rw [call_new (by simp only [List.map_cons, List.map_nil, frz_p, frz_s, frz_agg, frz_fzC, frz_fzCs, f17, f18]; try rfl) (wI) hn19.eq]; try simp only [List.append_assoc, List.cons_append, List.nil_append, List.append_nil]
  have Ln19 := bkCs_len n19 w'
  obtain ⟨n21, hn21⟩ := isLen_ex (.cells 23 2 [.agg (fzCs x2)] :: (bkC n1 x0 ++ (bkCs n4 x2 ++ (bkCs n8 w ++ (.cells 86 11 [.agg (tvCs n8 w)] :: (bkC n12 x0 ++ (bkCs n15 x2 ++ (bkCs n19 w'))))))) : List TB)
  have ln21 := hn21.eq
  simp only [List.length_append, List.length_cons, List.length_nil, bkC_len, bkCs_len, mkC_nb, mkCs_nb] at ln21
  have g22_ := hold_get (A := (.cells 23 2 [.agg (fzCs x2)] :: (bkC n1 x0 ++ (bkCs n4 x2 ++ (bkCs n8 w ++ (.cells 86 11 [.agg (tvCs n8 w)] :: (bkC n12 x0 ++ (bkCs n15 x2 ++ (bkCs n19 w'))))))) : List TB)) (R := ([] : List TB)) (n := n21) (by first | (simp only [List.length_append, List.length_cons, List.length_nil, bkC_len, bkCs_len, mkC_nb, mkCs_nb]; done) | (simp only [List.length_append, List.length_cons, List.length_nil, bkC_len, bkCs_len, mkC_nb, mkCs_nb]; omega))
  try simp only [List.append_assoc, List.cons_append, List.nil_append, List.append_nil] at g22_
  have g22_s := hold_set (A := (.cells 23 2 [.agg (fzCs x2)] :: (bkC n1 x0 ++ (bkCs n4 x2 ++ (bkCs n8 w ++ (.cells 86 11 [.agg (tvCs n8 w)] :: (bkC n12 x0 ++ (bkCs n15 x2 ++ (bkCs n19 w'))))))) : List TB)) (R := ([] : List TB)) (n := n21) (by first | (simp only [List.length_append, List.length_cons, List.length_nil, bkC_len, bkCs_len, mkC_nb, mkCs_nb]; done) | (simp only [List.length_append, List.length_cons, List.length_nil, bkC_len, bkCs_len, mkC_nb, mkCs_nb]; omega))
  try simp only [List.append_assoc, List.cons_append, List.nil_append, List.append_nil] at g22_s
  have g23_ := hold_get (A := (.cells 23 2 [.agg (fzCs x2)] :: (bkC n1 x0 ++ (bkCs n4 x2 ++ (bkCs n8 w ++ (.cells 86 11 [.agg (tvCs n8 w)] :: (bkC n12 x0 ++ (bkCs n15 x2 ++ (bkCs n19 w'))))))) : List TB)) (R := ([] : List TB)) (n := n21) (by first | (simp only [List.length_append, List.length_cons, List.length_nil, bkC_len, bkCs_len, mkC_nb, mkCs_nb]; done) | (simp only [List.length_append, List.length_cons, List.length_nil, bkC_len, bkCs_len, mkC_nb, mkCs_nb]; omega))
  try simp only [List.append_assoc, List.cons_append, List.nil_append, List.append_nil] at g23_
  have g24_ := hold_get (A := (.cells 23 2 [.agg (fzCs x2)] :: (bkC n1 x0 ++ (bkCs n4 x2 ++ (bkCs n8 w))) : List TB)) (R := (bkC n12 x0 ++ (bkCs n15 x2 ++ (bkCs n19 w' ++ ([.cells 86 11 [.agg (tvCs n19 w')]]))) : List TB)) (n := n10) (by first | (simp only [List.length_append, List.length_cons, List.length_nil, bkC_len, bkCs_len, mkC_nb, mkCs_nb]; done) | (simp only [List.length_append, List.length_cons, List.length_nil, bkC_len, bkCs_len, mkC_nb, mkCs_nb]; omega))
  try simp only [List.append_assoc, List.cons_append, List.nil_append, List.append_nil] at g24_
  have f25 : frzT (.cells 23 2 [.agg (fzCs x2)] :: (bkC n1 x0 ++ (bkCs n4 x2 ++ (bkCs n8 w ++ (.cells 86 11 [.agg (tvCs n8 w)] :: (bkC n12 x0 ++ (bkCs n15 x2 ++ (bkCs n19 w' ++ ([.cells 86 11 [.agg (tvCs n19 w')]])))))))) : List TB) 9 (.agg (tvCs n19 w')) = .agg (fzCs w') := by
    have := frz_in (A := (.cells 23 2 [.agg (fzCs x2)] :: (bkC n1 x0 ++ (bkCs n4 x2 ++ (bkCs n8 w ++ (.cells 86 11 [.agg (tvCs n8 w)] :: (bkC n12 x0 ++ (bkCs n15 x2)))))) : List TB)) (B := ([.cells 86 11 [.agg (tvCs n19 w')]] : List TB)) (w := w') (n := n19) (by first | (simp only [List.length_append, List.length_cons, List.length_nil, bkC_len, bkCs_len, mkC_nb, mkCs_nb]; done) | (simp only [List.length_append, List.length_cons, List.length_nil, bkC_len, bkCs_len, mkC_nb, mkCs_nb]; omega)) (by first | assumption | (rw [mkCs_dp]; assumption))
    (try simp only [List.append_assoc, List.cons_append, List.nil_append, List.append_nil, mkC_tv, mkCs_tv] at this); (try simp only [List.append_assoc, List.cons_append, List.nil_append, List.append_nil, mkC_tv, mkCs_tv]); exact this
  have f26 : frzT (.cells 23 2 [.agg (fzCs x2)] :: (bkC n1 x0 ++ (bkCs n4 x2 ++ (bkCs n8 w ++ (.cells 86 11 [.agg (tvCs n8 w)] :: (bkC n12 x0 ++ (bkCs n15 x2 ++ (bkCs n19 w' ++ ([.cells 86 11 [.agg (tvCs n19 w')]])))))))) : List TB) 9 (.agg (tvCs n8 w)) = .agg (fzCs w) := by
    have := frz_in (A := (.cells 23 2 [.agg (fzCs x2)] :: (bkC n1 x0 ++ (bkCs n4 x2)) : List TB)) (B := (.cells 86 11 [.agg (tvCs n8 w)] :: (bkC n12 x0 ++ (bkCs n15 x2 ++ (bkCs n19 w' ++ ([.cells 86 11 [.agg (tvCs n19 w')]])))) : List TB)) (w := w) (n := n8) (by first | (simp only [List.length_append, List.length_cons, List.length_nil, bkC_len, bkCs_len, mkC_nb, mkCs_nb]; done) | (simp only [List.length_append, List.length_cons, List.length_nil, bkC_len, bkCs_len, mkC_nb, mkCs_nb]; omega)) (by first | assumption | (rw [mkCs_dp]; assumption))
    (try simp only [List.append_assoc, List.cons_append, List.nil_append, List.append_nil, mkC_tv, mkCs_tv] at this); (try simp only [List.append_assoc, List.cons_append, List.nil_append, List.append_nil, mkC_tv, mkCs_tv]); exact this
  have e27_ : ∀ t, (ansSp (eqR_S sh_UntunnelResult)).fn t [.agg (tvCs n19 w'), .agg (tvCs n8 w)] (.cells 23 2 [.agg (fzCs x2)] :: (bkC n1 x0 ++ (bkCs n4 x2 ++ (bkCs n8 w ++ (.cells 86 11 [.agg (tvCs n8 w)] :: (bkC n12 x0 ++ (bkCs n15 x2 ++ (bkCs n19 w' ++ ([.cells 86 11 [.agg (tvCs n19 w')]])))))))) : List TB) = some (.p (.bool true), (.cells 23 2 [.agg (fzCs x2)] :: (bkC n1 x0 ++ (bkCs n4 x2 ++ (bkCs n8 w ++ (.cells 86 11 [.agg (tvCs n8 w)] :: (bkC n12 x0 ++ (bkCs n15 x2 ++ (bkCs n19 w' ++ ([.cells 86 11 [.agg (tvCs n19 w')]])))))))) : List TB)) := fun t => call_val (by simp only [List.map_cons, List.map_nil, frz_p, frz_s, frz_agg, frz_fzC, frz_fzCs, wE, f25, f26]; try rfl) (eqR_at fI (Nat.le_trans sI (by decide)))
  obtain ⟨n28, hn28⟩ := isLen_ex (.cells 23 2 [.agg (fzCs x2)] :: (bkC n1 x0 ++ (bkCs n4 x2 ++ (bkCs n8 w ++ (.cells 86 11 [.agg (tvCs n8 w)] :: (bkC n12 x0 ++ (bkCs n15 x2 ++ (bkCs n19 w' ++ ([.cells 86 11 [.agg (tvCs n19 w')]])))))))) : List TB)
  have ln28 := hn28.eq
  simp only [List.length_append, List.length_cons, List.length_nil, bkC_len, bkCs_len, mkC_nb, mkCs_nb] at ln28
  have e29_ : ∀ t, (ansSp (toC_S sh_ByteS)).fn t [fzC x0] (.cells 23 2 [.agg (fzCs x2)] :: (bkC n1 x0 ++ (bkCs n4 x2 ++ (bkCs n8 w ++ (.cells 86 11 [.agg (tvCs n8 w)] :: (bkC n12 x0 ++ (bkCs n15 x2 ++ (bkCs n19 w' ++ ([.cells 86 11 [.agg (tvCs n19 w')]])))))))) : List TB) = some (tvC n28 x0, (.cells 23 2 [.agg (fzCs x2)] :: (bkC n1 x0 ++ (bkCs n4 x2 ++ (bkCs n8 w ++ (.cells 86 11 [.agg (tvCs n8 w)] :: (bkC n12 x0 ++ (bkCs n15 x2 ++ (bkCs n19 w' ++ (.cells 86 11 [.agg (tvCs n19 w')] :: (bkC n28 x0))))))))) : List TB)) := fun t => by
    rw [call_newC (by simp only [List.map_cons, List.map_nil, frz_p, frz_s, frz_agg, frz_fzC, frz_fzCs]; try rfl) (toC_at h0 y0) hn28.eq]; try simp only [List.append_assoc, List.cons_append, List.nil_append, List.append_nil]
  have Ln28 := bkC_len n28 x0
  have f30 : frzT (.cells 23 2 [.agg (fzCs x2)] :: (bkC n1 x0 ++ (bkCs n4 x2 ++ (bkCs n8 w ++ (.cells 86 11 [.agg (tvCs n8 w)] :: (bkC n12 x0 ++ (bkCs n15 x2 ++ (bkCs n19 w' ++ (.cells 86 11 [.agg (tvCs n19 w')] :: (bkC n28 x0))))))))) : List TB) 9 (tvC n12 x0) = fzC x0 := by
    have := frzC_in (A := (.cells 23 2 [.agg (fzCs x2)] :: (bkC n1 x0 ++ (bkCs n4 x2 ++ (bkCs n8 w ++ ([.cells 86 11 [.agg (tvCs n8 w)]])))) : List TB)) (B := (bkCs n15 x2 ++ (bkCs n19 w' ++ (.cells 86 11 [.agg (tvCs n19 w')] :: (bkC n28 x0))) : List TB)) (c := x0) (n := n12) (by first | (simp only [List.length_append, List.length_cons, List.length_nil, bkC_len, bkCs_len, mkC_nb, mkCs_nb]; done) | (simp only [List.length_append, List.length_cons, List.length_nil, bkC_len, bkCs_len, mkC_nb, mkCs_nb]; omega)) (by first | assumption | (rw [mkC_dp]; assumption))
    (try simp only [List.append_assoc, List.cons_append, List.nil_append, List.append_nil, mkC_tv, mkCs_tv] at this); (try simp only [List.append_assoc, List.cons_append, List.nil_append, List.append_nil, mkC_tv, mkCs_tv]); exact this
  have f31 : frzT (.cells 23 2 [.agg (fzCs x2)] :: (bkC n1 x0 ++ (bkCs n4 x2 ++ (bkCs n8 w ++ (.cells 86 11 [.agg (tvCs n8 w)] :: (bkC n12 x0 ++ (bkCs n15 x2 ++ (bkCs n19 w' ++ (.cells 86 11 [.agg (tvCs n19 w')] :: (bkC n28 x0))))))))) : List TB) 9 (tvC n28 x0) = fzC x0 := by
    have := frzC_in (A := (.cells 23 2 [.agg (fzCs x2)] :: (bkC n1 x0 ++ (bkCs n4 x2 ++ (bkCs n8 w ++ (.cells 86 11 [.agg (tvCs n8 w)] :: (bkC n12 x0 ++ (bkCs n15 x2 ++ (bkCs n19 w' ++ ([.cells 86 11 [.agg (tvCs n19 w')]])))))))) : List TB)) (B := ([] : List TB)) (c := x0) (n := n28) (by first | (simp only [List.length_append, List.length_cons, List.length_nil, bkC_len, bkCs_len, mkC_nb, mkCs_nb]; done) | (simp only [List.length_append, List.length_cons, List.length_nil, bkC_len, bkCs_len, mkC_nb, mkCs_nb]; omega)) (by first | assumption | (rw [mkC_dp]; assumption))
    (try simp only [List.append_assoc, List.cons_append, List.nil_append, List.append_nil, mkC_tv, mkCs_tv] at this); (try simp only [List.append_assoc, List.cons_append, List.nil_append, List.append_nil, mkC_tv, mkCs_tv]); exact this
  have e32_ : ∀ t, (ansSp (eqC_S sh_ByteS)).fn t [tvC n12 x0, tvC n28 x0] (.cells 23 2 [.agg (fzCs x2)] :: (bkC n1 x0 ++ (bkCs n4 x2 ++ (bkCs n8 w ++ (.cells 86 11 [.agg (tvCs n8 w)] :: (bkC n12 x0 ++ (bkCs n15 x2 ++ (bkCs n19 w' ++ (.cells 86 11 [.agg (tvCs n19 w')] :: (bkC n28 x0))))))))) : List TB) = some (.p (.bool true), (.cells 23 2 [.agg (fzCs x2)] :: (bkC n1 x0 ++ (bkCs n4 x2 ++ (bkCs n8 w ++ (.cells 86 11 [.agg (tvCs n8 w)] :: (bkC n12 x0 ++ (bkCs n15 x2 ++ (bkCs n19 w' ++ (.cells 86 11 [.agg (tvCs n19 w')] :: (bkC n28 x0))))))))) : List TB)) := fun t => call_val (by simp only [List.map_cons, List.map_nil, frz_p, frz_s, frz_agg, frz_fzC, frz_fzCs, f30, f31]; try rfl) (eqC_at (HasC.fit _ _ h0) (Nat.le_trans y0 (by decide)))
  simp (maxSteps := 8000000) (implicitDefEqProofs := false) (disch := omega) only [↓reduceIte, go_sem, if_pos, if_neg, len2, fzCs_len, fzCs_one, lenS, lenI, tvCs_len, tvCs_one, ↓hn0.eq, ↓hn1.eq, e2_, g3_, ↓hn4.eq, e5_, ↓hn8.eq, e9_, ↓hn10.eq, g11_, g11_s, ↓hn12.eq, e13_, g14_, ↓hn15.eq, e16_, ↓hn19.eq, e20_, ↓hn21.eq, g22_, g22_s, g23_, g24_, e27_, ↓hn28.eq, e29_, e32_]
  have k33_ := mkC_seg (A := (.cells 23 2 [.agg (fzCs x2)] :: (bkC n1 x0 ++ (bkCs n4 x2 ++ (bkCs n8 w ++ ([.cells 86 11 [.agg (tvCs n8 w)]])))) : List TB)) (B := (bkCs n15 x2 ++ (bkCs n19 w' ++ (.cells 86 11 [.agg (tvCs n19 w')] :: (bkC n28 x0))) : List TB)) (n := n12) (c := x0) (k := 1) (by simp only [List.length_append, List.length_cons, List.length_nil, bkC_len, bkCs_len, mkC_nb, mkCs_nb]; omega) (HasC.fit _ _ h0) (by omega) (by omega)
  simp only [List.append_assoc, List.cons_append, List.nil_append, List.append_nil] at k33_
  have Ln12_34 := bkC_len n12 (mkC x0 (1)); rw [mkC_nb] at Ln12_34
  refine mutQ_call (by simp (maxSteps := 8000000) (implicitDefEqProofs := false) (disch := omega) only [↓reduceIte, go_sem, if_pos, if_neg]; rfl) (by simp (maxSteps := 8000000) (implicitDefEqProofs := false) (disch := omega) only [↓reduceIte, go_sem, if_pos, if_neg]) k33_ ?_
  have g34_ := hold_get (A := (.cells 23 2 [.agg (fzCs x2)] :: (bkC n1 x0 ++ (bkCs n4 x2 ++ (bkCs n8 w ++ (.cells 86 11 [.agg (tvCs n8 w)] :: (bkC n12 (mkC x0 (1)) ++ (bkCs n15 x2 ++ (bkCs n19 w'))))))) : List TB)) (R := (bkC n28 x0 : List TB)) (n := n21) (by first | (simp only [List.length_append, List.length_cons, List.length_nil, bkC_len, bkCs_len, mkC_nb, mkCs_nb]; done) | (simp only [List.length_append, List.length_cons, List.length_nil, bkC_len, bkCs_len, mkC_nb, mkCs_nb]; omega))
  try simp only [List.append_assoc, List.cons_append, List.nil_append, List.append_nil] at g34_
  have g35_ := hold_get (A := (.cells 23 2 [.agg (fzCs x2)] :: (bkC n1 x0 ++ (bkCs n4 x2 ++ (bkCs n8 w))) : List TB)) (R := (bkC n12 (mkC x0 (1)) ++ (bkCs n15 x2 ++ (bkCs n19 w' ++ (.cells 86 11 [.agg (tvCs n19 w')] :: (bkC n28 x0)))) : List TB)) (n := n10) (by first | (simp only [List.length_append, List.length_cons, List.length_nil, bkC_len, bkCs_len, mkC_nb, mkCs_nb]; done) | (simp only [List.length_append, List.length_cons, List.length_nil, bkC_len, bkCs_len, mkC_nb, mkCs_nb]; omega))
  try simp only [List.append_assoc, List.cons_append, List.nil_append, List.append_nil] at g35_
  have f36 : frzT (.cells 23 2 [.agg (fzCs x2)] :: (bkC n1 x0 ++ (bkCs n4 x2 ++ (bkCs n8 w ++ (.cells 86 11 [.agg (tvCs n8 w)] :: (bkC n12 (mkC x0 (1)) ++ (bkCs n15 x2 ++ (bkCs n19 w' ++ (.cells 86 11 [.agg (tvCs n19 w')] :: (bkC n28 x0))))))))) : List TB) 9 (.agg (tvCs n19 w')) = .agg (fzCs w') := by
    have := frz_in (A := (.cells 23 2 [.agg (fzCs x2)] :: (bkC n1 x0 ++ (bkCs n4 x2 ++ (bkCs n8 w ++ (.cells 86 11 [.agg (tvCs n8 w)] :: (bkC n12 (mkC x0 (1)) ++ (bkCs n15 x2)))))) : List TB)) (B := (.cells 86 11 [.agg (tvCs n19 w')] :: (bkC n28 x0) : List TB)) (w := w') (n := n19) (by first | (simp only [List.length_append, List.length_cons, List.length_nil, bkC_len, bkCs_len, mkC_nb, mkCs_nb]; done) | (simp only [List.length_append, List.length_cons, List.length_nil, bkC_len, bkCs_len, mkC_nb, mkCs_nb]; omega)) (by first | assumption | (rw [mkCs_dp]; assumption))
    (try simp only [List.append_assoc, List.cons_append, List.nil_append, List.append_nil, mkC_tv, mkCs_tv] at this); (try simp only [List.append_assoc, List.cons_append, List.nil_append, List.append_nil, mkC_tv, mkCs_tv]); exact this
  have f37 : frzT (.cells 23 2 [.agg (fzCs x2)] :: (bkC n1 x0 ++ (bkCs n4 x2 ++ (bkCs n8 w ++ (.cells 86 11 [.agg (tvCs n8 w)] :: (bkC n12 (mkC x0 (1)) ++ (bkCs n15 x2 ++ (bkCs n19 w' ++ (.cells 86 11 [.agg (tvCs n19 w')] :: (bkC n28 x0))))))))) : List TB) 9 (.agg (tvCs n8 w)) = .agg (fzCs w) := by
    have := frz_in (A := (.cells 23 2 [.agg (fzCs x2)] :: (bkC n1 x0 ++ (bkCs n4 x2)) : List TB)) (B := (.cells 86 11 [.agg (tvCs n8 w)] :: (bkC n12 (mkC x0 (1)) ++ (bkCs n15 x2 ++ (bkCs n19 w' ++ (.cells 86 11 [.agg (tvCs n19 w')] :: (bkC n28 x0))))) : List TB)) (w := w) (n := n8) (by first | (simp only [List.length_append, List.length_cons, List.length_nil, bkC_len, bkCs_len, mkC_nb, mkCs_nb]; done) | (simp only [List.length_append, List.length_cons, List.length_nil, bkC_len, bkCs_len, mkC_nb, mkCs_nb]; omega)) (by first | assumption | (rw [mkCs_dp]; assumption))
    (try simp only [List.append_assoc, List.cons_append, List.nil_append, List.append_nil, mkC_tv, mkCs_tv] at this); (try simp only [List.append_assoc, List.cons_append, List.nil_append, List.append_nil, mkC_tv, mkCs_tv]); exact this
  have e38_ : ∀ t, (ansSp (eqR_S sh_UntunnelResult)).fn t [.agg (tvCs n19 w'), .agg (tvCs n8 w)] (.cells 23 2 [.agg (fzCs x2)] :: (bkC n1 x0 ++ (bkCs n4 x2 ++ (bkCs n8 w ++ (.cells 86 11 [.agg (tvCs n8 w)] :: (bkC n12 (mkC x0 (1)) ++ (bkCs n15 x2 ++ (bkCs n19 w' ++ (.cells 86 11 [.agg (tvCs n19 w')] :: (bkC n28 x0))))))))) : List TB) = some (.p (.bool true), (.cells 23 2 [.agg (fzCs x2)] :: (bkC n1 x0 ++ (bkCs n4 x2 ++ (bkCs n8 w ++ (.cells 86 11 [.agg (tvCs n8 w)] :: (bkC n12 (mkC x0 (1)) ++ (bkCs n15 x2 ++ (bkCs n19 w' ++ (.cells 86 11 [.agg (tvCs n19 w')] :: (bkC n28 x0))))))))) : List TB)) := fun t => call_val (by simp only [List.map_cons, List.map_nil, frz_p, frz_s, frz_agg, frz_fzC, frz_fzCs, wE, f36, f37]; try rfl) (eqR_at fI (Nat.le_trans sI (by decide)))
  have g39_ := hold_get (A := (.cells 23 2 [.agg (fzCs x2)] :: (bkC n1 x0 ++ (bkCs n4 x2 ++ (bkCs n8 w ++ (.cells 86 11 [.agg (tvCs n8 w)] :: (bkC n12 (mkC x0 (1)) ++ (bkCs n15 x2 ++ (bkCs n19 w'))))))) : List TB)) (R := (bkC n28 x0 : List TB)) (n := n21) (by first | (simp only [List.length_append, List.length_cons, List.length_nil, bkC_len, bkCs_len, mkC_nb, mkCs_nb]; done) | (simp only [List.length_append, List.length_cons, List.length_nil, bkC_len, bkCs_len, mkC_nb, mkCs_nb]; omega))
  try simp only [List.append_assoc, List.cons_append, List.nil_append, List.append_nil] at g39_
  simp (maxSteps := 8000000) (implicitDefEqProofs := false) (disch := omega) only [↓reduceIte, go_sem, if_pos, if_neg, len2, fzCs_len, fzCs_one, lenS, lenI, tvCs_len, tvCs_one, eq_false (show ¬ (1 + (wtC x0 : Int) < 0) by omega), g34_, g35_, e38_, g39_]
  have k40_ := mkR_seg (A := (.cells 23 2 [.agg (fzCs x2)] :: (bkC n1 x0 ++ (bkCs n4 x2 ++ (bkCs n8 w ++ (.cells 86 11 [.agg (tvCs n8 w)] :: (bkC n12 (mkC x0 (1)) ++ (bkCs n15 x2)))))) : List TB)) (B := (.cells 86 11 [.agg (tvCs n19 w')] :: (bkC n28 x0) : List TB)) (n := n19) (c := w') (k := 1) (by simp only [List.length_append, List.length_cons, List.length_nil, bkC_len, bkCs_len, mkC_nb, mkCs_nb]; omega) fI (by omega) (by omega)
  simp only [List.append_assoc, List.cons_append, List.nil_append, List.append_nil] at k40_
  have Ln19_41 := bkCs_len n19 (mkCs w' (1)); rw [mkCs_nb] at Ln19_41
  refine mutQ_call (by simp (maxSteps := 8000000) (implicitDefEqProofs := false) (disch := omega) only [↓reduceIte, go_sem, if_pos, if_neg]; rfl) (by simp (maxSteps := 8000000) (implicitDefEqProofs := false) (disch := omega) only [↓reduceIte, go_sem, if_pos, if_neg]) k40_ ?_
  have g41_ := hold_get (A := (.cells 23 2 [.agg (fzCs x2)] :: (bkC n1 x0 ++ (bkCs n4 x2 ++ (bkCs n8 w ++ (.cells 86 11 [.agg (tvCs n8 w)] :: (bkC n12 (mkC x0 (1)) ++ (bkCs n15 x2 ++ (bkCs n19 (mkCs w' (1))))))))) : List TB)) (R := (bkC n28 x0 : List TB)) (n := n21) (by first | (simp only [List.length_append, List.length_cons, List.length_nil, bkC_len, bkCs_len, mkC_nb, mkCs_nb]; done) | (simp only [List.length_append, List.length_cons, List.length_nil, bkC_len, bkCs_len, mkC_nb, mkCs_nb]; omega))
  try simp only [List.append_assoc, List.cons_append, List.nil_append, List.append_nil] at g41_
  have f42 : frzT (.cells 23 2 [.agg (fzCs x2)] :: (bkC n1 x0 ++ (bkCs n4 x2 ++ (bkCs n8 w ++ (.cells 86 11 [.agg (tvCs n8 w)] :: (bkC n12 (mkC x0 (1)) ++ (bkCs n15 x2 ++ (bkCs n19 (mkCs w' (1)) ++ (.cells 86 11 [.agg (tvCs n19 w')] :: (bkC n28 x0))))))))) : List TB) 9 (.agg (tvCs n19 w')) = .agg (fzCs (mkCs w' (1))) := by
    have := frz_in (A := (.cells 23 2 [.agg (fzCs x2)] :: (bkC n1 x0 ++ (bkCs n4 x2 ++ (bkCs n8 w ++ (.cells 86 11 [.agg (tvCs n8 w)] :: (bkC n12 (mkC x0 (1)) ++ (bkCs n15 x2)))))) : List TB)) (B := (.cells 86 11 [.agg (tvCs n19 w')] :: (bkC n28 x0) : List TB)) (w := (mkCs w' (1))) (n := n19) (by first | (simp only [List.length_append, List.length_cons, List.length_nil, bkC_len, bkCs_len, mkC_nb, mkCs_nb]; done) | (simp only [List.length_append, List.length_cons, List.length_nil, bkC_len, bkCs_len, mkC_nb, mkCs_nb]; omega)) (by first | assumption | (rw [mkCs_dp]; assumption))
    (try simp only [List.append_assoc, List.cons_append, List.nil_append, List.append_nil, mkC_tv, mkCs_tv] at this); (try simp only [List.append_assoc, List.cons_append, List.nil_append, List.append_nil, mkC_tv, mkCs_tv]); exact this
  have e43_ : ∀ t, (ansSp (hdR_S sh_UntunnelResult)).fn t [.agg (tvCs n19 w'), .p (.int .i64 1)] (.cells 23 2 [.agg (fzCs x2)] :: (bkC n1 x0 ++ (bkCs n4 x2 ++ (bkCs n8 w ++ (.cells 86 11 [.agg (tvCs n8 w)] :: (bkC n12 (mkC x0 (1)) ++ (bkCs n15 x2 ++ (bkCs n19 (mkCs w' (1)) ++ (.cells 86 11 [.agg (tvCs n19 w')] :: (bkC n28 x0))))))))) : List TB) = some (.p (.int .i64 (1 + (wtCs w' : Int))), (.cells 23 2 [.agg (fzCs x2)] :: (bkC n1 x0 ++ (bkCs n4 x2 ++ (bkCs n8 w ++ (.cells 86 11 [.agg (tvCs n8 w)] :: (bkC n12 (mkC x0 (1)) ++ (bkCs n15 x2 ++ (bkCs n19 (mkCs w' (1)) ++ (.cells 86 11 [.agg (tvCs n19 w')] :: (bkC n28 x0))))))))) : List TB)) := fun t => call_val (by simp only [List.map_cons, List.map_nil, frz_p, frz_s, frz_agg, frz_fzC, frz_fzCs, f42]; try rfl) (hdR_at (k := 1) fI (by omega) (by omega))
  obtain ⟨n44, hn44⟩ := isLen_ex (.cells 23 2 [.agg (fzCs x2)] :: (bkC n1 x0 ++ (bkCs n4 x2 ++ (bkCs n8 w ++ (.cells 86 11 [.agg (tvCs n8 w)] :: (bkC n12 (mkC x0 (1)) ++ (bkCs n15 x2 ++ (bkCs n19 (mkCs w' (1)) ++ (.cells 86 11 [.agg (tvCs n19 w')] :: (bkC n28 x0))))))))) : List TB)
  have ln44 := hn44.eq
  simp only [List.length_append, List.length_cons, List.length_nil, bkC_len, bkCs_len, mkC_nb, mkCs_nb] at ln44
  have e45_ : ∀ t, (ansSp (toC_S sh_ByteS)).fn t [fzC x0] (.cells 23 2 [.agg (fzCs x2)] :: (bkC n1 x0 ++ (bkCs n4 x2 ++ (bkCs n8 w ++ (.cells 86 11 [.agg (tvCs n8 w)] :: (bkC n12 (mkC x0 (1)) ++ (bkCs n15 x2 ++ (bkCs n19 (mkCs w' (1)) ++ (.cells 86 11 [.agg (tvCs n19 w')] :: (bkC n28 x0))))))))) : List TB) = some (tvC n44 x0, (.cells 23 2 [.agg (fzCs x2)] :: (bkC n1 x0 ++ (bkCs n4 x2 ++ (bkCs n8 w ++ (.cells 86 11 [.agg (tvCs n8 w)] :: (bkC n12 (mkC x0 (1)) ++ (bkCs n15 x2 ++ (bkCs n19 (mkCs w' (1)) ++ (.cells 86 11 [.agg (tvCs n19 w')] :: (bkC n28 x0 ++ (bkC n44 x0)))))))))) : List TB)) := fun t => by
    rw [call_newC (by simp only [List.map_cons, List.map_nil, frz_p, frz_s, frz_agg, frz_fzC, frz_fzCs]; try rfl) (toC_at h0 y0) hn44.eq]; try simp only [List.append_assoc, List.cons_append, List.nil_append, List.append_nil]
  have Ln44 := bkC_len n44 x0
  have g46_ := hold_get (A := ([] : List TB)) (R := (bkC n1 x0 ++ (bkCs n4 x2 ++ (bkCs n8 w ++ (.cells 86 11 [.agg (tvCs n8 w)] :: (bkC n12 (mkC x0 (1)) ++ (bkCs n15 x2 ++ (bkCs n19 (mkCs w' (1)) ++ (.cells 86 11 [.agg (tvCs n19 w')] :: (bkC n28 x0 ++ (bkC n44 x0))))))))) : List TB)) (n := n0) (by first | (simp only [List.length_append, List.length_cons, List.length_nil, bkC_len, bkCs_len, mkC_nb, mkCs_nb]; done) | (simp only [List.length_append, List.length_cons, List.length_nil, bkC_len, bkCs_len, mkC_nb, mkCs_nb]; omega))
  try simp only [List.append_assoc, List.cons_append, List.nil_append, List.append_nil] at g46_
  obtain ⟨n47, hn47⟩ := isLen_ex (.cells 23 2 [.agg (fzCs x2)] :: (bkC n1 x0 ++ (bkCs n4 x2 ++ (bkCs n8 w ++ (.cells 86 11 [.agg (tvCs n8 w)] :: (bkC n12 (mkC x0 (1)) ++ (bkCs n15 x2 ++ (bkCs n19 (mkCs w' (1)) ++ (.cells 86 11 [.agg (tvCs n19 w')] :: (bkC n28 x0 ++ (bkC n44 x0)))))))))) : List TB)
  have ln47 := hn47.eq
  simp only [List.length_append, List.length_cons, List.length_nil, bkC_len, bkCs_len, mkC_nb, mkCs_nb] at ln47
  have e48_ : ∀ t, (ansSp (toR_S sh_Window)).fn t [.agg (fzCs x2)] (.cells 23 2 [.agg (fzCs x2)] :: (bkC n1 x0 ++ (bkCs n4 x2 ++ (bkCs n8 w ++ (.cells 86 11 [.agg (tvCs n8 w)] :: (bkC n12 (mkC x0 (1)) ++ (bkCs n15 x2 ++ (bkCs n19 (mkCs w' (1)) ++ (.cells 86 11 [.agg (tvCs n19 w')] :: (bkC n28 x0 ++ (bkC n44 x0)))))))))) : List TB) = some (.agg (tvCs n47 x2), (.cells 23 2 [.agg (fzCs x2)] :: (bkC n1 x0 ++ (bkCs n4 x2 ++ (bkCs n8 w ++ (.cells 86 11 [.agg (tvCs n8 w)] :: (bkC n12 (mkC x0 (1)) ++ (bkCs n15 x2 ++ (bkCs n19 (mkCs w' (1)) ++ (.cells 86 11 [.agg (tvCs n19 w')] :: (bkC n28 x0 ++ (bkC n44 x0 ++ (bkCs n47 x2))))))))))) : List TB)) := fun t => by
    rw [call_new (by simp only [List.map_cons, List.map_nil, frz_p, frz_s, frz_agg, frz_fzC, frz_fzCs]; try rfl) (toR_at h2 y2) hn47.eq]; try simp only [List.append_assoc, List.cons_append, List.nil_append, List.append_nil]
  have Ln47 := bkCs_len n47 x2
  have f49 : frzT (.cells 23 2 [.agg (fzCs x2)] :: (bkC n1 x0 ++ (bkCs n4 x2 ++ (bkCs n8 w ++ (.cells 86 11 [.agg (tvCs n8 w)] :: (bkC n12 (mkC x0 (1)) ++ (bkCs n15 x2 ++ (bkCs n19 (mkCs w' (1)) ++ (.cells 86 11 [.agg (tvCs n19 w')] :: (bkC n28 x0 ++ (bkC n44 x0 ++ (bkCs n47 x2))))))))))) : List TB) 9 (tvC n44 x0) = fzC x0 := by
    have := frzC_in (A := (.cells 23 2 [.agg (fzCs x2)] :: (bkC n1 x0 ++ (bkCs n4 x2 ++ (bkCs n8 w ++ (.cells 86 11 [.agg (tvCs n8 w)] :: (bkC n12 (mkC x0 (1)) ++ (bkCs n15 x2 ++ (bkCs n19 (mkCs w' (1)) ++ (.cells 86 11 [.agg (tvCs n19 w')] :: (bkC n28 x0))))))))) : List TB)) (B := (bkCs n47 x2 : List TB)) (c := x0) (n := n44) (by first | (simp only [List.length_append, List.length_cons, List.length_nil, bkC_len, bkCs_len, mkC_nb, mkCs_nb]; done) | (simp only [List.length_append, List.length_cons, List.length_nil, bkC_len, bkCs_len, mkC_nb, mkCs_nb]; omega)) (by first | assumption | (rw [mkC_dp]; assumption))
    (try simp only [List.append_assoc, List.cons_append, List.nil_append, List.append_nil, mkC_tv, mkCs_tv] at this); (try simp only [List.append_assoc, List.cons_append, List.nil_append, List.append_nil, mkC_tv, mkCs_tv]); exact this
  have f50 : frzT (.cells 23 2 [.agg (fzCs x2)] :: (bkC n1 x0 ++ (bkCs n4 x2 ++ (bkCs n8 w ++ (.cells 86 11 [.agg (tvCs n8 w)] :: (bkC n12 (mkC x0 (1)) ++ (bkCs n15 x2 ++ (bkCs n19 (mkCs w' (1)) ++ (.cells 86 11 [.agg (tvCs n19 w')] :: (bkC n28 x0 ++ (bkC n44 x0 ++ (bkCs n47 x2))))))))))) : List TB) 9 (.agg (tvCs n47 x2)) = .agg (fzCs x2) := by
    have := frz_in (A := (.cells 23 2 [.agg (fzCs x2)] :: (bkC n1 x0 ++ (bkCs n4 x2 ++ (bkCs n8 w ++ (.cells 86 11 [.agg (tvCs n8 w)] :: (bkC n12 (mkC x0 (1)) ++ (bkCs n15 x2 ++ (bkCs n19 (mkCs w' (1)) ++ (.cells 86 11 [.agg (tvCs n19 w')] :: (bkC n28 x0 ++ (bkC n44 x0)))))))))) : List TB)) (B := ([] : List TB)) (w := x2) (n := n47) (by first | (simp only [List.length_append, List.length_cons, List.length_nil, bkC_len, bkCs_len, mkC_nb, mkCs_nb]; done) | (simp only [List.length_append, List.length_cons, List.length_nil, bkC_len, bkCs_len, mkC_nb, mkCs_nb]; omega)) (by first | assumption | (rw [mkCs_dp]; assumption))
    (try simp only [List.append_assoc, List.cons_append, List.nil_append, List.append_nil, mkC_tv, mkCs_tv] at this); (try simp only [List.append_assoc, List.cons_append, List.nil_append, List.append_nil, mkC_tv, mkCs_tv]); exact this
  obtain ⟨n51, hn51⟩ := isLen_ex (.cells 23 2 [.agg (fzCs x2)] :: (bkC n1 x0 ++ (bkCs n4 x2 ++ (bkCs n8 w ++ (.cells 86 11 [.agg (tvCs n8 w)] :: (bkC n12 (mkC x0 (1)) ++ (bkCs n15 x2 ++ (bkCs n19 (mkCs w' (1)) ++ (.cells 86 11 [.agg (tvCs n19 w')] :: (bkC n28 x0 ++ (bkC n44 x0 ++ (bkCs n47 x2))))))))))) : List TB)
  have ln51 := hn51.eq
  simp only [List.length_append, List.length_cons, List.length_nil, bkC_len, bkCs_len, mkC_nb, mkCs_nb] at ln51
  have e52_ : ∀ t, (ansSp Si).fn t [tvC n44 x0, .p (.int .i64 x1), .agg (tvCs n47 x2)] (.cells 23 2 [.agg (fzCs x2)] :: (bkC n1 x0 ++ (bkCs n4 x2 ++ (bkCs n8 w ++ (.cells 86 11 [.agg (tvCs n8 w)] :: (bkC n12 (mkC x0 (1)) ++ (bkCs n15 x2 ++ (bkCs n19 (mkCs w' (1)) ++ (.cells 86 11 [.agg (tvCs n19 w')] :: (bkC n28 x0 ++ (bkC n44 x0 ++ (bkCs n47 x2))))))))))) : List TB) = some (.agg (tvCs n51 w'), (.cells 23 2 [.agg (fzCs x2)] :: (bkC n1 x0 ++ (bkCs n4 x2 ++ (bkCs n8 w ++ (.cells 86 11 [.agg (tvCs n8 w)] :: (bkC n12 (mkC x0 (1)) ++ (bkCs n15 x2 ++ (bkCs n19 (mkCs w' (1)) ++ (.cells 86 11 [.agg (tvCs n19 w')] :: (bkC n28 x0 ++ (bkC n44 x0 ++ (bkCs n47 x2 ++ (bkCs n51 w')))))))))))) : List TB)) := fun t => by
    rw [call_new (by simp only [List.map_cons, List.map_nil, frz_p, frz_s, frz_agg, frz_fzC, frz_fzCs, f49, f50]; try rfl) (wI) hn51.eq]; try simp only [List.append_assoc, List.cons_append, List.nil_append, List.append_nil]
  have Ln51 := bkCs_len n51 w'
  obtain ⟨n53, hn53⟩ := isLen_ex (.cells 23 2 [.agg (fzCs x2)] :: (bkC n1 x0 ++ (bkCs n4 x2 ++ (bkCs n8 w ++ (.cells 86 11 [.agg (tvCs n8 w)] :: (bkC n12 (mkC x0 (1)) ++ (bkCs n15 x2 ++ (bkCs n19 (mkCs w' (1)) ++ (.cells 86 11 [.agg (tvCs n19 w')] :: (bkC n28 x0 ++ (bkC n44 x0 ++ (bkCs n47 x2 ++ (bkCs n51 w')))))))))))) : List TB)
  have ln53 := hn53.eq
  simp only [List.length_append, List.length_cons, List.length_nil, bkC_len, bkCs_len, mkC_nb, mkCs_nb] at ln53
  have g54_ := hold_get (A := (.cells 23 2 [.agg (fzCs x2)] :: (bkC n1 x0 ++ (bkCs n4 x2 ++ (bkCs n8 w ++ (.cells 86 11 [.agg (tvCs n8 w)] :: (bkC n12 (mkC x0 (1)) ++ (bkCs n15 x2 ++ (bkCs n19 (mkCs w' (1)) ++ (.cells 86 11 [.agg (tvCs n19 w')] :: (bkC n28 x0 ++ (bkC n44 x0 ++ (bkCs n47 x2 ++ (bkCs n51 w')))))))))))) : List TB)) (R := ([] : List TB)) (n := n53) (by first | (simp only [List.length_append, List.length_cons, List.length_nil, bkC_len, bkCs_len, mkC_nb, mkCs_nb]; done) | (simp only [List.length_append, List.length_cons, List.length_nil, bkC_len, bkCs_len, mkC_nb, mkCs_nb]; omega))
  try simp only [List.append_assoc, List.cons_append, List.nil_append, List.append_nil] at g54_
  have g54_s := hold_set (A := (.cells 23 2 [.agg (fzCs x2)] :: (bkC n1 x0 ++ (bkCs n4 x2 ++ (bkCs n8 w ++ (.cells 86 11 [.agg (tvCs n8 w)] :: (bkC n12 (mkC x0 (1)) ++ (bkCs n15 x2 ++ (bkCs n19 (mkCs w' (1)) ++ (.cells 86 11 [.agg (tvCs n19 w')] :: (bkC n28 x0 ++ (bkC n44 x0 ++ (bkCs n47 x2 ++ (bkCs n51 w')))))))))))) : List TB)) (R := ([] : List TB)) (n := n53) (by first | (simp only [List.length_append, List.length_cons, List.length_nil, bkC_len, bkCs_len, mkC_nb, mkCs_nb]; done) | (simp only [List.length_append, List.length_cons, List.length_nil, bkC_len, bkCs_len, mkC_nb, mkCs_nb]; omega))
  try simp only [List.append_assoc, List.cons_append, List.nil_append, List.append_nil] at g54_s
  have g55_ := hold_get (A := (.cells 23 2 [.agg (fzCs x2)] :: (bkC n1 x0 ++ (bkCs n4 x2 ++ (bkCs n8 w ++ (.cells 86 11 [.agg (tvCs n8 w)] :: (bkC n12 (mkC x0 (1)) ++ (bkCs n15 x2 ++ (bkCs n19 (mkCs w' (1)) ++ (.cells 86 11 [.agg (tvCs n19 w')] :: (bkC n28 x0 ++ (bkC n44 x0 ++ (bkCs n47 x2 ++ (bkCs n51 w')))))))))))) : List TB)) (R := ([] : List TB)) (n := n53) (by first | (simp only [List.length_append, List.length_cons, List.length_nil, bkC_len, bkCs_len, mkC_nb, mkCs_nb]; done) | (simp only [List.length_append, List.length_cons, List.length_nil, bkC_len, bkCs_len, mkC_nb, mkCs_nb]; omega))
  try simp only [List.append_assoc, List.cons_append, List.nil_append, List.append_nil] at g55_
  have g56_ := hold_get (A := (.cells 23 2 [.agg (fzCs x2)] :: (bkC n1 x0 ++ (bkCs n4 x2 ++ (bkCs n8 w))) : List TB)) (R := (bkC n12 (mkC x0 (1)) ++ (bkCs n15 x2 ++ (bkCs n19 (mkCs w' (1)) ++ (.cells 86 11 [.agg (tvCs n19 w')] :: (bkC n28 x0 ++ (bkC n44 x0 ++ (bkCs n47 x2 ++ (bkCs n51 w' ++ ([.cells 86 11 [.agg (tvCs n51 w')]])))))))) : List TB)) (n := n10) (by first | (simp only [List.length_append, List.length_cons, List.length_nil, bkC_len, bkCs_len, mkC_nb, mkCs_nb]; done) | (simp only [List.length_append, List.length_cons, List.length_nil, bkC_len, bkCs_len, mkC_nb, mkCs_nb]; omega))
  try simp only [List.append_assoc, List.cons_append, List.nil_append, List.append_nil] at g56_
  have f57 : frzT (.cells 23 2 [.agg (fzCs x2)] :: (bkC n1 x0 ++ (bkCs n4 x2 ++ (bkCs n8 w ++ (.cells 86 11 [.agg (tvCs n8 w)] :: (bkC n12 (mkC x0 (1)) ++ (bkCs n15 x2 ++ (bkCs n19 (mkCs w' (1)) ++ (.cells 86 11 [.agg (tvCs n19 w')] :: (bkC n28 x0 ++ (bkC n44 x0 ++ (bkCs n47 x2 ++ (bkCs n51 w' ++ ([.cells 86 11 [.agg (tvCs n51 w')]]))))))))))))) : List TB) 9 (.agg (tvCs n51 w')) = .agg (fzCs w') := by
    have := frz_in (A := (.cells 23 2 [.agg (fzCs x2)] :: (bkC n1 x0 ++ (bkCs n4 x2 ++ (bkCs n8 w ++ (.cells 86 11 [.agg (tvCs n8 w)] :: (bkC n12 (mkC x0 (1)) ++ (bkCs n15 x2 ++ (bkCs n19 (mkCs w' (1)) ++ (.cells 86 11 [.agg (tvCs n19 w')] :: (bkC n28 x0 ++ (bkC n44 x0 ++ (bkCs n47 x2))))))))))) : List TB)) (B := ([.cells 86 11 [.agg (tvCs n51 w')]] : List TB)) (w := w') (n := n51) (by first | (simp only [List.length_append, List.length_cons, List.length_nil, bkC_len, bkCs_len, mkC_nb, mkCs_nb]; done) | (simp only [List.length_append, List.length_cons, List.length_nil, bkC_len, bkCs_len, mkC_nb, mkCs_nb]; omega)) (by first | assumption | (rw [mkCs_dp]; assumption))
    (try simp only [List.append_assoc, List.cons_append, List.nil_append, List.append_nil, mkC_tv, mkCs_tv] at this); (try simp only [List.append_assoc, List.cons_append, List.nil_append, List.append_nil, mkC_tv, mkCs_tv]); exact this
  have f58 : frzT (.cells 23 2 [.agg (fzCs x2)] :: (bkC n1 x0 ++ (bkCs n4 x2 ++ (bkCs n8 w ++ (.cells 86 11 [.agg (tvCs n8 w)] :: (bkC n12 (mkC x0 (1)) ++ (bkCs n15 x2 ++ (bkCs n19 (mkCs w' (1)) ++ (.cells 86 11 [.agg (tvCs n19 w')] :: (bkC n28 x0 ++ (bkC n44 x0 ++ (bkCs n47 x2 ++ (bkCs n51 w' ++ ([.cells 86 11 [.agg (tvCs n51 w')]]))))))))))))) : List TB) 9 (.agg (tvCs n8 w)) = .agg (fzCs w) := by
    have := frz_in (A := (.cells 23 2 [.agg (fzCs x2)] :: (bkC n1 x0 ++ (bkCs n4 x2)) : List TB)) (B := (.cells 86 11 [.agg (tvCs n8 w)] :: (bkC n12 (mkC x0 (1)) ++ (bkCs n15 x2 ++ (bkCs n19 (mkCs w' (1)) ++ (.cells 86 11 [.agg (tvCs n19 w')] :: (bkC n28 x0 ++ (bkC n44 x0 ++ (bkCs n47 x2 ++ (bkCs n51 w' ++ ([.cells 86 11 [.agg (tvCs n51 w')]]))))))))) : List TB)) (w := w) (n := n8) (by first | (simp only [List.length_append, List.length_cons, List.length_nil, bkC_len, bkCs_len, mkC_nb, mkCs_nb]; done) | (simp only [List.length_append, List.length_cons, List.length_nil, bkC_len, bkCs_len, mkC_nb, mkCs_nb]; omega)) (by first | assumption | (rw [mkCs_dp]; assumption))
    (try simp only [List.append_assoc, List.cons_append, List.nil_append, List.append_nil, mkC_tv, mkCs_tv] at this); (try simp only [List.append_assoc, List.cons_append, List.nil_append, List.append_nil, mkC_tv, mkCs_tv]); exact this
  have e59_ : ∀ t, (ansSp (eqR_S sh_UntunnelResult)).fn t [.agg (tvCs n51 w'), .agg (tvCs n8 w)] (.cells 23 2 [.agg (fzCs x2)] :: (bkC n1 x0 ++ (bkCs n4 x2 ++ (bkCs n8 w ++ (.cells 86 11 [.agg (tvCs n8 w)] :: (bkC n12 (mkC x0 (1)) ++ (bkCs n15 x2 ++ (bkCs n19 (mkCs w' (1)) ++ (.cells 86 11 [.agg (tvCs n19 w')] :: (bkC n28 x0 ++ (bkC n44 x0 ++ (bkCs n47 x2 ++ (bkCs n51 w' ++ ([.cells 86 11 [.agg (tvCs n51 w')]]))))))))))))) : List TB) = some (.p (.bool true), (.cells 23 2 [.agg (fzCs x2)] :: (bkC n1 x0 ++ (bkCs n4 x2 ++ (bkCs n8 w ++ (.cells 86 11 [.agg (tvCs n8 w)] :: (bkC n12 (mkC x0 (1)) ++ (bkCs n15 x2 ++ (bkCs n19 (mkCs w' (1)) ++ (.cells 86 11 [.agg (tvCs n19 w')] :: (bkC n28 x0 ++ (bkC n44 x0 ++ (bkCs n47 x2 ++ (bkCs n51 w' ++ ([.cells 86 11 [.agg (tvCs n51 w')]]))))))))))))) : List TB)) := fun t => call_val (by simp only [List.map_cons, List.map_nil, frz_p, frz_s, frz_agg, frz_fzC, frz_fzCs, wE, f57, f58]; try rfl) (eqR_at fI (Nat.le_trans sI (by decide)))
  have g60_ := hold_get (A := (.cells 23 2 [.agg (fzCs x2)] :: (bkC n1 x0 ++ (bkCs n4 x2 ++ (bkCs n8 w ++ (.cells 86 11 [.agg (tvCs n8 w)] :: (bkC n12 (mkC x0 (1)) ++ (bkCs n15 x2 ++ (bkCs n19 (mkCs w' (1))))))))) : List TB)) (R := (bkC n28 x0 ++ (bkC n44 x0 ++ (bkCs n47 x2 ++ (bkCs n51 w' ++ ([.cells 86 11 [.agg (tvCs n51 w')]])))) : List TB)) (n := n21) (by first | (simp only [List.length_append, List.length_cons, List.length_nil, bkC_len, bkCs_len, mkC_nb, mkCs_nb]; done) | (simp only [List.length_append, List.length_cons, List.length_nil, bkC_len, bkCs_len, mkC_nb, mkCs_nb]; omega))
  try simp only [List.append_assoc, List.cons_append, List.nil_append, List.append_nil] at g60_
  have f61 : frzT (.cells 23 2 [.agg (fzCs x2)] :: (bkC n1 x0 ++ (bkCs n4 x2 ++ (bkCs n8 w ++ (.cells 86 11 [.agg (tvCs n8 w)] :: (bkC n12 (mkC x0 (1)) ++ (bkCs n15 x2 ++ (bkCs n19 (mkCs w' (1)) ++ (.cells 86 11 [.agg (tvCs n19 w')] :: (bkC n28 x0 ++ (bkC n44 x0 ++ (bkCs n47 x2 ++ (bkCs n51 w' ++ ([.cells 86 11 [.agg (tvCs n51 w')]]))))))))))))) : List TB) 9 (.agg (tvCs n19 w')) = .agg (fzCs (mkCs w' (1))) := by
    have := frz_in (A := (.cells 23 2 [.agg (fzCs x2)] :: (bkC n1 x0 ++ (bkCs n4 x2 ++ (bkCs n8 w ++ (.cells 86 11 [.agg (tvCs n8 w)] :: (bkC n12 (mkC x0 (1)) ++ (bkCs n15 x2)))))) : List TB)) (B := (.cells 86 11 [.agg (tvCs n19 w')] :: (bkC n28 x0 ++ (bkC n44 x0 ++ (bkCs n47 x2 ++ (bkCs n51 w' ++ ([.cells 86 11 [.agg (tvCs n51 w')]]))))) : List TB)) (w := (mkCs w' (1))) (n := n19) (by first | (simp only [List.length_append, List.length_cons, List.length_nil, bkC_len, bkCs_len, mkC_nb, mkCs_nb]; done) | (simp only [List.length_append, List.length_cons, List.length_nil, bkC_len, bkCs_len, mkC_nb, mkCs_nb]; omega)) (by first | assumption | (rw [mkCs_dp]; assumption))
    (try simp only [List.append_assoc, List.cons_append, List.nil_append, List.append_nil, mkC_tv, mkCs_tv] at this); (try simp only [List.append_assoc, List.cons_append, List.nil_append, List.append_nil, mkC_tv, mkCs_tv]); exact this
  have e62_ : ∀ t, (ansSp (hdR_S sh_UntunnelResult)).fn t [.agg (tvCs n19 w'), .p (.int .i64 1)] (.cells 23 2 [.agg (fzCs x2)] :: (bkC n1 x0 ++ (bkCs n4 x2 ++ (bkCs n8 w ++ (.cells 86 11 [.agg (tvCs n8 w)] :: (bkC n12 (mkC x0 (1)) ++ (bkCs n15 x2 ++ (bkCs n19 (mkCs w' (1)) ++ (.cells 86 11 [.agg (tvCs n19 w')] :: (bkC n28 x0 ++ (bkC n44 x0 ++ (bkCs n47 x2 ++ (bkCs n51 w' ++ ([.cells 86 11 [.agg (tvCs n51 w')]]))))))))))))) : List TB) = some (.p (.int .i64 (1 + (wtCs w' : Int))), (.cells 23 2 [.agg (fzCs x2)] :: (bkC n1 x0 ++ (bkCs n4 x2 ++ (bkCs n8 w ++ (.cells 86 11 [.agg (tvCs n8 w)] :: (bkC n12 (mkC x0 (1)) ++ (bkCs n15 x2 ++ (bkCs n19 (mkCs w' (1)) ++ (.cells 86 11 [.agg (tvCs n19 w')] :: (bkC n28 x0 ++ (bkC n44 x0 ++ (bkCs n47 x2 ++ (bkCs n51 w' ++ ([.cells 86 11 [.agg (tvCs n51 w')]]))))))))))))) : List TB)) := fun t => call_val (by simp only [List.map_cons, List.map_nil, frz_p, frz_s, frz_agg, frz_fzC, frz_fzCs, f61]; try rfl) (hdR_at (k := 1) fI (by omega) (by omega))
  simp (maxSteps := 8000000) (implicitDefEqProofs := false) (disch := omega) only [↓reduceIte, go_sem, if_pos, if_neg, len2, fzCs_len, fzCs_one, lenS, lenI, tvCs_len, tvCs_one, eq_false (show ¬ (1 + (wtCs w' : Int) < 0) by omega), g41_, e43_, eq_false (show ¬ (1 + (wtCs w' : Int) < 0) by omega), ↓hn44.eq, e45_, g46_, ↓hn47.eq, e48_, ↓hn51.eq, e52_, ↓hn53.eq, g54_, g54_s, g55_, g56_, e59_, g60_, e62_, eq_false (show ¬ (1 + (wtCs w' : Int) < 0) by omega), not_true, decide_false, not_false_eq_true]
  exact endT_p (.inr rfl) (by (simp (maxSteps := 8000000) (implicitDefEqProofs := false) (disch := omega) only [↓reduceIte, go_sem, if_pos, if_neg]) <;> rfl) rfl
end Go.Proofs.Ytngebdcbcliobaa
