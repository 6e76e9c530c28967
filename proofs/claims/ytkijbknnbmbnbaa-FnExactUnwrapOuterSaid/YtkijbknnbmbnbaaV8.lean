import Derived.Test.YtkijbknnbmbnbaaU7
set_option linter.unusedSimpArgs false
set_option linter.unusedVariables false
set_option maxRecDepth 100000
set_option maxHeartbeats 4000000
namespace Go.Proofs.Ytkijbknnbmbnbaa
open Go Go.AH
attribute [local irreducible] awpT ropsT qopsT stepT condKT gdKT EndT joinK loopKT seqKT blkKT kont kontR
/-! FnExactUnwrapOuter -/
-- laws.FnExactUnwrapOuter
def c6 : AF := ⟨76,
  (.seq (.reg [⟨(some 6), none, .mv (.v (.bool false))⟩])
  (.seq (.seq (.reg [⟨(some 14), none, .mv (.t 0)⟩,
   ⟨(some 15), none, .len (.t 14)⟩,
   ⟨(some 16), none, .bin .gtr (.t 15) (.v (.int .i64 1048576))⟩])
  (.cond (.t 16) (.seq (.reg [⟨(some 6), none, .mv (.v (.bool true))⟩])
  .ret)
  .skip))
  (.seq (.reg [⟨(some 17), none, .mv (.t 0)⟩,
   ⟨(some 18), none, .call 25 [(.t 17)]⟩,
   ⟨(some 19), none, .mv (.t 1)⟩,
   ⟨(some 20), none, .mv (.t 2)⟩,
   ⟨(some 21), none, .call 32 [(.t 18), (.t 19), (.t 20)]⟩,
   ⟨(some 7), none, .alloc 44 [(.int .i64 0), (.int .i64 0), (.slice none 0 0)]⟩,
   ⟨none, none, .st 3 (.t 7) (.t 21)⟩])
  (.seq (.reg [⟨(some 22), none, .mv (.t 0)⟩,
   ⟨(some 23), none, .call 25 [(.t 22)]⟩,
   ⟨(some 8), none, .mv (.t 23)⟩])
  (.seq (.reg [⟨(some 24), none, .mv (.t 8)⟩,
   ⟨(some 25), none, .mv (.t 1)⟩,
   ⟨(some 26), none, .mv (.t 2)⟩,
   ⟨(some 27), none, .call 33 [(.t 24), (.t 25), (.t 26)]⟩,
   ⟨(some 9), none, .alloc 44 [(.int .i64 0), (.int .i64 0), (.slice none 0 0)]⟩,
   ⟨none, none, .st 3 (.t 9) (.t 27)⟩])
  (.seq (.seq (.reg [⟨(some 28), none, .ldn 3 (.t 9)⟩,
   ⟨(some 29), none, .ldn 3 (.t 7)⟩,
   ⟨(some 30), none, .call 34 [(.t 28), (.t 29)]⟩,
   ⟨(some 31), none, .un .not (.t 30)⟩])
  (.cond (.t 31) (.seq (.reg [⟨(some 6), none, .mv (.v (.bool false))⟩])
  .ret)
  .skip))
  (.seq (.seq (.reg [⟨(some 32), none, .mv (.t 8)⟩,
   ⟨(some 33), none, .mv (.t 0)⟩,
   ⟨(some 34), none, .call 25 [(.t 33)]⟩,
   ⟨(some 35), none, .call 28 [(.t 32), (.t 34)]⟩,
   ⟨(some 36), none, .un .not (.t 35)⟩])
  (.cond (.t 36) (.seq (.reg [⟨(some 6), none, .mv (.v (.bool false))⟩])
  .ret)
  .skip))
  (.seq (.reg [⟨(some 10), none, .mv (.v (.int .i64 1))⟩])
  (.seq (.reg [⟨(some 37), none, .mv (.t 8)⟩,
   ⟨(some 38), none, .mv (.t 10)⟩,
   ⟨(some 39), none, .call 29 [(.t 37), (.t 38)]⟩,
   ⟨(some 10), none, .mv (.t 39)⟩])
  (.seq (.seq (.reg [⟨(some 40), none, .mv (.t 10)⟩,
   ⟨(some 41), none, .bin .lss (.t 40) (.v (.int .i64 0))⟩,
   ⟨(some 42), none, .mv (.t 41)⟩,
   ⟨(some 43), (some (42, false)), .ldn 3 (.t 9)⟩,
   ⟨(some 44), (some (42, false)), .ldn 3 (.t 7)⟩,
   ⟨(some 45), (some (42, false)), .call 34 [(.t 43), (.t 44)]⟩,
   ⟨(some 46), (some (42, false)), .un .not (.t 45)⟩,
   ⟨(some 47), none, .pick (.t 42) (.v (.bool true)) (.t 46)⟩])
  (.cond (.t 47) (.seq (.reg [⟨(some 6), none, .mv (.v (.bool false))⟩])
  .ret)
  .skip))
  (.seq (.reg [⟨(some 11), none, .mv (.v (.int .i64 1))⟩])
  (.seq (.reg [⟨(some 48), none, .ldn 3 (.t 9)⟩,
   ⟨(some 49), none, .mv (.t 11)⟩,
   ⟨(some 50), none, .call 35 [(.t 48), (.t 49)]⟩,
   ⟨(some 11), none, .mv (.t 50)⟩])
  (.seq (.reg [⟨(some 12), none, .mv (.v (.int .i64 1))⟩])
  (.seq (.reg [⟨(some 51), none, .ldn 3 (.t 9)⟩,
   ⟨(some 52), none, .mv (.t 12)⟩,
   ⟨(some 53), none, .call 36 [(.t 51), (.t 52)]⟩,
   ⟨(some 12), none, .mv (.t 53)⟩])
  (.seq (.seq (.reg [⟨(some 54), none, .mv (.t 12)⟩,
   ⟨(some 55), none, .bin .lss (.t 54) (.v (.int .i64 0))⟩])
  (.cond (.t 55) (.seq (.reg [⟨(some 6), none, .mv (.v (.bool false))⟩])
  .ret)
  .skip))
  (.seq (.seq (.reg [⟨(some 56), none, .mv (.t 12)⟩,
   ⟨(some 57), none, .mv (.t 11)⟩,
   ⟨(some 58), none, .bin .neq (.t 56) (.t 57)⟩])
  (.cond (.t 58) (.seq (.reg [⟨(some 6), none, .mv (.v (.bool false))⟩])
  .ret)
  .skip))
  (.seq (.reg [⟨(some 59), none, .mv (.t 0)⟩,
   ⟨(some 60), none, .call 25 [(.t 59)]⟩,
   ⟨(some 61), none, .mv (.t 1)⟩,
   ⟨(some 62), none, .mv (.t 2)⟩,
   ⟨(some 63), none, .call 33 [(.t 60), (.t 61), (.t 62)]⟩,
   ⟨(some 13), none, .alloc 44 [(.int .i64 0), (.int .i64 0), (.slice none 0 0)]⟩,
   ⟨none, none, .st 3 (.t 13) (.t 63)⟩])
  (.seq (.seq (.reg [⟨(some 64), none, .ldn 3 (.t 13)⟩,
   ⟨(some 65), none, .ldn 3 (.t 7)⟩,
   ⟨(some 66), none, .call 34 [(.t 64), (.t 65)]⟩,
   ⟨(some 67), none, .un .not (.t 66)⟩])
  (.cond (.t 67) (.seq (.reg [⟨(some 6), none, .mv (.v (.bool false))⟩])
  .ret)
  .skip))
  (.seq (.reg [⟨(some 12), none, .mv (.v (.int .i64 1))⟩])
  (.seq (.reg [⟨(some 68), none, .ldn 3 (.t 9)⟩,
   ⟨(some 69), none, .mv (.t 12)⟩,
   ⟨(some 70), none, .call 36 [(.t 68), (.t 69)]⟩,
   ⟨(some 12), none, .mv (.t 70)⟩])
  (.seq (.seq (.reg [⟨(some 71), none, .mv (.t 12)⟩,
   ⟨(some 72), none, .bin .lss (.t 71) (.v (.int .i64 0))⟩])
  (.cond (.t 72) (.seq (.reg [⟨(some 6), none, .mv (.v (.bool false))⟩])
  .ret)
  .skip))
  (.seq (.seq (.reg [⟨(some 73), none, .mv (.t 12)⟩,
   ⟨(some 74), none, .mv (.t 11)⟩,
   ⟨(some 75), none, .bin .neq (.t 73) (.t 74)⟩])
  (.cond (.t 75) (.seq (.reg [⟨(some 6), none, .mv (.v (.bool false))⟩])
  .ret)
  .skip))
  (.seq (.reg [⟨(some 6), none, .mv (.v (.bool true))⟩])
  .ret))))))))))))))))))))))),
  [.t 6]⟩
theorem k6 : cFn Try.prog Try.f6 = some c6 := by kernel_rfl
theorem law_UnwrapOuter {Ss Si : List TV → Option (TV × THeap)} (okS : OkT Try.prog 32 (pureSp Ss)) (okI : OkT Try.prog 33 (pureSp Si)) (H : ∀ (x0 : Cell) (x1 : Int) (x2 : Int), HasC sh_ByteS x0 → szC x0 ≤ 1048576 → ∃ w w', Ss [fzC x0, .p (.int .i64 x1), .p (.int .i64 x2)] = some (.agg (tvCs 0 w), bkCs 0 w) ∧ Si [fzC x0, .p (.int .i64 x1), .p (.int .i64 x2)] = some (.agg (tvCs 0 w'), bkCs 0 w') ∧ fzCs w = fzCs w' ∧ FitR sh_Inner w ∧ FitR sh_Inner w' ∧ szCs w ≤ 1073741824 ∧ szCs w' ≤ 1073741824) : OkT Try.prog 6 (pureSp (tvSp (fun a => ∃ (x0 : Cell) (x1 : Int) (x2 : Int), a = [fzC x0, .p (.int .i64 x1), .p (.int .i64 x2)] ∧ HasC sh_ByteS x0 ∧ lnC x0 = true) (fun _ => (.p (.bool true), [])))) := by
  refine okT_tv (OkΓT.cons (tsp := ansSp (toC_S sh_ByteS)) toByteS_ok (OkΓT.cons (tsp := ansSp Ss) okS (OkΓT.cons (tsp := ansSp Si) okI (OkΓT.cons (tsp := ansSp (eqR_S sh_Inner)) eqInner_ok (OkΓT.cons (tsp := ansSp (eqC_S sh_ByteS)) eqByteS_ok (OkΓT.cons markByteS_ok (OkΓT.cons markInner_ok (OkΓT.cons (tsp := ansSp (hdR_S sh_Inner)) heldInner_ok (OkΓT.nil _))))))))) Try.func6 (by kernel_rfl) k6 (fun x hx => ⟨rfl, rfl⟩) ?_
  rintro _ ⟨x0, x1, x2, rfl, h0, z0⟩
  obtain ⟨rows0, hr0, hq0⟩ : ∃ rows, fzC x0 = .s (fzRs rows) ∧ szC x0 = rows.length := by
    simp only [sh_ByteS, HasC] at h0; obtain ⟨rows, rfl, hr⟩ := h0; refine ⟨rows, rfl, ?_⟩; simp only [szC]; rw [szRs_zero fun r hx => by have hrr := hr r hx; obtain ⟨_, _, rfl, ⟨a0, rfl, _⟩, hrr⟩ := hrr; simp only [HasR] at hrr; subst hrr; rfl]; omega
  by_cases q0 : (rows0.length : Int) ≤ 1048576
  case neg =>
    (dsimp only [c6]; simp (maxSteps := 8000000) (implicitDefEqProofs := false) (disch := omega) only [↓reduceIte, go_sem, if_pos, if_neg, hr0, eq_true (show (rows0.length : Int) > 1048576 by omega)])
    repeat' first
      | (refine gdKT_dec (fun hg => ?_) (fun hg => ?_) <;> (try (first | simp (maxSteps := 8000000) (implicitDefEqProofs := false) (disch := omega) only [↓reduceIte, go_sem, if_pos, if_neg, eq_false hg, hr0, eq_true (show (rows0.length : Int) > 1048576 by omega)] | simp (maxSteps := 8000000) (implicitDefEqProofs := false) (disch := omega) only [↓reduceIte, go_sem, if_pos, if_neg, eq_true hg, hr0, eq_true (show (rows0.length : Int) > 1048576 by omega)])))
      | (refine condKT_dec (fun hg => ?_) (fun hg => ?_) <;> (try (first | simp (maxSteps := 8000000) (implicitDefEqProofs := false) (disch := omega) only [↓reduceIte, go_sem, if_pos, if_neg, eq_false hg, hr0, eq_true (show (rows0.length : Int) > 1048576 by omega)] | simp (maxSteps := 8000000) (implicitDefEqProofs := false) (disch := omega) only [↓reduceIte, go_sem, if_pos, if_neg, eq_true hg, hr0, eq_true (show (rows0.length : Int) > 1048576 by omega)])))
      | (refine gdKT_split (fun hg => ?_) (fun hg => ?_) <;> (try simp (maxSteps := 8000000) (implicitDefEqProofs := false) (disch := omega) only [↓reduceIte, go_sem, if_pos, if_neg, hg, hr0, eq_true (show (rows0.length : Int) > 1048576 by omega)]))
      | (refine condKT_split (fun hg => ?_) (fun hg => ?_) <;> (try simp (maxSteps := 8000000) (implicitDefEqProofs := false) (disch := omega) only [↓reduceIte, go_sem, if_pos, if_neg, hg, hr0, eq_true (show (rows0.length : Int) > 1048576 by omega)]))
      | (refine endT_p (.inr rfl) (by simp (maxSteps := 8000000) (implicitDefEqProofs := false) (disch := omega) only [↓reduceIte, go_sem, if_pos, if_neg, hr0, eq_true (show (rows0.length : Int) > 1048576 by omega)]; rfl) ?_; (first | exact vb_true (by omega) | exact vb_false (by omega) | exact vb_dec (by omega) | exact vi_eq (by omega) | rfl | (refine vi_eq ?_; simp_all; done) | (refine vi_eq ?_; simp_all; omega) | (refine vi_eq ?_; simp_all; intros; omega)))
      | exact endT_v (.inr rfl) (by simp (maxSteps := 8000000) (implicitDefEqProofs := false) (disch := omega) only [↓reduceIte, go_sem, if_pos, if_neg, hr0, eq_true (show (rows0.length : Int) > 1048576 by omega)]; try rfl) (fun _ => rfl)
  have y0 : szC x0 ≤ 1048576 := by omega
  obtain ⟨w, w', wS, wI, wE, fS, fI, sS, sI⟩ := H x0 x1 x2 h0 y0
  have lenS : w.length = 3 := FitR.len fS
  have lenI : w'.length = 3 := FitR.len fI
  have dS : dpCs w ≤ 9 := Nat.le_trans (FitR.dp _ _ fS) (of_decide_eq_true (by rfl))
  have dI : dpCs w' ≤ 9 := Nat.le_trans (FitR.dp _ _ fI) (of_decide_eq_true (by rfl))
  have mI : wtCs w' ≤ 64 * 1073741824 := FitR.w fI (of_decide_eq_true (by rfl)) sI
  have d0 : dpC x0 ≤ 9 := Nat.le_trans (FitC.dp _ _ (HasC.fit _ _ h0)) (of_decide_eq_true (by rfl))
  have m0 : wtC x0 ≤ 64 * 1048576 := FitC.w (HasC.fit _ _ h0) (of_decide_eq_true (by rfl)) y0
  (dsimp only [c6]; simp (maxSteps := 8000000) (implicitDefEqProofs := false) (disch := omega) only [↓reduceIte, go_sem, if_pos, if_neg, lenS, lenI, fzCs_len, fzCs_one, tvCs_len, tvCs_one, hr0, eq_false (show ¬ ((rows0.length : Int) > 1048576) by omega)])
  simp only [← hr0]
  obtain ⟨n0, hn0⟩ := isLen_ex ([] : List TB)
  have ln0 := hn0.eq
  simp only [List.length_append, List.length_cons, List.length_nil, bkC_len, bkCs_len, mkC_nb, mkCs_nb] at ln0
  have e1_ : ∀ t, (ansSp (toC_S sh_ByteS)).fn t [fzC x0] ([] : List TB) = some (tvC n0 x0, (bkC n0 x0 : List TB)) := fun t => by
    rw [call_newC (by simp only [List.map_cons, List.map_nil, frz_p, frz_s, frz_agg, frz_fzC, frz_fzCs]; try rfl) (toC_at h0 y0) hn0.eq]; try simp only [List.append_assoc, List.cons_append, List.nil_append, List.append_nil]
  have Ln0 := bkC_len n0 x0
  have f2 : frzT (bkC n0 x0 : List TB) 9 (tvC n0 x0) = fzC x0 := by
    have := frzC_in (A := ([] : List TB)) (B := ([] : List TB)) (c := x0) (n := n0) (by first | (simp only [List.length_append, List.length_cons, List.length_nil, bkC_len, bkCs_len, mkC_nb, mkCs_nb]; done) | (simp only [List.length_append, List.length_cons, List.length_nil, bkC_len, bkCs_len, mkC_nb, mkCs_nb]; omega)) (by first | assumption | (rw [mkC_dp]; assumption))
    (try simp only [List.append_assoc, List.cons_append, List.nil_append, List.append_nil, mkC_tv, mkCs_tv] at this); (try simp only [List.append_assoc, List.cons_append, List.nil_append, List.append_nil, mkC_tv, mkCs_tv]); exact this
  obtain ⟨n3, hn3⟩ := isLen_ex (bkC n0 x0 : List TB)
  have ln3 := hn3.eq
  simp only [List.length_append, List.length_cons, List.length_nil, bkC_len, bkCs_len, mkC_nb, mkCs_nb] at ln3
  have e4_ : ∀ t, (ansSp Ss).fn t [tvC n0 x0, .p (.int .i64 x1), .p (.int .i64 x2)] (bkC n0 x0 : List TB) = some (.agg (tvCs n3 w), (bkC n0 x0 ++ (bkCs n3 w) : List TB)) := fun t => by
    rw [call_new (by simp only [List.map_cons, List.map_nil, frz_p, frz_s, frz_agg, frz_fzC, frz_fzCs, f2]; try rfl) (wS) hn3.eq]; try simp only [List.append_assoc, List.cons_append, List.nil_append, List.append_nil]
  have Ln3 := bkCs_len n3 w
  obtain ⟨n5, hn5⟩ := isLen_ex (bkC n0 x0 ++ (bkCs n3 w) : List TB)
  have ln5 := hn5.eq
  simp only [List.length_append, List.length_cons, List.length_nil, bkC_len, bkCs_len, mkC_nb, mkCs_nb] at ln5
  have g6_ := hold_get (A := (bkC n0 x0 ++ (bkCs n3 w) : List TB)) (R := ([] : List TB)) (n := n5) (by first | (simp only [List.length_append, List.length_cons, List.length_nil, bkC_len, bkCs_len, mkC_nb, mkCs_nb]; done) | (simp only [List.length_append, List.length_cons, List.length_nil, bkC_len, bkCs_len, mkC_nb, mkCs_nb]; omega))
  try simp only [List.append_assoc, List.cons_append, List.nil_append, List.append_nil] at g6_
  have g6_s := hold_set (A := (bkC n0 x0 ++ (bkCs n3 w) : List TB)) (R := ([] : List TB)) (n := n5) (by first | (simp only [List.length_append, List.length_cons, List.length_nil, bkC_len, bkCs_len, mkC_nb, mkCs_nb]; done) | (simp only [List.length_append, List.length_cons, List.length_nil, bkC_len, bkCs_len, mkC_nb, mkCs_nb]; omega))
  try simp only [List.append_assoc, List.cons_append, List.nil_append, List.append_nil] at g6_s
  obtain ⟨n7, hn7⟩ := isLen_ex (bkC n0 x0 ++ (bkCs n3 w ++ ([.cells 44 3 [.agg (tvCs n3 w)]])) : List TB)
  have ln7 := hn7.eq
  simp only [List.length_append, List.length_cons, List.length_nil, bkC_len, bkCs_len, mkC_nb, mkCs_nb] at ln7
  have e8_ : ∀ t, (ansSp (toC_S sh_ByteS)).fn t [fzC x0] (bkC n0 x0 ++ (bkCs n3 w ++ ([.cells 44 3 [.agg (tvCs n3 w)]])) : List TB) = some (tvC n7 x0, (bkC n0 x0 ++ (bkCs n3 w ++ (.cells 44 3 [.agg (tvCs n3 w)] :: (bkC n7 x0))) : List TB)) := fun t => by
    rw [call_newC (by simp only [List.map_cons, List.map_nil, frz_p, frz_s, frz_agg, frz_fzC, frz_fzCs]; try rfl) (toC_at h0 y0) hn7.eq]; try simp only [List.append_assoc, List.cons_append, List.nil_append, List.append_nil]
  have Ln7 := bkC_len n7 x0
  have f9 : frzT (bkC n0 x0 ++ (bkCs n3 w ++ (.cells 44 3 [.agg (tvCs n3 w)] :: (bkC n7 x0))) : List TB) 9 (tvC n7 x0) = fzC x0 := by
    have := frzC_in (A := (bkC n0 x0 ++ (bkCs n3 w ++ ([.cells 44 3 [.agg (tvCs n3 w)]])) : List TB)) (B := ([] : List TB)) (c := x0) (n := n7) (by first | (simp only [List.length_append, List.length_cons, List.length_nil, bkC_len, bkCs_len, mkC_nb, mkCs_nb]; done) | (simp only [List.length_append, List.length_cons, List.length_nil, bkC_len, bkCs_len, mkC_nb, mkCs_nb]; omega)) (by first | assumption | (rw [mkC_dp]; assumption))
    (try simp only [List.append_assoc, List.cons_append, List.nil_append, List.append_nil, mkC_tv, mkCs_tv] at this); (try simp only [List.append_assoc, List.cons_append, List.nil_append, List.append_nil, mkC_tv, mkCs_tv]); exact this
  obtain ⟨n10, hn10⟩ := isLen_ex (bkC n0 x0 ++ (bkCs n3 w ++ (.cells 44 3 [.agg (tvCs n3 w)] :: (bkC n7 x0))) : List TB)
  have ln10 := hn10.eq
  simp only [List.length_append, List.length_cons, List.length_nil, bkC_len, bkCs_len, mkC_nb, mkCs_nb] at ln10
  have e11_ : ∀ t, (ansSp Si).fn t [tvC n7 x0, .p (.int .i64 x1), .p (.int .i64 x2)] (bkC n0 x0 ++ (bkCs n3 w ++ (.cells 44 3 [.agg (tvCs n3 w)] :: (bkC n7 x0))) : List TB) = some (.agg (tvCs n10 w'), (bkC n0 x0 ++ (bkCs n3 w ++ (.cells 44 3 [.agg (tvCs n3 w)] :: (bkC n7 x0 ++ (bkCs n10 w')))) : List TB)) := fun t => by
    rw [call_new (by simp only [List.map_cons, List.map_nil, frz_p, frz_s, frz_agg, frz_fzC, frz_fzCs, f9]; try rfl) (wI) hn10.eq]; try simp only [List.append_assoc, List.cons_append, List.nil_append, List.append_nil]
  have Ln10 := bkCs_len n10 w'
  obtain ⟨n12, hn12⟩ := isLen_ex (bkC n0 x0 ++ (bkCs n3 w ++ (.cells 44 3 [.agg (tvCs n3 w)] :: (bkC n7 x0 ++ (bkCs n10 w')))) : List TB)
  have ln12 := hn12.eq
  simp only [List.length_append, List.length_cons, List.length_nil, bkC_len, bkCs_len, mkC_nb, mkCs_nb] at ln12
  have g13_ := hold_get (A := (bkC n0 x0 ++ (bkCs n3 w ++ (.cells 44 3 [.agg (tvCs n3 w)] :: (bkC n7 x0 ++ (bkCs n10 w')))) : List TB)) (R := ([] : List TB)) (n := n12) (by first | (simp only [List.length_append, List.length_cons, List.length_nil, bkC_len, bkCs_len, mkC_nb, mkCs_nb]; done) | (simp only [List.length_append, List.length_cons, List.length_nil, bkC_len, bkCs_len, mkC_nb, mkCs_nb]; omega))
  try simp only [List.append_assoc, List.cons_append, List.nil_append, List.append_nil] at g13_
  have g13_s := hold_set (A := (bkC n0 x0 ++ (bkCs n3 w ++ (.cells 44 3 [.agg (tvCs n3 w)] :: (bkC n7 x0 ++ (bkCs n10 w')))) : List TB)) (R := ([] : List TB)) (n := n12) (by first | (simp only [List.length_append, List.length_cons, List.length_nil, bkC_len, bkCs_len, mkC_nb, mkCs_nb]; done) | (simp only [List.length_append, List.length_cons, List.length_nil, bkC_len, bkCs_len, mkC_nb, mkCs_nb]; omega))
  try simp only [List.append_assoc, List.cons_append, List.nil_append, List.append_nil] at g13_s
  have g14_ := hold_get (A := (bkC n0 x0 ++ (bkCs n3 w ++ (.cells 44 3 [.agg (tvCs n3 w)] :: (bkC n7 x0 ++ (bkCs n10 w')))) : List TB)) (R := ([] : List TB)) (n := n12) (by first | (simp only [List.length_append, List.length_cons, List.length_nil, bkC_len, bkCs_len, mkC_nb, mkCs_nb]; done) | (simp only [List.length_append, List.length_cons, List.length_nil, bkC_len, bkCs_len, mkC_nb, mkCs_nb]; omega))
  try simp only [List.append_assoc, List.cons_append, List.nil_append, List.append_nil] at g14_
  have g15_ := hold_get (A := (bkC n0 x0 ++ (bkCs n3 w) : List TB)) (R := (bkC n7 x0 ++ (bkCs n10 w' ++ ([.cells 44 3 [.agg (tvCs n10 w')]])) : List TB)) (n := n5) (by first | (simp only [List.length_append, List.length_cons, List.length_nil, bkC_len, bkCs_len, mkC_nb, mkCs_nb]; done) | (simp only [List.length_append, List.length_cons, List.length_nil, bkC_len, bkCs_len, mkC_nb, mkCs_nb]; omega))
  try simp only [List.append_assoc, List.cons_append, List.nil_append, List.append_nil] at g15_
  have f16 : frzT (bkC n0 x0 ++ (bkCs n3 w ++ (.cells 44 3 [.agg (tvCs n3 w)] :: (bkC n7 x0 ++ (bkCs n10 w' ++ ([.cells 44 3 [.agg (tvCs n10 w')]]))))) : List TB) 9 (.agg (tvCs n10 w')) = .agg (fzCs w') := by
    have := frz_in (A := (bkC n0 x0 ++ (bkCs n3 w ++ (.cells 44 3 [.agg (tvCs n3 w)] :: (bkC n7 x0))) : List TB)) (B := ([.cells 44 3 [.agg (tvCs n10 w')]] : List TB)) (w := w') (n := n10) (by first | (simp only [List.length_append, List.length_cons, List.length_nil, bkC_len, bkCs_len, mkC_nb, mkCs_nb]; done) | (simp only [List.length_append, List.length_cons, List.length_nil, bkC_len, bkCs_len, mkC_nb, mkCs_nb]; omega)) (by first | assumption | (rw [mkCs_dp]; assumption))
    (try simp only [List.append_assoc, List.cons_append, List.nil_append, List.append_nil, mkC_tv, mkCs_tv] at this); (try simp only [List.append_assoc, List.cons_append, List.nil_append, List.append_nil, mkC_tv, mkCs_tv]); exact this
  have f17 : frzT (bkC n0 x0 ++ (bkCs n3 w ++ (.cells 44 3 [.agg (tvCs n3 w)] :: (bkC n7 x0 ++ (bkCs n10 w' ++ ([.cells 44 3 [.agg (tvCs n10 w')]]))))) : List TB) 9 (.agg (tvCs n3 w)) = .agg (fzCs w) := by
    have := frz_in (A := (bkC n0 x0 : List TB)) (B := (.cells 44 3 [.agg (tvCs n3 w)] :: (bkC n7 x0 ++ (bkCs n10 w' ++ ([.cells 44 3 [.agg (tvCs n10 w')]]))) : List TB)) (w := w) (n := n3) (by first | (simp only [List.length_append, List.length_cons, List.length_nil, bkC_len, bkCs_len, mkC_nb, mkCs_nb]; done) | (simp only [List.length_append, List.length_cons, List.length_nil, bkC_len, bkCs_len, mkC_nb, mkCs_nb]; omega)) (by first | assumption | (rw [mkCs_dp]; assumption))
    (try simp only [List.append_assoc, List.cons_append, List.nil_append, List.append_nil, mkC_tv, mkCs_tv] at this); (try simp only [List.append_assoc, List.cons_append, List.nil_append, List.append_nil, mkC_tv, mkCs_tv]); exact this
  have e18_ : ∀ t, (ansSp (eqR_S sh_Inner)).fn t [.agg (tvCs n10 w'), .agg (tvCs n3 w)] (bkC n0 x0 ++ (bkCs n3 w ++ (.cells 44 3 [.agg (tvCs n3 w)] :: (bkC n7 x0 ++ (bkCs n10 w' ++ ([.cells 44 3 [.agg (tvCs n10 w')]]))))) : List TB) = some (.p (.bool true), (bkC n0 x0 ++ (bkCs n3 w ++ (.cells 44 3 [.agg (tvCs n3 w)] :: (bkC n7 x0 ++ (bkCs n10 w' ++ ([.cells 44 3 [.agg (tvCs n10 w')]]))))) : List TB)) := fun t => call_val (by simp only [List.map_cons, List.map_nil, frz_p, frz_s, frz_agg, frz_fzC, frz_fzCs, wE, f16, f17]; try rfl) (eqR_at fI (Nat.le_trans sI (by decide)))
  obtain ⟨n19, hn19⟩ := isLen_ex (bkC n0 x0 ++ (bkCs n3 w ++ (.cells 44 3 [.agg (tvCs n3 w)] :: (bkC n7 x0 ++ (bkCs n10 w' ++ ([.cells 44 3 [.agg (tvCs n10 w')]]))))) : List TB)
  have ln19 := hn19.eq
  simp only [List.length_append, List.length_cons, List.length_nil, bkC_len, bkCs_len, mkC_nb, mkCs_nb] at ln19
  have e20_ : ∀ t, (ansSp (toC_S sh_ByteS)).fn t [fzC x0] (bkC n0 x0 ++ (bkCs n3 w ++ (.cells 44 3 [.agg (tvCs n3 w)] :: (bkC n7 x0 ++ (bkCs n10 w' ++ ([.cells 44 3 [.agg (tvCs n10 w')]]))))) : List TB) = some (tvC n19 x0, (bkC n0 x0 ++ (bkCs n3 w ++ (.cells 44 3 [.agg (tvCs n3 w)] :: (bkC n7 x0 ++ (bkCs n10 w' ++ (.cells 44 3 [.agg (tvCs n10 w')] :: (bkC n19 x0)))))) : List TB)) := fun t => by
    rw [call_newC (by simp only [List.map_cons, List.map_nil, frz_p, frz_s, frz_agg, frz_fzC, frz_fzCs]; try rfl) (toC_at h0 y0) hn19.eq]; try simp only [List.append_assoc, List.cons_append, List.nil_append, List.append_nil]
  have Ln19 := bkC_len n19 x0
  have f21 : frzT (bkC n0 x0 ++ (bkCs n3 w ++ (.cells 44 3 [.agg (tvCs n3 w)] :: (bkC n7 x0 ++ (bkCs n10 w' ++ (.cells 44 3 [.agg (tvCs n10 w')] :: (bkC n19 x0)))))) : List TB) 9 (tvC n7 x0) = fzC x0 := by
    have := frzC_in (A := (bkC n0 x0 ++ (bkCs n3 w ++ ([.cells 44 3 [.agg (tvCs n3 w)]])) : List TB)) (B := (bkCs n10 w' ++ (.cells 44 3 [.agg (tvCs n10 w')] :: (bkC n19 x0)) : List TB)) (c := x0) (n := n7) (by first | (simp only [List.length_append, List.length_cons, List.length_nil, bkC_len, bkCs_len, mkC_nb, mkCs_nb]; done) | (simp only [List.length_append, List.length_cons, List.length_nil, bkC_len, bkCs_len, mkC_nb, mkCs_nb]; omega)) (by first | assumption | (rw [mkC_dp]; assumption))
    (try simp only [List.append_assoc, List.cons_append, List.nil_append, List.append_nil, mkC_tv, mkCs_tv] at this); (try simp only [List.append_assoc, List.cons_append, List.nil_append, List.append_nil, mkC_tv, mkCs_tv]); exact this
  have f22 : frzT (bkC n0 x0 ++ (bkCs n3 w ++ (.cells 44 3 [.agg (tvCs n3 w)] :: (bkC n7 x0 ++ (bkCs n10 w' ++ (.cells 44 3 [.agg (tvCs n10 w')] :: (bkC n19 x0)))))) : List TB) 9 (tvC n19 x0) = fzC x0 := by
    have := frzC_in (A := (bkC n0 x0 ++ (bkCs n3 w ++ (.cells 44 3 [.agg (tvCs n3 w)] :: (bkC n7 x0 ++ (bkCs n10 w' ++ ([.cells 44 3 [.agg (tvCs n10 w')]]))))) : List TB)) (B := ([] : List TB)) (c := x0) (n := n19) (by first | (simp only [List.length_append, List.length_cons, List.length_nil, bkC_len, bkCs_len, mkC_nb, mkCs_nb]; done) | (simp only [List.length_append, List.length_cons, List.length_nil, bkC_len, bkCs_len, mkC_nb, mkCs_nb]; omega)) (by first | assumption | (rw [mkC_dp]; assumption))
    (try simp only [List.append_assoc, List.cons_append, List.nil_append, List.append_nil, mkC_tv, mkCs_tv] at this); (try simp only [List.append_assoc, List.cons_append, List.nil_append, List.append_nil, mkC_tv, mkCs_tv]); exact this
  have e23_ : ∀ t, (ansSp (eqC_S sh_ByteS)).fn t [tvC n7 x0, tvC n19 x0] (bkC n0 x0 ++ (bkCs n3 w ++ (.cells 44 3 [.agg (tvCs n3 w)] :: (bkC n7 x0 ++ (bkCs n10 w' ++ (.cells 44 3 [.agg (tvCs n10 w')] :: (bkC n19 x0)))))) : List TB) = some (.p (.bool true), (bkC n0 x0 ++ (bkCs n3 w ++ (.cells 44 3 [.agg (tvCs n3 w)] :: (bkC n7 x0 ++ (bkCs n10 w' ++ (.cells 44 3 [.agg (tvCs n10 w')] :: (bkC n19 x0)))))) : List TB)) := fun t => call_val (by simp only [List.map_cons, List.map_nil, frz_p, frz_s, frz_agg, frz_fzC, frz_fzCs, f21, f22]; try rfl) (eqC_at (HasC.fit _ _ h0) (Nat.le_trans y0 (by decide)))
  simp (maxSteps := 8000000) (implicitDefEqProofs := false) (disch := omega) only [↓reduceIte, go_sem, if_pos, if_neg, lenS, lenI, fzCs_len, fzCs_one, tvCs_len, tvCs_one, ↓hn0.eq, e1_, ↓hn3.eq, e4_, ↓hn5.eq, g6_, g6_s, ↓hn7.eq, e8_, ↓hn10.eq, e11_, ↓hn12.eq, g13_, g13_s, g14_, g15_, e18_, ↓hn19.eq, e20_, e23_]
  have k24_ := mkC_seg (A := (bkC n0 x0 ++ (bkCs n3 w ++ ([.cells 44 3 [.agg (tvCs n3 w)]])) : List TB)) (B := (bkCs n10 w' ++ (.cells 44 3 [.agg (tvCs n10 w')] :: (bkC n19 x0)) : List TB)) (n := n7) (c := x0) (k := 1) (by simp only [List.length_append, List.length_cons, List.length_nil, bkC_len, bkCs_len, mkC_nb, mkCs_nb]; omega) (HasC.fit _ _ h0) (by omega) (by omega)
  simp only [List.append_assoc, List.cons_append, List.nil_append, List.append_nil] at k24_
  have Ln7_25 := bkC_len n7 (mkC x0 (1)); rw [mkC_nb] at Ln7_25
  refine mutQ_call (by simp (maxSteps := 8000000) (implicitDefEqProofs := false) (disch := omega) only [↓reduceIte, go_sem, if_pos, if_neg]; rfl) (by simp (maxSteps := 8000000) (implicitDefEqProofs := false) (disch := omega) only [↓reduceIte, go_sem, if_pos, if_neg]) k24_ ?_
  have g25_ := hold_get (A := (bkC n0 x0 ++ (bkCs n3 w ++ (.cells 44 3 [.agg (tvCs n3 w)] :: (bkC n7 (mkC x0 (1)) ++ (bkCs n10 w')))) : List TB)) (R := (bkC n19 x0 : List TB)) (n := n12) (by first | (simp only [List.length_append, List.length_cons, List.length_nil, bkC_len, bkCs_len, mkC_nb, mkCs_nb]; done) | (simp only [List.length_append, List.length_cons, List.length_nil, bkC_len, bkCs_len, mkC_nb, mkCs_nb]; omega))
  try simp only [List.append_assoc, List.cons_append, List.nil_append, List.append_nil] at g25_
  have g26_ := hold_get (A := (bkC n0 x0 ++ (bkCs n3 w) : List TB)) (R := (bkC n7 (mkC x0 (1)) ++ (bkCs n10 w' ++ (.cells 44 3 [.agg (tvCs n10 w')] :: (bkC n19 x0))) : List TB)) (n := n5) (by first | (simp only [List.length_append, List.length_cons, List.length_nil, bkC_len, bkCs_len, mkC_nb, mkCs_nb]; done) | (simp only [List.length_append, List.length_cons, List.length_nil, bkC_len, bkCs_len, mkC_nb, mkCs_nb]; omega))
  try simp only [List.append_assoc, List.cons_append, List.nil_append, List.append_nil] at g26_
  have f27 : frzT (bkC n0 x0 ++ (bkCs n3 w ++ (.cells 44 3 [.agg (tvCs n3 w)] :: (bkC n7 (mkC x0 (1)) ++ (bkCs n10 w' ++ (.cells 44 3 [.agg (tvCs n10 w')] :: (bkC n19 x0)))))) : List TB) 9 (.agg (tvCs n10 w')) = .agg (fzCs w') := by
    have := frz_in (A := (bkC n0 x0 ++ (bkCs n3 w ++ (.cells 44 3 [.agg (tvCs n3 w)] :: (bkC n7 (mkC x0 (1))))) : List TB)) (B := (.cells 44 3 [.agg (tvCs n10 w')] :: (bkC n19 x0) : List TB)) (w := w') (n := n10) (by first | (simp only [List.length_append, List.length_cons, List.length_nil, bkC_len, bkCs_len, mkC_nb, mkCs_nb]; done) | (simp only [List.length_append, List.length_cons, List.length_nil, bkC_len, bkCs_len, mkC_nb, mkCs_nb]; omega)) (by first | assumption | (rw [mkCs_dp]; assumption))
    (try simp only [List.append_assoc, List.cons_append, List.nil_append, List.append_nil, mkC_tv, mkCs_tv] at this); (try simp only [List.append_assoc, List.cons_append, List.nil_append, List.append_nil, mkC_tv, mkCs_tv]); exact this
  have f28 : frzT (bkC n0 x0 ++ (bkCs n3 w ++ (.cells 44 3 [.agg (tvCs n3 w)] :: (bkC n7 (mkC x0 (1)) ++ (bkCs n10 w' ++ (.cells 44 3 [.agg (tvCs n10 w')] :: (bkC n19 x0)))))) : List TB) 9 (.agg (tvCs n3 w)) = .agg (fzCs w) := by
    have := frz_in (A := (bkC n0 x0 : List TB)) (B := (.cells 44 3 [.agg (tvCs n3 w)] :: (bkC n7 (mkC x0 (1)) ++ (bkCs n10 w' ++ (.cells 44 3 [.agg (tvCs n10 w')] :: (bkC n19 x0)))) : List TB)) (w := w) (n := n3) (by first | (simp only [List.length_append, List.length_cons, List.length_nil, bkC_len, bkCs_len, mkC_nb, mkCs_nb]; done) | (simp only [List.length_append, List.length_cons, List.length_nil, bkC_len, bkCs_len, mkC_nb, mkCs_nb]; omega)) (by first | assumption | (rw [mkCs_dp]; assumption))
    (try simp only [List.append_assoc, List.cons_append, List.nil_append, List.append_nil, mkC_tv, mkCs_tv] at this); (try simp only [List.append_assoc, List.cons_append, List.nil_append, List.append_nil, mkC_tv, mkCs_tv]); exact this
  have e29_ : ∀ t, (ansSp (eqR_S sh_Inner)).fn t [.agg (tvCs n10 w'), .agg (tvCs n3 w)] (bkC n0 x0 ++ (bkCs n3 w ++ (.cells 44 3 [.agg (tvCs n3 w)] :: (bkC n7 (mkC x0 (1)) ++ (bkCs n10 w' ++ (.cells 44 3 [.agg (tvCs n10 w')] :: (bkC n19 x0)))))) : List TB) = some (.p (.bool true), (bkC n0 x0 ++ (bkCs n3 w ++ (.cells 44 3 [.agg (tvCs n3 w)] :: (bkC n7 (mkC x0 (1)) ++ (bkCs n10 w' ++ (.cells 44 3 [.agg (tvCs n10 w')] :: (bkC n19 x0)))))) : List TB)) := fun t => call_val (by simp only [List.map_cons, List.map_nil, frz_p, frz_s, frz_agg, frz_fzC, frz_fzCs, wE, f27, f28]; try rfl) (eqR_at fI (Nat.le_trans sI (by decide)))
  have g30_ := hold_get (A := (bkC n0 x0 ++ (bkCs n3 w ++ (.cells 44 3 [.agg (tvCs n3 w)] :: (bkC n7 (mkC x0 (1)) ++ (bkCs n10 w')))) : List TB)) (R := (bkC n19 x0 : List TB)) (n := n12) (by first | (simp only [List.length_append, List.length_cons, List.length_nil, bkC_len, bkCs_len, mkC_nb, mkCs_nb]; done) | (simp only [List.length_append, List.length_cons, List.length_nil, bkC_len, bkCs_len, mkC_nb, mkCs_nb]; omega))
  try simp only [List.append_assoc, List.cons_append, List.nil_append, List.append_nil] at g30_
  simp (maxSteps := 8000000) (implicitDefEqProofs := false) (disch := omega) only [↓reduceIte, go_sem, if_pos, if_neg, lenS, lenI, fzCs_len, fzCs_one, tvCs_len, tvCs_one, eq_false (show ¬ (1 + (wtC x0 : Int) < 0) by omega), g25_, g26_, e29_, g30_]
  have k31_ := mkR_seg (A := (bkC n0 x0 ++ (bkCs n3 w ++ (.cells 44 3 [.agg (tvCs n3 w)] :: (bkC n7 (mkC x0 (1))))) : List TB)) (B := (.cells 44 3 [.agg (tvCs n10 w')] :: (bkC n19 x0) : List TB)) (n := n10) (c := w') (k := 1) (by simp only [List.length_append, List.length_cons, List.length_nil, bkC_len, bkCs_len, mkC_nb, mkCs_nb]; omega) fI (by omega) (by omega)
  simp only [List.append_assoc, List.cons_append, List.nil_append, List.append_nil] at k31_
  have Ln10_32 := bkCs_len n10 (mkCs w' (1)); rw [mkCs_nb] at Ln10_32
  refine mutQ_call (by simp (maxSteps := 8000000) (implicitDefEqProofs := false) (disch := omega) only [↓reduceIte, go_sem, if_pos, if_neg]; rfl) (by simp (maxSteps := 8000000) (implicitDefEqProofs := false) (disch := omega) only [↓reduceIte, go_sem, if_pos, if_neg]) k31_ ?_
  have g32_ := hold_get (A := (bkC n0 x0 ++ (bkCs n3 w ++ (.cells 44 3 [.agg (tvCs n3 w)] :: (bkC n7 (mkC x0 (1)) ++ (bkCs n10 (mkCs w' (1)))))) : List TB)) (R := (bkC n19 x0 : List TB)) (n := n12) (by first | (simp only [List.length_append, List.length_cons, List.length_nil, bkC_len, bkCs_len, mkC_nb, mkCs_nb]; done) | (simp only [List.length_append, List.length_cons, List.length_nil, bkC_len, bkCs_len, mkC_nb, mkCs_nb]; omega))
  try simp only [List.append_assoc, List.cons_append, List.nil_append, List.append_nil] at g32_
  have f33 : frzT (bkC n0 x0 ++ (bkCs n3 w ++ (.cells 44 3 [.agg (tvCs n3 w)] :: (bkC n7 (mkC x0 (1)) ++ (bkCs n10 (mkCs w' (1)) ++ (.cells 44 3 [.agg (tvCs n10 w')] :: (bkC n19 x0)))))) : List TB) 9 (.agg (tvCs n10 w')) = .agg (fzCs (mkCs w' (1))) := by
    have := frz_in (A := (bkC n0 x0 ++ (bkCs n3 w ++ (.cells 44 3 [.agg (tvCs n3 w)] :: (bkC n7 (mkC x0 (1))))) : List TB)) (B := (.cells 44 3 [.agg (tvCs n10 w')] :: (bkC n19 x0) : List TB)) (w := (mkCs w' (1))) (n := n10) (by first | (simp only [List.length_append, List.length_cons, List.length_nil, bkC_len, bkCs_len, mkC_nb, mkCs_nb]; done) | (simp only [List.length_append, List.length_cons, List.length_nil, bkC_len, bkCs_len, mkC_nb, mkCs_nb]; omega)) (by first | assumption | (rw [mkCs_dp]; assumption))
    (try simp only [List.append_assoc, List.cons_append, List.nil_append, List.append_nil, mkC_tv, mkCs_tv] at this); (try simp only [List.append_assoc, List.cons_append, List.nil_append, List.append_nil, mkC_tv, mkCs_tv]); exact this
  have e34_ : ∀ t, (ansSp (hdR_S sh_Inner)).fn t [.agg (tvCs n10 w'), .p (.int .i64 1)] (bkC n0 x0 ++ (bkCs n3 w ++ (.cells 44 3 [.agg (tvCs n3 w)] :: (bkC n7 (mkC x0 (1)) ++ (bkCs n10 (mkCs w' (1)) ++ (.cells 44 3 [.agg (tvCs n10 w')] :: (bkC n19 x0)))))) : List TB) = some (.p (.int .i64 (1 + (wtCs w' : Int))), (bkC n0 x0 ++ (bkCs n3 w ++ (.cells 44 3 [.agg (tvCs n3 w)] :: (bkC n7 (mkC x0 (1)) ++ (bkCs n10 (mkCs w' (1)) ++ (.cells 44 3 [.agg (tvCs n10 w')] :: (bkC n19 x0)))))) : List TB)) := fun t => call_val (by simp only [List.map_cons, List.map_nil, frz_p, frz_s, frz_agg, frz_fzC, frz_fzCs, f33]; try rfl) (hdR_at (k := 1) fI (by omega) (by omega))
  obtain ⟨n35, hn35⟩ := isLen_ex (bkC n0 x0 ++ (bkCs n3 w ++ (.cells 44 3 [.agg (tvCs n3 w)] :: (bkC n7 (mkC x0 (1)) ++ (bkCs n10 (mkCs w' (1)) ++ (.cells 44 3 [.agg (tvCs n10 w')] :: (bkC n19 x0)))))) : List TB)
  have ln35 := hn35.eq
  simp only [List.length_append, List.length_cons, List.length_nil, bkC_len, bkCs_len, mkC_nb, mkCs_nb] at ln35
  have e36_ : ∀ t, (ansSp (toC_S sh_ByteS)).fn t [fzC x0] (bkC n0 x0 ++ (bkCs n3 w ++ (.cells 44 3 [.agg (tvCs n3 w)] :: (bkC n7 (mkC x0 (1)) ++ (bkCs n10 (mkCs w' (1)) ++ (.cells 44 3 [.agg (tvCs n10 w')] :: (bkC n19 x0)))))) : List TB) = some (tvC n35 x0, (bkC n0 x0 ++ (bkCs n3 w ++ (.cells 44 3 [.agg (tvCs n3 w)] :: (bkC n7 (mkC x0 (1)) ++ (bkCs n10 (mkCs w' (1)) ++ (.cells 44 3 [.agg (tvCs n10 w')] :: (bkC n19 x0 ++ (bkC n35 x0))))))) : List TB)) := fun t => by
    rw [call_newC (by simp only [List.map_cons, List.map_nil, frz_p, frz_s, frz_agg, frz_fzC, frz_fzCs]; try rfl) (toC_at h0 y0) hn35.eq]; try simp only [List.append_assoc, List.cons_append, List.nil_append, List.append_nil]
  have Ln35 := bkC_len n35 x0
  have f37 : frzT (bkC n0 x0 ++ (bkCs n3 w ++ (.cells 44 3 [.agg (tvCs n3 w)] :: (bkC n7 (mkC x0 (1)) ++ (bkCs n10 (mkCs w' (1)) ++ (.cells 44 3 [.agg (tvCs n10 w')] :: (bkC n19 x0 ++ (bkC n35 x0))))))) : List TB) 9 (tvC n35 x0) = fzC x0 := by
    have := frzC_in (A := (bkC n0 x0 ++ (bkCs n3 w ++ (.cells 44 3 [.agg (tvCs n3 w)] :: (bkC n7 (mkC x0 (1)) ++ (bkCs n10 (mkCs w' (1)) ++ (.cells 44 3 [.agg (tvCs n10 w')] :: (bkC n19 x0)))))) : List TB)) (B := ([] : List TB)) (c := x0) (n := n35) (by first | (simp only [List.length_append, List.length_cons, List.length_nil, bkC_len, bkCs_len, mkC_nb, mkCs_nb]; done) | (simp only [List.length_append, List.length_cons, List.length_nil, bkC_len, bkCs_len, mkC_nb, mkCs_nb]; omega)) (by first | assumption | (rw [mkC_dp]; assumption))
    (try simp only [List.append_assoc, List.cons_append, List.nil_append, List.append_nil, mkC_tv, mkCs_tv] at this); (try simp only [List.append_assoc, List.cons_append, List.nil_append, List.append_nil, mkC_tv, mkCs_tv]); exact this
  obtain ⟨n38, hn38⟩ := isLen_ex (bkC n0 x0 ++ (bkCs n3 w ++ (.cells 44 3 [.agg (tvCs n3 w)] :: (bkC n7 (mkC x0 (1)) ++ (bkCs n10 (mkCs w' (1)) ++ (.cells 44 3 [.agg (tvCs n10 w')] :: (bkC n19 x0 ++ (bkC n35 x0))))))) : List TB)
  have ln38 := hn38.eq
  simp only [List.length_append, List.length_cons, List.length_nil, bkC_len, bkCs_len, mkC_nb, mkCs_nb] at ln38
  have e39_ : ∀ t, (ansSp Si).fn t [tvC n35 x0, .p (.int .i64 x1), .p (.int .i64 x2)] (bkC n0 x0 ++ (bkCs n3 w ++ (.cells 44 3 [.agg (tvCs n3 w)] :: (bkC n7 (mkC x0 (1)) ++ (bkCs n10 (mkCs w' (1)) ++ (.cells 44 3 [.agg (tvCs n10 w')] :: (bkC n19 x0 ++ (bkC n35 x0))))))) : List TB) = some (.agg (tvCs n38 w'), (bkC n0 x0 ++ (bkCs n3 w ++ (.cells 44 3 [.agg (tvCs n3 w)] :: (bkC n7 (mkC x0 (1)) ++ (bkCs n10 (mkCs w' (1)) ++ (.cells 44 3 [.agg (tvCs n10 w')] :: (bkC n19 x0 ++ (bkC n35 x0 ++ (bkCs n38 w')))))))) : List TB)) := fun t => by
    rw [call_new (by simp only [List.map_cons, List.map_nil, frz_p, frz_s, frz_agg, frz_fzC, frz_fzCs, f37]; try rfl) (wI) hn38.eq]; try simp only [List.append_assoc, List.cons_append, List.nil_append, List.append_nil]
  have Ln38 := bkCs_len n38 w'
  obtain ⟨n40, hn40⟩ := isLen_ex (bkC n0 x0 ++ (bkCs n3 w ++ (.cells 44 3 [.agg (tvCs n3 w)] :: (bkC n7 (mkC x0 (1)) ++ (bkCs n10 (mkCs w' (1)) ++ (.cells 44 3 [.agg (tvCs n10 w')] :: (bkC n19 x0 ++ (bkC n35 x0 ++ (bkCs n38 w')))))))) : List TB)
  have ln40 := hn40.eq
  simp only [List.length_append, List.length_cons, List.length_nil, bkC_len, bkCs_len, mkC_nb, mkCs_nb] at ln40
  have g41_ := hold_get (A := (bkC n0 x0 ++ (bkCs n3 w ++ (.cells 44 3 [.agg (tvCs n3 w)] :: (bkC n7 (mkC x0 (1)) ++ (bkCs n10 (mkCs w' (1)) ++ (.cells 44 3 [.agg (tvCs n10 w')] :: (bkC n19 x0 ++ (bkC n35 x0 ++ (bkCs n38 w')))))))) : List TB)) (R := ([] : List TB)) (n := n40) (by first | (simp only [List.length_append, List.length_cons, List.length_nil, bkC_len, bkCs_len, mkC_nb, mkCs_nb]; done) | (simp only [List.length_append, List.length_cons, List.length_nil, bkC_len, bkCs_len, mkC_nb, mkCs_nb]; omega))
  try simp only [List.append_assoc, List.cons_append, List.nil_append, List.append_nil] at g41_
  have g41_s := hold_set (A := (bkC n0 x0 ++ (bkCs n3 w ++ (.cells 44 3 [.agg (tvCs n3 w)] :: (bkC n7 (mkC x0 (1)) ++ (bkCs n10 (mkCs w' (1)) ++ (.cells 44 3 [.agg (tvCs n10 w')] :: (bkC n19 x0 ++ (bkC n35 x0 ++ (bkCs n38 w')))))))) : List TB)) (R := ([] : List TB)) (n := n40) (by first | (simp only [List.length_append, List.length_cons, List.length_nil, bkC_len, bkCs_len, mkC_nb, mkCs_nb]; done) | (simp only [List.length_append, List.length_cons, List.length_nil, bkC_len, bkCs_len, mkC_nb, mkCs_nb]; omega))
  try simp only [List.append_assoc, List.cons_append, List.nil_append, List.append_nil] at g41_s
  have g42_ := hold_get (A := (bkC n0 x0 ++ (bkCs n3 w ++ (.cells 44 3 [.agg (tvCs n3 w)] :: (bkC n7 (mkC x0 (1)) ++ (bkCs n10 (mkCs w' (1)) ++ (.cells 44 3 [.agg (tvCs n10 w')] :: (bkC n19 x0 ++ (bkC n35 x0 ++ (bkCs n38 w')))))))) : List TB)) (R := ([] : List TB)) (n := n40) (by first | (simp only [List.length_append, List.length_cons, List.length_nil, bkC_len, bkCs_len, mkC_nb, mkCs_nb]; done) | (simp only [List.length_append, List.length_cons, List.length_nil, bkC_len, bkCs_len, mkC_nb, mkCs_nb]; omega))
  try simp only [List.append_assoc, List.cons_append, List.nil_append, List.append_nil] at g42_
  have g43_ := hold_get (A := (bkC n0 x0 ++ (bkCs n3 w) : List TB)) (R := (bkC n7 (mkC x0 (1)) ++ (bkCs n10 (mkCs w' (1)) ++ (.cells 44 3 [.agg (tvCs n10 w')] :: (bkC n19 x0 ++ (bkC n35 x0 ++ (bkCs n38 w' ++ ([.cells 44 3 [.agg (tvCs n38 w')]])))))) : List TB)) (n := n5) (by first | (simp only [List.length_append, List.length_cons, List.length_nil, bkC_len, bkCs_len, mkC_nb, mkCs_nb]; done) | (simp only [List.length_append, List.length_cons, List.length_nil, bkC_len, bkCs_len, mkC_nb, mkCs_nb]; omega))
  try simp only [List.append_assoc, List.cons_append, List.nil_append, List.append_nil] at g43_
  have f44 : frzT (bkC n0 x0 ++ (bkCs n3 w ++ (.cells 44 3 [.agg (tvCs n3 w)] :: (bkC n7 (mkC x0 (1)) ++ (bkCs n10 (mkCs w' (1)) ++ (.cells 44 3 [.agg (tvCs n10 w')] :: (bkC n19 x0 ++ (bkC n35 x0 ++ (bkCs n38 w' ++ ([.cells 44 3 [.agg (tvCs n38 w')]]))))))))) : List TB) 9 (.agg (tvCs n38 w')) = .agg (fzCs w') := by
    have := frz_in (A := (bkC n0 x0 ++ (bkCs n3 w ++ (.cells 44 3 [.agg (tvCs n3 w)] :: (bkC n7 (mkC x0 (1)) ++ (bkCs n10 (mkCs w' (1)) ++ (.cells 44 3 [.agg (tvCs n10 w')] :: (bkC n19 x0 ++ (bkC n35 x0))))))) : List TB)) (B := ([.cells 44 3 [.agg (tvCs n38 w')]] : List TB)) (w := w') (n := n38) (by first | (simp only [List.length_append, List.length_cons, List.length_nil, bkC_len, bkCs_len, mkC_nb, mkCs_nb]; done) | (simp only [List.length_append, List.length_cons, List.length_nil, bkC_len, bkCs_len, mkC_nb, mkCs_nb]; omega)) (by first | assumption | (rw [mkCs_dp]; assumption))
    (try simp only [List.append_assoc, List.cons_append, List.nil_append, List.append_nil, mkC_tv, mkCs_tv] at this); (try simp only [List.append_assoc, List.cons_append, List.nil_append, List.append_nil, mkC_tv, mkCs_tv]); exact this
  have f45 : frzT (bkC n0 x0 ++ (bkCs n3 w ++ (.cells 44 3 [.agg (tvCs n3 w)] :: (bkC n7 (mkC x0 (1)) ++ (bkCs n10 (mkCs w' (1)) ++ (.cells 44 3 [.agg (tvCs n10 w')] :: (bkC n19 x0 ++ (bkC n35 x0 ++ (bkCs n38 w' ++ ([.cells 44 3 [.agg (tvCs n38 w')]]))))))))) : List TB) 9 (.agg (tvCs n3 w)) = .agg (fzCs w) := by
    have := frz_in (A := (bkC n0 x0 : List TB)) (B := (.cells 44 3 [.agg (tvCs n3 w)] :: (bkC n7 (mkC x0 (1)) ++ (bkCs n10 (mkCs w' (1)) ++ (.cells 44 3 [.agg (tvCs n10 w')] :: (bkC n19 x0 ++ (bkC n35 x0 ++ (bkCs n38 w' ++ ([.cells 44 3 [.agg (tvCs n38 w')]]))))))) : List TB)) (w := w) (n := n3) (by first | (simp only [List.length_append, List.length_cons, List.length_nil, bkC_len, bkCs_len, mkC_nb, mkCs_nb]; done) | (simp only [List.length_append, List.length_cons, List.length_nil, bkC_len, bkCs_len, mkC_nb, mkCs_nb]; omega)) (by first | assumption | (rw [mkCs_dp]; assumption))
    (try simp only [List.append_assoc, List.cons_append, List.nil_append, List.append_nil, mkC_tv, mkCs_tv] at this); (try simp only [List.append_assoc, List.cons_append, List.nil_append, List.append_nil, mkC_tv, mkCs_tv]); exact this
  have e46_ : ∀ t, (ansSp (eqR_S sh_Inner)).fn t [.agg (tvCs n38 w'), .agg (tvCs n3 w)] (bkC n0 x0 ++ (bkCs n3 w ++ (.cells 44 3 [.agg (tvCs n3 w)] :: (bkC n7 (mkC x0 (1)) ++ (bkCs n10 (mkCs w' (1)) ++ (.cells 44 3 [.agg (tvCs n10 w')] :: (bkC n19 x0 ++ (bkC n35 x0 ++ (bkCs n38 w' ++ ([.cells 44 3 [.agg (tvCs n38 w')]]))))))))) : List TB) = some (.p (.bool true), (bkC n0 x0 ++ (bkCs n3 w ++ (.cells 44 3 [.agg (tvCs n3 w)] :: (bkC n7 (mkC x0 (1)) ++ (bkCs n10 (mkCs w' (1)) ++ (.cells 44 3 [.agg (tvCs n10 w')] :: (bkC n19 x0 ++ (bkC n35 x0 ++ (bkCs n38 w' ++ ([.cells 44 3 [.agg (tvCs n38 w')]]))))))))) : List TB)) := fun t => call_val (by simp only [List.map_cons, List.map_nil, frz_p, frz_s, frz_agg, frz_fzC, frz_fzCs, wE, f44, f45]; try rfl) (eqR_at fI (Nat.le_trans sI (by decide)))
  have g47_ := hold_get (A := (bkC n0 x0 ++ (bkCs n3 w ++ (.cells 44 3 [.agg (tvCs n3 w)] :: (bkC n7 (mkC x0 (1)) ++ (bkCs n10 (mkCs w' (1)))))) : List TB)) (R := (bkC n19 x0 ++ (bkC n35 x0 ++ (bkCs n38 w' ++ ([.cells 44 3 [.agg (tvCs n38 w')]]))) : List TB)) (n := n12) (by first | (simp only [List.length_append, List.length_cons, List.length_nil, bkC_len, bkCs_len, mkC_nb, mkCs_nb]; done) | (simp only [List.length_append, List.length_cons, List.length_nil, bkC_len, bkCs_len, mkC_nb, mkCs_nb]; omega))
  try simp only [List.append_assoc, List.cons_append, List.nil_append, List.append_nil] at g47_
  have f48 : frzT (bkC n0 x0 ++ (bkCs n3 w ++ (.cells 44 3 [.agg (tvCs n3 w)] :: (bkC n7 (mkC x0 (1)) ++ (bkCs n10 (mkCs w' (1)) ++ (.cells 44 3 [.agg (tvCs n10 w')] :: (bkC n19 x0 ++ (bkC n35 x0 ++ (bkCs n38 w' ++ ([.cells 44 3 [.agg (tvCs n38 w')]]))))))))) : List TB) 9 (.agg (tvCs n10 w')) = .agg (fzCs (mkCs w' (1))) := by
    have := frz_in (A := (bkC n0 x0 ++ (bkCs n3 w ++ (.cells 44 3 [.agg (tvCs n3 w)] :: (bkC n7 (mkC x0 (1))))) : List TB)) (B := (.cells 44 3 [.agg (tvCs n10 w')] :: (bkC n19 x0 ++ (bkC n35 x0 ++ (bkCs n38 w' ++ ([.cells 44 3 [.agg (tvCs n38 w')]])))) : List TB)) (w := (mkCs w' (1))) (n := n10) (by first | (simp only [List.length_append, List.length_cons, List.length_nil, bkC_len, bkCs_len, mkC_nb, mkCs_nb]; done) | (simp only [List.length_append, List.length_cons, List.length_nil, bkC_len, bkCs_len, mkC_nb, mkCs_nb]; omega)) (by first | assumption | (rw [mkCs_dp]; assumption))
    (try simp only [List.append_assoc, List.cons_append, List.nil_append, List.append_nil, mkC_tv, mkCs_tv] at this); (try simp only [List.append_assoc, List.cons_append, List.nil_append, List.append_nil, mkC_tv, mkCs_tv]); exact this
  have e49_ : ∀ t, (ansSp (hdR_S sh_Inner)).fn t [.agg (tvCs n10 w'), .p (.int .i64 1)] (bkC n0 x0 ++ (bkCs n3 w ++ (.cells 44 3 [.agg (tvCs n3 w)] :: (bkC n7 (mkC x0 (1)) ++ (bkCs n10 (mkCs w' (1)) ++ (.cells 44 3 [.agg (tvCs n10 w')] :: (bkC n19 x0 ++ (bkC n35 x0 ++ (bkCs n38 w' ++ ([.cells 44 3 [.agg (tvCs n38 w')]]))))))))) : List TB) = some (.p (.int .i64 (1 + (wtCs w' : Int))), (bkC n0 x0 ++ (bkCs n3 w ++ (.cells 44 3 [.agg (tvCs n3 w)] :: (bkC n7 (mkC x0 (1)) ++ (bkCs n10 (mkCs w' (1)) ++ (.cells 44 3 [.agg (tvCs n10 w')] :: (bkC n19 x0 ++ (bkC n35 x0 ++ (bkCs n38 w' ++ ([.cells 44 3 [.agg (tvCs n38 w')]]))))))))) : List TB)) := fun t => call_val (by simp only [List.map_cons, List.map_nil, frz_p, frz_s, frz_agg, frz_fzC, frz_fzCs, f48]; try rfl) (hdR_at (k := 1) fI (by omega) (by omega))
  simp (maxSteps := 8000000) (implicitDefEqProofs := false) (disch := omega) only [↓reduceIte, go_sem, if_pos, if_neg, lenS, lenI, fzCs_len, fzCs_one, tvCs_len, tvCs_one, eq_false (show ¬ (1 + (wtCs w' : Int) < 0) by omega), g32_, e34_, eq_false (show ¬ (1 + (wtCs w' : Int) < 0) by omega), ↓hn35.eq, e36_, ↓hn38.eq, e39_, ↓hn40.eq, g41_, g41_s, g42_, g43_, e46_, g47_, e49_, eq_false (show ¬ (1 + (wtCs w' : Int) < 0) by omega), not_true, decide_false, not_false_eq_true]
  exact endT_p (.inr rfl) (by (simp (maxSteps := 8000000) (implicitDefEqProofs := false) (disch := omega) only [↓reduceIte, go_sem, if_pos, if_neg]) <;> rfl) rfl
end Go.Proofs.Ytkijbknnbmbnbaa
