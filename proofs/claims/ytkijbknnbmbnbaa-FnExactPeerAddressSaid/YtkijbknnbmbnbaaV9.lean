import Derived.Test.YtkijbknnbmbnbaaU8
set_option linter.unusedSimpArgs false
set_option linter.unusedVariables false
set_option maxRecDepth 100000
set_option maxHeartbeats 4000000
namespace Go.Proofs.Ytkijbknnbmbnbaa
open Go Go.AH
attribute [local irreducible] awpT ropsT qopsT stepT condKT gdKT EndT joinK loopKT seqKT blkKT kont kontR
/-! FnExactBoxFault -/
-- laws.FnExactBoxFault
def c9 : AF := ⟨27,
  (.seq (.reg [⟨(some 1), none, .box 85 (.t 0)⟩,
   ⟨(some 2), none, .mv (.v (.bool false))⟩])
  (.seq (.reg [⟨(some 3), none, .mv (.v (.int .i64 1048576))⟩])
  (.seq (.reg [⟨(some 7), none, .ldn 6 (.t 1)⟩,
   ⟨(some 8), none, .mv (.t 3)⟩,
   ⟨(some 9), none, .call 51 [(.t 7), (.t 8)]⟩,
   ⟨(some 3), none, .mv (.t 9)⟩])
  (.seq (.seq (.reg [⟨(some 10), none, .mv (.t 3)⟩,
   ⟨(some 11), none, .bin .lss (.t 10) (.v (.int .i64 0))⟩])
  (.cond (.t 11) (.seq (.reg [⟨(some 2), none, .mv (.v (.bool true))⟩])
  .ret)
  .skip))
  (.seq (.reg [⟨(some 12), none, .ldn 6 (.t 1)⟩,
   ⟨(some 13), none, .call 53 [(.t 12)]⟩,
   ⟨(some 14), none, .call 52 [(.t 13)]⟩,
   ⟨(some 4), none, .mv (.t 14)⟩])
  (.seq (.reg [⟨(some 15), none, .ldn 6 (.t 1)⟩,
   ⟨(some 16), none, .call 53 [(.t 15)]⟩,
   ⟨(some 5), none, .alloc 91 [(.int .i64 0), (.slice none 0 0), (.slice none 0 0), (.slice none 0 0), (.int .i64 0), (.slice none 0 0)]⟩,
   ⟨none, none, .st 6 (.t 5) (.t 16)⟩])
  (.seq (.reg [⟨(some 17), none, .ldn 6 (.t 5)⟩,
   ⟨(some 18), none, .call 54 [(.t 17)]⟩,
   ⟨(some 6), none, .mv (.t 18)⟩])
  (.seq (.seq (.reg [⟨(some 19), none, .mv (.t 6)⟩,
   ⟨(some 20), none, .mv (.t 4)⟩,
   ⟨(some 21), none, .bin .neq (.t 19) (.t 20)⟩])
  (.cond (.t 21) (.seq (.reg [⟨(some 2), none, .mv (.v (.bool false))⟩])
  .ret)
  .skip))
  (.seq (.seq (.drw [⟨(some 22), none, .ldn 6 (.t 5)⟩,
   ⟨(some 23), none, .ldn 6 (.t 1)⟩,
   ⟨(some 24), none, .call 53 [(.t 23)]⟩] [⟨(some 25), none, .call 55 [(.t 22), (.t 24)]⟩,
   ⟨(some 26), none, .un .not (.t 25)⟩])
  (.cond (.t 26) (.seq (.reg [⟨(some 2), none, .mv (.v (.bool false))⟩])
  .ret)
  .skip))
  (.seq (.reg [⟨(some 2), none, .mv (.v (.bool true))⟩])
  .ret)))))))))),
  [.t 2]⟩
theorem k9 : cFn Try.prog Try.f9 = some c9 := by kernel_rfl
theorem law_BoxFault {Ss Si : List TV → Option (TV × THeap)} (okS : OkT Try.prog 52 (pureSp Ss)) (okI : OkT Try.prog 54 (pureSp Si)) (H : ∀ (x0 : List Cell), HasR sh_Box x0 → szCs x0 ≤ 1048576 → ∃ v : Int, Ss [.agg (fzCs x0)] = some (.p (.int .i64 v), []) ∧ Si [.agg (fzCs x0)] = some (.p (.int .i64 v), [])) : OkT Try.prog 9 (pureSp (tvSp (fun a => ∃ (x0 : List Cell), a = [.agg (fzCs x0)] ∧ HasR sh_Box x0 ∧ lnCs x0 = true) (fun _ => (.p (.bool true), [])))) := by
  refine okT_tv (OkΓT.cons szBox_ok (OkΓT.cons (tsp := ansSp (toR_S sh_Box)) toBox_ok (OkΓT.cons (tsp := ansSp Ss) okS (OkΓT.cons (tsp := ansSp Si) okI (OkΓT.cons (tsp := ansSp (eqR_S sh_Box)) eqBox_ok (OkΓT.nil _)))))) Try.func9 (by kernel_rfl) k9 (fun x hx => ⟨rfl, rfl⟩) ?_
  rintro _ ⟨x0, rfl, h0, z0⟩
  have len0 : x0.length = 6 := HasR.len h0
  have e0 := szR_at (k := 1048576) h0 (by omega) z0
  by_cases q0 : (szCs x0 : Int) ≤ 1048576
  case neg =>
    rw [if_neg q0] at e0
    (dsimp only [c9]; simp (maxSteps := 8000000) (implicitDefEqProofs := false) (disch := omega) only [↓reduceIte, go_sem, if_pos, if_neg, len0, fzCs_len, fzCs_one, e0])
    repeat' first
      | (refine gdKT_dec (fun hg => ?_) (fun hg => ?_) <;> (try (first | simp (maxSteps := 8000000) (implicitDefEqProofs := false) (disch := omega) only [↓reduceIte, go_sem, if_pos, if_neg, eq_false hg, len0, fzCs_len, fzCs_one, e0] | simp (maxSteps := 8000000) (implicitDefEqProofs := false) (disch := omega) only [↓reduceIte, go_sem, if_pos, if_neg, eq_true hg, len0, fzCs_len, fzCs_one, e0])))
      | (refine condKT_dec (fun hg => ?_) (fun hg => ?_) <;> (try (first | simp (maxSteps := 8000000) (implicitDefEqProofs := false) (disch := omega) only [↓reduceIte, go_sem, if_pos, if_neg, eq_false hg, len0, fzCs_len, fzCs_one, e0] | simp (maxSteps := 8000000) (implicitDefEqProofs := false) (disch := omega) only [↓reduceIte, go_sem, if_pos, if_neg, eq_true hg, len0, fzCs_len, fzCs_one, e0])))
      | (refine gdKT_split (fun hg => ?_) (fun hg => ?_) <;> (try simp (maxSteps := 8000000) (implicitDefEqProofs := false) (disch := omega) only [↓reduceIte, go_sem, if_pos, if_neg, hg, len0, fzCs_len, fzCs_one, e0]))
      | (refine condKT_split (fun hg => ?_) (fun hg => ?_) <;> (try simp (maxSteps := 8000000) (implicitDefEqProofs := false) (disch := omega) only [↓reduceIte, go_sem, if_pos, if_neg, hg, len0, fzCs_len, fzCs_one, e0]))
      | (refine endT_p (.inr rfl) (by simp (maxSteps := 8000000) (implicitDefEqProofs := false) (disch := omega) only [↓reduceIte, go_sem, if_pos, if_neg, len0, fzCs_len, fzCs_one, e0]; rfl) ?_; (first | exact vb_true (by omega) | exact vb_false (by omega) | exact vb_dec (by omega) | exact vi_eq (by omega) | rfl | (refine vi_eq ?_; simp_all; done) | (refine vi_eq ?_; simp_all; omega) | (refine vi_eq ?_; simp_all; intros; omega)))
      | exact endT_v (.inr rfl) (by simp (maxSteps := 8000000) (implicitDefEqProofs := false) (disch := omega) only [↓reduceIte, go_sem, if_pos, if_neg, len0, fzCs_len, fzCs_one, e0]; try rfl) (fun _ => rfl)
  rw [if_pos q0] at e0
  have y0 : szCs x0 ≤ 1048576 := by omega
  obtain ⟨v, wS, wI⟩ := H x0 h0 y0
  have d0 : dpCs x0 ≤ 9 := Nat.le_trans (FitR.dp _ _ (HasR.fit _ _ h0)) (of_decide_eq_true (by rfl))
  have m0 : wtCs x0 ≤ 64 * 1048576 := FitR.w (HasR.fit _ _ h0) (of_decide_eq_true (by rfl)) y0
  obtain ⟨n0, hn0⟩ := isLen_ex ([] : List TB)
  have ln0 := hn0.eq
  simp only [List.length_append, List.length_cons, List.length_nil, bkC_len, bkCs_len, mkC_nb, mkCs_nb] at ln0
  have g1_ := hold_get (A := ([] : List TB)) (R := ([] : List TB)) (n := n0) (by first | (simp only [List.length_append, List.length_cons, List.length_nil, bkC_len, bkCs_len, mkC_nb, mkCs_nb]; done) | (simp only [List.length_append, List.length_cons, List.length_nil, bkC_len, bkCs_len, mkC_nb, mkCs_nb]; omega))
  try simp only [List.append_assoc, List.cons_append, List.nil_append, List.append_nil] at g1_
  have g2_ := hold_get (A := ([] : List TB)) (R := ([] : List TB)) (n := n0) (by first | (simp only [List.length_append, List.length_cons, List.length_nil, bkC_len, bkCs_len, mkC_nb, mkCs_nb]; done) | (simp only [List.length_append, List.length_cons, List.length_nil, bkC_len, bkCs_len, mkC_nb, mkCs_nb]; omega))
  try simp only [List.append_assoc, List.cons_append, List.nil_append, List.append_nil] at g2_
  obtain ⟨n3, hn3⟩ := isLen_ex ([.cells 85 6 [.agg (fzCs x0)]] : List TB)
  have ln3 := hn3.eq
  simp only [List.length_append, List.length_cons, List.length_nil, bkC_len, bkCs_len, mkC_nb, mkCs_nb] at ln3
  have e4_ : ∀ t, (ansSp (toR_S sh_Box)).fn t [.agg (fzCs x0)] ([.cells 85 6 [.agg (fzCs x0)]] : List TB) = some (.agg (tvCs n3 x0), (.cells 85 6 [.agg (fzCs x0)] :: (bkCs n3 x0) : List TB)) := fun t => by
    rw [call_new (by simp only [List.map_cons, List.map_nil, frz_p, frz_s, frz_agg, frz_fzC, frz_fzCs]; try rfl) (toR_at h0 y0) hn3.eq]; try simp only [List.append_assoc, List.cons_append, List.nil_append, List.append_nil]
  have Ln3 := bkCs_len n3 x0
  have f5 : frzT (.cells 85 6 [.agg (fzCs x0)] :: (bkCs n3 x0) : List TB) 9 (.agg (tvCs n3 x0)) = .agg (fzCs x0) := by
    have := frz_in (A := ([.cells 85 6 [.agg (fzCs x0)]] : List TB)) (B := ([] : List TB)) (w := x0) (n := n3) (by first | (simp only [List.length_append, List.length_cons, List.length_nil, bkC_len, bkCs_len, mkC_nb, mkCs_nb]; done) | (simp only [List.length_append, List.length_cons, List.length_nil, bkC_len, bkCs_len, mkC_nb, mkCs_nb]; omega)) (by first | assumption | (rw [mkCs_dp]; assumption))
    (try simp only [List.append_assoc, List.cons_append, List.nil_append, List.append_nil, mkC_tv, mkCs_tv] at this); (try simp only [List.append_assoc, List.cons_append, List.nil_append, List.append_nil, mkC_tv, mkCs_tv]); exact this
  have e6_ : ∀ t, (ansSp Ss).fn t [.agg (tvCs n3 x0)] (.cells 85 6 [.agg (fzCs x0)] :: (bkCs n3 x0) : List TB) = some (.p (.int .i64 v), (.cells 85 6 [.agg (fzCs x0)] :: (bkCs n3 x0) : List TB)) := fun t => call_val (by simp only [List.map_cons, List.map_nil, frz_p, frz_s, frz_agg, frz_fzC, frz_fzCs, f5]; try rfl) (wS)
  have g7_ := hold_get (A := ([] : List TB)) (R := (bkCs n3 x0 : List TB)) (n := n0) (by first | (simp only [List.length_append, List.length_cons, List.length_nil, bkC_len, bkCs_len, mkC_nb, mkCs_nb]; done) | (simp only [List.length_append, List.length_cons, List.length_nil, bkC_len, bkCs_len, mkC_nb, mkCs_nb]; omega))
  try simp only [List.append_assoc, List.cons_append, List.nil_append, List.append_nil] at g7_
  obtain ⟨n8, hn8⟩ := isLen_ex (.cells 85 6 [.agg (fzCs x0)] :: (bkCs n3 x0) : List TB)
  have ln8 := hn8.eq
  simp only [List.length_append, List.length_cons, List.length_nil, bkC_len, bkCs_len, mkC_nb, mkCs_nb] at ln8
  have e9_ : ∀ t, (ansSp (toR_S sh_Box)).fn t [.agg (fzCs x0)] (.cells 85 6 [.agg (fzCs x0)] :: (bkCs n3 x0) : List TB) = some (.agg (tvCs n8 x0), (.cells 85 6 [.agg (fzCs x0)] :: (bkCs n3 x0 ++ (bkCs n8 x0)) : List TB)) := fun t => by
    rw [call_new (by simp only [List.map_cons, List.map_nil, frz_p, frz_s, frz_agg, frz_fzC, frz_fzCs]; try rfl) (toR_at h0 y0) hn8.eq]; try simp only [List.append_assoc, List.cons_append, List.nil_append, List.append_nil]
  have Ln8 := bkCs_len n8 x0
  obtain ⟨n10, hn10⟩ := isLen_ex (.cells 85 6 [.agg (fzCs x0)] :: (bkCs n3 x0 ++ (bkCs n8 x0)) : List TB)
  have ln10 := hn10.eq
  simp only [List.length_append, List.length_cons, List.length_nil, bkC_len, bkCs_len, mkC_nb, mkCs_nb] at ln10
  have g11_ := hold_get (A := (.cells 85 6 [.agg (fzCs x0)] :: (bkCs n3 x0 ++ (bkCs n8 x0)) : List TB)) (R := ([] : List TB)) (n := n10) (by first | (simp only [List.length_append, List.length_cons, List.length_nil, bkC_len, bkCs_len, mkC_nb, mkCs_nb]; done) | (simp only [List.length_append, List.length_cons, List.length_nil, bkC_len, bkCs_len, mkC_nb, mkCs_nb]; omega))
  try simp only [List.append_assoc, List.cons_append, List.nil_append, List.append_nil] at g11_
  have g11_s := hold_set (A := (.cells 85 6 [.agg (fzCs x0)] :: (bkCs n3 x0 ++ (bkCs n8 x0)) : List TB)) (R := ([] : List TB)) (n := n10) (by first | (simp only [List.length_append, List.length_cons, List.length_nil, bkC_len, bkCs_len, mkC_nb, mkCs_nb]; done) | (simp only [List.length_append, List.length_cons, List.length_nil, bkC_len, bkCs_len, mkC_nb, mkCs_nb]; omega))
  try simp only [List.append_assoc, List.cons_append, List.nil_append, List.append_nil] at g11_s
  have g12_ := hold_get (A := (.cells 85 6 [.agg (fzCs x0)] :: (bkCs n3 x0 ++ (bkCs n8 x0)) : List TB)) (R := ([] : List TB)) (n := n10) (by first | (simp only [List.length_append, List.length_cons, List.length_nil, bkC_len, bkCs_len, mkC_nb, mkCs_nb]; done) | (simp only [List.length_append, List.length_cons, List.length_nil, bkC_len, bkCs_len, mkC_nb, mkCs_nb]; omega))
  try simp only [List.append_assoc, List.cons_append, List.nil_append, List.append_nil] at g12_
  have f13 : frzT (.cells 85 6 [.agg (fzCs x0)] :: (bkCs n3 x0 ++ (bkCs n8 x0 ++ ([.cells 91 6 [.agg (tvCs n8 x0)]]))) : List TB) 9 (.agg (tvCs n8 x0)) = .agg (fzCs x0) := by
    have := frz_in (A := (.cells 85 6 [.agg (fzCs x0)] :: (bkCs n3 x0) : List TB)) (B := ([.cells 91 6 [.agg (tvCs n8 x0)]] : List TB)) (w := x0) (n := n8) (by first | (simp only [List.length_append, List.length_cons, List.length_nil, bkC_len, bkCs_len, mkC_nb, mkCs_nb]; done) | (simp only [List.length_append, List.length_cons, List.length_nil, bkC_len, bkCs_len, mkC_nb, mkCs_nb]; omega)) (by first | assumption | (rw [mkCs_dp]; assumption))
    (try simp only [List.append_assoc, List.cons_append, List.nil_append, List.append_nil, mkC_tv, mkCs_tv] at this); (try simp only [List.append_assoc, List.cons_append, List.nil_append, List.append_nil, mkC_tv, mkCs_tv]); exact this
  have e14_ : ∀ t, (ansSp Si).fn t [.agg (tvCs n8 x0)] (.cells 85 6 [.agg (fzCs x0)] :: (bkCs n3 x0 ++ (bkCs n8 x0 ++ ([.cells 91 6 [.agg (tvCs n8 x0)]]))) : List TB) = some (.p (.int .i64 v), (.cells 85 6 [.agg (fzCs x0)] :: (bkCs n3 x0 ++ (bkCs n8 x0 ++ ([.cells 91 6 [.agg (tvCs n8 x0)]]))) : List TB)) := fun t => call_val (by simp only [List.map_cons, List.map_nil, frz_p, frz_s, frz_agg, frz_fzC, frz_fzCs, f13]; try rfl) (wI)
  have g15_ := hold_get (A := (.cells 85 6 [.agg (fzCs x0)] :: (bkCs n3 x0 ++ (bkCs n8 x0)) : List TB)) (R := ([] : List TB)) (n := n10) (by first | (simp only [List.length_append, List.length_cons, List.length_nil, bkC_len, bkCs_len, mkC_nb, mkCs_nb]; done) | (simp only [List.length_append, List.length_cons, List.length_nil, bkC_len, bkCs_len, mkC_nb, mkCs_nb]; omega))
  try simp only [List.append_assoc, List.cons_append, List.nil_append, List.append_nil] at g15_
  have g16_ := hold_get (A := ([] : List TB)) (R := (bkCs n3 x0 ++ (bkCs n8 x0 ++ ([.cells 91 6 [.agg (tvCs n8 x0)]])) : List TB)) (n := n0) (by first | (simp only [List.length_append, List.length_cons, List.length_nil, bkC_len, bkCs_len, mkC_nb, mkCs_nb]; done) | (simp only [List.length_append, List.length_cons, List.length_nil, bkC_len, bkCs_len, mkC_nb, mkCs_nb]; omega))
  try simp only [List.append_assoc, List.cons_append, List.nil_append, List.append_nil] at g16_
  obtain ⟨n17, hn17⟩ := isLen_ex (.cells 85 6 [.agg (fzCs x0)] :: (bkCs n3 x0 ++ (bkCs n8 x0 ++ ([.cells 91 6 [.agg (tvCs n8 x0)]]))) : List TB)
  have ln17 := hn17.eq
  simp only [List.length_append, List.length_cons, List.length_nil, bkC_len, bkCs_len, mkC_nb, mkCs_nb] at ln17
  have e18_ : ∀ t, (ansSp (toR_S sh_Box)).fn t [.agg (fzCs x0)] (.cells 85 6 [.agg (fzCs x0)] :: (bkCs n3 x0 ++ (bkCs n8 x0 ++ ([.cells 91 6 [.agg (tvCs n8 x0)]]))) : List TB) = some (.agg (tvCs n17 x0), (.cells 85 6 [.agg (fzCs x0)] :: (bkCs n3 x0 ++ (bkCs n8 x0 ++ (.cells 91 6 [.agg (tvCs n8 x0)] :: (bkCs n17 x0)))) : List TB)) := fun t => by
    rw [call_new (by simp only [List.map_cons, List.map_nil, frz_p, frz_s, frz_agg, frz_fzC, frz_fzCs]; try rfl) (toR_at h0 y0) hn17.eq]; try simp only [List.append_assoc, List.cons_append, List.nil_append, List.append_nil]
  have Ln17 := bkCs_len n17 x0
  have f19 : frzT (.cells 85 6 [.agg (fzCs x0)] :: (bkCs n3 x0 ++ (bkCs n8 x0 ++ (.cells 91 6 [.agg (tvCs n8 x0)] :: (bkCs n17 x0)))) : List TB) 9 (.agg (tvCs n8 x0)) = .agg (fzCs x0) := by
    have := frz_in (A := (.cells 85 6 [.agg (fzCs x0)] :: (bkCs n3 x0) : List TB)) (B := (.cells 91 6 [.agg (tvCs n8 x0)] :: (bkCs n17 x0) : List TB)) (w := x0) (n := n8) (by first | (simp only [List.length_append, List.length_cons, List.length_nil, bkC_len, bkCs_len, mkC_nb, mkCs_nb]; done) | (simp only [List.length_append, List.length_cons, List.length_nil, bkC_len, bkCs_len, mkC_nb, mkCs_nb]; omega)) (by first | assumption | (rw [mkCs_dp]; assumption))
    (try simp only [List.append_assoc, List.cons_append, List.nil_append, List.append_nil, mkC_tv, mkCs_tv] at this); (try simp only [List.append_assoc, List.cons_append, List.nil_append, List.append_nil, mkC_tv, mkCs_tv]); exact this
  have f20 : frzT (.cells 85 6 [.agg (fzCs x0)] :: (bkCs n3 x0 ++ (bkCs n8 x0 ++ (.cells 91 6 [.agg (tvCs n8 x0)] :: (bkCs n17 x0)))) : List TB) 9 (.agg (tvCs n17 x0)) = .agg (fzCs x0) := by
    have := frz_in (A := (.cells 85 6 [.agg (fzCs x0)] :: (bkCs n3 x0 ++ (bkCs n8 x0 ++ ([.cells 91 6 [.agg (tvCs n8 x0)]]))) : List TB)) (B := ([] : List TB)) (w := x0) (n := n17) (by first | (simp only [List.length_append, List.length_cons, List.length_nil, bkC_len, bkCs_len, mkC_nb, mkCs_nb]; done) | (simp only [List.length_append, List.length_cons, List.length_nil, bkC_len, bkCs_len, mkC_nb, mkCs_nb]; omega)) (by first | assumption | (rw [mkCs_dp]; assumption))
    (try simp only [List.append_assoc, List.cons_append, List.nil_append, List.append_nil, mkC_tv, mkCs_tv] at this); (try simp only [List.append_assoc, List.cons_append, List.nil_append, List.append_nil, mkC_tv, mkCs_tv]); exact this
  have e21_ : ∀ t, (ansSp (eqR_S sh_Box)).fn t [.agg (tvCs n8 x0), .agg (tvCs n17 x0)] (.cells 85 6 [.agg (fzCs x0)] :: (bkCs n3 x0 ++ (bkCs n8 x0 ++ (.cells 91 6 [.agg (tvCs n8 x0)] :: (bkCs n17 x0)))) : List TB) = some (.p (.bool true), (.cells 85 6 [.agg (fzCs x0)] :: (bkCs n3 x0 ++ (bkCs n8 x0 ++ (.cells 91 6 [.agg (tvCs n8 x0)] :: (bkCs n17 x0)))) : List TB)) := fun t => call_val (by simp only [List.map_cons, List.map_nil, frz_p, frz_s, frz_agg, frz_fzC, frz_fzCs, f19, f20]; try rfl) (eqR_at (HasR.fit _ _ h0) (Nat.le_trans y0 (by decide)))
  (dsimp only [c9]; simp (maxSteps := 8000000) (implicitDefEqProofs := false) (disch := omega) only [↓reduceIte, go_sem, if_pos, if_neg, len0, fzCs_len, fzCs_one, tvCs_len, tvCs_one, e0, ↓hn0.eq, g1_, g2_, ↓hn3.eq, e4_, e6_, g7_, ↓hn8.eq, e9_, ↓hn10.eq, g11_, g11_s, g12_, e14_, g15_, g16_, ↓hn17.eq, e18_, e21_, not_true, decide_false, not_false_eq_true])
  exact endT_p (.inr rfl) (by (simp (maxSteps := 8000000) (implicitDefEqProofs := false) (disch := omega) only [↓reduceIte, go_sem, if_pos, if_neg]) <;> rfl) rfl
/-! FnExactPeerAddress -/
-- laws.FnExactPeerAddress
def c10 : AF := ⟨32,
  (.seq (.reg [⟨(some 2), none, .box 85 (.t 0)⟩,
   ⟨(some 4), none, .mv (.v (.bool false))⟩])
  (.seq (.reg [⟨(some 5), none, .mv (.v (.int .i64 1048576))⟩])
  (.seq (.reg [⟨(some 9), none, .ldn 6 (.t 2)⟩,
   ⟨(some 10), none, .mv (.t 5)⟩,
   ⟨(some 11), none, .call 51 [(.t 9), (.t 10)]⟩,
   ⟨(some 5), none, .mv (.t 11)⟩])
  (.seq (.seq (.reg [⟨(some 12), none, .mv (.t 5)⟩,
   ⟨(some 13), none, .bin .lss (.t 12) (.v (.int .i64 0))⟩])
  (.cond (.t 13) (.seq (.reg [⟨(some 4), none, .mv (.v (.bool true))⟩])
  .ret)
  .skip))
  (.seq (.reg [⟨(some 14), none, .ldn 6 (.t 2)⟩,
   ⟨(some 15), none, .call 53 [(.t 14)]⟩,
   ⟨(some 16), none, .mv (.t 1)⟩,
   ⟨(some 17), none, .call 56 [(.t 15), (.t 16)]⟩,
   ⟨(some 6), none, .alloc 96 [(.int .i64 0), (.int .i64 0)]⟩,
   ⟨none, none, .st 2 (.t 6) (.t 17)⟩])
  (.seq (.reg [⟨(some 18), none, .ldn 6 (.t 2)⟩,
   ⟨(some 19), none, .call 53 [(.t 18)]⟩,
   ⟨(some 7), none, .alloc 91 [(.int .i64 0), (.slice none 0 0), (.slice none 0 0), (.slice none 0 0), (.int .i64 0), (.slice none 0 0)]⟩,
   ⟨none, none, .st 6 (.t 7) (.t 19)⟩])
  (.seq (.reg [⟨(some 20), none, .ldn 6 (.t 7)⟩,
   ⟨(some 21), none, .mv (.t 1)⟩,
   ⟨(some 22), none, .call 57 [(.t 20), (.t 21)]⟩,
   ⟨(some 8), none, .alloc 96 [(.int .i64 0), (.int .i64 0)]⟩,
   ⟨none, none, .st 2 (.t 8) (.t 22)⟩])
  (.seq (.seq (.reg [⟨(some 23), none, .ldn 2 (.t 8)⟩,
   ⟨(some 24), none, .ldn 2 (.t 6)⟩,
   ⟨(some 25), none, .call 58 [(.t 23), (.t 24)]⟩,
   ⟨(some 26), none, .un .not (.t 25)⟩])
  (.cond (.t 26) (.seq (.reg [⟨(some 4), none, .mv (.v (.bool false))⟩])
  .ret)
  .skip))
  (.seq (.seq (.drw [⟨(some 27), none, .ldn 6 (.t 7)⟩,
   ⟨(some 28), none, .ldn 6 (.t 2)⟩,
   ⟨(some 29), none, .call 53 [(.t 28)]⟩] [⟨(some 30), none, .call 55 [(.t 27), (.t 29)]⟩,
   ⟨(some 31), none, .un .not (.t 30)⟩])
  (.cond (.t 31) (.seq (.reg [⟨(some 4), none, .mv (.v (.bool false))⟩])
  .ret)
  .skip))
  (.seq (.reg [⟨(some 4), none, .mv (.v (.bool true))⟩])
  .ret)))))))))),
  [.t 4]⟩
theorem k10 : cFn Try.prog Try.f10 = some c10 := by kernel_rfl
theorem law_PeerAddress {Ss Si : List TV → Option (TV × THeap)} (okS : OkT Try.prog 56 (pureSp Ss)) (okI : OkT Try.prog 57 (pureSp Si)) (H : ∀ (x0 : List Cell) (x1 : Int), HasR sh_Box x0 → szCs x0 ≤ 1048576 → ∃ w w', Ss [.agg (fzCs x0), .p (.int .i64 x1)] = some (.agg (tvCs 0 w), bkCs 0 w) ∧ Si [.agg (fzCs x0), .p (.int .i64 x1)] = some (.agg (tvCs 0 w'), bkCs 0 w') ∧ fzCs w = fzCs w' ∧ FitR sh_IntResult w ∧ FitR sh_IntResult w' ∧ szCs w ≤ 1073741824 ∧ szCs w' ≤ 1073741824) : OkT Try.prog 10 (pureSp (tvSp (fun a => ∃ (x0 : List Cell) (x1 : Int), a = [.agg (fzCs x0), .p (.int .i64 x1)] ∧ HasR sh_Box x0 ∧ lnCs x0 = true) (fun _ => (.p (.bool true), [])))) := by
  refine okT_tv (OkΓT.cons szBox_ok (OkΓT.cons (tsp := ansSp (toR_S sh_Box)) toBox_ok (OkΓT.cons (tsp := ansSp Ss) okS (OkΓT.cons (tsp := ansSp Si) okI (OkΓT.cons (tsp := ansSp (eqR_S sh_IntResult)) eqIntResult_ok (OkΓT.cons (tsp := ansSp (eqR_S sh_Box)) eqBox_ok (OkΓT.nil _))))))) Try.func10 (by kernel_rfl) k10 (fun x hx => ⟨rfl, rfl⟩) ?_
  rintro _ ⟨x0, x1, rfl, h0, z0⟩
  have len0 : x0.length = 6 := HasR.len h0
  have e0 := szR_at (k := 1048576) h0 (by omega) z0
  by_cases q0 : (szCs x0 : Int) ≤ 1048576
  case neg =>
    rw [if_neg q0] at e0
    (dsimp only [c10]; simp (maxSteps := 8000000) (implicitDefEqProofs := false) (disch := omega) only [↓reduceIte, go_sem, if_pos, if_neg, len0, fzCs_len, fzCs_one, e0])
    repeat' first
      | (refine gdKT_dec (fun hg => ?_) (fun hg => ?_) <;> (try (first | simp (maxSteps := 8000000) (implicitDefEqProofs := false) (disch := omega) only [↓reduceIte, go_sem, if_pos, if_neg, eq_false hg, len0, fzCs_len, fzCs_one, e0] | simp (maxSteps := 8000000) (implicitDefEqProofs := false) (disch := omega) only [↓reduceIte, go_sem, if_pos, if_neg, eq_true hg, len0, fzCs_len, fzCs_one, e0])))
      | (refine condKT_dec (fun hg => ?_) (fun hg => ?_) <;> (try (first | simp (maxSteps := 8000000) (implicitDefEqProofs := false) (disch := omega) only [↓reduceIte, go_sem, if_pos, if_neg, eq_false hg, len0, fzCs_len, fzCs_one, e0] | simp (maxSteps := 8000000) (implicitDefEqProofs := false) (disch := omega) only [↓reduceIte, go_sem, if_pos, if_neg, eq_true hg, len0, fzCs_len, fzCs_one, e0])))
      | (refine gdKT_split (fun hg => ?_) (fun hg => ?_) <;> (try simp (maxSteps := 8000000) (implicitDefEqProofs := false) (disch := omega) only [↓reduceIte, go_sem, if_pos, if_neg, hg, len0, fzCs_len, fzCs_one, e0]))
      | (refine condKT_split (fun hg => ?_) (fun hg => ?_) <;> (try simp (maxSteps := 8000000) (implicitDefEqProofs := false) (disch := omega) only [↓reduceIte, go_sem, if_pos, if_neg, hg, len0, fzCs_len, fzCs_one, e0]))
      | (refine endT_p (.inr rfl) (by simp (maxSteps := 8000000) (implicitDefEqProofs := false) (disch := omega) only [↓reduceIte, go_sem, if_pos, if_neg, len0, fzCs_len, fzCs_one, e0]; rfl) ?_; (first | exact vb_true (by omega) | exact vb_false (by omega) | exact vb_dec (by omega) | exact vi_eq (by omega) | rfl | (refine vi_eq ?_; simp_all; done) | (refine vi_eq ?_; simp_all; omega) | (refine vi_eq ?_; simp_all; intros; omega)))
      | exact endT_v (.inr rfl) (by simp (maxSteps := 8000000) (implicitDefEqProofs := false) (disch := omega) only [↓reduceIte, go_sem, if_pos, if_neg, len0, fzCs_len, fzCs_one, e0]; try rfl) (fun _ => rfl)
  rw [if_pos q0] at e0
  have y0 : szCs x0 ≤ 1048576 := by omega
  obtain ⟨w, w', wS, wI, wE, fS, fI, sS, sI⟩ := H x0 x1 h0 y0
  have lenS : w.length = 2 := FitR.len fS
  have lenI : w'.length = 2 := FitR.len fI
  have dS : dpCs w ≤ 9 := Nat.le_trans (FitR.dp _ _ fS) (of_decide_eq_true (by rfl))
  have dI : dpCs w' ≤ 9 := Nat.le_trans (FitR.dp _ _ fI) (of_decide_eq_true (by rfl))
  have mI : wtCs w' ≤ 64 * 1073741824 := FitR.w fI (of_decide_eq_true (by rfl)) sI
  have d0 : dpCs x0 ≤ 9 := Nat.le_trans (FitR.dp _ _ (HasR.fit _ _ h0)) (of_decide_eq_true (by rfl))
  have m0 : wtCs x0 ≤ 64 * 1048576 := FitR.w (HasR.fit _ _ h0) (of_decide_eq_true (by rfl)) y0
  obtain ⟨n0, hn0⟩ := isLen_ex ([] : List TB)
  have ln0 := hn0.eq
  simp only [List.length_append, List.length_cons, List.length_nil, bkC_len, bkCs_len, mkC_nb, mkCs_nb] at ln0
  have g1_ := hold_get (A := ([] : List TB)) (R := ([] : List TB)) (n := n0) (by first | (simp only [List.length_append, List.length_cons, List.length_nil, bkC_len, bkCs_len, mkC_nb, mkCs_nb]; done) | (simp only [List.length_append, List.length_cons, List.length_nil, bkC_len, bkCs_len, mkC_nb, mkCs_nb]; omega))
  try simp only [List.append_assoc, List.cons_append, List.nil_append, List.append_nil] at g1_
  have g2_ := hold_get (A := ([] : List TB)) (R := ([] : List TB)) (n := n0) (by first | (simp only [List.length_append, List.length_cons, List.length_nil, bkC_len, bkCs_len, mkC_nb, mkCs_nb]; done) | (simp only [List.length_append, List.length_cons, List.length_nil, bkC_len, bkCs_len, mkC_nb, mkCs_nb]; omega))
  try simp only [List.append_assoc, List.cons_append, List.nil_append, List.append_nil] at g2_
  obtain ⟨n3, hn3⟩ := isLen_ex ([.cells 85 6 [.agg (fzCs x0)]] : List TB)
  have ln3 := hn3.eq
  simp only [List.length_append, List.length_cons, List.length_nil, bkC_len, bkCs_len, mkC_nb, mkCs_nb] at ln3
  have e4_ : ∀ t, (ansSp (toR_S sh_Box)).fn t [.agg (fzCs x0)] ([.cells 85 6 [.agg (fzCs x0)]] : List TB) = some (.agg (tvCs n3 x0), (.cells 85 6 [.agg (fzCs x0)] :: (bkCs n3 x0) : List TB)) := fun t => by
    rw [call_new (by simp only [List.map_cons, List.map_nil, frz_p, frz_s, frz_agg, frz_fzC, frz_fzCs]; try rfl) (toR_at h0 y0) hn3.eq]; try simp only [List.append_assoc, List.cons_append, List.nil_append, List.append_nil]
  have Ln3 := bkCs_len n3 x0
  have f5 : frzT (.cells 85 6 [.agg (fzCs x0)] :: (bkCs n3 x0) : List TB) 9 (.agg (tvCs n3 x0)) = .agg (fzCs x0) := by
    have := frz_in (A := ([.cells 85 6 [.agg (fzCs x0)]] : List TB)) (B := ([] : List TB)) (w := x0) (n := n3) (by first | (simp only [List.length_append, List.length_cons, List.length_nil, bkC_len, bkCs_len, mkC_nb, mkCs_nb]; done) | (simp only [List.length_append, List.length_cons, List.length_nil, bkC_len, bkCs_len, mkC_nb, mkCs_nb]; omega)) (by first | assumption | (rw [mkCs_dp]; assumption))
    (try simp only [List.append_assoc, List.cons_append, List.nil_append, List.append_nil, mkC_tv, mkCs_tv] at this); (try simp only [List.append_assoc, List.cons_append, List.nil_append, List.append_nil, mkC_tv, mkCs_tv]); exact this
  obtain ⟨n6, hn6⟩ := isLen_ex (.cells 85 6 [.agg (fzCs x0)] :: (bkCs n3 x0) : List TB)
  have ln6 := hn6.eq
  simp only [List.length_append, List.length_cons, List.length_nil, bkC_len, bkCs_len, mkC_nb, mkCs_nb] at ln6
  have e7_ : ∀ t, (ansSp Ss).fn t [.agg (tvCs n3 x0), .p (.int .i64 x1)] (.cells 85 6 [.agg (fzCs x0)] :: (bkCs n3 x0) : List TB) = some (.agg (tvCs n6 w), (.cells 85 6 [.agg (fzCs x0)] :: (bkCs n3 x0 ++ (bkCs n6 w)) : List TB)) := fun t => by
    rw [call_new (by simp only [List.map_cons, List.map_nil, frz_p, frz_s, frz_agg, frz_fzC, frz_fzCs, f5]; try rfl) (wS) hn6.eq]; try simp only [List.append_assoc, List.cons_append, List.nil_append, List.append_nil]
  have Ln6 := bkCs_len n6 w
  obtain ⟨n8, hn8⟩ := isLen_ex (.cells 85 6 [.agg (fzCs x0)] :: (bkCs n3 x0 ++ (bkCs n6 w)) : List TB)
  have ln8 := hn8.eq
  simp only [List.length_append, List.length_cons, List.length_nil, bkC_len, bkCs_len, mkC_nb, mkCs_nb] at ln8
  have g9_ := hold_get (A := (.cells 85 6 [.agg (fzCs x0)] :: (bkCs n3 x0 ++ (bkCs n6 w)) : List TB)) (R := ([] : List TB)) (n := n8) (by first | (simp only [List.length_append, List.length_cons, List.length_nil, bkC_len, bkCs_len, mkC_nb, mkCs_nb]; done) | (simp only [List.length_append, List.length_cons, List.length_nil, bkC_len, bkCs_len, mkC_nb, mkCs_nb]; omega))
  try simp only [List.append_assoc, List.cons_append, List.nil_append, List.append_nil] at g9_
  have g9_s := hold_set (A := (.cells 85 6 [.agg (fzCs x0)] :: (bkCs n3 x0 ++ (bkCs n6 w)) : List TB)) (R := ([] : List TB)) (n := n8) (by first | (simp only [List.length_append, List.length_cons, List.length_nil, bkC_len, bkCs_len, mkC_nb, mkCs_nb]; done) | (simp only [List.length_append, List.length_cons, List.length_nil, bkC_len, bkCs_len, mkC_nb, mkCs_nb]; omega))
  try simp only [List.append_assoc, List.cons_append, List.nil_append, List.append_nil] at g9_s
  have g10_ := hold_get (A := ([] : List TB)) (R := (bkCs n3 x0 ++ (bkCs n6 w ++ ([.cells 96 2 [.agg (tvCs n6 w)]])) : List TB)) (n := n0) (by first | (simp only [List.length_append, List.length_cons, List.length_nil, bkC_len, bkCs_len, mkC_nb, mkCs_nb]; done) | (simp only [List.length_append, List.length_cons, List.length_nil, bkC_len, bkCs_len, mkC_nb, mkCs_nb]; omega))
  try simp only [List.append_assoc, List.cons_append, List.nil_append, List.append_nil] at g10_
  obtain ⟨n11, hn11⟩ := isLen_ex (.cells 85 6 [.agg (fzCs x0)] :: (bkCs n3 x0 ++ (bkCs n6 w ++ ([.cells 96 2 [.agg (tvCs n6 w)]]))) : List TB)
  have ln11 := hn11.eq
  simp only [List.length_append, List.length_cons, List.length_nil, bkC_len, bkCs_len, mkC_nb, mkCs_nb] at ln11
  have e12_ : ∀ t, (ansSp (toR_S sh_Box)).fn t [.agg (fzCs x0)] (.cells 85 6 [.agg (fzCs x0)] :: (bkCs n3 x0 ++ (bkCs n6 w ++ ([.cells 96 2 [.agg (tvCs n6 w)]]))) : List TB) = some (.agg (tvCs n11 x0), (.cells 85 6 [.agg (fzCs x0)] :: (bkCs n3 x0 ++ (bkCs n6 w ++ (.cells 96 2 [.agg (tvCs n6 w)] :: (bkCs n11 x0)))) : List TB)) := fun t => by
    rw [call_new (by simp only [List.map_cons, List.map_nil, frz_p, frz_s, frz_agg, frz_fzC, frz_fzCs]; try rfl) (toR_at h0 y0) hn11.eq]; try simp only [List.append_assoc, List.cons_append, List.nil_append, List.append_nil]
  have Ln11 := bkCs_len n11 x0
  obtain ⟨n13, hn13⟩ := isLen_ex (.cells 85 6 [.agg (fzCs x0)] :: (bkCs n3 x0 ++ (bkCs n6 w ++ (.cells 96 2 [.agg (tvCs n6 w)] :: (bkCs n11 x0)))) : List TB)
  have ln13 := hn13.eq
  simp only [List.length_append, List.length_cons, List.length_nil, bkC_len, bkCs_len, mkC_nb, mkCs_nb] at ln13
  have g14_ := hold_get (A := (.cells 85 6 [.agg (fzCs x0)] :: (bkCs n3 x0 ++ (bkCs n6 w ++ (.cells 96 2 [.agg (tvCs n6 w)] :: (bkCs n11 x0)))) : List TB)) (R := ([] : List TB)) (n := n13) (by first | (simp only [List.length_append, List.length_cons, List.length_nil, bkC_len, bkCs_len, mkC_nb, mkCs_nb]; done) | (simp only [List.length_append, List.length_cons, List.length_nil, bkC_len, bkCs_len, mkC_nb, mkCs_nb]; omega))
  try simp only [List.append_assoc, List.cons_append, List.nil_append, List.append_nil] at g14_
  have g14_s := hold_set (A := (.cells 85 6 [.agg (fzCs x0)] :: (bkCs n3 x0 ++ (bkCs n6 w ++ (.cells 96 2 [.agg (tvCs n6 w)] :: (bkCs n11 x0)))) : List TB)) (R := ([] : List TB)) (n := n13) (by first | (simp only [List.length_append, List.length_cons, List.length_nil, bkC_len, bkCs_len, mkC_nb, mkCs_nb]; done) | (simp only [List.length_append, List.length_cons, List.length_nil, bkC_len, bkCs_len, mkC_nb, mkCs_nb]; omega))
  try simp only [List.append_assoc, List.cons_append, List.nil_append, List.append_nil] at g14_s
  have g15_ := hold_get (A := (.cells 85 6 [.agg (fzCs x0)] :: (bkCs n3 x0 ++ (bkCs n6 w ++ (.cells 96 2 [.agg (tvCs n6 w)] :: (bkCs n11 x0)))) : List TB)) (R := ([] : List TB)) (n := n13) (by first | (simp only [List.length_append, List.length_cons, List.length_nil, bkC_len, bkCs_len, mkC_nb, mkCs_nb]; done) | (simp only [List.length_append, List.length_cons, List.length_nil, bkC_len, bkCs_len, mkC_nb, mkCs_nb]; omega))
  try simp only [List.append_assoc, List.cons_append, List.nil_append, List.append_nil] at g15_
  have f16 : frzT (.cells 85 6 [.agg (fzCs x0)] :: (bkCs n3 x0 ++ (bkCs n6 w ++ (.cells 96 2 [.agg (tvCs n6 w)] :: (bkCs n11 x0 ++ ([.cells 91 6 [.agg (tvCs n11 x0)]]))))) : List TB) 9 (.agg (tvCs n11 x0)) = .agg (fzCs x0) := by
    have := frz_in (A := (.cells 85 6 [.agg (fzCs x0)] :: (bkCs n3 x0 ++ (bkCs n6 w ++ ([.cells 96 2 [.agg (tvCs n6 w)]]))) : List TB)) (B := ([.cells 91 6 [.agg (tvCs n11 x0)]] : List TB)) (w := x0) (n := n11) (by first | (simp only [List.length_append, List.length_cons, List.length_nil, bkC_len, bkCs_len, mkC_nb, mkCs_nb]; done) | (simp only [List.length_append, List.length_cons, List.length_nil, bkC_len, bkCs_len, mkC_nb, mkCs_nb]; omega)) (by first | assumption | (rw [mkCs_dp]; assumption))
    (try simp only [List.append_assoc, List.cons_append, List.nil_append, List.append_nil, mkC_tv, mkCs_tv] at this); (try simp only [List.append_assoc, List.cons_append, List.nil_append, List.append_nil, mkC_tv, mkCs_tv]); exact this
  obtain ⟨n17, hn17⟩ := isLen_ex (.cells 85 6 [.agg (fzCs x0)] :: (bkCs n3 x0 ++ (bkCs n6 w ++ (.cells 96 2 [.agg (tvCs n6 w)] :: (bkCs n11 x0 ++ ([.cells 91 6 [.agg (tvCs n11 x0)]]))))) : List TB)
  have ln17 := hn17.eq
  simp only [List.length_append, List.length_cons, List.length_nil, bkC_len, bkCs_len, mkC_nb, mkCs_nb] at ln17
  have e18_ : ∀ t, (ansSp Si).fn t [.agg (tvCs n11 x0), .p (.int .i64 x1)] (.cells 85 6 [.agg (fzCs x0)] :: (bkCs n3 x0 ++ (bkCs n6 w ++ (.cells 96 2 [.agg (tvCs n6 w)] :: (bkCs n11 x0 ++ ([.cells 91 6 [.agg (tvCs n11 x0)]]))))) : List TB) = some (.agg (tvCs n17 w'), (.cells 85 6 [.agg (fzCs x0)] :: (bkCs n3 x0 ++ (bkCs n6 w ++ (.cells 96 2 [.agg (tvCs n6 w)] :: (bkCs n11 x0 ++ (.cells 91 6 [.agg (tvCs n11 x0)] :: (bkCs n17 w')))))) : List TB)) := fun t => by
    rw [call_new (by simp only [List.map_cons, List.map_nil, frz_p, frz_s, frz_agg, frz_fzC, frz_fzCs, f16]; try rfl) (wI) hn17.eq]; try simp only [List.append_assoc, List.cons_append, List.nil_append, List.append_nil]
  have Ln17 := bkCs_len n17 w'
  obtain ⟨n19, hn19⟩ := isLen_ex (.cells 85 6 [.agg (fzCs x0)] :: (bkCs n3 x0 ++ (bkCs n6 w ++ (.cells 96 2 [.agg (tvCs n6 w)] :: (bkCs n11 x0 ++ (.cells 91 6 [.agg (tvCs n11 x0)] :: (bkCs n17 w')))))) : List TB)
  have ln19 := hn19.eq
  simp only [List.length_append, List.length_cons, List.length_nil, bkC_len, bkCs_len, mkC_nb, mkCs_nb] at ln19
  have g20_ := hold_get (A := (.cells 85 6 [.agg (fzCs x0)] :: (bkCs n3 x0 ++ (bkCs n6 w ++ (.cells 96 2 [.agg (tvCs n6 w)] :: (bkCs n11 x0 ++ (.cells 91 6 [.agg (tvCs n11 x0)] :: (bkCs n17 w')))))) : List TB)) (R := ([] : List TB)) (n := n19) (by first | (simp only [List.length_append, List.length_cons, List.length_nil, bkC_len, bkCs_len, mkC_nb, mkCs_nb]; done) | (simp only [List.length_append, List.length_cons, List.length_nil, bkC_len, bkCs_len, mkC_nb, mkCs_nb]; omega))
  try simp only [List.append_assoc, List.cons_append, List.nil_append, List.append_nil] at g20_
  have g20_s := hold_set (A := (.cells 85 6 [.agg (fzCs x0)] :: (bkCs n3 x0 ++ (bkCs n6 w ++ (.cells 96 2 [.agg (tvCs n6 w)] :: (bkCs n11 x0 ++ (.cells 91 6 [.agg (tvCs n11 x0)] :: (bkCs n17 w')))))) : List TB)) (R := ([] : List TB)) (n := n19) (by first | (simp only [List.length_append, List.length_cons, List.length_nil, bkC_len, bkCs_len, mkC_nb, mkCs_nb]; done) | (simp only [List.length_append, List.length_cons, List.length_nil, bkC_len, bkCs_len, mkC_nb, mkCs_nb]; omega))
  try simp only [List.append_assoc, List.cons_append, List.nil_append, List.append_nil] at g20_s
  have g21_ := hold_get (A := (.cells 85 6 [.agg (fzCs x0)] :: (bkCs n3 x0 ++ (bkCs n6 w ++ (.cells 96 2 [.agg (tvCs n6 w)] :: (bkCs n11 x0 ++ (.cells 91 6 [.agg (tvCs n11 x0)] :: (bkCs n17 w')))))) : List TB)) (R := ([] : List TB)) (n := n19) (by first | (simp only [List.length_append, List.length_cons, List.length_nil, bkC_len, bkCs_len, mkC_nb, mkCs_nb]; done) | (simp only [List.length_append, List.length_cons, List.length_nil, bkC_len, bkCs_len, mkC_nb, mkCs_nb]; omega))
  try simp only [List.append_assoc, List.cons_append, List.nil_append, List.append_nil] at g21_
  have g22_ := hold_get (A := (.cells 85 6 [.agg (fzCs x0)] :: (bkCs n3 x0 ++ (bkCs n6 w)) : List TB)) (R := (bkCs n11 x0 ++ (.cells 91 6 [.agg (tvCs n11 x0)] :: (bkCs n17 w' ++ ([.cells 96 2 [.agg (tvCs n17 w')]]))) : List TB)) (n := n8) (by first | (simp only [List.length_append, List.length_cons, List.length_nil, bkC_len, bkCs_len, mkC_nb, mkCs_nb]; done) | (simp only [List.length_append, List.length_cons, List.length_nil, bkC_len, bkCs_len, mkC_nb, mkCs_nb]; omega))
  try simp only [List.append_assoc, List.cons_append, List.nil_append, List.append_nil] at g22_
  have f23 : frzT (.cells 85 6 [.agg (fzCs x0)] :: (bkCs n3 x0 ++ (bkCs n6 w ++ (.cells 96 2 [.agg (tvCs n6 w)] :: (bkCs n11 x0 ++ (.cells 91 6 [.agg (tvCs n11 x0)] :: (bkCs n17 w' ++ ([.cells 96 2 [.agg (tvCs n17 w')]]))))))) : List TB) 9 (.agg (tvCs n17 w')) = .agg (fzCs w') := by
    have := frz_in (A := (.cells 85 6 [.agg (fzCs x0)] :: (bkCs n3 x0 ++ (bkCs n6 w ++ (.cells 96 2 [.agg (tvCs n6 w)] :: (bkCs n11 x0 ++ ([.cells 91 6 [.agg (tvCs n11 x0)]]))))) : List TB)) (B := ([.cells 96 2 [.agg (tvCs n17 w')]] : List TB)) (w := w') (n := n17) (by first | (simp only [List.length_append, List.length_cons, List.length_nil, bkC_len, bkCs_len, mkC_nb, mkCs_nb]; done) | (simp only [List.length_append, List.length_cons, List.length_nil, bkC_len, bkCs_len, mkC_nb, mkCs_nb]; omega)) (by first | assumption | (rw [mkCs_dp]; assumption))
    (try simp only [List.append_assoc, List.cons_append, List.nil_append, List.append_nil, mkC_tv, mkCs_tv] at this); (try simp only [List.append_assoc, List.cons_append, List.nil_append, List.append_nil, mkC_tv, mkCs_tv]); exact this
  have f24 : frzT (.cells 85 6 [.agg (fzCs x0)] :: (bkCs n3 x0 ++ (bkCs n6 w ++ (.cells 96 2 [.agg (tvCs n6 w)] :: (bkCs n11 x0 ++ (.cells 91 6 [.agg (tvCs n11 x0)] :: (bkCs n17 w' ++ ([.cells 96 2 [.agg (tvCs n17 w')]]))))))) : List TB) 9 (.agg (tvCs n6 w)) = .agg (fzCs w) := by
    have := frz_in (A := (.cells 85 6 [.agg (fzCs x0)] :: (bkCs n3 x0) : List TB)) (B := (.cells 96 2 [.agg (tvCs n6 w)] :: (bkCs n11 x0 ++ (.cells 91 6 [.agg (tvCs n11 x0)] :: (bkCs n17 w' ++ ([.cells 96 2 [.agg (tvCs n17 w')]])))) : List TB)) (w := w) (n := n6) (by first | (simp only [List.length_append, List.length_cons, List.length_nil, bkC_len, bkCs_len, mkC_nb, mkCs_nb]; done) | (simp only [List.length_append, List.length_cons, List.length_nil, bkC_len, bkCs_len, mkC_nb, mkCs_nb]; omega)) (by first | assumption | (rw [mkCs_dp]; assumption))
    (try simp only [List.append_assoc, List.cons_append, List.nil_append, List.append_nil, mkC_tv, mkCs_tv] at this); (try simp only [List.append_assoc, List.cons_append, List.nil_append, List.append_nil, mkC_tv, mkCs_tv]); exact this
  have e25_ : ∀ t, (ansSp (eqR_S sh_IntResult)).fn t [.agg (tvCs n17 w'), .agg (tvCs n6 w)] (.cells 85 6 [.agg (fzCs x0)] :: (bkCs n3 x0 ++ (bkCs n6 w ++ (.cells 96 2 [.agg (tvCs n6 w)] :: (bkCs n11 x0 ++ (.cells 91 6 [.agg (tvCs n11 x0)] :: (bkCs n17 w' ++ ([.cells 96 2 [.agg (tvCs n17 w')]]))))))) : List TB) = some (.p (.bool true), (.cells 85 6 [.agg (fzCs x0)] :: (bkCs n3 x0 ++ (bkCs n6 w ++ (.cells 96 2 [.agg (tvCs n6 w)] :: (bkCs n11 x0 ++ (.cells 91 6 [.agg (tvCs n11 x0)] :: (bkCs n17 w' ++ ([.cells 96 2 [.agg (tvCs n17 w')]]))))))) : List TB)) := fun t => call_val (by simp only [List.map_cons, List.map_nil, frz_p, frz_s, frz_agg, frz_fzC, frz_fzCs, wE, f23, f24]; try rfl) (eqR_at fI (Nat.le_trans sI (by decide)))
  have g26_ := hold_get (A := (.cells 85 6 [.agg (fzCs x0)] :: (bkCs n3 x0 ++ (bkCs n6 w ++ (.cells 96 2 [.agg (tvCs n6 w)] :: (bkCs n11 x0)))) : List TB)) (R := (bkCs n17 w' ++ ([.cells 96 2 [.agg (tvCs n17 w')]]) : List TB)) (n := n13) (by first | (simp only [List.length_append, List.length_cons, List.length_nil, bkC_len, bkCs_len, mkC_nb, mkCs_nb]; done) | (simp only [List.length_append, List.length_cons, List.length_nil, bkC_len, bkCs_len, mkC_nb, mkCs_nb]; omega))
  try simp only [List.append_assoc, List.cons_append, List.nil_append, List.append_nil] at g26_
  have g27_ := hold_get (A := ([] : List TB)) (R := (bkCs n3 x0 ++ (bkCs n6 w ++ (.cells 96 2 [.agg (tvCs n6 w)] :: (bkCs n11 x0 ++ (.cells 91 6 [.agg (tvCs n11 x0)] :: (bkCs n17 w' ++ ([.cells 96 2 [.agg (tvCs n17 w')]])))))) : List TB)) (n := n0) (by first | (simp only [List.length_append, List.length_cons, List.length_nil, bkC_len, bkCs_len, mkC_nb, mkCs_nb]; done) | (simp only [List.length_append, List.length_cons, List.length_nil, bkC_len, bkCs_len, mkC_nb, mkCs_nb]; omega))
  try simp only [List.append_assoc, List.cons_append, List.nil_append, List.append_nil] at g27_
  obtain ⟨n28, hn28⟩ := isLen_ex (.cells 85 6 [.agg (fzCs x0)] :: (bkCs n3 x0 ++ (bkCs n6 w ++ (.cells 96 2 [.agg (tvCs n6 w)] :: (bkCs n11 x0 ++ (.cells 91 6 [.agg (tvCs n11 x0)] :: (bkCs n17 w' ++ ([.cells 96 2 [.agg (tvCs n17 w')]]))))))) : List TB)
  have ln28 := hn28.eq
  simp only [List.length_append, List.length_cons, List.length_nil, bkC_len, bkCs_len, mkC_nb, mkCs_nb] at ln28
  have e29_ : ∀ t, (ansSp (toR_S sh_Box)).fn t [.agg (fzCs x0)] (.cells 85 6 [.agg (fzCs x0)] :: (bkCs n3 x0 ++ (bkCs n6 w ++ (.cells 96 2 [.agg (tvCs n6 w)] :: (bkCs n11 x0 ++ (.cells 91 6 [.agg (tvCs n11 x0)] :: (bkCs n17 w' ++ ([.cells 96 2 [.agg (tvCs n17 w')]]))))))) : List TB) = some (.agg (tvCs n28 x0), (.cells 85 6 [.agg (fzCs x0)] :: (bkCs n3 x0 ++ (bkCs n6 w ++ (.cells 96 2 [.agg (tvCs n6 w)] :: (bkCs n11 x0 ++ (.cells 91 6 [.agg (tvCs n11 x0)] :: (bkCs n17 w' ++ (.cells 96 2 [.agg (tvCs n17 w')] :: (bkCs n28 x0)))))))) : List TB)) := fun t => by
    rw [call_new (by simp only [List.map_cons, List.map_nil, frz_p, frz_s, frz_agg, frz_fzC, frz_fzCs]; try rfl) (toR_at h0 y0) hn28.eq]; try simp only [List.append_assoc, List.cons_append, List.nil_append, List.append_nil]
  have Ln28 := bkCs_len n28 x0
  have f30 : frzT (.cells 85 6 [.agg (fzCs x0)] :: (bkCs n3 x0 ++ (bkCs n6 w ++ (.cells 96 2 [.agg (tvCs n6 w)] :: (bkCs n11 x0 ++ (.cells 91 6 [.agg (tvCs n11 x0)] :: (bkCs n17 w' ++ (.cells 96 2 [.agg (tvCs n17 w')] :: (bkCs n28 x0)))))))) : List TB) 9 (.agg (tvCs n11 x0)) = .agg (fzCs x0) := by
    have := frz_in (A := (.cells 85 6 [.agg (fzCs x0)] :: (bkCs n3 x0 ++ (bkCs n6 w ++ ([.cells 96 2 [.agg (tvCs n6 w)]]))) : List TB)) (B := (.cells 91 6 [.agg (tvCs n11 x0)] :: (bkCs n17 w' ++ (.cells 96 2 [.agg (tvCs n17 w')] :: (bkCs n28 x0))) : List TB)) (w := x0) (n := n11) (by first | (simp only [List.length_append, List.length_cons, List.length_nil, bkC_len, bkCs_len, mkC_nb, mkCs_nb]; done) | (simp only [List.length_append, List.length_cons, List.length_nil, bkC_len, bkCs_len, mkC_nb, mkCs_nb]; omega)) (by first | assumption | (rw [mkCs_dp]; assumption))
    (try simp only [List.append_assoc, List.cons_append, List.nil_append, List.append_nil, mkC_tv, mkCs_tv] at this); (try simp only [List.append_assoc, List.cons_append, List.nil_append, List.append_nil, mkC_tv, mkCs_tv]); exact this
  have f31 : frzT (.cells 85 6 [.agg (fzCs x0)] :: (bkCs n3 x0 ++ (bkCs n6 w ++ (.cells 96 2 [.agg (tvCs n6 w)] :: (bkCs n11 x0 ++ (.cells 91 6 [.agg (tvCs n11 x0)] :: (bkCs n17 w' ++ (.cells 96 2 [.agg (tvCs n17 w')] :: (bkCs n28 x0)))))))) : List TB) 9 (.agg (tvCs n28 x0)) = .agg (fzCs x0) := by
    have := frz_in (A := (.cells 85 6 [.agg (fzCs x0)] :: (bkCs n3 x0 ++ (bkCs n6 w ++ (.cells 96 2 [.agg (tvCs n6 w)] :: (bkCs n11 x0 ++ (.cells 91 6 [.agg (tvCs n11 x0)] :: (bkCs n17 w' ++ ([.cells 96 2 [.agg (tvCs n17 w')]]))))))) : List TB)) (B := ([] : List TB)) (w := x0) (n := n28) (by first | (simp only [List.length_append, List.length_cons, List.length_nil, bkC_len, bkCs_len, mkC_nb, mkCs_nb]; done) | (simp only [List.length_append, List.length_cons, List.length_nil, bkC_len, bkCs_len, mkC_nb, mkCs_nb]; omega)) (by first | assumption | (rw [mkCs_dp]; assumption))
    (try simp only [List.append_assoc, List.cons_append, List.nil_append, List.append_nil, mkC_tv, mkCs_tv] at this); (try simp only [List.append_assoc, List.cons_append, List.nil_append, List.append_nil, mkC_tv, mkCs_tv]); exact this
  have e32_ : ∀ t, (ansSp (eqR_S sh_Box)).fn t [.agg (tvCs n11 x0), .agg (tvCs n28 x0)] (.cells 85 6 [.agg (fzCs x0)] :: (bkCs n3 x0 ++ (bkCs n6 w ++ (.cells 96 2 [.agg (tvCs n6 w)] :: (bkCs n11 x0 ++ (.cells 91 6 [.agg (tvCs n11 x0)] :: (bkCs n17 w' ++ (.cells 96 2 [.agg (tvCs n17 w')] :: (bkCs n28 x0)))))))) : List TB) = some (.p (.bool true), (.cells 85 6 [.agg (fzCs x0)] :: (bkCs n3 x0 ++ (bkCs n6 w ++ (.cells 96 2 [.agg (tvCs n6 w)] :: (bkCs n11 x0 ++ (.cells 91 6 [.agg (tvCs n11 x0)] :: (bkCs n17 w' ++ (.cells 96 2 [.agg (tvCs n17 w')] :: (bkCs n28 x0)))))))) : List TB)) := fun t => call_val (by simp only [List.map_cons, List.map_nil, frz_p, frz_s, frz_agg, frz_fzC, frz_fzCs, f30, f31]; try rfl) (eqR_at (HasR.fit _ _ h0) (Nat.le_trans y0 (by decide)))
  (dsimp only [c10]; simp (maxSteps := 8000000) (implicitDefEqProofs := false) (disch := omega) only [↓reduceIte, go_sem, if_pos, if_neg, len0, fzCs_len, fzCs_one, lenS, lenI, tvCs_len, tvCs_one, e0, ↓hn0.eq, g1_, g2_, ↓hn3.eq, e4_, ↓hn6.eq, e7_, ↓hn8.eq, g9_, g9_s, g10_, ↓hn11.eq, e12_, ↓hn13.eq, g14_, g14_s, g15_, ↓hn17.eq, e18_, ↓hn19.eq, g20_, g20_s, g21_, g22_, e25_, g26_, g27_, ↓hn28.eq, e29_, e32_, not_true, decide_false, not_false_eq_true])
  exact endT_p (.inr rfl) (by (simp (maxSteps := 8000000) (implicitDefEqProofs := false) (disch := omega) only [↓reduceIte, go_sem, if_pos, if_neg]) <;> rfl) rfl
end Go.Proofs.Ytkijbknnbmbnbaa
