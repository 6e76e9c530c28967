import Derived.Test.YtghpdclhhnbgjaaGreatU9
set_option linter.unusedSimpArgs false
set_option linter.unusedVariables false
set_option maxRecDepth 100000
set_option maxHeartbeats 4000000
namespace Go.Proofs.YtghpdclhhnbgjaaGreat
open Go Go.AH
attribute [local irreducible] awpT ropsT qopsT stepT condKT gdKT EndT joinK loopKT seqKT blkKT kont kontR
/-! FnExactTickBox -/
-- laws.FnExactTickBox
def c3 : AF := ⟨74,
 (.seq (.reg [rO 2 (.box 27 (.t 0)),
 rO 4 (.mv (.v (.bool false)))])
 (.seq (.reg [rO 5 (.mv (.v (.int .i64 1048576)))])
 (.seq (.reg [rO 13 (.ldn 6 (.t 2)),
 rO 14 (.mv (.t 5)),
 rO 15 (.call 7 [(.t 13), (.t 14)]),
 rO 5 (.mv (.t 15))])
 (.seq (.seq (.reg [rO 16 (.mv (.t 5)),
 rO 17 (.bin .lss (.t 16) (.v (.int .i64 0)))])
 (.cond (.t 17) (.seq (.reg [rO 4 (.mv (.v (.bool true)))])
 .ret)
 .skip))
 (.seq (.reg [rO 18 (.ldn 6 (.t 2)),
 rO 19 (.call 9 [(.t 18)]),
 rO 20 (.mv (.t 1)),
 rO 21 (.call 8 [(.t 19), (.t 20)]),
 rO 6 (.alloc 36 [(.int .i64 0), (.int .i64 0), (.int .i64 0), (.slice none 0 0), (.int .i64 0), (.slice none 0 0), (.slice none 0 0), (.slice none 0 0), (.int .i64 0), (.slice none 0 0)]),
 ⟨none, none, .st 10 (.t 6) (.t 21)⟩])
 (.seq (.reg [rO 22 (.ldn 6 (.t 2)),
 rO 23 (.call 9 [(.t 22)]),
 rO 7 (.alloc 34 [(.int .i64 0), (.slice none 0 0), (.slice none 0 0), (.slice none 0 0), (.int .i64 0), (.slice none 0 0)]),
 ⟨none, none, .st 6 (.t 7) (.t 23)⟩])
 (.seq (.reg [rO 24 (.ldn 6 (.t 7)),
 rO 25 (.mv (.t 1)),
 rO 26 (.call 10 [(.t 24), (.t 25)]),
 rO 8 (.alloc 36 [(.int .i64 0), (.int .i64 0), (.int .i64 0), (.slice none 0 0), (.int .i64 0), (.slice none 0 0), (.slice none 0 0), (.slice none 0 0), (.int .i64 0), (.slice none 0 0)]),
 ⟨none, none, .st 10 (.t 8) (.t 26)⟩])
 (.seq (.seq (.reg [rO 27 (.ldn 10 (.t 8)),
 rO 28 (.ldn 10 (.t 6)),
 rO 29 (.call 11 [(.t 27), (.t 28)]),
 rO 30 (.un .not (.t 29))])
 (.cond (.t 30) (.seq (.reg [rO 4 (.mv (.v (.bool false)))])
 .ret)
 .skip))
 (.seq (.seq (.drw [rO 31 (.ldn 6 (.t 7)),
 rO 32 (.ldn 6 (.t 2)),
 rO 33 (.call 9 [(.t 32)])] [rO 34 (.call 12 [(.t 31), (.t 33)]),
 rO 35 (.un .not (.t 34))])
 (.cond (.t 35) (.seq (.reg [rO 4 (.mv (.v (.bool false)))])
 .ret)
 .skip))
 (.seq (.reg [rO 9 (.mv (.v (.int .i64 1)))])
 (.seq (.reg [rO 36 (.ldn 6 (.t 7)),
 rO 37 (.mv (.t 9)),
 rO 38 (.call 13 [(.t 36), (.t 37)]),
 rO 9 (.mv (.t 38))])
 (.seq (.seq (.reg [rO 39 (.mv (.t 9)),
 rO 40 (.bin .lss (.t 39) (.v (.int .i64 0))),
 rO 41 (.mv (.t 40)),
 ⟨(some 42), (some (41, false)), .ldn 10 (.t 8)⟩,
 ⟨(some 43), (some (41, false)), .ldn 10 (.t 6)⟩,
 ⟨(some 44), (some (41, false)), .call 11 [(.t 42), (.t 43)]⟩,
 ⟨(some 45), (some (41, false)), .un .not (.t 44)⟩,
 rO 46 (.pick (.t 41) (.v (.bool true)) (.t 45))])
 (.cond (.t 46) (.seq (.reg [rO 4 (.mv (.v (.bool false)))])
 .ret)
 .skip))
 (.seq (.reg [rO 10 (.mv (.v (.int .i64 1)))])
 (.seq (.reg [rO 47 (.ldn 10 (.t 8)),
 rO 48 (.mv (.t 10)),
 rO 49 (.call 14 [(.t 47), (.t 48)]),
 rO 10 (.mv (.t 49))])
 (.seq (.reg [rO 11 (.mv (.v (.int .i64 1)))])
 (.seq (.reg [rO 50 (.ldn 10 (.t 8)),
 rO 51 (.mv (.t 11)),
 rO 52 (.call 15 [(.t 50), (.t 51)]),
 rO 11 (.mv (.t 52))])
 (.seq (.seq (.reg [rO 53 (.mv (.t 11)),
 rO 54 (.bin .lss (.t 53) (.v (.int .i64 0)))])
 (.cond (.t 54) (.seq (.reg [rO 4 (.mv (.v (.bool false)))])
 .ret)
 .skip))
 (.seq (.seq (.reg [rO 55 (.mv (.t 11)),
 rO 56 (.mv (.t 10)),
 rO 57 (.bin .neq (.t 55) (.t 56))])
 (.cond (.t 57) (.seq (.reg [rO 4 (.mv (.v (.bool false)))])
 .ret)
 .skip))
 (.seq (.reg [rO 58 (.ldn 6 (.t 2)),
 rO 59 (.call 9 [(.t 58)]),
 rO 60 (.mv (.t 1)),
 rO 61 (.call 10 [(.t 59), (.t 60)]),
 rO 12 (.alloc 36 [(.int .i64 0), (.int .i64 0), (.int .i64 0), (.slice none 0 0), (.int .i64 0), (.slice none 0 0), (.slice none 0 0), (.slice none 0 0), (.int .i64 0), (.slice none 0 0)]),
 ⟨none, none, .st 10 (.t 12) (.t 61)⟩])
 (.seq (.seq (.reg [rO 62 (.ldn 10 (.t 12)),
 rO 63 (.ldn 10 (.t 6)),
 rO 64 (.call 11 [(.t 62), (.t 63)]),
 rO 65 (.un .not (.t 64))])
 (.cond (.t 65) (.seq (.reg [rO 4 (.mv (.v (.bool false)))])
 .ret)
 .skip))
 (.seq (.reg [rO 11 (.mv (.v (.int .i64 1)))])
 (.seq (.reg [rO 66 (.ldn 10 (.t 8)),
 rO 67 (.mv (.t 11)),
 rO 68 (.call 15 [(.t 66), (.t 67)]),
 rO 11 (.mv (.t 68))])
 (.seq (.seq (.reg [rO 69 (.mv (.t 11)),
 rO 70 (.bin .lss (.t 69) (.v (.int .i64 0)))])
 (.cond (.t 70) (.seq (.reg [rO 4 (.mv (.v (.bool false)))])
 .ret)
 .skip))
 (.seq (.seq (.reg [rO 71 (.mv (.t 11)),
 rO 72 (.mv (.t 10)),
 rO 73 (.bin .neq (.t 71) (.t 72))])
 (.cond (.t 73) (.seq (.reg [rO 4 (.mv (.v (.bool false)))])
 .ret)
 .skip))
 (.seq (.reg [rO 4 (.mv (.v (.bool true)))])
 .ret))))))))))))))))))))))))),
 [.t 4]⟩
theorem k3 : cFn Tryz.prog Tryz.f3 = some c3 := by kernel_rfl
theorem law_TickBox {Ss Si : List TV → Option (TV × THeap)} (okS : OkT Tryz.prog 8 (pureSp Ss)) (okI : OkT Tryz.prog 10 (pureSp Si)) (H : ∀ (x0 : List Cell) (x1 : Int), HasR sh_Box x0 → szCs x0 ≤ 1048576 → ∃ w w', Ss [.agg (fzCs x0), .p (.int .i64 x1)] = some (.agg (tvCs 0 w), bkCs 0 w) ∧ Si [.agg (fzCs x0), .p (.int .i64 x1)] = some (.agg (tvCs 0 w'), bkCs 0 w') ∧ fzCs w = fzCs w' ∧ FitR sh_BoxResult w ∧ FitR sh_BoxResult w' ∧ szCs w ≤ 1073741824 ∧ szCs w' ≤ 1073741824) : OkT Tryz.prog 3 (pureSp (tvSp (fun a => ∃ (x0 : List Cell) (x1 : Int), a = [.agg (fzCs x0), .p (.int .i64 x1)] ∧ HasR sh_Box x0 ∧ lnCs x0 = true) (fun _ => (.p (.bool true), [])))) := by
  refine okT_tv (OkΓT.cons szBox_ok (OkΓT.cons (tsp := ansSp (toR_S sh_Box)) toBox_ok (OkΓT.cons (tsp := ansSp Ss) okS (OkΓT.cons (tsp := ansSp Si) okI (OkΓT.cons (tsp := ansSp (eqR_S sh_BoxResult)) eqBoxResult_ok (OkΓT.cons (tsp := ansSp (eqR_S sh_Box)) eqBox_ok (OkΓT.cons markBox_ok (OkΓT.cons markBoxResult_ok (OkΓT.cons (tsp := ansSp (hdR_S sh_BoxResult)) heldBoxResult_ok (OkΓT.nil _)))))))))) Tryz.func3 (by kernel_rfl) k3 (fun x hx => ⟨rfl, rfl⟩) ?_
  rintro _ ⟨x0, x1, rfl, h0, z0⟩
  have len0 : x0.length = 6 := HasR.len h0
  have e0 := szR_at (k := 1048576) h0 (by omega) z0
  by_cases q0 : (szCs x0 : Int) ≤ 1048576
  case neg =>
    rw [if_neg q0] at e0
    (dsimp only [c3, rO]; simp (maxSteps := 8000000) -implicitDefEqProofs (disch := omega) only [↓reduceIte, go_sem, len0, fzCs_len, fzCs_one, e0])
    repeat' first
      | ((first | refine gdKT_deq (fun hg hG => ?_) (fun hg hG => ?_) | refine condKT_deq (fun hg hG => ?_) (fun hg hG => ?_)) <;> (try simp (maxSteps := 8000000) -implicitDefEqProofs (disch := omega) only [↓reduceIte, go_sem, hG, len0, fzCs_len, fzCs_one, e0]) <;> clear hG)
      | ((first | refine gdKT_split (fun hg => ?_) (fun hg => ?_) | refine condKT_split (fun hg => ?_) (fun hg => ?_)) <;> (try simp (maxSteps := 8000000) -implicitDefEqProofs (disch := omega) only [↓reduceIte, go_sem, hg, len0, fzCs_len, fzCs_one, e0]))
      | (refine endT_p (.inr rfl) (by simp (maxSteps := 8000000) -implicitDefEqProofs (disch := omega) only [↓reduceIte, go_sem, len0, fzCs_len, fzCs_one, e0]; rfl) ?_; (first | exact vb_true (by omega) | exact vb_false (by omega) | exact vb_dec (by omega) | exact vi_eq (by omega) | rfl | (refine vi_eq ?_; simp_all; first | done | (intros; omega))))
      | exact endT_v (.inr rfl) (by simp (maxSteps := 8000000) -implicitDefEqProofs (disch := omega) only [↓reduceIte, go_sem, len0, fzCs_len, fzCs_one, e0]; try rfl) (fun _ => rfl)
  rw [if_pos q0] at e0
  have y0 : szCs x0 ≤ 1048576 := by omega
  obtain ⟨w, w', wS, wI, wE, fS, fI, sS, sI⟩ := H x0 x1 h0 y0
  have lenS : w.length = 10 := FitR.len fS
  have lenI : w'.length = 10 := FitR.len fI
  have dS : dpCs w ≤ 9 := Nat.le_trans (FitR.dp _ _ fS) (of_decide_eq_true (by rfl))
  have dI : dpCs w' ≤ 9 := Nat.le_trans (FitR.dp _ _ fI) (of_decide_eq_true (by rfl))
  have mI : wtCs w' ≤ 64 * 1073741824 := FitR.w fI (of_decide_eq_true (by rfl)) sI
  have d0 : dpCs x0 ≤ 9 := Nat.le_trans (FitR.dp _ _ (HasR.fit _ _ h0)) (of_decide_eq_true (by rfl))
  have m0 : wtCs x0 ≤ 64 * 1048576 := FitR.w (HasR.fit _ _ h0) (of_decide_eq_true (by rfl)) y0
  obtain ⟨n0, hn0⟩ := isLen_ex ([] : List TB)
  have ln0 := hn0.eq
  simp only [List.length_append, List.length_cons, List.length_nil, bkC_len, bkCs_len, mkC_nb, mkCs_nb] at ln0
  have g1_ := hold_get (A := ([] : List TB)) (R := ([] : List TB)) (n := n0) (by first | (simp only [List.length_append, List.length_cons, List.length_nil, bkC_len, bkCs_len, mkC_nb, mkCs_nb]; done) | (simp only [List.length_append, List.length_cons, List.length_nil, bkC_len, bkCs_len, mkC_nb, mkCs_nb]; omega))
  try simp only [List.append_assoc, List.cons_append, List.nil_append, List.append_nil] at g1_
  have g2_ := hold_get (A := ([] : List TB)) (R := ([] : List TB)) (n := n0) (by first | (simp only [List.length_append, List.length_cons, List.length_nil, bkC_len, bkCs_len, mkC_nb, mkCs_nb]; done) | (simp only [List.length_append, List.length_cons, List.length_nil, bkC_len, bkCs_len, mkC_nb, mkCs_nb]; omega))
  try simp only [List.append_assoc, List.cons_append, List.nil_append, List.append_nil] at g2_
  obtain ⟨n3, hn3⟩ := isLen_ex ([.cells 27 6 [.agg (fzCs x0)]] : List TB)
  have ln3 := hn3.eq
  simp only [List.length_append, List.length_cons, List.length_nil, bkC_len, bkCs_len, mkC_nb, mkCs_nb] at ln3
  have e4_ : ∀ t, (ansSp (toR_S sh_Box)).fn t [.agg (fzCs x0)] ([.cells 27 6 [.agg (fzCs x0)]] : List TB) = some (.agg (tvCs n3 x0), (.cells 27 6 [.agg (fzCs x0)] :: (bkCs n3 x0) : List TB)) := fun t => by
    rw [call_new (by simp only [List.map_cons, List.map_nil, frz_p, frz_s, frz_agg, frz_fzC, frz_fzCs]; try rfl) (toR_at h0 y0) hn3.eq]; try simp only [List.append_assoc, List.cons_append, List.nil_append, List.append_nil]
  have Ln3 := bkCs_len n3 x0
  have f5 : frzT (.cells 27 6 [.agg (fzCs x0)] :: (bkCs n3 x0) : List TB) 9 (.agg (tvCs n3 x0)) = .agg (fzCs x0) := by
    have := frz_in (A := ([.cells 27 6 [.agg (fzCs x0)]] : List TB)) (B := ([] : List TB)) (w := x0) (n := n3) (by first | (simp only [List.length_append, List.length_cons, List.length_nil, bkC_len, bkCs_len, mkC_nb, mkCs_nb]; done) | (simp only [List.length_append, List.length_cons, List.length_nil, bkC_len, bkCs_len, mkC_nb, mkCs_nb]; omega)) (by first | assumption | (rw [mkCs_dp]; assumption))
    (try simp only [List.append_assoc, List.cons_append, List.nil_append, List.append_nil, mkC_tv, mkCs_tv] at this); (try simp only [List.append_assoc, List.cons_append, List.nil_append, List.append_nil, mkC_tv, mkCs_tv]); exact this
  obtain ⟨n6, hn6⟩ := isLen_ex (.cells 27 6 [.agg (fzCs x0)] :: (bkCs n3 x0) : List TB)
  have ln6 := hn6.eq
  simp only [List.length_append, List.length_cons, List.length_nil, bkC_len, bkCs_len, mkC_nb, mkCs_nb] at ln6
  have e7_ : ∀ t, (ansSp Ss).fn t [.agg (tvCs n3 x0), .p (.int .i64 x1)] (.cells 27 6 [.agg (fzCs x0)] :: (bkCs n3 x0) : List TB) = some (.agg (tvCs n6 w), (.cells 27 6 [.agg (fzCs x0)] :: (bkCs n3 x0 ++ (bkCs n6 w)) : List TB)) := fun t => by
    rw [call_new (by simp only [List.map_cons, List.map_nil, frz_p, frz_s, frz_agg, frz_fzC, frz_fzCs, f5]; try rfl) (wS) hn6.eq]; try simp only [List.append_assoc, List.cons_append, List.nil_append, List.append_nil]
  have Ln6 := bkCs_len n6 w
  obtain ⟨n8, hn8⟩ := isLen_ex (.cells 27 6 [.agg (fzCs x0)] :: (bkCs n3 x0 ++ (bkCs n6 w)) : List TB)
  have ln8 := hn8.eq
  simp only [List.length_append, List.length_cons, List.length_nil, bkC_len, bkCs_len, mkC_nb, mkCs_nb] at ln8
  have g9_ := hold_get (A := (.cells 27 6 [.agg (fzCs x0)] :: (bkCs n3 x0 ++ (bkCs n6 w)) : List TB)) (R := ([] : List TB)) (n := n8) (by first | (simp only [List.length_append, List.length_cons, List.length_nil, bkC_len, bkCs_len, mkC_nb, mkCs_nb]; done) | (simp only [List.length_append, List.length_cons, List.length_nil, bkC_len, bkCs_len, mkC_nb, mkCs_nb]; omega))
  try simp only [List.append_assoc, List.cons_append, List.nil_append, List.append_nil] at g9_
  have g9_s := hold_set (A := (.cells 27 6 [.agg (fzCs x0)] :: (bkCs n3 x0 ++ (bkCs n6 w)) : List TB)) (R := ([] : List TB)) (n := n8) (by first | (simp only [List.length_append, List.length_cons, List.length_nil, bkC_len, bkCs_len, mkC_nb, mkCs_nb]; done) | (simp only [List.length_append, List.length_cons, List.length_nil, bkC_len, bkCs_len, mkC_nb, mkCs_nb]; omega))
  try simp only [List.append_assoc, List.cons_append, List.nil_append, List.append_nil] at g9_s
  have g10_ := hold_get (A := ([] : List TB)) (R := (bkCs n3 x0 ++ (bkCs n6 w ++ ([.cells 36 10 [.agg (tvCs n6 w)]])) : List TB)) (n := n0) (by first | (simp only [List.length_append, List.length_cons, List.length_nil, bkC_len, bkCs_len, mkC_nb, mkCs_nb]; done) | (simp only [List.length_append, List.length_cons, List.length_nil, bkC_len, bkCs_len, mkC_nb, mkCs_nb]; omega))
  try simp only [List.append_assoc, List.cons_append, List.nil_append, List.append_nil] at g10_
  obtain ⟨n11, hn11⟩ := isLen_ex (.cells 27 6 [.agg (fzCs x0)] :: (bkCs n3 x0 ++ (bkCs n6 w ++ ([.cells 36 10 [.agg (tvCs n6 w)]]))) : List TB)
  have ln11 := hn11.eq
  simp only [List.length_append, List.length_cons, List.length_nil, bkC_len, bkCs_len, mkC_nb, mkCs_nb] at ln11
  have e12_ : ∀ t, (ansSp (toR_S sh_Box)).fn t [.agg (fzCs x0)] (.cells 27 6 [.agg (fzCs x0)] :: (bkCs n3 x0 ++ (bkCs n6 w ++ ([.cells 36 10 [.agg (tvCs n6 w)]]))) : List TB) = some (.agg (tvCs n11 x0), (.cells 27 6 [.agg (fzCs x0)] :: (bkCs n3 x0 ++ (bkCs n6 w ++ (.cells 36 10 [.agg (tvCs n6 w)] :: (bkCs n11 x0)))) : List TB)) := fun t => by
    rw [call_new (by simp only [List.map_cons, List.map_nil, frz_p, frz_s, frz_agg, frz_fzC, frz_fzCs]; try rfl) (toR_at h0 y0) hn11.eq]; try simp only [List.append_assoc, List.cons_append, List.nil_append, List.append_nil]
  have Ln11 := bkCs_len n11 x0
  obtain ⟨n13, hn13⟩ := isLen_ex (.cells 27 6 [.agg (fzCs x0)] :: (bkCs n3 x0 ++ (bkCs n6 w ++ (.cells 36 10 [.agg (tvCs n6 w)] :: (bkCs n11 x0)))) : List TB)
  have ln13 := hn13.eq
  simp only [List.length_append, List.length_cons, List.length_nil, bkC_len, bkCs_len, mkC_nb, mkCs_nb] at ln13
  have g14_ := hold_get (A := (.cells 27 6 [.agg (fzCs x0)] :: (bkCs n3 x0 ++ (bkCs n6 w ++ (.cells 36 10 [.agg (tvCs n6 w)] :: (bkCs n11 x0)))) : List TB)) (R := ([] : List TB)) (n := n13) (by first | (simp only [List.length_append, List.length_cons, List.length_nil, bkC_len, bkCs_len, mkC_nb, mkCs_nb]; done) | (simp only [List.length_append, List.length_cons, List.length_nil, bkC_len, bkCs_len, mkC_nb, mkCs_nb]; omega))
  try simp only [List.append_assoc, List.cons_append, List.nil_append, List.append_nil] at g14_
  have g14_s := hold_set (A := (.cells 27 6 [.agg (fzCs x0)] :: (bkCs n3 x0 ++ (bkCs n6 w ++ (.cells 36 10 [.agg (tvCs n6 w)] :: (bkCs n11 x0)))) : List TB)) (R := ([] : List TB)) (n := n13) (by first | (simp only [List.length_append, List.length_cons, List.length_nil, bkC_len, bkCs_len, mkC_nb, mkCs_nb]; done) | (simp only [List.length_append, List.length_cons, List.length_nil, bkC_len, bkCs_len, mkC_nb, mkCs_nb]; omega))
  try simp only [List.append_assoc, List.cons_append, List.nil_append, List.append_nil] at g14_s
  have g15_ := hold_get (A := (.cells 27 6 [.agg (fzCs x0)] :: (bkCs n3 x0 ++ (bkCs n6 w ++ (.cells 36 10 [.agg (tvCs n6 w)] :: (bkCs n11 x0)))) : List TB)) (R := ([] : List TB)) (n := n13) (by first | (simp only [List.length_append, List.length_cons, List.length_nil, bkC_len, bkCs_len, mkC_nb, mkCs_nb]; done) | (simp only [List.length_append, List.length_cons, List.length_nil, bkC_len, bkCs_len, mkC_nb, mkCs_nb]; omega))
  try simp only [List.append_assoc, List.cons_append, List.nil_append, List.append_nil] at g15_
  have f16 : frzT (.cells 27 6 [.agg (fzCs x0)] :: (bkCs n3 x0 ++ (bkCs n6 w ++ (.cells 36 10 [.agg (tvCs n6 w)] :: (bkCs n11 x0 ++ ([.cells 34 6 [.agg (tvCs n11 x0)]]))))) : List TB) 9 (.agg (tvCs n11 x0)) = .agg (fzCs x0) := by
    have := frz_in (A := (.cells 27 6 [.agg (fzCs x0)] :: (bkCs n3 x0 ++ (bkCs n6 w ++ ([.cells 36 10 [.agg (tvCs n6 w)]]))) : List TB)) (B := ([.cells 34 6 [.agg (tvCs n11 x0)]] : List TB)) (w := x0) (n := n11) (by first | (simp only [List.length_append, List.length_cons, List.length_nil, bkC_len, bkCs_len, mkC_nb, mkCs_nb]; done) | (simp only [List.length_append, List.length_cons, List.length_nil, bkC_len, bkCs_len, mkC_nb, mkCs_nb]; omega)) (by first | assumption | (rw [mkCs_dp]; assumption))
    (try simp only [List.append_assoc, List.cons_append, List.nil_append, List.append_nil, mkC_tv, mkCs_tv] at this); (try simp only [List.append_assoc, List.cons_append, List.nil_append, List.append_nil, mkC_tv, mkCs_tv]); exact this
  obtain ⟨n17, hn17⟩ := isLen_ex (.cells 27 6 [.agg (fzCs x0)] :: (bkCs n3 x0 ++ (bkCs n6 w ++ (.cells 36 10 [.agg (tvCs n6 w)] :: (bkCs n11 x0 ++ ([.cells 34 6 [.agg (tvCs n11 x0)]]))))) : List TB)
  have ln17 := hn17.eq
  simp only [List.length_append, List.length_cons, List.length_nil, bkC_len, bkCs_len, mkC_nb, mkCs_nb] at ln17
  have e18_ : ∀ t, (ansSp Si).fn t [.agg (tvCs n11 x0), .p (.int .i64 x1)] (.cells 27 6 [.agg (fzCs x0)] :: (bkCs n3 x0 ++ (bkCs n6 w ++ (.cells 36 10 [.agg (tvCs n6 w)] :: (bkCs n11 x0 ++ ([.cells 34 6 [.agg (tvCs n11 x0)]]))))) : List TB) = some (.agg (tvCs n17 w'), (.cells 27 6 [.agg (fzCs x0)] :: (bkCs n3 x0 ++ (bkCs n6 w ++ (.cells 36 10 [.agg (tvCs n6 w)] :: (bkCs n11 x0 ++ (.cells 34 6 [.agg (tvCs n11 x0)] :: (bkCs n17 w')))))) : List TB)) := fun t => by
    rw [call_new (by simp only [List.map_cons, List.map_nil, frz_p, frz_s, frz_agg, frz_fzC, frz_fzCs, f16]; try rfl) (wI) hn17.eq]; try simp only [List.append_assoc, List.cons_append, List.nil_append, List.append_nil]
  have Ln17 := bkCs_len n17 w'
  obtain ⟨n19, hn19⟩ := isLen_ex (.cells 27 6 [.agg (fzCs x0)] :: (bkCs n3 x0 ++ (bkCs n6 w ++ (.cells 36 10 [.agg (tvCs n6 w)] :: (bkCs n11 x0 ++ (.cells 34 6 [.agg (tvCs n11 x0)] :: (bkCs n17 w')))))) : List TB)
  have ln19 := hn19.eq
  simp only [List.length_append, List.length_cons, List.length_nil, bkC_len, bkCs_len, mkC_nb, mkCs_nb] at ln19
  have g20_ := hold_get (A := (.cells 27 6 [.agg (fzCs x0)] :: (bkCs n3 x0 ++ (bkCs n6 w ++ (.cells 36 10 [.agg (tvCs n6 w)] :: (bkCs n11 x0 ++ (.cells 34 6 [.agg (tvCs n11 x0)] :: (bkCs n17 w')))))) : List TB)) (R := ([] : List TB)) (n := n19) (by first | (simp only [List.length_append, List.length_cons, List.length_nil, bkC_len, bkCs_len, mkC_nb, mkCs_nb]; done) | (simp only [List.length_append, List.length_cons, List.length_nil, bkC_len, bkCs_len, mkC_nb, mkCs_nb]; omega))
  try simp only [List.append_assoc, List.cons_append, List.nil_append, List.append_nil] at g20_
  have g20_s := hold_set (A := (.cells 27 6 [.agg (fzCs x0)] :: (bkCs n3 x0 ++ (bkCs n6 w ++ (.cells 36 10 [.agg (tvCs n6 w)] :: (bkCs n11 x0 ++ (.cells 34 6 [.agg (tvCs n11 x0)] :: (bkCs n17 w')))))) : List TB)) (R := ([] : List TB)) (n := n19) (by first | (simp only [List.length_append, List.length_cons, List.length_nil, bkC_len, bkCs_len, mkC_nb, mkCs_nb]; done) | (simp only [List.length_append, List.length_cons, List.length_nil, bkC_len, bkCs_len, mkC_nb, mkCs_nb]; omega))
  try simp only [List.append_assoc, List.cons_append, List.nil_append, List.append_nil] at g20_s
  have g21_ := hold_get (A := (.cells 27 6 [.agg (fzCs x0)] :: (bkCs n3 x0 ++ (bkCs n6 w ++ (.cells 36 10 [.agg (tvCs n6 w)] :: (bkCs n11 x0 ++ (.cells 34 6 [.agg (tvCs n11 x0)] :: (bkCs n17 w')))))) : List TB)) (R := ([] : List TB)) (n := n19) (by first | (simp only [List.length_append, List.length_cons, List.length_nil, bkC_len, bkCs_len, mkC_nb, mkCs_nb]; done) | (simp only [List.length_append, List.length_cons, List.length_nil, bkC_len, bkCs_len, mkC_nb, mkCs_nb]; omega))
  try simp only [List.append_assoc, List.cons_append, List.nil_append, List.append_nil] at g21_
  have g22_ := hold_get (A := (.cells 27 6 [.agg (fzCs x0)] :: (bkCs n3 x0 ++ (bkCs n6 w)) : List TB)) (R := (bkCs n11 x0 ++ (.cells 34 6 [.agg (tvCs n11 x0)] :: (bkCs n17 w' ++ ([.cells 36 10 [.agg (tvCs n17 w')]]))) : List TB)) (n := n8) (by first | (simp only [List.length_append, List.length_cons, List.length_nil, bkC_len, bkCs_len, mkC_nb, mkCs_nb]; done) | (simp only [List.length_append, List.length_cons, List.length_nil, bkC_len, bkCs_len, mkC_nb, mkCs_nb]; omega))
  try simp only [List.append_assoc, List.cons_append, List.nil_append, List.append_nil] at g22_
  have f23 : frzT (.cells 27 6 [.agg (fzCs x0)] :: (bkCs n3 x0 ++ (bkCs n6 w ++ (.cells 36 10 [.agg (tvCs n6 w)] :: (bkCs n11 x0 ++ (.cells 34 6 [.agg (tvCs n11 x0)] :: (bkCs n17 w' ++ ([.cells 36 10 [.agg (tvCs n17 w')]]))))))) : List TB) 9 (.agg (tvCs n17 w')) = .agg (fzCs w') := by
    have := frz_in (A := (.cells 27 6 [.agg (fzCs x0)] :: (bkCs n3 x0 ++ (bkCs n6 w ++ (.cells 36 10 [.agg (tvCs n6 w)] :: (bkCs n11 x0 ++ ([.cells 34 6 [.agg (tvCs n11 x0)]]))))) : List TB)) (B := ([.cells 36 10 [.agg (tvCs n17 w')]] : List TB)) (w := w') (n := n17) (by first | (simp only [List.length_append, List.length_cons, List.length_nil, bkC_len, bkCs_len, mkC_nb, mkCs_nb]; done) | (simp only [List.length_append, List.length_cons, List.length_nil, bkC_len, bkCs_len, mkC_nb, mkCs_nb]; omega)) (by first | assumption | (rw [mkCs_dp]; assumption))
    (try simp only [List.append_assoc, List.cons_append, List.nil_append, List.append_nil, mkC_tv, mkCs_tv] at this); (try simp only [List.append_assoc, List.cons_append, List.nil_append, List.append_nil, mkC_tv, mkCs_tv]); exact this
  have f24 : frzT (.cells 27 6 [.agg (fzCs x0)] :: (bkCs n3 x0 ++ (bkCs n6 w ++ (.cells 36 10 [.agg (tvCs n6 w)] :: (bkCs n11 x0 ++ (.cells 34 6 [.agg (tvCs n11 x0)] :: (bkCs n17 w' ++ ([.cells 36 10 [.agg (tvCs n17 w')]]))))))) : List TB) 9 (.agg (tvCs n6 w)) = .agg (fzCs w) := by
    have := frz_in (A := (.cells 27 6 [.agg (fzCs x0)] :: (bkCs n3 x0) : List TB)) (B := (.cells 36 10 [.agg (tvCs n6 w)] :: (bkCs n11 x0 ++ (.cells 34 6 [.agg (tvCs n11 x0)] :: (bkCs n17 w' ++ ([.cells 36 10 [.agg (tvCs n17 w')]])))) : List TB)) (w := w) (n := n6) (by first | (simp only [List.length_append, List.length_cons, List.length_nil, bkC_len, bkCs_len, mkC_nb, mkCs_nb]; done) | (simp only [List.length_append, List.length_cons, List.length_nil, bkC_len, bkCs_len, mkC_nb, mkCs_nb]; omega)) (by first | assumption | (rw [mkCs_dp]; assumption))
    (try simp only [List.append_assoc, List.cons_append, List.nil_append, List.append_nil, mkC_tv, mkCs_tv] at this); (try simp only [List.append_assoc, List.cons_append, List.nil_append, List.append_nil, mkC_tv, mkCs_tv]); exact this
  have e25_ : ∀ t, (ansSp (eqR_S sh_BoxResult)).fn t [.agg (tvCs n17 w'), .agg (tvCs n6 w)] (.cells 27 6 [.agg (fzCs x0)] :: (bkCs n3 x0 ++ (bkCs n6 w ++ (.cells 36 10 [.agg (tvCs n6 w)] :: (bkCs n11 x0 ++ (.cells 34 6 [.agg (tvCs n11 x0)] :: (bkCs n17 w' ++ ([.cells 36 10 [.agg (tvCs n17 w')]]))))))) : List TB) = some (.p (.bool true), (.cells 27 6 [.agg (fzCs x0)] :: (bkCs n3 x0 ++ (bkCs n6 w ++ (.cells 36 10 [.agg (tvCs n6 w)] :: (bkCs n11 x0 ++ (.cells 34 6 [.agg (tvCs n11 x0)] :: (bkCs n17 w' ++ ([.cells 36 10 [.agg (tvCs n17 w')]]))))))) : List TB)) := fun t => call_val (by simp only [List.map_cons, List.map_nil, frz_p, frz_s, frz_agg, frz_fzC, frz_fzCs, wE, f23, f24]; try rfl) (eqR_at fI (Nat.le_trans sI (by decide)))
  have g26_ := hold_get (A := (.cells 27 6 [.agg (fzCs x0)] :: (bkCs n3 x0 ++ (bkCs n6 w ++ (.cells 36 10 [.agg (tvCs n6 w)] :: (bkCs n11 x0)))) : List TB)) (R := (bkCs n17 w' ++ ([.cells 36 10 [.agg (tvCs n17 w')]]) : List TB)) (n := n13) (by first | (simp only [List.length_append, List.length_cons, List.length_nil, bkC_len, bkCs_len, mkC_nb, mkCs_nb]; done) | (simp only [List.length_append, List.length_cons, List.length_nil, bkC_len, bkCs_len, mkC_nb, mkCs_nb]; omega))
  try simp only [List.append_assoc, List.cons_append, List.nil_append, List.append_nil] at g26_
  have g27_ := hold_get (A := ([] : List TB)) (R := (bkCs n3 x0 ++ (bkCs n6 w ++ (.cells 36 10 [.agg (tvCs n6 w)] :: (bkCs n11 x0 ++ (.cells 34 6 [.agg (tvCs n11 x0)] :: (bkCs n17 w' ++ ([.cells 36 10 [.agg (tvCs n17 w')]])))))) : List TB)) (n := n0) (by first | (simp only [List.length_append, List.length_cons, List.length_nil, bkC_len, bkCs_len, mkC_nb, mkCs_nb]; done) | (simp only [List.length_append, List.length_cons, List.length_nil, bkC_len, bkCs_len, mkC_nb, mkCs_nb]; omega))
  try simp only [List.append_assoc, List.cons_append, List.nil_append, List.append_nil] at g27_
  obtain ⟨n28, hn28⟩ := isLen_ex (.cells 27 6 [.agg (fzCs x0)] :: (bkCs n3 x0 ++ (bkCs n6 w ++ (.cells 36 10 [.agg (tvCs n6 w)] :: (bkCs n11 x0 ++ (.cells 34 6 [.agg (tvCs n11 x0)] :: (bkCs n17 w' ++ ([.cells 36 10 [.agg (tvCs n17 w')]]))))))) : List TB)
  have ln28 := hn28.eq
  simp only [List.length_append, List.length_cons, List.length_nil, bkC_len, bkCs_len, mkC_nb, mkCs_nb] at ln28
  have e29_ : ∀ t, (ansSp (toR_S sh_Box)).fn t [.agg (fzCs x0)] (.cells 27 6 [.agg (fzCs x0)] :: (bkCs n3 x0 ++ (bkCs n6 w ++ (.cells 36 10 [.agg (tvCs n6 w)] :: (bkCs n11 x0 ++ (.cells 34 6 [.agg (tvCs n11 x0)] :: (bkCs n17 w' ++ ([.cells 36 10 [.agg (tvCs n17 w')]]))))))) : List TB) = some (.agg (tvCs n28 x0), (.cells 27 6 [.agg (fzCs x0)] :: (bkCs n3 x0 ++ (bkCs n6 w ++ (.cells 36 10 [.agg (tvCs n6 w)] :: (bkCs n11 x0 ++ (.cells 34 6 [.agg (tvCs n11 x0)] :: (bkCs n17 w' ++ (.cells 36 10 [.agg (tvCs n17 w')] :: (bkCs n28 x0)))))))) : List TB)) := fun t => by
    rw [call_new (by simp only [List.map_cons, List.map_nil, frz_p, frz_s, frz_agg, frz_fzC, frz_fzCs]; try rfl) (toR_at h0 y0) hn28.eq]; try simp only [List.append_assoc, List.cons_append, List.nil_append, List.append_nil]
  have Ln28 := bkCs_len n28 x0
  have f30 : frzT (.cells 27 6 [.agg (fzCs x0)] :: (bkCs n3 x0 ++ (bkCs n6 w ++ (.cells 36 10 [.agg (tvCs n6 w)] :: (bkCs n11 x0 ++ (.cells 34 6 [.agg (tvCs n11 x0)] :: (bkCs n17 w' ++ (.cells 36 10 [.agg (tvCs n17 w')] :: (bkCs n28 x0)))))))) : List TB) 9 (.agg (tvCs n11 x0)) = .agg (fzCs x0) := by
    have := frz_in (A := (.cells 27 6 [.agg (fzCs x0)] :: (bkCs n3 x0 ++ (bkCs n6 w ++ ([.cells 36 10 [.agg (tvCs n6 w)]]))) : List TB)) (B := (.cells 34 6 [.agg (tvCs n11 x0)] :: (bkCs n17 w' ++ (.cells 36 10 [.agg (tvCs n17 w')] :: (bkCs n28 x0))) : List TB)) (w := x0) (n := n11) (by first | (simp only [List.length_append, List.length_cons, List.length_nil, bkC_len, bkCs_len, mkC_nb, mkCs_nb]; done) | (simp only [List.length_append, List.length_cons, List.length_nil, bkC_len, bkCs_len, mkC_nb, mkCs_nb]; omega)) (by first | assumption | (rw [mkCs_dp]; assumption))
    (try simp only [List.append_assoc, List.cons_append, List.nil_append, List.append_nil, mkC_tv, mkCs_tv] at this); (try simp only [List.append_assoc, List.cons_append, List.nil_append, List.append_nil, mkC_tv, mkCs_tv]); exact this
  have f31 : frzT (.cells 27 6 [.agg (fzCs x0)] :: (bkCs n3 x0 ++ (bkCs n6 w ++ (.cells 36 10 [.agg (tvCs n6 w)] :: (bkCs n11 x0 ++ (.cells 34 6 [.agg (tvCs n11 x0)] :: (bkCs n17 w' ++ (.cells 36 10 [.agg (tvCs n17 w')] :: (bkCs n28 x0)))))))) : List TB) 9 (.agg (tvCs n28 x0)) = .agg (fzCs x0) := by
    have := frz_in (A := (.cells 27 6 [.agg (fzCs x0)] :: (bkCs n3 x0 ++ (bkCs n6 w ++ (.cells 36 10 [.agg (tvCs n6 w)] :: (bkCs n11 x0 ++ (.cells 34 6 [.agg (tvCs n11 x0)] :: (bkCs n17 w' ++ ([.cells 36 10 [.agg (tvCs n17 w')]]))))))) : List TB)) (B := ([] : List TB)) (w := x0) (n := n28) (by first | (simp only [List.length_append, List.length_cons, List.length_nil, bkC_len, bkCs_len, mkC_nb, mkCs_nb]; done) | (simp only [List.length_append, List.length_cons, List.length_nil, bkC_len, bkCs_len, mkC_nb, mkCs_nb]; omega)) (by first | assumption | (rw [mkCs_dp]; assumption))
    (try simp only [List.append_assoc, List.cons_append, List.nil_append, List.append_nil, mkC_tv, mkCs_tv] at this); (try simp only [List.append_assoc, List.cons_append, List.nil_append, List.append_nil, mkC_tv, mkCs_tv]); exact this
  have e32_ : ∀ t, (ansSp (eqR_S sh_Box)).fn t [.agg (tvCs n11 x0), .agg (tvCs n28 x0)] (.cells 27 6 [.agg (fzCs x0)] :: (bkCs n3 x0 ++ (bkCs n6 w ++ (.cells 36 10 [.agg (tvCs n6 w)] :: (bkCs n11 x0 ++ (.cells 34 6 [.agg (tvCs n11 x0)] :: (bkCs n17 w' ++ (.cells 36 10 [.agg (tvCs n17 w')] :: (bkCs n28 x0)))))))) : List TB) = some (.p (.bool true), (.cells 27 6 [.agg (fzCs x0)] :: (bkCs n3 x0 ++ (bkCs n6 w ++ (.cells 36 10 [.agg (tvCs n6 w)] :: (bkCs n11 x0 ++ (.cells 34 6 [.agg (tvCs n11 x0)] :: (bkCs n17 w' ++ (.cells 36 10 [.agg (tvCs n17 w')] :: (bkCs n28 x0)))))))) : List TB)) := fun t => call_val (by simp only [List.map_cons, List.map_nil, frz_p, frz_s, frz_agg, frz_fzC, frz_fzCs, f30, f31]; try rfl) (eqR_at (HasR.fit _ _ h0) (Nat.le_trans y0 (by decide)))
  have g33_ := hold_get (A := (.cells 27 6 [.agg (fzCs x0)] :: (bkCs n3 x0 ++ (bkCs n6 w ++ (.cells 36 10 [.agg (tvCs n6 w)] :: (bkCs n11 x0)))) : List TB)) (R := (bkCs n17 w' ++ (.cells 36 10 [.agg (tvCs n17 w')] :: (bkCs n28 x0)) : List TB)) (n := n13) (by first | (simp only [List.length_append, List.length_cons, List.length_nil, bkC_len, bkCs_len, mkC_nb, mkCs_nb]; done) | (simp only [List.length_append, List.length_cons, List.length_nil, bkC_len, bkCs_len, mkC_nb, mkCs_nb]; omega))
  try simp only [List.append_assoc, List.cons_append, List.nil_append, List.append_nil] at g33_
  (dsimp only [c3, rO]; simp (maxSteps := 8000000) -implicitDefEqProofs (disch := omega) only [↓reduceIte, go_sem, len0, fzCs_len, fzCs_one, lenS, lenI, tvCs_len, tvCs_one, e0, ↓hn0.eq, g1_, g2_, ↓hn3.eq, e4_, ↓hn6.eq, e7_, ↓hn8.eq, g9_, g9_s, g10_, ↓hn11.eq, e12_, ↓hn13.eq, g14_, g14_s, g15_, ↓hn17.eq, e18_, ↓hn19.eq, g20_, g20_s, g21_, g22_, e25_, g26_, g27_, ↓hn28.eq, e29_, e32_, g33_])
  have k34_ := mkR_seg (A := (.cells 27 6 [.agg (fzCs x0)] :: (bkCs n3 x0 ++ (bkCs n6 w ++ ([.cells 36 10 [.agg (tvCs n6 w)]]))) : List TB)) (B := (.cells 34 6 [.agg (tvCs n11 x0)] :: (bkCs n17 w' ++ (.cells 36 10 [.agg (tvCs n17 w')] :: (bkCs n28 x0))) : List TB)) (n := n11) (c := x0) (k := 1) (by simp only [List.length_append, List.length_cons, List.length_nil, bkC_len, bkCs_len, mkC_nb, mkCs_nb]; omega) (HasR.fit _ _ h0) (by omega) (by omega)
  simp only [List.append_assoc, List.cons_append, List.nil_append, List.append_nil] at k34_
  have Ln11_35 := bkCs_len n11 (mkCs x0 (1)); rw [mkCs_nb] at Ln11_35
  refine mutQ_call (by simp (maxSteps := 8000000) -implicitDefEqProofs (disch := omega) only [↓reduceIte, go_sem]; rfl) (by simp (maxSteps := 8000000) -implicitDefEqProofs (disch := omega) only [↓reduceIte, go_sem]) k34_ ?_
  have g35_ := hold_get (A := (.cells 27 6 [.agg (fzCs x0)] :: (bkCs n3 x0 ++ (bkCs n6 w ++ (.cells 36 10 [.agg (tvCs n6 w)] :: (bkCs n11 (mkCs x0 (1)) ++ (.cells 34 6 [.agg (tvCs n11 x0)] :: (bkCs n17 w')))))) : List TB)) (R := (bkCs n28 x0 : List TB)) (n := n19) (by first | (simp only [List.length_append, List.length_cons, List.length_nil, bkC_len, bkCs_len, mkC_nb, mkCs_nb]; done) | (simp only [List.length_append, List.length_cons, List.length_nil, bkC_len, bkCs_len, mkC_nb, mkCs_nb]; omega))
  try simp only [List.append_assoc, List.cons_append, List.nil_append, List.append_nil] at g35_
  have g36_ := hold_get (A := (.cells 27 6 [.agg (fzCs x0)] :: (bkCs n3 x0 ++ (bkCs n6 w)) : List TB)) (R := (bkCs n11 (mkCs x0 (1)) ++ (.cells 34 6 [.agg (tvCs n11 x0)] :: (bkCs n17 w' ++ (.cells 36 10 [.agg (tvCs n17 w')] :: (bkCs n28 x0)))) : List TB)) (n := n8) (by first | (simp only [List.length_append, List.length_cons, List.length_nil, bkC_len, bkCs_len, mkC_nb, mkCs_nb]; done) | (simp only [List.length_append, List.length_cons, List.length_nil, bkC_len, bkCs_len, mkC_nb, mkCs_nb]; omega))
  try simp only [List.append_assoc, List.cons_append, List.nil_append, List.append_nil] at g36_
  have f37 : frzT (.cells 27 6 [.agg (fzCs x0)] :: (bkCs n3 x0 ++ (bkCs n6 w ++ (.cells 36 10 [.agg (tvCs n6 w)] :: (bkCs n11 (mkCs x0 (1)) ++ (.cells 34 6 [.agg (tvCs n11 x0)] :: (bkCs n17 w' ++ (.cells 36 10 [.agg (tvCs n17 w')] :: (bkCs n28 x0)))))))) : List TB) 9 (.agg (tvCs n17 w')) = .agg (fzCs w') := by
    have := frz_in (A := (.cells 27 6 [.agg (fzCs x0)] :: (bkCs n3 x0 ++ (bkCs n6 w ++ (.cells 36 10 [.agg (tvCs n6 w)] :: (bkCs n11 (mkCs x0 (1)) ++ ([.cells 34 6 [.agg (tvCs n11 x0)]]))))) : List TB)) (B := (.cells 36 10 [.agg (tvCs n17 w')] :: (bkCs n28 x0) : List TB)) (w := w') (n := n17) (by first | (simp only [List.length_append, List.length_cons, List.length_nil, bkC_len, bkCs_len, mkC_nb, mkCs_nb]; done) | (simp only [List.length_append, List.length_cons, List.length_nil, bkC_len, bkCs_len, mkC_nb, mkCs_nb]; omega)) (by first | assumption | (rw [mkCs_dp]; assumption))
    (try simp only [List.append_assoc, List.cons_append, List.nil_append, List.append_nil, mkC_tv, mkCs_tv] at this); (try simp only [List.append_assoc, List.cons_append, List.nil_append, List.append_nil, mkC_tv, mkCs_tv]); exact this
  have f38 : frzT (.cells 27 6 [.agg (fzCs x0)] :: (bkCs n3 x0 ++ (bkCs n6 w ++ (.cells 36 10 [.agg (tvCs n6 w)] :: (bkCs n11 (mkCs x0 (1)) ++ (.cells 34 6 [.agg (tvCs n11 x0)] :: (bkCs n17 w' ++ (.cells 36 10 [.agg (tvCs n17 w')] :: (bkCs n28 x0)))))))) : List TB) 9 (.agg (tvCs n6 w)) = .agg (fzCs w) := by
    have := frz_in (A := (.cells 27 6 [.agg (fzCs x0)] :: (bkCs n3 x0) : List TB)) (B := (.cells 36 10 [.agg (tvCs n6 w)] :: (bkCs n11 (mkCs x0 (1)) ++ (.cells 34 6 [.agg (tvCs n11 x0)] :: (bkCs n17 w' ++ (.cells 36 10 [.agg (tvCs n17 w')] :: (bkCs n28 x0))))) : List TB)) (w := w) (n := n6) (by first | (simp only [List.length_append, List.length_cons, List.length_nil, bkC_len, bkCs_len, mkC_nb, mkCs_nb]; done) | (simp only [List.length_append, List.length_cons, List.length_nil, bkC_len, bkCs_len, mkC_nb, mkCs_nb]; omega)) (by first | assumption | (rw [mkCs_dp]; assumption))
    (try simp only [List.append_assoc, List.cons_append, List.nil_append, List.append_nil, mkC_tv, mkCs_tv] at this); (try simp only [List.append_assoc, List.cons_append, List.nil_append, List.append_nil, mkC_tv, mkCs_tv]); exact this
  have e39_ : ∀ t, (ansSp (eqR_S sh_BoxResult)).fn t [.agg (tvCs n17 w'), .agg (tvCs n6 w)] (.cells 27 6 [.agg (fzCs x0)] :: (bkCs n3 x0 ++ (bkCs n6 w ++ (.cells 36 10 [.agg (tvCs n6 w)] :: (bkCs n11 (mkCs x0 (1)) ++ (.cells 34 6 [.agg (tvCs n11 x0)] :: (bkCs n17 w' ++ (.cells 36 10 [.agg (tvCs n17 w')] :: (bkCs n28 x0)))))))) : List TB) = some (.p (.bool true), (.cells 27 6 [.agg (fzCs x0)] :: (bkCs n3 x0 ++ (bkCs n6 w ++ (.cells 36 10 [.agg (tvCs n6 w)] :: (bkCs n11 (mkCs x0 (1)) ++ (.cells 34 6 [.agg (tvCs n11 x0)] :: (bkCs n17 w' ++ (.cells 36 10 [.agg (tvCs n17 w')] :: (bkCs n28 x0)))))))) : List TB)) := fun t => call_val (by simp only [List.map_cons, List.map_nil, frz_p, frz_s, frz_agg, frz_fzC, frz_fzCs, wE, f37, f38]; try rfl) (eqR_at fI (Nat.le_trans sI (by decide)))
  have g40_ := hold_get (A := (.cells 27 6 [.agg (fzCs x0)] :: (bkCs n3 x0 ++ (bkCs n6 w ++ (.cells 36 10 [.agg (tvCs n6 w)] :: (bkCs n11 (mkCs x0 (1)) ++ (.cells 34 6 [.agg (tvCs n11 x0)] :: (bkCs n17 w')))))) : List TB)) (R := (bkCs n28 x0 : List TB)) (n := n19) (by first | (simp only [List.length_append, List.length_cons, List.length_nil, bkC_len, bkCs_len, mkC_nb, mkCs_nb]; done) | (simp only [List.length_append, List.length_cons, List.length_nil, bkC_len, bkCs_len, mkC_nb, mkCs_nb]; omega))
  try simp only [List.append_assoc, List.cons_append, List.nil_append, List.append_nil] at g40_
  simp (maxSteps := 8000000) -implicitDefEqProofs (disch := omega) only [↓reduceIte, go_sem, len0, fzCs_len, fzCs_one, lenS, lenI, tvCs_len, tvCs_one, eq_false (show ¬ (1 + (wtCs x0 : Int) < 0) by omega), g35_, g36_, e39_, g40_]
  have k41_ := mkR_seg (A := (.cells 27 6 [.agg (fzCs x0)] :: (bkCs n3 x0 ++ (bkCs n6 w ++ (.cells 36 10 [.agg (tvCs n6 w)] :: (bkCs n11 (mkCs x0 (1)) ++ ([.cells 34 6 [.agg (tvCs n11 x0)]]))))) : List TB)) (B := (.cells 36 10 [.agg (tvCs n17 w')] :: (bkCs n28 x0) : List TB)) (n := n17) (c := w') (k := 1) (by simp only [List.length_append, List.length_cons, List.length_nil, bkC_len, bkCs_len, mkC_nb, mkCs_nb]; omega) fI (by omega) (by omega)
  simp only [List.append_assoc, List.cons_append, List.nil_append, List.append_nil] at k41_
  have Ln17_42 := bkCs_len n17 (mkCs w' (1)); rw [mkCs_nb] at Ln17_42
  refine mutQ_call (by simp (maxSteps := 8000000) -implicitDefEqProofs (disch := omega) only [↓reduceIte, go_sem]; rfl) (by simp (maxSteps := 8000000) -implicitDefEqProofs (disch := omega) only [↓reduceIte, go_sem]) k41_ ?_
  have g42_ := hold_get (A := (.cells 27 6 [.agg (fzCs x0)] :: (bkCs n3 x0 ++ (bkCs n6 w ++ (.cells 36 10 [.agg (tvCs n6 w)] :: (bkCs n11 (mkCs x0 (1)) ++ (.cells 34 6 [.agg (tvCs n11 x0)] :: (bkCs n17 (mkCs w' (1)))))))) : List TB)) (R := (bkCs n28 x0 : List TB)) (n := n19) (by first | (simp only [List.length_append, List.length_cons, List.length_nil, bkC_len, bkCs_len, mkC_nb, mkCs_nb]; done) | (simp only [List.length_append, List.length_cons, List.length_nil, bkC_len, bkCs_len, mkC_nb, mkCs_nb]; omega))
  try simp only [List.append_assoc, List.cons_append, List.nil_append, List.append_nil] at g42_
  have f43 : frzT (.cells 27 6 [.agg (fzCs x0)] :: (bkCs n3 x0 ++ (bkCs n6 w ++ (.cells 36 10 [.agg (tvCs n6 w)] :: (bkCs n11 (mkCs x0 (1)) ++ (.cells 34 6 [.agg (tvCs n11 x0)] :: (bkCs n17 (mkCs w' (1)) ++ (.cells 36 10 [.agg (tvCs n17 w')] :: (bkCs n28 x0)))))))) : List TB) 9 (.agg (tvCs n17 w')) = .agg (fzCs (mkCs w' (1))) := by
    have := frz_in (A := (.cells 27 6 [.agg (fzCs x0)] :: (bkCs n3 x0 ++ (bkCs n6 w ++ (.cells 36 10 [.agg (tvCs n6 w)] :: (bkCs n11 (mkCs x0 (1)) ++ ([.cells 34 6 [.agg (tvCs n11 x0)]]))))) : List TB)) (B := (.cells 36 10 [.agg (tvCs n17 w')] :: (bkCs n28 x0) : List TB)) (w := (mkCs w' (1))) (n := n17) (by first | (simp only [List.length_append, List.length_cons, List.length_nil, bkC_len, bkCs_len, mkC_nb, mkCs_nb]; done) | (simp only [List.length_append, List.length_cons, List.length_nil, bkC_len, bkCs_len, mkC_nb, mkCs_nb]; omega)) (by first | assumption | (rw [mkCs_dp]; assumption))
    (try simp only [List.append_assoc, List.cons_append, List.nil_append, List.append_nil, mkC_tv, mkCs_tv] at this); (try simp only [List.append_assoc, List.cons_append, List.nil_append, List.append_nil, mkC_tv, mkCs_tv]); exact this
  have e44_ : ∀ t, (ansSp (hdR_S sh_BoxResult)).fn t [.agg (tvCs n17 w'), .p (.int .i64 1)] (.cells 27 6 [.agg (fzCs x0)] :: (bkCs n3 x0 ++ (bkCs n6 w ++ (.cells 36 10 [.agg (tvCs n6 w)] :: (bkCs n11 (mkCs x0 (1)) ++ (.cells 34 6 [.agg (tvCs n11 x0)] :: (bkCs n17 (mkCs w' (1)) ++ (.cells 36 10 [.agg (tvCs n17 w')] :: (bkCs n28 x0)))))))) : List TB) = some (.p (.int .i64 (1 + (wtCs w' : Int))), (.cells 27 6 [.agg (fzCs x0)] :: (bkCs n3 x0 ++ (bkCs n6 w ++ (.cells 36 10 [.agg (tvCs n6 w)] :: (bkCs n11 (mkCs x0 (1)) ++ (.cells 34 6 [.agg (tvCs n11 x0)] :: (bkCs n17 (mkCs w' (1)) ++ (.cells 36 10 [.agg (tvCs n17 w')] :: (bkCs n28 x0)))))))) : List TB)) := fun t => call_val (by simp only [List.map_cons, List.map_nil, frz_p, frz_s, frz_agg, frz_fzC, frz_fzCs, f43]; try rfl) (hdR_at (k := 1) fI (by omega) (by omega))
  have g45_ := hold_get (A := ([] : List TB)) (R := (bkCs n3 x0 ++ (bkCs n6 w ++ (.cells 36 10 [.agg (tvCs n6 w)] :: (bkCs n11 (mkCs x0 (1)) ++ (.cells 34 6 [.agg (tvCs n11 x0)] :: (bkCs n17 (mkCs w' (1)) ++ (.cells 36 10 [.agg (tvCs n17 w')] :: (bkCs n28 x0))))))) : List TB)) (n := n0) (by first | (simp only [List.length_append, List.length_cons, List.length_nil, bkC_len, bkCs_len, mkC_nb, mkCs_nb]; done) | (simp only [List.length_append, List.length_cons, List.length_nil, bkC_len, bkCs_len, mkC_nb, mkCs_nb]; omega))
  try simp only [List.append_assoc, List.cons_append, List.nil_append, List.append_nil] at g45_
  obtain ⟨n46, hn46⟩ := isLen_ex (.cells 27 6 [.agg (fzCs x0)] :: (bkCs n3 x0 ++ (bkCs n6 w ++ (.cells 36 10 [.agg (tvCs n6 w)] :: (bkCs n11 (mkCs x0 (1)) ++ (.cells 34 6 [.agg (tvCs n11 x0)] :: (bkCs n17 (mkCs w' (1)) ++ (.cells 36 10 [.agg (tvCs n17 w')] :: (bkCs n28 x0)))))))) : List TB)
  have ln46 := hn46.eq
  simp only [List.length_append, List.length_cons, List.length_nil, bkC_len, bkCs_len, mkC_nb, mkCs_nb] at ln46
  have e47_ : ∀ t, (ansSp (toR_S sh_Box)).fn t [.agg (fzCs x0)] (.cells 27 6 [.agg (fzCs x0)] :: (bkCs n3 x0 ++ (bkCs n6 w ++ (.cells 36 10 [.agg (tvCs n6 w)] :: (bkCs n11 (mkCs x0 (1)) ++ (.cells 34 6 [.agg (tvCs n11 x0)] :: (bkCs n17 (mkCs w' (1)) ++ (.cells 36 10 [.agg (tvCs n17 w')] :: (bkCs n28 x0)))))))) : List TB) = some (.agg (tvCs n46 x0), (.cells 27 6 [.agg (fzCs x0)] :: (bkCs n3 x0 ++ (bkCs n6 w ++ (.cells 36 10 [.agg (tvCs n6 w)] :: (bkCs n11 (mkCs x0 (1)) ++ (.cells 34 6 [.agg (tvCs n11 x0)] :: (bkCs n17 (mkCs w' (1)) ++ (.cells 36 10 [.agg (tvCs n17 w')] :: (bkCs n28 x0 ++ (bkCs n46 x0))))))))) : List TB)) := fun t => by
    rw [call_new (by simp only [List.map_cons, List.map_nil, frz_p, frz_s, frz_agg, frz_fzC, frz_fzCs]; try rfl) (toR_at h0 y0) hn46.eq]; try simp only [List.append_assoc, List.cons_append, List.nil_append, List.append_nil]
  have Ln46 := bkCs_len n46 x0
  have f48 : frzT (.cells 27 6 [.agg (fzCs x0)] :: (bkCs n3 x0 ++ (bkCs n6 w ++ (.cells 36 10 [.agg (tvCs n6 w)] :: (bkCs n11 (mkCs x0 (1)) ++ (.cells 34 6 [.agg (tvCs n11 x0)] :: (bkCs n17 (mkCs w' (1)) ++ (.cells 36 10 [.agg (tvCs n17 w')] :: (bkCs n28 x0 ++ (bkCs n46 x0))))))))) : List TB) 9 (.agg (tvCs n46 x0)) = .agg (fzCs x0) := by
    have := frz_in (A := (.cells 27 6 [.agg (fzCs x0)] :: (bkCs n3 x0 ++ (bkCs n6 w ++ (.cells 36 10 [.agg (tvCs n6 w)] :: (bkCs n11 (mkCs x0 (1)) ++ (.cells 34 6 [.agg (tvCs n11 x0)] :: (bkCs n17 (mkCs w' (1)) ++ (.cells 36 10 [.agg (tvCs n17 w')] :: (bkCs n28 x0)))))))) : List TB)) (B := ([] : List TB)) (w := x0) (n := n46) (by first | (simp only [List.length_append, List.length_cons, List.length_nil, bkC_len, bkCs_len, mkC_nb, mkCs_nb]; done) | (simp only [List.length_append, List.length_cons, List.length_nil, bkC_len, bkCs_len, mkC_nb, mkCs_nb]; omega)) (by first | assumption | (rw [mkCs_dp]; assumption))
    (try simp only [List.append_assoc, List.cons_append, List.nil_append, List.append_nil, mkC_tv, mkCs_tv] at this); (try simp only [List.append_assoc, List.cons_append, List.nil_append, List.append_nil, mkC_tv, mkCs_tv]); exact this
  obtain ⟨n49, hn49⟩ := isLen_ex (.cells 27 6 [.agg (fzCs x0)] :: (bkCs n3 x0 ++ (bkCs n6 w ++ (.cells 36 10 [.agg (tvCs n6 w)] :: (bkCs n11 (mkCs x0 (1)) ++ (.cells 34 6 [.agg (tvCs n11 x0)] :: (bkCs n17 (mkCs w' (1)) ++ (.cells 36 10 [.agg (tvCs n17 w')] :: (bkCs n28 x0 ++ (bkCs n46 x0))))))))) : List TB)
  have ln49 := hn49.eq
  simp only [List.length_append, List.length_cons, List.length_nil, bkC_len, bkCs_len, mkC_nb, mkCs_nb] at ln49
  have e50_ : ∀ t, (ansSp Si).fn t [.agg (tvCs n46 x0), .p (.int .i64 x1)] (.cells 27 6 [.agg (fzCs x0)] :: (bkCs n3 x0 ++ (bkCs n6 w ++ (.cells 36 10 [.agg (tvCs n6 w)] :: (bkCs n11 (mkCs x0 (1)) ++ (.cells 34 6 [.agg (tvCs n11 x0)] :: (bkCs n17 (mkCs w' (1)) ++ (.cells 36 10 [.agg (tvCs n17 w')] :: (bkCs n28 x0 ++ (bkCs n46 x0))))))))) : List TB) = some (.agg (tvCs n49 w'), (.cells 27 6 [.agg (fzCs x0)] :: (bkCs n3 x0 ++ (bkCs n6 w ++ (.cells 36 10 [.agg (tvCs n6 w)] :: (bkCs n11 (mkCs x0 (1)) ++ (.cells 34 6 [.agg (tvCs n11 x0)] :: (bkCs n17 (mkCs w' (1)) ++ (.cells 36 10 [.agg (tvCs n17 w')] :: (bkCs n28 x0 ++ (bkCs n46 x0 ++ (bkCs n49 w')))))))))) : List TB)) := fun t => by
    rw [call_new (by simp only [List.map_cons, List.map_nil, frz_p, frz_s, frz_agg, frz_fzC, frz_fzCs, f48]; try rfl) (wI) hn49.eq]; try simp only [List.append_assoc, List.cons_append, List.nil_append, List.append_nil]
  have Ln49 := bkCs_len n49 w'
  obtain ⟨n51, hn51⟩ := isLen_ex (.cells 27 6 [.agg (fzCs x0)] :: (bkCs n3 x0 ++ (bkCs n6 w ++ (.cells 36 10 [.agg (tvCs n6 w)] :: (bkCs n11 (mkCs x0 (1)) ++ (.cells 34 6 [.agg (tvCs n11 x0)] :: (bkCs n17 (mkCs w' (1)) ++ (.cells 36 10 [.agg (tvCs n17 w')] :: (bkCs n28 x0 ++ (bkCs n46 x0 ++ (bkCs n49 w')))))))))) : List TB)
  have ln51 := hn51.eq
  simp only [List.length_append, List.length_cons, List.length_nil, bkC_len, bkCs_len, mkC_nb, mkCs_nb] at ln51
  have g52_ := hold_get (A := (.cells 27 6 [.agg (fzCs x0)] :: (bkCs n3 x0 ++ (bkCs n6 w ++ (.cells 36 10 [.agg (tvCs n6 w)] :: (bkCs n11 (mkCs x0 (1)) ++ (.cells 34 6 [.agg (tvCs n11 x0)] :: (bkCs n17 (mkCs w' (1)) ++ (.cells 36 10 [.agg (tvCs n17 w')] :: (bkCs n28 x0 ++ (bkCs n46 x0 ++ (bkCs n49 w')))))))))) : List TB)) (R := ([] : List TB)) (n := n51) (by first | (simp only [List.length_append, List.length_cons, List.length_nil, bkC_len, bkCs_len, mkC_nb, mkCs_nb]; done) | (simp only [List.length_append, List.length_cons, List.length_nil, bkC_len, bkCs_len, mkC_nb, mkCs_nb]; omega))
  try simp only [List.append_assoc, List.cons_append, List.nil_append, List.append_nil] at g52_
  have g52_s := hold_set (A := (.cells 27 6 [.agg (fzCs x0)] :: (bkCs n3 x0 ++ (bkCs n6 w ++ (.cells 36 10 [.agg (tvCs n6 w)] :: (bkCs n11 (mkCs x0 (1)) ++ (.cells 34 6 [.agg (tvCs n11 x0)] :: (bkCs n17 (mkCs w' (1)) ++ (.cells 36 10 [.agg (tvCs n17 w')] :: (bkCs n28 x0 ++ (bkCs n46 x0 ++ (bkCs n49 w')))))))))) : List TB)) (R := ([] : List TB)) (n := n51) (by first | (simp only [List.length_append, List.length_cons, List.length_nil, bkC_len, bkCs_len, mkC_nb, mkCs_nb]; done) | (simp only [List.length_append, List.length_cons, List.length_nil, bkC_len, bkCs_len, mkC_nb, mkCs_nb]; omega))
  try simp only [List.append_assoc, List.cons_append, List.nil_append, List.append_nil] at g52_s
  have g53_ := hold_get (A := (.cells 27 6 [.agg (fzCs x0)] :: (bkCs n3 x0 ++ (bkCs n6 w ++ (.cells 36 10 [.agg (tvCs n6 w)] :: (bkCs n11 (mkCs x0 (1)) ++ (.cells 34 6 [.agg (tvCs n11 x0)] :: (bkCs n17 (mkCs w' (1)) ++ (.cells 36 10 [.agg (tvCs n17 w')] :: (bkCs n28 x0 ++ (bkCs n46 x0 ++ (bkCs n49 w')))))))))) : List TB)) (R := ([] : List TB)) (n := n51) (by first | (simp only [List.length_append, List.length_cons, List.length_nil, bkC_len, bkCs_len, mkC_nb, mkCs_nb]; done) | (simp only [List.length_append, List.length_cons, List.length_nil, bkC_len, bkCs_len, mkC_nb, mkCs_nb]; omega))
  try simp only [List.append_assoc, List.cons_append, List.nil_append, List.append_nil] at g53_
  have g54_ := hold_get (A := (.cells 27 6 [.agg (fzCs x0)] :: (bkCs n3 x0 ++ (bkCs n6 w)) : List TB)) (R := (bkCs n11 (mkCs x0 (1)) ++ (.cells 34 6 [.agg (tvCs n11 x0)] :: (bkCs n17 (mkCs w' (1)) ++ (.cells 36 10 [.agg (tvCs n17 w')] :: (bkCs n28 x0 ++ (bkCs n46 x0 ++ (bkCs n49 w' ++ ([.cells 36 10 [.agg (tvCs n49 w')]]))))))) : List TB)) (n := n8) (by first | (simp only [List.length_append, List.length_cons, List.length_nil, bkC_len, bkCs_len, mkC_nb, mkCs_nb]; done) | (simp only [List.length_append, List.length_cons, List.length_nil, bkC_len, bkCs_len, mkC_nb, mkCs_nb]; omega))
  try simp only [List.append_assoc, List.cons_append, List.nil_append, List.append_nil] at g54_
  have f55 : frzT (.cells 27 6 [.agg (fzCs x0)] :: (bkCs n3 x0 ++ (bkCs n6 w ++ (.cells 36 10 [.agg (tvCs n6 w)] :: (bkCs n11 (mkCs x0 (1)) ++ (.cells 34 6 [.agg (tvCs n11 x0)] :: (bkCs n17 (mkCs w' (1)) ++ (.cells 36 10 [.agg (tvCs n17 w')] :: (bkCs n28 x0 ++ (bkCs n46 x0 ++ (bkCs n49 w' ++ ([.cells 36 10 [.agg (tvCs n49 w')]]))))))))))) : List TB) 9 (.agg (tvCs n49 w')) = .agg (fzCs w') := by
    have := frz_in (A := (.cells 27 6 [.agg (fzCs x0)] :: (bkCs n3 x0 ++ (bkCs n6 w ++ (.cells 36 10 [.agg (tvCs n6 w)] :: (bkCs n11 (mkCs x0 (1)) ++ (.cells 34 6 [.agg (tvCs n11 x0)] :: (bkCs n17 (mkCs w' (1)) ++ (.cells 36 10 [.agg (tvCs n17 w')] :: (bkCs n28 x0 ++ (bkCs n46 x0))))))))) : List TB)) (B := ([.cells 36 10 [.agg (tvCs n49 w')]] : List TB)) (w := w') (n := n49) (by first | (simp only [List.length_append, List.length_cons, List.length_nil, bkC_len, bkCs_len, mkC_nb, mkCs_nb]; done) | (simp only [List.length_append, List.length_cons, List.length_nil, bkC_len, bkCs_len, mkC_nb, mkCs_nb]; omega)) (by first | assumption | (rw [mkCs_dp]; assumption))
    (try simp only [List.append_assoc, List.cons_append, List.nil_append, List.append_nil, mkC_tv, mkCs_tv] at this); (try simp only [List.append_assoc, List.cons_append, List.nil_append, List.append_nil, mkC_tv, mkCs_tv]); exact this
  have f56 : frzT (.cells 27 6 [.agg (fzCs x0)] :: (bkCs n3 x0 ++ (bkCs n6 w ++ (.cells 36 10 [.agg (tvCs n6 w)] :: (bkCs n11 (mkCs x0 (1)) ++ (.cells 34 6 [.agg (tvCs n11 x0)] :: (bkCs n17 (mkCs w' (1)) ++ (.cells 36 10 [.agg (tvCs n17 w')] :: (bkCs n28 x0 ++ (bkCs n46 x0 ++ (bkCs n49 w' ++ ([.cells 36 10 [.agg (tvCs n49 w')]]))))))))))) : List TB) 9 (.agg (tvCs n6 w)) = .agg (fzCs w) := by
    have := frz_in (A := (.cells 27 6 [.agg (fzCs x0)] :: (bkCs n3 x0) : List TB)) (B := (.cells 36 10 [.agg (tvCs n6 w)] :: (bkCs n11 (mkCs x0 (1)) ++ (.cells 34 6 [.agg (tvCs n11 x0)] :: (bkCs n17 (mkCs w' (1)) ++ (.cells 36 10 [.agg (tvCs n17 w')] :: (bkCs n28 x0 ++ (bkCs n46 x0 ++ (bkCs n49 w' ++ ([.cells 36 10 [.agg (tvCs n49 w')]])))))))) : List TB)) (w := w) (n := n6) (by first | (simp only [List.length_append, List.length_cons, List.length_nil, bkC_len, bkCs_len, mkC_nb, mkCs_nb]; done) | (simp only [List.length_append, List.length_cons, List.length_nil, bkC_len, bkCs_len, mkC_nb, mkCs_nb]; omega)) (by first | assumption | (rw [mkCs_dp]; assumption))
    (try simp only [List.append_assoc, List.cons_append, List.nil_append, List.append_nil, mkC_tv, mkCs_tv] at this); (try simp only [List.append_assoc, List.cons_append, List.nil_append, List.append_nil, mkC_tv, mkCs_tv]); exact this
  have e57_ : ∀ t, (ansSp (eqR_S sh_BoxResult)).fn t [.agg (tvCs n49 w'), .agg (tvCs n6 w)] (.cells 27 6 [.agg (fzCs x0)] :: (bkCs n3 x0 ++ (bkCs n6 w ++ (.cells 36 10 [.agg (tvCs n6 w)] :: (bkCs n11 (mkCs x0 (1)) ++ (.cells 34 6 [.agg (tvCs n11 x0)] :: (bkCs n17 (mkCs w' (1)) ++ (.cells 36 10 [.agg (tvCs n17 w')] :: (bkCs n28 x0 ++ (bkCs n46 x0 ++ (bkCs n49 w' ++ ([.cells 36 10 [.agg (tvCs n49 w')]]))))))))))) : List TB) = some (.p (.bool true), (.cells 27 6 [.agg (fzCs x0)] :: (bkCs n3 x0 ++ (bkCs n6 w ++ (.cells 36 10 [.agg (tvCs n6 w)] :: (bkCs n11 (mkCs x0 (1)) ++ (.cells 34 6 [.agg (tvCs n11 x0)] :: (bkCs n17 (mkCs w' (1)) ++ (.cells 36 10 [.agg (tvCs n17 w')] :: (bkCs n28 x0 ++ (bkCs n46 x0 ++ (bkCs n49 w' ++ ([.cells 36 10 [.agg (tvCs n49 w')]]))))))))))) : List TB)) := fun t => call_val (by simp only [List.map_cons, List.map_nil, frz_p, frz_s, frz_agg, frz_fzC, frz_fzCs, wE, f55, f56]; try rfl) (eqR_at fI (Nat.le_trans sI (by decide)))
  have g58_ := hold_get (A := (.cells 27 6 [.agg (fzCs x0)] :: (bkCs n3 x0 ++ (bkCs n6 w ++ (.cells 36 10 [.agg (tvCs n6 w)] :: (bkCs n11 (mkCs x0 (1)) ++ (.cells 34 6 [.agg (tvCs n11 x0)] :: (bkCs n17 (mkCs w' (1)))))))) : List TB)) (R := (bkCs n28 x0 ++ (bkCs n46 x0 ++ (bkCs n49 w' ++ ([.cells 36 10 [.agg (tvCs n49 w')]]))) : List TB)) (n := n19) (by first | (simp only [List.length_append, List.length_cons, List.length_nil, bkC_len, bkCs_len, mkC_nb, mkCs_nb]; done) | (simp only [List.length_append, List.length_cons, List.length_nil, bkC_len, bkCs_len, mkC_nb, mkCs_nb]; omega))
  try simp only [List.append_assoc, List.cons_append, List.nil_append, List.append_nil] at g58_
  have f59 : frzT (.cells 27 6 [.agg (fzCs x0)] :: (bkCs n3 x0 ++ (bkCs n6 w ++ (.cells 36 10 [.agg (tvCs n6 w)] :: (bkCs n11 (mkCs x0 (1)) ++ (.cells 34 6 [.agg (tvCs n11 x0)] :: (bkCs n17 (mkCs w' (1)) ++ (.cells 36 10 [.agg (tvCs n17 w')] :: (bkCs n28 x0 ++ (bkCs n46 x0 ++ (bkCs n49 w' ++ ([.cells 36 10 [.agg (tvCs n49 w')]]))))))))))) : List TB) 9 (.agg (tvCs n17 w')) = .agg (fzCs (mkCs w' (1))) := by
    have := frz_in (A := (.cells 27 6 [.agg (fzCs x0)] :: (bkCs n3 x0 ++ (bkCs n6 w ++ (.cells 36 10 [.agg (tvCs n6 w)] :: (bkCs n11 (mkCs x0 (1)) ++ ([.cells 34 6 [.agg (tvCs n11 x0)]]))))) : List TB)) (B := (.cells 36 10 [.agg (tvCs n17 w')] :: (bkCs n28 x0 ++ (bkCs n46 x0 ++ (bkCs n49 w' ++ ([.cells 36 10 [.agg (tvCs n49 w')]])))) : List TB)) (w := (mkCs w' (1))) (n := n17) (by first | (simp only [List.length_append, List.length_cons, List.length_nil, bkC_len, bkCs_len, mkC_nb, mkCs_nb]; done) | (simp only [List.length_append, List.length_cons, List.length_nil, bkC_len, bkCs_len, mkC_nb, mkCs_nb]; omega)) (by first | assumption | (rw [mkCs_dp]; assumption))
    (try simp only [List.append_assoc, List.cons_append, List.nil_append, List.append_nil, mkC_tv, mkCs_tv] at this); (try simp only [List.append_assoc, List.cons_append, List.nil_append, List.append_nil, mkC_tv, mkCs_tv]); exact this
  have e60_ : ∀ t, (ansSp (hdR_S sh_BoxResult)).fn t [.agg (tvCs n17 w'), .p (.int .i64 1)] (.cells 27 6 [.agg (fzCs x0)] :: (bkCs n3 x0 ++ (bkCs n6 w ++ (.cells 36 10 [.agg (tvCs n6 w)] :: (bkCs n11 (mkCs x0 (1)) ++ (.cells 34 6 [.agg (tvCs n11 x0)] :: (bkCs n17 (mkCs w' (1)) ++ (.cells 36 10 [.agg (tvCs n17 w')] :: (bkCs n28 x0 ++ (bkCs n46 x0 ++ (bkCs n49 w' ++ ([.cells 36 10 [.agg (tvCs n49 w')]]))))))))))) : List TB) = some (.p (.int .i64 (1 + (wtCs w' : Int))), (.cells 27 6 [.agg (fzCs x0)] :: (bkCs n3 x0 ++ (bkCs n6 w ++ (.cells 36 10 [.agg (tvCs n6 w)] :: (bkCs n11 (mkCs x0 (1)) ++ (.cells 34 6 [.agg (tvCs n11 x0)] :: (bkCs n17 (mkCs w' (1)) ++ (.cells 36 10 [.agg (tvCs n17 w')] :: (bkCs n28 x0 ++ (bkCs n46 x0 ++ (bkCs n49 w' ++ ([.cells 36 10 [.agg (tvCs n49 w')]]))))))))))) : List TB)) := fun t => call_val (by simp only [List.map_cons, List.map_nil, frz_p, frz_s, frz_agg, frz_fzC, frz_fzCs, f59]; try rfl) (hdR_at (k := 1) fI (by omega) (by omega))
  simp (maxSteps := 8000000) -implicitDefEqProofs (disch := omega) only [↓reduceIte, go_sem, len0, fzCs_len, fzCs_one, lenS, lenI, tvCs_len, tvCs_one, eq_false (show ¬ (1 + (wtCs w' : Int) < 0) by omega), g42_, e44_, eq_false (show ¬ (1 + (wtCs w' : Int) < 0) by omega), g45_, ↓hn46.eq, e47_, ↓hn49.eq, e50_, ↓hn51.eq, g52_, g52_s, g53_, g54_, e57_, g58_, e60_, eq_false (show ¬ (1 + (wtCs w' : Int) < 0) by omega), not_true, decide_false, not_false_eq_true]
  exact endT_p (.inr rfl) (by (simp (maxSteps := 8000000) -implicitDefEqProofs (disch := omega) only [↓reduceIte, go_sem]) <;> rfl) rfl
end Go.Proofs.YtghpdclhhnbgjaaGreat
