import Derived.Test.YtbddhlhpakbcdaaU21
set_option linter.unusedSimpArgs false
set_option linter.unusedVariables false
set_option maxRecDepth 100000
set_option maxHeartbeats 4000000
namespace Go.Proofs.Ytbddhlhpakbcdaa
open Go Go.AH
attribute [local irreducible] awpT ropsT qopsT stepT condKT gdKT EndT joinK loopKT seqKT blkKT kont kontR ropsTF frKT
/-! FnExactPartnerOf -/
-- laws.FnExactPartnerOf
def c5 : AF := ⟨36,
 (.seq (.reg [rO 3 (.box 59 (.t 0)),
 rO 6 (.mv (.v (.bool false)))])
 (.seq (.reg [rO 7 (.mv (.v (.int .i64 1048576)))])
 (.seq (.reg [rO 11 (.ldn 6 (.t 3)),
 rO 12 (.mv (.t 7)),
 rO 13 (.call 24 [(.t 11), (.t 12)]),
 rO 7 (.mv (.t 13))])
 (.seq (.seq (.reg [rO 14 (.mv (.t 7)),
 rO 15 (.bin .lss (.t 14) (.v (.int .i64 0)))])
 (.cond (.t 15) (.seq (.reg [rO 6 (.mv (.v (.bool true)))])
 .ret)
 .skip))
 (.seq (.reg [rO 16 (.ldn 6 (.t 3)),
 rO 17 (.call 26 [(.t 16)]),
 rO 18 (.mv (.t 1)),
 rO 19 (.mv (.t 2)),
 rO 20 (.call 25 [(.t 17), (.t 18), (.t 19)]),
 rO 8 (.alloc 62 [(.int .i64 0), (.int .i64 0), (.int .i64 0)]),
 ⟨none, none, .st 3 (.t 8) (.t 20)⟩])
 (.seq (.reg [rO 21 (.ldn 6 (.t 3)),
 rO 22 (.call 26 [(.t 21)]),
 rO 9 (.alloc 67 [(.slice none 0 0), (.slice none 0 0), (.slice none 0 0), (.slice none 0 0), (.slice none 0 0), (.slice none 0 0)]),
 ⟨none, none, .st 6 (.t 9) (.t 22)⟩])
 (.seq (.reg [rO 23 (.ldn 6 (.t 9)),
 rO 24 (.mv (.t 1)),
 rO 25 (.mv (.t 2)),
 rO 26 (.call 27 [(.t 23), (.t 24), (.t 25)]),
 rO 10 (.alloc 62 [(.int .i64 0), (.int .i64 0), (.int .i64 0)]),
 ⟨none, none, .st 3 (.t 10) (.t 26)⟩])
 (.seq (.seq (.reg [rO 27 (.ldn 3 (.t 10)),
 rO 28 (.ldn 3 (.t 8)),
 rO 29 (.call 28 [(.t 27), (.t 28)]),
 rO 30 (.un .not (.t 29))])
 (.cond (.t 30) (.seq (.reg [rO 6 (.mv (.v (.bool false)))])
 .ret)
 .skip))
 (.seq (.seq (.drw [rO 31 (.ldn 6 (.t 9)),
 rO 32 (.ldn 6 (.t 3)),
 rO 33 (.call 26 [(.t 32)])] [rO 34 (.call 29 [(.t 31), (.t 33)]),
 rO 35 (.un .not (.t 34))])
 (.cond (.t 35) (.seq (.reg [rO 6 (.mv (.v (.bool false)))])
 .ret)
 .skip))
 (.seq (.reg [rO 6 (.mv (.v (.bool true)))])
 .ret)))))))))),
 [.t 6]⟩
theorem k5 : cFn Try.prog Try.f5 = some c5 := by kernel_rfl
theorem law_PartnerOf {Ss Si : List TV → Option (TV × THeap)} (okS : OkT Try.prog 25 (pureSp Ss)) (okI : OkT Try.prog 27 (pureSp Si)) (H : ∀ (x0 : List Cell) (x1 : Int) (x2 : Int), HasR sh_Net x0 → szCs x0 ≤ 1048576 → ∃ w w', Ss [.agg (fzCs x0), .p (.int .i64 x1), .p (.int .i64 x2)] = some (.agg (tvCs 0 w), bkCs 0 w) ∧ Si [.agg (fzCs x0), .p (.int .i64 x1), .p (.int .i64 x2)] = some (.agg (tvCs 0 w'), bkCs 0 w') ∧ fzCs w = fzCs w' ∧ FitR sh_Match w ∧ FitR sh_Match w' ∧ szCs w ≤ 1073741824 ∧ szCs w' ≤ 1073741824) : OkT Try.prog 5 (pureSp (tvSp (fun a => ∃ (x0 : List Cell) (x1 : Int) (x2 : Int), a = [.agg (fzCs x0), .p (.int .i64 x1), .p (.int .i64 x2)] ∧ HasR sh_Net x0 ∧ lnCs x0 = true) (fun _ => (.p (.bool true), [])))) := by
  refine okT_tv (OkΓT.cons szNet_ok (OkΓT.cons (tsp := ansSp (toR_S sh_Net)) toNet_ok (OkΓT.cons (tsp := ansSp Ss) okS (OkΓT.cons (tsp := ansSp Si) okI (OkΓT.cons (tsp := ansSp (eqR_S sh_Match)) eqMatch_ok (OkΓT.cons (tsp := ansSp (eqR_S sh_Net)) eqNet_ok (OkΓT.nil _))))))) Try.func5 (by kernel_rfl) k5 (fun x hx => ⟨rfl, rfl⟩) ?_
  rintro _ ⟨x0, x1, x2, rfl, h0, z0⟩
  have len0 : x0.length = 6 := HasR.len h0
  have e0 := szR_at (k := 1048576) h0 (by omega) z0
  by_cases q0 : (szCs x0 : Int) ≤ 1048576
  case neg =>
    rw [if_neg q0] at e0
    (dsimp only [c5, rO]; simp (maxSteps := 8000000) -implicitDefEqProofs (disch := omega) only [↓reduceIte, go_sem, len0, fzCs_len, fzCs_one, e0])
    repeat' first
      | ((first | refine gdKT_deq (fun hg hG => ?_) (fun hg hG => ?_) | refine condKT_deq (fun hg hG => ?_) (fun hg hG => ?_)) <;> (try simp (maxSteps := 8000000) -implicitDefEqProofs (disch := omega) only [↓reduceIte, go_sem, hG, len0, fzCs_len, fzCs_one, e0]) <;> clear hG)
      | ((first | refine gdKT_split (fun hg => ?_) (fun hg => ?_) | refine condKT_split (fun hg => ?_) (fun hg => ?_)) <;> (try simp (maxSteps := 8000000) -implicitDefEqProofs (disch := omega) only [↓reduceIte, go_sem, hg, len0, fzCs_len, fzCs_one, e0]))
      | (refine endT_p (.inr rfl) (by simp (maxSteps := 8000000) -implicitDefEqProofs (disch := omega) only [↓reduceIte, go_sem, len0, fzCs_len, fzCs_one, e0]; rfl) ?_; (first | exact vb_true (by omega) | exact vb_false (by omega) | exact vb_dec (by omega) | exact vi_eq (by omega) | rfl | (refine vi_eq ?_; simp_all; first | done | (intros; omega))))
      | exact endT_v (.inr rfl) (by simp (maxSteps := 8000000) -implicitDefEqProofs (disch := omega) only [↓reduceIte, go_sem, len0, fzCs_len, fzCs_one, e0]; try rfl) (fun _ => rfl)
  rw [if_pos q0] at e0
  have y0 : szCs x0 ≤ 1048576 := by omega
  obtain ⟨w, w', wS, wI, wE, fS, fI, sS, sI⟩ := H x0 x1 x2 h0 y0
  have lenS : w.length = 3 := FitR.len fS
  have lenI : w'.length = 3 := FitR.len fI
  have dS : dpCs w ≤ 9 := Nat.le_trans (FitR.dp _ _ fS) (of_decide_eq_true (by rfl))
  have dI : dpCs w' ≤ 9 := Nat.le_trans (FitR.dp _ _ fI) (of_decide_eq_true (by rfl))
  have mI : wtCs w' ≤ 64 * 1073741824 := FitR.w fI (of_decide_eq_true (by rfl)) sI
  have d0 : dpCs x0 ≤ 9 := Nat.le_trans (FitR.dp _ _ (HasR.fit _ _ h0)) (of_decide_eq_true (by rfl))
  have m0 : wtCs x0 ≤ 64 * 1048576 := FitR.w (HasR.fit _ _ h0) (of_decide_eq_true (by rfl)) y0
  obtain ⟨n0, hn0⟩ := isLen_ex ([] : List TB)
  have ln0 := hn0.eq
  simp only [List.length_append, List.length_cons, List.length_nil, bkC_len, bkCs_len, mkC_nb, mkCs_nb] at ln0
  have g1_ := hold_get (A := ([] : List TB)) (R := ([] : List TB)) (n := n0) (by first | (simp only [List.length_append, List.length_cons, List.length_nil, bkC_len, bkCs_len, mkC_nb, mkCs_nb]; done) | (simp only [List.length_append, List.length_cons, List.length_nil, bkC_len, bkCs_len, mkC_nb, mkCs_nb]; omega))
  try simp only [List.append_assoc, List.cons_append, List.nil_append, List.append_nil] at g1_
  have g2_ := hold_get (A := ([] : List TB)) (R := ([] : List TB)) (n := n0) (by first | (simp only [List.length_append, List.length_cons, List.length_nil, bkC_len, bkCs_len, mkC_nb, mkCs_nb]; done) | (simp only [List.length_append, List.length_cons, List.length_nil, bkC_len, bkCs_len, mkC_nb, mkCs_nb]; omega))
  try simp only [List.append_assoc, List.cons_append, List.nil_append, List.append_nil] at g2_
  obtain ⟨n3, hn3⟩ := isLen_ex ([.cells 59 6 [.agg (fzCs x0)]] : List TB)
  have ln3 := hn3.eq
  simp only [List.length_append, List.length_cons, List.length_nil, bkC_len, bkCs_len, mkC_nb, mkCs_nb] at ln3
  have e4_ : ∀ t, (ansSp (toR_S sh_Net)).fn t [.agg (fzCs x0)] ([.cells 59 6 [.agg (fzCs x0)]] : List TB) = some (.agg (tvCs n3 x0), (.cells 59 6 [.agg (fzCs x0)] :: (bkCs n3 x0) : List TB)) := fun t => by
    rw [call_new (by simp only [List.map_cons, List.map_nil, frz_p, frz_s, frz_agg, frz_fzC, frz_fzCs]; try rfl) (toR_at h0 y0) hn3.eq]; try simp only [List.append_assoc, List.cons_append, List.nil_append, List.append_nil]
  have Ln3 := bkCs_len n3 x0
  have f5 : frzT (.cells 59 6 [.agg (fzCs x0)] :: (bkCs n3 x0) : List TB) 9 (.agg (tvCs n3 x0)) = .agg (fzCs x0) := by
    have := frz_in (A := ([.cells 59 6 [.agg (fzCs x0)]] : List TB)) (B := ([] : List TB)) (w := x0) (n := n3) (by first | (simp only [List.length_append, List.length_cons, List.length_nil, bkC_len, bkCs_len, mkC_nb, mkCs_nb]; done) | (simp only [List.length_append, List.length_cons, List.length_nil, bkC_len, bkCs_len, mkC_nb, mkCs_nb]; omega)) (by first | assumption | (rw [mkCs_dp]; assumption))
    (try simp only [List.append_assoc, List.cons_append, List.nil_append, List.append_nil, mkC_tv, mkCs_tv] at this); (try simp only [List.append_assoc, List.cons_append, List.nil_append, List.append_nil, mkC_tv, mkCs_tv]); exact this
  obtain ⟨n6, hn6⟩ := isLen_ex (.cells 59 6 [.agg (fzCs x0)] :: (bkCs n3 x0) : List TB)
  have ln6 := hn6.eq
  simp only [List.length_append, List.length_cons, List.length_nil, bkC_len, bkCs_len, mkC_nb, mkCs_nb] at ln6
  have e7_ : ∀ t, (ansSp Ss).fn t [.agg (tvCs n3 x0), .p (.int .i64 x1), .p (.int .i64 x2)] (.cells 59 6 [.agg (fzCs x0)] :: (bkCs n3 x0) : List TB) = some (.agg (tvCs n6 w), (.cells 59 6 [.agg (fzCs x0)] :: (bkCs n3 x0 ++ (bkCs n6 w)) : List TB)) := fun t => by
    rw [call_new (by simp only [List.map_cons, List.map_nil, frz_p, frz_s, frz_agg, frz_fzC, frz_fzCs, f5]; try rfl) (wS) hn6.eq]; try simp only [List.append_assoc, List.cons_append, List.nil_append, List.append_nil]
  have Ln6 := bkCs_len n6 w
  obtain ⟨n8, hn8⟩ := isLen_ex (.cells 59 6 [.agg (fzCs x0)] :: (bkCs n3 x0 ++ (bkCs n6 w)) : List TB)
  have ln8 := hn8.eq
  simp only [List.length_append, List.length_cons, List.length_nil, bkC_len, bkCs_len, mkC_nb, mkCs_nb] at ln8
  have g9_ := hold_get (A := (.cells 59 6 [.agg (fzCs x0)] :: (bkCs n3 x0 ++ (bkCs n6 w)) : List TB)) (R := ([] : List TB)) (n := n8) (by first | (simp only [List.length_append, List.length_cons, List.length_nil, bkC_len, bkCs_len, mkC_nb, mkCs_nb]; done) | (simp only [List.length_append, List.length_cons, List.length_nil, bkC_len, bkCs_len, mkC_nb, mkCs_nb]; omega))
  try simp only [List.append_assoc, List.cons_append, List.nil_append, List.append_nil] at g9_
  have g9_s := hold_set (A := (.cells 59 6 [.agg (fzCs x0)] :: (bkCs n3 x0 ++ (bkCs n6 w)) : List TB)) (R := ([] : List TB)) (n := n8) (by first | (simp only [List.length_append, List.length_cons, List.length_nil, bkC_len, bkCs_len, mkC_nb, mkCs_nb]; done) | (simp only [List.length_append, List.length_cons, List.length_nil, bkC_len, bkCs_len, mkC_nb, mkCs_nb]; omega))
  try simp only [List.append_assoc, List.cons_append, List.nil_append, List.append_nil] at g9_s
  have g10_ := hold_get (A := ([] : List TB)) (R := (bkCs n3 x0 ++ (bkCs n6 w ++ ([.cells 62 3 [.agg (tvCs n6 w)]])) : List TB)) (n := n0) (by first | (simp only [List.length_append, List.length_cons, List.length_nil, bkC_len, bkCs_len, mkC_nb, mkCs_nb]; done) | (simp only [List.length_append, List.length_cons, List.length_nil, bkC_len, bkCs_len, mkC_nb, mkCs_nb]; omega))
  try simp only [List.append_assoc, List.cons_append, List.nil_append, List.append_nil] at g10_
  obtain ⟨n11, hn11⟩ := isLen_ex (.cells 59 6 [.agg (fzCs x0)] :: (bkCs n3 x0 ++ (bkCs n6 w ++ ([.cells 62 3 [.agg (tvCs n6 w)]]))) : List TB)
  have ln11 := hn11.eq
  simp only [List.length_append, List.length_cons, List.length_nil, bkC_len, bkCs_len, mkC_nb, mkCs_nb] at ln11
  have e12_ : ∀ t, (ansSp (toR_S sh_Net)).fn t [.agg (fzCs x0)] (.cells 59 6 [.agg (fzCs x0)] :: (bkCs n3 x0 ++ (bkCs n6 w ++ ([.cells 62 3 [.agg (tvCs n6 w)]]))) : List TB) = some (.agg (tvCs n11 x0), (.cells 59 6 [.agg (fzCs x0)] :: (bkCs n3 x0 ++ (bkCs n6 w ++ (.cells 62 3 [.agg (tvCs n6 w)] :: (bkCs n11 x0)))) : List TB)) := fun t => by
    rw [call_new (by simp only [List.map_cons, List.map_nil, frz_p, frz_s, frz_agg, frz_fzC, frz_fzCs]; try rfl) (toR_at h0 y0) hn11.eq]; try simp only [List.append_assoc, List.cons_append, List.nil_append, List.append_nil]
  have Ln11 := bkCs_len n11 x0
  obtain ⟨n13, hn13⟩ := isLen_ex (.cells 59 6 [.agg (fzCs x0)] :: (bkCs n3 x0 ++ (bkCs n6 w ++ (.cells 62 3 [.agg (tvCs n6 w)] :: (bkCs n11 x0)))) : List TB)
  have ln13 := hn13.eq
  simp only [List.length_append, List.length_cons, List.length_nil, bkC_len, bkCs_len, mkC_nb, mkCs_nb] at ln13
  have g14_ := hold_get (A := (.cells 59 6 [.agg (fzCs x0)] :: (bkCs n3 x0 ++ (bkCs n6 w ++ (.cells 62 3 [.agg (tvCs n6 w)] :: (bkCs n11 x0)))) : List TB)) (R := ([] : List TB)) (n := n13) (by first | (simp only [List.length_append, List.length_cons, List.length_nil, bkC_len, bkCs_len, mkC_nb, mkCs_nb]; done) | (simp only [List.length_append, List.length_cons, List.length_nil, bkC_len, bkCs_len, mkC_nb, mkCs_nb]; omega))
  try simp only [List.append_assoc, List.cons_append, List.nil_append, List.append_nil] at g14_
  have g14_s := hold_set (A := (.cells 59 6 [.agg (fzCs x0)] :: (bkCs n3 x0 ++ (bkCs n6 w ++ (.cells 62 3 [.agg (tvCs n6 w)] :: (bkCs n11 x0)))) : List TB)) (R := ([] : List TB)) (n := n13) (by first | (simp only [List.length_append, List.length_cons, List.length_nil, bkC_len, bkCs_len, mkC_nb, mkCs_nb]; done) | (simp only [List.length_append, List.length_cons, List.length_nil, bkC_len, bkCs_len, mkC_nb, mkCs_nb]; omega))
  try simp only [List.append_assoc, List.cons_append, List.nil_append, List.append_nil] at g14_s
  have g15_ := hold_get (A := (.cells 59 6 [.agg (fzCs x0)] :: (bkCs n3 x0 ++ (bkCs n6 w ++ (.cells 62 3 [.agg (tvCs n6 w)] :: (bkCs n11 x0)))) : List TB)) (R := ([] : List TB)) (n := n13) (by first | (simp only [List.length_append, List.length_cons, List.length_nil, bkC_len, bkCs_len, mkC_nb, mkCs_nb]; done) | (simp only [List.length_append, List.length_cons, List.length_nil, bkC_len, bkCs_len, mkC_nb, mkCs_nb]; omega))
  try simp only [List.append_assoc, List.cons_append, List.nil_append, List.append_nil] at g15_
  have f16 : frzT (.cells 59 6 [.agg (fzCs x0)] :: (bkCs n3 x0 ++ (bkCs n6 w ++ (.cells 62 3 [.agg (tvCs n6 w)] :: (bkCs n11 x0 ++ ([.cells 67 6 [.agg (tvCs n11 x0)]]))))) : List TB) 9 (.agg (tvCs n11 x0)) = .agg (fzCs x0) := by
    have := frz_in (A := (.cells 59 6 [.agg (fzCs x0)] :: (bkCs n3 x0 ++ (bkCs n6 w ++ ([.cells 62 3 [.agg (tvCs n6 w)]]))) : List TB)) (B := ([.cells 67 6 [.agg (tvCs n11 x0)]] : List TB)) (w := x0) (n := n11) (by first | (simp only [List.length_append, List.length_cons, List.length_nil, bkC_len, bkCs_len, mkC_nb, mkCs_nb]; done) | (simp only [List.length_append, List.length_cons, List.length_nil, bkC_len, bkCs_len, mkC_nb, mkCs_nb]; omega)) (by first | assumption | (rw [mkCs_dp]; assumption))
    (try simp only [List.append_assoc, List.cons_append, List.nil_append, List.append_nil, mkC_tv, mkCs_tv] at this); (try simp only [List.append_assoc, List.cons_append, List.nil_append, List.append_nil, mkC_tv, mkCs_tv]); exact this
  obtain ⟨n17, hn17⟩ := isLen_ex (.cells 59 6 [.agg (fzCs x0)] :: (bkCs n3 x0 ++ (bkCs n6 w ++ (.cells 62 3 [.agg (tvCs n6 w)] :: (bkCs n11 x0 ++ ([.cells 67 6 [.agg (tvCs n11 x0)]]))))) : List TB)
  have ln17 := hn17.eq
  simp only [List.length_append, List.length_cons, List.length_nil, bkC_len, bkCs_len, mkC_nb, mkCs_nb] at ln17
  have e18_ : ∀ t, (ansSp Si).fn t [.agg (tvCs n11 x0), .p (.int .i64 x1), .p (.int .i64 x2)] (.cells 59 6 [.agg (fzCs x0)] :: (bkCs n3 x0 ++ (bkCs n6 w ++ (.cells 62 3 [.agg (tvCs n6 w)] :: (bkCs n11 x0 ++ ([.cells 67 6 [.agg (tvCs n11 x0)]]))))) : List TB) = some (.agg (tvCs n17 w'), (.cells 59 6 [.agg (fzCs x0)] :: (bkCs n3 x0 ++ (bkCs n6 w ++ (.cells 62 3 [.agg (tvCs n6 w)] :: (bkCs n11 x0 ++ (.cells 67 6 [.agg (tvCs n11 x0)] :: (bkCs n17 w')))))) : List TB)) := fun t => by
    rw [call_new (by simp only [List.map_cons, List.map_nil, frz_p, frz_s, frz_agg, frz_fzC, frz_fzCs, f16]; try rfl) (wI) hn17.eq]; try simp only [List.append_assoc, List.cons_append, List.nil_append, List.append_nil]
  have Ln17 := bkCs_len n17 w'
  obtain ⟨n19, hn19⟩ := isLen_ex (.cells 59 6 [.agg (fzCs x0)] :: (bkCs n3 x0 ++ (bkCs n6 w ++ (.cells 62 3 [.agg (tvCs n6 w)] :: (bkCs n11 x0 ++ (.cells 67 6 [.agg (tvCs n11 x0)] :: (bkCs n17 w')))))) : List TB)
  have ln19 := hn19.eq
  simp only [List.length_append, List.length_cons, List.length_nil, bkC_len, bkCs_len, mkC_nb, mkCs_nb] at ln19
  have g20_ := hold_get (A := (.cells 59 6 [.agg (fzCs x0)] :: (bkCs n3 x0 ++ (bkCs n6 w ++ (.cells 62 3 [.agg (tvCs n6 w)] :: (bkCs n11 x0 ++ (.cells 67 6 [.agg (tvCs n11 x0)] :: (bkCs n17 w')))))) : List TB)) (R := ([] : List TB)) (n := n19) (by first | (simp only [List.length_append, List.length_cons, List.length_nil, bkC_len, bkCs_len, mkC_nb, mkCs_nb]; done) | (simp only [List.length_append, List.length_cons, List.length_nil, bkC_len, bkCs_len, mkC_nb, mkCs_nb]; omega))
  try simp only [List.append_assoc, List.cons_append, List.nil_append, List.append_nil] at g20_
  have g20_s := hold_set (A := (.cells 59 6 [.agg (fzCs x0)] :: (bkCs n3 x0 ++ (bkCs n6 w ++ (.cells 62 3 [.agg (tvCs n6 w)] :: (bkCs n11 x0 ++ (.cells 67 6 [.agg (tvCs n11 x0)] :: (bkCs n17 w')))))) : List TB)) (R := ([] : List TB)) (n := n19) (by first | (simp only [List.length_append, List.length_cons, List.length_nil, bkC_len, bkCs_len, mkC_nb, mkCs_nb]; done) | (simp only [List.length_append, List.length_cons, List.length_nil, bkC_len, bkCs_len, mkC_nb, mkCs_nb]; omega))
  try simp only [List.append_assoc, List.cons_append, List.nil_append, List.append_nil] at g20_s
  have g21_ := hold_get (A := (.cells 59 6 [.agg (fzCs x0)] :: (bkCs n3 x0 ++ (bkCs n6 w ++ (.cells 62 3 [.agg (tvCs n6 w)] :: (bkCs n11 x0 ++ (.cells 67 6 [.agg (tvCs n11 x0)] :: (bkCs n17 w')))))) : List TB)) (R := ([] : List TB)) (n := n19) (by first | (simp only [List.length_append, List.length_cons, List.length_nil, bkC_len, bkCs_len, mkC_nb, mkCs_nb]; done) | (simp only [List.length_append, List.length_cons, List.length_nil, bkC_len, bkCs_len, mkC_nb, mkCs_nb]; omega))
  try simp only [List.append_assoc, List.cons_append, List.nil_append, List.append_nil] at g21_
  have g22_ := hold_get (A := (.cells 59 6 [.agg (fzCs x0)] :: (bkCs n3 x0 ++ (bkCs n6 w)) : List TB)) (R := (bkCs n11 x0 ++ (.cells 67 6 [.agg (tvCs n11 x0)] :: (bkCs n17 w' ++ ([.cells 62 3 [.agg (tvCs n17 w')]]))) : List TB)) (n := n8) (by first | (simp only [List.length_append, List.length_cons, List.length_nil, bkC_len, bkCs_len, mkC_nb, mkCs_nb]; done) | (simp only [List.length_append, List.length_cons, List.length_nil, bkC_len, bkCs_len, mkC_nb, mkCs_nb]; omega))
  try simp only [List.append_assoc, List.cons_append, List.nil_append, List.append_nil] at g22_
  have f23 : frzT (.cells 59 6 [.agg (fzCs x0)] :: (bkCs n3 x0 ++ (bkCs n6 w ++ (.cells 62 3 [.agg (tvCs n6 w)] :: (bkCs n11 x0 ++ (.cells 67 6 [.agg (tvCs n11 x0)] :: (bkCs n17 w' ++ ([.cells 62 3 [.agg (tvCs n17 w')]]))))))) : List TB) 9 (.agg (tvCs n17 w')) = .agg (fzCs w') := by
    have := frz_in (A := (.cells 59 6 [.agg (fzCs x0)] :: (bkCs n3 x0 ++ (bkCs n6 w ++ (.cells 62 3 [.agg (tvCs n6 w)] :: (bkCs n11 x0 ++ ([.cells 67 6 [.agg (tvCs n11 x0)]]))))) : List TB)) (B := ([.cells 62 3 [.agg (tvCs n17 w')]] : List TB)) (w := w') (n := n17) (by first | (simp only [List.length_append, List.length_cons, List.length_nil, bkC_len, bkCs_len, mkC_nb, mkCs_nb]; done) | (simp only [List.length_append, List.length_cons, List.length_nil, bkC_len, bkCs_len, mkC_nb, mkCs_nb]; omega)) (by first | assumption | (rw [mkCs_dp]; assumption))
    (try simp only [List.append_assoc, List.cons_append, List.nil_append, List.append_nil, mkC_tv, mkCs_tv] at this); (try simp only [List.append_assoc, List.cons_append, List.nil_append, List.append_nil, mkC_tv, mkCs_tv]); exact this
  have f24 : frzT (.cells 59 6 [.agg (fzCs x0)] :: (bkCs n3 x0 ++ (bkCs n6 w ++ (.cells 62 3 [.agg (tvCs n6 w)] :: (bkCs n11 x0 ++ (.cells 67 6 [.agg (tvCs n11 x0)] :: (bkCs n17 w' ++ ([.cells 62 3 [.agg (tvCs n17 w')]]))))))) : List TB) 9 (.agg (tvCs n6 w)) = .agg (fzCs w) := by
    have := frz_in (A := (.cells 59 6 [.agg (fzCs x0)] :: (bkCs n3 x0) : List TB)) (B := (.cells 62 3 [.agg (tvCs n6 w)] :: (bkCs n11 x0 ++ (.cells 67 6 [.agg (tvCs n11 x0)] :: (bkCs n17 w' ++ ([.cells 62 3 [.agg (tvCs n17 w')]])))) : List TB)) (w := w) (n := n6) (by first | (simp only [List.length_append, List.length_cons, List.length_nil, bkC_len, bkCs_len, mkC_nb, mkCs_nb]; done) | (simp only [List.length_append, List.length_cons, List.length_nil, bkC_len, bkCs_len, mkC_nb, mkCs_nb]; omega)) (by first | assumption | (rw [mkCs_dp]; assumption))
    (try simp only [List.append_assoc, List.cons_append, List.nil_append, List.append_nil, mkC_tv, mkCs_tv] at this); (try simp only [List.append_assoc, List.cons_append, List.nil_append, List.append_nil, mkC_tv, mkCs_tv]); exact this
  have e25_ : ∀ t, (ansSp (eqR_S sh_Match)).fn t [.agg (tvCs n17 w'), .agg (tvCs n6 w)] (.cells 59 6 [.agg (fzCs x0)] :: (bkCs n3 x0 ++ (bkCs n6 w ++ (.cells 62 3 [.agg (tvCs n6 w)] :: (bkCs n11 x0 ++ (.cells 67 6 [.agg (tvCs n11 x0)] :: (bkCs n17 w' ++ ([.cells 62 3 [.agg (tvCs n17 w')]]))))))) : List TB) = some (.p (.bool true), (.cells 59 6 [.agg (fzCs x0)] :: (bkCs n3 x0 ++ (bkCs n6 w ++ (.cells 62 3 [.agg (tvCs n6 w)] :: (bkCs n11 x0 ++ (.cells 67 6 [.agg (tvCs n11 x0)] :: (bkCs n17 w' ++ ([.cells 62 3 [.agg (tvCs n17 w')]]))))))) : List TB)) := fun t => call_val (by simp only [List.map_cons, List.map_nil, frz_p, frz_s, frz_agg, frz_fzC, frz_fzCs, wE, f23, f24]; try rfl) (eqR_at fI (Nat.le_trans sI (by decide)))
  have g26_ := hold_get (A := (.cells 59 6 [.agg (fzCs x0)] :: (bkCs n3 x0 ++ (bkCs n6 w ++ (.cells 62 3 [.agg (tvCs n6 w)] :: (bkCs n11 x0)))) : List TB)) (R := (bkCs n17 w' ++ ([.cells 62 3 [.agg (tvCs n17 w')]]) : List TB)) (n := n13) (by first | (simp only [List.length_append, List.length_cons, List.length_nil, bkC_len, bkCs_len, mkC_nb, mkCs_nb]; done) | (simp only [List.length_append, List.length_cons, List.length_nil, bkC_len, bkCs_len, mkC_nb, mkCs_nb]; omega))
  try simp only [List.append_assoc, List.cons_append, List.nil_append, List.append_nil] at g26_
  have g27_ := hold_get (A := ([] : List TB)) (R := (bkCs n3 x0 ++ (bkCs n6 w ++ (.cells 62 3 [.agg (tvCs n6 w)] :: (bkCs n11 x0 ++ (.cells 67 6 [.agg (tvCs n11 x0)] :: (bkCs n17 w' ++ ([.cells 62 3 [.agg (tvCs n17 w')]])))))) : List TB)) (n := n0) (by first | (simp only [List.length_append, List.length_cons, List.length_nil, bkC_len, bkCs_len, mkC_nb, mkCs_nb]; done) | (simp only [List.length_append, List.length_cons, List.length_nil, bkC_len, bkCs_len, mkC_nb, mkCs_nb]; omega))
  try simp only [List.append_assoc, List.cons_append, List.nil_append, List.append_nil] at g27_
  obtain ⟨n28, hn28⟩ := isLen_ex (.cells 59 6 [.agg (fzCs x0)] :: (bkCs n3 x0 ++ (bkCs n6 w ++ (.cells 62 3 [.agg (tvCs n6 w)] :: (bkCs n11 x0 ++ (.cells 67 6 [.agg (tvCs n11 x0)] :: (bkCs n17 w' ++ ([.cells 62 3 [.agg (tvCs n17 w')]]))))))) : List TB)
  have ln28 := hn28.eq
  simp only [List.length_append, List.length_cons, List.length_nil, bkC_len, bkCs_len, mkC_nb, mkCs_nb] at ln28
  have e29_ : ∀ t, (ansSp (toR_S sh_Net)).fn t [.agg (fzCs x0)] (.cells 59 6 [.agg (fzCs x0)] :: (bkCs n3 x0 ++ (bkCs n6 w ++ (.cells 62 3 [.agg (tvCs n6 w)] :: (bkCs n11 x0 ++ (.cells 67 6 [.agg (tvCs n11 x0)] :: (bkCs n17 w' ++ ([.cells 62 3 [.agg (tvCs n17 w')]]))))))) : List TB) = some (.agg (tvCs n28 x0), (.cells 59 6 [.agg (fzCs x0)] :: (bkCs n3 x0 ++ (bkCs n6 w ++ (.cells 62 3 [.agg (tvCs n6 w)] :: (bkCs n11 x0 ++ (.cells 67 6 [.agg (tvCs n11 x0)] :: (bkCs n17 w' ++ (.cells 62 3 [.agg (tvCs n17 w')] :: (bkCs n28 x0)))))))) : List TB)) := fun t => by
    rw [call_new (by simp only [List.map_cons, List.map_nil, frz_p, frz_s, frz_agg, frz_fzC, frz_fzCs]; try rfl) (toR_at h0 y0) hn28.eq]; try simp only [List.append_assoc, List.cons_append, List.nil_append, List.append_nil]
  have Ln28 := bkCs_len n28 x0
  have f30 : frzT (.cells 59 6 [.agg (fzCs x0)] :: (bkCs n3 x0 ++ (bkCs n6 w ++ (.cells 62 3 [.agg (tvCs n6 w)] :: (bkCs n11 x0 ++ (.cells 67 6 [.agg (tvCs n11 x0)] :: (bkCs n17 w' ++ (.cells 62 3 [.agg (tvCs n17 w')] :: (bkCs n28 x0)))))))) : List TB) 9 (.agg (tvCs n11 x0)) = .agg (fzCs x0) := by
    have := frz_in (A := (.cells 59 6 [.agg (fzCs x0)] :: (bkCs n3 x0 ++ (bkCs n6 w ++ ([.cells 62 3 [.agg (tvCs n6 w)]]))) : List TB)) (B := (.cells 67 6 [.agg (tvCs n11 x0)] :: (bkCs n17 w' ++ (.cells 62 3 [.agg (tvCs n17 w')] :: (bkCs n28 x0))) : List TB)) (w := x0) (n := n11) (by first | (simp only [List.length_append, List.length_cons, List.length_nil, bkC_len, bkCs_len, mkC_nb, mkCs_nb]; done) | (simp only [List.length_append, List.length_cons, List.length_nil, bkC_len, bkCs_len, mkC_nb, mkCs_nb]; omega)) (by first | assumption | (rw [mkCs_dp]; assumption))
    (try simp only [List.append_assoc, List.cons_append, List.nil_append, List.append_nil, mkC_tv, mkCs_tv] at this); (try simp only [List.append_assoc, List.cons_append, List.nil_append, List.append_nil, mkC_tv, mkCs_tv]); exact this
  have f31 : frzT (.cells 59 6 [.agg (fzCs x0)] :: (bkCs n3 x0 ++ (bkCs n6 w ++ (.cells 62 3 [.agg (tvCs n6 w)] :: (bkCs n11 x0 ++ (.cells 67 6 [.agg (tvCs n11 x0)] :: (bkCs n17 w' ++ (.cells 62 3 [.agg (tvCs n17 w')] :: (bkCs n28 x0)))))))) : List TB) 9 (.agg (tvCs n28 x0)) = .agg (fzCs x0) := by
    have := frz_in (A := (.cells 59 6 [.agg (fzCs x0)] :: (bkCs n3 x0 ++ (bkCs n6 w ++ (.cells 62 3 [.agg (tvCs n6 w)] :: (bkCs n11 x0 ++ (.cells 67 6 [.agg (tvCs n11 x0)] :: (bkCs n17 w' ++ ([.cells 62 3 [.agg (tvCs n17 w')]]))))))) : List TB)) (B := ([] : List TB)) (w := x0) (n := n28) (by first | (simp only [List.length_append, List.length_cons, List.length_nil, bkC_len, bkCs_len, mkC_nb, mkCs_nb]; done) | (simp only [List.length_append, List.length_cons, List.length_nil, bkC_len, bkCs_len, mkC_nb, mkCs_nb]; omega)) (by first | assumption | (rw [mkCs_dp]; assumption))
    (try simp only [List.append_assoc, List.cons_append, List.nil_append, List.append_nil, mkC_tv, mkCs_tv] at this); (try simp only [List.append_assoc, List.cons_append, List.nil_append, List.append_nil, mkC_tv, mkCs_tv]); exact this
  have e32_ : ∀ t, (ansSp (eqR_S sh_Net)).fn t [.agg (tvCs n11 x0), .agg (tvCs n28 x0)] (.cells 59 6 [.agg (fzCs x0)] :: (bkCs n3 x0 ++ (bkCs n6 w ++ (.cells 62 3 [.agg (tvCs n6 w)] :: (bkCs n11 x0 ++ (.cells 67 6 [.agg (tvCs n11 x0)] :: (bkCs n17 w' ++ (.cells 62 3 [.agg (tvCs n17 w')] :: (bkCs n28 x0)))))))) : List TB) = some (.p (.bool true), (.cells 59 6 [.agg (fzCs x0)] :: (bkCs n3 x0 ++ (bkCs n6 w ++ (.cells 62 3 [.agg (tvCs n6 w)] :: (bkCs n11 x0 ++ (.cells 67 6 [.agg (tvCs n11 x0)] :: (bkCs n17 w' ++ (.cells 62 3 [.agg (tvCs n17 w')] :: (bkCs n28 x0)))))))) : List TB)) := fun t => call_val (by simp only [List.map_cons, List.map_nil, frz_p, frz_s, frz_agg, frz_fzC, frz_fzCs, f30, f31]; try rfl) (eqR_at (HasR.fit _ _ h0) (Nat.le_trans y0 (by decide)))
  (dsimp only [c5, rO]; simp (maxSteps := 8000000) -implicitDefEqProofs (disch := omega) only [↓reduceIte, go_sem, len0, fzCs_len, fzCs_one, lenS, lenI, tvCs_len, tvCs_one, e0, ↓hn0.eq, g1_, g2_, ↓hn3.eq, e4_, ↓hn6.eq, e7_, ↓hn8.eq, g9_, g9_s, g10_, ↓hn11.eq, e12_, ↓hn13.eq, g14_, g14_s, g15_, ↓hn17.eq, e18_, ↓hn19.eq, g20_, g20_s, g21_, g22_, e25_, g26_, g27_, ↓hn28.eq, e29_, e32_, not_true, decide_false, not_false_eq_true])
  exact endT_p (.inr rfl) (by (simp (maxSteps := 8000000) -implicitDefEqProofs (disch := omega) only [↓reduceIte, go_sem]) <;> rfl) rfl
end Go.Proofs.Ytbddhlhpakbcdaa
