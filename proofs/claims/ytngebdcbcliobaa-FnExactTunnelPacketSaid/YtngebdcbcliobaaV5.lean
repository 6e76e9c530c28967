import Derived.Test.YtngebdcbcliobaaU5
set_option linter.unusedSimpArgs false
set_option linter.unusedVariables false
set_option maxRecDepth 100000
set_option maxHeartbeats 4000000
namespace Go.Proofs.Ytngebdcbcliobaa
open Go Go.AH
attribute [local irreducible] awpT ropsT qopsT stepT condKT gdKT EndT joinK loopKT seqKT blkKT kont kontR
/-! FnExactTunnelPacket -/
-- laws.FnExactTunnelPacket
def c7 : AF := ⟨94,
  (.seq (.reg [⟨(some 11), none, .box 63 (.t 5)⟩,
   ⟨(some 12), none, .mv (.v (.bool false))⟩])
  (.seq (.reg [⟨(some 13), none, .mv (.v (.int .i64 1048576))⟩])
  (.seq (.reg [⟨(some 21), none, .ldn 7 (.t 11)⟩,
   ⟨(some 22), none, .mv (.t 13)⟩,
   ⟨(some 23), none, .call 38 [(.t 21), (.t 22)]⟩,
   ⟨(some 13), none, .mv (.t 23)⟩])
  (.seq (.seq (.reg [⟨(some 24), none, .mv (.t 13)⟩,
   ⟨(some 25), none, .bin .lss (.t 24) (.v (.int .i64 0))⟩])
  (.cond (.t 25) (.seq (.reg [⟨(some 12), none, .mv (.v (.bool true))⟩])
  .ret)
  .skip))
  (.seq (.reg [⟨(some 26), none, .mv (.t 0)⟩,
   ⟨(some 27), none, .mv (.t 1)⟩,
   ⟨(some 28), none, .mv (.t 2)⟩,
   ⟨(some 29), none, .mv (.t 3)⟩,
   ⟨(some 30), none, .mv (.t 4)⟩,
   ⟨(some 31), none, .ldn 7 (.t 11)⟩,
   ⟨(some 32), none, .call 40 [(.t 31)]⟩,
   ⟨(some 33), none, .call 39 [(.t 26), (.t 27), (.t 28), (.t 29), (.t 30), (.t 32)]⟩,
   ⟨(some 14), none, .alloc 66 [(.int .i64 0), (.slice none 0 0)]⟩,
   ⟨none, none, .st 2 (.t 14) (.t 33)⟩])
  (.seq (.reg [⟨(some 34), none, .ldn 7 (.t 11)⟩,
   ⟨(some 35), none, .call 40 [(.t 34)]⟩,
   ⟨(some 15), none, .alloc 68 [(.int .i64 0), (.int .i64 0), (.int .i64 0), (.int .i64 0), (.int .i64 0), (.int .i64 0), (.slice none 0 0)]⟩,
   ⟨none, none, .st 7 (.t 15) (.t 35)⟩])
  (.seq (.reg [⟨(some 36), none, .mv (.t 0)⟩,
   ⟨(some 37), none, .mv (.t 1)⟩,
   ⟨(some 38), none, .mv (.t 2)⟩,
   ⟨(some 39), none, .mv (.t 3)⟩,
   ⟨(some 40), none, .mv (.t 4)⟩,
   ⟨(some 41), none, .ldn 7 (.t 15)⟩,
   ⟨(some 42), none, .call 41 [(.t 36), (.t 37), (.t 38), (.t 39), (.t 40), (.t 41)]⟩,
   ⟨(some 16), none, .alloc 66 [(.int .i64 0), (.slice none 0 0)]⟩,
   ⟨none, none, .st 2 (.t 16) (.t 42)⟩])
  (.seq (.seq (.reg [⟨(some 43), none, .ldn 2 (.t 16)⟩,
   ⟨(some 44), none, .ldn 2 (.t 14)⟩,
   ⟨(some 45), none, .call 42 [(.t 43), (.t 44)]⟩,
   ⟨(some 46), none, .un .not (.t 45)⟩])
  (.cond (.t 46) (.seq (.reg [⟨(some 12), none, .mv (.v (.bool false))⟩])
  .ret)
  .skip))
  (.seq (.seq (.drw [⟨(some 47), none, .ldn 7 (.t 15)⟩,
   ⟨(some 48), none, .ldn 7 (.t 11)⟩,
   ⟨(some 49), none, .call 40 [(.t 48)]⟩] [⟨(some 50), none, .call 43 [(.t 47), (.t 49)]⟩,
   ⟨(some 51), none, .un .not (.t 50)⟩])
  (.cond (.t 51) (.seq (.reg [⟨(some 12), none, .mv (.v (.bool false))⟩])
  .ret)
  .skip))
  (.seq (.reg [⟨(some 17), none, .mv (.v (.int .i64 1))⟩])
  (.seq (.reg [⟨(some 52), none, .ldn 7 (.t 15)⟩,
   ⟨(some 53), none, .mv (.t 17)⟩,
   ⟨(some 54), none, .call 44 [(.t 52), (.t 53)]⟩,
   ⟨(some 17), none, .mv (.t 54)⟩])
  (.seq (.seq (.reg [⟨(some 55), none, .mv (.t 17)⟩,
   ⟨(some 56), none, .bin .lss (.t 55) (.v (.int .i64 0))⟩,
   ⟨(some 57), none, .mv (.t 56)⟩,
   ⟨(some 58), (some (57, false)), .ldn 2 (.t 16)⟩,
   ⟨(some 59), (some (57, false)), .ldn 2 (.t 14)⟩,
   ⟨(some 60), (some (57, false)), .call 42 [(.t 58), (.t 59)]⟩,
   ⟨(some 61), (some (57, false)), .un .not (.t 60)⟩,
   ⟨(some 62), none, .pick (.t 57) (.v (.bool true)) (.t 61)⟩])
  (.cond (.t 62) (.seq (.reg [⟨(some 12), none, .mv (.v (.bool false))⟩])
  .ret)
  .skip))
  (.seq (.reg [⟨(some 18), none, .mv (.v (.int .i64 1))⟩])
  (.seq (.reg [⟨(some 63), none, .ldn 2 (.t 16)⟩,
   ⟨(some 64), none, .mv (.t 18)⟩,
   ⟨(some 65), none, .call 45 [(.t 63), (.t 64)]⟩,
   ⟨(some 18), none, .mv (.t 65)⟩])
  (.seq (.reg [⟨(some 19), none, .mv (.v (.int .i64 1))⟩])
  (.seq (.reg [⟨(some 66), none, .ldn 2 (.t 16)⟩,
   ⟨(some 67), none, .mv (.t 19)⟩,
   ⟨(some 68), none, .call 46 [(.t 66), (.t 67)]⟩,
   ⟨(some 19), none, .mv (.t 68)⟩])
  (.seq (.seq (.reg [⟨(some 69), none, .mv (.t 19)⟩,
   ⟨(some 70), none, .bin .lss (.t 69) (.v (.int .i64 0))⟩])
  (.cond (.t 70) (.seq (.reg [⟨(some 12), none, .mv (.v (.bool false))⟩])
  .ret)
  .skip))
  (.seq (.seq (.reg [⟨(some 71), none, .mv (.t 19)⟩,
   ⟨(some 72), none, .mv (.t 18)⟩,
   ⟨(some 73), none, .bin .neq (.t 71) (.t 72)⟩])
  (.cond (.t 73) (.seq (.reg [⟨(some 12), none, .mv (.v (.bool false))⟩])
  .ret)
  .skip))
  (.seq (.reg [⟨(some 74), none, .mv (.t 0)⟩,
   ⟨(some 75), none, .mv (.t 1)⟩,
   ⟨(some 76), none, .mv (.t 2)⟩,
   ⟨(some 77), none, .mv (.t 3)⟩,
   ⟨(some 78), none, .mv (.t 4)⟩,
   ⟨(some 79), none, .ldn 7 (.t 11)⟩,
   ⟨(some 80), none, .call 40 [(.t 79)]⟩,
   ⟨(some 81), none, .call 41 [(.t 74), (.t 75), (.t 76), (.t 77), (.t 78), (.t 80)]⟩,
   ⟨(some 20), none, .alloc 66 [(.int .i64 0), (.slice none 0 0)]⟩,
   ⟨none, none, .st 2 (.t 20) (.t 81)⟩])
  (.seq (.seq (.reg [⟨(some 82), none, .ldn 2 (.t 20)⟩,
   ⟨(some 83), none, .ldn 2 (.t 14)⟩,
   ⟨(some 84), none, .call 42 [(.t 82), (.t 83)]⟩,
   ⟨(some 85), none, .un .not (.t 84)⟩])
  (.cond (.t 85) (.seq (.reg [⟨(some 12), none, .mv (.v (.bool false))⟩])
  .ret)
  .skip))
  (.seq (.reg [⟨(some 19), none, .mv (.v (.int .i64 1))⟩])
  (.seq (.reg [⟨(some 86), none, .ldn 2 (.t 16)⟩,
   ⟨(some 87), none, .mv (.t 19)⟩,
   ⟨(some 88), none, .call 46 [(.t 86), (.t 87)]⟩,
   ⟨(some 19), none, .mv (.t 88)⟩])
  (.seq (.seq (.reg [⟨(some 89), none, .mv (.t 19)⟩,
   ⟨(some 90), none, .bin .lss (.t 89) (.v (.int .i64 0))⟩])
  (.cond (.t 90) (.seq (.reg [⟨(some 12), none, .mv (.v (.bool false))⟩])
  .ret)
  .skip))
  (.seq (.seq (.reg [⟨(some 91), none, .mv (.t 19)⟩,
   ⟨(some 92), none, .mv (.t 18)⟩,
   ⟨(some 93), none, .bin .neq (.t 91) (.t 92)⟩])
  (.cond (.t 93) (.seq (.reg [⟨(some 12), none, .mv (.v (.bool false))⟩])
  .ret)
  .skip))
  (.seq (.reg [⟨(some 12), none, .mv (.v (.bool true))⟩])
  .ret))))))))))))))))))))))))),
  [.t 12]⟩
theorem k7 : cFn Try.prog Try.f7 = some c7 := by kernel_rfl
theorem law_TunnelPacket {Ss Si : List TV → Option (TV × THeap)} (okS : OkT Try.prog 39 (pureSp Ss)) (okI : OkT Try.prog 41 (pureSp Si)) (H : ∀ (x0 : Int) (x1 : Int) (x2 : Int) (x3 : Int) (x4 : Int) (x5 : List Cell), HasR sh_Packet x5 → szCs x5 ≤ 1048576 → ∃ w w', Ss [.p (.int .i64 x0), .p (.int .i64 x1), .p (.int .i64 x2), .p (.int .i64 x3), .p (.int .i64 x4), .agg (fzCs x5)] = some (.agg (tvCs 0 w), bkCs 0 w) ∧ Si [.p (.int .i64 x0), .p (.int .i64 x1), .p (.int .i64 x2), .p (.int .i64 x3), .p (.int .i64 x4), .agg (fzCs x5)] = some (.agg (tvCs 0 w'), bkCs 0 w') ∧ fzCs w = fzCs w' ∧ FitR sh_BytesResult w ∧ FitR sh_BytesResult w' ∧ szCs w ≤ 1073741824 ∧ szCs w' ≤ 1073741824) : OkT Try.prog 7 (pureSp (tvSp (fun a => ∃ (x0 : Int) (x1 : Int) (x2 : Int) (x3 : Int) (x4 : Int) (x5 : List Cell), a = [.p (.int .i64 x0), .p (.int .i64 x1), .p (.int .i64 x2), .p (.int .i64 x3), .p (.int .i64 x4), .agg (fzCs x5)] ∧ HasR sh_Packet x5 ∧ lnCs x5 = true) (fun _ => (.p (.bool true), [])))) := by
  refine okT_tv (OkΓT.cons szPacket_ok (OkΓT.cons (tsp := ansSp (toR_S sh_Packet)) toPacket_ok (OkΓT.cons (tsp := ansSp Ss) okS (OkΓT.cons (tsp := ansSp Si) okI (OkΓT.cons (tsp := ansSp (eqR_S sh_BytesResult)) eqBytesResult_ok (OkΓT.cons (tsp := ansSp (eqR_S sh_Packet)) eqPacket_ok (OkΓT.cons markPacket_ok (OkΓT.cons markBytesResult_ok (OkΓT.cons (tsp := ansSp (hdR_S sh_BytesResult)) heldBytesResult_ok (OkΓT.nil _)))))))))) Try.func7 (by kernel_rfl) k7 (fun x hx => ⟨rfl, rfl⟩) ?_
  rintro _ ⟨x0, x1, x2, x3, x4, x5, rfl, h5, z5⟩
  have len5 : x5.length = 7 := HasR.len h5
  have e5 := szR_at (k := 1048576) h5 (by omega) z5
  by_cases q5 : (szCs x5 : Int) ≤ 1048576
  case neg =>
    rw [if_neg q5] at e5
    (dsimp only [c7]; simp (maxSteps := 8000000) (implicitDefEqProofs := false) (disch := omega) only [↓reduceIte, go_sem, if_pos, if_neg, len5, fzCs_len, fzCs_one, e5])
    repeat' first
      | (refine gdKT_dec (fun hg => ?_) (fun hg => ?_) <;> (try (first | simp (maxSteps := 8000000) (implicitDefEqProofs := false) (disch := omega) only [↓reduceIte, go_sem, if_pos, if_neg, eq_false hg, len5, fzCs_len, fzCs_one, e5] | simp (maxSteps := 8000000) (implicitDefEqProofs := false) (disch := omega) only [↓reduceIte, go_sem, if_pos, if_neg, eq_true hg, len5, fzCs_len, fzCs_one, e5])))
      | (refine condKT_dec (fun hg => ?_) (fun hg => ?_) <;> (try (first | simp (maxSteps := 8000000) (implicitDefEqProofs := false) (disch := omega) only [↓reduceIte, go_sem, if_pos, if_neg, eq_false hg, len5, fzCs_len, fzCs_one, e5] | simp (maxSteps := 8000000) (implicitDefEqProofs := false) (disch := omega) only [↓reduceIte, go_sem, if_pos, if_neg, eq_true hg, len5, fzCs_len, fzCs_one, e5])))
      | (refine gdKT_split (fun hg => ?_) (fun hg => ?_) <;> (try simp (maxSteps := 8000000) (implicitDefEqProofs := false) (disch := omega) only [↓reduceIte, go_sem, if_pos, if_neg, hg, len5, fzCs_len, fzCs_one, e5]))
      | (refine condKT_split (fun hg => ?_) (fun hg => ?_) <;> (try simp (maxSteps := 8000000) (implicitDefEqProofs := false) (disch := omega) only [↓reduceIte, go_sem, if_pos, if_neg, hg, len5, fzCs_len, fzCs_one, e5]))
      | (refine endT_p (.inr rfl) (by simp (maxSteps := 8000000) (implicitDefEqProofs := false) (disch := omega) only [↓reduceIte, go_sem, if_pos, if_neg, len5, fzCs_len, fzCs_one, e5]; rfl) ?_; (first | exact vb_true (by omega) | exact vb_false (by omega) | exact vb_dec (by omega) | exact vi_eq (by omega) | rfl | (refine vi_eq ?_; simp_all; done) | (refine vi_eq ?_; simp_all; omega) | (refine vi_eq ?_; simp_all; intros; omega)))
      | exact endT_v (.inr rfl) (by simp (maxSteps := 8000000) (implicitDefEqProofs := false) (disch := omega) only [↓reduceIte, go_sem, if_pos, if_neg, len5, fzCs_len, fzCs_one, e5]; try rfl) (fun _ => rfl)
  rw [if_pos q5] at e5
  have y5 : szCs x5 ≤ 1048576 := by omega
  obtain ⟨w, w', wS, wI, wE, fS, fI, sS, sI⟩ := H x0 x1 x2 x3 x4 x5 h5 y5
  have lenS : w.length = 2 := FitR.len fS
  have lenI : w'.length = 2 := FitR.len fI
  have dS : dpCs w ≤ 9 := Nat.le_trans (FitR.dp _ _ fS) (of_decide_eq_true (by rfl))
  have dI : dpCs w' ≤ 9 := Nat.le_trans (FitR.dp _ _ fI) (of_decide_eq_true (by rfl))
  have mI : wtCs w' ≤ 64 * 1073741824 := FitR.w fI (of_decide_eq_true (by rfl)) sI
  have d5 : dpCs x5 ≤ 9 := Nat.le_trans (FitR.dp _ _ (HasR.fit _ _ h5)) (of_decide_eq_true (by rfl))
  have m5 : wtCs x5 ≤ 64 * 1048576 := FitR.w (HasR.fit _ _ h5) (of_decide_eq_true (by rfl)) y5
  obtain ⟨n0, hn0⟩ := isLen_ex ([] : List TB)
  have ln0 := hn0.eq
  simp only [List.length_append, List.length_cons, List.length_nil, bkC_len, bkCs_len, mkC_nb, mkCs_nb] at ln0
  have g1_ := hold_get (A := ([] : List TB)) (R := ([] : List TB)) (n := n0) (by first | (simp only [List.length_append, List.length_cons, List.length_nil, bkC_len, bkCs_len, mkC_nb, mkCs_nb]; done) | (simp only [List.length_append, List.length_cons, List.length_nil, bkC_len, bkCs_len, mkC_nb, mkCs_nb]; omega))
  try simp only [List.append_assoc, List.cons_append, List.nil_append, List.append_nil] at g1_
  have g2_ := hold_get (A := ([] : List TB)) (R := ([] : List TB)) (n := n0) (by first | (simp only [List.length_append, List.length_cons, List.length_nil, bkC_len, bkCs_len, mkC_nb, mkCs_nb]; done) | (simp only [List.length_append, List.length_cons, List.length_nil, bkC_len, bkCs_len, mkC_nb, mkCs_nb]; omega))
  try simp only [List.append_assoc, List.cons_append, List.nil_append, List.append_nil] at g2_
  obtain ⟨n3, hn3⟩ := isLen_ex ([.cells 63 7 [.agg (fzCs x5)]] : List TB)
  have ln3 := hn3.eq
  simp only [List.length_append, List.length_cons, List.length_nil, bkC_len, bkCs_len, mkC_nb, mkCs_nb] at ln3
  have e4_ : ∀ t, (ansSp (toR_S sh_Packet)).fn t [.agg (fzCs x5)] ([.cells 63 7 [.agg (fzCs x5)]] : List TB) = some (.agg (tvCs n3 x5), (.cells 63 7 [.agg (fzCs x5)] :: (bkCs n3 x5) : List TB)) := fun t => by
    rw [call_new (by simp only [List.map_cons, List.map_nil, frz_p, frz_s, frz_agg, frz_fzC, frz_fzCs]; try rfl) (toR_at h5 y5) hn3.eq]; try simp only [List.append_assoc, List.cons_append, List.nil_append, List.append_nil]
  have Ln3 := bkCs_len n3 x5
  have f5 : frzT (.cells 63 7 [.agg (fzCs x5)] :: (bkCs n3 x5) : List TB) 9 (.agg (tvCs n3 x5)) = .agg (fzCs x5) := by
    have := frz_in (A := ([.cells 63 7 [.agg (fzCs x5)]] : List TB)) (B := ([] : List TB)) (w := x5) (n := n3) (by first | (simp only [List.length_append, List.length_cons, List.length_nil, bkC_len, bkCs_len, mkC_nb, mkCs_nb]; done) | (simp only [List.length_append, List.length_cons, List.length_nil, bkC_len, bkCs_len, mkC_nb, mkCs_nb]; omega)) (by first | assumption | (rw [mkCs_dp]; assumption))
    (try simp only [List.append_assoc, List.cons_append, List.nil_append, List.append_nil, mkC_tv, mkCs_tv] at this); (try simp only [List.append_assoc, List.cons_append, List.nil_append, List.append_nil, mkC_tv, mkCs_tv]); exact this
  obtain ⟨n6, hn6⟩ := isLen_ex (.cells 63 7 [.agg (fzCs x5)] :: (bkCs n3 x5) : List TB)
  have ln6 := hn6.eq
  simp only [List.length_append, List.length_cons, List.length_nil, bkC_len, bkCs_len, mkC_nb, mkCs_nb] at ln6
  have e7_ : ∀ t, (ansSp Ss).fn t [.p (.int .i64 x0), .p (.int .i64 x1), .p (.int .i64 x2), .p (.int .i64 x3), .p (.int .i64 x4), .agg (tvCs n3 x5)] (.cells 63 7 [.agg (fzCs x5)] :: (bkCs n3 x5) : List TB) = some (.agg (tvCs n6 w), (.cells 63 7 [.agg (fzCs x5)] :: (bkCs n3 x5 ++ (bkCs n6 w)) : List TB)) := fun t => by
    rw [call_new (by simp only [List.map_cons, List.map_nil, frz_p, frz_s, frz_agg, frz_fzC, frz_fzCs, f5]; try rfl) (wS) hn6.eq]; try simp only [List.append_assoc, List.cons_append, List.nil_append, List.append_nil]
  have Ln6 := bkCs_len n6 w
  obtain ⟨n8, hn8⟩ := isLen_ex (.cells 63 7 [.agg (fzCs x5)] :: (bkCs n3 x5 ++ (bkCs n6 w)) : List TB)
  have ln8 := hn8.eq
  simp only [List.length_append, List.length_cons, List.length_nil, bkC_len, bkCs_len, mkC_nb, mkCs_nb] at ln8
  have g9_ := hold_get (A := (.cells 63 7 [.agg (fzCs x5)] :: (bkCs n3 x5 ++ (bkCs n6 w)) : List TB)) (R := ([] : List TB)) (n := n8) (by first | (simp only [List.length_append, List.length_cons, List.length_nil, bkC_len, bkCs_len, mkC_nb, mkCs_nb]; done) | (simp only [List.length_append, List.length_cons, List.length_nil, bkC_len, bkCs_len, mkC_nb, mkCs_nb]; omega))
  try simp only [List.append_assoc, List.cons_append, List.nil_append, List.append_nil] at g9_
  have g9_s := hold_set (A := (.cells 63 7 [.agg (fzCs x5)] :: (bkCs n3 x5 ++ (bkCs n6 w)) : List TB)) (R := ([] : List TB)) (n := n8) (by first | (simp only [List.length_append, List.length_cons, List.length_nil, bkC_len, bkCs_len, mkC_nb, mkCs_nb]; done) | (simp only [List.length_append, List.length_cons, List.length_nil, bkC_len, bkCs_len, mkC_nb, mkCs_nb]; omega))
  try simp only [List.append_assoc, List.cons_append, List.nil_append, List.append_nil] at g9_s
  have g10_ := hold_get (A := ([] : List TB)) (R := (bkCs n3 x5 ++ (bkCs n6 w ++ ([.cells 66 2 [.agg (tvCs n6 w)]])) : List TB)) (n := n0) (by first | (simp only [List.length_append, List.length_cons, List.length_nil, bkC_len, bkCs_len, mkC_nb, mkCs_nb]; done) | (simp only [List.length_append, List.length_cons, List.length_nil, bkC_len, bkCs_len, mkC_nb, mkCs_nb]; omega))
  try simp only [List.append_assoc, List.cons_append, List.nil_append, List.append_nil] at g10_
  obtain ⟨n11, hn11⟩ := isLen_ex (.cells 63 7 [.agg (fzCs x5)] :: (bkCs n3 x5 ++ (bkCs n6 w ++ ([.cells 66 2 [.agg (tvCs n6 w)]]))) : List TB)
  have ln11 := hn11.eq
  simp only [List.length_append, List.length_cons, List.length_nil, bkC_len, bkCs_len, mkC_nb, mkCs_nb] at ln11
  have e12_ : ∀ t, (ansSp (toR_S sh_Packet)).fn t [.agg (fzCs x5)] (.cells 63 7 [.agg (fzCs x5)] :: (bkCs n3 x5 ++ (bkCs n6 w ++ ([.cells 66 2 [.agg (tvCs n6 w)]]))) : List TB) = some (.agg (tvCs n11 x5), (.cells 63 7 [.agg (fzCs x5)] :: (bkCs n3 x5 ++ (bkCs n6 w ++ (.cells 66 2 [.agg (tvCs n6 w)] :: (bkCs n11 x5)))) : List TB)) := fun t => by
    rw [call_new (by simp only [List.map_cons, List.map_nil, frz_p, frz_s, frz_agg, frz_fzC, frz_fzCs]; try rfl) (toR_at h5 y5) hn11.eq]; try simp only [List.append_assoc, List.cons_append, List.nil_append, List.append_nil]
  have Ln11 := bkCs_len n11 x5
  obtain ⟨n13, hn13⟩ := isLen_ex (.cells 63 7 [.agg (fzCs x5)] :: (bkCs n3 x5 ++ (bkCs n6 w ++ (.cells 66 2 [.agg (tvCs n6 w)] :: (bkCs n11 x5)))) : List TB)
  have ln13 := hn13.eq
  simp only [List.length_append, List.length_cons, List.length_nil, bkC_len, bkCs_len, mkC_nb, mkCs_nb] at ln13
  have g14_ := hold_get (A := (.cells 63 7 [.agg (fzCs x5)] :: (bkCs n3 x5 ++ (bkCs n6 w ++ (.cells 66 2 [.agg (tvCs n6 w)] :: (bkCs n11 x5)))) : List TB)) (R := ([] : List TB)) (n := n13) (by first | (simp only [List.length_append, List.length_cons, List.length_nil, bkC_len, bkCs_len, mkC_nb, mkCs_nb]; done) | (simp only [List.length_append, List.length_cons, List.length_nil, bkC_len, bkCs_len, mkC_nb, mkCs_nb]; omega))
  try simp only [List.append_assoc, List.cons_append, List.nil_append, List.append_nil] at g14_
  have g14_s := hold_set (A := (.cells 63 7 [.agg (fzCs x5)] :: (bkCs n3 x5 ++ (bkCs n6 w ++ (.cells 66 2 [.agg (tvCs n6 w)] :: (bkCs n11 x5)))) : List TB)) (R := ([] : List TB)) (n := n13) (by first | (simp only [List.length_append, List.length_cons, List.length_nil, bkC_len, bkCs_len, mkC_nb, mkCs_nb]; done) | (simp only [List.length_append, List.length_cons, List.length_nil, bkC_len, bkCs_len, mkC_nb, mkCs_nb]; omega))
  try simp only [List.append_assoc, List.cons_append, List.nil_append, List.append_nil] at g14_s
  have g15_ := hold_get (A := (.cells 63 7 [.agg (fzCs x5)] :: (bkCs n3 x5 ++ (bkCs n6 w ++ (.cells 66 2 [.agg (tvCs n6 w)] :: (bkCs n11 x5)))) : List TB)) (R := ([] : List TB)) (n := n13) (by first | (simp only [List.length_append, List.length_cons, List.length_nil, bkC_len, bkCs_len, mkC_nb, mkCs_nb]; done) | (simp only [List.length_append, List.length_cons, List.length_nil, bkC_len, bkCs_len, mkC_nb, mkCs_nb]; omega))
  try simp only [List.append_assoc, List.cons_append, List.nil_append, List.append_nil] at g15_
  have f16 : frzT (.cells 63 7 [.agg (fzCs x5)] :: (bkCs n3 x5 ++ (bkCs n6 w ++ (.cells 66 2 [.agg (tvCs n6 w)] :: (bkCs n11 x5 ++ ([.cells 68 7 [.agg (tvCs n11 x5)]]))))) : List TB) 9 (.agg (tvCs n11 x5)) = .agg (fzCs x5) := by
    have := frz_in (A := (.cells 63 7 [.agg (fzCs x5)] :: (bkCs n3 x5 ++ (bkCs n6 w ++ ([.cells 66 2 [.agg (tvCs n6 w)]]))) : List TB)) (B := ([.cells 68 7 [.agg (tvCs n11 x5)]] : List TB)) (w := x5) (n := n11) (by first | (simp only [List.length_append, List.length_cons, List.length_nil, bkC_len, bkCs_len, mkC_nb, mkCs_nb]; done) | (simp only [List.length_append, List.length_cons, List.length_nil, bkC_len, bkCs_len, mkC_nb, mkCs_nb]; omega)) (by first | assumption | (rw [mkCs_dp]; assumption))
    (try simp only [List.append_assoc, List.cons_append, List.nil_append, List.append_nil, mkC_tv, mkCs_tv] at this); (try simp only [List.append_assoc, List.cons_append, List.nil_append, List.append_nil, mkC_tv, mkCs_tv]); exact this
  obtain ⟨n17, hn17⟩ := isLen_ex (.cells 63 7 [.agg (fzCs x5)] :: (bkCs n3 x5 ++ (bkCs n6 w ++ (.cells 66 2 [.agg (tvCs n6 w)] :: (bkCs n11 x5 ++ ([.cells 68 7 [.agg (tvCs n11 x5)]]))))) : List TB)
  have ln17 := hn17.eq
  simp only [List.length_append, List.length_cons, List.length_nil, bkC_len, bkCs_len, mkC_nb, mkCs_nb] at ln17
  have e18_ : ∀ t, (ansSp Si).fn t [.p (.int .i64 x0), .p (.int .i64 x1), .p (.int .i64 x2), .p (.int .i64 x3), .p (.int .i64 x4), .agg (tvCs n11 x5)] (.cells 63 7 [.agg (fzCs x5)] :: (bkCs n3 x5 ++ (bkCs n6 w ++ (.cells 66 2 [.agg (tvCs n6 w)] :: (bkCs n11 x5 ++ ([.cells 68 7 [.agg (tvCs n11 x5)]]))))) : List TB) = some (.agg (tvCs n17 w'), (.cells 63 7 [.agg (fzCs x5)] :: (bkCs n3 x5 ++ (bkCs n6 w ++ (.cells 66 2 [.agg (tvCs n6 w)] :: (bkCs n11 x5 ++ (.cells 68 7 [.agg (tvCs n11 x5)] :: (bkCs n17 w')))))) : List TB)) := fun t => by
    rw [call_new (by simp only [List.map_cons, List.map_nil, frz_p, frz_s, frz_agg, frz_fzC, frz_fzCs, f16]; try rfl) (wI) hn17.eq]; try simp only [List.append_assoc, List.cons_append, List.nil_append, List.append_nil]
  have Ln17 := bkCs_len n17 w'
  obtain ⟨n19, hn19⟩ := isLen_ex (.cells 63 7 [.agg (fzCs x5)] :: (bkCs n3 x5 ++ (bkCs n6 w ++ (.cells 66 2 [.agg (tvCs n6 w)] :: (bkCs n11 x5 ++ (.cells 68 7 [.agg (tvCs n11 x5)] :: (bkCs n17 w')))))) : List TB)
  have ln19 := hn19.eq
  simp only [List.length_append, List.length_cons, List.length_nil, bkC_len, bkCs_len, mkC_nb, mkCs_nb] at ln19
  have g20_ := hold_get (A := (.cells 63 7 [.agg (fzCs x5)] :: (bkCs n3 x5 ++ (bkCs n6 w ++ (.cells 66 2 [.agg (tvCs n6 w)] :: (bkCs n11 x5 ++ (.cells 68 7 [.agg (tvCs n11 x5)] :: (bkCs n17 w')))))) : List TB)) (R := ([] : List TB)) (n := n19) (by first | (simp only [List.length_append, List.length_cons, List.length_nil, bkC_len, bkCs_len, mkC_nb, mkCs_nb]; done) | (simp only [List.length_append, List.length_cons, List.length_nil, bkC_len, bkCs_len, mkC_nb, mkCs_nb]; omega))
  try simp only [List.append_assoc, List.cons_append, List.nil_append, List.append_nil] at g20_
  have g20_s := hold_set (A := (.cells 63 7 [.agg (fzCs x5)] :: (bkCs n3 x5 ++ (bkCs n6 w ++ (.cells 66 2 [.agg (tvCs n6 w)] :: (bkCs n11 x5 ++ (.cells 68 7 [.agg (tvCs n11 x5)] :: (bkCs n17 w')))))) : List TB)) (R := ([] : List TB)) (n := n19) (by first | (simp only [List.length_append, List.length_cons, List.length_nil, bkC_len, bkCs_len, mkC_nb, mkCs_nb]; done) | (simp only [List.length_append, List.length_cons, List.length_nil, bkC_len, bkCs_len, mkC_nb, mkCs_nb]; omega))
  try simp only [List.append_assoc, List.cons_append, List.nil_append, List.append_nil] at g20_s
  have g21_ := hold_get (A := (.cells 63 7 [.agg (fzCs x5)] :: (bkCs n3 x5 ++ (bkCs n6 w ++ (.cells 66 2 [.agg (tvCs n6 w)] :: (bkCs n11 x5 ++ (.cells 68 7 [.agg (tvCs n11 x5)] :: (bkCs n17 w')))))) : List TB)) (R := ([] : List TB)) (n := n19) (by first | (simp only [List.length_append, List.length_cons, List.length_nil, bkC_len, bkCs_len, mkC_nb, mkCs_nb]; done) | (simp only [List.length_append, List.length_cons, List.length_nil, bkC_len, bkCs_len, mkC_nb, mkCs_nb]; omega))
  try simp only [List.append_assoc, List.cons_append, List.nil_append, List.append_nil] at g21_
  have g22_ := hold_get (A := (.cells 63 7 [.agg (fzCs x5)] :: (bkCs n3 x5 ++ (bkCs n6 w)) : List TB)) (R := (bkCs n11 x5 ++ (.cells 68 7 [.agg (tvCs n11 x5)] :: (bkCs n17 w' ++ ([.cells 66 2 [.agg (tvCs n17 w')]]))) : List TB)) (n := n8) (by first | (simp only [List.length_append, List.length_cons, List.length_nil, bkC_len, bkCs_len, mkC_nb, mkCs_nb]; done) | (simp only [List.length_append, List.length_cons, List.length_nil, bkC_len, bkCs_len, mkC_nb, mkCs_nb]; omega))
  try simp only [List.append_assoc, List.cons_append, List.nil_append, List.append_nil] at g22_
  have f23 : frzT (.cells 63 7 [.agg (fzCs x5)] :: (bkCs n3 x5 ++ (bkCs n6 w ++ (.cells 66 2 [.agg (tvCs n6 w)] :: (bkCs n11 x5 ++ (.cells 68 7 [.agg (tvCs n11 x5)] :: (bkCs n17 w' ++ ([.cells 66 2 [.agg (tvCs n17 w')]]))))))) : List TB) 9 (.agg (tvCs n17 w')) = .agg (fzCs w') := by
    have := frz_in (A := (.cells 63 7 [.agg (fzCs x5)] :: (bkCs n3 x5 ++ (bkCs n6 w ++ (.cells 66 2 [.agg (tvCs n6 w)] :: (bkCs n11 x5 ++ ([.cells 68 7 [.agg (tvCs n11 x5)]]))))) : List TB)) (B := ([.cells 66 2 [.agg (tvCs n17 w')]] : List TB)) (w := w') (n := n17) (by first | (simp only [List.length_append, List.length_cons, List.length_nil, bkC_len, bkCs_len, mkC_nb, mkCs_nb]; done) | (simp only [List.length_append, List.length_cons, List.length_nil, bkC_len, bkCs_len, mkC_nb, mkCs_nb]; omega)) (by first | assumption | (rw [mkCs_dp]; assumption))
    (try simp only [List.append_assoc, List.cons_append, List.nil_append, List.append_nil, mkC_tv, mkCs_tv] at this); (try simp only [List.append_assoc, List.cons_append, List.nil_append, List.append_nil, mkC_tv, mkCs_tv]); exact this
  have f24 : frzT (.cells 63 7 [.agg (fzCs x5)] :: (bkCs n3 x5 ++ (bkCs n6 w ++ (.cells 66 2 [.agg (tvCs n6 w)] :: (bkCs n11 x5 ++ (.cells 68 7 [.agg (tvCs n11 x5)] :: (bkCs n17 w' ++ ([.cells 66 2 [.agg (tvCs n17 w')]]))))))) : List TB) 9 (.agg (tvCs n6 w)) = .agg (fzCs w) := by
    have := frz_in (A := (.cells 63 7 [.agg (fzCs x5)] :: (bkCs n3 x5) : List TB)) (B := (.cells 66 2 [.agg (tvCs n6 w)] :: (bkCs n11 x5 ++ (.cells 68 7 [.agg (tvCs n11 x5)] :: (bkCs n17 w' ++ ([.cells 66 2 [.agg (tvCs n17 w')]])))) : List TB)) (w := w) (n := n6) (by first | (simp only [List.length_append, List.length_cons, List.length_nil, bkC_len, bkCs_len, mkC_nb, mkCs_nb]; done) | (simp only [List.length_append, List.length_cons, List.length_nil, bkC_len, bkCs_len, mkC_nb, mkCs_nb]; omega)) (by first | assumption | (rw [mkCs_dp]; assumption))
    (try simp only [List.append_assoc, List.cons_append, List.nil_append, List.append_nil, mkC_tv, mkCs_tv] at this); (try simp only [List.append_assoc, List.cons_append, List.nil_append, List.append_nil, mkC_tv, mkCs_tv]); exact this
  have e25_ : ∀ t, (ansSp (eqR_S sh_BytesResult)).fn t [.agg (tvCs n17 w'), .agg (tvCs n6 w)] (.cells 63 7 [.agg (fzCs x5)] :: (bkCs n3 x5 ++ (bkCs n6 w ++ (.cells 66 2 [.agg (tvCs n6 w)] :: (bkCs n11 x5 ++ (.cells 68 7 [.agg (tvCs n11 x5)] :: (bkCs n17 w' ++ ([.cells 66 2 [.agg (tvCs n17 w')]]))))))) : List TB) = some (.p (.bool true), (.cells 63 7 [.agg (fzCs x5)] :: (bkCs n3 x5 ++ (bkCs n6 w ++ (.cells 66 2 [.agg (tvCs n6 w)] :: (bkCs n11 x5 ++ (.cells 68 7 [.agg (tvCs n11 x5)] :: (bkCs n17 w' ++ ([.cells 66 2 [.agg (tvCs n17 w')]]))))))) : List TB)) := fun t => call_val (by simp only [List.map_cons, List.map_nil, frz_p, frz_s, frz_agg, frz_fzC, frz_fzCs, wE, f23, f24]; try rfl) (eqR_at fI (Nat.le_trans sI (by decide)))
  have g26_ := hold_get (A := (.cells 63 7 [.agg (fzCs x5)] :: (bkCs n3 x5 ++ (bkCs n6 w ++ (.cells 66 2 [.agg (tvCs n6 w)] :: (bkCs n11 x5)))) : List TB)) (R := (bkCs n17 w' ++ ([.cells 66 2 [.agg (tvCs n17 w')]]) : List TB)) (n := n13) (by first | (simp only [List.length_append, List.length_cons, List.length_nil, bkC_len, bkCs_len, mkC_nb, mkCs_nb]; done) | (simp only [List.length_append, List.length_cons, List.length_nil, bkC_len, bkCs_len, mkC_nb, mkCs_nb]; omega))
  try simp only [List.append_assoc, List.cons_append, List.nil_append, List.append_nil] at g26_
  have g27_ := hold_get (A := ([] : List TB)) (R := (bkCs n3 x5 ++ (bkCs n6 w ++ (.cells 66 2 [.agg (tvCs n6 w)] :: (bkCs n11 x5 ++ (.cells 68 7 [.agg (tvCs n11 x5)] :: (bkCs n17 w' ++ ([.cells 66 2 [.agg (tvCs n17 w')]])))))) : List TB)) (n := n0) (by first | (simp only [List.length_append, List.length_cons, List.length_nil, bkC_len, bkCs_len, mkC_nb, mkCs_nb]; done) | (simp only [List.length_append, List.length_cons, List.length_nil, bkC_len, bkCs_len, mkC_nb, mkCs_nb]; omega))
  try simp only [List.append_assoc, List.cons_append, List.nil_append, List.append_nil] at g27_
  obtain ⟨n28, hn28⟩ := isLen_ex (.cells 63 7 [.agg (fzCs x5)] :: (bkCs n3 x5 ++ (bkCs n6 w ++ (.cells 66 2 [.agg (tvCs n6 w)] :: (bkCs n11 x5 ++ (.cells 68 7 [.agg (tvCs n11 x5)] :: (bkCs n17 w' ++ ([.cells 66 2 [.agg (tvCs n17 w')]]))))))) : List TB)
  have ln28 := hn28.eq
  simp only [List.length_append, List.length_cons, List.length_nil, bkC_len, bkCs_len, mkC_nb, mkCs_nb] at ln28
  have e29_ : ∀ t, (ansSp (toR_S sh_Packet)).fn t [.agg (fzCs x5)] (.cells 63 7 [.agg (fzCs x5)] :: (bkCs n3 x5 ++ (bkCs n6 w ++ (.cells 66 2 [.agg (tvCs n6 w)] :: (bkCs n11 x5 ++ (.cells 68 7 [.agg (tvCs n11 x5)] :: (bkCs n17 w' ++ ([.cells 66 2 [.agg (tvCs n17 w')]]))))))) : List TB) = some (.agg (tvCs n28 x5), (.cells 63 7 [.agg (fzCs x5)] :: (bkCs n3 x5 ++ (bkCs n6 w ++ (.cells 66 2 [.agg (tvCs n6 w)] :: (bkCs n11 x5 ++ (.cells 68 7 [.agg (tvCs n11 x5)] :: (bkCs n17 w' ++ (.cells 66 2 [.agg (tvCs n17 w')] :: (bkCs n28 x5)))))))) : List TB)) := fun t => by
    rw [call_new (by simp only [List.map_cons, List.map_nil, frz_p, frz_s, frz_agg, frz_fzC, frz_fzCs]; try rfl) (toR_at h5 y5) hn28.eq]; try simp only [List.append_assoc, List.cons_append, List.nil_append, List.append_nil]
  have Ln28 := bkCs_len n28 x5
  have f30 : frzT (.cells 63 7 [.agg (fzCs x5)] :: (bkCs n3 x5 ++ (bkCs n6 w ++ (.cells 66 2 [.agg (tvCs n6 w)] :: (bkCs n11 x5 ++ (.cells 68 7 [.agg (tvCs n11 x5)] :: (bkCs n17 w' ++ (.cells 66 2 [.agg (tvCs n17 w')] :: (bkCs n28 x5)))))))) : List TB) 9 (.agg (tvCs n11 x5)) = .agg (fzCs x5) := by
    have := frz_in (A := (.cells 63 7 [.agg (fzCs x5)] :: (bkCs n3 x5 ++ (bkCs n6 w ++ ([.cells 66 2 [.agg (tvCs n6 w)]]))) : List TB)) (B := (.cells 68 7 [.agg (tvCs n11 x5)] :: (bkCs n17 w' ++ (.cells 66 2 [.agg (tvCs n17 w')] :: (bkCs n28 x5))) : List TB)) (w := x5) (n := n11) (by first | (simp only [List.length_append, List.length_cons, List.length_nil, bkC_len, bkCs_len, mkC_nb, mkCs_nb]; done) | (simp only [List.length_append, List.length_cons, List.length_nil, bkC_len, bkCs_len, mkC_nb, mkCs_nb]; omega)) (by first | assumption | (rw [mkCs_dp]; assumption))
    (try simp only [List.append_assoc, List.cons_append, List.nil_append, List.append_nil, mkC_tv, mkCs_tv] at this); (try simp only [List.append_assoc, List.cons_append, List.nil_append, List.append_nil, mkC_tv, mkCs_tv]); exact this
  have f31 : frzT (.cells 63 7 [.agg (fzCs x5)] :: (bkCs n3 x5 ++ (bkCs n6 w ++ (.cells 66 2 [.agg (tvCs n6 w)] :: (bkCs n11 x5 ++ (.cells 68 7 [.agg (tvCs n11 x5)] :: (bkCs n17 w' ++ (.cells 66 2 [.agg (tvCs n17 w')] :: (bkCs n28 x5)))))))) : List TB) 9 (.agg (tvCs n28 x5)) = .agg (fzCs x5) := by
    have := frz_in (A := (.cells 63 7 [.agg (fzCs x5)] :: (bkCs n3 x5 ++ (bkCs n6 w ++ (.cells 66 2 [.agg (tvCs n6 w)] :: (bkCs n11 x5 ++ (.cells 68 7 [.agg (tvCs n11 x5)] :: (bkCs n17 w' ++ ([.cells 66 2 [.agg (tvCs n17 w')]]))))))) : List TB)) (B := ([] : List TB)) (w := x5) (n := n28) (by first | (simp only [List.length_append, List.length_cons, List.length_nil, bkC_len, bkCs_len, mkC_nb, mkCs_nb]; done) | (simp only [List.length_append, List.length_cons, List.length_nil, bkC_len, bkCs_len, mkC_nb, mkCs_nb]; omega)) (by first | assumption | (rw [mkCs_dp]; assumption))
    (try simp only [List.append_assoc, List.cons_append, List.nil_append, List.append_nil, mkC_tv, mkCs_tv] at this); (try simp only [List.append_assoc, List.cons_append, List.nil_append, List.append_nil, mkC_tv, mkCs_tv]); exact this
  have e32_ : ∀ t, (ansSp (eqR_S sh_Packet)).fn t [.agg (tvCs n11 x5), .agg (tvCs n28 x5)] (.cells 63 7 [.agg (fzCs x5)] :: (bkCs n3 x5 ++ (bkCs n6 w ++ (.cells 66 2 [.agg (tvCs n6 w)] :: (bkCs n11 x5 ++ (.cells 68 7 [.agg (tvCs n11 x5)] :: (bkCs n17 w' ++ (.cells 66 2 [.agg (tvCs n17 w')] :: (bkCs n28 x5)))))))) : List TB) = some (.p (.bool true), (.cells 63 7 [.agg (fzCs x5)] :: (bkCs n3 x5 ++ (bkCs n6 w ++ (.cells 66 2 [.agg (tvCs n6 w)] :: (bkCs n11 x5 ++ (.cells 68 7 [.agg (tvCs n11 x5)] :: (bkCs n17 w' ++ (.cells 66 2 [.agg (tvCs n17 w')] :: (bkCs n28 x5)))))))) : List TB)) := fun t => call_val (by simp only [List.map_cons, List.map_nil, frz_p, frz_s, frz_agg, frz_fzC, frz_fzCs, f30, f31]; try rfl) (eqR_at (HasR.fit _ _ h5) (Nat.le_trans y5 (by decide)))
  have g33_ := hold_get (A := (.cells 63 7 [.agg (fzCs x5)] :: (bkCs n3 x5 ++ (bkCs n6 w ++ (.cells 66 2 [.agg (tvCs n6 w)] :: (bkCs n11 x5)))) : List TB)) (R := (bkCs n17 w' ++ (.cells 66 2 [.agg (tvCs n17 w')] :: (bkCs n28 x5)) : List TB)) (n := n13) (by first | (simp only [List.length_append, List.length_cons, List.length_nil, bkC_len, bkCs_len, mkC_nb, mkCs_nb]; done) | (simp only [List.length_append, List.length_cons, List.length_nil, bkC_len, bkCs_len, mkC_nb, mkCs_nb]; omega))
  try simp only [List.append_assoc, List.cons_append, List.nil_append, List.append_nil] at g33_
  (dsimp only [c7]; simp (maxSteps := 8000000) (implicitDefEqProofs := false) (disch := omega) only [↓reduceIte, go_sem, if_pos, if_neg, len5, fzCs_len, fzCs_one, lenS, lenI, tvCs_len, tvCs_one, e5, ↓hn0.eq, g1_, g2_, ↓hn3.eq, e4_, ↓hn6.eq, e7_, ↓hn8.eq, g9_, g9_s, g10_, ↓hn11.eq, e12_, ↓hn13.eq, g14_, g14_s, g15_, ↓hn17.eq, e18_, ↓hn19.eq, g20_, g20_s, g21_, g22_, e25_, g26_, g27_, ↓hn28.eq, e29_, e32_, g33_])
  have k34_ := mkR_seg (A := (.cells 63 7 [.agg (fzCs x5)] :: (bkCs n3 x5 ++ (bkCs n6 w ++ ([.cells 66 2 [.agg (tvCs n6 w)]]))) : List TB)) (B := (.cells 68 7 [.agg (tvCs n11 x5)] :: (bkCs n17 w' ++ (.cells 66 2 [.agg (tvCs n17 w')] :: (bkCs n28 x5))) : List TB)) (n := n11) (c := x5) (k := 1) (by simp only [List.length_append, List.length_cons, List.length_nil, bkC_len, bkCs_len, mkC_nb, mkCs_nb]; omega) (HasR.fit _ _ h5) (by omega) (by omega)
  simp only [List.append_assoc, List.cons_append, List.nil_append, List.append_nil] at k34_
  have Ln11_35 := bkCs_len n11 (mkCs x5 (1)); rw [mkCs_nb] at Ln11_35
  refine mutQ_call (by simp (maxSteps := 8000000) (implicitDefEqProofs := false) (disch := omega) only [↓reduceIte, go_sem, if_pos, if_neg]; rfl) (by simp (maxSteps := 8000000) (implicitDefEqProofs := false) (disch := omega) only [↓reduceIte, go_sem, if_pos, if_neg]) k34_ ?_
  have g35_ := hold_get (A := (.cells 63 7 [.agg (fzCs x5)] :: (bkCs n3 x5 ++ (bkCs n6 w ++ (.cells 66 2 [.agg (tvCs n6 w)] :: (bkCs n11 (mkCs x5 (1)) ++ (.cells 68 7 [.agg (tvCs n11 x5)] :: (bkCs n17 w')))))) : List TB)) (R := (bkCs n28 x5 : List TB)) (n := n19) (by first | (simp only [List.length_append, List.length_cons, List.length_nil, bkC_len, bkCs_len, mkC_nb, mkCs_nb]; done) | (simp only [List.length_append, List.length_cons, List.length_nil, bkC_len, bkCs_len, mkC_nb, mkCs_nb]; omega))
  try simp only [List.append_assoc, List.cons_append, List.nil_append, List.append_nil] at g35_
  have g36_ := hold_get (A := (.cells 63 7 [.agg (fzCs x5)] :: (bkCs n3 x5 ++ (bkCs n6 w)) : List TB)) (R := (bkCs n11 (mkCs x5 (1)) ++ (.cells 68 7 [.agg (tvCs n11 x5)] :: (bkCs n17 w' ++ (.cells 66 2 [.agg (tvCs n17 w')] :: (bkCs n28 x5)))) : List TB)) (n := n8) (by first | (simp only [List.length_append, List.length_cons, List.length_nil, bkC_len, bkCs_len, mkC_nb, mkCs_nb]; done) | (simp only [List.length_append, List.length_cons, List.length_nil, bkC_len, bkCs_len, mkC_nb, mkCs_nb]; omega))
  try simp only [List.append_assoc, List.cons_append, List.nil_append, List.append_nil] at g36_
  have f37 : frzT (.cells 63 7 [.agg (fzCs x5)] :: (bkCs n3 x5 ++ (bkCs n6 w ++ (.cells 66 2 [.agg (tvCs n6 w)] :: (bkCs n11 (mkCs x5 (1)) ++ (.cells 68 7 [.agg (tvCs n11 x5)] :: (bkCs n17 w' ++ (.cells 66 2 [.agg (tvCs n17 w')] :: (bkCs n28 x5)))))))) : List TB) 9 (.agg (tvCs n17 w')) = .agg (fzCs w') := by
    have := frz_in (A := (.cells 63 7 [.agg (fzCs x5)] :: (bkCs n3 x5 ++ (bkCs n6 w ++ (.cells 66 2 [.agg (tvCs n6 w)] :: (bkCs n11 (mkCs x5 (1)) ++ ([.cells 68 7 [.agg (tvCs n11 x5)]]))))) : List TB)) (B := (.cells 66 2 [.agg (tvCs n17 w')] :: (bkCs n28 x5) : List TB)) (w := w') (n := n17) (by first | (simp only [List.length_append, List.length_cons, List.length_nil, bkC_len, bkCs_len, mkC_nb, mkCs_nb]; done) | (simp only [List.length_append, List.length_cons, List.length_nil, bkC_len, bkCs_len, mkC_nb, mkCs_nb]; omega)) (by first | assumption | (rw [mkCs_dp]; assumption))
    (try simp only [List.append_assoc, List.cons_append, List.nil_append, List.append_nil, mkC_tv, mkCs_tv] at this); (try simp only [List.append_assoc, List.cons_append, List.nil_append, List.append_nil, mkC_tv, mkCs_tv]); exact this
  have f38 : frzT (.cells 63 7 [.agg (fzCs x5)] :: (bkCs n3 x5 ++ (bkCs n6 w ++ (.cells 66 2 [.agg (tvCs n6 w)] :: (bkCs n11 (mkCs x5 (1)) ++ (.cells 68 7 [.agg (tvCs n11 x5)] :: (bkCs n17 w' ++ (.cells 66 2 [.agg (tvCs n17 w')] :: (bkCs n28 x5)))))))) : List TB) 9 (.agg (tvCs n6 w)) = .agg (fzCs w) := by
    have := frz_in (A := (.cells 63 7 [.agg (fzCs x5)] :: (bkCs n3 x5) : List TB)) (B := (.cells 66 2 [.agg (tvCs n6 w)] :: (bkCs n11 (mkCs x5 (1)) ++ (.cells 68 7 [.agg (tvCs n11 x5)] :: (bkCs n17 w' ++ (.cells 66 2 [.agg (tvCs n17 w')] :: (bkCs n28 x5))))) : List TB)) (w := w) (n := n6) (by first | (simp only [List.length_append, List.length_cons, List.length_nil, bkC_len, bkCs_len, mkC_nb, mkCs_nb]; done) | (simp only [List.length_append, List.length_cons, List.length_nil, bkC_len, bkCs_len, mkC_nb, mkCs_nb]; omega)) (by first | assumption | (rw [mkCs_dp]; assumption))
    (try simp only [List.append_assoc, List.cons_append, List.nil_append, List.append_nil, mkC_tv, mkCs_tv] at this); (try simp only [List.append_assoc, List.cons_append, List.nil_append, List.append_nil, mkC_tv, mkCs_tv]); exact this
  have e39_ : ∀ t, (ansSp (eqR_S sh_BytesResult)).fn t [.agg (tvCs n17 w'), .agg (tvCs n6 w)] (.cells 63 7 [.agg (fzCs x5)] :: (bkCs n3 x5 ++ (bkCs n6 w ++ (.cells 66 2 [.agg (tvCs n6 w)] :: (bkCs n11 (mkCs x5 (1)) ++ (.cells 68 7 [.agg (tvCs n11 x5)] :: (bkCs n17 w' ++ (.cells 66 2 [.agg (tvCs n17 w')] :: (bkCs n28 x5)))))))) : List TB) = some (.p (.bool true), (.cells 63 7 [.agg (fzCs x5)] :: (bkCs n3 x5 ++ (bkCs n6 w ++ (.cells 66 2 [.agg (tvCs n6 w)] :: (bkCs n11 (mkCs x5 (1)) ++ (.cells 68 7 [.agg (tvCs n11 x5)] :: (bkCs n17 w' ++ (.cells 66 2 [.agg (tvCs n17 w')] :: (bkCs n28 x5)))))))) : List TB)) := fun t => call_val (by simp only [List.map_cons, List.map_nil, frz_p, frz_s, frz_agg, frz_fzC, frz_fzCs, wE, f37, f38]; try rfl) (eqR_at fI (Nat.le_trans sI (by decide)))
  have g40_ := hold_get (A := (.cells 63 7 [.agg (fzCs x5)] :: (bkCs n3 x5 ++ (bkCs n6 w ++ (.cells 66 2 [.agg (tvCs n6 w)] :: (bkCs n11 (mkCs x5 (1)) ++ (.cells 68 7 [.agg (tvCs n11 x5)] :: (bkCs n17 w')))))) : List TB)) (R := (bkCs n28 x5 : List TB)) (n := n19) (by first | (simp only [List.length_append, List.length_cons, List.length_nil, bkC_len, bkCs_len, mkC_nb, mkCs_nb]; done) | (simp only [List.length_append, List.length_cons, List.length_nil, bkC_len, bkCs_len, mkC_nb, mkCs_nb]; omega))
  try simp only [List.append_assoc, List.cons_append, List.nil_append, List.append_nil] at g40_
  simp (maxSteps := 8000000) (implicitDefEqProofs := false) (disch := omega) only [↓reduceIte, go_sem, if_pos, if_neg, len5, fzCs_len, fzCs_one, lenS, lenI, tvCs_len, tvCs_one, eq_false (show ¬ (1 + (wtCs x5 : Int) < 0) by omega), g35_, g36_, e39_, g40_]
  have k41_ := mkR_seg (A := (.cells 63 7 [.agg (fzCs x5)] :: (bkCs n3 x5 ++ (bkCs n6 w ++ (.cells 66 2 [.agg (tvCs n6 w)] :: (bkCs n11 (mkCs x5 (1)) ++ ([.cells 68 7 [.agg (tvCs n11 x5)]]))))) : List TB)) (B := (.cells 66 2 [.agg (tvCs n17 w')] :: (bkCs n28 x5) : List TB)) (n := n17) (c := w') (k := 1) (by simp only [List.length_append, List.length_cons, List.length_nil, bkC_len, bkCs_len, mkC_nb, mkCs_nb]; omega) fI (by omega) (by omega)
  simp only [List.append_assoc, List.cons_append, List.nil_append, List.append_nil] at k41_
  have Ln17_42 := bkCs_len n17 (mkCs w' (1)); rw [mkCs_nb] at Ln17_42
  refine mutQ_call (by simp (maxSteps := 8000000) (implicitDefEqProofs := false) (disch := omega) only [↓reduceIte, go_sem, if_pos, if_neg]; rfl) (by simp (maxSteps := 8000000) (implicitDefEqProofs := false) (disch := omega) only [↓reduceIte, go_sem, if_pos, if_neg]) k41_ ?_
  have g42_ := hold_get (A := (.cells 63 7 [.agg (fzCs x5)] :: (bkCs n3 x5 ++ (bkCs n6 w ++ (.cells 66 2 [.agg (tvCs n6 w)] :: (bkCs n11 (mkCs x5 (1)) ++ (.cells 68 7 [.agg (tvCs n11 x5)] :: (bkCs n17 (mkCs w' (1)))))))) : List TB)) (R := (bkCs n28 x5 : List TB)) (n := n19) (by first | (simp only [List.length_append, List.length_cons, List.length_nil, bkC_len, bkCs_len, mkC_nb, mkCs_nb]; done) | (simp only [List.length_append, List.length_cons, List.length_nil, bkC_len, bkCs_len, mkC_nb, mkCs_nb]; omega))
  try simp only [List.append_assoc, List.cons_append, List.nil_append, List.append_nil] at g42_
  have f43 : frzT (.cells 63 7 [.agg (fzCs x5)] :: (bkCs n3 x5 ++ (bkCs n6 w ++ (.cells 66 2 [.agg (tvCs n6 w)] :: (bkCs n11 (mkCs x5 (1)) ++ (.cells 68 7 [.agg (tvCs n11 x5)] :: (bkCs n17 (mkCs w' (1)) ++ (.cells 66 2 [.agg (tvCs n17 w')] :: (bkCs n28 x5)))))))) : List TB) 9 (.agg (tvCs n17 w')) = .agg (fzCs (mkCs w' (1))) := by
    have := frz_in (A := (.cells 63 7 [.agg (fzCs x5)] :: (bkCs n3 x5 ++ (bkCs n6 w ++ (.cells 66 2 [.agg (tvCs n6 w)] :: (bkCs n11 (mkCs x5 (1)) ++ ([.cells 68 7 [.agg (tvCs n11 x5)]]))))) : List TB)) (B := (.cells 66 2 [.agg (tvCs n17 w')] :: (bkCs n28 x5) : List TB)) (w := (mkCs w' (1))) (n := n17) (by first | (simp only [List.length_append, List.length_cons, List.length_nil, bkC_len, bkCs_len, mkC_nb, mkCs_nb]; done) | (simp only [List.length_append, List.length_cons, List.length_nil, bkC_len, bkCs_len, mkC_nb, mkCs_nb]; omega)) (by first | assumption | (rw [mkCs_dp]; assumption))
    (try simp only [List.append_assoc, List.cons_append, List.nil_append, List.append_nil, mkC_tv, mkCs_tv] at this); (try simp only [List.append_assoc, List.cons_append, List.nil_append, List.append_nil, mkC_tv, mkCs_tv]); exact this
  have e44_ : ∀ t, (ansSp (hdR_S sh_BytesResult)).fn t [.agg (tvCs n17 w'), .p (.int .i64 1)] (.cells 63 7 [.agg (fzCs x5)] :: (bkCs n3 x5 ++ (bkCs n6 w ++ (.cells 66 2 [.agg (tvCs n6 w)] :: (bkCs n11 (mkCs x5 (1)) ++ (.cells 68 7 [.agg (tvCs n11 x5)] :: (bkCs n17 (mkCs w' (1)) ++ (.cells 66 2 [.agg (tvCs n17 w')] :: (bkCs n28 x5)))))))) : List TB) = some (.p (.int .i64 (1 + (wtCs w' : Int))), (.cells 63 7 [.agg (fzCs x5)] :: (bkCs n3 x5 ++ (bkCs n6 w ++ (.cells 66 2 [.agg (tvCs n6 w)] :: (bkCs n11 (mkCs x5 (1)) ++ (.cells 68 7 [.agg (tvCs n11 x5)] :: (bkCs n17 (mkCs w' (1)) ++ (.cells 66 2 [.agg (tvCs n17 w')] :: (bkCs n28 x5)))))))) : List TB)) := fun t => call_val (by simp only [List.map_cons, List.map_nil, frz_p, frz_s, frz_agg, frz_fzC, frz_fzCs, f43]; try rfl) (hdR_at (k := 1) fI (by omega) (by omega))
  have g45_ := hold_get (A := ([] : List TB)) (R := (bkCs n3 x5 ++ (bkCs n6 w ++ (.cells 66 2 [.agg (tvCs n6 w)] :: (bkCs n11 (mkCs x5 (1)) ++ (.cells 68 7 [.agg (tvCs n11 x5)] :: (bkCs n17 (mkCs w' (1)) ++ (.cells 66 2 [.agg (tvCs n17 w')] :: (bkCs n28 x5))))))) : List TB)) (n := n0) (by first | (simp only [List.length_append, List.length_cons, List.length_nil, bkC_len, bkCs_len, mkC_nb, mkCs_nb]; done) | (simp only [List.length_append, List.length_cons, List.length_nil, bkC_len, bkCs_len, mkC_nb, mkCs_nb]; omega))
  try simp only [List.append_assoc, List.cons_append, List.nil_append, List.append_nil] at g45_
  obtain ⟨n46, hn46⟩ := isLen_ex (.cells 63 7 [.agg (fzCs x5)] :: (bkCs n3 x5 ++ (bkCs n6 w ++ (.cells 66 2 [.agg (tvCs n6 w)] :: (bkCs n11 (mkCs x5 (1)) ++ (.cells 68 7 [.agg (tvCs n11 x5)] :: (bkCs n17 (mkCs w' (1)) ++ (.cells 66 2 [.agg (tvCs n17 w')] :: (bkCs n28 x5)))))))) : List TB)
  have ln46 := hn46.eq
  simp only [List.length_append, List.length_cons, List.length_nil, bkC_len, bkCs_len, mkC_nb, mkCs_nb] at ln46
  have e47_ : ∀ t, (ansSp (toR_S sh_Packet)).fn t [.agg (fzCs x5)] (.cells 63 7 [.agg (fzCs x5)] :: (bkCs n3 x5 ++ (bkCs n6 w ++ (.cells 66 2 [.agg (tvCs n6 w)] :: (bkCs n11 (mkCs x5 (1)) ++ (.cells 68 7 [.agg (tvCs n11 x5)] :: (bkCs n17 (mkCs w' (1)) ++ (.cells 66 2 [.agg (tvCs n17 w')] :: (bkCs n28 x5)))))))) : List TB) = some (.agg (tvCs n46 x5), (.cells 63 7 [.agg (fzCs x5)] :: (bkCs n3 x5 ++ (bkCs n6 w ++ (.cells 66 2 [.agg (tvCs n6 w)] :: (bkCs n11 (mkCs x5 (1)) ++ (.cells 68 7 [.agg (tvCs n11 x5)] :: (bkCs n17 (mkCs w' (1)) ++ (.cells 66 2 [.agg (tvCs n17 w')] :: (bkCs n28 x5 ++ (bkCs n46 x5))))))))) : List TB)) := fun t => by
    rw [call_new (by simp only [List.map_cons, List.map_nil, frz_p, frz_s, frz_agg, frz_fzC, frz_fzCs]; try rfl) (toR_at h5 y5) hn46.eq]; try simp only [List.append_assoc, List.cons_append, List.nil_append, List.append_nil]
  have Ln46 := bkCs_len n46 x5
  have f48 : frzT (.cells 63 7 [.agg (fzCs x5)] :: (bkCs n3 x5 ++ (bkCs n6 w ++ (.cells 66 2 [.agg (tvCs n6 w)] :: (bkCs n11 (mkCs x5 (1)) ++ (.cells 68 7 [.agg (tvCs n11 x5)] :: (bkCs n17 (mkCs w' (1)) ++ (.cells 66 2 [.agg (tvCs n17 w')] :: (bkCs n28 x5 ++ (bkCs n46 x5))))))))) : List TB) 9 (.agg (tvCs n46 x5)) = .agg (fzCs x5) := by
    have := frz_in (A := (.cells 63 7 [.agg (fzCs x5)] :: (bkCs n3 x5 ++ (bkCs n6 w ++ (.cells 66 2 [.agg (tvCs n6 w)] :: (bkCs n11 (mkCs x5 (1)) ++ (.cells 68 7 [.agg (tvCs n11 x5)] :: (bkCs n17 (mkCs w' (1)) ++ (.cells 66 2 [.agg (tvCs n17 w')] :: (bkCs n28 x5)))))))) : List TB)) (B := ([] : List TB)) (w := x5) (n := n46) (by first | (simp only [List.length_append, List.length_cons, List.length_nil, bkC_len, bkCs_len, mkC_nb, mkCs_nb]; done) | (simp only [List.length_append, List.length_cons, List.length_nil, bkC_len, bkCs_len, mkC_nb, mkCs_nb]; omega)) (by first | assumption | (rw [mkCs_dp]; assumption))
    (try simp only [List.append_assoc, List.cons_append, List.nil_append, List.append_nil, mkC_tv, mkCs_tv] at this); (try simp only [List.append_assoc, List.cons_append, List.nil_append, List.append_nil, mkC_tv, mkCs_tv]); exact this
  obtain ⟨n49, hn49⟩ := isLen_ex (.cells 63 7 [.agg (fzCs x5)] :: (bkCs n3 x5 ++ (bkCs n6 w ++ (.cells 66 2 [.agg (tvCs n6 w)] :: (bkCs n11 (mkCs x5 (1)) ++ (.cells 68 7 [.agg (tvCs n11 x5)] :: (bkCs n17 (mkCs w' (1)) ++ (.cells 66 2 [.agg (tvCs n17 w')] :: (bkCs n28 x5 ++ (bkCs n46 x5))))))))) : List TB)
  have ln49 := hn49.eq
  simp only [List.length_append, List.length_cons, List.length_nil, bkC_len, bkCs_len, mkC_nb, mkCs_nb] at ln49
  have e50_ : ∀ t, (ansSp Si).fn t [.p (.int .i64 x0), .p (.int .i64 x1), .p (.int .i64 x2), .p (.int .i64 x3), .p (.int .i64 x4), .agg (tvCs n46 x5)] (.cells 63 7 [.agg (fzCs x5)] :: (bkCs n3 x5 ++ (bkCs n6 w ++ (.cells 66 2 [.agg (tvCs n6 w)] :: (bkCs n11 (mkCs x5 (1)) ++ (.cells 68 7 [.agg (tvCs n11 x5)] :: (bkCs n17 (mkCs w' (1)) ++ (.cells 66 2 [.agg (tvCs n17 w')] :: (bkCs n28 x5 ++ (bkCs n46 x5))))))))) : List TB) = some (.agg (tvCs n49 w'), (.cells 63 7 [.agg (fzCs x5)] :: (bkCs n3 x5 ++ (bkCs n6 w ++ (.cells 66 2 [.agg (tvCs n6 w)] :: (bkCs n11 (mkCs x5 (1)) ++ (.cells 68 7 [.agg (tvCs n11 x5)] :: (bkCs n17 (mkCs w' (1)) ++ (.cells 66 2 [.agg (tvCs n17 w')] :: (bkCs n28 x5 ++ (bkCs n46 x5 ++ (bkCs n49 w')))))))))) : List TB)) := fun t => by
    rw [call_new (by simp only [List.map_cons, List.map_nil, frz_p, frz_s, frz_agg, frz_fzC, frz_fzCs, f48]; try rfl) (wI) hn49.eq]; try simp only [List.append_assoc, List.cons_append, List.nil_append, List.append_nil]
  have Ln49 := bkCs_len n49 w'
  obtain ⟨n51, hn51⟩ := isLen_ex (.cells 63 7 [.agg (fzCs x5)] :: (bkCs n3 x5 ++ (bkCs n6 w ++ (.cells 66 2 [.agg (tvCs n6 w)] :: (bkCs n11 (mkCs x5 (1)) ++ (.cells 68 7 [.agg (tvCs n11 x5)] :: (bkCs n17 (mkCs w' (1)) ++ (.cells 66 2 [.agg (tvCs n17 w')] :: (bkCs n28 x5 ++ (bkCs n46 x5 ++ (bkCs n49 w')))))))))) : List TB)
  have ln51 := hn51.eq
  simp only [List.length_append, List.length_cons, List.length_nil, bkC_len, bkCs_len, mkC_nb, mkCs_nb] at ln51
  have g52_ := hold_get (A := (.cells 63 7 [.agg (fzCs x5)] :: (bkCs n3 x5 ++ (bkCs n6 w ++ (.cells 66 2 [.agg (tvCs n6 w)] :: (bkCs n11 (mkCs x5 (1)) ++ (.cells 68 7 [.agg (tvCs n11 x5)] :: (bkCs n17 (mkCs w' (1)) ++ (.cells 66 2 [.agg (tvCs n17 w')] :: (bkCs n28 x5 ++ (bkCs n46 x5 ++ (bkCs n49 w')))))))))) : List TB)) (R := ([] : List TB)) (n := n51) (by first | (simp only [List.length_append, List.length_cons, List.length_nil, bkC_len, bkCs_len, mkC_nb, mkCs_nb]; done) | (simp only [List.length_append, List.length_cons, List.length_nil, bkC_len, bkCs_len, mkC_nb, mkCs_nb]; omega))
  try simp only [List.append_assoc, List.cons_append, List.nil_append, List.append_nil] at g52_
  have g52_s := hold_set (A := (.cells 63 7 [.agg (fzCs x5)] :: (bkCs n3 x5 ++ (bkCs n6 w ++ (.cells 66 2 [.agg (tvCs n6 w)] :: (bkCs n11 (mkCs x5 (1)) ++ (.cells 68 7 [.agg (tvCs n11 x5)] :: (bkCs n17 (mkCs w' (1)) ++ (.cells 66 2 [.agg (tvCs n17 w')] :: (bkCs n28 x5 ++ (bkCs n46 x5 ++ (bkCs n49 w')))))))))) : List TB)) (R := ([] : List TB)) (n := n51) (by first | (simp only [List.length_append, List.length_cons, List.length_nil, bkC_len, bkCs_len, mkC_nb, mkCs_nb]; done) | (simp only [List.length_append, List.length_cons, List.length_nil, bkC_len, bkCs_len, mkC_nb, mkCs_nb]; omega))
  try simp only [List.append_assoc, List.cons_append, List.nil_append, List.append_nil] at g52_s
  have g53_ := hold_get (A := (.cells 63 7 [.agg (fzCs x5)] :: (bkCs n3 x5 ++ (bkCs n6 w ++ (.cells 66 2 [.agg (tvCs n6 w)] :: (bkCs n11 (mkCs x5 (1)) ++ (.cells 68 7 [.agg (tvCs n11 x5)] :: (bkCs n17 (mkCs w' (1)) ++ (.cells 66 2 [.agg (tvCs n17 w')] :: (bkCs n28 x5 ++ (bkCs n46 x5 ++ (bkCs n49 w')))))))))) : List TB)) (R := ([] : List TB)) (n := n51) (by first | (simp only [List.length_append, List.length_cons, List.length_nil, bkC_len, bkCs_len, mkC_nb, mkCs_nb]; done) | (simp only [List.length_append, List.length_cons, List.length_nil, bkC_len, bkCs_len, mkC_nb, mkCs_nb]; omega))
  try simp only [List.append_assoc, List.cons_append, List.nil_append, List.append_nil] at g53_
  have g54_ := hold_get (A := (.cells 63 7 [.agg (fzCs x5)] :: (bkCs n3 x5 ++ (bkCs n6 w)) : List TB)) (R := (bkCs n11 (mkCs x5 (1)) ++ (.cells 68 7 [.agg (tvCs n11 x5)] :: (bkCs n17 (mkCs w' (1)) ++ (.cells 66 2 [.agg (tvCs n17 w')] :: (bkCs n28 x5 ++ (bkCs n46 x5 ++ (bkCs n49 w' ++ ([.cells 66 2 [.agg (tvCs n49 w')]]))))))) : List TB)) (n := n8) (by first | (simp only [List.length_append, List.length_cons, List.length_nil, bkC_len, bkCs_len, mkC_nb, mkCs_nb]; done) | (simp only [List.length_append, List.length_cons, List.length_nil, bkC_len, bkCs_len, mkC_nb, mkCs_nb]; omega))
  try simp only [List.append_assoc, List.cons_append, List.nil_append, List.append_nil] at g54_
  have f55 : frzT (.cells 63 7 [.agg (fzCs x5)] :: (bkCs n3 x5 ++ (bkCs n6 w ++ (.cells 66 2 [.agg (tvCs n6 w)] :: (bkCs n11 (mkCs x5 (1)) ++ (.cells 68 7 [.agg (tvCs n11 x5)] :: (bkCs n17 (mkCs w' (1)) ++ (.cells 66 2 [.agg (tvCs n17 w')] :: (bkCs n28 x5 ++ (bkCs n46 x5 ++ (bkCs n49 w' ++ ([.cells 66 2 [.agg (tvCs n49 w')]]))))))))))) : List TB) 9 (.agg (tvCs n49 w')) = .agg (fzCs w') := by
    have := frz_in (A := (.cells 63 7 [.agg (fzCs x5)] :: (bkCs n3 x5 ++ (bkCs n6 w ++ (.cells 66 2 [.agg (tvCs n6 w)] :: (bkCs n11 (mkCs x5 (1)) ++ (.cells 68 7 [.agg (tvCs n11 x5)] :: (bkCs n17 (mkCs w' (1)) ++ (.cells 66 2 [.agg (tvCs n17 w')] :: (bkCs n28 x5 ++ (bkCs n46 x5))))))))) : List TB)) (B := ([.cells 66 2 [.agg (tvCs n49 w')]] : List TB)) (w := w') (n := n49) (by first | (simp only [List.length_append, List.length_cons, List.length_nil, bkC_len, bkCs_len, mkC_nb, mkCs_nb]; done) | (simp only [List.length_append, List.length_cons, List.length_nil, bkC_len, bkCs_len, mkC_nb, mkCs_nb]; omega)) (by first | assumption | (rw [mkCs_dp]; assumption))
    (try simp only [List.append_assoc, List.cons_append, List.nil_append, List.append_nil, mkC_tv, mkCs_tv] at this); (try simp only [List.append_assoc, List.cons_append, List.nil_append, List.append_nil, mkC_tv, mkCs_tv]); exact this
  have f56 : frzT (.cells 63 7 [.agg (fzCs x5)] :: (bkCs n3 x5 ++ (bkCs n6 w ++ (.cells 66 2 [.agg (tvCs n6 w)] :: (bkCs n11 (mkCs x5 (1)) ++ (.cells 68 7 [.agg (tvCs n11 x5)] :: (bkCs n17 (mkCs w' (1)) ++ (.cells 66 2 [.agg (tvCs n17 w')] :: (bkCs n28 x5 ++ (bkCs n46 x5 ++ (bkCs n49 w' ++ ([.cells 66 2 [.agg (tvCs n49 w')]]))))))))))) : List TB) 9 (.agg (tvCs n6 w)) = .agg (fzCs w) := by
    have := frz_in (A := (.cells 63 7 [.agg (fzCs x5)] :: (bkCs n3 x5) : List TB)) (B := (.cells 66 2 [.agg (tvCs n6 w)] :: (bkCs n11 (mkCs x5 (1)) ++ (.cells 68 7 [.agg (tvCs n11 x5)] :: (bkCs n17 (mkCs w' (1)) ++ (.cells 66 2 [.agg (tvCs n17 w')] :: (bkCs n28 x5 ++ (bkCs n46 x5 ++ (bkCs n49 w' ++ ([.cells 66 2 [.agg (tvCs n49 w')]])))))))) : List TB)) (w := w) (n := n6) (by first | (simp only [List.length_append, List.length_cons, List.length_nil, bkC_len, bkCs_len, mkC_nb, mkCs_nb]; done) | (simp only [List.length_append, List.length_cons, List.length_nil, bkC_len, bkCs_len, mkC_nb, mkCs_nb]; omega)) (by first | assumption | (rw [mkCs_dp]; assumption))
    (try simp only [List.append_assoc, List.cons_append, List.nil_append, List.append_nil, mkC_tv, mkCs_tv] at this); (try simp only [List.append_assoc, List.cons_append, List.nil_append, List.append_nil, mkC_tv, mkCs_tv]); exact this
  have e57_ : ∀ t, (ansSp (eqR_S sh_BytesResult)).fn t [.agg (tvCs n49 w'), .agg (tvCs n6 w)] (.cells 63 7 [.agg (fzCs x5)] :: (bkCs n3 x5 ++ (bkCs n6 w ++ (.cells 66 2 [.agg (tvCs n6 w)] :: (bkCs n11 (mkCs x5 (1)) ++ (.cells 68 7 [.agg (tvCs n11 x5)] :: (bkCs n17 (mkCs w' (1)) ++ (.cells 66 2 [.agg (tvCs n17 w')] :: (bkCs n28 x5 ++ (bkCs n46 x5 ++ (bkCs n49 w' ++ ([.cells 66 2 [.agg (tvCs n49 w')]]))))))))))) : List TB) = some (.p (.bool true), (.cells 63 7 [.agg (fzCs x5)] :: (bkCs n3 x5 ++ (bkCs n6 w ++ (.cells 66 2 [.agg (tvCs n6 w)] :: (bkCs n11 (mkCs x5 (1)) ++ (.cells 68 7 [.agg (tvCs n11 x5)] :: (bkCs n17 (mkCs w' (1)) ++ (.cells 66 2 [.agg (tvCs n17 w')] :: (bkCs n28 x5 ++ (bkCs n46 x5 ++ (bkCs n49 w' ++ ([.cells 66 2 [.agg (tvCs n49 w')]]))))))))))) : List TB)) := fun t => call_val (by simp only [List.map_cons, List.map_nil, frz_p, frz_s, frz_agg, frz_fzC, frz_fzCs, wE, f55, f56]; try rfl) (eqR_at fI (Nat.le_trans sI (by decide)))
  have g58_ := hold_get (A := (.cells 63 7 [.agg (fzCs x5)] :: (bkCs n3 x5 ++ (bkCs n6 w ++ (.cells 66 2 [.agg (tvCs n6 w)] :: (bkCs n11 (mkCs x5 (1)) ++ (.cells 68 7 [.agg (tvCs n11 x5)] :: (bkCs n17 (mkCs w' (1)))))))) : List TB)) (R := (bkCs n28 x5 ++ (bkCs n46 x5 ++ (bkCs n49 w' ++ ([.cells 66 2 [.agg (tvCs n49 w')]]))) : List TB)) (n := n19) (by first | (simp only [List.length_append, List.length_cons, List.length_nil, bkC_len, bkCs_len, mkC_nb, mkCs_nb]; done) | (simp only [List.length_append, List.length_cons, List.length_nil, bkC_len, bkCs_len, mkC_nb, mkCs_nb]; omega))
  try simp only [List.append_assoc, List.cons_append, List.nil_append, List.append_nil] at g58_
  have f59 : frzT (.cells 63 7 [.agg (fzCs x5)] :: (bkCs n3 x5 ++ (bkCs n6 w ++ (.cells 66 2 [.agg (tvCs n6 w)] :: (bkCs n11 (mkCs x5 (1)) ++ (.cells 68 7 [.agg (tvCs n11 x5)] :: (bkCs n17 (mkCs w' (1)) ++ (.cells 66 2 [.agg (tvCs n17 w')] :: (bkCs n28 x5 ++ (bkCs n46 x5 ++ (bkCs n49 w' ++ ([.cells 66 2 [.agg (tvCs n49 w')]]))))))))))) : List TB) 9 (.agg (tvCs n17 w')) = .agg (fzCs (mkCs w' (1))) := by
    have := frz_in (A := (.cells 63 7 [.agg (fzCs x5)] :: (bkCs n3 x5 ++ (bkCs n6 w ++ (.cells 66 2 [.agg (tvCs n6 w)] :: (bkCs n11 (mkCs x5 (1)) ++ ([.cells 68 7 [.agg (tvCs n11 x5)]]))))) : List TB)) (B := (.cells 66 2 [.agg (tvCs n17 w')] :: (bkCs n28 x5 ++ (bkCs n46 x5 ++ (bkCs n49 w' ++ ([.cells 66 2 [.agg (tvCs n49 w')]])))) : List TB)) (w := (mkCs w' (1))) (n := n17) (by first | (simp only [List.length_append, List.length_cons, List.length_nil, bkC_len, bkCs_len, mkC_nb, mkCs_nb]; done) | (simp only [List.length_append, List.length_cons, List.length_nil, bkC_len, bkCs_len, mkC_nb, mkCs_nb]; omega)) (by first | assumption | (rw [mkCs_dp]; assumption))
    (try simp only [List.append_assoc, List.cons_append, List.nil_append, List.append_nil, mkC_tv, mkCs_tv] at this); (try simp only [List.append_assoc, List.cons_append, List.nil_append, List.append_nil, mkC_tv, mkCs_tv]); exact this
  have e60_ : ∀ t, (ansSp (hdR_S sh_BytesResult)).fn t [.agg (tvCs n17 w'), .p (.int .i64 1)] (.cells 63 7 [.agg (fzCs x5)] :: (bkCs n3 x5 ++ (bkCs n6 w ++ (.cells 66 2 [.agg (tvCs n6 w)] :: (bkCs n11 (mkCs x5 (1)) ++ (.cells 68 7 [.agg (tvCs n11 x5)] :: (bkCs n17 (mkCs w' (1)) ++ (.cells 66 2 [.agg (tvCs n17 w')] :: (bkCs n28 x5 ++ (bkCs n46 x5 ++ (bkCs n49 w' ++ ([.cells 66 2 [.agg (tvCs n49 w')]]))))))))))) : List TB) = some (.p (.int .i64 (1 + (wtCs w' : Int))), (.cells 63 7 [.agg (fzCs x5)] :: (bkCs n3 x5 ++ (bkCs n6 w ++ (.cells 66 2 [.agg (tvCs n6 w)] :: (bkCs n11 (mkCs x5 (1)) ++ (.cells 68 7 [.agg (tvCs n11 x5)] :: (bkCs n17 (mkCs w' (1)) ++ (.cells 66 2 [.agg (tvCs n17 w')] :: (bkCs n28 x5 ++ (bkCs n46 x5 ++ (bkCs n49 w' ++ ([.cells 66 2 [.agg (tvCs n49 w')]]))))))))))) : List TB)) := fun t => call_val (by simp only [List.map_cons, List.map_nil, frz_p, frz_s, frz_agg, frz_fzC, frz_fzCs, f59]; try rfl) (hdR_at (k := 1) fI (by omega) (by omega))
  simp (maxSteps := 8000000) (implicitDefEqProofs := false) (disch := omega) only [↓reduceIte, go_sem, if_pos, if_neg, len5, fzCs_len, fzCs_one, lenS, lenI, tvCs_len, tvCs_one, eq_false (show ¬ (1 + (wtCs w' : Int) < 0) by omega), g42_, e44_, eq_false (show ¬ (1 + (wtCs w' : Int) < 0) by omega), g45_, ↓hn46.eq, e47_, ↓hn49.eq, e50_, ↓hn51.eq, g52_, g52_s, g53_, g54_, e57_, g58_, e60_, eq_false (show ¬ (1 + (wtCs w' : Int) < 0) by omega), not_true, decide_false, not_false_eq_true]
  exact endT_p (.inr rfl) (by (simp (maxSteps := 8000000) (implicitDefEqProofs := false) (disch := omega) only [↓reduceIte, go_sem, if_pos, if_neg]) <;> rfl) rfl
end Go.Proofs.Ytngebdcbcliobaa
