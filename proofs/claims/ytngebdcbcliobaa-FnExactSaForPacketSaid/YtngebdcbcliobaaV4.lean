import Derived.Test.YtngebdcbcliobaaU5
set_option linter.unusedSimpArgs false
set_option linter.unusedVariables false
set_option maxRecDepth 100000
set_option maxHeartbeats 4000000
namespace Go.Proofs.Ytngebdcbcliobaa
open Go Go.AH
attribute [local irreducible] awpT ropsT qopsT stepT condKT gdKT EndT joinK loopKT seqKT blkKT kont kontR
/-! FnExactSaForPacket -/
-- laws.FnExactSaForPacket
def c14 : AF := ⟨97,
  (.seq (.reg [⟨(some 5), none, .box 63 (.t 2)⟩,
   ⟨(some 6), none, .mv (.v (.bool false))⟩])
  (.seq (.reg [⟨(some 7), none, .mv (.v (.int .i64 1048576))⟩])
  (.seq (.reg [⟨(some 16), none, .mv (.t 0)⟩,
   ⟨(some 17), none, .mv (.t 7)⟩,
   ⟨(some 18), none, .call 20 [(.t 16), (.t 17)]⟩,
   ⟨(some 7), none, .mv (.t 18)⟩])
  (.seq (.seq (.reg [⟨(some 19), none, .mv (.t 7)⟩,
   ⟨(some 20), none, .bin .lss (.t 19) (.v (.int .i64 0))⟩])
  (.cond (.t 20) (.seq (.reg [⟨(some 6), none, .mv (.v (.bool true))⟩])
  .ret)
  .skip))
  (.seq (.reg [⟨(some 21), none, .ldn 7 (.t 5)⟩,
   ⟨(some 22), none, .mv (.t 7)⟩,
   ⟨(some 23), none, .call 38 [(.t 21), (.t 22)]⟩,
   ⟨(some 7), none, .mv (.t 23)⟩])
  (.seq (.seq (.reg [⟨(some 24), none, .mv (.t 7)⟩,
   ⟨(some 25), none, .bin .lss (.t 24) (.v (.int .i64 0))⟩])
  (.cond (.t 25) (.seq (.reg [⟨(some 6), none, .mv (.v (.bool true))⟩])
  .ret)
  .skip))
  (.seq (.drw [⟨(some 26), none, .mv (.t 0)⟩,
   ⟨(some 27), none, .call 22 [(.t 26)]⟩,
   ⟨(some 28), none, .mv (.t 1)⟩,
   ⟨(some 29), none, .ldn 7 (.t 5)⟩,
   ⟨(some 30), none, .call 40 [(.t 29)]⟩,
   ⟨(some 31), none, .call 71 [(.t 27), (.t 28), (.t 30)]⟩,
   ⟨(some 8), none, .alloc 56 [(.int .i64 0), (.int .i64 0), (.int .i64 0), (.int .i64 0), (.int .i64 0), (.bool false), (.int .i64 0), (.int .i64 0), (.int .i64 0), (.int .i64 0), (.int .i64 0), (.int .i64 0), (.slice none 0 0)]⟩] [⟨none, none, .st 13 (.t 8) (.t 31)⟩])
  (.seq (.reg [⟨(some 32), none, .mv (.t 0)⟩,
   ⟨(some 33), none, .call 22 [(.t 32)]⟩,
   ⟨(some 9), none, .mv (.t 33)⟩])
  (.seq (.reg [⟨(some 34), none, .ldn 7 (.t 5)⟩,
   ⟨(some 35), none, .call 40 [(.t 34)]⟩,
   ⟨(some 10), none, .alloc 68 [(.int .i64 0), (.int .i64 0), (.int .i64 0), (.int .i64 0), (.int .i64 0), (.int .i64 0), (.slice none 0 0)]⟩,
   ⟨none, none, .st 7 (.t 10) (.t 35)⟩])
  (.seq (.reg [⟨(some 36), none, .mv (.t 9)⟩,
   ⟨(some 37), none, .mv (.t 1)⟩,
   ⟨(some 38), none, .ldn 7 (.t 10)⟩,
   ⟨(some 39), none, .call 72 [(.t 36), (.t 37), (.t 38)]⟩,
   ⟨(some 11), none, .alloc 56 [(.int .i64 0), (.int .i64 0), (.int .i64 0), (.int .i64 0), (.int .i64 0), (.bool false), (.int .i64 0), (.int .i64 0), (.int .i64 0), (.int .i64 0), (.int .i64 0), (.int .i64 0), (.slice none 0 0)]⟩,
   ⟨none, none, .st 13 (.t 11) (.t 39)⟩])
  (.seq (.seq (.reg [⟨(some 40), none, .ldn 13 (.t 11)⟩,
   ⟨(some 41), none, .ldn 13 (.t 8)⟩,
   ⟨(some 42), none, .call 34 [(.t 40), (.t 41)]⟩,
   ⟨(some 43), none, .un .not (.t 42)⟩])
  (.cond (.t 43) (.seq (.reg [⟨(some 6), none, .mv (.v (.bool false))⟩])
  .ret)
  .skip))
  (.seq (.seq (.reg [⟨(some 44), none, .mv (.t 9)⟩,
   ⟨(some 45), none, .mv (.t 0)⟩,
   ⟨(some 46), none, .call 22 [(.t 45)]⟩,
   ⟨(some 47), none, .call 24 [(.t 44), (.t 46)]⟩,
   ⟨(some 48), none, .un .not (.t 47)⟩])
  (.cond (.t 48) (.seq (.reg [⟨(some 6), none, .mv (.v (.bool false))⟩])
  .ret)
  .skip))
  (.seq (.seq (.drw [⟨(some 49), none, .ldn 7 (.t 10)⟩,
   ⟨(some 50), none, .ldn 7 (.t 5)⟩,
   ⟨(some 51), none, .call 40 [(.t 50)]⟩] [⟨(some 52), none, .call 43 [(.t 49), (.t 51)]⟩,
   ⟨(some 53), none, .un .not (.t 52)⟩])
  (.cond (.t 53) (.seq (.reg [⟨(some 6), none, .mv (.v (.bool false))⟩])
  .ret)
  .skip))
  (.seq (.reg [⟨(some 12), none, .mv (.v (.int .i64 1))⟩])
  (.seq (.reg [⟨(some 54), none, .mv (.t 9)⟩,
   ⟨(some 55), none, .mv (.t 12)⟩,
   ⟨(some 56), none, .call 48 [(.t 54), (.t 55)]⟩,
   ⟨(some 12), none, .mv (.t 56)⟩])
  (.seq (.reg [⟨(some 57), none, .ldn 7 (.t 10)⟩,
   ⟨(some 58), none, .mv (.t 12)⟩,
   ⟨(some 59), none, .call 44 [(.t 57), (.t 58)]⟩,
   ⟨(some 12), none, .mv (.t 59)⟩])
  (.seq (.seq (.reg [⟨(some 60), none, .mv (.t 12)⟩,
   ⟨(some 61), none, .bin .lss (.t 60) (.v (.int .i64 0))⟩,
   ⟨(some 62), none, .mv (.t 61)⟩,
   ⟨(some 63), (some (62, false)), .ldn 13 (.t 11)⟩,
   ⟨(some 64), (some (62, false)), .ldn 13 (.t 8)⟩,
   ⟨(some 65), (some (62, false)), .call 34 [(.t 63), (.t 64)]⟩,
   ⟨(some 66), (some (62, false)), .un .not (.t 65)⟩,
   ⟨(some 67), none, .pick (.t 62) (.v (.bool true)) (.t 66)⟩])
  (.cond (.t 67) (.seq (.reg [⟨(some 6), none, .mv (.v (.bool false))⟩])
  .ret)
  .skip))
  (.seq (.reg [⟨(some 13), none, .mv (.v (.int .i64 1))⟩])
  (.seq (.reg [⟨(some 68), none, .ldn 13 (.t 11)⟩,
   ⟨(some 69), none, .mv (.t 13)⟩,
   ⟨(some 70), none, .call 36 [(.t 68), (.t 69)]⟩,
   ⟨(some 13), none, .mv (.t 70)⟩])
  (.seq (.reg [⟨(some 14), none, .mv (.v (.int .i64 1))⟩])
  (.seq (.reg [⟨(some 71), none, .ldn 13 (.t 11)⟩,
   ⟨(some 72), none, .mv (.t 14)⟩,
   ⟨(some 73), none, .call 37 [(.t 71), (.t 72)]⟩,
   ⟨(some 14), none, .mv (.t 73)⟩])
  (.seq (.seq (.reg [⟨(some 74), none, .mv (.t 14)⟩,
   ⟨(some 75), none, .bin .lss (.t 74) (.v (.int .i64 0))⟩])
  (.cond (.t 75) (.seq (.reg [⟨(some 6), none, .mv (.v (.bool false))⟩])
  .ret)
  .skip))
  (.seq (.seq (.reg [⟨(some 76), none, .mv (.t 14)⟩,
   ⟨(some 77), none, .mv (.t 13)⟩,
   ⟨(some 78), none, .bin .neq (.t 76) (.t 77)⟩])
  (.cond (.t 78) (.seq (.reg [⟨(some 6), none, .mv (.v (.bool false))⟩])
  .ret)
  .skip))
  (.seq (.drw [⟨(some 79), none, .mv (.t 0)⟩,
   ⟨(some 80), none, .call 22 [(.t 79)]⟩,
   ⟨(some 81), none, .mv (.t 1)⟩,
   ⟨(some 82), none, .ldn 7 (.t 5)⟩,
   ⟨(some 83), none, .call 40 [(.t 82)]⟩,
   ⟨(some 84), none, .call 72 [(.t 80), (.t 81), (.t 83)]⟩,
   ⟨(some 15), none, .alloc 56 [(.int .i64 0), (.int .i64 0), (.int .i64 0), (.int .i64 0), (.int .i64 0), (.bool false), (.int .i64 0), (.int .i64 0), (.int .i64 0), (.int .i64 0), (.int .i64 0), (.int .i64 0), (.slice none 0 0)]⟩] [⟨none, none, .st 13 (.t 15) (.t 84)⟩])
  (.seq (.seq (.reg [⟨(some 85), none, .ldn 13 (.t 15)⟩,
   ⟨(some 86), none, .ldn 13 (.t 8)⟩,
   ⟨(some 87), none, .call 34 [(.t 85), (.t 86)]⟩,
   ⟨(some 88), none, .un .not (.t 87)⟩])
  (.cond (.t 88) (.seq (.reg [⟨(some 6), none, .mv (.v (.bool false))⟩])
  .ret)
  .skip))
  (.seq (.reg [⟨(some 14), none, .mv (.v (.int .i64 1))⟩])
  (.seq (.reg [⟨(some 89), none, .ldn 13 (.t 11)⟩,
   ⟨(some 90), none, .mv (.t 14)⟩,
   ⟨(some 91), none, .call 37 [(.t 89), (.t 90)]⟩,
   ⟨(some 14), none, .mv (.t 91)⟩])
  (.seq (.seq (.reg [⟨(some 92), none, .mv (.t 14)⟩,
   ⟨(some 93), none, .bin .lss (.t 92) (.v (.int .i64 0))⟩])
  (.cond (.t 93) (.seq (.reg [⟨(some 6), none, .mv (.v (.bool false))⟩])
  .ret)
  .skip))
  (.seq (.seq (.reg [⟨(some 94), none, .mv (.t 14)⟩,
   ⟨(some 95), none, .mv (.t 13)⟩,
   ⟨(some 96), none, .bin .neq (.t 94) (.t 95)⟩])
  (.cond (.t 96) (.seq (.reg [⟨(some 6), none, .mv (.v (.bool false))⟩])
  .ret)
  .skip))
  (.seq (.reg [⟨(some 6), none, .mv (.v (.bool true))⟩])
  .ret)))))))))))))))))))))))))))))),
  [.t 6]⟩
theorem k14 : cFn Try.prog Try.f14 = some c14 := by kernel_rfl
theorem law_SaForPacket {Ss Si : List TV → Option (TV × THeap)} (okS : OkT Try.prog 71 (pureSp Ss)) (okI : OkT Try.prog 72 (pureSp Si)) (H : ∀ (x0 : Cell) (x1 : Int) (x2 : List Cell), HasC sh_SaS x0 → HasR sh_Packet x2 → szC x0 ≤ 1048576 → szCs x2 ≤ 1048576 → ∃ w w', Ss [fzC x0, .p (.int .i64 x1), .agg (fzCs x2)] = some (.agg (tvCs 0 w), bkCs 0 w) ∧ Si [fzC x0, .p (.int .i64 x1), .agg (fzCs x2)] = some (.agg (tvCs 0 w'), bkCs 0 w') ∧ fzCs w = fzCs w' ∧ FitR sh_SaResult w ∧ FitR sh_SaResult w' ∧ szCs w ≤ 1073741824 ∧ szCs w' ≤ 1073741824) : OkT Try.prog 14 (pureSp (tvSp (fun a => ∃ (x0 : Cell) (x1 : Int) (x2 : List Cell), a = [fzC x0, .p (.int .i64 x1), .agg (fzCs x2)] ∧ HasC sh_SaS x0 ∧ HasR sh_Packet x2 ∧ lnC x0 = true ∧ lnCs x2 = true) (fun _ => (.p (.bool true), [])))) := by
  refine okT_tv (OkΓT.cons szSaS_ok (OkΓT.cons szPacket_ok (OkΓT.cons (tsp := ansSp (toC_S sh_SaS)) toSaS_ok (OkΓT.cons (tsp := ansSp (toR_S sh_Packet)) toPacket_ok (OkΓT.cons (tsp := ansSp Ss) okS (OkΓT.cons (tsp := ansSp Si) okI (OkΓT.cons (tsp := ansSp (eqR_S sh_SaResult)) eqSaResult_ok (OkΓT.cons (tsp := ansSp (eqC_S sh_SaS)) eqSaS_ok (OkΓT.cons (tsp := ansSp (eqR_S sh_Packet)) eqPacket_ok (OkΓT.cons markSaS_ok (OkΓT.cons markPacket_ok (OkΓT.cons markSaResult_ok (OkΓT.cons (tsp := ansSp (hdR_S sh_SaResult)) heldSaResult_ok (OkΓT.nil _)))))))))))))) Try.func14 (by kernel_rfl) k14 (fun x hx => ⟨rfl, rfl⟩) ?_
  rintro _ ⟨x0, x1, x2, rfl, h0, h2, z0, z2⟩
  have len2 : x2.length = 7 := HasR.len h2
  have e0 := szC_at (k := 1048576) h0 (by omega) z0
  by_cases q0 : (szC x0 : Int) ≤ 1048576
  case neg =>
    rw [if_neg q0] at e0
    (dsimp only [c14]; simp (maxSteps := 8000000) (implicitDefEqProofs := false) (disch := omega) only [↓reduceIte, go_sem, if_pos, if_neg, len2, fzCs_len, fzCs_one, e0])
    repeat' first
      | (refine gdKT_dec (fun hg => ?_) (fun hg => ?_) <;> (try (first | simp (maxSteps := 8000000) (implicitDefEqProofs := false) (disch := omega) only [↓reduceIte, go_sem, if_pos, if_neg, eq_false hg, len2, fzCs_len, fzCs_one, e0] | simp (maxSteps := 8000000) (implicitDefEqProofs := false) (disch := omega) only [↓reduceIte, go_sem, if_pos, if_neg, eq_true hg, len2, fzCs_len, fzCs_one, e0])))
      | (refine condKT_dec (fun hg => ?_) (fun hg => ?_) <;> (try (first | simp (maxSteps := 8000000) (implicitDefEqProofs := false) (disch := omega) only [↓reduceIte, go_sem, if_pos, if_neg, eq_false hg, len2, fzCs_len, fzCs_one, e0] | simp (maxSteps := 8000000) (implicitDefEqProofs := false) (disch := omega) only [↓reduceIte, go_sem, if_pos, if_neg, eq_true hg, len2, fzCs_len, fzCs_one, e0])))
      | (refine gdKT_split (fun hg => ?_) (fun hg => ?_) <;> (try simp (maxSteps := 8000000) (implicitDefEqProofs := false) (disch := omega) only [↓reduceIte, go_sem, if_pos, if_neg, hg, len2, fzCs_len, fzCs_one, e0]))
      | (refine condKT_split (fun hg => ?_) (fun hg => ?_) <;> (try simp (maxSteps := 8000000) (implicitDefEqProofs := false) (disch := omega) only [↓reduceIte, go_sem, if_pos, if_neg, hg, len2, fzCs_len, fzCs_one, e0]))
      | (refine endT_p (.inr rfl) (by simp (maxSteps := 8000000) (implicitDefEqProofs := false) (disch := omega) only [↓reduceIte, go_sem, if_pos, if_neg, len2, fzCs_len, fzCs_one, e0]; rfl) ?_; (first | exact vb_true (by omega) | exact vb_false (by omega) | exact vb_dec (by omega) | exact vi_eq (by omega) | rfl | (refine vi_eq ?_; simp_all; done) | (refine vi_eq ?_; simp_all; omega) | (refine vi_eq ?_; simp_all; intros; omega)))
      | exact endT_v (.inr rfl) (by simp (maxSteps := 8000000) (implicitDefEqProofs := false) (disch := omega) only [↓reduceIte, go_sem, if_pos, if_neg, len2, fzCs_len, fzCs_one, e0]; try rfl) (fun _ => rfl)
  rw [if_pos q0] at e0
  have y0 : szC x0 ≤ 1048576 := by omega
  have e2 := szR_at (k := 1048576 - (szC x0 : Int)) h2 (by omega) z2
  by_cases q2 : (szCs x2 : Int) ≤ 1048576 - (szC x0 : Int)
  case neg =>
    rw [if_neg q2] at e2
    (dsimp only [c14]; simp (maxSteps := 8000000) (implicitDefEqProofs := false) (disch := omega) only [↓reduceIte, go_sem, if_pos, if_neg, len2, fzCs_len, fzCs_one, e0, e2])
    repeat' first
      | (refine gdKT_dec (fun hg => ?_) (fun hg => ?_) <;> (try (first | simp (maxSteps := 8000000) (implicitDefEqProofs := false) (disch := omega) only [↓reduceIte, go_sem, if_pos, if_neg, eq_false hg, len2, fzCs_len, fzCs_one, e0, e2] | simp (maxSteps := 8000000) (implicitDefEqProofs := false) (disch := omega) only [↓reduceIte, go_sem, if_pos, if_neg, eq_true hg, len2, fzCs_len, fzCs_one, e0, e2])))
      | (refine condKT_dec (fun hg => ?_) (fun hg => ?_) <;> (try (first | simp (maxSteps := 8000000) (implicitDefEqProofs := false) (disch := omega) only [↓reduceIte, go_sem, if_pos, if_neg, eq_false hg, len2, fzCs_len, fzCs_one, e0, e2] | simp (maxSteps := 8000000) (implicitDefEqProofs := false) (disch := omega) only [↓reduceIte, go_sem, if_pos, if_neg, eq_true hg, len2, fzCs_len, fzCs_one, e0, e2])))
      | (refine gdKT_split (fun hg => ?_) (fun hg => ?_) <;> (try simp (maxSteps := 8000000) (implicitDefEqProofs := false) (disch := omega) only [↓reduceIte, go_sem, if_pos, if_neg, hg, len2, fzCs_len, fzCs_one, e0, e2]))
      | (refine condKT_split (fun hg => ?_) (fun hg => ?_) <;> (try simp (maxSteps := 8000000) (implicitDefEqProofs := false) (disch := omega) only [↓reduceIte, go_sem, if_pos, if_neg, hg, len2, fzCs_len, fzCs_one, e0, e2]))
      | (refine endT_p (.inr rfl) (by simp (maxSteps := 8000000) (implicitDefEqProofs := false) (disch := omega) only [↓reduceIte, go_sem, if_pos, if_neg, len2, fzCs_len, fzCs_one, e0, e2]; rfl) ?_; (first | exact vb_true (by omega) | exact vb_false (by omega) | exact vb_dec (by omega) | exact vi_eq (by omega) | rfl | (refine vi_eq ?_; simp_all; done) | (refine vi_eq ?_; simp_all; omega) | (refine vi_eq ?_; simp_all; intros; omega)))
      | exact endT_v (.inr rfl) (by simp (maxSteps := 8000000) (implicitDefEqProofs := false) (disch := omega) only [↓reduceIte, go_sem, if_pos, if_neg, len2, fzCs_len, fzCs_one, e0, e2]; try rfl) (fun _ => rfl)
  rw [if_pos q2] at e2
  have y2 : szCs x2 ≤ 1048576 := by omega
  obtain ⟨w, w', wS, wI, wE, fS, fI, sS, sI⟩ := H x0 x1 x2 h0 h2 y0 y2
  have lenS : w.length = 13 := FitR.len fS
  have lenI : w'.length = 13 := FitR.len fI
  have dS : dpCs w ≤ 9 := Nat.le_trans (FitR.dp _ _ fS) (of_decide_eq_true (by rfl))
  have dI : dpCs w' ≤ 9 := Nat.le_trans (FitR.dp _ _ fI) (of_decide_eq_true (by rfl))
  have mI : wtCs w' ≤ 64 * 1073741824 := FitR.w fI (of_decide_eq_true (by rfl)) sI
  have d0 : dpC x0 ≤ 9 := Nat.le_trans (FitC.dp _ _ (HasC.fit _ _ h0)) (of_decide_eq_true (by rfl))
  have m0 : wtC x0 ≤ 64 * 1048576 := FitC.w (HasC.fit _ _ h0) (of_decide_eq_true (by rfl)) y0
  have d2 : dpCs x2 ≤ 9 := Nat.le_trans (FitR.dp _ _ (HasR.fit _ _ h2)) (of_decide_eq_true (by rfl))
  have m2 : wtCs x2 ≤ 64 * 1048576 := FitR.w (HasR.fit _ _ h2) (of_decide_eq_true (by rfl)) y2
  obtain ⟨n0, hn0⟩ := isLen_ex ([] : List TB)
  have ln0 := hn0.eq
  simp only [List.length_append, List.length_cons, List.length_nil, bkC_len, bkCs_len, mkC_nb, mkCs_nb] at ln0
  have g1_ := hold_get (A := ([] : List TB)) (R := ([] : List TB)) (n := n0) (by first | (simp only [List.length_append, List.length_cons, List.length_nil, bkC_len, bkCs_len, mkC_nb, mkCs_nb]; done) | (simp only [List.length_append, List.length_cons, List.length_nil, bkC_len, bkCs_len, mkC_nb, mkCs_nb]; omega))
  try simp only [List.append_assoc, List.cons_append, List.nil_append, List.append_nil] at g1_
  obtain ⟨n2, hn2⟩ := isLen_ex ([.cells 63 7 [.agg (fzCs x2)]] : List TB)
  have ln2 := hn2.eq
  simp only [List.length_append, List.length_cons, List.length_nil, bkC_len, bkCs_len, mkC_nb, mkCs_nb] at ln2
  have e3_ : ∀ t, (ansSp (toC_S sh_SaS)).fn t [fzC x0] ([.cells 63 7 [.agg (fzCs x2)]] : List TB) = some (tvC n2 x0, (.cells 63 7 [.agg (fzCs x2)] :: (bkC n2 x0) : List TB)) := fun t => by
    rw [call_newC (by simp only [List.map_cons, List.map_nil, frz_p, frz_s, frz_agg, frz_fzC, frz_fzCs]; try rfl) (toC_at h0 y0) hn2.eq]; try simp only [List.append_assoc, List.cons_append, List.nil_append, List.append_nil]
  have Ln2 := bkC_len n2 x0
  have g4_ := hold_get (A := ([] : List TB)) (R := (bkC n2 x0 : List TB)) (n := n0) (by first | (simp only [List.length_append, List.length_cons, List.length_nil, bkC_len, bkCs_len, mkC_nb, mkCs_nb]; done) | (simp only [List.length_append, List.length_cons, List.length_nil, bkC_len, bkCs_len, mkC_nb, mkCs_nb]; omega))
  try simp only [List.append_assoc, List.cons_append, List.nil_append, List.append_nil] at g4_
  obtain ⟨n5, hn5⟩ := isLen_ex (.cells 63 7 [.agg (fzCs x2)] :: (bkC n2 x0) : List TB)
  have ln5 := hn5.eq
  simp only [List.length_append, List.length_cons, List.length_nil, bkC_len, bkCs_len, mkC_nb, mkCs_nb] at ln5
  have e6_ : ∀ t, (ansSp (toR_S sh_Packet)).fn t [.agg (fzCs x2)] (.cells 63 7 [.agg (fzCs x2)] :: (bkC n2 x0) : List TB) = some (.agg (tvCs n5 x2), (.cells 63 7 [.agg (fzCs x2)] :: (bkC n2 x0 ++ (bkCs n5 x2)) : List TB)) := fun t => by
    rw [call_new (by simp only [List.map_cons, List.map_nil, frz_p, frz_s, frz_agg, frz_fzC, frz_fzCs]; try rfl) (toR_at h2 y2) hn5.eq]; try simp only [List.append_assoc, List.cons_append, List.nil_append, List.append_nil]
  have Ln5 := bkCs_len n5 x2
  have f7 : frzT (.cells 63 7 [.agg (fzCs x2)] :: (bkC n2 x0 ++ (bkCs n5 x2)) : List TB) 9 (tvC n2 x0) = fzC x0 := by
    have := frzC_in (A := ([.cells 63 7 [.agg (fzCs x2)]] : List TB)) (B := (bkCs n5 x2 : List TB)) (c := x0) (n := n2) (by first | (simp only [List.length_append, List.length_cons, List.length_nil, bkC_len, bkCs_len, mkC_nb, mkCs_nb]; done) | (simp only [List.length_append, List.length_cons, List.length_nil, bkC_len, bkCs_len, mkC_nb, mkCs_nb]; omega)) (by first | assumption | (rw [mkC_dp]; assumption))
    (try simp only [List.append_assoc, List.cons_append, List.nil_append, List.append_nil, mkC_tv, mkCs_tv] at this); (try simp only [List.append_assoc, List.cons_append, List.nil_append, List.append_nil, mkC_tv, mkCs_tv]); exact this
  have f8 : frzT (.cells 63 7 [.agg (fzCs x2)] :: (bkC n2 x0 ++ (bkCs n5 x2)) : List TB) 9 (.agg (tvCs n5 x2)) = .agg (fzCs x2) := by
    have := frz_in (A := (.cells 63 7 [.agg (fzCs x2)] :: (bkC n2 x0) : List TB)) (B := ([] : List TB)) (w := x2) (n := n5) (by first | (simp only [List.length_append, List.length_cons, List.length_nil, bkC_len, bkCs_len, mkC_nb, mkCs_nb]; done) | (simp only [List.length_append, List.length_cons, List.length_nil, bkC_len, bkCs_len, mkC_nb, mkCs_nb]; omega)) (by first | assumption | (rw [mkCs_dp]; assumption))
    (try simp only [List.append_assoc, List.cons_append, List.nil_append, List.append_nil, mkC_tv, mkCs_tv] at this); (try simp only [List.append_assoc, List.cons_append, List.nil_append, List.append_nil, mkC_tv, mkCs_tv]); exact this
  obtain ⟨n9, hn9⟩ := isLen_ex (.cells 63 7 [.agg (fzCs x2)] :: (bkC n2 x0 ++ (bkCs n5 x2)) : List TB)
  have ln9 := hn9.eq
  simp only [List.length_append, List.length_cons, List.length_nil, bkC_len, bkCs_len, mkC_nb, mkCs_nb] at ln9
  have e10_ : ∀ t, (ansSp Ss).fn t [tvC n2 x0, .p (.int .i64 x1), .agg (tvCs n5 x2)] (.cells 63 7 [.agg (fzCs x2)] :: (bkC n2 x0 ++ (bkCs n5 x2)) : List TB) = some (.agg (tvCs n9 w), (.cells 63 7 [.agg (fzCs x2)] :: (bkC n2 x0 ++ (bkCs n5 x2 ++ (bkCs n9 w))) : List TB)) := fun t => by
    rw [call_new (by simp only [List.map_cons, List.map_nil, frz_p, frz_s, frz_agg, frz_fzC, frz_fzCs, f7, f8]; try rfl) (wS) hn9.eq]; try simp only [List.append_assoc, List.cons_append, List.nil_append, List.append_nil]
  have Ln9 := bkCs_len n9 w
  obtain ⟨n11, hn11⟩ := isLen_ex (.cells 63 7 [.agg (fzCs x2)] :: (bkC n2 x0 ++ (bkCs n5 x2 ++ (bkCs n9 w))) : List TB)
  have ln11 := hn11.eq
  simp only [List.length_append, List.length_cons, List.length_nil, bkC_len, bkCs_len, mkC_nb, mkCs_nb] at ln11
  have g12_ := hold_get (A := (.cells 63 7 [.agg (fzCs x2)] :: (bkC n2 x0 ++ (bkCs n5 x2 ++ (bkCs n9 w))) : List TB)) (R := ([] : List TB)) (n := n11) (by first | (simp only [List.length_append, List.length_cons, List.length_nil, bkC_len, bkCs_len, mkC_nb, mkCs_nb]; done) | (simp only [List.length_append, List.length_cons, List.length_nil, bkC_len, bkCs_len, mkC_nb, mkCs_nb]; omega))
  try simp only [List.append_assoc, List.cons_append, List.nil_append, List.append_nil] at g12_
  have g12_s := hold_set (A := (.cells 63 7 [.agg (fzCs x2)] :: (bkC n2 x0 ++ (bkCs n5 x2 ++ (bkCs n9 w))) : List TB)) (R := ([] : List TB)) (n := n11) (by first | (simp only [List.length_append, List.length_cons, List.length_nil, bkC_len, bkCs_len, mkC_nb, mkCs_nb]; done) | (simp only [List.length_append, List.length_cons, List.length_nil, bkC_len, bkCs_len, mkC_nb, mkCs_nb]; omega))
  try simp only [List.append_assoc, List.cons_append, List.nil_append, List.append_nil] at g12_s
  obtain ⟨n13, hn13⟩ := isLen_ex (.cells 63 7 [.agg (fzCs x2)] :: (bkC n2 x0 ++ (bkCs n5 x2 ++ (bkCs n9 w ++ ([.cells 56 13 [.agg (tvCs n9 w)]])))) : List TB)
  have ln13 := hn13.eq
  simp only [List.length_append, List.length_cons, List.length_nil, bkC_len, bkCs_len, mkC_nb, mkCs_nb] at ln13
  have e14_ : ∀ t, (ansSp (toC_S sh_SaS)).fn t [fzC x0] (.cells 63 7 [.agg (fzCs x2)] :: (bkC n2 x0 ++ (bkCs n5 x2 ++ (bkCs n9 w ++ ([.cells 56 13 [.agg (tvCs n9 w)]])))) : List TB) = some (tvC n13 x0, (.cells 63 7 [.agg (fzCs x2)] :: (bkC n2 x0 ++ (bkCs n5 x2 ++ (bkCs n9 w ++ (.cells 56 13 [.agg (tvCs n9 w)] :: (bkC n13 x0))))) : List TB)) := fun t => by
    rw [call_newC (by simp only [List.map_cons, List.map_nil, frz_p, frz_s, frz_agg, frz_fzC, frz_fzCs]; try rfl) (toC_at h0 y0) hn13.eq]; try simp only [List.append_assoc, List.cons_append, List.nil_append, List.append_nil]
  have Ln13 := bkC_len n13 x0
  have g15_ := hold_get (A := ([] : List TB)) (R := (bkC n2 x0 ++ (bkCs n5 x2 ++ (bkCs n9 w ++ (.cells 56 13 [.agg (tvCs n9 w)] :: (bkC n13 x0)))) : List TB)) (n := n0) (by first | (simp only [List.length_append, List.length_cons, List.length_nil, bkC_len, bkCs_len, mkC_nb, mkCs_nb]; done) | (simp only [List.length_append, List.length_cons, List.length_nil, bkC_len, bkCs_len, mkC_nb, mkCs_nb]; omega))
  try simp only [List.append_assoc, List.cons_append, List.nil_append, List.append_nil] at g15_
  obtain ⟨n16, hn16⟩ := isLen_ex (.cells 63 7 [.agg (fzCs x2)] :: (bkC n2 x0 ++ (bkCs n5 x2 ++ (bkCs n9 w ++ (.cells 56 13 [.agg (tvCs n9 w)] :: (bkC n13 x0))))) : List TB)
  have ln16 := hn16.eq
  simp only [List.length_append, List.length_cons, List.length_nil, bkC_len, bkCs_len, mkC_nb, mkCs_nb] at ln16
  have e17_ : ∀ t, (ansSp (toR_S sh_Packet)).fn t [.agg (fzCs x2)] (.cells 63 7 [.agg (fzCs x2)] :: (bkC n2 x0 ++ (bkCs n5 x2 ++ (bkCs n9 w ++ (.cells 56 13 [.agg (tvCs n9 w)] :: (bkC n13 x0))))) : List TB) = some (.agg (tvCs n16 x2), (.cells 63 7 [.agg (fzCs x2)] :: (bkC n2 x0 ++ (bkCs n5 x2 ++ (bkCs n9 w ++ (.cells 56 13 [.agg (tvCs n9 w)] :: (bkC n13 x0 ++ (bkCs n16 x2)))))) : List TB)) := fun t => by
    rw [call_new (by simp only [List.map_cons, List.map_nil, frz_p, frz_s, frz_agg, frz_fzC, frz_fzCs]; try rfl) (toR_at h2 y2) hn16.eq]; try simp only [List.append_assoc, List.cons_append, List.nil_append, List.append_nil]
  have Ln16 := bkCs_len n16 x2
  obtain ⟨n18, hn18⟩ := isLen_ex (.cells 63 7 [.agg (fzCs x2)] :: (bkC n2 x0 ++ (bkCs n5 x2 ++ (bkCs n9 w ++ (.cells 56 13 [.agg (tvCs n9 w)] :: (bkC n13 x0 ++ (bkCs n16 x2)))))) : List TB)
  have ln18 := hn18.eq
  simp only [List.length_append, List.length_cons, List.length_nil, bkC_len, bkCs_len, mkC_nb, mkCs_nb] at ln18
  have g19_ := hold_get (A := (.cells 63 7 [.agg (fzCs x2)] :: (bkC n2 x0 ++ (bkCs n5 x2 ++ (bkCs n9 w ++ (.cells 56 13 [.agg (tvCs n9 w)] :: (bkC n13 x0 ++ (bkCs n16 x2)))))) : List TB)) (R := ([] : List TB)) (n := n18) (by first | (simp only [List.length_append, List.length_cons, List.length_nil, bkC_len, bkCs_len, mkC_nb, mkCs_nb]; done) | (simp only [List.length_append, List.length_cons, List.length_nil, bkC_len, bkCs_len, mkC_nb, mkCs_nb]; omega))
  try simp only [List.append_assoc, List.cons_append, List.nil_append, List.append_nil] at g19_
  have g19_s := hold_set (A := (.cells 63 7 [.agg (fzCs x2)] :: (bkC n2 x0 ++ (bkCs n5 x2 ++ (bkCs n9 w ++ (.cells 56 13 [.agg (tvCs n9 w)] :: (bkC n13 x0 ++ (bkCs n16 x2)))))) : List TB)) (R := ([] : List TB)) (n := n18) (by first | (simp only [List.length_append, List.length_cons, List.length_nil, bkC_len, bkCs_len, mkC_nb, mkCs_nb]; done) | (simp only [List.length_append, List.length_cons, List.length_nil, bkC_len, bkCs_len, mkC_nb, mkCs_nb]; omega))
  try simp only [List.append_assoc, List.cons_append, List.nil_append, List.append_nil] at g19_s
  have g20_ := hold_get (A := (.cells 63 7 [.agg (fzCs x2)] :: (bkC n2 x0 ++ (bkCs n5 x2 ++ (bkCs n9 w ++ (.cells 56 13 [.agg (tvCs n9 w)] :: (bkC n13 x0 ++ (bkCs n16 x2)))))) : List TB)) (R := ([] : List TB)) (n := n18) (by first | (simp only [List.length_append, List.length_cons, List.length_nil, bkC_len, bkCs_len, mkC_nb, mkCs_nb]; done) | (simp only [List.length_append, List.length_cons, List.length_nil, bkC_len, bkCs_len, mkC_nb, mkCs_nb]; omega))
  try simp only [List.append_assoc, List.cons_append, List.nil_append, List.append_nil] at g20_
  have f21 : frzT (.cells 63 7 [.agg (fzCs x2)] :: (bkC n2 x0 ++ (bkCs n5 x2 ++ (bkCs n9 w ++ (.cells 56 13 [.agg (tvCs n9 w)] :: (bkC n13 x0 ++ (bkCs n16 x2 ++ ([.cells 68 7 [.agg (tvCs n16 x2)]]))))))) : List TB) 9 (tvC n13 x0) = fzC x0 := by
    have := frzC_in (A := (.cells 63 7 [.agg (fzCs x2)] :: (bkC n2 x0 ++ (bkCs n5 x2 ++ (bkCs n9 w ++ ([.cells 56 13 [.agg (tvCs n9 w)]])))) : List TB)) (B := (bkCs n16 x2 ++ ([.cells 68 7 [.agg (tvCs n16 x2)]]) : List TB)) (c := x0) (n := n13) (by first | (simp only [List.length_append, List.length_cons, List.length_nil, bkC_len, bkCs_len, mkC_nb, mkCs_nb]; done) | (simp only [List.length_append, List.length_cons, List.length_nil, bkC_len, bkCs_len, mkC_nb, mkCs_nb]; omega)) (by first | assumption | (rw [mkC_dp]; assumption))
    (try simp only [List.append_assoc, List.cons_append, List.nil_append, List.append_nil, mkC_tv, mkCs_tv] at this); (try simp only [List.append_assoc, List.cons_append, List.nil_append, List.append_nil, mkC_tv, mkCs_tv]); exact this
  have f22 : frzT (.cells 63 7 [.agg (fzCs x2)] :: (bkC n2 x0 ++ (bkCs n5 x2 ++ (bkCs n9 w ++ (.cells 56 13 [.agg (tvCs n9 w)] :: (bkC n13 x0 ++ (bkCs n16 x2 ++ ([.cells 68 7 [.agg (tvCs n16 x2)]]))))))) : List TB) 9 (.agg (tvCs n16 x2)) = .agg (fzCs x2) := by
    have := frz_in (A := (.cells 63 7 [.agg (fzCs x2)] :: (bkC n2 x0 ++ (bkCs n5 x2 ++ (bkCs n9 w ++ (.cells 56 13 [.agg (tvCs n9 w)] :: (bkC n13 x0))))) : List TB)) (B := ([.cells 68 7 [.agg (tvCs n16 x2)]] : List TB)) (w := x2) (n := n16) (by first | (simp only [List.length_append, List.length_cons, List.length_nil, bkC_len, bkCs_len, mkC_nb, mkCs_nb]; done) | (simp only [List.length_append, List.length_cons, List.length_nil, bkC_len, bkCs_len, mkC_nb, mkCs_nb]; omega)) (by first | assumption | (rw [mkCs_dp]; assumption))
    (try simp only [List.append_assoc, List.cons_append, List.nil_append, List.append_nil, mkC_tv, mkCs_tv] at this); (try simp only [List.append_assoc, List.cons_append, List.nil_append, List.append_nil, mkC_tv, mkCs_tv]); exact this
  obtain ⟨n23, hn23⟩ := isLen_ex (.cells 63 7 [.agg (fzCs x2)] :: (bkC n2 x0 ++ (bkCs n5 x2 ++ (bkCs n9 w ++ (.cells 56 13 [.agg (tvCs n9 w)] :: (bkC n13 x0 ++ (bkCs n16 x2 ++ ([.cells 68 7 [.agg (tvCs n16 x2)]]))))))) : List TB)
  have ln23 := hn23.eq
  simp only [List.length_append, List.length_cons, List.length_nil, bkC_len, bkCs_len, mkC_nb, mkCs_nb] at ln23
  have e24_ : ∀ t, (ansSp Si).fn t [tvC n13 x0, .p (.int .i64 x1), .agg (tvCs n16 x2)] (.cells 63 7 [.agg (fzCs x2)] :: (bkC n2 x0 ++ (bkCs n5 x2 ++ (bkCs n9 w ++ (.cells 56 13 [.agg (tvCs n9 w)] :: (bkC n13 x0 ++ (bkCs n16 x2 ++ ([.cells 68 7 [.agg (tvCs n16 x2)]]))))))) : List TB) = some (.agg (tvCs n23 w'), (.cells 63 7 [.agg (fzCs x2)] :: (bkC n2 x0 ++ (bkCs n5 x2 ++ (bkCs n9 w ++ (.cells 56 13 [.agg (tvCs n9 w)] :: (bkC n13 x0 ++ (bkCs n16 x2 ++ (.cells 68 7 [.agg (tvCs n16 x2)] :: (bkCs n23 w')))))))) : List TB)) := fun t => by
    rw [call_new (by simp only [List.map_cons, List.map_nil, frz_p, frz_s, frz_agg, frz_fzC, frz_fzCs, f21, f22]; try rfl) (wI) hn23.eq]; try simp only [List.append_assoc, List.cons_append, List.nil_append, List.append_nil]
  have Ln23 := bkCs_len n23 w'
  obtain ⟨n25, hn25⟩ := isLen_ex (.cells 63 7 [.agg (fzCs x2)] :: (bkC n2 x0 ++ (bkCs n5 x2 ++ (bkCs n9 w ++ (.cells 56 13 [.agg (tvCs n9 w)] :: (bkC n13 x0 ++ (bkCs n16 x2 ++ (.cells 68 7 [.agg (tvCs n16 x2)] :: (bkCs n23 w')))))))) : List TB)
  have ln25 := hn25.eq
  simp only [List.length_append, List.length_cons, List.length_nil, bkC_len, bkCs_len, mkC_nb, mkCs_nb] at ln25
  have g26_ := hold_get (A := (.cells 63 7 [.agg (fzCs x2)] :: (bkC n2 x0 ++ (bkCs n5 x2 ++ (bkCs n9 w ++ (.cells 56 13 [.agg (tvCs n9 w)] :: (bkC n13 x0 ++ (bkCs n16 x2 ++ (.cells 68 7 [.agg (tvCs n16 x2)] :: (bkCs n23 w')))))))) : List TB)) (R := ([] : List TB)) (n := n25) (by first | (simp only [List.length_append, List.length_cons, List.length_nil, bkC_len, bkCs_len, mkC_nb, mkCs_nb]; done) | (simp only [List.length_append, List.length_cons, List.length_nil, bkC_len, bkCs_len, mkC_nb, mkCs_nb]; omega))
  try simp only [List.append_assoc, List.cons_append, List.nil_append, List.append_nil] at g26_
  have g26_s := hold_set (A := (.cells 63 7 [.agg (fzCs x2)] :: (bkC n2 x0 ++ (bkCs n5 x2 ++ (bkCs n9 w ++ (.cells 56 13 [.agg (tvCs n9 w)] :: (bkC n13 x0 ++ (bkCs n16 x2 ++ (.cells 68 7 [.agg (tvCs n16 x2)] :: (bkCs n23 w')))))))) : List TB)) (R := ([] : List TB)) (n := n25) (by first | (simp only [List.length_append, List.length_cons, List.length_nil, bkC_len, bkCs_len, mkC_nb, mkCs_nb]; done) | (simp only [List.length_append, List.length_cons, List.length_nil, bkC_len, bkCs_len, mkC_nb, mkCs_nb]; omega))
  try simp only [List.append_assoc, List.cons_append, List.nil_append, List.append_nil] at g26_s
  have g27_ := hold_get (A := (.cells 63 7 [.agg (fzCs x2)] :: (bkC n2 x0 ++ (bkCs n5 x2 ++ (bkCs n9 w ++ (.cells 56 13 [.agg (tvCs n9 w)] :: (bkC n13 x0 ++ (bkCs n16 x2 ++ (.cells 68 7 [.agg (tvCs n16 x2)] :: (bkCs n23 w')))))))) : List TB)) (R := ([] : List TB)) (n := n25) (by first | (simp only [List.length_append, List.length_cons, List.length_nil, bkC_len, bkCs_len, mkC_nb, mkCs_nb]; done) | (simp only [List.length_append, List.length_cons, List.length_nil, bkC_len, bkCs_len, mkC_nb, mkCs_nb]; omega))
  try simp only [List.append_assoc, List.cons_append, List.nil_append, List.append_nil] at g27_
  have g28_ := hold_get (A := (.cells 63 7 [.agg (fzCs x2)] :: (bkC n2 x0 ++ (bkCs n5 x2 ++ (bkCs n9 w))) : List TB)) (R := (bkC n13 x0 ++ (bkCs n16 x2 ++ (.cells 68 7 [.agg (tvCs n16 x2)] :: (bkCs n23 w' ++ ([.cells 56 13 [.agg (tvCs n23 w')]])))) : List TB)) (n := n11) (by first | (simp only [List.length_append, List.length_cons, List.length_nil, bkC_len, bkCs_len, mkC_nb, mkCs_nb]; done) | (simp only [List.length_append, List.length_cons, List.length_nil, bkC_len, bkCs_len, mkC_nb, mkCs_nb]; omega))
  try simp only [List.append_assoc, List.cons_append, List.nil_append, List.append_nil] at g28_
  have f29 : frzT (.cells 63 7 [.agg (fzCs x2)] :: (bkC n2 x0 ++ (bkCs n5 x2 ++ (bkCs n9 w ++ (.cells 56 13 [.agg (tvCs n9 w)] :: (bkC n13 x0 ++ (bkCs n16 x2 ++ (.cells 68 7 [.agg (tvCs n16 x2)] :: (bkCs n23 w' ++ ([.cells 56 13 [.agg (tvCs n23 w')]]))))))))) : List TB) 9 (.agg (tvCs n23 w')) = .agg (fzCs w') := by
    have := frz_in (A := (.cells 63 7 [.agg (fzCs x2)] :: (bkC n2 x0 ++ (bkCs n5 x2 ++ (bkCs n9 w ++ (.cells 56 13 [.agg (tvCs n9 w)] :: (bkC n13 x0 ++ (bkCs n16 x2 ++ ([.cells 68 7 [.agg (tvCs n16 x2)]]))))))) : List TB)) (B := ([.cells 56 13 [.agg (tvCs n23 w')]] : List TB)) (w := w') (n := n23) (by first | (simp only [List.length_append, List.length_cons, List.length_nil, bkC_len, bkCs_len, mkC_nb, mkCs_nb]; done) | (simp only [List.length_append, List.length_cons, List.length_nil, bkC_len, bkCs_len, mkC_nb, mkCs_nb]; omega)) (by first | assumption | (rw [mkCs_dp]; assumption))
    (try simp only [List.append_assoc, List.cons_append, List.nil_append, List.append_nil, mkC_tv, mkCs_tv] at this); (try simp only [List.append_assoc, List.cons_append, List.nil_append, List.append_nil, mkC_tv, mkCs_tv]); exact this
  have f30 : frzT (.cells 63 7 [.agg (fzCs x2)] :: (bkC n2 x0 ++ (bkCs n5 x2 ++ (bkCs n9 w ++ (.cells 56 13 [.agg (tvCs n9 w)] :: (bkC n13 x0 ++ (bkCs n16 x2 ++ (.cells 68 7 [.agg (tvCs n16 x2)] :: (bkCs n23 w' ++ ([.cells 56 13 [.agg (tvCs n23 w')]]))))))))) : List TB) 9 (.agg (tvCs n9 w)) = .agg (fzCs w) := by
    have := frz_in (A := (.cells 63 7 [.agg (fzCs x2)] :: (bkC n2 x0 ++ (bkCs n5 x2)) : List TB)) (B := (.cells 56 13 [.agg (tvCs n9 w)] :: (bkC n13 x0 ++ (bkCs n16 x2 ++ (.cells 68 7 [.agg (tvCs n16 x2)] :: (bkCs n23 w' ++ ([.cells 56 13 [.agg (tvCs n23 w')]]))))) : List TB)) (w := w) (n := n9) (by first | (simp only [List.length_append, List.length_cons, List.length_nil, bkC_len, bkCs_len, mkC_nb, mkCs_nb]; done) | (simp only [List.length_append, List.length_cons, List.length_nil, bkC_len, bkCs_len, mkC_nb, mkCs_nb]; omega)) (by first | assumption | (rw [mkCs_dp]; assumption))
    (try simp only [List.append_assoc, List.cons_append, List.nil_append, List.append_nil, mkC_tv, mkCs_tv] at this); (try simp only [List.append_assoc, List.cons_append, List.nil_append, List.append_nil, mkC_tv, mkCs_tv]); exact this
  have e31_ : ∀ t, (ansSp (eqR_S sh_SaResult)).fn t [.agg (tvCs n23 w'), .agg (tvCs n9 w)] (.cells 63 7 [.agg (fzCs x2)] :: (bkC n2 x0 ++ (bkCs n5 x2 ++ (bkCs n9 w ++ (.cells 56 13 [.agg (tvCs n9 w)] :: (bkC n13 x0 ++ (bkCs n16 x2 ++ (.cells 68 7 [.agg (tvCs n16 x2)] :: (bkCs n23 w' ++ ([.cells 56 13 [.agg (tvCs n23 w')]]))))))))) : List TB) = some (.p (.bool true), (.cells 63 7 [.agg (fzCs x2)] :: (bkC n2 x0 ++ (bkCs n5 x2 ++ (bkCs n9 w ++ (.cells 56 13 [.agg (tvCs n9 w)] :: (bkC n13 x0 ++ (bkCs n16 x2 ++ (.cells 68 7 [.agg (tvCs n16 x2)] :: (bkCs n23 w' ++ ([.cells 56 13 [.agg (tvCs n23 w')]]))))))))) : List TB)) := fun t => call_val (by simp only [List.map_cons, List.map_nil, frz_p, frz_s, frz_agg, frz_fzC, frz_fzCs, wE, f29, f30]; try rfl) (eqR_at fI (Nat.le_trans sI (by decide)))
  obtain ⟨n32, hn32⟩ := isLen_ex (.cells 63 7 [.agg (fzCs x2)] :: (bkC n2 x0 ++ (bkCs n5 x2 ++ (bkCs n9 w ++ (.cells 56 13 [.agg (tvCs n9 w)] :: (bkC n13 x0 ++ (bkCs n16 x2 ++ (.cells 68 7 [.agg (tvCs n16 x2)] :: (bkCs n23 w' ++ ([.cells 56 13 [.agg (tvCs n23 w')]]))))))))) : List TB)
  have ln32 := hn32.eq
  simp only [List.length_append, List.length_cons, List.length_nil, bkC_len, bkCs_len, mkC_nb, mkCs_nb] at ln32
  have e33_ : ∀ t, (ansSp (toC_S sh_SaS)).fn t [fzC x0] (.cells 63 7 [.agg (fzCs x2)] :: (bkC n2 x0 ++ (bkCs n5 x2 ++ (bkCs n9 w ++ (.cells 56 13 [.agg (tvCs n9 w)] :: (bkC n13 x0 ++ (bkCs n16 x2 ++ (.cells 68 7 [.agg (tvCs n16 x2)] :: (bkCs n23 w' ++ ([.cells 56 13 [.agg (tvCs n23 w')]]))))))))) : List TB) = some (tvC n32 x0, (.cells 63 7 [.agg (fzCs x2)] :: (bkC n2 x0 ++ (bkCs n5 x2 ++ (bkCs n9 w ++ (.cells 56 13 [.agg (tvCs n9 w)] :: (bkC n13 x0 ++ (bkCs n16 x2 ++ (.cells 68 7 [.agg (tvCs n16 x2)] :: (bkCs n23 w' ++ (.cells 56 13 [.agg (tvCs n23 w')] :: (bkC n32 x0)))))))))) : List TB)) := fun t => by
    rw [call_newC (by simp only [List.map_cons, List.map_nil, frz_p, frz_s, frz_agg, frz_fzC, frz_fzCs]; try rfl) (toC_at h0 y0) hn32.eq]; try simp only [List.append_assoc, List.cons_append, List.nil_append, List.append_nil]
  have Ln32 := bkC_len n32 x0
  have f34 : frzT (.cells 63 7 [.agg (fzCs x2)] :: (bkC n2 x0 ++ (bkCs n5 x2 ++ (bkCs n9 w ++ (.cells 56 13 [.agg (tvCs n9 w)] :: (bkC n13 x0 ++ (bkCs n16 x2 ++ (.cells 68 7 [.agg (tvCs n16 x2)] :: (bkCs n23 w' ++ (.cells 56 13 [.agg (tvCs n23 w')] :: (bkC n32 x0)))))))))) : List TB) 9 (tvC n13 x0) = fzC x0 := by
    have := frzC_in (A := (.cells 63 7 [.agg (fzCs x2)] :: (bkC n2 x0 ++ (bkCs n5 x2 ++ (bkCs n9 w ++ ([.cells 56 13 [.agg (tvCs n9 w)]])))) : List TB)) (B := (bkCs n16 x2 ++ (.cells 68 7 [.agg (tvCs n16 x2)] :: (bkCs n23 w' ++ (.cells 56 13 [.agg (tvCs n23 w')] :: (bkC n32 x0)))) : List TB)) (c := x0) (n := n13) (by first | (simp only [List.length_append, List.length_cons, List.length_nil, bkC_len, bkCs_len, mkC_nb, mkCs_nb]; done) | (simp only [List.length_append, List.length_cons, List.length_nil, bkC_len, bkCs_len, mkC_nb, mkCs_nb]; omega)) (by first | assumption | (rw [mkC_dp]; assumption))
    (try simp only [List.append_assoc, List.cons_append, List.nil_append, List.append_nil, mkC_tv, mkCs_tv] at this); (try simp only [List.append_assoc, List.cons_append, List.nil_append, List.append_nil, mkC_tv, mkCs_tv]); exact this
  have f35 : frzT (.cells 63 7 [.agg (fzCs x2)] :: (bkC n2 x0 ++ (bkCs n5 x2 ++ (bkCs n9 w ++ (.cells 56 13 [.agg (tvCs n9 w)] :: (bkC n13 x0 ++ (bkCs n16 x2 ++ (.cells 68 7 [.agg (tvCs n16 x2)] :: (bkCs n23 w' ++ (.cells 56 13 [.agg (tvCs n23 w')] :: (bkC n32 x0)))))))))) : List TB) 9 (tvC n32 x0) = fzC x0 := by
    have := frzC_in (A := (.cells 63 7 [.agg (fzCs x2)] :: (bkC n2 x0 ++ (bkCs n5 x2 ++ (bkCs n9 w ++ (.cells 56 13 [.agg (tvCs n9 w)] :: (bkC n13 x0 ++ (bkCs n16 x2 ++ (.cells 68 7 [.agg (tvCs n16 x2)] :: (bkCs n23 w' ++ ([.cells 56 13 [.agg (tvCs n23 w')]]))))))))) : List TB)) (B := ([] : List TB)) (c := x0) (n := n32) (by first | (simp only [List.length_append, List.length_cons, List.length_nil, bkC_len, bkCs_len, mkC_nb, mkCs_nb]; done) | (simp only [List.length_append, List.length_cons, List.length_nil, bkC_len, bkCs_len, mkC_nb, mkCs_nb]; omega)) (by first | assumption | (rw [mkC_dp]; assumption))
    (try simp only [List.append_assoc, List.cons_append, List.nil_append, List.append_nil, mkC_tv, mkCs_tv] at this); (try simp only [List.append_assoc, List.cons_append, List.nil_append, List.append_nil, mkC_tv, mkCs_tv]); exact this
  have e36_ : ∀ t, (ansSp (eqC_S sh_SaS)).fn t [tvC n13 x0, tvC n32 x0] (.cells 63 7 [.agg (fzCs x2)] :: (bkC n2 x0 ++ (bkCs n5 x2 ++ (bkCs n9 w ++ (.cells 56 13 [.agg (tvCs n9 w)] :: (bkC n13 x0 ++ (bkCs n16 x2 ++ (.cells 68 7 [.agg (tvCs n16 x2)] :: (bkCs n23 w' ++ (.cells 56 13 [.agg (tvCs n23 w')] :: (bkC n32 x0)))))))))) : List TB) = some (.p (.bool true), (.cells 63 7 [.agg (fzCs x2)] :: (bkC n2 x0 ++ (bkCs n5 x2 ++ (bkCs n9 w ++ (.cells 56 13 [.agg (tvCs n9 w)] :: (bkC n13 x0 ++ (bkCs n16 x2 ++ (.cells 68 7 [.agg (tvCs n16 x2)] :: (bkCs n23 w' ++ (.cells 56 13 [.agg (tvCs n23 w')] :: (bkC n32 x0)))))))))) : List TB)) := fun t => call_val (by simp only [List.map_cons, List.map_nil, frz_p, frz_s, frz_agg, frz_fzC, frz_fzCs, f34, f35]; try rfl) (eqC_at (HasC.fit _ _ h0) (Nat.le_trans y0 (by decide)))
  have g37_ := hold_get (A := (.cells 63 7 [.agg (fzCs x2)] :: (bkC n2 x0 ++ (bkCs n5 x2 ++ (bkCs n9 w ++ (.cells 56 13 [.agg (tvCs n9 w)] :: (bkC n13 x0 ++ (bkCs n16 x2)))))) : List TB)) (R := (bkCs n23 w' ++ (.cells 56 13 [.agg (tvCs n23 w')] :: (bkC n32 x0)) : List TB)) (n := n18) (by first | (simp only [List.length_append, List.length_cons, List.length_nil, bkC_len, bkCs_len, mkC_nb, mkCs_nb]; done) | (simp only [List.length_append, List.length_cons, List.length_nil, bkC_len, bkCs_len, mkC_nb, mkCs_nb]; omega))
  try simp only [List.append_assoc, List.cons_append, List.nil_append, List.append_nil] at g37_
  have g38_ := hold_get (A := ([] : List TB)) (R := (bkC n2 x0 ++ (bkCs n5 x2 ++ (bkCs n9 w ++ (.cells 56 13 [.agg (tvCs n9 w)] :: (bkC n13 x0 ++ (bkCs n16 x2 ++ (.cells 68 7 [.agg (tvCs n16 x2)] :: (bkCs n23 w' ++ (.cells 56 13 [.agg (tvCs n23 w')] :: (bkC n32 x0))))))))) : List TB)) (n := n0) (by first | (simp only [List.length_append, List.length_cons, List.length_nil, bkC_len, bkCs_len, mkC_nb, mkCs_nb]; done) | (simp only [List.length_append, List.length_cons, List.length_nil, bkC_len, bkCs_len, mkC_nb, mkCs_nb]; omega))
  try simp only [List.append_assoc, List.cons_append, List.nil_append, List.append_nil] at g38_
  obtain ⟨n39, hn39⟩ := isLen_ex (.cells 63 7 [.agg (fzCs x2)] :: (bkC n2 x0 ++ (bkCs n5 x2 ++ (bkCs n9 w ++ (.cells 56 13 [.agg (tvCs n9 w)] :: (bkC n13 x0 ++ (bkCs n16 x2 ++ (.cells 68 7 [.agg (tvCs n16 x2)] :: (bkCs n23 w' ++ (.cells 56 13 [.agg (tvCs n23 w')] :: (bkC n32 x0)))))))))) : List TB)
  have ln39 := hn39.eq
  simp only [List.length_append, List.length_cons, List.length_nil, bkC_len, bkCs_len, mkC_nb, mkCs_nb] at ln39
  have e40_ : ∀ t, (ansSp (toR_S sh_Packet)).fn t [.agg (fzCs x2)] (.cells 63 7 [.agg (fzCs x2)] :: (bkC n2 x0 ++ (bkCs n5 x2 ++ (bkCs n9 w ++ (.cells 56 13 [.agg (tvCs n9 w)] :: (bkC n13 x0 ++ (bkCs n16 x2 ++ (.cells 68 7 [.agg (tvCs n16 x2)] :: (bkCs n23 w' ++ (.cells 56 13 [.agg (tvCs n23 w')] :: (bkC n32 x0)))))))))) : List TB) = some (.agg (tvCs n39 x2), (.cells 63 7 [.agg (fzCs x2)] :: (bkC n2 x0 ++ (bkCs n5 x2 ++ (bkCs n9 w ++ (.cells 56 13 [.agg (tvCs n9 w)] :: (bkC n13 x0 ++ (bkCs n16 x2 ++ (.cells 68 7 [.agg (tvCs n16 x2)] :: (bkCs n23 w' ++ (.cells 56 13 [.agg (tvCs n23 w')] :: (bkC n32 x0 ++ (bkCs n39 x2))))))))))) : List TB)) := fun t => by
    rw [call_new (by simp only [List.map_cons, List.map_nil, frz_p, frz_s, frz_agg, frz_fzC, frz_fzCs]; try rfl) (toR_at h2 y2) hn39.eq]; try simp only [List.append_assoc, List.cons_append, List.nil_append, List.append_nil]
  have Ln39 := bkCs_len n39 x2
  have f41 : frzT (.cells 63 7 [.agg (fzCs x2)] :: (bkC n2 x0 ++ (bkCs n5 x2 ++ (bkCs n9 w ++ (.cells 56 13 [.agg (tvCs n9 w)] :: (bkC n13 x0 ++ (bkCs n16 x2 ++ (.cells 68 7 [.agg (tvCs n16 x2)] :: (bkCs n23 w' ++ (.cells 56 13 [.agg (tvCs n23 w')] :: (bkC n32 x0 ++ (bkCs n39 x2))))))))))) : List TB) 9 (.agg (tvCs n16 x2)) = .agg (fzCs x2) := by
    have := frz_in (A := (.cells 63 7 [.agg (fzCs x2)] :: (bkC n2 x0 ++ (bkCs n5 x2 ++ (bkCs n9 w ++ (.cells 56 13 [.agg (tvCs n9 w)] :: (bkC n13 x0))))) : List TB)) (B := (.cells 68 7 [.agg (tvCs n16 x2)] :: (bkCs n23 w' ++ (.cells 56 13 [.agg (tvCs n23 w')] :: (bkC n32 x0 ++ (bkCs n39 x2)))) : List TB)) (w := x2) (n := n16) (by first | (simp only [List.length_append, List.length_cons, List.length_nil, bkC_len, bkCs_len, mkC_nb, mkCs_nb]; done) | (simp only [List.length_append, List.length_cons, List.length_nil, bkC_len, bkCs_len, mkC_nb, mkCs_nb]; omega)) (by first | assumption | (rw [mkCs_dp]; assumption))
    (try simp only [List.append_assoc, List.cons_append, List.nil_append, List.append_nil, mkC_tv, mkCs_tv] at this); (try simp only [List.append_assoc, List.cons_append, List.nil_append, List.append_nil, mkC_tv, mkCs_tv]); exact this
  have f42 : frzT (.cells 63 7 [.agg (fzCs x2)] :: (bkC n2 x0 ++ (bkCs n5 x2 ++ (bkCs n9 w ++ (.cells 56 13 [.agg (tvCs n9 w)] :: (bkC n13 x0 ++ (bkCs n16 x2 ++ (.cells 68 7 [.agg (tvCs n16 x2)] :: (bkCs n23 w' ++ (.cells 56 13 [.agg (tvCs n23 w')] :: (bkC n32 x0 ++ (bkCs n39 x2))))))))))) : List TB) 9 (.agg (tvCs n39 x2)) = .agg (fzCs x2) := by
    have := frz_in (A := (.cells 63 7 [.agg (fzCs x2)] :: (bkC n2 x0 ++ (bkCs n5 x2 ++ (bkCs n9 w ++ (.cells 56 13 [.agg (tvCs n9 w)] :: (bkC n13 x0 ++ (bkCs n16 x2 ++ (.cells 68 7 [.agg (tvCs n16 x2)] :: (bkCs n23 w' ++ (.cells 56 13 [.agg (tvCs n23 w')] :: (bkC n32 x0)))))))))) : List TB)) (B := ([] : List TB)) (w := x2) (n := n39) (by first | (simp only [List.length_append, List.length_cons, List.length_nil, bkC_len, bkCs_len, mkC_nb, mkCs_nb]; done) | (simp only [List.length_append, List.length_cons, List.length_nil, bkC_len, bkCs_len, mkC_nb, mkCs_nb]; omega)) (by first | assumption | (rw [mkCs_dp]; assumption))
    (try simp only [List.append_assoc, List.cons_append, List.nil_append, List.append_nil, mkC_tv, mkCs_tv] at this); (try simp only [List.append_assoc, List.cons_append, List.nil_append, List.append_nil, mkC_tv, mkCs_tv]); exact this
  have e43_ : ∀ t, (ansSp (eqR_S sh_Packet)).fn t [.agg (tvCs n16 x2), .agg (tvCs n39 x2)] (.cells 63 7 [.agg (fzCs x2)] :: (bkC n2 x0 ++ (bkCs n5 x2 ++ (bkCs n9 w ++ (.cells 56 13 [.agg (tvCs n9 w)] :: (bkC n13 x0 ++ (bkCs n16 x2 ++ (.cells 68 7 [.agg (tvCs n16 x2)] :: (bkCs n23 w' ++ (.cells 56 13 [.agg (tvCs n23 w')] :: (bkC n32 x0 ++ (bkCs n39 x2))))))))))) : List TB) = some (.p (.bool true), (.cells 63 7 [.agg (fzCs x2)] :: (bkC n2 x0 ++ (bkCs n5 x2 ++ (bkCs n9 w ++ (.cells 56 13 [.agg (tvCs n9 w)] :: (bkC n13 x0 ++ (bkCs n16 x2 ++ (.cells 68 7 [.agg (tvCs n16 x2)] :: (bkCs n23 w' ++ (.cells 56 13 [.agg (tvCs n23 w')] :: (bkC n32 x0 ++ (bkCs n39 x2))))))))))) : List TB)) := fun t => call_val (by simp only [List.map_cons, List.map_nil, frz_p, frz_s, frz_agg, frz_fzC, frz_fzCs, f41, f42]; try rfl) (eqR_at (HasR.fit _ _ h2) (Nat.le_trans y2 (by decide)))
  (dsimp only [c14]; simp (maxSteps := 8000000) (implicitDefEqProofs := false) (disch := omega) only [↓reduceIte, go_sem, if_pos, if_neg, len2, fzCs_len, fzCs_one, lenS, lenI, tvCs_len, tvCs_one, e0, e2, ↓hn0.eq, g1_, ↓hn2.eq, e3_, g4_, ↓hn5.eq, e6_, ↓hn9.eq, e10_, ↓hn11.eq, g12_, g12_s, ↓hn13.eq, e14_, g15_, ↓hn16.eq, e17_, ↓hn18.eq, g19_, g19_s, g20_, ↓hn23.eq, e24_, ↓hn25.eq, g26_, g26_s, g27_, g28_, e31_, ↓hn32.eq, e33_, e36_, g37_, g38_, ↓hn39.eq, e40_, e43_])
  have k44_ := mkC_seg (A := (.cells 63 7 [.agg (fzCs x2)] :: (bkC n2 x0 ++ (bkCs n5 x2 ++ (bkCs n9 w ++ ([.cells 56 13 [.agg (tvCs n9 w)]])))) : List TB)) (B := (bkCs n16 x2 ++ (.cells 68 7 [.agg (tvCs n16 x2)] :: (bkCs n23 w' ++ (.cells 56 13 [.agg (tvCs n23 w')] :: (bkC n32 x0 ++ (bkCs n39 x2))))) : List TB)) (n := n13) (c := x0) (k := 1) (by simp only [List.length_append, List.length_cons, List.length_nil, bkC_len, bkCs_len, mkC_nb, mkCs_nb]; omega) (HasC.fit _ _ h0) (by omega) (by omega)
  simp only [List.append_assoc, List.cons_append, List.nil_append, List.append_nil] at k44_
  have Ln13_45 := bkC_len n13 (mkC x0 (1)); rw [mkC_nb] at Ln13_45
  refine mutQ_call (by simp (maxSteps := 8000000) (implicitDefEqProofs := false) (disch := omega) only [↓reduceIte, go_sem, if_pos, if_neg]; rfl) (by simp (maxSteps := 8000000) (implicitDefEqProofs := false) (disch := omega) only [↓reduceIte, go_sem, if_pos, if_neg]) k44_ ?_
  have g45_ := hold_get (A := (.cells 63 7 [.agg (fzCs x2)] :: (bkC n2 x0 ++ (bkCs n5 x2 ++ (bkCs n9 w ++ (.cells 56 13 [.agg (tvCs n9 w)] :: (bkC n13 (mkC x0 (1)) ++ (bkCs n16 x2)))))) : List TB)) (R := (bkCs n23 w' ++ (.cells 56 13 [.agg (tvCs n23 w')] :: (bkC n32 x0 ++ (bkCs n39 x2))) : List TB)) (n := n18) (by first | (simp only [List.length_append, List.length_cons, List.length_nil, bkC_len, bkCs_len, mkC_nb, mkCs_nb]; done) | (simp only [List.length_append, List.length_cons, List.length_nil, bkC_len, bkCs_len, mkC_nb, mkCs_nb]; omega))
  try simp only [List.append_assoc, List.cons_append, List.nil_append, List.append_nil] at g45_
  simp (maxSteps := 8000000) (implicitDefEqProofs := false) (disch := omega) only [↓reduceIte, go_sem, if_pos, if_neg, len2, fzCs_len, fzCs_one, lenS, lenI, tvCs_len, tvCs_one, eq_false (show ¬ (1 + (wtC x0 : Int) < 0) by omega), g45_]
  have k46_ := mkR_seg (A := (.cells 63 7 [.agg (fzCs x2)] :: (bkC n2 x0 ++ (bkCs n5 x2 ++ (bkCs n9 w ++ (.cells 56 13 [.agg (tvCs n9 w)] :: (bkC n13 (mkC x0 (1))))))) : List TB)) (B := (.cells 68 7 [.agg (tvCs n16 x2)] :: (bkCs n23 w' ++ (.cells 56 13 [.agg (tvCs n23 w')] :: (bkC n32 x0 ++ (bkCs n39 x2)))) : List TB)) (n := n16) (c := x2) (k := (1 + (wtC x0 : Int))) (by simp only [List.length_append, List.length_cons, List.length_nil, bkC_len, bkCs_len, mkC_nb, mkCs_nb]; omega) (HasR.fit _ _ h2) (by omega) (by omega)
  simp only [List.append_assoc, List.cons_append, List.nil_append, List.append_nil] at k46_
  have Ln16_47 := bkCs_len n16 (mkCs x2 ((1 + (wtC x0 : Int)))); rw [mkCs_nb] at Ln16_47
  refine mutQ_call (by simp (maxSteps := 8000000) (implicitDefEqProofs := false) (disch := omega) only [↓reduceIte, go_sem, if_pos, if_neg]; rfl) (by simp (maxSteps := 8000000) (implicitDefEqProofs := false) (disch := omega) only [↓reduceIte, go_sem, if_pos, if_neg]) k46_ ?_
  have g47_ := hold_get (A := (.cells 63 7 [.agg (fzCs x2)] :: (bkC n2 x0 ++ (bkCs n5 x2 ++ (bkCs n9 w ++ (.cells 56 13 [.agg (tvCs n9 w)] :: (bkC n13 (mkC x0 (1)) ++ (bkCs n16 (mkCs x2 ((1 + (wtC x0 : Int)))) ++ (.cells 68 7 [.agg (tvCs n16 x2)] :: (bkCs n23 w')))))))) : List TB)) (R := (bkC n32 x0 ++ (bkCs n39 x2) : List TB)) (n := n25) (by first | (simp only [List.length_append, List.length_cons, List.length_nil, bkC_len, bkCs_len, mkC_nb, mkCs_nb]; done) | (simp only [List.length_append, List.length_cons, List.length_nil, bkC_len, bkCs_len, mkC_nb, mkCs_nb]; omega))
  try simp only [List.append_assoc, List.cons_append, List.nil_append, List.append_nil] at g47_
  have g48_ := hold_get (A := (.cells 63 7 [.agg (fzCs x2)] :: (bkC n2 x0 ++ (bkCs n5 x2 ++ (bkCs n9 w))) : List TB)) (R := (bkC n13 (mkC x0 (1)) ++ (bkCs n16 (mkCs x2 ((1 + (wtC x0 : Int)))) ++ (.cells 68 7 [.agg (tvCs n16 x2)] :: (bkCs n23 w' ++ (.cells 56 13 [.agg (tvCs n23 w')] :: (bkC n32 x0 ++ (bkCs n39 x2)))))) : List TB)) (n := n11) (by first | (simp only [List.length_append, List.length_cons, List.length_nil, bkC_len, bkCs_len, mkC_nb, mkCs_nb]; done) | (simp only [List.length_append, List.length_cons, List.length_nil, bkC_len, bkCs_len, mkC_nb, mkCs_nb]; omega))
  try simp only [List.append_assoc, List.cons_append, List.nil_append, List.append_nil] at g48_
  have f49 : frzT (.cells 63 7 [.agg (fzCs x2)] :: (bkC n2 x0 ++ (bkCs n5 x2 ++ (bkCs n9 w ++ (.cells 56 13 [.agg (tvCs n9 w)] :: (bkC n13 (mkC x0 (1)) ++ (bkCs n16 (mkCs x2 ((1 + (wtC x0 : Int)))) ++ (.cells 68 7 [.agg (tvCs n16 x2)] :: (bkCs n23 w' ++ (.cells 56 13 [.agg (tvCs n23 w')] :: (bkC n32 x0 ++ (bkCs n39 x2))))))))))) : List TB) 9 (.agg (tvCs n23 w')) = .agg (fzCs w') := by
    have := frz_in (A := (.cells 63 7 [.agg (fzCs x2)] :: (bkC n2 x0 ++ (bkCs n5 x2 ++ (bkCs n9 w ++ (.cells 56 13 [.agg (tvCs n9 w)] :: (bkC n13 (mkC x0 (1)) ++ (bkCs n16 (mkCs x2 ((1 + (wtC x0 : Int)))) ++ ([.cells 68 7 [.agg (tvCs n16 x2)]]))))))) : List TB)) (B := (.cells 56 13 [.agg (tvCs n23 w')] :: (bkC n32 x0 ++ (bkCs n39 x2)) : List TB)) (w := w') (n := n23) (by first | (simp only [List.length_append, List.length_cons, List.length_nil, bkC_len, bkCs_len, mkC_nb, mkCs_nb]; done) | (simp only [List.length_append, List.length_cons, List.length_nil, bkC_len, bkCs_len, mkC_nb, mkCs_nb]; omega)) (by first | assumption | (rw [mkCs_dp]; assumption))
    (try simp only [List.append_assoc, List.cons_append, List.nil_append, List.append_nil, mkC_tv, mkCs_tv] at this); (try simp only [List.append_assoc, List.cons_append, List.nil_append, List.append_nil, mkC_tv, mkCs_tv]); exact this
  have f50 : frzT (.cells 63 7 [.agg (fzCs x2)] :: (bkC n2 x0 ++ (bkCs n5 x2 ++ (bkCs n9 w ++ (.cells 56 13 [.agg (tvCs n9 w)] :: (bkC n13 (mkC x0 (1)) ++ (bkCs n16 (mkCs x2 ((1 + (wtC x0 : Int)))) ++ (.cells 68 7 [.agg (tvCs n16 x2)] :: (bkCs n23 w' ++ (.cells 56 13 [.agg (tvCs n23 w')] :: (bkC n32 x0 ++ (bkCs n39 x2))))))))))) : List TB) 9 (.agg (tvCs n9 w)) = .agg (fzCs w) := by
    have := frz_in (A := (.cells 63 7 [.agg (fzCs x2)] :: (bkC n2 x0 ++ (bkCs n5 x2)) : List TB)) (B := (.cells 56 13 [.agg (tvCs n9 w)] :: (bkC n13 (mkC x0 (1)) ++ (bkCs n16 (mkCs x2 ((1 + (wtC x0 : Int)))) ++ (.cells 68 7 [.agg (tvCs n16 x2)] :: (bkCs n23 w' ++ (.cells 56 13 [.agg (tvCs n23 w')] :: (bkC n32 x0 ++ (bkCs n39 x2))))))) : List TB)) (w := w) (n := n9) (by first | (simp only [List.length_append, List.length_cons, List.length_nil, bkC_len, bkCs_len, mkC_nb, mkCs_nb]; done) | (simp only [List.length_append, List.length_cons, List.length_nil, bkC_len, bkCs_len, mkC_nb, mkCs_nb]; omega)) (by first | assumption | (rw [mkCs_dp]; assumption))
    (try simp only [List.append_assoc, List.cons_append, List.nil_append, List.append_nil, mkC_tv, mkCs_tv] at this); (try simp only [List.append_assoc, List.cons_append, List.nil_append, List.append_nil, mkC_tv, mkCs_tv]); exact this
  have e51_ : ∀ t, (ansSp (eqR_S sh_SaResult)).fn t [.agg (tvCs n23 w'), .agg (tvCs n9 w)] (.cells 63 7 [.agg (fzCs x2)] :: (bkC n2 x0 ++ (bkCs n5 x2 ++ (bkCs n9 w ++ (.cells 56 13 [.agg (tvCs n9 w)] :: (bkC n13 (mkC x0 (1)) ++ (bkCs n16 (mkCs x2 ((1 + (wtC x0 : Int)))) ++ (.cells 68 7 [.agg (tvCs n16 x2)] :: (bkCs n23 w' ++ (.cells 56 13 [.agg (tvCs n23 w')] :: (bkC n32 x0 ++ (bkCs n39 x2))))))))))) : List TB) = some (.p (.bool true), (.cells 63 7 [.agg (fzCs x2)] :: (bkC n2 x0 ++ (bkCs n5 x2 ++ (bkCs n9 w ++ (.cells 56 13 [.agg (tvCs n9 w)] :: (bkC n13 (mkC x0 (1)) ++ (bkCs n16 (mkCs x2 ((1 + (wtC x0 : Int)))) ++ (.cells 68 7 [.agg (tvCs n16 x2)] :: (bkCs n23 w' ++ (.cells 56 13 [.agg (tvCs n23 w')] :: (bkC n32 x0 ++ (bkCs n39 x2))))))))))) : List TB)) := fun t => call_val (by simp only [List.map_cons, List.map_nil, frz_p, frz_s, frz_agg, frz_fzC, frz_fzCs, wE, f49, f50]; try rfl) (eqR_at fI (Nat.le_trans sI (by decide)))
  have g52_ := hold_get (A := (.cells 63 7 [.agg (fzCs x2)] :: (bkC n2 x0 ++ (bkCs n5 x2 ++ (bkCs n9 w ++ (.cells 56 13 [.agg (tvCs n9 w)] :: (bkC n13 (mkC x0 (1)) ++ (bkCs n16 (mkCs x2 ((1 + (wtC x0 : Int)))) ++ (.cells 68 7 [.agg (tvCs n16 x2)] :: (bkCs n23 w')))))))) : List TB)) (R := (bkC n32 x0 ++ (bkCs n39 x2) : List TB)) (n := n25) (by first | (simp only [List.length_append, List.length_cons, List.length_nil, bkC_len, bkCs_len, mkC_nb, mkCs_nb]; done) | (simp only [List.length_append, List.length_cons, List.length_nil, bkC_len, bkCs_len, mkC_nb, mkCs_nb]; omega))
  try simp only [List.append_assoc, List.cons_append, List.nil_append, List.append_nil] at g52_
  simp (maxSteps := 8000000) (implicitDefEqProofs := false) (disch := omega) only [↓reduceIte, go_sem, if_pos, if_neg, len2, fzCs_len, fzCs_one, lenS, lenI, tvCs_len, tvCs_one, eq_false (show ¬ ((1 + (wtC x0 : Int)) + (wtCs x2 : Int) < 0) by omega), g47_, g48_, e51_, g52_]
  have k53_ := mkR_seg (A := (.cells 63 7 [.agg (fzCs x2)] :: (bkC n2 x0 ++ (bkCs n5 x2 ++ (bkCs n9 w ++ (.cells 56 13 [.agg (tvCs n9 w)] :: (bkC n13 (mkC x0 (1)) ++ (bkCs n16 (mkCs x2 ((1 + (wtC x0 : Int)))) ++ ([.cells 68 7 [.agg (tvCs n16 x2)]]))))))) : List TB)) (B := (.cells 56 13 [.agg (tvCs n23 w')] :: (bkC n32 x0 ++ (bkCs n39 x2)) : List TB)) (n := n23) (c := w') (k := 1) (by simp only [List.length_append, List.length_cons, List.length_nil, bkC_len, bkCs_len, mkC_nb, mkCs_nb]; omega) fI (by omega) (by omega)
  simp only [List.append_assoc, List.cons_append, List.nil_append, List.append_nil] at k53_
  have Ln23_54 := bkCs_len n23 (mkCs w' (1)); rw [mkCs_nb] at Ln23_54
  refine mutQ_call (by simp (maxSteps := 8000000) (implicitDefEqProofs := false) (disch := omega) only [↓reduceIte, go_sem, if_pos, if_neg]; rfl) (by simp (maxSteps := 8000000) (implicitDefEqProofs := false) (disch := omega) only [↓reduceIte, go_sem, if_pos, if_neg]) k53_ ?_
  have g54_ := hold_get (A := (.cells 63 7 [.agg (fzCs x2)] :: (bkC n2 x0 ++ (bkCs n5 x2 ++ (bkCs n9 w ++ (.cells 56 13 [.agg (tvCs n9 w)] :: (bkC n13 (mkC x0 (1)) ++ (bkCs n16 (mkCs x2 ((1 + (wtC x0 : Int)))) ++ (.cells 68 7 [.agg (tvCs n16 x2)] :: (bkCs n23 (mkCs w' (1)))))))))) : List TB)) (R := (bkC n32 x0 ++ (bkCs n39 x2) : List TB)) (n := n25) (by first | (simp only [List.length_append, List.length_cons, List.length_nil, bkC_len, bkCs_len, mkC_nb, mkCs_nb]; done) | (simp only [List.length_append, List.length_cons, List.length_nil, bkC_len, bkCs_len, mkC_nb, mkCs_nb]; omega))
  try simp only [List.append_assoc, List.cons_append, List.nil_append, List.append_nil] at g54_
  have f55 : frzT (.cells 63 7 [.agg (fzCs x2)] :: (bkC n2 x0 ++ (bkCs n5 x2 ++ (bkCs n9 w ++ (.cells 56 13 [.agg (tvCs n9 w)] :: (bkC n13 (mkC x0 (1)) ++ (bkCs n16 (mkCs x2 ((1 + (wtC x0 : Int)))) ++ (.cells 68 7 [.agg (tvCs n16 x2)] :: (bkCs n23 (mkCs w' (1)) ++ (.cells 56 13 [.agg (tvCs n23 w')] :: (bkC n32 x0 ++ (bkCs n39 x2))))))))))) : List TB) 9 (.agg (tvCs n23 w')) = .agg (fzCs (mkCs w' (1))) := by
    have := frz_in (A := (.cells 63 7 [.agg (fzCs x2)] :: (bkC n2 x0 ++ (bkCs n5 x2 ++ (bkCs n9 w ++ (.cells 56 13 [.agg (tvCs n9 w)] :: (bkC n13 (mkC x0 (1)) ++ (bkCs n16 (mkCs x2 ((1 + (wtC x0 : Int)))) ++ ([.cells 68 7 [.agg (tvCs n16 x2)]]))))))) : List TB)) (B := (.cells 56 13 [.agg (tvCs n23 w')] :: (bkC n32 x0 ++ (bkCs n39 x2)) : List TB)) (w := (mkCs w' (1))) (n := n23) (by first | (simp only [List.length_append, List.length_cons, List.length_nil, bkC_len, bkCs_len, mkC_nb, mkCs_nb]; done) | (simp only [List.length_append, List.length_cons, List.length_nil, bkC_len, bkCs_len, mkC_nb, mkCs_nb]; omega)) (by first | assumption | (rw [mkCs_dp]; assumption))
    (try simp only [List.append_assoc, List.cons_append, List.nil_append, List.append_nil, mkC_tv, mkCs_tv] at this); (try simp only [List.append_assoc, List.cons_append, List.nil_append, List.append_nil, mkC_tv, mkCs_tv]); exact this
  have e56_ : ∀ t, (ansSp (hdR_S sh_SaResult)).fn t [.agg (tvCs n23 w'), .p (.int .i64 1)] (.cells 63 7 [.agg (fzCs x2)] :: (bkC n2 x0 ++ (bkCs n5 x2 ++ (bkCs n9 w ++ (.cells 56 13 [.agg (tvCs n9 w)] :: (bkC n13 (mkC x0 (1)) ++ (bkCs n16 (mkCs x2 ((1 + (wtC x0 : Int)))) ++ (.cells 68 7 [.agg (tvCs n16 x2)] :: (bkCs n23 (mkCs w' (1)) ++ (.cells 56 13 [.agg (tvCs n23 w')] :: (bkC n32 x0 ++ (bkCs n39 x2))))))))))) : List TB) = some (.p (.int .i64 (1 + (wtCs w' : Int))), (.cells 63 7 [.agg (fzCs x2)] :: (bkC n2 x0 ++ (bkCs n5 x2 ++ (bkCs n9 w ++ (.cells 56 13 [.agg (tvCs n9 w)] :: (bkC n13 (mkC x0 (1)) ++ (bkCs n16 (mkCs x2 ((1 + (wtC x0 : Int)))) ++ (.cells 68 7 [.agg (tvCs n16 x2)] :: (bkCs n23 (mkCs w' (1)) ++ (.cells 56 13 [.agg (tvCs n23 w')] :: (bkC n32 x0 ++ (bkCs n39 x2))))))))))) : List TB)) := fun t => call_val (by simp only [List.map_cons, List.map_nil, frz_p, frz_s, frz_agg, frz_fzC, frz_fzCs, f55]; try rfl) (hdR_at (k := 1) fI (by omega) (by omega))
  obtain ⟨n57, hn57⟩ := isLen_ex (.cells 63 7 [.agg (fzCs x2)] :: (bkC n2 x0 ++ (bkCs n5 x2 ++ (bkCs n9 w ++ (.cells 56 13 [.agg (tvCs n9 w)] :: (bkC n13 (mkC x0 (1)) ++ (bkCs n16 (mkCs x2 ((1 + (wtC x0 : Int)))) ++ (.cells 68 7 [.agg (tvCs n16 x2)] :: (bkCs n23 (mkCs w' (1)) ++ (.cells 56 13 [.agg (tvCs n23 w')] :: (bkC n32 x0 ++ (bkCs n39 x2))))))))))) : List TB)
  have ln57 := hn57.eq
  simp only [List.length_append, List.length_cons, List.length_nil, bkC_len, bkCs_len, mkC_nb, mkCs_nb] at ln57
  have e58_ : ∀ t, (ansSp (toC_S sh_SaS)).fn t [fzC x0] (.cells 63 7 [.agg (fzCs x2)] :: (bkC n2 x0 ++ (bkCs n5 x2 ++ (bkCs n9 w ++ (.cells 56 13 [.agg (tvCs n9 w)] :: (bkC n13 (mkC x0 (1)) ++ (bkCs n16 (mkCs x2 ((1 + (wtC x0 : Int)))) ++ (.cells 68 7 [.agg (tvCs n16 x2)] :: (bkCs n23 (mkCs w' (1)) ++ (.cells 56 13 [.agg (tvCs n23 w')] :: (bkC n32 x0 ++ (bkCs n39 x2))))))))))) : List TB) = some (tvC n57 x0, (.cells 63 7 [.agg (fzCs x2)] :: (bkC n2 x0 ++ (bkCs n5 x2 ++ (bkCs n9 w ++ (.cells 56 13 [.agg (tvCs n9 w)] :: (bkC n13 (mkC x0 (1)) ++ (bkCs n16 (mkCs x2 ((1 + (wtC x0 : Int)))) ++ (.cells 68 7 [.agg (tvCs n16 x2)] :: (bkCs n23 (mkCs w' (1)) ++ (.cells 56 13 [.agg (tvCs n23 w')] :: (bkC n32 x0 ++ (bkCs n39 x2 ++ (bkC n57 x0)))))))))))) : List TB)) := fun t => by
    rw [call_newC (by simp only [List.map_cons, List.map_nil, frz_p, frz_s, frz_agg, frz_fzC, frz_fzCs]; try rfl) (toC_at h0 y0) hn57.eq]; try simp only [List.append_assoc, List.cons_append, List.nil_append, List.append_nil]
  have Ln57 := bkC_len n57 x0
  have g59_ := hold_get (A := ([] : List TB)) (R := (bkC n2 x0 ++ (bkCs n5 x2 ++ (bkCs n9 w ++ (.cells 56 13 [.agg (tvCs n9 w)] :: (bkC n13 (mkC x0 (1)) ++ (bkCs n16 (mkCs x2 ((1 + (wtC x0 : Int)))) ++ (.cells 68 7 [.agg (tvCs n16 x2)] :: (bkCs n23 (mkCs w' (1)) ++ (.cells 56 13 [.agg (tvCs n23 w')] :: (bkC n32 x0 ++ (bkCs n39 x2 ++ (bkC n57 x0))))))))))) : List TB)) (n := n0) (by first | (simp only [List.length_append, List.length_cons, List.length_nil, bkC_len, bkCs_len, mkC_nb, mkCs_nb]; done) | (simp only [List.length_append, List.length_cons, List.length_nil, bkC_len, bkCs_len, mkC_nb, mkCs_nb]; omega))
  try simp only [List.append_assoc, List.cons_append, List.nil_append, List.append_nil] at g59_
  obtain ⟨n60, hn60⟩ := isLen_ex (.cells 63 7 [.agg (fzCs x2)] :: (bkC n2 x0 ++ (bkCs n5 x2 ++ (bkCs n9 w ++ (.cells 56 13 [.agg (tvCs n9 w)] :: (bkC n13 (mkC x0 (1)) ++ (bkCs n16 (mkCs x2 ((1 + (wtC x0 : Int)))) ++ (.cells 68 7 [.agg (tvCs n16 x2)] :: (bkCs n23 (mkCs w' (1)) ++ (.cells 56 13 [.agg (tvCs n23 w')] :: (bkC n32 x0 ++ (bkCs n39 x2 ++ (bkC n57 x0)))))))))))) : List TB)
  have ln60 := hn60.eq
  simp only [List.length_append, List.length_cons, List.length_nil, bkC_len, bkCs_len, mkC_nb, mkCs_nb] at ln60
  have e61_ : ∀ t, (ansSp (toR_S sh_Packet)).fn t [.agg (fzCs x2)] (.cells 63 7 [.agg (fzCs x2)] :: (bkC n2 x0 ++ (bkCs n5 x2 ++ (bkCs n9 w ++ (.cells 56 13 [.agg (tvCs n9 w)] :: (bkC n13 (mkC x0 (1)) ++ (bkCs n16 (mkCs x2 ((1 + (wtC x0 : Int)))) ++ (.cells 68 7 [.agg (tvCs n16 x2)] :: (bkCs n23 (mkCs w' (1)) ++ (.cells 56 13 [.agg (tvCs n23 w')] :: (bkC n32 x0 ++ (bkCs n39 x2 ++ (bkC n57 x0)))))))))))) : List TB) = some (.agg (tvCs n60 x2), (.cells 63 7 [.agg (fzCs x2)] :: (bkC n2 x0 ++ (bkCs n5 x2 ++ (bkCs n9 w ++ (.cells 56 13 [.agg (tvCs n9 w)] :: (bkC n13 (mkC x0 (1)) ++ (bkCs n16 (mkCs x2 ((1 + (wtC x0 : Int)))) ++ (.cells 68 7 [.agg (tvCs n16 x2)] :: (bkCs n23 (mkCs w' (1)) ++ (.cells 56 13 [.agg (tvCs n23 w')] :: (bkC n32 x0 ++ (bkCs n39 x2 ++ (bkC n57 x0 ++ (bkCs n60 x2))))))))))))) : List TB)) := fun t => by
    rw [call_new (by simp only [List.map_cons, List.map_nil, frz_p, frz_s, frz_agg, frz_fzC, frz_fzCs]; try rfl) (toR_at h2 y2) hn60.eq]; try simp only [List.append_assoc, List.cons_append, List.nil_append, List.append_nil]
  have Ln60 := bkCs_len n60 x2
  have f62 : frzT (.cells 63 7 [.agg (fzCs x2)] :: (bkC n2 x0 ++ (bkCs n5 x2 ++ (bkCs n9 w ++ (.cells 56 13 [.agg (tvCs n9 w)] :: (bkC n13 (mkC x0 (1)) ++ (bkCs n16 (mkCs x2 ((1 + (wtC x0 : Int)))) ++ (.cells 68 7 [.agg (tvCs n16 x2)] :: (bkCs n23 (mkCs w' (1)) ++ (.cells 56 13 [.agg (tvCs n23 w')] :: (bkC n32 x0 ++ (bkCs n39 x2 ++ (bkC n57 x0 ++ (bkCs n60 x2))))))))))))) : List TB) 9 (tvC n57 x0) = fzC x0 := by
    have := frzC_in (A := (.cells 63 7 [.agg (fzCs x2)] :: (bkC n2 x0 ++ (bkCs n5 x2 ++ (bkCs n9 w ++ (.cells 56 13 [.agg (tvCs n9 w)] :: (bkC n13 (mkC x0 (1)) ++ (bkCs n16 (mkCs x2 ((1 + (wtC x0 : Int)))) ++ (.cells 68 7 [.agg (tvCs n16 x2)] :: (bkCs n23 (mkCs w' (1)) ++ (.cells 56 13 [.agg (tvCs n23 w')] :: (bkC n32 x0 ++ (bkCs n39 x2))))))))))) : List TB)) (B := (bkCs n60 x2 : List TB)) (c := x0) (n := n57) (by first | (simp only [List.length_append, List.length_cons, List.length_nil, bkC_len, bkCs_len, mkC_nb, mkCs_nb]; done) | (simp only [List.length_append, List.length_cons, List.length_nil, bkC_len, bkCs_len, mkC_nb, mkCs_nb]; omega)) (by first | assumption | (rw [mkC_dp]; assumption))
    (try simp only [List.append_assoc, List.cons_append, List.nil_append, List.append_nil, mkC_tv, mkCs_tv] at this); (try simp only [List.append_assoc, List.cons_append, List.nil_append, List.append_nil, mkC_tv, mkCs_tv]); exact this
  have f63 : frzT (.cells 63 7 [.agg (fzCs x2)] :: (bkC n2 x0 ++ (bkCs n5 x2 ++ (bkCs n9 w ++ (.cells 56 13 [.agg (tvCs n9 w)] :: (bkC n13 (mkC x0 (1)) ++ (bkCs n16 (mkCs x2 ((1 + (wtC x0 : Int)))) ++ (.cells 68 7 [.agg (tvCs n16 x2)] :: (bkCs n23 (mkCs w' (1)) ++ (.cells 56 13 [.agg (tvCs n23 w')] :: (bkC n32 x0 ++ (bkCs n39 x2 ++ (bkC n57 x0 ++ (bkCs n60 x2))))))))))))) : List TB) 9 (.agg (tvCs n60 x2)) = .agg (fzCs x2) := by
    have := frz_in (A := (.cells 63 7 [.agg (fzCs x2)] :: (bkC n2 x0 ++ (bkCs n5 x2 ++ (bkCs n9 w ++ (.cells 56 13 [.agg (tvCs n9 w)] :: (bkC n13 (mkC x0 (1)) ++ (bkCs n16 (mkCs x2 ((1 + (wtC x0 : Int)))) ++ (.cells 68 7 [.agg (tvCs n16 x2)] :: (bkCs n23 (mkCs w' (1)) ++ (.cells 56 13 [.agg (tvCs n23 w')] :: (bkC n32 x0 ++ (bkCs n39 x2 ++ (bkC n57 x0)))))))))))) : List TB)) (B := ([] : List TB)) (w := x2) (n := n60) (by first | (simp only [List.length_append, List.length_cons, List.length_nil, bkC_len, bkCs_len, mkC_nb, mkCs_nb]; done) | (simp only [List.length_append, List.length_cons, List.length_nil, bkC_len, bkCs_len, mkC_nb, mkCs_nb]; omega)) (by first | assumption | (rw [mkCs_dp]; assumption))
    (try simp only [List.append_assoc, List.cons_append, List.nil_append, List.append_nil, mkC_tv, mkCs_tv] at this); (try simp only [List.append_assoc, List.cons_append, List.nil_append, List.append_nil, mkC_tv, mkCs_tv]); exact this
  obtain ⟨n64, hn64⟩ := isLen_ex (.cells 63 7 [.agg (fzCs x2)] :: (bkC n2 x0 ++ (bkCs n5 x2 ++ (bkCs n9 w ++ (.cells 56 13 [.agg (tvCs n9 w)] :: (bkC n13 (mkC x0 (1)) ++ (bkCs n16 (mkCs x2 ((1 + (wtC x0 : Int)))) ++ (.cells 68 7 [.agg (tvCs n16 x2)] :: (bkCs n23 (mkCs w' (1)) ++ (.cells 56 13 [.agg (tvCs n23 w')] :: (bkC n32 x0 ++ (bkCs n39 x2 ++ (bkC n57 x0 ++ (bkCs n60 x2))))))))))))) : List TB)
  have ln64 := hn64.eq
  simp only [List.length_append, List.length_cons, List.length_nil, bkC_len, bkCs_len, mkC_nb, mkCs_nb] at ln64
  have e65_ : ∀ t, (ansSp Si).fn t [tvC n57 x0, .p (.int .i64 x1), .agg (tvCs n60 x2)] (.cells 63 7 [.agg (fzCs x2)] :: (bkC n2 x0 ++ (bkCs n5 x2 ++ (bkCs n9 w ++ (.cells 56 13 [.agg (tvCs n9 w)] :: (bkC n13 (mkC x0 (1)) ++ (bkCs n16 (mkCs x2 ((1 + (wtC x0 : Int)))) ++ (.cells 68 7 [.agg (tvCs n16 x2)] :: (bkCs n23 (mkCs w' (1)) ++ (.cells 56 13 [.agg (tvCs n23 w')] :: (bkC n32 x0 ++ (bkCs n39 x2 ++ (bkC n57 x0 ++ (bkCs n60 x2))))))))))))) : List TB) = some (.agg (tvCs n64 w'), (.cells 63 7 [.agg (fzCs x2)] :: (bkC n2 x0 ++ (bkCs n5 x2 ++ (bkCs n9 w ++ (.cells 56 13 [.agg (tvCs n9 w)] :: (bkC n13 (mkC x0 (1)) ++ (bkCs n16 (mkCs x2 ((1 + (wtC x0 : Int)))) ++ (.cells 68 7 [.agg (tvCs n16 x2)] :: (bkCs n23 (mkCs w' (1)) ++ (.cells 56 13 [.agg (tvCs n23 w')] :: (bkC n32 x0 ++ (bkCs n39 x2 ++ (bkC n57 x0 ++ (bkCs n60 x2 ++ (bkCs n64 w')))))))))))))) : List TB)) := fun t => by
    rw [call_new (by simp only [List.map_cons, List.map_nil, frz_p, frz_s, frz_agg, frz_fzC, frz_fzCs, f62, f63]; try rfl) (wI) hn64.eq]; try simp only [List.append_assoc, List.cons_append, List.nil_append, List.append_nil]
  have Ln64 := bkCs_len n64 w'
  obtain ⟨n66, hn66⟩ := isLen_ex (.cells 63 7 [.agg (fzCs x2)] :: (bkC n2 x0 ++ (bkCs n5 x2 ++ (bkCs n9 w ++ (.cells 56 13 [.agg (tvCs n9 w)] :: (bkC n13 (mkC x0 (1)) ++ (bkCs n16 (mkCs x2 ((1 + (wtC x0 : Int)))) ++ (.cells 68 7 [.agg (tvCs n16 x2)] :: (bkCs n23 (mkCs w' (1)) ++ (.cells 56 13 [.agg (tvCs n23 w')] :: (bkC n32 x0 ++ (bkCs n39 x2 ++ (bkC n57 x0 ++ (bkCs n60 x2 ++ (bkCs n64 w')))))))))))))) : List TB)
  have ln66 := hn66.eq
  simp only [List.length_append, List.length_cons, List.length_nil, bkC_len, bkCs_len, mkC_nb, mkCs_nb] at ln66
  have g67_ := hold_get (A := (.cells 63 7 [.agg (fzCs x2)] :: (bkC n2 x0 ++ (bkCs n5 x2 ++ (bkCs n9 w ++ (.cells 56 13 [.agg (tvCs n9 w)] :: (bkC n13 (mkC x0 (1)) ++ (bkCs n16 (mkCs x2 ((1 + (wtC x0 : Int)))) ++ (.cells 68 7 [.agg (tvCs n16 x2)] :: (bkCs n23 (mkCs w' (1)) ++ (.cells 56 13 [.agg (tvCs n23 w')] :: (bkC n32 x0 ++ (bkCs n39 x2 ++ (bkC n57 x0 ++ (bkCs n60 x2 ++ (bkCs n64 w')))))))))))))) : List TB)) (R := ([] : List TB)) (n := n66) (by first | (simp only [List.length_append, List.length_cons, List.length_nil, bkC_len, bkCs_len, mkC_nb, mkCs_nb]; done) | (simp only [List.length_append, List.length_cons, List.length_nil, bkC_len, bkCs_len, mkC_nb, mkCs_nb]; omega))
  try simp only [List.append_assoc, List.cons_append, List.nil_append, List.append_nil] at g67_
  have g67_s := hold_set (A := (.cells 63 7 [.agg (fzCs x2)] :: (bkC n2 x0 ++ (bkCs n5 x2 ++ (bkCs n9 w ++ (.cells 56 13 [.agg (tvCs n9 w)] :: (bkC n13 (mkC x0 (1)) ++ (bkCs n16 (mkCs x2 ((1 + (wtC x0 : Int)))) ++ (.cells 68 7 [.agg (tvCs n16 x2)] :: (bkCs n23 (mkCs w' (1)) ++ (.cells 56 13 [.agg (tvCs n23 w')] :: (bkC n32 x0 ++ (bkCs n39 x2 ++ (bkC n57 x0 ++ (bkCs n60 x2 ++ (bkCs n64 w')))))))))))))) : List TB)) (R := ([] : List TB)) (n := n66) (by first | (simp only [List.length_append, List.length_cons, List.length_nil, bkC_len, bkCs_len, mkC_nb, mkCs_nb]; done) | (simp only [List.length_append, List.length_cons, List.length_nil, bkC_len, bkCs_len, mkC_nb, mkCs_nb]; omega))
  try simp only [List.append_assoc, List.cons_append, List.nil_append, List.append_nil] at g67_s
  have g68_ := hold_get (A := (.cells 63 7 [.agg (fzCs x2)] :: (bkC n2 x0 ++ (bkCs n5 x2 ++ (bkCs n9 w ++ (.cells 56 13 [.agg (tvCs n9 w)] :: (bkC n13 (mkC x0 (1)) ++ (bkCs n16 (mkCs x2 ((1 + (wtC x0 : Int)))) ++ (.cells 68 7 [.agg (tvCs n16 x2)] :: (bkCs n23 (mkCs w' (1)) ++ (.cells 56 13 [.agg (tvCs n23 w')] :: (bkC n32 x0 ++ (bkCs n39 x2 ++ (bkC n57 x0 ++ (bkCs n60 x2 ++ (bkCs n64 w')))))))))))))) : List TB)) (R := ([] : List TB)) (n := n66) (by first | (simp only [List.length_append, List.length_cons, List.length_nil, bkC_len, bkCs_len, mkC_nb, mkCs_nb]; done) | (simp only [List.length_append, List.length_cons, List.length_nil, bkC_len, bkCs_len, mkC_nb, mkCs_nb]; omega))
  try simp only [List.append_assoc, List.cons_append, List.nil_append, List.append_nil] at g68_
  have g69_ := hold_get (A := (.cells 63 7 [.agg (fzCs x2)] :: (bkC n2 x0 ++ (bkCs n5 x2 ++ (bkCs n9 w))) : List TB)) (R := (bkC n13 (mkC x0 (1)) ++ (bkCs n16 (mkCs x2 ((1 + (wtC x0 : Int)))) ++ (.cells 68 7 [.agg (tvCs n16 x2)] :: (bkCs n23 (mkCs w' (1)) ++ (.cells 56 13 [.agg (tvCs n23 w')] :: (bkC n32 x0 ++ (bkCs n39 x2 ++ (bkC n57 x0 ++ (bkCs n60 x2 ++ (bkCs n64 w' ++ ([.cells 56 13 [.agg (tvCs n64 w')]])))))))))) : List TB)) (n := n11) (by first | (simp only [List.length_append, List.length_cons, List.length_nil, bkC_len, bkCs_len, mkC_nb, mkCs_nb]; done) | (simp only [List.length_append, List.length_cons, List.length_nil, bkC_len, bkCs_len, mkC_nb, mkCs_nb]; omega))
  try simp only [List.append_assoc, List.cons_append, List.nil_append, List.append_nil] at g69_
  have f70 : frzT (.cells 63 7 [.agg (fzCs x2)] :: (bkC n2 x0 ++ (bkCs n5 x2 ++ (bkCs n9 w ++ (.cells 56 13 [.agg (tvCs n9 w)] :: (bkC n13 (mkC x0 (1)) ++ (bkCs n16 (mkCs x2 ((1 + (wtC x0 : Int)))) ++ (.cells 68 7 [.agg (tvCs n16 x2)] :: (bkCs n23 (mkCs w' (1)) ++ (.cells 56 13 [.agg (tvCs n23 w')] :: (bkC n32 x0 ++ (bkCs n39 x2 ++ (bkC n57 x0 ++ (bkCs n60 x2 ++ (bkCs n64 w' ++ ([.cells 56 13 [.agg (tvCs n64 w')]]))))))))))))))) : List TB) 9 (.agg (tvCs n64 w')) = .agg (fzCs w') := by
    have := frz_in (A := (.cells 63 7 [.agg (fzCs x2)] :: (bkC n2 x0 ++ (bkCs n5 x2 ++ (bkCs n9 w ++ (.cells 56 13 [.agg (tvCs n9 w)] :: (bkC n13 (mkC x0 (1)) ++ (bkCs n16 (mkCs x2 ((1 + (wtC x0 : Int)))) ++ (.cells 68 7 [.agg (tvCs n16 x2)] :: (bkCs n23 (mkCs w' (1)) ++ (.cells 56 13 [.agg (tvCs n23 w')] :: (bkC n32 x0 ++ (bkCs n39 x2 ++ (bkC n57 x0 ++ (bkCs n60 x2))))))))))))) : List TB)) (B := ([.cells 56 13 [.agg (tvCs n64 w')]] : List TB)) (w := w') (n := n64) (by first | (simp only [List.length_append, List.length_cons, List.length_nil, bkC_len, bkCs_len, mkC_nb, mkCs_nb]; done) | (simp only [List.length_append, List.length_cons, List.length_nil, bkC_len, bkCs_len, mkC_nb, mkCs_nb]; omega)) (by first | assumption | (rw [mkCs_dp]; assumption))
    (try simp only [List.append_assoc, List.cons_append, List.nil_append, List.append_nil, mkC_tv, mkCs_tv] at this); (try simp only [List.append_assoc, List.cons_append, List.nil_append, List.append_nil, mkC_tv, mkCs_tv]); exact this
  have f71 : frzT (.cells 63 7 [.agg (fzCs x2)] :: (bkC n2 x0 ++ (bkCs n5 x2 ++ (bkCs n9 w ++ (.cells 56 13 [.agg (tvCs n9 w)] :: (bkC n13 (mkC x0 (1)) ++ (bkCs n16 (mkCs x2 ((1 + (wtC x0 : Int)))) ++ (.cells 68 7 [.agg (tvCs n16 x2)] :: (bkCs n23 (mkCs w' (1)) ++ (.cells 56 13 [.agg (tvCs n23 w')] :: (bkC n32 x0 ++ (bkCs n39 x2 ++ (bkC n57 x0 ++ (bkCs n60 x2 ++ (bkCs n64 w' ++ ([.cells 56 13 [.agg (tvCs n64 w')]]))))))))))))))) : List TB) 9 (.agg (tvCs n9 w)) = .agg (fzCs w) := by
    have := frz_in (A := (.cells 63 7 [.agg (fzCs x2)] :: (bkC n2 x0 ++ (bkCs n5 x2)) : List TB)) (B := (.cells 56 13 [.agg (tvCs n9 w)] :: (bkC n13 (mkC x0 (1)) ++ (bkCs n16 (mkCs x2 ((1 + (wtC x0 : Int)))) ++ (.cells 68 7 [.agg (tvCs n16 x2)] :: (bkCs n23 (mkCs w' (1)) ++ (.cells 56 13 [.agg (tvCs n23 w')] :: (bkC n32 x0 ++ (bkCs n39 x2 ++ (bkC n57 x0 ++ (bkCs n60 x2 ++ (bkCs n64 w' ++ ([.cells 56 13 [.agg (tvCs n64 w')]]))))))))))) : List TB)) (w := w) (n := n9) (by first | (simp only [List.length_append, List.length_cons, List.length_nil, bkC_len, bkCs_len, mkC_nb, mkCs_nb]; done) | (simp only [List.length_append, List.length_cons, List.length_nil, bkC_len, bkCs_len, mkC_nb, mkCs_nb]; omega)) (by first | assumption | (rw [mkCs_dp]; assumption))
    (try simp only [List.append_assoc, List.cons_append, List.nil_append, List.append_nil, mkC_tv, mkCs_tv] at this); (try simp only [List.append_assoc, List.cons_append, List.nil_append, List.append_nil, mkC_tv, mkCs_tv]); exact this
  have e72_ : ∀ t, (ansSp (eqR_S sh_SaResult)).fn t [.agg (tvCs n64 w'), .agg (tvCs n9 w)] (.cells 63 7 [.agg (fzCs x2)] :: (bkC n2 x0 ++ (bkCs n5 x2 ++ (bkCs n9 w ++ (.cells 56 13 [.agg (tvCs n9 w)] :: (bkC n13 (mkC x0 (1)) ++ (bkCs n16 (mkCs x2 ((1 + (wtC x0 : Int)))) ++ (.cells 68 7 [.agg (tvCs n16 x2)] :: (bkCs n23 (mkCs w' (1)) ++ (.cells 56 13 [.agg (tvCs n23 w')] :: (bkC n32 x0 ++ (bkCs n39 x2 ++ (bkC n57 x0 ++ (bkCs n60 x2 ++ (bkCs n64 w' ++ ([.cells 56 13 [.agg (tvCs n64 w')]]))))))))))))))) : List TB) = some (.p (.bool true), (.cells 63 7 [.agg (fzCs x2)] :: (bkC n2 x0 ++ (bkCs n5 x2 ++ (bkCs n9 w ++ (.cells 56 13 [.agg (tvCs n9 w)] :: (bkC n13 (mkC x0 (1)) ++ (bkCs n16 (mkCs x2 ((1 + (wtC x0 : Int)))) ++ (.cells 68 7 [.agg (tvCs n16 x2)] :: (bkCs n23 (mkCs w' (1)) ++ (.cells 56 13 [.agg (tvCs n23 w')] :: (bkC n32 x0 ++ (bkCs n39 x2 ++ (bkC n57 x0 ++ (bkCs n60 x2 ++ (bkCs n64 w' ++ ([.cells 56 13 [.agg (tvCs n64 w')]]))))))))))))))) : List TB)) := fun t => call_val (by simp only [List.map_cons, List.map_nil, frz_p, frz_s, frz_agg, frz_fzC, frz_fzCs, wE, f70, f71]; try rfl) (eqR_at fI (Nat.le_trans sI (by decide)))
  have g73_ := hold_get (A := (.cells 63 7 [.agg (fzCs x2)] :: (bkC n2 x0 ++ (bkCs n5 x2 ++ (bkCs n9 w ++ (.cells 56 13 [.agg (tvCs n9 w)] :: (bkC n13 (mkC x0 (1)) ++ (bkCs n16 (mkCs x2 ((1 + (wtC x0 : Int)))) ++ (.cells 68 7 [.agg (tvCs n16 x2)] :: (bkCs n23 (mkCs w' (1)))))))))) : List TB)) (R := (bkC n32 x0 ++ (bkCs n39 x2 ++ (bkC n57 x0 ++ (bkCs n60 x2 ++ (bkCs n64 w' ++ ([.cells 56 13 [.agg (tvCs n64 w')]]))))) : List TB)) (n := n25) (by first | (simp only [List.length_append, List.length_cons, List.length_nil, bkC_len, bkCs_len, mkC_nb, mkCs_nb]; done) | (simp only [List.length_append, List.length_cons, List.length_nil, bkC_len, bkCs_len, mkC_nb, mkCs_nb]; omega))
  try simp only [List.append_assoc, List.cons_append, List.nil_append, List.append_nil] at g73_
  have f74 : frzT (.cells 63 7 [.agg (fzCs x2)] :: (bkC n2 x0 ++ (bkCs n5 x2 ++ (bkCs n9 w ++ (.cells 56 13 [.agg (tvCs n9 w)] :: (bkC n13 (mkC x0 (1)) ++ (bkCs n16 (mkCs x2 ((1 + (wtC x0 : Int)))) ++ (.cells 68 7 [.agg (tvCs n16 x2)] :: (bkCs n23 (mkCs w' (1)) ++ (.cells 56 13 [.agg (tvCs n23 w')] :: (bkC n32 x0 ++ (bkCs n39 x2 ++ (bkC n57 x0 ++ (bkCs n60 x2 ++ (bkCs n64 w' ++ ([.cells 56 13 [.agg (tvCs n64 w')]]))))))))))))))) : List TB) 9 (.agg (tvCs n23 w')) = .agg (fzCs (mkCs w' (1))) := by
    have := frz_in (A := (.cells 63 7 [.agg (fzCs x2)] :: (bkC n2 x0 ++ (bkCs n5 x2 ++ (bkCs n9 w ++ (.cells 56 13 [.agg (tvCs n9 w)] :: (bkC n13 (mkC x0 (1)) ++ (bkCs n16 (mkCs x2 ((1 + (wtC x0 : Int)))) ++ ([.cells 68 7 [.agg (tvCs n16 x2)]]))))))) : List TB)) (B := (.cells 56 13 [.agg (tvCs n23 w')] :: (bkC n32 x0 ++ (bkCs n39 x2 ++ (bkC n57 x0 ++ (bkCs n60 x2 ++ (bkCs n64 w' ++ ([.cells 56 13 [.agg (tvCs n64 w')]])))))) : List TB)) (w := (mkCs w' (1))) (n := n23) (by first | (simp only [List.length_append, List.length_cons, List.length_nil, bkC_len, bkCs_len, mkC_nb, mkCs_nb]; done) | (simp only [List.length_append, List.length_cons, List.length_nil, bkC_len, bkCs_len, mkC_nb, mkCs_nb]; omega)) (by first | assumption | (rw [mkCs_dp]; assumption))
    (try simp only [List.append_assoc, List.cons_append, List.nil_append, List.append_nil, mkC_tv, mkCs_tv] at this); (try simp only [List.append_assoc, List.cons_append, List.nil_append, List.append_nil, mkC_tv, mkCs_tv]); exact this
  have e75_ : ∀ t, (ansSp (hdR_S sh_SaResult)).fn t [.agg (tvCs n23 w'), .p (.int .i64 1)] (.cells 63 7 [.agg (fzCs x2)] :: (bkC n2 x0 ++ (bkCs n5 x2 ++ (bkCs n9 w ++ (.cells 56 13 [.agg (tvCs n9 w)] :: (bkC n13 (mkC x0 (1)) ++ (bkCs n16 (mkCs x2 ((1 + (wtC x0 : Int)))) ++ (.cells 68 7 [.agg (tvCs n16 x2)] :: (bkCs n23 (mkCs w' (1)) ++ (.cells 56 13 [.agg (tvCs n23 w')] :: (bkC n32 x0 ++ (bkCs n39 x2 ++ (bkC n57 x0 ++ (bkCs n60 x2 ++ (bkCs n64 w' ++ ([.cells 56 13 [.agg (tvCs n64 w')]]))))))))))))))) : List TB) = some (.p (.int .i64 (1 + (wtCs w' : Int))), (.cells 63 7 [.agg (fzCs x2)] :: (bkC n2 x0 ++ (bkCs n5 x2 ++ (bkCs n9 w ++ (.cells 56 13 [.agg (tvCs n9 w)] :: (bkC n13 (mkC x0 (1)) ++ (bkCs n16 (mkCs x2 ((1 + (wtC x0 : Int)))) ++ (.cells 68 7 [.agg (tvCs n16 x2)] :: (bkCs n23 (mkCs w' (1)) ++ (.cells 56 13 [.agg (tvCs n23 w')] :: (bkC n32 x0 ++ (bkCs n39 x2 ++ (bkC n57 x0 ++ (bkCs n60 x2 ++ (bkCs n64 w' ++ ([.cells 56 13 [.agg (tvCs n64 w')]]))))))))))))))) : List TB)) := fun t => call_val (by simp only [List.map_cons, List.map_nil, frz_p, frz_s, frz_agg, frz_fzC, frz_fzCs, f74]; try rfl) (hdR_at (k := 1) fI (by omega) (by omega))
  simp (maxSteps := 8000000) (implicitDefEqProofs := false) (disch := omega) only [↓reduceIte, go_sem, if_pos, if_neg, len2, fzCs_len, fzCs_one, lenS, lenI, tvCs_len, tvCs_one, eq_false (show ¬ (1 + (wtCs w' : Int) < 0) by omega), g54_, e56_, eq_false (show ¬ (1 + (wtCs w' : Int) < 0) by omega), ↓hn57.eq, e58_, g59_, ↓hn60.eq, e61_, ↓hn64.eq, e65_, ↓hn66.eq, g67_, g67_s, g68_, g69_, e72_, g73_, e75_, eq_false (show ¬ (1 + (wtCs w' : Int) < 0) by omega), not_true, decide_false, not_false_eq_true]
  exact endT_p (.inr rfl) (by (simp (maxSteps := 8000000) (implicitDefEqProofs := false) (disch := omega) only [↓reduceIte, go_sem, if_pos, if_neg]) <;> rfl) rfl
end Go.Proofs.Ytngebdcbcliobaa
