import Derived.Test.YtkijbknnbmbnbaaU9
set_option linter.unusedSimpArgs false
set_option linter.unusedVariables false
set_option maxRecDepth 100000
set_option maxHeartbeats 4000000
namespace Go.Proofs.Ytkijbknnbmbnbaa
open Go Go.AH
attribute [local irreducible] awpT ropsT qopsT stepT condKT gdKT EndT joinK loopKT seqKT blkKT kont kontR
/-! FnExactNewBox -/
-- laws.FnExactNewBox
def c11 : AF := ⟨97,
  (.seq (.reg [⟨(some 6), none, .mv (.v (.bool false))⟩])
  (.seq (.reg [⟨(some 7), none, .mv (.v (.int .i64 1048576))⟩])
  (.seq (.reg [⟨(some 16), none, .mv (.t 1)⟩,
   ⟨(some 17), none, .mv (.t 7)⟩,
   ⟨(some 18), none, .call 59 [(.t 16), (.t 17)]⟩,
   ⟨(some 7), none, .mv (.t 18)⟩])
  (.seq (.seq (.reg [⟨(some 19), none, .mv (.t 7)⟩,
   ⟨(some 20), none, .bin .lss (.t 19) (.v (.int .i64 0))⟩])
  (.cond (.t 20) (.seq (.reg [⟨(some 6), none, .mv (.v (.bool true))⟩])
  .ret)
  .skip))
  (.seq (.reg [⟨(some 21), none, .mv (.t 2)⟩,
   ⟨(some 22), none, .mv (.t 7)⟩,
   ⟨(some 23), none, .call 60 [(.t 21), (.t 22)]⟩,
   ⟨(some 7), none, .mv (.t 23)⟩])
  (.seq (.seq (.reg [⟨(some 24), none, .mv (.t 7)⟩,
   ⟨(some 25), none, .bin .lss (.t 24) (.v (.int .i64 0))⟩])
  (.cond (.t 25) (.seq (.reg [⟨(some 6), none, .mv (.v (.bool true))⟩])
  .ret)
  .skip))
  (.seq (.reg [⟨(some 26), none, .mv (.t 0)⟩,
   ⟨(some 27), none, .mv (.t 1)⟩,
   ⟨(some 28), none, .call 62 [(.t 27)]⟩,
   ⟨(some 29), none, .mv (.t 2)⟩,
   ⟨(some 30), none, .call 63 [(.t 29)]⟩,
   ⟨(some 31), none, .call 61 [(.t 26), (.t 28), (.t 30)]⟩,
   ⟨(some 8), none, .alloc 103 [(.int .i64 0), (.int .i64 0), (.int .i64 0), (.slice none 0 0), (.int .i64 0), (.slice none 0 0), (.slice none 0 0), (.slice none 0 0), (.int .i64 0), (.slice none 0 0)]⟩,
   ⟨none, none, .st 10 (.t 8) (.t 31)⟩])
  (.seq (.reg [⟨(some 32), none, .mv (.t 1)⟩,
   ⟨(some 33), none, .call 62 [(.t 32)]⟩,
   ⟨(some 9), none, .mv (.t 33)⟩])
  (.seq (.reg [⟨(some 34), none, .mv (.t 2)⟩,
   ⟨(some 35), none, .call 63 [(.t 34)]⟩,
   ⟨(some 10), none, .mv (.t 35)⟩])
  (.seq (.reg [⟨(some 36), none, .mv (.t 0)⟩,
   ⟨(some 37), none, .mv (.t 9)⟩,
   ⟨(some 38), none, .mv (.t 10)⟩,
   ⟨(some 39), none, .call 64 [(.t 36), (.t 37), (.t 38)]⟩,
   ⟨(some 11), none, .alloc 103 [(.int .i64 0), (.int .i64 0), (.int .i64 0), (.slice none 0 0), (.int .i64 0), (.slice none 0 0), (.slice none 0 0), (.slice none 0 0), (.int .i64 0), (.slice none 0 0)]⟩,
   ⟨none, none, .st 10 (.t 11) (.t 39)⟩])
  (.seq (.seq (.reg [⟨(some 40), none, .ldn 10 (.t 11)⟩,
   ⟨(some 41), none, .ldn 10 (.t 8)⟩,
   ⟨(some 42), none, .call 65 [(.t 40), (.t 41)]⟩,
   ⟨(some 43), none, .un .not (.t 42)⟩])
  (.cond (.t 43) (.seq (.reg [⟨(some 6), none, .mv (.v (.bool false))⟩])
  .ret)
  .skip))
  (.seq (.seq (.reg [⟨(some 44), none, .mv (.t 9)⟩,
   ⟨(some 45), none, .mv (.t 1)⟩,
   ⟨(some 46), none, .call 62 [(.t 45)]⟩,
   ⟨(some 47), none, .call 66 [(.t 44), (.t 46)]⟩,
   ⟨(some 48), none, .un .not (.t 47)⟩])
  (.cond (.t 48) (.seq (.reg [⟨(some 6), none, .mv (.v (.bool false))⟩])
  .ret)
  .skip))
  (.seq (.seq (.reg [⟨(some 49), none, .mv (.t 10)⟩,
   ⟨(some 50), none, .mv (.t 2)⟩,
   ⟨(some 51), none, .call 63 [(.t 50)]⟩,
   ⟨(some 52), none, .call 67 [(.t 49), (.t 51)]⟩,
   ⟨(some 53), none, .un .not (.t 52)⟩])
  (.cond (.t 53) (.seq (.reg [⟨(some 6), none, .mv (.v (.bool false))⟩])
  .ret)
  .skip))
  (.seq (.reg [⟨(some 12), none, .mv (.v (.int .i64 1))⟩])
  (.seq (.reg [⟨(some 54), none, .mv (.t 9)⟩,
   ⟨(some 55), none, .mv (.t 12)⟩,
   ⟨(some 56), none, .call 68 [(.t 54), (.t 55)]⟩,
   ⟨(some 12), none, .mv (.t 56)⟩])
  (.seq (.reg [⟨(some 57), none, .mv (.t 10)⟩,
   ⟨(some 58), none, .mv (.t 12)⟩,
   ⟨(some 59), none, .call 69 [(.t 57), (.t 58)]⟩,
   ⟨(some 12), none, .mv (.t 59)⟩])
  (.seq (.seq (.reg [⟨(some 60), none, .mv (.t 12)⟩,
   ⟨(some 61), none, .bin .lss (.t 60) (.v (.int .i64 0))⟩,
   ⟨(some 62), none, .mv (.t 61)⟩,
   ⟨(some 63), (some (62, false)), .ldn 10 (.t 11)⟩,
   ⟨(some 64), (some (62, false)), .ldn 10 (.t 8)⟩,
   ⟨(some 65), (some (62, false)), .call 65 [(.t 63), (.t 64)]⟩,
   ⟨(some 66), (some (62, false)), .un .not (.t 65)⟩,
   ⟨(some 67), none, .pick (.t 62) (.v (.bool true)) (.t 66)⟩])
  (.cond (.t 67) (.seq (.reg [⟨(some 6), none, .mv (.v (.bool false))⟩])
  .ret)
  .skip))
  (.seq (.reg [⟨(some 13), none, .mv (.v (.int .i64 1))⟩])
  (.seq (.reg [⟨(some 68), none, .ldn 10 (.t 11)⟩,
   ⟨(some 69), none, .mv (.t 13)⟩,
   ⟨(some 70), none, .call 70 [(.t 68), (.t 69)]⟩,
   ⟨(some 13), none, .mv (.t 70)⟩])
  (.seq (.reg [⟨(some 14), none, .mv (.v (.int .i64 1))⟩])
  (.seq (.reg [⟨(some 71), none, .ldn 10 (.t 11)⟩,
   ⟨(some 72), none, .mv (.t 14)⟩,
   ⟨(some 73), none, .call 71 [(.t 71), (.t 72)]⟩,
   ⟨(some 14), none, .mv (.t 73)⟩])
  (.seq (.seq (.reg [⟨(some 74), none, .mv (.t 14)⟩,
   ⟨(some 75), none, .bin .lss (.t 74) (.v (.int .i64 0))⟩])
  (.cond (.t 75) (.seq (.reg [⟨(some 6), none, .mv (.v (.bool false))⟩])
  .ret)
  .skip))
  (.seq (.seq (.reg [⟨(some 76), none, .mv (.t 14)⟩,
   ⟨(some 77), none, .mv (.t 13)⟩,
   ⟨(some 78), none, .bin .neq (.t 76) (.t 77)⟩])
  (.cond (.t 78) (.seq (.reg [⟨(some 6), none, .mv (.v (.bool false))⟩])
  .ret)
  .skip))
  (.seq (.reg [⟨(some 79), none, .mv (.t 0)⟩,
   ⟨(some 80), none, .mv (.t 1)⟩,
   ⟨(some 81), none, .call 62 [(.t 80)]⟩,
   ⟨(some 82), none, .mv (.t 2)⟩,
   ⟨(some 83), none, .call 63 [(.t 82)]⟩,
   ⟨(some 84), none, .call 64 [(.t 79), (.t 81), (.t 83)]⟩,
   ⟨(some 15), none, .alloc 103 [(.int .i64 0), (.int .i64 0), (.int .i64 0), (.slice none 0 0), (.int .i64 0), (.slice none 0 0), (.slice none 0 0), (.slice none 0 0), (.int .i64 0), (.slice none 0 0)]⟩,
   ⟨none, none, .st 10 (.t 15) (.t 84)⟩])
  (.seq (.seq (.reg [⟨(some 85), none, .ldn 10 (.t 15)⟩,
   ⟨(some 86), none, .ldn 10 (.t 8)⟩,
   ⟨(some 87), none, .call 65 [(.t 85), (.t 86)]⟩,
   ⟨(some 88), none, .un .not (.t 87)⟩])
  (.cond (.t 88) (.seq (.reg [⟨(some 6), none, .mv (.v (.bool false))⟩])
  .ret)
  .skip))
  (.seq (.reg [⟨(some 14), none, .mv (.v (.int .i64 1))⟩])
  (.seq (.reg [⟨(some 89), none, .ldn 10 (.t 11)⟩,
   ⟨(some 90), none, .mv (.t 14)⟩,
   ⟨(some 91), none, .call 71 [(.t 89), (.t 90)]⟩,
   ⟨(some 14), none, .mv (.t 91)⟩])
  (.seq (.seq (.reg [⟨(some 92), none, .mv (.t 14)⟩,
   ⟨(some 93), none, .bin .lss (.t 92) (.v (.int .i64 0))⟩])
  (.cond (.t 93) (.seq (.reg [⟨(some 6), none, .mv (.v (.bool false))⟩])
  .ret)
  .skip))
  (.seq (.seq (.reg [⟨(some 94), none, .mv (.t 14)⟩,
   ⟨(some 95), none, .mv (.t 13)⟩,
   ⟨(some 96), none, .bin .neq (.t 94) (.t 95)⟩])
  (.cond (.t 96) (.seq (.reg [⟨(some 6), none, .mv (.v (.bool false))⟩])
  .ret)
  .skip))
  (.seq (.reg [⟨(some 6), none, .mv (.v (.bool true))⟩])
  .ret)))))))))))))))))))))))))))))),
  [.t 6]⟩
theorem k11 : cFn Try.prog Try.f11 = some c11 := by kernel_rfl
theorem law_NewBox {Ss Si : List TV → Option (TV × THeap)} (okS : OkT Try.prog 61 (pureSp Ss)) (okI : OkT Try.prog 64 (pureSp Si)) (H : ∀ (x0 : Int) (x1 : Cell) (x2 : Cell), HasC sh_RuleS x1 → HasC sh_PeerS x2 → szC x1 ≤ 1048576 → szC x2 ≤ 1048576 → ∃ w w', Ss [.p (.int .i64 x0), fzC x1, fzC x2] = some (.agg (tvCs 0 w), bkCs 0 w) ∧ Si [.p (.int .i64 x0), fzC x1, fzC x2] = some (.agg (tvCs 0 w'), bkCs 0 w') ∧ fzCs w = fzCs w' ∧ FitR sh_BoxResult w ∧ FitR sh_BoxResult w' ∧ szCs w ≤ 1073741824 ∧ szCs w' ≤ 1073741824) : OkT Try.prog 11 (pureSp (tvSp (fun a => ∃ (x0 : Int) (x1 : Cell) (x2 : Cell), a = [.p (.int .i64 x0), fzC x1, fzC x2] ∧ HasC sh_RuleS x1 ∧ HasC sh_PeerS x2 ∧ lnC x1 = true ∧ lnC x2 = true) (fun _ => (.p (.bool true), [])))) := by
  refine okT_tv (OkΓT.cons szRuleS_ok (OkΓT.cons szPeerS_ok (OkΓT.cons (tsp := ansSp (toC_S sh_RuleS)) toRuleS_ok (OkΓT.cons (tsp := ansSp (toC_S sh_PeerS)) toPeerS_ok (OkΓT.cons (tsp := ansSp Ss) okS (OkΓT.cons (tsp := ansSp Si) okI (OkΓT.cons (tsp := ansSp (eqR_S sh_BoxResult)) eqBoxResult_ok (OkΓT.cons (tsp := ansSp (eqC_S sh_RuleS)) eqRuleS_ok (OkΓT.cons (tsp := ansSp (eqC_S sh_PeerS)) eqPeerS_ok (OkΓT.cons markRuleS_ok (OkΓT.cons markPeerS_ok (OkΓT.cons markBoxResult_ok (OkΓT.cons (tsp := ansSp (hdR_S sh_BoxResult)) heldBoxResult_ok (OkΓT.nil _)))))))))))))) Try.func11 (by kernel_rfl) k11 (fun x hx => ⟨rfl, rfl⟩) ?_
  rintro _ ⟨x0, x1, x2, rfl, h1, h2, z1, z2⟩
  have e1 := szC_at (k := 1048576) h1 (by omega) z1
  by_cases q1 : (szC x1 : Int) ≤ 1048576
  case neg =>
    rw [if_neg q1] at e1
    (dsimp only [c11]; simp (maxSteps := 8000000) (implicitDefEqProofs := false) (disch := omega) only [↓reduceIte, go_sem, if_pos, if_neg, e1])
    repeat' first
      | (refine gdKT_dec (fun hg => ?_) (fun hg => ?_) <;> (try (first | simp (maxSteps := 8000000) (implicitDefEqProofs := false) (disch := omega) only [↓reduceIte, go_sem, if_pos, if_neg, eq_false hg, e1] | simp (maxSteps := 8000000) (implicitDefEqProofs := false) (disch := omega) only [↓reduceIte, go_sem, if_pos, if_neg, eq_true hg, e1])))
      | (refine condKT_dec (fun hg => ?_) (fun hg => ?_) <;> (try (first | simp (maxSteps := 8000000) (implicitDefEqProofs := false) (disch := omega) only [↓reduceIte, go_sem, if_pos, if_neg, eq_false hg, e1] | simp (maxSteps := 8000000) (implicitDefEqProofs := false) (disch := omega) only [↓reduceIte, go_sem, if_pos, if_neg, eq_true hg, e1])))
      | (refine gdKT_split (fun hg => ?_) (fun hg => ?_) <;> (try simp (maxSteps := 8000000) (implicitDefEqProofs := false) (disch := omega) only [↓reduceIte, go_sem, if_pos, if_neg, hg, e1]))
      | (refine condKT_split (fun hg => ?_) (fun hg => ?_) <;> (try simp (maxSteps := 8000000) (implicitDefEqProofs := false) (disch := omega) only [↓reduceIte, go_sem, if_pos, if_neg, hg, e1]))
      | (refine endT_p (.inr rfl) (by simp (maxSteps := 8000000) (implicitDefEqProofs := false) (disch := omega) only [↓reduceIte, go_sem, if_pos, if_neg, e1]; rfl) ?_; (first | exact vb_true (by omega) | exact vb_false (by omega) | exact vb_dec (by omega) | exact vi_eq (by omega) | rfl | (refine vi_eq ?_; simp_all; done) | (refine vi_eq ?_; simp_all; omega) | (refine vi_eq ?_; simp_all; intros; omega)))
      | exact endT_v (.inr rfl) (by simp (maxSteps := 8000000) (implicitDefEqProofs := false) (disch := omega) only [↓reduceIte, go_sem, if_pos, if_neg, e1]; try rfl) (fun _ => rfl)
  rw [if_pos q1] at e1
  have y1 : szC x1 ≤ 1048576 := by omega
  have e2 := szC_at (k := 1048576 - (szC x1 : Int)) h2 (by omega) z2
  by_cases q2 : (szC x2 : Int) ≤ 1048576 - (szC x1 : Int)
  case neg =>
    rw [if_neg q2] at e2
    (dsimp only [c11]; simp (maxSteps := 8000000) (implicitDefEqProofs := false) (disch := omega) only [↓reduceIte, go_sem, if_pos, if_neg, e1, e2])
    repeat' first
      | (refine gdKT_dec (fun hg => ?_) (fun hg => ?_) <;> (try (first | simp (maxSteps := 8000000) (implicitDefEqProofs := false) (disch := omega) only [↓reduceIte, go_sem, if_pos, if_neg, eq_false hg, e1, e2] | simp (maxSteps := 8000000) (implicitDefEqProofs := false) (disch := omega) only [↓reduceIte, go_sem, if_pos, if_neg, eq_true hg, e1, e2])))
      | (refine condKT_dec (fun hg => ?_) (fun hg => ?_) <;> (try (first | simp (maxSteps := 8000000) (implicitDefEqProofs := false) (disch := omega) only [↓reduceIte, go_sem, if_pos, if_neg, eq_false hg, e1, e2] | simp (maxSteps := 8000000) (implicitDefEqProofs := false) (disch := omega) only [↓reduceIte, go_sem, if_pos, if_neg, eq_true hg, e1, e2])))
      | (refine gdKT_split (fun hg => ?_) (fun hg => ?_) <;> (try simp (maxSteps := 8000000) (implicitDefEqProofs := false) (disch := omega) only [↓reduceIte, go_sem, if_pos, if_neg, hg, e1, e2]))
      | (refine condKT_split (fun hg => ?_) (fun hg => ?_) <;> (try simp (maxSteps := 8000000) (implicitDefEqProofs := false) (disch := omega) only [↓reduceIte, go_sem, if_pos, if_neg, hg, e1, e2]))
      | (refine endT_p (.inr rfl) (by simp (maxSteps := 8000000) (implicitDefEqProofs := false) (disch := omega) only [↓reduceIte, go_sem, if_pos, if_neg, e1, e2]; rfl) ?_; (first | exact vb_true (by omega) | exact vb_false (by omega) | exact vb_dec (by omega) | exact vi_eq (by omega) | rfl | (refine vi_eq ?_; simp_all; done) | (refine vi_eq ?_; simp_all; omega) | (refine vi_eq ?_; simp_all; intros; omega)))
      | exact endT_v (.inr rfl) (by simp (maxSteps := 8000000) (implicitDefEqProofs := false) (disch := omega) only [↓reduceIte, go_sem, if_pos, if_neg, e1, e2]; try rfl) (fun _ => rfl)
  rw [if_pos q2] at e2
  have y2 : szC x2 ≤ 1048576 := by omega
  obtain ⟨w, w', wS, wI, wE, fS, fI, sS, sI⟩ := H x0 x1 x2 h1 h2 y1 y2
  have lenS : w.length = 10 := FitR.len fS
  have lenI : w'.length = 10 := FitR.len fI
  have dS : dpCs w ≤ 9 := Nat.le_trans (FitR.dp _ _ fS) (of_decide_eq_true (by rfl))
  have dI : dpCs w' ≤ 9 := Nat.le_trans (FitR.dp _ _ fI) (of_decide_eq_true (by rfl))
  have mI : wtCs w' ≤ 64 * 1073741824 := FitR.w fI (of_decide_eq_true (by rfl)) sI
  have d1 : dpC x1 ≤ 9 := Nat.le_trans (FitC.dp _ _ (HasC.fit _ _ h1)) (of_decide_eq_true (by rfl))
  have m1 : wtC x1 ≤ 64 * 1048576 := FitC.w (HasC.fit _ _ h1) (of_decide_eq_true (by rfl)) y1
  have d2 : dpC x2 ≤ 9 := Nat.le_trans (FitC.dp _ _ (HasC.fit _ _ h2)) (of_decide_eq_true (by rfl))
  have m2 : wtC x2 ≤ 64 * 1048576 := FitC.w (HasC.fit _ _ h2) (of_decide_eq_true (by rfl)) y2
  obtain ⟨n0, hn0⟩ := isLen_ex ([] : List TB)
  have ln0 := hn0.eq
  simp only [List.length_append, List.length_cons, List.length_nil, bkC_len, bkCs_len, mkC_nb, mkCs_nb] at ln0
  have e1_ : ∀ t, (ansSp (toC_S sh_RuleS)).fn t [fzC x1] ([] : List TB) = some (tvC n0 x1, (bkC n0 x1 : List TB)) := fun t => by
    rw [call_newC (by simp only [List.map_cons, List.map_nil, frz_p, frz_s, frz_agg, frz_fzC, frz_fzCs]; try rfl) (toC_at h1 y1) hn0.eq]; try simp only [List.append_assoc, List.cons_append, List.nil_append, List.append_nil]
  have Ln0 := bkC_len n0 x1
  obtain ⟨n2, hn2⟩ := isLen_ex (bkC n0 x1 : List TB)
  have ln2 := hn2.eq
  simp only [List.length_append, List.length_cons, List.length_nil, bkC_len, bkCs_len, mkC_nb, mkCs_nb] at ln2
  have e3_ : ∀ t, (ansSp (toC_S sh_PeerS)).fn t [fzC x2] (bkC n0 x1 : List TB) = some (tvC n2 x2, (bkC n0 x1 ++ (bkC n2 x2) : List TB)) := fun t => by
    rw [call_newC (by simp only [List.map_cons, List.map_nil, frz_p, frz_s, frz_agg, frz_fzC, frz_fzCs]; try rfl) (toC_at h2 y2) hn2.eq]; try simp only [List.append_assoc, List.cons_append, List.nil_append, List.append_nil]
  have Ln2 := bkC_len n2 x2
  have f4 : frzT (bkC n0 x1 ++ (bkC n2 x2) : List TB) 9 (tvC n0 x1) = fzC x1 := by
    have := frzC_in (A := ([] : List TB)) (B := (bkC n2 x2 : List TB)) (c := x1) (n := n0) (by first | (simp only [List.length_append, List.length_cons, List.length_nil, bkC_len, bkCs_len, mkC_nb, mkCs_nb]; done) | (simp only [List.length_append, List.length_cons, List.length_nil, bkC_len, bkCs_len, mkC_nb, mkCs_nb]; omega)) (by first | assumption | (rw [mkC_dp]; assumption))
    (try simp only [List.append_assoc, List.cons_append, List.nil_append, List.append_nil, mkC_tv, mkCs_tv] at this); (try simp only [List.append_assoc, List.cons_append, List.nil_append, List.append_nil, mkC_tv, mkCs_tv]); exact this
  have f5 : frzT (bkC n0 x1 ++ (bkC n2 x2) : List TB) 9 (tvC n2 x2) = fzC x2 := by
    have := frzC_in (A := (bkC n0 x1 : List TB)) (B := ([] : List TB)) (c := x2) (n := n2) (by first | (simp only [List.length_append, List.length_cons, List.length_nil, bkC_len, bkCs_len, mkC_nb, mkCs_nb]; done) | (simp only [List.length_append, List.length_cons, List.length_nil, bkC_len, bkCs_len, mkC_nb, mkCs_nb]; omega)) (by first | assumption | (rw [mkC_dp]; assumption))
    (try simp only [List.append_assoc, List.cons_append, List.nil_append, List.append_nil, mkC_tv, mkCs_tv] at this); (try simp only [List.append_assoc, List.cons_append, List.nil_append, List.append_nil, mkC_tv, mkCs_tv]); exact this
  obtain ⟨n6, hn6⟩ := isLen_ex (bkC n0 x1 ++ (bkC n2 x2) : List TB)
  have ln6 := hn6.eq
  simp only [List.length_append, List.length_cons, List.length_nil, bkC_len, bkCs_len, mkC_nb, mkCs_nb] at ln6
  have e7_ : ∀ t, (ansSp Ss).fn t [.p (.int .i64 x0), tvC n0 x1, tvC n2 x2] (bkC n0 x1 ++ (bkC n2 x2) : List TB) = some (.agg (tvCs n6 w), (bkC n0 x1 ++ (bkC n2 x2 ++ (bkCs n6 w)) : List TB)) := fun t => by
    rw [call_new (by simp only [List.map_cons, List.map_nil, frz_p, frz_s, frz_agg, frz_fzC, frz_fzCs, f4, f5]; try rfl) (wS) hn6.eq]; try simp only [List.append_assoc, List.cons_append, List.nil_append, List.append_nil]
  have Ln6 := bkCs_len n6 w
  obtain ⟨n8, hn8⟩ := isLen_ex (bkC n0 x1 ++ (bkC n2 x2 ++ (bkCs n6 w)) : List TB)
  have ln8 := hn8.eq
  simp only [List.length_append, List.length_cons, List.length_nil, bkC_len, bkCs_len, mkC_nb, mkCs_nb] at ln8
  have g9_ := hold_get (A := (bkC n0 x1 ++ (bkC n2 x2 ++ (bkCs n6 w)) : List TB)) (R := ([] : List TB)) (n := n8) (by first | (simp only [List.length_append, List.length_cons, List.length_nil, bkC_len, bkCs_len, mkC_nb, mkCs_nb]; done) | (simp only [List.length_append, List.length_cons, List.length_nil, bkC_len, bkCs_len, mkC_nb, mkCs_nb]; omega))
  try simp only [List.append_assoc, List.cons_append, List.nil_append, List.append_nil] at g9_
  have g9_s := hold_set (A := (bkC n0 x1 ++ (bkC n2 x2 ++ (bkCs n6 w)) : List TB)) (R := ([] : List TB)) (n := n8) (by first | (simp only [List.length_append, List.length_cons, List.length_nil, bkC_len, bkCs_len, mkC_nb, mkCs_nb]; done) | (simp only [List.length_append, List.length_cons, List.length_nil, bkC_len, bkCs_len, mkC_nb, mkCs_nb]; omega))
  try simp only [List.append_assoc, List.cons_append, List.nil_append, List.append_nil] at g9_s
  obtain ⟨n10, hn10⟩ := isLen_ex (bkC n0 x1 ++ (bkC n2 x2 ++ (bkCs n6 w ++ ([.cells 103 10 [.agg (tvCs n6 w)]]))) : List TB)
  have ln10 := hn10.eq
  simp only [List.length_append, List.length_cons, List.length_nil, bkC_len, bkCs_len, mkC_nb, mkCs_nb] at ln10
  have e11_ : ∀ t, (ansSp (toC_S sh_RuleS)).fn t [fzC x1] (bkC n0 x1 ++ (bkC n2 x2 ++ (bkCs n6 w ++ ([.cells 103 10 [.agg (tvCs n6 w)]]))) : List TB) = some (tvC n10 x1, (bkC n0 x1 ++ (bkC n2 x2 ++ (bkCs n6 w ++ (.cells 103 10 [.agg (tvCs n6 w)] :: (bkC n10 x1)))) : List TB)) := fun t => by
    rw [call_newC (by simp only [List.map_cons, List.map_nil, frz_p, frz_s, frz_agg, frz_fzC, frz_fzCs]; try rfl) (toC_at h1 y1) hn10.eq]; try simp only [List.append_assoc, List.cons_append, List.nil_append, List.append_nil]
  have Ln10 := bkC_len n10 x1
  obtain ⟨n12, hn12⟩ := isLen_ex (bkC n0 x1 ++ (bkC n2 x2 ++ (bkCs n6 w ++ (.cells 103 10 [.agg (tvCs n6 w)] :: (bkC n10 x1)))) : List TB)
  have ln12 := hn12.eq
  simp only [List.length_append, List.length_cons, List.length_nil, bkC_len, bkCs_len, mkC_nb, mkCs_nb] at ln12
  have e13_ : ∀ t, (ansSp (toC_S sh_PeerS)).fn t [fzC x2] (bkC n0 x1 ++ (bkC n2 x2 ++ (bkCs n6 w ++ (.cells 103 10 [.agg (tvCs n6 w)] :: (bkC n10 x1)))) : List TB) = some (tvC n12 x2, (bkC n0 x1 ++ (bkC n2 x2 ++ (bkCs n6 w ++ (.cells 103 10 [.agg (tvCs n6 w)] :: (bkC n10 x1 ++ (bkC n12 x2))))) : List TB)) := fun t => by
    rw [call_newC (by simp only [List.map_cons, List.map_nil, frz_p, frz_s, frz_agg, frz_fzC, frz_fzCs]; try rfl) (toC_at h2 y2) hn12.eq]; try simp only [List.append_assoc, List.cons_append, List.nil_append, List.append_nil]
  have Ln12 := bkC_len n12 x2
  have f14 : frzT (bkC n0 x1 ++ (bkC n2 x2 ++ (bkCs n6 w ++ (.cells 103 10 [.agg (tvCs n6 w)] :: (bkC n10 x1 ++ (bkC n12 x2))))) : List TB) 9 (tvC n10 x1) = fzC x1 := by
    have := frzC_in (A := (bkC n0 x1 ++ (bkC n2 x2 ++ (bkCs n6 w ++ ([.cells 103 10 [.agg (tvCs n6 w)]]))) : List TB)) (B := (bkC n12 x2 : List TB)) (c := x1) (n := n10) (by first | (simp only [List.length_append, List.length_cons, List.length_nil, bkC_len, bkCs_len, mkC_nb, mkCs_nb]; done) | (simp only [List.length_append, List.length_cons, List.length_nil, bkC_len, bkCs_len, mkC_nb, mkCs_nb]; omega)) (by first | assumption | (rw [mkC_dp]; assumption))
    (try simp only [List.append_assoc, List.cons_append, List.nil_append, List.append_nil, mkC_tv, mkCs_tv] at this); (try simp only [List.append_assoc, List.cons_append, List.nil_append, List.append_nil, mkC_tv, mkCs_tv]); exact this
  have f15 : frzT (bkC n0 x1 ++ (bkC n2 x2 ++ (bkCs n6 w ++ (.cells 103 10 [.agg (tvCs n6 w)] :: (bkC n10 x1 ++ (bkC n12 x2))))) : List TB) 9 (tvC n12 x2) = fzC x2 := by
    have := frzC_in (A := (bkC n0 x1 ++ (bkC n2 x2 ++ (bkCs n6 w ++ (.cells 103 10 [.agg (tvCs n6 w)] :: (bkC n10 x1)))) : List TB)) (B := ([] : List TB)) (c := x2) (n := n12) (by first | (simp only [List.length_append, List.length_cons, List.length_nil, bkC_len, bkCs_len, mkC_nb, mkCs_nb]; done) | (simp only [List.length_append, List.length_cons, List.length_nil, bkC_len, bkCs_len, mkC_nb, mkCs_nb]; omega)) (by first | assumption | (rw [mkC_dp]; assumption))
    (try simp only [List.append_assoc, List.cons_append, List.nil_append, List.append_nil, mkC_tv, mkCs_tv] at this); (try simp only [List.append_assoc, List.cons_append, List.nil_append, List.append_nil, mkC_tv, mkCs_tv]); exact this
  obtain ⟨n16, hn16⟩ := isLen_ex (bkC n0 x1 ++ (bkC n2 x2 ++ (bkCs n6 w ++ (.cells 103 10 [.agg (tvCs n6 w)] :: (bkC n10 x1 ++ (bkC n12 x2))))) : List TB)
  have ln16 := hn16.eq
  simp only [List.length_append, List.length_cons, List.length_nil, bkC_len, bkCs_len, mkC_nb, mkCs_nb] at ln16
  have e17_ : ∀ t, (ansSp Si).fn t [.p (.int .i64 x0), tvC n10 x1, tvC n12 x2] (bkC n0 x1 ++ (bkC n2 x2 ++ (bkCs n6 w ++ (.cells 103 10 [.agg (tvCs n6 w)] :: (bkC n10 x1 ++ (bkC n12 x2))))) : List TB) = some (.agg (tvCs n16 w'), (bkC n0 x1 ++ (bkC n2 x2 ++ (bkCs n6 w ++ (.cells 103 10 [.agg (tvCs n6 w)] :: (bkC n10 x1 ++ (bkC n12 x2 ++ (bkCs n16 w')))))) : List TB)) := fun t => by
    rw [call_new (by simp only [List.map_cons, List.map_nil, frz_p, frz_s, frz_agg, frz_fzC, frz_fzCs, f14, f15]; try rfl) (wI) hn16.eq]; try simp only [List.append_assoc, List.cons_append, List.nil_append, List.append_nil]
  have Ln16 := bkCs_len n16 w'
  obtain ⟨n18, hn18⟩ := isLen_ex (bkC n0 x1 ++ (bkC n2 x2 ++ (bkCs n6 w ++ (.cells 103 10 [.agg (tvCs n6 w)] :: (bkC n10 x1 ++ (bkC n12 x2 ++ (bkCs n16 w')))))) : List TB)
  have ln18 := hn18.eq
  simp only [List.length_append, List.length_cons, List.length_nil, bkC_len, bkCs_len, mkC_nb, mkCs_nb] at ln18
  have g19_ := hold_get (A := (bkC n0 x1 ++ (bkC n2 x2 ++ (bkCs n6 w ++ (.cells 103 10 [.agg (tvCs n6 w)] :: (bkC n10 x1 ++ (bkC n12 x2 ++ (bkCs n16 w')))))) : List TB)) (R := ([] : List TB)) (n := n18) (by first | (simp only [List.length_append, List.length_cons, List.length_nil, bkC_len, bkCs_len, mkC_nb, mkCs_nb]; done) | (simp only [List.length_append, List.length_cons, List.length_nil, bkC_len, bkCs_len, mkC_nb, mkCs_nb]; omega))
  try simp only [List.append_assoc, List.cons_append, List.nil_append, List.append_nil] at g19_
  have g19_s := hold_set (A := (bkC n0 x1 ++ (bkC n2 x2 ++ (bkCs n6 w ++ (.cells 103 10 [.agg (tvCs n6 w)] :: (bkC n10 x1 ++ (bkC n12 x2 ++ (bkCs n16 w')))))) : List TB)) (R := ([] : List TB)) (n := n18) (by first | (simp only [List.length_append, List.length_cons, List.length_nil, bkC_len, bkCs_len, mkC_nb, mkCs_nb]; done) | (simp only [List.length_append, List.length_cons, List.length_nil, bkC_len, bkCs_len, mkC_nb, mkCs_nb]; omega))
  try simp only [List.append_assoc, List.cons_append, List.nil_append, List.append_nil] at g19_s
  have g20_ := hold_get (A := (bkC n0 x1 ++ (bkC n2 x2 ++ (bkCs n6 w ++ (.cells 103 10 [.agg (tvCs n6 w)] :: (bkC n10 x1 ++ (bkC n12 x2 ++ (bkCs n16 w')))))) : List TB)) (R := ([] : List TB)) (n := n18) (by first | (simp only [List.length_append, List.length_cons, List.length_nil, bkC_len, bkCs_len, mkC_nb, mkCs_nb]; done) | (simp only [List.length_append, List.length_cons, List.length_nil, bkC_len, bkCs_len, mkC_nb, mkCs_nb]; omega))
  try simp only [List.append_assoc, List.cons_append, List.nil_append, List.append_nil] at g20_
  have g21_ := hold_get (A := (bkC n0 x1 ++ (bkC n2 x2 ++ (bkCs n6 w)) : List TB)) (R := (bkC n10 x1 ++ (bkC n12 x2 ++ (bkCs n16 w' ++ ([.cells 103 10 [.agg (tvCs n16 w')]]))) : List TB)) (n := n8) (by first | (simp only [List.length_append, List.length_cons, List.length_nil, bkC_len, bkCs_len, mkC_nb, mkCs_nb]; done) | (simp only [List.length_append, List.length_cons, List.length_nil, bkC_len, bkCs_len, mkC_nb, mkCs_nb]; omega))
  try simp only [List.append_assoc, List.cons_append, List.nil_append, List.append_nil] at g21_
  have f22 : frzT (bkC n0 x1 ++ (bkC n2 x2 ++ (bkCs n6 w ++ (.cells 103 10 [.agg (tvCs n6 w)] :: (bkC n10 x1 ++ (bkC n12 x2 ++ (bkCs n16 w' ++ ([.cells 103 10 [.agg (tvCs n16 w')]]))))))) : List TB) 9 (.agg (tvCs n16 w')) = .agg (fzCs w') := by
    have := frz_in (A := (bkC n0 x1 ++ (bkC n2 x2 ++ (bkCs n6 w ++ (.cells 103 10 [.agg (tvCs n6 w)] :: (bkC n10 x1 ++ (bkC n12 x2))))) : List TB)) (B := ([.cells 103 10 [.agg (tvCs n16 w')]] : List TB)) (w := w') (n := n16) (by first | (simp only [List.length_append, List.length_cons, List.length_nil, bkC_len, bkCs_len, mkC_nb, mkCs_nb]; done) | (simp only [List.length_append, List.length_cons, List.length_nil, bkC_len, bkCs_len, mkC_nb, mkCs_nb]; omega)) (by first | assumption | (rw [mkCs_dp]; assumption))
    (try simp only [List.append_assoc, List.cons_append, List.nil_append, List.append_nil, mkC_tv, mkCs_tv] at this); (try simp only [List.append_assoc, List.cons_append, List.nil_append, List.append_nil, mkC_tv, mkCs_tv]); exact this
  have f23 : frzT (bkC n0 x1 ++ (bkC n2 x2 ++ (bkCs n6 w ++ (.cells 103 10 [.agg (tvCs n6 w)] :: (bkC n10 x1 ++ (bkC n12 x2 ++ (bkCs n16 w' ++ ([.cells 103 10 [.agg (tvCs n16 w')]]))))))) : List TB) 9 (.agg (tvCs n6 w)) = .agg (fzCs w) := by
    have := frz_in (A := (bkC n0 x1 ++ (bkC n2 x2) : List TB)) (B := (.cells 103 10 [.agg (tvCs n6 w)] :: (bkC n10 x1 ++ (bkC n12 x2 ++ (bkCs n16 w' ++ ([.cells 103 10 [.agg (tvCs n16 w')]])))) : List TB)) (w := w) (n := n6) (by first | (simp only [List.length_append, List.length_cons, List.length_nil, bkC_len, bkCs_len, mkC_nb, mkCs_nb]; done) | (simp only [List.length_append, List.length_cons, List.length_nil, bkC_len, bkCs_len, mkC_nb, mkCs_nb]; omega)) (by first | assumption | (rw [mkCs_dp]; assumption))
    (try simp only [List.append_assoc, List.cons_append, List.nil_append, List.append_nil, mkC_tv, mkCs_tv] at this); (try simp only [List.append_assoc, List.cons_append, List.nil_append, List.append_nil, mkC_tv, mkCs_tv]); exact this
  have e24_ : ∀ t, (ansSp (eqR_S sh_BoxResult)).fn t [.agg (tvCs n16 w'), .agg (tvCs n6 w)] (bkC n0 x1 ++ (bkC n2 x2 ++ (bkCs n6 w ++ (.cells 103 10 [.agg (tvCs n6 w)] :: (bkC n10 x1 ++ (bkC n12 x2 ++ (bkCs n16 w' ++ ([.cells 103 10 [.agg (tvCs n16 w')]]))))))) : List TB) = some (.p (.bool true), (bkC n0 x1 ++ (bkC n2 x2 ++ (bkCs n6 w ++ (.cells 103 10 [.agg (tvCs n6 w)] :: (bkC n10 x1 ++ (bkC n12 x2 ++ (bkCs n16 w' ++ ([.cells 103 10 [.agg (tvCs n16 w')]]))))))) : List TB)) := fun t => call_val (by simp only [List.map_cons, List.map_nil, frz_p, frz_s, frz_agg, frz_fzC, frz_fzCs, wE, f22, f23]; try rfl) (eqR_at fI (Nat.le_trans sI (by decide)))
  obtain ⟨n25, hn25⟩ := isLen_ex (bkC n0 x1 ++ (bkC n2 x2 ++ (bkCs n6 w ++ (.cells 103 10 [.agg (tvCs n6 w)] :: (bkC n10 x1 ++ (bkC n12 x2 ++ (bkCs n16 w' ++ ([.cells 103 10 [.agg (tvCs n16 w')]]))))))) : List TB)
  have ln25 := hn25.eq
  simp only [List.length_append, List.length_cons, List.length_nil, bkC_len, bkCs_len, mkC_nb, mkCs_nb] at ln25
  have e26_ : ∀ t, (ansSp (toC_S sh_RuleS)).fn t [fzC x1] (bkC n0 x1 ++ (bkC n2 x2 ++ (bkCs n6 w ++ (.cells 103 10 [.agg (tvCs n6 w)] :: (bkC n10 x1 ++ (bkC n12 x2 ++ (bkCs n16 w' ++ ([.cells 103 10 [.agg (tvCs n16 w')]]))))))) : List TB) = some (tvC n25 x1, (bkC n0 x1 ++ (bkC n2 x2 ++ (bkCs n6 w ++ (.cells 103 10 [.agg (tvCs n6 w)] :: (bkC n10 x1 ++ (bkC n12 x2 ++ (bkCs n16 w' ++ (.cells 103 10 [.agg (tvCs n16 w')] :: (bkC n25 x1)))))))) : List TB)) := fun t => by
    rw [call_newC (by simp only [List.map_cons, List.map_nil, frz_p, frz_s, frz_agg, frz_fzC, frz_fzCs]; try rfl) (toC_at h1 y1) hn25.eq]; try simp only [List.append_assoc, List.cons_append, List.nil_append, List.append_nil]
  have Ln25 := bkC_len n25 x1
  have f27 : frzT (bkC n0 x1 ++ (bkC n2 x2 ++ (bkCs n6 w ++ (.cells 103 10 [.agg (tvCs n6 w)] :: (bkC n10 x1 ++ (bkC n12 x2 ++ (bkCs n16 w' ++ (.cells 103 10 [.agg (tvCs n16 w')] :: (bkC n25 x1)))))))) : List TB) 9 (tvC n10 x1) = fzC x1 := by
    have := frzC_in (A := (bkC n0 x1 ++ (bkC n2 x2 ++ (bkCs n6 w ++ ([.cells 103 10 [.agg (tvCs n6 w)]]))) : List TB)) (B := (bkC n12 x2 ++ (bkCs n16 w' ++ (.cells 103 10 [.agg (tvCs n16 w')] :: (bkC n25 x1))) : List TB)) (c := x1) (n := n10) (by first | (simp only [List.length_append, List.length_cons, List.length_nil, bkC_len, bkCs_len, mkC_nb, mkCs_nb]; done) | (simp only [List.length_append, List.length_cons, List.length_nil, bkC_len, bkCs_len, mkC_nb, mkCs_nb]; omega)) (by first | assumption | (rw [mkC_dp]; assumption))
    (try simp only [List.append_assoc, List.cons_append, List.nil_append, List.append_nil, mkC_tv, mkCs_tv] at this); (try simp only [List.append_assoc, List.cons_append, List.nil_append, List.append_nil, mkC_tv, mkCs_tv]); exact this
  have f28 : frzT (bkC n0 x1 ++ (bkC n2 x2 ++ (bkCs n6 w ++ (.cells 103 10 [.agg (tvCs n6 w)] :: (bkC n10 x1 ++ (bkC n12 x2 ++ (bkCs n16 w' ++ (.cells 103 10 [.agg (tvCs n16 w')] :: (bkC n25 x1)))))))) : List TB) 9 (tvC n25 x1) = fzC x1 := by
    have := frzC_in (A := (bkC n0 x1 ++ (bkC n2 x2 ++ (bkCs n6 w ++ (.cells 103 10 [.agg (tvCs n6 w)] :: (bkC n10 x1 ++ (bkC n12 x2 ++ (bkCs n16 w' ++ ([.cells 103 10 [.agg (tvCs n16 w')]]))))))) : List TB)) (B := ([] : List TB)) (c := x1) (n := n25) (by first | (simp only [List.length_append, List.length_cons, List.length_nil, bkC_len, bkCs_len, mkC_nb, mkCs_nb]; done) | (simp only [List.length_append, List.length_cons, List.length_nil, bkC_len, bkCs_len, mkC_nb, mkCs_nb]; omega)) (by first | assumption | (rw [mkC_dp]; assumption))
    (try simp only [List.append_assoc, List.cons_append, List.nil_append, List.append_nil, mkC_tv, mkCs_tv] at this); (try simp only [List.append_assoc, List.cons_append, List.nil_append, List.append_nil, mkC_tv, mkCs_tv]); exact this
  have e29_ : ∀ t, (ansSp (eqC_S sh_RuleS)).fn t [tvC n10 x1, tvC n25 x1] (bkC n0 x1 ++ (bkC n2 x2 ++ (bkCs n6 w ++ (.cells 103 10 [.agg (tvCs n6 w)] :: (bkC n10 x1 ++ (bkC n12 x2 ++ (bkCs n16 w' ++ (.cells 103 10 [.agg (tvCs n16 w')] :: (bkC n25 x1)))))))) : List TB) = some (.p (.bool true), (bkC n0 x1 ++ (bkC n2 x2 ++ (bkCs n6 w ++ (.cells 103 10 [.agg (tvCs n6 w)] :: (bkC n10 x1 ++ (bkC n12 x2 ++ (bkCs n16 w' ++ (.cells 103 10 [.agg (tvCs n16 w')] :: (bkC n25 x1)))))))) : List TB)) := fun t => call_val (by simp only [List.map_cons, List.map_nil, frz_p, frz_s, frz_agg, frz_fzC, frz_fzCs, f27, f28]; try rfl) (eqC_at (HasC.fit _ _ h1) (Nat.le_trans y1 (by decide)))
  obtain ⟨n30, hn30⟩ := isLen_ex (bkC n0 x1 ++ (bkC n2 x2 ++ (bkCs n6 w ++ (.cells 103 10 [.agg (tvCs n6 w)] :: (bkC n10 x1 ++ (bkC n12 x2 ++ (bkCs n16 w' ++ (.cells 103 10 [.agg (tvCs n16 w')] :: (bkC n25 x1)))))))) : List TB)
  have ln30 := hn30.eq
  simp only [List.length_append, List.length_cons, List.length_nil, bkC_len, bkCs_len, mkC_nb, mkCs_nb] at ln30
  have e31_ : ∀ t, (ansSp (toC_S sh_PeerS)).fn t [fzC x2] (bkC n0 x1 ++ (bkC n2 x2 ++ (bkCs n6 w ++ (.cells 103 10 [.agg (tvCs n6 w)] :: (bkC n10 x1 ++ (bkC n12 x2 ++ (bkCs n16 w' ++ (.cells 103 10 [.agg (tvCs n16 w')] :: (bkC n25 x1)))))))) : List TB) = some (tvC n30 x2, (bkC n0 x1 ++ (bkC n2 x2 ++ (bkCs n6 w ++ (.cells 103 10 [.agg (tvCs n6 w)] :: (bkC n10 x1 ++ (bkC n12 x2 ++ (bkCs n16 w' ++ (.cells 103 10 [.agg (tvCs n16 w')] :: (bkC n25 x1 ++ (bkC n30 x2))))))))) : List TB)) := fun t => by
    rw [call_newC (by simp only [List.map_cons, List.map_nil, frz_p, frz_s, frz_agg, frz_fzC, frz_fzCs]; try rfl) (toC_at h2 y2) hn30.eq]; try simp only [List.append_assoc, List.cons_append, List.nil_append, List.append_nil]
  have Ln30 := bkC_len n30 x2
  have f32 : frzT (bkC n0 x1 ++ (bkC n2 x2 ++ (bkCs n6 w ++ (.cells 103 10 [.agg (tvCs n6 w)] :: (bkC n10 x1 ++ (bkC n12 x2 ++ (bkCs n16 w' ++ (.cells 103 10 [.agg (tvCs n16 w')] :: (bkC n25 x1 ++ (bkC n30 x2))))))))) : List TB) 9 (tvC n12 x2) = fzC x2 := by
    have := frzC_in (A := (bkC n0 x1 ++ (bkC n2 x2 ++ (bkCs n6 w ++ (.cells 103 10 [.agg (tvCs n6 w)] :: (bkC n10 x1)))) : List TB)) (B := (bkCs n16 w' ++ (.cells 103 10 [.agg (tvCs n16 w')] :: (bkC n25 x1 ++ (bkC n30 x2))) : List TB)) (c := x2) (n := n12) (by first | (simp only [List.length_append, List.length_cons, List.length_nil, bkC_len, bkCs_len, mkC_nb, mkCs_nb]; done) | (simp only [List.length_append, List.length_cons, List.length_nil, bkC_len, bkCs_len, mkC_nb, mkCs_nb]; omega)) (by first | assumption | (rw [mkC_dp]; assumption))
    (try simp only [List.append_assoc, List.cons_append, List.nil_append, List.append_nil, mkC_tv, mkCs_tv] at this); (try simp only [List.append_assoc, List.cons_append, List.nil_append, List.append_nil, mkC_tv, mkCs_tv]); exact this
  have f33 : frzT (bkC n0 x1 ++ (bkC n2 x2 ++ (bkCs n6 w ++ (.cells 103 10 [.agg (tvCs n6 w)] :: (bkC n10 x1 ++ (bkC n12 x2 ++ (bkCs n16 w' ++ (.cells 103 10 [.agg (tvCs n16 w')] :: (bkC n25 x1 ++ (bkC n30 x2))))))))) : List TB) 9 (tvC n30 x2) = fzC x2 := by
    have := frzC_in (A := (bkC n0 x1 ++ (bkC n2 x2 ++ (bkCs n6 w ++ (.cells 103 10 [.agg (tvCs n6 w)] :: (bkC n10 x1 ++ (bkC n12 x2 ++ (bkCs n16 w' ++ (.cells 103 10 [.agg (tvCs n16 w')] :: (bkC n25 x1)))))))) : List TB)) (B := ([] : List TB)) (c := x2) (n := n30) (by first | (simp only [List.length_append, List.length_cons, List.length_nil, bkC_len, bkCs_len, mkC_nb, mkCs_nb]; done) | (simp only [List.length_append, List.length_cons, List.length_nil, bkC_len, bkCs_len, mkC_nb, mkCs_nb]; omega)) (by first | assumption | (rw [mkC_dp]; assumption))
    (try simp only [List.append_assoc, List.cons_append, List.nil_append, List.append_nil, mkC_tv, mkCs_tv] at this); (try simp only [List.append_assoc, List.cons_append, List.nil_append, List.append_nil, mkC_tv, mkCs_tv]); exact this
  have e34_ : ∀ t, (ansSp (eqC_S sh_PeerS)).fn t [tvC n12 x2, tvC n30 x2] (bkC n0 x1 ++ (bkC n2 x2 ++ (bkCs n6 w ++ (.cells 103 10 [.agg (tvCs n6 w)] :: (bkC n10 x1 ++ (bkC n12 x2 ++ (bkCs n16 w' ++ (.cells 103 10 [.agg (tvCs n16 w')] :: (bkC n25 x1 ++ (bkC n30 x2))))))))) : List TB) = some (.p (.bool true), (bkC n0 x1 ++ (bkC n2 x2 ++ (bkCs n6 w ++ (.cells 103 10 [.agg (tvCs n6 w)] :: (bkC n10 x1 ++ (bkC n12 x2 ++ (bkCs n16 w' ++ (.cells 103 10 [.agg (tvCs n16 w')] :: (bkC n25 x1 ++ (bkC n30 x2))))))))) : List TB)) := fun t => call_val (by simp only [List.map_cons, List.map_nil, frz_p, frz_s, frz_agg, frz_fzC, frz_fzCs, f32, f33]; try rfl) (eqC_at (HasC.fit _ _ h2) (Nat.le_trans y2 (by decide)))
  (dsimp only [c11]; simp (maxSteps := 8000000) (implicitDefEqProofs := false) (disch := omega) only [↓reduceIte, go_sem, if_pos, if_neg, lenS, lenI, fzCs_len, fzCs_one, tvCs_len, tvCs_one, e1, e2, ↓hn0.eq, e1_, ↓hn2.eq, e3_, ↓hn6.eq, e7_, ↓hn8.eq, g9_, g9_s, ↓hn10.eq, e11_, ↓hn12.eq, e13_, ↓hn16.eq, e17_, ↓hn18.eq, g19_, g19_s, g20_, g21_, e24_, ↓hn25.eq, e26_, e29_, ↓hn30.eq, e31_, e34_])
  have k35_ := mkC_seg (A := (bkC n0 x1 ++ (bkC n2 x2 ++ (bkCs n6 w ++ ([.cells 103 10 [.agg (tvCs n6 w)]]))) : List TB)) (B := (bkC n12 x2 ++ (bkCs n16 w' ++ (.cells 103 10 [.agg (tvCs n16 w')] :: (bkC n25 x1 ++ (bkC n30 x2)))) : List TB)) (n := n10) (c := x1) (k := 1) (by simp only [List.length_append, List.length_cons, List.length_nil, bkC_len, bkCs_len, mkC_nb, mkCs_nb]; omega) (HasC.fit _ _ h1) (by omega) (by omega)
  simp only [List.append_assoc, List.cons_append, List.nil_append, List.append_nil] at k35_
  have Ln10_36 := bkC_len n10 (mkC x1 (1)); rw [mkC_nb] at Ln10_36
  refine mutQ_call (by simp (maxSteps := 8000000) (implicitDefEqProofs := false) (disch := omega) only [↓reduceIte, go_sem, if_pos, if_neg]; rfl) (by simp (maxSteps := 8000000) (implicitDefEqProofs := false) (disch := omega) only [↓reduceIte, go_sem, if_pos, if_neg]) k35_ ?_
  simp (maxSteps := 8000000) (implicitDefEqProofs := false) (disch := omega) only [↓reduceIte, go_sem, if_pos, if_neg, lenS, lenI, fzCs_len, fzCs_one, tvCs_len, tvCs_one, eq_false (show ¬ (1 + (wtC x1 : Int) < 0) by omega)]
  have k36_ := mkC_seg (A := (bkC n0 x1 ++ (bkC n2 x2 ++ (bkCs n6 w ++ (.cells 103 10 [.agg (tvCs n6 w)] :: (bkC n10 (mkC x1 (1)))))) : List TB)) (B := (bkCs n16 w' ++ (.cells 103 10 [.agg (tvCs n16 w')] :: (bkC n25 x1 ++ (bkC n30 x2))) : List TB)) (n := n12) (c := x2) (k := (1 + (wtC x1 : Int))) (by simp only [List.length_append, List.length_cons, List.length_nil, bkC_len, bkCs_len, mkC_nb, mkCs_nb]; omega) (HasC.fit _ _ h2) (by omega) (by omega)
  simp only [List.append_assoc, List.cons_append, List.nil_append, List.append_nil] at k36_
  have Ln12_37 := bkC_len n12 (mkC x2 ((1 + (wtC x1 : Int)))); rw [mkC_nb] at Ln12_37
  refine mutQ_call (by simp (maxSteps := 8000000) (implicitDefEqProofs := false) (disch := omega) only [↓reduceIte, go_sem, if_pos, if_neg]; rfl) (by simp (maxSteps := 8000000) (implicitDefEqProofs := false) (disch := omega) only [↓reduceIte, go_sem, if_pos, if_neg]) k36_ ?_
  have g37_ := hold_get (A := (bkC n0 x1 ++ (bkC n2 x2 ++ (bkCs n6 w ++ (.cells 103 10 [.agg (tvCs n6 w)] :: (bkC n10 (mkC x1 (1)) ++ (bkC n12 (mkC x2 ((1 + (wtC x1 : Int)))) ++ (bkCs n16 w')))))) : List TB)) (R := (bkC n25 x1 ++ (bkC n30 x2) : List TB)) (n := n18) (by first | (simp only [List.length_append, List.length_cons, List.length_nil, bkC_len, bkCs_len, mkC_nb, mkCs_nb]; done) | (simp only [List.length_append, List.length_cons, List.length_nil, bkC_len, bkCs_len, mkC_nb, mkCs_nb]; omega))
  try simp only [List.append_assoc, List.cons_append, List.nil_append, List.append_nil] at g37_
  have g38_ := hold_get (A := (bkC n0 x1 ++ (bkC n2 x2 ++ (bkCs n6 w)) : List TB)) (R := (bkC n10 (mkC x1 (1)) ++ (bkC n12 (mkC x2 ((1 + (wtC x1 : Int)))) ++ (bkCs n16 w' ++ (.cells 103 10 [.agg (tvCs n16 w')] :: (bkC n25 x1 ++ (bkC n30 x2))))) : List TB)) (n := n8) (by first | (simp only [List.length_append, List.length_cons, List.length_nil, bkC_len, bkCs_len, mkC_nb, mkCs_nb]; done) | (simp only [List.length_append, List.length_cons, List.length_nil, bkC_len, bkCs_len, mkC_nb, mkCs_nb]; omega))
  try simp only [List.append_assoc, List.cons_append, List.nil_append, List.append_nil] at g38_
  have f39 : frzT (bkC n0 x1 ++ (bkC n2 x2 ++ (bkCs n6 w ++ (.cells 103 10 [.agg (tvCs n6 w)] :: (bkC n10 (mkC x1 (1)) ++ (bkC n12 (mkC x2 ((1 + (wtC x1 : Int)))) ++ (bkCs n16 w' ++ (.cells 103 10 [.agg (tvCs n16 w')] :: (bkC n25 x1 ++ (bkC n30 x2))))))))) : List TB) 9 (.agg (tvCs n16 w')) = .agg (fzCs w') := by
    have := frz_in (A := (bkC n0 x1 ++ (bkC n2 x2 ++ (bkCs n6 w ++ (.cells 103 10 [.agg (tvCs n6 w)] :: (bkC n10 (mkC x1 (1)) ++ (bkC n12 (mkC x2 ((1 + (wtC x1 : Int))))))))) : List TB)) (B := (.cells 103 10 [.agg (tvCs n16 w')] :: (bkC n25 x1 ++ (bkC n30 x2)) : List TB)) (w := w') (n := n16) (by first | (simp only [List.length_append, List.length_cons, List.length_nil, bkC_len, bkCs_len, mkC_nb, mkCs_nb]; done) | (simp only [List.length_append, List.length_cons, List.length_nil, bkC_len, bkCs_len, mkC_nb, mkCs_nb]; omega)) (by first | assumption | (rw [mkCs_dp]; assumption))
    (try simp only [List.append_assoc, List.cons_append, List.nil_append, List.append_nil, mkC_tv, mkCs_tv] at this); (try simp only [List.append_assoc, List.cons_append, List.nil_append, List.append_nil, mkC_tv, mkCs_tv]); exact this
  have f40 : frzT (bkC n0 x1 ++ (bkC n2 x2 ++ (bkCs n6 w ++ (.cells 103 10 [.agg (tvCs n6 w)] :: (bkC n10 (mkC x1 (1)) ++ (bkC n12 (mkC x2 ((1 + (wtC x1 : Int)))) ++ (bkCs n16 w' ++ (.cells 103 10 [.agg (tvCs n16 w')] :: (bkC n25 x1 ++ (bkC n30 x2))))))))) : List TB) 9 (.agg (tvCs n6 w)) = .agg (fzCs w) := by
    have := frz_in (A := (bkC n0 x1 ++ (bkC n2 x2) : List TB)) (B := (.cells 103 10 [.agg (tvCs n6 w)] :: (bkC n10 (mkC x1 (1)) ++ (bkC n12 (mkC x2 ((1 + (wtC x1 : Int)))) ++ (bkCs n16 w' ++ (.cells 103 10 [.agg (tvCs n16 w')] :: (bkC n25 x1 ++ (bkC n30 x2)))))) : List TB)) (w := w) (n := n6) (by first | (simp only [List.length_append, List.length_cons, List.length_nil, bkC_len, bkCs_len, mkC_nb, mkCs_nb]; done) | (simp only [List.length_append, List.length_cons, List.length_nil, bkC_len, bkCs_len, mkC_nb, mkCs_nb]; omega)) (by first | assumption | (rw [mkCs_dp]; assumption))
    (try simp only [List.append_assoc, List.cons_append, List.nil_append, List.append_nil, mkC_tv, mkCs_tv] at this); (try simp only [List.append_assoc, List.cons_append, List.nil_append, List.append_nil, mkC_tv, mkCs_tv]); exact this
  have e41_ : ∀ t, (ansSp (eqR_S sh_BoxResult)).fn t [.agg (tvCs n16 w'), .agg (tvCs n6 w)] (bkC n0 x1 ++ (bkC n2 x2 ++ (bkCs n6 w ++ (.cells 103 10 [.agg (tvCs n6 w)] :: (bkC n10 (mkC x1 (1)) ++ (bkC n12 (mkC x2 ((1 + (wtC x1 : Int)))) ++ (bkCs n16 w' ++ (.cells 103 10 [.agg (tvCs n16 w')] :: (bkC n25 x1 ++ (bkC n30 x2))))))))) : List TB) = some (.p (.bool true), (bkC n0 x1 ++ (bkC n2 x2 ++ (bkCs n6 w ++ (.cells 103 10 [.agg (tvCs n6 w)] :: (bkC n10 (mkC x1 (1)) ++ (bkC n12 (mkC x2 ((1 + (wtC x1 : Int)))) ++ (bkCs n16 w' ++ (.cells 103 10 [.agg (tvCs n16 w')] :: (bkC n25 x1 ++ (bkC n30 x2))))))))) : List TB)) := fun t => call_val (by simp only [List.map_cons, List.map_nil, frz_p, frz_s, frz_agg, frz_fzC, frz_fzCs, wE, f39, f40]; try rfl) (eqR_at fI (Nat.le_trans sI (by decide)))
  have g42_ := hold_get (A := (bkC n0 x1 ++ (bkC n2 x2 ++ (bkCs n6 w ++ (.cells 103 10 [.agg (tvCs n6 w)] :: (bkC n10 (mkC x1 (1)) ++ (bkC n12 (mkC x2 ((1 + (wtC x1 : Int)))) ++ (bkCs n16 w')))))) : List TB)) (R := (bkC n25 x1 ++ (bkC n30 x2) : List TB)) (n := n18) (by first | (simp only [List.length_append, List.length_cons, List.length_nil, bkC_len, bkCs_len, mkC_nb, mkCs_nb]; done) | (simp only [List.length_append, List.length_cons, List.length_nil, bkC_len, bkCs_len, mkC_nb, mkCs_nb]; omega))
  try simp only [List.append_assoc, List.cons_append, List.nil_append, List.append_nil] at g42_
  simp (maxSteps := 8000000) (implicitDefEqProofs := false) (disch := omega) only [↓reduceIte, go_sem, if_pos, if_neg, lenS, lenI, fzCs_len, fzCs_one, tvCs_len, tvCs_one, eq_false (show ¬ ((1 + (wtC x1 : Int)) + (wtC x2 : Int) < 0) by omega), g37_, g38_, e41_, g42_]
  have k43_ := mkR_seg (A := (bkC n0 x1 ++ (bkC n2 x2 ++ (bkCs n6 w ++ (.cells 103 10 [.agg (tvCs n6 w)] :: (bkC n10 (mkC x1 (1)) ++ (bkC n12 (mkC x2 ((1 + (wtC x1 : Int))))))))) : List TB)) (B := (.cells 103 10 [.agg (tvCs n16 w')] :: (bkC n25 x1 ++ (bkC n30 x2)) : List TB)) (n := n16) (c := w') (k := 1) (by simp only [List.length_append, List.length_cons, List.length_nil, bkC_len, bkCs_len, mkC_nb, mkCs_nb]; omega) fI (by omega) (by omega)
  simp only [List.append_assoc, List.cons_append, List.nil_append, List.append_nil] at k43_
  have Ln16_44 := bkCs_len n16 (mkCs w' (1)); rw [mkCs_nb] at Ln16_44
  refine mutQ_call (by simp (maxSteps := 8000000) (implicitDefEqProofs := false) (disch := omega) only [↓reduceIte, go_sem, if_pos, if_neg]; rfl) (by simp (maxSteps := 8000000) (implicitDefEqProofs := false) (disch := omega) only [↓reduceIte, go_sem, if_pos, if_neg]) k43_ ?_
  have g44_ := hold_get (A := (bkC n0 x1 ++ (bkC n2 x2 ++ (bkCs n6 w ++ (.cells 103 10 [.agg (tvCs n6 w)] :: (bkC n10 (mkC x1 (1)) ++ (bkC n12 (mkC x2 ((1 + (wtC x1 : Int)))) ++ (bkCs n16 (mkCs w' (1)))))))) : List TB)) (R := (bkC n25 x1 ++ (bkC n30 x2) : List TB)) (n := n18) (by first | (simp only [List.length_append, List.length_cons, List.length_nil, bkC_len, bkCs_len, mkC_nb, mkCs_nb]; done) | (simp only [List.length_append, List.length_cons, List.length_nil, bkC_len, bkCs_len, mkC_nb, mkCs_nb]; omega))
  try simp only [List.append_assoc, List.cons_append, List.nil_append, List.append_nil] at g44_
  have f45 : frzT (bkC n0 x1 ++ (bkC n2 x2 ++ (bkCs n6 w ++ (.cells 103 10 [.agg (tvCs n6 w)] :: (bkC n10 (mkC x1 (1)) ++ (bkC n12 (mkC x2 ((1 + (wtC x1 : Int)))) ++ (bkCs n16 (mkCs w' (1)) ++ (.cells 103 10 [.agg (tvCs n16 w')] :: (bkC n25 x1 ++ (bkC n30 x2))))))))) : List TB) 9 (.agg (tvCs n16 w')) = .agg (fzCs (mkCs w' (1))) := by
    have := frz_in (A := (bkC n0 x1 ++ (bkC n2 x2 ++ (bkCs n6 w ++ (.cells 103 10 [.agg (tvCs n6 w)] :: (bkC n10 (mkC x1 (1)) ++ (bkC n12 (mkC x2 ((1 + (wtC x1 : Int))))))))) : List TB)) (B := (.cells 103 10 [.agg (tvCs n16 w')] :: (bkC n25 x1 ++ (bkC n30 x2)) : List TB)) (w := (mkCs w' (1))) (n := n16) (by first | (simp only [List.length_append, List.length_cons, List.length_nil, bkC_len, bkCs_len, mkC_nb, mkCs_nb]; done) | (simp only [List.length_append, List.length_cons, List.length_nil, bkC_len, bkCs_len, mkC_nb, mkCs_nb]; omega)) (by first | assumption | (rw [mkCs_dp]; assumption))
    (try simp only [List.append_assoc, List.cons_append, List.nil_append, List.append_nil, mkC_tv, mkCs_tv] at this); (try simp only [List.append_assoc, List.cons_append, List.nil_append, List.append_nil, mkC_tv, mkCs_tv]); exact this
  have e46_ : ∀ t, (ansSp (hdR_S sh_BoxResult)).fn t [.agg (tvCs n16 w'), .p (.int .i64 1)] (bkC n0 x1 ++ (bkC n2 x2 ++ (bkCs n6 w ++ (.cells 103 10 [.agg (tvCs n6 w)] :: (bkC n10 (mkC x1 (1)) ++ (bkC n12 (mkC x2 ((1 + (wtC x1 : Int)))) ++ (bkCs n16 (mkCs w' (1)) ++ (.cells 103 10 [.agg (tvCs n16 w')] :: (bkC n25 x1 ++ (bkC n30 x2))))))))) : List TB) = some (.p (.int .i64 (1 + (wtCs w' : Int))), (bkC n0 x1 ++ (bkC n2 x2 ++ (bkCs n6 w ++ (.cells 103 10 [.agg (tvCs n6 w)] :: (bkC n10 (mkC x1 (1)) ++ (bkC n12 (mkC x2 ((1 + (wtC x1 : Int)))) ++ (bkCs n16 (mkCs w' (1)) ++ (.cells 103 10 [.agg (tvCs n16 w')] :: (bkC n25 x1 ++ (bkC n30 x2))))))))) : List TB)) := fun t => call_val (by simp only [List.map_cons, List.map_nil, frz_p, frz_s, frz_agg, frz_fzC, frz_fzCs, f45]; try rfl) (hdR_at (k := 1) fI (by omega) (by omega))
  obtain ⟨n47, hn47⟩ := isLen_ex (bkC n0 x1 ++ (bkC n2 x2 ++ (bkCs n6 w ++ (.cells 103 10 [.agg (tvCs n6 w)] :: (bkC n10 (mkC x1 (1)) ++ (bkC n12 (mkC x2 ((1 + (wtC x1 : Int)))) ++ (bkCs n16 (mkCs w' (1)) ++ (.cells 103 10 [.agg (tvCs n16 w')] :: (bkC n25 x1 ++ (bkC n30 x2))))))))) : List TB)
  have ln47 := hn47.eq
  simp only [List.length_append, List.length_cons, List.length_nil, bkC_len, bkCs_len, mkC_nb, mkCs_nb] at ln47
  have e48_ : ∀ t, (ansSp (toC_S sh_RuleS)).fn t [fzC x1] (bkC n0 x1 ++ (bkC n2 x2 ++ (bkCs n6 w ++ (.cells 103 10 [.agg (tvCs n6 w)] :: (bkC n10 (mkC x1 (1)) ++ (bkC n12 (mkC x2 ((1 + (wtC x1 : Int)))) ++ (bkCs n16 (mkCs w' (1)) ++ (.cells 103 10 [.agg (tvCs n16 w')] :: (bkC n25 x1 ++ (bkC n30 x2))))))))) : List TB) = some (tvC n47 x1, (bkC n0 x1 ++ (bkC n2 x2 ++ (bkCs n6 w ++ (.cells 103 10 [.agg (tvCs n6 w)] :: (bkC n10 (mkC x1 (1)) ++ (bkC n12 (mkC x2 ((1 + (wtC x1 : Int)))) ++ (bkCs n16 (mkCs w' (1)) ++ (.cells 103 10 [.agg (tvCs n16 w')] :: (bkC n25 x1 ++ (bkC n30 x2 ++ (bkC n47 x1)))))))))) : List TB)) := fun t => by
    rw [call_newC (by simp only [List.map_cons, List.map_nil, frz_p, frz_s, frz_agg, frz_fzC, frz_fzCs]; try rfl) (toC_at h1 y1) hn47.eq]; try simp only [List.append_assoc, List.cons_append, List.nil_append, List.append_nil]
  have Ln47 := bkC_len n47 x1
  obtain ⟨n49, hn49⟩ := isLen_ex (bkC n0 x1 ++ (bkC n2 x2 ++ (bkCs n6 w ++ (.cells 103 10 [.agg (tvCs n6 w)] :: (bkC n10 (mkC x1 (1)) ++ (bkC n12 (mkC x2 ((1 + (wtC x1 : Int)))) ++ (bkCs n16 (mkCs w' (1)) ++ (.cells 103 10 [.agg (tvCs n16 w')] :: (bkC n25 x1 ++ (bkC n30 x2 ++ (bkC n47 x1)))))))))) : List TB)
  have ln49 := hn49.eq
  simp only [List.length_append, List.length_cons, List.length_nil, bkC_len, bkCs_len, mkC_nb, mkCs_nb] at ln49
  have e50_ : ∀ t, (ansSp (toC_S sh_PeerS)).fn t [fzC x2] (bkC n0 x1 ++ (bkC n2 x2 ++ (bkCs n6 w ++ (.cells 103 10 [.agg (tvCs n6 w)] :: (bkC n10 (mkC x1 (1)) ++ (bkC n12 (mkC x2 ((1 + (wtC x1 : Int)))) ++ (bkCs n16 (mkCs w' (1)) ++ (.cells 103 10 [.agg (tvCs n16 w')] :: (bkC n25 x1 ++ (bkC n30 x2 ++ (bkC n47 x1)))))))))) : List TB) = some (tvC n49 x2, (bkC n0 x1 ++ (bkC n2 x2 ++ (bkCs n6 w ++ (.cells 103 10 [.agg (tvCs n6 w)] :: (bkC n10 (mkC x1 (1)) ++ (bkC n12 (mkC x2 ((1 + (wtC x1 : Int)))) ++ (bkCs n16 (mkCs w' (1)) ++ (.cells 103 10 [.agg (tvCs n16 w')] :: (bkC n25 x1 ++ (bkC n30 x2 ++ (bkC n47 x1 ++ (bkC n49 x2))))))))))) : List TB)) := fun t => by
    rw [call_newC (by simp only [List.map_cons, List.map_nil, frz_p, frz_s, frz_agg, frz_fzC, frz_fzCs]; try rfl) (toC_at h2 y2) hn49.eq]; try simp only [List.append_assoc, List.cons_append, List.nil_append, List.append_nil]
  have Ln49 := bkC_len n49 x2
  have f51 : frzT (bkC n0 x1 ++ (bkC n2 x2 ++ (bkCs n6 w ++ (.cells 103 10 [.agg (tvCs n6 w)] :: (bkC n10 (mkC x1 (1)) ++ (bkC n12 (mkC x2 ((1 + (wtC x1 : Int)))) ++ (bkCs n16 (mkCs w' (1)) ++ (.cells 103 10 [.agg (tvCs n16 w')] :: (bkC n25 x1 ++ (bkC n30 x2 ++ (bkC n47 x1 ++ (bkC n49 x2))))))))))) : List TB) 9 (tvC n47 x1) = fzC x1 := by
    have := frzC_in (A := (bkC n0 x1 ++ (bkC n2 x2 ++ (bkCs n6 w ++ (.cells 103 10 [.agg (tvCs n6 w)] :: (bkC n10 (mkC x1 (1)) ++ (bkC n12 (mkC x2 ((1 + (wtC x1 : Int)))) ++ (bkCs n16 (mkCs w' (1)) ++ (.cells 103 10 [.agg (tvCs n16 w')] :: (bkC n25 x1 ++ (bkC n30 x2))))))))) : List TB)) (B := (bkC n49 x2 : List TB)) (c := x1) (n := n47) (by first | (simp only [List.length_append, List.length_cons, List.length_nil, bkC_len, bkCs_len, mkC_nb, mkCs_nb]; done) | (simp only [List.length_append, List.length_cons, List.length_nil, bkC_len, bkCs_len, mkC_nb, mkCs_nb]; omega)) (by first | assumption | (rw [mkC_dp]; assumption))
    (try simp only [List.append_assoc, List.cons_append, List.nil_append, List.append_nil, mkC_tv, mkCs_tv] at this); (try simp only [List.append_assoc, List.cons_append, List.nil_append, List.append_nil, mkC_tv, mkCs_tv]); exact this
  have f52 : frzT (bkC n0 x1 ++ (bkC n2 x2 ++ (bkCs n6 w ++ (.cells 103 10 [.agg (tvCs n6 w)] :: (bkC n10 (mkC x1 (1)) ++ (bkC n12 (mkC x2 ((1 + (wtC x1 : Int)))) ++ (bkCs n16 (mkCs w' (1)) ++ (.cells 103 10 [.agg (tvCs n16 w')] :: (bkC n25 x1 ++ (bkC n30 x2 ++ (bkC n47 x1 ++ (bkC n49 x2))))))))))) : List TB) 9 (tvC n49 x2) = fzC x2 := by
    have := frzC_in (A := (bkC n0 x1 ++ (bkC n2 x2 ++ (bkCs n6 w ++ (.cells 103 10 [.agg (tvCs n6 w)] :: (bkC n10 (mkC x1 (1)) ++ (bkC n12 (mkC x2 ((1 + (wtC x1 : Int)))) ++ (bkCs n16 (mkCs w' (1)) ++ (.cells 103 10 [.agg (tvCs n16 w')] :: (bkC n25 x1 ++ (bkC n30 x2 ++ (bkC n47 x1)))))))))) : List TB)) (B := ([] : List TB)) (c := x2) (n := n49) (by first | (simp only [List.length_append, List.length_cons, List.length_nil, bkC_len, bkCs_len, mkC_nb, mkCs_nb]; done) | (simp only [List.length_append, List.length_cons, List.length_nil, bkC_len, bkCs_len, mkC_nb, mkCs_nb]; omega)) (by first | assumption | (rw [mkC_dp]; assumption))
    (try simp only [List.append_assoc, List.cons_append, List.nil_append, List.append_nil, mkC_tv, mkCs_tv] at this); (try simp only [List.append_assoc, List.cons_append, List.nil_append, List.append_nil, mkC_tv, mkCs_tv]); exact this
  obtain ⟨n53, hn53⟩ := isLen_ex (bkC n0 x1 ++ (bkC n2 x2 ++ (bkCs n6 w ++ (.cells 103 10 [.agg (tvCs n6 w)] :: (bkC n10 (mkC x1 (1)) ++ (bkC n12 (mkC x2 ((1 + (wtC x1 : Int)))) ++ (bkCs n16 (mkCs w' (1)) ++ (.cells 103 10 [.agg (tvCs n16 w')] :: (bkC n25 x1 ++ (bkC n30 x2 ++ (bkC n47 x1 ++ (bkC n49 x2))))))))))) : List TB)
  have ln53 := hn53.eq
  simp only [List.length_append, List.length_cons, List.length_nil, bkC_len, bkCs_len, mkC_nb, mkCs_nb] at ln53
  have e54_ : ∀ t, (ansSp Si).fn t [.p (.int .i64 x0), tvC n47 x1, tvC n49 x2] (bkC n0 x1 ++ (bkC n2 x2 ++ (bkCs n6 w ++ (.cells 103 10 [.agg (tvCs n6 w)] :: (bkC n10 (mkC x1 (1)) ++ (bkC n12 (mkC x2 ((1 + (wtC x1 : Int)))) ++ (bkCs n16 (mkCs w' (1)) ++ (.cells 103 10 [.agg (tvCs n16 w')] :: (bkC n25 x1 ++ (bkC n30 x2 ++ (bkC n47 x1 ++ (bkC n49 x2))))))))))) : List TB) = some (.agg (tvCs n53 w'), (bkC n0 x1 ++ (bkC n2 x2 ++ (bkCs n6 w ++ (.cells 103 10 [.agg (tvCs n6 w)] :: (bkC n10 (mkC x1 (1)) ++ (bkC n12 (mkC x2 ((1 + (wtC x1 : Int)))) ++ (bkCs n16 (mkCs w' (1)) ++ (.cells 103 10 [.agg (tvCs n16 w')] :: (bkC n25 x1 ++ (bkC n30 x2 ++ (bkC n47 x1 ++ (bkC n49 x2 ++ (bkCs n53 w')))))))))))) : List TB)) := fun t => by
    rw [call_new (by simp only [List.map_cons, List.map_nil, frz_p, frz_s, frz_agg, frz_fzC, frz_fzCs, f51, f52]; try rfl) (wI) hn53.eq]; try simp only [List.append_assoc, List.cons_append, List.nil_append, List.append_nil]
  have Ln53 := bkCs_len n53 w'
  obtain ⟨n55, hn55⟩ := isLen_ex (bkC n0 x1 ++ (bkC n2 x2 ++ (bkCs n6 w ++ (.cells 103 10 [.agg (tvCs n6 w)] :: (bkC n10 (mkC x1 (1)) ++ (bkC n12 (mkC x2 ((1 + (wtC x1 : Int)))) ++ (bkCs n16 (mkCs w' (1)) ++ (.cells 103 10 [.agg (tvCs n16 w')] :: (bkC n25 x1 ++ (bkC n30 x2 ++ (bkC n47 x1 ++ (bkC n49 x2 ++ (bkCs n53 w')))))))))))) : List TB)
  have ln55 := hn55.eq
  simp only [List.length_append, List.length_cons, List.length_nil, bkC_len, bkCs_len, mkC_nb, mkCs_nb] at ln55
  have g56_ := hold_get (A := (bkC n0 x1 ++ (bkC n2 x2 ++ (bkCs n6 w ++ (.cells 103 10 [.agg (tvCs n6 w)] :: (bkC n10 (mkC x1 (1)) ++ (bkC n12 (mkC x2 ((1 + (wtC x1 : Int)))) ++ (bkCs n16 (mkCs w' (1)) ++ (.cells 103 10 [.agg (tvCs n16 w')] :: (bkC n25 x1 ++ (bkC n30 x2 ++ (bkC n47 x1 ++ (bkC n49 x2 ++ (bkCs n53 w')))))))))))) : List TB)) (R := ([] : List TB)) (n := n55) (by first | (simp only [List.length_append, List.length_cons, List.length_nil, bkC_len, bkCs_len, mkC_nb, mkCs_nb]; done) | (simp only [List.length_append, List.length_cons, List.length_nil, bkC_len, bkCs_len, mkC_nb, mkCs_nb]; omega))
  try simp only [List.append_assoc, List.cons_append, List.nil_append, List.append_nil] at g56_
  have g56_s := hold_set (A := (bkC n0 x1 ++ (bkC n2 x2 ++ (bkCs n6 w ++ (.cells 103 10 [.agg (tvCs n6 w)] :: (bkC n10 (mkC x1 (1)) ++ (bkC n12 (mkC x2 ((1 + (wtC x1 : Int)))) ++ (bkCs n16 (mkCs w' (1)) ++ (.cells 103 10 [.agg (tvCs n16 w')] :: (bkC n25 x1 ++ (bkC n30 x2 ++ (bkC n47 x1 ++ (bkC n49 x2 ++ (bkCs n53 w')))))))))))) : List TB)) (R := ([] : List TB)) (n := n55) (by first | (simp only [List.length_append, List.length_cons, List.length_nil, bkC_len, bkCs_len, mkC_nb, mkCs_nb]; done) | (simp only [List.length_append, List.length_cons, List.length_nil, bkC_len, bkCs_len, mkC_nb, mkCs_nb]; omega))
  try simp only [List.append_assoc, List.cons_append, List.nil_append, List.append_nil] at g56_s
  have g57_ := hold_get (A := (bkC n0 x1 ++ (bkC n2 x2 ++ (bkCs n6 w ++ (.cells 103 10 [.agg (tvCs n6 w)] :: (bkC n10 (mkC x1 (1)) ++ (bkC n12 (mkC x2 ((1 + (wtC x1 : Int)))) ++ (bkCs n16 (mkCs w' (1)) ++ (.cells 103 10 [.agg (tvCs n16 w')] :: (bkC n25 x1 ++ (bkC n30 x2 ++ (bkC n47 x1 ++ (bkC n49 x2 ++ (bkCs n53 w')))))))))))) : List TB)) (R := ([] : List TB)) (n := n55) (by first | (simp only [List.length_append, List.length_cons, List.length_nil, bkC_len, bkCs_len, mkC_nb, mkCs_nb]; done) | (simp only [List.length_append, List.length_cons, List.length_nil, bkC_len, bkCs_len, mkC_nb, mkCs_nb]; omega))
  try simp only [List.append_assoc, List.cons_append, List.nil_append, List.append_nil] at g57_
  have g58_ := hold_get (A := (bkC n0 x1 ++ (bkC n2 x2 ++ (bkCs n6 w)) : List TB)) (R := (bkC n10 (mkC x1 (1)) ++ (bkC n12 (mkC x2 ((1 + (wtC x1 : Int)))) ++ (bkCs n16 (mkCs w' (1)) ++ (.cells 103 10 [.agg (tvCs n16 w')] :: (bkC n25 x1 ++ (bkC n30 x2 ++ (bkC n47 x1 ++ (bkC n49 x2 ++ (bkCs n53 w' ++ ([.cells 103 10 [.agg (tvCs n53 w')]]))))))))) : List TB)) (n := n8) (by first | (simp only [List.length_append, List.length_cons, List.length_nil, bkC_len, bkCs_len, mkC_nb, mkCs_nb]; done) | (simp only [List.length_append, List.length_cons, List.length_nil, bkC_len, bkCs_len, mkC_nb, mkCs_nb]; omega))
  try simp only [List.append_assoc, List.cons_append, List.nil_append, List.append_nil] at g58_
  have f59 : frzT (bkC n0 x1 ++ (bkC n2 x2 ++ (bkCs n6 w ++ (.cells 103 10 [.agg (tvCs n6 w)] :: (bkC n10 (mkC x1 (1)) ++ (bkC n12 (mkC x2 ((1 + (wtC x1 : Int)))) ++ (bkCs n16 (mkCs w' (1)) ++ (.cells 103 10 [.agg (tvCs n16 w')] :: (bkC n25 x1 ++ (bkC n30 x2 ++ (bkC n47 x1 ++ (bkC n49 x2 ++ (bkCs n53 w' ++ ([.cells 103 10 [.agg (tvCs n53 w')]]))))))))))))) : List TB) 9 (.agg (tvCs n53 w')) = .agg (fzCs w') := by
    have := frz_in (A := (bkC n0 x1 ++ (bkC n2 x2 ++ (bkCs n6 w ++ (.cells 103 10 [.agg (tvCs n6 w)] :: (bkC n10 (mkC x1 (1)) ++ (bkC n12 (mkC x2 ((1 + (wtC x1 : Int)))) ++ (bkCs n16 (mkCs w' (1)) ++ (.cells 103 10 [.agg (tvCs n16 w')] :: (bkC n25 x1 ++ (bkC n30 x2 ++ (bkC n47 x1 ++ (bkC n49 x2))))))))))) : List TB)) (B := ([.cells 103 10 [.agg (tvCs n53 w')]] : List TB)) (w := w') (n := n53) (by first | (simp only [List.length_append, List.length_cons, List.length_nil, bkC_len, bkCs_len, mkC_nb, mkCs_nb]; done) | (simp only [List.length_append, List.length_cons, List.length_nil, bkC_len, bkCs_len, mkC_nb, mkCs_nb]; omega)) (by first | assumption | (rw [mkCs_dp]; assumption))
    (try simp only [List.append_assoc, List.cons_append, List.nil_append, List.append_nil, mkC_tv, mkCs_tv] at this); (try simp only [List.append_assoc, List.cons_append, List.nil_append, List.append_nil, mkC_tv, mkCs_tv]); exact this
  have f60 : frzT (bkC n0 x1 ++ (bkC n2 x2 ++ (bkCs n6 w ++ (.cells 103 10 [.agg (tvCs n6 w)] :: (bkC n10 (mkC x1 (1)) ++ (bkC n12 (mkC x2 ((1 + (wtC x1 : Int)))) ++ (bkCs n16 (mkCs w' (1)) ++ (.cells 103 10 [.agg (tvCs n16 w')] :: (bkC n25 x1 ++ (bkC n30 x2 ++ (bkC n47 x1 ++ (bkC n49 x2 ++ (bkCs n53 w' ++ ([.cells 103 10 [.agg (tvCs n53 w')]]))))))))))))) : List TB) 9 (.agg (tvCs n6 w)) = .agg (fzCs w) := by
    have := frz_in (A := (bkC n0 x1 ++ (bkC n2 x2) : List TB)) (B := (.cells 103 10 [.agg (tvCs n6 w)] :: (bkC n10 (mkC x1 (1)) ++ (bkC n12 (mkC x2 ((1 + (wtC x1 : Int)))) ++ (bkCs n16 (mkCs w' (1)) ++ (.cells 103 10 [.agg (tvCs n16 w')] :: (bkC n25 x1 ++ (bkC n30 x2 ++ (bkC n47 x1 ++ (bkC n49 x2 ++ (bkCs n53 w' ++ ([.cells 103 10 [.agg (tvCs n53 w')]])))))))))) : List TB)) (w := w) (n := n6) (by first | (simp only [List.length_append, List.length_cons, List.length_nil, bkC_len, bkCs_len, mkC_nb, mkCs_nb]; done) | (simp only [List.length_append, List.length_cons, List.length_nil, bkC_len, bkCs_len, mkC_nb, mkCs_nb]; omega)) (by first | assumption | (rw [mkCs_dp]; assumption))
    (try simp only [List.append_assoc, List.cons_append, List.nil_append, List.append_nil, mkC_tv, mkCs_tv] at this); (try simp only [List.append_assoc, List.cons_append, List.nil_append, List.append_nil, mkC_tv, mkCs_tv]); exact this
  have e61_ : ∀ t, (ansSp (eqR_S sh_BoxResult)).fn t [.agg (tvCs n53 w'), .agg (tvCs n6 w)] (bkC n0 x1 ++ (bkC n2 x2 ++ (bkCs n6 w ++ (.cells 103 10 [.agg (tvCs n6 w)] :: (bkC n10 (mkC x1 (1)) ++ (bkC n12 (mkC x2 ((1 + (wtC x1 : Int)))) ++ (bkCs n16 (mkCs w' (1)) ++ (.cells 103 10 [.agg (tvCs n16 w')] :: (bkC n25 x1 ++ (bkC n30 x2 ++ (bkC n47 x1 ++ (bkC n49 x2 ++ (bkCs n53 w' ++ ([.cells 103 10 [.agg (tvCs n53 w')]]))))))))))))) : List TB) = some (.p (.bool true), (bkC n0 x1 ++ (bkC n2 x2 ++ (bkCs n6 w ++ (.cells 103 10 [.agg (tvCs n6 w)] :: (bkC n10 (mkC x1 (1)) ++ (bkC n12 (mkC x2 ((1 + (wtC x1 : Int)))) ++ (bkCs n16 (mkCs w' (1)) ++ (.cells 103 10 [.agg (tvCs n16 w')] :: (bkC n25 x1 ++ (bkC n30 x2 ++ (bkC n47 x1 ++ (bkC n49 x2 ++ (bkCs n53 w' ++ ([.cells 103 10 [.agg (tvCs n53 w')]]))))))))))))) : List TB)) := fun t => call_val (by simp only [List.map_cons, List.map_nil, frz_p, frz_s, frz_agg, frz_fzC, frz_fzCs, wE, f59, f60]; try rfl) (eqR_at fI (Nat.le_trans sI (by decide)))
  have g62_ := hold_get (A := (bkC n0 x1 ++ (bkC n2 x2 ++ (bkCs n6 w ++ (.cells 103 10 [.agg (tvCs n6 w)] :: (bkC n10 (mkC x1 (1)) ++ (bkC n12 (mkC x2 ((1 + (wtC x1 : Int)))) ++ (bkCs n16 (mkCs w' (1)))))))) : List TB)) (R := (bkC n25 x1 ++ (bkC n30 x2 ++ (bkC n47 x1 ++ (bkC n49 x2 ++ (bkCs n53 w' ++ ([.cells 103 10 [.agg (tvCs n53 w')]]))))) : List TB)) (n := n18) (by first | (simp only [List.length_append, List.length_cons, List.length_nil, bkC_len, bkCs_len, mkC_nb, mkCs_nb]; done) | (simp only [List.length_append, List.length_cons, List.length_nil, bkC_len, bkCs_len, mkC_nb, mkCs_nb]; omega))
  try simp only [List.append_assoc, List.cons_append, List.nil_append, List.append_nil] at g62_
  have f63 : frzT (bkC n0 x1 ++ (bkC n2 x2 ++ (bkCs n6 w ++ (.cells 103 10 [.agg (tvCs n6 w)] :: (bkC n10 (mkC x1 (1)) ++ (bkC n12 (mkC x2 ((1 + (wtC x1 : Int)))) ++ (bkCs n16 (mkCs w' (1)) ++ (.cells 103 10 [.agg (tvCs n16 w')] :: (bkC n25 x1 ++ (bkC n30 x2 ++ (bkC n47 x1 ++ (bkC n49 x2 ++ (bkCs n53 w' ++ ([.cells 103 10 [.agg (tvCs n53 w')]]))))))))))))) : List TB) 9 (.agg (tvCs n16 w')) = .agg (fzCs (mkCs w' (1))) := by
    have := frz_in (A := (bkC n0 x1 ++ (bkC n2 x2 ++ (bkCs n6 w ++ (.cells 103 10 [.agg (tvCs n6 w)] :: (bkC n10 (mkC x1 (1)) ++ (bkC n12 (mkC x2 ((1 + (wtC x1 : Int))))))))) : List TB)) (B := (.cells 103 10 [.agg (tvCs n16 w')] :: (bkC n25 x1 ++ (bkC n30 x2 ++ (bkC n47 x1 ++ (bkC n49 x2 ++ (bkCs n53 w' ++ ([.cells 103 10 [.agg (tvCs n53 w')]])))))) : List TB)) (w := (mkCs w' (1))) (n := n16) (by first | (simp only [List.length_append, List.length_cons, List.length_nil, bkC_len, bkCs_len, mkC_nb, mkCs_nb]; done) | (simp only [List.length_append, List.length_cons, List.length_nil, bkC_len, bkCs_len, mkC_nb, mkCs_nb]; omega)) (by first | assumption | (rw [mkCs_dp]; assumption))
    (try simp only [List.append_assoc, List.cons_append, List.nil_append, List.append_nil, mkC_tv, mkCs_tv] at this); (try simp only [List.append_assoc, List.cons_append, List.nil_append, List.append_nil, mkC_tv, mkCs_tv]); exact this
  have e64_ : ∀ t, (ansSp (hdR_S sh_BoxResult)).fn t [.agg (tvCs n16 w'), .p (.int .i64 1)] (bkC n0 x1 ++ (bkC n2 x2 ++ (bkCs n6 w ++ (.cells 103 10 [.agg (tvCs n6 w)] :: (bkC n10 (mkC x1 (1)) ++ (bkC n12 (mkC x2 ((1 + (wtC x1 : Int)))) ++ (bkCs n16 (mkCs w' (1)) ++ (.cells 103 10 [.agg (tvCs n16 w')] :: (bkC n25 x1 ++ (bkC n30 x2 ++ (bkC n47 x1 ++ (bkC n49 x2 ++ (bkCs n53 w' ++ ([.cells 103 10 [.agg (tvCs n53 w')]]))))))))))))) : List TB) = some (.p (.int .i64 (1 + (wtCs w' : Int))), (bkC n0 x1 ++ (bkC n2 x2 ++ (bkCs n6 w ++ (.cells 103 10 [.agg (tvCs n6 w)] :: (bkC n10 (mkC x1 (1)) ++ (bkC n12 (mkC x2 ((1 + (wtC x1 : Int)))) ++ (bkCs n16 (mkCs w' (1)) ++ (.cells 103 10 [.agg (tvCs n16 w')] :: (bkC n25 x1 ++ (bkC n30 x2 ++ (bkC n47 x1 ++ (bkC n49 x2 ++ (bkCs n53 w' ++ ([.cells 103 10 [.agg (tvCs n53 w')]]))))))))))))) : List TB)) := fun t => call_val (by simp only [List.map_cons, List.map_nil, frz_p, frz_s, frz_agg, frz_fzC, frz_fzCs, f63]; try rfl) (hdR_at (k := 1) fI (by omega) (by omega))
  simp (maxSteps := 8000000) (implicitDefEqProofs := false) (disch := omega) only [↓reduceIte, go_sem, if_pos, if_neg, lenS, lenI, fzCs_len, fzCs_one, tvCs_len, tvCs_one, eq_false (show ¬ (1 + (wtCs w' : Int) < 0) by omega), g44_, e46_, eq_false (show ¬ (1 + (wtCs w' : Int) < 0) by omega), ↓hn47.eq, e48_, ↓hn49.eq, e50_, ↓hn53.eq, e54_, ↓hn55.eq, g56_, g56_s, g57_, g58_, e61_, g62_, e64_, eq_false (show ¬ (1 + (wtCs w' : Int) < 0) by omega), not_true, decide_false, not_false_eq_true]
  exact endT_p (.inr rfl) (by (simp (maxSteps := 8000000) (implicitDefEqProofs := false) (disch := omega) only [↓reduceIte, go_sem, if_pos, if_neg]) <;> rfl) rfl
end Go.Proofs.Ytkijbknnbmbnbaa
