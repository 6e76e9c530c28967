import Derived.Test.YtghpdclhhnbgjaaU11
set_option linter.unusedSimpArgs false
set_option linter.unusedVariables false
set_option maxRecDepth 100000
set_option maxHeartbeats 4000000
namespace Go.Proofs.Ytghpdclhhnbgjaa
open Go Go.AH
attribute [local irreducible] awpT ropsT qopsT stepT condKT gdKT EndT joinK loopKT seqKT blkKT kont kontR
/-! FnExactAddSa -/
-- laws.FnExactAddSa
def c7 : AF := ⟨92,
 (.seq (.reg [rO 3 (.box 79 (.t 1)),
 rO 4 (.mv (.v (.bool false)))])
 (.seq (.reg [rO 5 (.mv (.v (.int .i64 1048576)))])
 (.seq (.reg [rO 14 (.mv (.t 0)),
 rO 15 (.mv (.t 5)),
 rO 16 (.call 37 [(.t 14), (.t 15)]),
 rO 5 (.mv (.t 16))])
 (.seq (.seq (.reg [rO 17 (.mv (.t 5)),
 rO 18 (.bin .lss (.t 17) (.v (.int .i64 0)))])
 (.cond (.t 18) (.seq (.reg [rO 4 (.mv (.v (.bool true)))])
 .ret)
 .skip))
 (.seq (.reg [rO 19 (.ldn 11 (.t 3)),
 rO 20 (.mv (.t 5)),
 rO 21 (.call 38 [(.t 19), (.t 20)]),
 rO 5 (.mv (.t 21))])
 (.seq (.seq (.reg [rO 22 (.mv (.t 5)),
 rO 23 (.bin .lss (.t 22) (.v (.int .i64 0)))])
 (.cond (.t 23) (.seq (.reg [rO 4 (.mv (.v (.bool true)))])
 .ret)
 .skip))
 (.seq (.drw [rO 24 (.mv (.t 0)),
 rO 25 (.call 39 [(.t 24)]),
 rO 26 (.ldn 11 (.t 3)),
 rO 27 (.call 40 [(.t 26)]),
 rO 28 (.call 34 [(.t 25), (.t 27)]),
 rO 6 (.alloc 35 [(.int .i64 0), (.slice none 0 0)])] [⟨none, none, .st 2 (.t 6) (.t 28)⟩])
 (.seq (.reg [rO 29 (.mv (.t 0)),
 rO 30 (.call 39 [(.t 29)]),
 rO 7 (.mv (.t 30))])
 (.seq (.reg [rO 31 (.ldn 11 (.t 3)),
 rO 32 (.call 40 [(.t 31)]),
 rO 8 (.alloc 45 [(.int .i64 0), (.int .i64 0), (.int .i64 0), (.bool false), (.int .i64 0), (.int .i64 0), (.int .i64 0), (.int .i64 0), (.int .i64 0), (.int .i64 0), (.slice none 0 0)]),
 ⟨none, none, .st 11 (.t 8) (.t 32)⟩])
 (.seq (.reg [rO 33 (.mv (.t 7)),
 rO 34 (.ldn 11 (.t 8)),
 rO 35 (.call 33 [(.t 33), (.t 34)]),
 rO 9 (.alloc 35 [(.int .i64 0), (.slice none 0 0)]),
 ⟨none, none, .st 2 (.t 9) (.t 35)⟩])
 (.seq (.seq (.reg [rO 36 (.ldn 2 (.t 9)),
 rO 37 (.ldn 2 (.t 6)),
 rO 38 (.call 41 [(.t 36), (.t 37)]),
 rO 39 (.un .not (.t 38))])
 (.cond (.t 39) (.seq (.reg [rO 4 (.mv (.v (.bool false)))])
 .ret)
 .skip))
 (.seq (.seq (.reg [rO 40 (.mv (.t 7)),
 rO 41 (.mv (.t 0)),
 rO 42 (.call 39 [(.t 41)]),
 rO 43 (.call 42 [(.t 40), (.t 42)]),
 rO 44 (.un .not (.t 43))])
 (.cond (.t 44) (.seq (.reg [rO 4 (.mv (.v (.bool false)))])
 .ret)
 .skip))
 (.seq (.seq (.drw [rO 45 (.ldn 11 (.t 8)),
 rO 46 (.ldn 11 (.t 3)),
 rO 47 (.call 40 [(.t 46)])] [rO 48 (.call 43 [(.t 45), (.t 47)]),
 rO 49 (.un .not (.t 48))])
 (.cond (.t 49) (.seq (.reg [rO 4 (.mv (.v (.bool false)))])
 .ret)
 .skip))
 (.seq (.reg [rO 10 (.mv (.v (.int .i64 1)))])
 (.seq (.reg [rO 50 (.mv (.t 7)),
 rO 51 (.mv (.t 10)),
 rO 52 (.call 44 [(.t 50), (.t 51)]),
 rO 10 (.mv (.t 52))])
 (.seq (.reg [rO 53 (.ldn 11 (.t 8)),
 rO 54 (.mv (.t 10)),
 rO 55 (.call 45 [(.t 53), (.t 54)]),
 rO 10 (.mv (.t 55))])
 (.seq (.seq (.reg [rO 56 (.mv (.t 10)),
 rO 57 (.bin .lss (.t 56) (.v (.int .i64 0))),
 rO 58 (.mv (.t 57)),
 ⟨(some 59), (some (58, false)), .ldn 2 (.t 9)⟩,
 ⟨(some 60), (some (58, false)), .ldn 2 (.t 6)⟩,
 ⟨(some 61), (some (58, false)), .call 41 [(.t 59), (.t 60)]⟩,
 ⟨(some 62), (some (58, false)), .un .not (.t 61)⟩,
 rO 63 (.pick (.t 58) (.v (.bool true)) (.t 62))])
 (.cond (.t 63) (.seq (.reg [rO 4 (.mv (.v (.bool false)))])
 .ret)
 .skip))
 (.seq (.reg [rO 11 (.mv (.v (.int .i64 1)))])
 (.seq (.reg [rO 64 (.ldn 2 (.t 9)),
 rO 65 (.mv (.t 11)),
 rO 66 (.call 46 [(.t 64), (.t 65)]),
 rO 11 (.mv (.t 66))])
 (.seq (.reg [rO 12 (.mv (.v (.int .i64 1)))])
 (.seq (.reg [rO 67 (.ldn 2 (.t 9)),
 rO 68 (.mv (.t 12)),
 rO 69 (.call 47 [(.t 67), (.t 68)]),
 rO 12 (.mv (.t 69))])
 (.seq (.seq (.reg [rO 70 (.mv (.t 12)),
 rO 71 (.bin .lss (.t 70) (.v (.int .i64 0)))])
 (.cond (.t 71) (.seq (.reg [rO 4 (.mv (.v (.bool false)))])
 .ret)
 .skip))
 (.seq (.seq (.reg [rO 72 (.mv (.t 12)),
 rO 73 (.mv (.t 11)),
 rO 74 (.bin .neq (.t 72) (.t 73))])
 (.cond (.t 74) (.seq (.reg [rO 4 (.mv (.v (.bool false)))])
 .ret)
 .skip))
 (.seq (.drw [rO 75 (.mv (.t 0)),
 rO 76 (.call 39 [(.t 75)]),
 rO 77 (.ldn 11 (.t 3)),
 rO 78 (.call 40 [(.t 77)]),
 rO 79 (.call 33 [(.t 76), (.t 78)]),
 rO 13 (.alloc 35 [(.int .i64 0), (.slice none 0 0)])] [⟨none, none, .st 2 (.t 13) (.t 79)⟩])
 (.seq (.seq (.reg [rO 80 (.ldn 2 (.t 13)),
 rO 81 (.ldn 2 (.t 6)),
 rO 82 (.call 41 [(.t 80), (.t 81)]),
 rO 83 (.un .not (.t 82))])
 (.cond (.t 83) (.seq (.reg [rO 4 (.mv (.v (.bool false)))])
 .ret)
 .skip))
 (.seq (.reg [rO 12 (.mv (.v (.int .i64 1)))])
 (.seq (.reg [rO 84 (.ldn 2 (.t 9)),
 rO 85 (.mv (.t 12)),
 rO 86 (.call 47 [(.t 84), (.t 85)]),
 rO 12 (.mv (.t 86))])
 (.seq (.seq (.reg [rO 87 (.mv (.t 12)),
 rO 88 (.bin .lss (.t 87) (.v (.int .i64 0)))])
 (.cond (.t 88) (.seq (.reg [rO 4 (.mv (.v (.bool false)))])
 .ret)
 .skip))
 (.seq (.seq (.reg [rO 89 (.mv (.t 12)),
 rO 90 (.mv (.t 11)),
 rO 91 (.bin .neq (.t 89) (.t 90))])
 (.cond (.t 91) (.seq (.reg [rO 4 (.mv (.v (.bool false)))])
 .ret)
 .skip))
 (.seq (.reg [rO 4 (.mv (.v (.bool true)))])
 .ret)))))))))))))))))))))))))))))),
 [.t 4]⟩
theorem k7 : cFn Try.prog Try.f7 = some c7 := by kernel_rfl
theorem law_AddSa {Ss Si : List TV → Option (TV × THeap)} (okS : OkT Try.prog 34 (pureSp Ss)) (okI : OkT Try.prog 33 (pureSp Si)) (H : ∀ (x0 : Cell) (x1 : List Cell), HasC sh_SaS x0 → HasR sh_Sa x1 → szC x0 ≤ 1048576 → szCs x1 ≤ 1048576 → ∃ w w', Ss [fzC x0, .agg (fzCs x1)] = some (.agg (tvCs 0 w), bkCs 0 w) ∧ Si [fzC x0, .agg (fzCs x1)] = some (.agg (tvCs 0 w'), bkCs 0 w') ∧ fzCs w = fzCs w' ∧ FitR sh_SasResult w ∧ FitR sh_SasResult w' ∧ szCs w ≤ 1073741824 ∧ szCs w' ≤ 1073741824) : OkT Try.prog 7 (pureSp (tvSp (fun a => ∃ (x0 : Cell) (x1 : List Cell), a = [fzC x0, .agg (fzCs x1)] ∧ HasC sh_SaS x0 ∧ HasR sh_Sa x1 ∧ lnC x0 = true ∧ lnCs x1 = true) (fun _ => (.p (.bool true), [])))) := by
  refine okT_tv (OkΓT.cons szSaS_ok (OkΓT.cons szSa_ok (OkΓT.cons (tsp := ansSp (toC_S sh_SaS)) toSaS_ok (OkΓT.cons (tsp := ansSp (toR_S sh_Sa)) toSa_ok (OkΓT.cons (tsp := ansSp Ss) okS (OkΓT.cons (tsp := ansSp Si) okI (OkΓT.cons (tsp := ansSp (eqR_S sh_SasResult)) eqSasResult_ok (OkΓT.cons (tsp := ansSp (eqC_S sh_SaS)) eqSaS_ok (OkΓT.cons (tsp := ansSp (eqR_S sh_Sa)) eqSa_ok (OkΓT.cons markSaS_ok (OkΓT.cons markSa_ok (OkΓT.cons markSasResult_ok (OkΓT.cons (tsp := ansSp (hdR_S sh_SasResult)) heldSasResult_ok (OkΓT.nil _)))))))))))))) Try.func7 (by kernel_rfl) k7 (fun x hx => ⟨rfl, rfl⟩) ?_
  rintro _ ⟨x0, x1, rfl, h0, h1, z0, z1⟩
  have len1 : x1.length = 11 := HasR.len h1
  have e0 := szC_at (k := 1048576) h0 (by omega) z0
  by_cases q0 : (szC x0 : Int) ≤ 1048576
  case neg =>
    rw [if_neg q0] at e0
    (dsimp only [c7, rO]; simp (maxSteps := 8000000) -implicitDefEqProofs (disch := omega) only [↓reduceIte, go_sem, len1, fzCs_len, fzCs_one, e0])
    repeat' first
      | ((first | refine gdKT_deq (fun hg hG => ?_) (fun hg hG => ?_) | refine condKT_deq (fun hg hG => ?_) (fun hg hG => ?_)) <;> (try simp (maxSteps := 8000000) -implicitDefEqProofs (disch := omega) only [↓reduceIte, go_sem, hG, len1, fzCs_len, fzCs_one, e0]) <;> clear hG)
      | ((first | refine gdKT_split (fun hg => ?_) (fun hg => ?_) | refine condKT_split (fun hg => ?_) (fun hg => ?_)) <;> (try simp (maxSteps := 8000000) -implicitDefEqProofs (disch := omega) only [↓reduceIte, go_sem, hg, len1, fzCs_len, fzCs_one, e0]))
      | (refine endT_p (.inr rfl) (by simp (maxSteps := 8000000) -implicitDefEqProofs (disch := omega) only [↓reduceIte, go_sem, len1, fzCs_len, fzCs_one, e0]; rfl) ?_; (first | exact vb_true (by omega) | exact vb_false (by omega) | exact vb_dec (by omega) | exact vi_eq (by omega) | rfl | (refine vi_eq ?_; simp_all; first | done | (intros; omega))))
      | exact endT_v (.inr rfl) (by simp (maxSteps := 8000000) -implicitDefEqProofs (disch := omega) only [↓reduceIte, go_sem, len1, fzCs_len, fzCs_one, e0]; try rfl) (fun _ => rfl)
  rw [if_pos q0] at e0
  have y0 : szC x0 ≤ 1048576 := by omega
  have e1 := szR_at (k := 1048576 - (szC x0 : Int)) h1 (by omega) z1
  by_cases q1 : (szCs x1 : Int) ≤ 1048576 - (szC x0 : Int)
  case neg =>
    rw [if_neg q1] at e1
    (dsimp only [c7, rO]; simp (maxSteps := 8000000) -implicitDefEqProofs (disch := omega) only [↓reduceIte, go_sem, len1, fzCs_len, fzCs_one, e0, e1])
    repeat' first
      | ((first | refine gdKT_deq (fun hg hG => ?_) (fun hg hG => ?_) | refine condKT_deq (fun hg hG => ?_) (fun hg hG => ?_)) <;> (try simp (maxSteps := 8000000) -implicitDefEqProofs (disch := omega) only [↓reduceIte, go_sem, hG, len1, fzCs_len, fzCs_one, e0, e1]) <;> clear hG)
      | ((first | refine gdKT_split (fun hg => ?_) (fun hg => ?_) | refine condKT_split (fun hg => ?_) (fun hg => ?_)) <;> (try simp (maxSteps := 8000000) -implicitDefEqProofs (disch := omega) only [↓reduceIte, go_sem, hg, len1, fzCs_len, fzCs_one, e0, e1]))
      | (refine endT_p (.inr rfl) (by simp (maxSteps := 8000000) -implicitDefEqProofs (disch := omega) only [↓reduceIte, go_sem, len1, fzCs_len, fzCs_one, e0, e1]; rfl) ?_; (first | exact vb_true (by omega) | exact vb_false (by omega) | exact vb_dec (by omega) | exact vi_eq (by omega) | rfl | (refine vi_eq ?_; simp_all; first | done | (intros; omega))))
      | exact endT_v (.inr rfl) (by simp (maxSteps := 8000000) -implicitDefEqProofs (disch := omega) only [↓reduceIte, go_sem, len1, fzCs_len, fzCs_one, e0, e1]; try rfl) (fun _ => rfl)
  rw [if_pos q1] at e1
  have y1 : szCs x1 ≤ 1048576 := by omega
  obtain ⟨w, w', wS, wI, wE, fS, fI, sS, sI⟩ := H x0 x1 h0 h1 y0 y1
  have lenS : w.length = 2 := FitR.len fS
  have lenI : w'.length = 2 := FitR.len fI
  have dS : dpCs w ≤ 9 := Nat.le_trans (FitR.dp _ _ fS) (of_decide_eq_true (by rfl))
  have dI : dpCs w' ≤ 9 := Nat.le_trans (FitR.dp _ _ fI) (of_decide_eq_true (by rfl))
  have mI : wtCs w' ≤ 64 * 1073741824 := FitR.w fI (of_decide_eq_true (by rfl)) sI
  have d0 : dpC x0 ≤ 9 := Nat.le_trans (FitC.dp _ _ (HasC.fit _ _ h0)) (of_decide_eq_true (by rfl))
  have m0 : wtC x0 ≤ 64 * 1048576 := FitC.w (HasC.fit _ _ h0) (of_decide_eq_true (by rfl)) y0
  have d1 : dpCs x1 ≤ 9 := Nat.le_trans (FitR.dp _ _ (HasR.fit _ _ h1)) (of_decide_eq_true (by rfl))
  have m1 : wtCs x1 ≤ 64 * 1048576 := FitR.w (HasR.fit _ _ h1) (of_decide_eq_true (by rfl)) y1
  obtain ⟨n0, hn0⟩ := isLen_ex ([] : List TB)
  have ln0 := hn0.eq
  simp only [List.length_append, List.length_cons, List.length_nil, bkC_len, bkCs_len, mkC_nb, mkCs_nb] at ln0
  have g1_ := hold_get (A := ([] : List TB)) (R := ([] : List TB)) (n := n0) (by first | (simp only [List.length_append, List.length_cons, List.length_nil, bkC_len, bkCs_len, mkC_nb, mkCs_nb]; done) | (simp only [List.length_append, List.length_cons, List.length_nil, bkC_len, bkCs_len, mkC_nb, mkCs_nb]; omega))
  try simp only [List.append_assoc, List.cons_append, List.nil_append, List.append_nil] at g1_
  obtain ⟨n2, hn2⟩ := isLen_ex ([.cells 79 11 [.agg (fzCs x1)]] : List TB)
  have ln2 := hn2.eq
  simp only [List.length_append, List.length_cons, List.length_nil, bkC_len, bkCs_len, mkC_nb, mkCs_nb] at ln2
  have e3_ : ∀ t, (ansSp (toC_S sh_SaS)).fn t [fzC x0] ([.cells 79 11 [.agg (fzCs x1)]] : List TB) = some (tvC n2 x0, (.cells 79 11 [.agg (fzCs x1)] :: (bkC n2 x0) : List TB)) := fun t => by
    rw [call_newC (by simp only [List.map_cons, List.map_nil, frz_p, frz_s, frz_agg, frz_fzC, frz_fzCs]; try rfl) (toC_at h0 y0) hn2.eq]; try simp only [List.append_assoc, List.cons_append, List.nil_append, List.append_nil]
  have Ln2 := bkC_len n2 x0
  have g4_ := hold_get (A := ([] : List TB)) (R := (bkC n2 x0 : List TB)) (n := n0) (by first | (simp only [List.length_append, List.length_cons, List.length_nil, bkC_len, bkCs_len, mkC_nb, mkCs_nb]; done) | (simp only [List.length_append, List.length_cons, List.length_nil, bkC_len, bkCs_len, mkC_nb, mkCs_nb]; omega))
  try simp only [List.append_assoc, List.cons_append, List.nil_append, List.append_nil] at g4_
  obtain ⟨n5, hn5⟩ := isLen_ex (.cells 79 11 [.agg (fzCs x1)] :: (bkC n2 x0) : List TB)
  have ln5 := hn5.eq
  simp only [List.length_append, List.length_cons, List.length_nil, bkC_len, bkCs_len, mkC_nb, mkCs_nb] at ln5
  have e6_ : ∀ t, (ansSp (toR_S sh_Sa)).fn t [.agg (fzCs x1)] (.cells 79 11 [.agg (fzCs x1)] :: (bkC n2 x0) : List TB) = some (.agg (tvCs n5 x1), (.cells 79 11 [.agg (fzCs x1)] :: (bkC n2 x0 ++ (bkCs n5 x1)) : List TB)) := fun t => by
    rw [call_new (by simp only [List.map_cons, List.map_nil, frz_p, frz_s, frz_agg, frz_fzC, frz_fzCs]; try rfl) (toR_at h1 y1) hn5.eq]; try simp only [List.append_assoc, List.cons_append, List.nil_append, List.append_nil]
  have Ln5 := bkCs_len n5 x1
  have f7 : frzT (.cells 79 11 [.agg (fzCs x1)] :: (bkC n2 x0 ++ (bkCs n5 x1)) : List TB) 9 (tvC n2 x0) = fzC x0 := by
    have := frzC_in (A := ([.cells 79 11 [.agg (fzCs x1)]] : List TB)) (B := (bkCs n5 x1 : List TB)) (c := x0) (n := n2) (by first | (simp only [List.length_append, List.length_cons, List.length_nil, bkC_len, bkCs_len, mkC_nb, mkCs_nb]; done) | (simp only [List.length_append, List.length_cons, List.length_nil, bkC_len, bkCs_len, mkC_nb, mkCs_nb]; omega)) (by first | assumption | (rw [mkC_dp]; assumption))
    (try simp only [List.append_assoc, List.cons_append, List.nil_append, List.append_nil, mkC_tv, mkCs_tv] at this); (try simp only [List.append_assoc, List.cons_append, List.nil_append, List.append_nil, mkC_tv, mkCs_tv]); exact this
  have f8 : frzT (.cells 79 11 [.agg (fzCs x1)] :: (bkC n2 x0 ++ (bkCs n5 x1)) : List TB) 9 (.agg (tvCs n5 x1)) = .agg (fzCs x1) := by
    have := frz_in (A := (.cells 79 11 [.agg (fzCs x1)] :: (bkC n2 x0) : List TB)) (B := ([] : List TB)) (w := x1) (n := n5) (by first | (simp only [List.length_append, List.length_cons, List.length_nil, bkC_len, bkCs_len, mkC_nb, mkCs_nb]; done) | (simp only [List.length_append, List.length_cons, List.length_nil, bkC_len, bkCs_len, mkC_nb, mkCs_nb]; omega)) (by first | assumption | (rw [mkCs_dp]; assumption))
    (try simp only [List.append_assoc, List.cons_append, List.nil_append, List.append_nil, mkC_tv, mkCs_tv] at this); (try simp only [List.append_assoc, List.cons_append, List.nil_append, List.append_nil, mkC_tv, mkCs_tv]); exact this
  obtain ⟨n9, hn9⟩ := isLen_ex (.cells 79 11 [.agg (fzCs x1)] :: (bkC n2 x0 ++ (bkCs n5 x1)) : List TB)
  have ln9 := hn9.eq
  simp only [List.length_append, List.length_cons, List.length_nil, bkC_len, bkCs_len, mkC_nb, mkCs_nb] at ln9
  have e10_ : ∀ t, (ansSp Ss).fn t [tvC n2 x0, .agg (tvCs n5 x1)] (.cells 79 11 [.agg (fzCs x1)] :: (bkC n2 x0 ++ (bkCs n5 x1)) : List TB) = some (.agg (tvCs n9 w), (.cells 79 11 [.agg (fzCs x1)] :: (bkC n2 x0 ++ (bkCs n5 x1 ++ (bkCs n9 w))) : List TB)) := fun t => by
    rw [call_new (by simp only [List.map_cons, List.map_nil, frz_p, frz_s, frz_agg, frz_fzC, frz_fzCs, f7, f8]; try rfl) (wS) hn9.eq]; try simp only [List.append_assoc, List.cons_append, List.nil_append, List.append_nil]
  have Ln9 := bkCs_len n9 w
  obtain ⟨n11, hn11⟩ := isLen_ex (.cells 79 11 [.agg (fzCs x1)] :: (bkC n2 x0 ++ (bkCs n5 x1 ++ (bkCs n9 w))) : List TB)
  have ln11 := hn11.eq
  simp only [List.length_append, List.length_cons, List.length_nil, bkC_len, bkCs_len, mkC_nb, mkCs_nb] at ln11
  have g12_ := hold_get (A := (.cells 79 11 [.agg (fzCs x1)] :: (bkC n2 x0 ++ (bkCs n5 x1 ++ (bkCs n9 w))) : List TB)) (R := ([] : List TB)) (n := n11) (by first | (simp only [List.length_append, List.length_cons, List.length_nil, bkC_len, bkCs_len, mkC_nb, mkCs_nb]; done) | (simp only [List.length_append, List.length_cons, List.length_nil, bkC_len, bkCs_len, mkC_nb, mkCs_nb]; omega))
  try simp only [List.append_assoc, List.cons_append, List.nil_append, List.append_nil] at g12_
  have g12_s := hold_set (A := (.cells 79 11 [.agg (fzCs x1)] :: (bkC n2 x0 ++ (bkCs n5 x1 ++ (bkCs n9 w))) : List TB)) (R := ([] : List TB)) (n := n11) (by first | (simp only [List.length_append, List.length_cons, List.length_nil, bkC_len, bkCs_len, mkC_nb, mkCs_nb]; done) | (simp only [List.length_append, List.length_cons, List.length_nil, bkC_len, bkCs_len, mkC_nb, mkCs_nb]; omega))
  try simp only [List.append_assoc, List.cons_append, List.nil_append, List.append_nil] at g12_s
  obtain ⟨n13, hn13⟩ := isLen_ex (.cells 79 11 [.agg (fzCs x1)] :: (bkC n2 x0 ++ (bkCs n5 x1 ++ (bkCs n9 w ++ ([.cells 35 2 [.agg (tvCs n9 w)]])))) : List TB)
  have ln13 := hn13.eq
  simp only [List.length_append, List.length_cons, List.length_nil, bkC_len, bkCs_len, mkC_nb, mkCs_nb] at ln13
  have e14_ : ∀ t, (ansSp (toC_S sh_SaS)).fn t [fzC x0] (.cells 79 11 [.agg (fzCs x1)] :: (bkC n2 x0 ++ (bkCs n5 x1 ++ (bkCs n9 w ++ ([.cells 35 2 [.agg (tvCs n9 w)]])))) : List TB) = some (tvC n13 x0, (.cells 79 11 [.agg (fzCs x1)] :: (bkC n2 x0 ++ (bkCs n5 x1 ++ (bkCs n9 w ++ (.cells 35 2 [.agg (tvCs n9 w)] :: (bkC n13 x0))))) : List TB)) := fun t => by
    rw [call_newC (by simp only [List.map_cons, List.map_nil, frz_p, frz_s, frz_agg, frz_fzC, frz_fzCs]; try rfl) (toC_at h0 y0) hn13.eq]; try simp only [List.append_assoc, List.cons_append, List.nil_append, List.append_nil]
  have Ln13 := bkC_len n13 x0
  have g15_ := hold_get (A := ([] : List TB)) (R := (bkC n2 x0 ++ (bkCs n5 x1 ++ (bkCs n9 w ++ (.cells 35 2 [.agg (tvCs n9 w)] :: (bkC n13 x0)))) : List TB)) (n := n0) (by first | (simp only [List.length_append, List.length_cons, List.length_nil, bkC_len, bkCs_len, mkC_nb, mkCs_nb]; done) | (simp only [List.length_append, List.length_cons, List.length_nil, bkC_len, bkCs_len, mkC_nb, mkCs_nb]; omega))
  try simp only [List.append_assoc, List.cons_append, List.nil_append, List.append_nil] at g15_
  obtain ⟨n16, hn16⟩ := isLen_ex (.cells 79 11 [.agg (fzCs x1)] :: (bkC n2 x0 ++ (bkCs n5 x1 ++ (bkCs n9 w ++ (.cells 35 2 [.agg (tvCs n9 w)] :: (bkC n13 x0))))) : List TB)
  have ln16 := hn16.eq
  simp only [List.length_append, List.length_cons, List.length_nil, bkC_len, bkCs_len, mkC_nb, mkCs_nb] at ln16
  have e17_ : ∀ t, (ansSp (toR_S sh_Sa)).fn t [.agg (fzCs x1)] (.cells 79 11 [.agg (fzCs x1)] :: (bkC n2 x0 ++ (bkCs n5 x1 ++ (bkCs n9 w ++ (.cells 35 2 [.agg (tvCs n9 w)] :: (bkC n13 x0))))) : List TB) = some (.agg (tvCs n16 x1), (.cells 79 11 [.agg (fzCs x1)] :: (bkC n2 x0 ++ (bkCs n5 x1 ++ (bkCs n9 w ++ (.cells 35 2 [.agg (tvCs n9 w)] :: (bkC n13 x0 ++ (bkCs n16 x1)))))) : List TB)) := fun t => by
    rw [call_new (by simp only [List.map_cons, List.map_nil, frz_p, frz_s, frz_agg, frz_fzC, frz_fzCs]; try rfl) (toR_at h1 y1) hn16.eq]; try simp only [List.append_assoc, List.cons_append, List.nil_append, List.append_nil]
  have Ln16 := bkCs_len n16 x1
  obtain ⟨n18, hn18⟩ := isLen_ex (.cells 79 11 [.agg (fzCs x1)] :: (bkC n2 x0 ++ (bkCs n5 x1 ++ (bkCs n9 w ++ (.cells 35 2 [.agg (tvCs n9 w)] :: (bkC n13 x0 ++ (bkCs n16 x1)))))) : List TB)
  have ln18 := hn18.eq
  simp only [List.length_append, List.length_cons, List.length_nil, bkC_len, bkCs_len, mkC_nb, mkCs_nb] at ln18
  have g19_ := hold_get (A := (.cells 79 11 [.agg (fzCs x1)] :: (bkC n2 x0 ++ (bkCs n5 x1 ++ (bkCs n9 w ++ (.cells 35 2 [.agg (tvCs n9 w)] :: (bkC n13 x0 ++ (bkCs n16 x1)))))) : List TB)) (R := ([] : List TB)) (n := n18) (by first | (simp only [List.length_append, List.length_cons, List.length_nil, bkC_len, bkCs_len, mkC_nb, mkCs_nb]; done) | (simp only [List.length_append, List.length_cons, List.length_nil, bkC_len, bkCs_len, mkC_nb, mkCs_nb]; omega))
  try simp only [List.append_assoc, List.cons_append, List.nil_append, List.append_nil] at g19_
  have g19_s := hold_set (A := (.cells 79 11 [.agg (fzCs x1)] :: (bkC n2 x0 ++ (bkCs n5 x1 ++ (bkCs n9 w ++ (.cells 35 2 [.agg (tvCs n9 w)] :: (bkC n13 x0 ++ (bkCs n16 x1)))))) : List TB)) (R := ([] : List TB)) (n := n18) (by first | (simp only [List.length_append, List.length_cons, List.length_nil, bkC_len, bkCs_len, mkC_nb, mkCs_nb]; done) | (simp only [List.length_append, List.length_cons, List.length_nil, bkC_len, bkCs_len, mkC_nb, mkCs_nb]; omega))
  try simp only [List.append_assoc, List.cons_append, List.nil_append, List.append_nil] at g19_s
  have g20_ := hold_get (A := (.cells 79 11 [.agg (fzCs x1)] :: (bkC n2 x0 ++ (bkCs n5 x1 ++ (bkCs n9 w ++ (.cells 35 2 [.agg (tvCs n9 w)] :: (bkC n13 x0 ++ (bkCs n16 x1)))))) : List TB)) (R := ([] : List TB)) (n := n18) (by first | (simp only [List.length_append, List.length_cons, List.length_nil, bkC_len, bkCs_len, mkC_nb, mkCs_nb]; done) | (simp only [List.length_append, List.length_cons, List.length_nil, bkC_len, bkCs_len, mkC_nb, mkCs_nb]; omega))
  try simp only [List.append_assoc, List.cons_append, List.nil_append, List.append_nil] at g20_
  have f21 : frzT (.cells 79 11 [.agg (fzCs x1)] :: (bkC n2 x0 ++ (bkCs n5 x1 ++ (bkCs n9 w ++ (.cells 35 2 [.agg (tvCs n9 w)] :: (bkC n13 x0 ++ (bkCs n16 x1 ++ ([.cells 45 11 [.agg (tvCs n16 x1)]]))))))) : List TB) 9 (tvC n13 x0) = fzC x0 := by
    have := frzC_in (A := (.cells 79 11 [.agg (fzCs x1)] :: (bkC n2 x0 ++ (bkCs n5 x1 ++ (bkCs n9 w ++ ([.cells 35 2 [.agg (tvCs n9 w)]])))) : List TB)) (B := (bkCs n16 x1 ++ ([.cells 45 11 [.agg (tvCs n16 x1)]]) : List TB)) (c := x0) (n := n13) (by first | (simp only [List.length_append, List.length_cons, List.length_nil, bkC_len, bkCs_len, mkC_nb, mkCs_nb]; done) | (simp only [List.length_append, List.length_cons, List.length_nil, bkC_len, bkCs_len, mkC_nb, mkCs_nb]; omega)) (by first | assumption | (rw [mkC_dp]; assumption))
    (try simp only [List.append_assoc, List.cons_append, List.nil_append, List.append_nil, mkC_tv, mkCs_tv] at this); (try simp only [List.append_assoc, List.cons_append, List.nil_append, List.append_nil, mkC_tv, mkCs_tv]); exact this
  have f22 : frzT (.cells 79 11 [.agg (fzCs x1)] :: (bkC n2 x0 ++ (bkCs n5 x1 ++ (bkCs n9 w ++ (.cells 35 2 [.agg (tvCs n9 w)] :: (bkC n13 x0 ++ (bkCs n16 x1 ++ ([.cells 45 11 [.agg (tvCs n16 x1)]]))))))) : List TB) 9 (.agg (tvCs n16 x1)) = .agg (fzCs x1) := by
    have := frz_in (A := (.cells 79 11 [.agg (fzCs x1)] :: (bkC n2 x0 ++ (bkCs n5 x1 ++ (bkCs n9 w ++ (.cells 35 2 [.agg (tvCs n9 w)] :: (bkC n13 x0))))) : List TB)) (B := ([.cells 45 11 [.agg (tvCs n16 x1)]] : List TB)) (w := x1) (n := n16) (by first | (simp only [List.length_append, List.length_cons, List.length_nil, bkC_len, bkCs_len, mkC_nb, mkCs_nb]; done) | (simp only [List.length_append, List.length_cons, List.length_nil, bkC_len, bkCs_len, mkC_nb, mkCs_nb]; omega)) (by first | assumption | (rw [mkCs_dp]; assumption))
    (try simp only [List.append_assoc, List.cons_append, List.nil_append, List.append_nil, mkC_tv, mkCs_tv] at this); (try simp only [List.append_assoc, List.cons_append, List.nil_append, List.append_nil, mkC_tv, mkCs_tv]); exact this
  obtain ⟨n23, hn23⟩ := isLen_ex (.cells 79 11 [.agg (fzCs x1)] :: (bkC n2 x0 ++ (bkCs n5 x1 ++ (bkCs n9 w ++ (.cells 35 2 [.agg (tvCs n9 w)] :: (bkC n13 x0 ++ (bkCs n16 x1 ++ ([.cells 45 11 [.agg (tvCs n16 x1)]]))))))) : List TB)
  have ln23 := hn23.eq
  simp only [List.length_append, List.length_cons, List.length_nil, bkC_len, bkCs_len, mkC_nb, mkCs_nb] at ln23
  have e24_ : ∀ t, (ansSp Si).fn t [tvC n13 x0, .agg (tvCs n16 x1)] (.cells 79 11 [.agg (fzCs x1)] :: (bkC n2 x0 ++ (bkCs n5 x1 ++ (bkCs n9 w ++ (.cells 35 2 [.agg (tvCs n9 w)] :: (bkC n13 x0 ++ (bkCs n16 x1 ++ ([.cells 45 11 [.agg (tvCs n16 x1)]]))))))) : List TB) = some (.agg (tvCs n23 w'), (.cells 79 11 [.agg (fzCs x1)] :: (bkC n2 x0 ++ (bkCs n5 x1 ++ (bkCs n9 w ++ (.cells 35 2 [.agg (tvCs n9 w)] :: (bkC n13 x0 ++ (bkCs n16 x1 ++ (.cells 45 11 [.agg (tvCs n16 x1)] :: (bkCs n23 w')))))))) : List TB)) := fun t => by
    rw [call_new (by simp only [List.map_cons, List.map_nil, frz_p, frz_s, frz_agg, frz_fzC, frz_fzCs, f21, f22]; try rfl) (wI) hn23.eq]; try simp only [List.append_assoc, List.cons_append, List.nil_append, List.append_nil]
  have Ln23 := bkCs_len n23 w'
  obtain ⟨n25, hn25⟩ := isLen_ex (.cells 79 11 [.agg (fzCs x1)] :: (bkC n2 x0 ++ (bkCs n5 x1 ++ (bkCs n9 w ++ (.cells 35 2 [.agg (tvCs n9 w)] :: (bkC n13 x0 ++ (bkCs n16 x1 ++ (.cells 45 11 [.agg (tvCs n16 x1)] :: (bkCs n23 w')))))))) : List TB)
  have ln25 := hn25.eq
  simp only [List.length_append, List.length_cons, List.length_nil, bkC_len, bkCs_len, mkC_nb, mkCs_nb] at ln25
  have g26_ := hold_get (A := (.cells 79 11 [.agg (fzCs x1)] :: (bkC n2 x0 ++ (bkCs n5 x1 ++ (bkCs n9 w ++ (.cells 35 2 [.agg (tvCs n9 w)] :: (bkC n13 x0 ++ (bkCs n16 x1 ++ (.cells 45 11 [.agg (tvCs n16 x1)] :: (bkCs n23 w')))))))) : List TB)) (R := ([] : List TB)) (n := n25) (by first | (simp only [List.length_append, List.length_cons, List.length_nil, bkC_len, bkCs_len, mkC_nb, mkCs_nb]; done) | (simp only [List.length_append, List.length_cons, List.length_nil, bkC_len, bkCs_len, mkC_nb, mkCs_nb]; omega))
  try simp only [List.append_assoc, List.cons_append, List.nil_append, List.append_nil] at g26_
  have g26_s := hold_set (A := (.cells 79 11 [.agg (fzCs x1)] :: (bkC n2 x0 ++ (bkCs n5 x1 ++ (bkCs n9 w ++ (.cells 35 2 [.agg (tvCs n9 w)] :: (bkC n13 x0 ++ (bkCs n16 x1 ++ (.cells 45 11 [.agg (tvCs n16 x1)] :: (bkCs n23 w')))))))) : List TB)) (R := ([] : List TB)) (n := n25) (by first | (simp only [List.length_append, List.length_cons, List.length_nil, bkC_len, bkCs_len, mkC_nb, mkCs_nb]; done) | (simp only [List.length_append, List.length_cons, List.length_nil, bkC_len, bkCs_len, mkC_nb, mkCs_nb]; omega))
  try simp only [List.append_assoc, List.cons_append, List.nil_append, List.append_nil] at g26_s
  have g27_ := hold_get (A := (.cells 79 11 [.agg (fzCs x1)] :: (bkC n2 x0 ++ (bkCs n5 x1 ++ (bkCs n9 w ++ (.cells 35 2 [.agg (tvCs n9 w)] :: (bkC n13 x0 ++ (bkCs n16 x1 ++ (.cells 45 11 [.agg (tvCs n16 x1)] :: (bkCs n23 w')))))))) : List TB)) (R := ([] : List TB)) (n := n25) (by first | (simp only [List.length_append, List.length_cons, List.length_nil, bkC_len, bkCs_len, mkC_nb, mkCs_nb]; done) | (simp only [List.length_append, List.length_cons, List.length_nil, bkC_len, bkCs_len, mkC_nb, mkCs_nb]; omega))
  try simp only [List.append_assoc, List.cons_append, List.nil_append, List.append_nil] at g27_
  have g28_ := hold_get (A := (.cells 79 11 [.agg (fzCs x1)] :: (bkC n2 x0 ++ (bkCs n5 x1 ++ (bkCs n9 w))) : List TB)) (R := (bkC n13 x0 ++ (bkCs n16 x1 ++ (.cells 45 11 [.agg (tvCs n16 x1)] :: (bkCs n23 w' ++ ([.cells 35 2 [.agg (tvCs n23 w')]])))) : List TB)) (n := n11) (by first | (simp only [List.length_append, List.length_cons, List.length_nil, bkC_len, bkCs_len, mkC_nb, mkCs_nb]; done) | (simp only [List.length_append, List.length_cons, List.length_nil, bkC_len, bkCs_len, mkC_nb, mkCs_nb]; omega))
  try simp only [List.append_assoc, List.cons_append, List.nil_append, List.append_nil] at g28_
  have f29 : frzT (.cells 79 11 [.agg (fzCs x1)] :: (bkC n2 x0 ++ (bkCs n5 x1 ++ (bkCs n9 w ++ (.cells 35 2 [.agg (tvCs n9 w)] :: (bkC n13 x0 ++ (bkCs n16 x1 ++ (.cells 45 11 [.agg (tvCs n16 x1)] :: (bkCs n23 w' ++ ([.cells 35 2 [.agg (tvCs n23 w')]]))))))))) : List TB) 9 (.agg (tvCs n23 w')) = .agg (fzCs w') := by
    have := frz_in (A := (.cells 79 11 [.agg (fzCs x1)] :: (bkC n2 x0 ++ (bkCs n5 x1 ++ (bkCs n9 w ++ (.cells 35 2 [.agg (tvCs n9 w)] :: (bkC n13 x0 ++ (bkCs n16 x1 ++ ([.cells 45 11 [.agg (tvCs n16 x1)]]))))))) : List TB)) (B := ([.cells 35 2 [.agg (tvCs n23 w')]] : List TB)) (w := w') (n := n23) (by first | (simp only [List.length_append, List.length_cons, List.length_nil, bkC_len, bkCs_len, mkC_nb, mkCs_nb]; done) | (simp only [List.length_append, List.length_cons, List.length_nil, bkC_len, bkCs_len, mkC_nb, mkCs_nb]; omega)) (by first | assumption | (rw [mkCs_dp]; assumption))
    (try simp only [List.append_assoc, List.cons_append, List.nil_append, List.append_nil, mkC_tv, mkCs_tv] at this); (try simp only [List.append_assoc, List.cons_append, List.nil_append, List.append_nil, mkC_tv, mkCs_tv]); exact this
  have f30 : frzT (.cells 79 11 [.agg (fzCs x1)] :: (bkC n2 x0 ++ (bkCs n5 x1 ++ (bkCs n9 w ++ (.cells 35 2 [.agg (tvCs n9 w)] :: (bkC n13 x0 ++ (bkCs n16 x1 ++ (.cells 45 11 [.agg (tvCs n16 x1)] :: (bkCs n23 w' ++ ([.cells 35 2 [.agg (tvCs n23 w')]]))))))))) : List TB) 9 (.agg (tvCs n9 w)) = .agg (fzCs w) := by
    have := frz_in (A := (.cells 79 11 [.agg (fzCs x1)] :: (bkC n2 x0 ++ (bkCs n5 x1)) : List TB)) (B := (.cells 35 2 [.agg (tvCs n9 w)] :: (bkC n13 x0 ++ (bkCs n16 x1 ++ (.cells 45 11 [.agg (tvCs n16 x1)] :: (bkCs n23 w' ++ ([.cells 35 2 [.agg (tvCs n23 w')]]))))) : List TB)) (w := w) (n := n9) (by first | (simp only [List.length_append, List.length_cons, List.length_nil, bkC_len, bkCs_len, mkC_nb, mkCs_nb]; done) | (simp only [List.length_append, List.length_cons, List.length_nil, bkC_len, bkCs_len, mkC_nb, mkCs_nb]; omega)) (by first | assumption | (rw [mkCs_dp]; assumption))
    (try simp only [List.append_assoc, List.cons_append, List.nil_append, List.append_nil, mkC_tv, mkCs_tv] at this); (try simp only [List.append_assoc, List.cons_append, List.nil_append, List.append_nil, mkC_tv, mkCs_tv]); exact this
  have e31_ : ∀ t, (ansSp (eqR_S sh_SasResult)).fn t [.agg (tvCs n23 w'), .agg (tvCs n9 w)] (.cells 79 11 [.agg (fzCs x1)] :: (bkC n2 x0 ++ (bkCs n5 x1 ++ (bkCs n9 w ++ (.cells 35 2 [.agg (tvCs n9 w)] :: (bkC n13 x0 ++ (bkCs n16 x1 ++ (.cells 45 11 [.agg (tvCs n16 x1)] :: (bkCs n23 w' ++ ([.cells 35 2 [.agg (tvCs n23 w')]]))))))))) : List TB) = some (.p (.bool true), (.cells 79 11 [.agg (fzCs x1)] :: (bkC n2 x0 ++ (bkCs n5 x1 ++ (bkCs n9 w ++ (.cells 35 2 [.agg (tvCs n9 w)] :: (bkC n13 x0 ++ (bkCs n16 x1 ++ (.cells 45 11 [.agg (tvCs n16 x1)] :: (bkCs n23 w' ++ ([.cells 35 2 [.agg (tvCs n23 w')]]))))))))) : List TB)) := fun t => call_val (by simp only [List.map_cons, List.map_nil, frz_p, frz_s, frz_agg, frz_fzC, frz_fzCs, wE, f29, f30]; try rfl) (eqR_at fI (Nat.le_trans sI (by decide)))
  obtain ⟨n32, hn32⟩ := isLen_ex (.cells 79 11 [.agg (fzCs x1)] :: (bkC n2 x0 ++ (bkCs n5 x1 ++ (bkCs n9 w ++ (.cells 35 2 [.agg (tvCs n9 w)] :: (bkC n13 x0 ++ (bkCs n16 x1 ++ (.cells 45 11 [.agg (tvCs n16 x1)] :: (bkCs n23 w' ++ ([.cells 35 2 [.agg (tvCs n23 w')]]))))))))) : List TB)
  have ln32 := hn32.eq
  simp only [List.length_append, List.length_cons, List.length_nil, bkC_len, bkCs_len, mkC_nb, mkCs_nb] at ln32
  have e33_ : ∀ t, (ansSp (toC_S sh_SaS)).fn t [fzC x0] (.cells 79 11 [.agg (fzCs x1)] :: (bkC n2 x0 ++ (bkCs n5 x1 ++ (bkCs n9 w ++ (.cells 35 2 [.agg (tvCs n9 w)] :: (bkC n13 x0 ++ (bkCs n16 x1 ++ (.cells 45 11 [.agg (tvCs n16 x1)] :: (bkCs n23 w' ++ ([.cells 35 2 [.agg (tvCs n23 w')]]))))))))) : List TB) = some (tvC n32 x0, (.cells 79 11 [.agg (fzCs x1)] :: (bkC n2 x0 ++ (bkCs n5 x1 ++ (bkCs n9 w ++ (.cells 35 2 [.agg (tvCs n9 w)] :: (bkC n13 x0 ++ (bkCs n16 x1 ++ (.cells 45 11 [.agg (tvCs n16 x1)] :: (bkCs n23 w' ++ (.cells 35 2 [.agg (tvCs n23 w')] :: (bkC n32 x0)))))))))) : List TB)) := fun t => by
    rw [call_newC (by simp only [List.map_cons, List.map_nil, frz_p, frz_s, frz_agg, frz_fzC, frz_fzCs]; try rfl) (toC_at h0 y0) hn32.eq]; try simp only [List.append_assoc, List.cons_append, List.nil_append, List.append_nil]
  have Ln32 := bkC_len n32 x0
  have f34 : frzT (.cells 79 11 [.agg (fzCs x1)] :: (bkC n2 x0 ++ (bkCs n5 x1 ++ (bkCs n9 w ++ (.cells 35 2 [.agg (tvCs n9 w)] :: (bkC n13 x0 ++ (bkCs n16 x1 ++ (.cells 45 11 [.agg (tvCs n16 x1)] :: (bkCs n23 w' ++ (.cells 35 2 [.agg (tvCs n23 w')] :: (bkC n32 x0)))))))))) : List TB) 9 (tvC n13 x0) = fzC x0 := by
    have := frzC_in (A := (.cells 79 11 [.agg (fzCs x1)] :: (bkC n2 x0 ++ (bkCs n5 x1 ++ (bkCs n9 w ++ ([.cells 35 2 [.agg (tvCs n9 w)]])))) : List TB)) (B := (bkCs n16 x1 ++ (.cells 45 11 [.agg (tvCs n16 x1)] :: (bkCs n23 w' ++ (.cells 35 2 [.agg (tvCs n23 w')] :: (bkC n32 x0)))) : List TB)) (c := x0) (n := n13) (by first | (simp only [List.length_append, List.length_cons, List.length_nil, bkC_len, bkCs_len, mkC_nb, mkCs_nb]; done) | (simp only [List.length_append, List.length_cons, List.length_nil, bkC_len, bkCs_len, mkC_nb, mkCs_nb]; omega)) (by first | assumption | (rw [mkC_dp]; assumption))
    (try simp only [List.append_assoc, List.cons_append, List.nil_append, List.append_nil, mkC_tv, mkCs_tv] at this); (try simp only [List.append_assoc, List.cons_append, List.nil_append, List.append_nil, mkC_tv, mkCs_tv]); exact this
  have f35 : frzT (.cells 79 11 [.agg (fzCs x1)] :: (bkC n2 x0 ++ (bkCs n5 x1 ++ (bkCs n9 w ++ (.cells 35 2 [.agg (tvCs n9 w)] :: (bkC n13 x0 ++ (bkCs n16 x1 ++ (.cells 45 11 [.agg (tvCs n16 x1)] :: (bkCs n23 w' ++ (.cells 35 2 [.agg (tvCs n23 w')] :: (bkC n32 x0)))))))))) : List TB) 9 (tvC n32 x0) = fzC x0 := by
    have := frzC_in (A := (.cells 79 11 [.agg (fzCs x1)] :: (bkC n2 x0 ++ (bkCs n5 x1 ++ (bkCs n9 w ++ (.cells 35 2 [.agg (tvCs n9 w)] :: (bkC n13 x0 ++ (bkCs n16 x1 ++ (.cells 45 11 [.agg (tvCs n16 x1)] :: (bkCs n23 w' ++ ([.cells 35 2 [.agg (tvCs n23 w')]]))))))))) : List TB)) (B := ([] : List TB)) (c := x0) (n := n32) (by first | (simp only [List.length_append, List.length_cons, List.length_nil, bkC_len, bkCs_len, mkC_nb, mkCs_nb]; done) | (simp only [List.length_append, List.length_cons, List.length_nil, bkC_len, bkCs_len, mkC_nb, mkCs_nb]; omega)) (by first | assumption | (rw [mkC_dp]; assumption))
    (try simp only [List.append_assoc, List.cons_append, List.nil_append, List.append_nil, mkC_tv, mkCs_tv] at this); (try simp only [List.append_assoc, List.cons_append, List.nil_append, List.append_nil, mkC_tv, mkCs_tv]); exact this
  have e36_ : ∀ t, (ansSp (eqC_S sh_SaS)).fn t [tvC n13 x0, tvC n32 x0] (.cells 79 11 [.agg (fzCs x1)] :: (bkC n2 x0 ++ (bkCs n5 x1 ++ (bkCs n9 w ++ (.cells 35 2 [.agg (tvCs n9 w)] :: (bkC n13 x0 ++ (bkCs n16 x1 ++ (.cells 45 11 [.agg (tvCs n16 x1)] :: (bkCs n23 w' ++ (.cells 35 2 [.agg (tvCs n23 w')] :: (bkC n32 x0)))))))))) : List TB) = some (.p (.bool true), (.cells 79 11 [.agg (fzCs x1)] :: (bkC n2 x0 ++ (bkCs n5 x1 ++ (bkCs n9 w ++ (.cells 35 2 [.agg (tvCs n9 w)] :: (bkC n13 x0 ++ (bkCs n16 x1 ++ (.cells 45 11 [.agg (tvCs n16 x1)] :: (bkCs n23 w' ++ (.cells 35 2 [.agg (tvCs n23 w')] :: (bkC n32 x0)))))))))) : List TB)) := fun t => call_val (by simp only [List.map_cons, List.map_nil, frz_p, frz_s, frz_agg, frz_fzC, frz_fzCs, f34, f35]; try rfl) (eqC_at (HasC.fit _ _ h0) (Nat.le_trans y0 (by decide)))
  have g37_ := hold_get (A := (.cells 79 11 [.agg (fzCs x1)] :: (bkC n2 x0 ++ (bkCs n5 x1 ++ (bkCs n9 w ++ (.cells 35 2 [.agg (tvCs n9 w)] :: (bkC n13 x0 ++ (bkCs n16 x1)))))) : List TB)) (R := (bkCs n23 w' ++ (.cells 35 2 [.agg (tvCs n23 w')] :: (bkC n32 x0)) : List TB)) (n := n18) (by first | (simp only [List.length_append, List.length_cons, List.length_nil, bkC_len, bkCs_len, mkC_nb, mkCs_nb]; done) | (simp only [List.length_append, List.length_cons, List.length_nil, bkC_len, bkCs_len, mkC_nb, mkCs_nb]; omega))
  try simp only [List.append_assoc, List.cons_append, List.nil_append, List.append_nil] at g37_
  have g38_ := hold_get (A := ([] : List TB)) (R := (bkC n2 x0 ++ (bkCs n5 x1 ++ (bkCs n9 w ++ (.cells 35 2 [.agg (tvCs n9 w)] :: (bkC n13 x0 ++ (bkCs n16 x1 ++ (.cells 45 11 [.agg (tvCs n16 x1)] :: (bkCs n23 w' ++ (.cells 35 2 [.agg (tvCs n23 w')] :: (bkC n32 x0))))))))) : List TB)) (n := n0) (by first | (simp only [List.length_append, List.length_cons, List.length_nil, bkC_len, bkCs_len, mkC_nb, mkCs_nb]; done) | (simp only [List.length_append, List.length_cons, List.length_nil, bkC_len, bkCs_len, mkC_nb, mkCs_nb]; omega))
  try simp only [List.append_assoc, List.cons_append, List.nil_append, List.append_nil] at g38_
  obtain ⟨n39, hn39⟩ := isLen_ex (.cells 79 11 [.agg (fzCs x1)] :: (bkC n2 x0 ++ (bkCs n5 x1 ++ (bkCs n9 w ++ (.cells 35 2 [.agg (tvCs n9 w)] :: (bkC n13 x0 ++ (bkCs n16 x1 ++ (.cells 45 11 [.agg (tvCs n16 x1)] :: (bkCs n23 w' ++ (.cells 35 2 [.agg (tvCs n23 w')] :: (bkC n32 x0)))))))))) : List TB)
  have ln39 := hn39.eq
  simp only [List.length_append, List.length_cons, List.length_nil, bkC_len, bkCs_len, mkC_nb, mkCs_nb] at ln39
  have e40_ : ∀ t, (ansSp (toR_S sh_Sa)).fn t [.agg (fzCs x1)] (.cells 79 11 [.agg (fzCs x1)] :: (bkC n2 x0 ++ (bkCs n5 x1 ++ (bkCs n9 w ++ (.cells 35 2 [.agg (tvCs n9 w)] :: (bkC n13 x0 ++ (bkCs n16 x1 ++ (.cells 45 11 [.agg (tvCs n16 x1)] :: (bkCs n23 w' ++ (.cells 35 2 [.agg (tvCs n23 w')] :: (bkC n32 x0)))))))))) : List TB) = some (.agg (tvCs n39 x1), (.cells 79 11 [.agg (fzCs x1)] :: (bkC n2 x0 ++ (bkCs n5 x1 ++ (bkCs n9 w ++ (.cells 35 2 [.agg (tvCs n9 w)] :: (bkC n13 x0 ++ (bkCs n16 x1 ++ (.cells 45 11 [.agg (tvCs n16 x1)] :: (bkCs n23 w' ++ (.cells 35 2 [.agg (tvCs n23 w')] :: (bkC n32 x0 ++ (bkCs n39 x1))))))))))) : List TB)) := fun t => by
    rw [call_new (by simp only [List.map_cons, List.map_nil, frz_p, frz_s, frz_agg, frz_fzC, frz_fzCs]; try rfl) (toR_at h1 y1) hn39.eq]; try simp only [List.append_assoc, List.cons_append, List.nil_append, List.append_nil]
  have Ln39 := bkCs_len n39 x1
  have f41 : frzT (.cells 79 11 [.agg (fzCs x1)] :: (bkC n2 x0 ++ (bkCs n5 x1 ++ (bkCs n9 w ++ (.cells 35 2 [.agg (tvCs n9 w)] :: (bkC n13 x0 ++ (bkCs n16 x1 ++ (.cells 45 11 [.agg (tvCs n16 x1)] :: (bkCs n23 w' ++ (.cells 35 2 [.agg (tvCs n23 w')] :: (bkC n32 x0 ++ (bkCs n39 x1))))))))))) : List TB) 9 (.agg (tvCs n16 x1)) = .agg (fzCs x1) := by
    have := frz_in (A := (.cells 79 11 [.agg (fzCs x1)] :: (bkC n2 x0 ++ (bkCs n5 x1 ++ (bkCs n9 w ++ (.cells 35 2 [.agg (tvCs n9 w)] :: (bkC n13 x0))))) : List TB)) (B := (.cells 45 11 [.agg (tvCs n16 x1)] :: (bkCs n23 w' ++ (.cells 35 2 [.agg (tvCs n23 w')] :: (bkC n32 x0 ++ (bkCs n39 x1)))) : List TB)) (w := x1) (n := n16) (by first | (simp only [List.length_append, List.length_cons, List.length_nil, bkC_len, bkCs_len, mkC_nb, mkCs_nb]; done) | (simp only [List.length_append, List.length_cons, List.length_nil, bkC_len, bkCs_len, mkC_nb, mkCs_nb]; omega)) (by first | assumption | (rw [mkCs_dp]; assumption))
    (try simp only [List.append_assoc, List.cons_append, List.nil_append, List.append_nil, mkC_tv, mkCs_tv] at this); (try simp only [List.append_assoc, List.cons_append, List.nil_append, List.append_nil, mkC_tv, mkCs_tv]); exact this
  have f42 : frzT (.cells 79 11 [.agg (fzCs x1)] :: (bkC n2 x0 ++ (bkCs n5 x1 ++ (bkCs n9 w ++ (.cells 35 2 [.agg (tvCs n9 w)] :: (bkC n13 x0 ++ (bkCs n16 x1 ++ (.cells 45 11 [.agg (tvCs n16 x1)] :: (bkCs n23 w' ++ (.cells 35 2 [.agg (tvCs n23 w')] :: (bkC n32 x0 ++ (bkCs n39 x1))))))))))) : List TB) 9 (.agg (tvCs n39 x1)) = .agg (fzCs x1) := by
    have := frz_in (A := (.cells 79 11 [.agg (fzCs x1)] :: (bkC n2 x0 ++ (bkCs n5 x1 ++ (bkCs n9 w ++ (.cells 35 2 [.agg (tvCs n9 w)] :: (bkC n13 x0 ++ (bkCs n16 x1 ++ (.cells 45 11 [.agg (tvCs n16 x1)] :: (bkCs n23 w' ++ (.cells 35 2 [.agg (tvCs n23 w')] :: (bkC n32 x0)))))))))) : List TB)) (B := ([] : List TB)) (w := x1) (n := n39) (by first | (simp only [List.length_append, List.length_cons, List.length_nil, bkC_len, bkCs_len, mkC_nb, mkCs_nb]; done) | (simp only [List.length_append, List.length_cons, List.length_nil, bkC_len, bkCs_len, mkC_nb, mkCs_nb]; omega)) (by first | assumption | (rw [mkCs_dp]; assumption))
    (try simp only [List.append_assoc, List.cons_append, List.nil_append, List.append_nil, mkC_tv, mkCs_tv] at this); (try simp only [List.append_assoc, List.cons_append, List.nil_append, List.append_nil, mkC_tv, mkCs_tv]); exact this
  have e43_ : ∀ t, (ansSp (eqR_S sh_Sa)).fn t [.agg (tvCs n16 x1), .agg (tvCs n39 x1)] (.cells 79 11 [.agg (fzCs x1)] :: (bkC n2 x0 ++ (bkCs n5 x1 ++ (bkCs n9 w ++ (.cells 35 2 [.agg (tvCs n9 w)] :: (bkC n13 x0 ++ (bkCs n16 x1 ++ (.cells 45 11 [.agg (tvCs n16 x1)] :: (bkCs n23 w' ++ (.cells 35 2 [.agg (tvCs n23 w')] :: (bkC n32 x0 ++ (bkCs n39 x1))))))))))) : List TB) = some (.p (.bool true), (.cells 79 11 [.agg (fzCs x1)] :: (bkC n2 x0 ++ (bkCs n5 x1 ++ (bkCs n9 w ++ (.cells 35 2 [.agg (tvCs n9 w)] :: (bkC n13 x0 ++ (bkCs n16 x1 ++ (.cells 45 11 [.agg (tvCs n16 x1)] :: (bkCs n23 w' ++ (.cells 35 2 [.agg (tvCs n23 w')] :: (bkC n32 x0 ++ (bkCs n39 x1))))))))))) : List TB)) := fun t => call_val (by simp only [List.map_cons, List.map_nil, frz_p, frz_s, frz_agg, frz_fzC, frz_fzCs, f41, f42]; try rfl) (eqR_at (HasR.fit _ _ h1) (Nat.le_trans y1 (by decide)))
  (dsimp only [c7, rO]; simp (maxSteps := 8000000) -implicitDefEqProofs (disch := omega) only [↓reduceIte, go_sem, len1, fzCs_len, fzCs_one, lenS, lenI, tvCs_len, tvCs_one, e0, e1, ↓hn0.eq, g1_, ↓hn2.eq, e3_, g4_, ↓hn5.eq, e6_, ↓hn9.eq, e10_, ↓hn11.eq, g12_, g12_s, ↓hn13.eq, e14_, g15_, ↓hn16.eq, e17_, ↓hn18.eq, g19_, g19_s, g20_, ↓hn23.eq, e24_, ↓hn25.eq, g26_, g26_s, g27_, g28_, e31_, ↓hn32.eq, e33_, e36_, g37_, g38_, ↓hn39.eq, e40_, e43_])
  have k44_ := mkC_seg (A := (.cells 79 11 [.agg (fzCs x1)] :: (bkC n2 x0 ++ (bkCs n5 x1 ++ (bkCs n9 w ++ ([.cells 35 2 [.agg (tvCs n9 w)]])))) : List TB)) (B := (bkCs n16 x1 ++ (.cells 45 11 [.agg (tvCs n16 x1)] :: (bkCs n23 w' ++ (.cells 35 2 [.agg (tvCs n23 w')] :: (bkC n32 x0 ++ (bkCs n39 x1))))) : List TB)) (n := n13) (c := x0) (k := 1) (by simp only [List.length_append, List.length_cons, List.length_nil, bkC_len, bkCs_len, mkC_nb, mkCs_nb]; omega) (HasC.fit _ _ h0) (by omega) (by omega)
  simp only [List.append_assoc, List.cons_append, List.nil_append, List.append_nil] at k44_
  have Ln13_45 := bkC_len n13 (mkC x0 (1)); rw [mkC_nb] at Ln13_45
  refine mutQ_call (by simp (maxSteps := 8000000) -implicitDefEqProofs (disch := omega) only [↓reduceIte, go_sem]; rfl) (by simp (maxSteps := 8000000) -implicitDefEqProofs (disch := omega) only [↓reduceIte, go_sem]) k44_ ?_
  have g45_ := hold_get (A := (.cells 79 11 [.agg (fzCs x1)] :: (bkC n2 x0 ++ (bkCs n5 x1 ++ (bkCs n9 w ++ (.cells 35 2 [.agg (tvCs n9 w)] :: (bkC n13 (mkC x0 (1)) ++ (bkCs n16 x1)))))) : List TB)) (R := (bkCs n23 w' ++ (.cells 35 2 [.agg (tvCs n23 w')] :: (bkC n32 x0 ++ (bkCs n39 x1))) : List TB)) (n := n18) (by first | (simp only [List.length_append, List.length_cons, List.length_nil, bkC_len, bkCs_len, mkC_nb, mkCs_nb]; done) | (simp only [List.length_append, List.length_cons, List.length_nil, bkC_len, bkCs_len, mkC_nb, mkCs_nb]; omega))
  try simp only [List.append_assoc, List.cons_append, List.nil_append, List.append_nil] at g45_
  simp (maxSteps := 8000000) -implicitDefEqProofs (disch := omega) only [↓reduceIte, go_sem, len1, fzCs_len, fzCs_one, lenS, lenI, tvCs_len, tvCs_one, eq_false (show ¬ (1 + (wtC x0 : Int) < 0) by omega), g45_]
  have k46_ := mkR_seg (A := (.cells 79 11 [.agg (fzCs x1)] :: (bkC n2 x0 ++ (bkCs n5 x1 ++ (bkCs n9 w ++ (.cells 35 2 [.agg (tvCs n9 w)] :: (bkC n13 (mkC x0 (1))))))) : List TB)) (B := (.cells 45 11 [.agg (tvCs n16 x1)] :: (bkCs n23 w' ++ (.cells 35 2 [.agg (tvCs n23 w')] :: (bkC n32 x0 ++ (bkCs n39 x1)))) : List TB)) (n := n16) (c := x1) (k := (1 + (wtC x0 : Int))) (by simp only [List.length_append, List.length_cons, List.length_nil, bkC_len, bkCs_len, mkC_nb, mkCs_nb]; omega) (HasR.fit _ _ h1) (by omega) (by omega)
  simp only [List.append_assoc, List.cons_append, List.nil_append, List.append_nil] at k46_
  have Ln16_47 := bkCs_len n16 (mkCs x1 ((1 + (wtC x0 : Int)))); rw [mkCs_nb] at Ln16_47
  refine mutQ_call (by simp (maxSteps := 8000000) -implicitDefEqProofs (disch := omega) only [↓reduceIte, go_sem]; rfl) (by simp (maxSteps := 8000000) -implicitDefEqProofs (disch := omega) only [↓reduceIte, go_sem]) k46_ ?_
  have g47_ := hold_get (A := (.cells 79 11 [.agg (fzCs x1)] :: (bkC n2 x0 ++ (bkCs n5 x1 ++ (bkCs n9 w ++ (.cells 35 2 [.agg (tvCs n9 w)] :: (bkC n13 (mkC x0 (1)) ++ (bkCs n16 (mkCs x1 ((1 + (wtC x0 : Int)))) ++ (.cells 45 11 [.agg (tvCs n16 x1)] :: (bkCs n23 w')))))))) : List TB)) (R := (bkC n32 x0 ++ (bkCs n39 x1) : List TB)) (n := n25) (by first | (simp only [List.length_append, List.length_cons, List.length_nil, bkC_len, bkCs_len, mkC_nb, mkCs_nb]; done) | (simp only [List.length_append, List.length_cons, List.length_nil, bkC_len, bkCs_len, mkC_nb, mkCs_nb]; omega))
  try simp only [List.append_assoc, List.cons_append, List.nil_append, List.append_nil] at g47_
  have g48_ := hold_get (A := (.cells 79 11 [.agg (fzCs x1)] :: (bkC n2 x0 ++ (bkCs n5 x1 ++ (bkCs n9 w))) : List TB)) (R := (bkC n13 (mkC x0 (1)) ++ (bkCs n16 (mkCs x1 ((1 + (wtC x0 : Int)))) ++ (.cells 45 11 [.agg (tvCs n16 x1)] :: (bkCs n23 w' ++ (.cells 35 2 [.agg (tvCs n23 w')] :: (bkC n32 x0 ++ (bkCs n39 x1)))))) : List TB)) (n := n11) (by first | (simp only [List.length_append, List.length_cons, List.length_nil, bkC_len, bkCs_len, mkC_nb, mkCs_nb]; done) | (simp only [List.length_append, List.length_cons, List.length_nil, bkC_len, bkCs_len, mkC_nb, mkCs_nb]; omega))
  try simp only [List.append_assoc, List.cons_append, List.nil_append, List.append_nil] at g48_
  have f49 : frzT (.cells 79 11 [.agg (fzCs x1)] :: (bkC n2 x0 ++ (bkCs n5 x1 ++ (bkCs n9 w ++ (.cells 35 2 [.agg (tvCs n9 w)] :: (bkC n13 (mkC x0 (1)) ++ (bkCs n16 (mkCs x1 ((1 + (wtC x0 : Int)))) ++ (.cells 45 11 [.agg (tvCs n16 x1)] :: (bkCs n23 w' ++ (.cells 35 2 [.agg (tvCs n23 w')] :: (bkC n32 x0 ++ (bkCs n39 x1))))))))))) : List TB) 9 (.agg (tvCs n23 w')) = .agg (fzCs w') := by
    have := frz_in (A := (.cells 79 11 [.agg (fzCs x1)] :: (bkC n2 x0 ++ (bkCs n5 x1 ++ (bkCs n9 w ++ (.cells 35 2 [.agg (tvCs n9 w)] :: (bkC n13 (mkC x0 (1)) ++ (bkCs n16 (mkCs x1 ((1 + (wtC x0 : Int)))) ++ ([.cells 45 11 [.agg (tvCs n16 x1)]]))))))) : List TB)) (B := (.cells 35 2 [.agg (tvCs n23 w')] :: (bkC n32 x0 ++ (bkCs n39 x1)) : List TB)) (w := w') (n := n23) (by first | (simp only [List.length_append, List.length_cons, List.length_nil, bkC_len, bkCs_len, mkC_nb, mkCs_nb]; done) | (simp only [List.length_append, List.length_cons, List.length_nil, bkC_len, bkCs_len, mkC_nb, mkCs_nb]; omega)) (by first | assumption | (rw [mkCs_dp]; assumption))
    (try simp only [List.append_assoc, List.cons_append, List.nil_append, List.append_nil, mkC_tv, mkCs_tv] at this); (try simp only [List.append_assoc, List.cons_append, List.nil_append, List.append_nil, mkC_tv, mkCs_tv]); exact this
  have f50 : frzT (.cells 79 11 [.agg (fzCs x1)] :: (bkC n2 x0 ++ (bkCs n5 x1 ++ (bkCs n9 w ++ (.cells 35 2 [.agg (tvCs n9 w)] :: (bkC n13 (mkC x0 (1)) ++ (bkCs n16 (mkCs x1 ((1 + (wtC x0 : Int)))) ++ (.cells 45 11 [.agg (tvCs n16 x1)] :: (bkCs n23 w' ++ (.cells 35 2 [.agg (tvCs n23 w')] :: (bkC n32 x0 ++ (bkCs n39 x1))))))))))) : List TB) 9 (.agg (tvCs n9 w)) = .agg (fzCs w) := by
    have := frz_in (A := (.cells 79 11 [.agg (fzCs x1)] :: (bkC n2 x0 ++ (bkCs n5 x1)) : List TB)) (B := (.cells 35 2 [.agg (tvCs n9 w)] :: (bkC n13 (mkC x0 (1)) ++ (bkCs n16 (mkCs x1 ((1 + (wtC x0 : Int)))) ++ (.cells 45 11 [.agg (tvCs n16 x1)] :: (bkCs n23 w' ++ (.cells 35 2 [.agg (tvCs n23 w')] :: (bkC n32 x0 ++ (bkCs n39 x1))))))) : List TB)) (w := w) (n := n9) (by first | (simp only [List.length_append, List.length_cons, List.length_nil, bkC_len, bkCs_len, mkC_nb, mkCs_nb]; done) | (simp only [List.length_append, List.length_cons, List.length_nil, bkC_len, bkCs_len, mkC_nb, mkCs_nb]; omega)) (by first | assumption | (rw [mkCs_dp]; assumption))
    (try simp only [List.append_assoc, List.cons_append, List.nil_append, List.append_nil, mkC_tv, mkCs_tv] at this); (try simp only [List.append_assoc, List.cons_append, List.nil_append, List.append_nil, mkC_tv, mkCs_tv]); exact this
  have e51_ : ∀ t, (ansSp (eqR_S sh_SasResult)).fn t [.agg (tvCs n23 w'), .agg (tvCs n9 w)] (.cells 79 11 [.agg (fzCs x1)] :: (bkC n2 x0 ++ (bkCs n5 x1 ++ (bkCs n9 w ++ (.cells 35 2 [.agg (tvCs n9 w)] :: (bkC n13 (mkC x0 (1)) ++ (bkCs n16 (mkCs x1 ((1 + (wtC x0 : Int)))) ++ (.cells 45 11 [.agg (tvCs n16 x1)] :: (bkCs n23 w' ++ (.cells 35 2 [.agg (tvCs n23 w')] :: (bkC n32 x0 ++ (bkCs n39 x1))))))))))) : List TB) = some (.p (.bool true), (.cells 79 11 [.agg (fzCs x1)] :: (bkC n2 x0 ++ (bkCs n5 x1 ++ (bkCs n9 w ++ (.cells 35 2 [.agg (tvCs n9 w)] :: (bkC n13 (mkC x0 (1)) ++ (bkCs n16 (mkCs x1 ((1 + (wtC x0 : Int)))) ++ (.cells 45 11 [.agg (tvCs n16 x1)] :: (bkCs n23 w' ++ (.cells 35 2 [.agg (tvCs n23 w')] :: (bkC n32 x0 ++ (bkCs n39 x1))))))))))) : List TB)) := fun t => call_val (by simp only [List.map_cons, List.map_nil, frz_p, frz_s, frz_agg, frz_fzC, frz_fzCs, wE, f49, f50]; try rfl) (eqR_at fI (Nat.le_trans sI (by decide)))
  have g52_ := hold_get (A := (.cells 79 11 [.agg (fzCs x1)] :: (bkC n2 x0 ++ (bkCs n5 x1 ++ (bkCs n9 w ++ (.cells 35 2 [.agg (tvCs n9 w)] :: (bkC n13 (mkC x0 (1)) ++ (bkCs n16 (mkCs x1 ((1 + (wtC x0 : Int)))) ++ (.cells 45 11 [.agg (tvCs n16 x1)] :: (bkCs n23 w')))))))) : List TB)) (R := (bkC n32 x0 ++ (bkCs n39 x1) : List TB)) (n := n25) (by first | (simp only [List.length_append, List.length_cons, List.length_nil, bkC_len, bkCs_len, mkC_nb, mkCs_nb]; done) | (simp only [List.length_append, List.length_cons, List.length_nil, bkC_len, bkCs_len, mkC_nb, mkCs_nb]; omega))
  try simp only [List.append_assoc, List.cons_append, List.nil_append, List.append_nil] at g52_
  simp (maxSteps := 8000000) -implicitDefEqProofs (disch := omega) only [↓reduceIte, go_sem, len1, fzCs_len, fzCs_one, lenS, lenI, tvCs_len, tvCs_one, eq_false (show ¬ ((1 + (wtC x0 : Int)) + (wtCs x1 : Int) < 0) by omega), g47_, g48_, e51_, g52_]
  have k53_ := mkR_seg (A := (.cells 79 11 [.agg (fzCs x1)] :: (bkC n2 x0 ++ (bkCs n5 x1 ++ (bkCs n9 w ++ (.cells 35 2 [.agg (tvCs n9 w)] :: (bkC n13 (mkC x0 (1)) ++ (bkCs n16 (mkCs x1 ((1 + (wtC x0 : Int)))) ++ ([.cells 45 11 [.agg (tvCs n16 x1)]]))))))) : List TB)) (B := (.cells 35 2 [.agg (tvCs n23 w')] :: (bkC n32 x0 ++ (bkCs n39 x1)) : List TB)) (n := n23) (c := w') (k := 1) (by simp only [List.length_append, List.length_cons, List.length_nil, bkC_len, bkCs_len, mkC_nb, mkCs_nb]; omega) fI (by omega) (by omega)
  simp only [List.append_assoc, List.cons_append, List.nil_append, List.append_nil] at k53_
  have Ln23_54 := bkCs_len n23 (mkCs w' (1)); rw [mkCs_nb] at Ln23_54
  refine mutQ_call (by simp (maxSteps := 8000000) -implicitDefEqProofs (disch := omega) only [↓reduceIte, go_sem]; rfl) (by simp (maxSteps := 8000000) -implicitDefEqProofs (disch := omega) only [↓reduceIte, go_sem]) k53_ ?_
  have g54_ := hold_get (A := (.cells 79 11 [.agg (fzCs x1)] :: (bkC n2 x0 ++ (bkCs n5 x1 ++ (bkCs n9 w ++ (.cells 35 2 [.agg (tvCs n9 w)] :: (bkC n13 (mkC x0 (1)) ++ (bkCs n16 (mkCs x1 ((1 + (wtC x0 : Int)))) ++ (.cells 45 11 [.agg (tvCs n16 x1)] :: (bkCs n23 (mkCs w' (1)))))))))) : List TB)) (R := (bkC n32 x0 ++ (bkCs n39 x1) : List TB)) (n := n25) (by first | (simp only [List.length_append, List.length_cons, List.length_nil, bkC_len, bkCs_len, mkC_nb, mkCs_nb]; done) | (simp only [List.length_append, List.length_cons, List.length_nil, bkC_len, bkCs_len, mkC_nb, mkCs_nb]; omega))
  try simp only [List.append_assoc, List.cons_append, List.nil_append, List.append_nil] at g54_
  have f55 : frzT (.cells 79 11 [.agg (fzCs x1)] :: (bkC n2 x0 ++ (bkCs n5 x1 ++ (bkCs n9 w ++ (.cells 35 2 [.agg (tvCs n9 w)] :: (bkC n13 (mkC x0 (1)) ++ (bkCs n16 (mkCs x1 ((1 + (wtC x0 : Int)))) ++ (.cells 45 11 [.agg (tvCs n16 x1)] :: (bkCs n23 (mkCs w' (1)) ++ (.cells 35 2 [.agg (tvCs n23 w')] :: (bkC n32 x0 ++ (bkCs n39 x1))))))))))) : List TB) 9 (.agg (tvCs n23 w')) = .agg (fzCs (mkCs w' (1))) := by
    have := frz_in (A := (.cells 79 11 [.agg (fzCs x1)] :: (bkC n2 x0 ++ (bkCs n5 x1 ++ (bkCs n9 w ++ (.cells 35 2 [.agg (tvCs n9 w)] :: (bkC n13 (mkC x0 (1)) ++ (bkCs n16 (mkCs x1 ((1 + (wtC x0 : Int)))) ++ ([.cells 45 11 [.agg (tvCs n16 x1)]]))))))) : List TB)) (B := (.cells 35 2 [.agg (tvCs n23 w')] :: (bkC n32 x0 ++ (bkCs n39 x1)) : List TB)) (w := (mkCs w' (1))) (n := n23) (by first | (simp only [List.length_append, List.length_cons, List.length_nil, bkC_len, bkCs_len, mkC_nb, mkCs_nb]; done) | (simp only [List.length_append, List.length_cons, List.length_nil, bkC_len, bkCs_len, mkC_nb, mkCs_nb]; omega)) (by first | assumption | (rw [mkCs_dp]; assumption))
    (try simp only [List.append_assoc, List.cons_append, List.nil_append, List.append_nil, mkC_tv, mkCs_tv] at this); (try simp only [List.append_assoc, List.cons_append, List.nil_append, List.append_nil, mkC_tv, mkCs_tv]); exact this
  have e56_ : ∀ t, (ansSp (hdR_S sh_SasResult)).fn t [.agg (tvCs n23 w'), .p (.int .i64 1)] (.cells 79 11 [.agg (fzCs x1)] :: (bkC n2 x0 ++ (bkCs n5 x1 ++ (bkCs n9 w ++ (.cells 35 2 [.agg (tvCs n9 w)] :: (bkC n13 (mkC x0 (1)) ++ (bkCs n16 (mkCs x1 ((1 + (wtC x0 : Int)))) ++ (.cells 45 11 [.agg (tvCs n16 x1)] :: (bkCs n23 (mkCs w' (1)) ++ (.cells 35 2 [.agg (tvCs n23 w')] :: (bkC n32 x0 ++ (bkCs n39 x1))))))))))) : List TB) = some (.p (.int .i64 (1 + (wtCs w' : Int))), (.cells 79 11 [.agg (fzCs x1)] :: (bkC n2 x0 ++ (bkCs n5 x1 ++ (bkCs n9 w ++ (.cells 35 2 [.agg (tvCs n9 w)] :: (bkC n13 (mkC x0 (1)) ++ (bkCs n16 (mkCs x1 ((1 + (wtC x0 : Int)))) ++ (.cells 45 11 [.agg (tvCs n16 x1)] :: (bkCs n23 (mkCs w' (1)) ++ (.cells 35 2 [.agg (tvCs n23 w')] :: (bkC n32 x0 ++ (bkCs n39 x1))))))))))) : List TB)) := fun t => call_val (by simp only [List.map_cons, List.map_nil, frz_p, frz_s, frz_agg, frz_fzC, frz_fzCs, f55]; try rfl) (hdR_at (k := 1) fI (by omega) (by omega))
  obtain ⟨n57, hn57⟩ := isLen_ex (.cells 79 11 [.agg (fzCs x1)] :: (bkC n2 x0 ++ (bkCs n5 x1 ++ (bkCs n9 w ++ (.cells 35 2 [.agg (tvCs n9 w)] :: (bkC n13 (mkC x0 (1)) ++ (bkCs n16 (mkCs x1 ((1 + (wtC x0 : Int)))) ++ (.cells 45 11 [.agg (tvCs n16 x1)] :: (bkCs n23 (mkCs w' (1)) ++ (.cells 35 2 [.agg (tvCs n23 w')] :: (bkC n32 x0 ++ (bkCs n39 x1))))))))))) : List TB)
  have ln57 := hn57.eq
  simp only [List.length_append, List.length_cons, List.length_nil, bkC_len, bkCs_len, mkC_nb, mkCs_nb] at ln57
  have e58_ : ∀ t, (ansSp (toC_S sh_SaS)).fn t [fzC x0] (.cells 79 11 [.agg (fzCs x1)] :: (bkC n2 x0 ++ (bkCs n5 x1 ++ (bkCs n9 w ++ (.cells 35 2 [.agg (tvCs n9 w)] :: (bkC n13 (mkC x0 (1)) ++ (bkCs n16 (mkCs x1 ((1 + (wtC x0 : Int)))) ++ (.cells 45 11 [.agg (tvCs n16 x1)] :: (bkCs n23 (mkCs w' (1)) ++ (.cells 35 2 [.agg (tvCs n23 w')] :: (bkC n32 x0 ++ (bkCs n39 x1))))))))))) : List TB) = some (tvC n57 x0, (.cells 79 11 [.agg (fzCs x1)] :: (bkC n2 x0 ++ (bkCs n5 x1 ++ (bkCs n9 w ++ (.cells 35 2 [.agg (tvCs n9 w)] :: (bkC n13 (mkC x0 (1)) ++ (bkCs n16 (mkCs x1 ((1 + (wtC x0 : Int)))) ++ (.cells 45 11 [.agg (tvCs n16 x1)] :: (bkCs n23 (mkCs w' (1)) ++ (.cells 35 2 [.agg (tvCs n23 w')] :: (bkC n32 x0 ++ (bkCs n39 x1 ++ (bkC n57 x0)))))))))))) : List TB)) := fun t => by
    rw [call_newC (by simp only [List.map_cons, List.map_nil, frz_p, frz_s, frz_agg, frz_fzC, frz_fzCs]; try rfl) (toC_at h0 y0) hn57.eq]; try simp only [List.append_assoc, List.cons_append, List.nil_append, List.append_nil]
  have Ln57 := bkC_len n57 x0
  have g59_ := hold_get (A := ([] : List TB)) (R := (bkC n2 x0 ++ (bkCs n5 x1 ++ (bkCs n9 w ++ (.cells 35 2 [.agg (tvCs n9 w)] :: (bkC n13 (mkC x0 (1)) ++ (bkCs n16 (mkCs x1 ((1 + (wtC x0 : Int)))) ++ (.cells 45 11 [.agg (tvCs n16 x1)] :: (bkCs n23 (mkCs w' (1)) ++ (.cells 35 2 [.agg (tvCs n23 w')] :: (bkC n32 x0 ++ (bkCs n39 x1 ++ (bkC n57 x0))))))))))) : List TB)) (n := n0) (by first | (simp only [List.length_append, List.length_cons, List.length_nil, bkC_len, bkCs_len, mkC_nb, mkCs_nb]; done) | (simp only [List.length_append, List.length_cons, List.length_nil, bkC_len, bkCs_len, mkC_nb, mkCs_nb]; omega))
  try simp only [List.append_assoc, List.cons_append, List.nil_append, List.append_nil] at g59_
  obtain ⟨n60, hn60⟩ := isLen_ex (.cells 79 11 [.agg (fzCs x1)] :: (bkC n2 x0 ++ (bkCs n5 x1 ++ (bkCs n9 w ++ (.cells 35 2 [.agg (tvCs n9 w)] :: (bkC n13 (mkC x0 (1)) ++ (bkCs n16 (mkCs x1 ((1 + (wtC x0 : Int)))) ++ (.cells 45 11 [.agg (tvCs n16 x1)] :: (bkCs n23 (mkCs w' (1)) ++ (.cells 35 2 [.agg (tvCs n23 w')] :: (bkC n32 x0 ++ (bkCs n39 x1 ++ (bkC n57 x0)))))))))))) : List TB)
  have ln60 := hn60.eq
  simp only [List.length_append, List.length_cons, List.length_nil, bkC_len, bkCs_len, mkC_nb, mkCs_nb] at ln60
  have e61_ : ∀ t, (ansSp (toR_S sh_Sa)).fn t [.agg (fzCs x1)] (.cells 79 11 [.agg (fzCs x1)] :: (bkC n2 x0 ++ (bkCs n5 x1 ++ (bkCs n9 w ++ (.cells 35 2 [.agg (tvCs n9 w)] :: (bkC n13 (mkC x0 (1)) ++ (bkCs n16 (mkCs x1 ((1 + (wtC x0 : Int)))) ++ (.cells 45 11 [.agg (tvCs n16 x1)] :: (bkCs n23 (mkCs w' (1)) ++ (.cells 35 2 [.agg (tvCs n23 w')] :: (bkC n32 x0 ++ (bkCs n39 x1 ++ (bkC n57 x0)))))))))))) : List TB) = some (.agg (tvCs n60 x1), (.cells 79 11 [.agg (fzCs x1)] :: (bkC n2 x0 ++ (bkCs n5 x1 ++ (bkCs n9 w ++ (.cells 35 2 [.agg (tvCs n9 w)] :: (bkC n13 (mkC x0 (1)) ++ (bkCs n16 (mkCs x1 ((1 + (wtC x0 : Int)))) ++ (.cells 45 11 [.agg (tvCs n16 x1)] :: (bkCs n23 (mkCs w' (1)) ++ (.cells 35 2 [.agg (tvCs n23 w')] :: (bkC n32 x0 ++ (bkCs n39 x1 ++ (bkC n57 x0 ++ (bkCs n60 x1))))))))))))) : List TB)) := fun t => by
    rw [call_new (by simp only [List.map_cons, List.map_nil, frz_p, frz_s, frz_agg, frz_fzC, frz_fzCs]; try rfl) (toR_at h1 y1) hn60.eq]; try simp only [List.append_assoc, List.cons_append, List.nil_append, List.append_nil]
  have Ln60 := bkCs_len n60 x1
  have f62 : frzT (.cells 79 11 [.agg (fzCs x1)] :: (bkC n2 x0 ++ (bkCs n5 x1 ++ (bkCs n9 w ++ (.cells 35 2 [.agg (tvCs n9 w)] :: (bkC n13 (mkC x0 (1)) ++ (bkCs n16 (mkCs x1 ((1 + (wtC x0 : Int)))) ++ (.cells 45 11 [.agg (tvCs n16 x1)] :: (bkCs n23 (mkCs w' (1)) ++ (.cells 35 2 [.agg (tvCs n23 w')] :: (bkC n32 x0 ++ (bkCs n39 x1 ++ (bkC n57 x0 ++ (bkCs n60 x1))))))))))))) : List TB) 9 (tvC n57 x0) = fzC x0 := by
    have := frzC_in (A := (.cells 79 11 [.agg (fzCs x1)] :: (bkC n2 x0 ++ (bkCs n5 x1 ++ (bkCs n9 w ++ (.cells 35 2 [.agg (tvCs n9 w)] :: (bkC n13 (mkC x0 (1)) ++ (bkCs n16 (mkCs x1 ((1 + (wtC x0 : Int)))) ++ (.cells 45 11 [.agg (tvCs n16 x1)] :: (bkCs n23 (mkCs w' (1)) ++ (.cells 35 2 [.agg (tvCs n23 w')] :: (bkC n32 x0 ++ (bkCs n39 x1))))))))))) : List TB)) (B := (bkCs n60 x1 : List TB)) (c := x0) (n := n57) (by first | (simp only [List.length_append, List.length_cons, List.length_nil, bkC_len, bkCs_len, mkC_nb, mkCs_nb]; done) | (simp only [List.length_append, List.length_cons, List.length_nil, bkC_len, bkCs_len, mkC_nb, mkCs_nb]; omega)) (by first | assumption | (rw [mkC_dp]; assumption))
    (try simp only [List.append_assoc, List.cons_append, List.nil_append, List.append_nil, mkC_tv, mkCs_tv] at this); (try simp only [List.append_assoc, List.cons_append, List.nil_append, List.append_nil, mkC_tv, mkCs_tv]); exact this
  have f63 : frzT (.cells 79 11 [.agg (fzCs x1)] :: (bkC n2 x0 ++ (bkCs n5 x1 ++ (bkCs n9 w ++ (.cells 35 2 [.agg (tvCs n9 w)] :: (bkC n13 (mkC x0 (1)) ++ (bkCs n16 (mkCs x1 ((1 + (wtC x0 : Int)))) ++ (.cells 45 11 [.agg (tvCs n16 x1)] :: (bkCs n23 (mkCs w' (1)) ++ (.cells 35 2 [.agg (tvCs n23 w')] :: (bkC n32 x0 ++ (bkCs n39 x1 ++ (bkC n57 x0 ++ (bkCs n60 x1))))))))))))) : List TB) 9 (.agg (tvCs n60 x1)) = .agg (fzCs x1) := by
    have := frz_in (A := (.cells 79 11 [.agg (fzCs x1)] :: (bkC n2 x0 ++ (bkCs n5 x1 ++ (bkCs n9 w ++ (.cells 35 2 [.agg (tvCs n9 w)] :: (bkC n13 (mkC x0 (1)) ++ (bkCs n16 (mkCs x1 ((1 + (wtC x0 : Int)))) ++ (.cells 45 11 [.agg (tvCs n16 x1)] :: (bkCs n23 (mkCs w' (1)) ++ (.cells 35 2 [.agg (tvCs n23 w')] :: (bkC n32 x0 ++ (bkCs n39 x1 ++ (bkC n57 x0)))))))))))) : List TB)) (B := ([] : List TB)) (w := x1) (n := n60) (by first | (simp only [List.length_append, List.length_cons, List.length_nil, bkC_len, bkCs_len, mkC_nb, mkCs_nb]; done) | (simp only [List.length_append, List.length_cons, List.length_nil, bkC_len, bkCs_len, mkC_nb, mkCs_nb]; omega)) (by first | assumption | (rw [mkCs_dp]; assumption))
    (try simp only [List.append_assoc, List.cons_append, List.nil_append, List.append_nil, mkC_tv, mkCs_tv] at this); (try simp only [List.append_assoc, List.cons_append, List.nil_append, List.append_nil, mkC_tv, mkCs_tv]); exact this
  obtain ⟨n64, hn64⟩ := isLen_ex (.cells 79 11 [.agg (fzCs x1)] :: (bkC n2 x0 ++ (bkCs n5 x1 ++ (bkCs n9 w ++ (.cells 35 2 [.agg (tvCs n9 w)] :: (bkC n13 (mkC x0 (1)) ++ (bkCs n16 (mkCs x1 ((1 + (wtC x0 : Int)))) ++ (.cells 45 11 [.agg (tvCs n16 x1)] :: (bkCs n23 (mkCs w' (1)) ++ (.cells 35 2 [.agg (tvCs n23 w')] :: (bkC n32 x0 ++ (bkCs n39 x1 ++ (bkC n57 x0 ++ (bkCs n60 x1))))))))))))) : List TB)
  have ln64 := hn64.eq
  simp only [List.length_append, List.length_cons, List.length_nil, bkC_len, bkCs_len, mkC_nb, mkCs_nb] at ln64
  have e65_ : ∀ t, (ansSp Si).fn t [tvC n57 x0, .agg (tvCs n60 x1)] (.cells 79 11 [.agg (fzCs x1)] :: (bkC n2 x0 ++ (bkCs n5 x1 ++ (bkCs n9 w ++ (.cells 35 2 [.agg (tvCs n9 w)] :: (bkC n13 (mkC x0 (1)) ++ (bkCs n16 (mkCs x1 ((1 + (wtC x0 : Int)))) ++ (.cells 45 11 [.agg (tvCs n16 x1)] :: (bkCs n23 (mkCs w' (1)) ++ (.cells 35 2 [.agg (tvCs n23 w')] :: (bkC n32 x0 ++ (bkCs n39 x1 ++ (bkC n57 x0 ++ (bkCs n60 x1))))))))))))) : List TB) = some (.agg (tvCs n64 w'), (.cells 79 11 [.agg (fzCs x1)] :: (bkC n2 x0 ++ (bkCs n5 x1 ++ (bkCs n9 w ++ (.cells 35 2 [.agg (tvCs n9 w)] :: (bkC n13 (mkC x0 (1)) ++ (bkCs n16 (mkCs x1 ((1 + (wtC x0 : Int)))) ++ (.cells 45 11 [.agg (tvCs n16 x1)] :: (bkCs n23 (mkCs w' (1)) ++ (.cells 35 2 [.agg (tvCs n23 w')] :: (bkC n32 x0 ++ (bkCs n39 x1 ++ (bkC n57 x0 ++ (bkCs n60 x1 ++ (bkCs n64 w')))))))))))))) : List TB)) := fun t => by
    rw [call_new (by simp only [List.map_cons, List.map_nil, frz_p, frz_s, frz_agg, frz_fzC, frz_fzCs, f62, f63]; try rfl) (wI) hn64.eq]; try simp only [List.append_assoc, List.cons_append, List.nil_append, List.append_nil]
  have Ln64 := bkCs_len n64 w'
  obtain ⟨n66, hn66⟩ := isLen_ex (.cells 79 11 [.agg (fzCs x1)] :: (bkC n2 x0 ++ (bkCs n5 x1 ++ (bkCs n9 w ++ (.cells 35 2 [.agg (tvCs n9 w)] :: (bkC n13 (mkC x0 (1)) ++ (bkCs n16 (mkCs x1 ((1 + (wtC x0 : Int)))) ++ (.cells 45 11 [.agg (tvCs n16 x1)] :: (bkCs n23 (mkCs w' (1)) ++ (.cells 35 2 [.agg (tvCs n23 w')] :: (bkC n32 x0 ++ (bkCs n39 x1 ++ (bkC n57 x0 ++ (bkCs n60 x1 ++ (bkCs n64 w')))))))))))))) : List TB)
  have ln66 := hn66.eq
  simp only [List.length_append, List.length_cons, List.length_nil, bkC_len, bkCs_len, mkC_nb, mkCs_nb] at ln66
  have g67_ := hold_get (A := (.cells 79 11 [.agg (fzCs x1)] :: (bkC n2 x0 ++ (bkCs n5 x1 ++ (bkCs n9 w ++ (.cells 35 2 [.agg (tvCs n9 w)] :: (bkC n13 (mkC x0 (1)) ++ (bkCs n16 (mkCs x1 ((1 + (wtC x0 : Int)))) ++ (.cells 45 11 [.agg (tvCs n16 x1)] :: (bkCs n23 (mkCs w' (1)) ++ (.cells 35 2 [.agg (tvCs n23 w')] :: (bkC n32 x0 ++ (bkCs n39 x1 ++ (bkC n57 x0 ++ (bkCs n60 x1 ++ (bkCs n64 w')))))))))))))) : List TB)) (R := ([] : List TB)) (n := n66) (by first | (simp only [List.length_append, List.length_cons, List.length_nil, bkC_len, bkCs_len, mkC_nb, mkCs_nb]; done) | (simp only [List.length_append, List.length_cons, List.length_nil, bkC_len, bkCs_len, mkC_nb, mkCs_nb]; omega))
  try simp only [List.append_assoc, List.cons_append, List.nil_append, List.append_nil] at g67_
  have g67_s := hold_set (A := (.cells 79 11 [.agg (fzCs x1)] :: (bkC n2 x0 ++ (bkCs n5 x1 ++ (bkCs n9 w ++ (.cells 35 2 [.agg (tvCs n9 w)] :: (bkC n13 (mkC x0 (1)) ++ (bkCs n16 (mkCs x1 ((1 + (wtC x0 : Int)))) ++ (.cells 45 11 [.agg (tvCs n16 x1)] :: (bkCs n23 (mkCs w' (1)) ++ (.cells 35 2 [.agg (tvCs n23 w')] :: (bkC n32 x0 ++ (bkCs n39 x1 ++ (bkC n57 x0 ++ (bkCs n60 x1 ++ (bkCs n64 w')))))))))))))) : List TB)) (R := ([] : List TB)) (n := n66) (by first | (simp only [List.length_append, List.length_cons, List.length_nil, bkC_len, bkCs_len, mkC_nb, mkCs_nb]; done) | (simp only [List.length_append, List.length_cons, List.length_nil, bkC_len, bkCs_len, mkC_nb, mkCs_nb]; omega))
  try simp only [List.append_assoc, List.cons_append, List.nil_append, List.append_nil] at g67_s
  have g68_ := hold_get (A := (.cells 79 11 [.agg (fzCs x1)] :: (bkC n2 x0 ++ (bkCs n5 x1 ++ (bkCs n9 w ++ (.cells 35 2 [.agg (tvCs n9 w)] :: (bkC n13 (mkC x0 (1)) ++ (bkCs n16 (mkCs x1 ((1 + (wtC x0 : Int)))) ++ (.cells 45 11 [.agg (tvCs n16 x1)] :: (bkCs n23 (mkCs w' (1)) ++ (.cells 35 2 [.agg (tvCs n23 w')] :: (bkC n32 x0 ++ (bkCs n39 x1 ++ (bkC n57 x0 ++ (bkCs n60 x1 ++ (bkCs n64 w')))))))))))))) : List TB)) (R := ([] : List TB)) (n := n66) (by first | (simp only [List.length_append, List.length_cons, List.length_nil, bkC_len, bkCs_len, mkC_nb, mkCs_nb]; done) | (simp only [List.length_append, List.length_cons, List.length_nil, bkC_len, bkCs_len, mkC_nb, mkCs_nb]; omega))
  try simp only [List.append_assoc, List.cons_append, List.nil_append, List.append_nil] at g68_
  have g69_ := hold_get (A := (.cells 79 11 [.agg (fzCs x1)] :: (bkC n2 x0 ++ (bkCs n5 x1 ++ (bkCs n9 w))) : List TB)) (R := (bkC n13 (mkC x0 (1)) ++ (bkCs n16 (mkCs x1 ((1 + (wtC x0 : Int)))) ++ (.cells 45 11 [.agg (tvCs n16 x1)] :: (bkCs n23 (mkCs w' (1)) ++ (.cells 35 2 [.agg (tvCs n23 w')] :: (bkC n32 x0 ++ (bkCs n39 x1 ++ (bkC n57 x0 ++ (bkCs n60 x1 ++ (bkCs n64 w' ++ ([.cells 35 2 [.agg (tvCs n64 w')]])))))))))) : List TB)) (n := n11) (by first | (simp only [List.length_append, List.length_cons, List.length_nil, bkC_len, bkCs_len, mkC_nb, mkCs_nb]; done) | (simp only [List.length_append, List.length_cons, List.length_nil, bkC_len, bkCs_len, mkC_nb, mkCs_nb]; omega))
  try simp only [List.append_assoc, List.cons_append, List.nil_append, List.append_nil] at g69_
  have f70 : frzT (.cells 79 11 [.agg (fzCs x1)] :: (bkC n2 x0 ++ (bkCs n5 x1 ++ (bkCs n9 w ++ (.cells 35 2 [.agg (tvCs n9 w)] :: (bkC n13 (mkC x0 (1)) ++ (bkCs n16 (mkCs x1 ((1 + (wtC x0 : Int)))) ++ (.cells 45 11 [.agg (tvCs n16 x1)] :: (bkCs n23 (mkCs w' (1)) ++ (.cells 35 2 [.agg (tvCs n23 w')] :: (bkC n32 x0 ++ (bkCs n39 x1 ++ (bkC n57 x0 ++ (bkCs n60 x1 ++ (bkCs n64 w' ++ ([.cells 35 2 [.agg (tvCs n64 w')]]))))))))))))))) : List TB) 9 (.agg (tvCs n64 w')) = .agg (fzCs w') := by
    have := frz_in (A := (.cells 79 11 [.agg (fzCs x1)] :: (bkC n2 x0 ++ (bkCs n5 x1 ++ (bkCs n9 w ++ (.cells 35 2 [.agg (tvCs n9 w)] :: (bkC n13 (mkC x0 (1)) ++ (bkCs n16 (mkCs x1 ((1 + (wtC x0 : Int)))) ++ (.cells 45 11 [.agg (tvCs n16 x1)] :: (bkCs n23 (mkCs w' (1)) ++ (.cells 35 2 [.agg (tvCs n23 w')] :: (bkC n32 x0 ++ (bkCs n39 x1 ++ (bkC n57 x0 ++ (bkCs n60 x1))))))))))))) : List TB)) (B := ([.cells 35 2 [.agg (tvCs n64 w')]] : List TB)) (w := w') (n := n64) (by first | (simp only [List.length_append, List.length_cons, List.length_nil, bkC_len, bkCs_len, mkC_nb, mkCs_nb]; done) | (simp only [List.length_append, List.length_cons, List.length_nil, bkC_len, bkCs_len, mkC_nb, mkCs_nb]; omega)) (by first | assumption | (rw [mkCs_dp]; assumption))
    (try simp only [List.append_assoc, List.cons_append, List.nil_append, List.append_nil, mkC_tv, mkCs_tv] at this); (try simp only [List.append_assoc, List.cons_append, List.nil_append, List.append_nil, mkC_tv, mkCs_tv]); exact this
  have f71 : frzT (.cells 79 11 [.agg (fzCs x1)] :: (bkC n2 x0 ++ (bkCs n5 x1 ++ (bkCs n9 w ++ (.cells 35 2 [.agg (tvCs n9 w)] :: (bkC n13 (mkC x0 (1)) ++ (bkCs n16 (mkCs x1 ((1 + (wtC x0 : Int)))) ++ (.cells 45 11 [.agg (tvCs n16 x1)] :: (bkCs n23 (mkCs w' (1)) ++ (.cells 35 2 [.agg (tvCs n23 w')] :: (bkC n32 x0 ++ (bkCs n39 x1 ++ (bkC n57 x0 ++ (bkCs n60 x1 ++ (bkCs n64 w' ++ ([.cells 35 2 [.agg (tvCs n64 w')]]))))))))))))))) : List TB) 9 (.agg (tvCs n9 w)) = .agg (fzCs w) := by
    have := frz_in (A := (.cells 79 11 [.agg (fzCs x1)] :: (bkC n2 x0 ++ (bkCs n5 x1)) : List TB)) (B := (.cells 35 2 [.agg (tvCs n9 w)] :: (bkC n13 (mkC x0 (1)) ++ (bkCs n16 (mkCs x1 ((1 + (wtC x0 : Int)))) ++ (.cells 45 11 [.agg (tvCs n16 x1)] :: (bkCs n23 (mkCs w' (1)) ++ (.cells 35 2 [.agg (tvCs n23 w')] :: (bkC n32 x0 ++ (bkCs n39 x1 ++ (bkC n57 x0 ++ (bkCs n60 x1 ++ (bkCs n64 w' ++ ([.cells 35 2 [.agg (tvCs n64 w')]]))))))))))) : List TB)) (w := w) (n := n9) (by first | (simp only [List.length_append, List.length_cons, List.length_nil, bkC_len, bkCs_len, mkC_nb, mkCs_nb]; done) | (simp only [List.length_append, List.length_cons, List.length_nil, bkC_len, bkCs_len, mkC_nb, mkCs_nb]; omega)) (by first | assumption | (rw [mkCs_dp]; assumption))
    (try simp only [List.append_assoc, List.cons_append, List.nil_append, List.append_nil, mkC_tv, mkCs_tv] at this); (try simp only [List.append_assoc, List.cons_append, List.nil_append, List.append_nil, mkC_tv, mkCs_tv]); exact this
  have e72_ : ∀ t, (ansSp (eqR_S sh_SasResult)).fn t [.agg (tvCs n64 w'), .agg (tvCs n9 w)] (.cells 79 11 [.agg (fzCs x1)] :: (bkC n2 x0 ++ (bkCs n5 x1 ++ (bkCs n9 w ++ (.cells 35 2 [.agg (tvCs n9 w)] :: (bkC n13 (mkC x0 (1)) ++ (bkCs n16 (mkCs x1 ((1 + (wtC x0 : Int)))) ++ (.cells 45 11 [.agg (tvCs n16 x1)] :: (bkCs n23 (mkCs w' (1)) ++ (.cells 35 2 [.agg (tvCs n23 w')] :: (bkC n32 x0 ++ (bkCs n39 x1 ++ (bkC n57 x0 ++ (bkCs n60 x1 ++ (bkCs n64 w' ++ ([.cells 35 2 [.agg (tvCs n64 w')]]))))))))))))))) : List TB) = some (.p (.bool true), (.cells 79 11 [.agg (fzCs x1)] :: (bkC n2 x0 ++ (bkCs n5 x1 ++ (bkCs n9 w ++ (.cells 35 2 [.agg (tvCs n9 w)] :: (bkC n13 (mkC x0 (1)) ++ (bkCs n16 (mkCs x1 ((1 + (wtC x0 : Int)))) ++ (.cells 45 11 [.agg (tvCs n16 x1)] :: (bkCs n23 (mkCs w' (1)) ++ (.cells 35 2 [.agg (tvCs n23 w')] :: (bkC n32 x0 ++ (bkCs n39 x1 ++ (bkC n57 x0 ++ (bkCs n60 x1 ++ (bkCs n64 w' ++ ([.cells 35 2 [.agg (tvCs n64 w')]]))))))))))))))) : List TB)) := fun t => call_val (by simp only [List.map_cons, List.map_nil, frz_p, frz_s, frz_agg, frz_fzC, frz_fzCs, wE, f70, f71]; try rfl) (eqR_at fI (Nat.le_trans sI (by decide)))
  have g73_ := hold_get (A := (.cells 79 11 [.agg (fzCs x1)] :: (bkC n2 x0 ++ (bkCs n5 x1 ++ (bkCs n9 w ++ (.cells 35 2 [.agg (tvCs n9 w)] :: (bkC n13 (mkC x0 (1)) ++ (bkCs n16 (mkCs x1 ((1 + (wtC x0 : Int)))) ++ (.cells 45 11 [.agg (tvCs n16 x1)] :: (bkCs n23 (mkCs w' (1)))))))))) : List TB)) (R := (bkC n32 x0 ++ (bkCs n39 x1 ++ (bkC n57 x0 ++ (bkCs n60 x1 ++ (bkCs n64 w' ++ ([.cells 35 2 [.agg (tvCs n64 w')]]))))) : List TB)) (n := n25) (by first | (simp only [List.length_append, List.length_cons, List.length_nil, bkC_len, bkCs_len, mkC_nb, mkCs_nb]; done) | (simp only [List.length_append, List.length_cons, List.length_nil, bkC_len, bkCs_len, mkC_nb, mkCs_nb]; omega))
  try simp only [List.append_assoc, List.cons_append, List.nil_append, List.append_nil] at g73_
  have f74 : frzT (.cells 79 11 [.agg (fzCs x1)] :: (bkC n2 x0 ++ (bkCs n5 x1 ++ (bkCs n9 w ++ (.cells 35 2 [.agg (tvCs n9 w)] :: (bkC n13 (mkC x0 (1)) ++ (bkCs n16 (mkCs x1 ((1 + (wtC x0 : Int)))) ++ (.cells 45 11 [.agg (tvCs n16 x1)] :: (bkCs n23 (mkCs w' (1)) ++ (.cells 35 2 [.agg (tvCs n23 w')] :: (bkC n32 x0 ++ (bkCs n39 x1 ++ (bkC n57 x0 ++ (bkCs n60 x1 ++ (bkCs n64 w' ++ ([.cells 35 2 [.agg (tvCs n64 w')]]))))))))))))))) : List TB) 9 (.agg (tvCs n23 w')) = .agg (fzCs (mkCs w' (1))) := by
    have := frz_in (A := (.cells 79 11 [.agg (fzCs x1)] :: (bkC n2 x0 ++ (bkCs n5 x1 ++ (bkCs n9 w ++ (.cells 35 2 [.agg (tvCs n9 w)] :: (bkC n13 (mkC x0 (1)) ++ (bkCs n16 (mkCs x1 ((1 + (wtC x0 : Int)))) ++ ([.cells 45 11 [.agg (tvCs n16 x1)]]))))))) : List TB)) (B := (.cells 35 2 [.agg (tvCs n23 w')] :: (bkC n32 x0 ++ (bkCs n39 x1 ++ (bkC n57 x0 ++ (bkCs n60 x1 ++ (bkCs n64 w' ++ ([.cells 35 2 [.agg (tvCs n64 w')]])))))) : List TB)) (w := (mkCs w' (1))) (n := n23) (by first | (simp only [List.length_append, List.length_cons, List.length_nil, bkC_len, bkCs_len, mkC_nb, mkCs_nb]; done) | (simp only [List.length_append, List.length_cons, List.length_nil, bkC_len, bkCs_len, mkC_nb, mkCs_nb]; omega)) (by first | assumption | (rw [mkCs_dp]; assumption))
    (try simp only [List.append_assoc, List.cons_append, List.nil_append, List.append_nil, mkC_tv, mkCs_tv] at this); (try simp only [List.append_assoc, List.cons_append, List.nil_append, List.append_nil, mkC_tv, mkCs_tv]); exact this
  have e75_ : ∀ t, (ansSp (hdR_S sh_SasResult)).fn t [.agg (tvCs n23 w'), .p (.int .i64 1)] (.cells 79 11 [.agg (fzCs x1)] :: (bkC n2 x0 ++ (bkCs n5 x1 ++ (bkCs n9 w ++ (.cells 35 2 [.agg (tvCs n9 w)] :: (bkC n13 (mkC x0 (1)) ++ (bkCs n16 (mkCs x1 ((1 + (wtC x0 : Int)))) ++ (.cells 45 11 [.agg (tvCs n16 x1)] :: (bkCs n23 (mkCs w' (1)) ++ (.cells 35 2 [.agg (tvCs n23 w')] :: (bkC n32 x0 ++ (bkCs n39 x1 ++ (bkC n57 x0 ++ (bkCs n60 x1 ++ (bkCs n64 w' ++ ([.cells 35 2 [.agg (tvCs n64 w')]]))))))))))))))) : List TB) = some (.p (.int .i64 (1 + (wtCs w' : Int))), (.cells 79 11 [.agg (fzCs x1)] :: (bkC n2 x0 ++ (bkCs n5 x1 ++ (bkCs n9 w ++ (.cells 35 2 [.agg (tvCs n9 w)] :: (bkC n13 (mkC x0 (1)) ++ (bkCs n16 (mkCs x1 ((1 + (wtC x0 : Int)))) ++ (.cells 45 11 [.agg (tvCs n16 x1)] :: (bkCs n23 (mkCs w' (1)) ++ (.cells 35 2 [.agg (tvCs n23 w')] :: (bkC n32 x0 ++ (bkCs n39 x1 ++ (bkC n57 x0 ++ (bkCs n60 x1 ++ (bkCs n64 w' ++ ([.cells 35 2 [.agg (tvCs n64 w')]]))))))))))))))) : List TB)) := fun t => call_val (by simp only [List.map_cons, List.map_nil, frz_p, frz_s, frz_agg, frz_fzC, frz_fzCs, f74]; try rfl) (hdR_at (k := 1) fI (by omega) (by omega))
  simp (maxSteps := 8000000) -implicitDefEqProofs (disch := omega) only [↓reduceIte, go_sem, len1, fzCs_len, fzCs_one, lenS, lenI, tvCs_len, tvCs_one, eq_false (show ¬ (1 + (wtCs w' : Int) < 0) by omega), g54_, e56_, eq_false (show ¬ (1 + (wtCs w' : Int) < 0) by omega), ↓hn57.eq, e58_, g59_, ↓hn60.eq, e61_, ↓hn64.eq, e65_, ↓hn66.eq, g67_, g67_s, g68_, g69_, e72_, g73_, e75_, eq_false (show ¬ (1 + (wtCs w' : Int) < 0) by omega), not_true, decide_false, not_false_eq_true]
  exact endT_p (.inr rfl) (by (simp (maxSteps := 8000000) -implicitDefEqProofs (disch := omega) only [↓reduceIte, go_sem]) <;> rfl) rfl
end Go.Proofs.Ytghpdclhhnbgjaa
