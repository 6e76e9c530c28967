import Derived.Test.YtngebdcbcliobaaU2
set_option linter.unusedSimpArgs false
set_option linter.unusedVariables false
set_option maxRecDepth 100000
set_option maxHeartbeats 4000000
namespace Go.Proofs.Ytngebdcbcliobaa
open Go Go.AH
attribute [local irreducible] awpT ropsT qopsT stepT condKT gdKT EndT joinK loopKT seqKT blkKT kont kontR
/-! SaResult -/
def sh_SaResult : List Shp := [.i .i64, .i .i64, .i .i64, .i .i64, .i .i64, .b, .i .i64, .i .i64, .i .i64, .i .i64, .i .i64, .i .i64, sh_SelS]
theorem sh_SaResult_Has {cs : List Cell} (h : HasR sh_SaResult cs) : ∃ (a0 : Int) (a1 : Int) (a2 : Int) (a3 : Int) (a4 : Int) (a5 : Bool) (a6 : Int) (a7 : Int) (a8 : Int) (a9 : Int) (a10 : Int) (a11 : Int) (c12 : Cell), cs = [.v (.int .i64 a0), .v (.int .i64 a1), .v (.int .i64 a2), .v (.int .i64 a3), .v (.int .i64 a4), .v (.bool a5), .v (.int .i64 a6), .v (.int .i64 a7), .v (.int .i64 a8), .v (.int .i64 a9), .v (.int .i64 a10), .v (.int .i64 a11), c12] ∧ HasC sh_SelS c12 := by
  obtain ⟨_, _, rfl, ⟨a0, rfl⟩, _, _, rfl, ⟨a1, rfl⟩, _, _, rfl, ⟨a2, rfl⟩, _, _, rfl, ⟨a3, rfl⟩, _, _, rfl, ⟨a4, rfl⟩, _, _, rfl, ⟨a5, rfl⟩, _, _, rfl, ⟨a6, rfl⟩, _, _, rfl, ⟨a7, rfl⟩, _, _, rfl, ⟨a8, rfl⟩, _, _, rfl, ⟨a9, rfl⟩, _, _, rfl, ⟨a10, rfl⟩, _, _, rfl, ⟨a11, rfl⟩, c12, _, rfl, hc12, h⟩ := h
  simp only [HasR] at h; subst h
  exact ⟨a0, a1, a2, a3, a4, a5, a6, a7, a8, a9, a10, a11, c12, rfl, hc12⟩
theorem sh_SaResult_mkHas {c12 : Cell} (hc12 : HasC sh_SelS c12) (a0 : Int) (a1 : Int) (a2 : Int) (a3 : Int) (a4 : Int) (a5 : Bool) (a6 : Int) (a7 : Int) (a8 : Int) (a9 : Int) (a10 : Int) (a11 : Int) : HasR sh_SaResult [.v (.int .i64 a0), .v (.int .i64 a1), .v (.int .i64 a2), .v (.int .i64 a3), .v (.int .i64 a4), .v (.bool a5), .v (.int .i64 a6), .v (.int .i64 a7), .v (.int .i64 a8), .v (.int .i64 a9), .v (.int .i64 a10), .v (.int .i64 a11), c12] := by
  exact ⟨_, _, rfl, ⟨_, rfl⟩, _, _, rfl, ⟨_, rfl⟩, _, _, rfl, ⟨_, rfl⟩, _, _, rfl, ⟨_, rfl⟩, _, _, rfl, ⟨_, rfl⟩, _, _, rfl, ⟨_, rfl⟩, _, _, rfl, ⟨_, rfl⟩, _, _, rfl, ⟨_, rfl⟩, _, _, rfl, ⟨_, rfl⟩, _, _, rfl, ⟨_, rfl⟩, _, _, rfl, ⟨_, rfl⟩, _, _, rfl, ⟨_, rfl⟩, _, _, rfl, hc12, rfl⟩
theorem sh_SaResult_Fit {cs : List Cell} (h : FitR sh_SaResult cs) : ∃ (a0 : Int) (a1 : Int) (a2 : Int) (a3 : Int) (a4 : Int) (a5 : Bool) (a6 : Int) (a7 : Int) (a8 : Int) (a9 : Int) (a10 : Int) (a11 : Int) (c12 : Cell), cs = [.v (.int .i64 a0), .v (.int .i64 a1), .v (.int .i64 a2), .v (.int .i64 a3), .v (.int .i64 a4), .v (.bool a5), .v (.int .i64 a6), .v (.int .i64 a7), .v (.int .i64 a8), .v (.int .i64 a9), .v (.int .i64 a10), .v (.int .i64 a11), c12] ∧ FitC sh_SelS c12 := by
  obtain ⟨_, _, rfl, ⟨a0, rfl⟩, _, _, rfl, ⟨a1, rfl⟩, _, _, rfl, ⟨a2, rfl⟩, _, _, rfl, ⟨a3, rfl⟩, _, _, rfl, ⟨a4, rfl⟩, _, _, rfl, ⟨a5, rfl⟩, _, _, rfl, ⟨a6, rfl⟩, _, _, rfl, ⟨a7, rfl⟩, _, _, rfl, ⟨a8, rfl⟩, _, _, rfl, ⟨a9, rfl⟩, _, _, rfl, ⟨a10, rfl⟩, _, _, rfl, ⟨a11, rfl⟩, c12, _, rfl, hc12, h⟩ := h
  simp only [FitR] at h; subst h
  exact ⟨a0, a1, a2, a3, a4, a5, a6, a7, a8, a9, a10, a11, c12, rfl, hc12⟩
theorem sh_SaResult_mkFit {c12 : Cell} (hc12 : FitC sh_SelS c12) (a0 : Int) (a1 : Int) (a2 : Int) (a3 : Int) (a4 : Int) (a5 : Bool) (a6 : Int) (a7 : Int) (a8 : Int) (a9 : Int) (a10 : Int) (a11 : Int) : FitR sh_SaResult [.v (.int .i64 a0), .v (.int .i64 a1), .v (.int .i64 a2), .v (.int .i64 a3), .v (.int .i64 a4), .v (.bool a5), .v (.int .i64 a6), .v (.int .i64 a7), .v (.int .i64 a8), .v (.int .i64 a9), .v (.int .i64 a10), .v (.int .i64 a11), c12] := by
  exact ⟨_, _, rfl, ⟨_, rfl⟩, _, _, rfl, ⟨_, rfl⟩, _, _, rfl, ⟨_, rfl⟩, _, _, rfl, ⟨_, rfl⟩, _, _, rfl, ⟨_, rfl⟩, _, _, rfl, ⟨_, rfl⟩, _, _, rfl, ⟨_, rfl⟩, _, _, rfl, ⟨_, rfl⟩, _, _, rfl, ⟨_, rfl⟩, _, _, rfl, ⟨_, rfl⟩, _, _, rfl, ⟨_, rfl⟩, _, _, rfl, ⟨_, rfl⟩, _, _, rfl, hc12, rfl⟩
theorem eq_SaResult_at {c12 : Cell} (hc12 : FitC sh_SelS c12) (hz : szC c12 ≤ 1099511627776) (a0 : Int) (a1 : Int) (a2 : Int) (a3 : Int) (a4 : Int) (a5 : Bool) (a6 : Int) (a7 : Int) (a8 : Int) (a9 : Int) (a10 : Int) (a11 : Int) : eqR_S sh_SaResult [.agg [.p (.int .i64 a0), .p (.int .i64 a1), .p (.int .i64 a2), .p (.int .i64 a3), .p (.int .i64 a4), .p (.bool a5), .p (.int .i64 a6), .p (.int .i64 a7), .p (.int .i64 a8), .p (.int .i64 a9), .p (.int .i64 a10), .p (.int .i64 a11), fzC c12], .agg [.p (.int .i64 a0), .p (.int .i64 a1), .p (.int .i64 a2), .p (.int .i64 a3), .p (.int .i64 a4), .p (.bool a5), .p (.int .i64 a6), .p (.int .i64 a7), .p (.int .i64 a8), .p (.int .i64 a9), .p (.int .i64 a10), .p (.int .i64 a11), fzC c12]] = some (.p (.bool true), []) := by
  exact eqR_at (sh_SaResult_mkFit hc12 a0 a1 a2 a3 a4 a5 a6 a7 a8 a9 a10 a11) (by simp only [szCs, szC]; omega)
-- laws.eqSaResult
def c34 : AF := ⟨21,
  (.seq (.reg [⟨(some 2), none, .box 56 (.t 0)⟩,
   ⟨(some 3), none, .box 56 (.t 1)⟩,
   ⟨(some 4), none, .mv (.v (.bool false))⟩])
  (.seq (.seq (.reg [⟨(some 5), none, .fa (.t 2) 0⟩,
   ⟨(some 6), none, .ld (.t 5)⟩,
   ⟨(some 7), none, .fa (.t 3) 0⟩,
   ⟨(some 8), none, .ld (.t 7)⟩,
   ⟨(some 9), none, .bin .neq (.t 6) (.t 8)⟩])
  (.cond (.t 9) (.seq (.reg [⟨(some 4), none, .mv (.v (.bool false))⟩])
  .ret)
  .skip))
  (.seq (.seq (.reg [⟨(some 10), none, .fa (.t 2) 1⟩,
   ⟨(some 11), none, .ld (.t 10)⟩,
   ⟨(some 12), none, .fa (.t 3) 1⟩,
   ⟨(some 13), none, .ld (.t 12)⟩,
   ⟨(some 14), none, .bin .neq (.t 11) (.t 13)⟩])
  (.cond (.t 14) (.seq (.reg [⟨(some 4), none, .mv (.v (.bool false))⟩])
  .ret)
  .skip))
  (.seq (.seq (.reg [⟨(some 15), none, .fa (.t 2) 2⟩,
   ⟨(some 16), none, .ldn 11 (.t 15)⟩,
   ⟨(some 17), none, .fa (.t 3) 2⟩,
   ⟨(some 18), none, .ldn 11 (.t 17)⟩,
   ⟨(some 19), none, .call 19 [(.t 16), (.t 18)]⟩,
   ⟨(some 20), none, .un .not (.t 19)⟩])
  (.cond (.t 20) (.seq (.reg [⟨(some 4), none, .mv (.v (.bool false))⟩])
  .ret)
  .skip))
  (.seq (.reg [⟨(some 4), none, .mv (.v (.bool true))⟩])
  .ret))))),
  [.t 4]⟩
theorem k34 : cFn Try.prog Try.f34 = some c34 := by kernel_rfl
theorem eqSaResult_ok : OkT Try.prog 34 (pureSp (eqR_S sh_SaResult)) := by
  refine okT_eqR (OkΓT.cons eqSa_ok (OkΓT.nil _)) Try.func34 (by kernel_rfl) k34 ?_
  intro c hc hz
  obtain ⟨a0, a1, a2, a3, a4, a5, a6, a7, a8, a9, a10, a11, c12, rfl, hc12⟩ := sh_SaResult_Fit hc
  simp only [szCs, szC] at hz
  simp only [fzCs, fzC]
  (dsimp only [c34]; simp (maxSteps := 8000000) (implicitDefEqProofs := false) (disch := omega) only [↓reduceIte, go_sem, if_pos, if_neg, eq_Sa_at hc12 (by omega)])
  repeat' first
    | (refine gdKT_dec (fun hg => ?_) (fun hg => ?_) <;> (try (first | simp (maxSteps := 8000000) (implicitDefEqProofs := false) (disch := omega) only [↓reduceIte, go_sem, if_pos, if_neg, eq_false hg, eq_Sa_at hc12 (by omega)] | simp (maxSteps := 8000000) (implicitDefEqProofs := false) (disch := omega) only [↓reduceIte, go_sem, if_pos, if_neg, eq_true hg, eq_Sa_at hc12 (by omega)])))
    | (refine condKT_dec (fun hg => ?_) (fun hg => ?_) <;> (try (first | simp (maxSteps := 8000000) (implicitDefEqProofs := false) (disch := omega) only [↓reduceIte, go_sem, if_pos, if_neg, eq_false hg, eq_Sa_at hc12 (by omega)] | simp (maxSteps := 8000000) (implicitDefEqProofs := false) (disch := omega) only [↓reduceIte, go_sem, if_pos, if_neg, eq_true hg, eq_Sa_at hc12 (by omega)])))
    | (refine gdKT_split (fun hg => ?_) (fun hg => ?_) <;> (try simp (maxSteps := 8000000) (implicitDefEqProofs := false) (disch := omega) only [↓reduceIte, go_sem, if_pos, if_neg, hg, eq_Sa_at hc12 (by omega)]))
    | (refine condKT_split (fun hg => ?_) (fun hg => ?_) <;> (try simp (maxSteps := 8000000) (implicitDefEqProofs := false) (disch := omega) only [↓reduceIte, go_sem, if_pos, if_neg, hg, eq_Sa_at hc12 (by omega)]))
    | (refine endT_p (.inr rfl) (by simp (maxSteps := 8000000) (implicitDefEqProofs := false) (disch := omega) only [↓reduceIte, go_sem, if_pos, if_neg, eq_Sa_at hc12 (by omega)]; rfl) ?_; (first | exact vb_true (by omega) | exact vb_false (by omega) | exact vb_dec (by omega) | exact vi_eq (by omega) | rfl | (refine vi_eq ?_; simp_all; done) | (refine vi_eq ?_; simp_all; omega) | (refine vi_eq ?_; simp_all; intros; omega)))
    | exact endT_v (.inr rfl) (by simp (maxSteps := 8000000) (implicitDefEqProofs := false) (disch := omega) only [↓reduceIte, go_sem, if_pos, if_neg, eq_Sa_at hc12 (by omega)]; try rfl) (fun _ => rfl)
theorem hd_SaResult_at {c12 : Cell} (hc12 : FitC sh_SelS c12) {k : Int} (hk : 0 ≤ k) (hz : k + (wtC c12 : Int) ≤ 1099511627776) (a0 : Int) (a1 : Int) (a2 : Int) (a3 : Int) (a4 : Int) (a5 : Bool) (a6 : Int) (a7 : Int) (a8 : Int) (a9 : Int) (a10 : Int) (a11 : Int) : hdR_S sh_SaResult [.agg [.p (.int .i64 a0), .p (.int .i64 a1), .p (.int .i64 a2), .p (.int .i64 a3), .p (.int .i64 a4), .p (.bool a5), .p (.int .i64 a6), .p (.int .i64 a7), .p (.int .i64 a8), .p (.int .i64 a9), .p (.int .i64 a10), .p (.int .i64 a11), fzC (mkC c12 (k))], .p (.int .i64 k)] = some (.p (.int .i64 (k + (wtC c12 : Int))), []) := by
  have := hdR_at (k := k) (sh_SaResult_mkFit hc12 a0 a1 a2 a3 a4 a5 a6 a7 a8 a9 a10 a11) hk (by simp only [wtCs, wtC_v]; omega)
  simp only [mkCs, mkC_v, wtC_v, nat0T, Int.add_zero, fzCs, fzC, wtCs, Nat.zero_add, Nat.add_zero] at this
  exact this
-- laws.heldSaResult
def c37 : AF := ⟨12,
  (.seq (.reg [⟨(some 2), none, .box 56 (.t 0)⟩,
   ⟨(some 4), none, .mv (.v (.int .i64 0))⟩])
  (.seq (.reg [⟨(some 5), none, .fa (.t 2) 2⟩,
   ⟨(some 6), none, .ldn 11 (.t 5)⟩,
   ⟨(some 7), none, .mv (.t 1)⟩,
   ⟨(some 8), none, .call 98 [(.t 6), (.t 7)]⟩,
   ⟨(some 1), none, .mv (.t 8)⟩])
  (.seq (.seq (.reg [⟨(some 9), none, .mv (.t 1)⟩,
   ⟨(some 10), none, .bin .lss (.t 9) (.v (.int .i64 0))⟩])
  (.cond (.t 10) (.seq (.reg [⟨(some 4), none, .mv (.v (.int .i64 (-1)))⟩])
  .ret)
  .skip))
  (.seq (.reg [⟨(some 11), none, .mv (.t 1)⟩,
   ⟨(some 4), none, .mv (.t 11)⟩])
  .ret)))),
  [.t 4]⟩
theorem k37 : cFn Try.prog Try.f37 = some c37 := by kernel_rfl
theorem heldSaResult_ok : OkT Try.prog 37 (pureSp (hdR_S sh_SaResult)) := by
  refine okT_hdR (OkΓT.cons heldSa_ok (OkΓT.nil _)) Try.func37 (by kernel_rfl) k37 ?_
  intro c k hc h1 hz
  obtain ⟨a0, a1, a2, a3, a4, a5, a6, a7, a8, a9, a10, a11, c12, rfl, hc12⟩ := sh_SaResult_Fit hc
  simp only [wtCs, wtC_v, Nat.zero_add, Nat.add_zero] at hz ⊢
  simp only [mkCs, mkC_v, wtC_v, nat0T, Int.add_zero, fzCs, fzC]
  (dsimp only [c37]; simp (maxSteps := 8000000) (implicitDefEqProofs := false) (disch := omega) only [↓reduceIte, go_sem, if_pos, if_neg, hd_Sa_at hc12 (show 0 ≤ k by omega) (by omega)])
  repeat' first
    | (refine gdKT_dec (fun hg => ?_) (fun hg => ?_) <;> (try (first | simp (maxSteps := 8000000) (implicitDefEqProofs := false) (disch := omega) only [↓reduceIte, go_sem, if_pos, if_neg, eq_false hg, hd_Sa_at hc12 (show 0 ≤ k by omega) (by omega)] | simp (maxSteps := 8000000) (implicitDefEqProofs := false) (disch := omega) only [↓reduceIte, go_sem, if_pos, if_neg, eq_true hg, hd_Sa_at hc12 (show 0 ≤ k by omega) (by omega)])))
    | (refine condKT_dec (fun hg => ?_) (fun hg => ?_) <;> (try (first | simp (maxSteps := 8000000) (implicitDefEqProofs := false) (disch := omega) only [↓reduceIte, go_sem, if_pos, if_neg, eq_false hg, hd_Sa_at hc12 (show 0 ≤ k by omega) (by omega)] | simp (maxSteps := 8000000) (implicitDefEqProofs := false) (disch := omega) only [↓reduceIte, go_sem, if_pos, if_neg, eq_true hg, hd_Sa_at hc12 (show 0 ≤ k by omega) (by omega)])))
    | (refine gdKT_split (fun hg => ?_) (fun hg => ?_) <;> (try simp (maxSteps := 8000000) (implicitDefEqProofs := false) (disch := omega) only [↓reduceIte, go_sem, if_pos, if_neg, hg, hd_Sa_at hc12 (show 0 ≤ k by omega) (by omega)]))
    | (refine condKT_split (fun hg => ?_) (fun hg => ?_) <;> (try simp (maxSteps := 8000000) (implicitDefEqProofs := false) (disch := omega) only [↓reduceIte, go_sem, if_pos, if_neg, hg, hd_Sa_at hc12 (show 0 ≤ k by omega) (by omega)]))
    | (refine endT_p (.inr rfl) (by simp (maxSteps := 8000000) (implicitDefEqProofs := false) (disch := omega) only [↓reduceIte, go_sem, if_pos, if_neg, hd_Sa_at hc12 (show 0 ≤ k by omega) (by omega)]; rfl) ?_; (first | exact vb_true (by omega) | exact vb_false (by omega) | exact vb_dec (by omega) | exact vi_eq (by omega) | rfl | (refine vi_eq ?_; simp_all; done) | (refine vi_eq ?_; simp_all; omega) | (refine vi_eq ?_; simp_all; intros; omega)))
    | exact endT_v (.inr rfl) (by simp (maxSteps := 8000000) (implicitDefEqProofs := false) (disch := omega) only [↓reduceIte, go_sem, if_pos, if_neg, hd_Sa_at hc12 (show 0 ≤ k by omega) (by omega)]; try rfl) (fun _ => rfl)
-- laws.markSaResult
def c36 : AF := ⟨10,
  (.seq (.reg [⟨(some 2), none, .box 56 (.t 0)⟩,
   ⟨(some 4), none, .mv (.v (.int .i64 0))⟩])
  (.seq (.reg [⟨(some 5), none, .fa (.t 2) 2⟩,
   ⟨(some 6), none, .ldn 11 (.t 5)⟩,
   ⟨(some 7), none, .mv (.t 1)⟩,
   ⟨(some 8), none, .call 35 [(.t 6), (.t 7)]⟩,
   ⟨(some 1), none, .mv (.t 8)⟩])
  (.seq (.reg [⟨(some 9), none, .mv (.t 1)⟩,
   ⟨(some 4), none, .mv (.t 9)⟩])
  .ret))),
  [.t 4]⟩
theorem k36 : cFn Try.prog Try.f36 = some c36 := by kernel_rfl
theorem markSaResult_ok : OkT Try.prog 36 (mkR_Sp sh_SaResult) := by
  refine okT_mkR (OkΓT.cons markSa_ok (OkΓT.nil _)) Try.func36 (by kernel_rfl) k36 ?_
  intro c k hc h1 hz
  obtain ⟨a0, a1, a2, a3, a4, a5, a6, a7, a8, a9, a10, a11, c12, rfl, hc12⟩ := sh_SaResult_Fit hc
  simp only [wtCs, wtC_v, Nat.zero_add, Nat.add_zero] at hz ⊢
  simp only [mkCs, mkC_v, wtC_v, nat0T, Int.add_zero]
  simp only [tvCs, tvC_v, tvC_nl, tvC_sl, nbC, Nat.add_zero, Nat.zero_add]
  generalize hN : nbCs _ = N
  have l0 : (bkCs 0 [.v (.int .i64 a0), .v (.int .i64 a1), .v (.int .i64 a2), .v (.int .i64 a3), .v (.int .i64 a4), .v (.bool a5), .v (.int .i64 a6), .v (.int .i64 a7), .v (.int .i64 a8), .v (.int .i64 a9), .v (.int .i64 a10), .v (.int .i64 a11), c12]).length = N := by rw [bkCs_len]; exact hN
  (dsimp only [c36]; simp (maxSteps := 8000000) (implicitDefEqProofs := false) (disch := omega) only [↓reduceIte, go_sem, if_pos, if_neg, l0, get_last l0])
  have m0 := fun X => mk_cells (A := [.v (.int .i64 a0), .v (.int .i64 a1)]) (c := [.v (.int .i64 a2), .v (.int .i64 a3), .v (.int .i64 a4), .v (.bool a5), .v (.int .i64 a6), .v (.int .i64 a7), .v (.int .i64 a8), .v (.int .i64 a9), .v (.int .i64 a10), .v (.int .i64 a11), c12]) (B := []) (G := [X]) (n := 0) (k := k) (by simp only [nbCs, nbC, mkC_nb] <;> omega) (sh_Sa_mkFit hc12 a2 a3 a4 a5 a6 a7 a8 a9 a10 a11) (by omega) (by simp only [wtCs, wtC_v]; omega)
  simp only [List.cons_append, List.nil_append, mkCs, mkC_v, wtCs, wtC_v, nat0T, Int.add_zero, Nat.add_zero, Nat.zero_add, tvCs, tvC_v, tvC_nl, tvC_sl, nbC, natAT, ← Int.add_assoc, mkC_tv, mkC_nb] at m0
  have l1 : (bkCs 0 [.v (.int .i64 a0), .v (.int .i64 a1), .v (.int .i64 a2), .v (.int .i64 a3), .v (.int .i64 a4), .v (.bool a5), .v (.int .i64 a6), .v (.int .i64 a7), .v (.int .i64 a8), .v (.int .i64 a9), .v (.int .i64 a10), .v (.int .i64 a11), (mkC c12 (k))]).length = N := by rw [bkCs_len, ← hN]; simp only [nbCs, mkC_nb]
  refine mutQ_call (by simp (maxSteps := 8000000) (implicitDefEqProofs := false) (disch := omega) only [↓reduceIte, go_sem, if_pos, if_neg]; rfl) (by simp (maxSteps := 8000000) (implicitDefEqProofs := false) (disch := omega) only [↓reduceIte, go_sem, if_pos, if_neg]) (m0 _) ?_
  simp (maxSteps := 8000000) (implicitDefEqProofs := false) (disch := omega) only [↓reduceIte, go_sem, if_pos, if_neg, l1, get_last l1]
  exact endK_cells (.inr rfl) (by rw [← hN]; simp only [nbCs, mkC_nb]; omega) (by (simp (maxSteps := 8000000) (implicitDefEqProofs := false) (disch := omega) only [↓reduceIte, go_sem, if_pos, if_neg, natAT, ← Int.add_assoc]) <;> rfl) rfl
/-! SasResult -/
def sh_SasResult : List Shp := [.i .i64, sh_SaS]
theorem sh_SasResult_Has {cs : List Cell} (h : HasR sh_SasResult cs) : ∃ (a0 : Int) (c1 : Cell), cs = [.v (.int .i64 a0), c1] ∧ HasC sh_SaS c1 := by
  obtain ⟨_, _, rfl, ⟨a0, rfl⟩, c1, _, rfl, hc1, h⟩ := h
  simp only [HasR] at h; subst h
  exact ⟨a0, c1, rfl, hc1⟩
theorem sh_SasResult_mkHas {c1 : Cell} (hc1 : HasC sh_SaS c1) (a0 : Int) : HasR sh_SasResult [.v (.int .i64 a0), c1] := by
  exact ⟨_, _, rfl, ⟨_, rfl⟩, _, _, rfl, hc1, rfl⟩
theorem sh_SasResult_Fit {cs : List Cell} (h : FitR sh_SasResult cs) : ∃ (a0 : Int) (c1 : Cell), cs = [.v (.int .i64 a0), c1] ∧ FitC sh_SaS c1 := by
  obtain ⟨_, _, rfl, ⟨a0, rfl⟩, c1, _, rfl, hc1, h⟩ := h
  simp only [FitR] at h; subst h
  exact ⟨a0, c1, rfl, hc1⟩
theorem sh_SasResult_mkFit {c1 : Cell} (hc1 : FitC sh_SaS c1) (a0 : Int) : FitR sh_SasResult [.v (.int .i64 a0), c1] := by
  exact ⟨_, _, rfl, ⟨_, rfl⟩, _, _, rfl, hc1, rfl⟩
theorem eq_SasResult_at {c1 : Cell} (hc1 : FitC sh_SaS c1) (hz : szC c1 ≤ 1099511627776) (a0 : Int) : eqR_S sh_SasResult [.agg [.p (.int .i64 a0), fzC c1], .agg [.p (.int .i64 a0), fzC c1]] = some (.p (.bool true), []) := by
  exact eqR_at (sh_SasResult_mkFit hc1 a0) (by simp only [szCs, szC]; omega)
-- laws.eqSasResult
def c53 : AF := ⟨16,
  (.seq (.reg [⟨(some 2), none, .box 48 (.t 0)⟩,
   ⟨(some 3), none, .box 48 (.t 1)⟩,
   ⟨(some 4), none, .mv (.v (.bool false))⟩])
  (.seq (.seq (.reg [⟨(some 5), none, .fa (.t 2) 0⟩,
   ⟨(some 6), none, .ld (.t 5)⟩,
   ⟨(some 7), none, .fa (.t 3) 0⟩,
   ⟨(some 8), none, .ld (.t 7)⟩,
   ⟨(some 9), none, .bin .neq (.t 6) (.t 8)⟩])
  (.cond (.t 9) (.seq (.reg [⟨(some 4), none, .mv (.v (.bool false))⟩])
  .ret)
  .skip))
  (.seq (.seq (.reg [⟨(some 10), none, .fa (.t 2) 1⟩,
   ⟨(some 11), none, .ld (.t 10)⟩,
   ⟨(some 12), none, .fa (.t 3) 1⟩,
   ⟨(some 13), none, .ld (.t 12)⟩,
   ⟨(some 14), none, .call 24 [(.t 11), (.t 13)]⟩,
   ⟨(some 15), none, .un .not (.t 14)⟩])
  (.cond (.t 15) (.seq (.reg [⟨(some 4), none, .mv (.v (.bool false))⟩])
  .ret)
  .skip))
  (.seq (.reg [⟨(some 4), none, .mv (.v (.bool true))⟩])
  .ret)))),
  [.t 4]⟩
theorem k53 : cFn Try.prog Try.f53 = some c53 := by kernel_rfl
theorem eqSasResult_ok : OkT Try.prog 53 (pureSp (eqR_S sh_SasResult)) := by
  refine okT_eqR (OkΓT.cons eqSaS_ok (OkΓT.nil _)) Try.func53 (by kernel_rfl) k53 ?_
  intro c hc hz
  obtain ⟨a0, c1, rfl, hc1⟩ := sh_SasResult_Fit hc
  simp only [szCs, szC] at hz
  simp only [fzCs, fzC]
  (dsimp only [c53]; simp (maxSteps := 8000000) (implicitDefEqProofs := false) (disch := omega) only [↓reduceIte, go_sem, if_pos, if_neg, eqC_at hc1 (by omega)])
  repeat' first
    | (refine gdKT_dec (fun hg => ?_) (fun hg => ?_) <;> (try (first | simp (maxSteps := 8000000) (implicitDefEqProofs := false) (disch := omega) only [↓reduceIte, go_sem, if_pos, if_neg, eq_false hg, eqC_at hc1 (by omega)] | simp (maxSteps := 8000000) (implicitDefEqProofs := false) (disch := omega) only [↓reduceIte, go_sem, if_pos, if_neg, eq_true hg, eqC_at hc1 (by omega)])))
    | (refine condKT_dec (fun hg => ?_) (fun hg => ?_) <;> (try (first | simp (maxSteps := 8000000) (implicitDefEqProofs := false) (disch := omega) only [↓reduceIte, go_sem, if_pos, if_neg, eq_false hg, eqC_at hc1 (by omega)] | simp (maxSteps := 8000000) (implicitDefEqProofs := false) (disch := omega) only [↓reduceIte, go_sem, if_pos, if_neg, eq_true hg, eqC_at hc1 (by omega)])))
    | (refine gdKT_split (fun hg => ?_) (fun hg => ?_) <;> (try simp (maxSteps := 8000000) (implicitDefEqProofs := false) (disch := omega) only [↓reduceIte, go_sem, if_pos, if_neg, hg, eqC_at hc1 (by omega)]))
    | (refine condKT_split (fun hg => ?_) (fun hg => ?_) <;> (try simp (maxSteps := 8000000) (implicitDefEqProofs := false) (disch := omega) only [↓reduceIte, go_sem, if_pos, if_neg, hg, eqC_at hc1 (by omega)]))
    | (refine endT_p (.inr rfl) (by simp (maxSteps := 8000000) (implicitDefEqProofs := false) (disch := omega) only [↓reduceIte, go_sem, if_pos, if_neg, eqC_at hc1 (by omega)]; rfl) ?_; (first | exact vb_true (by omega) | exact vb_false (by omega) | exact vb_dec (by omega) | exact vi_eq (by omega) | rfl | (refine vi_eq ?_; simp_all; done) | (refine vi_eq ?_; simp_all; omega) | (refine vi_eq ?_; simp_all; intros; omega)))
    | exact endT_v (.inr rfl) (by simp (maxSteps := 8000000) (implicitDefEqProofs := false) (disch := omega) only [↓reduceIte, go_sem, if_pos, if_neg, eqC_at hc1 (by omega)]; try rfl) (fun _ => rfl)
theorem hd_SasResult_at {c1 : Cell} (hc1 : FitC sh_SaS c1) {k : Int} (hk : 0 ≤ k) (hz : k + (wtC c1 : Int) ≤ 1099511627776) (a0 : Int) : hdR_S sh_SasResult [.agg [.p (.int .i64 a0), fzC (mkC c1 (k))], .p (.int .i64 k)] = some (.p (.int .i64 (k + (wtC c1 : Int))), []) := by
  have := hdR_at (k := k) (sh_SasResult_mkFit hc1 a0) hk (by simp only [wtCs, wtC_v]; omega)
  simp only [mkCs, mkC_v, wtC_v, nat0T, Int.add_zero, fzCs, fzC, wtCs, Nat.zero_add, Nat.add_zero] at this
  exact this
-- laws.heldSasResult
def c55 : AF := ⟨12,
  (.seq (.reg [⟨(some 2), none, .box 48 (.t 0)⟩,
   ⟨(some 4), none, .mv (.v (.int .i64 0))⟩])
  (.seq (.reg [⟨(some 5), none, .fa (.t 2) 1⟩,
   ⟨(some 6), none, .ld (.t 5)⟩,
   ⟨(some 7), none, .mv (.t 1)⟩,
   ⟨(some 8), none, .call 114 [(.t 6), (.t 7)]⟩,
   ⟨(some 1), none, .mv (.t 8)⟩])
  (.seq (.seq (.reg [⟨(some 9), none, .mv (.t 1)⟩,
   ⟨(some 10), none, .bin .lss (.t 9) (.v (.int .i64 0))⟩])
  (.cond (.t 10) (.seq (.reg [⟨(some 4), none, .mv (.v (.int .i64 (-1)))⟩])
  .ret)
  .skip))
  (.seq (.reg [⟨(some 11), none, .mv (.t 1)⟩,
   ⟨(some 4), none, .mv (.t 11)⟩])
  .ret)))),
  [.t 4]⟩
theorem k55 : cFn Try.prog Try.f55 = some c55 := by kernel_rfl
theorem heldSasResult_ok : OkT Try.prog 55 (pureSp (hdR_S sh_SasResult)) := by
  refine okT_hdR (OkΓT.cons heldSaS_ok (OkΓT.nil _)) Try.func55 (by kernel_rfl) k55 ?_
  intro c k hc h1 hz
  obtain ⟨a0, c1, rfl, hc1⟩ := sh_SasResult_Fit hc
  simp only [wtCs, wtC_v, Nat.zero_add, Nat.add_zero] at hz ⊢
  simp only [mkCs, mkC_v, wtC_v, nat0T, Int.add_zero, fzCs, fzC]
  (dsimp only [c55]; simp (maxSteps := 8000000) (implicitDefEqProofs := false) (disch := omega) only [↓reduceIte, go_sem, if_pos, if_neg, hdC_at hc1 (show 0 ≤ k by omega) (by omega)])
  repeat' first
    | (refine gdKT_dec (fun hg => ?_) (fun hg => ?_) <;> (try (first | simp (maxSteps := 8000000) (implicitDefEqProofs := false) (disch := omega) only [↓reduceIte, go_sem, if_pos, if_neg, eq_false hg, hdC_at hc1 (show 0 ≤ k by omega) (by omega)] | simp (maxSteps := 8000000) (implicitDefEqProofs := false) (disch := omega) only [↓reduceIte, go_sem, if_pos, if_neg, eq_true hg, hdC_at hc1 (show 0 ≤ k by omega) (by omega)])))
    | (refine condKT_dec (fun hg => ?_) (fun hg => ?_) <;> (try (first | simp (maxSteps := 8000000) (implicitDefEqProofs := false) (disch := omega) only [↓reduceIte, go_sem, if_pos, if_neg, eq_false hg, hdC_at hc1 (show 0 ≤ k by omega) (by omega)] | simp (maxSteps := 8000000) (implicitDefEqProofs := false) (disch := omega) only [↓reduceIte, go_sem, if_pos, if_neg, eq_true hg, hdC_at hc1 (show 0 ≤ k by omega) (by omega)])))
    | (refine gdKT_split (fun hg => ?_) (fun hg => ?_) <;> (try simp (maxSteps := 8000000) (implicitDefEqProofs := false) (disch := omega) only [↓reduceIte, go_sem, if_pos, if_neg, hg, hdC_at hc1 (show 0 ≤ k by omega) (by omega)]))
    | (refine condKT_split (fun hg => ?_) (fun hg => ?_) <;> (try simp (maxSteps := 8000000) (implicitDefEqProofs := false) (disch := omega) only [↓reduceIte, go_sem, if_pos, if_neg, hg, hdC_at hc1 (show 0 ≤ k by omega) (by omega)]))
    | (refine endT_p (.inr rfl) (by simp (maxSteps := 8000000) (implicitDefEqProofs := false) (disch := omega) only [↓reduceIte, go_sem, if_pos, if_neg, hdC_at hc1 (show 0 ≤ k by omega) (by omega)]; rfl) ?_; (first | exact vb_true (by omega) | exact vb_false (by omega) | exact vb_dec (by omega) | exact vi_eq (by omega) | rfl | (refine vi_eq ?_; simp_all; done) | (refine vi_eq ?_; simp_all; omega) | (refine vi_eq ?_; simp_all; intros; omega)))
    | exact endT_v (.inr rfl) (by simp (maxSteps := 8000000) (implicitDefEqProofs := false) (disch := omega) only [↓reduceIte, go_sem, if_pos, if_neg, hdC_at hc1 (show 0 ≤ k by omega) (by omega)]; try rfl) (fun _ => rfl)
-- laws.markSasResult
def c54 : AF := ⟨10,
  (.seq (.reg [⟨(some 2), none, .box 48 (.t 0)⟩,
   ⟨(some 4), none, .mv (.v (.int .i64 0))⟩])
  (.seq (.reg [⟨(some 5), none, .fa (.t 2) 1⟩,
   ⟨(some 6), none, .ld (.t 5)⟩,
   ⟨(some 7), none, .mv (.t 1)⟩,
   ⟨(some 8), none, .call 48 [(.t 6), (.t 7)]⟩,
   ⟨(some 1), none, .mv (.t 8)⟩])
  (.seq (.reg [⟨(some 9), none, .mv (.t 1)⟩,
   ⟨(some 4), none, .mv (.t 9)⟩])
  .ret))),
  [.t 4]⟩
theorem k54 : cFn Try.prog Try.f54 = some c54 := by kernel_rfl
theorem markSasResult_ok : OkT Try.prog 54 (mkR_Sp sh_SasResult) := by
  refine okT_mkR (OkΓT.cons markSaS_ok (OkΓT.nil _)) Try.func54 (by kernel_rfl) k54 ?_
  intro c k hc h1 hz
  obtain ⟨a0, c1, rfl, hc1⟩ := sh_SasResult_Fit hc
  simp only [wtCs, wtC_v, Nat.zero_add, Nat.add_zero] at hz ⊢
  simp only [mkCs, mkC_v, wtC_v, nat0T, Int.add_zero]
  simp only [tvCs, tvC_v, tvC_nl, tvC_sl, nbC, Nat.add_zero, Nat.zero_add]
  generalize hN : nbCs _ = N
  have l0 : (bkCs 0 [.v (.int .i64 a0), c1]).length = N := by rw [bkCs_len]; exact hN
  (dsimp only [c54]; simp (maxSteps := 8000000) (implicitDefEqProofs := false) (disch := omega) only [↓reduceIte, go_sem, if_pos, if_neg, l0, get_last l0])
  have m0 := fun X => mk_cell (A := [.v (.int .i64 a0)]) (B := []) (G := [X]) (n := 0) (k := k) (by simp only [nbCs, nbC, mkC_nb] <;> omega) hc1 (by omega) (by omega)
  simp only [List.cons_append, List.nil_append, mkCs, mkC_v, wtCs, wtC_v, nat0T, Int.add_zero, Nat.add_zero, Nat.zero_add, tvCs, tvC_v, tvC_nl, tvC_sl, nbC, natAT, ← Int.add_assoc, mkC_tv, mkC_nb] at m0
  have l1 : (bkCs 0 [.v (.int .i64 a0), (mkC c1 (k))]).length = N := by rw [bkCs_len, ← hN]; simp only [nbCs, mkC_nb]
  refine mutQ_call (by simp (maxSteps := 8000000) (implicitDefEqProofs := false) (disch := omega) only [↓reduceIte, go_sem, if_pos, if_neg]; rfl) (by simp (maxSteps := 8000000) (implicitDefEqProofs := false) (disch := omega) only [↓reduceIte, go_sem, if_pos, if_neg]) (m0 _) ?_
  simp (maxSteps := 8000000) (implicitDefEqProofs := false) (disch := omega) only [↓reduceIte, go_sem, if_pos, if_neg, l1, get_last l1]
  exact endK_cells (.inr rfl) (by rw [← hN]; simp only [nbCs, mkC_nb]; omega) (by (simp (maxSteps := 8000000) (implicitDefEqProofs := false) (disch := omega) only [↓reduceIte, go_sem, if_pos, if_neg, natAT, ← Int.add_assoc]) <;> rfl) rfl
end Go.Proofs.Ytngebdcbcliobaa
