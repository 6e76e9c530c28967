import Derived.Test.YtngebdcbcliobaaU1
set_option linter.unusedSimpArgs false
set_option linter.unusedVariables false
set_option maxRecDepth 100000
set_option maxHeartbeats 4000000
namespace Go.Proofs.Ytngebdcbcliobaa
open Go Go.AH
attribute [local irreducible] awpT ropsT qopsT stepT condKT gdKT EndT joinK loopKT seqKT blkKT kont kontR
/-! Sa -/
def sh_Sa : List Shp := [.i .i64, .i .i64, .i .i64, .b, .i .i64, .i .i64, .i .i64, .i .i64, .i .i64, .i .i64, sh_SelS]
theorem sh_Sa_Has {cs : List Cell} (h : HasR sh_Sa cs) : ∃ (a0 : Int) (a1 : Int) (a2 : Int) (a3 : Bool) (a4 : Int) (a5 : Int) (a6 : Int) (a7 : Int) (a8 : Int) (a9 : Int) (c10 : Cell), cs = [.v (.int .i64 a0), .v (.int .i64 a1), .v (.int .i64 a2), .v (.bool a3), .v (.int .i64 a4), .v (.int .i64 a5), .v (.int .i64 a6), .v (.int .i64 a7), .v (.int .i64 a8), .v (.int .i64 a9), c10] ∧ HasC sh_SelS c10 := by
  obtain ⟨_, _, rfl, ⟨a0, rfl⟩, _, _, rfl, ⟨a1, rfl⟩, _, _, rfl, ⟨a2, rfl⟩, _, _, rfl, ⟨a3, rfl⟩, _, _, rfl, ⟨a4, rfl⟩, _, _, rfl, ⟨a5, rfl⟩, _, _, rfl, ⟨a6, rfl⟩, _, _, rfl, ⟨a7, rfl⟩, _, _, rfl, ⟨a8, rfl⟩, _, _, rfl, ⟨a9, rfl⟩, c10, _, rfl, hc10, h⟩ := h
  simp only [HasR] at h; subst h
  exact ⟨a0, a1, a2, a3, a4, a5, a6, a7, a8, a9, c10, rfl, hc10⟩
theorem sh_Sa_mkHas {c10 : Cell} (hc10 : HasC sh_SelS c10) (a0 : Int) (a1 : Int) (a2 : Int) (a3 : Bool) (a4 : Int) (a5 : Int) (a6 : Int) (a7 : Int) (a8 : Int) (a9 : Int) : HasR sh_Sa [.v (.int .i64 a0), .v (.int .i64 a1), .v (.int .i64 a2), .v (.bool a3), .v (.int .i64 a4), .v (.int .i64 a5), .v (.int .i64 a6), .v (.int .i64 a7), .v (.int .i64 a8), .v (.int .i64 a9), c10] := by
  exact ⟨_, _, rfl, ⟨_, rfl⟩, _, _, rfl, ⟨_, rfl⟩, _, _, rfl, ⟨_, rfl⟩, _, _, rfl, ⟨_, rfl⟩, _, _, rfl, ⟨_, rfl⟩, _, _, rfl, ⟨_, rfl⟩, _, _, rfl, ⟨_, rfl⟩, _, _, rfl, ⟨_, rfl⟩, _, _, rfl, ⟨_, rfl⟩, _, _, rfl, ⟨_, rfl⟩, _, _, rfl, hc10, rfl⟩
theorem sh_Sa_Fit {cs : List Cell} (h : FitR sh_Sa cs) : ∃ (a0 : Int) (a1 : Int) (a2 : Int) (a3 : Bool) (a4 : Int) (a5 : Int) (a6 : Int) (a7 : Int) (a8 : Int) (a9 : Int) (c10 : Cell), cs = [.v (.int .i64 a0), .v (.int .i64 a1), .v (.int .i64 a2), .v (.bool a3), .v (.int .i64 a4), .v (.int .i64 a5), .v (.int .i64 a6), .v (.int .i64 a7), .v (.int .i64 a8), .v (.int .i64 a9), c10] ∧ FitC sh_SelS c10 := by
  obtain ⟨_, _, rfl, ⟨a0, rfl⟩, _, _, rfl, ⟨a1, rfl⟩, _, _, rfl, ⟨a2, rfl⟩, _, _, rfl, ⟨a3, rfl⟩, _, _, rfl, ⟨a4, rfl⟩, _, _, rfl, ⟨a5, rfl⟩, _, _, rfl, ⟨a6, rfl⟩, _, _, rfl, ⟨a7, rfl⟩, _, _, rfl, ⟨a8, rfl⟩, _, _, rfl, ⟨a9, rfl⟩, c10, _, rfl, hc10, h⟩ := h
  simp only [FitR] at h; subst h
  exact ⟨a0, a1, a2, a3, a4, a5, a6, a7, a8, a9, c10, rfl, hc10⟩
theorem sh_Sa_mkFit {c10 : Cell} (hc10 : FitC sh_SelS c10) (a0 : Int) (a1 : Int) (a2 : Int) (a3 : Bool) (a4 : Int) (a5 : Int) (a6 : Int) (a7 : Int) (a8 : Int) (a9 : Int) : FitR sh_Sa [.v (.int .i64 a0), .v (.int .i64 a1), .v (.int .i64 a2), .v (.bool a3), .v (.int .i64 a4), .v (.int .i64 a5), .v (.int .i64 a6), .v (.int .i64 a7), .v (.int .i64 a8), .v (.int .i64 a9), c10] := by
  exact ⟨_, _, rfl, ⟨_, rfl⟩, _, _, rfl, ⟨_, rfl⟩, _, _, rfl, ⟨_, rfl⟩, _, _, rfl, ⟨_, rfl⟩, _, _, rfl, ⟨_, rfl⟩, _, _, rfl, ⟨_, rfl⟩, _, _, rfl, ⟨_, rfl⟩, _, _, rfl, ⟨_, rfl⟩, _, _, rfl, ⟨_, rfl⟩, _, _, rfl, ⟨_, rfl⟩, _, _, rfl, hc10, rfl⟩
theorem to_Sa_at {c10 : Cell} (hc10 : HasC sh_SelS c10) (hz : szC c10 ≤ 1048576) (a0 : Int) (a1 : Int) (a2 : Int) (a3 : Bool) (a4 : Int) (a5 : Int) (a6 : Int) (a7 : Int) (a8 : Int) (a9 : Int) : toR_S sh_Sa [.agg [.p (.int .i64 a0), .p (.int .i64 a1), .p (.int .i64 a2), .p (.bool a3), .p (.int .i64 a4), .p (.int .i64 a5), .p (.int .i64 a6), .p (.int .i64 a7), .p (.int .i64 a8), .p (.int .i64 a9), fzC c10]] = some (.agg [.p (.int .i64 a0), .p (.int .i64 a1), .p (.int .i64 a2), .p (.bool a3), .p (.int .i64 a4), .p (.int .i64 a5), .p (.int .i64 a6), .p (.int .i64 a7), .p (.int .i64 a8), .p (.int .i64 a9), tvC (0) c10], (bkC (0) c10)) := by
  have := toR_at (sh_Sa_mkHas hc10 a0 a1 a2 a3 a4 a5 a6 a7 a8 a9) (by simp only [szCs, szC]; omega)
  simpa only [fzCs, fzC, tvCs, tvC_v, tvC_nl, tvC_sl, bkCs, bkC, nbC, nbCs, Nat.add_zero, List.append_nil, List.nil_append, Nat.zero_add] using this
-- laws.toSa
def c17 : AF := ⟨37,
  (.seq (.reg [⟨(some 1), none, .box 26 (.t 0)⟩,
   ⟨(some 2), none, .alloc 32 [(.int .i64 0), (.int .i64 0), (.int .i64 0), (.bool false), (.int .i64 0), (.int .i64 0), (.int .i64 0), (.int .i64 0), (.int .i64 0), (.int .i64 0), (.slice none 0 0)]⟩])
  (.seq (.reg [⟨(some 3), none, .alloc 32 [(.int .i64 0), (.int .i64 0), (.int .i64 0), (.bool false), (.int .i64 0), (.int .i64 0), (.int .i64 0), (.int .i64 0), (.int .i64 0), (.int .i64 0), (.slice none 0 0)]⟩])
  (.seq (.reg [⟨(some 4), none, .fa (.t 1) 0⟩,
   ⟨(some 5), none, .ld (.t 4)⟩,
   ⟨(some 6), none, .fa (.t 3) 0⟩,
   ⟨none, none, .st 1 (.t 6) (.t 5)⟩])
  (.seq (.reg [⟨(some 7), none, .fa (.t 1) 1⟩,
   ⟨(some 8), none, .ld (.t 7)⟩,
   ⟨(some 9), none, .fa (.t 3) 1⟩,
   ⟨none, none, .st 1 (.t 9) (.t 8)⟩])
  (.seq (.reg [⟨(some 10), none, .fa (.t 1) 2⟩,
   ⟨(some 11), none, .ld (.t 10)⟩,
   ⟨(some 12), none, .fa (.t 3) 2⟩,
   ⟨none, none, .st 1 (.t 12) (.t 11)⟩])
  (.seq (.reg [⟨(some 13), none, .fa (.t 1) 3⟩,
   ⟨(some 14), none, .ld (.t 13)⟩,
   ⟨(some 15), none, .fa (.t 3) 3⟩,
   ⟨none, none, .st 1 (.t 15) (.t 14)⟩])
  (.seq (.reg [⟨(some 16), none, .fa (.t 1) 4⟩,
   ⟨(some 17), none, .ld (.t 16)⟩,
   ⟨(some 18), none, .fa (.t 3) 4⟩,
   ⟨none, none, .st 1 (.t 18) (.t 17)⟩])
  (.seq (.reg [⟨(some 19), none, .fa (.t 1) 5⟩,
   ⟨(some 20), none, .ldn 2 (.t 19)⟩,
   ⟨(some 21), none, .call 65 [(.t 20)]⟩,
   ⟨(some 22), none, .fa (.t 3) 5⟩,
   ⟨none, none, .st 2 (.t 22) (.t 21)⟩])
  (.seq (.reg [⟨(some 23), none, .fa (.t 1) 7⟩,
   ⟨(some 24), none, .ld (.t 23)⟩,
   ⟨(some 25), none, .fa (.t 3) 7⟩,
   ⟨none, none, .st 1 (.t 25) (.t 24)⟩])
  (.seq (.reg [⟨(some 26), none, .fa (.t 1) 8⟩,
   ⟨(some 27), none, .ld (.t 26)⟩,
   ⟨(some 28), none, .fa (.t 3) 8⟩,
   ⟨none, none, .st 1 (.t 28) (.t 27)⟩])
  (.seq (.reg [⟨(some 29), none, .fa (.t 1) 9⟩,
   ⟨(some 30), none, .ld (.t 29)⟩,
   ⟨(some 31), none, .fa (.t 3) 9⟩,
   ⟨none, none, .st 1 (.t 31) (.t 30)⟩])
  (.seq (.reg [⟨(some 32), none, .fa (.t 1) 10⟩,
   ⟨(some 33), none, .ld (.t 32)⟩,
   ⟨(some 34), none, .call 78 [(.t 33)]⟩,
   ⟨(some 35), none, .fa (.t 3) 10⟩,
   ⟨none, none, .st 1 (.t 35) (.t 34)⟩])
  (.seq (.reg [⟨(some 36), none, .ldn 11 (.t 3)⟩,
   ⟨none, none, .st 11 (.t 2) (.t 36)⟩])
  .ret))))))))))))),
  [.cell 2 (some 11)]⟩
theorem k17 : cFn Try.prog Try.f17 = some c17 := by kernel_rfl
theorem toSa_ok : OkT Try.prog 17 (pureSp (toR_S sh_Sa)) := by
  refine okT_toR (OkΓT.cons toWindow_ok (OkΓT.cons toSelS_ok (OkΓT.nil _))) Try.func17 (by kernel_rfl) k17 ?_
  intro c hc hz
  obtain ⟨a0, a1, a2, a3, a4, a5, a6, a7, a8, a9, c10, rfl, hc10⟩ := sh_Sa_Has hc
  simp only [szCs, szC] at hz
  simp only [fzCs, fzC]
  (dsimp only [c17]; simp (maxSteps := 8000000) (implicitDefEqProofs := false) (disch := omega) only [↓reduceIte, go_sem, if_pos, if_neg, to_Window_at, toC_at hc10 (by omega)])
  refine endT_cells' 3 (.inr rfl) (by (simp (maxSteps := 8000000) (implicitDefEqProofs := false) (disch := omega) only [↓reduceIte, go_sem, if_pos, if_neg, fzCs, fzC, tvCs, tvC_v, tvC_nl, tvC_sl, bkCs, bkC, nbC, nbCs, Nat.add_zero, List.append_nil, List.nil_append]) <;> rfl) ?_ (by simp only [List.length_cons]; omega)
  simp only [List.drop_succ_cons, List.drop_zero, bkCs, bkC, nbC, Nat.add_zero, List.append_nil, List.nil_append, List.cons_append, Nat.add_assoc]
theorem eq_Sa_at {c10 : Cell} (hc10 : FitC sh_SelS c10) (hz : szC c10 ≤ 1099511627776) (a0 : Int) (a1 : Int) (a2 : Int) (a3 : Bool) (a4 : Int) (a5 : Int) (a6 : Int) (a7 : Int) (a8 : Int) (a9 : Int) : eqR_S sh_Sa [.agg [.p (.int .i64 a0), .p (.int .i64 a1), .p (.int .i64 a2), .p (.bool a3), .p (.int .i64 a4), .p (.int .i64 a5), .p (.int .i64 a6), .p (.int .i64 a7), .p (.int .i64 a8), .p (.int .i64 a9), fzC c10], .agg [.p (.int .i64 a0), .p (.int .i64 a1), .p (.int .i64 a2), .p (.bool a3), .p (.int .i64 a4), .p (.int .i64 a5), .p (.int .i64 a6), .p (.int .i64 a7), .p (.int .i64 a8), .p (.int .i64 a9), fzC c10]] = some (.p (.bool true), []) := by
  exact eqR_at (sh_Sa_mkFit hc10 a0 a1 a2 a3 a4 a5 a6 a7 a8 a9) (by simp only [szCs, szC]; omega)
-- laws.eqSa
def c19 : AF := ⟨57,
  (.seq (.reg [⟨(some 2), none, .box 32 (.t 0)⟩,
   ⟨(some 3), none, .box 32 (.t 1)⟩,
   ⟨(some 4), none, .mv (.v (.bool false))⟩])
  (.seq (.seq (.reg [⟨(some 5), none, .fa (.t 2) 0⟩,
   ⟨(some 6), none, .ld (.t 5)⟩,
   ⟨(some 7), none, .fa (.t 3) 0⟩,
   ⟨(some 8), none, .ld (.t 7)⟩,
   ⟨(some 9), none, .bin .neq (.t 6) (.t 8)⟩])
  (.cond (.t 9) (.seq (.reg [⟨(some 4), none, .mv (.v (.bool false))⟩])
  .ret)
  .skip))
  (.seq (.seq (.reg [⟨(some 10), none, .fa (.t 2) 1⟩,
   ⟨(some 11), none, .ld (.t 10)⟩,
   ⟨(some 12), none, .fa (.t 3) 1⟩,
   ⟨(some 13), none, .ld (.t 12)⟩,
   ⟨(some 14), none, .bin .neq (.t 11) (.t 13)⟩])
  (.cond (.t 14) (.seq (.reg [⟨(some 4), none, .mv (.v (.bool false))⟩])
  .ret)
  .skip))
  (.seq (.seq (.reg [⟨(some 15), none, .fa (.t 2) 2⟩,
   ⟨(some 16), none, .ld (.t 15)⟩,
   ⟨(some 17), none, .fa (.t 3) 2⟩,
   ⟨(some 18), none, .ld (.t 17)⟩,
   ⟨(some 19), none, .bin .neq (.t 16) (.t 18)⟩])
  (.cond (.t 19) (.seq (.reg [⟨(some 4), none, .mv (.v (.bool false))⟩])
  .ret)
  .skip))
  (.seq (.seq (.reg [⟨(some 20), none, .fa (.t 2) 3⟩,
   ⟨(some 21), none, .ld (.t 20)⟩,
   ⟨(some 22), none, .fa (.t 3) 3⟩,
   ⟨(some 23), none, .ld (.t 22)⟩,
   ⟨(some 24), none, .eqB true (.t 21) (.t 23)⟩])
  (.cond (.t 24) (.seq (.reg [⟨(some 4), none, .mv (.v (.bool false))⟩])
  .ret)
  .skip))
  (.seq (.seq (.reg [⟨(some 25), none, .fa (.t 2) 4⟩,
   ⟨(some 26), none, .ld (.t 25)⟩,
   ⟨(some 27), none, .fa (.t 3) 4⟩,
   ⟨(some 28), none, .ld (.t 27)⟩,
   ⟨(some 29), none, .bin .neq (.t 26) (.t 28)⟩])
  (.cond (.t 29) (.seq (.reg [⟨(some 4), none, .mv (.v (.bool false))⟩])
  .ret)
  .skip))
  (.seq (.seq (.reg [⟨(some 30), none, .fa (.t 2) 5⟩,
   ⟨(some 31), none, .ldn 2 (.t 30)⟩,
   ⟨(some 32), none, .fa (.t 3) 5⟩,
   ⟨(some 33), none, .ldn 2 (.t 32)⟩,
   ⟨(some 34), none, .call 86 [(.t 31), (.t 33)]⟩,
   ⟨(some 35), none, .un .not (.t 34)⟩])
  (.cond (.t 35) (.seq (.reg [⟨(some 4), none, .mv (.v (.bool false))⟩])
  .ret)
  .skip))
  (.seq (.seq (.reg [⟨(some 36), none, .fa (.t 2) 7⟩,
   ⟨(some 37), none, .ld (.t 36)⟩,
   ⟨(some 38), none, .fa (.t 3) 7⟩,
   ⟨(some 39), none, .ld (.t 38)⟩,
   ⟨(some 40), none, .bin .neq (.t 37) (.t 39)⟩])
  (.cond (.t 40) (.seq (.reg [⟨(some 4), none, .mv (.v (.bool false))⟩])
  .ret)
  .skip))
  (.seq (.seq (.reg [⟨(some 41), none, .fa (.t 2) 8⟩,
   ⟨(some 42), none, .ld (.t 41)⟩,
   ⟨(some 43), none, .fa (.t 3) 8⟩,
   ⟨(some 44), none, .ld (.t 43)⟩,
   ⟨(some 45), none, .bin .neq (.t 42) (.t 44)⟩])
  (.cond (.t 45) (.seq (.reg [⟨(some 4), none, .mv (.v (.bool false))⟩])
  .ret)
  .skip))
  (.seq (.seq (.reg [⟨(some 46), none, .fa (.t 2) 9⟩,
   ⟨(some 47), none, .ld (.t 46)⟩,
   ⟨(some 48), none, .fa (.t 3) 9⟩,
   ⟨(some 49), none, .ld (.t 48)⟩,
   ⟨(some 50), none, .bin .neq (.t 47) (.t 49)⟩])
  (.cond (.t 50) (.seq (.reg [⟨(some 4), none, .mv (.v (.bool false))⟩])
  .ret)
  .skip))
  (.seq (.seq (.reg [⟨(some 51), none, .fa (.t 2) 10⟩,
   ⟨(some 52), none, .ld (.t 51)⟩,
   ⟨(some 53), none, .fa (.t 3) 10⟩,
   ⟨(some 54), none, .ld (.t 53)⟩,
   ⟨(some 55), none, .call 87 [(.t 52), (.t 54)]⟩,
   ⟨(some 56), none, .un .not (.t 55)⟩])
  (.cond (.t 56) (.seq (.reg [⟨(some 4), none, .mv (.v (.bool false))⟩])
  .ret)
  .skip))
  (.seq (.reg [⟨(some 4), none, .mv (.v (.bool true))⟩])
  .ret)))))))))))),
  [.t 4]⟩
theorem k19 : cFn Try.prog Try.f19 = some c19 := by kernel_rfl
theorem eqSa_ok : OkT Try.prog 19 (pureSp (eqR_S sh_Sa)) := by
  refine okT_eqR (OkΓT.cons eqWindow_ok (OkΓT.cons eqSelS_ok (OkΓT.nil _))) Try.func19 (by kernel_rfl) k19 ?_
  intro c hc hz
  obtain ⟨a0, a1, a2, a3, a4, a5, a6, a7, a8, a9, c10, rfl, hc10⟩ := sh_Sa_Fit hc
  simp only [szCs, szC] at hz
  simp only [fzCs, fzC]
  (dsimp only [c19]; simp (maxSteps := 8000000) (implicitDefEqProofs := false) (disch := omega) only [↓reduceIte, go_sem, if_pos, if_neg, eq_Window_at, eqC_at hc10 (by omega)])
  repeat' first
    | (refine gdKT_dec (fun hg => ?_) (fun hg => ?_) <;> (try (first | simp (maxSteps := 8000000) (implicitDefEqProofs := false) (disch := omega) only [↓reduceIte, go_sem, if_pos, if_neg, eq_false hg, eq_Window_at, eqC_at hc10 (by omega)] | simp (maxSteps := 8000000) (implicitDefEqProofs := false) (disch := omega) only [↓reduceIte, go_sem, if_pos, if_neg, eq_true hg, eq_Window_at, eqC_at hc10 (by omega)])))
    | (refine condKT_dec (fun hg => ?_) (fun hg => ?_) <;> (try (first | simp (maxSteps := 8000000) (implicitDefEqProofs := false) (disch := omega) only [↓reduceIte, go_sem, if_pos, if_neg, eq_false hg, eq_Window_at, eqC_at hc10 (by omega)] | simp (maxSteps := 8000000) (implicitDefEqProofs := false) (disch := omega) only [↓reduceIte, go_sem, if_pos, if_neg, eq_true hg, eq_Window_at, eqC_at hc10 (by omega)])))
    | (refine gdKT_split (fun hg => ?_) (fun hg => ?_) <;> (try simp (maxSteps := 8000000) (implicitDefEqProofs := false) (disch := omega) only [↓reduceIte, go_sem, if_pos, if_neg, hg, eq_Window_at, eqC_at hc10 (by omega)]))
    | (refine condKT_split (fun hg => ?_) (fun hg => ?_) <;> (try simp (maxSteps := 8000000) (implicitDefEqProofs := false) (disch := omega) only [↓reduceIte, go_sem, if_pos, if_neg, hg, eq_Window_at, eqC_at hc10 (by omega)]))
    | (refine endT_p (.inr rfl) (by simp (maxSteps := 8000000) (implicitDefEqProofs := false) (disch := omega) only [↓reduceIte, go_sem, if_pos, if_neg, eq_Window_at, eqC_at hc10 (by omega)]; rfl) ?_; (first | exact vb_true (by omega) | exact vb_false (by omega) | exact vb_dec (by omega) | exact vi_eq (by omega) | rfl | (refine vi_eq ?_; simp_all; done) | (refine vi_eq ?_; simp_all; omega) | (refine vi_eq ?_; simp_all; intros; omega)))
    | exact endT_v (.inr rfl) (by simp (maxSteps := 8000000) (implicitDefEqProofs := false) (disch := omega) only [↓reduceIte, go_sem, if_pos, if_neg, eq_Window_at, eqC_at hc10 (by omega)]; try rfl) (fun _ => rfl)
theorem sz_Sa_at {c10 : Cell} (hc10 : HasC sh_SelS c10) {k : Int} (hk : 0 ≤ k ∧ k ≤ 1048576) (hz : lnC c10 = true) (a0 : Int) (a1 : Int) (a2 : Int) (a3 : Bool) (a4 : Int) (a5 : Int) (a6 : Int) (a7 : Int) (a8 : Int) (a9 : Int) : szR_S sh_Sa [.agg [.p (.int .i64 a0), .p (.int .i64 a1), .p (.int .i64 a2), .p (.bool a3), .p (.int .i64 a4), .p (.int .i64 a5), .p (.int .i64 a6), .p (.int .i64 a7), .p (.int .i64 a8), .p (.int .i64 a9), fzC c10], .p (.int .i64 k)] = some (.p (.int .i64 (if ((szC c10 : Nat) : Int) ≤ k then k - (szC c10 : Nat) else -1)), []) := by
  have := szR_at (sh_Sa_mkHas hc10 a0 a1 a2 a3 a4 a5 a6 a7 a8 a9) hk (by simp only [lnCs, lnC, Bool.true_and, Bool.and_true, Bool.and_eq_true]; exact hz)
  simpa only [fzCs, fzC, szCs, szC, Nat.add_zero, Nat.zero_add, Nat.add_assoc] using this
-- laws.szSa
def c15 : AF := ⟨12,
  (.seq (.reg [⟨(some 2), none, .box 26 (.t 0)⟩,
   ⟨(some 4), none, .mv (.v (.int .i64 0))⟩])
  (.seq (.reg [⟨(some 5), none, .fa (.t 2) 10⟩,
   ⟨(some 6), none, .ld (.t 5)⟩,
   ⟨(some 7), none, .mv (.t 1)⟩,
   ⟨(some 8), none, .call 73 [(.t 6), (.t 7)]⟩,
   ⟨(some 1), none, .mv (.t 8)⟩])
  (.seq (.seq (.reg [⟨(some 9), none, .mv (.t 1)⟩,
   ⟨(some 10), none, .bin .lss (.t 9) (.v (.int .i64 0))⟩])
  (.cond (.t 10) (.seq (.reg [⟨(some 4), none, .mv (.v (.int .i64 (-1)))⟩])
  .ret)
  .skip))
  (.seq (.reg [⟨(some 11), none, .mv (.t 1)⟩,
   ⟨(some 4), none, .mv (.t 11)⟩])
  .ret)))),
  [.t 4]⟩
theorem k15 : cFn Try.prog Try.f15 = some c15 := by kernel_rfl
theorem szSa_ok : OkT Try.prog 15 (pureSp (szR_S sh_Sa)) := by
  refine okT_szR (OkΓT.cons szSelS_ok (OkΓT.nil _)) Try.func15 (by kernel_rfl) k15 ?_
  intro c k hc h1 h2 hz
  obtain ⟨a0, a1, a2, a3, a4, a5, a6, a7, a8, a9, c10, rfl, hc10⟩ := sh_Sa_Has hc
  generalize hN : szCs _ = N at *
  simp only [szCs, szC, Nat.add_zero, Nat.zero_add] at hN
  simp only [lnCs, lnC, Bool.true_and, Bool.and_true, Bool.and_eq_true] at hz
  have wc10 := hz
  simp only [fzCs, fzC]
  have zc10 := szC_at (k := k) hc10 (by omega) wc10
  by_cases qc10 : (szC c10 : Int) ≤ k
  case neg =>
    rw [if_neg qc10] at zc10
    rw [if_neg (show ¬ _ by omega)]
    (dsimp only [c15]; simp (maxSteps := 8000000) (implicitDefEqProofs := false) (disch := omega) only [↓reduceIte, go_sem, if_pos, if_neg, zc10])
    repeat' first
      | (refine gdKT_dec (fun hg => ?_) (fun hg => ?_) <;> (try (first | simp (maxSteps := 8000000) (implicitDefEqProofs := false) (disch := omega) only [↓reduceIte, go_sem, if_pos, if_neg, eq_false hg, zc10] | simp (maxSteps := 8000000) (implicitDefEqProofs := false) (disch := omega) only [↓reduceIte, go_sem, if_pos, if_neg, eq_true hg, zc10])))
      | (refine condKT_dec (fun hg => ?_) (fun hg => ?_) <;> (try (first | simp (maxSteps := 8000000) (implicitDefEqProofs := false) (disch := omega) only [↓reduceIte, go_sem, if_pos, if_neg, eq_false hg, zc10] | simp (maxSteps := 8000000) (implicitDefEqProofs := false) (disch := omega) only [↓reduceIte, go_sem, if_pos, if_neg, eq_true hg, zc10])))
      | (refine gdKT_split (fun hg => ?_) (fun hg => ?_) <;> (try simp (maxSteps := 8000000) (implicitDefEqProofs := false) (disch := omega) only [↓reduceIte, go_sem, if_pos, if_neg, hg, zc10]))
      | (refine condKT_split (fun hg => ?_) (fun hg => ?_) <;> (try simp (maxSteps := 8000000) (implicitDefEqProofs := false) (disch := omega) only [↓reduceIte, go_sem, if_pos, if_neg, hg, zc10]))
      | (refine endT_p (.inr rfl) (by simp (maxSteps := 8000000) (implicitDefEqProofs := false) (disch := omega) only [↓reduceIte, go_sem, if_pos, if_neg, zc10]; rfl) ?_; (first | exact vb_true (by omega) | exact vb_false (by omega) | exact vb_dec (by omega) | exact vi_eq (by omega) | rfl | (refine vi_eq ?_; simp_all; done) | (refine vi_eq ?_; simp_all; omega) | (refine vi_eq ?_; simp_all; intros; omega)))
      | exact endT_v (.inr rfl) (by simp (maxSteps := 8000000) (implicitDefEqProofs := false) (disch := omega) only [↓reduceIte, go_sem, if_pos, if_neg, zc10]; try rfl) (fun _ => rfl)
  rw [if_pos qc10] at zc10
  rw [if_pos (show _ by omega), show k - (N : Int) = k - (szC c10 : Int) by omega]
  (dsimp only [c15]; simp (maxSteps := 8000000) (implicitDefEqProofs := false) (disch := omega) only [↓reduceIte, go_sem, if_pos, if_neg, zc10])
  repeat' first
    | (refine gdKT_dec (fun hg => ?_) (fun hg => ?_) <;> (try (first | simp (maxSteps := 8000000) (implicitDefEqProofs := false) (disch := omega) only [↓reduceIte, go_sem, if_pos, if_neg, eq_false hg, zc10] | simp (maxSteps := 8000000) (implicitDefEqProofs := false) (disch := omega) only [↓reduceIte, go_sem, if_pos, if_neg, eq_true hg, zc10])))
    | (refine condKT_dec (fun hg => ?_) (fun hg => ?_) <;> (try (first | simp (maxSteps := 8000000) (implicitDefEqProofs := false) (disch := omega) only [↓reduceIte, go_sem, if_pos, if_neg, eq_false hg, zc10] | simp (maxSteps := 8000000) (implicitDefEqProofs := false) (disch := omega) only [↓reduceIte, go_sem, if_pos, if_neg, eq_true hg, zc10])))
    | (refine gdKT_split (fun hg => ?_) (fun hg => ?_) <;> (try simp (maxSteps := 8000000) (implicitDefEqProofs := false) (disch := omega) only [↓reduceIte, go_sem, if_pos, if_neg, hg, zc10]))
    | (refine condKT_split (fun hg => ?_) (fun hg => ?_) <;> (try simp (maxSteps := 8000000) (implicitDefEqProofs := false) (disch := omega) only [↓reduceIte, go_sem, if_pos, if_neg, hg, zc10]))
    | (refine endT_p (.inr rfl) (by simp (maxSteps := 8000000) (implicitDefEqProofs := false) (disch := omega) only [↓reduceIte, go_sem, if_pos, if_neg, zc10]; rfl) ?_; (first | exact vb_true (by omega) | exact vb_false (by omega) | exact vb_dec (by omega) | exact vi_eq (by omega) | rfl | (refine vi_eq ?_; simp_all; done) | (refine vi_eq ?_; simp_all; omega) | (refine vi_eq ?_; simp_all; intros; omega)))
    | exact endT_v (.inr rfl) (by simp (maxSteps := 8000000) (implicitDefEqProofs := false) (disch := omega) only [↓reduceIte, go_sem, if_pos, if_neg, zc10]; try rfl) (fun _ => rfl)
theorem hd_Sa_at {c10 : Cell} (hc10 : FitC sh_SelS c10) {k : Int} (hk : 0 ≤ k) (hz : k + (wtC c10 : Int) ≤ 1099511627776) (a0 : Int) (a1 : Int) (a2 : Int) (a3 : Bool) (a4 : Int) (a5 : Int) (a6 : Int) (a7 : Int) (a8 : Int) (a9 : Int) : hdR_S sh_Sa [.agg [.p (.int .i64 a0), .p (.int .i64 a1), .p (.int .i64 a2), .p (.bool a3), .p (.int .i64 a4), .p (.int .i64 a5), .p (.int .i64 a6), .p (.int .i64 a7), .p (.int .i64 a8), .p (.int .i64 a9), fzC (mkC c10 (k))], .p (.int .i64 k)] = some (.p (.int .i64 (k + (wtC c10 : Int))), []) := by
  have := hdR_at (k := k) (sh_Sa_mkFit hc10 a0 a1 a2 a3 a4 a5 a6 a7 a8 a9) hk (by simp only [wtCs, wtC_v]; omega)
  simp only [mkCs, mkC_v, wtC_v, nat0T, Int.add_zero, fzCs, fzC, wtCs, Nat.zero_add, Nat.add_zero] at this
  exact this
-- laws.heldSa
def c98 : AF := ⟨12,
  (.seq (.reg [⟨(some 2), none, .box 32 (.t 0)⟩,
   ⟨(some 4), none, .mv (.v (.int .i64 0))⟩])
  (.seq (.reg [⟨(some 5), none, .fa (.t 2) 10⟩,
   ⟨(some 6), none, .ld (.t 5)⟩,
   ⟨(some 7), none, .mv (.t 1)⟩,
   ⟨(some 8), none, .call 152 [(.t 6), (.t 7)]⟩,
   ⟨(some 1), none, .mv (.t 8)⟩])
  (.seq (.seq (.reg [⟨(some 9), none, .mv (.t 1)⟩,
   ⟨(some 10), none, .bin .lss (.t 9) (.v (.int .i64 0))⟩])
  (.cond (.t 10) (.seq (.reg [⟨(some 4), none, .mv (.v (.int .i64 (-1)))⟩])
  .ret)
  .skip))
  (.seq (.reg [⟨(some 11), none, .mv (.t 1)⟩,
   ⟨(some 4), none, .mv (.t 11)⟩])
  .ret)))),
  [.t 4]⟩
theorem k98 : cFn Try.prog Try.f98 = some c98 := by kernel_rfl
theorem heldSa_ok : OkT Try.prog 98 (pureSp (hdR_S sh_Sa)) := by
  refine okT_hdR (OkΓT.cons heldSelS_ok (OkΓT.nil _)) Try.func98 (by kernel_rfl) k98 ?_
  intro c k hc h1 hz
  obtain ⟨a0, a1, a2, a3, a4, a5, a6, a7, a8, a9, c10, rfl, hc10⟩ := sh_Sa_Fit hc
  simp only [wtCs, wtC_v, Nat.zero_add, Nat.add_zero] at hz ⊢
  simp only [mkCs, mkC_v, wtC_v, nat0T, Int.add_zero, fzCs, fzC]
  (dsimp only [c98]; simp (maxSteps := 8000000) (implicitDefEqProofs := false) (disch := omega) only [↓reduceIte, go_sem, if_pos, if_neg, hdC_at hc10 (show 0 ≤ k by omega) (by omega)])
  repeat' first
    | (refine gdKT_dec (fun hg => ?_) (fun hg => ?_) <;> (try (first | simp (maxSteps := 8000000) (implicitDefEqProofs := false) (disch := omega) only [↓reduceIte, go_sem, if_pos, if_neg, eq_false hg, hdC_at hc10 (show 0 ≤ k by omega) (by omega)] | simp (maxSteps := 8000000) (implicitDefEqProofs := false) (disch := omega) only [↓reduceIte, go_sem, if_pos, if_neg, eq_true hg, hdC_at hc10 (show 0 ≤ k by omega) (by omega)])))
    | (refine condKT_dec (fun hg => ?_) (fun hg => ?_) <;> (try (first | simp (maxSteps := 8000000) (implicitDefEqProofs := false) (disch := omega) only [↓reduceIte, go_sem, if_pos, if_neg, eq_false hg, hdC_at hc10 (show 0 ≤ k by omega) (by omega)] | simp (maxSteps := 8000000) (implicitDefEqProofs := false) (disch := omega) only [↓reduceIte, go_sem, if_pos, if_neg, eq_true hg, hdC_at hc10 (show 0 ≤ k by omega) (by omega)])))
    | (refine gdKT_split (fun hg => ?_) (fun hg => ?_) <;> (try simp (maxSteps := 8000000) (implicitDefEqProofs := false) (disch := omega) only [↓reduceIte, go_sem, if_pos, if_neg, hg, hdC_at hc10 (show 0 ≤ k by omega) (by omega)]))
    | (refine condKT_split (fun hg => ?_) (fun hg => ?_) <;> (try simp (maxSteps := 8000000) (implicitDefEqProofs := false) (disch := omega) only [↓reduceIte, go_sem, if_pos, if_neg, hg, hdC_at hc10 (show 0 ≤ k by omega) (by omega)]))
    | (refine endT_p (.inr rfl) (by simp (maxSteps := 8000000) (implicitDefEqProofs := false) (disch := omega) only [↓reduceIte, go_sem, if_pos, if_neg, hdC_at hc10 (show 0 ≤ k by omega) (by omega)]; rfl) ?_; (first | exact vb_true (by omega) | exact vb_false (by omega) | exact vb_dec (by omega) | exact vi_eq (by omega) | rfl | (refine vi_eq ?_; simp_all; done) | (refine vi_eq ?_; simp_all; omega) | (refine vi_eq ?_; simp_all; intros; omega)))
    | exact endT_v (.inr rfl) (by simp (maxSteps := 8000000) (implicitDefEqProofs := false) (disch := omega) only [↓reduceIte, go_sem, if_pos, if_neg, hdC_at hc10 (show 0 ≤ k by omega) (by omega)]; try rfl) (fun _ => rfl)
-- laws.markSa
def c35 : AF := ⟨10,
  (.seq (.reg [⟨(some 2), none, .box 32 (.t 0)⟩,
   ⟨(some 4), none, .mv (.v (.int .i64 0))⟩])
  (.seq (.reg [⟨(some 5), none, .fa (.t 2) 10⟩,
   ⟨(some 6), none, .ld (.t 5)⟩,
   ⟨(some 7), none, .mv (.t 1)⟩,
   ⟨(some 8), none, .call 97 [(.t 6), (.t 7)]⟩,
   ⟨(some 1), none, .mv (.t 8)⟩])
  (.seq (.reg [⟨(some 9), none, .mv (.t 1)⟩,
   ⟨(some 4), none, .mv (.t 9)⟩])
  .ret))),
  [.t 4]⟩
theorem k35 : cFn Try.prog Try.f35 = some c35 := by kernel_rfl
theorem markSa_ok : OkT Try.prog 35 (mkR_Sp sh_Sa) := by
  refine okT_mkR (OkΓT.cons markSelS_ok (OkΓT.nil _)) Try.func35 (by kernel_rfl) k35 ?_
  intro c k hc h1 hz
  obtain ⟨a0, a1, a2, a3, a4, a5, a6, a7, a8, a9, c10, rfl, hc10⟩ := sh_Sa_Fit hc
  simp only [wtCs, wtC_v, Nat.zero_add, Nat.add_zero] at hz ⊢
  simp only [mkCs, mkC_v, wtC_v, nat0T, Int.add_zero]
  simp only [tvCs, tvC_v, tvC_nl, tvC_sl, nbC, Nat.add_zero, Nat.zero_add]
  generalize hN : nbCs _ = N
  have l0 : (bkCs 0 [.v (.int .i64 a0), .v (.int .i64 a1), .v (.int .i64 a2), .v (.bool a3), .v (.int .i64 a4), .v (.int .i64 a5), .v (.int .i64 a6), .v (.int .i64 a7), .v (.int .i64 a8), .v (.int .i64 a9), c10]).length = N := by rw [bkCs_len]; exact hN
  (dsimp only [c35]; simp (maxSteps := 8000000) (implicitDefEqProofs := false) (disch := omega) only [↓reduceIte, go_sem, if_pos, if_neg, l0, get_last l0])
  have m0 := fun X => mk_cell (A := [.v (.int .i64 a0), .v (.int .i64 a1), .v (.int .i64 a2), .v (.bool a3), .v (.int .i64 a4), .v (.int .i64 a5), .v (.int .i64 a6), .v (.int .i64 a7), .v (.int .i64 a8), .v (.int .i64 a9)]) (B := []) (G := [X]) (n := 0) (k := k) (by simp only [nbCs, nbC, mkC_nb] <;> omega) hc10 (by omega) (by omega)
  simp only [List.cons_append, List.nil_append, mkCs, mkC_v, wtCs, wtC_v, nat0T, Int.add_zero, Nat.add_zero, Nat.zero_add, tvCs, tvC_v, tvC_nl, tvC_sl, nbC, natAT, ← Int.add_assoc, mkC_tv, mkC_nb] at m0
  have l1 : (bkCs 0 [.v (.int .i64 a0), .v (.int .i64 a1), .v (.int .i64 a2), .v (.bool a3), .v (.int .i64 a4), .v (.int .i64 a5), .v (.int .i64 a6), .v (.int .i64 a7), .v (.int .i64 a8), .v (.int .i64 a9), (mkC c10 (k))]).length = N := by rw [bkCs_len, ← hN]; simp only [nbCs, mkC_nb]
  refine mutQ_call (by simp (maxSteps := 8000000) (implicitDefEqProofs := false) (disch := omega) only [↓reduceIte, go_sem, if_pos, if_neg]; rfl) (by simp (maxSteps := 8000000) (implicitDefEqProofs := false) (disch := omega) only [↓reduceIte, go_sem, if_pos, if_neg]) (m0 _) ?_
  simp (maxSteps := 8000000) (implicitDefEqProofs := false) (disch := omega) only [↓reduceIte, go_sem, if_pos, if_neg, l1, get_last l1]
  exact endK_cells (.inr rfl) (by rw [← hN]; simp only [nbCs, mkC_nb]; omega) (by (simp (maxSteps := 8000000) (implicitDefEqProofs := false) (disch := omega) only [↓reduceIte, go_sem, if_pos, if_neg, natAT, ← Int.add_assoc]) <;> rfl) rfl
def sh_SaS : Shp := .sl 32 sh_Sa
-- laws.toSaS
def c22 : AF := ⟨23,
  (.seq (.reg [⟨(some 2), none, .mv (.v (.slice none 0 0))⟩])
  (.seq (.reg [⟨(some 5), none, .mv (.t 0)⟩,
   ⟨(some 6), none, .len (.t 5)⟩,
   ⟨(some 7), none, .mkSl 32 11 104 [(.int .i64 0), (.int .i64 0), (.int .i64 0), (.bool false), (.int .i64 0), (.int .i64 0), (.int .i64 0), (.int .i64 0), (.int .i64 0), (.int .i64 0), (.slice none 0 0)] (.t 6) (.t 6)⟩,
   ⟨(some 3), none, .mv (.t 7)⟩])
  (.seq (.seq (.reg [⟨(some 4), none, .mv (.v (.int .i64 0))⟩])
  (.block 0 (.loop (.seq (.seq (.reg [⟨(some 8), none, .mv (.t 4)⟩,
   ⟨(some 9), none, .mv (.t 0)⟩,
   ⟨(some 10), none, .len (.t 9)⟩,
   ⟨(some 11), none, .bin .lss (.t 8) (.t 10)⟩])
  (.cond (.t 11) .skip
  (.exit 0)))
  (.seq (.block 1 (.reg [⟨(some 14), none, .mv (.t 3)⟩,
   ⟨(some 15), none, .mv (.t 4)⟩,
   ⟨(some 16), none, .mv (.t 0)⟩,
   ⟨(some 17), none, .mv (.t 4)⟩,
   ⟨(some 18), none, .ia 11 (.t 16) (.t 17)⟩,
   ⟨(some 19), none, .ldn 11 (.t 18)⟩,
   ⟨(some 20), none, .call 17 [(.t 19)]⟩,
   ⟨(some 21), none, .ia 11 (.t 14) (.t 15)⟩,
   ⟨none, none, .st 11 (.t 21) (.t 20)⟩]))
  (.reg [⟨(some 12), none, .mv (.t 4)⟩,
   ⟨(some 13), none, .bin .add (.t 12) (.v (.int .i64 1))⟩,
   ⟨(some 4), none, .mv (.t 13)⟩]))))))
  (.seq (.reg [⟨(some 22), none, .mv (.t 3)⟩,
   ⟨(some 2), none, .mv (.t 22)⟩])
  .ret)))),
  [.t 2]⟩
theorem k22 : cFn Try.prog Try.f22 = some c22 := by kernel_rfl
theorem toSaS_ok : OkT Try.prog 22 (pureSp (toC_S sh_SaS)) := by
  refine okT_toC (OkΓT.cons toSa_ok (OkΓT.nil _)) Try.func22 (by kernel_rfl) k22 ?_
  intro c hc hz
  simp only [sh_SaS, HasC] at hc
  obtain ⟨rows, rfl, hr⟩ := hc
  simp only [szC] at hz
  have hlen : ∀ r ∈ rows, r.length = 11 := fun r hx => (hr r hx).len
  generalize hzz : (el [.p (.int .i64 0), .p (.int .i64 0), .p (.int .i64 0), .p (.bool false), .p (.int .i64 0), .p (.int .i64 0), .p (.int .i64 0), .p (.int .i64 0), .p (.int .i64 0), .p (.int .i64 0), .nl] : TV) = z0
  have hz1 : cellsT z0 = [.p (.int .i64 0), .p (.int .i64 0), .p (.int .i64 0), .p (.bool false), .p (.int .i64 0), .p (.int .i64 0), .p (.int .i64 0), .p (.int .i64 0), .p (.int .i64 0), .p (.int .i64 0), .nl] := by rw [← hzz]; rfl
  simp only [fzC, tvC_v, tvC_nl, tvC_sl, bkC]
  (dsimp only [c22]; simp (maxSteps := 8000000) (implicitDefEqProofs := false) (disch := omega) only [↓reduceIte, go_sem, if_pos, if_neg, hzz, mixR_zero 1 rows z0])
  refine awpT_loop (α := Nat) (fun i => ⟨slots [(0, .s (fzRs rows)), (3, .os 0 0 rows.length), (4, .p (.int .i64 i))], .cells 32 11 (mixR 1 rows z0 i) :: bkRs 1 (rows.take i)⟩)
    (fun i => i ≤ rows.length) (fun i => rows.length - i) 0 (Nat.zero_le _) (by simp only [List.take_zero, bkRs]; exact le_keep (Nat.zero_le _) (by simp (maxSteps := 8000000) (implicitDefEqProofs := false) (disch := omega) only [↓reduceIte, go_sem, if_pos, if_neg, slotsIn])) ?_
  intro i hi
  simp (maxSteps := 8000000) (implicitDefEqProofs := false) (disch := omega) only [↓reduceIte, go_sem, if_pos, if_neg, mixR_len 1 rows z0 hi]
  refine condKT_dec (fun hlt => ?_) (fun hge => ?_)
  · obtain ⟨r, hx⟩ := get_ex (l := rows) (i := i) (by omega)
    have hrr := hr r (List.mem_of_getElem? hx)
    have hzr := szRs_mem hx
    have hg := fzRs_get hx; have hm := mixR_get 1 (rows := rows) z0 (i := i) (by omega)
    have hs := mixR_set 1 z0 hx; have hb := bkRs_snoc 1 hx; have hn := bkRs_len 1 (rows.take i)
    obtain ⟨a0, a1, a2, a3, a4, a5, a6, a7, a8, a9, c10, rfl, hc10⟩ := sh_Sa_Has hrr
    simp only [szCs, szC] at hzr
    simp only [fzCs, fzC, tvCs, tvC_v, tvC_nl, tvC_sl, bkCs, bkC, nbC, nbCs, Nat.add_zero, List.append_nil, List.nil_append, el_one, el_two, Nat.add_comm 1 (nbRs _)] at hg hs hb
    simp (maxSteps := 8000000) (implicitDefEqProofs := false) (disch := omega) only [↓reduceIte, go_sem, if_pos, if_neg, eq_true hlt, hg, hm, hs, hn, hz1, el_two, to_Sa_at hc10 (by omega)]
    refine loopKT_next (i + 1) (by omega) (by omega) ?_
    rw [hb]; refine (le_keep (Nat.zero_le _) ?_) <;> simp (maxSteps := 8000000) (implicitDefEqProofs := false) (disch := omega) only [↓reduceIte, go_sem, if_pos, if_neg, slotsIn]
  · have hb : rows.take i = rows := List.take_of_length_le (by omega)
    have hm := mixR_full 1 (rows := rows) z0 (i := i) (by omega)
    simp (maxSteps := 8000000) (implicitDefEqProofs := false) (disch := omega) only [↓reduceIte, go_sem, if_pos, if_neg, eq_false hge, hb, hm]
    refine joinK_here ?_
    simp (maxSteps := 8000000) (implicitDefEqProofs := false) (disch := omega) only [↓reduceIte, go_sem, if_pos, if_neg]
    exact endT_same (.inr rfl) (by (simp (maxSteps := 8000000) (implicitDefEqProofs := false) (disch := omega) only [↓reduceIte, go_sem, if_pos, if_neg]) <;> rfl) rfl
-- laws.eqSaS
def c24 : AF := ⟨27,
  (.seq (.reg [⟨(some 4), none, .mv (.v (.bool false))⟩])
  (.seq (.seq (.reg [⟨(some 6), none, .mv (.t 0)⟩,
   ⟨(some 7), none, .len (.t 6)⟩,
   ⟨(some 8), none, .mv (.t 1)⟩,
   ⟨(some 9), none, .len (.t 8)⟩,
   ⟨(some 10), none, .bin .neq (.t 7) (.t 9)⟩])
  (.cond (.t 10) (.seq (.reg [⟨(some 4), none, .mv (.v (.bool false))⟩])
  .ret)
  .skip))
  (.seq (.seq (.reg [⟨(some 5), none, .mv (.v (.int .i64 0))⟩])
  (.block 0 (.loop (.seq (.seq (.reg [⟨(some 11), none, .mv (.t 5)⟩,
   ⟨(some 12), none, .mv (.t 0)⟩,
   ⟨(some 13), none, .len (.t 12)⟩,
   ⟨(some 14), none, .bin .lss (.t 11) (.t 13)⟩])
  (.cond (.t 14) .skip
  (.exit 0)))
  (.seq (.block 1 (.seq (.drw [⟨(some 17), none, .mv (.t 0)⟩,
   ⟨(some 18), none, .mv (.t 5)⟩,
   ⟨(some 19), none, .ia 11 (.t 17) (.t 18)⟩,
   ⟨(some 20), none, .ldn 11 (.t 19)⟩,
   ⟨(some 21), none, .mv (.t 1)⟩,
   ⟨(some 22), none, .mv (.t 5)⟩,
   ⟨(some 23), none, .ia 11 (.t 21) (.t 22)⟩,
   ⟨(some 24), none, .ldn 11 (.t 23)⟩] [⟨(some 25), none, .call 19 [(.t 20), (.t 24)]⟩,
   ⟨(some 26), none, .un .not (.t 25)⟩])
  (.cond (.t 26) (.seq (.reg [⟨(some 4), none, .mv (.v (.bool false))⟩])
  .ret)
  .skip)))
  (.reg [⟨(some 15), none, .mv (.t 5)⟩,
   ⟨(some 16), none, .bin .add (.t 15) (.v (.int .i64 1))⟩,
   ⟨(some 5), none, .mv (.t 16)⟩]))))))
  (.seq (.reg [⟨(some 4), none, .mv (.v (.bool true))⟩])
  .ret)))),
  [.t 4]⟩
theorem k24 : cFn Try.prog Try.f24 = some c24 := by kernel_rfl
theorem eqSaS_ok : OkT Try.prog 24 (pureSp (eqC_S sh_SaS)) := by
  refine okT_eqC (OkΓT.cons eqSa_ok (OkΓT.nil _)) Try.func24 (by kernel_rfl) k24 ?_
  intro c hc hz
  obtain ⟨rows, hf, hr, hsz, _⟩ := FitC.rows hc
  rw [hf]
  (dsimp only [c24]; simp (maxSteps := 8000000) (implicitDefEqProofs := false) (disch := omega) only [↓reduceIte, go_sem, if_pos, if_neg])
  refine awpT_loop (α := Nat) (fun i => ⟨slots [(0, .s (fzRs rows)), (1, .s (fzRs rows)), (5, .p (.int .i64 i))], []⟩) (fun i => i ≤ rows.length) (fun i => rows.length - i) 0 (Nat.zero_le _) (le_of [] (by simp (maxSteps := 8000000) (implicitDefEqProofs := false) (disch := omega) only [↓reduceIte, go_sem, if_pos, if_neg]) (by simp (maxSteps := 8000000) (implicitDefEqProofs := false) (disch := omega) only [↓reduceIte, go_sem, if_pos, if_neg]) (by decide) (by simp)) ?_
  intro i hi
  simp (maxSteps := 8000000) (implicitDefEqProofs := false) (disch := omega) only [↓reduceIte, go_sem, if_pos, if_neg]
  refine condKT_dec (fun hlt => ?_) (fun hge => ?_)
  · obtain ⟨r, hx⟩ := get_ex (l := rows) (i := i) (by omega)
    have hrr := hr r (List.mem_of_getElem? hx)
    have hzr := szRs_mem hx
    have hg := fzRs_get hx
    obtain ⟨a0, a1, a2, a3, a4, a5, a6, a7, a8, a9, c10, rfl, hc10⟩ := sh_Sa_Fit hrr
    simp only [szCs, szC] at hzr
    simp only [fzCs, fzC, el_one, el_two] at hg
    simp (maxSteps := 8000000) (implicitDefEqProofs := false) (disch := omega) only [↓reduceIte, go_sem, if_pos, if_neg, eq_true hlt, hg, eq_Sa_at hc10 (by omega)]
    refine loopKT_next (i + 1) (by omega) (by omega) ?_
    exact (le_of [] (by simp (maxSteps := 8000000) (implicitDefEqProofs := false) (disch := omega) only [↓reduceIte, go_sem, if_pos, if_neg]) (by simp (maxSteps := 8000000) (implicitDefEqProofs := false) (disch := omega) only [↓reduceIte, go_sem, if_pos, if_neg]) (by decide) (by simp))
  · simp (maxSteps := 8000000) (implicitDefEqProofs := false) (disch := omega) only [↓reduceIte, go_sem, if_pos, if_neg, eq_false hge]
    refine joinK_here ?_
    simp (maxSteps := 8000000) (implicitDefEqProofs := false) (disch := omega) only [↓reduceIte, go_sem, if_pos, if_neg]
    repeat' first
      | (refine gdKT_dec (fun hg => ?_) (fun hg => ?_) <;> (try (first | simp (maxSteps := 8000000) (implicitDefEqProofs := false) (disch := omega) only [↓reduceIte, go_sem, if_pos, if_neg, eq_false hg] | simp (maxSteps := 8000000) (implicitDefEqProofs := false) (disch := omega) only [↓reduceIte, go_sem, if_pos, if_neg, eq_true hg])))
      | (refine condKT_dec (fun hg => ?_) (fun hg => ?_) <;> (try (first | simp (maxSteps := 8000000) (implicitDefEqProofs := false) (disch := omega) only [↓reduceIte, go_sem, if_pos, if_neg, eq_false hg] | simp (maxSteps := 8000000) (implicitDefEqProofs := false) (disch := omega) only [↓reduceIte, go_sem, if_pos, if_neg, eq_true hg])))
      | (refine gdKT_split (fun hg => ?_) (fun hg => ?_) <;> (try simp (maxSteps := 8000000) (implicitDefEqProofs := false) (disch := omega) only [↓reduceIte, go_sem, if_pos, if_neg, hg]))
      | (refine condKT_split (fun hg => ?_) (fun hg => ?_) <;> (try simp (maxSteps := 8000000) (implicitDefEqProofs := false) (disch := omega) only [↓reduceIte, go_sem, if_pos, if_neg, hg]))
      | (refine endT_p (.inr rfl) (by simp (maxSteps := 8000000) (implicitDefEqProofs := false) (disch := omega) only [↓reduceIte, go_sem, if_pos, if_neg]; rfl) ?_; (first | exact vb_true (by omega) | exact vb_false (by omega) | exact vb_dec (by omega) | exact vi_eq (by omega) | rfl | (refine vi_eq ?_; simp_all; done) | (refine vi_eq ?_; simp_all; omega) | (refine vi_eq ?_; simp_all; intros; omega)))
      | exact endT_v (.inr rfl) (by simp (maxSteps := 8000000) (implicitDefEqProofs := false) (disch := omega) only [↓reduceIte, go_sem, if_pos, if_neg]; try rfl) (fun _ => rfl)
-- laws.szSaS
def c20 : AF := ⟨27,
  (.seq (.reg [⟨(some 4), none, .mv (.v (.int .i64 0))⟩])
  (.seq (.reg [⟨(some 6), none, .mv (.t 1)⟩,
   ⟨(some 7), none, .mv (.t 0)⟩,
   ⟨(some 8), none, .len (.t 7)⟩,
   ⟨(some 9), none, .bin .sub (.t 6) (.t 8)⟩,
   ⟨(some 1), none, .mv (.t 9)⟩])
  (.seq (.seq (.reg [⟨(some 10), none, .mv (.t 1)⟩,
   ⟨(some 11), none, .bin .lss (.t 10) (.v (.int .i64 0))⟩])
  (.cond (.t 11) (.seq (.reg [⟨(some 4), none, .mv (.v (.int .i64 (-1)))⟩])
  .ret)
  .skip))
  (.seq (.seq (.reg [⟨(some 5), none, .mv (.v (.int .i64 0))⟩])
  (.block 0 (.loop (.seq (.seq (.reg [⟨(some 12), none, .mv (.t 5)⟩,
   ⟨(some 13), none, .mv (.t 0)⟩,
   ⟨(some 14), none, .len (.t 13)⟩,
   ⟨(some 15), none, .bin .lss (.t 12) (.t 14)⟩])
  (.cond (.t 15) .skip
  (.exit 0)))
  (.seq (.block 1 (.seq (.reg [⟨(some 18), none, .mv (.t 0)⟩,
   ⟨(some 19), none, .mv (.t 5)⟩,
   ⟨(some 20), none, .ia 11 (.t 18) (.t 19)⟩,
   ⟨(some 21), none, .ldn 11 (.t 20)⟩,
   ⟨(some 22), none, .mv (.t 1)⟩,
   ⟨(some 23), none, .call 15 [(.t 21), (.t 22)]⟩,
   ⟨(some 1), none, .mv (.t 23)⟩])
  (.seq (.reg [⟨(some 24), none, .mv (.t 1)⟩,
   ⟨(some 25), none, .bin .lss (.t 24) (.v (.int .i64 0))⟩])
  (.cond (.t 25) (.seq (.reg [⟨(some 4), none, .mv (.v (.int .i64 (-1)))⟩])
  .ret)
  .skip))))
  (.reg [⟨(some 16), none, .mv (.t 5)⟩,
   ⟨(some 17), none, .bin .add (.t 16) (.v (.int .i64 1))⟩,
   ⟨(some 5), none, .mv (.t 17)⟩]))))))
  (.seq (.reg [⟨(some 26), none, .mv (.t 1)⟩,
   ⟨(some 4), none, .mv (.t 26)⟩])
  .ret))))),
  [.t 4]⟩
theorem k20 : cFn Try.prog Try.f20 = some c20 := by kernel_rfl
theorem szSaS_ok : OkT Try.prog 20 (pureSp (szC_S sh_SaS)) := by
  refine okT_szC (OkΓT.cons szSa_ok (OkΓT.nil _)) Try.func20 (by kernel_rfl) k20 ?_
  intro c k hc h1 h2 hz
  simp only [sh_SaS, HasC] at hc
  obtain ⟨rows, rfl, hr⟩ := hc
  generalize hN : szC _ = N at *
  simp only [szC] at hN
  simp only [lnC, Bool.and_eq_true, decide_eq_true_eq] at hz
  obtain ⟨hz, hzr⟩ := hz
  simp only [fzC]
  by_cases q : (rows.length : Int) ≤ k
  case neg =>
    rw [if_neg (by omega)]
    (dsimp only [c20]; simp (maxSteps := 8000000) (implicitDefEqProofs := false) (disch := omega) only [↓reduceIte, go_sem, if_pos, if_neg])
    repeat' first
      | (refine gdKT_dec (fun hg => ?_) (fun hg => ?_) <;> (try (first | simp (maxSteps := 8000000) (implicitDefEqProofs := false) (disch := omega) only [↓reduceIte, go_sem, if_pos, if_neg, eq_false hg] | simp (maxSteps := 8000000) (implicitDefEqProofs := false) (disch := omega) only [↓reduceIte, go_sem, if_pos, if_neg, eq_true hg])))
      | (refine condKT_dec (fun hg => ?_) (fun hg => ?_) <;> (try (first | simp (maxSteps := 8000000) (implicitDefEqProofs := false) (disch := omega) only [↓reduceIte, go_sem, if_pos, if_neg, eq_false hg] | simp (maxSteps := 8000000) (implicitDefEqProofs := false) (disch := omega) only [↓reduceIte, go_sem, if_pos, if_neg, eq_true hg])))
      | (refine gdKT_split (fun hg => ?_) (fun hg => ?_) <;> (try simp (maxSteps := 8000000) (implicitDefEqProofs := false) (disch := omega) only [↓reduceIte, go_sem, if_pos, if_neg, hg]))
      | (refine condKT_split (fun hg => ?_) (fun hg => ?_) <;> (try simp (maxSteps := 8000000) (implicitDefEqProofs := false) (disch := omega) only [↓reduceIte, go_sem, if_pos, if_neg, hg]))
      | (refine endT_p (.inr rfl) (by simp (maxSteps := 8000000) (implicitDefEqProofs := false) (disch := omega) only [↓reduceIte, go_sem, if_pos, if_neg]; rfl) ?_; (first | exact vb_true (by omega) | exact vb_false (by omega) | exact vb_dec (by omega) | exact vi_eq (by omega) | rfl | (refine vi_eq ?_; simp_all; done) | (refine vi_eq ?_; simp_all; omega) | (refine vi_eq ?_; simp_all; intros; omega)))
      | exact endT_v (.inr rfl) (by simp (maxSteps := 8000000) (implicitDefEqProofs := false) (disch := omega) only [↓reduceIte, go_sem, if_pos, if_neg]; try rfl) (fun _ => rfl)
  (dsimp only [c20]; simp (maxSteps := 8000000) (implicitDefEqProofs := false) (disch := omega) only [↓reduceIte, go_sem, if_pos, if_neg, eq_false (show ¬ (k - (rows.length : Int) < 0) by omega)])
  refine awpT_loop (α := Nat) (fun i => ⟨slots [(0, .s (fzRs rows)), (1, .p (.int .i64 (k - (rows.length : Int) - (szRs (rows.take i) : Int)))), (5, .p (.int .i64 i))], []⟩) (fun i => i ≤ rows.length ∧ (rows.length : Int) + szRs (rows.take i) ≤ k) (fun i => rows.length - i) 0 ⟨Nat.zero_le _, by simp only [List.take_zero, szRs]; omega⟩ (by simp only [List.take_zero, szRs, nat0T, Int.sub_zero]; exact (le_of [] (by simp (maxSteps := 8000000) (implicitDefEqProofs := false) (disch := omega) only [↓reduceIte, go_sem, if_pos, if_neg]) (by simp (maxSteps := 8000000) (implicitDefEqProofs := false) (disch := omega) only [↓reduceIte, go_sem, if_pos, if_neg]) (by decide) (by simp))) ?_
  intro i ⟨hi, hk⟩
  simp (maxSteps := 8000000) (implicitDefEqProofs := false) (disch := omega) only [↓reduceIte, go_sem, if_pos, if_neg]
  refine condKT_dec (fun hlt => ?_) (fun hge => ?_)
  · obtain ⟨r, hx⟩ := get_ex (l := rows) (i := i) (by omega)
    have hrr := hr r (List.mem_of_getElem? hx)
    have hln := lnRs_mem hzr hx
    have hzr := szRs_mem hx
    have hg := fzRs_get hx; have hsn := szRs_snoc hx
    obtain ⟨a0, a1, a2, a3, a4, a5, a6, a7, a8, a9, c10, rfl, hc10⟩ := sh_Sa_Has hrr
    simp only [lnCs, lnC, Bool.true_and, Bool.and_true, Bool.and_eq_true] at hln
    simp only [szCs, szC, Nat.add_zero, Nat.zero_add] at hzr hsn
    simp only [fzCs, fzC, el_one, el_two] at hg
    have hq := fun a0 a1 a2 a3 a4 a5 a6 a7 a8 a9 => sz_Sa_at hc10 (k := k - (rows.length : Int) - (szRs (rows.take i) : Int)) (by omega) hln a0 a1 a2 a3 a4 a5 a6 a7 a8 a9
    by_cases q2 : ((szC c10 : Nat) : Int) ≤ k - (rows.length : Int) - (szRs (rows.take i) : Int)
    · simp only [if_pos q2] at hq
      simp (maxSteps := 8000000) (implicitDefEqProofs := false) (disch := omega) only [↓reduceIte, go_sem, if_pos, if_neg, eq_true hlt, hg, hq, eq_false (show ¬ (k - (rows.length : Int) - (szRs (rows.take i) : Int) - ((szC c10 : Nat) : Int) < 0) by omega)]
      refine loopKT_next (i + 1) ⟨by omega, by omega⟩ (by omega) ?_
      have hs2 : k - (rows.length : Int) - (szRs (rows.take i) : Int) - ((szC c10 : Nat) : Int) = k - (rows.length : Int) - (szRs (rows.take (i + 1)) : Int) := by omega
      exact (le_of [] (by simp (maxSteps := 8000000) (implicitDefEqProofs := false) (disch := omega) only [↓reduceIte, go_sem, if_pos, if_neg, hs2]) (by simp (maxSteps := 8000000) (implicitDefEqProofs := false) (disch := omega) only [↓reduceIte, go_sem, if_pos, if_neg, hs2]) (by decide) (by simp))
    · simp only [if_neg q2] at hq
      rw [if_neg (show ¬ _ by omega)]
      simp (maxSteps := 8000000) (implicitDefEqProofs := false) (disch := omega) only [↓reduceIte, go_sem, if_pos, if_neg, eq_true hlt, hg, hq]
      repeat' first
        | (refine gdKT_dec (fun hg => ?_) (fun hg => ?_) <;> (try (first | simp (maxSteps := 8000000) (implicitDefEqProofs := false) (disch := omega) only [↓reduceIte, go_sem, if_pos, if_neg, eq_false hg, eq_true hlt, hg, hq] | simp (maxSteps := 8000000) (implicitDefEqProofs := false) (disch := omega) only [↓reduceIte, go_sem, if_pos, if_neg, eq_true hg, eq_true hlt, hg, hq])))
        | (refine condKT_dec (fun hg => ?_) (fun hg => ?_) <;> (try (first | simp (maxSteps := 8000000) (implicitDefEqProofs := false) (disch := omega) only [↓reduceIte, go_sem, if_pos, if_neg, eq_false hg, eq_true hlt, hg, hq] | simp (maxSteps := 8000000) (implicitDefEqProofs := false) (disch := omega) only [↓reduceIte, go_sem, if_pos, if_neg, eq_true hg, eq_true hlt, hg, hq])))
        | (refine gdKT_split (fun hg => ?_) (fun hg => ?_) <;> (try simp (maxSteps := 8000000) (implicitDefEqProofs := false) (disch := omega) only [↓reduceIte, go_sem, if_pos, if_neg, hg, eq_true hlt, hg, hq]))
        | (refine condKT_split (fun hg => ?_) (fun hg => ?_) <;> (try simp (maxSteps := 8000000) (implicitDefEqProofs := false) (disch := omega) only [↓reduceIte, go_sem, if_pos, if_neg, hg, eq_true hlt, hg, hq]))
        | (refine endT_p (.inr rfl) (by simp (maxSteps := 8000000) (implicitDefEqProofs := false) (disch := omega) only [↓reduceIte, go_sem, if_pos, if_neg, eq_true hlt, hg, hq]; rfl) ?_; (first | exact vb_true (by omega) | exact vb_false (by omega) | exact vb_dec (by omega) | exact vi_eq (by omega) | rfl | (refine vi_eq ?_; simp_all; done) | (refine vi_eq ?_; simp_all; omega) | (refine vi_eq ?_; simp_all; intros; omega)))
        | exact endT_v (.inr rfl) (by simp (maxSteps := 8000000) (implicitDefEqProofs := false) (disch := omega) only [↓reduceIte, go_sem, if_pos, if_neg, eq_true hlt, hg, hq]; try rfl) (fun _ => rfl)
  · have hb : rows.take i = rows := List.take_of_length_le (by omega)
    rw [hb] at hk
    rw [if_pos (show _ by omega), show k - (N : Int) = k - (rows.length : Int) - (szRs rows : Int) by omega]
    simp (maxSteps := 8000000) (implicitDefEqProofs := false) (disch := omega) only [↓reduceIte, go_sem, if_pos, if_neg, eq_false hge, hb]
    refine joinK_here ?_
    simp (maxSteps := 8000000) (implicitDefEqProofs := false) (disch := omega) only [↓reduceIte, go_sem, if_pos, if_neg]
    repeat' first
      | (refine gdKT_dec (fun hg => ?_) (fun hg => ?_) <;> (try (first | simp (maxSteps := 8000000) (implicitDefEqProofs := false) (disch := omega) only [↓reduceIte, go_sem, if_pos, if_neg, eq_false hg] | simp (maxSteps := 8000000) (implicitDefEqProofs := false) (disch := omega) only [↓reduceIte, go_sem, if_pos, if_neg, eq_true hg])))
      | (refine condKT_dec (fun hg => ?_) (fun hg => ?_) <;> (try (first | simp (maxSteps := 8000000) (implicitDefEqProofs := false) (disch := omega) only [↓reduceIte, go_sem, if_pos, if_neg, eq_false hg] | simp (maxSteps := 8000000) (implicitDefEqProofs := false) (disch := omega) only [↓reduceIte, go_sem, if_pos, if_neg, eq_true hg])))
      | (refine gdKT_split (fun hg => ?_) (fun hg => ?_) <;> (try simp (maxSteps := 8000000) (implicitDefEqProofs := false) (disch := omega) only [↓reduceIte, go_sem, if_pos, if_neg, hg]))
      | (refine condKT_split (fun hg => ?_) (fun hg => ?_) <;> (try simp (maxSteps := 8000000) (implicitDefEqProofs := false) (disch := omega) only [↓reduceIte, go_sem, if_pos, if_neg, hg]))
      | (refine endT_p (.inr rfl) (by simp (maxSteps := 8000000) (implicitDefEqProofs := false) (disch := omega) only [↓reduceIte, go_sem, if_pos, if_neg]; rfl) ?_; (first | exact vb_true (by omega) | exact vb_false (by omega) | exact vb_dec (by omega) | exact vi_eq (by omega) | rfl | (refine vi_eq ?_; simp_all; done) | (refine vi_eq ?_; simp_all; omega) | (refine vi_eq ?_; simp_all; intros; omega)))
      | exact endT_v (.inr rfl) (by simp (maxSteps := 8000000) (implicitDefEqProofs := false) (disch := omega) only [↓reduceIte, go_sem, if_pos, if_neg]; try rfl) (fun _ => rfl)
-- laws.heldSaS
def c114 : AF := ⟨116,
  (.seq (.reg [⟨(some 4), none, .mv (.v (.int .i64 0))⟩])
  (.seq (.seq (.reg [⟨(some 5), none, .mv (.v (.int .i64 0))⟩])
  (.block 0 (.loop (.seq (.seq (.reg [⟨(some 6), none, .mv (.t 5)⟩,
   ⟨(some 7), none, .mv (.t 0)⟩,
   ⟨(some 8), none, .len (.t 7)⟩,
   ⟨(some 9), none, .bin .lss (.t 6) (.t 8)⟩])
  (.cond (.t 9) .skip
  (.exit 0)))
  (.seq (.block 1 (.seq (.seq (.reg [⟨(some 12), none, .mv (.t 0)⟩,
   ⟨(some 13), none, .mv (.t 5)⟩,
   ⟨(some 14), none, .ia 11 (.t 12) (.t 13)⟩,
   ⟨(some 15), none, .fa (.t 14) 0⟩,
   ⟨(some 16), none, .ld (.t 15)⟩,
   ⟨(some 17), none, .mv (.t 1)⟩,
   ⟨(some 18), none, .bin .neq (.t 16) (.t 17)⟩])
  (.cond (.t 18) (.seq (.reg [⟨(some 4), none, .mv (.v (.int .i64 (-1)))⟩])
  .ret)
  .skip))
  (.seq (.reg [⟨(some 19), none, .mv (.t 1)⟩,
   ⟨(some 20), none, .bin .add (.t 19) (.v (.int .i64 1))⟩,
   ⟨(some 1), none, .mv (.t 20)⟩])
  (.seq (.seq (.reg [⟨(some 21), none, .mv (.t 0)⟩,
   ⟨(some 22), none, .mv (.t 5)⟩,
   ⟨(some 23), none, .ia 11 (.t 21) (.t 22)⟩,
   ⟨(some 24), none, .fa (.t 23) 1⟩,
   ⟨(some 25), none, .ld (.t 24)⟩,
   ⟨(some 26), none, .mv (.t 1)⟩,
   ⟨(some 27), none, .bin .neq (.t 25) (.t 26)⟩])
  (.cond (.t 27) (.seq (.reg [⟨(some 4), none, .mv (.v (.int .i64 (-1)))⟩])
  .ret)
  .skip))
  (.seq (.reg [⟨(some 28), none, .mv (.t 1)⟩,
   ⟨(some 29), none, .bin .add (.t 28) (.v (.int .i64 1))⟩,
   ⟨(some 1), none, .mv (.t 29)⟩])
  (.seq (.seq (.reg [⟨(some 30), none, .mv (.t 0)⟩,
   ⟨(some 31), none, .mv (.t 5)⟩,
   ⟨(some 32), none, .ia 11 (.t 30) (.t 31)⟩,
   ⟨(some 33), none, .fa (.t 32) 2⟩,
   ⟨(some 34), none, .ld (.t 33)⟩,
   ⟨(some 35), none, .mv (.t 1)⟩,
   ⟨(some 36), none, .bin .neq (.t 34) (.t 35)⟩])
  (.cond (.t 36) (.seq (.reg [⟨(some 4), none, .mv (.v (.int .i64 (-1)))⟩])
  .ret)
  .skip))
  (.seq (.reg [⟨(some 37), none, .mv (.t 1)⟩,
   ⟨(some 38), none, .bin .add (.t 37) (.v (.int .i64 1))⟩,
   ⟨(some 1), none, .mv (.t 38)⟩])
  (.seq (.seq (.reg [⟨(some 39), none, .mv (.t 0)⟩,
   ⟨(some 40), none, .mv (.t 5)⟩,
   ⟨(some 41), none, .ia 11 (.t 39) (.t 40)⟩,
   ⟨(some 42), none, .fa (.t 41) 3⟩,
   ⟨(some 43), none, .ld (.t 42)⟩,
   ⟨(some 44), none, .mv (.t 1)⟩,
   ⟨(some 45), none, .bin .rem (.t 44) (.v (.int .i64 3))⟩,
   ⟨(some 46), none, .bin .eql (.t 45) (.v (.int .i64 0))⟩,
   ⟨(some 47), none, .eqB true (.t 43) (.t 46)⟩])
  (.cond (.t 47) (.seq (.reg [⟨(some 4), none, .mv (.v (.int .i64 (-1)))⟩])
  .ret)
  .skip))
  (.seq (.reg [⟨(some 48), none, .mv (.t 1)⟩,
   ⟨(some 49), none, .bin .add (.t 48) (.v (.int .i64 1))⟩,
   ⟨(some 1), none, .mv (.t 49)⟩])
  (.seq (.seq (.reg [⟨(some 50), none, .mv (.t 0)⟩,
   ⟨(some 51), none, .mv (.t 5)⟩,
   ⟨(some 52), none, .ia 11 (.t 50) (.t 51)⟩,
   ⟨(some 53), none, .fa (.t 52) 4⟩,
   ⟨(some 54), none, .ld (.t 53)⟩,
   ⟨(some 55), none, .mv (.t 1)⟩,
   ⟨(some 56), none, .bin .neq (.t 54) (.t 55)⟩])
  (.cond (.t 56) (.seq (.reg [⟨(some 4), none, .mv (.v (.int .i64 (-1)))⟩])
  .ret)
  .skip))
  (.seq (.reg [⟨(some 57), none, .mv (.t 1)⟩,
   ⟨(some 58), none, .bin .add (.t 57) (.v (.int .i64 1))⟩,
   ⟨(some 1), none, .mv (.t 58)⟩])
  (.seq (.seq (.reg [⟨(some 59), none, .mv (.t 0)⟩,
   ⟨(some 60), none, .mv (.t 5)⟩,
   ⟨(some 61), none, .ia 11 (.t 59) (.t 60)⟩,
   ⟨(some 62), none, .fa (.t 61) 5⟩,
   ⟨(some 63), none, .fa (.t 62) 0⟩,
   ⟨(some 64), none, .ld (.t 63)⟩,
   ⟨(some 65), none, .mv (.t 1)⟩,
   ⟨(some 66), none, .bin .neq (.t 64) (.t 65)⟩])
  (.cond (.t 66) (.seq (.reg [⟨(some 4), none, .mv (.v (.int .i64 (-1)))⟩])
  .ret)
  .skip))
  (.seq (.reg [⟨(some 67), none, .mv (.t 1)⟩,
   ⟨(some 68), none, .bin .add (.t 67) (.v (.int .i64 1))⟩,
   ⟨(some 1), none, .mv (.t 68)⟩])
  (.seq (.seq (.reg [⟨(some 69), none, .mv (.t 0)⟩,
   ⟨(some 70), none, .mv (.t 5)⟩,
   ⟨(some 71), none, .ia 11 (.t 69) (.t 70)⟩,
   ⟨(some 72), none, .fa (.t 71) 5⟩,
   ⟨(some 73), none, .fa (.t 72) 1⟩,
   ⟨(some 74), none, .ld (.t 73)⟩,
   ⟨(some 75), none, .mv (.t 1)⟩,
   ⟨(some 76), none, .bin .neq (.t 74) (.t 75)⟩])
  (.cond (.t 76) (.seq (.reg [⟨(some 4), none, .mv (.v (.int .i64 (-1)))⟩])
  .ret)
  .skip))
  (.seq (.reg [⟨(some 77), none, .mv (.t 1)⟩,
   ⟨(some 78), none, .bin .add (.t 77) (.v (.int .i64 1))⟩,
   ⟨(some 1), none, .mv (.t 78)⟩])
  (.seq (.seq (.reg [⟨(some 79), none, .mv (.t 0)⟩,
   ⟨(some 80), none, .mv (.t 5)⟩,
   ⟨(some 81), none, .ia 11 (.t 79) (.t 80)⟩,
   ⟨(some 82), none, .fa (.t 81) 7⟩,
   ⟨(some 83), none, .ld (.t 82)⟩,
   ⟨(some 84), none, .mv (.t 1)⟩,
   ⟨(some 85), none, .bin .neq (.t 83) (.t 84)⟩])
  (.cond (.t 85) (.seq (.reg [⟨(some 4), none, .mv (.v (.int .i64 (-1)))⟩])
  .ret)
  .skip))
  (.seq (.reg [⟨(some 86), none, .mv (.t 1)⟩,
   ⟨(some 87), none, .bin .add (.t 86) (.v (.int .i64 1))⟩,
   ⟨(some 1), none, .mv (.t 87)⟩])
  (.seq (.seq (.reg [⟨(some 88), none, .mv (.t 0)⟩,
   ⟨(some 89), none, .mv (.t 5)⟩,
   ⟨(some 90), none, .ia 11 (.t 88) (.t 89)⟩,
   ⟨(some 91), none, .fa (.t 90) 8⟩,
   ⟨(some 92), none, .ld (.t 91)⟩,
   ⟨(some 93), none, .mv (.t 1)⟩,
   ⟨(some 94), none, .bin .neq (.t 92) (.t 93)⟩])
  (.cond (.t 94) (.seq (.reg [⟨(some 4), none, .mv (.v (.int .i64 (-1)))⟩])
  .ret)
  .skip))
  (.seq (.reg [⟨(some 95), none, .mv (.t 1)⟩,
   ⟨(some 96), none, .bin .add (.t 95) (.v (.int .i64 1))⟩,
   ⟨(some 1), none, .mv (.t 96)⟩])
  (.seq (.seq (.reg [⟨(some 97), none, .mv (.t 0)⟩,
   ⟨(some 98), none, .mv (.t 5)⟩,
   ⟨(some 99), none, .ia 11 (.t 97) (.t 98)⟩,
   ⟨(some 100), none, .fa (.t 99) 9⟩,
   ⟨(some 101), none, .ld (.t 100)⟩,
   ⟨(some 102), none, .mv (.t 1)⟩,
   ⟨(some 103), none, .bin .neq (.t 101) (.t 102)⟩])
  (.cond (.t 103) (.seq (.reg [⟨(some 4), none, .mv (.v (.int .i64 (-1)))⟩])
  .ret)
  .skip))
  (.seq (.reg [⟨(some 104), none, .mv (.t 1)⟩,
   ⟨(some 105), none, .bin .add (.t 104) (.v (.int .i64 1))⟩,
   ⟨(some 1), none, .mv (.t 105)⟩])
  (.seq (.reg [⟨(some 106), none, .mv (.t 0)⟩,
   ⟨(some 107), none, .mv (.t 5)⟩,
   ⟨(some 108), none, .ia 11 (.t 106) (.t 107)⟩,
   ⟨(some 109), none, .fa (.t 108) 10⟩,
   ⟨(some 110), none, .ld (.t 109)⟩,
   ⟨(some 111), none, .mv (.t 1)⟩,
   ⟨(some 112), none, .call 152 [(.t 110), (.t 111)]⟩,
   ⟨(some 1), none, .mv (.t 112)⟩])
  (.seq (.reg [⟨(some 113), none, .mv (.t 1)⟩,
   ⟨(some 114), none, .bin .lss (.t 113) (.v (.int .i64 0))⟩])
  (.cond (.t 114) (.seq (.reg [⟨(some 4), none, .mv (.v (.int .i64 (-1)))⟩])
  .ret)
  .skip))))))))))))))))))))))))
  (.reg [⟨(some 10), none, .mv (.t 5)⟩,
   ⟨(some 11), none, .bin .add (.t 10) (.v (.int .i64 1))⟩,
   ⟨(some 5), none, .mv (.t 11)⟩]))))))
  (.seq (.reg [⟨(some 115), none, .mv (.t 1)⟩,
   ⟨(some 4), none, .mv (.t 115)⟩])
  .ret))),
  [.t 4]⟩
theorem k114 : cFn Try.prog Try.f114 = some c114 := by kernel_rfl
theorem heldSaS_ok : OkT Try.prog 114 (pureSp (hdC_S sh_SaS)) := by
  refine okT_hdC (OkΓT.cons heldSelS_ok (OkΓT.nil _)) Try.func114 (by kernel_rfl) k114 ?_
  intro c k hc h1 hz
  obtain ⟨rows, _, hr, _, hwt, hf⟩ := FitC.rows hc
  rw [hwt] at hz ⊢; rw [hf]
  have hlw : rows.length ≤ wtRs rows := wtRs_rows fun r hx => by
    have hrr := hr r hx
    obtain ⟨a0, a1, a2, a3, a4, a5, a6, a7, a8, a9, c10, rfl, hc10⟩ := sh_Sa_Fit hrr
    simp only [wtIs, wtI]; omega
  (dsimp only [c114]; simp (maxSteps := 8000000) (implicitDefEqProofs := false) (disch := omega) only [↓reduceIte, go_sem, if_pos, if_neg])
  refine awpT_loop (α := Nat) (fun i => ⟨slots [(0, .s (fzRs (mkRs rows k))), (1, .p (.int .i64 (k + (wtRs (rows.take i) : Int)))), (5, .p (.int .i64 i))], []⟩) (fun i => i ≤ rows.length) (fun i => rows.length - i) 0 (Nat.zero_le _) (by simp only [List.take_zero, wtRs, nat0T, Int.add_zero]; exact (le_of [] (by simp (maxSteps := 8000000) (implicitDefEqProofs := false) (disch := omega) only [↓reduceIte, go_sem, if_pos, if_neg]) (by simp (maxSteps := 8000000) (implicitDefEqProofs := false) (disch := omega) only [↓reduceIte, go_sem, if_pos, if_neg]) (by decide) (by simp))) ?_
  intro i hi
  simp (maxSteps := 8000000) (implicitDefEqProofs := false) (disch := omega) only [↓reduceIte, go_sem, if_pos, if_neg]
  refine condKT_dec (fun hlt => ?_) (fun hge => ?_)
  · obtain ⟨r, hx⟩ := get_ex (l := rows) (i := i) (by omega)
    have hrr := hr r (List.mem_of_getElem? hx)
    have hwr := wtRs_mem hx; have hsn := wtRs_snoc hx
    have hg := fzRs_get (mkRs_get (k := k) hx)
    generalize hm : k + (wtRs (rows.take i) : Int) = m at *
    obtain ⟨a0, a1, a2, a3, a4, a5, a6, a7, a8, a9, c10, rfl, hc10⟩ := sh_Sa_Fit hrr
    simp only [wtIs, wtI, Nat.add_zero] at hwr hsn
    have hmk_c10 := FitC.mk hc10
    simp only [hmk_c10.1] at hwr hsn
    simp only [mkIs, mkI, mkV, wtI, nat1T, fzCs, fzC, el_one, el_two, hmk_c10.1, hmk_c10.2] at hg
    simp only [isT3] at hg
    simp (maxSteps := 8000000) (implicitDefEqProofs := false) (disch := omega) only [↓reduceIte, go_sem, if_pos, if_neg, eq_true hlt, hg, dec_self, Bool.not_true, not_true, decide_false, hdC_at hc10 (show 0 ≤ m + 1 + 1 + 1 + 1 + 1 + 1 + 1 + 1 + 1 + 1 by omega) (by omega)]
    simp (maxSteps := 8000000) (implicitDefEqProofs := false) (disch := omega) only [↓reduceIte, go_sem, if_pos, if_neg, eq_false (show ¬ (m + 1 + 1 + 1 + 1 + 1 + 1 + 1 + 1 + 1 + 1 + (wtC c10 : Int) < 0) by omega)]
    refine loopKT_next (i + 1) (by omega) (by omega) ?_
    have hs2 : k + (wtRs (rows.take (i + 1)) : Int) = m + 1 + 1 + 1 + 1 + 1 + 1 + 1 + 1 + 1 + 1 + (wtC c10 : Int) := by rw [hsn]; omega
    exact (le_of [] (by simp (maxSteps := 8000000) (implicitDefEqProofs := false) (disch := omega) only [↓reduceIte, go_sem, if_pos, if_neg, hs2]) (by simp (maxSteps := 8000000) (implicitDefEqProofs := false) (disch := omega) only [↓reduceIte, go_sem, if_pos, if_neg, hs2]) (by decide) (by simp))
  · have hb : rows.take i = rows := List.take_of_length_le (by omega)
    simp (maxSteps := 8000000) (implicitDefEqProofs := false) (disch := omega) only [↓reduceIte, go_sem, if_pos, if_neg, eq_false hge, hb]
    refine joinK_here ?_
    simp (maxSteps := 8000000) (implicitDefEqProofs := false) (disch := omega) only [↓reduceIte, go_sem, if_pos, if_neg]
    repeat' first
      | (refine gdKT_dec (fun hg => ?_) (fun hg => ?_) <;> (try (first | simp (maxSteps := 8000000) (implicitDefEqProofs := false) (disch := omega) only [↓reduceIte, go_sem, if_pos, if_neg, eq_false hg] | simp (maxSteps := 8000000) (implicitDefEqProofs := false) (disch := omega) only [↓reduceIte, go_sem, if_pos, if_neg, eq_true hg])))
      | (refine condKT_dec (fun hg => ?_) (fun hg => ?_) <;> (try (first | simp (maxSteps := 8000000) (implicitDefEqProofs := false) (disch := omega) only [↓reduceIte, go_sem, if_pos, if_neg, eq_false hg] | simp (maxSteps := 8000000) (implicitDefEqProofs := false) (disch := omega) only [↓reduceIte, go_sem, if_pos, if_neg, eq_true hg])))
      | (refine gdKT_split (fun hg => ?_) (fun hg => ?_) <;> (try simp (maxSteps := 8000000) (implicitDefEqProofs := false) (disch := omega) only [↓reduceIte, go_sem, if_pos, if_neg, hg]))
      | (refine condKT_split (fun hg => ?_) (fun hg => ?_) <;> (try simp (maxSteps := 8000000) (implicitDefEqProofs := false) (disch := omega) only [↓reduceIte, go_sem, if_pos, if_neg, hg]))
      | (refine endT_p (.inr rfl) (by simp (maxSteps := 8000000) (implicitDefEqProofs := false) (disch := omega) only [↓reduceIte, go_sem, if_pos, if_neg]; rfl) ?_; (first | exact vb_true (by omega) | exact vb_false (by omega) | exact vb_dec (by omega) | exact vi_eq (by omega) | rfl | (refine vi_eq ?_; simp_all; done) | (refine vi_eq ?_; simp_all; omega) | (refine vi_eq ?_; simp_all; intros; omega)))
      | exact endT_v (.inr rfl) (by simp (maxSteps := 8000000) (implicitDefEqProofs := false) (disch := omega) only [↓reduceIte, go_sem, if_pos, if_neg]; try rfl) (fun _ => rfl)
-- laws.markSaS
def c48 : AF := ⟨94,
  (.seq (.reg [⟨(some 4), none, .mv (.v (.int .i64 0))⟩])
  (.seq (.seq (.reg [⟨(some 5), none, .mv (.v (.int .i64 0))⟩])
  (.block 0 (.loop (.seq (.seq (.reg [⟨(some 6), none, .mv (.t 5)⟩,
   ⟨(some 7), none, .mv (.t 0)⟩,
   ⟨(some 8), none, .len (.t 7)⟩,
   ⟨(some 9), none, .bin .lss (.t 6) (.t 8)⟩])
  (.cond (.t 9) .skip
  (.exit 0)))
  (.seq (.block 1 (.seq (.reg [⟨(some 12), none, .mv (.t 0)⟩,
   ⟨(some 13), none, .mv (.t 5)⟩,
   ⟨(some 14), none, .mv (.t 1)⟩,
   ⟨(some 15), none, .ia 11 (.t 12) (.t 13)⟩,
   ⟨(some 16), none, .fa (.t 15) 0⟩,
   ⟨none, none, .st 1 (.t 16) (.t 14)⟩])
  (.seq (.reg [⟨(some 17), none, .mv (.t 1)⟩,
   ⟨(some 18), none, .bin .add (.t 17) (.v (.int .i64 1))⟩,
   ⟨(some 1), none, .mv (.t 18)⟩])
  (.seq (.reg [⟨(some 19), none, .mv (.t 0)⟩,
   ⟨(some 20), none, .mv (.t 5)⟩,
   ⟨(some 21), none, .mv (.t 1)⟩,
   ⟨(some 22), none, .ia 11 (.t 19) (.t 20)⟩,
   ⟨(some 23), none, .fa (.t 22) 1⟩,
   ⟨none, none, .st 1 (.t 23) (.t 21)⟩])
  (.seq (.reg [⟨(some 24), none, .mv (.t 1)⟩,
   ⟨(some 25), none, .bin .add (.t 24) (.v (.int .i64 1))⟩,
   ⟨(some 1), none, .mv (.t 25)⟩])
  (.seq (.reg [⟨(some 26), none, .mv (.t 0)⟩,
   ⟨(some 27), none, .mv (.t 5)⟩,
   ⟨(some 28), none, .mv (.t 1)⟩,
   ⟨(some 29), none, .ia 11 (.t 26) (.t 27)⟩,
   ⟨(some 30), none, .fa (.t 29) 2⟩,
   ⟨none, none, .st 1 (.t 30) (.t 28)⟩])
  (.seq (.reg [⟨(some 31), none, .mv (.t 1)⟩,
   ⟨(some 32), none, .bin .add (.t 31) (.v (.int .i64 1))⟩,
   ⟨(some 1), none, .mv (.t 32)⟩])
  (.seq (.reg [⟨(some 33), none, .mv (.t 0)⟩,
   ⟨(some 34), none, .mv (.t 5)⟩,
   ⟨(some 35), none, .mv (.t 1)⟩,
   ⟨(some 36), none, .bin .rem (.t 35) (.v (.int .i64 3))⟩,
   ⟨(some 37), none, .bin .eql (.t 36) (.v (.int .i64 0))⟩,
   ⟨(some 38), none, .ia 11 (.t 33) (.t 34)⟩,
   ⟨(some 39), none, .fa (.t 38) 3⟩,
   ⟨none, none, .st 1 (.t 39) (.t 37)⟩])
  (.seq (.reg [⟨(some 40), none, .mv (.t 1)⟩,
   ⟨(some 41), none, .bin .add (.t 40) (.v (.int .i64 1))⟩,
   ⟨(some 1), none, .mv (.t 41)⟩])
  (.seq (.reg [⟨(some 42), none, .mv (.t 0)⟩,
   ⟨(some 43), none, .mv (.t 5)⟩,
   ⟨(some 44), none, .mv (.t 1)⟩,
   ⟨(some 45), none, .ia 11 (.t 42) (.t 43)⟩,
   ⟨(some 46), none, .fa (.t 45) 4⟩,
   ⟨none, none, .st 1 (.t 46) (.t 44)⟩])
  (.seq (.reg [⟨(some 47), none, .mv (.t 1)⟩,
   ⟨(some 48), none, .bin .add (.t 47) (.v (.int .i64 1))⟩,
   ⟨(some 1), none, .mv (.t 48)⟩])
  (.seq (.reg [⟨(some 49), none, .mv (.t 0)⟩,
   ⟨(some 50), none, .mv (.t 5)⟩,
   ⟨(some 51), none, .mv (.t 1)⟩,
   ⟨(some 52), none, .ia 11 (.t 49) (.t 50)⟩,
   ⟨(some 53), none, .fa (.t 52) 5⟩,
   ⟨(some 54), none, .fa (.t 53) 0⟩,
   ⟨none, none, .st 1 (.t 54) (.t 51)⟩])
  (.seq (.reg [⟨(some 55), none, .mv (.t 1)⟩,
   ⟨(some 56), none, .bin .add (.t 55) (.v (.int .i64 1))⟩,
   ⟨(some 1), none, .mv (.t 56)⟩])
  (.seq (.reg [⟨(some 57), none, .mv (.t 0)⟩,
   ⟨(some 58), none, .mv (.t 5)⟩,
   ⟨(some 59), none, .mv (.t 1)⟩,
   ⟨(some 60), none, .ia 11 (.t 57) (.t 58)⟩,
   ⟨(some 61), none, .fa (.t 60) 5⟩,
   ⟨(some 62), none, .fa (.t 61) 1⟩,
   ⟨none, none, .st 1 (.t 62) (.t 59)⟩])
  (.seq (.reg [⟨(some 63), none, .mv (.t 1)⟩,
   ⟨(some 64), none, .bin .add (.t 63) (.v (.int .i64 1))⟩,
   ⟨(some 1), none, .mv (.t 64)⟩])
  (.seq (.reg [⟨(some 65), none, .mv (.t 0)⟩,
   ⟨(some 66), none, .mv (.t 5)⟩,
   ⟨(some 67), none, .mv (.t 1)⟩,
   ⟨(some 68), none, .ia 11 (.t 65) (.t 66)⟩,
   ⟨(some 69), none, .fa (.t 68) 7⟩,
   ⟨none, none, .st 1 (.t 69) (.t 67)⟩])
  (.seq (.reg [⟨(some 70), none, .mv (.t 1)⟩,
   ⟨(some 71), none, .bin .add (.t 70) (.v (.int .i64 1))⟩,
   ⟨(some 1), none, .mv (.t 71)⟩])
  (.seq (.reg [⟨(some 72), none, .mv (.t 0)⟩,
   ⟨(some 73), none, .mv (.t 5)⟩,
   ⟨(some 74), none, .mv (.t 1)⟩,
   ⟨(some 75), none, .ia 11 (.t 72) (.t 73)⟩,
   ⟨(some 76), none, .fa (.t 75) 8⟩,
   ⟨none, none, .st 1 (.t 76) (.t 74)⟩])
  (.seq (.reg [⟨(some 77), none, .mv (.t 1)⟩,
   ⟨(some 78), none, .bin .add (.t 77) (.v (.int .i64 1))⟩,
   ⟨(some 1), none, .mv (.t 78)⟩])
  (.seq (.reg [⟨(some 79), none, .mv (.t 0)⟩,
   ⟨(some 80), none, .mv (.t 5)⟩,
   ⟨(some 81), none, .mv (.t 1)⟩,
   ⟨(some 82), none, .ia 11 (.t 79) (.t 80)⟩,
   ⟨(some 83), none, .fa (.t 82) 9⟩,
   ⟨none, none, .st 1 (.t 83) (.t 81)⟩])
  (.seq (.reg [⟨(some 84), none, .mv (.t 1)⟩,
   ⟨(some 85), none, .bin .add (.t 84) (.v (.int .i64 1))⟩,
   ⟨(some 1), none, .mv (.t 85)⟩])
  (.reg [⟨(some 86), none, .mv (.t 0)⟩,
   ⟨(some 87), none, .mv (.t 5)⟩,
   ⟨(some 88), none, .ia 11 (.t 86) (.t 87)⟩,
   ⟨(some 89), none, .fa (.t 88) 10⟩,
   ⟨(some 90), none, .ld (.t 89)⟩,
   ⟨(some 91), none, .mv (.t 1)⟩,
   ⟨(some 92), none, .call 97 [(.t 90), (.t 91)]⟩,
   ⟨(some 1), none, .mv (.t 92)⟩]))))))))))))))))))))))
  (.reg [⟨(some 10), none, .mv (.t 5)⟩,
   ⟨(some 11), none, .bin .add (.t 10) (.v (.int .i64 1))⟩,
   ⟨(some 5), none, .mv (.t 11)⟩]))))))
  (.seq (.reg [⟨(some 93), none, .mv (.t 1)⟩,
   ⟨(some 4), none, .mv (.t 93)⟩])
  .ret))),
  [.t 4]⟩
theorem k48 : cFn Try.prog Try.f48 = some c48 := by kernel_rfl
theorem markSaS_ok : OkT Try.prog 48 (mkC_Sp sh_SaS) := by
  refine okT_mkC (OkΓT.cons markSelS_ok (OkΓT.nil _)) Try.func48 (by kernel_rfl) k48 ?_
  intro c k hc h1 hz
  simp only [sh_SaS, FitC] at hc
  rcases hc with rfl | ⟨z, rows, rfl, hz0, hr⟩
  · simp only [wtC, mkC, nbC, tvC_v, tvC_nl, tvC_sl, bkC, nat0T, Int.add_zero] at *
    (dsimp only [c48]; simp (maxSteps := 8000000) (implicitDefEqProofs := false) (disch := omega) only [↓reduceIte, go_sem, if_pos, if_neg])
    refine awpT_loop (α := Unit) (fun _ => ⟨slots [(0, .nl), (1, .p (.int .i64 k)), (5, .p (.int .i64 0))], []⟩) (fun _ => True) (fun _ => 0) () trivial (le_keep (Nat.zero_le _) (by simp (maxSteps := 8000000) (implicitDefEqProofs := false) (disch := omega) only [↓reduceIte, go_sem, if_pos, if_neg, slotsIn])) ?_
    intro _ _
    simp (maxSteps := 8000000) (implicitDefEqProofs := false) (disch := omega) only [↓reduceIte, go_sem, if_pos, if_neg]
    refine joinK_at _ (le_same _ _ (Nat.zero_le _)) ?_
    simp (maxSteps := 8000000) (implicitDefEqProofs := false) (disch := omega) only [↓reduceIte, go_sem, if_pos, if_neg]
    exact endK_same (.inr rfl) (Nat.zero_le _) (by simp (maxSteps := 8000000) (implicitDefEqProofs := false) (disch := omega) only [↓reduceIte, go_sem, if_pos, if_neg]) rfl
  · simp only [wtC] at hz ⊢
    have hlw : rows.length ≤ wtRs rows := wtRs_rows fun r hx => by
      have hrr := hr r hx
      obtain ⟨a0, a1, a2, a3, a4, a5, a6, a7, a8, a9, c10, rfl, hc10⟩ := sh_Sa_Fit hrr
      simp only [wtIs, wtI]; omega
    simp only [tvC_v, tvC_nl, tvC_sl, bkC, mkC, Nat.zero_add]
    generalize hnb : nbC _ = nb
    simp only [nbC] at hnb
    have hnb2 : ∀ i, nb = (bkRs 1 (mkAt rows k i)).length + 1 := fun i => by
      have := mkRs_nb (rows.take i) k; have h2 := nbRs_app (rows.take i) (rows.drop i)
      rw [List.take_append_drop] at h2; rw [bkRs_len, mkAt, nbRs_app]; omega
    (dsimp only [c48]; simp (maxSteps := 8000000) (implicitDefEqProofs := false) (disch := omega) only [↓reduceIte, go_sem, if_pos, if_neg])
    refine awpT_loop (α := Nat) (fun i => ⟨slots [(0, .os 0 0 rows.length), (1, .p (.int .i64 (k + (wtRs (rows.take i) : Int)))), (5, .p (.int .i64 i))], .cells 32 z (tvRs 1 (mkAt rows k i)) :: bkRs 1 (mkAt rows k i)⟩)
      (fun i => i ≤ rows.length) (fun i => rows.length - i) 0 (Nat.zero_le _) (by simp only [mkAt_zero, List.take_zero, wtRs, nat0T, Int.add_zero]; exact le_keep (by have := hnb2 0; rw [mkAt_zero] at this; rw [List.length_cons]; omega) (by simp (maxSteps := 8000000) (implicitDefEqProofs := false) (disch := omega) only [↓reduceIte, go_sem, if_pos, if_neg, slotsIn])) ?_
    intro i hi
    have hl1 : (tvRs 1 (mkAt rows k i)).length = rows.length := by rw [tvRs_len, mkAt_len]
    simp (maxSteps := 8000000) (implicitDefEqProofs := false) (disch := omega) only [↓reduceIte, go_sem, if_pos, if_neg, hl1]
    refine condKT_dec (fun hlt => ?_) (fun hge => ?_)
    · obtain ⟨r, hx⟩ := get_ex (l := rows) (i := i) (by omega)
      obtain rfl : z = 11 := by rcases hz0 with h | h; (rw [h] at hx; simp at hx); exact h
      have hrr := hr r (List.mem_of_getElem? hx)
      have hwr := wtRs_mem hx; have hsn := wtRs_snoc hx
      have hg := mkAt_get 1 (k := k) hx; have hs := mkAt_set 1 (k := k) hx
      have hb1 := mkAt_bk 1 (k := k) hx; have hb2 := mkAt_bkn 1 (k := k) hx
      generalize hm : k + (wtRs (rows.take i) : Int) = m at *
      obtain ⟨a0, a1, a2, a3, a4, a5, a6, a7, a8, a9, c10, rfl, hc10⟩ := sh_Sa_Fit hrr
      simp only [wtIs, wtI, Nat.add_zero] at hwr hsn
      have hmk_c10 := FitC.mk hc10
      simp only [hmk_c10.1] at hwr hsn
      simp only [mkIs, mkI, mkV, wtI, nat1T, tvCs, tvC_v, tvC_nl, tvC_sl, nbC, Nat.add_zero, mkC_tv, el_one, el_two, hmk_c10.1, hmk_c10.2] at hg hs
      simp only [isT3] at hs
      simp only [mkIs, mkI, mkV, wtI, nat1T, bkCs, bkC, nbCs, nbC, Nat.add_zero, Nat.zero_add, List.nil_append, List.append_nil, hmk_c10.1, hmk_c10.2] at hb1 hb2
      simp (maxSteps := 8000000) (implicitDefEqProofs := false) (disch := omega) only [↓reduceIte, go_sem, if_pos, if_neg, hl1, hg, List.getElem?_set_self, List.set_set]
      have m1 := fun X => mkC_seg (A := X :: bkRs 1 (mkRs (rows.take i) k)) (B := bkRs (1 + nbRs (rows.take i) + nbC c10) (rows.drop (i + 1))) (n := 1 + nbRs (rows.take i)) (k := m + 1 + 1 + 1 + 1 + 1 + 1 + 1 + 1 + 1 + 1) (by rw [List.length_cons, bkRs_len, mkRs_nb]; omega) hc10 (by omega) (by omega)
      simp only [List.cons_append, ← hb1, ← hb2] at m1
      refine mutQ_call (by simp (maxSteps := 8000000) (implicitDefEqProofs := false) (disch := omega) only [↓reduceIte, go_sem, if_pos, if_neg]; rfl) (by simp (maxSteps := 8000000) (implicitDefEqProofs := false) (disch := omega) only [↓reduceIte, go_sem, if_pos, if_neg]) (m1 _) ?_
      simp (maxSteps := 8000000) (implicitDefEqProofs := false) (disch := omega) only [↓reduceIte, go_sem, if_pos, if_neg]
      refine loopKT_next (i + 1) (by omega) (by omega) ?_
      have hs2 : k + (wtRs (rows.take (i + 1)) : Int) = m + 1 + 1 + 1 + 1 + 1 + 1 + 1 + 1 + 1 + 1 + (wtC c10 : Int) := by rw [hsn]; omega
      rw [hs2, ← hs]
      exact le_keep (by have := hnb2 (i + 1); rw [List.length_cons]; omega) (by simp (maxSteps := 8000000) (implicitDefEqProofs := false) (disch := omega) only [↓reduceIte, go_sem, if_pos, if_neg, slotsIn])
    · have hb : rows.take i = rows := List.take_of_length_le (by omega)
      have hmf := mkAt_full (k := k) (show rows.length ≤ i by omega)
      have hnb3 := hnb2 i; rw [hmf] at hnb3
      simp (maxSteps := 8000000) (implicitDefEqProofs := false) (disch := omega) only [↓reduceIte, go_sem, if_pos, if_neg, eq_false hge, hb, hmf]
      refine joinK_at _ (le_same _ _ (by show nb ≤ List.length (_ :: _); rw [List.length_cons]; omega)) ?_
      simp (maxSteps := 8000000) (implicitDefEqProofs := false) (disch := omega) only [↓reduceIte, go_sem, if_pos, if_neg]
      exact endK_same (.inr rfl) (by rw [List.length_cons]; omega) (by simp (maxSteps := 8000000) (implicitDefEqProofs := false) (disch := omega) only [↓reduceIte, go_sem, if_pos, if_neg]) rfl
end Go.Proofs.Ytngebdcbcliobaa
