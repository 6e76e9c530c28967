import Derived.Test.YtkijbknnbmbnbaaLU
import Derived.Test.YtkijbknnbmbnbaaProg
set_option linter.unusedSimpArgs false
set_option linter.unusedVariables false
set_option maxRecDepth 100000
set_option maxHeartbeats 4000000
namespace Go.Proofs.Ytkijbknnbmbnbaa
open Go Go.AH
attribute [local irreducible] awpT ropsT qopsT stepT condKT gdKT EndT joinK loopKT seqKT blkKT kont kontR
/-! Range -/
def sh_Range : List Shp := [.i .i64, .i .i64]
theorem sh_Range_Has {cs : List Cell} (h : HasR sh_Range cs) : ∃ (a0 : Int) (a1 : Int), cs = [.v (.int .i64 a0), .v (.int .i64 a1)] := by
  obtain ⟨_, _, rfl, ⟨a0, rfl, _⟩, _, _, rfl, ⟨a1, rfl, _⟩, h⟩ := h
  simp only [HasR] at h; subst h
  exact ⟨a0, a1, rfl⟩
theorem sh_Range_mkHas  (a0 : Int) (a1 : Int) : HasR sh_Range [.v (.int .i64 a0), .v (.int .i64 a1)] := by
  exact ⟨_, _, rfl, ⟨_, rfl, fun h => by cases h⟩, _, _, rfl, ⟨_, rfl, fun h => by cases h⟩, rfl⟩
theorem sh_Range_Fit {cs : List Cell} (h : FitR sh_Range cs) : ∃ (a0 : Int) (a1 : Int), cs = [.v (.int .i64 a0), .v (.int .i64 a1)] := by
  obtain ⟨_, _, rfl, ⟨a0, rfl⟩, _, _, rfl, ⟨a1, rfl⟩, h⟩ := h
  simp only [FitR] at h; subst h
  exact ⟨a0, a1, rfl⟩
theorem sh_Range_mkFit  (a0 : Int) (a1 : Int) : FitR sh_Range [.v (.int .i64 a0), .v (.int .i64 a1)] := by
  exact ⟨_, _, rfl, ⟨_, rfl⟩, _, _, rfl, ⟨_, rfl⟩, rfl⟩
theorem flat_sz_Range {cs : List Cell} (h : HasR sh_Range cs) : szCs cs = 0 := by
  obtain ⟨a0, a1, rfl⟩ := sh_Range_Has h
  rfl
theorem to_Range_at  (a0 : Int) (a1 : Int) : toR_S sh_Range [.agg [.p (.int .i64 a0), .p (.int .i64 a1)]] = some (.agg [.p (.int .i64 a0), .p (.int .i64 a1)], []) := by
  have := toR_at (sh_Range_mkHas  a0 a1) (by simp only [szCs, szC]; omega)
  simpa only [fzCs, fzC, tvCs, tvC_v, tvC_nl, tvC_sl, bkCs, bkC, nbC, nbCs, Nat.add_zero, List.append_nil, List.nil_append, Nat.zero_add] using this
-- laws.toRange
def c231 : AF := ⟨11,
  (.seq (.reg [⟨(some 1), none, .box 188 (.t 0)⟩,
   ⟨(some 2), none, .alloc 182 [(.int .i64 0), (.int .i64 0)]⟩])
  (.seq (.reg [⟨(some 3), none, .alloc 182 [(.int .i64 0), (.int .i64 0)]⟩])
  (.seq (.reg [⟨(some 4), none, .fa (.t 1) 0⟩,
   ⟨(some 5), none, .ld (.t 4)⟩,
   ⟨(some 6), none, .fa (.t 3) 0⟩,
   ⟨none, none, .st 1 (.t 6) (.t 5)⟩])
  (.seq (.reg [⟨(some 7), none, .fa (.t 1) 1⟩,
   ⟨(some 8), none, .ld (.t 7)⟩,
   ⟨(some 9), none, .fa (.t 3) 1⟩,
   ⟨none, none, .st 1 (.t 9) (.t 8)⟩])
  (.seq (.reg [⟨(some 10), none, .ldn 2 (.t 3)⟩,
   ⟨none, none, .st 2 (.t 2) (.t 10)⟩])
  .ret))))),
  [.cell 2 (some 2)]⟩
theorem k231 : cFn Try.prog Try.f231 = some c231 := by kernel_rfl
theorem toRange_ok : OkT Try.prog 231 (pureSp (toR_S sh_Range)) := by
  refine okT_toR (OkΓT.nil _) Try.func231 (by kernel_rfl) k231 ?_
  intro c hc hz
  obtain ⟨a0, a1, rfl⟩ := sh_Range_Has hc
  simp only [szCs, szC] at hz
  simp only [fzCs, fzC]
  (dsimp only [c231]; simp (maxSteps := 8000000) (implicitDefEqProofs := false) (disch := omega) only [↓reduceIte, go_sem, if_pos, if_neg])
  refine endT_cells' 3 (.inr rfl) (by (simp (maxSteps := 8000000) (implicitDefEqProofs := false) (disch := omega) only [↓reduceIte, go_sem, if_pos, if_neg, fzCs, fzC, tvCs, tvC_v, tvC_nl, tvC_sl, bkCs, bkC, nbC, nbCs, Nat.add_zero, List.append_nil, List.nil_append]) <;> rfl) ?_ (by simp only [List.length_cons]; omega)
  simp only [List.drop_succ_cons, List.drop_zero, bkCs, bkC, nbC, Nat.add_zero, List.append_nil, List.nil_append, List.cons_append, Nat.add_assoc]
theorem eq_Range_at  (a0 : Int) (a1 : Int) : eqR_S sh_Range [.agg [.p (.int .i64 a0), .p (.int .i64 a1)], .agg [.p (.int .i64 a0), .p (.int .i64 a1)]] = some (.p (.bool true), []) := by
  exact eqR_at (sh_Range_mkFit  a0 a1) (by simp only [szCs, szC]; omega)
-- laws.eqRange
def c232 : AF := ⟨15,
  (.seq (.reg [⟨(some 2), none, .box 182 (.t 0)⟩,
   ⟨(some 3), none, .box 182 (.t 1)⟩,
   ⟨(some 4), none, .mv (.v (.bool false))⟩])
  (.seq (.seq (.reg [⟨(some 5), none, .fa (.t 2) 0⟩,
   ⟨(some 6), none, .ld (.t 5)⟩,
   ⟨(some 7), none, .fa (.t 3) 0⟩,
   ⟨(some 8), none, .ld (.t 7)⟩,
   ⟨(some 9), none, .bin .neq (.t 6) (.t 8)⟩])
  (.cond (.t 9) (.seq (.reg [⟨(some 4), none, .mv (.v (.bool false))⟩])
  .ret)
  .skip))
  (.seq (.seq (.reg [⟨(some 10), none, .fa (.t 2) 1⟩,
   ⟨(some 11), none, .ld (.t 10)⟩,
   ⟨(some 12), none, .fa (.t 3) 1⟩,
   ⟨(some 13), none, .ld (.t 12)⟩,
   ⟨(some 14), none, .bin .neq (.t 11) (.t 13)⟩])
  (.cond (.t 14) (.seq (.reg [⟨(some 4), none, .mv (.v (.bool false))⟩])
  .ret)
  .skip))
  (.seq (.reg [⟨(some 4), none, .mv (.v (.bool true))⟩])
  .ret)))),
  [.t 4]⟩
theorem k232 : cFn Try.prog Try.f232 = some c232 := by kernel_rfl
theorem eqRange_ok : OkT Try.prog 232 (pureSp (eqR_S sh_Range)) := by
  refine okT_eqR (OkΓT.nil _) Try.func232 (by kernel_rfl) k232 ?_
  intro c hc hz
  obtain ⟨a0, a1, rfl⟩ := sh_Range_Fit hc
  simp only [szCs, szC] at hz
  simp only [fzCs, fzC]
  (dsimp only [c232]; simp (maxSteps := 8000000) (implicitDefEqProofs := false) (disch := omega) only [↓reduceIte, go_sem, if_pos, if_neg])
  repeat' first
    | (refine gdKT_dec (fun hg => ?_) (fun hg => ?_) <;> (try (first | simp (maxSteps := 8000000) (implicitDefEqProofs := false) (disch := omega) only [↓reduceIte, go_sem, if_pos, if_neg, eq_false hg] | simp (maxSteps := 8000000) (implicitDefEqProofs := false) (disch := omega) only [↓reduceIte, go_sem, if_pos, if_neg, eq_true hg])))
    | (refine condKT_dec (fun hg => ?_) (fun hg => ?_) <;> (try (first | simp (maxSteps := 8000000) (implicitDefEqProofs := false) (disch := omega) only [↓reduceIte, go_sem, if_pos, if_neg, eq_false hg] | simp (maxSteps := 8000000) (implicitDefEqProofs := false) (disch := omega) only [↓reduceIte, go_sem, if_pos, if_neg, eq_true hg])))
    | (refine gdKT_split (fun hg => ?_) (fun hg => ?_) <;> (try simp (maxSteps := 8000000) (implicitDefEqProofs := false) (disch := omega) only [↓reduceIte, go_sem, if_pos, if_neg, hg]))
    | (refine condKT_split (fun hg => ?_) (fun hg => ?_) <;> (try simp (maxSteps := 8000000) (implicitDefEqProofs := false) (disch := omega) only [↓reduceIte, go_sem, if_pos, if_neg, hg]))
    | (refine endT_p (.inr rfl) (by simp (maxSteps := 8000000) (implicitDefEqProofs := false) (disch := omega) only [↓reduceIte, go_sem, if_pos, if_neg]; rfl) ?_; (first | exact vb_true (by omega) | exact vb_false (by omega) | exact vb_dec (by omega) | exact vi_eq (by omega) | rfl | (refine vi_eq ?_; simp_all; done) | (refine vi_eq ?_; simp_all; omega) | (refine vi_eq ?_; simp_all; intros; omega)))
    | exact endT_v (.inr rfl) (by simp (maxSteps := 8000000) (implicitDefEqProofs := false) (disch := omega) only [↓reduceIte, go_sem, if_pos, if_neg]; try rfl) (fun _ => rfl)
/-! Sel -/
def sh_Sel : List Shp := [.i .i64, .i .i64, .i .i64, .i .i64, .i .i64, .i .i64, .i .i64, .i .i64, .i .i64]
theorem sh_Sel_Has {cs : List Cell} (h : HasR sh_Sel cs) : ∃ (a0 : Int) (a1 : Int) (a2 : Int) (a3 : Int) (a4 : Int) (a5 : Int) (a6 : Int) (a7 : Int) (a8 : Int), cs = [.v (.int .i64 a0), .v (.int .i64 a1), .v (.int .i64 a2), .v (.int .i64 a3), .v (.int .i64 a4), .v (.int .i64 a5), .v (.int .i64 a6), .v (.int .i64 a7), .v (.int .i64 a8)] := by
  obtain ⟨_, _, rfl, ⟨a0, rfl, _⟩, _, _, rfl, ⟨a1, rfl, _⟩, _, _, rfl, ⟨a2, rfl, _⟩, _, _, rfl, ⟨a3, rfl, _⟩, _, _, rfl, ⟨a4, rfl, _⟩, _, _, rfl, ⟨a5, rfl, _⟩, _, _, rfl, ⟨a6, rfl, _⟩, _, _, rfl, ⟨a7, rfl, _⟩, _, _, rfl, ⟨a8, rfl, _⟩, h⟩ := h
  simp only [HasR] at h; subst h
  exact ⟨a0, a1, a2, a3, a4, a5, a6, a7, a8, rfl⟩
theorem sh_Sel_mkHas  (a0 : Int) (a1 : Int) (a2 : Int) (a3 : Int) (a4 : Int) (a5 : Int) (a6 : Int) (a7 : Int) (a8 : Int) : HasR sh_Sel [.v (.int .i64 a0), .v (.int .i64 a1), .v (.int .i64 a2), .v (.int .i64 a3), .v (.int .i64 a4), .v (.int .i64 a5), .v (.int .i64 a6), .v (.int .i64 a7), .v (.int .i64 a8)] := by
  exact ⟨_, _, rfl, ⟨_, rfl, fun h => by cases h⟩, _, _, rfl, ⟨_, rfl, fun h => by cases h⟩, _, _, rfl, ⟨_, rfl, fun h => by cases h⟩, _, _, rfl, ⟨_, rfl, fun h => by cases h⟩, _, _, rfl, ⟨_, rfl, fun h => by cases h⟩, _, _, rfl, ⟨_, rfl, fun h => by cases h⟩, _, _, rfl, ⟨_, rfl, fun h => by cases h⟩, _, _, rfl, ⟨_, rfl, fun h => by cases h⟩, _, _, rfl, ⟨_, rfl, fun h => by cases h⟩, rfl⟩
theorem sh_Sel_Fit {cs : List Cell} (h : FitR sh_Sel cs) : ∃ (a0 : Int) (a1 : Int) (a2 : Int) (a3 : Int) (a4 : Int) (a5 : Int) (a6 : Int) (a7 : Int) (a8 : Int), cs = [.v (.int .i64 a0), .v (.int .i64 a1), .v (.int .i64 a2), .v (.int .i64 a3), .v (.int .i64 a4), .v (.int .i64 a5), .v (.int .i64 a6), .v (.int .i64 a7), .v (.int .i64 a8)] := by
  obtain ⟨_, _, rfl, ⟨a0, rfl⟩, _, _, rfl, ⟨a1, rfl⟩, _, _, rfl, ⟨a2, rfl⟩, _, _, rfl, ⟨a3, rfl⟩, _, _, rfl, ⟨a4, rfl⟩, _, _, rfl, ⟨a5, rfl⟩, _, _, rfl, ⟨a6, rfl⟩, _, _, rfl, ⟨a7, rfl⟩, _, _, rfl, ⟨a8, rfl⟩, h⟩ := h
  simp only [FitR] at h; subst h
  exact ⟨a0, a1, a2, a3, a4, a5, a6, a7, a8, rfl⟩
theorem sh_Sel_mkFit  (a0 : Int) (a1 : Int) (a2 : Int) (a3 : Int) (a4 : Int) (a5 : Int) (a6 : Int) (a7 : Int) (a8 : Int) : FitR sh_Sel [.v (.int .i64 a0), .v (.int .i64 a1), .v (.int .i64 a2), .v (.int .i64 a3), .v (.int .i64 a4), .v (.int .i64 a5), .v (.int .i64 a6), .v (.int .i64 a7), .v (.int .i64 a8)] := by
  exact ⟨_, _, rfl, ⟨_, rfl⟩, _, _, rfl, ⟨_, rfl⟩, _, _, rfl, ⟨_, rfl⟩, _, _, rfl, ⟨_, rfl⟩, _, _, rfl, ⟨_, rfl⟩, _, _, rfl, ⟨_, rfl⟩, _, _, rfl, ⟨_, rfl⟩, _, _, rfl, ⟨_, rfl⟩, _, _, rfl, ⟨_, rfl⟩, rfl⟩
theorem flat_sz_Sel {cs : List Cell} (h : HasR sh_Sel cs) : szCs cs = 0 := by
  obtain ⟨a0, a1, a2, a3, a4, a5, a6, a7, a8, rfl⟩ := sh_Sel_Has h
  rfl
theorem to_Sel_at  (a0 : Int) (a1 : Int) (a2 : Int) (a3 : Int) (a4 : Int) (a5 : Int) (a6 : Int) (a7 : Int) (a8 : Int) : toR_S sh_Sel [.agg [.p (.int .i64 a0), .p (.int .i64 a1), .p (.int .i64 a2), .p (.int .i64 a3), .p (.int .i64 a4), .p (.int .i64 a5), .p (.int .i64 a6), .p (.int .i64 a7), .p (.int .i64 a8)]] = some (.agg [.p (.int .i64 a0), .p (.int .i64 a1), .p (.int .i64 a2), .p (.int .i64 a3), .p (.int .i64 a4), .p (.int .i64 a5), .p (.int .i64 a6), .p (.int .i64 a7), .p (.int .i64 a8)], []) := by
  have := toR_at (sh_Sel_mkHas  a0 a1 a2 a3 a4 a5 a6 a7 a8) (by simp only [szCs, szC]; omega)
  simpa only [fzCs, fzC, tvCs, tvC_v, tvC_nl, tvC_sl, bkCs, bkC, nbC, nbCs, Nat.add_zero, List.append_nil, List.nil_append, Nat.zero_add] using this
-- laws.toSel
def c206 : AF := ⟨24,
  (.seq (.reg [⟨(some 1), none, .box 190 (.t 0)⟩,
   ⟨(some 2), none, .alloc 184 [(.int .i64 0), (.int .i64 0), (.int .i64 0), (.int .i64 0), (.int .i64 0), (.int .i64 0), (.int .i64 0), (.int .i64 0), (.int .i64 0)]⟩])
  (.seq (.reg [⟨(some 3), none, .alloc 184 [(.int .i64 0), (.int .i64 0), (.int .i64 0), (.int .i64 0), (.int .i64 0), (.int .i64 0), (.int .i64 0), (.int .i64 0), (.int .i64 0)]⟩])
  (.seq (.reg [⟨(some 4), none, .fa (.t 1) 0⟩,
   ⟨(some 5), none, .ldn 2 (.t 4)⟩,
   ⟨(some 6), none, .call 231 [(.t 5)]⟩,
   ⟨(some 7), none, .fa (.t 3) 0⟩,
   ⟨none, none, .st 2 (.t 7) (.t 6)⟩])
  (.seq (.reg [⟨(some 8), none, .fa (.t 1) 2⟩,
   ⟨(some 9), none, .ldn 2 (.t 8)⟩,
   ⟨(some 10), none, .call 231 [(.t 9)]⟩,
   ⟨(some 11), none, .fa (.t 3) 2⟩,
   ⟨none, none, .st 2 (.t 11) (.t 10)⟩])
  (.seq (.reg [⟨(some 12), none, .fa (.t 1) 4⟩,
   ⟨(some 13), none, .ldn 2 (.t 12)⟩,
   ⟨(some 14), none, .call 231 [(.t 13)]⟩,
   ⟨(some 15), none, .fa (.t 3) 4⟩,
   ⟨none, none, .st 2 (.t 15) (.t 14)⟩])
  (.seq (.reg [⟨(some 16), none, .fa (.t 1) 6⟩,
   ⟨(some 17), none, .ldn 2 (.t 16)⟩,
   ⟨(some 18), none, .call 231 [(.t 17)]⟩,
   ⟨(some 19), none, .fa (.t 3) 6⟩,
   ⟨none, none, .st 2 (.t 19) (.t 18)⟩])
  (.seq (.reg [⟨(some 20), none, .fa (.t 1) 8⟩,
   ⟨(some 21), none, .ld (.t 20)⟩,
   ⟨(some 22), none, .fa (.t 3) 8⟩,
   ⟨none, none, .st 1 (.t 22) (.t 21)⟩])
  (.seq (.reg [⟨(some 23), none, .ldn 9 (.t 3)⟩,
   ⟨none, none, .st 9 (.t 2) (.t 23)⟩])
  .ret)))))))),
  [.cell 2 (some 9)]⟩
theorem k206 : cFn Try.prog Try.f206 = some c206 := by kernel_rfl
theorem toSel_ok : OkT Try.prog 206 (pureSp (toR_S sh_Sel)) := by
  refine okT_toR (OkΓT.cons toRange_ok (OkΓT.nil _)) Try.func206 (by kernel_rfl) k206 ?_
  intro c hc hz
  obtain ⟨a0, a1, a2, a3, a4, a5, a6, a7, a8, rfl⟩ := sh_Sel_Has hc
  simp only [szCs, szC] at hz
  simp only [fzCs, fzC]
  (dsimp only [c206]; simp (maxSteps := 8000000) (implicitDefEqProofs := false) (disch := omega) only [↓reduceIte, go_sem, if_pos, if_neg, to_Range_at])
  refine endT_cells' 3 (.inr rfl) (by (simp (maxSteps := 8000000) (implicitDefEqProofs := false) (disch := omega) only [↓reduceIte, go_sem, if_pos, if_neg, fzCs, fzC, tvCs, tvC_v, tvC_nl, tvC_sl, bkCs, bkC, nbC, nbCs, Nat.add_zero, List.append_nil, List.nil_append]) <;> rfl) ?_ (by simp only [List.length_cons]; omega)
  simp only [List.drop_succ_cons, List.drop_zero, bkCs, bkC, nbC, Nat.add_zero, List.append_nil, List.nil_append, List.cons_append, Nat.add_assoc]
theorem eq_Sel_at  (a0 : Int) (a1 : Int) (a2 : Int) (a3 : Int) (a4 : Int) (a5 : Int) (a6 : Int) (a7 : Int) (a8 : Int) : eqR_S sh_Sel [.agg [.p (.int .i64 a0), .p (.int .i64 a1), .p (.int .i64 a2), .p (.int .i64 a3), .p (.int .i64 a4), .p (.int .i64 a5), .p (.int .i64 a6), .p (.int .i64 a7), .p (.int .i64 a8)], .agg [.p (.int .i64 a0), .p (.int .i64 a1), .p (.int .i64 a2), .p (.int .i64 a3), .p (.int .i64 a4), .p (.int .i64 a5), .p (.int .i64 a6), .p (.int .i64 a7), .p (.int .i64 a8)]] = some (.p (.bool true), []) := by
  exact eqR_at (sh_Sel_mkFit  a0 a1 a2 a3 a4 a5 a6 a7 a8) (by simp only [szCs, szC]; omega)
-- laws.eqSel
def c207 : AF := ⟨34,
  (.seq (.reg [⟨(some 2), none, .box 184 (.t 0)⟩,
   ⟨(some 3), none, .box 184 (.t 1)⟩,
   ⟨(some 4), none, .mv (.v (.bool false))⟩])
  (.seq (.seq (.reg [⟨(some 5), none, .fa (.t 2) 0⟩,
   ⟨(some 6), none, .ldn 2 (.t 5)⟩,
   ⟨(some 7), none, .fa (.t 3) 0⟩,
   ⟨(some 8), none, .ldn 2 (.t 7)⟩,
   ⟨(some 9), none, .call 232 [(.t 6), (.t 8)]⟩,
   ⟨(some 10), none, .un .not (.t 9)⟩])
  (.cond (.t 10) (.seq (.reg [⟨(some 4), none, .mv (.v (.bool false))⟩])
  .ret)
  .skip))
  (.seq (.seq (.reg [⟨(some 11), none, .fa (.t 2) 2⟩,
   ⟨(some 12), none, .ldn 2 (.t 11)⟩,
   ⟨(some 13), none, .fa (.t 3) 2⟩,
   ⟨(some 14), none, .ldn 2 (.t 13)⟩,
   ⟨(some 15), none, .call 232 [(.t 12), (.t 14)]⟩,
   ⟨(some 16), none, .un .not (.t 15)⟩])
  (.cond (.t 16) (.seq (.reg [⟨(some 4), none, .mv (.v (.bool false))⟩])
  .ret)
  .skip))
  (.seq (.seq (.reg [⟨(some 17), none, .fa (.t 2) 4⟩,
   ⟨(some 18), none, .ldn 2 (.t 17)⟩,
   ⟨(some 19), none, .fa (.t 3) 4⟩,
   ⟨(some 20), none, .ldn 2 (.t 19)⟩,
   ⟨(some 21), none, .call 232 [(.t 18), (.t 20)]⟩,
   ⟨(some 22), none, .un .not (.t 21)⟩])
  (.cond (.t 22) (.seq (.reg [⟨(some 4), none, .mv (.v (.bool false))⟩])
  .ret)
  .skip))
  (.seq (.seq (.reg [⟨(some 23), none, .fa (.t 2) 6⟩,
   ⟨(some 24), none, .ldn 2 (.t 23)⟩,
   ⟨(some 25), none, .fa (.t 3) 6⟩,
   ⟨(some 26), none, .ldn 2 (.t 25)⟩,
   ⟨(some 27), none, .call 232 [(.t 24), (.t 26)]⟩,
   ⟨(some 28), none, .un .not (.t 27)⟩])
  (.cond (.t 28) (.seq (.reg [⟨(some 4), none, .mv (.v (.bool false))⟩])
  .ret)
  .skip))
  (.seq (.seq (.reg [⟨(some 29), none, .fa (.t 2) 8⟩,
   ⟨(some 30), none, .ld (.t 29)⟩,
   ⟨(some 31), none, .fa (.t 3) 8⟩,
   ⟨(some 32), none, .ld (.t 31)⟩,
   ⟨(some 33), none, .bin .neq (.t 30) (.t 32)⟩])
  (.cond (.t 33) (.seq (.reg [⟨(some 4), none, .mv (.v (.bool false))⟩])
  .ret)
  .skip))
  (.seq (.reg [⟨(some 4), none, .mv (.v (.bool true))⟩])
  .ret))))))),
  [.t 4]⟩
theorem k207 : cFn Try.prog Try.f207 = some c207 := by kernel_rfl
theorem eqSel_ok : OkT Try.prog 207 (pureSp (eqR_S sh_Sel)) := by
  refine okT_eqR (OkΓT.cons eqRange_ok (OkΓT.nil _)) Try.func207 (by kernel_rfl) k207 ?_
  intro c hc hz
  obtain ⟨a0, a1, a2, a3, a4, a5, a6, a7, a8, rfl⟩ := sh_Sel_Fit hc
  simp only [szCs, szC] at hz
  simp only [fzCs, fzC]
  (dsimp only [c207]; simp (maxSteps := 8000000) (implicitDefEqProofs := false) (disch := omega) only [↓reduceIte, go_sem, if_pos, if_neg, eq_Range_at])
  repeat' first
    | (refine gdKT_dec (fun hg => ?_) (fun hg => ?_) <;> (try (first | simp (maxSteps := 8000000) (implicitDefEqProofs := false) (disch := omega) only [↓reduceIte, go_sem, if_pos, if_neg, eq_false hg, eq_Range_at] | simp (maxSteps := 8000000) (implicitDefEqProofs := false) (disch := omega) only [↓reduceIte, go_sem, if_pos, if_neg, eq_true hg, eq_Range_at])))
    | (refine condKT_dec (fun hg => ?_) (fun hg => ?_) <;> (try (first | simp (maxSteps := 8000000) (implicitDefEqProofs := false) (disch := omega) only [↓reduceIte, go_sem, if_pos, if_neg, eq_false hg, eq_Range_at] | simp (maxSteps := 8000000) (implicitDefEqProofs := false) (disch := omega) only [↓reduceIte, go_sem, if_pos, if_neg, eq_true hg, eq_Range_at])))
    | (refine gdKT_split (fun hg => ?_) (fun hg => ?_) <;> (try simp (maxSteps := 8000000) (implicitDefEqProofs := false) (disch := omega) only [↓reduceIte, go_sem, if_pos, if_neg, hg, eq_Range_at]))
    | (refine condKT_split (fun hg => ?_) (fun hg => ?_) <;> (try simp (maxSteps := 8000000) (implicitDefEqProofs := false) (disch := omega) only [↓reduceIte, go_sem, if_pos, if_neg, hg, eq_Range_at]))
    | (refine endT_p (.inr rfl) (by simp (maxSteps := 8000000) (implicitDefEqProofs := false) (disch := omega) only [↓reduceIte, go_sem, if_pos, if_neg, eq_Range_at]; rfl) ?_; (first | exact vb_true (by omega) | exact vb_false (by omega) | exact vb_dec (by omega) | exact vi_eq (by omega) | rfl | (refine vi_eq ?_; simp_all; done) | (refine vi_eq ?_; simp_all; omega) | (refine vi_eq ?_; simp_all; intros; omega)))
    | exact endT_v (.inr rfl) (by simp (maxSteps := 8000000) (implicitDefEqProofs := false) (disch := omega) only [↓reduceIte, go_sem, if_pos, if_neg, eq_Range_at]; try rfl) (fun _ => rfl)
/-! Rule -/
def sh_Rule : List Shp := [.i .i64, .i .i64, .i .i64, .i .i64, .i .i64, .i .i64, .i .i64, .i .i64, .i .i64, .i .i64, .i .i64]
theorem sh_Rule_Has {cs : List Cell} (h : HasR sh_Rule cs) : ∃ (a0 : Int) (a1 : Int) (a2 : Int) (a3 : Int) (a4 : Int) (a5 : Int) (a6 : Int) (a7 : Int) (a8 : Int) (a9 : Int) (a10 : Int), cs = [.v (.int .i64 a0), .v (.int .i64 a1), .v (.int .i64 a2), .v (.int .i64 a3), .v (.int .i64 a4), .v (.int .i64 a5), .v (.int .i64 a6), .v (.int .i64 a7), .v (.int .i64 a8), .v (.int .i64 a9), .v (.int .i64 a10)] := by
  obtain ⟨_, _, rfl, ⟨a0, rfl, _⟩, _, _, rfl, ⟨a1, rfl, _⟩, _, _, rfl, ⟨a2, rfl, _⟩, _, _, rfl, ⟨a3, rfl, _⟩, _, _, rfl, ⟨a4, rfl, _⟩, _, _, rfl, ⟨a5, rfl, _⟩, _, _, rfl, ⟨a6, rfl, _⟩, _, _, rfl, ⟨a7, rfl, _⟩, _, _, rfl, ⟨a8, rfl, _⟩, _, _, rfl, ⟨a9, rfl, _⟩, _, _, rfl, ⟨a10, rfl, _⟩, h⟩ := h
  simp only [HasR] at h; subst h
  exact ⟨a0, a1, a2, a3, a4, a5, a6, a7, a8, a9, a10, rfl⟩
theorem sh_Rule_mkHas  (a0 : Int) (a1 : Int) (a2 : Int) (a3 : Int) (a4 : Int) (a5 : Int) (a6 : Int) (a7 : Int) (a8 : Int) (a9 : Int) (a10 : Int) : HasR sh_Rule [.v (.int .i64 a0), .v (.int .i64 a1), .v (.int .i64 a2), .v (.int .i64 a3), .v (.int .i64 a4), .v (.int .i64 a5), .v (.int .i64 a6), .v (.int .i64 a7), .v (.int .i64 a8), .v (.int .i64 a9), .v (.int .i64 a10)] := by
  exact ⟨_, _, rfl, ⟨_, rfl, fun h => by cases h⟩, _, _, rfl, ⟨_, rfl, fun h => by cases h⟩, _, _, rfl, ⟨_, rfl, fun h => by cases h⟩, _, _, rfl, ⟨_, rfl, fun h => by cases h⟩, _, _, rfl, ⟨_, rfl, fun h => by cases h⟩, _, _, rfl, ⟨_, rfl, fun h => by cases h⟩, _, _, rfl, ⟨_, rfl, fun h => by cases h⟩, _, _, rfl, ⟨_, rfl, fun h => by cases h⟩, _, _, rfl, ⟨_, rfl, fun h => by cases h⟩, _, _, rfl, ⟨_, rfl, fun h => by cases h⟩, _, _, rfl, ⟨_, rfl, fun h => by cases h⟩, rfl⟩
theorem sh_Rule_Fit {cs : List Cell} (h : FitR sh_Rule cs) : ∃ (a0 : Int) (a1 : Int) (a2 : Int) (a3 : Int) (a4 : Int) (a5 : Int) (a6 : Int) (a7 : Int) (a8 : Int) (a9 : Int) (a10 : Int), cs = [.v (.int .i64 a0), .v (.int .i64 a1), .v (.int .i64 a2), .v (.int .i64 a3), .v (.int .i64 a4), .v (.int .i64 a5), .v (.int .i64 a6), .v (.int .i64 a7), .v (.int .i64 a8), .v (.int .i64 a9), .v (.int .i64 a10)] := by
  obtain ⟨_, _, rfl, ⟨a0, rfl⟩, _, _, rfl, ⟨a1, rfl⟩, _, _, rfl, ⟨a2, rfl⟩, _, _, rfl, ⟨a3, rfl⟩, _, _, rfl, ⟨a4, rfl⟩, _, _, rfl, ⟨a5, rfl⟩, _, _, rfl, ⟨a6, rfl⟩, _, _, rfl, ⟨a7, rfl⟩, _, _, rfl, ⟨a8, rfl⟩, _, _, rfl, ⟨a9, rfl⟩, _, _, rfl, ⟨a10, rfl⟩, h⟩ := h
  simp only [FitR] at h; subst h
  exact ⟨a0, a1, a2, a3, a4, a5, a6, a7, a8, a9, a10, rfl⟩
theorem sh_Rule_mkFit  (a0 : Int) (a1 : Int) (a2 : Int) (a3 : Int) (a4 : Int) (a5 : Int) (a6 : Int) (a7 : Int) (a8 : Int) (a9 : Int) (a10 : Int) : FitR sh_Rule [.v (.int .i64 a0), .v (.int .i64 a1), .v (.int .i64 a2), .v (.int .i64 a3), .v (.int .i64 a4), .v (.int .i64 a5), .v (.int .i64 a6), .v (.int .i64 a7), .v (.int .i64 a8), .v (.int .i64 a9), .v (.int .i64 a10)] := by
  exact ⟨_, _, rfl, ⟨_, rfl⟩, _, _, rfl, ⟨_, rfl⟩, _, _, rfl, ⟨_, rfl⟩, _, _, rfl, ⟨_, rfl⟩, _, _, rfl, ⟨_, rfl⟩, _, _, rfl, ⟨_, rfl⟩, _, _, rfl, ⟨_, rfl⟩, _, _, rfl, ⟨_, rfl⟩, _, _, rfl, ⟨_, rfl⟩, _, _, rfl, ⟨_, rfl⟩, _, _, rfl, ⟨_, rfl⟩, rfl⟩
theorem flat_sz_Rule {cs : List Cell} (h : HasR sh_Rule cs) : szCs cs = 0 := by
  obtain ⟨a0, a1, a2, a3, a4, a5, a6, a7, a8, a9, a10, rfl⟩ := sh_Rule_Has h
  rfl
theorem to_Rule_at  (a0 : Int) (a1 : Int) (a2 : Int) (a3 : Int) (a4 : Int) (a5 : Int) (a6 : Int) (a7 : Int) (a8 : Int) (a9 : Int) (a10 : Int) : toR_S sh_Rule [.agg [.p (.int .i64 a0), .p (.int .i64 a1), .p (.int .i64 a2), .p (.int .i64 a3), .p (.int .i64 a4), .p (.int .i64 a5), .p (.int .i64 a6), .p (.int .i64 a7), .p (.int .i64 a8), .p (.int .i64 a9), .p (.int .i64 a10)]] = some (.agg [.p (.int .i64 a0), .p (.int .i64 a1), .p (.int .i64 a2), .p (.int .i64 a3), .p (.int .i64 a4), .p (.int .i64 a5), .p (.int .i64 a6), .p (.int .i64 a7), .p (.int .i64 a8), .p (.int .i64 a9), .p (.int .i64 a10)], []) := by
  have := toR_at (sh_Rule_mkHas  a0 a1 a2 a3 a4 a5 a6 a7 a8 a9 a10) (by simp only [szCs, szC]; omega)
  simpa only [fzCs, fzC, tvCs, tvC_v, tvC_nl, tvC_sl, bkCs, bkC, nbC, nbCs, Nat.add_zero, List.append_nil, List.nil_append, Nat.zero_add] using this
-- laws.toRule
def c155 : AF := ⟨15,
  (.seq (.reg [⟨(some 1), none, .box 192 (.t 0)⟩,
   ⟨(some 2), none, .alloc 186 [(.int .i64 0), (.int .i64 0), (.int .i64 0), (.int .i64 0), (.int .i64 0), (.int .i64 0), (.int .i64 0), (.int .i64 0), (.int .i64 0), (.int .i64 0), (.int .i64 0)]⟩])
  (.seq (.reg [⟨(some 3), none, .alloc 186 [(.int .i64 0), (.int .i64 0), (.int .i64 0), (.int .i64 0), (.int .i64 0), (.int .i64 0), (.int .i64 0), (.int .i64 0), (.int .i64 0), (.int .i64 0), (.int .i64 0)]⟩])
  (.seq (.reg [⟨(some 4), none, .fa (.t 1) 0⟩,
   ⟨(some 5), none, .ldn 9 (.t 4)⟩,
   ⟨(some 6), none, .call 206 [(.t 5)]⟩,
   ⟨(some 7), none, .fa (.t 3) 0⟩,
   ⟨none, none, .st 9 (.t 7) (.t 6)⟩])
  (.seq (.reg [⟨(some 8), none, .fa (.t 1) 9⟩,
   ⟨(some 9), none, .ld (.t 8)⟩,
   ⟨(some 10), none, .fa (.t 3) 9⟩,
   ⟨none, none, .st 1 (.t 10) (.t 9)⟩])
  (.seq (.reg [⟨(some 11), none, .fa (.t 1) 10⟩,
   ⟨(some 12), none, .ld (.t 11)⟩,
   ⟨(some 13), none, .fa (.t 3) 10⟩,
   ⟨none, none, .st 1 (.t 13) (.t 12)⟩])
  (.seq (.reg [⟨(some 14), none, .ldn 11 (.t 3)⟩,
   ⟨none, none, .st 11 (.t 2) (.t 14)⟩])
  .ret)))))),
  [.cell 2 (some 11)]⟩
theorem k155 : cFn Try.prog Try.f155 = some c155 := by kernel_rfl
theorem toRule_ok : OkT Try.prog 155 (pureSp (toR_S sh_Rule)) := by
  refine okT_toR (OkΓT.cons toSel_ok (OkΓT.nil _)) Try.func155 (by kernel_rfl) k155 ?_
  intro c hc hz
  obtain ⟨a0, a1, a2, a3, a4, a5, a6, a7, a8, a9, a10, rfl⟩ := sh_Rule_Has hc
  simp only [szCs, szC] at hz
  simp only [fzCs, fzC]
  (dsimp only [c155]; simp (maxSteps := 8000000) (implicitDefEqProofs := false) (disch := omega) only [↓reduceIte, go_sem, if_pos, if_neg, to_Sel_at])
  refine endT_cells' 3 (.inr rfl) (by (simp (maxSteps := 8000000) (implicitDefEqProofs := false) (disch := omega) only [↓reduceIte, go_sem, if_pos, if_neg, fzCs, fzC, tvCs, tvC_v, tvC_nl, tvC_sl, bkCs, bkC, nbC, nbCs, Nat.add_zero, List.append_nil, List.nil_append]) <;> rfl) ?_ (by simp only [List.length_cons]; omega)
  simp only [List.drop_succ_cons, List.drop_zero, bkCs, bkC, nbC, Nat.add_zero, List.append_nil, List.nil_append, List.cons_append, Nat.add_assoc]
theorem eq_Rule_at  (a0 : Int) (a1 : Int) (a2 : Int) (a3 : Int) (a4 : Int) (a5 : Int) (a6 : Int) (a7 : Int) (a8 : Int) (a9 : Int) (a10 : Int) : eqR_S sh_Rule [.agg [.p (.int .i64 a0), .p (.int .i64 a1), .p (.int .i64 a2), .p (.int .i64 a3), .p (.int .i64 a4), .p (.int .i64 a5), .p (.int .i64 a6), .p (.int .i64 a7), .p (.int .i64 a8), .p (.int .i64 a9), .p (.int .i64 a10)], .agg [.p (.int .i64 a0), .p (.int .i64 a1), .p (.int .i64 a2), .p (.int .i64 a3), .p (.int .i64 a4), .p (.int .i64 a5), .p (.int .i64 a6), .p (.int .i64 a7), .p (.int .i64 a8), .p (.int .i64 a9), .p (.int .i64 a10)]] = some (.p (.bool true), []) := by
  exact eqR_at (sh_Rule_mkFit  a0 a1 a2 a3 a4 a5 a6 a7 a8 a9 a10) (by simp only [szCs, szC]; omega)
-- laws.eqRule
def c159 : AF := ⟨21,
  (.seq (.reg [⟨(some 2), none, .box 186 (.t 0)⟩,
   ⟨(some 3), none, .box 186 (.t 1)⟩,
   ⟨(some 4), none, .mv (.v (.bool false))⟩])
  (.seq (.seq (.reg [⟨(some 5), none, .fa (.t 2) 0⟩,
   ⟨(some 6), none, .ldn 9 (.t 5)⟩,
   ⟨(some 7), none, .fa (.t 3) 0⟩,
   ⟨(some 8), none, .ldn 9 (.t 7)⟩,
   ⟨(some 9), none, .call 207 [(.t 6), (.t 8)]⟩,
   ⟨(some 10), none, .un .not (.t 9)⟩])
  (.cond (.t 10) (.seq (.reg [⟨(some 4), none, .mv (.v (.bool false))⟩])
  .ret)
  .skip))
  (.seq (.seq (.reg [⟨(some 11), none, .fa (.t 2) 9⟩,
   ⟨(some 12), none, .ld (.t 11)⟩,
   ⟨(some 13), none, .fa (.t 3) 9⟩,
   ⟨(some 14), none, .ld (.t 13)⟩,
   ⟨(some 15), none, .bin .neq (.t 12) (.t 14)⟩])
  (.cond (.t 15) (.seq (.reg [⟨(some 4), none, .mv (.v (.bool false))⟩])
  .ret)
  .skip))
  (.seq (.seq (.reg [⟨(some 16), none, .fa (.t 2) 10⟩,
   ⟨(some 17), none, .ld (.t 16)⟩,
   ⟨(some 18), none, .fa (.t 3) 10⟩,
   ⟨(some 19), none, .ld (.t 18)⟩,
   ⟨(some 20), none, .bin .neq (.t 17) (.t 19)⟩])
  (.cond (.t 20) (.seq (.reg [⟨(some 4), none, .mv (.v (.bool false))⟩])
  .ret)
  .skip))
  (.seq (.reg [⟨(some 4), none, .mv (.v (.bool true))⟩])
  .ret))))),
  [.t 4]⟩
theorem k159 : cFn Try.prog Try.f159 = some c159 := by kernel_rfl
theorem eqRule_ok : OkT Try.prog 159 (pureSp (eqR_S sh_Rule)) := by
  refine okT_eqR (OkΓT.cons eqSel_ok (OkΓT.nil _)) Try.func159 (by kernel_rfl) k159 ?_
  intro c hc hz
  obtain ⟨a0, a1, a2, a3, a4, a5, a6, a7, a8, a9, a10, rfl⟩ := sh_Rule_Fit hc
  simp only [szCs, szC] at hz
  simp only [fzCs, fzC]
  (dsimp only [c159]; simp (maxSteps := 8000000) (implicitDefEqProofs := false) (disch := omega) only [↓reduceIte, go_sem, if_pos, if_neg, eq_Sel_at])
  repeat' first
    | (refine gdKT_dec (fun hg => ?_) (fun hg => ?_) <;> (try (first | simp (maxSteps := 8000000) (implicitDefEqProofs := false) (disch := omega) only [↓reduceIte, go_sem, if_pos, if_neg, eq_false hg, eq_Sel_at] | simp (maxSteps := 8000000) (implicitDefEqProofs := false) (disch := omega) only [↓reduceIte, go_sem, if_pos, if_neg, eq_true hg, eq_Sel_at])))
    | (refine condKT_dec (fun hg => ?_) (fun hg => ?_) <;> (try (first | simp (maxSteps := 8000000) (implicitDefEqProofs := false) (disch := omega) only [↓reduceIte, go_sem, if_pos, if_neg, eq_false hg, eq_Sel_at] | simp (maxSteps := 8000000) (implicitDefEqProofs := false) (disch := omega) only [↓reduceIte, go_sem, if_pos, if_neg, eq_true hg, eq_Sel_at])))
    | (refine gdKT_split (fun hg => ?_) (fun hg => ?_) <;> (try simp (maxSteps := 8000000) (implicitDefEqProofs := false) (disch := omega) only [↓reduceIte, go_sem, if_pos, if_neg, hg, eq_Sel_at]))
    | (refine condKT_split (fun hg => ?_) (fun hg => ?_) <;> (try simp (maxSteps := 8000000) (implicitDefEqProofs := false) (disch := omega) only [↓reduceIte, go_sem, if_pos, if_neg, hg, eq_Sel_at]))
    | (refine endT_p (.inr rfl) (by simp (maxSteps := 8000000) (implicitDefEqProofs := false) (disch := omega) only [↓reduceIte, go_sem, if_pos, if_neg, eq_Sel_at]; rfl) ?_; (first | exact vb_true (by omega) | exact vb_false (by omega) | exact vb_dec (by omega) | exact vi_eq (by omega) | rfl | (refine vi_eq ?_; simp_all; done) | (refine vi_eq ?_; simp_all; omega) | (refine vi_eq ?_; simp_all; intros; omega)))
    | exact endT_v (.inr rfl) (by simp (maxSteps := 8000000) (implicitDefEqProofs := false) (disch := omega) only [↓reduceIte, go_sem, if_pos, if_neg, eq_Sel_at]; try rfl) (fun _ => rfl)
def sh_RuleS : Shp := .sl 186 sh_Rule
-- laws.toRuleS
def c62 : AF := ⟨23,
  (.seq (.reg [⟨(some 2), none, .mv (.v (.slice none 0 0))⟩])
  (.seq (.reg [⟨(some 5), none, .mv (.t 0)⟩,
   ⟨(some 6), none, .len (.t 5)⟩,
   ⟨(some 7), none, .mkSl 186 11 88 [(.int .i64 0), (.int .i64 0), (.int .i64 0), (.int .i64 0), (.int .i64 0), (.int .i64 0), (.int .i64 0), (.int .i64 0), (.int .i64 0), (.int .i64 0), (.int .i64 0)] (.t 6) (.t 6)⟩,
   ⟨(some 3), none, .mv (.t 7)⟩])
  (.seq (.seq (.reg [⟨(some 4), none, .mv (.v (.int .i64 0))⟩])
  (.block 0 (.loop (.seq (.seq (.reg [⟨(some 8), none, .mv (.t 4)⟩,
   ⟨(some 9), none, .mv (.t 0)⟩,
   ⟨(some 10), none, .len (.t 9)⟩,
   ⟨(some 11), none, .bin .lss (.t 8) (.t 10)⟩])
  (.cond (.t 11) .skip
  (.exit 0)))
  (.seq (.block 1 (.reg [⟨(some 14), none, .mv (.t 3)⟩,
   ⟨(some 15), none, .mv (.t 4)⟩,
   ⟨(some 16), none, .mv (.t 0)⟩,
   ⟨(some 17), none, .mv (.t 4)⟩,
   ⟨(some 18), none, .ia 11 (.t 16) (.t 17)⟩,
   ⟨(some 19), none, .ldn 11 (.t 18)⟩,
   ⟨(some 20), none, .call 155 [(.t 19)]⟩,
   ⟨(some 21), none, .ia 11 (.t 14) (.t 15)⟩,
   ⟨none, none, .st 11 (.t 21) (.t 20)⟩]))
  (.reg [⟨(some 12), none, .mv (.t 4)⟩,
   ⟨(some 13), none, .bin .add (.t 12) (.v (.int .i64 1))⟩,
   ⟨(some 4), none, .mv (.t 13)⟩]))))))
  (.seq (.reg [⟨(some 22), none, .mv (.t 3)⟩,
   ⟨(some 2), none, .mv (.t 22)⟩])
  .ret)))),
  [.t 2]⟩
theorem k62 : cFn Try.prog Try.f62 = some c62 := by kernel_rfl
theorem toRuleS_ok : OkT Try.prog 62 (pureSp (toC_S sh_RuleS)) := by
  refine okT_toC (OkΓT.cons toRule_ok (OkΓT.nil _)) Try.func62 (by kernel_rfl) k62 ?_
  intro c hc hz
  simp only [sh_RuleS, HasC] at hc
  obtain ⟨rows, rfl, hr⟩ := hc
  simp only [szC] at hz
  have hlen : ∀ r ∈ rows, r.length = 11 := fun r hx => (hr r hx).len
  generalize hzz : (el [.p (.int .i64 0), .p (.int .i64 0), .p (.int .i64 0), .p (.int .i64 0), .p (.int .i64 0), .p (.int .i64 0), .p (.int .i64 0), .p (.int .i64 0), .p (.int .i64 0), .p (.int .i64 0), .p (.int .i64 0)] : TV) = z0
  have hz1 : cellsT z0 = [.p (.int .i64 0), .p (.int .i64 0), .p (.int .i64 0), .p (.int .i64 0), .p (.int .i64 0), .p (.int .i64 0), .p (.int .i64 0), .p (.int .i64 0), .p (.int .i64 0), .p (.int .i64 0), .p (.int .i64 0)] := by rw [← hzz]; rfl
  simp only [fzC, tvC_v, tvC_nl, tvC_sl, bkC]
  (dsimp only [c62]; simp (maxSteps := 8000000) (implicitDefEqProofs := false) (disch := omega) only [↓reduceIte, go_sem, if_pos, if_neg, hzz, mixR_zero 1 rows z0])
  refine awpT_loop (α := Nat) (fun i => ⟨slots [(0, .s (fzRs rows)), (3, .os 0 0 rows.length), (4, .p (.int .i64 i))], .cells 186 11 (mixR 1 rows z0 i) :: bkRs 1 (rows.take i)⟩)
    (fun i => i ≤ rows.length) (fun i => rows.length - i) 0 (Nat.zero_le _) (by simp only [List.take_zero, bkRs]; exact le_keep (Nat.zero_le _) (by simp (maxSteps := 8000000) (implicitDefEqProofs := false) (disch := omega) only [↓reduceIte, go_sem, if_pos, if_neg, slotsIn])) ?_
  intro i hi
  simp (maxSteps := 8000000) (implicitDefEqProofs := false) (disch := omega) only [↓reduceIte, go_sem, if_pos, if_neg, mixR_len 1 rows z0 hi]
  refine condKT_dec (fun hlt => ?_) (fun hge => ?_)
  · obtain ⟨r, hx⟩ := get_ex (l := rows) (i := i) (by omega)
    have hrr := hr r (List.mem_of_getElem? hx)
    have hzr := szRs_mem hx
    have hg := fzRs_get hx; have hm := mixR_get 1 (rows := rows) z0 (i := i) (by omega)
    have hs := mixR_set 1 z0 hx; have hb := bkRs_snoc 1 hx; have hn := bkRs_len 1 (rows.take i)
    obtain ⟨a0, a1, a2, a3, a4, a5, a6, a7, a8, a9, a10, rfl⟩ := sh_Rule_Has hrr
    simp only [szCs, szC] at hzr
    simp only [fzCs, fzC, tvCs, tvC_v, tvC_nl, tvC_sl, bkCs, bkC, nbC, nbCs, Nat.add_zero, List.append_nil, List.nil_append, el_one, el_two, Nat.add_comm 1 (nbRs _)] at hg hs hb
    simp (maxSteps := 8000000) (implicitDefEqProofs := false) (disch := omega) only [↓reduceIte, go_sem, if_pos, if_neg, eq_true hlt, hg, hm, hs, hn, hz1, el_two, to_Rule_at]
    refine loopKT_next (i + 1) (by omega) (by omega) ?_
    rw [hb]; refine (le_keep (Nat.zero_le _) ?_) <;> simp (maxSteps := 8000000) (implicitDefEqProofs := false) (disch := omega) only [↓reduceIte, go_sem, if_pos, if_neg, slotsIn]
  · have hb : rows.take i = rows := List.take_of_length_le (by omega)
    have hm := mixR_full 1 (rows := rows) z0 (i := i) (by omega)
    simp (maxSteps := 8000000) (implicitDefEqProofs := false) (disch := omega) only [↓reduceIte, go_sem, if_pos, if_neg, eq_false hge, hb, hm]
    refine joinK_here ?_
    simp (maxSteps := 8000000) (implicitDefEqProofs := false) (disch := omega) only [↓reduceIte, go_sem, if_pos, if_neg]
    exact endT_same (.inr rfl) (by (simp (maxSteps := 8000000) (implicitDefEqProofs := false) (disch := omega) only [↓reduceIte, go_sem, if_pos, if_neg]) <;> rfl) rfl
-- laws.eqRuleS
def c66 : AF := ⟨27,
  (.seq (.reg [⟨(some 4), none, .mv (.v (.bool false))⟩])
  (.seq (.seq (.reg [⟨(some 6), none, .mv (.t 0)⟩,
   ⟨(some 7), none, .len (.t 6)⟩,
   ⟨(some 8), none, .mv (.t 1)⟩,
   ⟨(some 9), none, .len (.t 8)⟩,
   ⟨(some 10), none, .bin .neq (.t 7) (.t 9)⟩])
  (.cond (.t 10) (.seq (.reg [⟨(some 4), none, .mv (.v (.bool false))⟩])
  .ret)
  .skip))
  (.seq (.seq (.reg [⟨(some 5), none, .mv (.v (.int .i64 0))⟩])
  (.block 0 (.loop (.seq (.seq (.reg [⟨(some 11), none, .mv (.t 5)⟩,
   ⟨(some 12), none, .mv (.t 0)⟩,
   ⟨(some 13), none, .len (.t 12)⟩,
   ⟨(some 14), none, .bin .lss (.t 11) (.t 13)⟩])
  (.cond (.t 14) .skip
  (.exit 0)))
  (.seq (.block 1 (.seq (.drw [⟨(some 17), none, .mv (.t 0)⟩,
   ⟨(some 18), none, .mv (.t 5)⟩,
   ⟨(some 19), none, .ia 11 (.t 17) (.t 18)⟩,
   ⟨(some 20), none, .ldn 11 (.t 19)⟩,
   ⟨(some 21), none, .mv (.t 1)⟩,
   ⟨(some 22), none, .mv (.t 5)⟩,
   ⟨(some 23), none, .ia 11 (.t 21) (.t 22)⟩,
   ⟨(some 24), none, .ldn 11 (.t 23)⟩] [⟨(some 25), none, .call 159 [(.t 20), (.t 24)]⟩,
   ⟨(some 26), none, .un .not (.t 25)⟩])
  (.cond (.t 26) (.seq (.reg [⟨(some 4), none, .mv (.v (.bool false))⟩])
  .ret)
  .skip)))
  (.reg [⟨(some 15), none, .mv (.t 5)⟩,
   ⟨(some 16), none, .bin .add (.t 15) (.v (.int .i64 1))⟩,
   ⟨(some 5), none, .mv (.t 16)⟩]))))))
  (.seq (.reg [⟨(some 4), none, .mv (.v (.bool true))⟩])
  .ret)))),
  [.t 4]⟩
theorem k66 : cFn Try.prog Try.f66 = some c66 := by kernel_rfl
theorem eqRuleS_ok : OkT Try.prog 66 (pureSp (eqC_S sh_RuleS)) := by
  refine okT_eqC (OkΓT.cons eqRule_ok (OkΓT.nil _)) Try.func66 (by kernel_rfl) k66 ?_
  intro c hc hz
  obtain ⟨rows, hf, hr, hsz, _⟩ := FitC.rows hc
  rw [hf]
  (dsimp only [c66]; simp (maxSteps := 8000000) (implicitDefEqProofs := false) (disch := omega) only [↓reduceIte, go_sem, if_pos, if_neg])
  refine awpT_loop (α := Nat) (fun i => ⟨slots [(0, .s (fzRs rows)), (1, .s (fzRs rows)), (5, .p (.int .i64 i))], []⟩) (fun i => i ≤ rows.length) (fun i => rows.length - i) 0 (Nat.zero_le _) (le_of [] (by simp (maxSteps := 8000000) (implicitDefEqProofs := false) (disch := omega) only [↓reduceIte, go_sem, if_pos, if_neg]) (by simp (maxSteps := 8000000) (implicitDefEqProofs := false) (disch := omega) only [↓reduceIte, go_sem, if_pos, if_neg]) (by decide) (by simp)) ?_
  intro i hi
  simp (maxSteps := 8000000) (implicitDefEqProofs := false) (disch := omega) only [↓reduceIte, go_sem, if_pos, if_neg]
  refine condKT_dec (fun hlt => ?_) (fun hge => ?_)
  · obtain ⟨r, hx⟩ := get_ex (l := rows) (i := i) (by omega)
    have hrr := hr r (List.mem_of_getElem? hx)
    have hzr := szRs_mem hx
    have hg := fzRs_get hx
    obtain ⟨a0, a1, a2, a3, a4, a5, a6, a7, a8, a9, a10, rfl⟩ := sh_Rule_Fit hrr
    simp only [szCs, szC] at hzr
    simp only [fzCs, fzC, el_one, el_two] at hg
    simp (maxSteps := 8000000) (implicitDefEqProofs := false) (disch := omega) only [↓reduceIte, go_sem, if_pos, if_neg, eq_true hlt, hg, eq_Rule_at]
    refine loopKT_next (i + 1) (by omega) (by omega) ?_
    exact (le_of [] (by simp (maxSteps := 8000000) (implicitDefEqProofs := false) (disch := omega) only [↓reduceIte, go_sem, if_pos, if_neg]) (by simp (maxSteps := 8000000) (implicitDefEqProofs := false) (disch := omega) only [↓reduceIte, go_sem, if_pos, if_neg]) (by decide) (by simp))
  · simp (maxSteps := 8000000) (implicitDefEqProofs := false) (disch := omega) only [↓reduceIte, go_sem, if_pos, if_neg, eq_false hge]
    refine joinK_here ?_
    simp (maxSteps := 8000000) (implicitDefEqProofs := false) (disch := omega) only [↓reduceIte, go_sem, if_pos, if_neg]
    repeat' first
      | (refine gdKT_dec (fun hg => ?_) (fun hg => ?_) <;> (try (first | simp (maxSteps := 8000000) (implicitDefEqProofs := false) (disch := omega) only [↓reduceIte, go_sem, if_pos, if_neg, eq_false hg] | simp (maxSteps := 8000000) (implicitDefEqProofs := false) (disch := omega) only [↓reduceIte, go_sem, if_pos, if_neg, eq_true hg])))
      | (refine condKT_dec (fun hg => ?_) (fun hg => ?_) <;> (try (first | simp (maxSteps := 8000000) (implicitDefEqProofs := false) (disch := omega) only [↓reduceIte, go_sem, if_pos, if_neg, eq_false hg] | simp (maxSteps := 8000000) (implicitDefEqProofs := false) (disch := omega) only [↓reduceIte, go_sem, if_pos, if_neg, eq_true hg])))
      | (refine gdKT_split (fun hg => ?_) (fun hg => ?_) <;> (try simp (maxSteps := 8000000) (implicitDefEqProofs := false) (disch := omega) only [↓reduceIte, go_sem, if_pos, if_neg, hg]))
      | (refine condKT_split (fun hg => ?_) (fun hg => ?_) <;> (try simp (maxSteps := 8000000) (implicitDefEqProofs := false) (disch := omega) only [↓reduceIte, go_sem, if_pos, if_neg, hg]))
      | (refine endT_p (.inr rfl) (by simp (maxSteps := 8000000) (implicitDefEqProofs := false) (disch := omega) only [↓reduceIte, go_sem, if_pos, if_neg]; rfl) ?_; (first | exact vb_true (by omega) | exact vb_false (by omega) | exact vb_dec (by omega) | exact vi_eq (by omega) | rfl | (refine vi_eq ?_; simp_all; done) | (refine vi_eq ?_; simp_all; omega) | (refine vi_eq ?_; simp_all; intros; omega)))
      | exact endT_v (.inr rfl) (by simp (maxSteps := 8000000) (implicitDefEqProofs := false) (disch := omega) only [↓reduceIte, go_sem, if_pos, if_neg]; try rfl) (fun _ => rfl)
-- laws.szRuleS
def c59 : AF := ⟨12,
  (.seq (.reg [⟨(some 4), none, .mv (.v (.int .i64 0))⟩])
  (.seq (.reg [⟨(some 5), none, .mv (.t 1)⟩,
   ⟨(some 6), none, .mv (.t 0)⟩,
   ⟨(some 7), none, .len (.t 6)⟩,
   ⟨(some 8), none, .bin .sub (.t 5) (.t 7)⟩,
   ⟨(some 1), none, .mv (.t 8)⟩])
  (.seq (.seq (.reg [⟨(some 9), none, .mv (.t 1)⟩,
   ⟨(some 10), none, .bin .lss (.t 9) (.v (.int .i64 0))⟩])
  (.cond (.t 10) (.seq (.reg [⟨(some 4), none, .mv (.v (.int .i64 (-1)))⟩])
  .ret)
  .skip))
  (.seq (.reg [⟨(some 11), none, .mv (.t 1)⟩,
   ⟨(some 4), none, .mv (.t 11)⟩])
  .ret)))),
  [.t 4]⟩
theorem k59 : cFn Try.prog Try.f59 = some c59 := by kernel_rfl
theorem szRuleS_ok : OkT Try.prog 59 (pureSp (szC_S sh_RuleS)) := by
  refine okT_szC (OkΓT.nil _) Try.func59 (by kernel_rfl) k59 ?_
  intro c k hc h1 h2 hz
  simp only [sh_RuleS, HasC] at hc
  obtain ⟨rows, rfl, hr⟩ := hc
  generalize hN : szC _ = N at *
  simp only [szC] at hN
  simp only [lnC, Bool.and_eq_true, decide_eq_true_eq] at hz
  obtain ⟨hz, hzr⟩ := hz
  simp only [fzC]
  have hz0 : szRs rows = 0 := szRs_zero fun r hx => by
    have hrr := hr r hx
    obtain ⟨a0, a1, a2, a3, a4, a5, a6, a7, a8, a9, a10, rfl⟩ := sh_Rule_Has hrr
    rfl
  by_cases q : (rows.length : Int) ≤ k
  · rw [if_pos (by omega), show (N : Int) = rows.length by omega]
    (dsimp only [c59]; simp (maxSteps := 8000000) (implicitDefEqProofs := false) (disch := omega) only [↓reduceIte, go_sem, if_pos, if_neg])
    repeat' first
      | (refine gdKT_dec (fun hg => ?_) (fun hg => ?_) <;> (try (first | simp (maxSteps := 8000000) (implicitDefEqProofs := false) (disch := omega) only [↓reduceIte, go_sem, if_pos, if_neg, eq_false hg] | simp (maxSteps := 8000000) (implicitDefEqProofs := false) (disch := omega) only [↓reduceIte, go_sem, if_pos, if_neg, eq_true hg])))
      | (refine condKT_dec (fun hg => ?_) (fun hg => ?_) <;> (try (first | simp (maxSteps := 8000000) (implicitDefEqProofs := false) (disch := omega) only [↓reduceIte, go_sem, if_pos, if_neg, eq_false hg] | simp (maxSteps := 8000000) (implicitDefEqProofs := false) (disch := omega) only [↓reduceIte, go_sem, if_pos, if_neg, eq_true hg])))
      | (refine gdKT_split (fun hg => ?_) (fun hg => ?_) <;> (try simp (maxSteps := 8000000) (implicitDefEqProofs := false) (disch := omega) only [↓reduceIte, go_sem, if_pos, if_neg, hg]))
      | (refine condKT_split (fun hg => ?_) (fun hg => ?_) <;> (try simp (maxSteps := 8000000) (implicitDefEqProofs := false) (disch := omega) only [↓reduceIte, go_sem, if_pos, if_neg, hg]))
      | (refine endT_p (.inr rfl) (by simp (maxSteps := 8000000) (implicitDefEqProofs := false) (disch := omega) only [↓reduceIte, go_sem, if_pos, if_neg]; rfl) ?_; (first | exact vb_true (by omega) | exact vb_false (by omega) | exact vb_dec (by omega) | exact vi_eq (by omega) | rfl | (refine vi_eq ?_; simp_all; done) | (refine vi_eq ?_; simp_all; omega) | (refine vi_eq ?_; simp_all; intros; omega)))
      | exact endT_v (.inr rfl) (by simp (maxSteps := 8000000) (implicitDefEqProofs := false) (disch := omega) only [↓reduceIte, go_sem, if_pos, if_neg]; try rfl) (fun _ => rfl)
  · rw [if_neg (by omega)]
    (dsimp only [c59]; simp (maxSteps := 8000000) (implicitDefEqProofs := false) (disch := omega) only [↓reduceIte, go_sem, if_pos, if_neg])
    repeat' first
      | (refine gdKT_dec (fun hg => ?_) (fun hg => ?_) <;> (try (first | simp (maxSteps := 8000000) (implicitDefEqProofs := false) (disch := omega) only [↓reduceIte, go_sem, if_pos, if_neg, eq_false hg] | simp (maxSteps := 8000000) (implicitDefEqProofs := false) (disch := omega) only [↓reduceIte, go_sem, if_pos, if_neg, eq_true hg])))
      | (refine condKT_dec (fun hg => ?_) (fun hg => ?_) <;> (try (first | simp (maxSteps := 8000000) (implicitDefEqProofs := false) (disch := omega) only [↓reduceIte, go_sem, if_pos, if_neg, eq_false hg] | simp (maxSteps := 8000000) (implicitDefEqProofs := false) (disch := omega) only [↓reduceIte, go_sem, if_pos, if_neg, eq_true hg])))
      | (refine gdKT_split (fun hg => ?_) (fun hg => ?_) <;> (try simp (maxSteps := 8000000) (implicitDefEqProofs := false) (disch := omega) only [↓reduceIte, go_sem, if_pos, if_neg, hg]))
      | (refine condKT_split (fun hg => ?_) (fun hg => ?_) <;> (try simp (maxSteps := 8000000) (implicitDefEqProofs := false) (disch := omega) only [↓reduceIte, go_sem, if_pos, if_neg, hg]))
      | (refine endT_p (.inr rfl) (by simp (maxSteps := 8000000) (implicitDefEqProofs := false) (disch := omega) only [↓reduceIte, go_sem, if_pos, if_neg]; rfl) ?_; (first | exact vb_true (by omega) | exact vb_false (by omega) | exact vb_dec (by omega) | exact vi_eq (by omega) | rfl | (refine vi_eq ?_; simp_all; done) | (refine vi_eq ?_; simp_all; omega) | (refine vi_eq ?_; simp_all; intros; omega)))
      | exact endT_v (.inr rfl) (by simp (maxSteps := 8000000) (implicitDefEqProofs := false) (disch := omega) only [↓reduceIte, go_sem, if_pos, if_neg]; try rfl) (fun _ => rfl)
/-! Peer -/
def sh_Peer : List Shp := [.i .i64, .i .i64]
theorem sh_Peer_Has {cs : List Cell} (h : HasR sh_Peer cs) : ∃ (a0 : Int) (a1 : Int), cs = [.v (.int .i64 a0), .v (.int .i64 a1)] := by
  obtain ⟨_, _, rfl, ⟨a0, rfl, _⟩, _, _, rfl, ⟨a1, rfl, _⟩, h⟩ := h
  simp only [HasR] at h; subst h
  exact ⟨a0, a1, rfl⟩
theorem sh_Peer_mkHas  (a0 : Int) (a1 : Int) : HasR sh_Peer [.v (.int .i64 a0), .v (.int .i64 a1)] := by
  exact ⟨_, _, rfl, ⟨_, rfl, fun h => by cases h⟩, _, _, rfl, ⟨_, rfl, fun h => by cases h⟩, rfl⟩
theorem sh_Peer_Fit {cs : List Cell} (h : FitR sh_Peer cs) : ∃ (a0 : Int) (a1 : Int), cs = [.v (.int .i64 a0), .v (.int .i64 a1)] := by
  obtain ⟨_, _, rfl, ⟨a0, rfl⟩, _, _, rfl, ⟨a1, rfl⟩, h⟩ := h
  simp only [FitR] at h; subst h
  exact ⟨a0, a1, rfl⟩
theorem sh_Peer_mkFit  (a0 : Int) (a1 : Int) : FitR sh_Peer [.v (.int .i64 a0), .v (.int .i64 a1)] := by
  exact ⟨_, _, rfl, ⟨_, rfl⟩, _, _, rfl, ⟨_, rfl⟩, rfl⟩
theorem flat_sz_Peer {cs : List Cell} (h : HasR sh_Peer cs) : szCs cs = 0 := by
  obtain ⟨a0, a1, rfl⟩ := sh_Peer_Has h
  rfl
theorem to_Peer_at  (a0 : Int) (a1 : Int) : toR_S sh_Peer [.agg [.p (.int .i64 a0), .p (.int .i64 a1)]] = some (.agg [.p (.int .i64 a0), .p (.int .i64 a1)], []) := by
  have := toR_at (sh_Peer_mkHas  a0 a1) (by simp only [szCs, szC]; omega)
  simpa only [fzCs, fzC, tvCs, tvC_v, tvC_nl, tvC_sl, bkCs, bkC, nbC, nbCs, Nat.add_zero, List.append_nil, List.nil_append, Nat.zero_add] using this
-- laws.toPeer
def c156 : AF := ⟨11,
  (.seq (.reg [⟨(some 1), none, .box 196 (.t 0)⟩,
   ⟨(some 2), none, .alloc 194 [(.int .i64 0), (.int .i64 0)]⟩])
  (.seq (.reg [⟨(some 3), none, .alloc 194 [(.int .i64 0), (.int .i64 0)]⟩])
  (.seq (.reg [⟨(some 4), none, .fa (.t 1) 0⟩,
   ⟨(some 5), none, .ld (.t 4)⟩,
   ⟨(some 6), none, .fa (.t 3) 0⟩,
   ⟨none, none, .st 1 (.t 6) (.t 5)⟩])
  (.seq (.reg [⟨(some 7), none, .fa (.t 1) 1⟩,
   ⟨(some 8), none, .ld (.t 7)⟩,
   ⟨(some 9), none, .fa (.t 3) 1⟩,
   ⟨none, none, .st 1 (.t 9) (.t 8)⟩])
  (.seq (.reg [⟨(some 10), none, .ldn 2 (.t 3)⟩,
   ⟨none, none, .st 2 (.t 2) (.t 10)⟩])
  .ret))))),
  [.cell 2 (some 2)]⟩
theorem k156 : cFn Try.prog Try.f156 = some c156 := by kernel_rfl
theorem toPeer_ok : OkT Try.prog 156 (pureSp (toR_S sh_Peer)) := by
  refine okT_toR (OkΓT.nil _) Try.func156 (by kernel_rfl) k156 ?_
  intro c hc hz
  obtain ⟨a0, a1, rfl⟩ := sh_Peer_Has hc
  simp only [szCs, szC] at hz
  simp only [fzCs, fzC]
  (dsimp only [c156]; simp (maxSteps := 8000000) (implicitDefEqProofs := false) (disch := omega) only [↓reduceIte, go_sem, if_pos, if_neg])
  refine endT_cells' 3 (.inr rfl) (by (simp (maxSteps := 8000000) (implicitDefEqProofs := false) (disch := omega) only [↓reduceIte, go_sem, if_pos, if_neg, fzCs, fzC, tvCs, tvC_v, tvC_nl, tvC_sl, bkCs, bkC, nbC, nbCs, Nat.add_zero, List.append_nil, List.nil_append]) <;> rfl) ?_ (by simp only [List.length_cons]; omega)
  simp only [List.drop_succ_cons, List.drop_zero, bkCs, bkC, nbC, Nat.add_zero, List.append_nil, List.nil_append, List.cons_append, Nat.add_assoc]
theorem eq_Peer_at  (a0 : Int) (a1 : Int) : eqR_S sh_Peer [.agg [.p (.int .i64 a0), .p (.int .i64 a1)], .agg [.p (.int .i64 a0), .p (.int .i64 a1)]] = some (.p (.bool true), []) := by
  exact eqR_at (sh_Peer_mkFit  a0 a1) (by simp only [szCs, szC]; omega)
-- laws.eqPeer
def c160 : AF := ⟨15,
  (.seq (.reg [⟨(some 2), none, .box 194 (.t 0)⟩,
   ⟨(some 3), none, .box 194 (.t 1)⟩,
   ⟨(some 4), none, .mv (.v (.bool false))⟩])
  (.seq (.seq (.reg [⟨(some 5), none, .fa (.t 2) 0⟩,
   ⟨(some 6), none, .ld (.t 5)⟩,
   ⟨(some 7), none, .fa (.t 3) 0⟩,
   ⟨(some 8), none, .ld (.t 7)⟩,
   ⟨(some 9), none, .bin .neq (.t 6) (.t 8)⟩])
  (.cond (.t 9) (.seq (.reg [⟨(some 4), none, .mv (.v (.bool false))⟩])
  .ret)
  .skip))
  (.seq (.seq (.reg [⟨(some 10), none, .fa (.t 2) 1⟩,
   ⟨(some 11), none, .ld (.t 10)⟩,
   ⟨(some 12), none, .fa (.t 3) 1⟩,
   ⟨(some 13), none, .ld (.t 12)⟩,
   ⟨(some 14), none, .bin .neq (.t 11) (.t 13)⟩])
  (.cond (.t 14) (.seq (.reg [⟨(some 4), none, .mv (.v (.bool false))⟩])
  .ret)
  .skip))
  (.seq (.reg [⟨(some 4), none, .mv (.v (.bool true))⟩])
  .ret)))),
  [.t 4]⟩
theorem k160 : cFn Try.prog Try.f160 = some c160 := by kernel_rfl
theorem eqPeer_ok : OkT Try.prog 160 (pureSp (eqR_S sh_Peer)) := by
  refine okT_eqR (OkΓT.nil _) Try.func160 (by kernel_rfl) k160 ?_
  intro c hc hz
  obtain ⟨a0, a1, rfl⟩ := sh_Peer_Fit hc
  simp only [szCs, szC] at hz
  simp only [fzCs, fzC]
  (dsimp only [c160]; simp (maxSteps := 8000000) (implicitDefEqProofs := false) (disch := omega) only [↓reduceIte, go_sem, if_pos, if_neg])
  repeat' first
    | (refine gdKT_dec (fun hg => ?_) (fun hg => ?_) <;> (try (first | simp (maxSteps := 8000000) (implicitDefEqProofs := false) (disch := omega) only [↓reduceIte, go_sem, if_pos, if_neg, eq_false hg] | simp (maxSteps := 8000000) (implicitDefEqProofs := false) (disch := omega) only [↓reduceIte, go_sem, if_pos, if_neg, eq_true hg])))
    | (refine condKT_dec (fun hg => ?_) (fun hg => ?_) <;> (try (first | simp (maxSteps := 8000000) (implicitDefEqProofs := false) (disch := omega) only [↓reduceIte, go_sem, if_pos, if_neg, eq_false hg] | simp (maxSteps := 8000000) (implicitDefEqProofs := false) (disch := omega) only [↓reduceIte, go_sem, if_pos, if_neg, eq_true hg])))
    | (refine gdKT_split (fun hg => ?_) (fun hg => ?_) <;> (try simp (maxSteps := 8000000) (implicitDefEqProofs := false) (disch := omega) only [↓reduceIte, go_sem, if_pos, if_neg, hg]))
    | (refine condKT_split (fun hg => ?_) (fun hg => ?_) <;> (try simp (maxSteps := 8000000) (implicitDefEqProofs := false) (disch := omega) only [↓reduceIte, go_sem, if_pos, if_neg, hg]))
    | (refine endT_p (.inr rfl) (by simp (maxSteps := 8000000) (implicitDefEqProofs := false) (disch := omega) only [↓reduceIte, go_sem, if_pos, if_neg]; rfl) ?_; (first | exact vb_true (by omega) | exact vb_false (by omega) | exact vb_dec (by omega) | exact vi_eq (by omega) | rfl | (refine vi_eq ?_; simp_all; done) | (refine vi_eq ?_; simp_all; omega) | (refine vi_eq ?_; simp_all; intros; omega)))
    | exact endT_v (.inr rfl) (by simp (maxSteps := 8000000) (implicitDefEqProofs := false) (disch := omega) only [↓reduceIte, go_sem, if_pos, if_neg]; try rfl) (fun _ => rfl)
def sh_PeerS : Shp := .sl 194 sh_Peer
-- laws.toPeerS
def c63 : AF := ⟨23,
  (.seq (.reg [⟨(some 2), none, .mv (.v (.slice none 0 0))⟩])
  (.seq (.reg [⟨(some 5), none, .mv (.t 0)⟩,
   ⟨(some 6), none, .len (.t 5)⟩,
   ⟨(some 7), none, .mkSl 194 2 16 [(.int .i64 0), (.int .i64 0)] (.t 6) (.t 6)⟩,
   ⟨(some 3), none, .mv (.t 7)⟩])
  (.seq (.seq (.reg [⟨(some 4), none, .mv (.v (.int .i64 0))⟩])
  (.block 0 (.loop (.seq (.seq (.reg [⟨(some 8), none, .mv (.t 4)⟩,
   ⟨(some 9), none, .mv (.t 0)⟩,
   ⟨(some 10), none, .len (.t 9)⟩,
   ⟨(some 11), none, .bin .lss (.t 8) (.t 10)⟩])
  (.cond (.t 11) .skip
  (.exit 0)))
  (.seq (.block 1 (.reg [⟨(some 14), none, .mv (.t 3)⟩,
   ⟨(some 15), none, .mv (.t 4)⟩,
   ⟨(some 16), none, .mv (.t 0)⟩,
   ⟨(some 17), none, .mv (.t 4)⟩,
   ⟨(some 18), none, .ia 2 (.t 16) (.t 17)⟩,
   ⟨(some 19), none, .ldn 2 (.t 18)⟩,
   ⟨(some 20), none, .call 156 [(.t 19)]⟩,
   ⟨(some 21), none, .ia 2 (.t 14) (.t 15)⟩,
   ⟨none, none, .st 2 (.t 21) (.t 20)⟩]))
  (.reg [⟨(some 12), none, .mv (.t 4)⟩,
   ⟨(some 13), none, .bin .add (.t 12) (.v (.int .i64 1))⟩,
   ⟨(some 4), none, .mv (.t 13)⟩]))))))
  (.seq (.reg [⟨(some 22), none, .mv (.t 3)⟩,
   ⟨(some 2), none, .mv (.t 22)⟩])
  .ret)))),
  [.t 2]⟩
theorem k63 : cFn Try.prog Try.f63 = some c63 := by kernel_rfl
theorem toPeerS_ok : OkT Try.prog 63 (pureSp (toC_S sh_PeerS)) := by
  refine okT_toC (OkΓT.cons toPeer_ok (OkΓT.nil _)) Try.func63 (by kernel_rfl) k63 ?_
  intro c hc hz
  simp only [sh_PeerS, HasC] at hc
  obtain ⟨rows, rfl, hr⟩ := hc
  simp only [szC] at hz
  have hlen : ∀ r ∈ rows, r.length = 2 := fun r hx => (hr r hx).len
  generalize hzz : (el [.p (.int .i64 0), .p (.int .i64 0)] : TV) = z0
  have hz1 : cellsT z0 = [.p (.int .i64 0), .p (.int .i64 0)] := by rw [← hzz]; rfl
  simp only [fzC, tvC_v, tvC_nl, tvC_sl, bkC]
  (dsimp only [c63]; simp (maxSteps := 8000000) (implicitDefEqProofs := false) (disch := omega) only [↓reduceIte, go_sem, if_pos, if_neg, hzz, mixR_zero 1 rows z0])
  refine awpT_loop (α := Nat) (fun i => ⟨slots [(0, .s (fzRs rows)), (3, .os 0 0 rows.length), (4, .p (.int .i64 i))], .cells 194 2 (mixR 1 rows z0 i) :: bkRs 1 (rows.take i)⟩)
    (fun i => i ≤ rows.length) (fun i => rows.length - i) 0 (Nat.zero_le _) (by simp only [List.take_zero, bkRs]; exact le_keep (Nat.zero_le _) (by simp (maxSteps := 8000000) (implicitDefEqProofs := false) (disch := omega) only [↓reduceIte, go_sem, if_pos, if_neg, slotsIn])) ?_
  intro i hi
  simp (maxSteps := 8000000) (implicitDefEqProofs := false) (disch := omega) only [↓reduceIte, go_sem, if_pos, if_neg, mixR_len 1 rows z0 hi]
  refine condKT_dec (fun hlt => ?_) (fun hge => ?_)
  · obtain ⟨r, hx⟩ := get_ex (l := rows) (i := i) (by omega)
    have hrr := hr r (List.mem_of_getElem? hx)
    have hzr := szRs_mem hx
    have hg := fzRs_get hx; have hm := mixR_get 1 (rows := rows) z0 (i := i) (by omega)
    have hs := mixR_set 1 z0 hx; have hb := bkRs_snoc 1 hx; have hn := bkRs_len 1 (rows.take i)
    obtain ⟨a0, a1, rfl⟩ := sh_Peer_Has hrr
    simp only [szCs, szC] at hzr
    simp only [fzCs, fzC, tvCs, tvC_v, tvC_nl, tvC_sl, bkCs, bkC, nbC, nbCs, Nat.add_zero, List.append_nil, List.nil_append, el_one, el_two, Nat.add_comm 1 (nbRs _)] at hg hs hb
    simp (maxSteps := 8000000) (implicitDefEqProofs := false) (disch := omega) only [↓reduceIte, go_sem, if_pos, if_neg, eq_true hlt, hg, hm, hs, hn, hz1, el_two, to_Peer_at]
    refine loopKT_next (i + 1) (by omega) (by omega) ?_
    rw [hb]; refine (le_keep (Nat.zero_le _) ?_) <;> simp (maxSteps := 8000000) (implicitDefEqProofs := false) (disch := omega) only [↓reduceIte, go_sem, if_pos, if_neg, slotsIn]
  · have hb : rows.take i = rows := List.take_of_length_le (by omega)
    have hm := mixR_full 1 (rows := rows) z0 (i := i) (by omega)
    simp (maxSteps := 8000000) (implicitDefEqProofs := false) (disch := omega) only [↓reduceIte, go_sem, if_pos, if_neg, eq_false hge, hb, hm]
    refine joinK_here ?_
    simp (maxSteps := 8000000) (implicitDefEqProofs := false) (disch := omega) only [↓reduceIte, go_sem, if_pos, if_neg]
    exact endT_same (.inr rfl) (by (simp (maxSteps := 8000000) (implicitDefEqProofs := false) (disch := omega) only [↓reduceIte, go_sem, if_pos, if_neg]) <;> rfl) rfl
-- laws.eqPeerS
def c67 : AF := ⟨27,
  (.seq (.reg [⟨(some 4), none, .mv (.v (.bool false))⟩])
  (.seq (.seq (.reg [⟨(some 6), none, .mv (.t 0)⟩,
   ⟨(some 7), none, .len (.t 6)⟩,
   ⟨(some 8), none, .mv (.t 1)⟩,
   ⟨(some 9), none, .len (.t 8)⟩,
   ⟨(some 10), none, .bin .neq (.t 7) (.t 9)⟩])
  (.cond (.t 10) (.seq (.reg [⟨(some 4), none, .mv (.v (.bool false))⟩])
  .ret)
  .skip))
  (.seq (.seq (.reg [⟨(some 5), none, .mv (.v (.int .i64 0))⟩])
  (.block 0 (.loop (.seq (.seq (.reg [⟨(some 11), none, .mv (.t 5)⟩,
   ⟨(some 12), none, .mv (.t 0)⟩,
   ⟨(some 13), none, .len (.t 12)⟩,
   ⟨(some 14), none, .bin .lss (.t 11) (.t 13)⟩])
  (.cond (.t 14) .skip
  (.exit 0)))
  (.seq (.block 1 (.seq (.drw [⟨(some 17), none, .mv (.t 0)⟩,
   ⟨(some 18), none, .mv (.t 5)⟩,
   ⟨(some 19), none, .ia 2 (.t 17) (.t 18)⟩,
   ⟨(some 20), none, .ldn 2 (.t 19)⟩,
   ⟨(some 21), none, .mv (.t 1)⟩,
   ⟨(some 22), none, .mv (.t 5)⟩,
   ⟨(some 23), none, .ia 2 (.t 21) (.t 22)⟩,
   ⟨(some 24), none, .ldn 2 (.t 23)⟩] [⟨(some 25), none, .call 160 [(.t 20), (.t 24)]⟩,
   ⟨(some 26), none, .un .not (.t 25)⟩])
  (.cond (.t 26) (.seq (.reg [⟨(some 4), none, .mv (.v (.bool false))⟩])
  .ret)
  .skip)))
  (.reg [⟨(some 15), none, .mv (.t 5)⟩,
   ⟨(some 16), none, .bin .add (.t 15) (.v (.int .i64 1))⟩,
   ⟨(some 5), none, .mv (.t 16)⟩]))))))
  (.seq (.reg [⟨(some 4), none, .mv (.v (.bool true))⟩])
  .ret)))),
  [.t 4]⟩
theorem k67 : cFn Try.prog Try.f67 = some c67 := by kernel_rfl
theorem eqPeerS_ok : OkT Try.prog 67 (pureSp (eqC_S sh_PeerS)) := by
  refine okT_eqC (OkΓT.cons eqPeer_ok (OkΓT.nil _)) Try.func67 (by kernel_rfl) k67 ?_
  intro c hc hz
  obtain ⟨rows, hf, hr, hsz, _⟩ := FitC.rows hc
  rw [hf]
  (dsimp only [c67]; simp (maxSteps := 8000000) (implicitDefEqProofs := false) (disch := omega) only [↓reduceIte, go_sem, if_pos, if_neg])
  refine awpT_loop (α := Nat) (fun i => ⟨slots [(0, .s (fzRs rows)), (1, .s (fzRs rows)), (5, .p (.int .i64 i))], []⟩) (fun i => i ≤ rows.length) (fun i => rows.length - i) 0 (Nat.zero_le _) (le_of [] (by simp (maxSteps := 8000000) (implicitDefEqProofs := false) (disch := omega) only [↓reduceIte, go_sem, if_pos, if_neg]) (by simp (maxSteps := 8000000) (implicitDefEqProofs := false) (disch := omega) only [↓reduceIte, go_sem, if_pos, if_neg]) (by decide) (by simp)) ?_
  intro i hi
  simp (maxSteps := 8000000) (implicitDefEqProofs := false) (disch := omega) only [↓reduceIte, go_sem, if_pos, if_neg]
  refine condKT_dec (fun hlt => ?_) (fun hge => ?_)
  · obtain ⟨r, hx⟩ := get_ex (l := rows) (i := i) (by omega)
    have hrr := hr r (List.mem_of_getElem? hx)
    have hzr := szRs_mem hx
    have hg := fzRs_get hx
    obtain ⟨a0, a1, rfl⟩ := sh_Peer_Fit hrr
    simp only [szCs, szC] at hzr
    simp only [fzCs, fzC, el_one, el_two] at hg
    simp (maxSteps := 8000000) (implicitDefEqProofs := false) (disch := omega) only [↓reduceIte, go_sem, if_pos, if_neg, eq_true hlt, hg, eq_Peer_at]
    refine loopKT_next (i + 1) (by omega) (by omega) ?_
    exact (le_of [] (by simp (maxSteps := 8000000) (implicitDefEqProofs := false) (disch := omega) only [↓reduceIte, go_sem, if_pos, if_neg]) (by simp (maxSteps := 8000000) (implicitDefEqProofs := false) (disch := omega) only [↓reduceIte, go_sem, if_pos, if_neg]) (by decide) (by simp))
  · simp (maxSteps := 8000000) (implicitDefEqProofs := false) (disch := omega) only [↓reduceIte, go_sem, if_pos, if_neg, eq_false hge]
    refine joinK_here ?_
    simp (maxSteps := 8000000) (implicitDefEqProofs := false) (disch := omega) only [↓reduceIte, go_sem, if_pos, if_neg]
    repeat' first
      | (refine gdKT_dec (fun hg => ?_) (fun hg => ?_) <;> (try (first | simp (maxSteps := 8000000) (implicitDefEqProofs := false) (disch := omega) only [↓reduceIte, go_sem, if_pos, if_neg, eq_false hg] | simp (maxSteps := 8000000) (implicitDefEqProofs := false) (disch := omega) only [↓reduceIte, go_sem, if_pos, if_neg, eq_true hg])))
      | (refine condKT_dec (fun hg => ?_) (fun hg => ?_) <;> (try (first | simp (maxSteps := 8000000) (implicitDefEqProofs := false) (disch := omega) only [↓reduceIte, go_sem, if_pos, if_neg, eq_false hg] | simp (maxSteps := 8000000) (implicitDefEqProofs := false) (disch := omega) only [↓reduceIte, go_sem, if_pos, if_neg, eq_true hg])))
      | (refine gdKT_split (fun hg => ?_) (fun hg => ?_) <;> (try simp (maxSteps := 8000000) (implicitDefEqProofs := false) (disch := omega) only [↓reduceIte, go_sem, if_pos, if_neg, hg]))
      | (refine condKT_split (fun hg => ?_) (fun hg => ?_) <;> (try simp (maxSteps := 8000000) (implicitDefEqProofs := false) (disch := omega) only [↓reduceIte, go_sem, if_pos, if_neg, hg]))
      | (refine endT_p (.inr rfl) (by simp (maxSteps := 8000000) (implicitDefEqProofs := false) (disch := omega) only [↓reduceIte, go_sem, if_pos, if_neg]; rfl) ?_; (first | exact vb_true (by omega) | exact vb_false (by omega) | exact vb_dec (by omega) | exact vi_eq (by omega) | rfl | (refine vi_eq ?_; simp_all; done) | (refine vi_eq ?_; simp_all; omega) | (refine vi_eq ?_; simp_all; intros; omega)))
      | exact endT_v (.inr rfl) (by simp (maxSteps := 8000000) (implicitDefEqProofs := false) (disch := omega) only [↓reduceIte, go_sem, if_pos, if_neg]; try rfl) (fun _ => rfl)
-- laws.szPeerS
def c60 : AF := ⟨12,
  (.seq (.reg [⟨(some 4), none, .mv (.v (.int .i64 0))⟩])
  (.seq (.reg [⟨(some 5), none, .mv (.t 1)⟩,
   ⟨(some 6), none, .mv (.t 0)⟩,
   ⟨(some 7), none, .len (.t 6)⟩,
   ⟨(some 8), none, .bin .sub (.t 5) (.t 7)⟩,
   ⟨(some 1), none, .mv (.t 8)⟩])
  (.seq (.seq (.reg [⟨(some 9), none, .mv (.t 1)⟩,
   ⟨(some 10), none, .bin .lss (.t 9) (.v (.int .i64 0))⟩])
  (.cond (.t 10) (.seq (.reg [⟨(some 4), none, .mv (.v (.int .i64 (-1)))⟩])
  .ret)
  .skip))
  (.seq (.reg [⟨(some 11), none, .mv (.t 1)⟩,
   ⟨(some 4), none, .mv (.t 11)⟩])
  .ret)))),
  [.t 4]⟩
theorem k60 : cFn Try.prog Try.f60 = some c60 := by kernel_rfl
theorem szPeerS_ok : OkT Try.prog 60 (pureSp (szC_S sh_PeerS)) := by
  refine okT_szC (OkΓT.nil _) Try.func60 (by kernel_rfl) k60 ?_
  intro c k hc h1 h2 hz
  simp only [sh_PeerS, HasC] at hc
  obtain ⟨rows, rfl, hr⟩ := hc
  generalize hN : szC _ = N at *
  simp only [szC] at hN
  simp only [lnC, Bool.and_eq_true, decide_eq_true_eq] at hz
  obtain ⟨hz, hzr⟩ := hz
  simp only [fzC]
  have hz0 : szRs rows = 0 := szRs_zero fun r hx => by
    have hrr := hr r hx
    obtain ⟨a0, a1, rfl⟩ := sh_Peer_Has hrr
    rfl
  by_cases q : (rows.length : Int) ≤ k
  · rw [if_pos (by omega), show (N : Int) = rows.length by omega]
    (dsimp only [c60]; simp (maxSteps := 8000000) (implicitDefEqProofs := false) (disch := omega) only [↓reduceIte, go_sem, if_pos, if_neg])
    repeat' first
      | (refine gdKT_dec (fun hg => ?_) (fun hg => ?_) <;> (try (first | simp (maxSteps := 8000000) (implicitDefEqProofs := false) (disch := omega) only [↓reduceIte, go_sem, if_pos, if_neg, eq_false hg] | simp (maxSteps := 8000000) (implicitDefEqProofs := false) (disch := omega) only [↓reduceIte, go_sem, if_pos, if_neg, eq_true hg])))
      | (refine condKT_dec (fun hg => ?_) (fun hg => ?_) <;> (try (first | simp (maxSteps := 8000000) (implicitDefEqProofs := false) (disch := omega) only [↓reduceIte, go_sem, if_pos, if_neg, eq_false hg] | simp (maxSteps := 8000000) (implicitDefEqProofs := false) (disch := omega) only [↓reduceIte, go_sem, if_pos, if_neg, eq_true hg])))
      | (refine gdKT_split (fun hg => ?_) (fun hg => ?_) <;> (try simp (maxSteps := 8000000) (implicitDefEqProofs := false) (disch := omega) only [↓reduceIte, go_sem, if_pos, if_neg, hg]))
      | (refine condKT_split (fun hg => ?_) (fun hg => ?_) <;> (try simp (maxSteps := 8000000) (implicitDefEqProofs := false) (disch := omega) only [↓reduceIte, go_sem, if_pos, if_neg, hg]))
      | (refine endT_p (.inr rfl) (by simp (maxSteps := 8000000) (implicitDefEqProofs := false) (disch := omega) only [↓reduceIte, go_sem, if_pos, if_neg]; rfl) ?_; (first | exact vb_true (by omega) | exact vb_false (by omega) | exact vb_dec (by omega) | exact vi_eq (by omega) | rfl | (refine vi_eq ?_; simp_all; done) | (refine vi_eq ?_; simp_all; omega) | (refine vi_eq ?_; simp_all; intros; omega)))
      | exact endT_v (.inr rfl) (by simp (maxSteps := 8000000) (implicitDefEqProofs := false) (disch := omega) only [↓reduceIte, go_sem, if_pos, if_neg]; try rfl) (fun _ => rfl)
  · rw [if_neg (by omega)]
    (dsimp only [c60]; simp (maxSteps := 8000000) (implicitDefEqProofs := false) (disch := omega) only [↓reduceIte, go_sem, if_pos, if_neg])
    repeat' first
      | (refine gdKT_dec (fun hg => ?_) (fun hg => ?_) <;> (try (first | simp (maxSteps := 8000000) (implicitDefEqProofs := false) (disch := omega) only [↓reduceIte, go_sem, if_pos, if_neg, eq_false hg] | simp (maxSteps := 8000000) (implicitDefEqProofs := false) (disch := omega) only [↓reduceIte, go_sem, if_pos, if_neg, eq_true hg])))
      | (refine condKT_dec (fun hg => ?_) (fun hg => ?_) <;> (try (first | simp (maxSteps := 8000000) (implicitDefEqProofs := false) (disch := omega) only [↓reduceIte, go_sem, if_pos, if_neg, eq_false hg] | simp (maxSteps := 8000000) (implicitDefEqProofs := false) (disch := omega) only [↓reduceIte, go_sem, if_pos, if_neg, eq_true hg])))
      | (refine gdKT_split (fun hg => ?_) (fun hg => ?_) <;> (try simp (maxSteps := 8000000) (implicitDefEqProofs := false) (disch := omega) only [↓reduceIte, go_sem, if_pos, if_neg, hg]))
      | (refine condKT_split (fun hg => ?_) (fun hg => ?_) <;> (try simp (maxSteps := 8000000) (implicitDefEqProofs := false) (disch := omega) only [↓reduceIte, go_sem, if_pos, if_neg, hg]))
      | (refine endT_p (.inr rfl) (by simp (maxSteps := 8000000) (implicitDefEqProofs := false) (disch := omega) only [↓reduceIte, go_sem, if_pos, if_neg]; rfl) ?_; (first | exact vb_true (by omega) | exact vb_false (by omega) | exact vb_dec (by omega) | exact vi_eq (by omega) | rfl | (refine vi_eq ?_; simp_all; done) | (refine vi_eq ?_; simp_all; omega) | (refine vi_eq ?_; simp_all; intros; omega)))
      | exact endT_v (.inr rfl) (by simp (maxSteps := 8000000) (implicitDefEqProofs := false) (disch := omega) only [↓reduceIte, go_sem, if_pos, if_neg]; try rfl) (fun _ => rfl)
/-! Window -/
def sh_Window : List Shp := [.i .i64, .i .i64]
theorem sh_Window_Has {cs : List Cell} (h : HasR sh_Window cs) : ∃ (a0 : Int) (a1 : Int), cs = [.v (.int .i64 a0), .v (.int .i64 a1)] := by
  obtain ⟨_, _, rfl, ⟨a0, rfl, _⟩, _, _, rfl, ⟨a1, rfl, _⟩, h⟩ := h
  simp only [HasR] at h; subst h
  exact ⟨a0, a1, rfl⟩
theorem sh_Window_mkHas  (a0 : Int) (a1 : Int) : HasR sh_Window [.v (.int .i64 a0), .v (.int .i64 a1)] := by
  exact ⟨_, _, rfl, ⟨_, rfl, fun h => by cases h⟩, _, _, rfl, ⟨_, rfl, fun h => by cases h⟩, rfl⟩
theorem sh_Window_Fit {cs : List Cell} (h : FitR sh_Window cs) : ∃ (a0 : Int) (a1 : Int), cs = [.v (.int .i64 a0), .v (.int .i64 a1)] := by
  obtain ⟨_, _, rfl, ⟨a0, rfl⟩, _, _, rfl, ⟨a1, rfl⟩, h⟩ := h
  simp only [FitR] at h; subst h
  exact ⟨a0, a1, rfl⟩
theorem sh_Window_mkFit  (a0 : Int) (a1 : Int) : FitR sh_Window [.v (.int .i64 a0), .v (.int .i64 a1)] := by
  exact ⟨_, _, rfl, ⟨_, rfl⟩, _, _, rfl, ⟨_, rfl⟩, rfl⟩
theorem flat_sz_Window {cs : List Cell} (h : HasR sh_Window cs) : szCs cs = 0 := by
  obtain ⟨a0, a1, rfl⟩ := sh_Window_Has h
  rfl
theorem to_Window_at  (a0 : Int) (a1 : Int) : toR_S sh_Window [.agg [.p (.int .i64 a0), .p (.int .i64 a1)]] = some (.agg [.p (.int .i64 a0), .p (.int .i64 a1)], []) := by
  have := toR_at (sh_Window_mkHas  a0 a1) (by simp only [szCs, szC]; omega)
  simpa only [fzCs, fzC, tvCs, tvC_v, tvC_nl, tvC_sl, bkCs, bkC, nbC, nbCs, Nat.add_zero, List.append_nil, List.nil_append, Nat.zero_add] using this
-- laws.toWindow
def c180 : AF := ⟨11,
  (.seq (.reg [⟨(some 1), none, .box 124 (.t 0)⟩,
   ⟨(some 2), none, .alloc 60 [(.int .i64 0), (.int .i64 0)]⟩])
  (.seq (.reg [⟨(some 3), none, .alloc 60 [(.int .i64 0), (.int .i64 0)]⟩])
  (.seq (.reg [⟨(some 4), none, .fa (.t 1) 0⟩,
   ⟨(some 5), none, .ld (.t 4)⟩,
   ⟨(some 6), none, .fa (.t 3) 0⟩,
   ⟨none, none, .st 1 (.t 6) (.t 5)⟩])
  (.seq (.reg [⟨(some 7), none, .fa (.t 1) 1⟩,
   ⟨(some 8), none, .ld (.t 7)⟩,
   ⟨(some 9), none, .fa (.t 3) 1⟩,
   ⟨none, none, .st 1 (.t 9) (.t 8)⟩])
  (.seq (.reg [⟨(some 10), none, .ldn 2 (.t 3)⟩,
   ⟨none, none, .st 2 (.t 2) (.t 10)⟩])
  .ret))))),
  [.cell 2 (some 2)]⟩
theorem k180 : cFn Try.prog Try.f180 = some c180 := by kernel_rfl
theorem toWindow_ok : OkT Try.prog 180 (pureSp (toR_S sh_Window)) := by
  refine okT_toR (OkΓT.nil _) Try.func180 (by kernel_rfl) k180 ?_
  intro c hc hz
  obtain ⟨a0, a1, rfl⟩ := sh_Window_Has hc
  simp only [szCs, szC] at hz
  simp only [fzCs, fzC]
  (dsimp only [c180]; simp (maxSteps := 8000000) (implicitDefEqProofs := false) (disch := omega) only [↓reduceIte, go_sem, if_pos, if_neg])
  refine endT_cells' 3 (.inr rfl) (by (simp (maxSteps := 8000000) (implicitDefEqProofs := false) (disch := omega) only [↓reduceIte, go_sem, if_pos, if_neg, fzCs, fzC, tvCs, tvC_v, tvC_nl, tvC_sl, bkCs, bkC, nbC, nbCs, Nat.add_zero, List.append_nil, List.nil_append]) <;> rfl) ?_ (by simp only [List.length_cons]; omega)
  simp only [List.drop_succ_cons, List.drop_zero, bkCs, bkC, nbC, Nat.add_zero, List.append_nil, List.nil_append, List.cons_append, Nat.add_assoc]
theorem eq_Window_at  (a0 : Int) (a1 : Int) : eqR_S sh_Window [.agg [.p (.int .i64 a0), .p (.int .i64 a1)], .agg [.p (.int .i64 a0), .p (.int .i64 a1)]] = some (.p (.bool true), []) := by
  exact eqR_at (sh_Window_mkFit  a0 a1) (by simp only [szCs, szC]; omega)
-- laws.eqWindow
def c182 : AF := ⟨15,
  (.seq (.reg [⟨(some 2), none, .box 60 (.t 0)⟩,
   ⟨(some 3), none, .box 60 (.t 1)⟩,
   ⟨(some 4), none, .mv (.v (.bool false))⟩])
  (.seq (.seq (.reg [⟨(some 5), none, .fa (.t 2) 0⟩,
   ⟨(some 6), none, .ld (.t 5)⟩,
   ⟨(some 7), none, .fa (.t 3) 0⟩,
   ⟨(some 8), none, .ld (.t 7)⟩,
   ⟨(some 9), none, .bin .neq (.t 6) (.t 8)⟩])
  (.cond (.t 9) (.seq (.reg [⟨(some 4), none, .mv (.v (.bool false))⟩])
  .ret)
  .skip))
  (.seq (.seq (.reg [⟨(some 10), none, .fa (.t 2) 1⟩,
   ⟨(some 11), none, .ld (.t 10)⟩,
   ⟨(some 12), none, .fa (.t 3) 1⟩,
   ⟨(some 13), none, .ld (.t 12)⟩,
   ⟨(some 14), none, .bin .neq (.t 11) (.t 13)⟩])
  (.cond (.t 14) (.seq (.reg [⟨(some 4), none, .mv (.v (.bool false))⟩])
  .ret)
  .skip))
  (.seq (.reg [⟨(some 4), none, .mv (.v (.bool true))⟩])
  .ret)))),
  [.t 4]⟩
theorem k182 : cFn Try.prog Try.f182 = some c182 := by kernel_rfl
theorem eqWindow_ok : OkT Try.prog 182 (pureSp (eqR_S sh_Window)) := by
  refine okT_eqR (OkΓT.nil _) Try.func182 (by kernel_rfl) k182 ?_
  intro c hc hz
  obtain ⟨a0, a1, rfl⟩ := sh_Window_Fit hc
  simp only [szCs, szC] at hz
  simp only [fzCs, fzC]
  (dsimp only [c182]; simp (maxSteps := 8000000) (implicitDefEqProofs := false) (disch := omega) only [↓reduceIte, go_sem, if_pos, if_neg])
  repeat' first
    | (refine gdKT_dec (fun hg => ?_) (fun hg => ?_) <;> (try (first | simp (maxSteps := 8000000) (implicitDefEqProofs := false) (disch := omega) only [↓reduceIte, go_sem, if_pos, if_neg, eq_false hg] | simp (maxSteps := 8000000) (implicitDefEqProofs := false) (disch := omega) only [↓reduceIte, go_sem, if_pos, if_neg, eq_true hg])))
    | (refine condKT_dec (fun hg => ?_) (fun hg => ?_) <;> (try (first | simp (maxSteps := 8000000) (implicitDefEqProofs := false) (disch := omega) only [↓reduceIte, go_sem, if_pos, if_neg, eq_false hg] | simp (maxSteps := 8000000) (implicitDefEqProofs := false) (disch := omega) only [↓reduceIte, go_sem, if_pos, if_neg, eq_true hg])))
    | (refine gdKT_split (fun hg => ?_) (fun hg => ?_) <;> (try simp (maxSteps := 8000000) (implicitDefEqProofs := false) (disch := omega) only [↓reduceIte, go_sem, if_pos, if_neg, hg]))
    | (refine condKT_split (fun hg => ?_) (fun hg => ?_) <;> (try simp (maxSteps := 8000000) (implicitDefEqProofs := false) (disch := omega) only [↓reduceIte, go_sem, if_pos, if_neg, hg]))
    | (refine endT_p (.inr rfl) (by simp (maxSteps := 8000000) (implicitDefEqProofs := false) (disch := omega) only [↓reduceIte, go_sem, if_pos, if_neg]; rfl) ?_; (first | exact vb_true (by omega) | exact vb_false (by omega) | exact vb_dec (by omega) | exact vi_eq (by omega) | rfl | (refine vi_eq ?_; simp_all; done) | (refine vi_eq ?_; simp_all; omega) | (refine vi_eq ?_; simp_all; intros; omega)))
    | exact endT_v (.inr rfl) (by simp (maxSteps := 8000000) (implicitDefEqProofs := false) (disch := omega) only [↓reduceIte, go_sem, if_pos, if_neg]; try rfl) (fun _ => rfl)
def sh_SelS : Shp := .sl 184 sh_Sel
-- laws.toSelS
def c181 : AF := ⟨23,
  (.seq (.reg [⟨(some 2), none, .mv (.v (.slice none 0 0))⟩])
  (.seq (.reg [⟨(some 5), none, .mv (.t 0)⟩,
   ⟨(some 6), none, .len (.t 5)⟩,
   ⟨(some 7), none, .mkSl 184 9 72 [(.int .i64 0), (.int .i64 0), (.int .i64 0), (.int .i64 0), (.int .i64 0), (.int .i64 0), (.int .i64 0), (.int .i64 0), (.int .i64 0)] (.t 6) (.t 6)⟩,
   ⟨(some 3), none, .mv (.t 7)⟩])
  (.seq (.seq (.reg [⟨(some 4), none, .mv (.v (.int .i64 0))⟩])
  (.block 0 (.loop (.seq (.seq (.reg [⟨(some 8), none, .mv (.t 4)⟩,
   ⟨(some 9), none, .mv (.t 0)⟩,
   ⟨(some 10), none, .len (.t 9)⟩,
   ⟨(some 11), none, .bin .lss (.t 8) (.t 10)⟩])
  (.cond (.t 11) .skip
  (.exit 0)))
  (.seq (.block 1 (.reg [⟨(some 14), none, .mv (.t 3)⟩,
   ⟨(some 15), none, .mv (.t 4)⟩,
   ⟨(some 16), none, .mv (.t 0)⟩,
   ⟨(some 17), none, .mv (.t 4)⟩,
   ⟨(some 18), none, .ia 9 (.t 16) (.t 17)⟩,
   ⟨(some 19), none, .ldn 9 (.t 18)⟩,
   ⟨(some 20), none, .call 206 [(.t 19)]⟩,
   ⟨(some 21), none, .ia 9 (.t 14) (.t 15)⟩,
   ⟨none, none, .st 9 (.t 21) (.t 20)⟩]))
  (.reg [⟨(some 12), none, .mv (.t 4)⟩,
   ⟨(some 13), none, .bin .add (.t 12) (.v (.int .i64 1))⟩,
   ⟨(some 4), none, .mv (.t 13)⟩]))))))
  (.seq (.reg [⟨(some 22), none, .mv (.t 3)⟩,
   ⟨(some 2), none, .mv (.t 22)⟩])
  .ret)))),
  [.t 2]⟩
theorem k181 : cFn Try.prog Try.f181 = some c181 := by kernel_rfl
theorem toSelS_ok : OkT Try.prog 181 (pureSp (toC_S sh_SelS)) := by
  refine okT_toC (OkΓT.cons toSel_ok (OkΓT.nil _)) Try.func181 (by kernel_rfl) k181 ?_
  intro c hc hz
  simp only [sh_SelS, HasC] at hc
  obtain ⟨rows, rfl, hr⟩ := hc
  simp only [szC] at hz
  have hlen : ∀ r ∈ rows, r.length = 9 := fun r hx => (hr r hx).len
  generalize hzz : (el [.p (.int .i64 0), .p (.int .i64 0), .p (.int .i64 0), .p (.int .i64 0), .p (.int .i64 0), .p (.int .i64 0), .p (.int .i64 0), .p (.int .i64 0), .p (.int .i64 0)] : TV) = z0
  have hz1 : cellsT z0 = [.p (.int .i64 0), .p (.int .i64 0), .p (.int .i64 0), .p (.int .i64 0), .p (.int .i64 0), .p (.int .i64 0), .p (.int .i64 0), .p (.int .i64 0), .p (.int .i64 0)] := by rw [← hzz]; rfl
  simp only [fzC, tvC_v, tvC_nl, tvC_sl, bkC]
  (dsimp only [c181]; simp (maxSteps := 8000000) (implicitDefEqProofs := false) (disch := omega) only [↓reduceIte, go_sem, if_pos, if_neg, hzz, mixR_zero 1 rows z0])
  refine awpT_loop (α := Nat) (fun i => ⟨slots [(0, .s (fzRs rows)), (3, .os 0 0 rows.length), (4, .p (.int .i64 i))], .cells 184 9 (mixR 1 rows z0 i) :: bkRs 1 (rows.take i)⟩)
    (fun i => i ≤ rows.length) (fun i => rows.length - i) 0 (Nat.zero_le _) (by simp only [List.take_zero, bkRs]; exact le_keep (Nat.zero_le _) (by simp (maxSteps := 8000000) (implicitDefEqProofs := false) (disch := omega) only [↓reduceIte, go_sem, if_pos, if_neg, slotsIn])) ?_
  intro i hi
  simp (maxSteps := 8000000) (implicitDefEqProofs := false) (disch := omega) only [↓reduceIte, go_sem, if_pos, if_neg, mixR_len 1 rows z0 hi]
  refine condKT_dec (fun hlt => ?_) (fun hge => ?_)
  · obtain ⟨r, hx⟩ := get_ex (l := rows) (i := i) (by omega)
    have hrr := hr r (List.mem_of_getElem? hx)
    have hzr := szRs_mem hx
    have hg := fzRs_get hx; have hm := mixR_get 1 (rows := rows) z0 (i := i) (by omega)
    have hs := mixR_set 1 z0 hx; have hb := bkRs_snoc 1 hx; have hn := bkRs_len 1 (rows.take i)
    obtain ⟨a0, a1, a2, a3, a4, a5, a6, a7, a8, rfl⟩ := sh_Sel_Has hrr
    simp only [szCs, szC] at hzr
    simp only [fzCs, fzC, tvCs, tvC_v, tvC_nl, tvC_sl, bkCs, bkC, nbC, nbCs, Nat.add_zero, List.append_nil, List.nil_append, el_one, el_two, Nat.add_comm 1 (nbRs _)] at hg hs hb
    simp (maxSteps := 8000000) (implicitDefEqProofs := false) (disch := omega) only [↓reduceIte, go_sem, if_pos, if_neg, eq_true hlt, hg, hm, hs, hn, hz1, el_two, to_Sel_at]
    refine loopKT_next (i + 1) (by omega) (by omega) ?_
    rw [hb]; refine (le_keep (Nat.zero_le _) ?_) <;> simp (maxSteps := 8000000) (implicitDefEqProofs := false) (disch := omega) only [↓reduceIte, go_sem, if_pos, if_neg, slotsIn]
  · have hb : rows.take i = rows := List.take_of_length_le (by omega)
    have hm := mixR_full 1 (rows := rows) z0 (i := i) (by omega)
    simp (maxSteps := 8000000) (implicitDefEqProofs := false) (disch := omega) only [↓reduceIte, go_sem, if_pos, if_neg, eq_false hge, hb, hm]
    refine joinK_here ?_
    simp (maxSteps := 8000000) (implicitDefEqProofs := false) (disch := omega) only [↓reduceIte, go_sem, if_pos, if_neg]
    exact endT_same (.inr rfl) (by (simp (maxSteps := 8000000) (implicitDefEqProofs := false) (disch := omega) only [↓reduceIte, go_sem, if_pos, if_neg]) <;> rfl) rfl
-- laws.eqSelS
def c183 : AF := ⟨27,
  (.seq (.reg [⟨(some 4), none, .mv (.v (.bool false))⟩])
  (.seq (.seq (.reg [⟨(some 6), none, .mv (.t 0)⟩,
   ⟨(some 7), none, .len (.t 6)⟩,
   ⟨(some 8), none, .mv (.t 1)⟩,
   ⟨(some 9), none, .len (.t 8)⟩,
   ⟨(some 10), none, .bin .neq (.t 7) (.t 9)⟩])
  (.cond (.t 10) (.seq (.reg [⟨(some 4), none, .mv (.v (.bool false))⟩])
  .ret)
  .skip))
  (.seq (.seq (.reg [⟨(some 5), none, .mv (.v (.int .i64 0))⟩])
  (.block 0 (.loop (.seq (.seq (.reg [⟨(some 11), none, .mv (.t 5)⟩,
   ⟨(some 12), none, .mv (.t 0)⟩,
   ⟨(some 13), none, .len (.t 12)⟩,
   ⟨(some 14), none, .bin .lss (.t 11) (.t 13)⟩])
  (.cond (.t 14) .skip
  (.exit 0)))
  (.seq (.block 1 (.seq (.drw [⟨(some 17), none, .mv (.t 0)⟩,
   ⟨(some 18), none, .mv (.t 5)⟩,
   ⟨(some 19), none, .ia 9 (.t 17) (.t 18)⟩,
   ⟨(some 20), none, .ldn 9 (.t 19)⟩,
   ⟨(some 21), none, .mv (.t 1)⟩,
   ⟨(some 22), none, .mv (.t 5)⟩,
   ⟨(some 23), none, .ia 9 (.t 21) (.t 22)⟩,
   ⟨(some 24), none, .ldn 9 (.t 23)⟩] [⟨(some 25), none, .call 207 [(.t 20), (.t 24)]⟩,
   ⟨(some 26), none, .un .not (.t 25)⟩])
  (.cond (.t 26) (.seq (.reg [⟨(some 4), none, .mv (.v (.bool false))⟩])
  .ret)
  .skip)))
  (.reg [⟨(some 15), none, .mv (.t 5)⟩,
   ⟨(some 16), none, .bin .add (.t 15) (.v (.int .i64 1))⟩,
   ⟨(some 5), none, .mv (.t 16)⟩]))))))
  (.seq (.reg [⟨(some 4), none, .mv (.v (.bool true))⟩])
  .ret)))),
  [.t 4]⟩
theorem k183 : cFn Try.prog Try.f183 = some c183 := by kernel_rfl
theorem eqSelS_ok : OkT Try.prog 183 (pureSp (eqC_S sh_SelS)) := by
  refine okT_eqC (OkΓT.cons eqSel_ok (OkΓT.nil _)) Try.func183 (by kernel_rfl) k183 ?_
  intro c hc hz
  obtain ⟨rows, hf, hr, hsz, _⟩ := FitC.rows hc
  rw [hf]
  (dsimp only [c183]; simp (maxSteps := 8000000) (implicitDefEqProofs := false) (disch := omega) only [↓reduceIte, go_sem, if_pos, if_neg])
  refine awpT_loop (α := Nat) (fun i => ⟨slots [(0, .s (fzRs rows)), (1, .s (fzRs rows)), (5, .p (.int .i64 i))], []⟩) (fun i => i ≤ rows.length) (fun i => rows.length - i) 0 (Nat.zero_le _) (le_of [] (by simp (maxSteps := 8000000) (implicitDefEqProofs := false) (disch := omega) only [↓reduceIte, go_sem, if_pos, if_neg]) (by simp (maxSteps := 8000000) (implicitDefEqProofs := false) (disch := omega) only [↓reduceIte, go_sem, if_pos, if_neg]) (by decide) (by simp)) ?_
  intro i hi
  simp (maxSteps := 8000000) (implicitDefEqProofs := false) (disch := omega) only [↓reduceIte, go_sem, if_pos, if_neg]
  refine condKT_dec (fun hlt => ?_) (fun hge => ?_)
  · obtain ⟨r, hx⟩ := get_ex (l := rows) (i := i) (by omega)
    have hrr := hr r (List.mem_of_getElem? hx)
    have hzr := szRs_mem hx
    have hg := fzRs_get hx
    obtain ⟨a0, a1, a2, a3, a4, a5, a6, a7, a8, rfl⟩ := sh_Sel_Fit hrr
    simp only [szCs, szC] at hzr
    simp only [fzCs, fzC, el_one, el_two] at hg
    simp (maxSteps := 8000000) (implicitDefEqProofs := false) (disch := omega) only [↓reduceIte, go_sem, if_pos, if_neg, eq_true hlt, hg, eq_Sel_at]
    refine loopKT_next (i + 1) (by omega) (by omega) ?_
    exact (le_of [] (by simp (maxSteps := 8000000) (implicitDefEqProofs := false) (disch := omega) only [↓reduceIte, go_sem, if_pos, if_neg]) (by simp (maxSteps := 8000000) (implicitDefEqProofs := false) (disch := omega) only [↓reduceIte, go_sem, if_pos, if_neg]) (by decide) (by simp))
  · simp (maxSteps := 8000000) (implicitDefEqProofs := false) (disch := omega) only [↓reduceIte, go_sem, if_pos, if_neg, eq_false hge]
    refine joinK_here ?_
    simp (maxSteps := 8000000) (implicitDefEqProofs := false) (disch := omega) only [↓reduceIte, go_sem, if_pos, if_neg]
    repeat' first
      | (refine gdKT_dec (fun hg => ?_) (fun hg => ?_) <;> (try (first | simp (maxSteps := 8000000) (implicitDefEqProofs := false) (disch := omega) only [↓reduceIte, go_sem, if_pos, if_neg, eq_false hg] | simp (maxSteps := 8000000) (implicitDefEqProofs := false) (disch := omega) only [↓reduceIte, go_sem, if_pos, if_neg, eq_true hg])))
      | (refine condKT_dec (fun hg => ?_) (fun hg => ?_) <;> (try (first | simp (maxSteps := 8000000) (implicitDefEqProofs := false) (disch := omega) only [↓reduceIte, go_sem, if_pos, if_neg, eq_false hg] | simp (maxSteps := 8000000) (implicitDefEqProofs := false) (disch := omega) only [↓reduceIte, go_sem, if_pos, if_neg, eq_true hg])))
      | (refine gdKT_split (fun hg => ?_) (fun hg => ?_) <;> (try simp (maxSteps := 8000000) (implicitDefEqProofs := false) (disch := omega) only [↓reduceIte, go_sem, if_pos, if_neg, hg]))
      | (refine condKT_split (fun hg => ?_) (fun hg => ?_) <;> (try simp (maxSteps := 8000000) (implicitDefEqProofs := false) (disch := omega) only [↓reduceIte, go_sem, if_pos, if_neg, hg]))
      | (refine endT_p (.inr rfl) (by simp (maxSteps := 8000000) (implicitDefEqProofs := false) (disch := omega) only [↓reduceIte, go_sem, if_pos, if_neg]; rfl) ?_; (first | exact vb_true (by omega) | exact vb_false (by omega) | exact vb_dec (by omega) | exact vi_eq (by omega) | rfl | (refine vi_eq ?_; simp_all; done) | (refine vi_eq ?_; simp_all; omega) | (refine vi_eq ?_; simp_all; intros; omega)))
      | exact endT_v (.inr rfl) (by simp (maxSteps := 8000000) (implicitDefEqProofs := false) (disch := omega) only [↓reduceIte, go_sem, if_pos, if_neg]; try rfl) (fun _ => rfl)
-- laws.szSelS
def c179 : AF := ⟨12,
  (.seq (.reg [⟨(some 4), none, .mv (.v (.int .i64 0))⟩])
  (.seq (.reg [⟨(some 5), none, .mv (.t 1)⟩,
   ⟨(some 6), none, .mv (.t 0)⟩,
   ⟨(some 7), none, .len (.t 6)⟩,
   ⟨(some 8), none, .bin .sub (.t 5) (.t 7)⟩,
   ⟨(some 1), none, .mv (.t 8)⟩])
  (.seq (.seq (.reg [⟨(some 9), none, .mv (.t 1)⟩,
   ⟨(some 10), none, .bin .lss (.t 9) (.v (.int .i64 0))⟩])
  (.cond (.t 10) (.seq (.reg [⟨(some 4), none, .mv (.v (.int .i64 (-1)))⟩])
  .ret)
  .skip))
  (.seq (.reg [⟨(some 11), none, .mv (.t 1)⟩,
   ⟨(some 4), none, .mv (.t 11)⟩])
  .ret)))),
  [.t 4]⟩
theorem k179 : cFn Try.prog Try.f179 = some c179 := by kernel_rfl
theorem szSelS_ok : OkT Try.prog 179 (pureSp (szC_S sh_SelS)) := by
  refine okT_szC (OkΓT.nil _) Try.func179 (by kernel_rfl) k179 ?_
  intro c k hc h1 h2 hz
  simp only [sh_SelS, HasC] at hc
  obtain ⟨rows, rfl, hr⟩ := hc
  generalize hN : szC _ = N at *
  simp only [szC] at hN
  simp only [lnC, Bool.and_eq_true, decide_eq_true_eq] at hz
  obtain ⟨hz, hzr⟩ := hz
  simp only [fzC]
  have hz0 : szRs rows = 0 := szRs_zero fun r hx => by
    have hrr := hr r hx
    obtain ⟨a0, a1, a2, a3, a4, a5, a6, a7, a8, rfl⟩ := sh_Sel_Has hrr
    rfl
  by_cases q : (rows.length : Int) ≤ k
  · rw [if_pos (by omega), show (N : Int) = rows.length by omega]
    (dsimp only [c179]; simp (maxSteps := 8000000) (implicitDefEqProofs := false) (disch := omega) only [↓reduceIte, go_sem, if_pos, if_neg])
    repeat' first
      | (refine gdKT_dec (fun hg => ?_) (fun hg => ?_) <;> (try (first | simp (maxSteps := 8000000) (implicitDefEqProofs := false) (disch := omega) only [↓reduceIte, go_sem, if_pos, if_neg, eq_false hg] | simp (maxSteps := 8000000) (implicitDefEqProofs := false) (disch := omega) only [↓reduceIte, go_sem, if_pos, if_neg, eq_true hg])))
      | (refine condKT_dec (fun hg => ?_) (fun hg => ?_) <;> (try (first | simp (maxSteps := 8000000) (implicitDefEqProofs := false) (disch := omega) only [↓reduceIte, go_sem, if_pos, if_neg, eq_false hg] | simp (maxSteps := 8000000) (implicitDefEqProofs := false) (disch := omega) only [↓reduceIte, go_sem, if_pos, if_neg, eq_true hg])))
      | (refine gdKT_split (fun hg => ?_) (fun hg => ?_) <;> (try simp (maxSteps := 8000000) (implicitDefEqProofs := false) (disch := omega) only [↓reduceIte, go_sem, if_pos, if_neg, hg]))
      | (refine condKT_split (fun hg => ?_) (fun hg => ?_) <;> (try simp (maxSteps := 8000000) (implicitDefEqProofs := false) (disch := omega) only [↓reduceIte, go_sem, if_pos, if_neg, hg]))
      | (refine endT_p (.inr rfl) (by simp (maxSteps := 8000000) (implicitDefEqProofs := false) (disch := omega) only [↓reduceIte, go_sem, if_pos, if_neg]; rfl) ?_; (first | exact vb_true (by omega) | exact vb_false (by omega) | exact vb_dec (by omega) | exact vi_eq (by omega) | rfl | (refine vi_eq ?_; simp_all; done) | (refine vi_eq ?_; simp_all; omega) | (refine vi_eq ?_; simp_all; intros; omega)))
      | exact endT_v (.inr rfl) (by simp (maxSteps := 8000000) (implicitDefEqProofs := false) (disch := omega) only [↓reduceIte, go_sem, if_pos, if_neg]; try rfl) (fun _ => rfl)
  · rw [if_neg (by omega)]
    (dsimp only [c179]; simp (maxSteps := 8000000) (implicitDefEqProofs := false) (disch := omega) only [↓reduceIte, go_sem, if_pos, if_neg])
    repeat' first
      | (refine gdKT_dec (fun hg => ?_) (fun hg => ?_) <;> (try (first | simp (maxSteps := 8000000) (implicitDefEqProofs := false) (disch := omega) only [↓reduceIte, go_sem, if_pos, if_neg, eq_false hg] | simp (maxSteps := 8000000) (implicitDefEqProofs := false) (disch := omega) only [↓reduceIte, go_sem, if_pos, if_neg, eq_true hg])))
      | (refine condKT_dec (fun hg => ?_) (fun hg => ?_) <;> (try (first | simp (maxSteps := 8000000) (implicitDefEqProofs := false) (disch := omega) only [↓reduceIte, go_sem, if_pos, if_neg, eq_false hg] | simp (maxSteps := 8000000) (implicitDefEqProofs := false) (disch := omega) only [↓reduceIte, go_sem, if_pos, if_neg, eq_true hg])))
      | (refine gdKT_split (fun hg => ?_) (fun hg => ?_) <;> (try simp (maxSteps := 8000000) (implicitDefEqProofs := false) (disch := omega) only [↓reduceIte, go_sem, if_pos, if_neg, hg]))
      | (refine condKT_split (fun hg => ?_) (fun hg => ?_) <;> (try simp (maxSteps := 8000000) (implicitDefEqProofs := false) (disch := omega) only [↓reduceIte, go_sem, if_pos, if_neg, hg]))
      | (refine endT_p (.inr rfl) (by simp (maxSteps := 8000000) (implicitDefEqProofs := false) (disch := omega) only [↓reduceIte, go_sem, if_pos, if_neg]; rfl) ?_; (first | exact vb_true (by omega) | exact vb_false (by omega) | exact vb_dec (by omega) | exact vi_eq (by omega) | rfl | (refine vi_eq ?_; simp_all; done) | (refine vi_eq ?_; simp_all; omega) | (refine vi_eq ?_; simp_all; intros; omega)))
      | exact endT_v (.inr rfl) (by simp (maxSteps := 8000000) (implicitDefEqProofs := false) (disch := omega) only [↓reduceIte, go_sem, if_pos, if_neg]; try rfl) (fun _ => rfl)
/-! Sa -/
def sh_Sa : List Shp := [.i .i64, .i .i64, .i .i64, .b, .i .i64, .i .i64, .i .i64, .i .i64, .i .i64, .i .i64, sh_SelS]
theorem sh_Sa_Has {cs : List Cell} (h : HasR sh_Sa cs) : ∃ (a0 : Int) (a1 : Int) (a2 : Int) (a3 : Bool) (a4 : Int) (a5 : Int) (a6 : Int) (a7 : Int) (a8 : Int) (a9 : Int) (c10 : Cell), cs = [.v (.int .i64 a0), .v (.int .i64 a1), .v (.int .i64 a2), .v (.bool a3), .v (.int .i64 a4), .v (.int .i64 a5), .v (.int .i64 a6), .v (.int .i64 a7), .v (.int .i64 a8), .v (.int .i64 a9), c10] ∧ HasC sh_SelS c10 := by
  obtain ⟨_, _, rfl, ⟨a0, rfl, _⟩, _, _, rfl, ⟨a1, rfl, _⟩, _, _, rfl, ⟨a2, rfl, _⟩, _, _, rfl, ⟨a3, rfl⟩, _, _, rfl, ⟨a4, rfl, _⟩, _, _, rfl, ⟨a5, rfl, _⟩, _, _, rfl, ⟨a6, rfl, _⟩, _, _, rfl, ⟨a7, rfl, _⟩, _, _, rfl, ⟨a8, rfl, _⟩, _, _, rfl, ⟨a9, rfl, _⟩, c10, _, rfl, hc10, h⟩ := h
  simp only [HasR] at h; subst h
  exact ⟨a0, a1, a2, a3, a4, a5, a6, a7, a8, a9, c10, rfl, hc10⟩
theorem sh_Sa_mkHas {c10 : Cell} (hc10 : HasC sh_SelS c10) (a0 : Int) (a1 : Int) (a2 : Int) (a3 : Bool) (a4 : Int) (a5 : Int) (a6 : Int) (a7 : Int) (a8 : Int) (a9 : Int) : HasR sh_Sa [.v (.int .i64 a0), .v (.int .i64 a1), .v (.int .i64 a2), .v (.bool a3), .v (.int .i64 a4), .v (.int .i64 a5), .v (.int .i64 a6), .v (.int .i64 a7), .v (.int .i64 a8), .v (.int .i64 a9), c10] := by
  exact ⟨_, _, rfl, ⟨_, rfl, fun h => by cases h⟩, _, _, rfl, ⟨_, rfl, fun h => by cases h⟩, _, _, rfl, ⟨_, rfl, fun h => by cases h⟩, _, _, rfl, ⟨_, rfl⟩, _, _, rfl, ⟨_, rfl, fun h => by cases h⟩, _, _, rfl, ⟨_, rfl, fun h => by cases h⟩, _, _, rfl, ⟨_, rfl, fun h => by cases h⟩, _, _, rfl, ⟨_, rfl, fun h => by cases h⟩, _, _, rfl, ⟨_, rfl, fun h => by cases h⟩, _, _, rfl, ⟨_, rfl, fun h => by cases h⟩, _, _, rfl, hc10, rfl⟩
theorem sh_Sa_Fit {cs : List Cell} (h : FitR sh_Sa cs) : ∃ (a0 : Int) (a1 : Int) (a2 : Int) (a3 : Bool) (a4 : Int) (a5 : Int) (a6 : Int) (a7 : Int) (a8 : Int) (a9 : Int) (c10 : Cell), cs = [.v (.int .i64 a0), .v (.int .i64 a1), .v (.int .i64 a2), .v (.bool a3), .v (.int .i64 a4), .v (.int .i64 a5), .v (.int .i64 a6), .v (.int .i64 a7), .v (.int .i64 a8), .v (.int .i64 a9), c10] ∧ FitC sh_SelS c10 := by
  obtain ⟨_, _, rfl, ⟨a0, rfl⟩, _, _, rfl, ⟨a1, rfl⟩, _, _, rfl, ⟨a2, rfl⟩, _, _, rfl, ⟨a3, rfl⟩, _, _, rfl, ⟨a4, rfl⟩, _, _, rfl, ⟨a5, rfl⟩, _, _, rfl, ⟨a6, rfl⟩, _, _, rfl, ⟨a7, rfl⟩, _, _, rfl, ⟨a8, rfl⟩, _, _, rfl, ⟨a9, rfl⟩, c10, _, rfl, hc10, h⟩ := h
  simp only [FitR] at h; subst h
  exact ⟨a0, a1, a2, a3, a4, a5, a6, a7, a8, a9, c10, rfl, hc10⟩
theorem sh_Sa_mkFit {c10 : Cell} (hc10 : FitC sh_SelS c10) (a0 : Int) (a1 : Int) (a2 : Int) (a3 : Bool) (a4 : Int) (a5 : Int) (a6 : Int) (a7 : Int) (a8 : Int) (a9 : Int) : FitR sh_Sa [.v (.int .i64 a0), .v (.int .i64 a1), .v (.int .i64 a2), .v (.bool a3), .v (.int .i64 a4), .v (.int .i64 a5), .v (.int .i64 a6), .v (.int .i64 a7), .v (.int .i64 a8), .v (.int .i64 a9), c10] := by
  exact ⟨_, _, rfl, ⟨_, rfl⟩, _, _, rfl, ⟨_, rfl⟩, _, _, rfl, ⟨_, rfl⟩, _, _, rfl, ⟨_, rfl⟩, _, _, rfl, ⟨_, rfl⟩, _, _, rfl, ⟨_, rfl⟩, _, _, rfl, ⟨_, rfl⟩, _, _, rfl, ⟨_, rfl⟩, _, _, rfl, ⟨_, rfl⟩, _, _, rfl, ⟨_, rfl⟩, _, _, rfl, hc10, rfl⟩
theorem to_Sa_at {c10 : Cell} (hc10 : HasC sh_SelS c10) (hz : szC c10 ≤ 1048576) (a0 : Int) (a1 : Int) (a2 : Int) (a3 : Bool) (a4 : Int) (a5 : Int) (a6 : Int) (a7 : Int) (a8 : Int) (a9 : Int) : toR_S sh_Sa [.agg [.p (.int .i64 a0), .p (.int .i64 a1), .p (.int .i64 a2), .p (.bool a3), .p (.int .i64 a4), .p (.int .i64 a5), .p (.int .i64 a6), .p (.int .i64 a7), .p (.int .i64 a8), .p (.int .i64 a9), fzC c10]] = some (.agg [.p (.int .i64 a0), .p (.int .i64 a1), .p (.int .i64 a2), .p (.bool a3), .p (.int .i64 a4), .p (.int .i64 a5), .p (.int .i64 a6), .p (.int .i64 a7), .p (.int .i64 a8), .p (.int .i64 a9), tvC (0) c10], (bkC (0) c10)) := by
  have := toR_at (sh_Sa_mkHas hc10 a0 a1 a2 a3 a4 a5 a6 a7 a8 a9) (by simp only [szCs, szC]; omega)
  simpa only [fzCs, fzC, tvCs, tvC_v, tvC_nl, tvC_sl, bkCs, bkC, nbC, nbCs, Nat.add_zero, List.append_nil, List.nil_append, Nat.zero_add] using this
-- laws.toSa
def c84 : AF := ⟨37,
  (.seq (.reg [⟨(some 1), none, .box 127 (.t 0)⟩,
   ⟨(some 2), none, .alloc 63 [(.int .i64 0), (.int .i64 0), (.int .i64 0), (.bool false), (.int .i64 0), (.int .i64 0), (.int .i64 0), (.int .i64 0), (.int .i64 0), (.int .i64 0), (.slice none 0 0)]⟩])
  (.seq (.reg [⟨(some 3), none, .alloc 63 [(.int .i64 0), (.int .i64 0), (.int .i64 0), (.bool false), (.int .i64 0), (.int .i64 0), (.int .i64 0), (.int .i64 0), (.int .i64 0), (.int .i64 0), (.slice none 0 0)]⟩])
  (.seq (.reg [⟨(some 4), none, .fa (.t 1) 0⟩,
   ⟨(some 5), none, .ld (.t 4)⟩,
   ⟨(some 6), none, .fa (.t 3) 0⟩,
   ⟨none, none, .st 1 (.t 6) (.t 5)⟩])
  (.seq (.reg [⟨(some 7), none, .fa (.t 1) 1⟩,
   ⟨(some 8), none, .ld (.t 7)⟩,
   ⟨(some 9), none, .fa (.t 3) 1⟩,
   ⟨none, none, .st 1 (.t 9) (.t 8)⟩])
  (.seq (.reg [⟨(some 10), none, .fa (.t 1) 2⟩,
   ⟨(some 11), none, .ld (.t 10)⟩,
   ⟨(some 12), none, .fa (.t 3) 2⟩,
   ⟨none, none, .st 1 (.t 12) (.t 11)⟩])
  (.seq (.reg [⟨(some 13), none, .fa (.t 1) 3⟩,
   ⟨(some 14), none, .ld (.t 13)⟩,
   ⟨(some 15), none, .fa (.t 3) 3⟩,
   ⟨none, none, .st 1 (.t 15) (.t 14)⟩])
  (.seq (.reg [⟨(some 16), none, .fa (.t 1) 4⟩,
   ⟨(some 17), none, .ld (.t 16)⟩,
   ⟨(some 18), none, .fa (.t 3) 4⟩,
   ⟨none, none, .st 1 (.t 18) (.t 17)⟩])
  (.seq (.reg [⟨(some 19), none, .fa (.t 1) 5⟩,
   ⟨(some 20), none, .ldn 2 (.t 19)⟩,
   ⟨(some 21), none, .call 180 [(.t 20)]⟩,
   ⟨(some 22), none, .fa (.t 3) 5⟩,
   ⟨none, none, .st 2 (.t 22) (.t 21)⟩])
  (.seq (.reg [⟨(some 23), none, .fa (.t 1) 7⟩,
   ⟨(some 24), none, .ld (.t 23)⟩,
   ⟨(some 25), none, .fa (.t 3) 7⟩,
   ⟨none, none, .st 1 (.t 25) (.t 24)⟩])
  (.seq (.reg [⟨(some 26), none, .fa (.t 1) 8⟩,
   ⟨(some 27), none, .ld (.t 26)⟩,
   ⟨(some 28), none, .fa (.t 3) 8⟩,
   ⟨none, none, .st 1 (.t 28) (.t 27)⟩])
  (.seq (.reg [⟨(some 29), none, .fa (.t 1) 9⟩,
   ⟨(some 30), none, .ld (.t 29)⟩,
   ⟨(some 31), none, .fa (.t 3) 9⟩,
   ⟨none, none, .st 1 (.t 31) (.t 30)⟩])
  (.seq (.reg [⟨(some 32), none, .fa (.t 1) 10⟩,
   ⟨(some 33), none, .ld (.t 32)⟩,
   ⟨(some 34), none, .call 181 [(.t 33)]⟩,
   ⟨(some 35), none, .fa (.t 3) 10⟩,
   ⟨none, none, .st 1 (.t 35) (.t 34)⟩])
  (.seq (.reg [⟨(some 36), none, .ldn 11 (.t 3)⟩,
   ⟨none, none, .st 11 (.t 2) (.t 36)⟩])
  .ret))))))))))))),
  [.cell 2 (some 11)]⟩
theorem k84 : cFn Try.prog Try.f84 = some c84 := by kernel_rfl
theorem toSa_ok : OkT Try.prog 84 (pureSp (toR_S sh_Sa)) := by
  refine okT_toR (OkΓT.cons toWindow_ok (OkΓT.cons toSelS_ok (OkΓT.nil _))) Try.func84 (by kernel_rfl) k84 ?_
  intro c hc hz
  obtain ⟨a0, a1, a2, a3, a4, a5, a6, a7, a8, a9, c10, rfl, hc10⟩ := sh_Sa_Has hc
  simp only [szCs, szC] at hz
  simp only [fzCs, fzC]
  (dsimp only [c84]; simp (maxSteps := 8000000) (implicitDefEqProofs := false) (disch := omega) only [↓reduceIte, go_sem, if_pos, if_neg, to_Window_at, toC_at hc10 (by omega)])
  refine endT_cells' 3 (.inr rfl) (by (simp (maxSteps := 8000000) (implicitDefEqProofs := false) (disch := omega) only [↓reduceIte, go_sem, if_pos, if_neg, fzCs, fzC, tvCs, tvC_v, tvC_nl, tvC_sl, bkCs, bkC, nbC, nbCs, Nat.add_zero, List.append_nil, List.nil_append]) <;> rfl) ?_ (by simp only [List.length_cons]; omega)
  simp only [List.drop_succ_cons, List.drop_zero, bkCs, bkC, nbC, Nat.add_zero, List.append_nil, List.nil_append, List.cons_append, Nat.add_assoc]
theorem eq_Sa_at {c10 : Cell} (hc10 : FitC sh_SelS c10) (hz : szC c10 ≤ 1099511627776) (a0 : Int) (a1 : Int) (a2 : Int) (a3 : Bool) (a4 : Int) (a5 : Int) (a6 : Int) (a7 : Int) (a8 : Int) (a9 : Int) : eqR_S sh_Sa [.agg [.p (.int .i64 a0), .p (.int .i64 a1), .p (.int .i64 a2), .p (.bool a3), .p (.int .i64 a4), .p (.int .i64 a5), .p (.int .i64 a6), .p (.int .i64 a7), .p (.int .i64 a8), .p (.int .i64 a9), fzC c10], .agg [.p (.int .i64 a0), .p (.int .i64 a1), .p (.int .i64 a2), .p (.bool a3), .p (.int .i64 a4), .p (.int .i64 a5), .p (.int .i64 a6), .p (.int .i64 a7), .p (.int .i64 a8), .p (.int .i64 a9), fzC c10]] = some (.p (.bool true), []) := by
  exact eqR_at (sh_Sa_mkFit hc10 a0 a1 a2 a3 a4 a5 a6 a7 a8 a9) (by simp only [szCs, szC]; omega)
-- laws.eqSa
def c87 : AF := ⟨57,
  (.seq (.reg [⟨(some 2), none, .box 63 (.t 0)⟩,
   ⟨(some 3), none, .box 63 (.t 1)⟩,
   ⟨(some 4), none, .mv (.v (.bool false))⟩])
  (.seq (.seq (.reg [⟨(some 5), none, .fa (.t 2) 0⟩,
   ⟨(some 6), none, .ld (.t 5)⟩,
   ⟨(some 7), none, .fa (.t 3) 0⟩,
   ⟨(some 8), none, .ld (.t 7)⟩,
   ⟨(some 9), none, .bin .neq (.t 6) (.t 8)⟩])
  (.cond (.t 9) (.seq (.reg [⟨(some 4), none, .mv (.v (.bool false))⟩])
  .ret)
  .skip))
  (.seq (.seq (.reg [⟨(some 10), none, .fa (.t 2) 1⟩,
   ⟨(some 11), none, .ld (.t 10)⟩,
   ⟨(some 12), none, .fa (.t 3) 1⟩,
   ⟨(some 13), none, .ld (.t 12)⟩,
   ⟨(some 14), none, .bin .neq (.t 11) (.t 13)⟩])
  (.cond (.t 14) (.seq (.reg [⟨(some 4), none, .mv (.v (.bool false))⟩])
  .ret)
  .skip))
  (.seq (.seq (.reg [⟨(some 15), none, .fa (.t 2) 2⟩,
   ⟨(some 16), none, .ld (.t 15)⟩,
   ⟨(some 17), none, .fa (.t 3) 2⟩,
   ⟨(some 18), none, .ld (.t 17)⟩,
   ⟨(some 19), none, .bin .neq (.t 16) (.t 18)⟩])
  (.cond (.t 19) (.seq (.reg [⟨(some 4), none, .mv (.v (.bool false))⟩])
  .ret)
  .skip))
  (.seq (.seq (.reg [⟨(some 20), none, .fa (.t 2) 3⟩,
   ⟨(some 21), none, .ld (.t 20)⟩,
   ⟨(some 22), none, .fa (.t 3) 3⟩,
   ⟨(some 23), none, .ld (.t 22)⟩,
   ⟨(some 24), none, .eqB true (.t 21) (.t 23)⟩])
  (.cond (.t 24) (.seq (.reg [⟨(some 4), none, .mv (.v (.bool false))⟩])
  .ret)
  .skip))
  (.seq (.seq (.reg [⟨(some 25), none, .fa (.t 2) 4⟩,
   ⟨(some 26), none, .ld (.t 25)⟩,
   ⟨(some 27), none, .fa (.t 3) 4⟩,
   ⟨(some 28), none, .ld (.t 27)⟩,
   ⟨(some 29), none, .bin .neq (.t 26) (.t 28)⟩])
  (.cond (.t 29) (.seq (.reg [⟨(some 4), none, .mv (.v (.bool false))⟩])
  .ret)
  .skip))
  (.seq (.seq (.reg [⟨(some 30), none, .fa (.t 2) 5⟩,
   ⟨(some 31), none, .ldn 2 (.t 30)⟩,
   ⟨(some 32), none, .fa (.t 3) 5⟩,
   ⟨(some 33), none, .ldn 2 (.t 32)⟩,
   ⟨(some 34), none, .call 182 [(.t 31), (.t 33)]⟩,
   ⟨(some 35), none, .un .not (.t 34)⟩])
  (.cond (.t 35) (.seq (.reg [⟨(some 4), none, .mv (.v (.bool false))⟩])
  .ret)
  .skip))
  (.seq (.seq (.reg [⟨(some 36), none, .fa (.t 2) 7⟩,
   ⟨(some 37), none, .ld (.t 36)⟩,
   ⟨(some 38), none, .fa (.t 3) 7⟩,
   ⟨(some 39), none, .ld (.t 38)⟩,
   ⟨(some 40), none, .bin .neq (.t 37) (.t 39)⟩])
  (.cond (.t 40) (.seq (.reg [⟨(some 4), none, .mv (.v (.bool false))⟩])
  .ret)
  .skip))
  (.seq (.seq (.reg [⟨(some 41), none, .fa (.t 2) 8⟩,
   ⟨(some 42), none, .ld (.t 41)⟩,
   ⟨(some 43), none, .fa (.t 3) 8⟩,
   ⟨(some 44), none, .ld (.t 43)⟩,
   ⟨(some 45), none, .bin .neq (.t 42) (.t 44)⟩])
  (.cond (.t 45) (.seq (.reg [⟨(some 4), none, .mv (.v (.bool false))⟩])
  .ret)
  .skip))
  (.seq (.seq (.reg [⟨(some 46), none, .fa (.t 2) 9⟩,
   ⟨(some 47), none, .ld (.t 46)⟩,
   ⟨(some 48), none, .fa (.t 3) 9⟩,
   ⟨(some 49), none, .ld (.t 48)⟩,
   ⟨(some 50), none, .bin .neq (.t 47) (.t 49)⟩])
  (.cond (.t 50) (.seq (.reg [⟨(some 4), none, .mv (.v (.bool false))⟩])
  .ret)
  .skip))
  (.seq (.seq (.reg [⟨(some 51), none, .fa (.t 2) 10⟩,
   ⟨(some 52), none, .ld (.t 51)⟩,
   ⟨(some 53), none, .fa (.t 3) 10⟩,
   ⟨(some 54), none, .ld (.t 53)⟩,
   ⟨(some 55), none, .call 183 [(.t 52), (.t 54)]⟩,
   ⟨(some 56), none, .un .not (.t 55)⟩])
  (.cond (.t 56) (.seq (.reg [⟨(some 4), none, .mv (.v (.bool false))⟩])
  .ret)
  .skip))
  (.seq (.reg [⟨(some 4), none, .mv (.v (.bool true))⟩])
  .ret)))))))))))),
  [.t 4]⟩
theorem k87 : cFn Try.prog Try.f87 = some c87 := by kernel_rfl
theorem eqSa_ok : OkT Try.prog 87 (pureSp (eqR_S sh_Sa)) := by
  refine okT_eqR (OkΓT.cons eqWindow_ok (OkΓT.cons eqSelS_ok (OkΓT.nil _))) Try.func87 (by kernel_rfl) k87 ?_
  intro c hc hz
  obtain ⟨a0, a1, a2, a3, a4, a5, a6, a7, a8, a9, c10, rfl, hc10⟩ := sh_Sa_Fit hc
  simp only [szCs, szC] at hz
  simp only [fzCs, fzC]
  (dsimp only [c87]; simp (maxSteps := 8000000) (implicitDefEqProofs := false) (disch := omega) only [↓reduceIte, go_sem, if_pos, if_neg, eq_Window_at, eqC_at hc10 (by omega)])
  repeat' first
    | (refine gdKT_dec (fun hg => ?_) (fun hg => ?_) <;> (try (first | simp (maxSteps := 8000000) (implicitDefEqProofs := false) (disch := omega) only [↓reduceIte, go_sem, if_pos, if_neg, eq_false hg, eq_Window_at, eqC_at hc10 (by omega)] | simp (maxSteps := 8000000) (implicitDefEqProofs := false) (disch := omega) only [↓reduceIte, go_sem, if_pos, if_neg, eq_true hg, eq_Window_at, eqC_at hc10 (by omega)])))
    | (refine condKT_dec (fun hg => ?_) (fun hg => ?_) <;> (try (first | simp (maxSteps := 8000000) (implicitDefEqProofs := false) (disch := omega) only [↓reduceIte, go_sem, if_pos, if_neg, eq_false hg, eq_Window_at, eqC_at hc10 (by omega)] | simp (maxSteps := 8000000) (implicitDefEqProofs := false) (disch := omega) only [↓reduceIte, go_sem, if_pos, if_neg, eq_true hg, eq_Window_at, eqC_at hc10 (by omega)])))
    | (refine gdKT_split (fun hg => ?_) (fun hg => ?_) <;> (try simp (maxSteps := 8000000) (implicitDefEqProofs := false) (disch := omega) only [↓reduceIte, go_sem, if_pos, if_neg, hg, eq_Window_at, eqC_at hc10 (by omega)]))
    | (refine condKT_split (fun hg => ?_) (fun hg => ?_) <;> (try simp (maxSteps := 8000000) (implicitDefEqProofs := false) (disch := omega) only [↓reduceIte, go_sem, if_pos, if_neg, hg, eq_Window_at, eqC_at hc10 (by omega)]))
    | (refine endT_p (.inr rfl) (by simp (maxSteps := 8000000) (implicitDefEqProofs := false) (disch := omega) only [↓reduceIte, go_sem, if_pos, if_neg, eq_Window_at, eqC_at hc10 (by omega)]; rfl) ?_; (first | exact vb_true (by omega) | exact vb_false (by omega) | exact vb_dec (by omega) | exact vi_eq (by omega) | rfl | (refine vi_eq ?_; simp_all; done) | (refine vi_eq ?_; simp_all; omega) | (refine vi_eq ?_; simp_all; intros; omega)))
    | exact endT_v (.inr rfl) (by simp (maxSteps := 8000000) (implicitDefEqProofs := false) (disch := omega) only [↓reduceIte, go_sem, if_pos, if_neg, eq_Window_at, eqC_at hc10 (by omega)]; try rfl) (fun _ => rfl)
theorem sz_Sa_at {c10 : Cell} (hc10 : HasC sh_SelS c10) {k : Int} (hk : 0 ≤ k ∧ k ≤ 1048576) (hz : lnC c10 = true) (a0 : Int) (a1 : Int) (a2 : Int) (a3 : Bool) (a4 : Int) (a5 : Int) (a6 : Int) (a7 : Int) (a8 : Int) (a9 : Int) : szR_S sh_Sa [.agg [.p (.int .i64 a0), .p (.int .i64 a1), .p (.int .i64 a2), .p (.bool a3), .p (.int .i64 a4), .p (.int .i64 a5), .p (.int .i64 a6), .p (.int .i64 a7), .p (.int .i64 a8), .p (.int .i64 a9), fzC c10], .p (.int .i64 k)] = some (.p (.int .i64 (if ((szC c10 : Nat) : Int) ≤ k then k - (szC c10 : Nat) else -1)), []) := by
  have := szR_at (sh_Sa_mkHas hc10 a0 a1 a2 a3 a4 a5 a6 a7 a8 a9) hk (by simp only [lnCs, lnC, Bool.true_and, Bool.and_true, Bool.and_eq_true]; exact hz)
  simpa only [fzCs, fzC, szCs, szC, Nat.add_zero, Nat.zero_add, Nat.add_assoc] using this
-- laws.szSa
def c82 : AF := ⟨12,
  (.seq (.reg [⟨(some 2), none, .box 127 (.t 0)⟩,
   ⟨(some 4), none, .mv (.v (.int .i64 0))⟩])
  (.seq (.reg [⟨(some 5), none, .fa (.t 2) 10⟩,
   ⟨(some 6), none, .ld (.t 5)⟩,
   ⟨(some 7), none, .mv (.t 1)⟩,
   ⟨(some 8), none, .call 179 [(.t 6), (.t 7)]⟩,
   ⟨(some 1), none, .mv (.t 8)⟩])
  (.seq (.seq (.reg [⟨(some 9), none, .mv (.t 1)⟩,
   ⟨(some 10), none, .bin .lss (.t 9) (.v (.int .i64 0))⟩])
  (.cond (.t 10) (.seq (.reg [⟨(some 4), none, .mv (.v (.int .i64 (-1)))⟩])
  .ret)
  .skip))
  (.seq (.reg [⟨(some 11), none, .mv (.t 1)⟩,
   ⟨(some 4), none, .mv (.t 11)⟩])
  .ret)))),
  [.t 4]⟩
theorem k82 : cFn Try.prog Try.f82 = some c82 := by kernel_rfl
theorem szSa_ok : OkT Try.prog 82 (pureSp (szR_S sh_Sa)) := by
  refine okT_szR (OkΓT.cons szSelS_ok (OkΓT.nil _)) Try.func82 (by kernel_rfl) k82 ?_
  intro c k hc h1 h2 hz
  obtain ⟨a0, a1, a2, a3, a4, a5, a6, a7, a8, a9, c10, rfl, hc10⟩ := sh_Sa_Has hc
  generalize hN : szCs _ = N at *
  simp only [szCs, szC, Nat.add_zero, Nat.zero_add] at hN
  simp only [lnCs, lnC, Bool.true_and, Bool.and_true, Bool.and_eq_true] at hz
  have wc10 := hz
  simp only [fzCs, fzC]
  have zc10 := szC_at (k := k) hc10 (by omega) wc10
  by_cases qc10 : (szC c10 : Int) ≤ k
  case neg =>
    rw [if_neg qc10] at zc10
    rw [if_neg (show ¬ _ by omega)]
    (dsimp only [c82]; simp (maxSteps := 8000000) (implicitDefEqProofs := false) (disch := omega) only [↓reduceIte, go_sem, if_pos, if_neg, zc10])
    repeat' first
      | (refine gdKT_dec (fun hg => ?_) (fun hg => ?_) <;> (try (first | simp (maxSteps := 8000000) (implicitDefEqProofs := false) (disch := omega) only [↓reduceIte, go_sem, if_pos, if_neg, eq_false hg, zc10] | simp (maxSteps := 8000000) (implicitDefEqProofs := false) (disch := omega) only [↓reduceIte, go_sem, if_pos, if_neg, eq_true hg, zc10])))
      | (refine condKT_dec (fun hg => ?_) (fun hg => ?_) <;> (try (first | simp (maxSteps := 8000000) (implicitDefEqProofs := false) (disch := omega) only [↓reduceIte, go_sem, if_pos, if_neg, eq_false hg, zc10] | simp (maxSteps := 8000000) (implicitDefEqProofs := false) (disch := omega) only [↓reduceIte, go_sem, if_pos, if_neg, eq_true hg, zc10])))
      | (refine gdKT_split (fun hg => ?_) (fun hg => ?_) <;> (try simp (maxSteps := 8000000) (implicitDefEqProofs := false) (disch := omega) only [↓reduceIte, go_sem, if_pos, if_neg, hg, zc10]))
      | (refine condKT_split (fun hg => ?_) (fun hg => ?_) <;> (try simp (maxSteps := 8000000) (implicitDefEqProofs := false) (disch := omega) only [↓reduceIte, go_sem, if_pos, if_neg, hg, zc10]))
      | (refine endT_p (.inr rfl) (by simp (maxSteps := 8000000) (implicitDefEqProofs := false) (disch := omega) only [↓reduceIte, go_sem, if_pos, if_neg, zc10]; rfl) ?_; (first | exact vb_true (by omega) | exact vb_false (by omega) | exact vb_dec (by omega) | exact vi_eq (by omega) | rfl | (refine vi_eq ?_; simp_all; done) | (refine vi_eq ?_; simp_all; omega) | (refine vi_eq ?_; simp_all; intros; omega)))
      | exact endT_v (.inr rfl) (by simp (maxSteps := 8000000) (implicitDefEqProofs := false) (disch := omega) only [↓reduceIte, go_sem, if_pos, if_neg, zc10]; try rfl) (fun _ => rfl)
  rw [if_pos qc10] at zc10
  rw [if_pos (show _ by omega), show k - (N : Int) = k - (szC c10 : Int) by omega]
  (dsimp only [c82]; simp (maxSteps := 8000000) (implicitDefEqProofs := false) (disch := omega) only [↓reduceIte, go_sem, if_pos, if_neg, zc10])
  repeat' first
    | (refine gdKT_dec (fun hg => ?_) (fun hg => ?_) <;> (try (first | simp (maxSteps := 8000000) (implicitDefEqProofs := false) (disch := omega) only [↓reduceIte, go_sem, if_pos, if_neg, eq_false hg, zc10] | simp (maxSteps := 8000000) (implicitDefEqProofs := false) (disch := omega) only [↓reduceIte, go_sem, if_pos, if_neg, eq_true hg, zc10])))
    | (refine condKT_dec (fun hg => ?_) (fun hg => ?_) <;> (try (first | simp (maxSteps := 8000000) (implicitDefEqProofs := false) (disch := omega) only [↓reduceIte, go_sem, if_pos, if_neg, eq_false hg, zc10] | simp (maxSteps := 8000000) (implicitDefEqProofs := false) (disch := omega) only [↓reduceIte, go_sem, if_pos, if_neg, eq_true hg, zc10])))
    | (refine gdKT_split (fun hg => ?_) (fun hg => ?_) <;> (try simp (maxSteps := 8000000) (implicitDefEqProofs := false) (disch := omega) only [↓reduceIte, go_sem, if_pos, if_neg, hg, zc10]))
    | (refine condKT_split (fun hg => ?_) (fun hg => ?_) <;> (try simp (maxSteps := 8000000) (implicitDefEqProofs := false) (disch := omega) only [↓reduceIte, go_sem, if_pos, if_neg, hg, zc10]))
    | (refine endT_p (.inr rfl) (by simp (maxSteps := 8000000) (implicitDefEqProofs := false) (disch := omega) only [↓reduceIte, go_sem, if_pos, if_neg, zc10]; rfl) ?_; (first | exact vb_true (by omega) | exact vb_false (by omega) | exact vb_dec (by omega) | exact vi_eq (by omega) | rfl | (refine vi_eq ?_; simp_all; done) | (refine vi_eq ?_; simp_all; omega) | (refine vi_eq ?_; simp_all; intros; omega)))
    | exact endT_v (.inr rfl) (by simp (maxSteps := 8000000) (implicitDefEqProofs := false) (disch := omega) only [↓reduceIte, go_sem, if_pos, if_neg, zc10]; try rfl) (fun _ => rfl)
def sh_SaS : Shp := .sl 63 sh_Sa
-- laws.toSaS
def c83 : AF := ⟨23,
  (.seq (.reg [⟨(some 2), none, .mv (.v (.slice none 0 0))⟩])
  (.seq (.reg [⟨(some 5), none, .mv (.t 0)⟩,
   ⟨(some 6), none, .len (.t 5)⟩,
   ⟨(some 7), none, .mkSl 63 11 104 [(.int .i64 0), (.int .i64 0), (.int .i64 0), (.bool false), (.int .i64 0), (.int .i64 0), (.int .i64 0), (.int .i64 0), (.int .i64 0), (.int .i64 0), (.slice none 0 0)] (.t 6) (.t 6)⟩,
   ⟨(some 3), none, .mv (.t 7)⟩])
  (.seq (.seq (.reg [⟨(some 4), none, .mv (.v (.int .i64 0))⟩])
  (.block 0 (.loop (.seq (.seq (.reg [⟨(some 8), none, .mv (.t 4)⟩,
   ⟨(some 9), none, .mv (.t 0)⟩,
   ⟨(some 10), none, .len (.t 9)⟩,
   ⟨(some 11), none, .bin .lss (.t 8) (.t 10)⟩])
  (.cond (.t 11) .skip
  (.exit 0)))
  (.seq (.block 1 (.reg [⟨(some 14), none, .mv (.t 3)⟩,
   ⟨(some 15), none, .mv (.t 4)⟩,
   ⟨(some 16), none, .mv (.t 0)⟩,
   ⟨(some 17), none, .mv (.t 4)⟩,
   ⟨(some 18), none, .ia 11 (.t 16) (.t 17)⟩,
   ⟨(some 19), none, .ldn 11 (.t 18)⟩,
   ⟨(some 20), none, .call 84 [(.t 19)]⟩,
   ⟨(some 21), none, .ia 11 (.t 14) (.t 15)⟩,
   ⟨none, none, .st 11 (.t 21) (.t 20)⟩]))
  (.reg [⟨(some 12), none, .mv (.t 4)⟩,
   ⟨(some 13), none, .bin .add (.t 12) (.v (.int .i64 1))⟩,
   ⟨(some 4), none, .mv (.t 13)⟩]))))))
  (.seq (.reg [⟨(some 22), none, .mv (.t 3)⟩,
   ⟨(some 2), none, .mv (.t 22)⟩])
  .ret)))),
  [.t 2]⟩
theorem k83 : cFn Try.prog Try.f83 = some c83 := by kernel_rfl
theorem toSaS_ok : OkT Try.prog 83 (pureSp (toC_S sh_SaS)) := by
  refine okT_toC (OkΓT.cons toSa_ok (OkΓT.nil _)) Try.func83 (by kernel_rfl) k83 ?_
  intro c hc hz
  simp only [sh_SaS, HasC] at hc
  obtain ⟨rows, rfl, hr⟩ := hc
  simp only [szC] at hz
  have hlen : ∀ r ∈ rows, r.length = 11 := fun r hx => (hr r hx).len
  generalize hzz : (el [.p (.int .i64 0), .p (.int .i64 0), .p (.int .i64 0), .p (.bool false), .p (.int .i64 0), .p (.int .i64 0), .p (.int .i64 0), .p (.int .i64 0), .p (.int .i64 0), .p (.int .i64 0), .nl] : TV) = z0
  have hz1 : cellsT z0 = [.p (.int .i64 0), .p (.int .i64 0), .p (.int .i64 0), .p (.bool false), .p (.int .i64 0), .p (.int .i64 0), .p (.int .i64 0), .p (.int .i64 0), .p (.int .i64 0), .p (.int .i64 0), .nl] := by rw [← hzz]; rfl
  simp only [fzC, tvC_v, tvC_nl, tvC_sl, bkC]
  (dsimp only [c83]; simp (maxSteps := 8000000) (implicitDefEqProofs := false) (disch := omega) only [↓reduceIte, go_sem, if_pos, if_neg, hzz, mixR_zero 1 rows z0])
  refine awpT_loop (α := Nat) (fun i => ⟨slots [(0, .s (fzRs rows)), (3, .os 0 0 rows.length), (4, .p (.int .i64 i))], .cells 63 11 (mixR 1 rows z0 i) :: bkRs 1 (rows.take i)⟩)
    (fun i => i ≤ rows.length) (fun i => rows.length - i) 0 (Nat.zero_le _) (by simp only [List.take_zero, bkRs]; exact le_keep (Nat.zero_le _) (by simp (maxSteps := 8000000) (implicitDefEqProofs := false) (disch := omega) only [↓reduceIte, go_sem, if_pos, if_neg, slotsIn])) ?_
  intro i hi
  simp (maxSteps := 8000000) (implicitDefEqProofs := false) (disch := omega) only [↓reduceIte, go_sem, if_pos, if_neg, mixR_len 1 rows z0 hi]
  refine condKT_dec (fun hlt => ?_) (fun hge => ?_)
  · obtain ⟨r, hx⟩ := get_ex (l := rows) (i := i) (by omega)
    have hrr := hr r (List.mem_of_getElem? hx)
    have hzr := szRs_mem hx
    have hg := fzRs_get hx; have hm := mixR_get 1 (rows := rows) z0 (i := i) (by omega)
    have hs := mixR_set 1 z0 hx; have hb := bkRs_snoc 1 hx; have hn := bkRs_len 1 (rows.take i)
    obtain ⟨a0, a1, a2, a3, a4, a5, a6, a7, a8, a9, c10, rfl, hc10⟩ := sh_Sa_Has hrr
    simp only [szCs, szC] at hzr
    simp only [fzCs, fzC, tvCs, tvC_v, tvC_nl, tvC_sl, bkCs, bkC, nbC, nbCs, Nat.add_zero, List.append_nil, List.nil_append, el_one, el_two, Nat.add_comm 1 (nbRs _)] at hg hs hb
    simp (maxSteps := 8000000) (implicitDefEqProofs := false) (disch := omega) only [↓reduceIte, go_sem, if_pos, if_neg, eq_true hlt, hg, hm, hs, hn, hz1, el_two, to_Sa_at hc10 (by omega)]
    refine loopKT_next (i + 1) (by omega) (by omega) ?_
    rw [hb]; refine (le_keep (Nat.zero_le _) ?_) <;> simp (maxSteps := 8000000) (implicitDefEqProofs := false) (disch := omega) only [↓reduceIte, go_sem, if_pos, if_neg, slotsIn]
  · have hb : rows.take i = rows := List.take_of_length_le (by omega)
    have hm := mixR_full 1 (rows := rows) z0 (i := i) (by omega)
    simp (maxSteps := 8000000) (implicitDefEqProofs := false) (disch := omega) only [↓reduceIte, go_sem, if_pos, if_neg, eq_false hge, hb, hm]
    refine joinK_here ?_
    simp (maxSteps := 8000000) (implicitDefEqProofs := false) (disch := omega) only [↓reduceIte, go_sem, if_pos, if_neg]
    exact endT_same (.inr rfl) (by (simp (maxSteps := 8000000) (implicitDefEqProofs := false) (disch := omega) only [↓reduceIte, go_sem, if_pos, if_neg]) <;> rfl) rfl
-- laws.eqSaS
def c86 : AF := ⟨27,
  (.seq (.reg [⟨(some 4), none, .mv (.v (.bool false))⟩])
  (.seq (.seq (.reg [⟨(some 6), none, .mv (.t 0)⟩,
   ⟨(some 7), none, .len (.t 6)⟩,
   ⟨(some 8), none, .mv (.t 1)⟩,
   ⟨(some 9), none, .len (.t 8)⟩,
   ⟨(some 10), none, .bin .neq (.t 7) (.t 9)⟩])
  (.cond (.t 10) (.seq (.reg [⟨(some 4), none, .mv (.v (.bool false))⟩])
  .ret)
  .skip))
  (.seq (.seq (.reg [⟨(some 5), none, .mv (.v (.int .i64 0))⟩])
  (.block 0 (.loop (.seq (.seq (.reg [⟨(some 11), none, .mv (.t 5)⟩,
   ⟨(some 12), none, .mv (.t 0)⟩,
   ⟨(some 13), none, .len (.t 12)⟩,
   ⟨(some 14), none, .bin .lss (.t 11) (.t 13)⟩])
  (.cond (.t 14) .skip
  (.exit 0)))
  (.seq (.block 1 (.seq (.drw [⟨(some 17), none, .mv (.t 0)⟩,
   ⟨(some 18), none, .mv (.t 5)⟩,
   ⟨(some 19), none, .ia 11 (.t 17) (.t 18)⟩,
   ⟨(some 20), none, .ldn 11 (.t 19)⟩,
   ⟨(some 21), none, .mv (.t 1)⟩,
   ⟨(some 22), none, .mv (.t 5)⟩,
   ⟨(some 23), none, .ia 11 (.t 21) (.t 22)⟩,
   ⟨(some 24), none, .ldn 11 (.t 23)⟩] [⟨(some 25), none, .call 87 [(.t 20), (.t 24)]⟩,
   ⟨(some 26), none, .un .not (.t 25)⟩])
  (.cond (.t 26) (.seq (.reg [⟨(some 4), none, .mv (.v (.bool false))⟩])
  .ret)
  .skip)))
  (.reg [⟨(some 15), none, .mv (.t 5)⟩,
   ⟨(some 16), none, .bin .add (.t 15) (.v (.int .i64 1))⟩,
   ⟨(some 5), none, .mv (.t 16)⟩]))))))
  (.seq (.reg [⟨(some 4), none, .mv (.v (.bool true))⟩])
  .ret)))),
  [.t 4]⟩
theorem k86 : cFn Try.prog Try.f86 = some c86 := by kernel_rfl
theorem eqSaS_ok : OkT Try.prog 86 (pureSp (eqC_S sh_SaS)) := by
  refine okT_eqC (OkΓT.cons eqSa_ok (OkΓT.nil _)) Try.func86 (by kernel_rfl) k86 ?_
  intro c hc hz
  obtain ⟨rows, hf, hr, hsz, _⟩ := FitC.rows hc
  rw [hf]
  (dsimp only [c86]; simp (maxSteps := 8000000) (implicitDefEqProofs := false) (disch := omega) only [↓reduceIte, go_sem, if_pos, if_neg])
  refine awpT_loop (α := Nat) (fun i => ⟨slots [(0, .s (fzRs rows)), (1, .s (fzRs rows)), (5, .p (.int .i64 i))], []⟩) (fun i => i ≤ rows.length) (fun i => rows.length - i) 0 (Nat.zero_le _) (le_of [] (by simp (maxSteps := 8000000) (implicitDefEqProofs := false) (disch := omega) only [↓reduceIte, go_sem, if_pos, if_neg]) (by simp (maxSteps := 8000000) (implicitDefEqProofs := false) (disch := omega) only [↓reduceIte, go_sem, if_pos, if_neg]) (by decide) (by simp)) ?_
  intro i hi
  simp (maxSteps := 8000000) (implicitDefEqProofs := false) (disch := omega) only [↓reduceIte, go_sem, if_pos, if_neg]
  refine condKT_dec (fun hlt => ?_) (fun hge => ?_)
  · obtain ⟨r, hx⟩ := get_ex (l := rows) (i := i) (by omega)
    have hrr := hr r (List.mem_of_getElem? hx)
    have hzr := szRs_mem hx
    have hg := fzRs_get hx
    obtain ⟨a0, a1, a2, a3, a4, a5, a6, a7, a8, a9, c10, rfl, hc10⟩ := sh_Sa_Fit hrr
    simp only [szCs, szC] at hzr
    simp only [fzCs, fzC, el_one, el_two] at hg
    simp (maxSteps := 8000000) (implicitDefEqProofs := false) (disch := omega) only [↓reduceIte, go_sem, if_pos, if_neg, eq_true hlt, hg, eq_Sa_at hc10 (by omega)]
    refine loopKT_next (i + 1) (by omega) (by omega) ?_
    exact (le_of [] (by simp (maxSteps := 8000000) (implicitDefEqProofs := false) (disch := omega) only [↓reduceIte, go_sem, if_pos, if_neg]) (by simp (maxSteps := 8000000) (implicitDefEqProofs := false) (disch := omega) only [↓reduceIte, go_sem, if_pos, if_neg]) (by decide) (by simp))
  · simp (maxSteps := 8000000) (implicitDefEqProofs := false) (disch := omega) only [↓reduceIte, go_sem, if_pos, if_neg, eq_false hge]
    refine joinK_here ?_
    simp (maxSteps := 8000000) (implicitDefEqProofs := false) (disch := omega) only [↓reduceIte, go_sem, if_pos, if_neg]
    repeat' first
      | (refine gdKT_dec (fun hg => ?_) (fun hg => ?_) <;> (try (first | simp (maxSteps := 8000000) (implicitDefEqProofs := false) (disch := omega) only [↓reduceIte, go_sem, if_pos, if_neg, eq_false hg] | simp (maxSteps := 8000000) (implicitDefEqProofs := false) (disch := omega) only [↓reduceIte, go_sem, if_pos, if_neg, eq_true hg])))
      | (refine condKT_dec (fun hg => ?_) (fun hg => ?_) <;> (try (first | simp (maxSteps := 8000000) (implicitDefEqProofs := false) (disch := omega) only [↓reduceIte, go_sem, if_pos, if_neg, eq_false hg] | simp (maxSteps := 8000000) (implicitDefEqProofs := false) (disch := omega) only [↓reduceIte, go_sem, if_pos, if_neg, eq_true hg])))
      | (refine gdKT_split (fun hg => ?_) (fun hg => ?_) <;> (try simp (maxSteps := 8000000) (implicitDefEqProofs := false) (disch := omega) only [↓reduceIte, go_sem, if_pos, if_neg, hg]))
      | (refine condKT_split (fun hg => ?_) (fun hg => ?_) <;> (try simp (maxSteps := 8000000) (implicitDefEqProofs := false) (disch := omega) only [↓reduceIte, go_sem, if_pos, if_neg, hg]))
      | (refine endT_p (.inr rfl) (by simp (maxSteps := 8000000) (implicitDefEqProofs := false) (disch := omega) only [↓reduceIte, go_sem, if_pos, if_neg]; rfl) ?_; (first | exact vb_true (by omega) | exact vb_false (by omega) | exact vb_dec (by omega) | exact vi_eq (by omega) | rfl | (refine vi_eq ?_; simp_all; done) | (refine vi_eq ?_; simp_all; omega) | (refine vi_eq ?_; simp_all; intros; omega)))
      | exact endT_v (.inr rfl) (by simp (maxSteps := 8000000) (implicitDefEqProofs := false) (disch := omega) only [↓reduceIte, go_sem, if_pos, if_neg]; try rfl) (fun _ => rfl)
-- laws.szSaS
def c81 : AF := ⟨27,
  (.seq (.reg [⟨(some 4), none, .mv (.v (.int .i64 0))⟩])
  (.seq (.reg [⟨(some 6), none, .mv (.t 1)⟩,
   ⟨(some 7), none, .mv (.t 0)⟩,
   ⟨(some 8), none, .len (.t 7)⟩,
   ⟨(some 9), none, .bin .sub (.t 6) (.t 8)⟩,
   ⟨(some 1), none, .mv (.t 9)⟩])
  (.seq (.seq (.reg [⟨(some 10), none, .mv (.t 1)⟩,
   ⟨(some 11), none, .bin .lss (.t 10) (.v (.int .i64 0))⟩])
  (.cond (.t 11) (.seq (.reg [⟨(some 4), none, .mv (.v (.int .i64 (-1)))⟩])
  .ret)
  .skip))
  (.seq (.seq (.reg [⟨(some 5), none, .mv (.v (.int .i64 0))⟩])
  (.block 0 (.loop (.seq (.seq (.reg [⟨(some 12), none, .mv (.t 5)⟩,
   ⟨(some 13), none, .mv (.t 0)⟩,
   ⟨(some 14), none, .len (.t 13)⟩,
   ⟨(some 15), none, .bin .lss (.t 12) (.t 14)⟩])
  (.cond (.t 15) .skip
  (.exit 0)))
  (.seq (.block 1 (.seq (.reg [⟨(some 18), none, .mv (.t 0)⟩,
   ⟨(some 19), none, .mv (.t 5)⟩,
   ⟨(some 20), none, .ia 11 (.t 18) (.t 19)⟩,
   ⟨(some 21), none, .ldn 11 (.t 20)⟩,
   ⟨(some 22), none, .mv (.t 1)⟩,
   ⟨(some 23), none, .call 82 [(.t 21), (.t 22)]⟩,
   ⟨(some 1), none, .mv (.t 23)⟩])
  (.seq (.reg [⟨(some 24), none, .mv (.t 1)⟩,
   ⟨(some 25), none, .bin .lss (.t 24) (.v (.int .i64 0))⟩])
  (.cond (.t 25) (.seq (.reg [⟨(some 4), none, .mv (.v (.int .i64 (-1)))⟩])
  .ret)
  .skip))))
  (.reg [⟨(some 16), none, .mv (.t 5)⟩,
   ⟨(some 17), none, .bin .add (.t 16) (.v (.int .i64 1))⟩,
   ⟨(some 5), none, .mv (.t 17)⟩]))))))
  (.seq (.reg [⟨(some 26), none, .mv (.t 1)⟩,
   ⟨(some 4), none, .mv (.t 26)⟩])
  .ret))))),
  [.t 4]⟩
theorem k81 : cFn Try.prog Try.f81 = some c81 := by kernel_rfl
theorem szSaS_ok : OkT Try.prog 81 (pureSp (szC_S sh_SaS)) := by
  refine okT_szC (OkΓT.cons szSa_ok (OkΓT.nil _)) Try.func81 (by kernel_rfl) k81 ?_
  intro c k hc h1 h2 hz
  simp only [sh_SaS, HasC] at hc
  obtain ⟨rows, rfl, hr⟩ := hc
  generalize hN : szC _ = N at *
  simp only [szC] at hN
  simp only [lnC, Bool.and_eq_true, decide_eq_true_eq] at hz
  obtain ⟨hz, hzr⟩ := hz
  simp only [fzC]
  by_cases q : (rows.length : Int) ≤ k
  case neg =>
    rw [if_neg (by omega)]
    (dsimp only [c81]; simp (maxSteps := 8000000) (implicitDefEqProofs := false) (disch := omega) only [↓reduceIte, go_sem, if_pos, if_neg])
    repeat' first
      | (refine gdKT_dec (fun hg => ?_) (fun hg => ?_) <;> (try (first | simp (maxSteps := 8000000) (implicitDefEqProofs := false) (disch := omega) only [↓reduceIte, go_sem, if_pos, if_neg, eq_false hg] | simp (maxSteps := 8000000) (implicitDefEqProofs := false) (disch := omega) only [↓reduceIte, go_sem, if_pos, if_neg, eq_true hg])))
      | (refine condKT_dec (fun hg => ?_) (fun hg => ?_) <;> (try (first | simp (maxSteps := 8000000) (implicitDefEqProofs := false) (disch := omega) only [↓reduceIte, go_sem, if_pos, if_neg, eq_false hg] | simp (maxSteps := 8000000) (implicitDefEqProofs := false) (disch := omega) only [↓reduceIte, go_sem, if_pos, if_neg, eq_true hg])))
      | (refine gdKT_split (fun hg => ?_) (fun hg => ?_) <;> (try simp (maxSteps := 8000000) (implicitDefEqProofs := false) (disch := omega) only [↓reduceIte, go_sem, if_pos, if_neg, hg]))
      | (refine condKT_split (fun hg => ?_) (fun hg => ?_) <;> (try simp (maxSteps := 8000000) (implicitDefEqProofs := false) (disch := omega) only [↓reduceIte, go_sem, if_pos, if_neg, hg]))
      | (refine endT_p (.inr rfl) (by simp (maxSteps := 8000000) (implicitDefEqProofs := false) (disch := omega) only [↓reduceIte, go_sem, if_pos, if_neg]; rfl) ?_; (first | exact vb_true (by omega) | exact vb_false (by omega) | exact vb_dec (by omega) | exact vi_eq (by omega) | rfl | (refine vi_eq ?_; simp_all; done) | (refine vi_eq ?_; simp_all; omega) | (refine vi_eq ?_; simp_all; intros; omega)))
      | exact endT_v (.inr rfl) (by simp (maxSteps := 8000000) (implicitDefEqProofs := false) (disch := omega) only [↓reduceIte, go_sem, if_pos, if_neg]; try rfl) (fun _ => rfl)
  (dsimp only [c81]; simp (maxSteps := 8000000) (implicitDefEqProofs := false) (disch := omega) only [↓reduceIte, go_sem, if_pos, if_neg, eq_false (show ¬ (k - (rows.length : Int) < 0) by omega)])
  refine awpT_loop (α := Nat) (fun i => ⟨slots [(0, .s (fzRs rows)), (1, .p (.int .i64 (k - (rows.length : Int) - (szRs (rows.take i) : Int)))), (5, .p (.int .i64 i))], []⟩) (fun i => i ≤ rows.length ∧ (rows.length : Int) + szRs (rows.take i) ≤ k) (fun i => rows.length - i) 0 ⟨Nat.zero_le _, by simp only [List.take_zero, szRs]; omega⟩ (by simp only [List.take_zero, szRs, nat0T, Int.sub_zero]; exact (le_of [] (by simp (maxSteps := 8000000) (implicitDefEqProofs := false) (disch := omega) only [↓reduceIte, go_sem, if_pos, if_neg]) (by simp (maxSteps := 8000000) (implicitDefEqProofs := false) (disch := omega) only [↓reduceIte, go_sem, if_pos, if_neg]) (by decide) (by simp))) ?_
  intro i ⟨hi, hk⟩
  simp (maxSteps := 8000000) (implicitDefEqProofs := false) (disch := omega) only [↓reduceIte, go_sem, if_pos, if_neg]
  refine condKT_dec (fun hlt => ?_) (fun hge => ?_)
  · obtain ⟨r, hx⟩ := get_ex (l := rows) (i := i) (by omega)
    have hrr := hr r (List.mem_of_getElem? hx)
    have hln := lnRs_mem hzr hx
    have hzr := szRs_mem hx
    have hg := fzRs_get hx; have hsn := szRs_snoc hx
    obtain ⟨a0, a1, a2, a3, a4, a5, a6, a7, a8, a9, c10, rfl, hc10⟩ := sh_Sa_Has hrr
    simp only [lnCs, lnC, Bool.true_and, Bool.and_true, Bool.and_eq_true] at hln
    simp only [szCs, szC, Nat.add_zero, Nat.zero_add] at hzr hsn
    simp only [fzCs, fzC, el_one, el_two] at hg
    have hq := fun a0 a1 a2 a3 a4 a5 a6 a7 a8 a9 => sz_Sa_at hc10 (k := k - (rows.length : Int) - (szRs (rows.take i) : Int)) (by omega) hln a0 a1 a2 a3 a4 a5 a6 a7 a8 a9
    by_cases q2 : ((szC c10 : Nat) : Int) ≤ k - (rows.length : Int) - (szRs (rows.take i) : Int)
    · simp only [if_pos q2] at hq
      simp (maxSteps := 8000000) (implicitDefEqProofs := false) (disch := omega) only [↓reduceIte, go_sem, if_pos, if_neg, eq_true hlt, hg, hq, eq_false (show ¬ (k - (rows.length : Int) - (szRs (rows.take i) : Int) - ((szC c10 : Nat) : Int) < 0) by omega)]
      refine loopKT_next (i + 1) ⟨by omega, by omega⟩ (by omega) ?_
      have hs2 : k - (rows.length : Int) - (szRs (rows.take i) : Int) - ((szC c10 : Nat) : Int) = k - (rows.length : Int) - (szRs (rows.take (i + 1)) : Int) := by omega
      exact (le_of [] (by simp (maxSteps := 8000000) (implicitDefEqProofs := false) (disch := omega) only [↓reduceIte, go_sem, if_pos, if_neg, hs2]) (by simp (maxSteps := 8000000) (implicitDefEqProofs := false) (disch := omega) only [↓reduceIte, go_sem, if_pos, if_neg, hs2]) (by decide) (by simp))
    · simp only [if_neg q2] at hq
      rw [if_neg (show ¬ _ by omega)]
      simp (maxSteps := 8000000) (implicitDefEqProofs := false) (disch := omega) only [↓reduceIte, go_sem, if_pos, if_neg, eq_true hlt, hg, hq]
      repeat' first
        | (refine gdKT_dec (fun hg => ?_) (fun hg => ?_) <;> (try (first | simp (maxSteps := 8000000) (implicitDefEqProofs := false) (disch := omega) only [↓reduceIte, go_sem, if_pos, if_neg, eq_false hg, eq_true hlt, hg, hq] | simp (maxSteps := 8000000) (implicitDefEqProofs := false) (disch := omega) only [↓reduceIte, go_sem, if_pos, if_neg, eq_true hg, eq_true hlt, hg, hq])))
        | (refine condKT_dec (fun hg => ?_) (fun hg => ?_) <;> (try (first | simp (maxSteps := 8000000) (implicitDefEqProofs := false) (disch := omega) only [↓reduceIte, go_sem, if_pos, if_neg, eq_false hg, eq_true hlt, hg, hq] | simp (maxSteps := 8000000) (implicitDefEqProofs := false) (disch := omega) only [↓reduceIte, go_sem, if_pos, if_neg, eq_true hg, eq_true hlt, hg, hq])))
        | (refine gdKT_split (fun hg => ?_) (fun hg => ?_) <;> (try simp (maxSteps := 8000000) (implicitDefEqProofs := false) (disch := omega) only [↓reduceIte, go_sem, if_pos, if_neg, hg, eq_true hlt, hg, hq]))
        | (refine condKT_split (fun hg => ?_) (fun hg => ?_) <;> (try simp (maxSteps := 8000000) (implicitDefEqProofs := false) (disch := omega) only [↓reduceIte, go_sem, if_pos, if_neg, hg, eq_true hlt, hg, hq]))
        | (refine endT_p (.inr rfl) (by simp (maxSteps := 8000000) (implicitDefEqProofs := false) (disch := omega) only [↓reduceIte, go_sem, if_pos, if_neg, eq_true hlt, hg, hq]; rfl) ?_; (first | exact vb_true (by omega) | exact vb_false (by omega) | exact vb_dec (by omega) | exact vi_eq (by omega) | rfl | (refine vi_eq ?_; simp_all; done) | (refine vi_eq ?_; simp_all; omega) | (refine vi_eq ?_; simp_all; intros; omega)))
        | exact endT_v (.inr rfl) (by simp (maxSteps := 8000000) (implicitDefEqProofs := false) (disch := omega) only [↓reduceIte, go_sem, if_pos, if_neg, eq_true hlt, hg, hq]; try rfl) (fun _ => rfl)
  · have hb : rows.take i = rows := List.take_of_length_le (by omega)
    rw [hb] at hk
    rw [if_pos (show _ by omega), show k - (N : Int) = k - (rows.length : Int) - (szRs rows : Int) by omega]
    simp (maxSteps := 8000000) (implicitDefEqProofs := false) (disch := omega) only [↓reduceIte, go_sem, if_pos, if_neg, eq_false hge, hb]
    refine joinK_here ?_
    simp (maxSteps := 8000000) (implicitDefEqProofs := false) (disch := omega) only [↓reduceIte, go_sem, if_pos, if_neg]
    repeat' first
      | (refine gdKT_dec (fun hg => ?_) (fun hg => ?_) <;> (try (first | simp (maxSteps := 8000000) (implicitDefEqProofs := false) (disch := omega) only [↓reduceIte, go_sem, if_pos, if_neg, eq_false hg] | simp (maxSteps := 8000000) (implicitDefEqProofs := false) (disch := omega) only [↓reduceIte, go_sem, if_pos, if_neg, eq_true hg])))
      | (refine condKT_dec (fun hg => ?_) (fun hg => ?_) <;> (try (first | simp (maxSteps := 8000000) (implicitDefEqProofs := false) (disch := omega) only [↓reduceIte, go_sem, if_pos, if_neg, eq_false hg] | simp (maxSteps := 8000000) (implicitDefEqProofs := false) (disch := omega) only [↓reduceIte, go_sem, if_pos, if_neg, eq_true hg])))
      | (refine gdKT_split (fun hg => ?_) (fun hg => ?_) <;> (try simp (maxSteps := 8000000) (implicitDefEqProofs := false) (disch := omega) only [↓reduceIte, go_sem, if_pos, if_neg, hg]))
      | (refine condKT_split (fun hg => ?_) (fun hg => ?_) <;> (try simp (maxSteps := 8000000) (implicitDefEqProofs := false) (disch := omega) only [↓reduceIte, go_sem, if_pos, if_neg, hg]))
      | (refine endT_p (.inr rfl) (by simp (maxSteps := 8000000) (implicitDefEqProofs := false) (disch := omega) only [↓reduceIte, go_sem, if_pos, if_neg]; rfl) ?_; (first | exact vb_true (by omega) | exact vb_false (by omega) | exact vb_dec (by omega) | exact vi_eq (by omega) | rfl | (refine vi_eq ?_; simp_all; done) | (refine vi_eq ?_; simp_all; omega) | (refine vi_eq ?_; simp_all; intros; omega)))
      | exact endT_v (.inr rfl) (by simp (maxSteps := 8000000) (implicitDefEqProofs := false) (disch := omega) only [↓reduceIte, go_sem, if_pos, if_neg]; try rfl) (fun _ => rfl)
def sh_Int64S : Shp := .sl 2 [.i .i64]
-- laws.toInt64S
def c144 : AF := ⟨22,
  (.seq (.reg [⟨(some 2), none, .mv (.v (.slice none 0 0))⟩])
  (.seq (.reg [⟨(some 5), none, .mv (.t 0)⟩,
   ⟨(some 6), none, .len (.t 5)⟩,
   ⟨(some 7), none, .mkSl 2 1 8 [(.int .i64 0)] (.t 6) (.t 6)⟩,
   ⟨(some 3), none, .mv (.t 7)⟩])
  (.seq (.seq (.reg [⟨(some 4), none, .mv (.v (.int .i64 0))⟩])
  (.block 0 (.loop (.seq (.seq (.reg [⟨(some 8), none, .mv (.t 4)⟩,
   ⟨(some 9), none, .mv (.t 0)⟩,
   ⟨(some 10), none, .len (.t 9)⟩,
   ⟨(some 11), none, .bin .lss (.t 8) (.t 10)⟩])
  (.cond (.t 11) .skip
  (.exit 0)))
  (.seq (.block 1 (.reg [⟨(some 14), none, .mv (.t 3)⟩,
   ⟨(some 15), none, .mv (.t 4)⟩,
   ⟨(some 16), none, .mv (.t 0)⟩,
   ⟨(some 17), none, .mv (.t 4)⟩,
   ⟨(some 18), none, .ia 1 (.t 16) (.t 17)⟩,
   ⟨(some 19), none, .ld (.t 18)⟩,
   ⟨(some 20), none, .ia 1 (.t 14) (.t 15)⟩,
   ⟨none, none, .st 1 (.t 20) (.t 19)⟩]))
  (.reg [⟨(some 12), none, .mv (.t 4)⟩,
   ⟨(some 13), none, .bin .add (.t 12) (.v (.int .i64 1))⟩,
   ⟨(some 4), none, .mv (.t 13)⟩]))))))
  (.seq (.reg [⟨(some 21), none, .mv (.t 3)⟩,
   ⟨(some 2), none, .mv (.t 21)⟩])
  .ret)))),
  [.t 2]⟩
theorem k144 : cFn Try.prog Try.f144 = some c144 := by kernel_rfl
theorem toInt64S_ok : OkT Try.prog 144 (pureSp (toC_S sh_Int64S)) := by
  refine okT_toC (OkΓT.nil _) Try.func144 (by kernel_rfl) k144 ?_
  intro c hc hz
  simp only [sh_Int64S, HasC] at hc
  obtain ⟨rows, rfl, hr⟩ := hc
  simp only [szC] at hz
  have hlen : ∀ r ∈ rows, r.length = 1 := fun r hx => (hr r hx).len
  generalize hzz : (el [.p (.int .i64 0)] : TV) = z0
  have hz1 : cellsT z0 = [.p (.int .i64 0)] := by rw [← hzz]; rfl
  simp only [fzC, tvC_v, tvC_nl, tvC_sl, bkC]
  (dsimp only [c144]; simp (maxSteps := 8000000) (implicitDefEqProofs := false) (disch := omega) only [↓reduceIte, go_sem, if_pos, if_neg, hzz, mixR_zero 1 rows z0])
  refine awpT_loop (α := Nat) (fun i => ⟨slots [(0, .s (fzRs rows)), (3, .os 0 0 rows.length), (4, .p (.int .i64 i))], .cells 2 1 (mixR 1 rows z0 i) :: bkRs 1 (rows.take i)⟩)
    (fun i => i ≤ rows.length) (fun i => rows.length - i) 0 (Nat.zero_le _) (by simp only [List.take_zero, bkRs]; exact le_keep (Nat.zero_le _) (by simp (maxSteps := 8000000) (implicitDefEqProofs := false) (disch := omega) only [↓reduceIte, go_sem, if_pos, if_neg, slotsIn])) ?_
  intro i hi
  simp (maxSteps := 8000000) (implicitDefEqProofs := false) (disch := omega) only [↓reduceIte, go_sem, if_pos, if_neg, mixR_len 1 rows z0 hi]
  refine condKT_dec (fun hlt => ?_) (fun hge => ?_)
  · obtain ⟨r, hx⟩ := get_ex (l := rows) (i := i) (by omega)
    have hrr := hr r (List.mem_of_getElem? hx)
    have hzr := szRs_mem hx
    have hg := fzRs_get hx; have hm := mixR_get 1 (rows := rows) z0 (i := i) (by omega)
    have hs := mixR_set 1 z0 hx; have hb := bkRs_snoc 1 hx; have hn := bkRs_len 1 (rows.take i)
    obtain ⟨_, _, rfl, ⟨a0, rfl, _⟩, hrr⟩ := hrr; simp only [HasR] at hrr; subst hrr
    simp only [fzCs, fzC, tvCs, tvC_v, tvC_nl, tvC_sl, bkCs, bkC, nbC, nbCs, Nat.add_zero, List.append_nil, List.nil_append, el_one, el_two, Nat.add_comm 1 (nbRs _)] at hg hs hb
    simp (maxSteps := 8000000) (implicitDefEqProofs := false) (disch := omega) only [↓reduceIte, go_sem, if_pos, if_neg, eq_true hlt, hg, hm, hs, hn, hz1, el_two]
    refine loopKT_next (i + 1) (by omega) (by omega) ?_
    rw [hb]; refine (le_keep (Nat.zero_le _) ?_) <;> simp (maxSteps := 8000000) (implicitDefEqProofs := false) (disch := omega) only [↓reduceIte, go_sem, if_pos, if_neg, slotsIn]
  · have hb : rows.take i = rows := List.take_of_length_le (by omega)
    have hm := mixR_full 1 (rows := rows) z0 (i := i) (by omega)
    simp (maxSteps := 8000000) (implicitDefEqProofs := false) (disch := omega) only [↓reduceIte, go_sem, if_pos, if_neg, eq_false hge, hb, hm]
    refine joinK_here ?_
    simp (maxSteps := 8000000) (implicitDefEqProofs := false) (disch := omega) only [↓reduceIte, go_sem, if_pos, if_neg]
    exact endT_same (.inr rfl) (by (simp (maxSteps := 8000000) (implicitDefEqProofs := false) (disch := omega) only [↓reduceIte, go_sem, if_pos, if_neg]) <;> rfl) rfl
-- laws.eqInt64S
def c151 : AF := ⟨26,
  (.seq (.reg [⟨(some 4), none, .mv (.v (.bool false))⟩])
  (.seq (.seq (.reg [⟨(some 6), none, .mv (.t 0)⟩,
   ⟨(some 7), none, .len (.t 6)⟩,
   ⟨(some 8), none, .mv (.t 1)⟩,
   ⟨(some 9), none, .len (.t 8)⟩,
   ⟨(some 10), none, .bin .neq (.t 7) (.t 9)⟩])
  (.cond (.t 10) (.seq (.reg [⟨(some 4), none, .mv (.v (.bool false))⟩])
  .ret)
  .skip))
  (.seq (.seq (.reg [⟨(some 5), none, .mv (.v (.int .i64 0))⟩])
  (.block 0 (.loop (.seq (.seq (.reg [⟨(some 11), none, .mv (.t 5)⟩,
   ⟨(some 12), none, .mv (.t 0)⟩,
   ⟨(some 13), none, .len (.t 12)⟩,
   ⟨(some 14), none, .bin .lss (.t 11) (.t 13)⟩])
  (.cond (.t 14) .skip
  (.exit 0)))
  (.seq (.block 1 (.seq (.drw [⟨(some 17), none, .mv (.t 0)⟩,
   ⟨(some 18), none, .mv (.t 5)⟩,
   ⟨(some 19), none, .ia 1 (.t 17) (.t 18)⟩,
   ⟨(some 20), none, .ld (.t 19)⟩,
   ⟨(some 21), none, .mv (.t 1)⟩,
   ⟨(some 22), none, .mv (.t 5)⟩,
   ⟨(some 23), none, .ia 1 (.t 21) (.t 22)⟩,
   ⟨(some 24), none, .ld (.t 23)⟩] [⟨(some 25), none, .bin .neq (.t 20) (.t 24)⟩])
  (.cond (.t 25) (.seq (.reg [⟨(some 4), none, .mv (.v (.bool false))⟩])
  .ret)
  .skip)))
  (.reg [⟨(some 15), none, .mv (.t 5)⟩,
   ⟨(some 16), none, .bin .add (.t 15) (.v (.int .i64 1))⟩,
   ⟨(some 5), none, .mv (.t 16)⟩]))))))
  (.seq (.reg [⟨(some 4), none, .mv (.v (.bool true))⟩])
  .ret)))),
  [.t 4]⟩
theorem k151 : cFn Try.prog Try.f151 = some c151 := by kernel_rfl
theorem eqInt64S_ok : OkT Try.prog 151 (pureSp (eqC_S sh_Int64S)) := by
  refine okT_eqC (OkΓT.nil _) Try.func151 (by kernel_rfl) k151 ?_
  intro c hc hz
  obtain ⟨rows, hf, hr, hsz, _⟩ := FitC.rows hc
  rw [hf]
  (dsimp only [c151]; simp (maxSteps := 8000000) (implicitDefEqProofs := false) (disch := omega) only [↓reduceIte, go_sem, if_pos, if_neg])
  refine awpT_loop (α := Nat) (fun i => ⟨slots [(0, .s (fzRs rows)), (1, .s (fzRs rows)), (5, .p (.int .i64 i))], []⟩) (fun i => i ≤ rows.length) (fun i => rows.length - i) 0 (Nat.zero_le _) (le_of [] (by simp (maxSteps := 8000000) (implicitDefEqProofs := false) (disch := omega) only [↓reduceIte, go_sem, if_pos, if_neg]) (by simp (maxSteps := 8000000) (implicitDefEqProofs := false) (disch := omega) only [↓reduceIte, go_sem, if_pos, if_neg]) (by decide) (by simp)) ?_
  intro i hi
  simp (maxSteps := 8000000) (implicitDefEqProofs := false) (disch := omega) only [↓reduceIte, go_sem, if_pos, if_neg]
  refine condKT_dec (fun hlt => ?_) (fun hge => ?_)
  · obtain ⟨r, hx⟩ := get_ex (l := rows) (i := i) (by omega)
    have hrr := hr r (List.mem_of_getElem? hx)
    have hzr := szRs_mem hx
    have hg := fzRs_get hx
    obtain ⟨_, _, rfl, ⟨a0, rfl⟩, hrr⟩ := hrr; simp only [FitR] at hrr; subst hrr
    simp only [szCs, szC] at hzr
    simp only [fzCs, fzC, el_one, el_two] at hg
    simp (maxSteps := 8000000) (implicitDefEqProofs := false) (disch := omega) only [↓reduceIte, go_sem, if_pos, if_neg, eq_true hlt, hg, not_true, decide_false]
    refine loopKT_next (i + 1) (by omega) (by omega) ?_
    exact (le_of [] (by simp (maxSteps := 8000000) (implicitDefEqProofs := false) (disch := omega) only [↓reduceIte, go_sem, if_pos, if_neg]) (by simp (maxSteps := 8000000) (implicitDefEqProofs := false) (disch := omega) only [↓reduceIte, go_sem, if_pos, if_neg]) (by decide) (by simp))
  · simp (maxSteps := 8000000) (implicitDefEqProofs := false) (disch := omega) only [↓reduceIte, go_sem, if_pos, if_neg, eq_false hge]
    refine joinK_here ?_
    simp (maxSteps := 8000000) (implicitDefEqProofs := false) (disch := omega) only [↓reduceIte, go_sem, if_pos, if_neg]
    repeat' first
      | (refine gdKT_dec (fun hg => ?_) (fun hg => ?_) <;> (try (first | simp (maxSteps := 8000000) (implicitDefEqProofs := false) (disch := omega) only [↓reduceIte, go_sem, if_pos, if_neg, eq_false hg] | simp (maxSteps := 8000000) (implicitDefEqProofs := false) (disch := omega) only [↓reduceIte, go_sem, if_pos, if_neg, eq_true hg])))
      | (refine condKT_dec (fun hg => ?_) (fun hg => ?_) <;> (try (first | simp (maxSteps := 8000000) (implicitDefEqProofs := false) (disch := omega) only [↓reduceIte, go_sem, if_pos, if_neg, eq_false hg] | simp (maxSteps := 8000000) (implicitDefEqProofs := false) (disch := omega) only [↓reduceIte, go_sem, if_pos, if_neg, eq_true hg])))
      | (refine gdKT_split (fun hg => ?_) (fun hg => ?_) <;> (try simp (maxSteps := 8000000) (implicitDefEqProofs := false) (disch := omega) only [↓reduceIte, go_sem, if_pos, if_neg, hg]))
      | (refine condKT_split (fun hg => ?_) (fun hg => ?_) <;> (try simp (maxSteps := 8000000) (implicitDefEqProofs := false) (disch := omega) only [↓reduceIte, go_sem, if_pos, if_neg, hg]))
      | (refine endT_p (.inr rfl) (by simp (maxSteps := 8000000) (implicitDefEqProofs := false) (disch := omega) only [↓reduceIte, go_sem, if_pos, if_neg]; rfl) ?_; (first | exact vb_true (by omega) | exact vb_false (by omega) | exact vb_dec (by omega) | exact vi_eq (by omega) | rfl | (refine vi_eq ?_; simp_all; done) | (refine vi_eq ?_; simp_all; omega) | (refine vi_eq ?_; simp_all; intros; omega)))
      | exact endT_v (.inr rfl) (by simp (maxSteps := 8000000) (implicitDefEqProofs := false) (disch := omega) only [↓reduceIte, go_sem, if_pos, if_neg]; try rfl) (fun _ => rfl)
-- laws.szInt64S
def c142 : AF := ⟨12,
  (.seq (.reg [⟨(some 4), none, .mv (.v (.int .i64 0))⟩])
  (.seq (.reg [⟨(some 5), none, .mv (.t 1)⟩,
   ⟨(some 6), none, .mv (.t 0)⟩,
   ⟨(some 7), none, .len (.t 6)⟩,
   ⟨(some 8), none, .bin .sub (.t 5) (.t 7)⟩,
   ⟨(some 1), none, .mv (.t 8)⟩])
  (.seq (.seq (.reg [⟨(some 9), none, .mv (.t 1)⟩,
   ⟨(some 10), none, .bin .lss (.t 9) (.v (.int .i64 0))⟩])
  (.cond (.t 10) (.seq (.reg [⟨(some 4), none, .mv (.v (.int .i64 (-1)))⟩])
  .ret)
  .skip))
  (.seq (.reg [⟨(some 11), none, .mv (.t 1)⟩,
   ⟨(some 4), none, .mv (.t 11)⟩])
  .ret)))),
  [.t 4]⟩
theorem k142 : cFn Try.prog Try.f142 = some c142 := by kernel_rfl
theorem szInt64S_ok : OkT Try.prog 142 (pureSp (szC_S sh_Int64S)) := by
  refine okT_szC (OkΓT.nil _) Try.func142 (by kernel_rfl) k142 ?_
  intro c k hc h1 h2 hz
  simp only [sh_Int64S, HasC] at hc
  obtain ⟨rows, rfl, hr⟩ := hc
  generalize hN : szC _ = N at *
  simp only [szC] at hN
  simp only [lnC, Bool.and_eq_true, decide_eq_true_eq] at hz
  obtain ⟨hz, hzr⟩ := hz
  simp only [fzC]
  have hz0 : szRs rows = 0 := szRs_zero fun r hx => by
    have hrr := hr r hx
    obtain ⟨_, _, rfl, ⟨a0, rfl, _⟩, hrr⟩ := hrr; simp only [HasR] at hrr; subst hrr
    rfl
  by_cases q : (rows.length : Int) ≤ k
  · rw [if_pos (by omega), show (N : Int) = rows.length by omega]
    (dsimp only [c142]; simp (maxSteps := 8000000) (implicitDefEqProofs := false) (disch := omega) only [↓reduceIte, go_sem, if_pos, if_neg])
    repeat' first
      | (refine gdKT_dec (fun hg => ?_) (fun hg => ?_) <;> (try (first | simp (maxSteps := 8000000) (implicitDefEqProofs := false) (disch := omega) only [↓reduceIte, go_sem, if_pos, if_neg, eq_false hg] | simp (maxSteps := 8000000) (implicitDefEqProofs := false) (disch := omega) only [↓reduceIte, go_sem, if_pos, if_neg, eq_true hg])))
      | (refine condKT_dec (fun hg => ?_) (fun hg => ?_) <;> (try (first | simp (maxSteps := 8000000) (implicitDefEqProofs := false) (disch := omega) only [↓reduceIte, go_sem, if_pos, if_neg, eq_false hg] | simp (maxSteps := 8000000) (implicitDefEqProofs := false) (disch := omega) only [↓reduceIte, go_sem, if_pos, if_neg, eq_true hg])))
      | (refine gdKT_split (fun hg => ?_) (fun hg => ?_) <;> (try simp (maxSteps := 8000000) (implicitDefEqProofs := false) (disch := omega) only [↓reduceIte, go_sem, if_pos, if_neg, hg]))
      | (refine condKT_split (fun hg => ?_) (fun hg => ?_) <;> (try simp (maxSteps := 8000000) (implicitDefEqProofs := false) (disch := omega) only [↓reduceIte, go_sem, if_pos, if_neg, hg]))
      | (refine endT_p (.inr rfl) (by simp (maxSteps := 8000000) (implicitDefEqProofs := false) (disch := omega) only [↓reduceIte, go_sem, if_pos, if_neg]; rfl) ?_; (first | exact vb_true (by omega) | exact vb_false (by omega) | exact vb_dec (by omega) | exact vi_eq (by omega) | rfl | (refine vi_eq ?_; simp_all; done) | (refine vi_eq ?_; simp_all; omega) | (refine vi_eq ?_; simp_all; intros; omega)))
      | exact endT_v (.inr rfl) (by simp (maxSteps := 8000000) (implicitDefEqProofs := false) (disch := omega) only [↓reduceIte, go_sem, if_pos, if_neg]; try rfl) (fun _ => rfl)
  · rw [if_neg (by omega)]
    (dsimp only [c142]; simp (maxSteps := 8000000) (implicitDefEqProofs := false) (disch := omega) only [↓reduceIte, go_sem, if_pos, if_neg])
    repeat' first
      | (refine gdKT_dec (fun hg => ?_) (fun hg => ?_) <;> (try (first | simp (maxSteps := 8000000) (implicitDefEqProofs := false) (disch := omega) only [↓reduceIte, go_sem, if_pos, if_neg, eq_false hg] | simp (maxSteps := 8000000) (implicitDefEqProofs := false) (disch := omega) only [↓reduceIte, go_sem, if_pos, if_neg, eq_true hg])))
      | (refine condKT_dec (fun hg => ?_) (fun hg => ?_) <;> (try (first | simp (maxSteps := 8000000) (implicitDefEqProofs := false) (disch := omega) only [↓reduceIte, go_sem, if_pos, if_neg, eq_false hg] | simp (maxSteps := 8000000) (implicitDefEqProofs := false) (disch := omega) only [↓reduceIte, go_sem, if_pos, if_neg, eq_true hg])))
      | (refine gdKT_split (fun hg => ?_) (fun hg => ?_) <;> (try simp (maxSteps := 8000000) (implicitDefEqProofs := false) (disch := omega) only [↓reduceIte, go_sem, if_pos, if_neg, hg]))
      | (refine condKT_split (fun hg => ?_) (fun hg => ?_) <;> (try simp (maxSteps := 8000000) (implicitDefEqProofs := false) (disch := omega) only [↓reduceIte, go_sem, if_pos, if_neg, hg]))
      | (refine endT_p (.inr rfl) (by simp (maxSteps := 8000000) (implicitDefEqProofs := false) (disch := omega) only [↓reduceIte, go_sem, if_pos, if_neg]; rfl) ?_; (first | exact vb_true (by omega) | exact vb_false (by omega) | exact vb_dec (by omega) | exact vi_eq (by omega) | rfl | (refine vi_eq ?_; simp_all; done) | (refine vi_eq ?_; simp_all; omega) | (refine vi_eq ?_; simp_all; intros; omega)))
      | exact endT_v (.inr rfl) (by simp (maxSteps := 8000000) (implicitDefEqProofs := false) (disch := omega) only [↓reduceIte, go_sem, if_pos, if_neg]; try rfl) (fun _ => rfl)
/-! Box -/
def sh_Box : List Shp := [.i .i64, sh_RuleS, sh_PeerS, sh_SaS, .i .i64, sh_Int64S]
theorem sh_Box_Has {cs : List Cell} (h : HasR sh_Box cs) : ∃ (a0 : Int) (a4 : Int) (c1 : Cell) (c2 : Cell) (c3 : Cell) (c5 : Cell), cs = [.v (.int .i64 a0), c1, c2, c3, .v (.int .i64 a4), c5] ∧ HasC sh_RuleS c1 ∧ HasC sh_PeerS c2 ∧ HasC sh_SaS c3 ∧ HasC sh_Int64S c5 := by
  obtain ⟨_, _, rfl, ⟨a0, rfl, _⟩, c1, _, rfl, hc1, c2, _, rfl, hc2, c3, _, rfl, hc3, _, _, rfl, ⟨a4, rfl, _⟩, c5, _, rfl, hc5, h⟩ := h
  simp only [HasR] at h; subst h
  exact ⟨a0, a4, c1, c2, c3, c5, rfl, hc1, hc2, hc3, hc5⟩
theorem sh_Box_mkHas {c1 : Cell} {c2 : Cell} {c3 : Cell} {c5 : Cell} (hc1 : HasC sh_RuleS c1) (hc2 : HasC sh_PeerS c2) (hc3 : HasC sh_SaS c3) (hc5 : HasC sh_Int64S c5) (a0 : Int) (a4 : Int) : HasR sh_Box [.v (.int .i64 a0), c1, c2, c3, .v (.int .i64 a4), c5] := by
  exact ⟨_, _, rfl, ⟨_, rfl, fun h => by cases h⟩, _, _, rfl, hc1, _, _, rfl, hc2, _, _, rfl, hc3, _, _, rfl, ⟨_, rfl, fun h => by cases h⟩, _, _, rfl, hc5, rfl⟩
theorem sh_Box_Fit {cs : List Cell} (h : FitR sh_Box cs) : ∃ (a0 : Int) (a4 : Int) (c1 : Cell) (c2 : Cell) (c3 : Cell) (c5 : Cell), cs = [.v (.int .i64 a0), c1, c2, c3, .v (.int .i64 a4), c5] ∧ FitC sh_RuleS c1 ∧ FitC sh_PeerS c2 ∧ FitC sh_SaS c3 ∧ FitC sh_Int64S c5 := by
  obtain ⟨_, _, rfl, ⟨a0, rfl⟩, c1, _, rfl, hc1, c2, _, rfl, hc2, c3, _, rfl, hc3, _, _, rfl, ⟨a4, rfl⟩, c5, _, rfl, hc5, h⟩ := h
  simp only [FitR] at h; subst h
  exact ⟨a0, a4, c1, c2, c3, c5, rfl, hc1, hc2, hc3, hc5⟩
theorem sh_Box_mkFit {c1 : Cell} {c2 : Cell} {c3 : Cell} {c5 : Cell} (hc1 : FitC sh_RuleS c1) (hc2 : FitC sh_PeerS c2) (hc3 : FitC sh_SaS c3) (hc5 : FitC sh_Int64S c5) (a0 : Int) (a4 : Int) : FitR sh_Box [.v (.int .i64 a0), c1, c2, c3, .v (.int .i64 a4), c5] := by
  exact ⟨_, _, rfl, ⟨_, rfl⟩, _, _, rfl, hc1, _, _, rfl, hc2, _, _, rfl, hc3, _, _, rfl, ⟨_, rfl⟩, _, _, rfl, hc5, rfl⟩
theorem to_Box_at {c1 : Cell} {c2 : Cell} {c3 : Cell} {c5 : Cell} (hc1 : HasC sh_RuleS c1) (hc2 : HasC sh_PeerS c2) (hc3 : HasC sh_SaS c3) (hc5 : HasC sh_Int64S c5) (hz : szC c1 + szC c2 + szC c3 + szC c5 ≤ 1048576) (a0 : Int) (a4 : Int) : toR_S sh_Box [.agg [.p (.int .i64 a0), fzC c1, fzC c2, fzC c3, .p (.int .i64 a4), fzC c5]] = some (.agg [.p (.int .i64 a0), tvC (0) c1, tvC (nbC c1) c2, tvC (nbC c1 + nbC c2) c3, .p (.int .i64 a4), tvC (nbC c1 + nbC c2 + nbC c3) c5], (bkC (0) c1 ++ (bkC (nbC c1) c2 ++ (bkC (nbC c1 + nbC c2) c3 ++ (bkC (nbC c1 + nbC c2 + nbC c3) c5))))) := by
  have := toR_at (sh_Box_mkHas hc1 hc2 hc3 hc5 a0 a4) (by simp only [szCs, szC]; omega)
  simpa only [fzCs, fzC, tvCs, tvC_v, tvC_nl, tvC_sl, bkCs, bkC, nbC, nbCs, Nat.add_zero, List.append_nil, List.nil_append, Nat.zero_add] using this
-- laws.toBox
def c53 : AF := ⟨27,
  (.seq (.reg [⟨(some 1), none, .box 85 (.t 0)⟩,
   ⟨(some 2), none, .alloc 91 [(.int .i64 0), (.slice none 0 0), (.slice none 0 0), (.slice none 0 0), (.int .i64 0), (.slice none 0 0)]⟩])
  (.seq (.reg [⟨(some 3), none, .alloc 91 [(.int .i64 0), (.slice none 0 0), (.slice none 0 0), (.slice none 0 0), (.int .i64 0), (.slice none 0 0)]⟩])
  (.seq (.reg [⟨(some 4), none, .fa (.t 1) 0⟩,
   ⟨(some 5), none, .ld (.t 4)⟩,
   ⟨(some 6), none, .fa (.t 3) 0⟩,
   ⟨none, none, .st 1 (.t 6) (.t 5)⟩])
  (.seq (.reg [⟨(some 7), none, .fa (.t 1) 1⟩,
   ⟨(some 8), none, .ld (.t 7)⟩,
   ⟨(some 9), none, .call 62 [(.t 8)]⟩,
   ⟨(some 10), none, .fa (.t 3) 1⟩,
   ⟨none, none, .st 1 (.t 10) (.t 9)⟩])
  (.seq (.reg [⟨(some 11), none, .fa (.t 1) 2⟩,
   ⟨(some 12), none, .ld (.t 11)⟩,
   ⟨(some 13), none, .call 63 [(.t 12)]⟩,
   ⟨(some 14), none, .fa (.t 3) 2⟩,
   ⟨none, none, .st 1 (.t 14) (.t 13)⟩])
  (.seq (.reg [⟨(some 15), none, .fa (.t 1) 3⟩,
   ⟨(some 16), none, .ld (.t 15)⟩,
   ⟨(some 17), none, .call 83 [(.t 16)]⟩,
   ⟨(some 18), none, .fa (.t 3) 3⟩,
   ⟨none, none, .st 1 (.t 18) (.t 17)⟩])
  (.seq (.reg [⟨(some 19), none, .fa (.t 1) 4⟩,
   ⟨(some 20), none, .ld (.t 19)⟩,
   ⟨(some 21), none, .fa (.t 3) 4⟩,
   ⟨none, none, .st 1 (.t 21) (.t 20)⟩])
  (.seq (.reg [⟨(some 22), none, .fa (.t 1) 5⟩,
   ⟨(some 23), none, .ld (.t 22)⟩,
   ⟨(some 24), none, .call 144 [(.t 23)]⟩,
   ⟨(some 25), none, .fa (.t 3) 5⟩,
   ⟨none, none, .st 1 (.t 25) (.t 24)⟩])
  (.seq (.reg [⟨(some 26), none, .ldn 6 (.t 3)⟩,
   ⟨none, none, .st 6 (.t 2) (.t 26)⟩])
  .ret))))))))),
  [.cell 2 (some 6)]⟩
theorem k53 : cFn Try.prog Try.f53 = some c53 := by kernel_rfl
theorem toBox_ok : OkT Try.prog 53 (pureSp (toR_S sh_Box)) := by
  refine okT_toR (OkΓT.cons toRuleS_ok (OkΓT.cons toPeerS_ok (OkΓT.cons toSaS_ok (OkΓT.cons toInt64S_ok (OkΓT.nil _))))) Try.func53 (by kernel_rfl) k53 ?_
  intro c hc hz
  obtain ⟨a0, a4, c1, c2, c3, c5, rfl, hc1, hc2, hc3, hc5⟩ := sh_Box_Has hc
  simp only [szCs, szC] at hz
  simp only [fzCs, fzC]
  (dsimp only [c53]; simp (maxSteps := 8000000) (implicitDefEqProofs := false) (disch := omega) only [↓reduceIte, go_sem, if_pos, if_neg, toC_at hc1 (by omega), toC_at hc2 (by omega), toC_at hc3 (by omega), toC_at hc5 (by omega)])
  have w1 : nbC c1 + 1 + 1 + 1 = 3 + nbC c1 := by omega
  have w2 : nbC c1 + (nbC c2) + 1 + 1 + 1 = 3 + nbC c1 + nbC c2 := by omega
  have w3 : nbC c1 + (nbC c2 + (nbC c3)) + 1 + 1 + 1 = 3 + nbC c1 + nbC c2 + nbC c3 := by omega
  refine endT_cells' 3 (.inr rfl) (by (simp (maxSteps := 8000000) (implicitDefEqProofs := false) (disch := omega) only [↓reduceIte, go_sem, if_pos, if_neg, fzCs, fzC, tvCs, tvC_v, tvC_nl, tvC_sl, bkCs, bkC, nbC, nbCs, Nat.add_zero, List.append_nil, List.nil_append, bkC_len, w1, w2, w3]) <;> rfl) ?_ (by simp only [List.length_cons]; omega)
  simp only [List.drop_succ_cons, List.drop_zero, bkCs, bkC, nbC, Nat.add_zero, List.append_nil, List.nil_append, List.cons_append, bkC_len, w1, w2, w3]
theorem eq_Box_at {c1 : Cell} {c2 : Cell} {c3 : Cell} {c5 : Cell} (hc1 : FitC sh_RuleS c1) (hc2 : FitC sh_PeerS c2) (hc3 : FitC sh_SaS c3) (hc5 : FitC sh_Int64S c5) (hz : szC c1 + szC c2 + szC c3 + szC c5 ≤ 1099511627776) (a0 : Int) (a4 : Int) : eqR_S sh_Box [.agg [.p (.int .i64 a0), fzC c1, fzC c2, fzC c3, .p (.int .i64 a4), fzC c5], .agg [.p (.int .i64 a0), fzC c1, fzC c2, fzC c3, .p (.int .i64 a4), fzC c5]] = some (.p (.bool true), []) := by
  exact eqR_at (sh_Box_mkFit hc1 hc2 hc3 hc5 a0 a4) (by simp only [szCs, szC]; omega)
-- laws.eqBox
def c55 : AF := ⟨39,
  (.seq (.reg [⟨(some 2), none, .box 91 (.t 0)⟩,
   ⟨(some 3), none, .box 91 (.t 1)⟩,
   ⟨(some 4), none, .mv (.v (.bool false))⟩])
  (.seq (.seq (.reg [⟨(some 5), none, .fa (.t 2) 0⟩,
   ⟨(some 6), none, .ld (.t 5)⟩,
   ⟨(some 7), none, .fa (.t 3) 0⟩,
   ⟨(some 8), none, .ld (.t 7)⟩,
   ⟨(some 9), none, .bin .neq (.t 6) (.t 8)⟩])
  (.cond (.t 9) (.seq (.reg [⟨(some 4), none, .mv (.v (.bool false))⟩])
  .ret)
  .skip))
  (.seq (.seq (.reg [⟨(some 10), none, .fa (.t 2) 1⟩,
   ⟨(some 11), none, .ld (.t 10)⟩,
   ⟨(some 12), none, .fa (.t 3) 1⟩,
   ⟨(some 13), none, .ld (.t 12)⟩,
   ⟨(some 14), none, .call 66 [(.t 11), (.t 13)]⟩,
   ⟨(some 15), none, .un .not (.t 14)⟩])
  (.cond (.t 15) (.seq (.reg [⟨(some 4), none, .mv (.v (.bool false))⟩])
  .ret)
  .skip))
  (.seq (.seq (.reg [⟨(some 16), none, .fa (.t 2) 2⟩,
   ⟨(some 17), none, .ld (.t 16)⟩,
   ⟨(some 18), none, .fa (.t 3) 2⟩,
   ⟨(some 19), none, .ld (.t 18)⟩,
   ⟨(some 20), none, .call 67 [(.t 17), (.t 19)]⟩,
   ⟨(some 21), none, .un .not (.t 20)⟩])
  (.cond (.t 21) (.seq (.reg [⟨(some 4), none, .mv (.v (.bool false))⟩])
  .ret)
  .skip))
  (.seq (.seq (.reg [⟨(some 22), none, .fa (.t 2) 3⟩,
   ⟨(some 23), none, .ld (.t 22)⟩,
   ⟨(some 24), none, .fa (.t 3) 3⟩,
   ⟨(some 25), none, .ld (.t 24)⟩,
   ⟨(some 26), none, .call 86 [(.t 23), (.t 25)]⟩,
   ⟨(some 27), none, .un .not (.t 26)⟩])
  (.cond (.t 27) (.seq (.reg [⟨(some 4), none, .mv (.v (.bool false))⟩])
  .ret)
  .skip))
  (.seq (.seq (.reg [⟨(some 28), none, .fa (.t 2) 4⟩,
   ⟨(some 29), none, .ld (.t 28)⟩,
   ⟨(some 30), none, .fa (.t 3) 4⟩,
   ⟨(some 31), none, .ld (.t 30)⟩,
   ⟨(some 32), none, .bin .neq (.t 29) (.t 31)⟩])
  (.cond (.t 32) (.seq (.reg [⟨(some 4), none, .mv (.v (.bool false))⟩])
  .ret)
  .skip))
  (.seq (.seq (.reg [⟨(some 33), none, .fa (.t 2) 5⟩,
   ⟨(some 34), none, .ld (.t 33)⟩,
   ⟨(some 35), none, .fa (.t 3) 5⟩,
   ⟨(some 36), none, .ld (.t 35)⟩,
   ⟨(some 37), none, .call 151 [(.t 34), (.t 36)]⟩,
   ⟨(some 38), none, .un .not (.t 37)⟩])
  (.cond (.t 38) (.seq (.reg [⟨(some 4), none, .mv (.v (.bool false))⟩])
  .ret)
  .skip))
  (.seq (.reg [⟨(some 4), none, .mv (.v (.bool true))⟩])
  .ret)))))))),
  [.t 4]⟩
theorem k55 : cFn Try.prog Try.f55 = some c55 := by kernel_rfl
theorem eqBox_ok : OkT Try.prog 55 (pureSp (eqR_S sh_Box)) := by
  refine okT_eqR (OkΓT.cons eqRuleS_ok (OkΓT.cons eqPeerS_ok (OkΓT.cons eqSaS_ok (OkΓT.cons eqInt64S_ok (OkΓT.nil _))))) Try.func55 (by kernel_rfl) k55 ?_
  intro c hc hz
  obtain ⟨a0, a4, c1, c2, c3, c5, rfl, hc1, hc2, hc3, hc5⟩ := sh_Box_Fit hc
  simp only [szCs, szC] at hz
  simp only [fzCs, fzC]
  (dsimp only [c55]; simp (maxSteps := 8000000) (implicitDefEqProofs := false) (disch := omega) only [↓reduceIte, go_sem, if_pos, if_neg, eqC_at hc1 (by omega), eqC_at hc2 (by omega), eqC_at hc3 (by omega), eqC_at hc5 (by omega)])
  repeat' first
    | (refine gdKT_dec (fun hg => ?_) (fun hg => ?_) <;> (try (first | simp (maxSteps := 8000000) (implicitDefEqProofs := false) (disch := omega) only [↓reduceIte, go_sem, if_pos, if_neg, eq_false hg, eqC_at hc1 (by omega), eqC_at hc2 (by omega), eqC_at hc3 (by omega), eqC_at hc5 (by omega)] | simp (maxSteps := 8000000) (implicitDefEqProofs := false) (disch := omega) only [↓reduceIte, go_sem, if_pos, if_neg, eq_true hg, eqC_at hc1 (by omega), eqC_at hc2 (by omega), eqC_at hc3 (by omega), eqC_at hc5 (by omega)])))
    | (refine condKT_dec (fun hg => ?_) (fun hg => ?_) <;> (try (first | simp (maxSteps := 8000000) (implicitDefEqProofs := false) (disch := omega) only [↓reduceIte, go_sem, if_pos, if_neg, eq_false hg, eqC_at hc1 (by omega), eqC_at hc2 (by omega), eqC_at hc3 (by omega), eqC_at hc5 (by omega)] | simp (maxSteps := 8000000) (implicitDefEqProofs := false) (disch := omega) only [↓reduceIte, go_sem, if_pos, if_neg, eq_true hg, eqC_at hc1 (by omega), eqC_at hc2 (by omega), eqC_at hc3 (by omega), eqC_at hc5 (by omega)])))
    | (refine gdKT_split (fun hg => ?_) (fun hg => ?_) <;> (try simp (maxSteps := 8000000) (implicitDefEqProofs := false) (disch := omega) only [↓reduceIte, go_sem, if_pos, if_neg, hg, eqC_at hc1 (by omega), eqC_at hc2 (by omega), eqC_at hc3 (by omega), eqC_at hc5 (by omega)]))
    | (refine condKT_split (fun hg => ?_) (fun hg => ?_) <;> (try simp (maxSteps := 8000000) (implicitDefEqProofs := false) (disch := omega) only [↓reduceIte, go_sem, if_pos, if_neg, hg, eqC_at hc1 (by omega), eqC_at hc2 (by omega), eqC_at hc3 (by omega), eqC_at hc5 (by omega)]))
    | (refine endT_p (.inr rfl) (by simp (maxSteps := 8000000) (implicitDefEqProofs := false) (disch := omega) only [↓reduceIte, go_sem, if_pos, if_neg, eqC_at hc1 (by omega), eqC_at hc2 (by omega), eqC_at hc3 (by omega), eqC_at hc5 (by omega)]; rfl) ?_; (first | exact vb_true (by omega) | exact vb_false (by omega) | exact vb_dec (by omega) | exact vi_eq (by omega) | rfl | (refine vi_eq ?_; simp_all; done) | (refine vi_eq ?_; simp_all; omega) | (refine vi_eq ?_; simp_all; intros; omega)))
    | exact endT_v (.inr rfl) (by simp (maxSteps := 8000000) (implicitDefEqProofs := false) (disch := omega) only [↓reduceIte, go_sem, if_pos, if_neg, eqC_at hc1 (by omega), eqC_at hc2 (by omega), eqC_at hc3 (by omega), eqC_at hc5 (by omega)]; try rfl) (fun _ => rfl)
theorem sz_Box_at {c1 : Cell} {c2 : Cell} {c3 : Cell} {c5 : Cell} (hc1 : HasC sh_RuleS c1) (hc2 : HasC sh_PeerS c2) (hc3 : HasC sh_SaS c3) (hc5 : HasC sh_Int64S c5) {k : Int} (hk : 0 ≤ k ∧ k ≤ 1048576) (hz : lnC c1 = true ∧ lnC c2 = true ∧ lnC c3 = true ∧ lnC c5 = true) (a0 : Int) (a4 : Int) : szR_S sh_Box [.agg [.p (.int .i64 a0), fzC c1, fzC c2, fzC c3, .p (.int .i64 a4), fzC c5], .p (.int .i64 k)] = some (.p (.int .i64 (if ((szC c1 + szC c2 + szC c3 + szC c5 : Nat) : Int) ≤ k then k - (szC c1 + szC c2 + szC c3 + szC c5 : Nat) else -1)), []) := by
  have := szR_at (sh_Box_mkHas hc1 hc2 hc3 hc5 a0 a4) hk (by simp only [lnCs, lnC, Bool.true_and, Bool.and_true, Bool.and_eq_true]; exact hz)
  simpa only [fzCs, fzC, szCs, szC, Nat.add_zero, Nat.zero_add, Nat.add_assoc] using this
-- laws.szBox
def c51 : AF := ⟨30,
  (.seq (.reg [⟨(some 2), none, .box 85 (.t 0)⟩,
   ⟨(some 4), none, .mv (.v (.int .i64 0))⟩])
  (.seq (.reg [⟨(some 5), none, .fa (.t 2) 1⟩,
   ⟨(some 6), none, .ld (.t 5)⟩,
   ⟨(some 7), none, .mv (.t 1)⟩,
   ⟨(some 8), none, .call 59 [(.t 6), (.t 7)]⟩,
   ⟨(some 1), none, .mv (.t 8)⟩])
  (.seq (.seq (.reg [⟨(some 9), none, .mv (.t 1)⟩,
   ⟨(some 10), none, .bin .lss (.t 9) (.v (.int .i64 0))⟩])
  (.cond (.t 10) (.seq (.reg [⟨(some 4), none, .mv (.v (.int .i64 (-1)))⟩])
  .ret)
  .skip))
  (.seq (.reg [⟨(some 11), none, .fa (.t 2) 2⟩,
   ⟨(some 12), none, .ld (.t 11)⟩,
   ⟨(some 13), none, .mv (.t 1)⟩,
   ⟨(some 14), none, .call 60 [(.t 12), (.t 13)]⟩,
   ⟨(some 1), none, .mv (.t 14)⟩])
  (.seq (.seq (.reg [⟨(some 15), none, .mv (.t 1)⟩,
   ⟨(some 16), none, .bin .lss (.t 15) (.v (.int .i64 0))⟩])
  (.cond (.t 16) (.seq (.reg [⟨(some 4), none, .mv (.v (.int .i64 (-1)))⟩])
  .ret)
  .skip))
  (.seq (.reg [⟨(some 17), none, .fa (.t 2) 3⟩,
   ⟨(some 18), none, .ld (.t 17)⟩,
   ⟨(some 19), none, .mv (.t 1)⟩,
   ⟨(some 20), none, .call 81 [(.t 18), (.t 19)]⟩,
   ⟨(some 1), none, .mv (.t 20)⟩])
  (.seq (.seq (.reg [⟨(some 21), none, .mv (.t 1)⟩,
   ⟨(some 22), none, .bin .lss (.t 21) (.v (.int .i64 0))⟩])
  (.cond (.t 22) (.seq (.reg [⟨(some 4), none, .mv (.v (.int .i64 (-1)))⟩])
  .ret)
  .skip))
  (.seq (.reg [⟨(some 23), none, .fa (.t 2) 5⟩,
   ⟨(some 24), none, .ld (.t 23)⟩,
   ⟨(some 25), none, .mv (.t 1)⟩,
   ⟨(some 26), none, .call 142 [(.t 24), (.t 25)]⟩,
   ⟨(some 1), none, .mv (.t 26)⟩])
  (.seq (.seq (.reg [⟨(some 27), none, .mv (.t 1)⟩,
   ⟨(some 28), none, .bin .lss (.t 27) (.v (.int .i64 0))⟩])
  (.cond (.t 28) (.seq (.reg [⟨(some 4), none, .mv (.v (.int .i64 (-1)))⟩])
  .ret)
  .skip))
  (.seq (.reg [⟨(some 29), none, .mv (.t 1)⟩,
   ⟨(some 4), none, .mv (.t 29)⟩])
  .ret)))))))))),
  [.t 4]⟩
theorem k51 : cFn Try.prog Try.f51 = some c51 := by kernel_rfl
theorem szBox_ok : OkT Try.prog 51 (pureSp (szR_S sh_Box)) := by
  refine okT_szR (OkΓT.cons szRuleS_ok (OkΓT.cons szPeerS_ok (OkΓT.cons szSaS_ok (OkΓT.cons szInt64S_ok (OkΓT.nil _))))) Try.func51 (by kernel_rfl) k51 ?_
  intro c k hc h1 h2 hz
  obtain ⟨a0, a4, c1, c2, c3, c5, rfl, hc1, hc2, hc3, hc5⟩ := sh_Box_Has hc
  generalize hN : szCs _ = N at *
  simp only [szCs, szC, Nat.add_zero, Nat.zero_add] at hN
  simp only [lnCs, lnC, Bool.true_and, Bool.and_true, Bool.and_eq_true] at hz
  obtain ⟨wc1, wc2, wc3, wc5⟩ := hz
  simp only [fzCs, fzC]
  have zc1 := szC_at (k := k) hc1 (by omega) wc1
  by_cases qc1 : (szC c1 : Int) ≤ k
  case neg =>
    rw [if_neg qc1] at zc1
    rw [if_neg (show ¬ _ by omega)]
    (dsimp only [c51]; simp (maxSteps := 8000000) (implicitDefEqProofs := false) (disch := omega) only [↓reduceIte, go_sem, if_pos, if_neg, zc1])
    repeat' first
      | (refine gdKT_dec (fun hg => ?_) (fun hg => ?_) <;> (try (first | simp (maxSteps := 8000000) (implicitDefEqProofs := false) (disch := omega) only [↓reduceIte, go_sem, if_pos, if_neg, eq_false hg, zc1] | simp (maxSteps := 8000000) (implicitDefEqProofs := false) (disch := omega) only [↓reduceIte, go_sem, if_pos, if_neg, eq_true hg, zc1])))
      | (refine condKT_dec (fun hg => ?_) (fun hg => ?_) <;> (try (first | simp (maxSteps := 8000000) (implicitDefEqProofs := false) (disch := omega) only [↓reduceIte, go_sem, if_pos, if_neg, eq_false hg, zc1] | simp (maxSteps := 8000000) (implicitDefEqProofs := false) (disch := omega) only [↓reduceIte, go_sem, if_pos, if_neg, eq_true hg, zc1])))
      | (refine gdKT_split (fun hg => ?_) (fun hg => ?_) <;> (try simp (maxSteps := 8000000) (implicitDefEqProofs := false) (disch := omega) only [↓reduceIte, go_sem, if_pos, if_neg, hg, zc1]))
      | (refine condKT_split (fun hg => ?_) (fun hg => ?_) <;> (try simp (maxSteps := 8000000) (implicitDefEqProofs := false) (disch := omega) only [↓reduceIte, go_sem, if_pos, if_neg, hg, zc1]))
      | (refine endT_p (.inr rfl) (by simp (maxSteps := 8000000) (implicitDefEqProofs := false) (disch := omega) only [↓reduceIte, go_sem, if_pos, if_neg, zc1]; rfl) ?_; (first | exact vb_true (by omega) | exact vb_false (by omega) | exact vb_dec (by omega) | exact vi_eq (by omega) | rfl | (refine vi_eq ?_; simp_all; done) | (refine vi_eq ?_; simp_all; omega) | (refine vi_eq ?_; simp_all; intros; omega)))
      | exact endT_v (.inr rfl) (by simp (maxSteps := 8000000) (implicitDefEqProofs := false) (disch := omega) only [↓reduceIte, go_sem, if_pos, if_neg, zc1]; try rfl) (fun _ => rfl)
  rw [if_pos qc1] at zc1
  have zc2 := szC_at (k := k - (szC c1 : Int)) hc2 (by omega) wc2
  by_cases qc2 : (szC c2 : Int) ≤ k - (szC c1 : Int)
  case neg =>
    rw [if_neg qc2] at zc2
    rw [if_neg (show ¬ _ by omega)]
    (dsimp only [c51]; simp (maxSteps := 8000000) (implicitDefEqProofs := false) (disch := omega) only [↓reduceIte, go_sem, if_pos, if_neg, zc1, zc2])
    repeat' first
      | (refine gdKT_dec (fun hg => ?_) (fun hg => ?_) <;> (try (first | simp (maxSteps := 8000000) (implicitDefEqProofs := false) (disch := omega) only [↓reduceIte, go_sem, if_pos, if_neg, eq_false hg, zc1, zc2] | simp (maxSteps := 8000000) (implicitDefEqProofs := false) (disch := omega) only [↓reduceIte, go_sem, if_pos, if_neg, eq_true hg, zc1, zc2])))
      | (refine condKT_dec (fun hg => ?_) (fun hg => ?_) <;> (try (first | simp (maxSteps := 8000000) (implicitDefEqProofs := false) (disch := omega) only [↓reduceIte, go_sem, if_pos, if_neg, eq_false hg, zc1, zc2] | simp (maxSteps := 8000000) (implicitDefEqProofs := false) (disch := omega) only [↓reduceIte, go_sem, if_pos, if_neg, eq_true hg, zc1, zc2])))
      | (refine gdKT_split (fun hg => ?_) (fun hg => ?_) <;> (try simp (maxSteps := 8000000) (implicitDefEqProofs := false) (disch := omega) only [↓reduceIte, go_sem, if_pos, if_neg, hg, zc1, zc2]))
      | (refine condKT_split (fun hg => ?_) (fun hg => ?_) <;> (try simp (maxSteps := 8000000) (implicitDefEqProofs := false) (disch := omega) only [↓reduceIte, go_sem, if_pos, if_neg, hg, zc1, zc2]))
      | (refine endT_p (.inr rfl) (by simp (maxSteps := 8000000) (implicitDefEqProofs := false) (disch := omega) only [↓reduceIte, go_sem, if_pos, if_neg, zc1, zc2]; rfl) ?_; (first | exact vb_true (by omega) | exact vb_false (by omega) | exact vb_dec (by omega) | exact vi_eq (by omega) | rfl | (refine vi_eq ?_; simp_all; done) | (refine vi_eq ?_; simp_all; omega) | (refine vi_eq ?_; simp_all; intros; omega)))
      | exact endT_v (.inr rfl) (by simp (maxSteps := 8000000) (implicitDefEqProofs := false) (disch := omega) only [↓reduceIte, go_sem, if_pos, if_neg, zc1, zc2]; try rfl) (fun _ => rfl)
  rw [if_pos qc2] at zc2
  have zc3 := szC_at (k := k - (szC c1 : Int) - (szC c2 : Int)) hc3 (by omega) wc3
  by_cases qc3 : (szC c3 : Int) ≤ k - (szC c1 : Int) - (szC c2 : Int)
  case neg =>
    rw [if_neg qc3] at zc3
    rw [if_neg (show ¬ _ by omega)]
    (dsimp only [c51]; simp (maxSteps := 8000000) (implicitDefEqProofs := false) (disch := omega) only [↓reduceIte, go_sem, if_pos, if_neg, zc1, zc2, zc3])
    repeat' first
      | (refine gdKT_dec (fun hg => ?_) (fun hg => ?_) <;> (try (first | simp (maxSteps := 8000000) (implicitDefEqProofs := false) (disch := omega) only [↓reduceIte, go_sem, if_pos, if_neg, eq_false hg, zc1, zc2, zc3] | simp (maxSteps := 8000000) (implicitDefEqProofs := false) (disch := omega) only [↓reduceIte, go_sem, if_pos, if_neg, eq_true hg, zc1, zc2, zc3])))
      | (refine condKT_dec (fun hg => ?_) (fun hg => ?_) <;> (try (first | simp (maxSteps := 8000000) (implicitDefEqProofs := false) (disch := omega) only [↓reduceIte, go_sem, if_pos, if_neg, eq_false hg, zc1, zc2, zc3] | simp (maxSteps := 8000000) (implicitDefEqProofs := false) (disch := omega) only [↓reduceIte, go_sem, if_pos, if_neg, eq_true hg, zc1, zc2, zc3])))
      | (refine gdKT_split (fun hg => ?_) (fun hg => ?_) <;> (try simp (maxSteps := 8000000) (implicitDefEqProofs := false) (disch := omega) only [↓reduceIte, go_sem, if_pos, if_neg, hg, zc1, zc2, zc3]))
      | (refine condKT_split (fun hg => ?_) (fun hg => ?_) <;> (try simp (maxSteps := 8000000) (implicitDefEqProofs := false) (disch := omega) only [↓reduceIte, go_sem, if_pos, if_neg, hg, zc1, zc2, zc3]))
      | (refine endT_p (.inr rfl) (by simp (maxSteps := 8000000) (implicitDefEqProofs := false) (disch := omega) only [↓reduceIte, go_sem, if_pos, if_neg, zc1, zc2, zc3]; rfl) ?_; (first | exact vb_true (by omega) | exact vb_false (by omega) | exact vb_dec (by omega) | exact vi_eq (by omega) | rfl | (refine vi_eq ?_; simp_all; done) | (refine vi_eq ?_; simp_all; omega) | (refine vi_eq ?_; simp_all; intros; omega)))
      | exact endT_v (.inr rfl) (by simp (maxSteps := 8000000) (implicitDefEqProofs := false) (disch := omega) only [↓reduceIte, go_sem, if_pos, if_neg, zc1, zc2, zc3]; try rfl) (fun _ => rfl)
  rw [if_pos qc3] at zc3
  have zc5 := szC_at (k := k - (szC c1 : Int) - (szC c2 : Int) - (szC c3 : Int)) hc5 (by omega) wc5
  by_cases qc5 : (szC c5 : Int) ≤ k - (szC c1 : Int) - (szC c2 : Int) - (szC c3 : Int)
  case neg =>
    rw [if_neg qc5] at zc5
    rw [if_neg (show ¬ _ by omega)]
    (dsimp only [c51]; simp (maxSteps := 8000000) (implicitDefEqProofs := false) (disch := omega) only [↓reduceIte, go_sem, if_pos, if_neg, zc1, zc2, zc3, zc5])
    repeat' first
      | (refine gdKT_dec (fun hg => ?_) (fun hg => ?_) <;> (try (first | simp (maxSteps := 8000000) (implicitDefEqProofs := false) (disch := omega) only [↓reduceIte, go_sem, if_pos, if_neg, eq_false hg, zc1, zc2, zc3, zc5] | simp (maxSteps := 8000000) (implicitDefEqProofs := false) (disch := omega) only [↓reduceIte, go_sem, if_pos, if_neg, eq_true hg, zc1, zc2, zc3, zc5])))
      | (refine condKT_dec (fun hg => ?_) (fun hg => ?_) <;> (try (first | simp (maxSteps := 8000000) (implicitDefEqProofs := false) (disch := omega) only [↓reduceIte, go_sem, if_pos, if_neg, eq_false hg, zc1, zc2, zc3, zc5] | simp (maxSteps := 8000000) (implicitDefEqProofs := false) (disch := omega) only [↓reduceIte, go_sem, if_pos, if_neg, eq_true hg, zc1, zc2, zc3, zc5])))
      | (refine gdKT_split (fun hg => ?_) (fun hg => ?_) <;> (try simp (maxSteps := 8000000) (implicitDefEqProofs := false) (disch := omega) only [↓reduceIte, go_sem, if_pos, if_neg, hg, zc1, zc2, zc3, zc5]))
      | (refine condKT_split (fun hg => ?_) (fun hg => ?_) <;> (try simp (maxSteps := 8000000) (implicitDefEqProofs := false) (disch := omega) only [↓reduceIte, go_sem, if_pos, if_neg, hg, zc1, zc2, zc3, zc5]))
      | (refine endT_p (.inr rfl) (by simp (maxSteps := 8000000) (implicitDefEqProofs := false) (disch := omega) only [↓reduceIte, go_sem, if_pos, if_neg, zc1, zc2, zc3, zc5]; rfl) ?_; (first | exact vb_true (by omega) | exact vb_false (by omega) | exact vb_dec (by omega) | exact vi_eq (by omega) | rfl | (refine vi_eq ?_; simp_all; done) | (refine vi_eq ?_; simp_all; omega) | (refine vi_eq ?_; simp_all; intros; omega)))
      | exact endT_v (.inr rfl) (by simp (maxSteps := 8000000) (implicitDefEqProofs := false) (disch := omega) only [↓reduceIte, go_sem, if_pos, if_neg, zc1, zc2, zc3, zc5]; try rfl) (fun _ => rfl)
  rw [if_pos qc5] at zc5
  rw [if_pos (show _ by omega), show k - (N : Int) = k - (szC c1 : Int) - (szC c2 : Int) - (szC c3 : Int) - (szC c5 : Int) by omega]
  (dsimp only [c51]; simp (maxSteps := 8000000) (implicitDefEqProofs := false) (disch := omega) only [↓reduceIte, go_sem, if_pos, if_neg, zc1, zc2, zc3, zc5])
  repeat' first
    | (refine gdKT_dec (fun hg => ?_) (fun hg => ?_) <;> (try (first | simp (maxSteps := 8000000) (implicitDefEqProofs := false) (disch := omega) only [↓reduceIte, go_sem, if_pos, if_neg, eq_false hg, zc1, zc2, zc3, zc5] | simp (maxSteps := 8000000) (implicitDefEqProofs := false) (disch := omega) only [↓reduceIte, go_sem, if_pos, if_neg, eq_true hg, zc1, zc2, zc3, zc5])))
    | (refine condKT_dec (fun hg => ?_) (fun hg => ?_) <;> (try (first | simp (maxSteps := 8000000) (implicitDefEqProofs := false) (disch := omega) only [↓reduceIte, go_sem, if_pos, if_neg, eq_false hg, zc1, zc2, zc3, zc5] | simp (maxSteps := 8000000) (implicitDefEqProofs := false) (disch := omega) only [↓reduceIte, go_sem, if_pos, if_neg, eq_true hg, zc1, zc2, zc3, zc5])))
    | (refine gdKT_split (fun hg => ?_) (fun hg => ?_) <;> (try simp (maxSteps := 8000000) (implicitDefEqProofs := false) (disch := omega) only [↓reduceIte, go_sem, if_pos, if_neg, hg, zc1, zc2, zc3, zc5]))
    | (refine condKT_split (fun hg => ?_) (fun hg => ?_) <;> (try simp (maxSteps := 8000000) (implicitDefEqProofs := false) (disch := omega) only [↓reduceIte, go_sem, if_pos, if_neg, hg, zc1, zc2, zc3, zc5]))
    | (refine endT_p (.inr rfl) (by simp (maxSteps := 8000000) (implicitDefEqProofs := false) (disch := omega) only [↓reduceIte, go_sem, if_pos, if_neg, zc1, zc2, zc3, zc5]; rfl) ?_; (first | exact vb_true (by omega) | exact vb_false (by omega) | exact vb_dec (by omega) | exact vi_eq (by omega) | rfl | (refine vi_eq ?_; simp_all; done) | (refine vi_eq ?_; simp_all; omega) | (refine vi_eq ?_; simp_all; intros; omega)))
    | exact endT_v (.inr rfl) (by simp (maxSteps := 8000000) (implicitDefEqProofs := false) (disch := omega) only [↓reduceIte, go_sem, if_pos, if_neg, zc1, zc2, zc3, zc5]; try rfl) (fun _ => rfl)
/-! IntResult -/
def sh_IntResult : List Shp := [.i .i64, .i .i64]
theorem sh_IntResult_Has {cs : List Cell} (h : HasR sh_IntResult cs) : ∃ (a0 : Int) (a1 : Int), cs = [.v (.int .i64 a0), .v (.int .i64 a1)] := by
  obtain ⟨_, _, rfl, ⟨a0, rfl, _⟩, _, _, rfl, ⟨a1, rfl, _⟩, h⟩ := h
  simp only [HasR] at h; subst h
  exact ⟨a0, a1, rfl⟩
theorem sh_IntResult_mkHas  (a0 : Int) (a1 : Int) : HasR sh_IntResult [.v (.int .i64 a0), .v (.int .i64 a1)] := by
  exact ⟨_, _, rfl, ⟨_, rfl, fun h => by cases h⟩, _, _, rfl, ⟨_, rfl, fun h => by cases h⟩, rfl⟩
theorem sh_IntResult_Fit {cs : List Cell} (h : FitR sh_IntResult cs) : ∃ (a0 : Int) (a1 : Int), cs = [.v (.int .i64 a0), .v (.int .i64 a1)] := by
  obtain ⟨_, _, rfl, ⟨a0, rfl⟩, _, _, rfl, ⟨a1, rfl⟩, h⟩ := h
  simp only [FitR] at h; subst h
  exact ⟨a0, a1, rfl⟩
theorem sh_IntResult_mkFit  (a0 : Int) (a1 : Int) : FitR sh_IntResult [.v (.int .i64 a0), .v (.int .i64 a1)] := by
  exact ⟨_, _, rfl, ⟨_, rfl⟩, _, _, rfl, ⟨_, rfl⟩, rfl⟩
theorem flat_sz_IntResult {cs : List Cell} (h : HasR sh_IntResult cs) : szCs cs = 0 := by
  obtain ⟨a0, a1, rfl⟩ := sh_IntResult_Has h
  rfl
theorem eq_IntResult_at  (a0 : Int) (a1 : Int) : eqR_S sh_IntResult [.agg [.p (.int .i64 a0), .p (.int .i64 a1)], .agg [.p (.int .i64 a0), .p (.int .i64 a1)]] = some (.p (.bool true), []) := by
  exact eqR_at (sh_IntResult_mkFit  a0 a1) (by simp only [szCs, szC]; omega)
-- laws.eqIntResult
def c58 : AF := ⟨15,
  (.seq (.reg [⟨(some 2), none, .box 96 (.t 0)⟩,
   ⟨(some 3), none, .box 96 (.t 1)⟩,
   ⟨(some 4), none, .mv (.v (.bool false))⟩])
  (.seq (.seq (.reg [⟨(some 5), none, .fa (.t 2) 0⟩,
   ⟨(some 6), none, .ld (.t 5)⟩,
   ⟨(some 7), none, .fa (.t 3) 0⟩,
   ⟨(some 8), none, .ld (.t 7)⟩,
   ⟨(some 9), none, .bin .neq (.t 6) (.t 8)⟩])
  (.cond (.t 9) (.seq (.reg [⟨(some 4), none, .mv (.v (.bool false))⟩])
  .ret)
  .skip))
  (.seq (.seq (.reg [⟨(some 10), none, .fa (.t 2) 1⟩,
   ⟨(some 11), none, .ld (.t 10)⟩,
   ⟨(some 12), none, .fa (.t 3) 1⟩,
   ⟨(some 13), none, .ld (.t 12)⟩,
   ⟨(some 14), none, .bin .neq (.t 11) (.t 13)⟩])
  (.cond (.t 14) (.seq (.reg [⟨(some 4), none, .mv (.v (.bool false))⟩])
  .ret)
  .skip))
  (.seq (.reg [⟨(some 4), none, .mv (.v (.bool true))⟩])
  .ret)))),
  [.t 4]⟩
theorem k58 : cFn Try.prog Try.f58 = some c58 := by kernel_rfl
theorem eqIntResult_ok : OkT Try.prog 58 (pureSp (eqR_S sh_IntResult)) := by
  refine okT_eqR (OkΓT.nil _) Try.func58 (by kernel_rfl) k58 ?_
  intro c hc hz
  obtain ⟨a0, a1, rfl⟩ := sh_IntResult_Fit hc
  simp only [szCs, szC] at hz
  simp only [fzCs, fzC]
  (dsimp only [c58]; simp (maxSteps := 8000000) (implicitDefEqProofs := false) (disch := omega) only [↓reduceIte, go_sem, if_pos, if_neg])
  repeat' first
    | (refine gdKT_dec (fun hg => ?_) (fun hg => ?_) <;> (try (first | simp (maxSteps := 8000000) (implicitDefEqProofs := false) (disch := omega) only [↓reduceIte, go_sem, if_pos, if_neg, eq_false hg] | simp (maxSteps := 8000000) (implicitDefEqProofs := false) (disch := omega) only [↓reduceIte, go_sem, if_pos, if_neg, eq_true hg])))
    | (refine condKT_dec (fun hg => ?_) (fun hg => ?_) <;> (try (first | simp (maxSteps := 8000000) (implicitDefEqProofs := false) (disch := omega) only [↓reduceIte, go_sem, if_pos, if_neg, eq_false hg] | simp (maxSteps := 8000000) (implicitDefEqProofs := false) (disch := omega) only [↓reduceIte, go_sem, if_pos, if_neg, eq_true hg])))
    | (refine gdKT_split (fun hg => ?_) (fun hg => ?_) <;> (try simp (maxSteps := 8000000) (implicitDefEqProofs := false) (disch := omega) only [↓reduceIte, go_sem, if_pos, if_neg, hg]))
    | (refine condKT_split (fun hg => ?_) (fun hg => ?_) <;> (try simp (maxSteps := 8000000) (implicitDefEqProofs := false) (disch := omega) only [↓reduceIte, go_sem, if_pos, if_neg, hg]))
    | (refine endT_p (.inr rfl) (by simp (maxSteps := 8000000) (implicitDefEqProofs := false) (disch := omega) only [↓reduceIte, go_sem, if_pos, if_neg]; rfl) ?_; (first | exact vb_true (by omega) | exact vb_false (by omega) | exact vb_dec (by omega) | exact vi_eq (by omega) | rfl | (refine vi_eq ?_; simp_all; done) | (refine vi_eq ?_; simp_all; omega) | (refine vi_eq ?_; simp_all; intros; omega)))
    | exact endT_v (.inr rfl) (by simp (maxSteps := 8000000) (implicitDefEqProofs := false) (disch := omega) only [↓reduceIte, go_sem, if_pos, if_neg]; try rfl) (fun _ => rfl)
end Go.Proofs.Ytkijbknnbmbnbaa
