import Derived.Test.YtngebdcbcliobaaLU
import Derived.Test.YtngebdcbcliobaaProg
set_option linter.unusedSimpArgs false
set_option linter.unusedVariables false
set_option maxRecDepth 100000
set_option maxHeartbeats 4000000
namespace Go.Proofs.Ytngebdcbcliobaa
open Go Go.AH
attribute [local irreducible] awpT ropsT qopsT stepT condKT gdKT EndT joinK loopKT seqKT blkKT kont kontR
/-! Range -/
def sh_Range : List Shp := [.i .i64, .i .i64]
theorem sh_Range_Has {cs : List Cell} (h : HasR sh_Range cs) : ∃ (a0 : Int) (a1 : Int), cs = [.v (.int .i64 a0), .v (.int .i64 a1)] := by
  obtain ⟨_, _, rfl, ⟨a0, rfl⟩, _, _, rfl, ⟨a1, rfl⟩, h⟩ := h
  simp only [HasR] at h; subst h
  exact ⟨a0, a1, rfl⟩
theorem sh_Range_mkHas  (a0 : Int) (a1 : Int) : HasR sh_Range [.v (.int .i64 a0), .v (.int .i64 a1)] := by
  exact ⟨_, _, rfl, ⟨_, rfl⟩, _, _, rfl, ⟨_, rfl⟩, rfl⟩
theorem sh_Range_Fit {cs : List Cell} (h : FitR sh_Range cs) : ∃ (a0 : Int) (a1 : Int), cs = [.v (.int .i64 a0), .v (.int .i64 a1)] := by
  obtain ⟨_, _, rfl, ⟨a0, rfl⟩, _, _, rfl, ⟨a1, rfl⟩, h⟩ := h
  simp only [FitR] at h; subst h
  exact ⟨a0, a1, rfl⟩
theorem sh_Range_mkFit  (a0 : Int) (a1 : Int) : FitR sh_Range [.v (.int .i64 a0), .v (.int .i64 a1)] := by
  exact ⟨_, _, rfl, ⟨_, rfl⟩, _, _, rfl, ⟨_, rfl⟩, rfl⟩
theorem to_Range_at  (a0 : Int) (a1 : Int) : toR_S sh_Range [.agg [.p (.int .i64 a0), .p (.int .i64 a1)]] = some (.agg [.p (.int .i64 a0), .p (.int .i64 a1)], []) := by
  have := toR_at (sh_Range_mkHas  a0 a1) (by simp only [szCs, szC]; omega)
  simpa only [fzCs, fzC, tvCs, tvC_v, tvC_nl, tvC_sl, bkCs, bkC, nbC, nbCs, Nat.add_zero, List.append_nil, List.nil_append, Nat.zero_add] using this
-- laws.toRange
def c188 : AF := ⟨11,
  (.seq (.reg [⟨(some 1), none, .box 157 (.t 0)⟩,
   ⟨(some 2), none, .alloc 153 [(.int .i64 0), (.int .i64 0)]⟩])
  (.seq (.reg [⟨(some 3), none, .alloc 153 [(.int .i64 0), (.int .i64 0)]⟩])
  (.seq (.reg [⟨(some 4), none, .fa (.t 1) 0⟩,
   ⟨(some 5), none, .ld (.t 4)⟩,
   ⟨(some 6), none, .fa (.t 3) 0⟩,
   ⟨none, none, .st 1 (.t 6) (.t 5)⟩])
  (.seq (.reg [⟨(some 7), none, .fa (.t 1) 1⟩,
   ⟨(some 8), none, .ld (.t 7)⟩,
   ⟨(some 9), none, .fa (.t 3) 1⟩,
   ⟨none, none, .st 1 (.t 9) (.t 8)⟩])
  (.seq (.reg [⟨(some 10), none, .ldn 2 (.t 3)⟩,
   ⟨none, none, .st 2 (.t 2) (.t 10)⟩])
  .ret))))),
  [.cell 2 (some 2)]⟩
theorem k188 : cFn Try.prog Try.f188 = some c188 := by kernel_rfl
theorem toRange_ok : OkT Try.prog 188 (pureSp (toR_S sh_Range)) := by
  refine okT_toR (OkΓT.nil _) Try.func188 (by kernel_rfl) k188 ?_
  intro c hc hz
  obtain ⟨a0, a1, rfl⟩ := sh_Range_Has hc
  simp only [szCs, szC] at hz
  simp only [fzCs, fzC]
  (dsimp only [c188]; simp (maxSteps := 8000000) (implicitDefEqProofs := false) (disch := omega) only [↓reduceIte, go_sem, if_pos, if_neg])
  refine endT_cells' 3 (.inr rfl) (by (simp (maxSteps := 8000000) (implicitDefEqProofs := false) (disch := omega) only [↓reduceIte, go_sem, if_pos, if_neg, fzCs, fzC, tvCs, tvC_v, tvC_nl, tvC_sl, bkCs, bkC, nbC, nbCs, Nat.add_zero, List.append_nil, List.nil_append]) <;> rfl) ?_ (by simp only [List.length_cons]; omega)
  simp only [List.drop_succ_cons, List.drop_zero, bkCs, bkC, nbC, Nat.add_zero, List.append_nil, List.nil_append, List.cons_append, Nat.add_assoc]
theorem eq_Range_at  (a0 : Int) (a1 : Int) : eqR_S sh_Range [.agg [.p (.int .i64 a0), .p (.int .i64 a1)], .agg [.p (.int .i64 a0), .p (.int .i64 a1)]] = some (.p (.bool true), []) := by
  exact eqR_at (sh_Range_mkFit  a0 a1) (by simp only [szCs, szC]; omega)
-- laws.eqRange
def c191 : AF := ⟨15,
  (.seq (.reg [⟨(some 2), none, .box 153 (.t 0)⟩,
   ⟨(some 3), none, .box 153 (.t 1)⟩,
   ⟨(some 4), none, .mv (.v (.bool false))⟩])
  (.seq (.seq (.reg [⟨(some 5), none, .fa (.t 2) 0⟩,
   ⟨(some 6), none, .ld (.t 5)⟩,
   ⟨(some 7), none, .fa (.t 3) 0⟩,
   ⟨(some 8), none, .ld (.t 7)⟩,
   ⟨(some 9), none, .bin .neq (.t 6) (.t 8)⟩])
  (.cond (.t 9) (.seq (.reg [⟨(some 4), none, .mv (.v (.bool false))⟩])
  .ret)
  .skip))
  (.seq (.seq (.reg [⟨(some 10), none, .fa (.t 2) 1⟩,
   ⟨(some 11), none, .ld (.t 10)⟩,
   ⟨(some 12), none, .fa (.t 3) 1⟩,
   ⟨(some 13), none, .ld (.t 12)⟩,
   ⟨(some 14), none, .bin .neq (.t 11) (.t 13)⟩])
  (.cond (.t 14) (.seq (.reg [⟨(some 4), none, .mv (.v (.bool false))⟩])
  .ret)
  .skip))
  (.seq (.reg [⟨(some 4), none, .mv (.v (.bool true))⟩])
  .ret)))),
  [.t 4]⟩
theorem k191 : cFn Try.prog Try.f191 = some c191 := by kernel_rfl
theorem eqRange_ok : OkT Try.prog 191 (pureSp (eqR_S sh_Range)) := by
  refine okT_eqR (OkΓT.nil _) Try.func191 (by kernel_rfl) k191 ?_
  intro c hc hz
  obtain ⟨a0, a1, rfl⟩ := sh_Range_Fit hc
  simp only [szCs, szC] at hz
  simp only [fzCs, fzC]
  (dsimp only [c191]; simp (maxSteps := 8000000) (implicitDefEqProofs := false) (disch := omega) only [↓reduceIte, go_sem, if_pos, if_neg])
  repeat' first
    | (refine gdKT_dec (fun hg => ?_) (fun hg => ?_) <;> (try (first | simp (maxSteps := 8000000) (implicitDefEqProofs := false) (disch := omega) only [↓reduceIte, go_sem, if_pos, if_neg, eq_false hg] | simp (maxSteps := 8000000) (implicitDefEqProofs := false) (disch := omega) only [↓reduceIte, go_sem, if_pos, if_neg, eq_true hg])))
    | (refine condKT_dec (fun hg => ?_) (fun hg => ?_) <;> (try (first | simp (maxSteps := 8000000) (implicitDefEqProofs := false) (disch := omega) only [↓reduceIte, go_sem, if_pos, if_neg, eq_false hg] | simp (maxSteps := 8000000) (implicitDefEqProofs := false) (disch := omega) only [↓reduceIte, go_sem, if_pos, if_neg, eq_true hg])))
    | (refine gdKT_split (fun hg => ?_) (fun hg => ?_) <;> (try simp (maxSteps := 8000000) (implicitDefEqProofs := false) (disch := omega) only [↓reduceIte, go_sem, if_pos, if_neg, hg]))
    | (refine condKT_split (fun hg => ?_) (fun hg => ?_) <;> (try simp (maxSteps := 8000000) (implicitDefEqProofs := false) (disch := omega) only [↓reduceIte, go_sem, if_pos, if_neg, hg]))
    | (refine endT_p (.inr rfl) (by simp (maxSteps := 8000000) (implicitDefEqProofs := false) (disch := omega) only [↓reduceIte, go_sem, if_pos, if_neg]; rfl) ?_; (first | exact vb_true (by omega) | exact vb_false (by omega) | exact vb_dec (by omega) | exact vi_eq (by omega) | rfl | (refine vi_eq ?_; simp_all; done) | (refine vi_eq ?_; simp_all; omega) | (refine vi_eq ?_; simp_all; intros; omega)))
    | exact endT_v (.inr rfl) (by simp (maxSteps := 8000000) (implicitDefEqProofs := false) (disch := omega) only [↓reduceIte, go_sem, if_pos, if_neg]; try rfl) (fun _ => rfl)
/-! Sel -/
def sh_Sel : List Shp := [.i .i64, .i .i64, .i .i64, .i .i64, .i .i64, .i .i64, .i .i64, .i .i64, .i .i64]
theorem sh_Sel_Has {cs : List Cell} (h : HasR sh_Sel cs) : ∃ (a0 : Int) (a1 : Int) (a2 : Int) (a3 : Int) (a4 : Int) (a5 : Int) (a6 : Int) (a7 : Int) (a8 : Int), cs = [.v (.int .i64 a0), .v (.int .i64 a1), .v (.int .i64 a2), .v (.int .i64 a3), .v (.int .i64 a4), .v (.int .i64 a5), .v (.int .i64 a6), .v (.int .i64 a7), .v (.int .i64 a8)] := by
  obtain ⟨_, _, rfl, ⟨a0, rfl⟩, _, _, rfl, ⟨a1, rfl⟩, _, _, rfl, ⟨a2, rfl⟩, _, _, rfl, ⟨a3, rfl⟩, _, _, rfl, ⟨a4, rfl⟩, _, _, rfl, ⟨a5, rfl⟩, _, _, rfl, ⟨a6, rfl⟩, _, _, rfl, ⟨a7, rfl⟩, _, _, rfl, ⟨a8, rfl⟩, h⟩ := h
  simp only [HasR] at h; subst h
  exact ⟨a0, a1, a2, a3, a4, a5, a6, a7, a8, rfl⟩
theorem sh_Sel_mkHas  (a0 : Int) (a1 : Int) (a2 : Int) (a3 : Int) (a4 : Int) (a5 : Int) (a6 : Int) (a7 : Int) (a8 : Int) : HasR sh_Sel [.v (.int .i64 a0), .v (.int .i64 a1), .v (.int .i64 a2), .v (.int .i64 a3), .v (.int .i64 a4), .v (.int .i64 a5), .v (.int .i64 a6), .v (.int .i64 a7), .v (.int .i64 a8)] := by
  exact ⟨_, _, rfl, ⟨_, rfl⟩, _, _, rfl, ⟨_, rfl⟩, _, _, rfl, ⟨_, rfl⟩, _, _, rfl, ⟨_, rfl⟩, _, _, rfl, ⟨_, rfl⟩, _, _, rfl, ⟨_, rfl⟩, _, _, rfl, ⟨_, rfl⟩, _, _, rfl, ⟨_, rfl⟩, _, _, rfl, ⟨_, rfl⟩, rfl⟩
theorem sh_Sel_Fit {cs : List Cell} (h : FitR sh_Sel cs) : ∃ (a0 : Int) (a1 : Int) (a2 : Int) (a3 : Int) (a4 : Int) (a5 : Int) (a6 : Int) (a7 : Int) (a8 : Int), cs = [.v (.int .i64 a0), .v (.int .i64 a1), .v (.int .i64 a2), .v (.int .i64 a3), .v (.int .i64 a4), .v (.int .i64 a5), .v (.int .i64 a6), .v (.int .i64 a7), .v (.int .i64 a8)] := by
  obtain ⟨_, _, rfl, ⟨a0, rfl⟩, _, _, rfl, ⟨a1, rfl⟩, _, _, rfl, ⟨a2, rfl⟩, _, _, rfl, ⟨a3, rfl⟩, _, _, rfl, ⟨a4, rfl⟩, _, _, rfl, ⟨a5, rfl⟩, _, _, rfl, ⟨a6, rfl⟩, _, _, rfl, ⟨a7, rfl⟩, _, _, rfl, ⟨a8, rfl⟩, h⟩ := h
  simp only [FitR] at h; subst h
  exact ⟨a0, a1, a2, a3, a4, a5, a6, a7, a8, rfl⟩
theorem sh_Sel_mkFit  (a0 : Int) (a1 : Int) (a2 : Int) (a3 : Int) (a4 : Int) (a5 : Int) (a6 : Int) (a7 : Int) (a8 : Int) : FitR sh_Sel [.v (.int .i64 a0), .v (.int .i64 a1), .v (.int .i64 a2), .v (.int .i64 a3), .v (.int .i64 a4), .v (.int .i64 a5), .v (.int .i64 a6), .v (.int .i64 a7), .v (.int .i64 a8)] := by
  exact ⟨_, _, rfl, ⟨_, rfl⟩, _, _, rfl, ⟨_, rfl⟩, _, _, rfl, ⟨_, rfl⟩, _, _, rfl, ⟨_, rfl⟩, _, _, rfl, ⟨_, rfl⟩, _, _, rfl, ⟨_, rfl⟩, _, _, rfl, ⟨_, rfl⟩, _, _, rfl, ⟨_, rfl⟩, _, _, rfl, ⟨_, rfl⟩, rfl⟩
theorem to_Sel_at  (a0 : Int) (a1 : Int) (a2 : Int) (a3 : Int) (a4 : Int) (a5 : Int) (a6 : Int) (a7 : Int) (a8 : Int) : toR_S sh_Sel [.agg [.p (.int .i64 a0), .p (.int .i64 a1), .p (.int .i64 a2), .p (.int .i64 a3), .p (.int .i64 a4), .p (.int .i64 a5), .p (.int .i64 a6), .p (.int .i64 a7), .p (.int .i64 a8)]] = some (.agg [.p (.int .i64 a0), .p (.int .i64 a1), .p (.int .i64 a2), .p (.int .i64 a3), .p (.int .i64 a4), .p (.int .i64 a5), .p (.int .i64 a6), .p (.int .i64 a7), .p (.int .i64 a8)], []) := by
  have := toR_at (sh_Sel_mkHas  a0 a1 a2 a3 a4 a5 a6 a7 a8) (by simp only [szCs, szC]; omega)
  simpa only [fzCs, fzC, tvCs, tvC_v, tvC_nl, tvC_sl, bkCs, bkC, nbC, nbCs, Nat.add_zero, List.append_nil, List.nil_append, Nat.zero_add] using this
-- laws.toSel
def c144 : AF := ⟨24,
  (.seq (.reg [⟨(some 1), none, .box 159 (.t 0)⟩,
   ⟨(some 2), none, .alloc 155 [(.int .i64 0), (.int .i64 0), (.int .i64 0), (.int .i64 0), (.int .i64 0), (.int .i64 0), (.int .i64 0), (.int .i64 0), (.int .i64 0)]⟩])
  (.seq (.reg [⟨(some 3), none, .alloc 155 [(.int .i64 0), (.int .i64 0), (.int .i64 0), (.int .i64 0), (.int .i64 0), (.int .i64 0), (.int .i64 0), (.int .i64 0), (.int .i64 0)]⟩])
  (.seq (.reg [⟨(some 4), none, .fa (.t 1) 0⟩,
   ⟨(some 5), none, .ldn 2 (.t 4)⟩,
   ⟨(some 6), none, .call 188 [(.t 5)]⟩,
   ⟨(some 7), none, .fa (.t 3) 0⟩,
   ⟨none, none, .st 2 (.t 7) (.t 6)⟩])
  (.seq (.reg [⟨(some 8), none, .fa (.t 1) 2⟩,
   ⟨(some 9), none, .ldn 2 (.t 8)⟩,
   ⟨(some 10), none, .call 188 [(.t 9)]⟩,
   ⟨(some 11), none, .fa (.t 3) 2⟩,
   ⟨none, none, .st 2 (.t 11) (.t 10)⟩])
  (.seq (.reg [⟨(some 12), none, .fa (.t 1) 4⟩,
   ⟨(some 13), none, .ldn 2 (.t 12)⟩,
   ⟨(some 14), none, .call 188 [(.t 13)]⟩,
   ⟨(some 15), none, .fa (.t 3) 4⟩,
   ⟨none, none, .st 2 (.t 15) (.t 14)⟩])
  (.seq (.reg [⟨(some 16), none, .fa (.t 1) 6⟩,
   ⟨(some 17), none, .ldn 2 (.t 16)⟩,
   ⟨(some 18), none, .call 188 [(.t 17)]⟩,
   ⟨(some 19), none, .fa (.t 3) 6⟩,
   ⟨none, none, .st 2 (.t 19) (.t 18)⟩])
  (.seq (.reg [⟨(some 20), none, .fa (.t 1) 8⟩,
   ⟨(some 21), none, .ld (.t 20)⟩,
   ⟨(some 22), none, .fa (.t 3) 8⟩,
   ⟨none, none, .st 1 (.t 22) (.t 21)⟩])
  (.seq (.reg [⟨(some 23), none, .ldn 9 (.t 3)⟩,
   ⟨none, none, .st 9 (.t 2) (.t 23)⟩])
  .ret)))))))),
  [.cell 2 (some 9)]⟩
theorem k144 : cFn Try.prog Try.f144 = some c144 := by kernel_rfl
theorem toSel_ok : OkT Try.prog 144 (pureSp (toR_S sh_Sel)) := by
  refine okT_toR (OkΓT.cons toRange_ok (OkΓT.nil _)) Try.func144 (by kernel_rfl) k144 ?_
  intro c hc hz
  obtain ⟨a0, a1, a2, a3, a4, a5, a6, a7, a8, rfl⟩ := sh_Sel_Has hc
  simp only [szCs, szC] at hz
  simp only [fzCs, fzC]
  (dsimp only [c144]; simp (maxSteps := 8000000) (implicitDefEqProofs := false) (disch := omega) only [↓reduceIte, go_sem, if_pos, if_neg, to_Range_at])
  refine endT_cells' 3 (.inr rfl) (by (simp (maxSteps := 8000000) (implicitDefEqProofs := false) (disch := omega) only [↓reduceIte, go_sem, if_pos, if_neg, fzCs, fzC, tvCs, tvC_v, tvC_nl, tvC_sl, bkCs, bkC, nbC, nbCs, Nat.add_zero, List.append_nil, List.nil_append]) <;> rfl) ?_ (by simp only [List.length_cons]; omega)
  simp only [List.drop_succ_cons, List.drop_zero, bkCs, bkC, nbC, Nat.add_zero, List.append_nil, List.nil_append, List.cons_append, Nat.add_assoc]
theorem eq_Sel_at  (a0 : Int) (a1 : Int) (a2 : Int) (a3 : Int) (a4 : Int) (a5 : Int) (a6 : Int) (a7 : Int) (a8 : Int) : eqR_S sh_Sel [.agg [.p (.int .i64 a0), .p (.int .i64 a1), .p (.int .i64 a2), .p (.int .i64 a3), .p (.int .i64 a4), .p (.int .i64 a5), .p (.int .i64 a6), .p (.int .i64 a7), .p (.int .i64 a8)], .agg [.p (.int .i64 a0), .p (.int .i64 a1), .p (.int .i64 a2), .p (.int .i64 a3), .p (.int .i64 a4), .p (.int .i64 a5), .p (.int .i64 a6), .p (.int .i64 a7), .p (.int .i64 a8)]] = some (.p (.bool true), []) := by
  exact eqR_at (sh_Sel_mkFit  a0 a1 a2 a3 a4 a5 a6 a7 a8) (by simp only [szCs, szC]; omega)
-- laws.eqSel
def c147 : AF := ⟨34,
  (.seq (.reg [⟨(some 2), none, .box 155 (.t 0)⟩,
   ⟨(some 3), none, .box 155 (.t 1)⟩,
   ⟨(some 4), none, .mv (.v (.bool false))⟩])
  (.seq (.seq (.reg [⟨(some 5), none, .fa (.t 2) 0⟩,
   ⟨(some 6), none, .ldn 2 (.t 5)⟩,
   ⟨(some 7), none, .fa (.t 3) 0⟩,
   ⟨(some 8), none, .ldn 2 (.t 7)⟩,
   ⟨(some 9), none, .call 191 [(.t 6), (.t 8)]⟩,
   ⟨(some 10), none, .un .not (.t 9)⟩])
  (.cond (.t 10) (.seq (.reg [⟨(some 4), none, .mv (.v (.bool false))⟩])
  .ret)
  .skip))
  (.seq (.seq (.reg [⟨(some 11), none, .fa (.t 2) 2⟩,
   ⟨(some 12), none, .ldn 2 (.t 11)⟩,
   ⟨(some 13), none, .fa (.t 3) 2⟩,
   ⟨(some 14), none, .ldn 2 (.t 13)⟩,
   ⟨(some 15), none, .call 191 [(.t 12), (.t 14)]⟩,
   ⟨(some 16), none, .un .not (.t 15)⟩])
  (.cond (.t 16) (.seq (.reg [⟨(some 4), none, .mv (.v (.bool false))⟩])
  .ret)
  .skip))
  (.seq (.seq (.reg [⟨(some 17), none, .fa (.t 2) 4⟩,
   ⟨(some 18), none, .ldn 2 (.t 17)⟩,
   ⟨(some 19), none, .fa (.t 3) 4⟩,
   ⟨(some 20), none, .ldn 2 (.t 19)⟩,
   ⟨(some 21), none, .call 191 [(.t 18), (.t 20)]⟩,
   ⟨(some 22), none, .un .not (.t 21)⟩])
  (.cond (.t 22) (.seq (.reg [⟨(some 4), none, .mv (.v (.bool false))⟩])
  .ret)
  .skip))
  (.seq (.seq (.reg [⟨(some 23), none, .fa (.t 2) 6⟩,
   ⟨(some 24), none, .ldn 2 (.t 23)⟩,
   ⟨(some 25), none, .fa (.t 3) 6⟩,
   ⟨(some 26), none, .ldn 2 (.t 25)⟩,
   ⟨(some 27), none, .call 191 [(.t 24), (.t 26)]⟩,
   ⟨(some 28), none, .un .not (.t 27)⟩])
  (.cond (.t 28) (.seq (.reg [⟨(some 4), none, .mv (.v (.bool false))⟩])
  .ret)
  .skip))
  (.seq (.seq (.reg [⟨(some 29), none, .fa (.t 2) 8⟩,
   ⟨(some 30), none, .ld (.t 29)⟩,
   ⟨(some 31), none, .fa (.t 3) 8⟩,
   ⟨(some 32), none, .ld (.t 31)⟩,
   ⟨(some 33), none, .bin .neq (.t 30) (.t 32)⟩])
  (.cond (.t 33) (.seq (.reg [⟨(some 4), none, .mv (.v (.bool false))⟩])
  .ret)
  .skip))
  (.seq (.reg [⟨(some 4), none, .mv (.v (.bool true))⟩])
  .ret))))))),
  [.t 4]⟩
theorem k147 : cFn Try.prog Try.f147 = some c147 := by kernel_rfl
theorem eqSel_ok : OkT Try.prog 147 (pureSp (eqR_S sh_Sel)) := by
  refine okT_eqR (OkΓT.cons eqRange_ok (OkΓT.nil _)) Try.func147 (by kernel_rfl) k147 ?_
  intro c hc hz
  obtain ⟨a0, a1, a2, a3, a4, a5, a6, a7, a8, rfl⟩ := sh_Sel_Fit hc
  simp only [szCs, szC] at hz
  simp only [fzCs, fzC]
  (dsimp only [c147]; simp (maxSteps := 8000000) (implicitDefEqProofs := false) (disch := omega) only [↓reduceIte, go_sem, if_pos, if_neg, eq_Range_at])
  repeat' first
    | (refine gdKT_dec (fun hg => ?_) (fun hg => ?_) <;> (try (first | simp (maxSteps := 8000000) (implicitDefEqProofs := false) (disch := omega) only [↓reduceIte, go_sem, if_pos, if_neg, eq_false hg, eq_Range_at] | simp (maxSteps := 8000000) (implicitDefEqProofs := false) (disch := omega) only [↓reduceIte, go_sem, if_pos, if_neg, eq_true hg, eq_Range_at])))
    | (refine condKT_dec (fun hg => ?_) (fun hg => ?_) <;> (try (first | simp (maxSteps := 8000000) (implicitDefEqProofs := false) (disch := omega) only [↓reduceIte, go_sem, if_pos, if_neg, eq_false hg, eq_Range_at] | simp (maxSteps := 8000000) (implicitDefEqProofs := false) (disch := omega) only [↓reduceIte, go_sem, if_pos, if_neg, eq_true hg, eq_Range_at])))
    | (refine gdKT_split (fun hg => ?_) (fun hg => ?_) <;> (try simp (maxSteps := 8000000) (implicitDefEqProofs := false) (disch := omega) only [↓reduceIte, go_sem, if_pos, if_neg, hg, eq_Range_at]))
    | (refine condKT_split (fun hg => ?_) (fun hg => ?_) <;> (try simp (maxSteps := 8000000) (implicitDefEqProofs := false) (disch := omega) only [↓reduceIte, go_sem, if_pos, if_neg, hg, eq_Range_at]))
    | (refine endT_p (.inr rfl) (by simp (maxSteps := 8000000) (implicitDefEqProofs := false) (disch := omega) only [↓reduceIte, go_sem, if_pos, if_neg, eq_Range_at]; rfl) ?_; (first | exact vb_true (by omega) | exact vb_false (by omega) | exact vb_dec (by omega) | exact vi_eq (by omega) | rfl | (refine vi_eq ?_; simp_all; done) | (refine vi_eq ?_; simp_all; omega) | (refine vi_eq ?_; simp_all; intros; omega)))
    | exact endT_v (.inr rfl) (by simp (maxSteps := 8000000) (implicitDefEqProofs := false) (disch := omega) only [↓reduceIte, go_sem, if_pos, if_neg, eq_Range_at]; try rfl) (fun _ => rfl)
def sh_SelS : Shp := .sl 155 sh_Sel
-- laws.toSelS
def c78 : AF := ⟨23,
  (.seq (.reg [⟨(some 2), none, .mv (.v (.slice none 0 0))⟩])
  (.seq (.reg [⟨(some 5), none, .mv (.t 0)⟩,
   ⟨(some 6), none, .len (.t 5)⟩,
   ⟨(some 7), none, .mkSl 155 9 72 [(.int .i64 0), (.int .i64 0), (.int .i64 0), (.int .i64 0), (.int .i64 0), (.int .i64 0), (.int .i64 0), (.int .i64 0), (.int .i64 0)] (.t 6) (.t 6)⟩,
   ⟨(some 3), none, .mv (.t 7)⟩])
  (.seq (.seq (.reg [⟨(some 4), none, .mv (.v (.int .i64 0))⟩])
  (.block 0 (.loop (.seq (.seq (.reg [⟨(some 8), none, .mv (.t 4)⟩,
   ⟨(some 9), none, .mv (.t 0)⟩,
   ⟨(some 10), none, .len (.t 9)⟩,
   ⟨(some 11), none, .bin .lss (.t 8) (.t 10)⟩])
  (.cond (.t 11) .skip
  (.exit 0)))
  (.seq (.block 1 (.reg [⟨(some 14), none, .mv (.t 3)⟩,
   ⟨(some 15), none, .mv (.t 4)⟩,
   ⟨(some 16), none, .mv (.t 0)⟩,
   ⟨(some 17), none, .mv (.t 4)⟩,
   ⟨(some 18), none, .ia 9 (.t 16) (.t 17)⟩,
   ⟨(some 19), none, .ldn 9 (.t 18)⟩,
   ⟨(some 20), none, .call 144 [(.t 19)]⟩,
   ⟨(some 21), none, .ia 9 (.t 14) (.t 15)⟩,
   ⟨none, none, .st 9 (.t 21) (.t 20)⟩]))
  (.reg [⟨(some 12), none, .mv (.t 4)⟩,
   ⟨(some 13), none, .bin .add (.t 12) (.v (.int .i64 1))⟩,
   ⟨(some 4), none, .mv (.t 13)⟩]))))))
  (.seq (.reg [⟨(some 22), none, .mv (.t 3)⟩,
   ⟨(some 2), none, .mv (.t 22)⟩])
  .ret)))),
  [.t 2]⟩
theorem k78 : cFn Try.prog Try.f78 = some c78 := by kernel_rfl
theorem toSelS_ok : OkT Try.prog 78 (pureSp (toC_S sh_SelS)) := by
  refine okT_toC (OkΓT.cons toSel_ok (OkΓT.nil _)) Try.func78 (by kernel_rfl) k78 ?_
  intro c hc hz
  simp only [sh_SelS, HasC] at hc
  obtain ⟨rows, rfl, hr⟩ := hc
  simp only [szC] at hz
  have hlen : ∀ r ∈ rows, r.length = 9 := fun r hx => (hr r hx).len
  generalize hzz : (el [.p (.int .i64 0), .p (.int .i64 0), .p (.int .i64 0), .p (.int .i64 0), .p (.int .i64 0), .p (.int .i64 0), .p (.int .i64 0), .p (.int .i64 0), .p (.int .i64 0)] : TV) = z0
  have hz1 : cellsT z0 = [.p (.int .i64 0), .p (.int .i64 0), .p (.int .i64 0), .p (.int .i64 0), .p (.int .i64 0), .p (.int .i64 0), .p (.int .i64 0), .p (.int .i64 0), .p (.int .i64 0)] := by rw [← hzz]; rfl
  simp only [fzC, tvC_v, tvC_nl, tvC_sl, bkC]
  (dsimp only [c78]; simp (maxSteps := 8000000) (implicitDefEqProofs := false) (disch := omega) only [↓reduceIte, go_sem, if_pos, if_neg, hzz, mixR_zero 1 rows z0])
  refine awpT_loop (α := Nat) (fun i => ⟨slots [(0, .s (fzRs rows)), (3, .os 0 0 rows.length), (4, .p (.int .i64 i))], .cells 155 9 (mixR 1 rows z0 i) :: bkRs 1 (rows.take i)⟩)
    (fun i => i ≤ rows.length) (fun i => rows.length - i) 0 (Nat.zero_le _) (by simp only [List.take_zero, bkRs]; exact le_keep (Nat.zero_le _) (by simp (maxSteps := 8000000) (implicitDefEqProofs := false) (disch := omega) only [↓reduceIte, go_sem, if_pos, if_neg, slotsIn])) ?_
  intro i hi
  simp (maxSteps := 8000000) (implicitDefEqProofs := false) (disch := omega) only [↓reduceIte, go_sem, if_pos, if_neg, mixR_len 1 rows z0 hi]
  refine condKT_dec (fun hlt => ?_) (fun hge => ?_)
  · obtain ⟨r, hx⟩ := get_ex (l := rows) (i := i) (by omega)
    have hrr := hr r (List.mem_of_getElem? hx)
    have hzr := szRs_mem hx
    have hg := fzRs_get hx; have hm := mixR_get 1 (rows := rows) z0 (i := i) (by omega)
    have hs := mixR_set 1 z0 hx; have hb := bkRs_snoc 1 hx; have hn := bkRs_len 1 (rows.take i)
    obtain ⟨a0, a1, a2, a3, a4, a5, a6, a7, a8, rfl⟩ := sh_Sel_Has hrr
    simp only [szCs, szC] at hzr
    simp only [fzCs, fzC, tvCs, tvC_v, tvC_nl, tvC_sl, bkCs, bkC, nbC, nbCs, Nat.add_zero, List.append_nil, List.nil_append, el_one, el_two, Nat.add_comm 1 (nbRs _)] at hg hs hb
    simp (maxSteps := 8000000) (implicitDefEqProofs := false) (disch := omega) only [↓reduceIte, go_sem, if_pos, if_neg, eq_true hlt, hg, hm, hs, hn, hz1, el_two, to_Sel_at]
    refine loopKT_next (i + 1) (by omega) (by omega) ?_
    rw [hb]; refine (le_keep (Nat.zero_le _) ?_) <;> simp (maxSteps := 8000000) (implicitDefEqProofs := false) (disch := omega) only [↓reduceIte, go_sem, if_pos, if_neg, slotsIn]
  · have hb : rows.take i = rows := List.take_of_length_le (by omega)
    have hm := mixR_full 1 (rows := rows) z0 (i := i) (by omega)
    simp (maxSteps := 8000000) (implicitDefEqProofs := false) (disch := omega) only [↓reduceIte, go_sem, if_pos, if_neg, eq_false hge, hb, hm]
    refine joinK_here ?_
    simp (maxSteps := 8000000) (implicitDefEqProofs := false) (disch := omega) only [↓reduceIte, go_sem, if_pos, if_neg]
    exact endT_same (.inr rfl) (by (simp (maxSteps := 8000000) (implicitDefEqProofs := false) (disch := omega) only [↓reduceIte, go_sem, if_pos, if_neg]) <;> rfl) rfl
-- laws.eqSelS
def c87 : AF := ⟨27,
  (.seq (.reg [⟨(some 4), none, .mv (.v (.bool false))⟩])
  (.seq (.seq (.reg [⟨(some 6), none, .mv (.t 0)⟩,
   ⟨(some 7), none, .len (.t 6)⟩,
   ⟨(some 8), none, .mv (.t 1)⟩,
   ⟨(some 9), none, .len (.t 8)⟩,
   ⟨(some 10), none, .bin .neq (.t 7) (.t 9)⟩])
  (.cond (.t 10) (.seq (.reg [⟨(some 4), none, .mv (.v (.bool false))⟩])
  .ret)
  .skip))
  (.seq (.seq (.reg [⟨(some 5), none, .mv (.v (.int .i64 0))⟩])
  (.block 0 (.loop (.seq (.seq (.reg [⟨(some 11), none, .mv (.t 5)⟩,
   ⟨(some 12), none, .mv (.t 0)⟩,
   ⟨(some 13), none, .len (.t 12)⟩,
   ⟨(some 14), none, .bin .lss (.t 11) (.t 13)⟩])
  (.cond (.t 14) .skip
  (.exit 0)))
  (.seq (.block 1 (.seq (.drw [⟨(some 17), none, .mv (.t 0)⟩,
   ⟨(some 18), none, .mv (.t 5)⟩,
   ⟨(some 19), none, .ia 9 (.t 17) (.t 18)⟩,
   ⟨(some 20), none, .ldn 9 (.t 19)⟩,
   ⟨(some 21), none, .mv (.t 1)⟩,
   ⟨(some 22), none, .mv (.t 5)⟩,
   ⟨(some 23), none, .ia 9 (.t 21) (.t 22)⟩,
   ⟨(some 24), none, .ldn 9 (.t 23)⟩] [⟨(some 25), none, .call 147 [(.t 20), (.t 24)]⟩,
   ⟨(some 26), none, .un .not (.t 25)⟩])
  (.cond (.t 26) (.seq (.reg [⟨(some 4), none, .mv (.v (.bool false))⟩])
  .ret)
  .skip)))
  (.reg [⟨(some 15), none, .mv (.t 5)⟩,
   ⟨(some 16), none, .bin .add (.t 15) (.v (.int .i64 1))⟩,
   ⟨(some 5), none, .mv (.t 16)⟩]))))))
  (.seq (.reg [⟨(some 4), none, .mv (.v (.bool true))⟩])
  .ret)))),
  [.t 4]⟩
theorem k87 : cFn Try.prog Try.f87 = some c87 := by kernel_rfl
theorem eqSelS_ok : OkT Try.prog 87 (pureSp (eqC_S sh_SelS)) := by
  refine okT_eqC (OkΓT.cons eqSel_ok (OkΓT.nil _)) Try.func87 (by kernel_rfl) k87 ?_
  intro c hc hz
  obtain ⟨rows, hf, hr, hsz, _⟩ := FitC.rows hc
  rw [hf]
  (dsimp only [c87]; simp (maxSteps := 8000000) (implicitDefEqProofs := false) (disch := omega) only [↓reduceIte, go_sem, if_pos, if_neg])
  refine awpT_loop (α := Nat) (fun i => ⟨slots [(0, .s (fzRs rows)), (1, .s (fzRs rows)), (5, .p (.int .i64 i))], []⟩) (fun i => i ≤ rows.length) (fun i => rows.length - i) 0 (Nat.zero_le _) (le_of [] (by simp (maxSteps := 8000000) (implicitDefEqProofs := false) (disch := omega) only [↓reduceIte, go_sem, if_pos, if_neg]) (by simp (maxSteps := 8000000) (implicitDefEqProofs := false) (disch := omega) only [↓reduceIte, go_sem, if_pos, if_neg]) (by decide) (by simp)) ?_
  intro i hi
  simp (maxSteps := 8000000) (implicitDefEqProofs := false) (disch := omega) only [↓reduceIte, go_sem, if_pos, if_neg]
  refine condKT_dec (fun hlt => ?_) (fun hge => ?_)
  · obtain ⟨r, hx⟩ := get_ex (l := rows) (i := i) (by omega)
    have hrr := hr r (List.mem_of_getElem? hx)
    have hzr := szRs_mem hx
    have hg := fzRs_get hx
    obtain ⟨a0, a1, a2, a3, a4, a5, a6, a7, a8, rfl⟩ := sh_Sel_Fit hrr
    simp only [szCs, szC] at hzr
    simp only [fzCs, fzC, el_one, el_two] at hg
    simp (maxSteps := 8000000) (implicitDefEqProofs := false) (disch := omega) only [↓reduceIte, go_sem, if_pos, if_neg, eq_true hlt, hg, eq_Sel_at]
    refine loopKT_next (i + 1) (by omega) (by omega) ?_
    exact (le_of [] (by simp (maxSteps := 8000000) (implicitDefEqProofs := false) (disch := omega) only [↓reduceIte, go_sem, if_pos, if_neg]) (by simp (maxSteps := 8000000) (implicitDefEqProofs := false) (disch := omega) only [↓reduceIte, go_sem, if_pos, if_neg]) (by decide) (by simp))
  · simp (maxSteps := 8000000) (implicitDefEqProofs := false) (disch := omega) only [↓reduceIte, go_sem, if_pos, if_neg, eq_false hge]
    refine joinK_here ?_
    simp (maxSteps := 8000000) (implicitDefEqProofs := false) (disch := omega) only [↓reduceIte, go_sem, if_pos, if_neg]
    repeat' first
      | (refine gdKT_dec (fun hg => ?_) (fun hg => ?_) <;> (try (first | simp (maxSteps := 8000000) (implicitDefEqProofs := false) (disch := omega) only [↓reduceIte, go_sem, if_pos, if_neg, eq_false hg] | simp (maxSteps := 8000000) (implicitDefEqProofs := false) (disch := omega) only [↓reduceIte, go_sem, if_pos, if_neg, eq_true hg])))
      | (refine condKT_dec (fun hg => ?_) (fun hg => ?_) <;> (try (first | simp (maxSteps := 8000000) (implicitDefEqProofs := false) (disch := omega) only [↓reduceIte, go_sem, if_pos, if_neg, eq_false hg] | simp (maxSteps := 8000000) (implicitDefEqProofs := false) (disch := omega) only [↓reduceIte, go_sem, if_pos, if_neg, eq_true hg])))
      | (refine gdKT_split (fun hg => ?_) (fun hg => ?_) <;> (try simp (maxSteps := 8000000) (implicitDefEqProofs := false) (disch := omega) only [↓reduceIte, go_sem, if_pos, if_neg, hg]))
      | (refine condKT_split (fun hg => ?_) (fun hg => ?_) <;> (try simp (maxSteps := 8000000) (implicitDefEqProofs := false) (disch := omega) only [↓reduceIte, go_sem, if_pos, if_neg, hg]))
      | (refine endT_p (.inr rfl) (by simp (maxSteps := 8000000) (implicitDefEqProofs := false) (disch := omega) only [↓reduceIte, go_sem, if_pos, if_neg]; rfl) ?_; (first | exact vb_true (by omega) | exact vb_false (by omega) | exact vb_dec (by omega) | exact vi_eq (by omega) | rfl | (refine vi_eq ?_; simp_all; done) | (refine vi_eq ?_; simp_all; omega) | (refine vi_eq ?_; simp_all; intros; omega)))
      | exact endT_v (.inr rfl) (by simp (maxSteps := 8000000) (implicitDefEqProofs := false) (disch := omega) only [↓reduceIte, go_sem, if_pos, if_neg]; try rfl) (fun _ => rfl)
-- laws.szSelS
def c73 : AF := ⟨12,
  (.seq (.reg [⟨(some 4), none, .mv (.v (.int .i64 0))⟩])
  (.seq (.reg [⟨(some 5), none, .mv (.t 1)⟩,
   ⟨(some 6), none, .mv (.t 0)⟩,
   ⟨(some 7), none, .len (.t 6)⟩,
   ⟨(some 8), none, .bin .sub (.t 5) (.t 7)⟩,
   ⟨(some 1), none, .mv (.t 8)⟩])
  (.seq (.seq (.reg [⟨(some 9), none, .mv (.t 1)⟩,
   ⟨(some 10), none, .bin .lss (.t 9) (.v (.int .i64 0))⟩])
  (.cond (.t 10) (.seq (.reg [⟨(some 4), none, .mv (.v (.int .i64 (-1)))⟩])
  .ret)
  .skip))
  (.seq (.reg [⟨(some 11), none, .mv (.t 1)⟩,
   ⟨(some 4), none, .mv (.t 11)⟩])
  .ret)))),
  [.t 4]⟩
theorem k73 : cFn Try.prog Try.f73 = some c73 := by kernel_rfl
theorem szSelS_ok : OkT Try.prog 73 (pureSp (szC_S sh_SelS)) := by
  refine okT_szC (OkΓT.nil _) Try.func73 (by kernel_rfl) k73 ?_
  intro c k hc h1 h2 hz
  simp only [sh_SelS, HasC] at hc
  obtain ⟨rows, rfl, hr⟩ := hc
  generalize hN : szC _ = N at *
  simp only [szC] at hN
  simp only [lnC, Bool.and_eq_true, decide_eq_true_eq] at hz
  obtain ⟨hz, hzr⟩ := hz
  simp only [fzC]
  have hz0 : szRs rows = 0 := szRs_zero fun r hx => by
    have hrr := hr r hx
    obtain ⟨a0, a1, a2, a3, a4, a5, a6, a7, a8, rfl⟩ := sh_Sel_Has hrr
    rfl
  by_cases q : (rows.length : Int) ≤ k
  · rw [if_pos (by omega), show (N : Int) = rows.length by omega]
    (dsimp only [c73]; simp (maxSteps := 8000000) (implicitDefEqProofs := false) (disch := omega) only [↓reduceIte, go_sem, if_pos, if_neg])
    repeat' first
      | (refine gdKT_dec (fun hg => ?_) (fun hg => ?_) <;> (try (first | simp (maxSteps := 8000000) (implicitDefEqProofs := false) (disch := omega) only [↓reduceIte, go_sem, if_pos, if_neg, eq_false hg] | simp (maxSteps := 8000000) (implicitDefEqProofs := false) (disch := omega) only [↓reduceIte, go_sem, if_pos, if_neg, eq_true hg])))
      | (refine condKT_dec (fun hg => ?_) (fun hg => ?_) <;> (try (first | simp (maxSteps := 8000000) (implicitDefEqProofs := false) (disch := omega) only [↓reduceIte, go_sem, if_pos, if_neg, eq_false hg] | simp (maxSteps := 8000000) (implicitDefEqProofs := false) (disch := omega) only [↓reduceIte, go_sem, if_pos, if_neg, eq_true hg])))
      | (refine gdKT_split (fun hg => ?_) (fun hg => ?_) <;> (try simp (maxSteps := 8000000) (implicitDefEqProofs := false) (disch := omega) only [↓reduceIte, go_sem, if_pos, if_neg, hg]))
      | (refine condKT_split (fun hg => ?_) (fun hg => ?_) <;> (try simp (maxSteps := 8000000) (implicitDefEqProofs := false) (disch := omega) only [↓reduceIte, go_sem, if_pos, if_neg, hg]))
      | (refine endT_p (.inr rfl) (by simp (maxSteps := 8000000) (implicitDefEqProofs := false) (disch := omega) only [↓reduceIte, go_sem, if_pos, if_neg]; rfl) ?_; (first | exact vb_true (by omega) | exact vb_false (by omega) | exact vb_dec (by omega) | exact vi_eq (by omega) | rfl | (refine vi_eq ?_; simp_all; done) | (refine vi_eq ?_; simp_all; omega) | (refine vi_eq ?_; simp_all; intros; omega)))
      | exact endT_v (.inr rfl) (by simp (maxSteps := 8000000) (implicitDefEqProofs := false) (disch := omega) only [↓reduceIte, go_sem, if_pos, if_neg]; try rfl) (fun _ => rfl)
  · rw [if_neg (by omega)]
    (dsimp only [c73]; simp (maxSteps := 8000000) (implicitDefEqProofs := false) (disch := omega) only [↓reduceIte, go_sem, if_pos, if_neg])
    repeat' first
      | (refine gdKT_dec (fun hg => ?_) (fun hg => ?_) <;> (try (first | simp (maxSteps := 8000000) (implicitDefEqProofs := false) (disch := omega) only [↓reduceIte, go_sem, if_pos, if_neg, eq_false hg] | simp (maxSteps := 8000000) (implicitDefEqProofs := false) (disch := omega) only [↓reduceIte, go_sem, if_pos, if_neg, eq_true hg])))
      | (refine condKT_dec (fun hg => ?_) (fun hg => ?_) <;> (try (first | simp (maxSteps := 8000000) (implicitDefEqProofs := false) (disch := omega) only [↓reduceIte, go_sem, if_pos, if_neg, eq_false hg] | simp (maxSteps := 8000000) (implicitDefEqProofs := false) (disch := omega) only [↓reduceIte, go_sem, if_pos, if_neg, eq_true hg])))
      | (refine gdKT_split (fun hg => ?_) (fun hg => ?_) <;> (try simp (maxSteps := 8000000) (implicitDefEqProofs := false) (disch := omega) only [↓reduceIte, go_sem, if_pos, if_neg, hg]))
      | (refine condKT_split (fun hg => ?_) (fun hg => ?_) <;> (try simp (maxSteps := 8000000) (implicitDefEqProofs := false) (disch := omega) only [↓reduceIte, go_sem, if_pos, if_neg, hg]))
      | (refine endT_p (.inr rfl) (by simp (maxSteps := 8000000) (implicitDefEqProofs := false) (disch := omega) only [↓reduceIte, go_sem, if_pos, if_neg]; rfl) ?_; (first | exact vb_true (by omega) | exact vb_false (by omega) | exact vb_dec (by omega) | exact vi_eq (by omega) | rfl | (refine vi_eq ?_; simp_all; done) | (refine vi_eq ?_; simp_all; omega) | (refine vi_eq ?_; simp_all; intros; omega)))
      | exact endT_v (.inr rfl) (by simp (maxSteps := 8000000) (implicitDefEqProofs := false) (disch := omega) only [↓reduceIte, go_sem, if_pos, if_neg]; try rfl) (fun _ => rfl)
-- laws.heldSelS
def c152 : AF := ⟨102,
  (.seq (.reg [⟨(some 4), none, .mv (.v (.int .i64 0))⟩])
  (.seq (.seq (.reg [⟨(some 5), none, .mv (.v (.int .i64 0))⟩])
  (.block 0 (.loop (.seq (.seq (.reg [⟨(some 6), none, .mv (.t 5)⟩,
   ⟨(some 7), none, .mv (.t 0)⟩,
   ⟨(some 8), none, .len (.t 7)⟩,
   ⟨(some 9), none, .bin .lss (.t 6) (.t 8)⟩])
  (.cond (.t 9) .skip
  (.exit 0)))
  (.seq (.block 1 (.seq (.seq (.reg [⟨(some 12), none, .mv (.t 0)⟩,
   ⟨(some 13), none, .mv (.t 5)⟩,
   ⟨(some 14), none, .ia 9 (.t 12) (.t 13)⟩,
   ⟨(some 15), none, .fa (.t 14) 0⟩,
   ⟨(some 16), none, .fa (.t 15) 0⟩,
   ⟨(some 17), none, .ld (.t 16)⟩,
   ⟨(some 18), none, .mv (.t 1)⟩,
   ⟨(some 19), none, .bin .neq (.t 17) (.t 18)⟩])
  (.cond (.t 19) (.seq (.reg [⟨(some 4), none, .mv (.v (.int .i64 (-1)))⟩])
  .ret)
  .skip))
  (.seq (.reg [⟨(some 20), none, .mv (.t 1)⟩,
   ⟨(some 21), none, .bin .add (.t 20) (.v (.int .i64 1))⟩,
   ⟨(some 1), none, .mv (.t 21)⟩])
  (.seq (.seq (.reg [⟨(some 22), none, .mv (.t 0)⟩,
   ⟨(some 23), none, .mv (.t 5)⟩,
   ⟨(some 24), none, .ia 9 (.t 22) (.t 23)⟩,
   ⟨(some 25), none, .fa (.t 24) 0⟩,
   ⟨(some 26), none, .fa (.t 25) 1⟩,
   ⟨(some 27), none, .ld (.t 26)⟩,
   ⟨(some 28), none, .mv (.t 1)⟩,
   ⟨(some 29), none, .bin .neq (.t 27) (.t 28)⟩])
  (.cond (.t 29) (.seq (.reg [⟨(some 4), none, .mv (.v (.int .i64 (-1)))⟩])
  .ret)
  .skip))
  (.seq (.reg [⟨(some 30), none, .mv (.t 1)⟩,
   ⟨(some 31), none, .bin .add (.t 30) (.v (.int .i64 1))⟩,
   ⟨(some 1), none, .mv (.t 31)⟩])
  (.seq (.seq (.reg [⟨(some 32), none, .mv (.t 0)⟩,
   ⟨(some 33), none, .mv (.t 5)⟩,
   ⟨(some 34), none, .ia 9 (.t 32) (.t 33)⟩,
   ⟨(some 35), none, .fa (.t 34) 2⟩,
   ⟨(some 36), none, .fa (.t 35) 0⟩,
   ⟨(some 37), none, .ld (.t 36)⟩,
   ⟨(some 38), none, .mv (.t 1)⟩,
   ⟨(some 39), none, .bin .neq (.t 37) (.t 38)⟩])
  (.cond (.t 39) (.seq (.reg [⟨(some 4), none, .mv (.v (.int .i64 (-1)))⟩])
  .ret)
  .skip))
  (.seq (.reg [⟨(some 40), none, .mv (.t 1)⟩,
   ⟨(some 41), none, .bin .add (.t 40) (.v (.int .i64 1))⟩,
   ⟨(some 1), none, .mv (.t 41)⟩])
  (.seq (.seq (.reg [⟨(some 42), none, .mv (.t 0)⟩,
   ⟨(some 43), none, .mv (.t 5)⟩,
   ⟨(some 44), none, .ia 9 (.t 42) (.t 43)⟩,
   ⟨(some 45), none, .fa (.t 44) 2⟩,
   ⟨(some 46), none, .fa (.t 45) 1⟩,
   ⟨(some 47), none, .ld (.t 46)⟩,
   ⟨(some 48), none, .mv (.t 1)⟩,
   ⟨(some 49), none, .bin .neq (.t 47) (.t 48)⟩])
  (.cond (.t 49) (.seq (.reg [⟨(some 4), none, .mv (.v (.int .i64 (-1)))⟩])
  .ret)
  .skip))
  (.seq (.reg [⟨(some 50), none, .mv (.t 1)⟩,
   ⟨(some 51), none, .bin .add (.t 50) (.v (.int .i64 1))⟩,
   ⟨(some 1), none, .mv (.t 51)⟩])
  (.seq (.seq (.reg [⟨(some 52), none, .mv (.t 0)⟩,
   ⟨(some 53), none, .mv (.t 5)⟩,
   ⟨(some 54), none, .ia 9 (.t 52) (.t 53)⟩,
   ⟨(some 55), none, .fa (.t 54) 4⟩,
   ⟨(some 56), none, .fa (.t 55) 0⟩,
   ⟨(some 57), none, .ld (.t 56)⟩,
   ⟨(some 58), none, .mv (.t 1)⟩,
   ⟨(some 59), none, .bin .neq (.t 57) (.t 58)⟩])
  (.cond (.t 59) (.seq (.reg [⟨(some 4), none, .mv (.v (.int .i64 (-1)))⟩])
  .ret)
  .skip))
  (.seq (.reg [⟨(some 60), none, .mv (.t 1)⟩,
   ⟨(some 61), none, .bin .add (.t 60) (.v (.int .i64 1))⟩,
   ⟨(some 1), none, .mv (.t 61)⟩])
  (.seq (.seq (.reg [⟨(some 62), none, .mv (.t 0)⟩,
   ⟨(some 63), none, .mv (.t 5)⟩,
   ⟨(some 64), none, .ia 9 (.t 62) (.t 63)⟩,
   ⟨(some 65), none, .fa (.t 64) 4⟩,
   ⟨(some 66), none, .fa (.t 65) 1⟩,
   ⟨(some 67), none, .ld (.t 66)⟩,
   ⟨(some 68), none, .mv (.t 1)⟩,
   ⟨(some 69), none, .bin .neq (.t 67) (.t 68)⟩])
  (.cond (.t 69) (.seq (.reg [⟨(some 4), none, .mv (.v (.int .i64 (-1)))⟩])
  .ret)
  .skip))
  (.seq (.reg [⟨(some 70), none, .mv (.t 1)⟩,
   ⟨(some 71), none, .bin .add (.t 70) (.v (.int .i64 1))⟩,
   ⟨(some 1), none, .mv (.t 71)⟩])
  (.seq (.seq (.reg [⟨(some 72), none, .mv (.t 0)⟩,
   ⟨(some 73), none, .mv (.t 5)⟩,
   ⟨(some 74), none, .ia 9 (.t 72) (.t 73)⟩,
   ⟨(some 75), none, .fa (.t 74) 6⟩,
   ⟨(some 76), none, .fa (.t 75) 0⟩,
   ⟨(some 77), none, .ld (.t 76)⟩,
   ⟨(some 78), none, .mv (.t 1)⟩,
   ⟨(some 79), none, .bin .neq (.t 77) (.t 78)⟩])
  (.cond (.t 79) (.seq (.reg [⟨(some 4), none, .mv (.v (.int .i64 (-1)))⟩])
  .ret)
  .skip))
  (.seq (.reg [⟨(some 80), none, .mv (.t 1)⟩,
   ⟨(some 81), none, .bin .add (.t 80) (.v (.int .i64 1))⟩,
   ⟨(some 1), none, .mv (.t 81)⟩])
  (.seq (.seq (.reg [⟨(some 82), none, .mv (.t 0)⟩,
   ⟨(some 83), none, .mv (.t 5)⟩,
   ⟨(some 84), none, .ia 9 (.t 82) (.t 83)⟩,
   ⟨(some 85), none, .fa (.t 84) 6⟩,
   ⟨(some 86), none, .fa (.t 85) 1⟩,
   ⟨(some 87), none, .ld (.t 86)⟩,
   ⟨(some 88), none, .mv (.t 1)⟩,
   ⟨(some 89), none, .bin .neq (.t 87) (.t 88)⟩])
  (.cond (.t 89) (.seq (.reg [⟨(some 4), none, .mv (.v (.int .i64 (-1)))⟩])
  .ret)
  .skip))
  (.seq (.reg [⟨(some 90), none, .mv (.t 1)⟩,
   ⟨(some 91), none, .bin .add (.t 90) (.v (.int .i64 1))⟩,
   ⟨(some 1), none, .mv (.t 91)⟩])
  (.seq (.seq (.reg [⟨(some 92), none, .mv (.t 0)⟩,
   ⟨(some 93), none, .mv (.t 5)⟩,
   ⟨(some 94), none, .ia 9 (.t 92) (.t 93)⟩,
   ⟨(some 95), none, .fa (.t 94) 8⟩,
   ⟨(some 96), none, .ld (.t 95)⟩,
   ⟨(some 97), none, .mv (.t 1)⟩,
   ⟨(some 98), none, .bin .neq (.t 96) (.t 97)⟩])
  (.cond (.t 98) (.seq (.reg [⟨(some 4), none, .mv (.v (.int .i64 (-1)))⟩])
  .ret)
  .skip))
  (.reg [⟨(some 99), none, .mv (.t 1)⟩,
   ⟨(some 100), none, .bin .add (.t 99) (.v (.int .i64 1))⟩,
   ⟨(some 1), none, .mv (.t 100)⟩])))))))))))))))))))
  (.reg [⟨(some 10), none, .mv (.t 5)⟩,
   ⟨(some 11), none, .bin .add (.t 10) (.v (.int .i64 1))⟩,
   ⟨(some 5), none, .mv (.t 11)⟩]))))))
  (.seq (.reg [⟨(some 101), none, .mv (.t 1)⟩,
   ⟨(some 4), none, .mv (.t 101)⟩])
  .ret))),
  [.t 4]⟩
theorem k152 : cFn Try.prog Try.f152 = some c152 := by kernel_rfl
theorem heldSelS_ok : OkT Try.prog 152 (pureSp (hdC_S sh_SelS)) := by
  refine okT_hdC (OkΓT.nil _) Try.func152 (by kernel_rfl) k152 ?_
  intro c k hc h1 hz
  obtain ⟨rows, _, hr, _, hwt, hf⟩ := FitC.rows hc
  rw [hwt] at hz ⊢; rw [hf]
  have hlw : rows.length ≤ wtRs rows := wtRs_rows fun r hx => by
    have hrr := hr r hx
    obtain ⟨a0, a1, a2, a3, a4, a5, a6, a7, a8, rfl⟩ := sh_Sel_Fit hrr
    simp only [wtIs, wtI]; omega
  (dsimp only [c152]; simp (maxSteps := 8000000) (implicitDefEqProofs := false) (disch := omega) only [↓reduceIte, go_sem, if_pos, if_neg])
  refine awpT_loop (α := Nat) (fun i => ⟨slots [(0, .s (fzRs (mkRs rows k))), (1, .p (.int .i64 (k + (wtRs (rows.take i) : Int)))), (5, .p (.int .i64 i))], []⟩) (fun i => i ≤ rows.length) (fun i => rows.length - i) 0 (Nat.zero_le _) (by simp only [List.take_zero, wtRs, nat0T, Int.add_zero]; exact (le_of [] (by simp (maxSteps := 8000000) (implicitDefEqProofs := false) (disch := omega) only [↓reduceIte, go_sem, if_pos, if_neg]) (by simp (maxSteps := 8000000) (implicitDefEqProofs := false) (disch := omega) only [↓reduceIte, go_sem, if_pos, if_neg]) (by decide) (by simp))) ?_
  intro i hi
  simp (maxSteps := 8000000) (implicitDefEqProofs := false) (disch := omega) only [↓reduceIte, go_sem, if_pos, if_neg]
  refine condKT_dec (fun hlt => ?_) (fun hge => ?_)
  · obtain ⟨r, hx⟩ := get_ex (l := rows) (i := i) (by omega)
    have hrr := hr r (List.mem_of_getElem? hx)
    have hwr := wtRs_mem hx; have hsn := wtRs_snoc hx
    have hg := fzRs_get (mkRs_get (k := k) hx)
    generalize hm : k + (wtRs (rows.take i) : Int) = m at *
    obtain ⟨a0, a1, a2, a3, a4, a5, a6, a7, a8, rfl⟩ := sh_Sel_Fit hrr
    simp only [wtIs, wtI, Nat.add_zero] at hwr hsn
    simp only [mkIs, mkI, mkV, wtI, nat1T, fzCs, fzC, el_one, el_two] at hg
    simp (maxSteps := 8000000) (implicitDefEqProofs := false) (disch := omega) only [↓reduceIte, go_sem, if_pos, if_neg, eq_true hlt, hg, dec_self, Bool.not_true, not_true, decide_false]
    refine loopKT_next (i + 1) (by omega) (by omega) ?_
    have hs2 : k + (wtRs (rows.take (i + 1)) : Int) = m + 1 + 1 + 1 + 1 + 1 + 1 + 1 + 1 + 1 := by rw [hsn]; omega
    exact (le_of [] (by simp (maxSteps := 8000000) (implicitDefEqProofs := false) (disch := omega) only [↓reduceIte, go_sem, if_pos, if_neg, hs2]) (by simp (maxSteps := 8000000) (implicitDefEqProofs := false) (disch := omega) only [↓reduceIte, go_sem, if_pos, if_neg, hs2]) (by decide) (by simp))
  · have hb : rows.take i = rows := List.take_of_length_le (by omega)
    simp (maxSteps := 8000000) (implicitDefEqProofs := false) (disch := omega) only [↓reduceIte, go_sem, if_pos, if_neg, eq_false hge, hb]
    refine joinK_here ?_
    simp (maxSteps := 8000000) (implicitDefEqProofs := false) (disch := omega) only [↓reduceIte, go_sem, if_pos, if_neg]
    repeat' first
      | (refine gdKT_dec (fun hg => ?_) (fun hg => ?_) <;> (try (first | simp (maxSteps := 8000000) (implicitDefEqProofs := false) (disch := omega) only [↓reduceIte, go_sem, if_pos, if_neg, eq_false hg] | simp (maxSteps := 8000000) (implicitDefEqProofs := false) (disch := omega) only [↓reduceIte, go_sem, if_pos, if_neg, eq_true hg])))
      | (refine condKT_dec (fun hg => ?_) (fun hg => ?_) <;> (try (first | simp (maxSteps := 8000000) (implicitDefEqProofs := false) (disch := omega) only [↓reduceIte, go_sem, if_pos, if_neg, eq_false hg] | simp (maxSteps := 8000000) (implicitDefEqProofs := false) (disch := omega) only [↓reduceIte, go_sem, if_pos, if_neg, eq_true hg])))
      | (refine gdKT_split (fun hg => ?_) (fun hg => ?_) <;> (try simp (maxSteps := 8000000) (implicitDefEqProofs := false) (disch := omega) only [↓reduceIte, go_sem, if_pos, if_neg, hg]))
      | (refine condKT_split (fun hg => ?_) (fun hg => ?_) <;> (try simp (maxSteps := 8000000) (implicitDefEqProofs := false) (disch := omega) only [↓reduceIte, go_sem, if_pos, if_neg, hg]))
      | (refine endT_p (.inr rfl) (by simp (maxSteps := 8000000) (implicitDefEqProofs := false) (disch := omega) only [↓reduceIte, go_sem, if_pos, if_neg]; rfl) ?_; (first | exact vb_true (by omega) | exact vb_false (by omega) | exact vb_dec (by omega) | exact vi_eq (by omega) | rfl | (refine vi_eq ?_; simp_all; done) | (refine vi_eq ?_; simp_all; omega) | (refine vi_eq ?_; simp_all; intros; omega)))
      | exact endT_v (.inr rfl) (by simp (maxSteps := 8000000) (implicitDefEqProofs := false) (disch := omega) only [↓reduceIte, go_sem, if_pos, if_neg]; try rfl) (fun _ => rfl)
-- laws.markSelS
def c97 : AF := ⟨84,
  (.seq (.reg [⟨(some 4), none, .mv (.v (.int .i64 0))⟩])
  (.seq (.seq (.reg [⟨(some 5), none, .mv (.v (.int .i64 0))⟩])
  (.block 0 (.loop (.seq (.seq (.reg [⟨(some 6), none, .mv (.t 5)⟩,
   ⟨(some 7), none, .mv (.t 0)⟩,
   ⟨(some 8), none, .len (.t 7)⟩,
   ⟨(some 9), none, .bin .lss (.t 6) (.t 8)⟩])
  (.cond (.t 9) .skip
  (.exit 0)))
  (.seq (.block 1 (.seq (.reg [⟨(some 12), none, .mv (.t 0)⟩,
   ⟨(some 13), none, .mv (.t 5)⟩,
   ⟨(some 14), none, .mv (.t 1)⟩,
   ⟨(some 15), none, .ia 9 (.t 12) (.t 13)⟩,
   ⟨(some 16), none, .fa (.t 15) 0⟩,
   ⟨(some 17), none, .fa (.t 16) 0⟩,
   ⟨none, none, .st 1 (.t 17) (.t 14)⟩])
  (.seq (.reg [⟨(some 18), none, .mv (.t 1)⟩,
   ⟨(some 19), none, .bin .add (.t 18) (.v (.int .i64 1))⟩,
   ⟨(some 1), none, .mv (.t 19)⟩])
  (.seq (.reg [⟨(some 20), none, .mv (.t 0)⟩,
   ⟨(some 21), none, .mv (.t 5)⟩,
   ⟨(some 22), none, .mv (.t 1)⟩,
   ⟨(some 23), none, .ia 9 (.t 20) (.t 21)⟩,
   ⟨(some 24), none, .fa (.t 23) 0⟩,
   ⟨(some 25), none, .fa (.t 24) 1⟩,
   ⟨none, none, .st 1 (.t 25) (.t 22)⟩])
  (.seq (.reg [⟨(some 26), none, .mv (.t 1)⟩,
   ⟨(some 27), none, .bin .add (.t 26) (.v (.int .i64 1))⟩,
   ⟨(some 1), none, .mv (.t 27)⟩])
  (.seq (.reg [⟨(some 28), none, .mv (.t 0)⟩,
   ⟨(some 29), none, .mv (.t 5)⟩,
   ⟨(some 30), none, .mv (.t 1)⟩,
   ⟨(some 31), none, .ia 9 (.t 28) (.t 29)⟩,
   ⟨(some 32), none, .fa (.t 31) 2⟩,
   ⟨(some 33), none, .fa (.t 32) 0⟩,
   ⟨none, none, .st 1 (.t 33) (.t 30)⟩])
  (.seq (.reg [⟨(some 34), none, .mv (.t 1)⟩,
   ⟨(some 35), none, .bin .add (.t 34) (.v (.int .i64 1))⟩,
   ⟨(some 1), none, .mv (.t 35)⟩])
  (.seq (.reg [⟨(some 36), none, .mv (.t 0)⟩,
   ⟨(some 37), none, .mv (.t 5)⟩,
   ⟨(some 38), none, .mv (.t 1)⟩,
   ⟨(some 39), none, .ia 9 (.t 36) (.t 37)⟩,
   ⟨(some 40), none, .fa (.t 39) 2⟩,
   ⟨(some 41), none, .fa (.t 40) 1⟩,
   ⟨none, none, .st 1 (.t 41) (.t 38)⟩])
  (.seq (.reg [⟨(some 42), none, .mv (.t 1)⟩,
   ⟨(some 43), none, .bin .add (.t 42) (.v (.int .i64 1))⟩,
   ⟨(some 1), none, .mv (.t 43)⟩])
  (.seq (.reg [⟨(some 44), none, .mv (.t 0)⟩,
   ⟨(some 45), none, .mv (.t 5)⟩,
   ⟨(some 46), none, .mv (.t 1)⟩,
   ⟨(some 47), none, .ia 9 (.t 44) (.t 45)⟩,
   ⟨(some 48), none, .fa (.t 47) 4⟩,
   ⟨(some 49), none, .fa (.t 48) 0⟩,
   ⟨none, none, .st 1 (.t 49) (.t 46)⟩])
  (.seq (.reg [⟨(some 50), none, .mv (.t 1)⟩,
   ⟨(some 51), none, .bin .add (.t 50) (.v (.int .i64 1))⟩,
   ⟨(some 1), none, .mv (.t 51)⟩])
  (.seq (.reg [⟨(some 52), none, .mv (.t 0)⟩,
   ⟨(some 53), none, .mv (.t 5)⟩,
   ⟨(some 54), none, .mv (.t 1)⟩,
   ⟨(some 55), none, .ia 9 (.t 52) (.t 53)⟩,
   ⟨(some 56), none, .fa (.t 55) 4⟩,
   ⟨(some 57), none, .fa (.t 56) 1⟩,
   ⟨none, none, .st 1 (.t 57) (.t 54)⟩])
  (.seq (.reg [⟨(some 58), none, .mv (.t 1)⟩,
   ⟨(some 59), none, .bin .add (.t 58) (.v (.int .i64 1))⟩,
   ⟨(some 1), none, .mv (.t 59)⟩])
  (.seq (.reg [⟨(some 60), none, .mv (.t 0)⟩,
   ⟨(some 61), none, .mv (.t 5)⟩,
   ⟨(some 62), none, .mv (.t 1)⟩,
   ⟨(some 63), none, .ia 9 (.t 60) (.t 61)⟩,
   ⟨(some 64), none, .fa (.t 63) 6⟩,
   ⟨(some 65), none, .fa (.t 64) 0⟩,
   ⟨none, none, .st 1 (.t 65) (.t 62)⟩])
  (.seq (.reg [⟨(some 66), none, .mv (.t 1)⟩,
   ⟨(some 67), none, .bin .add (.t 66) (.v (.int .i64 1))⟩,
   ⟨(some 1), none, .mv (.t 67)⟩])
  (.seq (.reg [⟨(some 68), none, .mv (.t 0)⟩,
   ⟨(some 69), none, .mv (.t 5)⟩,
   ⟨(some 70), none, .mv (.t 1)⟩,
   ⟨(some 71), none, .ia 9 (.t 68) (.t 69)⟩,
   ⟨(some 72), none, .fa (.t 71) 6⟩,
   ⟨(some 73), none, .fa (.t 72) 1⟩,
   ⟨none, none, .st 1 (.t 73) (.t 70)⟩])
  (.seq (.reg [⟨(some 74), none, .mv (.t 1)⟩,
   ⟨(some 75), none, .bin .add (.t 74) (.v (.int .i64 1))⟩,
   ⟨(some 1), none, .mv (.t 75)⟩])
  (.seq (.reg [⟨(some 76), none, .mv (.t 0)⟩,
   ⟨(some 77), none, .mv (.t 5)⟩,
   ⟨(some 78), none, .mv (.t 1)⟩,
   ⟨(some 79), none, .ia 9 (.t 76) (.t 77)⟩,
   ⟨(some 80), none, .fa (.t 79) 8⟩,
   ⟨none, none, .st 1 (.t 80) (.t 78)⟩])
  (.reg [⟨(some 81), none, .mv (.t 1)⟩,
   ⟨(some 82), none, .bin .add (.t 81) (.v (.int .i64 1))⟩,
   ⟨(some 1), none, .mv (.t 82)⟩])))))))))))))))))))
  (.reg [⟨(some 10), none, .mv (.t 5)⟩,
   ⟨(some 11), none, .bin .add (.t 10) (.v (.int .i64 1))⟩,
   ⟨(some 5), none, .mv (.t 11)⟩]))))))
  (.seq (.reg [⟨(some 83), none, .mv (.t 1)⟩,
   ⟨(some 4), none, .mv (.t 83)⟩])
  .ret))),
  [.t 4]⟩
theorem k97 : cFn Try.prog Try.f97 = some c97 := by kernel_rfl
theorem markSelS_ok : OkT Try.prog 97 (mkC_Sp sh_SelS) := by
  refine okT_mkC (OkΓT.nil _) Try.func97 (by kernel_rfl) k97 ?_
  intro c k hc h1 hz
  simp only [sh_SelS, FitC] at hc
  rcases hc with rfl | ⟨z, rows, rfl, hz0, hr⟩
  · simp only [wtC, mkC, nbC, tvC_v, tvC_nl, tvC_sl, bkC, nat0T, Int.add_zero] at *
    (dsimp only [c97]; simp (maxSteps := 8000000) (implicitDefEqProofs := false) (disch := omega) only [↓reduceIte, go_sem, if_pos, if_neg])
    refine awpT_loop (α := Unit) (fun _ => ⟨slots [(0, .nl), (1, .p (.int .i64 k)), (5, .p (.int .i64 0))], []⟩) (fun _ => True) (fun _ => 0) () trivial (le_keep (Nat.zero_le _) (by simp (maxSteps := 8000000) (implicitDefEqProofs := false) (disch := omega) only [↓reduceIte, go_sem, if_pos, if_neg, slotsIn])) ?_
    intro _ _
    simp (maxSteps := 8000000) (implicitDefEqProofs := false) (disch := omega) only [↓reduceIte, go_sem, if_pos, if_neg]
    refine joinK_at _ (le_same _ _ (Nat.zero_le _)) ?_
    simp (maxSteps := 8000000) (implicitDefEqProofs := false) (disch := omega) only [↓reduceIte, go_sem, if_pos, if_neg]
    exact endK_same (.inr rfl) (Nat.zero_le _) (by simp (maxSteps := 8000000) (implicitDefEqProofs := false) (disch := omega) only [↓reduceIte, go_sem, if_pos, if_neg]) rfl
  · simp only [wtC] at hz ⊢
    have hlw : rows.length ≤ wtRs rows := wtRs_rows fun r hx => by
      have hrr := hr r hx
      obtain ⟨a0, a1, a2, a3, a4, a5, a6, a7, a8, rfl⟩ := sh_Sel_Fit hrr
      simp only [wtIs, wtI]; omega
    simp only [tvC_v, tvC_nl, tvC_sl, bkC, mkC, Nat.zero_add]
    generalize hnb : nbC _ = nb
    simp only [nbC] at hnb
    have hnb2 : ∀ i, nb = (bkRs 1 (mkAt rows k i)).length + 1 := fun i => by
      have := mkRs_nb (rows.take i) k; have h2 := nbRs_app (rows.take i) (rows.drop i)
      rw [List.take_append_drop] at h2; rw [bkRs_len, mkAt, nbRs_app]; omega
    (dsimp only [c97]; simp (maxSteps := 8000000) (implicitDefEqProofs := false) (disch := omega) only [↓reduceIte, go_sem, if_pos, if_neg])
    refine awpT_loop (α := Nat) (fun i => ⟨slots [(0, .os 0 0 rows.length), (1, .p (.int .i64 (k + (wtRs (rows.take i) : Int)))), (5, .p (.int .i64 i))], .cells 155 z (tvRs 1 (mkAt rows k i)) :: bkRs 1 (mkAt rows k i)⟩)
      (fun i => i ≤ rows.length) (fun i => rows.length - i) 0 (Nat.zero_le _) (by simp only [mkAt_zero, List.take_zero, wtRs, nat0T, Int.add_zero]; exact le_keep (by have := hnb2 0; rw [mkAt_zero] at this; rw [List.length_cons]; omega) (by simp (maxSteps := 8000000) (implicitDefEqProofs := false) (disch := omega) only [↓reduceIte, go_sem, if_pos, if_neg, slotsIn])) ?_
    intro i hi
    have hl1 : (tvRs 1 (mkAt rows k i)).length = rows.length := by rw [tvRs_len, mkAt_len]
    simp (maxSteps := 8000000) (implicitDefEqProofs := false) (disch := omega) only [↓reduceIte, go_sem, if_pos, if_neg, hl1]
    refine condKT_dec (fun hlt => ?_) (fun hge => ?_)
    · obtain ⟨r, hx⟩ := get_ex (l := rows) (i := i) (by omega)
      obtain rfl : z = 9 := by rcases hz0 with h | h; (rw [h] at hx; simp at hx); exact h
      have hrr := hr r (List.mem_of_getElem? hx)
      have hwr := wtRs_mem hx; have hsn := wtRs_snoc hx
      have hg := mkAt_get 1 (k := k) hx; have hs := mkAt_set 1 (k := k) hx
      generalize hm : k + (wtRs (rows.take i) : Int) = m at *
      obtain ⟨a0, a1, a2, a3, a4, a5, a6, a7, a8, rfl⟩ := sh_Sel_Fit hrr
      simp only [wtIs, wtI, Nat.add_zero] at hwr hsn
      simp only [mkIs, mkI, mkV, wtI, nat1T, tvCs, tvC_v, tvC_nl, tvC_sl, nbC, Nat.add_zero, mkC_tv, el_one, el_two] at hg hs
      have hb2 : bkRs 1 (mkAt rows k (i + 1)) = bkRs 1 (mkAt rows k i) := by rw [mkAt_bkn 1 hx, mkAt_bk 1 hx]; rfl
      simp (maxSteps := 8000000) (implicitDefEqProofs := false) (disch := omega) only [↓reduceIte, go_sem, if_pos, if_neg, hl1, hg, List.getElem?_set_self, List.set_set]
      refine loopKT_next (i + 1) (by omega) (by omega) ?_
      have hs2 : k + (wtRs (rows.take (i + 1)) : Int) = m + 1 + 1 + 1 + 1 + 1 + 1 + 1 + 1 + 1 := by rw [hsn]; omega
      rw [hs2, ← hs, hb2]
      exact le_keep (by have := hnb2 i; rw [List.length_cons]; omega) (by simp (maxSteps := 8000000) (implicitDefEqProofs := false) (disch := omega) only [↓reduceIte, go_sem, if_pos, if_neg, slotsIn])
    · have hb : rows.take i = rows := List.take_of_length_le (by omega)
      have hmf := mkAt_full (k := k) (show rows.length ≤ i by omega)
      have hnb3 := hnb2 i; rw [hmf] at hnb3
      simp (maxSteps := 8000000) (implicitDefEqProofs := false) (disch := omega) only [↓reduceIte, go_sem, if_pos, if_neg, eq_false hge, hb, hmf]
      refine joinK_at _ (le_same _ _ (by show nb ≤ List.length (_ :: _); rw [List.length_cons]; omega)) ?_
      simp (maxSteps := 8000000) (implicitDefEqProofs := false) (disch := omega) only [↓reduceIte, go_sem, if_pos, if_neg]
      exact endK_same (.inr rfl) (by rw [List.length_cons]; omega) (by simp (maxSteps := 8000000) (implicitDefEqProofs := false) (disch := omega) only [↓reduceIte, go_sem, if_pos, if_neg]) rfl
/-! Window -/
def sh_Window : List Shp := [.i .i64, .i .i64]
theorem sh_Window_Has {cs : List Cell} (h : HasR sh_Window cs) : ∃ (a0 : Int) (a1 : Int), cs = [.v (.int .i64 a0), .v (.int .i64 a1)] := by
  obtain ⟨_, _, rfl, ⟨a0, rfl⟩, _, _, rfl, ⟨a1, rfl⟩, h⟩ := h
  simp only [HasR] at h; subst h
  exact ⟨a0, a1, rfl⟩
theorem sh_Window_mkHas  (a0 : Int) (a1 : Int) : HasR sh_Window [.v (.int .i64 a0), .v (.int .i64 a1)] := by
  exact ⟨_, _, rfl, ⟨_, rfl⟩, _, _, rfl, ⟨_, rfl⟩, rfl⟩
theorem sh_Window_Fit {cs : List Cell} (h : FitR sh_Window cs) : ∃ (a0 : Int) (a1 : Int), cs = [.v (.int .i64 a0), .v (.int .i64 a1)] := by
  obtain ⟨_, _, rfl, ⟨a0, rfl⟩, _, _, rfl, ⟨a1, rfl⟩, h⟩ := h
  simp only [FitR] at h; subst h
  exact ⟨a0, a1, rfl⟩
theorem sh_Window_mkFit  (a0 : Int) (a1 : Int) : FitR sh_Window [.v (.int .i64 a0), .v (.int .i64 a1)] := by
  exact ⟨_, _, rfl, ⟨_, rfl⟩, _, _, rfl, ⟨_, rfl⟩, rfl⟩
theorem to_Window_at  (a0 : Int) (a1 : Int) : toR_S sh_Window [.agg [.p (.int .i64 a0), .p (.int .i64 a1)]] = some (.agg [.p (.int .i64 a0), .p (.int .i64 a1)], []) := by
  have := toR_at (sh_Window_mkHas  a0 a1) (by simp only [szCs, szC]; omega)
  simpa only [fzCs, fzC, tvCs, tvC_v, tvC_nl, tvC_sl, bkCs, bkC, nbC, nbCs, Nat.add_zero, List.append_nil, List.nil_append, Nat.zero_add] using this
-- laws.toWindow
def c65 : AF := ⟨11,
  (.seq (.reg [⟨(some 1), none, .box 23 (.t 0)⟩,
   ⟨(some 2), none, .alloc 29 [(.int .i64 0), (.int .i64 0)]⟩])
  (.seq (.reg [⟨(some 3), none, .alloc 29 [(.int .i64 0), (.int .i64 0)]⟩])
  (.seq (.reg [⟨(some 4), none, .fa (.t 1) 0⟩,
   ⟨(some 5), none, .ld (.t 4)⟩,
   ⟨(some 6), none, .fa (.t 3) 0⟩,
   ⟨none, none, .st 1 (.t 6) (.t 5)⟩])
  (.seq (.reg [⟨(some 7), none, .fa (.t 1) 1⟩,
   ⟨(some 8), none, .ld (.t 7)⟩,
   ⟨(some 9), none, .fa (.t 3) 1⟩,
   ⟨none, none, .st 1 (.t 9) (.t 8)⟩])
  (.seq (.reg [⟨(some 10), none, .ldn 2 (.t 3)⟩,
   ⟨none, none, .st 2 (.t 2) (.t 10)⟩])
  .ret))))),
  [.cell 2 (some 2)]⟩
theorem k65 : cFn Try.prog Try.f65 = some c65 := by kernel_rfl
theorem toWindow_ok : OkT Try.prog 65 (pureSp (toR_S sh_Window)) := by
  refine okT_toR (OkΓT.nil _) Try.func65 (by kernel_rfl) k65 ?_
  intro c hc hz
  obtain ⟨a0, a1, rfl⟩ := sh_Window_Has hc
  simp only [szCs, szC] at hz
  simp only [fzCs, fzC]
  (dsimp only [c65]; simp (maxSteps := 8000000) (implicitDefEqProofs := false) (disch := omega) only [↓reduceIte, go_sem, if_pos, if_neg])
  refine endT_cells' 3 (.inr rfl) (by (simp (maxSteps := 8000000) (implicitDefEqProofs := false) (disch := omega) only [↓reduceIte, go_sem, if_pos, if_neg, fzCs, fzC, tvCs, tvC_v, tvC_nl, tvC_sl, bkCs, bkC, nbC, nbCs, Nat.add_zero, List.append_nil, List.nil_append]) <;> rfl) ?_ (by simp only [List.length_cons]; omega)
  simp only [List.drop_succ_cons, List.drop_zero, bkCs, bkC, nbC, Nat.add_zero, List.append_nil, List.nil_append, List.cons_append, Nat.add_assoc]
theorem eq_Window_at  (a0 : Int) (a1 : Int) : eqR_S sh_Window [.agg [.p (.int .i64 a0), .p (.int .i64 a1)], .agg [.p (.int .i64 a0), .p (.int .i64 a1)]] = some (.p (.bool true), []) := by
  exact eqR_at (sh_Window_mkFit  a0 a1) (by simp only [szCs, szC]; omega)
-- laws.eqWindow
def c86 : AF := ⟨15,
  (.seq (.reg [⟨(some 2), none, .box 29 (.t 0)⟩,
   ⟨(some 3), none, .box 29 (.t 1)⟩,
   ⟨(some 4), none, .mv (.v (.bool false))⟩])
  (.seq (.seq (.reg [⟨(some 5), none, .fa (.t 2) 0⟩,
   ⟨(some 6), none, .ld (.t 5)⟩,
   ⟨(some 7), none, .fa (.t 3) 0⟩,
   ⟨(some 8), none, .ld (.t 7)⟩,
   ⟨(some 9), none, .bin .neq (.t 6) (.t 8)⟩])
  (.cond (.t 9) (.seq (.reg [⟨(some 4), none, .mv (.v (.bool false))⟩])
  .ret)
  .skip))
  (.seq (.seq (.reg [⟨(some 10), none, .fa (.t 2) 1⟩,
   ⟨(some 11), none, .ld (.t 10)⟩,
   ⟨(some 12), none, .fa (.t 3) 1⟩,
   ⟨(some 13), none, .ld (.t 12)⟩,
   ⟨(some 14), none, .bin .neq (.t 11) (.t 13)⟩])
  (.cond (.t 14) (.seq (.reg [⟨(some 4), none, .mv (.v (.bool false))⟩])
  .ret)
  .skip))
  (.seq (.reg [⟨(some 4), none, .mv (.v (.bool true))⟩])
  .ret)))),
  [.t 4]⟩
theorem k86 : cFn Try.prog Try.f86 = some c86 := by kernel_rfl
theorem eqWindow_ok : OkT Try.prog 86 (pureSp (eqR_S sh_Window)) := by
  refine okT_eqR (OkΓT.nil _) Try.func86 (by kernel_rfl) k86 ?_
  intro c hc hz
  obtain ⟨a0, a1, rfl⟩ := sh_Window_Fit hc
  simp only [szCs, szC] at hz
  simp only [fzCs, fzC]
  (dsimp only [c86]; simp (maxSteps := 8000000) (implicitDefEqProofs := false) (disch := omega) only [↓reduceIte, go_sem, if_pos, if_neg])
  repeat' first
    | (refine gdKT_dec (fun hg => ?_) (fun hg => ?_) <;> (try (first | simp (maxSteps := 8000000) (implicitDefEqProofs := false) (disch := omega) only [↓reduceIte, go_sem, if_pos, if_neg, eq_false hg] | simp (maxSteps := 8000000) (implicitDefEqProofs := false) (disch := omega) only [↓reduceIte, go_sem, if_pos, if_neg, eq_true hg])))
    | (refine condKT_dec (fun hg => ?_) (fun hg => ?_) <;> (try (first | simp (maxSteps := 8000000) (implicitDefEqProofs := false) (disch := omega) only [↓reduceIte, go_sem, if_pos, if_neg, eq_false hg] | simp (maxSteps := 8000000) (implicitDefEqProofs := false) (disch := omega) only [↓reduceIte, go_sem, if_pos, if_neg, eq_true hg])))
    | (refine gdKT_split (fun hg => ?_) (fun hg => ?_) <;> (try simp (maxSteps := 8000000) (implicitDefEqProofs := false) (disch := omega) only [↓reduceIte, go_sem, if_pos, if_neg, hg]))
    | (refine condKT_split (fun hg => ?_) (fun hg => ?_) <;> (try simp (maxSteps := 8000000) (implicitDefEqProofs := false) (disch := omega) only [↓reduceIte, go_sem, if_pos, if_neg, hg]))
    | (refine endT_p (.inr rfl) (by simp (maxSteps := 8000000) (implicitDefEqProofs := false) (disch := omega) only [↓reduceIte, go_sem, if_pos, if_neg]; rfl) ?_; (first | exact vb_true (by omega) | exact vb_false (by omega) | exact vb_dec (by omega) | exact vi_eq (by omega) | rfl | (refine vi_eq ?_; simp_all; done) | (refine vi_eq ?_; simp_all; omega) | (refine vi_eq ?_; simp_all; intros; omega)))
    | exact endT_v (.inr rfl) (by simp (maxSteps := 8000000) (implicitDefEqProofs := false) (disch := omega) only [↓reduceIte, go_sem, if_pos, if_neg]; try rfl) (fun _ => rfl)
end Go.Proofs.Ytngebdcbcliobaa
