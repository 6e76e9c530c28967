import Derived.Test.YtghpdclhhnbgjaaLU
import Derived.Test.YtghpdclhhnbgjaaProg
set_option linter.unusedSimpArgs false
set_option linter.unusedVariables false
set_option maxRecDepth 100000
set_option maxHeartbeats 4000000
namespace Go.Proofs.Ytghpdclhhnbgjaa
open Go Go.AH
attribute [local irreducible] awpT ropsT qopsT stepT condKT gdKT EndT joinK loopKT seqKT blkKT kont kontR
/-! Range -/
def sh_Range : List Shp := [.i .i64, .i .i64]
theorem sh_Range_Has {cs : List Cell} (h : HasR sh_Range cs) : ∃ (a0 : Int) (a1 : Int), cs = [.v (.int .i64 a0), .v (.int .i64 a1)] := by
  obtain ⟨_, _, rfl, ⟨a0, rfl, _⟩, _, _, rfl, ⟨a1, rfl, _⟩, h⟩ := h
  simp only [HasR] at h; subst h
  exact ⟨a0, a1, rfl⟩
theorem sh_Range_mkHas  (a0 : Int) (a1 : Int) : HasR sh_Range [.v (.int .i64 a0), .v (.int .i64 a1)] := by
  exact ⟨_, _, rfl, ⟨_, rfl, fun h => by cases h⟩, _, _, rfl, ⟨_, rfl, fun h => by cases h⟩, rfl⟩
theorem sh_Range_Fit {cs : List Cell} (h : FitR sh_Range cs) : ∃ (a0 : Int) (a1 : Int), cs = [.v (.int .i64 a0), .v (.int .i64 a1)] := by
  obtain ⟨_, _, rfl, ⟨a0, rfl⟩, _, _, rfl, ⟨a1, rfl⟩, h⟩ := h
  simp only [FitR] at h; subst h
  exact ⟨a0, a1, rfl⟩
theorem sh_Range_mkFit  (a0 : Int) (a1 : Int) : FitR sh_Range [.v (.int .i64 a0), .v (.int .i64 a1)] := by
  exact ⟨_, _, rfl, ⟨_, rfl⟩, _, _, rfl, ⟨_, rfl⟩, rfl⟩
theorem flat_sz_Range {cs : List Cell} (h : HasR sh_Range cs) : szCs cs = 0 := by
  obtain ⟨a0, a1, rfl⟩ := sh_Range_Has h
  rfl
theorem to_Range_at  (a0 : Int) (a1 : Int) : toR_S sh_Range [.agg [.p (.int .i64 a0), .p (.int .i64 a1)]] = some (.agg [.p (.int .i64 a0), .p (.int .i64 a1)], []) := by
  have := toR_at (sh_Range_mkHas  a0 a1) (by simp only [szCs, szC]; omega)
  simpa only [fzCs, fzC, tvCs, tvC_v, tvC_nl, tvC_sl, bkCs, bkC, nbC, nbCs, Nat.add_zero, List.append_nil, List.nil_append, Nat.zero_add] using this
-- laws.toRange
def c175 : AF := ⟨11,
 (.seq (.reg [rO 1 (.box 166 (.t 0)),
 rO 2 (.alloc 158 [(.int .i64 0), (.int .i64 0)])])
 (.seq (.reg [rO 3 (.alloc 158 [(.int .i64 0), (.int .i64 0)])])
 (.seq (.reg [rO 4 (.fa (.t 1) 0),
 rO 5 (.ld (.t 4)),
 rO 6 (.fa (.t 3) 0),
 ⟨none, none, .st 1 (.t 6) (.t 5)⟩])
 (.seq (.reg [rO 7 (.fa (.t 1) 1),
 rO 8 (.ld (.t 7)),
 rO 9 (.fa (.t 3) 1),
 ⟨none, none, .st 1 (.t 9) (.t 8)⟩])
 (.seq (.reg [rO 10 (.ldn 2 (.t 3)),
 ⟨none, none, .st 2 (.t 2) (.t 10)⟩])
 .ret))))),
 [.cell 2 (some 2)]⟩
theorem k175 : cFn Try.prog Try.f175 = some c175 := by kernel_rfl
theorem toRange_ok : OkT Try.prog 175 (pureSp (toR_S sh_Range)) := by
  refine okT_toR (OkΓT.nil _) Try.func175 (by kernel_rfl) k175 ?_
  intro c hc hz
  obtain ⟨a0, a1, rfl⟩ := sh_Range_Has hc
  simp only [szCs, szC] at hz
  simp only [fzCs, fzC]
  (dsimp only [c175, rO]; simp (maxSteps := 8000000) -implicitDefEqProofs (disch := omega) only [↓reduceIte, go_sem])
  refine endT_cells' 3 (.inr rfl) (by (simp (maxSteps := 8000000) -implicitDefEqProofs (disch := omega) only [↓reduceIte, go_sem, fzCs, fzC, tvCs, tvC_v, tvC_nl, tvC_sl, bkCs, bkC, nbC, nbCs, Nat.add_zero, List.append_nil, List.nil_append]) <;> rfl) ?_ (by simp only [List.length_cons]; omega)
  simp only [List.drop_succ_cons, List.drop_zero, bkCs, bkC, nbC, Nat.add_zero, List.append_nil, List.nil_append, List.cons_append, Nat.add_assoc]
theorem eq_Range_at  (a0 : Int) (a1 : Int) : eqR_S sh_Range [.agg [.p (.int .i64 a0), .p (.int .i64 a1)], .agg [.p (.int .i64 a0), .p (.int .i64 a1)]] = some (.p (.bool true), []) := by
  exact eqR_at (sh_Range_mkFit  a0 a1) (by simp only [szCs, szC]; omega)
-- laws.eqRange
def c176 : AF := ⟨15,
 (.seq (.reg [rO 2 (.box 158 (.t 0)),
 rO 3 (.box 158 (.t 1)),
 rO 4 (.mv (.v (.bool false)))])
 (.seq (.seq (.reg [rO 5 (.fa (.t 2) 0),
 rO 6 (.ld (.t 5)),
 rO 7 (.fa (.t 3) 0),
 rO 8 (.ld (.t 7)),
 rO 9 (.bin .neq (.t 6) (.t 8))])
 (.cond (.t 9) (.seq (.reg [rO 4 (.mv (.v (.bool false)))])
 .ret)
 .skip))
 (.seq (.seq (.reg [rO 10 (.fa (.t 2) 1),
 rO 11 (.ld (.t 10)),
 rO 12 (.fa (.t 3) 1),
 rO 13 (.ld (.t 12)),
 rO 14 (.bin .neq (.t 11) (.t 13))])
 (.cond (.t 14) (.seq (.reg [rO 4 (.mv (.v (.bool false)))])
 .ret)
 .skip))
 (.seq (.reg [rO 4 (.mv (.v (.bool true)))])
 .ret)))),
 [.t 4]⟩
theorem k176 : cFn Try.prog Try.f176 = some c176 := by kernel_rfl
theorem eqRange_ok : OkT Try.prog 176 (pureSp (eqR_S sh_Range)) := by
  refine okT_eqR (OkΓT.nil _) Try.func176 (by kernel_rfl) k176 ?_
  intro c hc hz
  obtain ⟨a0, a1, rfl⟩ := sh_Range_Fit hc
  simp only [szCs, szC] at hz
  simp only [fzCs, fzC]
  (dsimp only [c176, rO]; simp (maxSteps := 8000000) -implicitDefEqProofs (disch := omega) only [↓reduceIte, go_sem])
  repeat' first
    | ((first | refine gdKT_deq (fun hg hG => ?_) (fun hg hG => ?_) | refine condKT_deq (fun hg hG => ?_) (fun hg hG => ?_)) <;> (try simp (maxSteps := 8000000) -implicitDefEqProofs (disch := omega) only [↓reduceIte, go_sem, hG]) <;> clear hG)
    | ((first | refine gdKT_split (fun hg => ?_) (fun hg => ?_) | refine condKT_split (fun hg => ?_) (fun hg => ?_)) <;> (try simp (maxSteps := 8000000) -implicitDefEqProofs (disch := omega) only [↓reduceIte, go_sem, hg]))
    | (refine endT_p (.inr rfl) (by simp (maxSteps := 8000000) -implicitDefEqProofs (disch := omega) only [↓reduceIte, go_sem]; rfl) ?_; (first | exact vb_true (by omega) | exact vb_false (by omega) | exact vb_dec (by omega) | exact vi_eq (by omega) | rfl | (refine vi_eq ?_; simp_all; first | done | (intros; omega))))
    | exact endT_v (.inr rfl) (by simp (maxSteps := 8000000) -implicitDefEqProofs (disch := omega) only [↓reduceIte, go_sem]; try rfl) (fun _ => rfl)
/-! Sel -/
def sh_Sel : List Shp := [.i .i64, .i .i64, .i .i64, .i .i64, .i .i64, .i .i64, .i .i64, .i .i64, .i .i64]
theorem sh_Sel_Has {cs : List Cell} (h : HasR sh_Sel cs) : ∃ (a0 : Int) (a1 : Int) (a2 : Int) (a3 : Int) (a4 : Int) (a5 : Int) (a6 : Int) (a7 : Int) (a8 : Int), cs = [.v (.int .i64 a0), .v (.int .i64 a1), .v (.int .i64 a2), .v (.int .i64 a3), .v (.int .i64 a4), .v (.int .i64 a5), .v (.int .i64 a6), .v (.int .i64 a7), .v (.int .i64 a8)] := by
  obtain ⟨_, _, rfl, ⟨a0, rfl, _⟩, _, _, rfl, ⟨a1, rfl, _⟩, _, _, rfl, ⟨a2, rfl, _⟩, _, _, rfl, ⟨a3, rfl, _⟩, _, _, rfl, ⟨a4, rfl, _⟩, _, _, rfl, ⟨a5, rfl, _⟩, _, _, rfl, ⟨a6, rfl, _⟩, _, _, rfl, ⟨a7, rfl, _⟩, _, _, rfl, ⟨a8, rfl, _⟩, h⟩ := h
  simp only [HasR] at h; subst h
  exact ⟨a0, a1, a2, a3, a4, a5, a6, a7, a8, rfl⟩
theorem sh_Sel_mkHas  (a0 : Int) (a1 : Int) (a2 : Int) (a3 : Int) (a4 : Int) (a5 : Int) (a6 : Int) (a7 : Int) (a8 : Int) : HasR sh_Sel [.v (.int .i64 a0), .v (.int .i64 a1), .v (.int .i64 a2), .v (.int .i64 a3), .v (.int .i64 a4), .v (.int .i64 a5), .v (.int .i64 a6), .v (.int .i64 a7), .v (.int .i64 a8)] := by
  exact ⟨_, _, rfl, ⟨_, rfl, fun h => by cases h⟩, _, _, rfl, ⟨_, rfl, fun h => by cases h⟩, _, _, rfl, ⟨_, rfl, fun h => by cases h⟩, _, _, rfl, ⟨_, rfl, fun h => by cases h⟩, _, _, rfl, ⟨_, rfl, fun h => by cases h⟩, _, _, rfl, ⟨_, rfl, fun h => by cases h⟩, _, _, rfl, ⟨_, rfl, fun h => by cases h⟩, _, _, rfl, ⟨_, rfl, fun h => by cases h⟩, _, _, rfl, ⟨_, rfl, fun h => by cases h⟩, rfl⟩
theorem sh_Sel_Fit {cs : List Cell} (h : FitR sh_Sel cs) : ∃ (a0 : Int) (a1 : Int) (a2 : Int) (a3 : Int) (a4 : Int) (a5 : Int) (a6 : Int) (a7 : Int) (a8 : Int), cs = [.v (.int .i64 a0), .v (.int .i64 a1), .v (.int .i64 a2), .v (.int .i64 a3), .v (.int .i64 a4), .v (.int .i64 a5), .v (.int .i64 a6), .v (.int .i64 a7), .v (.int .i64 a8)] := by
  obtain ⟨_, _, rfl, ⟨a0, rfl⟩, _, _, rfl, ⟨a1, rfl⟩, _, _, rfl, ⟨a2, rfl⟩, _, _, rfl, ⟨a3, rfl⟩, _, _, rfl, ⟨a4, rfl⟩, _, _, rfl, ⟨a5, rfl⟩, _, _, rfl, ⟨a6, rfl⟩, _, _, rfl, ⟨a7, rfl⟩, _, _, rfl, ⟨a8, rfl⟩, h⟩ := h
  simp only [FitR] at h; subst h
  exact ⟨a0, a1, a2, a3, a4, a5, a6, a7, a8, rfl⟩
theorem sh_Sel_mkFit  (a0 : Int) (a1 : Int) (a2 : Int) (a3 : Int) (a4 : Int) (a5 : Int) (a6 : Int) (a7 : Int) (a8 : Int) : FitR sh_Sel [.v (.int .i64 a0), .v (.int .i64 a1), .v (.int .i64 a2), .v (.int .i64 a3), .v (.int .i64 a4), .v (.int .i64 a5), .v (.int .i64 a6), .v (.int .i64 a7), .v (.int .i64 a8)] := by
  exact ⟨_, _, rfl, ⟨_, rfl⟩, _, _, rfl, ⟨_, rfl⟩, _, _, rfl, ⟨_, rfl⟩, _, _, rfl, ⟨_, rfl⟩, _, _, rfl, ⟨_, rfl⟩, _, _, rfl, ⟨_, rfl⟩, _, _, rfl, ⟨_, rfl⟩, _, _, rfl, ⟨_, rfl⟩, _, _, rfl, ⟨_, rfl⟩, rfl⟩
theorem flat_sz_Sel {cs : List Cell} (h : HasR sh_Sel cs) : szCs cs = 0 := by
  obtain ⟨a0, a1, a2, a3, a4, a5, a6, a7, a8, rfl⟩ := sh_Sel_Has h
  rfl
theorem to_Sel_at  (a0 : Int) (a1 : Int) (a2 : Int) (a3 : Int) (a4 : Int) (a5 : Int) (a6 : Int) (a7 : Int) (a8 : Int) : toR_S sh_Sel [.agg [.p (.int .i64 a0), .p (.int .i64 a1), .p (.int .i64 a2), .p (.int .i64 a3), .p (.int .i64 a4), .p (.int .i64 a5), .p (.int .i64 a6), .p (.int .i64 a7), .p (.int .i64 a8)]] = some (.agg [.p (.int .i64 a0), .p (.int .i64 a1), .p (.int .i64 a2), .p (.int .i64 a3), .p (.int .i64 a4), .p (.int .i64 a5), .p (.int .i64 a6), .p (.int .i64 a7), .p (.int .i64 a8)], []) := by
  have := toR_at (sh_Sel_mkHas  a0 a1 a2 a3 a4 a5 a6 a7 a8) (by simp only [szCs, szC]; omega)
  simpa only [fzCs, fzC, tvCs, tvC_v, tvC_nl, tvC_sl, bkCs, bkC, nbC, nbCs, Nat.add_zero, List.append_nil, List.nil_append, Nat.zero_add] using this
-- laws.toSel
def c141 : AF := ⟨24,
 (.seq (.reg [rO 1 (.box 168 (.t 0)),
 rO 2 (.alloc 160 [(.int .i64 0), (.int .i64 0), (.int .i64 0), (.int .i64 0), (.int .i64 0), (.int .i64 0), (.int .i64 0), (.int .i64 0), (.int .i64 0)])])
 (.seq (.reg [rO 3 (.alloc 160 [(.int .i64 0), (.int .i64 0), (.int .i64 0), (.int .i64 0), (.int .i64 0), (.int .i64 0), (.int .i64 0), (.int .i64 0), (.int .i64 0)])])
 (.seq (.reg [rO 4 (.fa (.t 1) 0),
 rO 5 (.ldn 2 (.t 4)),
 rO 6 (.call 175 [(.t 5)]),
 rO 7 (.fa (.t 3) 0),
 ⟨none, none, .st 2 (.t 7) (.t 6)⟩])
 (.seq (.reg [rO 8 (.fa (.t 1) 2),
 rO 9 (.ldn 2 (.t 8)),
 rO 10 (.call 175 [(.t 9)]),
 rO 11 (.fa (.t 3) 2),
 ⟨none, none, .st 2 (.t 11) (.t 10)⟩])
 (.seq (.reg [rO 12 (.fa (.t 1) 4),
 rO 13 (.ldn 2 (.t 12)),
 rO 14 (.call 175 [(.t 13)]),
 rO 15 (.fa (.t 3) 4),
 ⟨none, none, .st 2 (.t 15) (.t 14)⟩])
 (.seq (.reg [rO 16 (.fa (.t 1) 6),
 rO 17 (.ldn 2 (.t 16)),
 rO 18 (.call 175 [(.t 17)]),
 rO 19 (.fa (.t 3) 6),
 ⟨none, none, .st 2 (.t 19) (.t 18)⟩])
 (.seq (.reg [rO 20 (.fa (.t 1) 8),
 rO 21 (.ld (.t 20)),
 rO 22 (.fa (.t 3) 8),
 ⟨none, none, .st 1 (.t 22) (.t 21)⟩])
 (.seq (.reg [rO 23 (.ldn 9 (.t 3)),
 ⟨none, none, .st 9 (.t 2) (.t 23)⟩])
 .ret)))))))),
 [.cell 2 (some 9)]⟩
theorem k141 : cFn Try.prog Try.f141 = some c141 := by kernel_rfl
theorem toSel_ok : OkT Try.prog 141 (pureSp (toR_S sh_Sel)) := by
  refine okT_toR (OkΓT.cons toRange_ok (OkΓT.nil _)) Try.func141 (by kernel_rfl) k141 ?_
  intro c hc hz
  obtain ⟨a0, a1, a2, a3, a4, a5, a6, a7, a8, rfl⟩ := sh_Sel_Has hc
  simp only [szCs, szC] at hz
  simp only [fzCs, fzC]
  (dsimp only [c141, rO]; simp (maxSteps := 8000000) -implicitDefEqProofs (disch := omega) only [↓reduceIte, go_sem, to_Range_at])
  refine endT_cells' 3 (.inr rfl) (by (simp (maxSteps := 8000000) -implicitDefEqProofs (disch := omega) only [↓reduceIte, go_sem, fzCs, fzC, tvCs, tvC_v, tvC_nl, tvC_sl, bkCs, bkC, nbC, nbCs, Nat.add_zero, List.append_nil, List.nil_append]) <;> rfl) ?_ (by simp only [List.length_cons]; omega)
  simp only [List.drop_succ_cons, List.drop_zero, bkCs, bkC, nbC, Nat.add_zero, List.append_nil, List.nil_append, List.cons_append, Nat.add_assoc]
theorem eq_Sel_at  (a0 : Int) (a1 : Int) (a2 : Int) (a3 : Int) (a4 : Int) (a5 : Int) (a6 : Int) (a7 : Int) (a8 : Int) : eqR_S sh_Sel [.agg [.p (.int .i64 a0), .p (.int .i64 a1), .p (.int .i64 a2), .p (.int .i64 a3), .p (.int .i64 a4), .p (.int .i64 a5), .p (.int .i64 a6), .p (.int .i64 a7), .p (.int .i64 a8)], .agg [.p (.int .i64 a0), .p (.int .i64 a1), .p (.int .i64 a2), .p (.int .i64 a3), .p (.int .i64 a4), .p (.int .i64 a5), .p (.int .i64 a6), .p (.int .i64 a7), .p (.int .i64 a8)]] = some (.p (.bool true), []) := by
  exact eqR_at (sh_Sel_mkFit  a0 a1 a2 a3 a4 a5 a6 a7 a8) (by simp only [szCs, szC]; omega)
-- laws.eqSel
def c142 : AF := ⟨34,
 (.seq (.reg [rO 2 (.box 160 (.t 0)),
 rO 3 (.box 160 (.t 1)),
 rO 4 (.mv (.v (.bool false)))])
 (.seq (.seq (.reg [rO 5 (.fa (.t 2) 0),
 rO 6 (.ldn 2 (.t 5)),
 rO 7 (.fa (.t 3) 0),
 rO 8 (.ldn 2 (.t 7)),
 rO 9 (.call 176 [(.t 6), (.t 8)]),
 rO 10 (.un .not (.t 9))])
 (.cond (.t 10) (.seq (.reg [rO 4 (.mv (.v (.bool false)))])
 .ret)
 .skip))
 (.seq (.seq (.reg [rO 11 (.fa (.t 2) 2),
 rO 12 (.ldn 2 (.t 11)),
 rO 13 (.fa (.t 3) 2),
 rO 14 (.ldn 2 (.t 13)),
 rO 15 (.call 176 [(.t 12), (.t 14)]),
 rO 16 (.un .not (.t 15))])
 (.cond (.t 16) (.seq (.reg [rO 4 (.mv (.v (.bool false)))])
 .ret)
 .skip))
 (.seq (.seq (.reg [rO 17 (.fa (.t 2) 4),
 rO 18 (.ldn 2 (.t 17)),
 rO 19 (.fa (.t 3) 4),
 rO 20 (.ldn 2 (.t 19)),
 rO 21 (.call 176 [(.t 18), (.t 20)]),
 rO 22 (.un .not (.t 21))])
 (.cond (.t 22) (.seq (.reg [rO 4 (.mv (.v (.bool false)))])
 .ret)
 .skip))
 (.seq (.seq (.reg [rO 23 (.fa (.t 2) 6),
 rO 24 (.ldn 2 (.t 23)),
 rO 25 (.fa (.t 3) 6),
 rO 26 (.ldn 2 (.t 25)),
 rO 27 (.call 176 [(.t 24), (.t 26)]),
 rO 28 (.un .not (.t 27))])
 (.cond (.t 28) (.seq (.reg [rO 4 (.mv (.v (.bool false)))])
 .ret)
 .skip))
 (.seq (.seq (.reg [rO 29 (.fa (.t 2) 8),
 rO 30 (.ld (.t 29)),
 rO 31 (.fa (.t 3) 8),
 rO 32 (.ld (.t 31)),
 rO 33 (.bin .neq (.t 30) (.t 32))])
 (.cond (.t 33) (.seq (.reg [rO 4 (.mv (.v (.bool false)))])
 .ret)
 .skip))
 (.seq (.reg [rO 4 (.mv (.v (.bool true)))])
 .ret))))))),
 [.t 4]⟩
theorem k142 : cFn Try.prog Try.f142 = some c142 := by kernel_rfl
theorem eqSel_ok : OkT Try.prog 142 (pureSp (eqR_S sh_Sel)) := by
  refine okT_eqR (OkΓT.cons eqRange_ok (OkΓT.nil _)) Try.func142 (by kernel_rfl) k142 ?_
  intro c hc hz
  obtain ⟨a0, a1, a2, a3, a4, a5, a6, a7, a8, rfl⟩ := sh_Sel_Fit hc
  simp only [szCs, szC] at hz
  simp only [fzCs, fzC]
  (dsimp only [c142, rO]; simp (maxSteps := 8000000) -implicitDefEqProofs (disch := omega) only [↓reduceIte, go_sem, eq_Range_at])
  repeat' first
    | ((first | refine gdKT_deq (fun hg hG => ?_) (fun hg hG => ?_) | refine condKT_deq (fun hg hG => ?_) (fun hg hG => ?_)) <;> (try simp (maxSteps := 8000000) -implicitDefEqProofs (disch := omega) only [↓reduceIte, go_sem, hG, eq_Range_at]) <;> clear hG)
    | ((first | refine gdKT_split (fun hg => ?_) (fun hg => ?_) | refine condKT_split (fun hg => ?_) (fun hg => ?_)) <;> (try simp (maxSteps := 8000000) -implicitDefEqProofs (disch := omega) only [↓reduceIte, go_sem, hg, eq_Range_at]))
    | (refine endT_p (.inr rfl) (by simp (maxSteps := 8000000) -implicitDefEqProofs (disch := omega) only [↓reduceIte, go_sem, eq_Range_at]; rfl) ?_; (first | exact vb_true (by omega) | exact vb_false (by omega) | exact vb_dec (by omega) | exact vi_eq (by omega) | rfl | (refine vi_eq ?_; simp_all; first | done | (intros; omega))))
    | exact endT_v (.inr rfl) (by simp (maxSteps := 8000000) -implicitDefEqProofs (disch := omega) only [↓reduceIte, go_sem, eq_Range_at]; try rfl) (fun _ => rfl)
def sh_SelS : Shp := .sl 160 sh_Sel
-- laws.toSelS
def c105 : AF := ⟨23,
 (.seq (.reg [rO 2 (.mv (.v (.slice none 0 0)))])
 (.seq (.reg [rO 5 (.mv (.t 0)),
 rO 6 (.len (.t 5)),
 rO 7 (.mkSl 160 9 72 [(.int .i64 0), (.int .i64 0), (.int .i64 0), (.int .i64 0), (.int .i64 0), (.int .i64 0), (.int .i64 0), (.int .i64 0), (.int .i64 0)] (.t 6) (.t 6)),
 rO 3 (.mv (.t 7))])
 (.seq (.seq (.reg [rO 4 (.mv (.v (.int .i64 0)))])
 (.block 0 (.loop (.seq (.seq (.reg [rO 8 (.mv (.t 4)),
 rO 9 (.mv (.t 0)),
 rO 10 (.len (.t 9)),
 rO 11 (.bin .lss (.t 8) (.t 10))])
 (.cond (.t 11) .skip
 (.exit 0)))
 (.seq (.block 1 (.reg [rO 14 (.mv (.t 3)),
 rO 15 (.mv (.t 4)),
 rO 16 (.mv (.t 0)),
 rO 17 (.mv (.t 4)),
 rO 18 (.ia 9 (.t 16) (.t 17)),
 rO 19 (.ldn 9 (.t 18)),
 rO 20 (.call 141 [(.t 19)]),
 rO 21 (.ia 9 (.t 14) (.t 15)),
 ⟨none, none, .st 9 (.t 21) (.t 20)⟩]))
 (.reg [rO 12 (.mv (.t 4)),
 rO 13 (.bin .add (.t 12) (.v (.int .i64 1))),
 rO 4 (.mv (.t 13))]))))))
 (.seq (.reg [rO 22 (.mv (.t 3)),
 rO 2 (.mv (.t 22))])
 .ret)))),
 [.t 2]⟩
theorem k105 : cFn Try.prog Try.f105 = some c105 := by kernel_rfl
theorem toSelS_ok : OkT Try.prog 105 (pureSp (toC_S sh_SelS)) := by
  refine okT_toC (OkΓT.cons toSel_ok (OkΓT.nil _)) Try.func105 (by kernel_rfl) k105 ?_
  intro c hc hz
  simp only [sh_SelS, HasC] at hc
  obtain ⟨rows, rfl, hr⟩ := hc
  simp only [szC] at hz
  have hlen : ∀ r ∈ rows, r.length = 9 := fun r hx => (hr r hx).len
  generalize hzz : (el [.p (.int .i64 0), .p (.int .i64 0), .p (.int .i64 0), .p (.int .i64 0), .p (.int .i64 0), .p (.int .i64 0), .p (.int .i64 0), .p (.int .i64 0), .p (.int .i64 0)] : TV) = z0
  have hz1 : cellsT z0 = [.p (.int .i64 0), .p (.int .i64 0), .p (.int .i64 0), .p (.int .i64 0), .p (.int .i64 0), .p (.int .i64 0), .p (.int .i64 0), .p (.int .i64 0), .p (.int .i64 0)] := by rw [← hzz]; rfl
  simp only [fzC, tvC_v, tvC_nl, tvC_sl, bkC]
  (dsimp only [c105, rO]; simp (maxSteps := 8000000) -implicitDefEqProofs (disch := omega) only [↓reduceIte, go_sem, hzz, mixR_zero 1 rows z0])
  refine awpT_loop (α := Nat) (fun i => ⟨slots [(0, .s (fzRs rows)), (3, .os 0 0 rows.length), (4, .p (.int .i64 i))], .cells 160 9 (mixR 1 rows z0 i) :: bkRs 1 (rows.take i)⟩)
    (fun i => i ≤ rows.length) (fun i => rows.length - i) 0 (Nat.zero_le _) (by simp only [List.take_zero, bkRs]; exact le_keep (Nat.zero_le _) (by simp (maxSteps := 8000000) -implicitDefEqProofs (disch := omega) only [↓reduceIte, go_sem, slotsIn])) ?_
  intro i hi
  simp (maxSteps := 8000000) -implicitDefEqProofs (disch := omega) only [↓reduceIte, go_sem, mixR_len 1 rows z0 hi]
  refine condKT_dec (fun hlt => ?_) (fun hge => ?_)
  · obtain ⟨r, hx⟩ := get_ex (l := rows) (i := i) (by omega)
    have hrr := hr r (List.mem_of_getElem? hx)
    have hzr := szRs_mem hx
    have hg := fzRs_get hx; have hm := mixR_get 1 (rows := rows) z0 (i := i) (by omega)
    have hs := mixR_set 1 z0 hx; have hb := bkRs_snoc 1 hx; have hn := bkRs_len 1 (rows.take i)
    obtain ⟨a0, a1, a2, a3, a4, a5, a6, a7, a8, rfl⟩ := sh_Sel_Has hrr
    simp only [szCs, szC] at hzr
    simp only [fzCs, fzC, tvCs, tvC_v, tvC_nl, tvC_sl, bkCs, bkC, nbC, nbCs, Nat.add_zero, List.append_nil, List.nil_append, el_one, el_two, Nat.add_comm 1 (nbRs _)] at hg hs hb
    simp (maxSteps := 8000000) -implicitDefEqProofs (disch := omega) only [↓reduceIte, go_sem, eq_true hlt, hg, hm, hs, hn, hz1, el_two, to_Sel_at]
    refine loopKT_next (i + 1) (by omega) (by omega) ?_
    rw [hb]; refine (le_keep (Nat.zero_le _) ?_) <;> simp (maxSteps := 8000000) -implicitDefEqProofs (disch := omega) only [↓reduceIte, go_sem, slotsIn]
  · have hb : rows.take i = rows := List.take_of_length_le (by omega)
    have hm := mixR_full 1 (rows := rows) z0 (i := i) (by omega)
    simp (maxSteps := 8000000) -implicitDefEqProofs (disch := omega) only [↓reduceIte, go_sem, eq_false hge, hb, hm]
    refine joinK_here ?_
    simp (maxSteps := 8000000) -implicitDefEqProofs (disch := omega) only [↓reduceIte, go_sem]
    exact endT_same (.inr rfl) (by (simp (maxSteps := 8000000) -implicitDefEqProofs (disch := omega) only [↓reduceIte, go_sem]) <;> rfl) rfl
-- laws.eqSelS
def c107 : AF := ⟨27,
 (.seq (.reg [rO 4 (.mv (.v (.bool false)))])
 (.seq (.seq (.reg [rO 6 (.mv (.t 0)),
 rO 7 (.len (.t 6)),
 rO 8 (.mv (.t 1)),
 rO 9 (.len (.t 8)),
 rO 10 (.bin .neq (.t 7) (.t 9))])
 (.cond (.t 10) (.seq (.reg [rO 4 (.mv (.v (.bool false)))])
 .ret)
 .skip))
 (.seq (.seq (.reg [rO 5 (.mv (.v (.int .i64 0)))])
 (.block 0 (.loop (.seq (.seq (.reg [rO 11 (.mv (.t 5)),
 rO 12 (.mv (.t 0)),
 rO 13 (.len (.t 12)),
 rO 14 (.bin .lss (.t 11) (.t 13))])
 (.cond (.t 14) .skip
 (.exit 0)))
 (.seq (.block 1 (.seq (.drw [rO 17 (.mv (.t 0)),
 rO 18 (.mv (.t 5)),
 rO 19 (.ia 9 (.t 17) (.t 18)),
 rO 20 (.ldn 9 (.t 19)),
 rO 21 (.mv (.t 1)),
 rO 22 (.mv (.t 5)),
 rO 23 (.ia 9 (.t 21) (.t 22)),
 rO 24 (.ldn 9 (.t 23))] [rO 25 (.call 142 [(.t 20), (.t 24)]),
 rO 26 (.un .not (.t 25))])
 (.cond (.t 26) (.seq (.reg [rO 4 (.mv (.v (.bool false)))])
 .ret)
 .skip)))
 (.reg [rO 15 (.mv (.t 5)),
 rO 16 (.bin .add (.t 15) (.v (.int .i64 1))),
 rO 5 (.mv (.t 16))]))))))
 (.seq (.reg [rO 4 (.mv (.v (.bool true)))])
 .ret)))),
 [.t 4]⟩
theorem k107 : cFn Try.prog Try.f107 = some c107 := by kernel_rfl
theorem eqSelS_ok : OkT Try.prog 107 (pureSp (eqC_S sh_SelS)) := by
  refine okT_eqC (OkΓT.cons eqSel_ok (OkΓT.nil _)) Try.func107 (by kernel_rfl) k107 ?_
  intro c hc hz
  obtain ⟨rows, hf, hr, hsz, _⟩ := FitC.rows hc
  rw [hf]
  (dsimp only [c107, rO]; simp (maxSteps := 8000000) -implicitDefEqProofs (disch := omega) only [↓reduceIte, go_sem])
  refine awpT_loop (α := Nat) (fun i => ⟨slots [(0, .s (fzRs rows)), (1, .s (fzRs rows)), (5, .p (.int .i64 i))], []⟩) (fun i => i ≤ rows.length) (fun i => rows.length - i) 0 (Nat.zero_le _) (le_of [] (by simp (maxSteps := 8000000) -implicitDefEqProofs (disch := omega) only [↓reduceIte, go_sem]) (by simp (maxSteps := 8000000) -implicitDefEqProofs (disch := omega) only [↓reduceIte, go_sem]) (by decide) (by simp)) ?_
  intro i hi
  simp (maxSteps := 8000000) -implicitDefEqProofs (disch := omega) only [↓reduceIte, go_sem]
  refine condKT_dec (fun hlt => ?_) (fun hge => ?_)
  · obtain ⟨r, hx⟩ := get_ex (l := rows) (i := i) (by omega)
    have hrr := hr r (List.mem_of_getElem? hx)
    have hzr := szRs_mem hx
    have hg := fzRs_get hx
    obtain ⟨a0, a1, a2, a3, a4, a5, a6, a7, a8, rfl⟩ := sh_Sel_Fit hrr
    simp only [szCs, szC] at hzr
    simp only [fzCs, fzC, el_one, el_two] at hg
    simp (maxSteps := 8000000) -implicitDefEqProofs (disch := omega) only [↓reduceIte, go_sem, eq_true hlt, hg, eq_Sel_at]
    refine loopKT_next (i + 1) (by omega) (by omega) ?_
    exact (le_of [] (by simp (maxSteps := 8000000) -implicitDefEqProofs (disch := omega) only [↓reduceIte, go_sem]) (by simp (maxSteps := 8000000) -implicitDefEqProofs (disch := omega) only [↓reduceIte, go_sem]) (by decide) (by simp))
  · simp (maxSteps := 8000000) -implicitDefEqProofs (disch := omega) only [↓reduceIte, go_sem, eq_false hge]
    refine joinK_here ?_
    simp (maxSteps := 8000000) -implicitDefEqProofs (disch := omega) only [↓reduceIte, go_sem]
    repeat' first
      | ((first | refine gdKT_deq (fun hg hG => ?_) (fun hg hG => ?_) | refine condKT_deq (fun hg hG => ?_) (fun hg hG => ?_)) <;> (try simp (maxSteps := 8000000) -implicitDefEqProofs (disch := omega) only [↓reduceIte, go_sem, hG]) <;> clear hG)
      | ((first | refine gdKT_split (fun hg => ?_) (fun hg => ?_) | refine condKT_split (fun hg => ?_) (fun hg => ?_)) <;> (try simp (maxSteps := 8000000) -implicitDefEqProofs (disch := omega) only [↓reduceIte, go_sem, hg]))
      | (refine endT_p (.inr rfl) (by simp (maxSteps := 8000000) -implicitDefEqProofs (disch := omega) only [↓reduceIte, go_sem]; rfl) ?_; (first | exact vb_true (by omega) | exact vb_false (by omega) | exact vb_dec (by omega) | exact vi_eq (by omega) | rfl | (refine vi_eq ?_; simp_all; first | done | (intros; omega))))
      | exact endT_v (.inr rfl) (by simp (maxSteps := 8000000) -implicitDefEqProofs (disch := omega) only [↓reduceIte, go_sem]; try rfl) (fun _ => rfl)
-- laws.szSelS
def c103 : AF := ⟨12,
 (.seq (.reg [rO 4 (.mv (.v (.int .i64 0)))])
 (.seq (.reg [rO 5 (.mv (.t 1)),
 rO 6 (.mv (.t 0)),
 rO 7 (.len (.t 6)),
 rO 8 (.bin .sub (.t 5) (.t 7)),
 rO 1 (.mv (.t 8))])
 (.seq (.seq (.reg [rO 9 (.mv (.t 1)),
 rO 10 (.bin .lss (.t 9) (.v (.int .i64 0)))])
 (.cond (.t 10) (.seq (.reg [rO 4 (.mv (.v (.int .i64 (-1))))])
 .ret)
 .skip))
 (.seq (.reg [rO 11 (.mv (.t 1)),
 rO 4 (.mv (.t 11))])
 .ret)))),
 [.t 4]⟩
theorem k103 : cFn Try.prog Try.f103 = some c103 := by kernel_rfl
theorem szSelS_ok : OkT Try.prog 103 (pureSp (szC_S sh_SelS)) := by
  refine okT_szC (OkΓT.nil _) Try.func103 (by kernel_rfl) k103 ?_
  intro c k hc h1 h2 hz
  simp only [sh_SelS, HasC] at hc
  obtain ⟨rows, rfl, hr⟩ := hc
  generalize hN : szC _ = N at *
  simp only [szC] at hN
  simp only [lnC, Bool.and_eq_true, decide_eq_true_eq] at hz
  obtain ⟨hz, hzr⟩ := hz
  simp only [fzC]
  have hz0 : szRs rows = 0 := szRs_zero fun r hx => by
    have hrr := hr r hx
    obtain ⟨a0, a1, a2, a3, a4, a5, a6, a7, a8, rfl⟩ := sh_Sel_Has hrr
    rfl
  by_cases q : (rows.length : Int) ≤ k
  · rw [if_pos (by omega), show (N : Int) = rows.length by omega]
    (dsimp only [c103, rO]; simp (maxSteps := 8000000) -implicitDefEqProofs (disch := omega) only [↓reduceIte, go_sem])
    repeat' first
      | ((first | refine gdKT_deq (fun hg hG => ?_) (fun hg hG => ?_) | refine condKT_deq (fun hg hG => ?_) (fun hg hG => ?_)) <;> (try simp (maxSteps := 8000000) -implicitDefEqProofs (disch := omega) only [↓reduceIte, go_sem, hG]) <;> clear hG)
      | ((first | refine gdKT_split (fun hg => ?_) (fun hg => ?_) | refine condKT_split (fun hg => ?_) (fun hg => ?_)) <;> (try simp (maxSteps := 8000000) -implicitDefEqProofs (disch := omega) only [↓reduceIte, go_sem, hg]))
      | (refine endT_p (.inr rfl) (by simp (maxSteps := 8000000) -implicitDefEqProofs (disch := omega) only [↓reduceIte, go_sem]; rfl) ?_; (first | exact vb_true (by omega) | exact vb_false (by omega) | exact vb_dec (by omega) | exact vi_eq (by omega) | rfl | (refine vi_eq ?_; simp_all; first | done | (intros; omega))))
      | exact endT_v (.inr rfl) (by simp (maxSteps := 8000000) -implicitDefEqProofs (disch := omega) only [↓reduceIte, go_sem]; try rfl) (fun _ => rfl)
  · rw [if_neg (by omega)]
    (dsimp only [c103, rO]; simp (maxSteps := 8000000) -implicitDefEqProofs (disch := omega) only [↓reduceIte, go_sem])
    repeat' first
      | ((first | refine gdKT_deq (fun hg hG => ?_) (fun hg hG => ?_) | refine condKT_deq (fun hg hG => ?_) (fun hg hG => ?_)) <;> (try simp (maxSteps := 8000000) -implicitDefEqProofs (disch := omega) only [↓reduceIte, go_sem, hG]) <;> clear hG)
      | ((first | refine gdKT_split (fun hg => ?_) (fun hg => ?_) | refine condKT_split (fun hg => ?_) (fun hg => ?_)) <;> (try simp (maxSteps := 8000000) -implicitDefEqProofs (disch := omega) only [↓reduceIte, go_sem, hg]))
      | (refine endT_p (.inr rfl) (by simp (maxSteps := 8000000) -implicitDefEqProofs (disch := omega) only [↓reduceIte, go_sem]; rfl) ?_; (first | exact vb_true (by omega) | exact vb_false (by omega) | exact vb_dec (by omega) | exact vi_eq (by omega) | rfl | (refine vi_eq ?_; simp_all; first | done | (intros; omega))))
      | exact endT_v (.inr rfl) (by simp (maxSteps := 8000000) -implicitDefEqProofs (disch := omega) only [↓reduceIte, go_sem]; try rfl) (fun _ => rfl)
-- laws.heldSelS
def c143 : AF := ⟨102,
 (.seq (.reg [rO 4 (.mv (.v (.int .i64 0)))])
 (.seq (.seq (.reg [rO 5 (.mv (.v (.int .i64 0)))])
 (.block 0 (.loop (.seq (.seq (.reg [rO 6 (.mv (.t 5)),
 rO 7 (.mv (.t 0)),
 rO 8 (.len (.t 7)),
 rO 9 (.bin .lss (.t 6) (.t 8))])
 (.cond (.t 9) .skip
 (.exit 0)))
 (.seq (.block 1 (.seq (.seq (.reg [rO 12 (.mv (.t 0)),
 rO 13 (.mv (.t 5)),
 rO 14 (.ia 9 (.t 12) (.t 13)),
 rO 15 (.fa (.t 14) 0),
 rO 16 (.fa (.t 15) 0),
 rO 17 (.ld (.t 16)),
 rO 18 (.mv (.t 1)),
 rO 19 (.bin .neq (.t 17) (.t 18))])
 (.cond (.t 19) (.seq (.reg [rO 4 (.mv (.v (.int .i64 (-1))))])
 .ret)
 .skip))
 (.seq (.reg [rO 20 (.mv (.t 1)),
 rO 21 (.bin .add (.t 20) (.v (.int .i64 1))),
 rO 1 (.mv (.t 21))])
 (.seq (.seq (.reg [rO 22 (.mv (.t 0)),
 rO 23 (.mv (.t 5)),
 rO 24 (.ia 9 (.t 22) (.t 23)),
 rO 25 (.fa (.t 24) 0),
 rO 26 (.fa (.t 25) 1),
 rO 27 (.ld (.t 26)),
 rO 28 (.mv (.t 1)),
 rO 29 (.bin .neq (.t 27) (.t 28))])
 (.cond (.t 29) (.seq (.reg [rO 4 (.mv (.v (.int .i64 (-1))))])
 .ret)
 .skip))
 (.seq (.reg [rO 30 (.mv (.t 1)),
 rO 31 (.bin .add (.t 30) (.v (.int .i64 1))),
 rO 1 (.mv (.t 31))])
 (.seq (.seq (.reg [rO 32 (.mv (.t 0)),
 rO 33 (.mv (.t 5)),
 rO 34 (.ia 9 (.t 32) (.t 33)),
 rO 35 (.fa (.t 34) 2),
 rO 36 (.fa (.t 35) 0),
 rO 37 (.ld (.t 36)),
 rO 38 (.mv (.t 1)),
 rO 39 (.bin .neq (.t 37) (.t 38))])
 (.cond (.t 39) (.seq (.reg [rO 4 (.mv (.v (.int .i64 (-1))))])
 .ret)
 .skip))
 (.seq (.reg [rO 40 (.mv (.t 1)),
 rO 41 (.bin .add (.t 40) (.v (.int .i64 1))),
 rO 1 (.mv (.t 41))])
 (.seq (.seq (.reg [rO 42 (.mv (.t 0)),
 rO 43 (.mv (.t 5)),
 rO 44 (.ia 9 (.t 42) (.t 43)),
 rO 45 (.fa (.t 44) 2),
 rO 46 (.fa (.t 45) 1),
 rO 47 (.ld (.t 46)),
 rO 48 (.mv (.t 1)),
 rO 49 (.bin .neq (.t 47) (.t 48))])
 (.cond (.t 49) (.seq (.reg [rO 4 (.mv (.v (.int .i64 (-1))))])
 .ret)
 .skip))
 (.seq (.reg [rO 50 (.mv (.t 1)),
 rO 51 (.bin .add (.t 50) (.v (.int .i64 1))),
 rO 1 (.mv (.t 51))])
 (.seq (.seq (.reg [rO 52 (.mv (.t 0)),
 rO 53 (.mv (.t 5)),
 rO 54 (.ia 9 (.t 52) (.t 53)),
 rO 55 (.fa (.t 54) 4),
 rO 56 (.fa (.t 55) 0),
 rO 57 (.ld (.t 56)),
 rO 58 (.mv (.t 1)),
 rO 59 (.bin .neq (.t 57) (.t 58))])
 (.cond (.t 59) (.seq (.reg [rO 4 (.mv (.v (.int .i64 (-1))))])
 .ret)
 .skip))
 (.seq (.reg [rO 60 (.mv (.t 1)),
 rO 61 (.bin .add (.t 60) (.v (.int .i64 1))),
 rO 1 (.mv (.t 61))])
 (.seq (.seq (.reg [rO 62 (.mv (.t 0)),
 rO 63 (.mv (.t 5)),
 rO 64 (.ia 9 (.t 62) (.t 63)),
 rO 65 (.fa (.t 64) 4),
 rO 66 (.fa (.t 65) 1),
 rO 67 (.ld (.t 66)),
 rO 68 (.mv (.t 1)),
 rO 69 (.bin .neq (.t 67) (.t 68))])
 (.cond (.t 69) (.seq (.reg [rO 4 (.mv (.v (.int .i64 (-1))))])
 .ret)
 .skip))
 (.seq (.reg [rO 70 (.mv (.t 1)),
 rO 71 (.bin .add (.t 70) (.v (.int .i64 1))),
 rO 1 (.mv (.t 71))])
 (.seq (.seq (.reg [rO 72 (.mv (.t 0)),
 rO 73 (.mv (.t 5)),
 rO 74 (.ia 9 (.t 72) (.t 73)),
 rO 75 (.fa (.t 74) 6),
 rO 76 (.fa (.t 75) 0),
 rO 77 (.ld (.t 76)),
 rO 78 (.mv (.t 1)),
 rO 79 (.bin .neq (.t 77) (.t 78))])
 (.cond (.t 79) (.seq (.reg [rO 4 (.mv (.v (.int .i64 (-1))))])
 .ret)
 .skip))
 (.seq (.reg [rO 80 (.mv (.t 1)),
 rO 81 (.bin .add (.t 80) (.v (.int .i64 1))),
 rO 1 (.mv (.t 81))])
 (.seq (.seq (.reg [rO 82 (.mv (.t 0)),
 rO 83 (.mv (.t 5)),
 rO 84 (.ia 9 (.t 82) (.t 83)),
 rO 85 (.fa (.t 84) 6),
 rO 86 (.fa (.t 85) 1),
 rO 87 (.ld (.t 86)),
 rO 88 (.mv (.t 1)),
 rO 89 (.bin .neq (.t 87) (.t 88))])
 (.cond (.t 89) (.seq (.reg [rO 4 (.mv (.v (.int .i64 (-1))))])
 .ret)
 .skip))
 (.seq (.reg [rO 90 (.mv (.t 1)),
 rO 91 (.bin .add (.t 90) (.v (.int .i64 1))),
 rO 1 (.mv (.t 91))])
 (.seq (.seq (.reg [rO 92 (.mv (.t 0)),
 rO 93 (.mv (.t 5)),
 rO 94 (.ia 9 (.t 92) (.t 93)),
 rO 95 (.fa (.t 94) 8),
 rO 96 (.ld (.t 95)),
 rO 97 (.mv (.t 1)),
 rO 98 (.bin .neq (.t 96) (.t 97))])
 (.cond (.t 98) (.seq (.reg [rO 4 (.mv (.v (.int .i64 (-1))))])
 .ret)
 .skip))
 (.reg [rO 99 (.mv (.t 1)),
 rO 100 (.bin .add (.t 99) (.v (.int .i64 1))),
 rO 1 (.mv (.t 100))])))))))))))))))))))
 (.reg [rO 10 (.mv (.t 5)),
 rO 11 (.bin .add (.t 10) (.v (.int .i64 1))),
 rO 5 (.mv (.t 11))]))))))
 (.seq (.reg [rO 101 (.mv (.t 1)),
 rO 4 (.mv (.t 101))])
 .ret))),
 [.t 4]⟩
theorem k143 : cFn Try.prog Try.f143 = some c143 := by kernel_rfl
theorem heldSelS_ok : OkT Try.prog 143 (pureSp (hdC_S sh_SelS)) := by
  refine okT_hdC (OkΓT.nil _) Try.func143 (by kernel_rfl) k143 ?_
  intro c k hc h1 hz
  obtain ⟨rows, _, hr, _, hwt, hf⟩ := FitC.rows hc
  rw [hwt] at hz ⊢; rw [hf]
  have hlw : rows.length ≤ wtRs rows := wtRs_rows fun r hx => by
    have hrr := hr r hx
    obtain ⟨a0, a1, a2, a3, a4, a5, a6, a7, a8, rfl⟩ := sh_Sel_Fit hrr
    simp only [wtIs, wtI]; omega
  (dsimp only [c143, rO]; simp (maxSteps := 8000000) -implicitDefEqProofs (disch := omega) only [↓reduceIte, go_sem])
  refine awpT_loop (α := Nat) (fun i => ⟨slots [(0, .s (fzRs (mkRs rows k))), (1, .p (.int .i64 (k + (wtRs (rows.take i) : Int)))), (5, .p (.int .i64 i))], []⟩) (fun i => i ≤ rows.length) (fun i => rows.length - i) 0 (Nat.zero_le _) (by simp only [List.take_zero, wtRs, nat0T, Int.add_zero]; exact (le_of [] (by simp (maxSteps := 8000000) -implicitDefEqProofs (disch := omega) only [↓reduceIte, go_sem]) (by simp (maxSteps := 8000000) -implicitDefEqProofs (disch := omega) only [↓reduceIte, go_sem]) (by decide) (by simp))) ?_
  intro i hi
  simp (maxSteps := 8000000) -implicitDefEqProofs (disch := omega) only [↓reduceIte, go_sem]
  refine condKT_dec (fun hlt => ?_) (fun hge => ?_)
  · obtain ⟨r, hx⟩ := get_ex (l := rows) (i := i) (by omega)
    have hrr := hr r (List.mem_of_getElem? hx)
    have hwr := wtRs_mem hx; have hsn := wtRs_snoc hx
    have hg := fzRs_get (mkRs_get (k := k) hx)
    generalize hm : k + (wtRs (rows.take i) : Int) = m at *
    obtain ⟨a0, a1, a2, a3, a4, a5, a6, a7, a8, rfl⟩ := sh_Sel_Fit hrr
    simp only [wtIs, wtI, Nat.add_zero] at hwr hsn
    simp only [mkIs, mkI, mkV, wtI, nat1T, fzCs, fzC, el_one, el_two] at hg
    simp (maxSteps := 8000000) -implicitDefEqProofs (disch := omega) only [↓reduceIte, go_sem, eq_true hlt, hg, dec_self, Bool.not_true, not_true, decide_false]
    refine loopKT_next (i + 1) (by omega) (by omega) ?_
    have hs2 : k + (wtRs (rows.take (i + 1)) : Int) = m + 1 + 1 + 1 + 1 + 1 + 1 + 1 + 1 + 1 := by rw [hsn]; omega
    exact (le_of [] (by simp (maxSteps := 8000000) -implicitDefEqProofs (disch := omega) only [↓reduceIte, go_sem, hs2]) (by simp (maxSteps := 8000000) -implicitDefEqProofs (disch := omega) only [↓reduceIte, go_sem, hs2]) (by decide) (by simp))
  · have hb : rows.take i = rows := List.take_of_length_le (by omega)
    simp (maxSteps := 8000000) -implicitDefEqProofs (disch := omega) only [↓reduceIte, go_sem, eq_false hge, hb]
    refine joinK_here ?_
    simp (maxSteps := 8000000) -implicitDefEqProofs (disch := omega) only [↓reduceIte, go_sem]
    repeat' first
      | ((first | refine gdKT_deq (fun hg hG => ?_) (fun hg hG => ?_) | refine condKT_deq (fun hg hG => ?_) (fun hg hG => ?_)) <;> (try simp (maxSteps := 8000000) -implicitDefEqProofs (disch := omega) only [↓reduceIte, go_sem, hG]) <;> clear hG)
      | ((first | refine gdKT_split (fun hg => ?_) (fun hg => ?_) | refine condKT_split (fun hg => ?_) (fun hg => ?_)) <;> (try simp (maxSteps := 8000000) -implicitDefEqProofs (disch := omega) only [↓reduceIte, go_sem, hg]))
      | (refine endT_p (.inr rfl) (by simp (maxSteps := 8000000) -implicitDefEqProofs (disch := omega) only [↓reduceIte, go_sem]; rfl) ?_; (first | exact vb_true (by omega) | exact vb_false (by omega) | exact vb_dec (by omega) | exact vi_eq (by omega) | rfl | (refine vi_eq ?_; simp_all; first | done | (intros; omega))))
      | exact endT_v (.inr rfl) (by simp (maxSteps := 8000000) -implicitDefEqProofs (disch := omega) only [↓reduceIte, go_sem]; try rfl) (fun _ => rfl)
-- laws.markSelS
def c108 : AF := ⟨84,
 (.seq (.reg [rO 4 (.mv (.v (.int .i64 0)))])
 (.seq (.seq (.reg [rO 5 (.mv (.v (.int .i64 0)))])
 (.block 0 (.loop (.seq (.seq (.reg [rO 6 (.mv (.t 5)),
 rO 7 (.mv (.t 0)),
 rO 8 (.len (.t 7)),
 rO 9 (.bin .lss (.t 6) (.t 8))])
 (.cond (.t 9) .skip
 (.exit 0)))
 (.seq (.block 1 (.seq (.reg [rO 12 (.mv (.t 0)),
 rO 13 (.mv (.t 5)),
 rO 14 (.mv (.t 1)),
 rO 15 (.ia 9 (.t 12) (.t 13)),
 rO 16 (.fa (.t 15) 0),
 rO 17 (.fa (.t 16) 0),
 ⟨none, none, .st 1 (.t 17) (.t 14)⟩])
 (.seq (.reg [rO 18 (.mv (.t 1)),
 rO 19 (.bin .add (.t 18) (.v (.int .i64 1))),
 rO 1 (.mv (.t 19))])
 (.seq (.reg [rO 20 (.mv (.t 0)),
 rO 21 (.mv (.t 5)),
 rO 22 (.mv (.t 1)),
 rO 23 (.ia 9 (.t 20) (.t 21)),
 rO 24 (.fa (.t 23) 0),
 rO 25 (.fa (.t 24) 1),
 ⟨none, none, .st 1 (.t 25) (.t 22)⟩])
 (.seq (.reg [rO 26 (.mv (.t 1)),
 rO 27 (.bin .add (.t 26) (.v (.int .i64 1))),
 rO 1 (.mv (.t 27))])
 (.seq (.reg [rO 28 (.mv (.t 0)),
 rO 29 (.mv (.t 5)),
 rO 30 (.mv (.t 1)),
 rO 31 (.ia 9 (.t 28) (.t 29)),
 rO 32 (.fa (.t 31) 2),
 rO 33 (.fa (.t 32) 0),
 ⟨none, none, .st 1 (.t 33) (.t 30)⟩])
 (.seq (.reg [rO 34 (.mv (.t 1)),
 rO 35 (.bin .add (.t 34) (.v (.int .i64 1))),
 rO 1 (.mv (.t 35))])
 (.seq (.reg [rO 36 (.mv (.t 0)),
 rO 37 (.mv (.t 5)),
 rO 38 (.mv (.t 1)),
 rO 39 (.ia 9 (.t 36) (.t 37)),
 rO 40 (.fa (.t 39) 2),
 rO 41 (.fa (.t 40) 1),
 ⟨none, none, .st 1 (.t 41) (.t 38)⟩])
 (.seq (.reg [rO 42 (.mv (.t 1)),
 rO 43 (.bin .add (.t 42) (.v (.int .i64 1))),
 rO 1 (.mv (.t 43))])
 (.seq (.reg [rO 44 (.mv (.t 0)),
 rO 45 (.mv (.t 5)),
 rO 46 (.mv (.t 1)),
 rO 47 (.ia 9 (.t 44) (.t 45)),
 rO 48 (.fa (.t 47) 4),
 rO 49 (.fa (.t 48) 0),
 ⟨none, none, .st 1 (.t 49) (.t 46)⟩])
 (.seq (.reg [rO 50 (.mv (.t 1)),
 rO 51 (.bin .add (.t 50) (.v (.int .i64 1))),
 rO 1 (.mv (.t 51))])
 (.seq (.reg [rO 52 (.mv (.t 0)),
 rO 53 (.mv (.t 5)),
 rO 54 (.mv (.t 1)),
 rO 55 (.ia 9 (.t 52) (.t 53)),
 rO 56 (.fa (.t 55) 4),
 rO 57 (.fa (.t 56) 1),
 ⟨none, none, .st 1 (.t 57) (.t 54)⟩])
 (.seq (.reg [rO 58 (.mv (.t 1)),
 rO 59 (.bin .add (.t 58) (.v (.int .i64 1))),
 rO 1 (.mv (.t 59))])
 (.seq (.reg [rO 60 (.mv (.t 0)),
 rO 61 (.mv (.t 5)),
 rO 62 (.mv (.t 1)),
 rO 63 (.ia 9 (.t 60) (.t 61)),
 rO 64 (.fa (.t 63) 6),
 rO 65 (.fa (.t 64) 0),
 ⟨none, none, .st 1 (.t 65) (.t 62)⟩])
 (.seq (.reg [rO 66 (.mv (.t 1)),
 rO 67 (.bin .add (.t 66) (.v (.int .i64 1))),
 rO 1 (.mv (.t 67))])
 (.seq (.reg [rO 68 (.mv (.t 0)),
 rO 69 (.mv (.t 5)),
 rO 70 (.mv (.t 1)),
 rO 71 (.ia 9 (.t 68) (.t 69)),
 rO 72 (.fa (.t 71) 6),
 rO 73 (.fa (.t 72) 1),
 ⟨none, none, .st 1 (.t 73) (.t 70)⟩])
 (.seq (.reg [rO 74 (.mv (.t 1)),
 rO 75 (.bin .add (.t 74) (.v (.int .i64 1))),
 rO 1 (.mv (.t 75))])
 (.seq (.reg [rO 76 (.mv (.t 0)),
 rO 77 (.mv (.t 5)),
 rO 78 (.mv (.t 1)),
 rO 79 (.ia 9 (.t 76) (.t 77)),
 rO 80 (.fa (.t 79) 8),
 ⟨none, none, .st 1 (.t 80) (.t 78)⟩])
 (.reg [rO 81 (.mv (.t 1)),
 rO 82 (.bin .add (.t 81) (.v (.int .i64 1))),
 rO 1 (.mv (.t 82))])))))))))))))))))))
 (.reg [rO 10 (.mv (.t 5)),
 rO 11 (.bin .add (.t 10) (.v (.int .i64 1))),
 rO 5 (.mv (.t 11))]))))))
 (.seq (.reg [rO 83 (.mv (.t 1)),
 rO 4 (.mv (.t 83))])
 .ret))),
 [.t 4]⟩
theorem k108 : cFn Try.prog Try.f108 = some c108 := by kernel_rfl
theorem markSelS_ok : OkT Try.prog 108 (mkC_Sp sh_SelS) := by
  refine okT_mkC (OkΓT.nil _) Try.func108 (by kernel_rfl) k108 ?_
  intro c k hc h1 hz
  simp only [sh_SelS, FitC] at hc
  rcases hc with rfl | ⟨z, rows, rfl, hz0, hr⟩
  · simp only [wtC, mkC, nbC, tvC_v, tvC_nl, tvC_sl, bkC, nat0T, Int.add_zero] at *
    (dsimp only [c108, rO]; simp (maxSteps := 8000000) -implicitDefEqProofs (disch := omega) only [↓reduceIte, go_sem])
    refine awpT_loop (α := Unit) (fun _ => ⟨slots [(0, .nl), (1, .p (.int .i64 k)), (5, .p (.int .i64 0))], []⟩) (fun _ => True) (fun _ => 0) () trivial (le_keep (Nat.zero_le _) (by simp (maxSteps := 8000000) -implicitDefEqProofs (disch := omega) only [↓reduceIte, go_sem, slotsIn])) ?_
    intro _ _
    simp (maxSteps := 8000000) -implicitDefEqProofs (disch := omega) only [↓reduceIte, go_sem]
    refine joinK_at _ (le_same _ _ (Nat.zero_le _)) ?_
    simp (maxSteps := 8000000) -implicitDefEqProofs (disch := omega) only [↓reduceIte, go_sem]
    exact endK_same (.inr rfl) (Nat.zero_le _) (by simp (maxSteps := 8000000) -implicitDefEqProofs (disch := omega) only [↓reduceIte, go_sem]) rfl
  · simp only [wtC] at hz ⊢
    have hlw : rows.length ≤ wtRs rows := wtRs_rows fun r hx => by
      have hrr := hr r hx
      obtain ⟨a0, a1, a2, a3, a4, a5, a6, a7, a8, rfl⟩ := sh_Sel_Fit hrr
      simp only [wtIs, wtI]; omega
    simp only [tvC_v, tvC_nl, tvC_sl, bkC, mkC, Nat.zero_add]
    generalize hnb : nbC _ = nb
    simp only [nbC] at hnb
    have hnb2 : ∀ i, nb = (bkRs 1 (mkAt rows k i)).length + 1 := fun i => by
      have := mkRs_nb (rows.take i) k; have h2 := nbRs_app (rows.take i) (rows.drop i)
      rw [List.take_append_drop] at h2; rw [bkRs_len, mkAt, nbRs_app]; omega
    (dsimp only [c108, rO]; simp (maxSteps := 8000000) -implicitDefEqProofs (disch := omega) only [↓reduceIte, go_sem])
    refine awpT_loop (α := Nat) (fun i => ⟨slots [(0, .os 0 0 rows.length), (1, .p (.int .i64 (k + (wtRs (rows.take i) : Int)))), (5, .p (.int .i64 i))], .cells 160 z (tvRs 1 (mkAt rows k i)) :: bkRs 1 (mkAt rows k i)⟩)
      (fun i => i ≤ rows.length) (fun i => rows.length - i) 0 (Nat.zero_le _) (by simp only [mkAt_zero, List.take_zero, wtRs, nat0T, Int.add_zero]; exact le_keep (by have := hnb2 0; rw [mkAt_zero] at this; rw [List.length_cons]; omega) (by simp (maxSteps := 8000000) -implicitDefEqProofs (disch := omega) only [↓reduceIte, go_sem, slotsIn])) ?_
    intro i hi
    have hl1 : (tvRs 1 (mkAt rows k i)).length = rows.length := by rw [tvRs_len, mkAt_len]
    simp (maxSteps := 8000000) -implicitDefEqProofs (disch := omega) only [↓reduceIte, go_sem, hl1]
    refine condKT_dec (fun hlt => ?_) (fun hge => ?_)
    · obtain ⟨r, hx⟩ := get_ex (l := rows) (i := i) (by omega)
      obtain rfl : z = 9 := by rcases hz0 with h | h; (rw [h] at hx; simp at hx); exact h
      have hrr := hr r (List.mem_of_getElem? hx)
      have hwr := wtRs_mem hx; have hsn := wtRs_snoc hx
      have hg := mkAt_get 1 (k := k) hx; have hs := mkAt_set 1 (k := k) hx
      generalize hm : k + (wtRs (rows.take i) : Int) = m at *
      obtain ⟨a0, a1, a2, a3, a4, a5, a6, a7, a8, rfl⟩ := sh_Sel_Fit hrr
      simp only [wtIs, wtI, Nat.add_zero] at hwr hsn
      simp only [mkIs, mkI, mkV, wtI, nat1T, tvCs, tvC_v, tvC_nl, tvC_sl, nbC, Nat.add_zero, mkC_tv, el_one, el_two] at hg hs
      have hb2 : bkRs 1 (mkAt rows k (i + 1)) = bkRs 1 (mkAt rows k i) := by rw [mkAt_bkn 1 hx, mkAt_bk 1 hx]; rfl
      simp (maxSteps := 8000000) -implicitDefEqProofs (disch := omega) only [↓reduceIte, go_sem, hl1, hg, List.getElem?_set_self, List.set_set]
      refine loopKT_next (i + 1) (by omega) (by omega) ?_
      have hs2 : k + (wtRs (rows.take (i + 1)) : Int) = m + 1 + 1 + 1 + 1 + 1 + 1 + 1 + 1 + 1 := by rw [hsn]; omega
      rw [hs2, ← hs, hb2]
      exact le_keep (by have := hnb2 i; rw [List.length_cons]; omega) (by simp (maxSteps := 8000000) -implicitDefEqProofs (disch := omega) only [↓reduceIte, go_sem, slotsIn])
    · have hb : rows.take i = rows := List.take_of_length_le (by omega)
      have hmf := mkAt_full (k := k) (show rows.length ≤ i by omega)
      have hnb3 := hnb2 i; rw [hmf] at hnb3
      simp (maxSteps := 8000000) -implicitDefEqProofs (disch := omega) only [↓reduceIte, go_sem, eq_false hge, hb, hmf]
      refine joinK_at _ (le_same _ _ (by show nb ≤ List.length (_ :: _); rw [List.length_cons]; omega)) ?_
      simp (maxSteps := 8000000) -implicitDefEqProofs (disch := omega) only [↓reduceIte, go_sem]
      exact endK_same (.inr rfl) (by rw [List.length_cons]; omega) (by simp (maxSteps := 8000000) -implicitDefEqProofs (disch := omega) only [↓reduceIte, go_sem]) rfl
/-! Window -/
def sh_Window : List Shp := [.i .i64, .i .i64]
theorem sh_Window_Has {cs : List Cell} (h : HasR sh_Window cs) : ∃ (a0 : Int) (a1 : Int), cs = [.v (.int .i64 a0), .v (.int .i64 a1)] := by
  obtain ⟨_, _, rfl, ⟨a0, rfl, _⟩, _, _, rfl, ⟨a1, rfl, _⟩, h⟩ := h
  simp only [HasR] at h; subst h
  exact ⟨a0, a1, rfl⟩
theorem sh_Window_mkHas  (a0 : Int) (a1 : Int) : HasR sh_Window [.v (.int .i64 a0), .v (.int .i64 a1)] := by
  exact ⟨_, _, rfl, ⟨_, rfl, fun h => by cases h⟩, _, _, rfl, ⟨_, rfl, fun h => by cases h⟩, rfl⟩
theorem sh_Window_Fit {cs : List Cell} (h : FitR sh_Window cs) : ∃ (a0 : Int) (a1 : Int), cs = [.v (.int .i64 a0), .v (.int .i64 a1)] := by
  obtain ⟨_, _, rfl, ⟨a0, rfl⟩, _, _, rfl, ⟨a1, rfl⟩, h⟩ := h
  simp only [FitR] at h; subst h
  exact ⟨a0, a1, rfl⟩
theorem sh_Window_mkFit  (a0 : Int) (a1 : Int) : FitR sh_Window [.v (.int .i64 a0), .v (.int .i64 a1)] := by
  exact ⟨_, _, rfl, ⟨_, rfl⟩, _, _, rfl, ⟨_, rfl⟩, rfl⟩
theorem flat_sz_Window {cs : List Cell} (h : HasR sh_Window cs) : szCs cs = 0 := by
  obtain ⟨a0, a1, rfl⟩ := sh_Window_Has h
  rfl
theorem to_Window_at  (a0 : Int) (a1 : Int) : toR_S sh_Window [.agg [.p (.int .i64 a0), .p (.int .i64 a1)]] = some (.agg [.p (.int .i64 a0), .p (.int .i64 a1)], []) := by
  have := toR_at (sh_Window_mkHas  a0 a1) (by simp only [szCs, szC]; omega)
  simpa only [fzCs, fzC, tvCs, tvC_v, tvC_nl, tvC_sl, bkCs, bkC, nbC, nbCs, Nat.add_zero, List.append_nil, List.nil_append, Nat.zero_add] using this
-- laws.toWindow
def c104 : AF := ⟨11,
 (.seq (.reg [rO 1 (.box 76 (.t 0)),
 rO 2 (.alloc 42 [(.int .i64 0), (.int .i64 0)])])
 (.seq (.reg [rO 3 (.alloc 42 [(.int .i64 0), (.int .i64 0)])])
 (.seq (.reg [rO 4 (.fa (.t 1) 0),
 rO 5 (.ld (.t 4)),
 rO 6 (.fa (.t 3) 0),
 ⟨none, none, .st 1 (.t 6) (.t 5)⟩])
 (.seq (.reg [rO 7 (.fa (.t 1) 1),
 rO 8 (.ld (.t 7)),
 rO 9 (.fa (.t 3) 1),
 ⟨none, none, .st 1 (.t 9) (.t 8)⟩])
 (.seq (.reg [rO 10 (.ldn 2 (.t 3)),
 ⟨none, none, .st 2 (.t 2) (.t 10)⟩])
 .ret))))),
 [.cell 2 (some 2)]⟩
theorem k104 : cFn Try.prog Try.f104 = some c104 := by kernel_rfl
theorem toWindow_ok : OkT Try.prog 104 (pureSp (toR_S sh_Window)) := by
  refine okT_toR (OkΓT.nil _) Try.func104 (by kernel_rfl) k104 ?_
  intro c hc hz
  obtain ⟨a0, a1, rfl⟩ := sh_Window_Has hc
  simp only [szCs, szC] at hz
  simp only [fzCs, fzC]
  (dsimp only [c104, rO]; simp (maxSteps := 8000000) -implicitDefEqProofs (disch := omega) only [↓reduceIte, go_sem])
  refine endT_cells' 3 (.inr rfl) (by (simp (maxSteps := 8000000) -implicitDefEqProofs (disch := omega) only [↓reduceIte, go_sem, fzCs, fzC, tvCs, tvC_v, tvC_nl, tvC_sl, bkCs, bkC, nbC, nbCs, Nat.add_zero, List.append_nil, List.nil_append]) <;> rfl) ?_ (by simp only [List.length_cons]; omega)
  simp only [List.drop_succ_cons, List.drop_zero, bkCs, bkC, nbC, Nat.add_zero, List.append_nil, List.nil_append, List.cons_append, Nat.add_assoc]
theorem eq_Window_at  (a0 : Int) (a1 : Int) : eqR_S sh_Window [.agg [.p (.int .i64 a0), .p (.int .i64 a1)], .agg [.p (.int .i64 a0), .p (.int .i64 a1)]] = some (.p (.bool true), []) := by
  exact eqR_at (sh_Window_mkFit  a0 a1) (by simp only [szCs, szC]; omega)
-- laws.eqWindow
def c106 : AF := ⟨15,
 (.seq (.reg [rO 2 (.box 42 (.t 0)),
 rO 3 (.box 42 (.t 1)),
 rO 4 (.mv (.v (.bool false)))])
 (.seq (.seq (.reg [rO 5 (.fa (.t 2) 0),
 rO 6 (.ld (.t 5)),
 rO 7 (.fa (.t 3) 0),
 rO 8 (.ld (.t 7)),
 rO 9 (.bin .neq (.t 6) (.t 8))])
 (.cond (.t 9) (.seq (.reg [rO 4 (.mv (.v (.bool false)))])
 .ret)
 .skip))
 (.seq (.seq (.reg [rO 10 (.fa (.t 2) 1),
 rO 11 (.ld (.t 10)),
 rO 12 (.fa (.t 3) 1),
 rO 13 (.ld (.t 12)),
 rO 14 (.bin .neq (.t 11) (.t 13))])
 (.cond (.t 14) (.seq (.reg [rO 4 (.mv (.v (.bool false)))])
 .ret)
 .skip))
 (.seq (.reg [rO 4 (.mv (.v (.bool true)))])
 .ret)))),
 [.t 4]⟩
theorem k106 : cFn Try.prog Try.f106 = some c106 := by kernel_rfl
theorem eqWindow_ok : OkT Try.prog 106 (pureSp (eqR_S sh_Window)) := by
  refine okT_eqR (OkΓT.nil _) Try.func106 (by kernel_rfl) k106 ?_
  intro c hc hz
  obtain ⟨a0, a1, rfl⟩ := sh_Window_Fit hc
  simp only [szCs, szC] at hz
  simp only [fzCs, fzC]
  (dsimp only [c106, rO]; simp (maxSteps := 8000000) -implicitDefEqProofs (disch := omega) only [↓reduceIte, go_sem])
  repeat' first
    | ((first | refine gdKT_deq (fun hg hG => ?_) (fun hg hG => ?_) | refine condKT_deq (fun hg hG => ?_) (fun hg hG => ?_)) <;> (try simp (maxSteps := 8000000) -implicitDefEqProofs (disch := omega) only [↓reduceIte, go_sem, hG]) <;> clear hG)
    | ((first | refine gdKT_split (fun hg => ?_) (fun hg => ?_) | refine condKT_split (fun hg => ?_) (fun hg => ?_)) <;> (try simp (maxSteps := 8000000) -implicitDefEqProofs (disch := omega) only [↓reduceIte, go_sem, hg]))
    | (refine endT_p (.inr rfl) (by simp (maxSteps := 8000000) -implicitDefEqProofs (disch := omega) only [↓reduceIte, go_sem]; rfl) ?_; (first | exact vb_true (by omega) | exact vb_false (by omega) | exact vb_dec (by omega) | exact vi_eq (by omega) | rfl | (refine vi_eq ?_; simp_all; first | done | (intros; omega))))
    | exact endT_v (.inr rfl) (by simp (maxSteps := 8000000) -implicitDefEqProofs (disch := omega) only [↓reduceIte, go_sem]; try rfl) (fun _ => rfl)
/-! Sa -/
def sh_Sa : List Shp := [.i .i64, .i .i64, .i .i64, .b, .i .i64, .i .i64, .i .i64, .i .i64, .i .i64, .i .i64, sh_SelS]
theorem sh_Sa_Has {cs : List Cell} (h : HasR sh_Sa cs) : ∃ (a0 : Int) (a1 : Int) (a2 : Int) (a3 : Bool) (a4 : Int) (a5 : Int) (a6 : Int) (a7 : Int) (a8 : Int) (a9 : Int) (c10 : Cell), cs = [.v (.int .i64 a0), .v (.int .i64 a1), .v (.int .i64 a2), .v (.bool a3), .v (.int .i64 a4), .v (.int .i64 a5), .v (.int .i64 a6), .v (.int .i64 a7), .v (.int .i64 a8), .v (.int .i64 a9), c10] ∧ HasC sh_SelS c10 := by
  obtain ⟨_, _, rfl, ⟨a0, rfl, _⟩, _, _, rfl, ⟨a1, rfl, _⟩, _, _, rfl, ⟨a2, rfl, _⟩, _, _, rfl, ⟨a3, rfl⟩, _, _, rfl, ⟨a4, rfl, _⟩, _, _, rfl, ⟨a5, rfl, _⟩, _, _, rfl, ⟨a6, rfl, _⟩, _, _, rfl, ⟨a7, rfl, _⟩, _, _, rfl, ⟨a8, rfl, _⟩, _, _, rfl, ⟨a9, rfl, _⟩, c10, _, rfl, hc10, h⟩ := h
  simp only [HasR] at h; subst h
  exact ⟨a0, a1, a2, a3, a4, a5, a6, a7, a8, a9, c10, rfl, hc10⟩
theorem sh_Sa_mkHas {c10 : Cell} (hc10 : HasC sh_SelS c10) (a0 : Int) (a1 : Int) (a2 : Int) (a3 : Bool) (a4 : Int) (a5 : Int) (a6 : Int) (a7 : Int) (a8 : Int) (a9 : Int) : HasR sh_Sa [.v (.int .i64 a0), .v (.int .i64 a1), .v (.int .i64 a2), .v (.bool a3), .v (.int .i64 a4), .v (.int .i64 a5), .v (.int .i64 a6), .v (.int .i64 a7), .v (.int .i64 a8), .v (.int .i64 a9), c10] := by
  exact ⟨_, _, rfl, ⟨_, rfl, fun h => by cases h⟩, _, _, rfl, ⟨_, rfl, fun h => by cases h⟩, _, _, rfl, ⟨_, rfl, fun h => by cases h⟩, _, _, rfl, ⟨_, rfl⟩, _, _, rfl, ⟨_, rfl, fun h => by cases h⟩, _, _, rfl, ⟨_, rfl, fun h => by cases h⟩, _, _, rfl, ⟨_, rfl, fun h => by cases h⟩, _, _, rfl, ⟨_, rfl, fun h => by cases h⟩, _, _, rfl, ⟨_, rfl, fun h => by cases h⟩, _, _, rfl, ⟨_, rfl, fun h => by cases h⟩, _, _, rfl, hc10, rfl⟩
theorem sh_Sa_Fit {cs : List Cell} (h : FitR sh_Sa cs) : ∃ (a0 : Int) (a1 : Int) (a2 : Int) (a3 : Bool) (a4 : Int) (a5 : Int) (a6 : Int) (a7 : Int) (a8 : Int) (a9 : Int) (c10 : Cell), cs = [.v (.int .i64 a0), .v (.int .i64 a1), .v (.int .i64 a2), .v (.bool a3), .v (.int .i64 a4), .v (.int .i64 a5), .v (.int .i64 a6), .v (.int .i64 a7), .v (.int .i64 a8), .v (.int .i64 a9), c10] ∧ FitC sh_SelS c10 := by
  obtain ⟨_, _, rfl, ⟨a0, rfl⟩, _, _, rfl, ⟨a1, rfl⟩, _, _, rfl, ⟨a2, rfl⟩, _, _, rfl, ⟨a3, rfl⟩, _, _, rfl, ⟨a4, rfl⟩, _, _, rfl, ⟨a5, rfl⟩, _, _, rfl, ⟨a6, rfl⟩, _, _, rfl, ⟨a7, rfl⟩, _, _, rfl, ⟨a8, rfl⟩, _, _, rfl, ⟨a9, rfl⟩, c10, _, rfl, hc10, h⟩ := h
  simp only [FitR] at h; subst h
  exact ⟨a0, a1, a2, a3, a4, a5, a6, a7, a8, a9, c10, rfl, hc10⟩
theorem sh_Sa_mkFit {c10 : Cell} (hc10 : FitC sh_SelS c10) (a0 : Int) (a1 : Int) (a2 : Int) (a3 : Bool) (a4 : Int) (a5 : Int) (a6 : Int) (a7 : Int) (a8 : Int) (a9 : Int) : FitR sh_Sa [.v (.int .i64 a0), .v (.int .i64 a1), .v (.int .i64 a2), .v (.bool a3), .v (.int .i64 a4), .v (.int .i64 a5), .v (.int .i64 a6), .v (.int .i64 a7), .v (.int .i64 a8), .v (.int .i64 a9), c10] := by
  exact ⟨_, _, rfl, ⟨_, rfl⟩, _, _, rfl, ⟨_, rfl⟩, _, _, rfl, ⟨_, rfl⟩, _, _, rfl, ⟨_, rfl⟩, _, _, rfl, ⟨_, rfl⟩, _, _, rfl, ⟨_, rfl⟩, _, _, rfl, ⟨_, rfl⟩, _, _, rfl, ⟨_, rfl⟩, _, _, rfl, ⟨_, rfl⟩, _, _, rfl, ⟨_, rfl⟩, _, _, rfl, hc10, rfl⟩
theorem to_Sa_at {c10 : Cell} (hc10 : HasC sh_SelS c10) (hz : szC c10 ≤ 1048576) (a0 : Int) (a1 : Int) (a2 : Int) (a3 : Bool) (a4 : Int) (a5 : Int) (a6 : Int) (a7 : Int) (a8 : Int) (a9 : Int) : toR_S sh_Sa [.agg [.p (.int .i64 a0), .p (.int .i64 a1), .p (.int .i64 a2), .p (.bool a3), .p (.int .i64 a4), .p (.int .i64 a5), .p (.int .i64 a6), .p (.int .i64 a7), .p (.int .i64 a8), .p (.int .i64 a9), fzC c10]] = some (.agg [.p (.int .i64 a0), .p (.int .i64 a1), .p (.int .i64 a2), .p (.bool a3), .p (.int .i64 a4), .p (.int .i64 a5), .p (.int .i64 a6), .p (.int .i64 a7), .p (.int .i64 a8), .p (.int .i64 a9), tvC (0) c10], (bkC (0) c10)) := by
  have := toR_at (sh_Sa_mkHas hc10 a0 a1 a2 a3 a4 a5 a6 a7 a8 a9) (by simp only [szCs, szC]; omega)
  simpa only [fzCs, fzC, tvCs, tvC_v, tvC_nl, tvC_sl, bkCs, bkC, nbC, nbCs, Nat.add_zero, List.append_nil, List.nil_append, Nat.zero_add] using this
-- laws.toSa
def c40 : AF := ⟨37,
 (.seq (.reg [rO 1 (.box 79 (.t 0)),
 rO 2 (.alloc 45 [(.int .i64 0), (.int .i64 0), (.int .i64 0), (.bool false), (.int .i64 0), (.int .i64 0), (.int .i64 0), (.int .i64 0), (.int .i64 0), (.int .i64 0), (.slice none 0 0)])])
 (.seq (.reg [rO 3 (.alloc 45 [(.int .i64 0), (.int .i64 0), (.int .i64 0), (.bool false), (.int .i64 0), (.int .i64 0), (.int .i64 0), (.int .i64 0), (.int .i64 0), (.int .i64 0), (.slice none 0 0)])])
 (.seq (.reg [rO 4 (.fa (.t 1) 0),
 rO 5 (.ld (.t 4)),
 rO 6 (.fa (.t 3) 0),
 ⟨none, none, .st 1 (.t 6) (.t 5)⟩])
 (.seq (.reg [rO 7 (.fa (.t 1) 1),
 rO 8 (.ld (.t 7)),
 rO 9 (.fa (.t 3) 1),
 ⟨none, none, .st 1 (.t 9) (.t 8)⟩])
 (.seq (.reg [rO 10 (.fa (.t 1) 2),
 rO 11 (.ld (.t 10)),
 rO 12 (.fa (.t 3) 2),
 ⟨none, none, .st 1 (.t 12) (.t 11)⟩])
 (.seq (.reg [rO 13 (.fa (.t 1) 3),
 rO 14 (.ld (.t 13)),
 rO 15 (.fa (.t 3) 3),
 ⟨none, none, .st 1 (.t 15) (.t 14)⟩])
 (.seq (.reg [rO 16 (.fa (.t 1) 4),
 rO 17 (.ld (.t 16)),
 rO 18 (.fa (.t 3) 4),
 ⟨none, none, .st 1 (.t 18) (.t 17)⟩])
 (.seq (.reg [rO 19 (.fa (.t 1) 5),
 rO 20 (.ldn 2 (.t 19)),
 rO 21 (.call 104 [(.t 20)]),
 rO 22 (.fa (.t 3) 5),
 ⟨none, none, .st 2 (.t 22) (.t 21)⟩])
 (.seq (.reg [rO 23 (.fa (.t 1) 7),
 rO 24 (.ld (.t 23)),
 rO 25 (.fa (.t 3) 7),
 ⟨none, none, .st 1 (.t 25) (.t 24)⟩])
 (.seq (.reg [rO 26 (.fa (.t 1) 8),
 rO 27 (.ld (.t 26)),
 rO 28 (.fa (.t 3) 8),
 ⟨none, none, .st 1 (.t 28) (.t 27)⟩])
 (.seq (.reg [rO 29 (.fa (.t 1) 9),
 rO 30 (.ld (.t 29)),
 rO 31 (.fa (.t 3) 9),
 ⟨none, none, .st 1 (.t 31) (.t 30)⟩])
 (.seq (.reg [rO 32 (.fa (.t 1) 10),
 rO 33 (.ld (.t 32)),
 rO 34 (.call 105 [(.t 33)]),
 rO 35 (.fa (.t 3) 10),
 ⟨none, none, .st 1 (.t 35) (.t 34)⟩])
 (.seq (.reg [rO 36 (.ldn 11 (.t 3)),
 ⟨none, none, .st 11 (.t 2) (.t 36)⟩])
 .ret))))))))))))),
 [.cell 2 (some 11)]⟩
theorem k40 : cFn Try.prog Try.f40 = some c40 := by kernel_rfl
theorem toSa_ok : OkT Try.prog 40 (pureSp (toR_S sh_Sa)) := by
  refine okT_toR (OkΓT.cons toWindow_ok (OkΓT.cons toSelS_ok (OkΓT.nil _))) Try.func40 (by kernel_rfl) k40 ?_
  intro c hc hz
  obtain ⟨a0, a1, a2, a3, a4, a5, a6, a7, a8, a9, c10, rfl, hc10⟩ := sh_Sa_Has hc
  simp only [szCs, szC] at hz
  simp only [fzCs, fzC]
  (dsimp only [c40, rO]; simp (maxSteps := 8000000) -implicitDefEqProofs (disch := omega) only [↓reduceIte, go_sem, to_Window_at, toC_at hc10 (by omega)])
  refine endT_cells' 3 (.inr rfl) (by (simp (maxSteps := 8000000) -implicitDefEqProofs (disch := omega) only [↓reduceIte, go_sem, fzCs, fzC, tvCs, tvC_v, tvC_nl, tvC_sl, bkCs, bkC, nbC, nbCs, Nat.add_zero, List.append_nil, List.nil_append]) <;> rfl) ?_ (by simp only [List.length_cons]; omega)
  simp only [List.drop_succ_cons, List.drop_zero, bkCs, bkC, nbC, Nat.add_zero, List.append_nil, List.nil_append, List.cons_append, Nat.add_assoc]
theorem eq_Sa_at {c10 : Cell} (hc10 : FitC sh_SelS c10) (hz : szC c10 ≤ 1099511627776) (a0 : Int) (a1 : Int) (a2 : Int) (a3 : Bool) (a4 : Int) (a5 : Int) (a6 : Int) (a7 : Int) (a8 : Int) (a9 : Int) : eqR_S sh_Sa [.agg [.p (.int .i64 a0), .p (.int .i64 a1), .p (.int .i64 a2), .p (.bool a3), .p (.int .i64 a4), .p (.int .i64 a5), .p (.int .i64 a6), .p (.int .i64 a7), .p (.int .i64 a8), .p (.int .i64 a9), fzC c10], .agg [.p (.int .i64 a0), .p (.int .i64 a1), .p (.int .i64 a2), .p (.bool a3), .p (.int .i64 a4), .p (.int .i64 a5), .p (.int .i64 a6), .p (.int .i64 a7), .p (.int .i64 a8), .p (.int .i64 a9), fzC c10]] = some (.p (.bool true), []) := by
  exact eqR_at (sh_Sa_mkFit hc10 a0 a1 a2 a3 a4 a5 a6 a7 a8 a9) (by simp only [szCs, szC]; omega)
-- laws.eqSa
def c43 : AF := ⟨57,
 (.seq (.reg [rO 2 (.box 45 (.t 0)),
 rO 3 (.box 45 (.t 1)),
 rO 4 (.mv (.v (.bool false)))])
 (.seq (.seq (.reg [rO 5 (.fa (.t 2) 0),
 rO 6 (.ld (.t 5)),
 rO 7 (.fa (.t 3) 0),
 rO 8 (.ld (.t 7)),
 rO 9 (.bin .neq (.t 6) (.t 8))])
 (.cond (.t 9) (.seq (.reg [rO 4 (.mv (.v (.bool false)))])
 .ret)
 .skip))
 (.seq (.seq (.reg [rO 10 (.fa (.t 2) 1),
 rO 11 (.ld (.t 10)),
 rO 12 (.fa (.t 3) 1),
 rO 13 (.ld (.t 12)),
 rO 14 (.bin .neq (.t 11) (.t 13))])
 (.cond (.t 14) (.seq (.reg [rO 4 (.mv (.v (.bool false)))])
 .ret)
 .skip))
 (.seq (.seq (.reg [rO 15 (.fa (.t 2) 2),
 rO 16 (.ld (.t 15)),
 rO 17 (.fa (.t 3) 2),
 rO 18 (.ld (.t 17)),
 rO 19 (.bin .neq (.t 16) (.t 18))])
 (.cond (.t 19) (.seq (.reg [rO 4 (.mv (.v (.bool false)))])
 .ret)
 .skip))
 (.seq (.seq (.reg [rO 20 (.fa (.t 2) 3),
 rO 21 (.ld (.t 20)),
 rO 22 (.fa (.t 3) 3),
 rO 23 (.ld (.t 22)),
 rO 24 (.eqB true (.t 21) (.t 23))])
 (.cond (.t 24) (.seq (.reg [rO 4 (.mv (.v (.bool false)))])
 .ret)
 .skip))
 (.seq (.seq (.reg [rO 25 (.fa (.t 2) 4),
 rO 26 (.ld (.t 25)),
 rO 27 (.fa (.t 3) 4),
 rO 28 (.ld (.t 27)),
 rO 29 (.bin .neq (.t 26) (.t 28))])
 (.cond (.t 29) (.seq (.reg [rO 4 (.mv (.v (.bool false)))])
 .ret)
 .skip))
 (.seq (.seq (.reg [rO 30 (.fa (.t 2) 5),
 rO 31 (.ldn 2 (.t 30)),
 rO 32 (.fa (.t 3) 5),
 rO 33 (.ldn 2 (.t 32)),
 rO 34 (.call 106 [(.t 31), (.t 33)]),
 rO 35 (.un .not (.t 34))])
 (.cond (.t 35) (.seq (.reg [rO 4 (.mv (.v (.bool false)))])
 .ret)
 .skip))
 (.seq (.seq (.reg [rO 36 (.fa (.t 2) 7),
 rO 37 (.ld (.t 36)),
 rO 38 (.fa (.t 3) 7),
 rO 39 (.ld (.t 38)),
 rO 40 (.bin .neq (.t 37) (.t 39))])
 (.cond (.t 40) (.seq (.reg [rO 4 (.mv (.v (.bool false)))])
 .ret)
 .skip))
 (.seq (.seq (.reg [rO 41 (.fa (.t 2) 8),
 rO 42 (.ld (.t 41)),
 rO 43 (.fa (.t 3) 8),
 rO 44 (.ld (.t 43)),
 rO 45 (.bin .neq (.t 42) (.t 44))])
 (.cond (.t 45) (.seq (.reg [rO 4 (.mv (.v (.bool false)))])
 .ret)
 .skip))
 (.seq (.seq (.reg [rO 46 (.fa (.t 2) 9),
 rO 47 (.ld (.t 46)),
 rO 48 (.fa (.t 3) 9),
 rO 49 (.ld (.t 48)),
 rO 50 (.bin .neq (.t 47) (.t 49))])
 (.cond (.t 50) (.seq (.reg [rO 4 (.mv (.v (.bool false)))])
 .ret)
 .skip))
 (.seq (.seq (.reg [rO 51 (.fa (.t 2) 10),
 rO 52 (.ld (.t 51)),
 rO 53 (.fa (.t 3) 10),
 rO 54 (.ld (.t 53)),
 rO 55 (.call 107 [(.t 52), (.t 54)]),
 rO 56 (.un .not (.t 55))])
 (.cond (.t 56) (.seq (.reg [rO 4 (.mv (.v (.bool false)))])
 .ret)
 .skip))
 (.seq (.reg [rO 4 (.mv (.v (.bool true)))])
 .ret)))))))))))),
 [.t 4]⟩
theorem k43 : cFn Try.prog Try.f43 = some c43 := by kernel_rfl
theorem eqSa_ok : OkT Try.prog 43 (pureSp (eqR_S sh_Sa)) := by
  refine okT_eqR (OkΓT.cons eqWindow_ok (OkΓT.cons eqSelS_ok (OkΓT.nil _))) Try.func43 (by kernel_rfl) k43 ?_
  intro c hc hz
  obtain ⟨a0, a1, a2, a3, a4, a5, a6, a7, a8, a9, c10, rfl, hc10⟩ := sh_Sa_Fit hc
  simp only [szCs, szC] at hz
  simp only [fzCs, fzC]
  (dsimp only [c43, rO]; simp (maxSteps := 8000000) -implicitDefEqProofs (disch := omega) only [↓reduceIte, go_sem, eq_Window_at, eqC_at hc10 (by omega)])
  repeat' first
    | ((first | refine gdKT_deq (fun hg hG => ?_) (fun hg hG => ?_) | refine condKT_deq (fun hg hG => ?_) (fun hg hG => ?_)) <;> (try simp (maxSteps := 8000000) -implicitDefEqProofs (disch := omega) only [↓reduceIte, go_sem, hG, eq_Window_at, eqC_at hc10 (by omega)]) <;> clear hG)
    | ((first | refine gdKT_split (fun hg => ?_) (fun hg => ?_) | refine condKT_split (fun hg => ?_) (fun hg => ?_)) <;> (try simp (maxSteps := 8000000) -implicitDefEqProofs (disch := omega) only [↓reduceIte, go_sem, hg, eq_Window_at, eqC_at hc10 (by omega)]))
    | (refine endT_p (.inr rfl) (by simp (maxSteps := 8000000) -implicitDefEqProofs (disch := omega) only [↓reduceIte, go_sem, eq_Window_at, eqC_at hc10 (by omega)]; rfl) ?_; (first | exact vb_true (by omega) | exact vb_false (by omega) | exact vb_dec (by omega) | exact vi_eq (by omega) | rfl | (refine vi_eq ?_; simp_all; first | done | (intros; omega))))
    | exact endT_v (.inr rfl) (by simp (maxSteps := 8000000) -implicitDefEqProofs (disch := omega) only [↓reduceIte, go_sem, eq_Window_at, eqC_at hc10 (by omega)]; try rfl) (fun _ => rfl)
theorem sz_Sa_at {c10 : Cell} (hc10 : HasC sh_SelS c10) {k : Int} (hk : 0 ≤ k ∧ k ≤ 1048576) (hz : lnC c10 = true) (a0 : Int) (a1 : Int) (a2 : Int) (a3 : Bool) (a4 : Int) (a5 : Int) (a6 : Int) (a7 : Int) (a8 : Int) (a9 : Int) : szR_S sh_Sa [.agg [.p (.int .i64 a0), .p (.int .i64 a1), .p (.int .i64 a2), .p (.bool a3), .p (.int .i64 a4), .p (.int .i64 a5), .p (.int .i64 a6), .p (.int .i64 a7), .p (.int .i64 a8), .p (.int .i64 a9), fzC c10], .p (.int .i64 k)] = some (.p (.int .i64 (if ((szC c10 : Nat) : Int) ≤ k then k - (szC c10 : Nat) else -1)), []) := by
  have := szR_at (sh_Sa_mkHas hc10 a0 a1 a2 a3 a4 a5 a6 a7 a8 a9) hk (by simp only [lnCs, lnC, Bool.true_and, Bool.and_true, Bool.and_eq_true]; exact hz)
  simpa only [fzCs, fzC, szCs, szC, Nat.add_zero, Nat.zero_add, Nat.add_assoc] using this
-- laws.szSa
def c38 : AF := ⟨12,
 (.seq (.reg [rO 2 (.box 79 (.t 0)),
 rO 4 (.mv (.v (.int .i64 0)))])
 (.seq (.reg [rO 5 (.fa (.t 2) 10),
 rO 6 (.ld (.t 5)),
 rO 7 (.mv (.t 1)),
 rO 8 (.call 103 [(.t 6), (.t 7)]),
 rO 1 (.mv (.t 8))])
 (.seq (.seq (.reg [rO 9 (.mv (.t 1)),
 rO 10 (.bin .lss (.t 9) (.v (.int .i64 0)))])
 (.cond (.t 10) (.seq (.reg [rO 4 (.mv (.v (.int .i64 (-1))))])
 .ret)
 .skip))
 (.seq (.reg [rO 11 (.mv (.t 1)),
 rO 4 (.mv (.t 11))])
 .ret)))),
 [.t 4]⟩
theorem k38 : cFn Try.prog Try.f38 = some c38 := by kernel_rfl
theorem szSa_ok : OkT Try.prog 38 (pureSp (szR_S sh_Sa)) := by
  refine okT_szR (OkΓT.cons szSelS_ok (OkΓT.nil _)) Try.func38 (by kernel_rfl) k38 ?_
  intro c k hc h1 h2 hz
  obtain ⟨a0, a1, a2, a3, a4, a5, a6, a7, a8, a9, c10, rfl, hc10⟩ := sh_Sa_Has hc
  generalize hN : szCs _ = N at *
  simp only [szCs, szC, Nat.add_zero, Nat.zero_add] at hN
  simp only [lnCs, lnC, Bool.true_and, Bool.and_true, Bool.and_eq_true] at hz
  have wc10 := hz
  simp only [fzCs, fzC]
  have zc10 := szC_at (k := k) hc10 (by omega) wc10
  by_cases qc10 : (szC c10 : Int) ≤ k
  case neg =>
    rw [if_neg qc10] at zc10
    rw [if_neg (show ¬ _ by omega)]
    (dsimp only [c38, rO]; simp (maxSteps := 8000000) -implicitDefEqProofs (disch := omega) only [↓reduceIte, go_sem, zc10])
    repeat' first
      | ((first | refine gdKT_deq (fun hg hG => ?_) (fun hg hG => ?_) | refine condKT_deq (fun hg hG => ?_) (fun hg hG => ?_)) <;> (try simp (maxSteps := 8000000) -implicitDefEqProofs (disch := omega) only [↓reduceIte, go_sem, hG, zc10]) <;> clear hG)
      | ((first | refine gdKT_split (fun hg => ?_) (fun hg => ?_) | refine condKT_split (fun hg => ?_) (fun hg => ?_)) <;> (try simp (maxSteps := 8000000) -implicitDefEqProofs (disch := omega) only [↓reduceIte, go_sem, hg, zc10]))
      | (refine endT_p (.inr rfl) (by simp (maxSteps := 8000000) -implicitDefEqProofs (disch := omega) only [↓reduceIte, go_sem, zc10]; rfl) ?_; (first | exact vb_true (by omega) | exact vb_false (by omega) | exact vb_dec (by omega) | exact vi_eq (by omega) | rfl | (refine vi_eq ?_; simp_all; first | done | (intros; omega))))
      | exact endT_v (.inr rfl) (by simp (maxSteps := 8000000) -implicitDefEqProofs (disch := omega) only [↓reduceIte, go_sem, zc10]; try rfl) (fun _ => rfl)
  rw [if_pos qc10] at zc10
  rw [if_pos (show _ by omega), show k - (N : Int) = k - (szC c10 : Int) by omega]
  (dsimp only [c38, rO]; simp (maxSteps := 8000000) -implicitDefEqProofs (disch := omega) only [↓reduceIte, go_sem, zc10])
  repeat' first
    | ((first | refine gdKT_deq (fun hg hG => ?_) (fun hg hG => ?_) | refine condKT_deq (fun hg hG => ?_) (fun hg hG => ?_)) <;> (try simp (maxSteps := 8000000) -implicitDefEqProofs (disch := omega) only [↓reduceIte, go_sem, hG, zc10]) <;> clear hG)
    | ((first | refine gdKT_split (fun hg => ?_) (fun hg => ?_) | refine condKT_split (fun hg => ?_) (fun hg => ?_)) <;> (try simp (maxSteps := 8000000) -implicitDefEqProofs (disch := omega) only [↓reduceIte, go_sem, hg, zc10]))
    | (refine endT_p (.inr rfl) (by simp (maxSteps := 8000000) -implicitDefEqProofs (disch := omega) only [↓reduceIte, go_sem, zc10]; rfl) ?_; (first | exact vb_true (by omega) | exact vb_false (by omega) | exact vb_dec (by omega) | exact vi_eq (by omega) | rfl | (refine vi_eq ?_; simp_all; first | done | (intros; omega))))
    | exact endT_v (.inr rfl) (by simp (maxSteps := 8000000) -implicitDefEqProofs (disch := omega) only [↓reduceIte, go_sem, zc10]; try rfl) (fun _ => rfl)
-- laws.markSa
def c45 : AF := ⟨10,
 (.seq (.reg [rO 2 (.box 45 (.t 0)),
 rO 4 (.mv (.v (.int .i64 0)))])
 (.seq (.reg [rO 5 (.fa (.t 2) 10),
 rO 6 (.ld (.t 5)),
 rO 7 (.mv (.t 1)),
 rO 8 (.call 108 [(.t 6), (.t 7)]),
 rO 1 (.mv (.t 8))])
 (.seq (.reg [rO 9 (.mv (.t 1)),
 rO 4 (.mv (.t 9))])
 .ret))),
 [.t 4]⟩
theorem k45 : cFn Try.prog Try.f45 = some c45 := by kernel_rfl
theorem markSa_ok : OkT Try.prog 45 (mkR_Sp sh_Sa) := by
  refine okT_mkR (OkΓT.cons markSelS_ok (OkΓT.nil _)) Try.func45 (by kernel_rfl) k45 ?_
  intro c k hc h1 hz
  obtain ⟨a0, a1, a2, a3, a4, a5, a6, a7, a8, a9, c10, rfl, hc10⟩ := sh_Sa_Fit hc
  simp only [wtCs, wtC_v, Nat.zero_add, Nat.add_zero] at hz ⊢
  simp only [mkCs, mkC_v, wtC_v, nat0T, Int.add_zero]
  simp only [tvCs, tvC_v, tvC_nl, tvC_sl, nbC, Nat.add_zero, Nat.zero_add]
  generalize hN : nbCs _ = N
  have l0 : (bkCs 0 [.v (.int .i64 a0), .v (.int .i64 a1), .v (.int .i64 a2), .v (.bool a3), .v (.int .i64 a4), .v (.int .i64 a5), .v (.int .i64 a6), .v (.int .i64 a7), .v (.int .i64 a8), .v (.int .i64 a9), c10]).length = N := by rw [bkCs_len]; exact hN
  (dsimp only [c45, rO]; simp (maxSteps := 8000000) -implicitDefEqProofs (disch := omega) only [↓reduceIte, go_sem, l0, get_last l0])
  have m0 := fun X => mk_cell (A := [.v (.int .i64 a0), .v (.int .i64 a1), .v (.int .i64 a2), .v (.bool a3), .v (.int .i64 a4), .v (.int .i64 a5), .v (.int .i64 a6), .v (.int .i64 a7), .v (.int .i64 a8), .v (.int .i64 a9)]) (B := []) (G := [X]) (n := 0) (k := k) (by simp only [nbCs, nbC, mkC_nb] <;> omega) hc10 (by omega) (by omega)
  simp only [List.cons_append, List.nil_append, mkCs, mkC_v, wtCs, wtC_v, nat0T, Int.add_zero, Nat.add_zero, Nat.zero_add, tvCs, tvC_v, tvC_nl, tvC_sl, nbC, natAT, ← Int.add_assoc, mkC_tv, mkC_nb] at m0
  have l1 : (bkCs 0 [.v (.int .i64 a0), .v (.int .i64 a1), .v (.int .i64 a2), .v (.bool a3), .v (.int .i64 a4), .v (.int .i64 a5), .v (.int .i64 a6), .v (.int .i64 a7), .v (.int .i64 a8), .v (.int .i64 a9), (mkC c10 (k))]).length = N := by rw [bkCs_len, ← hN]; simp only [nbCs, mkC_nb]
  refine mutQ_call (by simp (maxSteps := 8000000) -implicitDefEqProofs (disch := omega) only [↓reduceIte, go_sem]; rfl) (by simp (maxSteps := 8000000) -implicitDefEqProofs (disch := omega) only [↓reduceIte, go_sem]) (m0 _) ?_
  simp (maxSteps := 8000000) -implicitDefEqProofs (disch := omega) only [↓reduceIte, go_sem, l1, get_last l1]
  exact endK_cells (.inr rfl) (by rw [← hN]; simp only [nbCs, mkC_nb]; omega) (by (simp (maxSteps := 8000000) -implicitDefEqProofs (disch := omega) only [↓reduceIte, go_sem, natAT, ← Int.add_assoc]) <;> rfl) rfl
def sh_SaS : Shp := .sl 45 sh_Sa
-- laws.toSaS
def c39 : AF := ⟨23,
 (.seq (.reg [rO 2 (.mv (.v (.slice none 0 0)))])
 (.seq (.reg [rO 5 (.mv (.t 0)),
 rO 6 (.len (.t 5)),
 rO 7 (.mkSl 45 11 104 [(.int .i64 0), (.int .i64 0), (.int .i64 0), (.bool false), (.int .i64 0), (.int .i64 0), (.int .i64 0), (.int .i64 0), (.int .i64 0), (.int .i64 0), (.slice none 0 0)] (.t 6) (.t 6)),
 rO 3 (.mv (.t 7))])
 (.seq (.seq (.reg [rO 4 (.mv (.v (.int .i64 0)))])
 (.block 0 (.loop (.seq (.seq (.reg [rO 8 (.mv (.t 4)),
 rO 9 (.mv (.t 0)),
 rO 10 (.len (.t 9)),
 rO 11 (.bin .lss (.t 8) (.t 10))])
 (.cond (.t 11) .skip
 (.exit 0)))
 (.seq (.block 1 (.reg [rO 14 (.mv (.t 3)),
 rO 15 (.mv (.t 4)),
 rO 16 (.mv (.t 0)),
 rO 17 (.mv (.t 4)),
 rO 18 (.ia 11 (.t 16) (.t 17)),
 rO 19 (.ldn 11 (.t 18)),
 rO 20 (.call 40 [(.t 19)]),
 rO 21 (.ia 11 (.t 14) (.t 15)),
 ⟨none, none, .st 11 (.t 21) (.t 20)⟩]))
 (.reg [rO 12 (.mv (.t 4)),
 rO 13 (.bin .add (.t 12) (.v (.int .i64 1))),
 rO 4 (.mv (.t 13))]))))))
 (.seq (.reg [rO 22 (.mv (.t 3)),
 rO 2 (.mv (.t 22))])
 .ret)))),
 [.t 2]⟩
theorem k39 : cFn Try.prog Try.f39 = some c39 := by kernel_rfl
theorem toSaS_ok : OkT Try.prog 39 (pureSp (toC_S sh_SaS)) := by
  refine okT_toC (OkΓT.cons toSa_ok (OkΓT.nil _)) Try.func39 (by kernel_rfl) k39 ?_
  intro c hc hz
  simp only [sh_SaS, HasC] at hc
  obtain ⟨rows, rfl, hr⟩ := hc
  simp only [szC] at hz
  have hlen : ∀ r ∈ rows, r.length = 11 := fun r hx => (hr r hx).len
  generalize hzz : (el [.p (.int .i64 0), .p (.int .i64 0), .p (.int .i64 0), .p (.bool false), .p (.int .i64 0), .p (.int .i64 0), .p (.int .i64 0), .p (.int .i64 0), .p (.int .i64 0), .p (.int .i64 0), .nl] : TV) = z0
  have hz1 : cellsT z0 = [.p (.int .i64 0), .p (.int .i64 0), .p (.int .i64 0), .p (.bool false), .p (.int .i64 0), .p (.int .i64 0), .p (.int .i64 0), .p (.int .i64 0), .p (.int .i64 0), .p (.int .i64 0), .nl] := by rw [← hzz]; rfl
  simp only [fzC, tvC_v, tvC_nl, tvC_sl, bkC]
  (dsimp only [c39, rO]; simp (maxSteps := 8000000) -implicitDefEqProofs (disch := omega) only [↓reduceIte, go_sem, hzz, mixR_zero 1 rows z0])
  refine awpT_loop (α := Nat) (fun i => ⟨slots [(0, .s (fzRs rows)), (3, .os 0 0 rows.length), (4, .p (.int .i64 i))], .cells 45 11 (mixR 1 rows z0 i) :: bkRs 1 (rows.take i)⟩)
    (fun i => i ≤ rows.length) (fun i => rows.length - i) 0 (Nat.zero_le _) (by simp only [List.take_zero, bkRs]; exact le_keep (Nat.zero_le _) (by simp (maxSteps := 8000000) -implicitDefEqProofs (disch := omega) only [↓reduceIte, go_sem, slotsIn])) ?_
  intro i hi
  simp (maxSteps := 8000000) -implicitDefEqProofs (disch := omega) only [↓reduceIte, go_sem, mixR_len 1 rows z0 hi]
  refine condKT_dec (fun hlt => ?_) (fun hge => ?_)
  · obtain ⟨r, hx⟩ := get_ex (l := rows) (i := i) (by omega)
    have hrr := hr r (List.mem_of_getElem? hx)
    have hzr := szRs_mem hx
    have hg := fzRs_get hx; have hm := mixR_get 1 (rows := rows) z0 (i := i) (by omega)
    have hs := mixR_set 1 z0 hx; have hb := bkRs_snoc 1 hx; have hn := bkRs_len 1 (rows.take i)
    obtain ⟨a0, a1, a2, a3, a4, a5, a6, a7, a8, a9, c10, rfl, hc10⟩ := sh_Sa_Has hrr
    simp only [szCs, szC] at hzr
    simp only [fzCs, fzC, tvCs, tvC_v, tvC_nl, tvC_sl, bkCs, bkC, nbC, nbCs, Nat.add_zero, List.append_nil, List.nil_append, el_one, el_two, Nat.add_comm 1 (nbRs _)] at hg hs hb
    simp (maxSteps := 8000000) -implicitDefEqProofs (disch := omega) only [↓reduceIte, go_sem, eq_true hlt, hg, hm, hs, hn, hz1, el_two, to_Sa_at hc10 (by omega)]
    refine loopKT_next (i + 1) (by omega) (by omega) ?_
    rw [hb]; refine (le_keep (Nat.zero_le _) ?_) <;> simp (maxSteps := 8000000) -implicitDefEqProofs (disch := omega) only [↓reduceIte, go_sem, slotsIn]
  · have hb : rows.take i = rows := List.take_of_length_le (by omega)
    have hm := mixR_full 1 (rows := rows) z0 (i := i) (by omega)
    simp (maxSteps := 8000000) -implicitDefEqProofs (disch := omega) only [↓reduceIte, go_sem, eq_false hge, hb, hm]
    refine joinK_here ?_
    simp (maxSteps := 8000000) -implicitDefEqProofs (disch := omega) only [↓reduceIte, go_sem]
    exact endT_same (.inr rfl) (by (simp (maxSteps := 8000000) -implicitDefEqProofs (disch := omega) only [↓reduceIte, go_sem]) <;> rfl) rfl
-- laws.eqSaS
def c42 : AF := ⟨27,
 (.seq (.reg [rO 4 (.mv (.v (.bool false)))])
 (.seq (.seq (.reg [rO 6 (.mv (.t 0)),
 rO 7 (.len (.t 6)),
 rO 8 (.mv (.t 1)),
 rO 9 (.len (.t 8)),
 rO 10 (.bin .neq (.t 7) (.t 9))])
 (.cond (.t 10) (.seq (.reg [rO 4 (.mv (.v (.bool false)))])
 .ret)
 .skip))
 (.seq (.seq (.reg [rO 5 (.mv (.v (.int .i64 0)))])
 (.block 0 (.loop (.seq (.seq (.reg [rO 11 (.mv (.t 5)),
 rO 12 (.mv (.t 0)),
 rO 13 (.len (.t 12)),
 rO 14 (.bin .lss (.t 11) (.t 13))])
 (.cond (.t 14) .skip
 (.exit 0)))
 (.seq (.block 1 (.seq (.drw [rO 17 (.mv (.t 0)),
 rO 18 (.mv (.t 5)),
 rO 19 (.ia 11 (.t 17) (.t 18)),
 rO 20 (.ldn 11 (.t 19)),
 rO 21 (.mv (.t 1)),
 rO 22 (.mv (.t 5)),
 rO 23 (.ia 11 (.t 21) (.t 22)),
 rO 24 (.ldn 11 (.t 23))] [rO 25 (.call 43 [(.t 20), (.t 24)]),
 rO 26 (.un .not (.t 25))])
 (.cond (.t 26) (.seq (.reg [rO 4 (.mv (.v (.bool false)))])
 .ret)
 .skip)))
 (.reg [rO 15 (.mv (.t 5)),
 rO 16 (.bin .add (.t 15) (.v (.int .i64 1))),
 rO 5 (.mv (.t 16))]))))))
 (.seq (.reg [rO 4 (.mv (.v (.bool true)))])
 .ret)))),
 [.t 4]⟩
theorem k42 : cFn Try.prog Try.f42 = some c42 := by kernel_rfl
theorem eqSaS_ok : OkT Try.prog 42 (pureSp (eqC_S sh_SaS)) := by
  refine okT_eqC (OkΓT.cons eqSa_ok (OkΓT.nil _)) Try.func42 (by kernel_rfl) k42 ?_
  intro c hc hz
  obtain ⟨rows, hf, hr, hsz, _⟩ := FitC.rows hc
  rw [hf]
  (dsimp only [c42, rO]; simp (maxSteps := 8000000) -implicitDefEqProofs (disch := omega) only [↓reduceIte, go_sem])
  refine awpT_loop (α := Nat) (fun i => ⟨slots [(0, .s (fzRs rows)), (1, .s (fzRs rows)), (5, .p (.int .i64 i))], []⟩) (fun i => i ≤ rows.length) (fun i => rows.length - i) 0 (Nat.zero_le _) (le_of [] (by simp (maxSteps := 8000000) -implicitDefEqProofs (disch := omega) only [↓reduceIte, go_sem]) (by simp (maxSteps := 8000000) -implicitDefEqProofs (disch := omega) only [↓reduceIte, go_sem]) (by decide) (by simp)) ?_
  intro i hi
  simp (maxSteps := 8000000) -implicitDefEqProofs (disch := omega) only [↓reduceIte, go_sem]
  refine condKT_dec (fun hlt => ?_) (fun hge => ?_)
  · obtain ⟨r, hx⟩ := get_ex (l := rows) (i := i) (by omega)
    have hrr := hr r (List.mem_of_getElem? hx)
    have hzr := szRs_mem hx
    have hg := fzRs_get hx
    obtain ⟨a0, a1, a2, a3, a4, a5, a6, a7, a8, a9, c10, rfl, hc10⟩ := sh_Sa_Fit hrr
    simp only [szCs, szC] at hzr
    simp only [fzCs, fzC, el_one, el_two] at hg
    simp (maxSteps := 8000000) -implicitDefEqProofs (disch := omega) only [↓reduceIte, go_sem, eq_true hlt, hg, eq_Sa_at hc10 (by omega)]
    refine loopKT_next (i + 1) (by omega) (by omega) ?_
    exact (le_of [] (by simp (maxSteps := 8000000) -implicitDefEqProofs (disch := omega) only [↓reduceIte, go_sem]) (by simp (maxSteps := 8000000) -implicitDefEqProofs (disch := omega) only [↓reduceIte, go_sem]) (by decide) (by simp))
  · simp (maxSteps := 8000000) -implicitDefEqProofs (disch := omega) only [↓reduceIte, go_sem, eq_false hge]
    refine joinK_here ?_
    simp (maxSteps := 8000000) -implicitDefEqProofs (disch := omega) only [↓reduceIte, go_sem]
    repeat' first
      | ((first | refine gdKT_deq (fun hg hG => ?_) (fun hg hG => ?_) | refine condKT_deq (fun hg hG => ?_) (fun hg hG => ?_)) <;> (try simp (maxSteps := 8000000) -implicitDefEqProofs (disch := omega) only [↓reduceIte, go_sem, hG]) <;> clear hG)
      | ((first | refine gdKT_split (fun hg => ?_) (fun hg => ?_) | refine condKT_split (fun hg => ?_) (fun hg => ?_)) <;> (try simp (maxSteps := 8000000) -implicitDefEqProofs (disch := omega) only [↓reduceIte, go_sem, hg]))
      | (refine endT_p (.inr rfl) (by simp (maxSteps := 8000000) -implicitDefEqProofs (disch := omega) only [↓reduceIte, go_sem]; rfl) ?_; (first | exact vb_true (by omega) | exact vb_false (by omega) | exact vb_dec (by omega) | exact vi_eq (by omega) | rfl | (refine vi_eq ?_; simp_all; first | done | (intros; omega))))
      | exact endT_v (.inr rfl) (by simp (maxSteps := 8000000) -implicitDefEqProofs (disch := omega) only [↓reduceIte, go_sem]; try rfl) (fun _ => rfl)
-- laws.szSaS
def c37 : AF := ⟨27,
 (.seq (.reg [rO 4 (.mv (.v (.int .i64 0)))])
 (.seq (.reg [rO 6 (.mv (.t 1)),
 rO 7 (.mv (.t 0)),
 rO 8 (.len (.t 7)),
 rO 9 (.bin .sub (.t 6) (.t 8)),
 rO 1 (.mv (.t 9))])
 (.seq (.seq (.reg [rO 10 (.mv (.t 1)),
 rO 11 (.bin .lss (.t 10) (.v (.int .i64 0)))])
 (.cond (.t 11) (.seq (.reg [rO 4 (.mv (.v (.int .i64 (-1))))])
 .ret)
 .skip))
 (.seq (.seq (.reg [rO 5 (.mv (.v (.int .i64 0)))])
 (.block 0 (.loop (.seq (.seq (.reg [rO 12 (.mv (.t 5)),
 rO 13 (.mv (.t 0)),
 rO 14 (.len (.t 13)),
 rO 15 (.bin .lss (.t 12) (.t 14))])
 (.cond (.t 15) .skip
 (.exit 0)))
 (.seq (.block 1 (.seq (.reg [rO 18 (.mv (.t 0)),
 rO 19 (.mv (.t 5)),
 rO 20 (.ia 11 (.t 18) (.t 19)),
 rO 21 (.ldn 11 (.t 20)),
 rO 22 (.mv (.t 1)),
 rO 23 (.call 38 [(.t 21), (.t 22)]),
 rO 1 (.mv (.t 23))])
 (.seq (.reg [rO 24 (.mv (.t 1)),
 rO 25 (.bin .lss (.t 24) (.v (.int .i64 0)))])
 (.cond (.t 25) (.seq (.reg [rO 4 (.mv (.v (.int .i64 (-1))))])
 .ret)
 .skip))))
 (.reg [rO 16 (.mv (.t 5)),
 rO 17 (.bin .add (.t 16) (.v (.int .i64 1))),
 rO 5 (.mv (.t 17))]))))))
 (.seq (.reg [rO 26 (.mv (.t 1)),
 rO 4 (.mv (.t 26))])
 .ret))))),
 [.t 4]⟩
theorem k37 : cFn Try.prog Try.f37 = some c37 := by kernel_rfl
theorem szSaS_ok : OkT Try.prog 37 (pureSp (szC_S sh_SaS)) := by
  refine okT_szC (OkΓT.cons szSa_ok (OkΓT.nil _)) Try.func37 (by kernel_rfl) k37 ?_
  intro c k hc h1 h2 hz
  simp only [sh_SaS, HasC] at hc
  obtain ⟨rows, rfl, hr⟩ := hc
  generalize hN : szC _ = N at *
  simp only [szC] at hN
  simp only [lnC, Bool.and_eq_true, decide_eq_true_eq] at hz
  obtain ⟨hz, hzr⟩ := hz
  simp only [fzC]
  by_cases q : (rows.length : Int) ≤ k
  case neg =>
    rw [if_neg (by omega)]
    (dsimp only [c37, rO]; simp (maxSteps := 8000000) -implicitDefEqProofs (disch := omega) only [↓reduceIte, go_sem])
    repeat' first
      | ((first | refine gdKT_deq (fun hg hG => ?_) (fun hg hG => ?_) | refine condKT_deq (fun hg hG => ?_) (fun hg hG => ?_)) <;> (try simp (maxSteps := 8000000) -implicitDefEqProofs (disch := omega) only [↓reduceIte, go_sem, hG]) <;> clear hG)
      | ((first | refine gdKT_split (fun hg => ?_) (fun hg => ?_) | refine condKT_split (fun hg => ?_) (fun hg => ?_)) <;> (try simp (maxSteps := 8000000) -implicitDefEqProofs (disch := omega) only [↓reduceIte, go_sem, hg]))
      | (refine endT_p (.inr rfl) (by simp (maxSteps := 8000000) -implicitDefEqProofs (disch := omega) only [↓reduceIte, go_sem]; rfl) ?_; (first | exact vb_true (by omega) | exact vb_false (by omega) | exact vb_dec (by omega) | exact vi_eq (by omega) | rfl | (refine vi_eq ?_; simp_all; first | done | (intros; omega))))
      | exact endT_v (.inr rfl) (by simp (maxSteps := 8000000) -implicitDefEqProofs (disch := omega) only [↓reduceIte, go_sem]; try rfl) (fun _ => rfl)
  (dsimp only [c37, rO]; simp (maxSteps := 8000000) -implicitDefEqProofs (disch := omega) only [↓reduceIte, go_sem, eq_false (show ¬ (k - (rows.length : Int) < 0) by omega)])
  refine awpT_loop (α := Nat) (fun i => ⟨slots [(0, .s (fzRs rows)), (1, .p (.int .i64 (k - (rows.length : Int) - (szRs (rows.take i) : Int)))), (5, .p (.int .i64 i))], []⟩) (fun i => i ≤ rows.length ∧ (rows.length : Int) + szRs (rows.take i) ≤ k) (fun i => rows.length - i) 0 ⟨Nat.zero_le _, by simp only [List.take_zero, szRs]; omega⟩ (by simp only [List.take_zero, szRs, nat0T, Int.sub_zero]; exact (le_of [] (by simp (maxSteps := 8000000) -implicitDefEqProofs (disch := omega) only [↓reduceIte, go_sem]) (by simp (maxSteps := 8000000) -implicitDefEqProofs (disch := omega) only [↓reduceIte, go_sem]) (by decide) (by simp))) ?_
  intro i ⟨hi, hk⟩
  simp (maxSteps := 8000000) -implicitDefEqProofs (disch := omega) only [↓reduceIte, go_sem]
  refine condKT_dec (fun hlt => ?_) (fun hge => ?_)
  · obtain ⟨r, hx⟩ := get_ex (l := rows) (i := i) (by omega)
    have hrr := hr r (List.mem_of_getElem? hx)
    have hln := lnRs_mem hzr hx
    have hzr := szRs_mem hx
    have hg := fzRs_get hx; have hsn := szRs_snoc hx
    obtain ⟨a0, a1, a2, a3, a4, a5, a6, a7, a8, a9, c10, rfl, hc10⟩ := sh_Sa_Has hrr
    simp only [lnCs, lnC, Bool.true_and, Bool.and_true, Bool.and_eq_true] at hln
    simp only [szCs, szC, Nat.add_zero, Nat.zero_add] at hzr hsn
    simp only [fzCs, fzC, el_one, el_two] at hg
    have hq := fun a0 a1 a2 a3 a4 a5 a6 a7 a8 a9 => sz_Sa_at hc10 (k := k - (rows.length : Int) - (szRs (rows.take i) : Int)) (by omega) hln a0 a1 a2 a3 a4 a5 a6 a7 a8 a9
    by_cases q2 : ((szC c10 : Nat) : Int) ≤ k - (rows.length : Int) - (szRs (rows.take i) : Int)
    · simp only [if_pos q2] at hq
      simp (maxSteps := 8000000) -implicitDefEqProofs (disch := omega) only [↓reduceIte, go_sem, eq_true hlt, hg, hq, eq_false (show ¬ (k - (rows.length : Int) - (szRs (rows.take i) : Int) - ((szC c10 : Nat) : Int) < 0) by omega)]
      refine loopKT_next (i + 1) ⟨by omega, by omega⟩ (by omega) ?_
      have hs2 : k - (rows.length : Int) - (szRs (rows.take i) : Int) - ((szC c10 : Nat) : Int) = k - (rows.length : Int) - (szRs (rows.take (i + 1)) : Int) := by omega
      exact (le_of [] (by simp (maxSteps := 8000000) -implicitDefEqProofs (disch := omega) only [↓reduceIte, go_sem, hs2]) (by simp (maxSteps := 8000000) -implicitDefEqProofs (disch := omega) only [↓reduceIte, go_sem, hs2]) (by decide) (by simp))
    · simp only [if_neg q2] at hq
      rw [if_neg (show ¬ _ by omega)]
      simp (maxSteps := 8000000) -implicitDefEqProofs (disch := omega) only [↓reduceIte, go_sem, eq_true hlt, hg, hq]
      repeat' first
        | ((first | refine gdKT_deq (fun hg hG => ?_) (fun hg hG => ?_) | refine condKT_deq (fun hg hG => ?_) (fun hg hG => ?_)) <;> (try simp (maxSteps := 8000000) -implicitDefEqProofs (disch := omega) only [↓reduceIte, go_sem, hG, eq_true hlt, hg, hq]) <;> clear hG)
        | ((first | refine gdKT_split (fun hg => ?_) (fun hg => ?_) | refine condKT_split (fun hg => ?_) (fun hg => ?_)) <;> (try simp (maxSteps := 8000000) -implicitDefEqProofs (disch := omega) only [↓reduceIte, go_sem, hg, eq_true hlt, hg, hq]))
        | (refine endT_p (.inr rfl) (by simp (maxSteps := 8000000) -implicitDefEqProofs (disch := omega) only [↓reduceIte, go_sem, eq_true hlt, hg, hq]; rfl) ?_; (first | exact vb_true (by omega) | exact vb_false (by omega) | exact vb_dec (by omega) | exact vi_eq (by omega) | rfl | (refine vi_eq ?_; simp_all; first | done | (intros; omega))))
        | exact endT_v (.inr rfl) (by simp (maxSteps := 8000000) -implicitDefEqProofs (disch := omega) only [↓reduceIte, go_sem, eq_true hlt, hg, hq]; try rfl) (fun _ => rfl)
  · have hb : rows.take i = rows := List.take_of_length_le (by omega)
    rw [hb] at hk
    rw [if_pos (show _ by omega), show k - (N : Int) = k - (rows.length : Int) - (szRs rows : Int) by omega]
    simp (maxSteps := 8000000) -implicitDefEqProofs (disch := omega) only [↓reduceIte, go_sem, eq_false hge, hb]
    refine joinK_here ?_
    simp (maxSteps := 8000000) -implicitDefEqProofs (disch := omega) only [↓reduceIte, go_sem]
    repeat' first
      | ((first | refine gdKT_deq (fun hg hG => ?_) (fun hg hG => ?_) | refine condKT_deq (fun hg hG => ?_) (fun hg hG => ?_)) <;> (try simp (maxSteps := 8000000) -implicitDefEqProofs (disch := omega) only [↓reduceIte, go_sem, hG]) <;> clear hG)
      | ((first | refine gdKT_split (fun hg => ?_) (fun hg => ?_) | refine condKT_split (fun hg => ?_) (fun hg => ?_)) <;> (try simp (maxSteps := 8000000) -implicitDefEqProofs (disch := omega) only [↓reduceIte, go_sem, hg]))
      | (refine endT_p (.inr rfl) (by simp (maxSteps := 8000000) -implicitDefEqProofs (disch := omega) only [↓reduceIte, go_sem]; rfl) ?_; (first | exact vb_true (by omega) | exact vb_false (by omega) | exact vb_dec (by omega) | exact vi_eq (by omega) | rfl | (refine vi_eq ?_; simp_all; first | done | (intros; omega))))
      | exact endT_v (.inr rfl) (by simp (maxSteps := 8000000) -implicitDefEqProofs (disch := omega) only [↓reduceIte, go_sem]; try rfl) (fun _ => rfl)
-- laws.heldSaS
def c109 : AF := ⟨116,
 (.seq (.reg [rO 4 (.mv (.v (.int .i64 0)))])
 (.seq (.seq (.reg [rO 5 (.mv (.v (.int .i64 0)))])
 (.block 0 (.loop (.seq (.seq (.reg [rO 6 (.mv (.t 5)),
 rO 7 (.mv (.t 0)),
 rO 8 (.len (.t 7)),
 rO 9 (.bin .lss (.t 6) (.t 8))])
 (.cond (.t 9) .skip
 (.exit 0)))
 (.seq (.block 1 (.seq (.seq (.reg [rO 12 (.mv (.t 0)),
 rO 13 (.mv (.t 5)),
 rO 14 (.ia 11 (.t 12) (.t 13)),
 rO 15 (.fa (.t 14) 0),
 rO 16 (.ld (.t 15)),
 rO 17 (.mv (.t 1)),
 rO 18 (.bin .neq (.t 16) (.t 17))])
 (.cond (.t 18) (.seq (.reg [rO 4 (.mv (.v (.int .i64 (-1))))])
 .ret)
 .skip))
 (.seq (.reg [rO 19 (.mv (.t 1)),
 rO 20 (.bin .add (.t 19) (.v (.int .i64 1))),
 rO 1 (.mv (.t 20))])
 (.seq (.seq (.reg [rO 21 (.mv (.t 0)),
 rO 22 (.mv (.t 5)),
 rO 23 (.ia 11 (.t 21) (.t 22)),
 rO 24 (.fa (.t 23) 1),
 rO 25 (.ld (.t 24)),
 rO 26 (.mv (.t 1)),
 rO 27 (.bin .neq (.t 25) (.t 26))])
 (.cond (.t 27) (.seq (.reg [rO 4 (.mv (.v (.int .i64 (-1))))])
 .ret)
 .skip))
 (.seq (.reg [rO 28 (.mv (.t 1)),
 rO 29 (.bin .add (.t 28) (.v (.int .i64 1))),
 rO 1 (.mv (.t 29))])
 (.seq (.seq (.reg [rO 30 (.mv (.t 0)),
 rO 31 (.mv (.t 5)),
 rO 32 (.ia 11 (.t 30) (.t 31)),
 rO 33 (.fa (.t 32) 2),
 rO 34 (.ld (.t 33)),
 rO 35 (.mv (.t 1)),
 rO 36 (.bin .neq (.t 34) (.t 35))])
 (.cond (.t 36) (.seq (.reg [rO 4 (.mv (.v (.int .i64 (-1))))])
 .ret)
 .skip))
 (.seq (.reg [rO 37 (.mv (.t 1)),
 rO 38 (.bin .add (.t 37) (.v (.int .i64 1))),
 rO 1 (.mv (.t 38))])
 (.seq (.seq (.reg [rO 39 (.mv (.t 0)),
 rO 40 (.mv (.t 5)),
 rO 41 (.ia 11 (.t 39) (.t 40)),
 rO 42 (.fa (.t 41) 3),
 rO 43 (.ld (.t 42)),
 rO 44 (.mv (.t 1)),
 rO 45 (.bin .rem (.t 44) (.v (.int .i64 3))),
 rO 46 (.bin .eql (.t 45) (.v (.int .i64 0))),
 rO 47 (.eqB true (.t 43) (.t 46))])
 (.cond (.t 47) (.seq (.reg [rO 4 (.mv (.v (.int .i64 (-1))))])
 .ret)
 .skip))
 (.seq (.reg [rO 48 (.mv (.t 1)),
 rO 49 (.bin .add (.t 48) (.v (.int .i64 1))),
 rO 1 (.mv (.t 49))])
 (.seq (.seq (.reg [rO 50 (.mv (.t 0)),
 rO 51 (.mv (.t 5)),
 rO 52 (.ia 11 (.t 50) (.t 51)),
 rO 53 (.fa (.t 52) 4),
 rO 54 (.ld (.t 53)),
 rO 55 (.mv (.t 1)),
 rO 56 (.bin .neq (.t 54) (.t 55))])
 (.cond (.t 56) (.seq (.reg [rO 4 (.mv (.v (.int .i64 (-1))))])
 .ret)
 .skip))
 (.seq (.reg [rO 57 (.mv (.t 1)),
 rO 58 (.bin .add (.t 57) (.v (.int .i64 1))),
 rO 1 (.mv (.t 58))])
 (.seq (.seq (.reg [rO 59 (.mv (.t 0)),
 rO 60 (.mv (.t 5)),
 rO 61 (.ia 11 (.t 59) (.t 60)),
 rO 62 (.fa (.t 61) 5),
 rO 63 (.fa (.t 62) 0),
 rO 64 (.ld (.t 63)),
 rO 65 (.mv (.t 1)),
 rO 66 (.bin .neq (.t 64) (.t 65))])
 (.cond (.t 66) (.seq (.reg [rO 4 (.mv (.v (.int .i64 (-1))))])
 .ret)
 .skip))
 (.seq (.reg [rO 67 (.mv (.t 1)),
 rO 68 (.bin .add (.t 67) (.v (.int .i64 1))),
 rO 1 (.mv (.t 68))])
 (.seq (.seq (.reg [rO 69 (.mv (.t 0)),
 rO 70 (.mv (.t 5)),
 rO 71 (.ia 11 (.t 69) (.t 70)),
 rO 72 (.fa (.t 71) 5),
 rO 73 (.fa (.t 72) 1),
 rO 74 (.ld (.t 73)),
 rO 75 (.mv (.t 1)),
 rO 76 (.bin .neq (.t 74) (.t 75))])
 (.cond (.t 76) (.seq (.reg [rO 4 (.mv (.v (.int .i64 (-1))))])
 .ret)
 .skip))
 (.seq (.reg [rO 77 (.mv (.t 1)),
 rO 78 (.bin .add (.t 77) (.v (.int .i64 1))),
 rO 1 (.mv (.t 78))])
 (.seq (.seq (.reg [rO 79 (.mv (.t 0)),
 rO 80 (.mv (.t 5)),
 rO 81 (.ia 11 (.t 79) (.t 80)),
 rO 82 (.fa (.t 81) 7),
 rO 83 (.ld (.t 82)),
 rO 84 (.mv (.t 1)),
 rO 85 (.bin .neq (.t 83) (.t 84))])
 (.cond (.t 85) (.seq (.reg [rO 4 (.mv (.v (.int .i64 (-1))))])
 .ret)
 .skip))
 (.seq (.reg [rO 86 (.mv (.t 1)),
 rO 87 (.bin .add (.t 86) (.v (.int .i64 1))),
 rO 1 (.mv (.t 87))])
 (.seq (.seq (.reg [rO 88 (.mv (.t 0)),
 rO 89 (.mv (.t 5)),
 rO 90 (.ia 11 (.t 88) (.t 89)),
 rO 91 (.fa (.t 90) 8),
 rO 92 (.ld (.t 91)),
 rO 93 (.mv (.t 1)),
 rO 94 (.bin .neq (.t 92) (.t 93))])
 (.cond (.t 94) (.seq (.reg [rO 4 (.mv (.v (.int .i64 (-1))))])
 .ret)
 .skip))
 (.seq (.reg [rO 95 (.mv (.t 1)),
 rO 96 (.bin .add (.t 95) (.v (.int .i64 1))),
 rO 1 (.mv (.t 96))])
 (.seq (.seq (.reg [rO 97 (.mv (.t 0)),
 rO 98 (.mv (.t 5)),
 rO 99 (.ia 11 (.t 97) (.t 98)),
 rO 100 (.fa (.t 99) 9),
 rO 101 (.ld (.t 100)),
 rO 102 (.mv (.t 1)),
 rO 103 (.bin .neq (.t 101) (.t 102))])
 (.cond (.t 103) (.seq (.reg [rO 4 (.mv (.v (.int .i64 (-1))))])
 .ret)
 .skip))
 (.seq (.reg [rO 104 (.mv (.t 1)),
 rO 105 (.bin .add (.t 104) (.v (.int .i64 1))),
 rO 1 (.mv (.t 105))])
 (.seq (.reg [rO 106 (.mv (.t 0)),
 rO 107 (.mv (.t 5)),
 rO 108 (.ia 11 (.t 106) (.t 107)),
 rO 109 (.fa (.t 108) 10),
 rO 110 (.ld (.t 109)),
 rO 111 (.mv (.t 1)),
 rO 112 (.call 143 [(.t 110), (.t 111)]),
 rO 1 (.mv (.t 112))])
 (.seq (.reg [rO 113 (.mv (.t 1)),
 rO 114 (.bin .lss (.t 113) (.v (.int .i64 0)))])
 (.cond (.t 114) (.seq (.reg [rO 4 (.mv (.v (.int .i64 (-1))))])
 .ret)
 .skip))))))))))))))))))))))))
 (.reg [rO 10 (.mv (.t 5)),
 rO 11 (.bin .add (.t 10) (.v (.int .i64 1))),
 rO 5 (.mv (.t 11))]))))))
 (.seq (.reg [rO 115 (.mv (.t 1)),
 rO 4 (.mv (.t 115))])
 .ret))),
 [.t 4]⟩
theorem k109 : cFn Try.prog Try.f109 = some c109 := by kernel_rfl
theorem heldSaS_ok : OkT Try.prog 109 (pureSp (hdC_S sh_SaS)) := by
  refine okT_hdC (OkΓT.cons heldSelS_ok (OkΓT.nil _)) Try.func109 (by kernel_rfl) k109 ?_
  intro c k hc h1 hz
  obtain ⟨rows, _, hr, _, hwt, hf⟩ := FitC.rows hc
  rw [hwt] at hz ⊢; rw [hf]
  have hlw : rows.length ≤ wtRs rows := wtRs_rows fun r hx => by
    have hrr := hr r hx
    obtain ⟨a0, a1, a2, a3, a4, a5, a6, a7, a8, a9, c10, rfl, hc10⟩ := sh_Sa_Fit hrr
    simp only [wtIs, wtI]; omega
  (dsimp only [c109, rO]; simp (maxSteps := 8000000) -implicitDefEqProofs (disch := omega) only [↓reduceIte, go_sem])
  refine awpT_loop (α := Nat) (fun i => ⟨slots [(0, .s (fzRs (mkRs rows k))), (1, .p (.int .i64 (k + (wtRs (rows.take i) : Int)))), (5, .p (.int .i64 i))], []⟩) (fun i => i ≤ rows.length) (fun i => rows.length - i) 0 (Nat.zero_le _) (by simp only [List.take_zero, wtRs, nat0T, Int.add_zero]; exact (le_of [] (by simp (maxSteps := 8000000) -implicitDefEqProofs (disch := omega) only [↓reduceIte, go_sem]) (by simp (maxSteps := 8000000) -implicitDefEqProofs (disch := omega) only [↓reduceIte, go_sem]) (by decide) (by simp))) ?_
  intro i hi
  simp (maxSteps := 8000000) -implicitDefEqProofs (disch := omega) only [↓reduceIte, go_sem]
  refine condKT_dec (fun hlt => ?_) (fun hge => ?_)
  · obtain ⟨r, hx⟩ := get_ex (l := rows) (i := i) (by omega)
    have hrr := hr r (List.mem_of_getElem? hx)
    have hwr := wtRs_mem hx; have hsn := wtRs_snoc hx
    have hg := fzRs_get (mkRs_get (k := k) hx)
    generalize hm : k + (wtRs (rows.take i) : Int) = m at *
    obtain ⟨a0, a1, a2, a3, a4, a5, a6, a7, a8, a9, c10, rfl, hc10⟩ := sh_Sa_Fit hrr
    simp only [wtIs, wtI, Nat.add_zero] at hwr hsn
    have hmk_c10 := FitC.mk hc10
    simp only [hmk_c10.1] at hwr hsn
    simp only [mkIs, mkI, mkV, wtI, nat1T, fzCs, fzC, el_one, el_two, hmk_c10.1, hmk_c10.2] at hg
    simp only [isT3] at hg
    simp (maxSteps := 8000000) -implicitDefEqProofs (disch := omega) only [↓reduceIte, go_sem, eq_true hlt, hg, dec_self, Bool.not_true, not_true, decide_false, hdC_at hc10 (show 0 ≤ m + 1 + 1 + 1 + 1 + 1 + 1 + 1 + 1 + 1 + 1 by omega) (by omega)]
    simp (maxSteps := 8000000) -implicitDefEqProofs (disch := omega) only [↓reduceIte, go_sem, eq_false (show ¬ (m + 1 + 1 + 1 + 1 + 1 + 1 + 1 + 1 + 1 + 1 + (wtC c10 : Int) < 0) by omega)]
    refine loopKT_next (i + 1) (by omega) (by omega) ?_
    have hs2 : k + (wtRs (rows.take (i + 1)) : Int) = m + 1 + 1 + 1 + 1 + 1 + 1 + 1 + 1 + 1 + 1 + (wtC c10 : Int) := by rw [hsn]; omega
    exact (le_of [] (by simp (maxSteps := 8000000) -implicitDefEqProofs (disch := omega) only [↓reduceIte, go_sem, hs2]) (by simp (maxSteps := 8000000) -implicitDefEqProofs (disch := omega) only [↓reduceIte, go_sem, hs2]) (by decide) (by simp))
  · have hb : rows.take i = rows := List.take_of_length_le (by omega)
    simp (maxSteps := 8000000) -implicitDefEqProofs (disch := omega) only [↓reduceIte, go_sem, eq_false hge, hb]
    refine joinK_here ?_
    simp (maxSteps := 8000000) -implicitDefEqProofs (disch := omega) only [↓reduceIte, go_sem]
    repeat' first
      | ((first | refine gdKT_deq (fun hg hG => ?_) (fun hg hG => ?_) | refine condKT_deq (fun hg hG => ?_) (fun hg hG => ?_)) <;> (try simp (maxSteps := 8000000) -implicitDefEqProofs (disch := omega) only [↓reduceIte, go_sem, hG]) <;> clear hG)
      | ((first | refine gdKT_split (fun hg => ?_) (fun hg => ?_) | refine condKT_split (fun hg => ?_) (fun hg => ?_)) <;> (try simp (maxSteps := 8000000) -implicitDefEqProofs (disch := omega) only [↓reduceIte, go_sem, hg]))
      | (refine endT_p (.inr rfl) (by simp (maxSteps := 8000000) -implicitDefEqProofs (disch := omega) only [↓reduceIte, go_sem]; rfl) ?_; (first | exact vb_true (by omega) | exact vb_false (by omega) | exact vb_dec (by omega) | exact vi_eq (by omega) | rfl | (refine vi_eq ?_; simp_all; first | done | (intros; omega))))
      | exact endT_v (.inr rfl) (by simp (maxSteps := 8000000) -implicitDefEqProofs (disch := omega) only [↓reduceIte, go_sem]; try rfl) (fun _ => rfl)
-- laws.markSaS
def c44 : AF := ⟨94,
 (.seq (.reg [rO 4 (.mv (.v (.int .i64 0)))])
 (.seq (.seq (.reg [rO 5 (.mv (.v (.int .i64 0)))])
 (.block 0 (.loop (.seq (.seq (.reg [rO 6 (.mv (.t 5)),
 rO 7 (.mv (.t 0)),
 rO 8 (.len (.t 7)),
 rO 9 (.bin .lss (.t 6) (.t 8))])
 (.cond (.t 9) .skip
 (.exit 0)))
 (.seq (.block 1 (.seq (.reg [rO 12 (.mv (.t 0)),
 rO 13 (.mv (.t 5)),
 rO 14 (.mv (.t 1)),
 rO 15 (.ia 11 (.t 12) (.t 13)),
 rO 16 (.fa (.t 15) 0),
 ⟨none, none, .st 1 (.t 16) (.t 14)⟩])
 (.seq (.reg [rO 17 (.mv (.t 1)),
 rO 18 (.bin .add (.t 17) (.v (.int .i64 1))),
 rO 1 (.mv (.t 18))])
 (.seq (.reg [rO 19 (.mv (.t 0)),
 rO 20 (.mv (.t 5)),
 rO 21 (.mv (.t 1)),
 rO 22 (.ia 11 (.t 19) (.t 20)),
 rO 23 (.fa (.t 22) 1),
 ⟨none, none, .st 1 (.t 23) (.t 21)⟩])
 (.seq (.reg [rO 24 (.mv (.t 1)),
 rO 25 (.bin .add (.t 24) (.v (.int .i64 1))),
 rO 1 (.mv (.t 25))])
 (.seq (.reg [rO 26 (.mv (.t 0)),
 rO 27 (.mv (.t 5)),
 rO 28 (.mv (.t 1)),
 rO 29 (.ia 11 (.t 26) (.t 27)),
 rO 30 (.fa (.t 29) 2),
 ⟨none, none, .st 1 (.t 30) (.t 28)⟩])
 (.seq (.reg [rO 31 (.mv (.t 1)),
 rO 32 (.bin .add (.t 31) (.v (.int .i64 1))),
 rO 1 (.mv (.t 32))])
 (.seq (.reg [rO 33 (.mv (.t 0)),
 rO 34 (.mv (.t 5)),
 rO 35 (.mv (.t 1)),
 rO 36 (.bin .rem (.t 35) (.v (.int .i64 3))),
 rO 37 (.bin .eql (.t 36) (.v (.int .i64 0))),
 rO 38 (.ia 11 (.t 33) (.t 34)),
 rO 39 (.fa (.t 38) 3),
 ⟨none, none, .st 1 (.t 39) (.t 37)⟩])
 (.seq (.reg [rO 40 (.mv (.t 1)),
 rO 41 (.bin .add (.t 40) (.v (.int .i64 1))),
 rO 1 (.mv (.t 41))])
 (.seq (.reg [rO 42 (.mv (.t 0)),
 rO 43 (.mv (.t 5)),
 rO 44 (.mv (.t 1)),
 rO 45 (.ia 11 (.t 42) (.t 43)),
 rO 46 (.fa (.t 45) 4),
 ⟨none, none, .st 1 (.t 46) (.t 44)⟩])
 (.seq (.reg [rO 47 (.mv (.t 1)),
 rO 48 (.bin .add (.t 47) (.v (.int .i64 1))),
 rO 1 (.mv (.t 48))])
 (.seq (.reg [rO 49 (.mv (.t 0)),
 rO 50 (.mv (.t 5)),
 rO 51 (.mv (.t 1)),
 rO 52 (.ia 11 (.t 49) (.t 50)),
 rO 53 (.fa (.t 52) 5),
 rO 54 (.fa (.t 53) 0),
 ⟨none, none, .st 1 (.t 54) (.t 51)⟩])
 (.seq (.reg [rO 55 (.mv (.t 1)),
 rO 56 (.bin .add (.t 55) (.v (.int .i64 1))),
 rO 1 (.mv (.t 56))])
 (.seq (.reg [rO 57 (.mv (.t 0)),
 rO 58 (.mv (.t 5)),
 rO 59 (.mv (.t 1)),
 rO 60 (.ia 11 (.t 57) (.t 58)),
 rO 61 (.fa (.t 60) 5),
 rO 62 (.fa (.t 61) 1),
 ⟨none, none, .st 1 (.t 62) (.t 59)⟩])
 (.seq (.reg [rO 63 (.mv (.t 1)),
 rO 64 (.bin .add (.t 63) (.v (.int .i64 1))),
 rO 1 (.mv (.t 64))])
 (.seq (.reg [rO 65 (.mv (.t 0)),
 rO 66 (.mv (.t 5)),
 rO 67 (.mv (.t 1)),
 rO 68 (.ia 11 (.t 65) (.t 66)),
 rO 69 (.fa (.t 68) 7),
 ⟨none, none, .st 1 (.t 69) (.t 67)⟩])
 (.seq (.reg [rO 70 (.mv (.t 1)),
 rO 71 (.bin .add (.t 70) (.v (.int .i64 1))),
 rO 1 (.mv (.t 71))])
 (.seq (.reg [rO 72 (.mv (.t 0)),
 rO 73 (.mv (.t 5)),
 rO 74 (.mv (.t 1)),
 rO 75 (.ia 11 (.t 72) (.t 73)),
 rO 76 (.fa (.t 75) 8),
 ⟨none, none, .st 1 (.t 76) (.t 74)⟩])
 (.seq (.reg [rO 77 (.mv (.t 1)),
 rO 78 (.bin .add (.t 77) (.v (.int .i64 1))),
 rO 1 (.mv (.t 78))])
 (.seq (.reg [rO 79 (.mv (.t 0)),
 rO 80 (.mv (.t 5)),
 rO 81 (.mv (.t 1)),
 rO 82 (.ia 11 (.t 79) (.t 80)),
 rO 83 (.fa (.t 82) 9),
 ⟨none, none, .st 1 (.t 83) (.t 81)⟩])
 (.seq (.reg [rO 84 (.mv (.t 1)),
 rO 85 (.bin .add (.t 84) (.v (.int .i64 1))),
 rO 1 (.mv (.t 85))])
 (.reg [rO 86 (.mv (.t 0)),
 rO 87 (.mv (.t 5)),
 rO 88 (.ia 11 (.t 86) (.t 87)),
 rO 89 (.fa (.t 88) 10),
 rO 90 (.ld (.t 89)),
 rO 91 (.mv (.t 1)),
 rO 92 (.call 108 [(.t 90), (.t 91)]),
 rO 1 (.mv (.t 92))]))))))))))))))))))))))
 (.reg [rO 10 (.mv (.t 5)),
 rO 11 (.bin .add (.t 10) (.v (.int .i64 1))),
 rO 5 (.mv (.t 11))]))))))
 (.seq (.reg [rO 93 (.mv (.t 1)),
 rO 4 (.mv (.t 93))])
 .ret))),
 [.t 4]⟩
theorem k44 : cFn Try.prog Try.f44 = some c44 := by kernel_rfl
theorem markSaS_ok : OkT Try.prog 44 (mkC_Sp sh_SaS) := by
  refine okT_mkC (OkΓT.cons markSelS_ok (OkΓT.nil _)) Try.func44 (by kernel_rfl) k44 ?_
  intro c k hc h1 hz
  simp only [sh_SaS, FitC] at hc
  rcases hc with rfl | ⟨z, rows, rfl, hz0, hr⟩
  · simp only [wtC, mkC, nbC, tvC_v, tvC_nl, tvC_sl, bkC, nat0T, Int.add_zero] at *
    (dsimp only [c44, rO]; simp (maxSteps := 8000000) -implicitDefEqProofs (disch := omega) only [↓reduceIte, go_sem])
    refine awpT_loop (α := Unit) (fun _ => ⟨slots [(0, .nl), (1, .p (.int .i64 k)), (5, .p (.int .i64 0))], []⟩) (fun _ => True) (fun _ => 0) () trivial (le_keep (Nat.zero_le _) (by simp (maxSteps := 8000000) -implicitDefEqProofs (disch := omega) only [↓reduceIte, go_sem, slotsIn])) ?_
    intro _ _
    simp (maxSteps := 8000000) -implicitDefEqProofs (disch := omega) only [↓reduceIte, go_sem]
    refine joinK_at _ (le_same _ _ (Nat.zero_le _)) ?_
    simp (maxSteps := 8000000) -implicitDefEqProofs (disch := omega) only [↓reduceIte, go_sem]
    exact endK_same (.inr rfl) (Nat.zero_le _) (by simp (maxSteps := 8000000) -implicitDefEqProofs (disch := omega) only [↓reduceIte, go_sem]) rfl
  · simp only [wtC] at hz ⊢
    have hlw : rows.length ≤ wtRs rows := wtRs_rows fun r hx => by
      have hrr := hr r hx
      obtain ⟨a0, a1, a2, a3, a4, a5, a6, a7, a8, a9, c10, rfl, hc10⟩ := sh_Sa_Fit hrr
      simp only [wtIs, wtI]; omega
    simp only [tvC_v, tvC_nl, tvC_sl, bkC, mkC, Nat.zero_add]
    generalize hnb : nbC _ = nb
    simp only [nbC] at hnb
    have hnb2 : ∀ i, nb = (bkRs 1 (mkAt rows k i)).length + 1 := fun i => by
      have := mkRs_nb (rows.take i) k; have h2 := nbRs_app (rows.take i) (rows.drop i)
      rw [List.take_append_drop] at h2; rw [bkRs_len, mkAt, nbRs_app]; omega
    (dsimp only [c44, rO]; simp (maxSteps := 8000000) -implicitDefEqProofs (disch := omega) only [↓reduceIte, go_sem])
    refine awpT_loop (α := Nat) (fun i => ⟨slots [(0, .os 0 0 rows.length), (1, .p (.int .i64 (k + (wtRs (rows.take i) : Int)))), (5, .p (.int .i64 i))], .cells 45 z (tvRs 1 (mkAt rows k i)) :: bkRs 1 (mkAt rows k i)⟩)
      (fun i => i ≤ rows.length) (fun i => rows.length - i) 0 (Nat.zero_le _) (by simp only [mkAt_zero, List.take_zero, wtRs, nat0T, Int.add_zero]; exact le_keep (by have := hnb2 0; rw [mkAt_zero] at this; rw [List.length_cons]; omega) (by simp (maxSteps := 8000000) -implicitDefEqProofs (disch := omega) only [↓reduceIte, go_sem, slotsIn])) ?_
    intro i hi
    have hl1 : (tvRs 1 (mkAt rows k i)).length = rows.length := by rw [tvRs_len, mkAt_len]
    simp (maxSteps := 8000000) -implicitDefEqProofs (disch := omega) only [↓reduceIte, go_sem, hl1]
    refine condKT_dec (fun hlt => ?_) (fun hge => ?_)
    · obtain ⟨r, hx⟩ := get_ex (l := rows) (i := i) (by omega)
      obtain rfl : z = 11 := by rcases hz0 with h | h; (rw [h] at hx; simp at hx); exact h
      have hrr := hr r (List.mem_of_getElem? hx)
      have hwr := wtRs_mem hx; have hsn := wtRs_snoc hx
      have hg := mkAt_get 1 (k := k) hx; have hs := mkAt_set 1 (k := k) hx
      have hb1 := mkAt_bk 1 (k := k) hx; have hb2 := mkAt_bkn 1 (k := k) hx
      generalize hm : k + (wtRs (rows.take i) : Int) = m at *
      obtain ⟨a0, a1, a2, a3, a4, a5, a6, a7, a8, a9, c10, rfl, hc10⟩ := sh_Sa_Fit hrr
      simp only [wtIs, wtI, Nat.add_zero] at hwr hsn
      have hmk_c10 := FitC.mk hc10
      simp only [hmk_c10.1] at hwr hsn
      simp only [mkIs, mkI, mkV, wtI, nat1T, tvCs, tvC_v, tvC_nl, tvC_sl, nbC, Nat.add_zero, mkC_tv, el_one, el_two, hmk_c10.1, hmk_c10.2] at hg hs
      simp only [isT3] at hs
      simp only [mkIs, mkI, mkV, wtI, nat1T, bkCs, bkC, nbCs, nbC, Nat.add_zero, Nat.zero_add, List.nil_append, List.append_nil, hmk_c10.1, hmk_c10.2] at hb1 hb2
      simp (maxSteps := 8000000) -implicitDefEqProofs (disch := omega) only [↓reduceIte, go_sem, hl1, hg, List.getElem?_set_self, List.set_set]
      have m1 := fun X => mkC_seg (A := X :: bkRs 1 (mkRs (rows.take i) k)) (B := bkRs (1 + nbRs (rows.take i) + nbC c10) (rows.drop (i + 1))) (n := 1 + nbRs (rows.take i)) (k := m + 1 + 1 + 1 + 1 + 1 + 1 + 1 + 1 + 1 + 1) (by rw [List.length_cons, bkRs_len, mkRs_nb]; omega) hc10 (by omega) (by omega)
      simp only [List.cons_append, ← hb1, ← hb2] at m1
      refine mutQ_call (by simp (maxSteps := 8000000) -implicitDefEqProofs (disch := omega) only [↓reduceIte, go_sem]; rfl) (by simp (maxSteps := 8000000) -implicitDefEqProofs (disch := omega) only [↓reduceIte, go_sem]) (m1 _) ?_
      simp (maxSteps := 8000000) -implicitDefEqProofs (disch := omega) only [↓reduceIte, go_sem]
      refine loopKT_next (i + 1) (by omega) (by omega) ?_
      have hs2 : k + (wtRs (rows.take (i + 1)) : Int) = m + 1 + 1 + 1 + 1 + 1 + 1 + 1 + 1 + 1 + 1 + (wtC c10 : Int) := by rw [hsn]; omega
      rw [hs2, ← hs]
      exact le_keep (by have := hnb2 (i + 1); rw [List.length_cons]; omega) (by simp (maxSteps := 8000000) -implicitDefEqProofs (disch := omega) only [↓reduceIte, go_sem, slotsIn])
    · have hb : rows.take i = rows := List.take_of_length_le (by omega)
      have hmf := mkAt_full (k := k) (show rows.length ≤ i by omega)
      have hnb3 := hnb2 i; rw [hmf] at hnb3
      simp (maxSteps := 8000000) -implicitDefEqProofs (disch := omega) only [↓reduceIte, go_sem, eq_false hge, hb, hmf]
      refine joinK_at _ (le_same _ _ (by show nb ≤ List.length (_ :: _); rw [List.length_cons]; omega)) ?_
      simp (maxSteps := 8000000) -implicitDefEqProofs (disch := omega) only [↓reduceIte, go_sem]
      exact endK_same (.inr rfl) (by rw [List.length_cons]; omega) (by simp (maxSteps := 8000000) -implicitDefEqProofs (disch := omega) only [↓reduceIte, go_sem]) rfl
/-! SasResult -/
def sh_SasResult : List Shp := [.i .i64, sh_SaS]
theorem sh_SasResult_Has {cs : List Cell} (h : HasR sh_SasResult cs) : ∃ (a0 : Int) (c1 : Cell), cs = [.v (.int .i64 a0), c1] ∧ HasC sh_SaS c1 := by
  obtain ⟨_, _, rfl, ⟨a0, rfl, _⟩, c1, _, rfl, hc1, h⟩ := h
  simp only [HasR] at h; subst h
  exact ⟨a0, c1, rfl, hc1⟩
theorem sh_SasResult_mkHas {c1 : Cell} (hc1 : HasC sh_SaS c1) (a0 : Int) : HasR sh_SasResult [.v (.int .i64 a0), c1] := by
  exact ⟨_, _, rfl, ⟨_, rfl, fun h => by cases h⟩, _, _, rfl, hc1, rfl⟩
theorem sh_SasResult_Fit {cs : List Cell} (h : FitR sh_SasResult cs) : ∃ (a0 : Int) (c1 : Cell), cs = [.v (.int .i64 a0), c1] ∧ FitC sh_SaS c1 := by
  obtain ⟨_, _, rfl, ⟨a0, rfl⟩, c1, _, rfl, hc1, h⟩ := h
  simp only [FitR] at h; subst h
  exact ⟨a0, c1, rfl, hc1⟩
theorem sh_SasResult_mkFit {c1 : Cell} (hc1 : FitC sh_SaS c1) (a0 : Int) : FitR sh_SasResult [.v (.int .i64 a0), c1] := by
  exact ⟨_, _, rfl, ⟨_, rfl⟩, _, _, rfl, hc1, rfl⟩
theorem eq_SasResult_at {c1 : Cell} (hc1 : FitC sh_SaS c1) (hz : szC c1 ≤ 1099511627776) (a0 : Int) : eqR_S sh_SasResult [.agg [.p (.int .i64 a0), fzC c1], .agg [.p (.int .i64 a0), fzC c1]] = some (.p (.bool true), []) := by
  exact eqR_at (sh_SasResult_mkFit hc1 a0) (by simp only [szCs, szC]; omega)
-- laws.eqSasResult
def c41 : AF := ⟨16,
 (.seq (.reg [rO 2 (.box 35 (.t 0)),
 rO 3 (.box 35 (.t 1)),
 rO 4 (.mv (.v (.bool false)))])
 (.seq (.seq (.reg [rO 5 (.fa (.t 2) 0),
 rO 6 (.ld (.t 5)),
 rO 7 (.fa (.t 3) 0),
 rO 8 (.ld (.t 7)),
 rO 9 (.bin .neq (.t 6) (.t 8))])
 (.cond (.t 9) (.seq (.reg [rO 4 (.mv (.v (.bool false)))])
 .ret)
 .skip))
 (.seq (.seq (.reg [rO 10 (.fa (.t 2) 1),
 rO 11 (.ld (.t 10)),
 rO 12 (.fa (.t 3) 1),
 rO 13 (.ld (.t 12)),
 rO 14 (.call 42 [(.t 11), (.t 13)]),
 rO 15 (.un .not (.t 14))])
 (.cond (.t 15) (.seq (.reg [rO 4 (.mv (.v (.bool false)))])
 .ret)
 .skip))
 (.seq (.reg [rO 4 (.mv (.v (.bool true)))])
 .ret)))),
 [.t 4]⟩
theorem k41 : cFn Try.prog Try.f41 = some c41 := by kernel_rfl
theorem eqSasResult_ok : OkT Try.prog 41 (pureSp (eqR_S sh_SasResult)) := by
  refine okT_eqR (OkΓT.cons eqSaS_ok (OkΓT.nil _)) Try.func41 (by kernel_rfl) k41 ?_
  intro c hc hz
  obtain ⟨a0, c1, rfl, hc1⟩ := sh_SasResult_Fit hc
  simp only [szCs, szC] at hz
  simp only [fzCs, fzC]
  (dsimp only [c41, rO]; simp (maxSteps := 8000000) -implicitDefEqProofs (disch := omega) only [↓reduceIte, go_sem, eqC_at hc1 (by omega)])
  repeat' first
    | ((first | refine gdKT_deq (fun hg hG => ?_) (fun hg hG => ?_) | refine condKT_deq (fun hg hG => ?_) (fun hg hG => ?_)) <;> (try simp (maxSteps := 8000000) -implicitDefEqProofs (disch := omega) only [↓reduceIte, go_sem, hG, eqC_at hc1 (by omega)]) <;> clear hG)
    | ((first | refine gdKT_split (fun hg => ?_) (fun hg => ?_) | refine condKT_split (fun hg => ?_) (fun hg => ?_)) <;> (try simp (maxSteps := 8000000) -implicitDefEqProofs (disch := omega) only [↓reduceIte, go_sem, hg, eqC_at hc1 (by omega)]))
    | (refine endT_p (.inr rfl) (by simp (maxSteps := 8000000) -implicitDefEqProofs (disch := omega) only [↓reduceIte, go_sem, eqC_at hc1 (by omega)]; rfl) ?_; (first | exact vb_true (by omega) | exact vb_false (by omega) | exact vb_dec (by omega) | exact vi_eq (by omega) | rfl | (refine vi_eq ?_; simp_all; first | done | (intros; omega))))
    | exact endT_v (.inr rfl) (by simp (maxSteps := 8000000) -implicitDefEqProofs (disch := omega) only [↓reduceIte, go_sem, eqC_at hc1 (by omega)]; try rfl) (fun _ => rfl)
theorem hd_SasResult_at {c1 : Cell} (hc1 : FitC sh_SaS c1) {k : Int} (hk : 0 ≤ k) (hz : k + (wtC c1 : Int) ≤ 1099511627776) (a0 : Int) : hdR_S sh_SasResult [.agg [.p (.int .i64 a0), fzC (mkC c1 (k))], .p (.int .i64 k)] = some (.p (.int .i64 (k + (wtC c1 : Int))), []) := by
  have := hdR_at (k := k) (sh_SasResult_mkFit hc1 a0) hk (by simp only [wtCs, wtC_v]; omega)
  simp only [mkCs, mkC_v, wtC_v, nat0T, Int.add_zero, fzCs, fzC, wtCs, Nat.zero_add, Nat.add_zero] at this
  exact this
-- laws.heldSasResult
def c47 : AF := ⟨12,
 (.seq (.reg [rO 2 (.box 35 (.t 0)),
 rO 4 (.mv (.v (.int .i64 0)))])
 (.seq (.reg [rO 5 (.fa (.t 2) 1),
 rO 6 (.ld (.t 5)),
 rO 7 (.mv (.t 1)),
 rO 8 (.call 109 [(.t 6), (.t 7)]),
 rO 1 (.mv (.t 8))])
 (.seq (.seq (.reg [rO 9 (.mv (.t 1)),
 rO 10 (.bin .lss (.t 9) (.v (.int .i64 0)))])
 (.cond (.t 10) (.seq (.reg [rO 4 (.mv (.v (.int .i64 (-1))))])
 .ret)
 .skip))
 (.seq (.reg [rO 11 (.mv (.t 1)),
 rO 4 (.mv (.t 11))])
 .ret)))),
 [.t 4]⟩
theorem k47 : cFn Try.prog Try.f47 = some c47 := by kernel_rfl
theorem heldSasResult_ok : OkT Try.prog 47 (pureSp (hdR_S sh_SasResult)) := by
  refine okT_hdR (OkΓT.cons heldSaS_ok (OkΓT.nil _)) Try.func47 (by kernel_rfl) k47 ?_
  intro c k hc h1 hz
  obtain ⟨a0, c1, rfl, hc1⟩ := sh_SasResult_Fit hc
  simp only [wtCs, wtC_v, Nat.zero_add, Nat.add_zero] at hz ⊢
  simp only [mkCs, mkC_v, wtC_v, nat0T, Int.add_zero, fzCs, fzC]
  (dsimp only [c47, rO]; simp (maxSteps := 8000000) -implicitDefEqProofs (disch := omega) only [↓reduceIte, go_sem, hdC_at hc1 (show 0 ≤ k by omega) (by omega)])
  repeat' first
    | ((first | refine gdKT_deq (fun hg hG => ?_) (fun hg hG => ?_) | refine condKT_deq (fun hg hG => ?_) (fun hg hG => ?_)) <;> (try simp (maxSteps := 8000000) -implicitDefEqProofs (disch := omega) only [↓reduceIte, go_sem, hG, hdC_at hc1 (show 0 ≤ k by omega) (by omega)]) <;> clear hG)
    | ((first | refine gdKT_split (fun hg => ?_) (fun hg => ?_) | refine condKT_split (fun hg => ?_) (fun hg => ?_)) <;> (try simp (maxSteps := 8000000) -implicitDefEqProofs (disch := omega) only [↓reduceIte, go_sem, hg, hdC_at hc1 (show 0 ≤ k by omega) (by omega)]))
    | (refine endT_p (.inr rfl) (by simp (maxSteps := 8000000) -implicitDefEqProofs (disch := omega) only [↓reduceIte, go_sem, hdC_at hc1 (show 0 ≤ k by omega) (by omega)]; rfl) ?_; (first | exact vb_true (by omega) | exact vb_false (by omega) | exact vb_dec (by omega) | exact vi_eq (by omega) | rfl | (refine vi_eq ?_; simp_all; first | done | (intros; omega))))
    | exact endT_v (.inr rfl) (by simp (maxSteps := 8000000) -implicitDefEqProofs (disch := omega) only [↓reduceIte, go_sem, hdC_at hc1 (show 0 ≤ k by omega) (by omega)]; try rfl) (fun _ => rfl)
-- laws.markSasResult
def c46 : AF := ⟨10,
 (.seq (.reg [rO 2 (.box 35 (.t 0)),
 rO 4 (.mv (.v (.int .i64 0)))])
 (.seq (.reg [rO 5 (.fa (.t 2) 1),
 rO 6 (.ld (.t 5)),
 rO 7 (.mv (.t 1)),
 rO 8 (.call 44 [(.t 6), (.t 7)]),
 rO 1 (.mv (.t 8))])
 (.seq (.reg [rO 9 (.mv (.t 1)),
 rO 4 (.mv (.t 9))])
 .ret))),
 [.t 4]⟩
theorem k46 : cFn Try.prog Try.f46 = some c46 := by kernel_rfl
theorem markSasResult_ok : OkT Try.prog 46 (mkR_Sp sh_SasResult) := by
  refine okT_mkR (OkΓT.cons markSaS_ok (OkΓT.nil _)) Try.func46 (by kernel_rfl) k46 ?_
  intro c k hc h1 hz
  obtain ⟨a0, c1, rfl, hc1⟩ := sh_SasResult_Fit hc
  simp only [wtCs, wtC_v, Nat.zero_add, Nat.add_zero] at hz ⊢
  simp only [mkCs, mkC_v, wtC_v, nat0T, Int.add_zero]
  simp only [tvCs, tvC_v, tvC_nl, tvC_sl, nbC, Nat.add_zero, Nat.zero_add]
  generalize hN : nbCs _ = N
  have l0 : (bkCs 0 [.v (.int .i64 a0), c1]).length = N := by rw [bkCs_len]; exact hN
  (dsimp only [c46, rO]; simp (maxSteps := 8000000) -implicitDefEqProofs (disch := omega) only [↓reduceIte, go_sem, l0, get_last l0])
  have m0 := fun X => mk_cell (A := [.v (.int .i64 a0)]) (B := []) (G := [X]) (n := 0) (k := k) (by simp only [nbCs, nbC, mkC_nb] <;> omega) hc1 (by omega) (by omega)
  simp only [List.cons_append, List.nil_append, mkCs, mkC_v, wtCs, wtC_v, nat0T, Int.add_zero, Nat.add_zero, Nat.zero_add, tvCs, tvC_v, tvC_nl, tvC_sl, nbC, natAT, ← Int.add_assoc, mkC_tv, mkC_nb] at m0
  have l1 : (bkCs 0 [.v (.int .i64 a0), (mkC c1 (k))]).length = N := by rw [bkCs_len, ← hN]; simp only [nbCs, mkC_nb]
  refine mutQ_call (by simp (maxSteps := 8000000) -implicitDefEqProofs (disch := omega) only [↓reduceIte, go_sem]; rfl) (by simp (maxSteps := 8000000) -implicitDefEqProofs (disch := omega) only [↓reduceIte, go_sem]) (m0 _) ?_
  simp (maxSteps := 8000000) -implicitDefEqProofs (disch := omega) only [↓reduceIte, go_sem, l1, get_last l1]
  exact endK_cells (.inr rfl) (by rw [← hN]; simp only [nbCs, mkC_nb]; omega) (by (simp (maxSteps := 8000000) -implicitDefEqProofs (disch := omega) only [↓reduceIte, go_sem, natAT, ← Int.add_assoc]) <;> rfl) rfl
end Go.Proofs.Ytghpdclhhnbgjaa
