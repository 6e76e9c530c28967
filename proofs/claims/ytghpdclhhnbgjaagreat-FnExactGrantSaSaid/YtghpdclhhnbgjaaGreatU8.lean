import Derived.Test.YtghpdclhhnbgjaaGreatLU
import Derived.Test.YtghpdclhhnbgjaaGreatProg
set_option linter.unusedSimpArgs false
set_option linter.unusedVariables false
set_option maxRecDepth 100000
set_option maxHeartbeats 4000000
namespace Go.Proofs.YtghpdclhhnbgjaaGreat
open Go Go.AH
attribute [local irreducible] awpT ropsT qopsT stepT condKT gdKT EndT joinK loopKT seqKT blkKT kont kontR
/-! Range -/
def sh_Range : List Shp := [.i .i64, .i .i64]
theorem sh_Range_Has {cs : List Cell} (h : HasR sh_Range cs) : ∃ (a0 : Int) (a1 : Int), cs = [.v (.int .i64 a0), .v (.int .i64 a1)] := by
  obtain ⟨_, _, rfl, ⟨a0, rfl, _⟩, _, _, rfl, ⟨a1, rfl, _⟩, h⟩ := h
  simp only [HasR] at h; subst h
  exact ⟨a0, a1, rfl⟩
theorem sh_Range_mkHas  (a0 : Int) (a1 : Int) : HasR sh_Range [.v (.int .i64 a0), .v (.int .i64 a1)] := by
  exact ⟨_, _, rfl, ⟨_, rfl, fun h => by cases h⟩, _, _, rfl, ⟨_, rfl, fun h => by cases h⟩, rfl⟩
theorem sh_Range_Fit {cs : List Cell} (h : FitR sh_Range cs) : ∃ (a0 : Int) (a1 : Int), cs = [.v (.int .i64 a0), .v (.int .i64 a1)] := by
  obtain ⟨_, _, rfl, ⟨a0, rfl⟩, _, _, rfl, ⟨a1, rfl⟩, h⟩ := h
  simp only [FitR] at h; subst h
  exact ⟨a0, a1, rfl⟩
theorem sh_Range_mkFit  (a0 : Int) (a1 : Int) : FitR sh_Range [.v (.int .i64 a0), .v (.int .i64 a1)] := by
  exact ⟨_, _, rfl, ⟨_, rfl⟩, _, _, rfl, ⟨_, rfl⟩, rfl⟩
theorem to_Range_at  (a0 : Int) (a1 : Int) : toR_S sh_Range [.agg [.p (.int .i64 a0), .p (.int .i64 a1)]] = some (.agg [.p (.int .i64 a0), .p (.int .i64 a1)], []) := by
  have := toR_at (sh_Range_mkHas  a0 a1) (by simp only [szCs, szC]; omega)
  simpa only [fzCs, fzC, tvCs, tvC_v, tvC_nl, tvC_sl, bkCs, bkC, nbC, nbCs, Nat.add_zero, List.append_nil, List.nil_append, Nat.zero_add] using this
-- laws.toRange
def c165 : AF := ⟨11,
 (.seq (.reg [rO 1 (.box 125 (.t 0)),
 rO 2 (.alloc 101 [(.int .i64 0), (.int .i64 0)])])
 (.seq (.reg [rO 3 (.alloc 101 [(.int .i64 0), (.int .i64 0)])])
 (.seq (.reg [rO 4 (.fa (.t 1) 0),
 rO 5 (.ld (.t 4)),
 rO 6 (.fa (.t 3) 0),
 ⟨none, none, .st 1 (.t 6) (.t 5)⟩])
 (.seq (.reg [rO 7 (.fa (.t 1) 1),
 rO 8 (.ld (.t 7)),
 rO 9 (.fa (.t 3) 1),
 ⟨none, none, .st 1 (.t 9) (.t 8)⟩])
 (.seq (.reg [rO 10 (.ldn 2 (.t 3)),
 ⟨none, none, .st 2 (.t 2) (.t 10)⟩])
 .ret))))),
 [.cell 2 (some 2)]⟩
theorem k165 : cFn Tryz.prog Tryz.f165 = some c165 := by kernel_rfl
theorem toRange_ok : OkT Tryz.prog 165 (pureSp (toR_S sh_Range)) := by
  refine okT_toR (OkΓT.nil _) Tryz.func165 (by kernel_rfl) k165 ?_
  intro c hc hz
  obtain ⟨a0, a1, rfl⟩ := sh_Range_Has hc
  simp only [szCs, szC] at hz
  simp only [fzCs, fzC]
  (dsimp only [c165, rO]; simp (maxSteps := 8000000) -implicitDefEqProofs (disch := omega) only [↓reduceIte, go_sem])
  refine endT_cells' 3 (.inr rfl) (by (simp (maxSteps := 8000000) -implicitDefEqProofs (disch := omega) only [↓reduceIte, go_sem, fzCs, fzC, tvCs, tvC_v, tvC_nl, tvC_sl, bkCs, bkC, nbC, nbCs, Nat.add_zero, List.append_nil, List.nil_append]) <;> rfl) ?_ (by simp only [List.length_cons]; omega)
  simp only [List.drop_succ_cons, List.drop_zero, bkCs, bkC, nbC, Nat.add_zero, List.append_nil, List.nil_append, List.cons_append, Nat.add_assoc]
theorem eq_Range_at  (a0 : Int) (a1 : Int) : eqR_S sh_Range [.agg [.p (.int .i64 a0), .p (.int .i64 a1)], .agg [.p (.int .i64 a0), .p (.int .i64 a1)]] = some (.p (.bool true), []) := by
  exact eqR_at (sh_Range_mkFit  a0 a1) (by simp only [szCs, szC]; omega)
-- laws.eqRange
def c176 : AF := ⟨15,
 (.seq (.reg [rO 2 (.box 101 (.t 0)),
 rO 3 (.box 101 (.t 1)),
 rO 4 (.mv (.v (.bool false)))])
 (.seq (.seq (.reg [rO 5 (.fa (.t 2) 0),
 rO 6 (.ld (.t 5)),
 rO 7 (.fa (.t 3) 0),
 rO 8 (.ld (.t 7)),
 rO 9 (.bin .neq (.t 6) (.t 8))])
 (.cond (.t 9) (.seq (.reg [rO 4 (.mv (.v (.bool false)))])
 .ret)
 .skip))
 (.seq (.seq (.reg [rO 10 (.fa (.t 2) 1),
 rO 11 (.ld (.t 10)),
 rO 12 (.fa (.t 3) 1),
 rO 13 (.ld (.t 12)),
 rO 14 (.bin .neq (.t 11) (.t 13))])
 (.cond (.t 14) (.seq (.reg [rO 4 (.mv (.v (.bool false)))])
 .ret)
 .skip))
 (.seq (.reg [rO 4 (.mv (.v (.bool true)))])
 .ret)))),
 [.t 4]⟩
theorem k176 : cFn Tryz.prog Tryz.f176 = some c176 := by kernel_rfl
theorem eqRange_ok : OkT Tryz.prog 176 (pureSp (eqR_S sh_Range)) := by
  refine okT_eqR (OkΓT.nil _) Tryz.func176 (by kernel_rfl) k176 ?_
  intro c hc hz
  obtain ⟨a0, a1, rfl⟩ := sh_Range_Fit hc
  simp only [szCs, szC] at hz
  simp only [fzCs, fzC]
  (dsimp only [c176, rO]; simp (maxSteps := 8000000) -implicitDefEqProofs (disch := omega) only [↓reduceIte, go_sem])
  repeat' first
    | ((first | refine gdKT_deq (fun hg hG => ?_) (fun hg hG => ?_) | refine condKT_deq (fun hg hG => ?_) (fun hg hG => ?_)) <;> (try simp (maxSteps := 8000000) -implicitDefEqProofs (disch := omega) only [↓reduceIte, go_sem, hG]) <;> clear hG)
    | ((first | refine gdKT_split (fun hg => ?_) (fun hg => ?_) | refine condKT_split (fun hg => ?_) (fun hg => ?_)) <;> (try simp (maxSteps := 8000000) -implicitDefEqProofs (disch := omega) only [↓reduceIte, go_sem, hg]))
    | (refine endT_p (.inr rfl) (by simp (maxSteps := 8000000) -implicitDefEqProofs (disch := omega) only [↓reduceIte, go_sem]; rfl) ?_; (first | exact vb_true (by omega) | exact vb_false (by omega) | exact vb_dec (by omega) | exact vi_eq (by omega) | rfl | (refine vi_eq ?_; simp_all; first | done | (intros; omega))))
    | exact endT_v (.inr rfl) (by simp (maxSteps := 8000000) -implicitDefEqProofs (disch := omega) only [↓reduceIte, go_sem]; try rfl) (fun _ => rfl)
/-! Sel -/
def sh_Sel : List Shp := [.i .i64, .i .i64, .i .i64, .i .i64, .i .i64, .i .i64, .i .i64, .i .i64, .i .i64]
theorem sh_Sel_Has {cs : List Cell} (h : HasR sh_Sel cs) : ∃ (a0 : Int) (a1 : Int) (a2 : Int) (a3 : Int) (a4 : Int) (a5 : Int) (a6 : Int) (a7 : Int) (a8 : Int), cs = [.v (.int .i64 a0), .v (.int .i64 a1), .v (.int .i64 a2), .v (.int .i64 a3), .v (.int .i64 a4), .v (.int .i64 a5), .v (.int .i64 a6), .v (.int .i64 a7), .v (.int .i64 a8)] := by
  obtain ⟨_, _, rfl, ⟨a0, rfl, _⟩, _, _, rfl, ⟨a1, rfl, _⟩, _, _, rfl, ⟨a2, rfl, _⟩, _, _, rfl, ⟨a3, rfl, _⟩, _, _, rfl, ⟨a4, rfl, _⟩, _, _, rfl, ⟨a5, rfl, _⟩, _, _, rfl, ⟨a6, rfl, _⟩, _, _, rfl, ⟨a7, rfl, _⟩, _, _, rfl, ⟨a8, rfl, _⟩, h⟩ := h
  simp only [HasR] at h; subst h
  exact ⟨a0, a1, a2, a3, a4, a5, a6, a7, a8, rfl⟩
theorem sh_Sel_mkHas  (a0 : Int) (a1 : Int) (a2 : Int) (a3 : Int) (a4 : Int) (a5 : Int) (a6 : Int) (a7 : Int) (a8 : Int) : HasR sh_Sel [.v (.int .i64 a0), .v (.int .i64 a1), .v (.int .i64 a2), .v (.int .i64 a3), .v (.int .i64 a4), .v (.int .i64 a5), .v (.int .i64 a6), .v (.int .i64 a7), .v (.int .i64 a8)] := by
  exact ⟨_, _, rfl, ⟨_, rfl, fun h => by cases h⟩, _, _, rfl, ⟨_, rfl, fun h => by cases h⟩, _, _, rfl, ⟨_, rfl, fun h => by cases h⟩, _, _, rfl, ⟨_, rfl, fun h => by cases h⟩, _, _, rfl, ⟨_, rfl, fun h => by cases h⟩, _, _, rfl, ⟨_, rfl, fun h => by cases h⟩, _, _, rfl, ⟨_, rfl, fun h => by cases h⟩, _, _, rfl, ⟨_, rfl, fun h => by cases h⟩, _, _, rfl, ⟨_, rfl, fun h => by cases h⟩, rfl⟩
theorem sh_Sel_Fit {cs : List Cell} (h : FitR sh_Sel cs) : ∃ (a0 : Int) (a1 : Int) (a2 : Int) (a3 : Int) (a4 : Int) (a5 : Int) (a6 : Int) (a7 : Int) (a8 : Int), cs = [.v (.int .i64 a0), .v (.int .i64 a1), .v (.int .i64 a2), .v (.int .i64 a3), .v (.int .i64 a4), .v (.int .i64 a5), .v (.int .i64 a6), .v (.int .i64 a7), .v (.int .i64 a8)] := by
  obtain ⟨_, _, rfl, ⟨a0, rfl⟩, _, _, rfl, ⟨a1, rfl⟩, _, _, rfl, ⟨a2, rfl⟩, _, _, rfl, ⟨a3, rfl⟩, _, _, rfl, ⟨a4, rfl⟩, _, _, rfl, ⟨a5, rfl⟩, _, _, rfl, ⟨a6, rfl⟩, _, _, rfl, ⟨a7, rfl⟩, _, _, rfl, ⟨a8, rfl⟩, h⟩ := h
  simp only [FitR] at h; subst h
  exact ⟨a0, a1, a2, a3, a4, a5, a6, a7, a8, rfl⟩
theorem sh_Sel_mkFit  (a0 : Int) (a1 : Int) (a2 : Int) (a3 : Int) (a4 : Int) (a5 : Int) (a6 : Int) (a7 : Int) (a8 : Int) : FitR sh_Sel [.v (.int .i64 a0), .v (.int .i64 a1), .v (.int .i64 a2), .v (.int .i64 a3), .v (.int .i64 a4), .v (.int .i64 a5), .v (.int .i64 a6), .v (.int .i64 a7), .v (.int .i64 a8)] := by
  exact ⟨_, _, rfl, ⟨_, rfl⟩, _, _, rfl, ⟨_, rfl⟩, _, _, rfl, ⟨_, rfl⟩, _, _, rfl, ⟨_, rfl⟩, _, _, rfl, ⟨_, rfl⟩, _, _, rfl, ⟨_, rfl⟩, _, _, rfl, ⟨_, rfl⟩, _, _, rfl, ⟨_, rfl⟩, _, _, rfl, ⟨_, rfl⟩, rfl⟩
theorem to_Sel_at  (a0 : Int) (a1 : Int) (a2 : Int) (a3 : Int) (a4 : Int) (a5 : Int) (a6 : Int) (a7 : Int) (a8 : Int) : toR_S sh_Sel [.agg [.p (.int .i64 a0), .p (.int .i64 a1), .p (.int .i64 a2), .p (.int .i64 a3), .p (.int .i64 a4), .p (.int .i64 a5), .p (.int .i64 a6), .p (.int .i64 a7), .p (.int .i64 a8)]] = some (.agg [.p (.int .i64 a0), .p (.int .i64 a1), .p (.int .i64 a2), .p (.int .i64 a3), .p (.int .i64 a4), .p (.int .i64 a5), .p (.int .i64 a6), .p (.int .i64 a7), .p (.int .i64 a8)], []) := by
  have := toR_at (sh_Sel_mkHas  a0 a1 a2 a3 a4 a5 a6 a7 a8) (by simp only [szCs, szC]; omega)
  simpa only [fzCs, fzC, tvCs, tvC_v, tvC_nl, tvC_sl, bkCs, bkC, nbC, nbCs, Nat.add_zero, List.append_nil, List.nil_append, Nat.zero_add] using this
-- laws.toSel
def c111 : AF := ⟨24,
 (.seq (.reg [rO 1 (.box 127 (.t 0)),
 rO 2 (.alloc 103 [(.int .i64 0), (.int .i64 0), (.int .i64 0), (.int .i64 0), (.int .i64 0), (.int .i64 0), (.int .i64 0), (.int .i64 0), (.int .i64 0)])])
 (.seq (.reg [rO 3 (.alloc 103 [(.int .i64 0), (.int .i64 0), (.int .i64 0), (.int .i64 0), (.int .i64 0), (.int .i64 0), (.int .i64 0), (.int .i64 0), (.int .i64 0)])])
 (.seq (.reg [rO 4 (.fa (.t 1) 0),
 rO 5 (.ldn 2 (.t 4)),
 rO 6 (.call 165 [(.t 5)]),
 rO 7 (.fa (.t 3) 0),
 ⟨none, none, .st 2 (.t 7) (.t 6)⟩])
 (.seq (.reg [rO 8 (.fa (.t 1) 2),
 rO 9 (.ldn 2 (.t 8)),
 rO 10 (.call 165 [(.t 9)]),
 rO 11 (.fa (.t 3) 2),
 ⟨none, none, .st 2 (.t 11) (.t 10)⟩])
 (.seq (.reg [rO 12 (.fa (.t 1) 4),
 rO 13 (.ldn 2 (.t 12)),
 rO 14 (.call 165 [(.t 13)]),
 rO 15 (.fa (.t 3) 4),
 ⟨none, none, .st 2 (.t 15) (.t 14)⟩])
 (.seq (.reg [rO 16 (.fa (.t 1) 6),
 rO 17 (.ldn 2 (.t 16)),
 rO 18 (.call 165 [(.t 17)]),
 rO 19 (.fa (.t 3) 6),
 ⟨none, none, .st 2 (.t 19) (.t 18)⟩])
 (.seq (.reg [rO 20 (.fa (.t 1) 8),
 rO 21 (.ld (.t 20)),
 rO 22 (.fa (.t 3) 8),
 ⟨none, none, .st 1 (.t 22) (.t 21)⟩])
 (.seq (.reg [rO 23 (.ldn 9 (.t 3)),
 ⟨none, none, .st 9 (.t 2) (.t 23)⟩])
 .ret)))))))),
 [.cell 2 (some 9)]⟩
theorem k111 : cFn Tryz.prog Tryz.f111 = some c111 := by kernel_rfl
theorem toSel_ok : OkT Tryz.prog 111 (pureSp (toR_S sh_Sel)) := by
  refine okT_toR (OkΓT.cons toRange_ok (OkΓT.nil _)) Tryz.func111 (by kernel_rfl) k111 ?_
  intro c hc hz
  obtain ⟨a0, a1, a2, a3, a4, a5, a6, a7, a8, rfl⟩ := sh_Sel_Has hc
  simp only [szCs, szC] at hz
  simp only [fzCs, fzC]
  (dsimp only [c111, rO]; simp (maxSteps := 8000000) -implicitDefEqProofs (disch := omega) only [↓reduceIte, go_sem, to_Range_at])
  refine endT_cells' 3 (.inr rfl) (by (simp (maxSteps := 8000000) -implicitDefEqProofs (disch := omega) only [↓reduceIte, go_sem, fzCs, fzC, tvCs, tvC_v, tvC_nl, tvC_sl, bkCs, bkC, nbC, nbCs, Nat.add_zero, List.append_nil, List.nil_append]) <;> rfl) ?_ (by simp only [List.length_cons]; omega)
  simp only [List.drop_succ_cons, List.drop_zero, bkCs, bkC, nbC, Nat.add_zero, List.append_nil, List.nil_append, List.cons_append, Nat.add_assoc]
theorem eq_Sel_at  (a0 : Int) (a1 : Int) (a2 : Int) (a3 : Int) (a4 : Int) (a5 : Int) (a6 : Int) (a7 : Int) (a8 : Int) : eqR_S sh_Sel [.agg [.p (.int .i64 a0), .p (.int .i64 a1), .p (.int .i64 a2), .p (.int .i64 a3), .p (.int .i64 a4), .p (.int .i64 a5), .p (.int .i64 a6), .p (.int .i64 a7), .p (.int .i64 a8)], .agg [.p (.int .i64 a0), .p (.int .i64 a1), .p (.int .i64 a2), .p (.int .i64 a3), .p (.int .i64 a4), .p (.int .i64 a5), .p (.int .i64 a6), .p (.int .i64 a7), .p (.int .i64 a8)]] = some (.p (.bool true), []) := by
  exact eqR_at (sh_Sel_mkFit  a0 a1 a2 a3 a4 a5 a6 a7 a8) (by simp only [szCs, szC]; omega)
-- laws.eqSel
def c118 : AF := ⟨34,
 (.seq (.reg [rO 2 (.box 103 (.t 0)),
 rO 3 (.box 103 (.t 1)),
 rO 4 (.mv (.v (.bool false)))])
 (.seq (.seq (.reg [rO 5 (.fa (.t 2) 0),
 rO 6 (.ldn 2 (.t 5)),
 rO 7 (.fa (.t 3) 0),
 rO 8 (.ldn 2 (.t 7)),
 rO 9 (.call 176 [(.t 6), (.t 8)]),
 rO 10 (.un .not (.t 9))])
 (.cond (.t 10) (.seq (.reg [rO 4 (.mv (.v (.bool false)))])
 .ret)
 .skip))
 (.seq (.seq (.reg [rO 11 (.fa (.t 2) 2),
 rO 12 (.ldn 2 (.t 11)),
 rO 13 (.fa (.t 3) 2),
 rO 14 (.ldn 2 (.t 13)),
 rO 15 (.call 176 [(.t 12), (.t 14)]),
 rO 16 (.un .not (.t 15))])
 (.cond (.t 16) (.seq (.reg [rO 4 (.mv (.v (.bool false)))])
 .ret)
 .skip))
 (.seq (.seq (.reg [rO 17 (.fa (.t 2) 4),
 rO 18 (.ldn 2 (.t 17)),
 rO 19 (.fa (.t 3) 4),
 rO 20 (.ldn 2 (.t 19)),
 rO 21 (.call 176 [(.t 18), (.t 20)]),
 rO 22 (.un .not (.t 21))])
 (.cond (.t 22) (.seq (.reg [rO 4 (.mv (.v (.bool false)))])
 .ret)
 .skip))
 (.seq (.seq (.reg [rO 23 (.fa (.t 2) 6),
 rO 24 (.ldn 2 (.t 23)),
 rO 25 (.fa (.t 3) 6),
 rO 26 (.ldn 2 (.t 25)),
 rO 27 (.call 176 [(.t 24), (.t 26)]),
 rO 28 (.un .not (.t 27))])
 (.cond (.t 28) (.seq (.reg [rO 4 (.mv (.v (.bool false)))])
 .ret)
 .skip))
 (.seq (.seq (.reg [rO 29 (.fa (.t 2) 8),
 rO 30 (.ld (.t 29)),
 rO 31 (.fa (.t 3) 8),
 rO 32 (.ld (.t 31)),
 rO 33 (.bin .neq (.t 30) (.t 32))])
 (.cond (.t 33) (.seq (.reg [rO 4 (.mv (.v (.bool false)))])
 .ret)
 .skip))
 (.seq (.reg [rO 4 (.mv (.v (.bool true)))])
 .ret))))))),
 [.t 4]⟩
theorem k118 : cFn Tryz.prog Tryz.f118 = some c118 := by kernel_rfl
theorem eqSel_ok : OkT Tryz.prog 118 (pureSp (eqR_S sh_Sel)) := by
  refine okT_eqR (OkΓT.cons eqRange_ok (OkΓT.nil _)) Tryz.func118 (by kernel_rfl) k118 ?_
  intro c hc hz
  obtain ⟨a0, a1, a2, a3, a4, a5, a6, a7, a8, rfl⟩ := sh_Sel_Fit hc
  simp only [szCs, szC] at hz
  simp only [fzCs, fzC]
  (dsimp only [c118, rO]; simp (maxSteps := 8000000) -implicitDefEqProofs (disch := omega) only [↓reduceIte, go_sem, eq_Range_at])
  repeat' first
    | ((first | refine gdKT_deq (fun hg hG => ?_) (fun hg hG => ?_) | refine condKT_deq (fun hg hG => ?_) (fun hg hG => ?_)) <;> (try simp (maxSteps := 8000000) -implicitDefEqProofs (disch := omega) only [↓reduceIte, go_sem, hG, eq_Range_at]) <;> clear hG)
    | ((first | refine gdKT_split (fun hg => ?_) (fun hg => ?_) | refine condKT_split (fun hg => ?_) (fun hg => ?_)) <;> (try simp (maxSteps := 8000000) -implicitDefEqProofs (disch := omega) only [↓reduceIte, go_sem, hg, eq_Range_at]))
    | (refine endT_p (.inr rfl) (by simp (maxSteps := 8000000) -implicitDefEqProofs (disch := omega) only [↓reduceIte, go_sem, eq_Range_at]; rfl) ?_; (first | exact vb_true (by omega) | exact vb_false (by omega) | exact vb_dec (by omega) | exact vi_eq (by omega) | rfl | (refine vi_eq ?_; simp_all; first | done | (intros; omega))))
    | exact endT_v (.inr rfl) (by simp (maxSteps := 8000000) -implicitDefEqProofs (disch := omega) only [↓reduceIte, go_sem, eq_Range_at]; try rfl) (fun _ => rfl)
/-! Rule -/
def sh_Rule : List Shp := [.i .i64, .i .i64, .i .i64, .i .i64, .i .i64, .i .i64, .i .i64, .i .i64, .i .i64, .i .i64, .i .i64]
theorem sh_Rule_Has {cs : List Cell} (h : HasR sh_Rule cs) : ∃ (a0 : Int) (a1 : Int) (a2 : Int) (a3 : Int) (a4 : Int) (a5 : Int) (a6 : Int) (a7 : Int) (a8 : Int) (a9 : Int) (a10 : Int), cs = [.v (.int .i64 a0), .v (.int .i64 a1), .v (.int .i64 a2), .v (.int .i64 a3), .v (.int .i64 a4), .v (.int .i64 a5), .v (.int .i64 a6), .v (.int .i64 a7), .v (.int .i64 a8), .v (.int .i64 a9), .v (.int .i64 a10)] := by
  obtain ⟨_, _, rfl, ⟨a0, rfl, _⟩, _, _, rfl, ⟨a1, rfl, _⟩, _, _, rfl, ⟨a2, rfl, _⟩, _, _, rfl, ⟨a3, rfl, _⟩, _, _, rfl, ⟨a4, rfl, _⟩, _, _, rfl, ⟨a5, rfl, _⟩, _, _, rfl, ⟨a6, rfl, _⟩, _, _, rfl, ⟨a7, rfl, _⟩, _, _, rfl, ⟨a8, rfl, _⟩, _, _, rfl, ⟨a9, rfl, _⟩, _, _, rfl, ⟨a10, rfl, _⟩, h⟩ := h
  simp only [HasR] at h; subst h
  exact ⟨a0, a1, a2, a3, a4, a5, a6, a7, a8, a9, a10, rfl⟩
theorem sh_Rule_mkHas  (a0 : Int) (a1 : Int) (a2 : Int) (a3 : Int) (a4 : Int) (a5 : Int) (a6 : Int) (a7 : Int) (a8 : Int) (a9 : Int) (a10 : Int) : HasR sh_Rule [.v (.int .i64 a0), .v (.int .i64 a1), .v (.int .i64 a2), .v (.int .i64 a3), .v (.int .i64 a4), .v (.int .i64 a5), .v (.int .i64 a6), .v (.int .i64 a7), .v (.int .i64 a8), .v (.int .i64 a9), .v (.int .i64 a10)] := by
  exact ⟨_, _, rfl, ⟨_, rfl, fun h => by cases h⟩, _, _, rfl, ⟨_, rfl, fun h => by cases h⟩, _, _, rfl, ⟨_, rfl, fun h => by cases h⟩, _, _, rfl, ⟨_, rfl, fun h => by cases h⟩, _, _, rfl, ⟨_, rfl, fun h => by cases h⟩, _, _, rfl, ⟨_, rfl, fun h => by cases h⟩, _, _, rfl, ⟨_, rfl, fun h => by cases h⟩, _, _, rfl, ⟨_, rfl, fun h => by cases h⟩, _, _, rfl, ⟨_, rfl, fun h => by cases h⟩, _, _, rfl, ⟨_, rfl, fun h => by cases h⟩, _, _, rfl, ⟨_, rfl, fun h => by cases h⟩, rfl⟩
theorem sh_Rule_Fit {cs : List Cell} (h : FitR sh_Rule cs) : ∃ (a0 : Int) (a1 : Int) (a2 : Int) (a3 : Int) (a4 : Int) (a5 : Int) (a6 : Int) (a7 : Int) (a8 : Int) (a9 : Int) (a10 : Int), cs = [.v (.int .i64 a0), .v (.int .i64 a1), .v (.int .i64 a2), .v (.int .i64 a3), .v (.int .i64 a4), .v (.int .i64 a5), .v (.int .i64 a6), .v (.int .i64 a7), .v (.int .i64 a8), .v (.int .i64 a9), .v (.int .i64 a10)] := by
  obtain ⟨_, _, rfl, ⟨a0, rfl⟩, _, _, rfl, ⟨a1, rfl⟩, _, _, rfl, ⟨a2, rfl⟩, _, _, rfl, ⟨a3, rfl⟩, _, _, rfl, ⟨a4, rfl⟩, _, _, rfl, ⟨a5, rfl⟩, _, _, rfl, ⟨a6, rfl⟩, _, _, rfl, ⟨a7, rfl⟩, _, _, rfl, ⟨a8, rfl⟩, _, _, rfl, ⟨a9, rfl⟩, _, _, rfl, ⟨a10, rfl⟩, h⟩ := h
  simp only [FitR] at h; subst h
  exact ⟨a0, a1, a2, a3, a4, a5, a6, a7, a8, a9, a10, rfl⟩
theorem sh_Rule_mkFit  (a0 : Int) (a1 : Int) (a2 : Int) (a3 : Int) (a4 : Int) (a5 : Int) (a6 : Int) (a7 : Int) (a8 : Int) (a9 : Int) (a10 : Int) : FitR sh_Rule [.v (.int .i64 a0), .v (.int .i64 a1), .v (.int .i64 a2), .v (.int .i64 a3), .v (.int .i64 a4), .v (.int .i64 a5), .v (.int .i64 a6), .v (.int .i64 a7), .v (.int .i64 a8), .v (.int .i64 a9), .v (.int .i64 a10)] := by
  exact ⟨_, _, rfl, ⟨_, rfl⟩, _, _, rfl, ⟨_, rfl⟩, _, _, rfl, ⟨_, rfl⟩, _, _, rfl, ⟨_, rfl⟩, _, _, rfl, ⟨_, rfl⟩, _, _, rfl, ⟨_, rfl⟩, _, _, rfl, ⟨_, rfl⟩, _, _, rfl, ⟨_, rfl⟩, _, _, rfl, ⟨_, rfl⟩, _, _, rfl, ⟨_, rfl⟩, _, _, rfl, ⟨_, rfl⟩, rfl⟩
theorem to_Rule_at  (a0 : Int) (a1 : Int) (a2 : Int) (a3 : Int) (a4 : Int) (a5 : Int) (a6 : Int) (a7 : Int) (a8 : Int) (a9 : Int) (a10 : Int) : toR_S sh_Rule [.agg [.p (.int .i64 a0), .p (.int .i64 a1), .p (.int .i64 a2), .p (.int .i64 a3), .p (.int .i64 a4), .p (.int .i64 a5), .p (.int .i64 a6), .p (.int .i64 a7), .p (.int .i64 a8), .p (.int .i64 a9), .p (.int .i64 a10)]] = some (.agg [.p (.int .i64 a0), .p (.int .i64 a1), .p (.int .i64 a2), .p (.int .i64 a3), .p (.int .i64 a4), .p (.int .i64 a5), .p (.int .i64 a6), .p (.int .i64 a7), .p (.int .i64 a8), .p (.int .i64 a9), .p (.int .i64 a10)], []) := by
  have := toR_at (sh_Rule_mkHas  a0 a1 a2 a3 a4 a5 a6 a7 a8 a9 a10) (by simp only [szCs, szC]; omega)
  simpa only [fzCs, fzC, tvCs, tvC_v, tvC_nl, tvC_sl, bkCs, bkC, nbC, nbCs, Nat.add_zero, List.append_nil, List.nil_append, Nat.zero_add] using this
-- laws.toRule
def c88 : AF := ⟨15,
 (.seq (.reg [rO 1 (.box 129 (.t 0)),
 rO 2 (.alloc 105 [(.int .i64 0), (.int .i64 0), (.int .i64 0), (.int .i64 0), (.int .i64 0), (.int .i64 0), (.int .i64 0), (.int .i64 0), (.int .i64 0), (.int .i64 0), (.int .i64 0)])])
 (.seq (.reg [rO 3 (.alloc 105 [(.int .i64 0), (.int .i64 0), (.int .i64 0), (.int .i64 0), (.int .i64 0), (.int .i64 0), (.int .i64 0), (.int .i64 0), (.int .i64 0), (.int .i64 0), (.int .i64 0)])])
 (.seq (.reg [rO 4 (.fa (.t 1) 0),
 rO 5 (.ldn 9 (.t 4)),
 rO 6 (.call 111 [(.t 5)]),
 rO 7 (.fa (.t 3) 0),
 ⟨none, none, .st 9 (.t 7) (.t 6)⟩])
 (.seq (.reg [rO 8 (.fa (.t 1) 9),
 rO 9 (.ld (.t 8)),
 rO 10 (.fa (.t 3) 9),
 ⟨none, none, .st 1 (.t 10) (.t 9)⟩])
 (.seq (.reg [rO 11 (.fa (.t 1) 10),
 rO 12 (.ld (.t 11)),
 rO 13 (.fa (.t 3) 10),
 ⟨none, none, .st 1 (.t 13) (.t 12)⟩])
 (.seq (.reg [rO 14 (.ldn 11 (.t 3)),
 ⟨none, none, .st 11 (.t 2) (.t 14)⟩])
 .ret)))))),
 [.cell 2 (some 11)]⟩
theorem k88 : cFn Tryz.prog Tryz.f88 = some c88 := by kernel_rfl
theorem toRule_ok : OkT Tryz.prog 88 (pureSp (toR_S sh_Rule)) := by
  refine okT_toR (OkΓT.cons toSel_ok (OkΓT.nil _)) Tryz.func88 (by kernel_rfl) k88 ?_
  intro c hc hz
  obtain ⟨a0, a1, a2, a3, a4, a5, a6, a7, a8, a9, a10, rfl⟩ := sh_Rule_Has hc
  simp only [szCs, szC] at hz
  simp only [fzCs, fzC]
  (dsimp only [c88, rO]; simp (maxSteps := 8000000) -implicitDefEqProofs (disch := omega) only [↓reduceIte, go_sem, to_Sel_at])
  refine endT_cells' 3 (.inr rfl) (by (simp (maxSteps := 8000000) -implicitDefEqProofs (disch := omega) only [↓reduceIte, go_sem, fzCs, fzC, tvCs, tvC_v, tvC_nl, tvC_sl, bkCs, bkC, nbC, nbCs, Nat.add_zero, List.append_nil, List.nil_append]) <;> rfl) ?_ (by simp only [List.length_cons]; omega)
  simp only [List.drop_succ_cons, List.drop_zero, bkCs, bkC, nbC, Nat.add_zero, List.append_nil, List.nil_append, List.cons_append, Nat.add_assoc]
theorem eq_Rule_at  (a0 : Int) (a1 : Int) (a2 : Int) (a3 : Int) (a4 : Int) (a5 : Int) (a6 : Int) (a7 : Int) (a8 : Int) (a9 : Int) (a10 : Int) : eqR_S sh_Rule [.agg [.p (.int .i64 a0), .p (.int .i64 a1), .p (.int .i64 a2), .p (.int .i64 a3), .p (.int .i64 a4), .p (.int .i64 a5), .p (.int .i64 a6), .p (.int .i64 a7), .p (.int .i64 a8), .p (.int .i64 a9), .p (.int .i64 a10)], .agg [.p (.int .i64 a0), .p (.int .i64 a1), .p (.int .i64 a2), .p (.int .i64 a3), .p (.int .i64 a4), .p (.int .i64 a5), .p (.int .i64 a6), .p (.int .i64 a7), .p (.int .i64 a8), .p (.int .i64 a9), .p (.int .i64 a10)]] = some (.p (.bool true), []) := by
  exact eqR_at (sh_Rule_mkFit  a0 a1 a2 a3 a4 a5 a6 a7 a8 a9 a10) (by simp only [szCs, szC]; omega)
-- laws.eqRule
def c104 : AF := ⟨21,
 (.seq (.reg [rO 2 (.box 105 (.t 0)),
 rO 3 (.box 105 (.t 1)),
 rO 4 (.mv (.v (.bool false)))])
 (.seq (.seq (.reg [rO 5 (.fa (.t 2) 0),
 rO 6 (.ldn 9 (.t 5)),
 rO 7 (.fa (.t 3) 0),
 rO 8 (.ldn 9 (.t 7)),
 rO 9 (.call 118 [(.t 6), (.t 8)]),
 rO 10 (.un .not (.t 9))])
 (.cond (.t 10) (.seq (.reg [rO 4 (.mv (.v (.bool false)))])
 .ret)
 .skip))
 (.seq (.seq (.reg [rO 11 (.fa (.t 2) 9),
 rO 12 (.ld (.t 11)),
 rO 13 (.fa (.t 3) 9),
 rO 14 (.ld (.t 13)),
 rO 15 (.bin .neq (.t 12) (.t 14))])
 (.cond (.t 15) (.seq (.reg [rO 4 (.mv (.v (.bool false)))])
 .ret)
 .skip))
 (.seq (.seq (.reg [rO 16 (.fa (.t 2) 10),
 rO 17 (.ld (.t 16)),
 rO 18 (.fa (.t 3) 10),
 rO 19 (.ld (.t 18)),
 rO 20 (.bin .neq (.t 17) (.t 19))])
 (.cond (.t 20) (.seq (.reg [rO 4 (.mv (.v (.bool false)))])
 .ret)
 .skip))
 (.seq (.reg [rO 4 (.mv (.v (.bool true)))])
 .ret))))),
 [.t 4]⟩
theorem k104 : cFn Tryz.prog Tryz.f104 = some c104 := by kernel_rfl
theorem eqRule_ok : OkT Tryz.prog 104 (pureSp (eqR_S sh_Rule)) := by
  refine okT_eqR (OkΓT.cons eqSel_ok (OkΓT.nil _)) Tryz.func104 (by kernel_rfl) k104 ?_
  intro c hc hz
  obtain ⟨a0, a1, a2, a3, a4, a5, a6, a7, a8, a9, a10, rfl⟩ := sh_Rule_Fit hc
  simp only [szCs, szC] at hz
  simp only [fzCs, fzC]
  (dsimp only [c104, rO]; simp (maxSteps := 8000000) -implicitDefEqProofs (disch := omega) only [↓reduceIte, go_sem, eq_Sel_at])
  repeat' first
    | ((first | refine gdKT_deq (fun hg hG => ?_) (fun hg hG => ?_) | refine condKT_deq (fun hg hG => ?_) (fun hg hG => ?_)) <;> (try simp (maxSteps := 8000000) -implicitDefEqProofs (disch := omega) only [↓reduceIte, go_sem, hG, eq_Sel_at]) <;> clear hG)
    | ((first | refine gdKT_split (fun hg => ?_) (fun hg => ?_) | refine condKT_split (fun hg => ?_) (fun hg => ?_)) <;> (try simp (maxSteps := 8000000) -implicitDefEqProofs (disch := omega) only [↓reduceIte, go_sem, hg, eq_Sel_at]))
    | (refine endT_p (.inr rfl) (by simp (maxSteps := 8000000) -implicitDefEqProofs (disch := omega) only [↓reduceIte, go_sem, eq_Sel_at]; rfl) ?_; (first | exact vb_true (by omega) | exact vb_false (by omega) | exact vb_dec (by omega) | exact vi_eq (by omega) | rfl | (refine vi_eq ?_; simp_all; first | done | (intros; omega))))
    | exact endT_v (.inr rfl) (by simp (maxSteps := 8000000) -implicitDefEqProofs (disch := omega) only [↓reduceIte, go_sem, eq_Sel_at]; try rfl) (fun _ => rfl)
def sh_RuleS : Shp := .sl 105 sh_Rule
-- laws.toRuleS
def c38 : AF := ⟨23,
 (.seq (.reg [rO 2 (.mv (.v (.slice none 0 0)))])
 (.seq (.reg [rO 5 (.mv (.t 0)),
 rO 6 (.len (.t 5)),
 rO 7 (.mkSl 105 11 88 [(.int .i64 0), (.int .i64 0), (.int .i64 0), (.int .i64 0), (.int .i64 0), (.int .i64 0), (.int .i64 0), (.int .i64 0), (.int .i64 0), (.int .i64 0), (.int .i64 0)] (.t 6) (.t 6)),
 rO 3 (.mv (.t 7))])
 (.seq (.seq (.reg [rO 4 (.mv (.v (.int .i64 0)))])
 (.block 0 (.loop (.seq (.seq (.reg [rO 8 (.mv (.t 4)),
 rO 9 (.mv (.t 0)),
 rO 10 (.len (.t 9)),
 rO 11 (.bin .lss (.t 8) (.t 10))])
 (.cond (.t 11) .skip
 (.exit 0)))
 (.seq (.block 1 (.reg [rO 14 (.mv (.t 3)),
 rO 15 (.mv (.t 4)),
 rO 16 (.mv (.t 0)),
 rO 17 (.mv (.t 4)),
 rO 18 (.ia 11 (.t 16) (.t 17)),
 rO 19 (.ldn 11 (.t 18)),
 rO 20 (.call 88 [(.t 19)]),
 rO 21 (.ia 11 (.t 14) (.t 15)),
 ⟨none, none, .st 11 (.t 21) (.t 20)⟩]))
 (.reg [rO 12 (.mv (.t 4)),
 rO 13 (.bin .add (.t 12) (.v (.int .i64 1))),
 rO 4 (.mv (.t 13))]))))))
 (.seq (.reg [rO 22 (.mv (.t 3)),
 rO 2 (.mv (.t 22))])
 .ret)))),
 [.t 2]⟩
theorem k38 : cFn Tryz.prog Tryz.f38 = some c38 := by kernel_rfl
theorem toRuleS_ok : OkT Tryz.prog 38 (pureSp (toC_S sh_RuleS)) := by
  refine okT_toC (OkΓT.cons toRule_ok (OkΓT.nil _)) Tryz.func38 (by kernel_rfl) k38 ?_
  intro c hc hz
  simp only [sh_RuleS, HasC] at hc
  obtain ⟨rows, rfl, hr⟩ := hc
  simp only [szC] at hz
  have hlen : ∀ r ∈ rows, r.length = 11 := fun r hx => (hr r hx).len
  generalize hzz : (el [.p (.int .i64 0), .p (.int .i64 0), .p (.int .i64 0), .p (.int .i64 0), .p (.int .i64 0), .p (.int .i64 0), .p (.int .i64 0), .p (.int .i64 0), .p (.int .i64 0), .p (.int .i64 0), .p (.int .i64 0)] : TV) = z0
  have hz1 : cellsT z0 = [.p (.int .i64 0), .p (.int .i64 0), .p (.int .i64 0), .p (.int .i64 0), .p (.int .i64 0), .p (.int .i64 0), .p (.int .i64 0), .p (.int .i64 0), .p (.int .i64 0), .p (.int .i64 0), .p (.int .i64 0)] := by rw [← hzz]; rfl
  simp only [fzC, tvC_v, tvC_nl, tvC_sl, bkC]
  (dsimp only [c38, rO]; simp (maxSteps := 8000000) -implicitDefEqProofs (disch := omega) only [↓reduceIte, go_sem, hzz, mixR_zero 1 rows z0])
  refine awpT_loop (α := Nat) (fun i => ⟨slots [(0, .s (fzRs rows)), (3, .os 0 0 rows.length), (4, .p (.int .i64 i))], .cells 105 11 (mixR 1 rows z0 i) :: bkRs 1 (rows.take i)⟩)
    (fun i => i ≤ rows.length) (fun i => rows.length - i) 0 (Nat.zero_le _) (by simp only [List.take_zero, bkRs]; exact le_keep (Nat.zero_le _) (by simp (maxSteps := 8000000) -implicitDefEqProofs (disch := omega) only [↓reduceIte, go_sem, slotsIn])) ?_
  intro i hi
  simp (maxSteps := 8000000) -implicitDefEqProofs (disch := omega) only [↓reduceIte, go_sem, mixR_len 1 rows z0 hi]
  refine condKT_dec (fun hlt => ?_) (fun hge => ?_)
  · obtain ⟨r, hx⟩ := get_ex (l := rows) (i := i) (by omega)
    have hrr := hr r (List.mem_of_getElem? hx)
    have hzr := szRs_mem hx
    have hg := fzRs_get hx; have hm := mixR_get 1 (rows := rows) z0 (i := i) (by omega)
    have hs := mixR_set 1 z0 hx; have hb := bkRs_snoc 1 hx; have hn := bkRs_len 1 (rows.take i)
    obtain ⟨a0, a1, a2, a3, a4, a5, a6, a7, a8, a9, a10, rfl⟩ := sh_Rule_Has hrr
    simp only [szCs, szC] at hzr
    simp only [fzCs, fzC, tvCs, tvC_v, tvC_nl, tvC_sl, bkCs, bkC, nbC, nbCs, Nat.add_zero, List.append_nil, List.nil_append, el_one, el_two, Nat.add_comm 1 (nbRs _)] at hg hs hb
    simp (maxSteps := 8000000) -implicitDefEqProofs (disch := omega) only [↓reduceIte, go_sem, eq_true hlt, hg, hm, hs, hn, hz1, el_two, to_Rule_at]
    refine loopKT_next (i + 1) (by omega) (by omega) ?_
    rw [hb]; refine (le_keep (Nat.zero_le _) ?_) <;> simp (maxSteps := 8000000) -implicitDefEqProofs (disch := omega) only [↓reduceIte, go_sem, slotsIn]
  · have hb : rows.take i = rows := List.take_of_length_le (by omega)
    have hm := mixR_full 1 (rows := rows) z0 (i := i) (by omega)
    simp (maxSteps := 8000000) -implicitDefEqProofs (disch := omega) only [↓reduceIte, go_sem, eq_false hge, hb, hm]
    refine joinK_here ?_
    simp (maxSteps := 8000000) -implicitDefEqProofs (disch := omega) only [↓reduceIte, go_sem]
    exact endT_same (.inr rfl) (by (simp (maxSteps := 8000000) -implicitDefEqProofs (disch := omega) only [↓reduceIte, go_sem]) <;> rfl) rfl
-- laws.eqRuleS
def c46 : AF := ⟨27,
 (.seq (.reg [rO 4 (.mv (.v (.bool false)))])
 (.seq (.seq (.reg [rO 6 (.mv (.t 0)),
 rO 7 (.len (.t 6)),
 rO 8 (.mv (.t 1)),
 rO 9 (.len (.t 8)),
 rO 10 (.bin .neq (.t 7) (.t 9))])
 (.cond (.t 10) (.seq (.reg [rO 4 (.mv (.v (.bool false)))])
 .ret)
 .skip))
 (.seq (.seq (.reg [rO 5 (.mv (.v (.int .i64 0)))])
 (.block 0 (.loop (.seq (.seq (.reg [rO 11 (.mv (.t 5)),
 rO 12 (.mv (.t 0)),
 rO 13 (.len (.t 12)),
 rO 14 (.bin .lss (.t 11) (.t 13))])
 (.cond (.t 14) .skip
 (.exit 0)))
 (.seq (.block 1 (.seq (.drw [rO 17 (.mv (.t 0)),
 rO 18 (.mv (.t 5)),
 rO 19 (.ia 11 (.t 17) (.t 18)),
 rO 20 (.ldn 11 (.t 19)),
 rO 21 (.mv (.t 1)),
 rO 22 (.mv (.t 5)),
 rO 23 (.ia 11 (.t 21) (.t 22)),
 rO 24 (.ldn 11 (.t 23))] [rO 25 (.call 104 [(.t 20), (.t 24)]),
 rO 26 (.un .not (.t 25))])
 (.cond (.t 26) (.seq (.reg [rO 4 (.mv (.v (.bool false)))])
 .ret)
 .skip)))
 (.reg [rO 15 (.mv (.t 5)),
 rO 16 (.bin .add (.t 15) (.v (.int .i64 1))),
 rO 5 (.mv (.t 16))]))))))
 (.seq (.reg [rO 4 (.mv (.v (.bool true)))])
 .ret)))),
 [.t 4]⟩
theorem k46 : cFn Tryz.prog Tryz.f46 = some c46 := by kernel_rfl
theorem eqRuleS_ok : OkT Tryz.prog 46 (pureSp (eqC_S sh_RuleS)) := by
  refine okT_eqC (OkΓT.cons eqRule_ok (OkΓT.nil _)) Tryz.func46 (by kernel_rfl) k46 ?_
  intro c hc hz
  obtain ⟨rows, hf, hr, hsz, _⟩ := FitC.rows hc
  rw [hf]
  (dsimp only [c46, rO]; simp (maxSteps := 8000000) -implicitDefEqProofs (disch := omega) only [↓reduceIte, go_sem])
  refine awpT_loop (α := Nat) (fun i => ⟨slots [(0, .s (fzRs rows)), (1, .s (fzRs rows)), (5, .p (.int .i64 i))], []⟩) (fun i => i ≤ rows.length) (fun i => rows.length - i) 0 (Nat.zero_le _) (le_of [] (by simp (maxSteps := 8000000) -implicitDefEqProofs (disch := omega) only [↓reduceIte, go_sem]) (by simp (maxSteps := 8000000) -implicitDefEqProofs (disch := omega) only [↓reduceIte, go_sem]) (by decide) (by simp)) ?_
  intro i hi
  simp (maxSteps := 8000000) -implicitDefEqProofs (disch := omega) only [↓reduceIte, go_sem]
  refine condKT_dec (fun hlt => ?_) (fun hge => ?_)
  · obtain ⟨r, hx⟩ := get_ex (l := rows) (i := i) (by omega)
    have hrr := hr r (List.mem_of_getElem? hx)
    have hzr := szRs_mem hx
    have hg := fzRs_get hx
    obtain ⟨a0, a1, a2, a3, a4, a5, a6, a7, a8, a9, a10, rfl⟩ := sh_Rule_Fit hrr
    simp only [szCs, szC] at hzr
    simp only [fzCs, fzC, el_one, el_two] at hg
    simp (maxSteps := 8000000) -implicitDefEqProofs (disch := omega) only [↓reduceIte, go_sem, eq_true hlt, hg, eq_Rule_at]
    refine loopKT_next (i + 1) (by omega) (by omega) ?_
    exact (le_of [] (by simp (maxSteps := 8000000) -implicitDefEqProofs (disch := omega) only [↓reduceIte, go_sem]) (by simp (maxSteps := 8000000) -implicitDefEqProofs (disch := omega) only [↓reduceIte, go_sem]) (by decide) (by simp))
  · simp (maxSteps := 8000000) -implicitDefEqProofs (disch := omega) only [↓reduceIte, go_sem, eq_false hge]
    refine joinK_here ?_
    simp (maxSteps := 8000000) -implicitDefEqProofs (disch := omega) only [↓reduceIte, go_sem]
    repeat' first
      | ((first | refine gdKT_deq (fun hg hG => ?_) (fun hg hG => ?_) | refine condKT_deq (fun hg hG => ?_) (fun hg hG => ?_)) <;> (try simp (maxSteps := 8000000) -implicitDefEqProofs (disch := omega) only [↓reduceIte, go_sem, hG]) <;> clear hG)
      | ((first | refine gdKT_split (fun hg => ?_) (fun hg => ?_) | refine condKT_split (fun hg => ?_) (fun hg => ?_)) <;> (try simp (maxSteps := 8000000) -implicitDefEqProofs (disch := omega) only [↓reduceIte, go_sem, hg]))
      | (refine endT_p (.inr rfl) (by simp (maxSteps := 8000000) -implicitDefEqProofs (disch := omega) only [↓reduceIte, go_sem]; rfl) ?_; (first | exact vb_true (by omega) | exact vb_false (by omega) | exact vb_dec (by omega) | exact vi_eq (by omega) | rfl | (refine vi_eq ?_; simp_all; first | done | (intros; omega))))
      | exact endT_v (.inr rfl) (by simp (maxSteps := 8000000) -implicitDefEqProofs (disch := omega) only [↓reduceIte, go_sem]; try rfl) (fun _ => rfl)
-- laws.szRuleS
def c29 : AF := ⟨12,
 (.seq (.reg [rO 4 (.mv (.v (.int .i64 0)))])
 (.seq (.reg [rO 5 (.mv (.t 1)),
 rO 6 (.mv (.t 0)),
 rO 7 (.len (.t 6)),
 rO 8 (.bin .sub (.t 5) (.t 7)),
 rO 1 (.mv (.t 8))])
 (.seq (.seq (.reg [rO 9 (.mv (.t 1)),
 rO 10 (.bin .lss (.t 9) (.v (.int .i64 0)))])
 (.cond (.t 10) (.seq (.reg [rO 4 (.mv (.v (.int .i64 (-1))))])
 .ret)
 .skip))
 (.seq (.reg [rO 11 (.mv (.t 1)),
 rO 4 (.mv (.t 11))])
 .ret)))),
 [.t 4]⟩
theorem k29 : cFn Tryz.prog Tryz.f29 = some c29 := by kernel_rfl
theorem szRuleS_ok : OkT Tryz.prog 29 (pureSp (szC_S sh_RuleS)) := by
  refine okT_szC (OkΓT.nil _) Tryz.func29 (by kernel_rfl) k29 ?_
  intro c k hc h1 h2 hz
  simp only [sh_RuleS, HasC] at hc
  obtain ⟨rows, rfl, hr⟩ := hc
  generalize hN : szC _ = N at *
  simp only [szC] at hN
  simp only [lnC, Bool.and_eq_true, decide_eq_true_eq] at hz
  obtain ⟨hz, hzr⟩ := hz
  simp only [fzC]
  have hz0 : szRs rows = 0 := szRs_zero fun r hx => by
    have hrr := hr r hx
    obtain ⟨a0, a1, a2, a3, a4, a5, a6, a7, a8, a9, a10, rfl⟩ := sh_Rule_Has hrr
    rfl
  by_cases q : (rows.length : Int) ≤ k
  · rw [if_pos (by omega), show (N : Int) = rows.length by omega]
    (dsimp only [c29, rO]; simp (maxSteps := 8000000) -implicitDefEqProofs (disch := omega) only [↓reduceIte, go_sem])
    repeat' first
      | ((first | refine gdKT_deq (fun hg hG => ?_) (fun hg hG => ?_) | refine condKT_deq (fun hg hG => ?_) (fun hg hG => ?_)) <;> (try simp (maxSteps := 8000000) -implicitDefEqProofs (disch := omega) only [↓reduceIte, go_sem, hG]) <;> clear hG)
      | ((first | refine gdKT_split (fun hg => ?_) (fun hg => ?_) | refine condKT_split (fun hg => ?_) (fun hg => ?_)) <;> (try simp (maxSteps := 8000000) -implicitDefEqProofs (disch := omega) only [↓reduceIte, go_sem, hg]))
      | (refine endT_p (.inr rfl) (by simp (maxSteps := 8000000) -implicitDefEqProofs (disch := omega) only [↓reduceIte, go_sem]; rfl) ?_; (first | exact vb_true (by omega) | exact vb_false (by omega) | exact vb_dec (by omega) | exact vi_eq (by omega) | rfl | (refine vi_eq ?_; simp_all; first | done | (intros; omega))))
      | exact endT_v (.inr rfl) (by simp (maxSteps := 8000000) -implicitDefEqProofs (disch := omega) only [↓reduceIte, go_sem]; try rfl) (fun _ => rfl)
  · rw [if_neg (by omega)]
    (dsimp only [c29, rO]; simp (maxSteps := 8000000) -implicitDefEqProofs (disch := omega) only [↓reduceIte, go_sem])
    repeat' first
      | ((first | refine gdKT_deq (fun hg hG => ?_) (fun hg hG => ?_) | refine condKT_deq (fun hg hG => ?_) (fun hg hG => ?_)) <;> (try simp (maxSteps := 8000000) -implicitDefEqProofs (disch := omega) only [↓reduceIte, go_sem, hG]) <;> clear hG)
      | ((first | refine gdKT_split (fun hg => ?_) (fun hg => ?_) | refine condKT_split (fun hg => ?_) (fun hg => ?_)) <;> (try simp (maxSteps := 8000000) -implicitDefEqProofs (disch := omega) only [↓reduceIte, go_sem, hg]))
      | (refine endT_p (.inr rfl) (by simp (maxSteps := 8000000) -implicitDefEqProofs (disch := omega) only [↓reduceIte, go_sem]; rfl) ?_; (first | exact vb_true (by omega) | exact vb_false (by omega) | exact vb_dec (by omega) | exact vi_eq (by omega) | rfl | (refine vi_eq ?_; simp_all; first | done | (intros; omega))))
      | exact endT_v (.inr rfl) (by simp (maxSteps := 8000000) -implicitDefEqProofs (disch := omega) only [↓reduceIte, go_sem]; try rfl) (fun _ => rfl)
/-! Peer -/
def sh_Peer : List Shp := [.i .i64, .i .i64]
theorem sh_Peer_Has {cs : List Cell} (h : HasR sh_Peer cs) : ∃ (a0 : Int) (a1 : Int), cs = [.v (.int .i64 a0), .v (.int .i64 a1)] := by
  obtain ⟨_, _, rfl, ⟨a0, rfl, _⟩, _, _, rfl, ⟨a1, rfl, _⟩, h⟩ := h
  simp only [HasR] at h; subst h
  exact ⟨a0, a1, rfl⟩
theorem sh_Peer_mkHas  (a0 : Int) (a1 : Int) : HasR sh_Peer [.v (.int .i64 a0), .v (.int .i64 a1)] := by
  exact ⟨_, _, rfl, ⟨_, rfl, fun h => by cases h⟩, _, _, rfl, ⟨_, rfl, fun h => by cases h⟩, rfl⟩
theorem sh_Peer_Fit {cs : List Cell} (h : FitR sh_Peer cs) : ∃ (a0 : Int) (a1 : Int), cs = [.v (.int .i64 a0), .v (.int .i64 a1)] := by
  obtain ⟨_, _, rfl, ⟨a0, rfl⟩, _, _, rfl, ⟨a1, rfl⟩, h⟩ := h
  simp only [FitR] at h; subst h
  exact ⟨a0, a1, rfl⟩
theorem sh_Peer_mkFit  (a0 : Int) (a1 : Int) : FitR sh_Peer [.v (.int .i64 a0), .v (.int .i64 a1)] := by
  exact ⟨_, _, rfl, ⟨_, rfl⟩, _, _, rfl, ⟨_, rfl⟩, rfl⟩
theorem to_Peer_at  (a0 : Int) (a1 : Int) : toR_S sh_Peer [.agg [.p (.int .i64 a0), .p (.int .i64 a1)]] = some (.agg [.p (.int .i64 a0), .p (.int .i64 a1)], []) := by
  have := toR_at (sh_Peer_mkHas  a0 a1) (by simp only [szCs, szC]; omega)
  simpa only [fzCs, fzC, tvCs, tvC_v, tvC_nl, tvC_sl, bkCs, bkC, nbC, nbCs, Nat.add_zero, List.append_nil, List.nil_append, Nat.zero_add] using this
-- laws.toPeer
def c89 : AF := ⟨11,
 (.seq (.reg [rO 1 (.box 133 (.t 0)),
 rO 2 (.alloc 131 [(.int .i64 0), (.int .i64 0)])])
 (.seq (.reg [rO 3 (.alloc 131 [(.int .i64 0), (.int .i64 0)])])
 (.seq (.reg [rO 4 (.fa (.t 1) 0),
 rO 5 (.ld (.t 4)),
 rO 6 (.fa (.t 3) 0),
 ⟨none, none, .st 1 (.t 6) (.t 5)⟩])
 (.seq (.reg [rO 7 (.fa (.t 1) 1),
 rO 8 (.ld (.t 7)),
 rO 9 (.fa (.t 3) 1),
 ⟨none, none, .st 1 (.t 9) (.t 8)⟩])
 (.seq (.reg [rO 10 (.ldn 2 (.t 3)),
 ⟨none, none, .st 2 (.t 2) (.t 10)⟩])
 .ret))))),
 [.cell 2 (some 2)]⟩
theorem k89 : cFn Tryz.prog Tryz.f89 = some c89 := by kernel_rfl
theorem toPeer_ok : OkT Tryz.prog 89 (pureSp (toR_S sh_Peer)) := by
  refine okT_toR (OkΓT.nil _) Tryz.func89 (by kernel_rfl) k89 ?_
  intro c hc hz
  obtain ⟨a0, a1, rfl⟩ := sh_Peer_Has hc
  simp only [szCs, szC] at hz
  simp only [fzCs, fzC]
  (dsimp only [c89, rO]; simp (maxSteps := 8000000) -implicitDefEqProofs (disch := omega) only [↓reduceIte, go_sem])
  refine endT_cells' 3 (.inr rfl) (by (simp (maxSteps := 8000000) -implicitDefEqProofs (disch := omega) only [↓reduceIte, go_sem, fzCs, fzC, tvCs, tvC_v, tvC_nl, tvC_sl, bkCs, bkC, nbC, nbCs, Nat.add_zero, List.append_nil, List.nil_append]) <;> rfl) ?_ (by simp only [List.length_cons]; omega)
  simp only [List.drop_succ_cons, List.drop_zero, bkCs, bkC, nbC, Nat.add_zero, List.append_nil, List.nil_append, List.cons_append, Nat.add_assoc]
theorem eq_Peer_at  (a0 : Int) (a1 : Int) : eqR_S sh_Peer [.agg [.p (.int .i64 a0), .p (.int .i64 a1)], .agg [.p (.int .i64 a0), .p (.int .i64 a1)]] = some (.p (.bool true), []) := by
  exact eqR_at (sh_Peer_mkFit  a0 a1) (by simp only [szCs, szC]; omega)
-- laws.eqPeer
def c105 : AF := ⟨15,
 (.seq (.reg [rO 2 (.box 131 (.t 0)),
 rO 3 (.box 131 (.t 1)),
 rO 4 (.mv (.v (.bool false)))])
 (.seq (.seq (.reg [rO 5 (.fa (.t 2) 0),
 rO 6 (.ld (.t 5)),
 rO 7 (.fa (.t 3) 0),
 rO 8 (.ld (.t 7)),
 rO 9 (.bin .neq (.t 6) (.t 8))])
 (.cond (.t 9) (.seq (.reg [rO 4 (.mv (.v (.bool false)))])
 .ret)
 .skip))
 (.seq (.seq (.reg [rO 10 (.fa (.t 2) 1),
 rO 11 (.ld (.t 10)),
 rO 12 (.fa (.t 3) 1),
 rO 13 (.ld (.t 12)),
 rO 14 (.bin .neq (.t 11) (.t 13))])
 (.cond (.t 14) (.seq (.reg [rO 4 (.mv (.v (.bool false)))])
 .ret)
 .skip))
 (.seq (.reg [rO 4 (.mv (.v (.bool true)))])
 .ret)))),
 [.t 4]⟩
theorem k105 : cFn Tryz.prog Tryz.f105 = some c105 := by kernel_rfl
theorem eqPeer_ok : OkT Tryz.prog 105 (pureSp (eqR_S sh_Peer)) := by
  refine okT_eqR (OkΓT.nil _) Tryz.func105 (by kernel_rfl) k105 ?_
  intro c hc hz
  obtain ⟨a0, a1, rfl⟩ := sh_Peer_Fit hc
  simp only [szCs, szC] at hz
  simp only [fzCs, fzC]
  (dsimp only [c105, rO]; simp (maxSteps := 8000000) -implicitDefEqProofs (disch := omega) only [↓reduceIte, go_sem])
  repeat' first
    | ((first | refine gdKT_deq (fun hg hG => ?_) (fun hg hG => ?_) | refine condKT_deq (fun hg hG => ?_) (fun hg hG => ?_)) <;> (try simp (maxSteps := 8000000) -implicitDefEqProofs (disch := omega) only [↓reduceIte, go_sem, hG]) <;> clear hG)
    | ((first | refine gdKT_split (fun hg => ?_) (fun hg => ?_) | refine condKT_split (fun hg => ?_) (fun hg => ?_)) <;> (try simp (maxSteps := 8000000) -implicitDefEqProofs (disch := omega) only [↓reduceIte, go_sem, hg]))
    | (refine endT_p (.inr rfl) (by simp (maxSteps := 8000000) -implicitDefEqProofs (disch := omega) only [↓reduceIte, go_sem]; rfl) ?_; (first | exact vb_true (by omega) | exact vb_false (by omega) | exact vb_dec (by omega) | exact vi_eq (by omega) | rfl | (refine vi_eq ?_; simp_all; first | done | (intros; omega))))
    | exact endT_v (.inr rfl) (by simp (maxSteps := 8000000) -implicitDefEqProofs (disch := omega) only [↓reduceIte, go_sem]; try rfl) (fun _ => rfl)
def sh_PeerS : Shp := .sl 131 sh_Peer
-- laws.toPeerS
def c39 : AF := ⟨23,
 (.seq (.reg [rO 2 (.mv (.v (.slice none 0 0)))])
 (.seq (.reg [rO 5 (.mv (.t 0)),
 rO 6 (.len (.t 5)),
 rO 7 (.mkSl 131 2 16 [(.int .i64 0), (.int .i64 0)] (.t 6) (.t 6)),
 rO 3 (.mv (.t 7))])
 (.seq (.seq (.reg [rO 4 (.mv (.v (.int .i64 0)))])
 (.block 0 (.loop (.seq (.seq (.reg [rO 8 (.mv (.t 4)),
 rO 9 (.mv (.t 0)),
 rO 10 (.len (.t 9)),
 rO 11 (.bin .lss (.t 8) (.t 10))])
 (.cond (.t 11) .skip
 (.exit 0)))
 (.seq (.block 1 (.reg [rO 14 (.mv (.t 3)),
 rO 15 (.mv (.t 4)),
 rO 16 (.mv (.t 0)),
 rO 17 (.mv (.t 4)),
 rO 18 (.ia 2 (.t 16) (.t 17)),
 rO 19 (.ldn 2 (.t 18)),
 rO 20 (.call 89 [(.t 19)]),
 rO 21 (.ia 2 (.t 14) (.t 15)),
 ⟨none, none, .st 2 (.t 21) (.t 20)⟩]))
 (.reg [rO 12 (.mv (.t 4)),
 rO 13 (.bin .add (.t 12) (.v (.int .i64 1))),
 rO 4 (.mv (.t 13))]))))))
 (.seq (.reg [rO 22 (.mv (.t 3)),
 rO 2 (.mv (.t 22))])
 .ret)))),
 [.t 2]⟩
theorem k39 : cFn Tryz.prog Tryz.f39 = some c39 := by kernel_rfl
theorem toPeerS_ok : OkT Tryz.prog 39 (pureSp (toC_S sh_PeerS)) := by
  refine okT_toC (OkΓT.cons toPeer_ok (OkΓT.nil _)) Tryz.func39 (by kernel_rfl) k39 ?_
  intro c hc hz
  simp only [sh_PeerS, HasC] at hc
  obtain ⟨rows, rfl, hr⟩ := hc
  simp only [szC] at hz
  have hlen : ∀ r ∈ rows, r.length = 2 := fun r hx => (hr r hx).len
  generalize hzz : (el [.p (.int .i64 0), .p (.int .i64 0)] : TV) = z0
  have hz1 : cellsT z0 = [.p (.int .i64 0), .p (.int .i64 0)] := by rw [← hzz]; rfl
  simp only [fzC, tvC_v, tvC_nl, tvC_sl, bkC]
  (dsimp only [c39, rO]; simp (maxSteps := 8000000) -implicitDefEqProofs (disch := omega) only [↓reduceIte, go_sem, hzz, mixR_zero 1 rows z0])
  refine awpT_loop (α := Nat) (fun i => ⟨slots [(0, .s (fzRs rows)), (3, .os 0 0 rows.length), (4, .p (.int .i64 i))], .cells 131 2 (mixR 1 rows z0 i) :: bkRs 1 (rows.take i)⟩)
    (fun i => i ≤ rows.length) (fun i => rows.length - i) 0 (Nat.zero_le _) (by simp only [List.take_zero, bkRs]; exact le_keep (Nat.zero_le _) (by simp (maxSteps := 8000000) -implicitDefEqProofs (disch := omega) only [↓reduceIte, go_sem, slotsIn])) ?_
  intro i hi
  simp (maxSteps := 8000000) -implicitDefEqProofs (disch := omega) only [↓reduceIte, go_sem, mixR_len 1 rows z0 hi]
  refine condKT_dec (fun hlt => ?_) (fun hge => ?_)
  · obtain ⟨r, hx⟩ := get_ex (l := rows) (i := i) (by omega)
    have hrr := hr r (List.mem_of_getElem? hx)
    have hzr := szRs_mem hx
    have hg := fzRs_get hx; have hm := mixR_get 1 (rows := rows) z0 (i := i) (by omega)
    have hs := mixR_set 1 z0 hx; have hb := bkRs_snoc 1 hx; have hn := bkRs_len 1 (rows.take i)
    obtain ⟨a0, a1, rfl⟩ := sh_Peer_Has hrr
    simp only [szCs, szC] at hzr
    simp only [fzCs, fzC, tvCs, tvC_v, tvC_nl, tvC_sl, bkCs, bkC, nbC, nbCs, Nat.add_zero, List.append_nil, List.nil_append, el_one, el_two, Nat.add_comm 1 (nbRs _)] at hg hs hb
    simp (maxSteps := 8000000) -implicitDefEqProofs (disch := omega) only [↓reduceIte, go_sem, eq_true hlt, hg, hm, hs, hn, hz1, el_two, to_Peer_at]
    refine loopKT_next (i + 1) (by omega) (by omega) ?_
    rw [hb]; refine (le_keep (Nat.zero_le _) ?_) <;> simp (maxSteps := 8000000) -implicitDefEqProofs (disch := omega) only [↓reduceIte, go_sem, slotsIn]
  · have hb : rows.take i = rows := List.take_of_length_le (by omega)
    have hm := mixR_full 1 (rows := rows) z0 (i := i) (by omega)
    simp (maxSteps := 8000000) -implicitDefEqProofs (disch := omega) only [↓reduceIte, go_sem, eq_false hge, hb, hm]
    refine joinK_here ?_
    simp (maxSteps := 8000000) -implicitDefEqProofs (disch := omega) only [↓reduceIte, go_sem]
    exact endT_same (.inr rfl) (by (simp (maxSteps := 8000000) -implicitDefEqProofs (disch := omega) only [↓reduceIte, go_sem]) <;> rfl) rfl
-- laws.eqPeerS
def c47 : AF := ⟨27,
 (.seq (.reg [rO 4 (.mv (.v (.bool false)))])
 (.seq (.seq (.reg [rO 6 (.mv (.t 0)),
 rO 7 (.len (.t 6)),
 rO 8 (.mv (.t 1)),
 rO 9 (.len (.t 8)),
 rO 10 (.bin .neq (.t 7) (.t 9))])
 (.cond (.t 10) (.seq (.reg [rO 4 (.mv (.v (.bool false)))])
 .ret)
 .skip))
 (.seq (.seq (.reg [rO 5 (.mv (.v (.int .i64 0)))])
 (.block 0 (.loop (.seq (.seq (.reg [rO 11 (.mv (.t 5)),
 rO 12 (.mv (.t 0)),
 rO 13 (.len (.t 12)),
 rO 14 (.bin .lss (.t 11) (.t 13))])
 (.cond (.t 14) .skip
 (.exit 0)))
 (.seq (.block 1 (.seq (.drw [rO 17 (.mv (.t 0)),
 rO 18 (.mv (.t 5)),
 rO 19 (.ia 2 (.t 17) (.t 18)),
 rO 20 (.ldn 2 (.t 19)),
 rO 21 (.mv (.t 1)),
 rO 22 (.mv (.t 5)),
 rO 23 (.ia 2 (.t 21) (.t 22)),
 rO 24 (.ldn 2 (.t 23))] [rO 25 (.call 105 [(.t 20), (.t 24)]),
 rO 26 (.un .not (.t 25))])
 (.cond (.t 26) (.seq (.reg [rO 4 (.mv (.v (.bool false)))])
 .ret)
 .skip)))
 (.reg [rO 15 (.mv (.t 5)),
 rO 16 (.bin .add (.t 15) (.v (.int .i64 1))),
 rO 5 (.mv (.t 16))]))))))
 (.seq (.reg [rO 4 (.mv (.v (.bool true)))])
 .ret)))),
 [.t 4]⟩
theorem k47 : cFn Tryz.prog Tryz.f47 = some c47 := by kernel_rfl
theorem eqPeerS_ok : OkT Tryz.prog 47 (pureSp (eqC_S sh_PeerS)) := by
  refine okT_eqC (OkΓT.cons eqPeer_ok (OkΓT.nil _)) Tryz.func47 (by kernel_rfl) k47 ?_
  intro c hc hz
  obtain ⟨rows, hf, hr, hsz, _⟩ := FitC.rows hc
  rw [hf]
  (dsimp only [c47, rO]; simp (maxSteps := 8000000) -implicitDefEqProofs (disch := omega) only [↓reduceIte, go_sem])
  refine awpT_loop (α := Nat) (fun i => ⟨slots [(0, .s (fzRs rows)), (1, .s (fzRs rows)), (5, .p (.int .i64 i))], []⟩) (fun i => i ≤ rows.length) (fun i => rows.length - i) 0 (Nat.zero_le _) (le_of [] (by simp (maxSteps := 8000000) -implicitDefEqProofs (disch := omega) only [↓reduceIte, go_sem]) (by simp (maxSteps := 8000000) -implicitDefEqProofs (disch := omega) only [↓reduceIte, go_sem]) (by decide) (by simp)) ?_
  intro i hi
  simp (maxSteps := 8000000) -implicitDefEqProofs (disch := omega) only [↓reduceIte, go_sem]
  refine condKT_dec (fun hlt => ?_) (fun hge => ?_)
  · obtain ⟨r, hx⟩ := get_ex (l := rows) (i := i) (by omega)
    have hrr := hr r (List.mem_of_getElem? hx)
    have hzr := szRs_mem hx
    have hg := fzRs_get hx
    obtain ⟨a0, a1, rfl⟩ := sh_Peer_Fit hrr
    simp only [szCs, szC] at hzr
    simp only [fzCs, fzC, el_one, el_two] at hg
    simp (maxSteps := 8000000) -implicitDefEqProofs (disch := omega) only [↓reduceIte, go_sem, eq_true hlt, hg, eq_Peer_at]
    refine loopKT_next (i + 1) (by omega) (by omega) ?_
    exact (le_of [] (by simp (maxSteps := 8000000) -implicitDefEqProofs (disch := omega) only [↓reduceIte, go_sem]) (by simp (maxSteps := 8000000) -implicitDefEqProofs (disch := omega) only [↓reduceIte, go_sem]) (by decide) (by simp))
  · simp (maxSteps := 8000000) -implicitDefEqProofs (disch := omega) only [↓reduceIte, go_sem, eq_false hge]
    refine joinK_here ?_
    simp (maxSteps := 8000000) -implicitDefEqProofs (disch := omega) only [↓reduceIte, go_sem]
    repeat' first
      | ((first | refine gdKT_deq (fun hg hG => ?_) (fun hg hG => ?_) | refine condKT_deq (fun hg hG => ?_) (fun hg hG => ?_)) <;> (try simp (maxSteps := 8000000) -implicitDefEqProofs (disch := omega) only [↓reduceIte, go_sem, hG]) <;> clear hG)
      | ((first | refine gdKT_split (fun hg => ?_) (fun hg => ?_) | refine condKT_split (fun hg => ?_) (fun hg => ?_)) <;> (try simp (maxSteps := 8000000) -implicitDefEqProofs (disch := omega) only [↓reduceIte, go_sem, hg]))
      | (refine endT_p (.inr rfl) (by simp (maxSteps := 8000000) -implicitDefEqProofs (disch := omega) only [↓reduceIte, go_sem]; rfl) ?_; (first | exact vb_true (by omega) | exact vb_false (by omega) | exact vb_dec (by omega) | exact vi_eq (by omega) | rfl | (refine vi_eq ?_; simp_all; first | done | (intros; omega))))
      | exact endT_v (.inr rfl) (by simp (maxSteps := 8000000) -implicitDefEqProofs (disch := omega) only [↓reduceIte, go_sem]; try rfl) (fun _ => rfl)
-- laws.szPeerS
def c30 : AF := ⟨12,
 (.seq (.reg [rO 4 (.mv (.v (.int .i64 0)))])
 (.seq (.reg [rO 5 (.mv (.t 1)),
 rO 6 (.mv (.t 0)),
 rO 7 (.len (.t 6)),
 rO 8 (.bin .sub (.t 5) (.t 7)),
 rO 1 (.mv (.t 8))])
 (.seq (.seq (.reg [rO 9 (.mv (.t 1)),
 rO 10 (.bin .lss (.t 9) (.v (.int .i64 0)))])
 (.cond (.t 10) (.seq (.reg [rO 4 (.mv (.v (.int .i64 (-1))))])
 .ret)
 .skip))
 (.seq (.reg [rO 11 (.mv (.t 1)),
 rO 4 (.mv (.t 11))])
 .ret)))),
 [.t 4]⟩
theorem k30 : cFn Tryz.prog Tryz.f30 = some c30 := by kernel_rfl
theorem szPeerS_ok : OkT Tryz.prog 30 (pureSp (szC_S sh_PeerS)) := by
  refine okT_szC (OkΓT.nil _) Tryz.func30 (by kernel_rfl) k30 ?_
  intro c k hc h1 h2 hz
  simp only [sh_PeerS, HasC] at hc
  obtain ⟨rows, rfl, hr⟩ := hc
  generalize hN : szC _ = N at *
  simp only [szC] at hN
  simp only [lnC, Bool.and_eq_true, decide_eq_true_eq] at hz
  obtain ⟨hz, hzr⟩ := hz
  simp only [fzC]
  have hz0 : szRs rows = 0 := szRs_zero fun r hx => by
    have hrr := hr r hx
    obtain ⟨a0, a1, rfl⟩ := sh_Peer_Has hrr
    rfl
  by_cases q : (rows.length : Int) ≤ k
  · rw [if_pos (by omega), show (N : Int) = rows.length by omega]
    (dsimp only [c30, rO]; simp (maxSteps := 8000000) -implicitDefEqProofs (disch := omega) only [↓reduceIte, go_sem])
    repeat' first
      | ((first | refine gdKT_deq (fun hg hG => ?_) (fun hg hG => ?_) | refine condKT_deq (fun hg hG => ?_) (fun hg hG => ?_)) <;> (try simp (maxSteps := 8000000) -implicitDefEqProofs (disch := omega) only [↓reduceIte, go_sem, hG]) <;> clear hG)
      | ((first | refine gdKT_split (fun hg => ?_) (fun hg => ?_) | refine condKT_split (fun hg => ?_) (fun hg => ?_)) <;> (try simp (maxSteps := 8000000) -implicitDefEqProofs (disch := omega) only [↓reduceIte, go_sem, hg]))
      | (refine endT_p (.inr rfl) (by simp (maxSteps := 8000000) -implicitDefEqProofs (disch := omega) only [↓reduceIte, go_sem]; rfl) ?_; (first | exact vb_true (by omega) | exact vb_false (by omega) | exact vb_dec (by omega) | exact vi_eq (by omega) | rfl | (refine vi_eq ?_; simp_all; first | done | (intros; omega))))
      | exact endT_v (.inr rfl) (by simp (maxSteps := 8000000) -implicitDefEqProofs (disch := omega) only [↓reduceIte, go_sem]; try rfl) (fun _ => rfl)
  · rw [if_neg (by omega)]
    (dsimp only [c30, rO]; simp (maxSteps := 8000000) -implicitDefEqProofs (disch := omega) only [↓reduceIte, go_sem])
    repeat' first
      | ((first | refine gdKT_deq (fun hg hG => ?_) (fun hg hG => ?_) | refine condKT_deq (fun hg hG => ?_) (fun hg hG => ?_)) <;> (try simp (maxSteps := 8000000) -implicitDefEqProofs (disch := omega) only [↓reduceIte, go_sem, hG]) <;> clear hG)
      | ((first | refine gdKT_split (fun hg => ?_) (fun hg => ?_) | refine condKT_split (fun hg => ?_) (fun hg => ?_)) <;> (try simp (maxSteps := 8000000) -implicitDefEqProofs (disch := omega) only [↓reduceIte, go_sem, hg]))
      | (refine endT_p (.inr rfl) (by simp (maxSteps := 8000000) -implicitDefEqProofs (disch := omega) only [↓reduceIte, go_sem]; rfl) ?_; (first | exact vb_true (by omega) | exact vb_false (by omega) | exact vb_dec (by omega) | exact vi_eq (by omega) | rfl | (refine vi_eq ?_; simp_all; first | done | (intros; omega))))
      | exact endT_v (.inr rfl) (by simp (maxSteps := 8000000) -implicitDefEqProofs (disch := omega) only [↓reduceIte, go_sem]; try rfl) (fun _ => rfl)
/-! Window -/
def sh_Window : List Shp := [.i .i64, .i .i64]
theorem sh_Window_Has {cs : List Cell} (h : HasR sh_Window cs) : ∃ (a0 : Int) (a1 : Int), cs = [.v (.int .i64 a0), .v (.int .i64 a1)] := by
  obtain ⟨_, _, rfl, ⟨a0, rfl, _⟩, _, _, rfl, ⟨a1, rfl, _⟩, h⟩ := h
  simp only [HasR] at h; subst h
  exact ⟨a0, a1, rfl⟩
theorem sh_Window_mkHas  (a0 : Int) (a1 : Int) : HasR sh_Window [.v (.int .i64 a0), .v (.int .i64 a1)] := by
  exact ⟨_, _, rfl, ⟨_, rfl, fun h => by cases h⟩, _, _, rfl, ⟨_, rfl, fun h => by cases h⟩, rfl⟩
theorem sh_Window_Fit {cs : List Cell} (h : FitR sh_Window cs) : ∃ (a0 : Int) (a1 : Int), cs = [.v (.int .i64 a0), .v (.int .i64 a1)] := by
  obtain ⟨_, _, rfl, ⟨a0, rfl⟩, _, _, rfl, ⟨a1, rfl⟩, h⟩ := h
  simp only [FitR] at h; subst h
  exact ⟨a0, a1, rfl⟩
theorem sh_Window_mkFit  (a0 : Int) (a1 : Int) : FitR sh_Window [.v (.int .i64 a0), .v (.int .i64 a1)] := by
  exact ⟨_, _, rfl, ⟨_, rfl⟩, _, _, rfl, ⟨_, rfl⟩, rfl⟩
theorem to_Window_at  (a0 : Int) (a1 : Int) : toR_S sh_Window [.agg [.p (.int .i64 a0), .p (.int .i64 a1)]] = some (.agg [.p (.int .i64 a0), .p (.int .i64 a1)], []) := by
  have := toR_at (sh_Window_mkHas  a0 a1) (by simp only [szCs, szC]; omega)
  simpa only [fzCs, fzC, tvCs, tvC_v, tvC_nl, tvC_sl, bkCs, bkC, nbC, nbCs, Nat.add_zero, List.append_nil, List.nil_append, Nat.zero_add] using this
-- laws.toWindow
def c58 : AF := ⟨11,
 (.seq (.reg [rO 1 (.box 45 (.t 0)),
 rO 2 (.alloc 51 [(.int .i64 0), (.int .i64 0)])])
 (.seq (.reg [rO 3 (.alloc 51 [(.int .i64 0), (.int .i64 0)])])
 (.seq (.reg [rO 4 (.fa (.t 1) 0),
 rO 5 (.ld (.t 4)),
 rO 6 (.fa (.t 3) 0),
 ⟨none, none, .st 1 (.t 6) (.t 5)⟩])
 (.seq (.reg [rO 7 (.fa (.t 1) 1),
 rO 8 (.ld (.t 7)),
 rO 9 (.fa (.t 3) 1),
 ⟨none, none, .st 1 (.t 9) (.t 8)⟩])
 (.seq (.reg [rO 10 (.ldn 2 (.t 3)),
 ⟨none, none, .st 2 (.t 2) (.t 10)⟩])
 .ret))))),
 [.cell 2 (some 2)]⟩
theorem k58 : cFn Tryz.prog Tryz.f58 = some c58 := by kernel_rfl
theorem toWindow_ok : OkT Tryz.prog 58 (pureSp (toR_S sh_Window)) := by
  refine okT_toR (OkΓT.nil _) Tryz.func58 (by kernel_rfl) k58 ?_
  intro c hc hz
  obtain ⟨a0, a1, rfl⟩ := sh_Window_Has hc
  simp only [szCs, szC] at hz
  simp only [fzCs, fzC]
  (dsimp only [c58, rO]; simp (maxSteps := 8000000) -implicitDefEqProofs (disch := omega) only [↓reduceIte, go_sem])
  refine endT_cells' 3 (.inr rfl) (by (simp (maxSteps := 8000000) -implicitDefEqProofs (disch := omega) only [↓reduceIte, go_sem, fzCs, fzC, tvCs, tvC_v, tvC_nl, tvC_sl, bkCs, bkC, nbC, nbCs, Nat.add_zero, List.append_nil, List.nil_append]) <;> rfl) ?_ (by simp only [List.length_cons]; omega)
  simp only [List.drop_succ_cons, List.drop_zero, bkCs, bkC, nbC, Nat.add_zero, List.append_nil, List.nil_append, List.cons_append, Nat.add_assoc]
theorem eq_Window_at  (a0 : Int) (a1 : Int) : eqR_S sh_Window [.agg [.p (.int .i64 a0), .p (.int .i64 a1)], .agg [.p (.int .i64 a0), .p (.int .i64 a1)]] = some (.p (.bool true), []) := by
  exact eqR_at (sh_Window_mkFit  a0 a1) (by simp only [szCs, szC]; omega)
-- laws.eqWindow
def c61 : AF := ⟨15,
 (.seq (.reg [rO 2 (.box 51 (.t 0)),
 rO 3 (.box 51 (.t 1)),
 rO 4 (.mv (.v (.bool false)))])
 (.seq (.seq (.reg [rO 5 (.fa (.t 2) 0),
 rO 6 (.ld (.t 5)),
 rO 7 (.fa (.t 3) 0),
 rO 8 (.ld (.t 7)),
 rO 9 (.bin .neq (.t 6) (.t 8))])
 (.cond (.t 9) (.seq (.reg [rO 4 (.mv (.v (.bool false)))])
 .ret)
 .skip))
 (.seq (.seq (.reg [rO 10 (.fa (.t 2) 1),
 rO 11 (.ld (.t 10)),
 rO 12 (.fa (.t 3) 1),
 rO 13 (.ld (.t 12)),
 rO 14 (.bin .neq (.t 11) (.t 13))])
 (.cond (.t 14) (.seq (.reg [rO 4 (.mv (.v (.bool false)))])
 .ret)
 .skip))
 (.seq (.reg [rO 4 (.mv (.v (.bool true)))])
 .ret)))),
 [.t 4]⟩
theorem k61 : cFn Tryz.prog Tryz.f61 = some c61 := by kernel_rfl
theorem eqWindow_ok : OkT Tryz.prog 61 (pureSp (eqR_S sh_Window)) := by
  refine okT_eqR (OkΓT.nil _) Tryz.func61 (by kernel_rfl) k61 ?_
  intro c hc hz
  obtain ⟨a0, a1, rfl⟩ := sh_Window_Fit hc
  simp only [szCs, szC] at hz
  simp only [fzCs, fzC]
  (dsimp only [c61, rO]; simp (maxSteps := 8000000) -implicitDefEqProofs (disch := omega) only [↓reduceIte, go_sem])
  repeat' first
    | ((first | refine gdKT_deq (fun hg hG => ?_) (fun hg hG => ?_) | refine condKT_deq (fun hg hG => ?_) (fun hg hG => ?_)) <;> (try simp (maxSteps := 8000000) -implicitDefEqProofs (disch := omega) only [↓reduceIte, go_sem, hG]) <;> clear hG)
    | ((first | refine gdKT_split (fun hg => ?_) (fun hg => ?_) | refine condKT_split (fun hg => ?_) (fun hg => ?_)) <;> (try simp (maxSteps := 8000000) -implicitDefEqProofs (disch := omega) only [↓reduceIte, go_sem, hg]))
    | (refine endT_p (.inr rfl) (by simp (maxSteps := 8000000) -implicitDefEqProofs (disch := omega) only [↓reduceIte, go_sem]; rfl) ?_; (first | exact vb_true (by omega) | exact vb_false (by omega) | exact vb_dec (by omega) | exact vi_eq (by omega) | rfl | (refine vi_eq ?_; simp_all; first | done | (intros; omega))))
    | exact endT_v (.inr rfl) (by simp (maxSteps := 8000000) -implicitDefEqProofs (disch := omega) only [↓reduceIte, go_sem]; try rfl) (fun _ => rfl)
def sh_SelS : Shp := .sl 103 sh_Sel
-- laws.toSelS
def c59 : AF := ⟨23,
 (.seq (.reg [rO 2 (.mv (.v (.slice none 0 0)))])
 (.seq (.reg [rO 5 (.mv (.t 0)),
 rO 6 (.len (.t 5)),
 rO 7 (.mkSl 103 9 72 [(.int .i64 0), (.int .i64 0), (.int .i64 0), (.int .i64 0), (.int .i64 0), (.int .i64 0), (.int .i64 0), (.int .i64 0), (.int .i64 0)] (.t 6) (.t 6)),
 rO 3 (.mv (.t 7))])
 (.seq (.seq (.reg [rO 4 (.mv (.v (.int .i64 0)))])
 (.block 0 (.loop (.seq (.seq (.reg [rO 8 (.mv (.t 4)),
 rO 9 (.mv (.t 0)),
 rO 10 (.len (.t 9)),
 rO 11 (.bin .lss (.t 8) (.t 10))])
 (.cond (.t 11) .skip
 (.exit 0)))
 (.seq (.block 1 (.reg [rO 14 (.mv (.t 3)),
 rO 15 (.mv (.t 4)),
 rO 16 (.mv (.t 0)),
 rO 17 (.mv (.t 4)),
 rO 18 (.ia 9 (.t 16) (.t 17)),
 rO 19 (.ldn 9 (.t 18)),
 rO 20 (.call 111 [(.t 19)]),
 rO 21 (.ia 9 (.t 14) (.t 15)),
 ⟨none, none, .st 9 (.t 21) (.t 20)⟩]))
 (.reg [rO 12 (.mv (.t 4)),
 rO 13 (.bin .add (.t 12) (.v (.int .i64 1))),
 rO 4 (.mv (.t 13))]))))))
 (.seq (.reg [rO 22 (.mv (.t 3)),
 rO 2 (.mv (.t 22))])
 .ret)))),
 [.t 2]⟩
theorem k59 : cFn Tryz.prog Tryz.f59 = some c59 := by kernel_rfl
theorem toSelS_ok : OkT Tryz.prog 59 (pureSp (toC_S sh_SelS)) := by
  refine okT_toC (OkΓT.cons toSel_ok (OkΓT.nil _)) Tryz.func59 (by kernel_rfl) k59 ?_
  intro c hc hz
  simp only [sh_SelS, HasC] at hc
  obtain ⟨rows, rfl, hr⟩ := hc
  simp only [szC] at hz
  have hlen : ∀ r ∈ rows, r.length = 9 := fun r hx => (hr r hx).len
  generalize hzz : (el [.p (.int .i64 0), .p (.int .i64 0), .p (.int .i64 0), .p (.int .i64 0), .p (.int .i64 0), .p (.int .i64 0), .p (.int .i64 0), .p (.int .i64 0), .p (.int .i64 0)] : TV) = z0
  have hz1 : cellsT z0 = [.p (.int .i64 0), .p (.int .i64 0), .p (.int .i64 0), .p (.int .i64 0), .p (.int .i64 0), .p (.int .i64 0), .p (.int .i64 0), .p (.int .i64 0), .p (.int .i64 0)] := by rw [← hzz]; rfl
  simp only [fzC, tvC_v, tvC_nl, tvC_sl, bkC]
  (dsimp only [c59, rO]; simp (maxSteps := 8000000) -implicitDefEqProofs (disch := omega) only [↓reduceIte, go_sem, hzz, mixR_zero 1 rows z0])
  refine awpT_loop (α := Nat) (fun i => ⟨slots [(0, .s (fzRs rows)), (3, .os 0 0 rows.length), (4, .p (.int .i64 i))], .cells 103 9 (mixR 1 rows z0 i) :: bkRs 1 (rows.take i)⟩)
    (fun i => i ≤ rows.length) (fun i => rows.length - i) 0 (Nat.zero_le _) (by simp only [List.take_zero, bkRs]; exact le_keep (Nat.zero_le _) (by simp (maxSteps := 8000000) -implicitDefEqProofs (disch := omega) only [↓reduceIte, go_sem, slotsIn])) ?_
  intro i hi
  simp (maxSteps := 8000000) -implicitDefEqProofs (disch := omega) only [↓reduceIte, go_sem, mixR_len 1 rows z0 hi]
  refine condKT_dec (fun hlt => ?_) (fun hge => ?_)
  · obtain ⟨r, hx⟩ := get_ex (l := rows) (i := i) (by omega)
    have hrr := hr r (List.mem_of_getElem? hx)
    have hzr := szRs_mem hx
    have hg := fzRs_get hx; have hm := mixR_get 1 (rows := rows) z0 (i := i) (by omega)
    have hs := mixR_set 1 z0 hx; have hb := bkRs_snoc 1 hx; have hn := bkRs_len 1 (rows.take i)
    obtain ⟨a0, a1, a2, a3, a4, a5, a6, a7, a8, rfl⟩ := sh_Sel_Has hrr
    simp only [szCs, szC] at hzr
    simp only [fzCs, fzC, tvCs, tvC_v, tvC_nl, tvC_sl, bkCs, bkC, nbC, nbCs, Nat.add_zero, List.append_nil, List.nil_append, el_one, el_two, Nat.add_comm 1 (nbRs _)] at hg hs hb
    simp (maxSteps := 8000000) -implicitDefEqProofs (disch := omega) only [↓reduceIte, go_sem, eq_true hlt, hg, hm, hs, hn, hz1, el_two, to_Sel_at]
    refine loopKT_next (i + 1) (by omega) (by omega) ?_
    rw [hb]; refine (le_keep (Nat.zero_le _) ?_) <;> simp (maxSteps := 8000000) -implicitDefEqProofs (disch := omega) only [↓reduceIte, go_sem, slotsIn]
  · have hb : rows.take i = rows := List.take_of_length_le (by omega)
    have hm := mixR_full 1 (rows := rows) z0 (i := i) (by omega)
    simp (maxSteps := 8000000) -implicitDefEqProofs (disch := omega) only [↓reduceIte, go_sem, eq_false hge, hb, hm]
    refine joinK_here ?_
    simp (maxSteps := 8000000) -implicitDefEqProofs (disch := omega) only [↓reduceIte, go_sem]
    exact endT_same (.inr rfl) (by (simp (maxSteps := 8000000) -implicitDefEqProofs (disch := omega) only [↓reduceIte, go_sem]) <;> rfl) rfl
-- laws.eqSelS
def c62 : AF := ⟨27,
 (.seq (.reg [rO 4 (.mv (.v (.bool false)))])
 (.seq (.seq (.reg [rO 6 (.mv (.t 0)),
 rO 7 (.len (.t 6)),
 rO 8 (.mv (.t 1)),
 rO 9 (.len (.t 8)),
 rO 10 (.bin .neq (.t 7) (.t 9))])
 (.cond (.t 10) (.seq (.reg [rO 4 (.mv (.v (.bool false)))])
 .ret)
 .skip))
 (.seq (.seq (.reg [rO 5 (.mv (.v (.int .i64 0)))])
 (.block 0 (.loop (.seq (.seq (.reg [rO 11 (.mv (.t 5)),
 rO 12 (.mv (.t 0)),
 rO 13 (.len (.t 12)),
 rO 14 (.bin .lss (.t 11) (.t 13))])
 (.cond (.t 14) .skip
 (.exit 0)))
 (.seq (.block 1 (.seq (.drw [rO 17 (.mv (.t 0)),
 rO 18 (.mv (.t 5)),
 rO 19 (.ia 9 (.t 17) (.t 18)),
 rO 20 (.ldn 9 (.t 19)),
 rO 21 (.mv (.t 1)),
 rO 22 (.mv (.t 5)),
 rO 23 (.ia 9 (.t 21) (.t 22)),
 rO 24 (.ldn 9 (.t 23))] [rO 25 (.call 118 [(.t 20), (.t 24)]),
 rO 26 (.un .not (.t 25))])
 (.cond (.t 26) (.seq (.reg [rO 4 (.mv (.v (.bool false)))])
 .ret)
 .skip)))
 (.reg [rO 15 (.mv (.t 5)),
 rO 16 (.bin .add (.t 15) (.v (.int .i64 1))),
 rO 5 (.mv (.t 16))]))))))
 (.seq (.reg [rO 4 (.mv (.v (.bool true)))])
 .ret)))),
 [.t 4]⟩
theorem k62 : cFn Tryz.prog Tryz.f62 = some c62 := by kernel_rfl
theorem eqSelS_ok : OkT Tryz.prog 62 (pureSp (eqC_S sh_SelS)) := by
  refine okT_eqC (OkΓT.cons eqSel_ok (OkΓT.nil _)) Tryz.func62 (by kernel_rfl) k62 ?_
  intro c hc hz
  obtain ⟨rows, hf, hr, hsz, _⟩ := FitC.rows hc
  rw [hf]
  (dsimp only [c62, rO]; simp (maxSteps := 8000000) -implicitDefEqProofs (disch := omega) only [↓reduceIte, go_sem])
  refine awpT_loop (α := Nat) (fun i => ⟨slots [(0, .s (fzRs rows)), (1, .s (fzRs rows)), (5, .p (.int .i64 i))], []⟩) (fun i => i ≤ rows.length) (fun i => rows.length - i) 0 (Nat.zero_le _) (le_of [] (by simp (maxSteps := 8000000) -implicitDefEqProofs (disch := omega) only [↓reduceIte, go_sem]) (by simp (maxSteps := 8000000) -implicitDefEqProofs (disch := omega) only [↓reduceIte, go_sem]) (by decide) (by simp)) ?_
  intro i hi
  simp (maxSteps := 8000000) -implicitDefEqProofs (disch := omega) only [↓reduceIte, go_sem]
  refine condKT_dec (fun hlt => ?_) (fun hge => ?_)
  · obtain ⟨r, hx⟩ := get_ex (l := rows) (i := i) (by omega)
    have hrr := hr r (List.mem_of_getElem? hx)
    have hzr := szRs_mem hx
    have hg := fzRs_get hx
    obtain ⟨a0, a1, a2, a3, a4, a5, a6, a7, a8, rfl⟩ := sh_Sel_Fit hrr
    simp only [szCs, szC] at hzr
    simp only [fzCs, fzC, el_one, el_two] at hg
    simp (maxSteps := 8000000) -implicitDefEqProofs (disch := omega) only [↓reduceIte, go_sem, eq_true hlt, hg, eq_Sel_at]
    refine loopKT_next (i + 1) (by omega) (by omega) ?_
    exact (le_of [] (by simp (maxSteps := 8000000) -implicitDefEqProofs (disch := omega) only [↓reduceIte, go_sem]) (by simp (maxSteps := 8000000) -implicitDefEqProofs (disch := omega) only [↓reduceIte, go_sem]) (by decide) (by simp))
  · simp (maxSteps := 8000000) -implicitDefEqProofs (disch := omega) only [↓reduceIte, go_sem, eq_false hge]
    refine joinK_here ?_
    simp (maxSteps := 8000000) -implicitDefEqProofs (disch := omega) only [↓reduceIte, go_sem]
    repeat' first
      | ((first | refine gdKT_deq (fun hg hG => ?_) (fun hg hG => ?_) | refine condKT_deq (fun hg hG => ?_) (fun hg hG => ?_)) <;> (try simp (maxSteps := 8000000) -implicitDefEqProofs (disch := omega) only [↓reduceIte, go_sem, hG]) <;> clear hG)
      | ((first | refine gdKT_split (fun hg => ?_) (fun hg => ?_) | refine condKT_split (fun hg => ?_) (fun hg => ?_)) <;> (try simp (maxSteps := 8000000) -implicitDefEqProofs (disch := omega) only [↓reduceIte, go_sem, hg]))
      | (refine endT_p (.inr rfl) (by simp (maxSteps := 8000000) -implicitDefEqProofs (disch := omega) only [↓reduceIte, go_sem]; rfl) ?_; (first | exact vb_true (by omega) | exact vb_false (by omega) | exact vb_dec (by omega) | exact vi_eq (by omega) | rfl | (refine vi_eq ?_; simp_all; first | done | (intros; omega))))
      | exact endT_v (.inr rfl) (by simp (maxSteps := 8000000) -implicitDefEqProofs (disch := omega) only [↓reduceIte, go_sem]; try rfl) (fun _ => rfl)
-- laws.szSelS
def c56 : AF := ⟨12,
 (.seq (.reg [rO 4 (.mv (.v (.int .i64 0)))])
 (.seq (.reg [rO 5 (.mv (.t 1)),
 rO 6 (.mv (.t 0)),
 rO 7 (.len (.t 6)),
 rO 8 (.bin .sub (.t 5) (.t 7)),
 rO 1 (.mv (.t 8))])
 (.seq (.seq (.reg [rO 9 (.mv (.t 1)),
 rO 10 (.bin .lss (.t 9) (.v (.int .i64 0)))])
 (.cond (.t 10) (.seq (.reg [rO 4 (.mv (.v (.int .i64 (-1))))])
 .ret)
 .skip))
 (.seq (.reg [rO 11 (.mv (.t 1)),
 rO 4 (.mv (.t 11))])
 .ret)))),
 [.t 4]⟩
theorem k56 : cFn Tryz.prog Tryz.f56 = some c56 := by kernel_rfl
theorem szSelS_ok : OkT Tryz.prog 56 (pureSp (szC_S sh_SelS)) := by
  refine okT_szC (OkΓT.nil _) Tryz.func56 (by kernel_rfl) k56 ?_
  intro c k hc h1 h2 hz
  simp only [sh_SelS, HasC] at hc
  obtain ⟨rows, rfl, hr⟩ := hc
  generalize hN : szC _ = N at *
  simp only [szC] at hN
  simp only [lnC, Bool.and_eq_true, decide_eq_true_eq] at hz
  obtain ⟨hz, hzr⟩ := hz
  simp only [fzC]
  have hz0 : szRs rows = 0 := szRs_zero fun r hx => by
    have hrr := hr r hx
    obtain ⟨a0, a1, a2, a3, a4, a5, a6, a7, a8, rfl⟩ := sh_Sel_Has hrr
    rfl
  by_cases q : (rows.length : Int) ≤ k
  · rw [if_pos (by omega), show (N : Int) = rows.length by omega]
    (dsimp only [c56, rO]; simp (maxSteps := 8000000) -implicitDefEqProofs (disch := omega) only [↓reduceIte, go_sem])
    repeat' first
      | ((first | refine gdKT_deq (fun hg hG => ?_) (fun hg hG => ?_) | refine condKT_deq (fun hg hG => ?_) (fun hg hG => ?_)) <;> (try simp (maxSteps := 8000000) -implicitDefEqProofs (disch := omega) only [↓reduceIte, go_sem, hG]) <;> clear hG)
      | ((first | refine gdKT_split (fun hg => ?_) (fun hg => ?_) | refine condKT_split (fun hg => ?_) (fun hg => ?_)) <;> (try simp (maxSteps := 8000000) -implicitDefEqProofs (disch := omega) only [↓reduceIte, go_sem, hg]))
      | (refine endT_p (.inr rfl) (by simp (maxSteps := 8000000) -implicitDefEqProofs (disch := omega) only [↓reduceIte, go_sem]; rfl) ?_; (first | exact vb_true (by omega) | exact vb_false (by omega) | exact vb_dec (by omega) | exact vi_eq (by omega) | rfl | (refine vi_eq ?_; simp_all; first | done | (intros; omega))))
      | exact endT_v (.inr rfl) (by simp (maxSteps := 8000000) -implicitDefEqProofs (disch := omega) only [↓reduceIte, go_sem]; try rfl) (fun _ => rfl)
  · rw [if_neg (by omega)]
    (dsimp only [c56, rO]; simp (maxSteps := 8000000) -implicitDefEqProofs (disch := omega) only [↓reduceIte, go_sem])
    repeat' first
      | ((first | refine gdKT_deq (fun hg hG => ?_) (fun hg hG => ?_) | refine condKT_deq (fun hg hG => ?_) (fun hg hG => ?_)) <;> (try simp (maxSteps := 8000000) -implicitDefEqProofs (disch := omega) only [↓reduceIte, go_sem, hG]) <;> clear hG)
      | ((first | refine gdKT_split (fun hg => ?_) (fun hg => ?_) | refine condKT_split (fun hg => ?_) (fun hg => ?_)) <;> (try simp (maxSteps := 8000000) -implicitDefEqProofs (disch := omega) only [↓reduceIte, go_sem, hg]))
      | (refine endT_p (.inr rfl) (by simp (maxSteps := 8000000) -implicitDefEqProofs (disch := omega) only [↓reduceIte, go_sem]; rfl) ?_; (first | exact vb_true (by omega) | exact vb_false (by omega) | exact vb_dec (by omega) | exact vi_eq (by omega) | rfl | (refine vi_eq ?_; simp_all; first | done | (intros; omega))))
      | exact endT_v (.inr rfl) (by simp (maxSteps := 8000000) -implicitDefEqProofs (disch := omega) only [↓reduceIte, go_sem]; try rfl) (fun _ => rfl)
/-! Sa -/
def sh_Sa : List Shp := [.i .i64, .i .i64, .i .i64, .b, .i .i64, .i .i64, .i .i64, .i .i64, .i .i64, .i .i64, sh_SelS]
theorem sh_Sa_Has {cs : List Cell} (h : HasR sh_Sa cs) : ∃ (a0 : Int) (a1 : Int) (a2 : Int) (a3 : Bool) (a4 : Int) (a5 : Int) (a6 : Int) (a7 : Int) (a8 : Int) (a9 : Int) (c10 : Cell), cs = [.v (.int .i64 a0), .v (.int .i64 a1), .v (.int .i64 a2), .v (.bool a3), .v (.int .i64 a4), .v (.int .i64 a5), .v (.int .i64 a6), .v (.int .i64 a7), .v (.int .i64 a8), .v (.int .i64 a9), c10] ∧ HasC sh_SelS c10 := by
  obtain ⟨_, _, rfl, ⟨a0, rfl, _⟩, _, _, rfl, ⟨a1, rfl, _⟩, _, _, rfl, ⟨a2, rfl, _⟩, _, _, rfl, ⟨a3, rfl⟩, _, _, rfl, ⟨a4, rfl, _⟩, _, _, rfl, ⟨a5, rfl, _⟩, _, _, rfl, ⟨a6, rfl, _⟩, _, _, rfl, ⟨a7, rfl, _⟩, _, _, rfl, ⟨a8, rfl, _⟩, _, _, rfl, ⟨a9, rfl, _⟩, c10, _, rfl, hc10, h⟩ := h
  simp only [HasR] at h; subst h
  exact ⟨a0, a1, a2, a3, a4, a5, a6, a7, a8, a9, c10, rfl, hc10⟩
theorem sh_Sa_mkHas {c10 : Cell} (hc10 : HasC sh_SelS c10) (a0 : Int) (a1 : Int) (a2 : Int) (a3 : Bool) (a4 : Int) (a5 : Int) (a6 : Int) (a7 : Int) (a8 : Int) (a9 : Int) : HasR sh_Sa [.v (.int .i64 a0), .v (.int .i64 a1), .v (.int .i64 a2), .v (.bool a3), .v (.int .i64 a4), .v (.int .i64 a5), .v (.int .i64 a6), .v (.int .i64 a7), .v (.int .i64 a8), .v (.int .i64 a9), c10] := by
  exact ⟨_, _, rfl, ⟨_, rfl, fun h => by cases h⟩, _, _, rfl, ⟨_, rfl, fun h => by cases h⟩, _, _, rfl, ⟨_, rfl, fun h => by cases h⟩, _, _, rfl, ⟨_, rfl⟩, _, _, rfl, ⟨_, rfl, fun h => by cases h⟩, _, _, rfl, ⟨_, rfl, fun h => by cases h⟩, _, _, rfl, ⟨_, rfl, fun h => by cases h⟩, _, _, rfl, ⟨_, rfl, fun h => by cases h⟩, _, _, rfl, ⟨_, rfl, fun h => by cases h⟩, _, _, rfl, ⟨_, rfl, fun h => by cases h⟩, _, _, rfl, hc10, rfl⟩
theorem sh_Sa_Fit {cs : List Cell} (h : FitR sh_Sa cs) : ∃ (a0 : Int) (a1 : Int) (a2 : Int) (a3 : Bool) (a4 : Int) (a5 : Int) (a6 : Int) (a7 : Int) (a8 : Int) (a9 : Int) (c10 : Cell), cs = [.v (.int .i64 a0), .v (.int .i64 a1), .v (.int .i64 a2), .v (.bool a3), .v (.int .i64 a4), .v (.int .i64 a5), .v (.int .i64 a6), .v (.int .i64 a7), .v (.int .i64 a8), .v (.int .i64 a9), c10] ∧ FitC sh_SelS c10 := by
  obtain ⟨_, _, rfl, ⟨a0, rfl⟩, _, _, rfl, ⟨a1, rfl⟩, _, _, rfl, ⟨a2, rfl⟩, _, _, rfl, ⟨a3, rfl⟩, _, _, rfl, ⟨a4, rfl⟩, _, _, rfl, ⟨a5, rfl⟩, _, _, rfl, ⟨a6, rfl⟩, _, _, rfl, ⟨a7, rfl⟩, _, _, rfl, ⟨a8, rfl⟩, _, _, rfl, ⟨a9, rfl⟩, c10, _, rfl, hc10, h⟩ := h
  simp only [FitR] at h; subst h
  exact ⟨a0, a1, a2, a3, a4, a5, a6, a7, a8, a9, c10, rfl, hc10⟩
theorem sh_Sa_mkFit {c10 : Cell} (hc10 : FitC sh_SelS c10) (a0 : Int) (a1 : Int) (a2 : Int) (a3 : Bool) (a4 : Int) (a5 : Int) (a6 : Int) (a7 : Int) (a8 : Int) (a9 : Int) : FitR sh_Sa [.v (.int .i64 a0), .v (.int .i64 a1), .v (.int .i64 a2), .v (.bool a3), .v (.int .i64 a4), .v (.int .i64 a5), .v (.int .i64 a6), .v (.int .i64 a7), .v (.int .i64 a8), .v (.int .i64 a9), c10] := by
  exact ⟨_, _, rfl, ⟨_, rfl⟩, _, _, rfl, ⟨_, rfl⟩, _, _, rfl, ⟨_, rfl⟩, _, _, rfl, ⟨_, rfl⟩, _, _, rfl, ⟨_, rfl⟩, _, _, rfl, ⟨_, rfl⟩, _, _, rfl, ⟨_, rfl⟩, _, _, rfl, ⟨_, rfl⟩, _, _, rfl, ⟨_, rfl⟩, _, _, rfl, ⟨_, rfl⟩, _, _, rfl, hc10, rfl⟩
theorem to_Sa_at {c10 : Cell} (hc10 : HasC sh_SelS c10) (hz : szC c10 ≤ 1048576) (a0 : Int) (a1 : Int) (a2 : Int) (a3 : Bool) (a4 : Int) (a5 : Int) (a6 : Int) (a7 : Int) (a8 : Int) (a9 : Int) : toR_S sh_Sa [.agg [.p (.int .i64 a0), .p (.int .i64 a1), .p (.int .i64 a2), .p (.bool a3), .p (.int .i64 a4), .p (.int .i64 a5), .p (.int .i64 a6), .p (.int .i64 a7), .p (.int .i64 a8), .p (.int .i64 a9), fzC c10]] = some (.agg [.p (.int .i64 a0), .p (.int .i64 a1), .p (.int .i64 a2), .p (.bool a3), .p (.int .i64 a4), .p (.int .i64 a5), .p (.int .i64 a6), .p (.int .i64 a7), .p (.int .i64 a8), .p (.int .i64 a9), tvC (0) c10], (bkC (0) c10)) := by
  have := toR_at (sh_Sa_mkHas hc10 a0 a1 a2 a3 a4 a5 a6 a7 a8 a9) (by simp only [szCs, szC]; omega)
  simpa only [fzCs, fzC, tvCs, tvC_v, tvC_nl, tvC_sl, bkCs, bkC, nbC, nbCs, Nat.add_zero, List.append_nil, List.nil_append, Nat.zero_add] using this
-- laws.toSa
def c18 : AF := ⟨37,
 (.seq (.reg [rO 1 (.box 48 (.t 0)),
 rO 2 (.alloc 54 [(.int .i64 0), (.int .i64 0), (.int .i64 0), (.bool false), (.int .i64 0), (.int .i64 0), (.int .i64 0), (.int .i64 0), (.int .i64 0), (.int .i64 0), (.slice none 0 0)])])
 (.seq (.reg [rO 3 (.alloc 54 [(.int .i64 0), (.int .i64 0), (.int .i64 0), (.bool false), (.int .i64 0), (.int .i64 0), (.int .i64 0), (.int .i64 0), (.int .i64 0), (.int .i64 0), (.slice none 0 0)])])
 (.seq (.reg [rO 4 (.fa (.t 1) 0),
 rO 5 (.ld (.t 4)),
 rO 6 (.fa (.t 3) 0),
 ⟨none, none, .st 1 (.t 6) (.t 5)⟩])
 (.seq (.reg [rO 7 (.fa (.t 1) 1),
 rO 8 (.ld (.t 7)),
 rO 9 (.fa (.t 3) 1),
 ⟨none, none, .st 1 (.t 9) (.t 8)⟩])
 (.seq (.reg [rO 10 (.fa (.t 1) 2),
 rO 11 (.ld (.t 10)),
 rO 12 (.fa (.t 3) 2),
 ⟨none, none, .st 1 (.t 12) (.t 11)⟩])
 (.seq (.reg [rO 13 (.fa (.t 1) 3),
 rO 14 (.ld (.t 13)),
 rO 15 (.fa (.t 3) 3),
 ⟨none, none, .st 1 (.t 15) (.t 14)⟩])
 (.seq (.reg [rO 16 (.fa (.t 1) 4),
 rO 17 (.ld (.t 16)),
 rO 18 (.fa (.t 3) 4),
 ⟨none, none, .st 1 (.t 18) (.t 17)⟩])
 (.seq (.reg [rO 19 (.fa (.t 1) 5),
 rO 20 (.ldn 2 (.t 19)),
 rO 21 (.call 58 [(.t 20)]),
 rO 22 (.fa (.t 3) 5),
 ⟨none, none, .st 2 (.t 22) (.t 21)⟩])
 (.seq (.reg [rO 23 (.fa (.t 1) 7),
 rO 24 (.ld (.t 23)),
 rO 25 (.fa (.t 3) 7),
 ⟨none, none, .st 1 (.t 25) (.t 24)⟩])
 (.seq (.reg [rO 26 (.fa (.t 1) 8),
 rO 27 (.ld (.t 26)),
 rO 28 (.fa (.t 3) 8),
 ⟨none, none, .st 1 (.t 28) (.t 27)⟩])
 (.seq (.reg [rO 29 (.fa (.t 1) 9),
 rO 30 (.ld (.t 29)),
 rO 31 (.fa (.t 3) 9),
 ⟨none, none, .st 1 (.t 31) (.t 30)⟩])
 (.seq (.reg [rO 32 (.fa (.t 1) 10),
 rO 33 (.ld (.t 32)),
 rO 34 (.call 59 [(.t 33)]),
 rO 35 (.fa (.t 3) 10),
 ⟨none, none, .st 1 (.t 35) (.t 34)⟩])
 (.seq (.reg [rO 36 (.ldn 11 (.t 3)),
 ⟨none, none, .st 11 (.t 2) (.t 36)⟩])
 .ret))))))))))))),
 [.cell 2 (some 11)]⟩
theorem k18 : cFn Tryz.prog Tryz.f18 = some c18 := by kernel_rfl
theorem toSa_ok : OkT Tryz.prog 18 (pureSp (toR_S sh_Sa)) := by
  refine okT_toR (OkΓT.cons toWindow_ok (OkΓT.cons toSelS_ok (OkΓT.nil _))) Tryz.func18 (by kernel_rfl) k18 ?_
  intro c hc hz
  obtain ⟨a0, a1, a2, a3, a4, a5, a6, a7, a8, a9, c10, rfl, hc10⟩ := sh_Sa_Has hc
  simp only [szCs, szC] at hz
  simp only [fzCs, fzC]
  (dsimp only [c18, rO]; simp (maxSteps := 8000000) -implicitDefEqProofs (disch := omega) only [↓reduceIte, go_sem, to_Window_at, toC_at hc10 (by omega)])
  refine endT_cells' 3 (.inr rfl) (by (simp (maxSteps := 8000000) -implicitDefEqProofs (disch := omega) only [↓reduceIte, go_sem, fzCs, fzC, tvCs, tvC_v, tvC_nl, tvC_sl, bkCs, bkC, nbC, nbCs, Nat.add_zero, List.append_nil, List.nil_append]) <;> rfl) ?_ (by simp only [List.length_cons]; omega)
  simp only [List.drop_succ_cons, List.drop_zero, bkCs, bkC, nbC, Nat.add_zero, List.append_nil, List.nil_append, List.cons_append, Nat.add_assoc]
theorem eq_Sa_at {c10 : Cell} (hc10 : FitC sh_SelS c10) (hz : szC c10 ≤ 1099511627776) (a0 : Int) (a1 : Int) (a2 : Int) (a3 : Bool) (a4 : Int) (a5 : Int) (a6 : Int) (a7 : Int) (a8 : Int) (a9 : Int) : eqR_S sh_Sa [.agg [.p (.int .i64 a0), .p (.int .i64 a1), .p (.int .i64 a2), .p (.bool a3), .p (.int .i64 a4), .p (.int .i64 a5), .p (.int .i64 a6), .p (.int .i64 a7), .p (.int .i64 a8), .p (.int .i64 a9), fzC c10], .agg [.p (.int .i64 a0), .p (.int .i64 a1), .p (.int .i64 a2), .p (.bool a3), .p (.int .i64 a4), .p (.int .i64 a5), .p (.int .i64 a6), .p (.int .i64 a7), .p (.int .i64 a8), .p (.int .i64 a9), fzC c10]] = some (.p (.bool true), []) := by
  exact eqR_at (sh_Sa_mkFit hc10 a0 a1 a2 a3 a4 a5 a6 a7 a8 a9) (by simp only [szCs, szC]; omega)
-- laws.eqSa
def c20 : AF := ⟨57,
 (.seq (.reg [rO 2 (.box 54 (.t 0)),
 rO 3 (.box 54 (.t 1)),
 rO 4 (.mv (.v (.bool false)))])
 (.seq (.seq (.reg [rO 5 (.fa (.t 2) 0),
 rO 6 (.ld (.t 5)),
 rO 7 (.fa (.t 3) 0),
 rO 8 (.ld (.t 7)),
 rO 9 (.bin .neq (.t 6) (.t 8))])
 (.cond (.t 9) (.seq (.reg [rO 4 (.mv (.v (.bool false)))])
 .ret)
 .skip))
 (.seq (.seq (.reg [rO 10 (.fa (.t 2) 1),
 rO 11 (.ld (.t 10)),
 rO 12 (.fa (.t 3) 1),
 rO 13 (.ld (.t 12)),
 rO 14 (.bin .neq (.t 11) (.t 13))])
 (.cond (.t 14) (.seq (.reg [rO 4 (.mv (.v (.bool false)))])
 .ret)
 .skip))
 (.seq (.seq (.reg [rO 15 (.fa (.t 2) 2),
 rO 16 (.ld (.t 15)),
 rO 17 (.fa (.t 3) 2),
 rO 18 (.ld (.t 17)),
 rO 19 (.bin .neq (.t 16) (.t 18))])
 (.cond (.t 19) (.seq (.reg [rO 4 (.mv (.v (.bool false)))])
 .ret)
 .skip))
 (.seq (.seq (.reg [rO 20 (.fa (.t 2) 3),
 rO 21 (.ld (.t 20)),
 rO 22 (.fa (.t 3) 3),
 rO 23 (.ld (.t 22)),
 rO 24 (.eqB true (.t 21) (.t 23))])
 (.cond (.t 24) (.seq (.reg [rO 4 (.mv (.v (.bool false)))])
 .ret)
 .skip))
 (.seq (.seq (.reg [rO 25 (.fa (.t 2) 4),
 rO 26 (.ld (.t 25)),
 rO 27 (.fa (.t 3) 4),
 rO 28 (.ld (.t 27)),
 rO 29 (.bin .neq (.t 26) (.t 28))])
 (.cond (.t 29) (.seq (.reg [rO 4 (.mv (.v (.bool false)))])
 .ret)
 .skip))
 (.seq (.seq (.reg [rO 30 (.fa (.t 2) 5),
 rO 31 (.ldn 2 (.t 30)),
 rO 32 (.fa (.t 3) 5),
 rO 33 (.ldn 2 (.t 32)),
 rO 34 (.call 61 [(.t 31), (.t 33)]),
 rO 35 (.un .not (.t 34))])
 (.cond (.t 35) (.seq (.reg [rO 4 (.mv (.v (.bool false)))])
 .ret)
 .skip))
 (.seq (.seq (.reg [rO 36 (.fa (.t 2) 7),
 rO 37 (.ld (.t 36)),
 rO 38 (.fa (.t 3) 7),
 rO 39 (.ld (.t 38)),
 rO 40 (.bin .neq (.t 37) (.t 39))])
 (.cond (.t 40) (.seq (.reg [rO 4 (.mv (.v (.bool false)))])
 .ret)
 .skip))
 (.seq (.seq (.reg [rO 41 (.fa (.t 2) 8),
 rO 42 (.ld (.t 41)),
 rO 43 (.fa (.t 3) 8),
 rO 44 (.ld (.t 43)),
 rO 45 (.bin .neq (.t 42) (.t 44))])
 (.cond (.t 45) (.seq (.reg [rO 4 (.mv (.v (.bool false)))])
 .ret)
 .skip))
 (.seq (.seq (.reg [rO 46 (.fa (.t 2) 9),
 rO 47 (.ld (.t 46)),
 rO 48 (.fa (.t 3) 9),
 rO 49 (.ld (.t 48)),
 rO 50 (.bin .neq (.t 47) (.t 49))])
 (.cond (.t 50) (.seq (.reg [rO 4 (.mv (.v (.bool false)))])
 .ret)
 .skip))
 (.seq (.seq (.reg [rO 51 (.fa (.t 2) 10),
 rO 52 (.ld (.t 51)),
 rO 53 (.fa (.t 3) 10),
 rO 54 (.ld (.t 53)),
 rO 55 (.call 62 [(.t 52), (.t 54)]),
 rO 56 (.un .not (.t 55))])
 (.cond (.t 56) (.seq (.reg [rO 4 (.mv (.v (.bool false)))])
 .ret)
 .skip))
 (.seq (.reg [rO 4 (.mv (.v (.bool true)))])
 .ret)))))))))))),
 [.t 4]⟩
theorem k20 : cFn Tryz.prog Tryz.f20 = some c20 := by kernel_rfl
theorem eqSa_ok : OkT Tryz.prog 20 (pureSp (eqR_S sh_Sa)) := by
  refine okT_eqR (OkΓT.cons eqWindow_ok (OkΓT.cons eqSelS_ok (OkΓT.nil _))) Tryz.func20 (by kernel_rfl) k20 ?_
  intro c hc hz
  obtain ⟨a0, a1, a2, a3, a4, a5, a6, a7, a8, a9, c10, rfl, hc10⟩ := sh_Sa_Fit hc
  simp only [szCs, szC] at hz
  simp only [fzCs, fzC]
  (dsimp only [c20, rO]; simp (maxSteps := 8000000) -implicitDefEqProofs (disch := omega) only [↓reduceIte, go_sem, eq_Window_at, eqC_at hc10 (by omega)])
  repeat' first
    | ((first | refine gdKT_deq (fun hg hG => ?_) (fun hg hG => ?_) | refine condKT_deq (fun hg hG => ?_) (fun hg hG => ?_)) <;> (try simp (maxSteps := 8000000) -implicitDefEqProofs (disch := omega) only [↓reduceIte, go_sem, hG, eq_Window_at, eqC_at hc10 (by omega)]) <;> clear hG)
    | ((first | refine gdKT_split (fun hg => ?_) (fun hg => ?_) | refine condKT_split (fun hg => ?_) (fun hg => ?_)) <;> (try simp (maxSteps := 8000000) -implicitDefEqProofs (disch := omega) only [↓reduceIte, go_sem, hg, eq_Window_at, eqC_at hc10 (by omega)]))
    | (refine endT_p (.inr rfl) (by simp (maxSteps := 8000000) -implicitDefEqProofs (disch := omega) only [↓reduceIte, go_sem, eq_Window_at, eqC_at hc10 (by omega)]; rfl) ?_; (first | exact vb_true (by omega) | exact vb_false (by omega) | exact vb_dec (by omega) | exact vi_eq (by omega) | rfl | (refine vi_eq ?_; simp_all; first | done | (intros; omega))))
    | exact endT_v (.inr rfl) (by simp (maxSteps := 8000000) -implicitDefEqProofs (disch := omega) only [↓reduceIte, go_sem, eq_Window_at, eqC_at hc10 (by omega)]; try rfl) (fun _ => rfl)
theorem sz_Sa_at {c10 : Cell} (hc10 : HasC sh_SelS c10) {k : Int} (hk : 0 ≤ k ∧ k ≤ 1048576) (hz : lnC c10 = true) (a0 : Int) (a1 : Int) (a2 : Int) (a3 : Bool) (a4 : Int) (a5 : Int) (a6 : Int) (a7 : Int) (a8 : Int) (a9 : Int) : szR_S sh_Sa [.agg [.p (.int .i64 a0), .p (.int .i64 a1), .p (.int .i64 a2), .p (.bool a3), .p (.int .i64 a4), .p (.int .i64 a5), .p (.int .i64 a6), .p (.int .i64 a7), .p (.int .i64 a8), .p (.int .i64 a9), fzC c10], .p (.int .i64 k)] = some (.p (.int .i64 (if ((szC c10 : Nat) : Int) ≤ k then k - (szC c10 : Nat) else -1)), []) := by
  have := szR_at (sh_Sa_mkHas hc10 a0 a1 a2 a3 a4 a5 a6 a7 a8 a9) hk (by simp only [lnCs, lnC, Bool.true_and, Bool.and_true, Bool.and_eq_true]; exact hz)
  simpa only [fzCs, fzC, szCs, szC, Nat.add_zero, Nat.zero_add, Nat.add_assoc] using this
-- laws.szSa
def c16 : AF := ⟨12,
 (.seq (.reg [rO 2 (.box 48 (.t 0)),
 rO 4 (.mv (.v (.int .i64 0)))])
 (.seq (.reg [rO 5 (.fa (.t 2) 10),
 rO 6 (.ld (.t 5)),
 rO 7 (.mv (.t 1)),
 rO 8 (.call 56 [(.t 6), (.t 7)]),
 rO 1 (.mv (.t 8))])
 (.seq (.seq (.reg [rO 9 (.mv (.t 1)),
 rO 10 (.bin .lss (.t 9) (.v (.int .i64 0)))])
 (.cond (.t 10) (.seq (.reg [rO 4 (.mv (.v (.int .i64 (-1))))])
 .ret)
 .skip))
 (.seq (.reg [rO 11 (.mv (.t 1)),
 rO 4 (.mv (.t 11))])
 .ret)))),
 [.t 4]⟩
theorem k16 : cFn Tryz.prog Tryz.f16 = some c16 := by kernel_rfl
theorem szSa_ok : OkT Tryz.prog 16 (pureSp (szR_S sh_Sa)) := by
  refine okT_szR (OkΓT.cons szSelS_ok (OkΓT.nil _)) Tryz.func16 (by kernel_rfl) k16 ?_
  intro c k hc h1 h2 hz
  obtain ⟨a0, a1, a2, a3, a4, a5, a6, a7, a8, a9, c10, rfl, hc10⟩ := sh_Sa_Has hc
  generalize hN : szCs _ = N at *
  simp only [szCs, szC, Nat.add_zero, Nat.zero_add] at hN
  simp only [lnCs, lnC, Bool.true_and, Bool.and_true, Bool.and_eq_true] at hz
  have wc10 := hz
  simp only [fzCs, fzC]
  have zc10 := szC_at (k := k) hc10 (by omega) wc10
  by_cases qc10 : (szC c10 : Int) ≤ k
  case neg =>
    rw [if_neg qc10] at zc10
    rw [if_neg (show ¬ _ by omega)]
    (dsimp only [c16, rO]; simp (maxSteps := 8000000) -implicitDefEqProofs (disch := omega) only [↓reduceIte, go_sem, zc10])
    repeat' first
      | ((first | refine gdKT_deq (fun hg hG => ?_) (fun hg hG => ?_) | refine condKT_deq (fun hg hG => ?_) (fun hg hG => ?_)) <;> (try simp (maxSteps := 8000000) -implicitDefEqProofs (disch := omega) only [↓reduceIte, go_sem, hG, zc10]) <;> clear hG)
      | ((first | refine gdKT_split (fun hg => ?_) (fun hg => ?_) | refine condKT_split (fun hg => ?_) (fun hg => ?_)) <;> (try simp (maxSteps := 8000000) -implicitDefEqProofs (disch := omega) only [↓reduceIte, go_sem, hg, zc10]))
      | (refine endT_p (.inr rfl) (by simp (maxSteps := 8000000) -implicitDefEqProofs (disch := omega) only [↓reduceIte, go_sem, zc10]; rfl) ?_; (first | exact vb_true (by omega) | exact vb_false (by omega) | exact vb_dec (by omega) | exact vi_eq (by omega) | rfl | (refine vi_eq ?_; simp_all; first | done | (intros; omega))))
      | exact endT_v (.inr rfl) (by simp (maxSteps := 8000000) -implicitDefEqProofs (disch := omega) only [↓reduceIte, go_sem, zc10]; try rfl) (fun _ => rfl)
  rw [if_pos qc10] at zc10
  rw [if_pos (show _ by omega), show k - (N : Int) = k - (szC c10 : Int) by omega]
  (dsimp only [c16, rO]; simp (maxSteps := 8000000) -implicitDefEqProofs (disch := omega) only [↓reduceIte, go_sem, zc10])
  repeat' first
    | ((first | refine gdKT_deq (fun hg hG => ?_) (fun hg hG => ?_) | refine condKT_deq (fun hg hG => ?_) (fun hg hG => ?_)) <;> (try simp (maxSteps := 8000000) -implicitDefEqProofs (disch := omega) only [↓reduceIte, go_sem, hG, zc10]) <;> clear hG)
    | ((first | refine gdKT_split (fun hg => ?_) (fun hg => ?_) | refine condKT_split (fun hg => ?_) (fun hg => ?_)) <;> (try simp (maxSteps := 8000000) -implicitDefEqProofs (disch := omega) only [↓reduceIte, go_sem, hg, zc10]))
    | (refine endT_p (.inr rfl) (by simp (maxSteps := 8000000) -implicitDefEqProofs (disch := omega) only [↓reduceIte, go_sem, zc10]; rfl) ?_; (first | exact vb_true (by omega) | exact vb_false (by omega) | exact vb_dec (by omega) | exact vi_eq (by omega) | rfl | (refine vi_eq ?_; simp_all; first | done | (intros; omega))))
    | exact endT_v (.inr rfl) (by simp (maxSteps := 8000000) -implicitDefEqProofs (disch := omega) only [↓reduceIte, go_sem, zc10]; try rfl) (fun _ => rfl)
def sh_SaS : Shp := .sl 54 sh_Sa
-- laws.toSaS
def c40 : AF := ⟨23,
 (.seq (.reg [rO 2 (.mv (.v (.slice none 0 0)))])
 (.seq (.reg [rO 5 (.mv (.t 0)),
 rO 6 (.len (.t 5)),
 rO 7 (.mkSl 54 11 104 [(.int .i64 0), (.int .i64 0), (.int .i64 0), (.bool false), (.int .i64 0), (.int .i64 0), (.int .i64 0), (.int .i64 0), (.int .i64 0), (.int .i64 0), (.slice none 0 0)] (.t 6) (.t 6)),
 rO 3 (.mv (.t 7))])
 (.seq (.seq (.reg [rO 4 (.mv (.v (.int .i64 0)))])
 (.block 0 (.loop (.seq (.seq (.reg [rO 8 (.mv (.t 4)),
 rO 9 (.mv (.t 0)),
 rO 10 (.len (.t 9)),
 rO 11 (.bin .lss (.t 8) (.t 10))])
 (.cond (.t 11) .skip
 (.exit 0)))
 (.seq (.block 1 (.reg [rO 14 (.mv (.t 3)),
 rO 15 (.mv (.t 4)),
 rO 16 (.mv (.t 0)),
 rO 17 (.mv (.t 4)),
 rO 18 (.ia 11 (.t 16) (.t 17)),
 rO 19 (.ldn 11 (.t 18)),
 rO 20 (.call 18 [(.t 19)]),
 rO 21 (.ia 11 (.t 14) (.t 15)),
 ⟨none, none, .st 11 (.t 21) (.t 20)⟩]))
 (.reg [rO 12 (.mv (.t 4)),
 rO 13 (.bin .add (.t 12) (.v (.int .i64 1))),
 rO 4 (.mv (.t 13))]))))))
 (.seq (.reg [rO 22 (.mv (.t 3)),
 rO 2 (.mv (.t 22))])
 .ret)))),
 [.t 2]⟩
theorem k40 : cFn Tryz.prog Tryz.f40 = some c40 := by kernel_rfl
theorem toSaS_ok : OkT Tryz.prog 40 (pureSp (toC_S sh_SaS)) := by
  refine okT_toC (OkΓT.cons toSa_ok (OkΓT.nil _)) Tryz.func40 (by kernel_rfl) k40 ?_
  intro c hc hz
  simp only [sh_SaS, HasC] at hc
  obtain ⟨rows, rfl, hr⟩ := hc
  simp only [szC] at hz
  have hlen : ∀ r ∈ rows, r.length = 11 := fun r hx => (hr r hx).len
  generalize hzz : (el [.p (.int .i64 0), .p (.int .i64 0), .p (.int .i64 0), .p (.bool false), .p (.int .i64 0), .p (.int .i64 0), .p (.int .i64 0), .p (.int .i64 0), .p (.int .i64 0), .p (.int .i64 0), .nl] : TV) = z0
  have hz1 : cellsT z0 = [.p (.int .i64 0), .p (.int .i64 0), .p (.int .i64 0), .p (.bool false), .p (.int .i64 0), .p (.int .i64 0), .p (.int .i64 0), .p (.int .i64 0), .p (.int .i64 0), .p (.int .i64 0), .nl] := by rw [← hzz]; rfl
  simp only [fzC, tvC_v, tvC_nl, tvC_sl, bkC]
  (dsimp only [c40, rO]; simp (maxSteps := 8000000) -implicitDefEqProofs (disch := omega) only [↓reduceIte, go_sem, hzz, mixR_zero 1 rows z0])
  refine awpT_loop (α := Nat) (fun i => ⟨slots [(0, .s (fzRs rows)), (3, .os 0 0 rows.length), (4, .p (.int .i64 i))], .cells 54 11 (mixR 1 rows z0 i) :: bkRs 1 (rows.take i)⟩)
    (fun i => i ≤ rows.length) (fun i => rows.length - i) 0 (Nat.zero_le _) (by simp only [List.take_zero, bkRs]; exact le_keep (Nat.zero_le _) (by simp (maxSteps := 8000000) -implicitDefEqProofs (disch := omega) only [↓reduceIte, go_sem, slotsIn])) ?_
  intro i hi
  simp (maxSteps := 8000000) -implicitDefEqProofs (disch := omega) only [↓reduceIte, go_sem, mixR_len 1 rows z0 hi]
  refine condKT_dec (fun hlt => ?_) (fun hge => ?_)
  · obtain ⟨r, hx⟩ := get_ex (l := rows) (i := i) (by omega)
    have hrr := hr r (List.mem_of_getElem? hx)
    have hzr := szRs_mem hx
    have hg := fzRs_get hx; have hm := mixR_get 1 (rows := rows) z0 (i := i) (by omega)
    have hs := mixR_set 1 z0 hx; have hb := bkRs_snoc 1 hx; have hn := bkRs_len 1 (rows.take i)
    obtain ⟨a0, a1, a2, a3, a4, a5, a6, a7, a8, a9, c10, rfl, hc10⟩ := sh_Sa_Has hrr
    simp only [szCs, szC] at hzr
    simp only [fzCs, fzC, tvCs, tvC_v, tvC_nl, tvC_sl, bkCs, bkC, nbC, nbCs, Nat.add_zero, List.append_nil, List.nil_append, el_one, el_two, Nat.add_comm 1 (nbRs _)] at hg hs hb
    simp (maxSteps := 8000000) -implicitDefEqProofs (disch := omega) only [↓reduceIte, go_sem, eq_true hlt, hg, hm, hs, hn, hz1, el_two, to_Sa_at hc10 (by omega)]
    refine loopKT_next (i + 1) (by omega) (by omega) ?_
    rw [hb]; refine (le_keep (Nat.zero_le _) ?_) <;> simp (maxSteps := 8000000) -implicitDefEqProofs (disch := omega) only [↓reduceIte, go_sem, slotsIn]
  · have hb : rows.take i = rows := List.take_of_length_le (by omega)
    have hm := mixR_full 1 (rows := rows) z0 (i := i) (by omega)
    simp (maxSteps := 8000000) -implicitDefEqProofs (disch := omega) only [↓reduceIte, go_sem, eq_false hge, hb, hm]
    refine joinK_here ?_
    simp (maxSteps := 8000000) -implicitDefEqProofs (disch := omega) only [↓reduceIte, go_sem]
    exact endT_same (.inr rfl) (by (simp (maxSteps := 8000000) -implicitDefEqProofs (disch := omega) only [↓reduceIte, go_sem]) <;> rfl) rfl
-- laws.eqSaS
def c48 : AF := ⟨27,
 (.seq (.reg [rO 4 (.mv (.v (.bool false)))])
 (.seq (.seq (.reg [rO 6 (.mv (.t 0)),
 rO 7 (.len (.t 6)),
 rO 8 (.mv (.t 1)),
 rO 9 (.len (.t 8)),
 rO 10 (.bin .neq (.t 7) (.t 9))])
 (.cond (.t 10) (.seq (.reg [rO 4 (.mv (.v (.bool false)))])
 .ret)
 .skip))
 (.seq (.seq (.reg [rO 5 (.mv (.v (.int .i64 0)))])
 (.block 0 (.loop (.seq (.seq (.reg [rO 11 (.mv (.t 5)),
 rO 12 (.mv (.t 0)),
 rO 13 (.len (.t 12)),
 rO 14 (.bin .lss (.t 11) (.t 13))])
 (.cond (.t 14) .skip
 (.exit 0)))
 (.seq (.block 1 (.seq (.drw [rO 17 (.mv (.t 0)),
 rO 18 (.mv (.t 5)),
 rO 19 (.ia 11 (.t 17) (.t 18)),
 rO 20 (.ldn 11 (.t 19)),
 rO 21 (.mv (.t 1)),
 rO 22 (.mv (.t 5)),
 rO 23 (.ia 11 (.t 21) (.t 22)),
 rO 24 (.ldn 11 (.t 23))] [rO 25 (.call 20 [(.t 20), (.t 24)]),
 rO 26 (.un .not (.t 25))])
 (.cond (.t 26) (.seq (.reg [rO 4 (.mv (.v (.bool false)))])
 .ret)
 .skip)))
 (.reg [rO 15 (.mv (.t 5)),
 rO 16 (.bin .add (.t 15) (.v (.int .i64 1))),
 rO 5 (.mv (.t 16))]))))))
 (.seq (.reg [rO 4 (.mv (.v (.bool true)))])
 .ret)))),
 [.t 4]⟩
theorem k48 : cFn Tryz.prog Tryz.f48 = some c48 := by kernel_rfl
theorem eqSaS_ok : OkT Tryz.prog 48 (pureSp (eqC_S sh_SaS)) := by
  refine okT_eqC (OkΓT.cons eqSa_ok (OkΓT.nil _)) Tryz.func48 (by kernel_rfl) k48 ?_
  intro c hc hz
  obtain ⟨rows, hf, hr, hsz, _⟩ := FitC.rows hc
  rw [hf]
  (dsimp only [c48, rO]; simp (maxSteps := 8000000) -implicitDefEqProofs (disch := omega) only [↓reduceIte, go_sem])
  refine awpT_loop (α := Nat) (fun i => ⟨slots [(0, .s (fzRs rows)), (1, .s (fzRs rows)), (5, .p (.int .i64 i))], []⟩) (fun i => i ≤ rows.length) (fun i => rows.length - i) 0 (Nat.zero_le _) (le_of [] (by simp (maxSteps := 8000000) -implicitDefEqProofs (disch := omega) only [↓reduceIte, go_sem]) (by simp (maxSteps := 8000000) -implicitDefEqProofs (disch := omega) only [↓reduceIte, go_sem]) (by decide) (by simp)) ?_
  intro i hi
  simp (maxSteps := 8000000) -implicitDefEqProofs (disch := omega) only [↓reduceIte, go_sem]
  refine condKT_dec (fun hlt => ?_) (fun hge => ?_)
  · obtain ⟨r, hx⟩ := get_ex (l := rows) (i := i) (by omega)
    have hrr := hr r (List.mem_of_getElem? hx)
    have hzr := szRs_mem hx
    have hg := fzRs_get hx
    obtain ⟨a0, a1, a2, a3, a4, a5, a6, a7, a8, a9, c10, rfl, hc10⟩ := sh_Sa_Fit hrr
    simp only [szCs, szC] at hzr
    simp only [fzCs, fzC, el_one, el_two] at hg
    simp (maxSteps := 8000000) -implicitDefEqProofs (disch := omega) only [↓reduceIte, go_sem, eq_true hlt, hg, eq_Sa_at hc10 (by omega)]
    refine loopKT_next (i + 1) (by omega) (by omega) ?_
    exact (le_of [] (by simp (maxSteps := 8000000) -implicitDefEqProofs (disch := omega) only [↓reduceIte, go_sem]) (by simp (maxSteps := 8000000) -implicitDefEqProofs (disch := omega) only [↓reduceIte, go_sem]) (by decide) (by simp))
  · simp (maxSteps := 8000000) -implicitDefEqProofs (disch := omega) only [↓reduceIte, go_sem, eq_false hge]
    refine joinK_here ?_
    simp (maxSteps := 8000000) -implicitDefEqProofs (disch := omega) only [↓reduceIte, go_sem]
    repeat' first
      | ((first | refine gdKT_deq (fun hg hG => ?_) (fun hg hG => ?_) | refine condKT_deq (fun hg hG => ?_) (fun hg hG => ?_)) <;> (try simp (maxSteps := 8000000) -implicitDefEqProofs (disch := omega) only [↓reduceIte, go_sem, hG]) <;> clear hG)
      | ((first | refine gdKT_split (fun hg => ?_) (fun hg => ?_) | refine condKT_split (fun hg => ?_) (fun hg => ?_)) <;> (try simp (maxSteps := 8000000) -implicitDefEqProofs (disch := omega) only [↓reduceIte, go_sem, hg]))
      | (refine endT_p (.inr rfl) (by simp (maxSteps := 8000000) -implicitDefEqProofs (disch := omega) only [↓reduceIte, go_sem]; rfl) ?_; (first | exact vb_true (by omega) | exact vb_false (by omega) | exact vb_dec (by omega) | exact vi_eq (by omega) | rfl | (refine vi_eq ?_; simp_all; first | done | (intros; omega))))
      | exact endT_v (.inr rfl) (by simp (maxSteps := 8000000) -implicitDefEqProofs (disch := omega) only [↓reduceIte, go_sem]; try rfl) (fun _ => rfl)
-- laws.szSaS
def c31 : AF := ⟨27,
 (.seq (.reg [rO 4 (.mv (.v (.int .i64 0)))])
 (.seq (.reg [rO 6 (.mv (.t 1)),
 rO 7 (.mv (.t 0)),
 rO 8 (.len (.t 7)),
 rO 9 (.bin .sub (.t 6) (.t 8)),
 rO 1 (.mv (.t 9))])
 (.seq (.seq (.reg [rO 10 (.mv (.t 1)),
 rO 11 (.bin .lss (.t 10) (.v (.int .i64 0)))])
 (.cond (.t 11) (.seq (.reg [rO 4 (.mv (.v (.int .i64 (-1))))])
 .ret)
 .skip))
 (.seq (.seq (.reg [rO 5 (.mv (.v (.int .i64 0)))])
 (.block 0 (.loop (.seq (.seq (.reg [rO 12 (.mv (.t 5)),
 rO 13 (.mv (.t 0)),
 rO 14 (.len (.t 13)),
 rO 15 (.bin .lss (.t 12) (.t 14))])
 (.cond (.t 15) .skip
 (.exit 0)))
 (.seq (.block 1 (.seq (.reg [rO 18 (.mv (.t 0)),
 rO 19 (.mv (.t 5)),
 rO 20 (.ia 11 (.t 18) (.t 19)),
 rO 21 (.ldn 11 (.t 20)),
 rO 22 (.mv (.t 1)),
 rO 23 (.call 16 [(.t 21), (.t 22)]),
 rO 1 (.mv (.t 23))])
 (.seq (.reg [rO 24 (.mv (.t 1)),
 rO 25 (.bin .lss (.t 24) (.v (.int .i64 0)))])
 (.cond (.t 25) (.seq (.reg [rO 4 (.mv (.v (.int .i64 (-1))))])
 .ret)
 .skip))))
 (.reg [rO 16 (.mv (.t 5)),
 rO 17 (.bin .add (.t 16) (.v (.int .i64 1))),
 rO 5 (.mv (.t 17))]))))))
 (.seq (.reg [rO 26 (.mv (.t 1)),
 rO 4 (.mv (.t 26))])
 .ret))))),
 [.t 4]⟩
theorem k31 : cFn Tryz.prog Tryz.f31 = some c31 := by kernel_rfl
theorem szSaS_ok : OkT Tryz.prog 31 (pureSp (szC_S sh_SaS)) := by
  refine okT_szC (OkΓT.cons szSa_ok (OkΓT.nil _)) Tryz.func31 (by kernel_rfl) k31 ?_
  intro c k hc h1 h2 hz
  simp only [sh_SaS, HasC] at hc
  obtain ⟨rows, rfl, hr⟩ := hc
  generalize hN : szC _ = N at *
  simp only [szC] at hN
  simp only [lnC, Bool.and_eq_true, decide_eq_true_eq] at hz
  obtain ⟨hz, hzr⟩ := hz
  simp only [fzC]
  by_cases q : (rows.length : Int) ≤ k
  case neg =>
    rw [if_neg (by omega)]
    (dsimp only [c31, rO]; simp (maxSteps := 8000000) -implicitDefEqProofs (disch := omega) only [↓reduceIte, go_sem])
    repeat' first
      | ((first | refine gdKT_deq (fun hg hG => ?_) (fun hg hG => ?_) | refine condKT_deq (fun hg hG => ?_) (fun hg hG => ?_)) <;> (try simp (maxSteps := 8000000) -implicitDefEqProofs (disch := omega) only [↓reduceIte, go_sem, hG]) <;> clear hG)
      | ((first | refine gdKT_split (fun hg => ?_) (fun hg => ?_) | refine condKT_split (fun hg => ?_) (fun hg => ?_)) <;> (try simp (maxSteps := 8000000) -implicitDefEqProofs (disch := omega) only [↓reduceIte, go_sem, hg]))
      | (refine endT_p (.inr rfl) (by simp (maxSteps := 8000000) -implicitDefEqProofs (disch := omega) only [↓reduceIte, go_sem]; rfl) ?_; (first | exact vb_true (by omega) | exact vb_false (by omega) | exact vb_dec (by omega) | exact vi_eq (by omega) | rfl | (refine vi_eq ?_; simp_all; first | done | (intros; omega))))
      | exact endT_v (.inr rfl) (by simp (maxSteps := 8000000) -implicitDefEqProofs (disch := omega) only [↓reduceIte, go_sem]; try rfl) (fun _ => rfl)
  (dsimp only [c31, rO]; simp (maxSteps := 8000000) -implicitDefEqProofs (disch := omega) only [↓reduceIte, go_sem, eq_false (show ¬ (k - (rows.length : Int) < 0) by omega)])
  refine awpT_loop (α := Nat) (fun i => ⟨slots [(0, .s (fzRs rows)), (1, .p (.int .i64 (k - (rows.length : Int) - (szRs (rows.take i) : Int)))), (5, .p (.int .i64 i))], []⟩) (fun i => i ≤ rows.length ∧ (rows.length : Int) + szRs (rows.take i) ≤ k) (fun i => rows.length - i) 0 ⟨Nat.zero_le _, by simp only [List.take_zero, szRs]; omega⟩ (by simp only [List.take_zero, szRs, nat0T, Int.sub_zero]; exact (le_of [] (by simp (maxSteps := 8000000) -implicitDefEqProofs (disch := omega) only [↓reduceIte, go_sem]) (by simp (maxSteps := 8000000) -implicitDefEqProofs (disch := omega) only [↓reduceIte, go_sem]) (by decide) (by simp))) ?_
  intro i ⟨hi, hk⟩
  simp (maxSteps := 8000000) -implicitDefEqProofs (disch := omega) only [↓reduceIte, go_sem]
  refine condKT_dec (fun hlt => ?_) (fun hge => ?_)
  · obtain ⟨r, hx⟩ := get_ex (l := rows) (i := i) (by omega)
    have hrr := hr r (List.mem_of_getElem? hx)
    have hln := lnRs_mem hzr hx
    have hzr := szRs_mem hx
    have hg := fzRs_get hx; have hsn := szRs_snoc hx
    obtain ⟨a0, a1, a2, a3, a4, a5, a6, a7, a8, a9, c10, rfl, hc10⟩ := sh_Sa_Has hrr
    simp only [lnCs, lnC, Bool.true_and, Bool.and_true, Bool.and_eq_true] at hln
    simp only [szCs, szC, Nat.add_zero, Nat.zero_add] at hzr hsn
    simp only [fzCs, fzC, el_one, el_two] at hg
    have hq := fun a0 a1 a2 a3 a4 a5 a6 a7 a8 a9 => sz_Sa_at hc10 (k := k - (rows.length : Int) - (szRs (rows.take i) : Int)) (by omega) hln a0 a1 a2 a3 a4 a5 a6 a7 a8 a9
    by_cases q2 : ((szC c10 : Nat) : Int) ≤ k - (rows.length : Int) - (szRs (rows.take i) : Int)
    · simp only [if_pos q2] at hq
      simp (maxSteps := 8000000) -implicitDefEqProofs (disch := omega) only [↓reduceIte, go_sem, eq_true hlt, hg, hq, eq_false (show ¬ (k - (rows.length : Int) - (szRs (rows.take i) : Int) - ((szC c10 : Nat) : Int) < 0) by omega)]
      refine loopKT_next (i + 1) ⟨by omega, by omega⟩ (by omega) ?_
      have hs2 : k - (rows.length : Int) - (szRs (rows.take i) : Int) - ((szC c10 : Nat) : Int) = k - (rows.length : Int) - (szRs (rows.take (i + 1)) : Int) := by omega
      exact (le_of [] (by simp (maxSteps := 8000000) -implicitDefEqProofs (disch := omega) only [↓reduceIte, go_sem, hs2]) (by simp (maxSteps := 8000000) -implicitDefEqProofs (disch := omega) only [↓reduceIte, go_sem, hs2]) (by decide) (by simp))
    · simp only [if_neg q2] at hq
      rw [if_neg (show ¬ _ by omega)]
      simp (maxSteps := 8000000) -implicitDefEqProofs (disch := omega) only [↓reduceIte, go_sem, eq_true hlt, hg, hq]
      repeat' first
        | ((first | refine gdKT_deq (fun hg hG => ?_) (fun hg hG => ?_) | refine condKT_deq (fun hg hG => ?_) (fun hg hG => ?_)) <;> (try simp (maxSteps := 8000000) -implicitDefEqProofs (disch := omega) only [↓reduceIte, go_sem, hG, eq_true hlt, hg, hq]) <;> clear hG)
        | ((first | refine gdKT_split (fun hg => ?_) (fun hg => ?_) | refine condKT_split (fun hg => ?_) (fun hg => ?_)) <;> (try simp (maxSteps := 8000000) -implicitDefEqProofs (disch := omega) only [↓reduceIte, go_sem, hg, eq_true hlt, hg, hq]))
        | (refine endT_p (.inr rfl) (by simp (maxSteps := 8000000) -implicitDefEqProofs (disch := omega) only [↓reduceIte, go_sem, eq_true hlt, hg, hq]; rfl) ?_; (first | exact vb_true (by omega) | exact vb_false (by omega) | exact vb_dec (by omega) | exact vi_eq (by omega) | rfl | (refine vi_eq ?_; simp_all; first | done | (intros; omega))))
        | exact endT_v (.inr rfl) (by simp (maxSteps := 8000000) -implicitDefEqProofs (disch := omega) only [↓reduceIte, go_sem, eq_true hlt, hg, hq]; try rfl) (fun _ => rfl)
  · have hb : rows.take i = rows := List.take_of_length_le (by omega)
    rw [hb] at hk
    rw [if_pos (show _ by omega), show k - (N : Int) = k - (rows.length : Int) - (szRs rows : Int) by omega]
    simp (maxSteps := 8000000) -implicitDefEqProofs (disch := omega) only [↓reduceIte, go_sem, eq_false hge, hb]
    refine joinK_here ?_
    simp (maxSteps := 8000000) -implicitDefEqProofs (disch := omega) only [↓reduceIte, go_sem]
    repeat' first
      | ((first | refine gdKT_deq (fun hg hG => ?_) (fun hg hG => ?_) | refine condKT_deq (fun hg hG => ?_) (fun hg hG => ?_)) <;> (try simp (maxSteps := 8000000) -implicitDefEqProofs (disch := omega) only [↓reduceIte, go_sem, hG]) <;> clear hG)
      | ((first | refine gdKT_split (fun hg => ?_) (fun hg => ?_) | refine condKT_split (fun hg => ?_) (fun hg => ?_)) <;> (try simp (maxSteps := 8000000) -implicitDefEqProofs (disch := omega) only [↓reduceIte, go_sem, hg]))
      | (refine endT_p (.inr rfl) (by simp (maxSteps := 8000000) -implicitDefEqProofs (disch := omega) only [↓reduceIte, go_sem]; rfl) ?_; (first | exact vb_true (by omega) | exact vb_false (by omega) | exact vb_dec (by omega) | exact vi_eq (by omega) | rfl | (refine vi_eq ?_; simp_all; first | done | (intros; omega))))
      | exact endT_v (.inr rfl) (by simp (maxSteps := 8000000) -implicitDefEqProofs (disch := omega) only [↓reduceIte, go_sem]; try rfl) (fun _ => rfl)
def sh_Int64S : Shp := .sl 2 [.i .i64]
-- laws.toInt64S
def c41 : AF := ⟨22,
 (.seq (.reg [rO 2 (.mv (.v (.slice none 0 0)))])
 (.seq (.reg [rO 5 (.mv (.t 0)),
 rO 6 (.len (.t 5)),
 rO 7 (.mkSl 2 1 8 [(.int .i64 0)] (.t 6) (.t 6)),
 rO 3 (.mv (.t 7))])
 (.seq (.seq (.reg [rO 4 (.mv (.v (.int .i64 0)))])
 (.block 0 (.loop (.seq (.seq (.reg [rO 8 (.mv (.t 4)),
 rO 9 (.mv (.t 0)),
 rO 10 (.len (.t 9)),
 rO 11 (.bin .lss (.t 8) (.t 10))])
 (.cond (.t 11) .skip
 (.exit 0)))
 (.seq (.block 1 (.reg [rO 14 (.mv (.t 3)),
 rO 15 (.mv (.t 4)),
 rO 16 (.mv (.t 0)),
 rO 17 (.mv (.t 4)),
 rO 18 (.ia 1 (.t 16) (.t 17)),
 rO 19 (.ld (.t 18)),
 rO 20 (.ia 1 (.t 14) (.t 15)),
 ⟨none, none, .st 1 (.t 20) (.t 19)⟩]))
 (.reg [rO 12 (.mv (.t 4)),
 rO 13 (.bin .add (.t 12) (.v (.int .i64 1))),
 rO 4 (.mv (.t 13))]))))))
 (.seq (.reg [rO 21 (.mv (.t 3)),
 rO 2 (.mv (.t 21))])
 .ret)))),
 [.t 2]⟩
theorem k41 : cFn Tryz.prog Tryz.f41 = some c41 := by kernel_rfl
theorem toInt64S_ok : OkT Tryz.prog 41 (pureSp (toC_S sh_Int64S)) := by
  refine okT_toC (OkΓT.nil _) Tryz.func41 (by kernel_rfl) k41 ?_
  intro c hc hz
  simp only [sh_Int64S, HasC] at hc
  obtain ⟨rows, rfl, hr⟩ := hc
  simp only [szC] at hz
  have hlen : ∀ r ∈ rows, r.length = 1 := fun r hx => (hr r hx).len
  generalize hzz : (el [.p (.int .i64 0)] : TV) = z0
  have hz1 : cellsT z0 = [.p (.int .i64 0)] := by rw [← hzz]; rfl
  simp only [fzC, tvC_v, tvC_nl, tvC_sl, bkC]
  (dsimp only [c41, rO]; simp (maxSteps := 8000000) -implicitDefEqProofs (disch := omega) only [↓reduceIte, go_sem, hzz, mixR_zero 1 rows z0])
  refine awpT_loop (α := Nat) (fun i => ⟨slots [(0, .s (fzRs rows)), (3, .os 0 0 rows.length), (4, .p (.int .i64 i))], .cells 2 1 (mixR 1 rows z0 i) :: bkRs 1 (rows.take i)⟩)
    (fun i => i ≤ rows.length) (fun i => rows.length - i) 0 (Nat.zero_le _) (by simp only [List.take_zero, bkRs]; exact le_keep (Nat.zero_le _) (by simp (maxSteps := 8000000) -implicitDefEqProofs (disch := omega) only [↓reduceIte, go_sem, slotsIn])) ?_
  intro i hi
  simp (maxSteps := 8000000) -implicitDefEqProofs (disch := omega) only [↓reduceIte, go_sem, mixR_len 1 rows z0 hi]
  refine condKT_dec (fun hlt => ?_) (fun hge => ?_)
  · obtain ⟨r, hx⟩ := get_ex (l := rows) (i := i) (by omega)
    have hrr := hr r (List.mem_of_getElem? hx)
    have hzr := szRs_mem hx
    have hg := fzRs_get hx; have hm := mixR_get 1 (rows := rows) z0 (i := i) (by omega)
    have hs := mixR_set 1 z0 hx; have hb := bkRs_snoc 1 hx; have hn := bkRs_len 1 (rows.take i)
    obtain ⟨_, _, rfl, ⟨a0, rfl, _⟩, hrr⟩ := hrr; simp only [HasR] at hrr; subst hrr
    simp only [fzCs, fzC, tvCs, tvC_v, tvC_nl, tvC_sl, bkCs, bkC, nbC, nbCs, Nat.add_zero, List.append_nil, List.nil_append, el_one, el_two, Nat.add_comm 1 (nbRs _)] at hg hs hb
    simp (maxSteps := 8000000) -implicitDefEqProofs (disch := omega) only [↓reduceIte, go_sem, eq_true hlt, hg, hm, hs, hn, hz1, el_two]
    refine loopKT_next (i + 1) (by omega) (by omega) ?_
    rw [hb]; refine (le_keep (Nat.zero_le _) ?_) <;> simp (maxSteps := 8000000) -implicitDefEqProofs (disch := omega) only [↓reduceIte, go_sem, slotsIn]
  · have hb : rows.take i = rows := List.take_of_length_le (by omega)
    have hm := mixR_full 1 (rows := rows) z0 (i := i) (by omega)
    simp (maxSteps := 8000000) -implicitDefEqProofs (disch := omega) only [↓reduceIte, go_sem, eq_false hge, hb, hm]
    refine joinK_here ?_
    simp (maxSteps := 8000000) -implicitDefEqProofs (disch := omega) only [↓reduceIte, go_sem]
    exact endT_same (.inr rfl) (by (simp (maxSteps := 8000000) -implicitDefEqProofs (disch := omega) only [↓reduceIte, go_sem]) <;> rfl) rfl
-- laws.eqInt64S
def c49 : AF := ⟨26,
 (.seq (.reg [rO 4 (.mv (.v (.bool false)))])
 (.seq (.seq (.reg [rO 6 (.mv (.t 0)),
 rO 7 (.len (.t 6)),
 rO 8 (.mv (.t 1)),
 rO 9 (.len (.t 8)),
 rO 10 (.bin .neq (.t 7) (.t 9))])
 (.cond (.t 10) (.seq (.reg [rO 4 (.mv (.v (.bool false)))])
 .ret)
 .skip))
 (.seq (.seq (.reg [rO 5 (.mv (.v (.int .i64 0)))])
 (.block 0 (.loop (.seq (.seq (.reg [rO 11 (.mv (.t 5)),
 rO 12 (.mv (.t 0)),
 rO 13 (.len (.t 12)),
 rO 14 (.bin .lss (.t 11) (.t 13))])
 (.cond (.t 14) .skip
 (.exit 0)))
 (.seq (.block 1 (.seq (.drw [rO 17 (.mv (.t 0)),
 rO 18 (.mv (.t 5)),
 rO 19 (.ia 1 (.t 17) (.t 18)),
 rO 20 (.ld (.t 19)),
 rO 21 (.mv (.t 1)),
 rO 22 (.mv (.t 5)),
 rO 23 (.ia 1 (.t 21) (.t 22)),
 rO 24 (.ld (.t 23))] [rO 25 (.bin .neq (.t 20) (.t 24))])
 (.cond (.t 25) (.seq (.reg [rO 4 (.mv (.v (.bool false)))])
 .ret)
 .skip)))
 (.reg [rO 15 (.mv (.t 5)),
 rO 16 (.bin .add (.t 15) (.v (.int .i64 1))),
 rO 5 (.mv (.t 16))]))))))
 (.seq (.reg [rO 4 (.mv (.v (.bool true)))])
 .ret)))),
 [.t 4]⟩
theorem k49 : cFn Tryz.prog Tryz.f49 = some c49 := by kernel_rfl
theorem eqInt64S_ok : OkT Tryz.prog 49 (pureSp (eqC_S sh_Int64S)) := by
  refine okT_eqC (OkΓT.nil _) Tryz.func49 (by kernel_rfl) k49 ?_
  intro c hc hz
  obtain ⟨rows, hf, hr, hsz, _⟩ := FitC.rows hc
  rw [hf]
  (dsimp only [c49, rO]; simp (maxSteps := 8000000) -implicitDefEqProofs (disch := omega) only [↓reduceIte, go_sem])
  refine awpT_loop (α := Nat) (fun i => ⟨slots [(0, .s (fzRs rows)), (1, .s (fzRs rows)), (5, .p (.int .i64 i))], []⟩) (fun i => i ≤ rows.length) (fun i => rows.length - i) 0 (Nat.zero_le _) (le_of [] (by simp (maxSteps := 8000000) -implicitDefEqProofs (disch := omega) only [↓reduceIte, go_sem]) (by simp (maxSteps := 8000000) -implicitDefEqProofs (disch := omega) only [↓reduceIte, go_sem]) (by decide) (by simp)) ?_
  intro i hi
  simp (maxSteps := 8000000) -implicitDefEqProofs (disch := omega) only [↓reduceIte, go_sem]
  refine condKT_dec (fun hlt => ?_) (fun hge => ?_)
  · obtain ⟨r, hx⟩ := get_ex (l := rows) (i := i) (by omega)
    have hrr := hr r (List.mem_of_getElem? hx)
    have hzr := szRs_mem hx
    have hg := fzRs_get hx
    obtain ⟨_, _, rfl, ⟨a0, rfl⟩, hrr⟩ := hrr; simp only [FitR] at hrr; subst hrr
    simp only [szCs, szC] at hzr
    simp only [fzCs, fzC, el_one, el_two] at hg
    simp (maxSteps := 8000000) -implicitDefEqProofs (disch := omega) only [↓reduceIte, go_sem, eq_true hlt, hg, not_true, decide_false]
    refine loopKT_next (i + 1) (by omega) (by omega) ?_
    exact (le_of [] (by simp (maxSteps := 8000000) -implicitDefEqProofs (disch := omega) only [↓reduceIte, go_sem]) (by simp (maxSteps := 8000000) -implicitDefEqProofs (disch := omega) only [↓reduceIte, go_sem]) (by decide) (by simp))
  · simp (maxSteps := 8000000) -implicitDefEqProofs (disch := omega) only [↓reduceIte, go_sem, eq_false hge]
    refine joinK_here ?_
    simp (maxSteps := 8000000) -implicitDefEqProofs (disch := omega) only [↓reduceIte, go_sem]
    repeat' first
      | ((first | refine gdKT_deq (fun hg hG => ?_) (fun hg hG => ?_) | refine condKT_deq (fun hg hG => ?_) (fun hg hG => ?_)) <;> (try simp (maxSteps := 8000000) -implicitDefEqProofs (disch := omega) only [↓reduceIte, go_sem, hG]) <;> clear hG)
      | ((first | refine gdKT_split (fun hg => ?_) (fun hg => ?_) | refine condKT_split (fun hg => ?_) (fun hg => ?_)) <;> (try simp (maxSteps := 8000000) -implicitDefEqProofs (disch := omega) only [↓reduceIte, go_sem, hg]))
      | (refine endT_p (.inr rfl) (by simp (maxSteps := 8000000) -implicitDefEqProofs (disch := omega) only [↓reduceIte, go_sem]; rfl) ?_; (first | exact vb_true (by omega) | exact vb_false (by omega) | exact vb_dec (by omega) | exact vi_eq (by omega) | rfl | (refine vi_eq ?_; simp_all; first | done | (intros; omega))))
      | exact endT_v (.inr rfl) (by simp (maxSteps := 8000000) -implicitDefEqProofs (disch := omega) only [↓reduceIte, go_sem]; try rfl) (fun _ => rfl)
-- laws.szInt64S
def c32 : AF := ⟨12,
 (.seq (.reg [rO 4 (.mv (.v (.int .i64 0)))])
 (.seq (.reg [rO 5 (.mv (.t 1)),
 rO 6 (.mv (.t 0)),
 rO 7 (.len (.t 6)),
 rO 8 (.bin .sub (.t 5) (.t 7)),
 rO 1 (.mv (.t 8))])
 (.seq (.seq (.reg [rO 9 (.mv (.t 1)),
 rO 10 (.bin .lss (.t 9) (.v (.int .i64 0)))])
 (.cond (.t 10) (.seq (.reg [rO 4 (.mv (.v (.int .i64 (-1))))])
 .ret)
 .skip))
 (.seq (.reg [rO 11 (.mv (.t 1)),
 rO 4 (.mv (.t 11))])
 .ret)))),
 [.t 4]⟩
theorem k32 : cFn Tryz.prog Tryz.f32 = some c32 := by kernel_rfl
theorem szInt64S_ok : OkT Tryz.prog 32 (pureSp (szC_S sh_Int64S)) := by
  refine okT_szC (OkΓT.nil _) Tryz.func32 (by kernel_rfl) k32 ?_
  intro c k hc h1 h2 hz
  simp only [sh_Int64S, HasC] at hc
  obtain ⟨rows, rfl, hr⟩ := hc
  generalize hN : szC _ = N at *
  simp only [szC] at hN
  simp only [lnC, Bool.and_eq_true, decide_eq_true_eq] at hz
  obtain ⟨hz, hzr⟩ := hz
  simp only [fzC]
  have hz0 : szRs rows = 0 := szRs_zero fun r hx => by
    have hrr := hr r hx
    obtain ⟨_, _, rfl, ⟨a0, rfl, _⟩, hrr⟩ := hrr; simp only [HasR] at hrr; subst hrr
    rfl
  by_cases q : (rows.length : Int) ≤ k
  · rw [if_pos (by omega), show (N : Int) = rows.length by omega]
    (dsimp only [c32, rO]; simp (maxSteps := 8000000) -implicitDefEqProofs (disch := omega) only [↓reduceIte, go_sem])
    repeat' first
      | ((first | refine gdKT_deq (fun hg hG => ?_) (fun hg hG => ?_) | refine condKT_deq (fun hg hG => ?_) (fun hg hG => ?_)) <;> (try simp (maxSteps := 8000000) -implicitDefEqProofs (disch := omega) only [↓reduceIte, go_sem, hG]) <;> clear hG)
      | ((first | refine gdKT_split (fun hg => ?_) (fun hg => ?_) | refine condKT_split (fun hg => ?_) (fun hg => ?_)) <;> (try simp (maxSteps := 8000000) -implicitDefEqProofs (disch := omega) only [↓reduceIte, go_sem, hg]))
      | (refine endT_p (.inr rfl) (by simp (maxSteps := 8000000) -implicitDefEqProofs (disch := omega) only [↓reduceIte, go_sem]; rfl) ?_; (first | exact vb_true (by omega) | exact vb_false (by omega) | exact vb_dec (by omega) | exact vi_eq (by omega) | rfl | (refine vi_eq ?_; simp_all; first | done | (intros; omega))))
      | exact endT_v (.inr rfl) (by simp (maxSteps := 8000000) -implicitDefEqProofs (disch := omega) only [↓reduceIte, go_sem]; try rfl) (fun _ => rfl)
  · rw [if_neg (by omega)]
    (dsimp only [c32, rO]; simp (maxSteps := 8000000) -implicitDefEqProofs (disch := omega) only [↓reduceIte, go_sem])
    repeat' first
      | ((first | refine gdKT_deq (fun hg hG => ?_) (fun hg hG => ?_) | refine condKT_deq (fun hg hG => ?_) (fun hg hG => ?_)) <;> (try simp (maxSteps := 8000000) -implicitDefEqProofs (disch := omega) only [↓reduceIte, go_sem, hG]) <;> clear hG)
      | ((first | refine gdKT_split (fun hg => ?_) (fun hg => ?_) | refine condKT_split (fun hg => ?_) (fun hg => ?_)) <;> (try simp (maxSteps := 8000000) -implicitDefEqProofs (disch := omega) only [↓reduceIte, go_sem, hg]))
      | (refine endT_p (.inr rfl) (by simp (maxSteps := 8000000) -implicitDefEqProofs (disch := omega) only [↓reduceIte, go_sem]; rfl) ?_; (first | exact vb_true (by omega) | exact vb_false (by omega) | exact vb_dec (by omega) | exact vi_eq (by omega) | rfl | (refine vi_eq ?_; simp_all; first | done | (intros; omega))))
      | exact endT_v (.inr rfl) (by simp (maxSteps := 8000000) -implicitDefEqProofs (disch := omega) only [↓reduceIte, go_sem]; try rfl) (fun _ => rfl)
/-! Box -/
def sh_Box : List Shp := [.i .i64, sh_RuleS, sh_PeerS, sh_SaS, .i .i64, sh_Int64S]
theorem sh_Box_Has {cs : List Cell} (h : HasR sh_Box cs) : ∃ (a0 : Int) (a4 : Int) (c1 : Cell) (c2 : Cell) (c3 : Cell) (c5 : Cell), cs = [.v (.int .i64 a0), c1, c2, c3, .v (.int .i64 a4), c5] ∧ HasC sh_RuleS c1 ∧ HasC sh_PeerS c2 ∧ HasC sh_SaS c3 ∧ HasC sh_Int64S c5 := by
  obtain ⟨_, _, rfl, ⟨a0, rfl, _⟩, c1, _, rfl, hc1, c2, _, rfl, hc2, c3, _, rfl, hc3, _, _, rfl, ⟨a4, rfl, _⟩, c5, _, rfl, hc5, h⟩ := h
  simp only [HasR] at h; subst h
  exact ⟨a0, a4, c1, c2, c3, c5, rfl, hc1, hc2, hc3, hc5⟩
theorem sh_Box_Fit {cs : List Cell} (h : FitR sh_Box cs) : ∃ (a0 : Int) (a4 : Int) (c1 : Cell) (c2 : Cell) (c3 : Cell) (c5 : Cell), cs = [.v (.int .i64 a0), c1, c2, c3, .v (.int .i64 a4), c5] ∧ FitC sh_RuleS c1 ∧ FitC sh_PeerS c2 ∧ FitC sh_SaS c3 ∧ FitC sh_Int64S c5 := by
  obtain ⟨_, _, rfl, ⟨a0, rfl⟩, c1, _, rfl, hc1, c2, _, rfl, hc2, c3, _, rfl, hc3, _, _, rfl, ⟨a4, rfl⟩, c5, _, rfl, hc5, h⟩ := h
  simp only [FitR] at h; subst h
  exact ⟨a0, a4, c1, c2, c3, c5, rfl, hc1, hc2, hc3, hc5⟩
theorem sh_Box_mkFit {c1 : Cell} {c2 : Cell} {c3 : Cell} {c5 : Cell} (hc1 : FitC sh_RuleS c1) (hc2 : FitC sh_PeerS c2) (hc3 : FitC sh_SaS c3) (hc5 : FitC sh_Int64S c5) (a0 : Int) (a4 : Int) : FitR sh_Box [.v (.int .i64 a0), c1, c2, c3, .v (.int .i64 a4), c5] := by
  exact ⟨_, _, rfl, ⟨_, rfl⟩, _, _, rfl, hc1, _, _, rfl, hc2, _, _, rfl, hc3, _, _, rfl, ⟨_, rfl⟩, _, _, rfl, hc5, rfl⟩
-- laws.toBox
def c9 : AF := ⟨27,
 (.seq (.reg [rO 1 (.box 27 (.t 0)),
 rO 2 (.alloc 34 [(.int .i64 0), (.slice none 0 0), (.slice none 0 0), (.slice none 0 0), (.int .i64 0), (.slice none 0 0)])])
 (.seq (.reg [rO 3 (.alloc 34 [(.int .i64 0), (.slice none 0 0), (.slice none 0 0), (.slice none 0 0), (.int .i64 0), (.slice none 0 0)])])
 (.seq (.reg [rO 4 (.fa (.t 1) 0),
 rO 5 (.ld (.t 4)),
 rO 6 (.fa (.t 3) 0),
 ⟨none, none, .st 1 (.t 6) (.t 5)⟩])
 (.seq (.reg [rO 7 (.fa (.t 1) 1),
 rO 8 (.ld (.t 7)),
 rO 9 (.call 38 [(.t 8)]),
 rO 10 (.fa (.t 3) 1),
 ⟨none, none, .st 1 (.t 10) (.t 9)⟩])
 (.seq (.reg [rO 11 (.fa (.t 1) 2),
 rO 12 (.ld (.t 11)),
 rO 13 (.call 39 [(.t 12)]),
 rO 14 (.fa (.t 3) 2),
 ⟨none, none, .st 1 (.t 14) (.t 13)⟩])
 (.seq (.reg [rO 15 (.fa (.t 1) 3),
 rO 16 (.ld (.t 15)),
 rO 17 (.call 40 [(.t 16)]),
 rO 18 (.fa (.t 3) 3),
 ⟨none, none, .st 1 (.t 18) (.t 17)⟩])
 (.seq (.reg [rO 19 (.fa (.t 1) 4),
 rO 20 (.ld (.t 19)),
 rO 21 (.fa (.t 3) 4),
 ⟨none, none, .st 1 (.t 21) (.t 20)⟩])
 (.seq (.reg [rO 22 (.fa (.t 1) 5),
 rO 23 (.ld (.t 22)),
 rO 24 (.call 41 [(.t 23)]),
 rO 25 (.fa (.t 3) 5),
 ⟨none, none, .st 1 (.t 25) (.t 24)⟩])
 (.seq (.reg [rO 26 (.ldn 6 (.t 3)),
 ⟨none, none, .st 6 (.t 2) (.t 26)⟩])
 .ret))))))))),
 [.cell 2 (some 6)]⟩
theorem k9 : cFn Tryz.prog Tryz.f9 = some c9 := by kernel_rfl
theorem toBox_ok : OkT Tryz.prog 9 (pureSp (toR_S sh_Box)) := by
  refine okT_toR (OkΓT.cons toRuleS_ok (OkΓT.cons toPeerS_ok (OkΓT.cons toSaS_ok (OkΓT.cons toInt64S_ok (OkΓT.nil _))))) Tryz.func9 (by kernel_rfl) k9 ?_
  intro c hc hz
  obtain ⟨a0, a4, c1, c2, c3, c5, rfl, hc1, hc2, hc3, hc5⟩ := sh_Box_Has hc
  simp only [szCs, szC] at hz
  simp only [fzCs, fzC]
  (dsimp only [c9, rO]; simp (maxSteps := 8000000) -implicitDefEqProofs (disch := omega) only [↓reduceIte, go_sem, toC_at hc1 (by omega), toC_at hc2 (by omega), toC_at hc3 (by omega), toC_at hc5 (by omega)])
  have w1 : nbC c1 + 1 + 1 + 1 = 3 + nbC c1 := by omega
  have w2 : nbC c1 + (nbC c2) + 1 + 1 + 1 = 3 + nbC c1 + nbC c2 := by omega
  have w3 : nbC c1 + (nbC c2 + (nbC c3)) + 1 + 1 + 1 = 3 + nbC c1 + nbC c2 + nbC c3 := by omega
  refine endT_cells' 3 (.inr rfl) (by (simp (maxSteps := 8000000) -implicitDefEqProofs (disch := omega) only [↓reduceIte, go_sem, fzCs, fzC, tvCs, tvC_v, tvC_nl, tvC_sl, bkCs, bkC, nbC, nbCs, Nat.add_zero, List.append_nil, List.nil_append, bkC_len, w1, w2, w3]) <;> rfl) ?_ (by simp only [List.length_cons]; omega)
  simp only [List.drop_succ_cons, List.drop_zero, bkCs, bkC, nbC, Nat.add_zero, List.append_nil, List.nil_append, List.cons_append, bkC_len, w1, w2, w3]
theorem eq_Box_at {c1 : Cell} {c2 : Cell} {c3 : Cell} {c5 : Cell} (hc1 : FitC sh_RuleS c1) (hc2 : FitC sh_PeerS c2) (hc3 : FitC sh_SaS c3) (hc5 : FitC sh_Int64S c5) (hz : szC c1 + szC c2 + szC c3 + szC c5 ≤ 1099511627776) (a0 : Int) (a4 : Int) : eqR_S sh_Box [.agg [.p (.int .i64 a0), fzC c1, fzC c2, fzC c3, .p (.int .i64 a4), fzC c5], .agg [.p (.int .i64 a0), fzC c1, fzC c2, fzC c3, .p (.int .i64 a4), fzC c5]] = some (.p (.bool true), []) := by
  exact eqR_at (sh_Box_mkFit hc1 hc2 hc3 hc5 a0 a4) (by simp only [szCs, szC]; omega)
-- laws.eqBox
def c12 : AF := ⟨39,
 (.seq (.reg [rO 2 (.box 34 (.t 0)),
 rO 3 (.box 34 (.t 1)),
 rO 4 (.mv (.v (.bool false)))])
 (.seq (.seq (.reg [rO 5 (.fa (.t 2) 0),
 rO 6 (.ld (.t 5)),
 rO 7 (.fa (.t 3) 0),
 rO 8 (.ld (.t 7)),
 rO 9 (.bin .neq (.t 6) (.t 8))])
 (.cond (.t 9) (.seq (.reg [rO 4 (.mv (.v (.bool false)))])
 .ret)
 .skip))
 (.seq (.seq (.reg [rO 10 (.fa (.t 2) 1),
 rO 11 (.ld (.t 10)),
 rO 12 (.fa (.t 3) 1),
 rO 13 (.ld (.t 12)),
 rO 14 (.call 46 [(.t 11), (.t 13)]),
 rO 15 (.un .not (.t 14))])
 (.cond (.t 15) (.seq (.reg [rO 4 (.mv (.v (.bool false)))])
 .ret)
 .skip))
 (.seq (.seq (.reg [rO 16 (.fa (.t 2) 2),
 rO 17 (.ld (.t 16)),
 rO 18 (.fa (.t 3) 2),
 rO 19 (.ld (.t 18)),
 rO 20 (.call 47 [(.t 17), (.t 19)]),
 rO 21 (.un .not (.t 20))])
 (.cond (.t 21) (.seq (.reg [rO 4 (.mv (.v (.bool false)))])
 .ret)
 .skip))
 (.seq (.seq (.reg [rO 22 (.fa (.t 2) 3),
 rO 23 (.ld (.t 22)),
 rO 24 (.fa (.t 3) 3),
 rO 25 (.ld (.t 24)),
 rO 26 (.call 48 [(.t 23), (.t 25)]),
 rO 27 (.un .not (.t 26))])
 (.cond (.t 27) (.seq (.reg [rO 4 (.mv (.v (.bool false)))])
 .ret)
 .skip))
 (.seq (.seq (.reg [rO 28 (.fa (.t 2) 4),
 rO 29 (.ld (.t 28)),
 rO 30 (.fa (.t 3) 4),
 rO 31 (.ld (.t 30)),
 rO 32 (.bin .neq (.t 29) (.t 31))])
 (.cond (.t 32) (.seq (.reg [rO 4 (.mv (.v (.bool false)))])
 .ret)
 .skip))
 (.seq (.seq (.reg [rO 33 (.fa (.t 2) 5),
 rO 34 (.ld (.t 33)),
 rO 35 (.fa (.t 3) 5),
 rO 36 (.ld (.t 35)),
 rO 37 (.call 49 [(.t 34), (.t 36)]),
 rO 38 (.un .not (.t 37))])
 (.cond (.t 38) (.seq (.reg [rO 4 (.mv (.v (.bool false)))])
 .ret)
 .skip))
 (.seq (.reg [rO 4 (.mv (.v (.bool true)))])
 .ret)))))))),
 [.t 4]⟩
theorem k12 : cFn Tryz.prog Tryz.f12 = some c12 := by kernel_rfl
theorem eqBox_ok : OkT Tryz.prog 12 (pureSp (eqR_S sh_Box)) := by
  refine okT_eqR (OkΓT.cons eqRuleS_ok (OkΓT.cons eqPeerS_ok (OkΓT.cons eqSaS_ok (OkΓT.cons eqInt64S_ok (OkΓT.nil _))))) Tryz.func12 (by kernel_rfl) k12 ?_
  intro c hc hz
  obtain ⟨a0, a4, c1, c2, c3, c5, rfl, hc1, hc2, hc3, hc5⟩ := sh_Box_Fit hc
  simp only [szCs, szC] at hz
  simp only [fzCs, fzC]
  (dsimp only [c12, rO]; simp (maxSteps := 8000000) -implicitDefEqProofs (disch := omega) only [↓reduceIte, go_sem, eqC_at hc1 (by omega), eqC_at hc2 (by omega), eqC_at hc3 (by omega), eqC_at hc5 (by omega)])
  repeat' first
    | ((first | refine gdKT_deq (fun hg hG => ?_) (fun hg hG => ?_) | refine condKT_deq (fun hg hG => ?_) (fun hg hG => ?_)) <;> (try simp (maxSteps := 8000000) -implicitDefEqProofs (disch := omega) only [↓reduceIte, go_sem, hG, eqC_at hc1 (by omega), eqC_at hc2 (by omega), eqC_at hc3 (by omega), eqC_at hc5 (by omega)]) <;> clear hG)
    | ((first | refine gdKT_split (fun hg => ?_) (fun hg => ?_) | refine condKT_split (fun hg => ?_) (fun hg => ?_)) <;> (try simp (maxSteps := 8000000) -implicitDefEqProofs (disch := omega) only [↓reduceIte, go_sem, hg, eqC_at hc1 (by omega), eqC_at hc2 (by omega), eqC_at hc3 (by omega), eqC_at hc5 (by omega)]))
    | (refine endT_p (.inr rfl) (by simp (maxSteps := 8000000) -implicitDefEqProofs (disch := omega) only [↓reduceIte, go_sem, eqC_at hc1 (by omega), eqC_at hc2 (by omega), eqC_at hc3 (by omega), eqC_at hc5 (by omega)]; rfl) ?_; (first | exact vb_true (by omega) | exact vb_false (by omega) | exact vb_dec (by omega) | exact vi_eq (by omega) | rfl | (refine vi_eq ?_; simp_all; first | done | (intros; omega))))
    | exact endT_v (.inr rfl) (by simp (maxSteps := 8000000) -implicitDefEqProofs (disch := omega) only [↓reduceIte, go_sem, eqC_at hc1 (by omega), eqC_at hc2 (by omega), eqC_at hc3 (by omega), eqC_at hc5 (by omega)]; try rfl) (fun _ => rfl)
-- laws.szBox
def c7 : AF := ⟨30,
 (.seq (.reg [rO 2 (.box 27 (.t 0)),
 rO 4 (.mv (.v (.int .i64 0)))])
 (.seq (.reg [rO 5 (.fa (.t 2) 1),
 rO 6 (.ld (.t 5)),
 rO 7 (.mv (.t 1)),
 rO 8 (.call 29 [(.t 6), (.t 7)]),
 rO 1 (.mv (.t 8))])
 (.seq (.seq (.reg [rO 9 (.mv (.t 1)),
 rO 10 (.bin .lss (.t 9) (.v (.int .i64 0)))])
 (.cond (.t 10) (.seq (.reg [rO 4 (.mv (.v (.int .i64 (-1))))])
 .ret)
 .skip))
 (.seq (.reg [rO 11 (.fa (.t 2) 2),
 rO 12 (.ld (.t 11)),
 rO 13 (.mv (.t 1)),
 rO 14 (.call 30 [(.t 12), (.t 13)]),
 rO 1 (.mv (.t 14))])
 (.seq (.seq (.reg [rO 15 (.mv (.t 1)),
 rO 16 (.bin .lss (.t 15) (.v (.int .i64 0)))])
 (.cond (.t 16) (.seq (.reg [rO 4 (.mv (.v (.int .i64 (-1))))])
 .ret)
 .skip))
 (.seq (.reg [rO 17 (.fa (.t 2) 3),
 rO 18 (.ld (.t 17)),
 rO 19 (.mv (.t 1)),
 rO 20 (.call 31 [(.t 18), (.t 19)]),
 rO 1 (.mv (.t 20))])
 (.seq (.seq (.reg [rO 21 (.mv (.t 1)),
 rO 22 (.bin .lss (.t 21) (.v (.int .i64 0)))])
 (.cond (.t 22) (.seq (.reg [rO 4 (.mv (.v (.int .i64 (-1))))])
 .ret)
 .skip))
 (.seq (.reg [rO 23 (.fa (.t 2) 5),
 rO 24 (.ld (.t 23)),
 rO 25 (.mv (.t 1)),
 rO 26 (.call 32 [(.t 24), (.t 25)]),
 rO 1 (.mv (.t 26))])
 (.seq (.seq (.reg [rO 27 (.mv (.t 1)),
 rO 28 (.bin .lss (.t 27) (.v (.int .i64 0)))])
 (.cond (.t 28) (.seq (.reg [rO 4 (.mv (.v (.int .i64 (-1))))])
 .ret)
 .skip))
 (.seq (.reg [rO 29 (.mv (.t 1)),
 rO 4 (.mv (.t 29))])
 .ret)))))))))),
 [.t 4]⟩
theorem k7 : cFn Tryz.prog Tryz.f7 = some c7 := by kernel_rfl
theorem szBox_ok : OkT Tryz.prog 7 (pureSp (szR_S sh_Box)) := by
  refine okT_szR (OkΓT.cons szRuleS_ok (OkΓT.cons szPeerS_ok (OkΓT.cons szSaS_ok (OkΓT.cons szInt64S_ok (OkΓT.nil _))))) Tryz.func7 (by kernel_rfl) k7 ?_
  intro c k hc h1 h2 hz
  obtain ⟨a0, a4, c1, c2, c3, c5, rfl, hc1, hc2, hc3, hc5⟩ := sh_Box_Has hc
  generalize hN : szCs _ = N at *
  simp only [szCs, szC, Nat.add_zero, Nat.zero_add] at hN
  simp only [lnCs, lnC, Bool.true_and, Bool.and_true, Bool.and_eq_true] at hz
  obtain ⟨wc1, wc2, wc3, wc5⟩ := hz
  simp only [fzCs, fzC]
  have zc1 := szC_at (k := k) hc1 (by omega) wc1
  by_cases qc1 : (szC c1 : Int) ≤ k
  case neg =>
    rw [if_neg qc1] at zc1
    rw [if_neg (show ¬ _ by omega)]
    (dsimp only [c7, rO]; simp (maxSteps := 8000000) -implicitDefEqProofs (disch := omega) only [↓reduceIte, go_sem, zc1])
    repeat' first
      | ((first | refine gdKT_deq (fun hg hG => ?_) (fun hg hG => ?_) | refine condKT_deq (fun hg hG => ?_) (fun hg hG => ?_)) <;> (try simp (maxSteps := 8000000) -implicitDefEqProofs (disch := omega) only [↓reduceIte, go_sem, hG, zc1]) <;> clear hG)
      | ((first | refine gdKT_split (fun hg => ?_) (fun hg => ?_) | refine condKT_split (fun hg => ?_) (fun hg => ?_)) <;> (try simp (maxSteps := 8000000) -implicitDefEqProofs (disch := omega) only [↓reduceIte, go_sem, hg, zc1]))
      | (refine endT_p (.inr rfl) (by simp (maxSteps := 8000000) -implicitDefEqProofs (disch := omega) only [↓reduceIte, go_sem, zc1]; rfl) ?_; (first | exact vb_true (by omega) | exact vb_false (by omega) | exact vb_dec (by omega) | exact vi_eq (by omega) | rfl | (refine vi_eq ?_; simp_all; first | done | (intros; omega))))
      | exact endT_v (.inr rfl) (by simp (maxSteps := 8000000) -implicitDefEqProofs (disch := omega) only [↓reduceIte, go_sem, zc1]; try rfl) (fun _ => rfl)
  rw [if_pos qc1] at zc1
  have zc2 := szC_at (k := k - (szC c1 : Int)) hc2 (by omega) wc2
  by_cases qc2 : (szC c2 : Int) ≤ k - (szC c1 : Int)
  case neg =>
    rw [if_neg qc2] at zc2
    rw [if_neg (show ¬ _ by omega)]
    (dsimp only [c7, rO]; simp (maxSteps := 8000000) -implicitDefEqProofs (disch := omega) only [↓reduceIte, go_sem, zc1, zc2])
    repeat' first
      | ((first | refine gdKT_deq (fun hg hG => ?_) (fun hg hG => ?_) | refine condKT_deq (fun hg hG => ?_) (fun hg hG => ?_)) <;> (try simp (maxSteps := 8000000) -implicitDefEqProofs (disch := omega) only [↓reduceIte, go_sem, hG, zc1, zc2]) <;> clear hG)
      | ((first | refine gdKT_split (fun hg => ?_) (fun hg => ?_) | refine condKT_split (fun hg => ?_) (fun hg => ?_)) <;> (try simp (maxSteps := 8000000) -implicitDefEqProofs (disch := omega) only [↓reduceIte, go_sem, hg, zc1, zc2]))
      | (refine endT_p (.inr rfl) (by simp (maxSteps := 8000000) -implicitDefEqProofs (disch := omega) only [↓reduceIte, go_sem, zc1, zc2]; rfl) ?_; (first | exact vb_true (by omega) | exact vb_false (by omega) | exact vb_dec (by omega) | exact vi_eq (by omega) | rfl | (refine vi_eq ?_; simp_all; first | done | (intros; omega))))
      | exact endT_v (.inr rfl) (by simp (maxSteps := 8000000) -implicitDefEqProofs (disch := omega) only [↓reduceIte, go_sem, zc1, zc2]; try rfl) (fun _ => rfl)
  rw [if_pos qc2] at zc2
  have zc3 := szC_at (k := k - (szC c1 : Int) - (szC c2 : Int)) hc3 (by omega) wc3
  by_cases qc3 : (szC c3 : Int) ≤ k - (szC c1 : Int) - (szC c2 : Int)
  case neg =>
    rw [if_neg qc3] at zc3
    rw [if_neg (show ¬ _ by omega)]
    (dsimp only [c7, rO]; simp (maxSteps := 8000000) -implicitDefEqProofs (disch := omega) only [↓reduceIte, go_sem, zc1, zc2, zc3])
    repeat' first
      | ((first | refine gdKT_deq (fun hg hG => ?_) (fun hg hG => ?_) | refine condKT_deq (fun hg hG => ?_) (fun hg hG => ?_)) <;> (try simp (maxSteps := 8000000) -implicitDefEqProofs (disch := omega) only [↓reduceIte, go_sem, hG, zc1, zc2, zc3]) <;> clear hG)
      | ((first | refine gdKT_split (fun hg => ?_) (fun hg => ?_) | refine condKT_split (fun hg => ?_) (fun hg => ?_)) <;> (try simp (maxSteps := 8000000) -implicitDefEqProofs (disch := omega) only [↓reduceIte, go_sem, hg, zc1, zc2, zc3]))
      | (refine endT_p (.inr rfl) (by simp (maxSteps := 8000000) -implicitDefEqProofs (disch := omega) only [↓reduceIte, go_sem, zc1, zc2, zc3]; rfl) ?_; (first | exact vb_true (by omega) | exact vb_false (by omega) | exact vb_dec (by omega) | exact vi_eq (by omega) | rfl | (refine vi_eq ?_; simp_all; first | done | (intros; omega))))
      | exact endT_v (.inr rfl) (by simp (maxSteps := 8000000) -implicitDefEqProofs (disch := omega) only [↓reduceIte, go_sem, zc1, zc2, zc3]; try rfl) (fun _ => rfl)
  rw [if_pos qc3] at zc3
  have zc5 := szC_at (k := k - (szC c1 : Int) - (szC c2 : Int) - (szC c3 : Int)) hc5 (by omega) wc5
  by_cases qc5 : (szC c5 : Int) ≤ k - (szC c1 : Int) - (szC c2 : Int) - (szC c3 : Int)
  case neg =>
    rw [if_neg qc5] at zc5
    rw [if_neg (show ¬ _ by omega)]
    (dsimp only [c7, rO]; simp (maxSteps := 8000000) -implicitDefEqProofs (disch := omega) only [↓reduceIte, go_sem, zc1, zc2, zc3, zc5])
    repeat' first
      | ((first | refine gdKT_deq (fun hg hG => ?_) (fun hg hG => ?_) | refine condKT_deq (fun hg hG => ?_) (fun hg hG => ?_)) <;> (try simp (maxSteps := 8000000) -implicitDefEqProofs (disch := omega) only [↓reduceIte, go_sem, hG, zc1, zc2, zc3, zc5]) <;> clear hG)
      | ((first | refine gdKT_split (fun hg => ?_) (fun hg => ?_) | refine condKT_split (fun hg => ?_) (fun hg => ?_)) <;> (try simp (maxSteps := 8000000) -implicitDefEqProofs (disch := omega) only [↓reduceIte, go_sem, hg, zc1, zc2, zc3, zc5]))
      | (refine endT_p (.inr rfl) (by simp (maxSteps := 8000000) -implicitDefEqProofs (disch := omega) only [↓reduceIte, go_sem, zc1, zc2, zc3, zc5]; rfl) ?_; (first | exact vb_true (by omega) | exact vb_false (by omega) | exact vb_dec (by omega) | exact vi_eq (by omega) | rfl | (refine vi_eq ?_; simp_all; first | done | (intros; omega))))
      | exact endT_v (.inr rfl) (by simp (maxSteps := 8000000) -implicitDefEqProofs (disch := omega) only [↓reduceIte, go_sem, zc1, zc2, zc3, zc5]; try rfl) (fun _ => rfl)
  rw [if_pos qc5] at zc5
  rw [if_pos (show _ by omega), show k - (N : Int) = k - (szC c1 : Int) - (szC c2 : Int) - (szC c3 : Int) - (szC c5 : Int) by omega]
  (dsimp only [c7, rO]; simp (maxSteps := 8000000) -implicitDefEqProofs (disch := omega) only [↓reduceIte, go_sem, zc1, zc2, zc3, zc5])
  repeat' first
    | ((first | refine gdKT_deq (fun hg hG => ?_) (fun hg hG => ?_) | refine condKT_deq (fun hg hG => ?_) (fun hg hG => ?_)) <;> (try simp (maxSteps := 8000000) -implicitDefEqProofs (disch := omega) only [↓reduceIte, go_sem, hG, zc1, zc2, zc3, zc5]) <;> clear hG)
    | ((first | refine gdKT_split (fun hg => ?_) (fun hg => ?_) | refine condKT_split (fun hg => ?_) (fun hg => ?_)) <;> (try simp (maxSteps := 8000000) -implicitDefEqProofs (disch := omega) only [↓reduceIte, go_sem, hg, zc1, zc2, zc3, zc5]))
    | (refine endT_p (.inr rfl) (by simp (maxSteps := 8000000) -implicitDefEqProofs (disch := omega) only [↓reduceIte, go_sem, zc1, zc2, zc3, zc5]; rfl) ?_; (first | exact vb_true (by omega) | exact vb_false (by omega) | exact vb_dec (by omega) | exact vi_eq (by omega) | rfl | (refine vi_eq ?_; simp_all; first | done | (intros; omega))))
    | exact endT_v (.inr rfl) (by simp (maxSteps := 8000000) -implicitDefEqProofs (disch := omega) only [↓reduceIte, go_sem, zc1, zc2, zc3, zc5]; try rfl) (fun _ => rfl)
/-! IntResult -/
end Go.Proofs.YtghpdclhhnbgjaaGreat
