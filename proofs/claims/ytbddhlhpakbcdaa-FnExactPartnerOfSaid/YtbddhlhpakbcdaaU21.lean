import Derived.Test.YtbddhlhpakbcdaaLU
import Derived.Test.YtbddhlhpakbcdaaProg
set_option linter.unusedSimpArgs false
set_option linter.unusedVariables false
set_option maxRecDepth 100000
set_option maxHeartbeats 4000000
namespace Go.Proofs.Ytbddhlhpakbcdaa
open Go Go.AH
attribute [local irreducible] awpT ropsT qopsT stepT condKT gdKT EndT joinK loopKT seqKT blkKT kont kontR ropsTF frKT
/-! Keys -/
def sh_Keys : List Shp := [.i .i64, .i .i64, .i .i64, .i .i64]
theorem sh_Keys_Has {cs : List Cell} (h : HasR sh_Keys cs) : ∃ (a0 : Int) (a1 : Int) (a2 : Int) (a3 : Int), cs = [.v (.int .i64 a0), .v (.int .i64 a1), .v (.int .i64 a2), .v (.int .i64 a3)] := by
  obtain ⟨_, _, rfl, ⟨a0, rfl, _⟩, _, _, rfl, ⟨a1, rfl, _⟩, _, _, rfl, ⟨a2, rfl, _⟩, _, _, rfl, ⟨a3, rfl, _⟩, h⟩ := h
  simp only [HasR] at h; subst h
  exact ⟨a0, a1, a2, a3, rfl⟩
theorem sh_Keys_mkHas  (a0 : Int) (a1 : Int) (a2 : Int) (a3 : Int) : HasR sh_Keys [.v (.int .i64 a0), .v (.int .i64 a1), .v (.int .i64 a2), .v (.int .i64 a3)] := by
  exact ⟨_, _, rfl, ⟨_, rfl, fun h => by cases h⟩, _, _, rfl, ⟨_, rfl, fun h => by cases h⟩, _, _, rfl, ⟨_, rfl, fun h => by cases h⟩, _, _, rfl, ⟨_, rfl, fun h => by cases h⟩, rfl⟩
theorem sh_Keys_Fit {cs : List Cell} (h : FitR sh_Keys cs) : ∃ (a0 : Int) (a1 : Int) (a2 : Int) (a3 : Int), cs = [.v (.int .i64 a0), .v (.int .i64 a1), .v (.int .i64 a2), .v (.int .i64 a3)] := by
  obtain ⟨_, _, rfl, ⟨a0, rfl⟩, _, _, rfl, ⟨a1, rfl⟩, _, _, rfl, ⟨a2, rfl⟩, _, _, rfl, ⟨a3, rfl⟩, h⟩ := h
  simp only [FitR] at h; subst h
  exact ⟨a0, a1, a2, a3, rfl⟩
theorem sh_Keys_mkFit  (a0 : Int) (a1 : Int) (a2 : Int) (a3 : Int) : FitR sh_Keys [.v (.int .i64 a0), .v (.int .i64 a1), .v (.int .i64 a2), .v (.int .i64 a3)] := by
  exact ⟨_, _, rfl, ⟨_, rfl⟩, _, _, rfl, ⟨_, rfl⟩, _, _, rfl, ⟨_, rfl⟩, _, _, rfl, ⟨_, rfl⟩, rfl⟩
theorem to_Keys_at  (a0 : Int) (a1 : Int) (a2 : Int) (a3 : Int) : toR_S sh_Keys [.agg [.p (.int .i64 a0), .p (.int .i64 a1), .p (.int .i64 a2), .p (.int .i64 a3)]] = some (.agg [.p (.int .i64 a0), .p (.int .i64 a1), .p (.int .i64 a2), .p (.int .i64 a3)], []) := by
  have := toR_at (sh_Keys_mkHas  a0 a1 a2 a3) (by simp only [szCs, szC]; omega)
  simpa only [fzCs, fzC, tvCs, tvC_v, tvC_nl, tvC_sl, bkCs, bkC, nbC, nbCs, Nat.add_zero, List.append_nil, List.nil_append, Nat.zero_add] using this
-- laws.toKeys
def c154 : AF := ⟨17,
 (.seq (.reg [rO 1 (.box 156 (.t 0)),
 rO 2 (.alloc 34 [(.int .i64 0), (.int .i64 0), (.int .i64 0), (.int .i64 0)])])
 (.seq (.reg [rO 3 (.alloc 34 [(.int .i64 0), (.int .i64 0), (.int .i64 0), (.int .i64 0)])])
 (.seq (.reg [rO 4 (.fa (.t 1) 0),
 rO 5 (.ld (.t 4)),
 rO 6 (.fa (.t 3) 0),
 ⟨none, none, .st 1 (.t 6) (.t 5)⟩])
 (.seq (.reg [rO 7 (.fa (.t 1) 1),
 rO 8 (.ld (.t 7)),
 rO 9 (.fa (.t 3) 1),
 ⟨none, none, .st 1 (.t 9) (.t 8)⟩])
 (.seq (.reg [rO 10 (.fa (.t 1) 2),
 rO 11 (.ld (.t 10)),
 rO 12 (.fa (.t 3) 2),
 ⟨none, none, .st 1 (.t 12) (.t 11)⟩])
 (.seq (.reg [rO 13 (.fa (.t 1) 3),
 rO 14 (.ld (.t 13)),
 rO 15 (.fa (.t 3) 3),
 ⟨none, none, .st 1 (.t 15) (.t 14)⟩])
 (.seq (.reg [rO 16 (.ldn 4 (.t 3)),
 ⟨none, none, .st 4 (.t 2) (.t 16)⟩])
 .ret))))))),
 [.cell 2 (some 4)]⟩
theorem k154 : cFn Try.prog Try.f154 = some c154 := by kernel_rfl
theorem toKeys_ok : OkT Try.prog 154 (pureSp (toR_S sh_Keys)) := by
  refine okT_toR (OkΓT.nil _) Try.func154 (by kernel_rfl) k154 ?_
  intro c hc hz
  obtain ⟨a0, a1, a2, a3, rfl⟩ := sh_Keys_Has hc
  simp only [szCs, szC] at hz
  simp only [fzCs, fzC]
  (dsimp only [c154, rO]; simp (maxSteps := 8000000) -implicitDefEqProofs (disch := omega) only [↓reduceIte, go_sem])
  refine endT_cells' 3 (.inr rfl) (by (simp (maxSteps := 8000000) -implicitDefEqProofs (disch := omega) only [↓reduceIte, go_sem, fzCs, fzC, tvCs, tvC_v, tvC_nl, tvC_sl, bkCs, bkC, nbC, nbCs, Nat.add_zero, List.append_nil, List.nil_append]) <;> rfl) ?_ (by simp only [List.length_cons]; omega)
  simp only [List.drop_succ_cons, List.drop_zero, bkCs, bkC, nbC, Nat.add_zero, List.append_nil, List.nil_append, List.cons_append, Nat.add_assoc]
theorem eq_Keys_at  (a0 : Int) (a1 : Int) (a2 : Int) (a3 : Int) : eqR_S sh_Keys [.agg [.p (.int .i64 a0), .p (.int .i64 a1), .p (.int .i64 a2), .p (.int .i64 a3)], .agg [.p (.int .i64 a0), .p (.int .i64 a1), .p (.int .i64 a2), .p (.int .i64 a3)]] = some (.p (.bool true), []) := by
  exact eqR_at (sh_Keys_mkFit  a0 a1 a2 a3) (by simp only [szCs, szC]; omega)
-- laws.eqKeys
def c156 : AF := ⟨25,
 (.seq (.reg [rO 2 (.box 34 (.t 0)),
 rO 3 (.box 34 (.t 1)),
 rO 4 (.mv (.v (.bool false)))])
 (.seq (.seq (.reg [rO 5 (.fa (.t 2) 0),
 rO 6 (.ld (.t 5)),
 rO 7 (.fa (.t 3) 0),
 rO 8 (.ld (.t 7)),
 rO 9 (.bin .neq (.t 6) (.t 8))])
 (.cond (.t 9) (.seq (.reg [rO 4 (.mv (.v (.bool false)))])
 .ret)
 .skip))
 (.seq (.seq (.reg [rO 10 (.fa (.t 2) 1),
 rO 11 (.ld (.t 10)),
 rO 12 (.fa (.t 3) 1),
 rO 13 (.ld (.t 12)),
 rO 14 (.bin .neq (.t 11) (.t 13))])
 (.cond (.t 14) (.seq (.reg [rO 4 (.mv (.v (.bool false)))])
 .ret)
 .skip))
 (.seq (.seq (.reg [rO 15 (.fa (.t 2) 2),
 rO 16 (.ld (.t 15)),
 rO 17 (.fa (.t 3) 2),
 rO 18 (.ld (.t 17)),
 rO 19 (.bin .neq (.t 16) (.t 18))])
 (.cond (.t 19) (.seq (.reg [rO 4 (.mv (.v (.bool false)))])
 .ret)
 .skip))
 (.seq (.seq (.reg [rO 20 (.fa (.t 2) 3),
 rO 21 (.ld (.t 20)),
 rO 22 (.fa (.t 3) 3),
 rO 23 (.ld (.t 22)),
 rO 24 (.bin .neq (.t 21) (.t 23))])
 (.cond (.t 24) (.seq (.reg [rO 4 (.mv (.v (.bool false)))])
 .ret)
 .skip))
 (.seq (.reg [rO 4 (.mv (.v (.bool true)))])
 .ret)))))),
 [.t 4]⟩
theorem k156 : cFn Try.prog Try.f156 = some c156 := by kernel_rfl
theorem eqKeys_ok : OkT Try.prog 156 (pureSp (eqR_S sh_Keys)) := by
  refine okT_eqR (OkΓT.nil _) Try.func156 (by kernel_rfl) k156 ?_
  intro c hc hz
  obtain ⟨a0, a1, a2, a3, rfl⟩ := sh_Keys_Fit hc
  simp only [szCs, szC] at hz
  simp only [fzCs, fzC]
  (dsimp only [c156, rO]; simp (maxSteps := 8000000) -implicitDefEqProofs (disch := omega) only [↓reduceIte, go_sem])
  repeat' first
    | ((first | refine gdKT_deq (fun hg hG => ?_) (fun hg hG => ?_) | refine condKT_deq (fun hg hG => ?_) (fun hg hG => ?_)) <;> (try simp (maxSteps := 8000000) -implicitDefEqProofs (disch := omega) only [↓reduceIte, go_sem, hG]) <;> clear hG)
    | ((first | refine gdKT_split (fun hg => ?_) (fun hg => ?_) | refine condKT_split (fun hg => ?_) (fun hg => ?_)) <;> (try simp (maxSteps := 8000000) -implicitDefEqProofs (disch := omega) only [↓reduceIte, go_sem, hg]))
    | (refine endT_p (.inr rfl) (by simp (maxSteps := 8000000) -implicitDefEqProofs (disch := omega) only [↓reduceIte, go_sem]; rfl) ?_; (first | exact vb_true (by omega) | exact vb_false (by omega) | exact vb_dec (by omega) | exact vi_eq (by omega) | rfl | (refine vi_eq ?_; simp_all; first | done | (intros; omega))))
    | exact endT_v (.inr rfl) (by simp (maxSteps := 8000000) -implicitDefEqProofs (disch := omega) only [↓reduceIte, go_sem]; try rfl) (fun _ => rfl)
/-! Window -/
def sh_Window : List Shp := [.i .i64, .i .i64]
theorem sh_Window_Has {cs : List Cell} (h : HasR sh_Window cs) : ∃ (a0 : Int) (a1 : Int), cs = [.v (.int .i64 a0), .v (.int .i64 a1)] := by
  obtain ⟨_, _, rfl, ⟨a0, rfl, _⟩, _, _, rfl, ⟨a1, rfl, _⟩, h⟩ := h
  simp only [HasR] at h; subst h
  exact ⟨a0, a1, rfl⟩
theorem sh_Window_mkHas  (a0 : Int) (a1 : Int) : HasR sh_Window [.v (.int .i64 a0), .v (.int .i64 a1)] := by
  exact ⟨_, _, rfl, ⟨_, rfl, fun h => by cases h⟩, _, _, rfl, ⟨_, rfl, fun h => by cases h⟩, rfl⟩
theorem sh_Window_Fit {cs : List Cell} (h : FitR sh_Window cs) : ∃ (a0 : Int) (a1 : Int), cs = [.v (.int .i64 a0), .v (.int .i64 a1)] := by
  obtain ⟨_, _, rfl, ⟨a0, rfl⟩, _, _, rfl, ⟨a1, rfl⟩, h⟩ := h
  simp only [FitR] at h; subst h
  exact ⟨a0, a1, rfl⟩
theorem sh_Window_mkFit  (a0 : Int) (a1 : Int) : FitR sh_Window [.v (.int .i64 a0), .v (.int .i64 a1)] := by
  exact ⟨_, _, rfl, ⟨_, rfl⟩, _, _, rfl, ⟨_, rfl⟩, rfl⟩
theorem to_Window_at  (a0 : Int) (a1 : Int) : toR_S sh_Window [.agg [.p (.int .i64 a0), .p (.int .i64 a1)]] = some (.agg [.p (.int .i64 a0), .p (.int .i64 a1)], []) := by
  have := toR_at (sh_Window_mkHas  a0 a1) (by simp only [szCs, szC]; omega)
  simpa only [fzCs, fzC, tvCs, tvC_v, tvC_nl, tvC_sl, bkCs, bkC, nbC, nbCs, Nat.add_zero, List.append_nil, List.nil_append, Nat.zero_add] using this
-- laws.toWindow
def c155 : AF := ⟨11,
 (.seq (.reg [rO 1 (.box 157 (.t 0)),
 rO 2 (.alloc 36 [(.int .i64 0), (.int .i64 0)])])
 (.seq (.reg [rO 3 (.alloc 36 [(.int .i64 0), (.int .i64 0)])])
 (.seq (.reg [rO 4 (.fa (.t 1) 0),
 rO 5 (.ld (.t 4)),
 rO 6 (.fa (.t 3) 0),
 ⟨none, none, .st 1 (.t 6) (.t 5)⟩])
 (.seq (.reg [rO 7 (.fa (.t 1) 1),
 rO 8 (.ld (.t 7)),
 rO 9 (.fa (.t 3) 1),
 ⟨none, none, .st 1 (.t 9) (.t 8)⟩])
 (.seq (.reg [rO 10 (.ldn 2 (.t 3)),
 ⟨none, none, .st 2 (.t 2) (.t 10)⟩])
 .ret))))),
 [.cell 2 (some 2)]⟩
theorem k155 : cFn Try.prog Try.f155 = some c155 := by kernel_rfl
theorem toWindow_ok : OkT Try.prog 155 (pureSp (toR_S sh_Window)) := by
  refine okT_toR (OkΓT.nil _) Try.func155 (by kernel_rfl) k155 ?_
  intro c hc hz
  obtain ⟨a0, a1, rfl⟩ := sh_Window_Has hc
  simp only [szCs, szC] at hz
  simp only [fzCs, fzC]
  (dsimp only [c155, rO]; simp (maxSteps := 8000000) -implicitDefEqProofs (disch := omega) only [↓reduceIte, go_sem])
  refine endT_cells' 3 (.inr rfl) (by (simp (maxSteps := 8000000) -implicitDefEqProofs (disch := omega) only [↓reduceIte, go_sem, fzCs, fzC, tvCs, tvC_v, tvC_nl, tvC_sl, bkCs, bkC, nbC, nbCs, Nat.add_zero, List.append_nil, List.nil_append]) <;> rfl) ?_ (by simp only [List.length_cons]; omega)
  simp only [List.drop_succ_cons, List.drop_zero, bkCs, bkC, nbC, Nat.add_zero, List.append_nil, List.nil_append, List.cons_append, Nat.add_assoc]
theorem eq_Window_at  (a0 : Int) (a1 : Int) : eqR_S sh_Window [.agg [.p (.int .i64 a0), .p (.int .i64 a1)], .agg [.p (.int .i64 a0), .p (.int .i64 a1)]] = some (.p (.bool true), []) := by
  exact eqR_at (sh_Window_mkFit  a0 a1) (by simp only [szCs, szC]; omega)
-- laws.eqWindow
def c157 : AF := ⟨15,
 (.seq (.reg [rO 2 (.box 36 (.t 0)),
 rO 3 (.box 36 (.t 1)),
 rO 4 (.mv (.v (.bool false)))])
 (.seq (.seq (.reg [rO 5 (.fa (.t 2) 0),
 rO 6 (.ld (.t 5)),
 rO 7 (.fa (.t 3) 0),
 rO 8 (.ld (.t 7)),
 rO 9 (.bin .neq (.t 6) (.t 8))])
 (.cond (.t 9) (.seq (.reg [rO 4 (.mv (.v (.bool false)))])
 .ret)
 .skip))
 (.seq (.seq (.reg [rO 10 (.fa (.t 2) 1),
 rO 11 (.ld (.t 10)),
 rO 12 (.fa (.t 3) 1),
 rO 13 (.ld (.t 12)),
 rO 14 (.bin .neq (.t 11) (.t 13))])
 (.cond (.t 14) (.seq (.reg [rO 4 (.mv (.v (.bool false)))])
 .ret)
 .skip))
 (.seq (.reg [rO 4 (.mv (.v (.bool true)))])
 .ret)))),
 [.t 4]⟩
theorem k157 : cFn Try.prog Try.f157 = some c157 := by kernel_rfl
theorem eqWindow_ok : OkT Try.prog 157 (pureSp (eqR_S sh_Window)) := by
  refine okT_eqR (OkΓT.nil _) Try.func157 (by kernel_rfl) k157 ?_
  intro c hc hz
  obtain ⟨a0, a1, rfl⟩ := sh_Window_Fit hc
  simp only [szCs, szC] at hz
  simp only [fzCs, fzC]
  (dsimp only [c157, rO]; simp (maxSteps := 8000000) -implicitDefEqProofs (disch := omega) only [↓reduceIte, go_sem])
  repeat' first
    | ((first | refine gdKT_deq (fun hg hG => ?_) (fun hg hG => ?_) | refine condKT_deq (fun hg hG => ?_) (fun hg hG => ?_)) <;> (try simp (maxSteps := 8000000) -implicitDefEqProofs (disch := omega) only [↓reduceIte, go_sem, hG]) <;> clear hG)
    | ((first | refine gdKT_split (fun hg => ?_) (fun hg => ?_) | refine condKT_split (fun hg => ?_) (fun hg => ?_)) <;> (try simp (maxSteps := 8000000) -implicitDefEqProofs (disch := omega) only [↓reduceIte, go_sem, hg]))
    | (refine endT_p (.inr rfl) (by simp (maxSteps := 8000000) -implicitDefEqProofs (disch := omega) only [↓reduceIte, go_sem]; rfl) ?_; (first | exact vb_true (by omega) | exact vb_false (by omega) | exact vb_dec (by omega) | exact vi_eq (by omega) | rfl | (refine vi_eq ?_; simp_all; first | done | (intros; omega))))
    | exact endT_v (.inr rfl) (by simp (maxSteps := 8000000) -implicitDefEqProofs (disch := omega) only [↓reduceIte, go_sem]; try rfl) (fun _ => rfl)
/-! Talk -/
def sh_Talk : List Shp := [.i .i64, .i .i64, .i .i64, .i .i64, .i .i64, .i .i64, .i .i64, .i .i64, .i .i64, .i .i64, .i .i64, .i .i64, .i .i64, .i .i64, .i .i64, .i .i64, .i .i64, .i .i64, .i .i64, .i .i64]
theorem sh_Talk_Has {cs : List Cell} (h : HasR sh_Talk cs) : ∃ (a0 : Int) (a1 : Int) (a2 : Int) (a3 : Int) (a4 : Int) (a5 : Int) (a6 : Int) (a7 : Int) (a8 : Int) (a9 : Int) (a10 : Int) (a11 : Int) (a12 : Int) (a13 : Int) (a14 : Int) (a15 : Int) (a16 : Int) (a17 : Int) (a18 : Int) (a19 : Int), cs = [.v (.int .i64 a0), .v (.int .i64 a1), .v (.int .i64 a2), .v (.int .i64 a3), .v (.int .i64 a4), .v (.int .i64 a5), .v (.int .i64 a6), .v (.int .i64 a7), .v (.int .i64 a8), .v (.int .i64 a9), .v (.int .i64 a10), .v (.int .i64 a11), .v (.int .i64 a12), .v (.int .i64 a13), .v (.int .i64 a14), .v (.int .i64 a15), .v (.int .i64 a16), .v (.int .i64 a17), .v (.int .i64 a18), .v (.int .i64 a19)] := by
  obtain ⟨_, _, rfl, ⟨a0, rfl, _⟩, _, _, rfl, ⟨a1, rfl, _⟩, _, _, rfl, ⟨a2, rfl, _⟩, _, _, rfl, ⟨a3, rfl, _⟩, _, _, rfl, ⟨a4, rfl, _⟩, _, _, rfl, ⟨a5, rfl, _⟩, _, _, rfl, ⟨a6, rfl, _⟩, _, _, rfl, ⟨a7, rfl, _⟩, _, _, rfl, ⟨a8, rfl, _⟩, _, _, rfl, ⟨a9, rfl, _⟩, _, _, rfl, ⟨a10, rfl, _⟩, _, _, rfl, ⟨a11, rfl, _⟩, _, _, rfl, ⟨a12, rfl, _⟩, _, _, rfl, ⟨a13, rfl, _⟩, _, _, rfl, ⟨a14, rfl, _⟩, _, _, rfl, ⟨a15, rfl, _⟩, _, _, rfl, ⟨a16, rfl, _⟩, _, _, rfl, ⟨a17, rfl, _⟩, _, _, rfl, ⟨a18, rfl, _⟩, _, _, rfl, ⟨a19, rfl, _⟩, h⟩ := h
  simp only [HasR] at h; subst h
  exact ⟨a0, a1, a2, a3, a4, a5, a6, a7, a8, a9, a10, a11, a12, a13, a14, a15, a16, a17, a18, a19, rfl⟩
theorem sh_Talk_mkHas  (a0 : Int) (a1 : Int) (a2 : Int) (a3 : Int) (a4 : Int) (a5 : Int) (a6 : Int) (a7 : Int) (a8 : Int) (a9 : Int) (a10 : Int) (a11 : Int) (a12 : Int) (a13 : Int) (a14 : Int) (a15 : Int) (a16 : Int) (a17 : Int) (a18 : Int) (a19 : Int) : HasR sh_Talk [.v (.int .i64 a0), .v (.int .i64 a1), .v (.int .i64 a2), .v (.int .i64 a3), .v (.int .i64 a4), .v (.int .i64 a5), .v (.int .i64 a6), .v (.int .i64 a7), .v (.int .i64 a8), .v (.int .i64 a9), .v (.int .i64 a10), .v (.int .i64 a11), .v (.int .i64 a12), .v (.int .i64 a13), .v (.int .i64 a14), .v (.int .i64 a15), .v (.int .i64 a16), .v (.int .i64 a17), .v (.int .i64 a18), .v (.int .i64 a19)] := by
  exact ⟨_, _, rfl, ⟨_, rfl, fun h => by cases h⟩, _, _, rfl, ⟨_, rfl, fun h => by cases h⟩, _, _, rfl, ⟨_, rfl, fun h => by cases h⟩, _, _, rfl, ⟨_, rfl, fun h => by cases h⟩, _, _, rfl, ⟨_, rfl, fun h => by cases h⟩, _, _, rfl, ⟨_, rfl, fun h => by cases h⟩, _, _, rfl, ⟨_, rfl, fun h => by cases h⟩, _, _, rfl, ⟨_, rfl, fun h => by cases h⟩, _, _, rfl, ⟨_, rfl, fun h => by cases h⟩, _, _, rfl, ⟨_, rfl, fun h => by cases h⟩, _, _, rfl, ⟨_, rfl, fun h => by cases h⟩, _, _, rfl, ⟨_, rfl, fun h => by cases h⟩, _, _, rfl, ⟨_, rfl, fun h => by cases h⟩, _, _, rfl, ⟨_, rfl, fun h => by cases h⟩, _, _, rfl, ⟨_, rfl, fun h => by cases h⟩, _, _, rfl, ⟨_, rfl, fun h => by cases h⟩, _, _, rfl, ⟨_, rfl, fun h => by cases h⟩, _, _, rfl, ⟨_, rfl, fun h => by cases h⟩, _, _, rfl, ⟨_, rfl, fun h => by cases h⟩, _, _, rfl, ⟨_, rfl, fun h => by cases h⟩, rfl⟩
theorem sh_Talk_Fit {cs : List Cell} (h : FitR sh_Talk cs) : ∃ (a0 : Int) (a1 : Int) (a2 : Int) (a3 : Int) (a4 : Int) (a5 : Int) (a6 : Int) (a7 : Int) (a8 : Int) (a9 : Int) (a10 : Int) (a11 : Int) (a12 : Int) (a13 : Int) (a14 : Int) (a15 : Int) (a16 : Int) (a17 : Int) (a18 : Int) (a19 : Int), cs = [.v (.int .i64 a0), .v (.int .i64 a1), .v (.int .i64 a2), .v (.int .i64 a3), .v (.int .i64 a4), .v (.int .i64 a5), .v (.int .i64 a6), .v (.int .i64 a7), .v (.int .i64 a8), .v (.int .i64 a9), .v (.int .i64 a10), .v (.int .i64 a11), .v (.int .i64 a12), .v (.int .i64 a13), .v (.int .i64 a14), .v (.int .i64 a15), .v (.int .i64 a16), .v (.int .i64 a17), .v (.int .i64 a18), .v (.int .i64 a19)] := by
  obtain ⟨_, _, rfl, ⟨a0, rfl⟩, _, _, rfl, ⟨a1, rfl⟩, _, _, rfl, ⟨a2, rfl⟩, _, _, rfl, ⟨a3, rfl⟩, _, _, rfl, ⟨a4, rfl⟩, _, _, rfl, ⟨a5, rfl⟩, _, _, rfl, ⟨a6, rfl⟩, _, _, rfl, ⟨a7, rfl⟩, _, _, rfl, ⟨a8, rfl⟩, _, _, rfl, ⟨a9, rfl⟩, _, _, rfl, ⟨a10, rfl⟩, _, _, rfl, ⟨a11, rfl⟩, _, _, rfl, ⟨a12, rfl⟩, _, _, rfl, ⟨a13, rfl⟩, _, _, rfl, ⟨a14, rfl⟩, _, _, rfl, ⟨a15, rfl⟩, _, _, rfl, ⟨a16, rfl⟩, _, _, rfl, ⟨a17, rfl⟩, _, _, rfl, ⟨a18, rfl⟩, _, _, rfl, ⟨a19, rfl⟩, h⟩ := h
  simp only [FitR] at h; subst h
  exact ⟨a0, a1, a2, a3, a4, a5, a6, a7, a8, a9, a10, a11, a12, a13, a14, a15, a16, a17, a18, a19, rfl⟩
theorem sh_Talk_mkFit  (a0 : Int) (a1 : Int) (a2 : Int) (a3 : Int) (a4 : Int) (a5 : Int) (a6 : Int) (a7 : Int) (a8 : Int) (a9 : Int) (a10 : Int) (a11 : Int) (a12 : Int) (a13 : Int) (a14 : Int) (a15 : Int) (a16 : Int) (a17 : Int) (a18 : Int) (a19 : Int) : FitR sh_Talk [.v (.int .i64 a0), .v (.int .i64 a1), .v (.int .i64 a2), .v (.int .i64 a3), .v (.int .i64 a4), .v (.int .i64 a5), .v (.int .i64 a6), .v (.int .i64 a7), .v (.int .i64 a8), .v (.int .i64 a9), .v (.int .i64 a10), .v (.int .i64 a11), .v (.int .i64 a12), .v (.int .i64 a13), .v (.int .i64 a14), .v (.int .i64 a15), .v (.int .i64 a16), .v (.int .i64 a17), .v (.int .i64 a18), .v (.int .i64 a19)] := by
  exact ⟨_, _, rfl, ⟨_, rfl⟩, _, _, rfl, ⟨_, rfl⟩, _, _, rfl, ⟨_, rfl⟩, _, _, rfl, ⟨_, rfl⟩, _, _, rfl, ⟨_, rfl⟩, _, _, rfl, ⟨_, rfl⟩, _, _, rfl, ⟨_, rfl⟩, _, _, rfl, ⟨_, rfl⟩, _, _, rfl, ⟨_, rfl⟩, _, _, rfl, ⟨_, rfl⟩, _, _, rfl, ⟨_, rfl⟩, _, _, rfl, ⟨_, rfl⟩, _, _, rfl, ⟨_, rfl⟩, _, _, rfl, ⟨_, rfl⟩, _, _, rfl, ⟨_, rfl⟩, _, _, rfl, ⟨_, rfl⟩, _, _, rfl, ⟨_, rfl⟩, _, _, rfl, ⟨_, rfl⟩, _, _, rfl, ⟨_, rfl⟩, _, _, rfl, ⟨_, rfl⟩, rfl⟩
theorem to_Talk_at  (a0 : Int) (a1 : Int) (a2 : Int) (a3 : Int) (a4 : Int) (a5 : Int) (a6 : Int) (a7 : Int) (a8 : Int) (a9 : Int) (a10 : Int) (a11 : Int) (a12 : Int) (a13 : Int) (a14 : Int) (a15 : Int) (a16 : Int) (a17 : Int) (a18 : Int) (a19 : Int) : toR_S sh_Talk [.agg [.p (.int .i64 a0), .p (.int .i64 a1), .p (.int .i64 a2), .p (.int .i64 a3), .p (.int .i64 a4), .p (.int .i64 a5), .p (.int .i64 a6), .p (.int .i64 a7), .p (.int .i64 a8), .p (.int .i64 a9), .p (.int .i64 a10), .p (.int .i64 a11), .p (.int .i64 a12), .p (.int .i64 a13), .p (.int .i64 a14), .p (.int .i64 a15), .p (.int .i64 a16), .p (.int .i64 a17), .p (.int .i64 a18), .p (.int .i64 a19)]] = some (.agg [.p (.int .i64 a0), .p (.int .i64 a1), .p (.int .i64 a2), .p (.int .i64 a3), .p (.int .i64 a4), .p (.int .i64 a5), .p (.int .i64 a6), .p (.int .i64 a7), .p (.int .i64 a8), .p (.int .i64 a9), .p (.int .i64 a10), .p (.int .i64 a11), .p (.int .i64 a12), .p (.int .i64 a13), .p (.int .i64 a14), .p (.int .i64 a15), .p (.int .i64 a16), .p (.int .i64 a17), .p (.int .i64 a18), .p (.int .i64 a19)], []) := by
  have := toR_at (sh_Talk_mkHas  a0 a1 a2 a3 a4 a5 a6 a7 a8 a9 a10 a11 a12 a13 a14 a15 a16 a17 a18 a19) (by simp only [szCs, szC]; omega)
  simpa only [fzCs, fzC, tvCs, tvC_v, tvC_nl, tvC_sl, bkCs, bkC, nbC, nbCs, Nat.add_zero, List.append_nil, List.nil_append, Nat.zero_add] using this
-- laws.toTalk
def c108 : AF := ⟨55,
 (.seq (.reg [rO 1 (.box 159 (.t 0)),
 rO 2 (.alloc 38 [(.int .i64 0), (.int .i64 0), (.int .i64 0), (.int .i64 0), (.int .i64 0), (.int .i64 0), (.int .i64 0), (.int .i64 0), (.int .i64 0), (.int .i64 0), (.int .i64 0), (.int .i64 0), (.int .i64 0), (.int .i64 0), (.int .i64 0), (.int .i64 0), (.int .i64 0), (.int .i64 0), (.int .i64 0), (.int .i64 0)])])
 (.seq (.reg [rO 3 (.alloc 38 [(.int .i64 0), (.int .i64 0), (.int .i64 0), (.int .i64 0), (.int .i64 0), (.int .i64 0), (.int .i64 0), (.int .i64 0), (.int .i64 0), (.int .i64 0), (.int .i64 0), (.int .i64 0), (.int .i64 0), (.int .i64 0), (.int .i64 0), (.int .i64 0), (.int .i64 0), (.int .i64 0), (.int .i64 0), (.int .i64 0)])])
 (.seq (.reg [rO 4 (.fa (.t 1) 0),
 rO 5 (.ld (.t 4)),
 rO 6 (.fa (.t 3) 0),
 ⟨none, none, .st 1 (.t 6) (.t 5)⟩])
 (.seq (.reg [rO 7 (.fa (.t 1) 1),
 rO 8 (.ld (.t 7)),
 rO 9 (.fa (.t 3) 1),
 ⟨none, none, .st 1 (.t 9) (.t 8)⟩])
 (.seq (.reg [rO 10 (.fa (.t 1) 2),
 rO 11 (.ld (.t 10)),
 rO 12 (.fa (.t 3) 2),
 ⟨none, none, .st 1 (.t 12) (.t 11)⟩])
 (.seq (.reg [rO 13 (.fa (.t 1) 3),
 rO 14 (.ld (.t 13)),
 rO 15 (.fa (.t 3) 3),
 ⟨none, none, .st 1 (.t 15) (.t 14)⟩])
 (.seq (.reg [rO 16 (.fa (.t 1) 4),
 rO 17 (.ld (.t 16)),
 rO 18 (.fa (.t 3) 4),
 ⟨none, none, .st 1 (.t 18) (.t 17)⟩])
 (.seq (.reg [rO 19 (.fa (.t 1) 5),
 rO 20 (.ld (.t 19)),
 rO 21 (.fa (.t 3) 5),
 ⟨none, none, .st 1 (.t 21) (.t 20)⟩])
 (.seq (.reg [rO 22 (.fa (.t 1) 6),
 rO 23 (.ld (.t 22)),
 rO 24 (.fa (.t 3) 6),
 ⟨none, none, .st 1 (.t 24) (.t 23)⟩])
 (.seq (.reg [rO 25 (.fa (.t 1) 7),
 rO 26 (.ld (.t 25)),
 rO 27 (.fa (.t 3) 7),
 ⟨none, none, .st 1 (.t 27) (.t 26)⟩])
 (.seq (.reg [rO 28 (.fa (.t 1) 8),
 rO 29 (.ld (.t 28)),
 rO 30 (.fa (.t 3) 8),
 ⟨none, none, .st 1 (.t 30) (.t 29)⟩])
 (.seq (.reg [rO 31 (.fa (.t 1) 9),
 rO 32 (.ld (.t 31)),
 rO 33 (.fa (.t 3) 9),
 ⟨none, none, .st 1 (.t 33) (.t 32)⟩])
 (.seq (.reg [rO 34 (.fa (.t 1) 10),
 rO 35 (.ld (.t 34)),
 rO 36 (.fa (.t 3) 10),
 ⟨none, none, .st 1 (.t 36) (.t 35)⟩])
 (.seq (.reg [rO 37 (.fa (.t 1) 11),
 rO 38 (.ldn 4 (.t 37)),
 rO 39 (.call 154 [(.t 38)]),
 rO 40 (.fa (.t 3) 11),
 ⟨none, none, .st 4 (.t 40) (.t 39)⟩])
 (.seq (.reg [rO 41 (.fa (.t 1) 15),
 rO 42 (.ld (.t 41)),
 rO 43 (.fa (.t 3) 15),
 ⟨none, none, .st 1 (.t 43) (.t 42)⟩])
 (.seq (.reg [rO 44 (.fa (.t 1) 16),
 rO 45 (.ld (.t 44)),
 rO 46 (.fa (.t 3) 16),
 ⟨none, none, .st 1 (.t 46) (.t 45)⟩])
 (.seq (.reg [rO 47 (.fa (.t 1) 17),
 rO 48 (.ld (.t 47)),
 rO 49 (.fa (.t 3) 17),
 ⟨none, none, .st 1 (.t 49) (.t 48)⟩])
 (.seq (.reg [rO 50 (.fa (.t 1) 18),
 rO 51 (.ldn 2 (.t 50)),
 rO 52 (.call 155 [(.t 51)]),
 rO 53 (.fa (.t 3) 18),
 ⟨none, none, .st 2 (.t 53) (.t 52)⟩])
 (.seq (.reg [rO 54 (.ldn 20 (.t 3)),
 ⟨none, none, .st 20 (.t 2) (.t 54)⟩])
 .ret))))))))))))))))))),
 [.cell 2 (some 20)]⟩
theorem k108 : cFn Try.prog Try.f108 = some c108 := by kernel_rfl
theorem toTalk_ok : OkT Try.prog 108 (pureSp (toR_S sh_Talk)) := by
  refine okT_toR (OkΓT.cons toKeys_ok (OkΓT.cons toWindow_ok (OkΓT.nil _))) Try.func108 (by kernel_rfl) k108 ?_
  intro c hc hz
  obtain ⟨a0, a1, a2, a3, a4, a5, a6, a7, a8, a9, a10, a11, a12, a13, a14, a15, a16, a17, a18, a19, rfl⟩ := sh_Talk_Has hc
  simp only [szCs, szC] at hz
  simp only [fzCs, fzC]
  (dsimp only [c108, rO]; simp (maxSteps := 8000000) -implicitDefEqProofs (disch := omega) only [↓reduceIte, go_sem, to_Keys_at, to_Window_at])
  refine endT_cells' 3 (.inr rfl) (by (simp (maxSteps := 8000000) -implicitDefEqProofs (disch := omega) only [↓reduceIte, go_sem, fzCs, fzC, tvCs, tvC_v, tvC_nl, tvC_sl, bkCs, bkC, nbC, nbCs, Nat.add_zero, List.append_nil, List.nil_append]) <;> rfl) ?_ (by simp only [List.length_cons]; omega)
  simp only [List.drop_succ_cons, List.drop_zero, bkCs, bkC, nbC, Nat.add_zero, List.append_nil, List.nil_append, List.cons_append, Nat.add_assoc]
theorem eq_Talk_at  (a0 : Int) (a1 : Int) (a2 : Int) (a3 : Int) (a4 : Int) (a5 : Int) (a6 : Int) (a7 : Int) (a8 : Int) (a9 : Int) (a10 : Int) (a11 : Int) (a12 : Int) (a13 : Int) (a14 : Int) (a15 : Int) (a16 : Int) (a17 : Int) (a18 : Int) (a19 : Int) : eqR_S sh_Talk [.agg [.p (.int .i64 a0), .p (.int .i64 a1), .p (.int .i64 a2), .p (.int .i64 a3), .p (.int .i64 a4), .p (.int .i64 a5), .p (.int .i64 a6), .p (.int .i64 a7), .p (.int .i64 a8), .p (.int .i64 a9), .p (.int .i64 a10), .p (.int .i64 a11), .p (.int .i64 a12), .p (.int .i64 a13), .p (.int .i64 a14), .p (.int .i64 a15), .p (.int .i64 a16), .p (.int .i64 a17), .p (.int .i64 a18), .p (.int .i64 a19)], .agg [.p (.int .i64 a0), .p (.int .i64 a1), .p (.int .i64 a2), .p (.int .i64 a3), .p (.int .i64 a4), .p (.int .i64 a5), .p (.int .i64 a6), .p (.int .i64 a7), .p (.int .i64 a8), .p (.int .i64 a9), .p (.int .i64 a10), .p (.int .i64 a11), .p (.int .i64 a12), .p (.int .i64 a13), .p (.int .i64 a14), .p (.int .i64 a15), .p (.int .i64 a16), .p (.int .i64 a17), .p (.int .i64 a18), .p (.int .i64 a19)]] = some (.p (.bool true), []) := by
  exact eqR_at (sh_Talk_mkFit  a0 a1 a2 a3 a4 a5 a6 a7 a8 a9 a10 a11 a12 a13 a14 a15 a16 a17 a18 a19) (by simp only [szCs, szC]; omega)
-- laws.eqTalk
def c109 : AF := ⟨87,
 (.seq (.reg [rO 2 (.box 38 (.t 0)),
 rO 3 (.box 38 (.t 1)),
 rO 4 (.mv (.v (.bool false)))])
 (.seq (.seq (.reg [rO 5 (.fa (.t 2) 0),
 rO 6 (.ld (.t 5)),
 rO 7 (.fa (.t 3) 0),
 rO 8 (.ld (.t 7)),
 rO 9 (.bin .neq (.t 6) (.t 8))])
 (.cond (.t 9) (.seq (.reg [rO 4 (.mv (.v (.bool false)))])
 .ret)
 .skip))
 (.seq (.seq (.reg [rO 10 (.fa (.t 2) 1),
 rO 11 (.ld (.t 10)),
 rO 12 (.fa (.t 3) 1),
 rO 13 (.ld (.t 12)),
 rO 14 (.bin .neq (.t 11) (.t 13))])
 (.cond (.t 14) (.seq (.reg [rO 4 (.mv (.v (.bool false)))])
 .ret)
 .skip))
 (.seq (.seq (.reg [rO 15 (.fa (.t 2) 2),
 rO 16 (.ld (.t 15)),
 rO 17 (.fa (.t 3) 2),
 rO 18 (.ld (.t 17)),
 rO 19 (.bin .neq (.t 16) (.t 18))])
 (.cond (.t 19) (.seq (.reg [rO 4 (.mv (.v (.bool false)))])
 .ret)
 .skip))
 (.seq (.seq (.reg [rO 20 (.fa (.t 2) 3),
 rO 21 (.ld (.t 20)),
 rO 22 (.fa (.t 3) 3),
 rO 23 (.ld (.t 22)),
 rO 24 (.bin .neq (.t 21) (.t 23))])
 (.cond (.t 24) (.seq (.reg [rO 4 (.mv (.v (.bool false)))])
 .ret)
 .skip))
 (.seq (.seq (.reg [rO 25 (.fa (.t 2) 4),
 rO 26 (.ld (.t 25)),
 rO 27 (.fa (.t 3) 4),
 rO 28 (.ld (.t 27)),
 rO 29 (.bin .neq (.t 26) (.t 28))])
 (.cond (.t 29) (.seq (.reg [rO 4 (.mv (.v (.bool false)))])
 .ret)
 .skip))
 (.seq (.seq (.reg [rO 30 (.fa (.t 2) 5),
 rO 31 (.ld (.t 30)),
 rO 32 (.fa (.t 3) 5),
 rO 33 (.ld (.t 32)),
 rO 34 (.bin .neq (.t 31) (.t 33))])
 (.cond (.t 34) (.seq (.reg [rO 4 (.mv (.v (.bool false)))])
 .ret)
 .skip))
 (.seq (.seq (.reg [rO 35 (.fa (.t 2) 6),
 rO 36 (.ld (.t 35)),
 rO 37 (.fa (.t 3) 6),
 rO 38 (.ld (.t 37)),
 rO 39 (.bin .neq (.t 36) (.t 38))])
 (.cond (.t 39) (.seq (.reg [rO 4 (.mv (.v (.bool false)))])
 .ret)
 .skip))
 (.seq (.seq (.reg [rO 40 (.fa (.t 2) 7),
 rO 41 (.ld (.t 40)),
 rO 42 (.fa (.t 3) 7),
 rO 43 (.ld (.t 42)),
 rO 44 (.bin .neq (.t 41) (.t 43))])
 (.cond (.t 44) (.seq (.reg [rO 4 (.mv (.v (.bool false)))])
 .ret)
 .skip))
 (.seq (.seq (.reg [rO 45 (.fa (.t 2) 8),
 rO 46 (.ld (.t 45)),
 rO 47 (.fa (.t 3) 8),
 rO 48 (.ld (.t 47)),
 rO 49 (.bin .neq (.t 46) (.t 48))])
 (.cond (.t 49) (.seq (.reg [rO 4 (.mv (.v (.bool false)))])
 .ret)
 .skip))
 (.seq (.seq (.reg [rO 50 (.fa (.t 2) 9),
 rO 51 (.ld (.t 50)),
 rO 52 (.fa (.t 3) 9),
 rO 53 (.ld (.t 52)),
 rO 54 (.bin .neq (.t 51) (.t 53))])
 (.cond (.t 54) (.seq (.reg [rO 4 (.mv (.v (.bool false)))])
 .ret)
 .skip))
 (.seq (.seq (.reg [rO 55 (.fa (.t 2) 10),
 rO 56 (.ld (.t 55)),
 rO 57 (.fa (.t 3) 10),
 rO 58 (.ld (.t 57)),
 rO 59 (.bin .neq (.t 56) (.t 58))])
 (.cond (.t 59) (.seq (.reg [rO 4 (.mv (.v (.bool false)))])
 .ret)
 .skip))
 (.seq (.seq (.reg [rO 60 (.fa (.t 2) 11),
 rO 61 (.ldn 4 (.t 60)),
 rO 62 (.fa (.t 3) 11),
 rO 63 (.ldn 4 (.t 62)),
 rO 64 (.call 156 [(.t 61), (.t 63)]),
 rO 65 (.un .not (.t 64))])
 (.cond (.t 65) (.seq (.reg [rO 4 (.mv (.v (.bool false)))])
 .ret)
 .skip))
 (.seq (.seq (.reg [rO 66 (.fa (.t 2) 15),
 rO 67 (.ld (.t 66)),
 rO 68 (.fa (.t 3) 15),
 rO 69 (.ld (.t 68)),
 rO 70 (.bin .neq (.t 67) (.t 69))])
 (.cond (.t 70) (.seq (.reg [rO 4 (.mv (.v (.bool false)))])
 .ret)
 .skip))
 (.seq (.seq (.reg [rO 71 (.fa (.t 2) 16),
 rO 72 (.ld (.t 71)),
 rO 73 (.fa (.t 3) 16),
 rO 74 (.ld (.t 73)),
 rO 75 (.bin .neq (.t 72) (.t 74))])
 (.cond (.t 75) (.seq (.reg [rO 4 (.mv (.v (.bool false)))])
 .ret)
 .skip))
 (.seq (.seq (.reg [rO 76 (.fa (.t 2) 17),
 rO 77 (.ld (.t 76)),
 rO 78 (.fa (.t 3) 17),
 rO 79 (.ld (.t 78)),
 rO 80 (.bin .neq (.t 77) (.t 79))])
 (.cond (.t 80) (.seq (.reg [rO 4 (.mv (.v (.bool false)))])
 .ret)
 .skip))
 (.seq (.seq (.reg [rO 81 (.fa (.t 2) 18),
 rO 82 (.ldn 2 (.t 81)),
 rO 83 (.fa (.t 3) 18),
 rO 84 (.ldn 2 (.t 83)),
 rO 85 (.call 157 [(.t 82), (.t 84)]),
 rO 86 (.un .not (.t 85))])
 (.cond (.t 86) (.seq (.reg [rO 4 (.mv (.v (.bool false)))])
 .ret)
 .skip))
 (.seq (.reg [rO 4 (.mv (.v (.bool true)))])
 .ret)))))))))))))))))),
 [.t 4]⟩
theorem k109 : cFn Try.prog Try.f109 = some c109 := by kernel_rfl
theorem eqTalk_ok : OkT Try.prog 109 (pureSp (eqR_S sh_Talk)) := by
  refine okT_eqR (OkΓT.cons eqKeys_ok (OkΓT.cons eqWindow_ok (OkΓT.nil _))) Try.func109 (by kernel_rfl) k109 ?_
  intro c hc hz
  obtain ⟨a0, a1, a2, a3, a4, a5, a6, a7, a8, a9, a10, a11, a12, a13, a14, a15, a16, a17, a18, a19, rfl⟩ := sh_Talk_Fit hc
  simp only [szCs, szC] at hz
  simp only [fzCs, fzC]
  (dsimp only [c109, rO]; simp (maxSteps := 8000000) -implicitDefEqProofs (disch := omega) only [↓reduceIte, go_sem, eq_Keys_at, eq_Window_at])
  repeat' first
    | ((first | refine gdKT_deq (fun hg hG => ?_) (fun hg hG => ?_) | refine condKT_deq (fun hg hG => ?_) (fun hg hG => ?_)) <;> (try simp (maxSteps := 8000000) -implicitDefEqProofs (disch := omega) only [↓reduceIte, go_sem, hG, eq_Keys_at, eq_Window_at]) <;> clear hG)
    | ((first | refine gdKT_split (fun hg => ?_) (fun hg => ?_) | refine condKT_split (fun hg => ?_) (fun hg => ?_)) <;> (try simp (maxSteps := 8000000) -implicitDefEqProofs (disch := omega) only [↓reduceIte, go_sem, hg, eq_Keys_at, eq_Window_at]))
    | (refine endT_p (.inr rfl) (by simp (maxSteps := 8000000) -implicitDefEqProofs (disch := omega) only [↓reduceIte, go_sem, eq_Keys_at, eq_Window_at]; rfl) ?_; (first | exact vb_true (by omega) | exact vb_false (by omega) | exact vb_dec (by omega) | exact vi_eq (by omega) | rfl | (refine vi_eq ?_; simp_all; first | done | (intros; omega))))
    | exact endT_v (.inr rfl) (by simp (maxSteps := 8000000) -implicitDefEqProofs (disch := omega) only [↓reduceIte, go_sem, eq_Keys_at, eq_Window_at]; try rfl) (fun _ => rfl)
def sh_TalkS : Shp := .sl 38 sh_Talk
-- laws.toTalkS
def c58 : AF := ⟨23,
 (.seq (.reg [rO 2 (.mv (.v (.slice none 0 0)))])
 (.seq (.reg [rO 5 (.mv (.t 0)),
 rO 6 (.len (.t 5)),
 rO 7 (.mkSl 38 20 160 [(.int .i64 0), (.int .i64 0), (.int .i64 0), (.int .i64 0), (.int .i64 0), (.int .i64 0), (.int .i64 0), (.int .i64 0), (.int .i64 0), (.int .i64 0), (.int .i64 0), (.int .i64 0), (.int .i64 0), (.int .i64 0), (.int .i64 0), (.int .i64 0), (.int .i64 0), (.int .i64 0), (.int .i64 0), (.int .i64 0)] (.t 6) (.t 6)),
 rO 3 (.mv (.t 7))])
 (.seq (.seq (.reg [rO 4 (.mv (.v (.int .i64 0)))])
 (.block 0 (.loop (.seq (.seq (.reg [rO 8 (.mv (.t 4)),
 rO 9 (.mv (.t 0)),
 rO 10 (.len (.t 9)),
 rO 11 (.bin .lss (.t 8) (.t 10))])
 (.cond (.t 11) .skip
 (.exit 0)))
 (.seq (.block 1 (.reg [rO 14 (.mv (.t 3)),
 rO 15 (.mv (.t 4)),
 rO 16 (.mv (.t 0)),
 rO 17 (.mv (.t 4)),
 rO 18 (.ia 20 (.t 16) (.t 17)),
 rO 19 (.ldn 20 (.t 18)),
 rO 20 (.call 108 [(.t 19)]),
 rO 21 (.ia 20 (.t 14) (.t 15)),
 ⟨none, none, .st 20 (.t 21) (.t 20)⟩]))
 (.reg [rO 12 (.mv (.t 4)),
 rO 13 (.bin .add (.t 12) (.v (.int .i64 1))),
 rO 4 (.mv (.t 13))]))))))
 (.seq (.reg [rO 22 (.mv (.t 3)),
 rO 2 (.mv (.t 22))])
 .ret)))),
 [.t 2]⟩
theorem k58 : cFn Try.prog Try.f58 = some c58 := by kernel_rfl
theorem toTalkS_ok : OkT Try.prog 58 (pureSp (toC_S sh_TalkS)) := by
  refine okT_toC (OkΓT.cons toTalk_ok (OkΓT.nil _)) Try.func58 (by kernel_rfl) k58 ?_
  intro c hc hz
  simp only [sh_TalkS, HasC] at hc
  obtain ⟨rows, rfl, hr⟩ := hc
  simp only [szC] at hz
  have hlen : ∀ r ∈ rows, r.length = 20 := fun r hx => (hr r hx).len
  generalize hzz : (el [.p (.int .i64 0), .p (.int .i64 0), .p (.int .i64 0), .p (.int .i64 0), .p (.int .i64 0), .p (.int .i64 0), .p (.int .i64 0), .p (.int .i64 0), .p (.int .i64 0), .p (.int .i64 0), .p (.int .i64 0), .p (.int .i64 0), .p (.int .i64 0), .p (.int .i64 0), .p (.int .i64 0), .p (.int .i64 0), .p (.int .i64 0), .p (.int .i64 0), .p (.int .i64 0), .p (.int .i64 0)] : TV) = z0
  have hz1 : cellsT z0 = [.p (.int .i64 0), .p (.int .i64 0), .p (.int .i64 0), .p (.int .i64 0), .p (.int .i64 0), .p (.int .i64 0), .p (.int .i64 0), .p (.int .i64 0), .p (.int .i64 0), .p (.int .i64 0), .p (.int .i64 0), .p (.int .i64 0), .p (.int .i64 0), .p (.int .i64 0), .p (.int .i64 0), .p (.int .i64 0), .p (.int .i64 0), .p (.int .i64 0), .p (.int .i64 0), .p (.int .i64 0)] := by rw [← hzz]; rfl
  simp only [fzC, tvC_v, tvC_nl, tvC_sl, bkC]
  (dsimp only [c58, rO]; simp (maxSteps := 8000000) -implicitDefEqProofs (disch := omega) only [↓reduceIte, go_sem, hzz, mixR_zero 1 rows z0])
  refine awpT_loop (α := Nat) (fun i => ⟨slots [(0, .s (fzRs rows)), (3, .os 0 0 rows.length), (4, .p (.int .i64 i))], .cells 38 20 (mixR 1 rows z0 i) :: bkRs 1 (rows.take i)⟩)
    (fun i => i ≤ rows.length) (fun i => rows.length - i) 0 (Nat.zero_le _) (by simp only [List.take_zero, bkRs]; exact le_keep (Nat.zero_le _) (by simp (maxSteps := 8000000) -implicitDefEqProofs (disch := omega) only [↓reduceIte, go_sem, slotsIn])) ?_
  intro i hi
  simp (maxSteps := 8000000) -implicitDefEqProofs (disch := omega) only [↓reduceIte, go_sem, mixR_len 1 rows z0 hi]
  refine condKT_dec (fun hlt => ?_) (fun hge => ?_)
  · obtain ⟨r, hx⟩ := get_ex (l := rows) (i := i) (by omega)
    have hrr := hr r (List.mem_of_getElem? hx)
    have hzr := szRs_mem hx
    have hg := fzRs_get hx; have hm := mixR_get 1 (rows := rows) z0 (i := i) (by omega)
    have hs := mixR_set 1 z0 hx; have hb := bkRs_snoc 1 hx; have hn := bkRs_len 1 (rows.take i)
    obtain ⟨a0, a1, a2, a3, a4, a5, a6, a7, a8, a9, a10, a11, a12, a13, a14, a15, a16, a17, a18, a19, rfl⟩ := sh_Talk_Has hrr
    simp only [szCs, szC] at hzr
    simp only [fzCs, fzC, tvCs, tvC_v, tvC_nl, tvC_sl, bkCs, bkC, nbC, nbCs, Nat.add_zero, List.append_nil, List.nil_append, el_one, el_two, Nat.add_comm 1 (nbRs _)] at hg hs hb
    simp (maxSteps := 8000000) -implicitDefEqProofs (disch := omega) only [↓reduceIte, go_sem, eq_true hlt, hg, hm, hs, hn, hz1, el_two, to_Talk_at]
    refine loopKT_next (i + 1) (by omega) (by omega) ?_
    rw [hb]; refine (le_keep (Nat.zero_le _) ?_) <;> simp (maxSteps := 8000000) -implicitDefEqProofs (disch := omega) only [↓reduceIte, go_sem, slotsIn]
  · have hb : rows.take i = rows := List.take_of_length_le (by omega)
    have hm := mixR_full 1 (rows := rows) z0 (i := i) (by omega)
    simp (maxSteps := 8000000) -implicitDefEqProofs (disch := omega) only [↓reduceIte, go_sem, eq_false hge, hb, hm]
    refine joinK_here ?_
    simp (maxSteps := 8000000) -implicitDefEqProofs (disch := omega) only [↓reduceIte, go_sem]
    exact endT_same (.inr rfl) (by (simp (maxSteps := 8000000) -implicitDefEqProofs (disch := omega) only [↓reduceIte, go_sem]) <;> rfl) rfl
-- laws.eqTalkS
def c60 : AF := ⟨27,
 (.seq (.reg [rO 4 (.mv (.v (.bool false)))])
 (.seq (.seq (.reg [rO 6 (.mv (.t 0)),
 rO 7 (.len (.t 6)),
 rO 8 (.mv (.t 1)),
 rO 9 (.len (.t 8)),
 rO 10 (.bin .neq (.t 7) (.t 9))])
 (.cond (.t 10) (.seq (.reg [rO 4 (.mv (.v (.bool false)))])
 .ret)
 .skip))
 (.seq (.seq (.reg [rO 5 (.mv (.v (.int .i64 0)))])
 (.block 0 (.loop (.seq (.seq (.reg [rO 11 (.mv (.t 5)),
 rO 12 (.mv (.t 0)),
 rO 13 (.len (.t 12)),
 rO 14 (.bin .lss (.t 11) (.t 13))])
 (.cond (.t 14) .skip
 (.exit 0)))
 (.seq (.block 1 (.seq (.drw [rO 17 (.mv (.t 0)),
 rO 18 (.mv (.t 5)),
 rO 19 (.ia 20 (.t 17) (.t 18)),
 rO 20 (.ldn 20 (.t 19)),
 rO 21 (.mv (.t 1)),
 rO 22 (.mv (.t 5)),
 rO 23 (.ia 20 (.t 21) (.t 22)),
 rO 24 (.ldn 20 (.t 23))] [rO 25 (.call 109 [(.t 20), (.t 24)]),
 rO 26 (.un .not (.t 25))])
 (.cond (.t 26) (.seq (.reg [rO 4 (.mv (.v (.bool false)))])
 .ret)
 .skip)))
 (.reg [rO 15 (.mv (.t 5)),
 rO 16 (.bin .add (.t 15) (.v (.int .i64 1))),
 rO 5 (.mv (.t 16))]))))))
 (.seq (.reg [rO 4 (.mv (.v (.bool true)))])
 .ret)))),
 [.t 4]⟩
theorem k60 : cFn Try.prog Try.f60 = some c60 := by kernel_rfl
theorem eqTalkS_ok : OkT Try.prog 60 (pureSp (eqC_S sh_TalkS)) := by
  refine okT_eqC (OkΓT.cons eqTalk_ok (OkΓT.nil _)) Try.func60 (by kernel_rfl) k60 ?_
  intro c hc hz
  obtain ⟨rows, hf, hr, hsz, _⟩ := FitC.rows hc
  rw [hf]
  (dsimp only [c60, rO]; simp (maxSteps := 8000000) -implicitDefEqProofs (disch := omega) only [↓reduceIte, go_sem])
  refine awpT_loop (α := Nat) (fun i => ⟨slots [(0, .s (fzRs rows)), (1, .s (fzRs rows)), (5, .p (.int .i64 i))], []⟩) (fun i => i ≤ rows.length) (fun i => rows.length - i) 0 (Nat.zero_le _) (le_of [] (by simp (maxSteps := 8000000) -implicitDefEqProofs (disch := omega) only [↓reduceIte, go_sem]) (by simp (maxSteps := 8000000) -implicitDefEqProofs (disch := omega) only [↓reduceIte, go_sem]) (by decide) (by simp)) ?_
  intro i hi
  simp (maxSteps := 8000000) -implicitDefEqProofs (disch := omega) only [↓reduceIte, go_sem]
  refine condKT_dec (fun hlt => ?_) (fun hge => ?_)
  · obtain ⟨r, hx⟩ := get_ex (l := rows) (i := i) (by omega)
    have hrr := hr r (List.mem_of_getElem? hx)
    have hzr := szRs_mem hx
    have hg := fzRs_get hx
    obtain ⟨a0, a1, a2, a3, a4, a5, a6, a7, a8, a9, a10, a11, a12, a13, a14, a15, a16, a17, a18, a19, rfl⟩ := sh_Talk_Fit hrr
    simp only [szCs, szC] at hzr
    simp only [fzCs, fzC, el_one, el_two] at hg
    simp (maxSteps := 8000000) -implicitDefEqProofs (disch := omega) only [↓reduceIte, go_sem, eq_true hlt, hg, eq_Talk_at]
    refine loopKT_next (i + 1) (by omega) (by omega) ?_
    exact (le_of [] (by simp (maxSteps := 8000000) -implicitDefEqProofs (disch := omega) only [↓reduceIte, go_sem]) (by simp (maxSteps := 8000000) -implicitDefEqProofs (disch := omega) only [↓reduceIte, go_sem]) (by decide) (by simp))
  · simp (maxSteps := 8000000) -implicitDefEqProofs (disch := omega) only [↓reduceIte, go_sem, eq_false hge]
    refine joinK_here ?_
    simp (maxSteps := 8000000) -implicitDefEqProofs (disch := omega) only [↓reduceIte, go_sem]
    repeat' first
      | ((first | refine gdKT_deq (fun hg hG => ?_) (fun hg hG => ?_) | refine condKT_deq (fun hg hG => ?_) (fun hg hG => ?_)) <;> (try simp (maxSteps := 8000000) -implicitDefEqProofs (disch := omega) only [↓reduceIte, go_sem, hG]) <;> clear hG)
      | ((first | refine gdKT_split (fun hg => ?_) (fun hg => ?_) | refine condKT_split (fun hg => ?_) (fun hg => ?_)) <;> (try simp (maxSteps := 8000000) -implicitDefEqProofs (disch := omega) only [↓reduceIte, go_sem, hg]))
      | (refine endT_p (.inr rfl) (by simp (maxSteps := 8000000) -implicitDefEqProofs (disch := omega) only [↓reduceIte, go_sem]; rfl) ?_; (first | exact vb_true (by omega) | exact vb_false (by omega) | exact vb_dec (by omega) | exact vi_eq (by omega) | rfl | (refine vi_eq ?_; simp_all; first | done | (intros; omega))))
      | exact endT_v (.inr rfl) (by simp (maxSteps := 8000000) -implicitDefEqProofs (disch := omega) only [↓reduceIte, go_sem]; try rfl) (fun _ => rfl)
-- laws.szTalkS
def c51 : AF := ⟨12,
 (.seq (.reg [rO 4 (.mv (.v (.int .i64 0)))])
 (.seq (.reg [rO 5 (.mv (.t 1)),
 rO 6 (.mv (.t 0)),
 rO 7 (.len (.t 6)),
 rO 8 (.bin .sub (.t 5) (.t 7)),
 rO 1 (.mv (.t 8))])
 (.seq (.seq (.reg [rO 9 (.mv (.t 1)),
 rO 10 (.bin .lss (.t 9) (.v (.int .i64 0)))])
 (.cond (.t 10) (.seq (.reg [rO 4 (.mv (.v (.int .i64 (-1))))])
 .ret)
 .skip))
 (.seq (.reg [rO 11 (.mv (.t 1)),
 rO 4 (.mv (.t 11))])
 .ret)))),
 [.t 4]⟩
theorem k51 : cFn Try.prog Try.f51 = some c51 := by kernel_rfl
theorem szTalkS_ok : OkT Try.prog 51 (pureSp (szC_S sh_TalkS)) := by
  refine okT_szC (OkΓT.nil _) Try.func51 (by kernel_rfl) k51 ?_
  intro c k hc h1 h2 hz
  simp only [sh_TalkS, HasC] at hc
  obtain ⟨rows, rfl, hr⟩ := hc
  generalize hN : szC _ = N at *
  simp only [szC] at hN
  simp only [lnC, Bool.and_eq_true, decide_eq_true_eq] at hz
  obtain ⟨hz, hzr⟩ := hz
  simp only [fzC]
  have hz0 : szRs rows = 0 := szRs_zero fun r hx => by
    have hrr := hr r hx
    obtain ⟨a0, a1, a2, a3, a4, a5, a6, a7, a8, a9, a10, a11, a12, a13, a14, a15, a16, a17, a18, a19, rfl⟩ := sh_Talk_Has hrr
    rfl
  by_cases q : (rows.length : Int) ≤ k
  · rw [if_pos (by omega), show (N : Int) = rows.length by omega]
    (dsimp only [c51, rO]; simp (maxSteps := 8000000) -implicitDefEqProofs (disch := omega) only [↓reduceIte, go_sem])
    repeat' first
      | ((first | refine gdKT_deq (fun hg hG => ?_) (fun hg hG => ?_) | refine condKT_deq (fun hg hG => ?_) (fun hg hG => ?_)) <;> (try simp (maxSteps := 8000000) -implicitDefEqProofs (disch := omega) only [↓reduceIte, go_sem, hG]) <;> clear hG)
      | ((first | refine gdKT_split (fun hg => ?_) (fun hg => ?_) | refine condKT_split (fun hg => ?_) (fun hg => ?_)) <;> (try simp (maxSteps := 8000000) -implicitDefEqProofs (disch := omega) only [↓reduceIte, go_sem, hg]))
      | (refine endT_p (.inr rfl) (by simp (maxSteps := 8000000) -implicitDefEqProofs (disch := omega) only [↓reduceIte, go_sem]; rfl) ?_; (first | exact vb_true (by omega) | exact vb_false (by omega) | exact vb_dec (by omega) | exact vi_eq (by omega) | rfl | (refine vi_eq ?_; simp_all; first | done | (intros; omega))))
      | exact endT_v (.inr rfl) (by simp (maxSteps := 8000000) -implicitDefEqProofs (disch := omega) only [↓reduceIte, go_sem]; try rfl) (fun _ => rfl)
  · rw [if_neg (by omega)]
    (dsimp only [c51, rO]; simp (maxSteps := 8000000) -implicitDefEqProofs (disch := omega) only [↓reduceIte, go_sem])
    repeat' first
      | ((first | refine gdKT_deq (fun hg hG => ?_) (fun hg hG => ?_) | refine condKT_deq (fun hg hG => ?_) (fun hg hG => ?_)) <;> (try simp (maxSteps := 8000000) -implicitDefEqProofs (disch := omega) only [↓reduceIte, go_sem, hG]) <;> clear hG)
      | ((first | refine gdKT_split (fun hg => ?_) (fun hg => ?_) | refine condKT_split (fun hg => ?_) (fun hg => ?_)) <;> (try simp (maxSteps := 8000000) -implicitDefEqProofs (disch := omega) only [↓reduceIte, go_sem, hg]))
      | (refine endT_p (.inr rfl) (by simp (maxSteps := 8000000) -implicitDefEqProofs (disch := omega) only [↓reduceIte, go_sem]; rfl) ?_; (first | exact vb_true (by omega) | exact vb_false (by omega) | exact vb_dec (by omega) | exact vi_eq (by omega) | rfl | (refine vi_eq ?_; simp_all; first | done | (intros; omega))))
      | exact endT_v (.inr rfl) (by simp (maxSteps := 8000000) -implicitDefEqProofs (disch := omega) only [↓reduceIte, go_sem]; try rfl) (fun _ => rfl)
/-! Gate -/
def sh_Gate : List Shp := [.i .i64, .i .i64, sh_TalkS]
theorem sh_Gate_Has {cs : List Cell} (h : HasR sh_Gate cs) : ∃ (a0 : Int) (a1 : Int) (c2 : Cell), cs = [.v (.int .i64 a0), .v (.int .i64 a1), c2] ∧ HasC sh_TalkS c2 := by
  obtain ⟨_, _, rfl, ⟨a0, rfl, _⟩, _, _, rfl, ⟨a1, rfl, _⟩, c2, _, rfl, hc2, h⟩ := h
  simp only [HasR] at h; subst h
  exact ⟨a0, a1, c2, rfl, hc2⟩
theorem sh_Gate_mkHas {c2 : Cell} (hc2 : HasC sh_TalkS c2) (a0 : Int) (a1 : Int) : HasR sh_Gate [.v (.int .i64 a0), .v (.int .i64 a1), c2] := by
  exact ⟨_, _, rfl, ⟨_, rfl, fun h => by cases h⟩, _, _, rfl, ⟨_, rfl, fun h => by cases h⟩, _, _, rfl, hc2, rfl⟩
theorem sh_Gate_Fit {cs : List Cell} (h : FitR sh_Gate cs) : ∃ (a0 : Int) (a1 : Int) (c2 : Cell), cs = [.v (.int .i64 a0), .v (.int .i64 a1), c2] ∧ FitC sh_TalkS c2 := by
  obtain ⟨_, _, rfl, ⟨a0, rfl⟩, _, _, rfl, ⟨a1, rfl⟩, c2, _, rfl, hc2, h⟩ := h
  simp only [FitR] at h; subst h
  exact ⟨a0, a1, c2, rfl, hc2⟩
theorem sh_Gate_mkFit {c2 : Cell} (hc2 : FitC sh_TalkS c2) (a0 : Int) (a1 : Int) : FitR sh_Gate [.v (.int .i64 a0), .v (.int .i64 a1), c2] := by
  exact ⟨_, _, rfl, ⟨_, rfl⟩, _, _, rfl, ⟨_, rfl⟩, _, _, rfl, hc2, rfl⟩
theorem to_Gate_at {c2 : Cell} (hc2 : HasC sh_TalkS c2) (hz : szC c2 ≤ 1048576) (a0 : Int) (a1 : Int) : toR_S sh_Gate [.agg [.p (.int .i64 a0), .p (.int .i64 a1), fzC c2]] = some (.agg [.p (.int .i64 a0), .p (.int .i64 a1), tvC (0) c2], (bkC (0) c2)) := by
  have := toR_at (sh_Gate_mkHas hc2 a0 a1) (by simp only [szCs, szC]; omega)
  simpa only [fzCs, fzC, tvCs, tvC_v, tvC_nl, tvC_sl, bkCs, bkC, nbC, nbCs, Nat.add_zero, List.append_nil, List.nil_append, Nat.zero_add] using this
-- laws.toGate
def c16 : AF := ⟨15,
 (.seq (.reg [rO 1 (.box 43 (.t 0)),
 rO 2 (.alloc 26 [(.int .i64 0), (.int .i64 0), (.slice none 0 0)])])
 (.seq (.reg [rO 3 (.alloc 26 [(.int .i64 0), (.int .i64 0), (.slice none 0 0)])])
 (.seq (.reg [rO 4 (.fa (.t 1) 0),
 rO 5 (.ld (.t 4)),
 rO 6 (.fa (.t 3) 0),
 ⟨none, none, .st 1 (.t 6) (.t 5)⟩])
 (.seq (.reg [rO 7 (.fa (.t 1) 1),
 rO 8 (.ld (.t 7)),
 rO 9 (.fa (.t 3) 1),
 ⟨none, none, .st 1 (.t 9) (.t 8)⟩])
 (.seq (.reg [rO 10 (.fa (.t 1) 2),
 rO 11 (.ld (.t 10)),
 rO 12 (.call 58 [(.t 11)]),
 rO 13 (.fa (.t 3) 2),
 ⟨none, none, .st 1 (.t 13) (.t 12)⟩])
 (.seq (.reg [rO 14 (.ldn 3 (.t 3)),
 ⟨none, none, .st 3 (.t 2) (.t 14)⟩])
 .ret)))))),
 [.cell 2 (some 3)]⟩
theorem k16 : cFn Try.prog Try.f16 = some c16 := by kernel_rfl
theorem toGate_ok : OkT Try.prog 16 (pureSp (toR_S sh_Gate)) := by
  refine okT_toR (OkΓT.cons toTalkS_ok (OkΓT.nil _)) Try.func16 (by kernel_rfl) k16 ?_
  intro c hc hz
  obtain ⟨a0, a1, c2, rfl, hc2⟩ := sh_Gate_Has hc
  simp only [szCs, szC] at hz
  simp only [fzCs, fzC]
  (dsimp only [c16, rO]; simp (maxSteps := 8000000) -implicitDefEqProofs (disch := omega) only [↓reduceIte, go_sem, toC_at hc2 (by omega)])
  refine endT_cells' 3 (.inr rfl) (by (simp (maxSteps := 8000000) -implicitDefEqProofs (disch := omega) only [↓reduceIte, go_sem, fzCs, fzC, tvCs, tvC_v, tvC_nl, tvC_sl, bkCs, bkC, nbC, nbCs, Nat.add_zero, List.append_nil, List.nil_append]) <;> rfl) ?_ (by simp only [List.length_cons]; omega)
  simp only [List.drop_succ_cons, List.drop_zero, bkCs, bkC, nbC, Nat.add_zero, List.append_nil, List.nil_append, List.cons_append, Nat.add_assoc]
theorem eq_Gate_at {c2 : Cell} (hc2 : FitC sh_TalkS c2) (hz : szC c2 ≤ 1099511627776) (a0 : Int) (a1 : Int) : eqR_S sh_Gate [.agg [.p (.int .i64 a0), .p (.int .i64 a1), fzC c2], .agg [.p (.int .i64 a0), .p (.int .i64 a1), fzC c2]] = some (.p (.bool true), []) := by
  exact eqR_at (sh_Gate_mkFit hc2 a0 a1) (by simp only [szCs, szC]; omega)
-- laws.eqGate
def c19 : AF := ⟨21,
 (.seq (.reg [rO 2 (.box 26 (.t 0)),
 rO 3 (.box 26 (.t 1)),
 rO 4 (.mv (.v (.bool false)))])
 (.seq (.seq (.reg [rO 5 (.fa (.t 2) 0),
 rO 6 (.ld (.t 5)),
 rO 7 (.fa (.t 3) 0),
 rO 8 (.ld (.t 7)),
 rO 9 (.bin .neq (.t 6) (.t 8))])
 (.cond (.t 9) (.seq (.reg [rO 4 (.mv (.v (.bool false)))])
 .ret)
 .skip))
 (.seq (.seq (.reg [rO 10 (.fa (.t 2) 1),
 rO 11 (.ld (.t 10)),
 rO 12 (.fa (.t 3) 1),
 rO 13 (.ld (.t 12)),
 rO 14 (.bin .neq (.t 11) (.t 13))])
 (.cond (.t 14) (.seq (.reg [rO 4 (.mv (.v (.bool false)))])
 .ret)
 .skip))
 (.seq (.seq (.reg [rO 15 (.fa (.t 2) 2),
 rO 16 (.ld (.t 15)),
 rO 17 (.fa (.t 3) 2),
 rO 18 (.ld (.t 17)),
 rO 19 (.call 60 [(.t 16), (.t 18)]),
 rO 20 (.un .not (.t 19))])
 (.cond (.t 20) (.seq (.reg [rO 4 (.mv (.v (.bool false)))])
 .ret)
 .skip))
 (.seq (.reg [rO 4 (.mv (.v (.bool true)))])
 .ret))))),
 [.t 4]⟩
theorem k19 : cFn Try.prog Try.f19 = some c19 := by kernel_rfl
theorem eqGate_ok : OkT Try.prog 19 (pureSp (eqR_S sh_Gate)) := by
  refine okT_eqR (OkΓT.cons eqTalkS_ok (OkΓT.nil _)) Try.func19 (by kernel_rfl) k19 ?_
  intro c hc hz
  obtain ⟨a0, a1, c2, rfl, hc2⟩ := sh_Gate_Fit hc
  simp only [szCs, szC] at hz
  simp only [fzCs, fzC]
  (dsimp only [c19, rO]; simp (maxSteps := 8000000) -implicitDefEqProofs (disch := omega) only [↓reduceIte, go_sem, eqC_at hc2 (by omega)])
  repeat' first
    | ((first | refine gdKT_deq (fun hg hG => ?_) (fun hg hG => ?_) | refine condKT_deq (fun hg hG => ?_) (fun hg hG => ?_)) <;> (try simp (maxSteps := 8000000) -implicitDefEqProofs (disch := omega) only [↓reduceIte, go_sem, hG, eqC_at hc2 (by omega)]) <;> clear hG)
    | ((first | refine gdKT_split (fun hg => ?_) (fun hg => ?_) | refine condKT_split (fun hg => ?_) (fun hg => ?_)) <;> (try simp (maxSteps := 8000000) -implicitDefEqProofs (disch := omega) only [↓reduceIte, go_sem, hg, eqC_at hc2 (by omega)]))
    | (refine endT_p (.inr rfl) (by simp (maxSteps := 8000000) -implicitDefEqProofs (disch := omega) only [↓reduceIte, go_sem, eqC_at hc2 (by omega)]; rfl) ?_; (first | exact vb_true (by omega) | exact vb_false (by omega) | exact vb_dec (by omega) | exact vi_eq (by omega) | rfl | (refine vi_eq ?_; simp_all; first | done | (intros; omega))))
    | exact endT_v (.inr rfl) (by simp (maxSteps := 8000000) -implicitDefEqProofs (disch := omega) only [↓reduceIte, go_sem, eqC_at hc2 (by omega)]; try rfl) (fun _ => rfl)
theorem sz_Gate_at {c2 : Cell} (hc2 : HasC sh_TalkS c2) {k : Int} (hk : 0 ≤ k ∧ k ≤ 1048576) (hz : lnC c2 = true) (a0 : Int) (a1 : Int) : szR_S sh_Gate [.agg [.p (.int .i64 a0), .p (.int .i64 a1), fzC c2], .p (.int .i64 k)] = some (.p (.int .i64 (if ((szC c2 : Nat) : Int) ≤ k then k - (szC c2 : Nat) else -1)), []) := by
  have := szR_at (sh_Gate_mkHas hc2 a0 a1) hk (by simp only [lnCs, lnC, Bool.true_and, Bool.and_true, Bool.and_eq_true]; exact hz)
  simpa only [fzCs, fzC, szCs, szC, Nat.add_zero, Nat.zero_add, Nat.add_assoc] using this
-- laws.szGate
def c13 : AF := ⟨12,
 (.seq (.reg [rO 2 (.box 43 (.t 0)),
 rO 4 (.mv (.v (.int .i64 0)))])
 (.seq (.reg [rO 5 (.fa (.t 2) 2),
 rO 6 (.ld (.t 5)),
 rO 7 (.mv (.t 1)),
 rO 8 (.call 51 [(.t 6), (.t 7)]),
 rO 1 (.mv (.t 8))])
 (.seq (.seq (.reg [rO 9 (.mv (.t 1)),
 rO 10 (.bin .lss (.t 9) (.v (.int .i64 0)))])
 (.cond (.t 10) (.seq (.reg [rO 4 (.mv (.v (.int .i64 (-1))))])
 .ret)
 .skip))
 (.seq (.reg [rO 11 (.mv (.t 1)),
 rO 4 (.mv (.t 11))])
 .ret)))),
 [.t 4]⟩
theorem k13 : cFn Try.prog Try.f13 = some c13 := by kernel_rfl
theorem szGate_ok : OkT Try.prog 13 (pureSp (szR_S sh_Gate)) := by
  refine okT_szR (OkΓT.cons szTalkS_ok (OkΓT.nil _)) Try.func13 (by kernel_rfl) k13 ?_
  intro c k hc h1 h2 hz
  obtain ⟨a0, a1, c2, rfl, hc2⟩ := sh_Gate_Has hc
  generalize hN : szCs _ = N at *
  simp only [szCs, szC, Nat.add_zero, Nat.zero_add] at hN
  simp only [lnCs, lnC, Bool.true_and, Bool.and_true, Bool.and_eq_true] at hz
  have wc2 := hz
  simp only [fzCs, fzC]
  have zc2 := szC_at (k := k) hc2 (by omega) wc2
  by_cases qc2 : (szC c2 : Int) ≤ k
  case neg =>
    rw [if_neg qc2] at zc2
    rw [if_neg (show ¬ _ by omega)]
    (dsimp only [c13, rO]; simp (maxSteps := 8000000) -implicitDefEqProofs (disch := omega) only [↓reduceIte, go_sem, zc2])
    repeat' first
      | ((first | refine gdKT_deq (fun hg hG => ?_) (fun hg hG => ?_) | refine condKT_deq (fun hg hG => ?_) (fun hg hG => ?_)) <;> (try simp (maxSteps := 8000000) -implicitDefEqProofs (disch := omega) only [↓reduceIte, go_sem, hG, zc2]) <;> clear hG)
      | ((first | refine gdKT_split (fun hg => ?_) (fun hg => ?_) | refine condKT_split (fun hg => ?_) (fun hg => ?_)) <;> (try simp (maxSteps := 8000000) -implicitDefEqProofs (disch := omega) only [↓reduceIte, go_sem, hg, zc2]))
      | (refine endT_p (.inr rfl) (by simp (maxSteps := 8000000) -implicitDefEqProofs (disch := omega) only [↓reduceIte, go_sem, zc2]; rfl) ?_; (first | exact vb_true (by omega) | exact vb_false (by omega) | exact vb_dec (by omega) | exact vi_eq (by omega) | rfl | (refine vi_eq ?_; simp_all; first | done | (intros; omega))))
      | exact endT_v (.inr rfl) (by simp (maxSteps := 8000000) -implicitDefEqProofs (disch := omega) only [↓reduceIte, go_sem, zc2]; try rfl) (fun _ => rfl)
  rw [if_pos qc2] at zc2
  rw [if_pos (show _ by omega), show k - (N : Int) = k - (szC c2 : Int) by omega]
  (dsimp only [c13, rO]; simp (maxSteps := 8000000) -implicitDefEqProofs (disch := omega) only [↓reduceIte, go_sem, zc2])
  repeat' first
    | ((first | refine gdKT_deq (fun hg hG => ?_) (fun hg hG => ?_) | refine condKT_deq (fun hg hG => ?_) (fun hg hG => ?_)) <;> (try simp (maxSteps := 8000000) -implicitDefEqProofs (disch := omega) only [↓reduceIte, go_sem, hG, zc2]) <;> clear hG)
    | ((first | refine gdKT_split (fun hg => ?_) (fun hg => ?_) | refine condKT_split (fun hg => ?_) (fun hg => ?_)) <;> (try simp (maxSteps := 8000000) -implicitDefEqProofs (disch := omega) only [↓reduceIte, go_sem, hg, zc2]))
    | (refine endT_p (.inr rfl) (by simp (maxSteps := 8000000) -implicitDefEqProofs (disch := omega) only [↓reduceIte, go_sem, zc2]; rfl) ?_; (first | exact vb_true (by omega) | exact vb_false (by omega) | exact vb_dec (by omega) | exact vi_eq (by omega) | rfl | (refine vi_eq ?_; simp_all; first | done | (intros; omega))))
    | exact endT_v (.inr rfl) (by simp (maxSteps := 8000000) -implicitDefEqProofs (disch := omega) only [↓reduceIte, go_sem, zc2]; try rfl) (fun _ => rfl)
def sh_GateS : Shp := .sl 26 sh_Gate
-- laws.toGateS
def c70 : AF := ⟨23,
 (.seq (.reg [rO 2 (.mv (.v (.slice none 0 0)))])
 (.seq (.reg [rO 5 (.mv (.t 0)),
 rO 6 (.len (.t 5)),
 rO 7 (.mkSl 26 3 40 [(.int .i64 0), (.int .i64 0), (.slice none 0 0)] (.t 6) (.t 6)),
 rO 3 (.mv (.t 7))])
 (.seq (.seq (.reg [rO 4 (.mv (.v (.int .i64 0)))])
 (.block 0 (.loop (.seq (.seq (.reg [rO 8 (.mv (.t 4)),
 rO 9 (.mv (.t 0)),
 rO 10 (.len (.t 9)),
 rO 11 (.bin .lss (.t 8) (.t 10))])
 (.cond (.t 11) .skip
 (.exit 0)))
 (.seq (.block 1 (.reg [rO 14 (.mv (.t 3)),
 rO 15 (.mv (.t 4)),
 rO 16 (.mv (.t 0)),
 rO 17 (.mv (.t 4)),
 rO 18 (.ia 3 (.t 16) (.t 17)),
 rO 19 (.ldn 3 (.t 18)),
 rO 20 (.call 16 [(.t 19)]),
 rO 21 (.ia 3 (.t 14) (.t 15)),
 ⟨none, none, .st 3 (.t 21) (.t 20)⟩]))
 (.reg [rO 12 (.mv (.t 4)),
 rO 13 (.bin .add (.t 12) (.v (.int .i64 1))),
 rO 4 (.mv (.t 13))]))))))
 (.seq (.reg [rO 22 (.mv (.t 3)),
 rO 2 (.mv (.t 22))])
 .ret)))),
 [.t 2]⟩
theorem k70 : cFn Try.prog Try.f70 = some c70 := by kernel_rfl
theorem toGateS_ok : OkT Try.prog 70 (pureSp (toC_S sh_GateS)) := by
  refine okT_toC (OkΓT.cons toGate_ok (OkΓT.nil _)) Try.func70 (by kernel_rfl) k70 ?_
  intro c hc hz
  simp only [sh_GateS, HasC] at hc
  obtain ⟨rows, rfl, hr⟩ := hc
  simp only [szC] at hz
  have hlen : ∀ r ∈ rows, r.length = 3 := fun r hx => (hr r hx).len
  generalize hzz : (el [.p (.int .i64 0), .p (.int .i64 0), .nl] : TV) = z0
  have hz1 : cellsT z0 = [.p (.int .i64 0), .p (.int .i64 0), .nl] := by rw [← hzz]; rfl
  simp only [fzC, tvC_v, tvC_nl, tvC_sl, bkC]
  (dsimp only [c70, rO]; simp (maxSteps := 8000000) -implicitDefEqProofs (disch := omega) only [↓reduceIte, go_sem, hzz, mixR_zero 1 rows z0])
  refine awpT_loop (α := Nat) (fun i => ⟨slots [(0, .s (fzRs rows)), (3, .os 0 0 rows.length), (4, .p (.int .i64 i))], .cells 26 3 (mixR 1 rows z0 i) :: bkRs 1 (rows.take i)⟩)
    (fun i => i ≤ rows.length) (fun i => rows.length - i) 0 (Nat.zero_le _) (by simp only [List.take_zero, bkRs]; exact le_keep (Nat.zero_le _) (by simp (maxSteps := 8000000) -implicitDefEqProofs (disch := omega) only [↓reduceIte, go_sem, slotsIn])) ?_
  intro i hi
  simp (maxSteps := 8000000) -implicitDefEqProofs (disch := omega) only [↓reduceIte, go_sem, mixR_len 1 rows z0 hi]
  refine condKT_dec (fun hlt => ?_) (fun hge => ?_)
  · obtain ⟨r, hx⟩ := get_ex (l := rows) (i := i) (by omega)
    have hrr := hr r (List.mem_of_getElem? hx)
    have hzr := szRs_mem hx
    have hg := fzRs_get hx; have hm := mixR_get 1 (rows := rows) z0 (i := i) (by omega)
    have hs := mixR_set 1 z0 hx; have hb := bkRs_snoc 1 hx; have hn := bkRs_len 1 (rows.take i)
    obtain ⟨a0, a1, c2, rfl, hc2⟩ := sh_Gate_Has hrr
    simp only [szCs, szC] at hzr
    simp only [fzCs, fzC, tvCs, tvC_v, tvC_nl, tvC_sl, bkCs, bkC, nbC, nbCs, Nat.add_zero, List.append_nil, List.nil_append, el_one, el_two, Nat.add_comm 1 (nbRs _)] at hg hs hb
    simp (maxSteps := 8000000) -implicitDefEqProofs (disch := omega) only [↓reduceIte, go_sem, eq_true hlt, hg, hm, hs, hn, hz1, el_two, to_Gate_at hc2 (by omega)]
    refine loopKT_next (i + 1) (by omega) (by omega) ?_
    rw [hb]; refine (le_keep (Nat.zero_le _) ?_) <;> simp (maxSteps := 8000000) -implicitDefEqProofs (disch := omega) only [↓reduceIte, go_sem, slotsIn]
  · have hb : rows.take i = rows := List.take_of_length_le (by omega)
    have hm := mixR_full 1 (rows := rows) z0 (i := i) (by omega)
    simp (maxSteps := 8000000) -implicitDefEqProofs (disch := omega) only [↓reduceIte, go_sem, eq_false hge, hb, hm]
    refine joinK_here ?_
    simp (maxSteps := 8000000) -implicitDefEqProofs (disch := omega) only [↓reduceIte, go_sem]
    exact endT_same (.inr rfl) (by (simp (maxSteps := 8000000) -implicitDefEqProofs (disch := omega) only [↓reduceIte, go_sem]) <;> rfl) rfl
-- laws.eqGateS
def c75 : AF := ⟨27,
 (.seq (.reg [rO 4 (.mv (.v (.bool false)))])
 (.seq (.seq (.reg [rO 6 (.mv (.t 0)),
 rO 7 (.len (.t 6)),
 rO 8 (.mv (.t 1)),
 rO 9 (.len (.t 8)),
 rO 10 (.bin .neq (.t 7) (.t 9))])
 (.cond (.t 10) (.seq (.reg [rO 4 (.mv (.v (.bool false)))])
 .ret)
 .skip))
 (.seq (.seq (.reg [rO 5 (.mv (.v (.int .i64 0)))])
 (.block 0 (.loop (.seq (.seq (.reg [rO 11 (.mv (.t 5)),
 rO 12 (.mv (.t 0)),
 rO 13 (.len (.t 12)),
 rO 14 (.bin .lss (.t 11) (.t 13))])
 (.cond (.t 14) .skip
 (.exit 0)))
 (.seq (.block 1 (.seq (.drw [rO 17 (.mv (.t 0)),
 rO 18 (.mv (.t 5)),
 rO 19 (.ia 3 (.t 17) (.t 18)),
 rO 20 (.ldn 3 (.t 19)),
 rO 21 (.mv (.t 1)),
 rO 22 (.mv (.t 5)),
 rO 23 (.ia 3 (.t 21) (.t 22)),
 rO 24 (.ldn 3 (.t 23))] [rO 25 (.call 19 [(.t 20), (.t 24)]),
 rO 26 (.un .not (.t 25))])
 (.cond (.t 26) (.seq (.reg [rO 4 (.mv (.v (.bool false)))])
 .ret)
 .skip)))
 (.reg [rO 15 (.mv (.t 5)),
 rO 16 (.bin .add (.t 15) (.v (.int .i64 1))),
 rO 5 (.mv (.t 16))]))))))
 (.seq (.reg [rO 4 (.mv (.v (.bool true)))])
 .ret)))),
 [.t 4]⟩
theorem k75 : cFn Try.prog Try.f75 = some c75 := by kernel_rfl
theorem eqGateS_ok : OkT Try.prog 75 (pureSp (eqC_S sh_GateS)) := by
  refine okT_eqC (OkΓT.cons eqGate_ok (OkΓT.nil _)) Try.func75 (by kernel_rfl) k75 ?_
  intro c hc hz
  obtain ⟨rows, hf, hr, hsz, _⟩ := FitC.rows hc
  rw [hf]
  (dsimp only [c75, rO]; simp (maxSteps := 8000000) -implicitDefEqProofs (disch := omega) only [↓reduceIte, go_sem])
  refine awpT_loop (α := Nat) (fun i => ⟨slots [(0, .s (fzRs rows)), (1, .s (fzRs rows)), (5, .p (.int .i64 i))], []⟩) (fun i => i ≤ rows.length) (fun i => rows.length - i) 0 (Nat.zero_le _) (le_of [] (by simp (maxSteps := 8000000) -implicitDefEqProofs (disch := omega) only [↓reduceIte, go_sem]) (by simp (maxSteps := 8000000) -implicitDefEqProofs (disch := omega) only [↓reduceIte, go_sem]) (by decide) (by simp)) ?_
  intro i hi
  simp (maxSteps := 8000000) -implicitDefEqProofs (disch := omega) only [↓reduceIte, go_sem]
  refine condKT_dec (fun hlt => ?_) (fun hge => ?_)
  · obtain ⟨r, hx⟩ := get_ex (l := rows) (i := i) (by omega)
    have hrr := hr r (List.mem_of_getElem? hx)
    have hzr := szRs_mem hx
    have hg := fzRs_get hx
    obtain ⟨a0, a1, c2, rfl, hc2⟩ := sh_Gate_Fit hrr
    simp only [szCs, szC] at hzr
    simp only [fzCs, fzC, el_one, el_two] at hg
    simp (maxSteps := 8000000) -implicitDefEqProofs (disch := omega) only [↓reduceIte, go_sem, eq_true hlt, hg, eq_Gate_at hc2 (by omega)]
    refine loopKT_next (i + 1) (by omega) (by omega) ?_
    exact (le_of [] (by simp (maxSteps := 8000000) -implicitDefEqProofs (disch := omega) only [↓reduceIte, go_sem]) (by simp (maxSteps := 8000000) -implicitDefEqProofs (disch := omega) only [↓reduceIte, go_sem]) (by decide) (by simp))
  · simp (maxSteps := 8000000) -implicitDefEqProofs (disch := omega) only [↓reduceIte, go_sem, eq_false hge]
    refine joinK_here ?_
    simp (maxSteps := 8000000) -implicitDefEqProofs (disch := omega) only [↓reduceIte, go_sem]
    repeat' first
      | ((first | refine gdKT_deq (fun hg hG => ?_) (fun hg hG => ?_) | refine condKT_deq (fun hg hG => ?_) (fun hg hG => ?_)) <;> (try simp (maxSteps := 8000000) -implicitDefEqProofs (disch := omega) only [↓reduceIte, go_sem, hG]) <;> clear hG)
      | ((first | refine gdKT_split (fun hg => ?_) (fun hg => ?_) | refine condKT_split (fun hg => ?_) (fun hg => ?_)) <;> (try simp (maxSteps := 8000000) -implicitDefEqProofs (disch := omega) only [↓reduceIte, go_sem, hg]))
      | (refine endT_p (.inr rfl) (by simp (maxSteps := 8000000) -implicitDefEqProofs (disch := omega) only [↓reduceIte, go_sem]; rfl) ?_; (first | exact vb_true (by omega) | exact vb_false (by omega) | exact vb_dec (by omega) | exact vi_eq (by omega) | rfl | (refine vi_eq ?_; simp_all; first | done | (intros; omega))))
      | exact endT_v (.inr rfl) (by simp (maxSteps := 8000000) -implicitDefEqProofs (disch := omega) only [↓reduceIte, go_sem]; try rfl) (fun _ => rfl)
-- laws.szGateS
def c64 : AF := ⟨27,
 (.seq (.reg [rO 4 (.mv (.v (.int .i64 0)))])
 (.seq (.reg [rO 6 (.mv (.t 1)),
 rO 7 (.mv (.t 0)),
 rO 8 (.len (.t 7)),
 rO 9 (.bin .sub (.t 6) (.t 8)),
 rO 1 (.mv (.t 9))])
 (.seq (.seq (.reg [rO 10 (.mv (.t 1)),
 rO 11 (.bin .lss (.t 10) (.v (.int .i64 0)))])
 (.cond (.t 11) (.seq (.reg [rO 4 (.mv (.v (.int .i64 (-1))))])
 .ret)
 .skip))
 (.seq (.seq (.reg [rO 5 (.mv (.v (.int .i64 0)))])
 (.block 0 (.loop (.seq (.seq (.reg [rO 12 (.mv (.t 5)),
 rO 13 (.mv (.t 0)),
 rO 14 (.len (.t 13)),
 rO 15 (.bin .lss (.t 12) (.t 14))])
 (.cond (.t 15) .skip
 (.exit 0)))
 (.seq (.block 1 (.seq (.reg [rO 18 (.mv (.t 0)),
 rO 19 (.mv (.t 5)),
 rO 20 (.ia 3 (.t 18) (.t 19)),
 rO 21 (.ldn 3 (.t 20)),
 rO 22 (.mv (.t 1)),
 rO 23 (.call 13 [(.t 21), (.t 22)]),
 rO 1 (.mv (.t 23))])
 (.seq (.reg [rO 24 (.mv (.t 1)),
 rO 25 (.bin .lss (.t 24) (.v (.int .i64 0)))])
 (.cond (.t 25) (.seq (.reg [rO 4 (.mv (.v (.int .i64 (-1))))])
 .ret)
 .skip))))
 (.reg [rO 16 (.mv (.t 5)),
 rO 17 (.bin .add (.t 16) (.v (.int .i64 1))),
 rO 5 (.mv (.t 17))]))))))
 (.seq (.reg [rO 26 (.mv (.t 1)),
 rO 4 (.mv (.t 26))])
 .ret))))),
 [.t 4]⟩
theorem k64 : cFn Try.prog Try.f64 = some c64 := by kernel_rfl
theorem szGateS_ok : OkT Try.prog 64 (pureSp (szC_S sh_GateS)) := by
  refine okT_szC (OkΓT.cons szGate_ok (OkΓT.nil _)) Try.func64 (by kernel_rfl) k64 ?_
  intro c k hc h1 h2 hz
  simp only [sh_GateS, HasC] at hc
  obtain ⟨rows, rfl, hr⟩ := hc
  generalize hN : szC _ = N at *
  simp only [szC] at hN
  simp only [lnC, Bool.and_eq_true, decide_eq_true_eq] at hz
  obtain ⟨hz, hzr⟩ := hz
  simp only [fzC]
  by_cases q : (rows.length : Int) ≤ k
  case neg =>
    rw [if_neg (by omega)]
    (dsimp only [c64, rO]; simp (maxSteps := 8000000) -implicitDefEqProofs (disch := omega) only [↓reduceIte, go_sem])
    repeat' first
      | ((first | refine gdKT_deq (fun hg hG => ?_) (fun hg hG => ?_) | refine condKT_deq (fun hg hG => ?_) (fun hg hG => ?_)) <;> (try simp (maxSteps := 8000000) -implicitDefEqProofs (disch := omega) only [↓reduceIte, go_sem, hG]) <;> clear hG)
      | ((first | refine gdKT_split (fun hg => ?_) (fun hg => ?_) | refine condKT_split (fun hg => ?_) (fun hg => ?_)) <;> (try simp (maxSteps := 8000000) -implicitDefEqProofs (disch := omega) only [↓reduceIte, go_sem, hg]))
      | (refine endT_p (.inr rfl) (by simp (maxSteps := 8000000) -implicitDefEqProofs (disch := omega) only [↓reduceIte, go_sem]; rfl) ?_; (first | exact vb_true (by omega) | exact vb_false (by omega) | exact vb_dec (by omega) | exact vi_eq (by omega) | rfl | (refine vi_eq ?_; simp_all; first | done | (intros; omega))))
      | exact endT_v (.inr rfl) (by simp (maxSteps := 8000000) -implicitDefEqProofs (disch := omega) only [↓reduceIte, go_sem]; try rfl) (fun _ => rfl)
  (dsimp only [c64, rO]; simp (maxSteps := 8000000) -implicitDefEqProofs (disch := omega) only [↓reduceIte, go_sem, eq_false (show ¬ (k - (rows.length : Int) < 0) by omega)])
  refine awpT_loop (α := Nat) (fun i => ⟨slots [(0, .s (fzRs rows)), (1, .p (.int .i64 (k - (rows.length : Int) - (szRs (rows.take i) : Int)))), (5, .p (.int .i64 i))], []⟩) (fun i => i ≤ rows.length ∧ (rows.length : Int) + szRs (rows.take i) ≤ k) (fun i => rows.length - i) 0 ⟨Nat.zero_le _, by simp only [List.take_zero, szRs]; omega⟩ (by simp only [List.take_zero, szRs, nat0T, Int.sub_zero]; exact (le_of [] (by simp (maxSteps := 8000000) -implicitDefEqProofs (disch := omega) only [↓reduceIte, go_sem]) (by simp (maxSteps := 8000000) -implicitDefEqProofs (disch := omega) only [↓reduceIte, go_sem]) (by decide) (by simp))) ?_
  intro i ⟨hi, hk⟩
  simp (maxSteps := 8000000) -implicitDefEqProofs (disch := omega) only [↓reduceIte, go_sem]
  refine condKT_dec (fun hlt => ?_) (fun hge => ?_)
  · obtain ⟨r, hx⟩ := get_ex (l := rows) (i := i) (by omega)
    have hrr := hr r (List.mem_of_getElem? hx)
    have hln := lnRs_mem hzr hx
    have hzr := szRs_mem hx
    have hg := fzRs_get hx; have hsn := szRs_snoc hx
    obtain ⟨a0, a1, c2, rfl, hc2⟩ := sh_Gate_Has hrr
    simp only [lnCs, lnC, Bool.true_and, Bool.and_true, Bool.and_eq_true] at hln
    simp only [szCs, szC, Nat.add_zero, Nat.zero_add] at hzr hsn
    simp only [fzCs, fzC, el_one, el_two] at hg
    have hq := fun a0 a1 => sz_Gate_at hc2 (k := k - (rows.length : Int) - (szRs (rows.take i) : Int)) (by omega) hln a0 a1
    by_cases q2 : ((szC c2 : Nat) : Int) ≤ k - (rows.length : Int) - (szRs (rows.take i) : Int)
    · simp only [if_pos q2] at hq
      simp (maxSteps := 8000000) -implicitDefEqProofs (disch := omega) only [↓reduceIte, go_sem, eq_true hlt, hg, hq, eq_false (show ¬ (k - (rows.length : Int) - (szRs (rows.take i) : Int) - ((szC c2 : Nat) : Int) < 0) by omega)]
      refine loopKT_next (i + 1) ⟨by omega, by omega⟩ (by omega) ?_
      have hs2 : k - (rows.length : Int) - (szRs (rows.take i) : Int) - ((szC c2 : Nat) : Int) = k - (rows.length : Int) - (szRs (rows.take (i + 1)) : Int) := by omega
      exact (le_of [] (by simp (maxSteps := 8000000) -implicitDefEqProofs (disch := omega) only [↓reduceIte, go_sem, hs2]) (by simp (maxSteps := 8000000) -implicitDefEqProofs (disch := omega) only [↓reduceIte, go_sem, hs2]) (by decide) (by simp))
    · simp only [if_neg q2] at hq
      rw [if_neg (show ¬ _ by omega)]
      simp (maxSteps := 8000000) -implicitDefEqProofs (disch := omega) only [↓reduceIte, go_sem, eq_true hlt, hg, hq]
      repeat' first
        | ((first | refine gdKT_deq (fun hg hG => ?_) (fun hg hG => ?_) | refine condKT_deq (fun hg hG => ?_) (fun hg hG => ?_)) <;> (try simp (maxSteps := 8000000) -implicitDefEqProofs (disch := omega) only [↓reduceIte, go_sem, hG, eq_true hlt, hg, hq]) <;> clear hG)
        | ((first | refine gdKT_split (fun hg => ?_) (fun hg => ?_) | refine condKT_split (fun hg => ?_) (fun hg => ?_)) <;> (try simp (maxSteps := 8000000) -implicitDefEqProofs (disch := omega) only [↓reduceIte, go_sem, hg, eq_true hlt, hg, hq]))
        | (refine endT_p (.inr rfl) (by simp (maxSteps := 8000000) -implicitDefEqProofs (disch := omega) only [↓reduceIte, go_sem, eq_true hlt, hg, hq]; rfl) ?_; (first | exact vb_true (by omega) | exact vb_false (by omega) | exact vb_dec (by omega) | exact vi_eq (by omega) | rfl | (refine vi_eq ?_; simp_all; first | done | (intros; omega))))
        | exact endT_v (.inr rfl) (by simp (maxSteps := 8000000) -implicitDefEqProofs (disch := omega) only [↓reduceIte, go_sem, eq_true hlt, hg, hq]; try rfl) (fun _ => rfl)
  · have hb : rows.take i = rows := List.take_of_length_le (by omega)
    rw [hb] at hk
    rw [if_pos (show _ by omega), show k - (N : Int) = k - (rows.length : Int) - (szRs rows : Int) by omega]
    simp (maxSteps := 8000000) -implicitDefEqProofs (disch := omega) only [↓reduceIte, go_sem, eq_false hge, hb]
    refine joinK_here ?_
    simp (maxSteps := 8000000) -implicitDefEqProofs (disch := omega) only [↓reduceIte, go_sem]
    repeat' first
      | ((first | refine gdKT_deq (fun hg hG => ?_) (fun hg hG => ?_) | refine condKT_deq (fun hg hG => ?_) (fun hg hG => ?_)) <;> (try simp (maxSteps := 8000000) -implicitDefEqProofs (disch := omega) only [↓reduceIte, go_sem, hG]) <;> clear hG)
      | ((first | refine gdKT_split (fun hg => ?_) (fun hg => ?_) | refine condKT_split (fun hg => ?_) (fun hg => ?_)) <;> (try simp (maxSteps := 8000000) -implicitDefEqProofs (disch := omega) only [↓reduceIte, go_sem, hg]))
      | (refine endT_p (.inr rfl) (by simp (maxSteps := 8000000) -implicitDefEqProofs (disch := omega) only [↓reduceIte, go_sem]; rfl) ?_; (first | exact vb_true (by omega) | exact vb_false (by omega) | exact vb_dec (by omega) | exact vi_eq (by omega) | rfl | (refine vi_eq ?_; simp_all; first | done | (intros; omega))))
      | exact endT_v (.inr rfl) (by simp (maxSteps := 8000000) -implicitDefEqProofs (disch := omega) only [↓reduceIte, go_sem]; try rfl) (fun _ => rfl)
/-! Given -/
def sh_Given : List Shp := [.i .i64, .i .i64, .i .i64, .i .i64]
theorem sh_Given_Has {cs : List Cell} (h : HasR sh_Given cs) : ∃ (a0 : Int) (a1 : Int) (a2 : Int) (a3 : Int), cs = [.v (.int .i64 a0), .v (.int .i64 a1), .v (.int .i64 a2), .v (.int .i64 a3)] := by
  obtain ⟨_, _, rfl, ⟨a0, rfl, _⟩, _, _, rfl, ⟨a1, rfl, _⟩, _, _, rfl, ⟨a2, rfl, _⟩, _, _, rfl, ⟨a3, rfl, _⟩, h⟩ := h
  simp only [HasR] at h; subst h
  exact ⟨a0, a1, a2, a3, rfl⟩
theorem sh_Given_mkHas  (a0 : Int) (a1 : Int) (a2 : Int) (a3 : Int) : HasR sh_Given [.v (.int .i64 a0), .v (.int .i64 a1), .v (.int .i64 a2), .v (.int .i64 a3)] := by
  exact ⟨_, _, rfl, ⟨_, rfl, fun h => by cases h⟩, _, _, rfl, ⟨_, rfl, fun h => by cases h⟩, _, _, rfl, ⟨_, rfl, fun h => by cases h⟩, _, _, rfl, ⟨_, rfl, fun h => by cases h⟩, rfl⟩
theorem sh_Given_Fit {cs : List Cell} (h : FitR sh_Given cs) : ∃ (a0 : Int) (a1 : Int) (a2 : Int) (a3 : Int), cs = [.v (.int .i64 a0), .v (.int .i64 a1), .v (.int .i64 a2), .v (.int .i64 a3)] := by
  obtain ⟨_, _, rfl, ⟨a0, rfl⟩, _, _, rfl, ⟨a1, rfl⟩, _, _, rfl, ⟨a2, rfl⟩, _, _, rfl, ⟨a3, rfl⟩, h⟩ := h
  simp only [FitR] at h; subst h
  exact ⟨a0, a1, a2, a3, rfl⟩
theorem sh_Given_mkFit  (a0 : Int) (a1 : Int) (a2 : Int) (a3 : Int) : FitR sh_Given [.v (.int .i64 a0), .v (.int .i64 a1), .v (.int .i64 a2), .v (.int .i64 a3)] := by
  exact ⟨_, _, rfl, ⟨_, rfl⟩, _, _, rfl, ⟨_, rfl⟩, _, _, rfl, ⟨_, rfl⟩, _, _, rfl, ⟨_, rfl⟩, rfl⟩
theorem to_Given_at  (a0 : Int) (a1 : Int) (a2 : Int) (a3 : Int) : toR_S sh_Given [.agg [.p (.int .i64 a0), .p (.int .i64 a1), .p (.int .i64 a2), .p (.int .i64 a3)]] = some (.agg [.p (.int .i64 a0), .p (.int .i64 a1), .p (.int .i64 a2), .p (.int .i64 a3)], []) := by
  have := toR_at (sh_Given_mkHas  a0 a1 a2 a3) (by simp only [szCs, szC]; omega)
  simpa only [fzCs, fzC, tvCs, tvC_v, tvC_nl, tvC_sl, bkCs, bkC, nbC, nbCs, Nat.add_zero, List.append_nil, List.nil_append, Nat.zero_add] using this
-- laws.toGiven
def c115 : AF := ⟨17,
 (.seq (.reg [rO 1 (.box 168 (.t 0)),
 rO 2 (.alloc 166 [(.int .i64 0), (.int .i64 0), (.int .i64 0), (.int .i64 0)])])
 (.seq (.reg [rO 3 (.alloc 166 [(.int .i64 0), (.int .i64 0), (.int .i64 0), (.int .i64 0)])])
 (.seq (.reg [rO 4 (.fa (.t 1) 0),
 rO 5 (.ld (.t 4)),
 rO 6 (.fa (.t 3) 0),
 ⟨none, none, .st 1 (.t 6) (.t 5)⟩])
 (.seq (.reg [rO 7 (.fa (.t 1) 1),
 rO 8 (.ld (.t 7)),
 rO 9 (.fa (.t 3) 1),
 ⟨none, none, .st 1 (.t 9) (.t 8)⟩])
 (.seq (.reg [rO 10 (.fa (.t 1) 2),
 rO 11 (.ld (.t 10)),
 rO 12 (.fa (.t 3) 2),
 ⟨none, none, .st 1 (.t 12) (.t 11)⟩])
 (.seq (.reg [rO 13 (.fa (.t 1) 3),
 rO 14 (.ld (.t 13)),
 rO 15 (.fa (.t 3) 3),
 ⟨none, none, .st 1 (.t 15) (.t 14)⟩])
 (.seq (.reg [rO 16 (.ldn 4 (.t 3)),
 ⟨none, none, .st 4 (.t 2) (.t 16)⟩])
 .ret))))))),
 [.cell 2 (some 4)]⟩
theorem k115 : cFn Try.prog Try.f115 = some c115 := by kernel_rfl
theorem toGiven_ok : OkT Try.prog 115 (pureSp (toR_S sh_Given)) := by
  refine okT_toR (OkΓT.nil _) Try.func115 (by kernel_rfl) k115 ?_
  intro c hc hz
  obtain ⟨a0, a1, a2, a3, rfl⟩ := sh_Given_Has hc
  simp only [szCs, szC] at hz
  simp only [fzCs, fzC]
  (dsimp only [c115, rO]; simp (maxSteps := 8000000) -implicitDefEqProofs (disch := omega) only [↓reduceIte, go_sem])
  refine endT_cells' 3 (.inr rfl) (by (simp (maxSteps := 8000000) -implicitDefEqProofs (disch := omega) only [↓reduceIte, go_sem, fzCs, fzC, tvCs, tvC_v, tvC_nl, tvC_sl, bkCs, bkC, nbC, nbCs, Nat.add_zero, List.append_nil, List.nil_append]) <;> rfl) ?_ (by simp only [List.length_cons]; omega)
  simp only [List.drop_succ_cons, List.drop_zero, bkCs, bkC, nbC, Nat.add_zero, List.append_nil, List.nil_append, List.cons_append, Nat.add_assoc]
theorem eq_Given_at  (a0 : Int) (a1 : Int) (a2 : Int) (a3 : Int) : eqR_S sh_Given [.agg [.p (.int .i64 a0), .p (.int .i64 a1), .p (.int .i64 a2), .p (.int .i64 a3)], .agg [.p (.int .i64 a0), .p (.int .i64 a1), .p (.int .i64 a2), .p (.int .i64 a3)]] = some (.p (.bool true), []) := by
  exact eqR_at (sh_Given_mkFit  a0 a1 a2 a3) (by simp only [szCs, szC]; omega)
-- laws.eqGiven
def c128 : AF := ⟨25,
 (.seq (.reg [rO 2 (.box 166 (.t 0)),
 rO 3 (.box 166 (.t 1)),
 rO 4 (.mv (.v (.bool false)))])
 (.seq (.seq (.reg [rO 5 (.fa (.t 2) 0),
 rO 6 (.ld (.t 5)),
 rO 7 (.fa (.t 3) 0),
 rO 8 (.ld (.t 7)),
 rO 9 (.bin .neq (.t 6) (.t 8))])
 (.cond (.t 9) (.seq (.reg [rO 4 (.mv (.v (.bool false)))])
 .ret)
 .skip))
 (.seq (.seq (.reg [rO 10 (.fa (.t 2) 1),
 rO 11 (.ld (.t 10)),
 rO 12 (.fa (.t 3) 1),
 rO 13 (.ld (.t 12)),
 rO 14 (.bin .neq (.t 11) (.t 13))])
 (.cond (.t 14) (.seq (.reg [rO 4 (.mv (.v (.bool false)))])
 .ret)
 .skip))
 (.seq (.seq (.reg [rO 15 (.fa (.t 2) 2),
 rO 16 (.ld (.t 15)),
 rO 17 (.fa (.t 3) 2),
 rO 18 (.ld (.t 17)),
 rO 19 (.bin .neq (.t 16) (.t 18))])
 (.cond (.t 19) (.seq (.reg [rO 4 (.mv (.v (.bool false)))])
 .ret)
 .skip))
 (.seq (.seq (.reg [rO 20 (.fa (.t 2) 3),
 rO 21 (.ld (.t 20)),
 rO 22 (.fa (.t 3) 3),
 rO 23 (.ld (.t 22)),
 rO 24 (.bin .neq (.t 21) (.t 23))])
 (.cond (.t 24) (.seq (.reg [rO 4 (.mv (.v (.bool false)))])
 .ret)
 .skip))
 (.seq (.reg [rO 4 (.mv (.v (.bool true)))])
 .ret)))))),
 [.t 4]⟩
theorem k128 : cFn Try.prog Try.f128 = some c128 := by kernel_rfl
theorem eqGiven_ok : OkT Try.prog 128 (pureSp (eqR_S sh_Given)) := by
  refine okT_eqR (OkΓT.nil _) Try.func128 (by kernel_rfl) k128 ?_
  intro c hc hz
  obtain ⟨a0, a1, a2, a3, rfl⟩ := sh_Given_Fit hc
  simp only [szCs, szC] at hz
  simp only [fzCs, fzC]
  (dsimp only [c128, rO]; simp (maxSteps := 8000000) -implicitDefEqProofs (disch := omega) only [↓reduceIte, go_sem])
  repeat' first
    | ((first | refine gdKT_deq (fun hg hG => ?_) (fun hg hG => ?_) | refine condKT_deq (fun hg hG => ?_) (fun hg hG => ?_)) <;> (try simp (maxSteps := 8000000) -implicitDefEqProofs (disch := omega) only [↓reduceIte, go_sem, hG]) <;> clear hG)
    | ((first | refine gdKT_split (fun hg => ?_) (fun hg => ?_) | refine condKT_split (fun hg => ?_) (fun hg => ?_)) <;> (try simp (maxSteps := 8000000) -implicitDefEqProofs (disch := omega) only [↓reduceIte, go_sem, hg]))
    | (refine endT_p (.inr rfl) (by simp (maxSteps := 8000000) -implicitDefEqProofs (disch := omega) only [↓reduceIte, go_sem]; rfl) ?_; (first | exact vb_true (by omega) | exact vb_false (by omega) | exact vb_dec (by omega) | exact vi_eq (by omega) | rfl | (refine vi_eq ?_; simp_all; first | done | (intros; omega))))
    | exact endT_v (.inr rfl) (by simp (maxSteps := 8000000) -implicitDefEqProofs (disch := omega) only [↓reduceIte, go_sem]; try rfl) (fun _ => rfl)
def sh_GivenS : Shp := .sl 166 sh_Given
-- laws.toGivenS
def c72 : AF := ⟨23,
 (.seq (.reg [rO 2 (.mv (.v (.slice none 0 0)))])
 (.seq (.reg [rO 5 (.mv (.t 0)),
 rO 6 (.len (.t 5)),
 rO 7 (.mkSl 166 4 32 [(.int .i64 0), (.int .i64 0), (.int .i64 0), (.int .i64 0)] (.t 6) (.t 6)),
 rO 3 (.mv (.t 7))])
 (.seq (.seq (.reg [rO 4 (.mv (.v (.int .i64 0)))])
 (.block 0 (.loop (.seq (.seq (.reg [rO 8 (.mv (.t 4)),
 rO 9 (.mv (.t 0)),
 rO 10 (.len (.t 9)),
 rO 11 (.bin .lss (.t 8) (.t 10))])
 (.cond (.t 11) .skip
 (.exit 0)))
 (.seq (.block 1 (.reg [rO 14 (.mv (.t 3)),
 rO 15 (.mv (.t 4)),
 rO 16 (.mv (.t 0)),
 rO 17 (.mv (.t 4)),
 rO 18 (.ia 4 (.t 16) (.t 17)),
 rO 19 (.ldn 4 (.t 18)),
 rO 20 (.call 115 [(.t 19)]),
 rO 21 (.ia 4 (.t 14) (.t 15)),
 ⟨none, none, .st 4 (.t 21) (.t 20)⟩]))
 (.reg [rO 12 (.mv (.t 4)),
 rO 13 (.bin .add (.t 12) (.v (.int .i64 1))),
 rO 4 (.mv (.t 13))]))))))
 (.seq (.reg [rO 22 (.mv (.t 3)),
 rO 2 (.mv (.t 22))])
 .ret)))),
 [.t 2]⟩
theorem k72 : cFn Try.prog Try.f72 = some c72 := by kernel_rfl
theorem toGivenS_ok : OkT Try.prog 72 (pureSp (toC_S sh_GivenS)) := by
  refine okT_toC (OkΓT.cons toGiven_ok (OkΓT.nil _)) Try.func72 (by kernel_rfl) k72 ?_
  intro c hc hz
  simp only [sh_GivenS, HasC] at hc
  obtain ⟨rows, rfl, hr⟩ := hc
  simp only [szC] at hz
  have hlen : ∀ r ∈ rows, r.length = 4 := fun r hx => (hr r hx).len
  generalize hzz : (el [.p (.int .i64 0), .p (.int .i64 0), .p (.int .i64 0), .p (.int .i64 0)] : TV) = z0
  have hz1 : cellsT z0 = [.p (.int .i64 0), .p (.int .i64 0), .p (.int .i64 0), .p (.int .i64 0)] := by rw [← hzz]; rfl
  simp only [fzC, tvC_v, tvC_nl, tvC_sl, bkC]
  (dsimp only [c72, rO]; simp (maxSteps := 8000000) -implicitDefEqProofs (disch := omega) only [↓reduceIte, go_sem, hzz, mixR_zero 1 rows z0])
  refine awpT_loop (α := Nat) (fun i => ⟨slots [(0, .s (fzRs rows)), (3, .os 0 0 rows.length), (4, .p (.int .i64 i))], .cells 166 4 (mixR 1 rows z0 i) :: bkRs 1 (rows.take i)⟩)
    (fun i => i ≤ rows.length) (fun i => rows.length - i) 0 (Nat.zero_le _) (by simp only [List.take_zero, bkRs]; exact le_keep (Nat.zero_le _) (by simp (maxSteps := 8000000) -implicitDefEqProofs (disch := omega) only [↓reduceIte, go_sem, slotsIn])) ?_
  intro i hi
  simp (maxSteps := 8000000) -implicitDefEqProofs (disch := omega) only [↓reduceIte, go_sem, mixR_len 1 rows z0 hi]
  refine condKT_dec (fun hlt => ?_) (fun hge => ?_)
  · obtain ⟨r, hx⟩ := get_ex (l := rows) (i := i) (by omega)
    have hrr := hr r (List.mem_of_getElem? hx)
    have hzr := szRs_mem hx
    have hg := fzRs_get hx; have hm := mixR_get 1 (rows := rows) z0 (i := i) (by omega)
    have hs := mixR_set 1 z0 hx; have hb := bkRs_snoc 1 hx; have hn := bkRs_len 1 (rows.take i)
    obtain ⟨a0, a1, a2, a3, rfl⟩ := sh_Given_Has hrr
    simp only [szCs, szC] at hzr
    simp only [fzCs, fzC, tvCs, tvC_v, tvC_nl, tvC_sl, bkCs, bkC, nbC, nbCs, Nat.add_zero, List.append_nil, List.nil_append, el_one, el_two, Nat.add_comm 1 (nbRs _)] at hg hs hb
    simp (maxSteps := 8000000) -implicitDefEqProofs (disch := omega) only [↓reduceIte, go_sem, eq_true hlt, hg, hm, hs, hn, hz1, el_two, to_Given_at]
    refine loopKT_next (i + 1) (by omega) (by omega) ?_
    rw [hb]; refine (le_keep (Nat.zero_le _) ?_) <;> simp (maxSteps := 8000000) -implicitDefEqProofs (disch := omega) only [↓reduceIte, go_sem, slotsIn]
  · have hb : rows.take i = rows := List.take_of_length_le (by omega)
    have hm := mixR_full 1 (rows := rows) z0 (i := i) (by omega)
    simp (maxSteps := 8000000) -implicitDefEqProofs (disch := omega) only [↓reduceIte, go_sem, eq_false hge, hb, hm]
    refine joinK_here ?_
    simp (maxSteps := 8000000) -implicitDefEqProofs (disch := omega) only [↓reduceIte, go_sem]
    exact endT_same (.inr rfl) (by (simp (maxSteps := 8000000) -implicitDefEqProofs (disch := omega) only [↓reduceIte, go_sem]) <;> rfl) rfl
-- laws.eqGivenS
def c77 : AF := ⟨27,
 (.seq (.reg [rO 4 (.mv (.v (.bool false)))])
 (.seq (.seq (.reg [rO 6 (.mv (.t 0)),
 rO 7 (.len (.t 6)),
 rO 8 (.mv (.t 1)),
 rO 9 (.len (.t 8)),
 rO 10 (.bin .neq (.t 7) (.t 9))])
 (.cond (.t 10) (.seq (.reg [rO 4 (.mv (.v (.bool false)))])
 .ret)
 .skip))
 (.seq (.seq (.reg [rO 5 (.mv (.v (.int .i64 0)))])
 (.block 0 (.loop (.seq (.seq (.reg [rO 11 (.mv (.t 5)),
 rO 12 (.mv (.t 0)),
 rO 13 (.len (.t 12)),
 rO 14 (.bin .lss (.t 11) (.t 13))])
 (.cond (.t 14) .skip
 (.exit 0)))
 (.seq (.block 1 (.seq (.drw [rO 17 (.mv (.t 0)),
 rO 18 (.mv (.t 5)),
 rO 19 (.ia 4 (.t 17) (.t 18)),
 rO 20 (.ldn 4 (.t 19)),
 rO 21 (.mv (.t 1)),
 rO 22 (.mv (.t 5)),
 rO 23 (.ia 4 (.t 21) (.t 22)),
 rO 24 (.ldn 4 (.t 23))] [rO 25 (.call 128 [(.t 20), (.t 24)]),
 rO 26 (.un .not (.t 25))])
 (.cond (.t 26) (.seq (.reg [rO 4 (.mv (.v (.bool false)))])
 .ret)
 .skip)))
 (.reg [rO 15 (.mv (.t 5)),
 rO 16 (.bin .add (.t 15) (.v (.int .i64 1))),
 rO 5 (.mv (.t 16))]))))))
 (.seq (.reg [rO 4 (.mv (.v (.bool true)))])
 .ret)))),
 [.t 4]⟩
theorem k77 : cFn Try.prog Try.f77 = some c77 := by kernel_rfl
theorem eqGivenS_ok : OkT Try.prog 77 (pureSp (eqC_S sh_GivenS)) := by
  refine okT_eqC (OkΓT.cons eqGiven_ok (OkΓT.nil _)) Try.func77 (by kernel_rfl) k77 ?_
  intro c hc hz
  obtain ⟨rows, hf, hr, hsz, _⟩ := FitC.rows hc
  rw [hf]
  (dsimp only [c77, rO]; simp (maxSteps := 8000000) -implicitDefEqProofs (disch := omega) only [↓reduceIte, go_sem])
  refine awpT_loop (α := Nat) (fun i => ⟨slots [(0, .s (fzRs rows)), (1, .s (fzRs rows)), (5, .p (.int .i64 i))], []⟩) (fun i => i ≤ rows.length) (fun i => rows.length - i) 0 (Nat.zero_le _) (le_of [] (by simp (maxSteps := 8000000) -implicitDefEqProofs (disch := omega) only [↓reduceIte, go_sem]) (by simp (maxSteps := 8000000) -implicitDefEqProofs (disch := omega) only [↓reduceIte, go_sem]) (by decide) (by simp)) ?_
  intro i hi
  simp (maxSteps := 8000000) -implicitDefEqProofs (disch := omega) only [↓reduceIte, go_sem]
  refine condKT_dec (fun hlt => ?_) (fun hge => ?_)
  · obtain ⟨r, hx⟩ := get_ex (l := rows) (i := i) (by omega)
    have hrr := hr r (List.mem_of_getElem? hx)
    have hzr := szRs_mem hx
    have hg := fzRs_get hx
    obtain ⟨a0, a1, a2, a3, rfl⟩ := sh_Given_Fit hrr
    simp only [szCs, szC] at hzr
    simp only [fzCs, fzC, el_one, el_two] at hg
    simp (maxSteps := 8000000) -implicitDefEqProofs (disch := omega) only [↓reduceIte, go_sem, eq_true hlt, hg, eq_Given_at]
    refine loopKT_next (i + 1) (by omega) (by omega) ?_
    exact (le_of [] (by simp (maxSteps := 8000000) -implicitDefEqProofs (disch := omega) only [↓reduceIte, go_sem]) (by simp (maxSteps := 8000000) -implicitDefEqProofs (disch := omega) only [↓reduceIte, go_sem]) (by decide) (by simp))
  · simp (maxSteps := 8000000) -implicitDefEqProofs (disch := omega) only [↓reduceIte, go_sem, eq_false hge]
    refine joinK_here ?_
    simp (maxSteps := 8000000) -implicitDefEqProofs (disch := omega) only [↓reduceIte, go_sem]
    repeat' first
      | ((first | refine gdKT_deq (fun hg hG => ?_) (fun hg hG => ?_) | refine condKT_deq (fun hg hG => ?_) (fun hg hG => ?_)) <;> (try simp (maxSteps := 8000000) -implicitDefEqProofs (disch := omega) only [↓reduceIte, go_sem, hG]) <;> clear hG)
      | ((first | refine gdKT_split (fun hg => ?_) (fun hg => ?_) | refine condKT_split (fun hg => ?_) (fun hg => ?_)) <;> (try simp (maxSteps := 8000000) -implicitDefEqProofs (disch := omega) only [↓reduceIte, go_sem, hg]))
      | (refine endT_p (.inr rfl) (by simp (maxSteps := 8000000) -implicitDefEqProofs (disch := omega) only [↓reduceIte, go_sem]; rfl) ?_; (first | exact vb_true (by omega) | exact vb_false (by omega) | exact vb_dec (by omega) | exact vi_eq (by omega) | rfl | (refine vi_eq ?_; simp_all; first | done | (intros; omega))))
      | exact endT_v (.inr rfl) (by simp (maxSteps := 8000000) -implicitDefEqProofs (disch := omega) only [↓reduceIte, go_sem]; try rfl) (fun _ => rfl)
-- laws.szGivenS
def c66 : AF := ⟨12,
 (.seq (.reg [rO 4 (.mv (.v (.int .i64 0)))])
 (.seq (.reg [rO 5 (.mv (.t 1)),
 rO 6 (.mv (.t 0)),
 rO 7 (.len (.t 6)),
 rO 8 (.bin .sub (.t 5) (.t 7)),
 rO 1 (.mv (.t 8))])
 (.seq (.seq (.reg [rO 9 (.mv (.t 1)),
 rO 10 (.bin .lss (.t 9) (.v (.int .i64 0)))])
 (.cond (.t 10) (.seq (.reg [rO 4 (.mv (.v (.int .i64 (-1))))])
 .ret)
 .skip))
 (.seq (.reg [rO 11 (.mv (.t 1)),
 rO 4 (.mv (.t 11))])
 .ret)))),
 [.t 4]⟩
theorem k66 : cFn Try.prog Try.f66 = some c66 := by kernel_rfl
theorem szGivenS_ok : OkT Try.prog 66 (pureSp (szC_S sh_GivenS)) := by
  refine okT_szC (OkΓT.nil _) Try.func66 (by kernel_rfl) k66 ?_
  intro c k hc h1 h2 hz
  simp only [sh_GivenS, HasC] at hc
  obtain ⟨rows, rfl, hr⟩ := hc
  generalize hN : szC _ = N at *
  simp only [szC] at hN
  simp only [lnC, Bool.and_eq_true, decide_eq_true_eq] at hz
  obtain ⟨hz, hzr⟩ := hz
  simp only [fzC]
  have hz0 : szRs rows = 0 := szRs_zero fun r hx => by
    have hrr := hr r hx
    obtain ⟨a0, a1, a2, a3, rfl⟩ := sh_Given_Has hrr
    rfl
  by_cases q : (rows.length : Int) ≤ k
  · rw [if_pos (by omega), show (N : Int) = rows.length by omega]
    (dsimp only [c66, rO]; simp (maxSteps := 8000000) -implicitDefEqProofs (disch := omega) only [↓reduceIte, go_sem])
    repeat' first
      | ((first | refine gdKT_deq (fun hg hG => ?_) (fun hg hG => ?_) | refine condKT_deq (fun hg hG => ?_) (fun hg hG => ?_)) <;> (try simp (maxSteps := 8000000) -implicitDefEqProofs (disch := omega) only [↓reduceIte, go_sem, hG]) <;> clear hG)
      | ((first | refine gdKT_split (fun hg => ?_) (fun hg => ?_) | refine condKT_split (fun hg => ?_) (fun hg => ?_)) <;> (try simp (maxSteps := 8000000) -implicitDefEqProofs (disch := omega) only [↓reduceIte, go_sem, hg]))
      | (refine endT_p (.inr rfl) (by simp (maxSteps := 8000000) -implicitDefEqProofs (disch := omega) only [↓reduceIte, go_sem]; rfl) ?_; (first | exact vb_true (by omega) | exact vb_false (by omega) | exact vb_dec (by omega) | exact vi_eq (by omega) | rfl | (refine vi_eq ?_; simp_all; first | done | (intros; omega))))
      | exact endT_v (.inr rfl) (by simp (maxSteps := 8000000) -implicitDefEqProofs (disch := omega) only [↓reduceIte, go_sem]; try rfl) (fun _ => rfl)
  · rw [if_neg (by omega)]
    (dsimp only [c66, rO]; simp (maxSteps := 8000000) -implicitDefEqProofs (disch := omega) only [↓reduceIte, go_sem])
    repeat' first
      | ((first | refine gdKT_deq (fun hg hG => ?_) (fun hg hG => ?_) | refine condKT_deq (fun hg hG => ?_) (fun hg hG => ?_)) <;> (try simp (maxSteps := 8000000) -implicitDefEqProofs (disch := omega) only [↓reduceIte, go_sem, hG]) <;> clear hG)
      | ((first | refine gdKT_split (fun hg => ?_) (fun hg => ?_) | refine condKT_split (fun hg => ?_) (fun hg => ?_)) <;> (try simp (maxSteps := 8000000) -implicitDefEqProofs (disch := omega) only [↓reduceIte, go_sem, hg]))
      | (refine endT_p (.inr rfl) (by simp (maxSteps := 8000000) -implicitDefEqProofs (disch := omega) only [↓reduceIte, go_sem]; rfl) ?_; (first | exact vb_true (by omega) | exact vb_false (by omega) | exact vb_dec (by omega) | exact vi_eq (by omega) | rfl | (refine vi_eq ?_; simp_all; first | done | (intros; omega))))
      | exact endT_v (.inr rfl) (by simp (maxSteps := 8000000) -implicitDefEqProofs (disch := omega) only [↓reduceIte, go_sem]; try rfl) (fun _ => rfl)
def sh_Int64S : Shp := .sl 2 [.i .i64]
-- laws.toInt64S
def c71 : AF := ⟨22,
 (.seq (.reg [rO 2 (.mv (.v (.slice none 0 0)))])
 (.seq (.reg [rO 5 (.mv (.t 0)),
 rO 6 (.len (.t 5)),
 rO 7 (.mkSl 2 1 8 [(.int .i64 0)] (.t 6) (.t 6)),
 rO 3 (.mv (.t 7))])
 (.seq (.seq (.reg [rO 4 (.mv (.v (.int .i64 0)))])
 (.block 0 (.loop (.seq (.seq (.reg [rO 8 (.mv (.t 4)),
 rO 9 (.mv (.t 0)),
 rO 10 (.len (.t 9)),
 rO 11 (.bin .lss (.t 8) (.t 10))])
 (.cond (.t 11) .skip
 (.exit 0)))
 (.seq (.block 1 (.reg [rO 14 (.mv (.t 3)),
 rO 15 (.mv (.t 4)),
 rO 16 (.mv (.t 0)),
 rO 17 (.mv (.t 4)),
 rO 18 (.ia 1 (.t 16) (.t 17)),
 rO 19 (.ld (.t 18)),
 rO 20 (.ia 1 (.t 14) (.t 15)),
 ⟨none, none, .st 1 (.t 20) (.t 19)⟩]))
 (.reg [rO 12 (.mv (.t 4)),
 rO 13 (.bin .add (.t 12) (.v (.int .i64 1))),
 rO 4 (.mv (.t 13))]))))))
 (.seq (.reg [rO 21 (.mv (.t 3)),
 rO 2 (.mv (.t 21))])
 .ret)))),
 [.t 2]⟩
theorem k71 : cFn Try.prog Try.f71 = some c71 := by kernel_rfl
theorem toInt64S_ok : OkT Try.prog 71 (pureSp (toC_S sh_Int64S)) := by
  refine okT_toC (OkΓT.nil _) Try.func71 (by kernel_rfl) k71 ?_
  intro c hc hz
  simp only [sh_Int64S, HasC] at hc
  obtain ⟨rows, rfl, hr⟩ := hc
  simp only [szC] at hz
  have hlen : ∀ r ∈ rows, r.length = 1 := fun r hx => (hr r hx).len
  generalize hzz : (el [.p (.int .i64 0)] : TV) = z0
  have hz1 : cellsT z0 = [.p (.int .i64 0)] := by rw [← hzz]; rfl
  simp only [fzC, tvC_v, tvC_nl, tvC_sl, bkC]
  (dsimp only [c71, rO]; simp (maxSteps := 8000000) -implicitDefEqProofs (disch := omega) only [↓reduceIte, go_sem, hzz, mixR_zero 1 rows z0])
  refine awpT_loop (α := Nat) (fun i => ⟨slots [(0, .s (fzRs rows)), (3, .os 0 0 rows.length), (4, .p (.int .i64 i))], .cells 2 1 (mixR 1 rows z0 i) :: bkRs 1 (rows.take i)⟩)
    (fun i => i ≤ rows.length) (fun i => rows.length - i) 0 (Nat.zero_le _) (by simp only [List.take_zero, bkRs]; exact le_keep (Nat.zero_le _) (by simp (maxSteps := 8000000) -implicitDefEqProofs (disch := omega) only [↓reduceIte, go_sem, slotsIn])) ?_
  intro i hi
  simp (maxSteps := 8000000) -implicitDefEqProofs (disch := omega) only [↓reduceIte, go_sem, mixR_len 1 rows z0 hi]
  refine condKT_dec (fun hlt => ?_) (fun hge => ?_)
  · obtain ⟨r, hx⟩ := get_ex (l := rows) (i := i) (by omega)
    have hrr := hr r (List.mem_of_getElem? hx)
    have hzr := szRs_mem hx
    have hg := fzRs_get hx; have hm := mixR_get 1 (rows := rows) z0 (i := i) (by omega)
    have hs := mixR_set 1 z0 hx; have hb := bkRs_snoc 1 hx; have hn := bkRs_len 1 (rows.take i)
    obtain ⟨_, _, rfl, ⟨a0, rfl, _⟩, hrr⟩ := hrr; simp only [HasR] at hrr; subst hrr
    simp only [fzCs, fzC, tvCs, tvC_v, tvC_nl, tvC_sl, bkCs, bkC, nbC, nbCs, Nat.add_zero, List.append_nil, List.nil_append, el_one, el_two, Nat.add_comm 1 (nbRs _)] at hg hs hb
    simp (maxSteps := 8000000) -implicitDefEqProofs (disch := omega) only [↓reduceIte, go_sem, eq_true hlt, hg, hm, hs, hn, hz1, el_two]
    refine loopKT_next (i + 1) (by omega) (by omega) ?_
    rw [hb]; refine (le_keep (Nat.zero_le _) ?_) <;> simp (maxSteps := 8000000) -implicitDefEqProofs (disch := omega) only [↓reduceIte, go_sem, slotsIn]
  · have hb : rows.take i = rows := List.take_of_length_le (by omega)
    have hm := mixR_full 1 (rows := rows) z0 (i := i) (by omega)
    simp (maxSteps := 8000000) -implicitDefEqProofs (disch := omega) only [↓reduceIte, go_sem, eq_false hge, hb, hm]
    refine joinK_here ?_
    simp (maxSteps := 8000000) -implicitDefEqProofs (disch := omega) only [↓reduceIte, go_sem]
    exact endT_same (.inr rfl) (by (simp (maxSteps := 8000000) -implicitDefEqProofs (disch := omega) only [↓reduceIte, go_sem]) <;> rfl) rfl
-- laws.eqInt64S
def c76 : AF := ⟨26,
 (.seq (.reg [rO 4 (.mv (.v (.bool false)))])
 (.seq (.seq (.reg [rO 6 (.mv (.t 0)),
 rO 7 (.len (.t 6)),
 rO 8 (.mv (.t 1)),
 rO 9 (.len (.t 8)),
 rO 10 (.bin .neq (.t 7) (.t 9))])
 (.cond (.t 10) (.seq (.reg [rO 4 (.mv (.v (.bool false)))])
 .ret)
 .skip))
 (.seq (.seq (.reg [rO 5 (.mv (.v (.int .i64 0)))])
 (.block 0 (.loop (.seq (.seq (.reg [rO 11 (.mv (.t 5)),
 rO 12 (.mv (.t 0)),
 rO 13 (.len (.t 12)),
 rO 14 (.bin .lss (.t 11) (.t 13))])
 (.cond (.t 14) .skip
 (.exit 0)))
 (.seq (.block 1 (.seq (.drw [rO 17 (.mv (.t 0)),
 rO 18 (.mv (.t 5)),
 rO 19 (.ia 1 (.t 17) (.t 18)),
 rO 20 (.ld (.t 19)),
 rO 21 (.mv (.t 1)),
 rO 22 (.mv (.t 5)),
 rO 23 (.ia 1 (.t 21) (.t 22)),
 rO 24 (.ld (.t 23))] [rO 25 (.bin .neq (.t 20) (.t 24))])
 (.cond (.t 25) (.seq (.reg [rO 4 (.mv (.v (.bool false)))])
 .ret)
 .skip)))
 (.reg [rO 15 (.mv (.t 5)),
 rO 16 (.bin .add (.t 15) (.v (.int .i64 1))),
 rO 5 (.mv (.t 16))]))))))
 (.seq (.reg [rO 4 (.mv (.v (.bool true)))])
 .ret)))),
 [.t 4]⟩
theorem k76 : cFn Try.prog Try.f76 = some c76 := by kernel_rfl
theorem eqInt64S_ok : OkT Try.prog 76 (pureSp (eqC_S sh_Int64S)) := by
  refine okT_eqC (OkΓT.nil _) Try.func76 (by kernel_rfl) k76 ?_
  intro c hc hz
  obtain ⟨rows, hf, hr, hsz, _⟩ := FitC.rows hc
  rw [hf]
  (dsimp only [c76, rO]; simp (maxSteps := 8000000) -implicitDefEqProofs (disch := omega) only [↓reduceIte, go_sem])
  refine awpT_loop (α := Nat) (fun i => ⟨slots [(0, .s (fzRs rows)), (1, .s (fzRs rows)), (5, .p (.int .i64 i))], []⟩) (fun i => i ≤ rows.length) (fun i => rows.length - i) 0 (Nat.zero_le _) (le_of [] (by simp (maxSteps := 8000000) -implicitDefEqProofs (disch := omega) only [↓reduceIte, go_sem]) (by simp (maxSteps := 8000000) -implicitDefEqProofs (disch := omega) only [↓reduceIte, go_sem]) (by decide) (by simp)) ?_
  intro i hi
  simp (maxSteps := 8000000) -implicitDefEqProofs (disch := omega) only [↓reduceIte, go_sem]
  refine condKT_dec (fun hlt => ?_) (fun hge => ?_)
  · obtain ⟨r, hx⟩ := get_ex (l := rows) (i := i) (by omega)
    have hrr := hr r (List.mem_of_getElem? hx)
    have hzr := szRs_mem hx
    have hg := fzRs_get hx
    obtain ⟨_, _, rfl, ⟨a0, rfl⟩, hrr⟩ := hrr; simp only [FitR] at hrr; subst hrr
    simp only [szCs, szC] at hzr
    simp only [fzCs, fzC, el_one, el_two] at hg
    simp (maxSteps := 8000000) -implicitDefEqProofs (disch := omega) only [↓reduceIte, go_sem, eq_true hlt, hg, not_true, decide_false]
    refine loopKT_next (i + 1) (by omega) (by omega) ?_
    exact (le_of [] (by simp (maxSteps := 8000000) -implicitDefEqProofs (disch := omega) only [↓reduceIte, go_sem]) (by simp (maxSteps := 8000000) -implicitDefEqProofs (disch := omega) only [↓reduceIte, go_sem]) (by decide) (by simp))
  · simp (maxSteps := 8000000) -implicitDefEqProofs (disch := omega) only [↓reduceIte, go_sem, eq_false hge]
    refine joinK_here ?_
    simp (maxSteps := 8000000) -implicitDefEqProofs (disch := omega) only [↓reduceIte, go_sem]
    repeat' first
      | ((first | refine gdKT_deq (fun hg hG => ?_) (fun hg hG => ?_) | refine condKT_deq (fun hg hG => ?_) (fun hg hG => ?_)) <;> (try simp (maxSteps := 8000000) -implicitDefEqProofs (disch := omega) only [↓reduceIte, go_sem, hG]) <;> clear hG)
      | ((first | refine gdKT_split (fun hg => ?_) (fun hg => ?_) | refine condKT_split (fun hg => ?_) (fun hg => ?_)) <;> (try simp (maxSteps := 8000000) -implicitDefEqProofs (disch := omega) only [↓reduceIte, go_sem, hg]))
      | (refine endT_p (.inr rfl) (by simp (maxSteps := 8000000) -implicitDefEqProofs (disch := omega) only [↓reduceIte, go_sem]; rfl) ?_; (first | exact vb_true (by omega) | exact vb_false (by omega) | exact vb_dec (by omega) | exact vi_eq (by omega) | rfl | (refine vi_eq ?_; simp_all; first | done | (intros; omega))))
      | exact endT_v (.inr rfl) (by simp (maxSteps := 8000000) -implicitDefEqProofs (disch := omega) only [↓reduceIte, go_sem]; try rfl) (fun _ => rfl)
-- laws.szInt64S
def c65 : AF := ⟨12,
 (.seq (.reg [rO 4 (.mv (.v (.int .i64 0)))])
 (.seq (.reg [rO 5 (.mv (.t 1)),
 rO 6 (.mv (.t 0)),
 rO 7 (.len (.t 6)),
 rO 8 (.bin .sub (.t 5) (.t 7)),
 rO 1 (.mv (.t 8))])
 (.seq (.seq (.reg [rO 9 (.mv (.t 1)),
 rO 10 (.bin .lss (.t 9) (.v (.int .i64 0)))])
 (.cond (.t 10) (.seq (.reg [rO 4 (.mv (.v (.int .i64 (-1))))])
 .ret)
 .skip))
 (.seq (.reg [rO 11 (.mv (.t 1)),
 rO 4 (.mv (.t 11))])
 .ret)))),
 [.t 4]⟩
theorem k65 : cFn Try.prog Try.f65 = some c65 := by kernel_rfl
theorem szInt64S_ok : OkT Try.prog 65 (pureSp (szC_S sh_Int64S)) := by
  refine okT_szC (OkΓT.nil _) Try.func65 (by kernel_rfl) k65 ?_
  intro c k hc h1 h2 hz
  simp only [sh_Int64S, HasC] at hc
  obtain ⟨rows, rfl, hr⟩ := hc
  generalize hN : szC _ = N at *
  simp only [szC] at hN
  simp only [lnC, Bool.and_eq_true, decide_eq_true_eq] at hz
  obtain ⟨hz, hzr⟩ := hz
  simp only [fzC]
  have hz0 : szRs rows = 0 := szRs_zero fun r hx => by
    have hrr := hr r hx
    obtain ⟨_, _, rfl, ⟨a0, rfl, _⟩, hrr⟩ := hrr; simp only [HasR] at hrr; subst hrr
    rfl
  by_cases q : (rows.length : Int) ≤ k
  · rw [if_pos (by omega), show (N : Int) = rows.length by omega]
    (dsimp only [c65, rO]; simp (maxSteps := 8000000) -implicitDefEqProofs (disch := omega) only [↓reduceIte, go_sem])
    repeat' first
      | ((first | refine gdKT_deq (fun hg hG => ?_) (fun hg hG => ?_) | refine condKT_deq (fun hg hG => ?_) (fun hg hG => ?_)) <;> (try simp (maxSteps := 8000000) -implicitDefEqProofs (disch := omega) only [↓reduceIte, go_sem, hG]) <;> clear hG)
      | ((first | refine gdKT_split (fun hg => ?_) (fun hg => ?_) | refine condKT_split (fun hg => ?_) (fun hg => ?_)) <;> (try simp (maxSteps := 8000000) -implicitDefEqProofs (disch := omega) only [↓reduceIte, go_sem, hg]))
      | (refine endT_p (.inr rfl) (by simp (maxSteps := 8000000) -implicitDefEqProofs (disch := omega) only [↓reduceIte, go_sem]; rfl) ?_; (first | exact vb_true (by omega) | exact vb_false (by omega) | exact vb_dec (by omega) | exact vi_eq (by omega) | rfl | (refine vi_eq ?_; simp_all; first | done | (intros; omega))))
      | exact endT_v (.inr rfl) (by simp (maxSteps := 8000000) -implicitDefEqProofs (disch := omega) only [↓reduceIte, go_sem]; try rfl) (fun _ => rfl)
  · rw [if_neg (by omega)]
    (dsimp only [c65, rO]; simp (maxSteps := 8000000) -implicitDefEqProofs (disch := omega) only [↓reduceIte, go_sem])
    repeat' first
      | ((first | refine gdKT_deq (fun hg hG => ?_) (fun hg hG => ?_) | refine condKT_deq (fun hg hG => ?_) (fun hg hG => ?_)) <;> (try simp (maxSteps := 8000000) -implicitDefEqProofs (disch := omega) only [↓reduceIte, go_sem, hG]) <;> clear hG)
      | ((first | refine gdKT_split (fun hg => ?_) (fun hg => ?_) | refine condKT_split (fun hg => ?_) (fun hg => ?_)) <;> (try simp (maxSteps := 8000000) -implicitDefEqProofs (disch := omega) only [↓reduceIte, go_sem, hg]))
      | (refine endT_p (.inr rfl) (by simp (maxSteps := 8000000) -implicitDefEqProofs (disch := omega) only [↓reduceIte, go_sem]; rfl) ?_; (first | exact vb_true (by omega) | exact vb_false (by omega) | exact vb_dec (by omega) | exact vi_eq (by omega) | rfl | (refine vi_eq ?_; simp_all; first | done | (intros; omega))))
      | exact endT_v (.inr rfl) (by simp (maxSteps := 8000000) -implicitDefEqProofs (disch := omega) only [↓reduceIte, go_sem]; try rfl) (fun _ => rfl)
/-! Match -/
def sh_Match : List Shp := [.i .i64, .i .i64, .i .i64]
theorem sh_Match_Fit {cs : List Cell} (h : FitR sh_Match cs) : ∃ (a0 : Int) (a1 : Int) (a2 : Int), cs = [.v (.int .i64 a0), .v (.int .i64 a1), .v (.int .i64 a2)] := by
  obtain ⟨_, _, rfl, ⟨a0, rfl⟩, _, _, rfl, ⟨a1, rfl⟩, _, _, rfl, ⟨a2, rfl⟩, h⟩ := h
  simp only [FitR] at h; subst h
  exact ⟨a0, a1, a2, rfl⟩
theorem sh_Match_mkFit  (a0 : Int) (a1 : Int) (a2 : Int) : FitR sh_Match [.v (.int .i64 a0), .v (.int .i64 a1), .v (.int .i64 a2)] := by
  exact ⟨_, _, rfl, ⟨_, rfl⟩, _, _, rfl, ⟨_, rfl⟩, _, _, rfl, ⟨_, rfl⟩, rfl⟩
-- laws.eqMatch
def c28 : AF := ⟨20,
 (.seq (.reg [rO 2 (.box 62 (.t 0)),
 rO 3 (.box 62 (.t 1)),
 rO 4 (.mv (.v (.bool false)))])
 (.seq (.seq (.reg [rO 5 (.fa (.t 2) 0),
 rO 6 (.ld (.t 5)),
 rO 7 (.fa (.t 3) 0),
 rO 8 (.ld (.t 7)),
 rO 9 (.bin .neq (.t 6) (.t 8))])
 (.cond (.t 9) (.seq (.reg [rO 4 (.mv (.v (.bool false)))])
 .ret)
 .skip))
 (.seq (.seq (.reg [rO 10 (.fa (.t 2) 1),
 rO 11 (.ld (.t 10)),
 rO 12 (.fa (.t 3) 1),
 rO 13 (.ld (.t 12)),
 rO 14 (.bin .neq (.t 11) (.t 13))])
 (.cond (.t 14) (.seq (.reg [rO 4 (.mv (.v (.bool false)))])
 .ret)
 .skip))
 (.seq (.seq (.reg [rO 15 (.fa (.t 2) 2),
 rO 16 (.ld (.t 15)),
 rO 17 (.fa (.t 3) 2),
 rO 18 (.ld (.t 17)),
 rO 19 (.bin .neq (.t 16) (.t 18))])
 (.cond (.t 19) (.seq (.reg [rO 4 (.mv (.v (.bool false)))])
 .ret)
 .skip))
 (.seq (.reg [rO 4 (.mv (.v (.bool true)))])
 .ret))))),
 [.t 4]⟩
theorem k28 : cFn Try.prog Try.f28 = some c28 := by kernel_rfl
theorem eqMatch_ok : OkT Try.prog 28 (pureSp (eqR_S sh_Match)) := by
  refine okT_eqR (OkΓT.nil _) Try.func28 (by kernel_rfl) k28 ?_
  intro c hc hz
  obtain ⟨a0, a1, a2, rfl⟩ := sh_Match_Fit hc
  simp only [szCs, szC] at hz
  simp only [fzCs, fzC]
  (dsimp only [c28, rO]; simp (maxSteps := 8000000) -implicitDefEqProofs (disch := omega) only [↓reduceIte, go_sem])
  repeat' first
    | ((first | refine gdKT_deq (fun hg hG => ?_) (fun hg hG => ?_) | refine condKT_deq (fun hg hG => ?_) (fun hg hG => ?_)) <;> (try simp (maxSteps := 8000000) -implicitDefEqProofs (disch := omega) only [↓reduceIte, go_sem, hG]) <;> clear hG)
    | ((first | refine gdKT_split (fun hg => ?_) (fun hg => ?_) | refine condKT_split (fun hg => ?_) (fun hg => ?_)) <;> (try simp (maxSteps := 8000000) -implicitDefEqProofs (disch := omega) only [↓reduceIte, go_sem, hg]))
    | (refine endT_p (.inr rfl) (by simp (maxSteps := 8000000) -implicitDefEqProofs (disch := omega) only [↓reduceIte, go_sem]; rfl) ?_; (first | exact vb_true (by omega) | exact vb_false (by omega) | exact vb_dec (by omega) | exact vi_eq (by omega) | rfl | (refine vi_eq ?_; simp_all; first | done | (intros; omega))))
    | exact endT_v (.inr rfl) (by simp (maxSteps := 8000000) -implicitDefEqProofs (disch := omega) only [↓reduceIte, go_sem]; try rfl) (fun _ => rfl)
/-! Term -/
def sh_Term : List Shp := [.i .i64, .i .i64, .i .i64, .i .i64]
theorem sh_Term_Has {cs : List Cell} (h : HasR sh_Term cs) : ∃ (a0 : Int) (a1 : Int) (a2 : Int) (a3 : Int), cs = [.v (.int .i64 a0), .v (.int .i64 a1), .v (.int .i64 a2), .v (.int .i64 a3)] := by
  obtain ⟨_, _, rfl, ⟨a0, rfl, _⟩, _, _, rfl, ⟨a1, rfl, _⟩, _, _, rfl, ⟨a2, rfl, _⟩, _, _, rfl, ⟨a3, rfl, _⟩, h⟩ := h
  simp only [HasR] at h; subst h
  exact ⟨a0, a1, a2, a3, rfl⟩
theorem sh_Term_mkHas  (a0 : Int) (a1 : Int) (a2 : Int) (a3 : Int) : HasR sh_Term [.v (.int .i64 a0), .v (.int .i64 a1), .v (.int .i64 a2), .v (.int .i64 a3)] := by
  exact ⟨_, _, rfl, ⟨_, rfl, fun h => by cases h⟩, _, _, rfl, ⟨_, rfl, fun h => by cases h⟩, _, _, rfl, ⟨_, rfl, fun h => by cases h⟩, _, _, rfl, ⟨_, rfl, fun h => by cases h⟩, rfl⟩
theorem sh_Term_Fit {cs : List Cell} (h : FitR sh_Term cs) : ∃ (a0 : Int) (a1 : Int) (a2 : Int) (a3 : Int), cs = [.v (.int .i64 a0), .v (.int .i64 a1), .v (.int .i64 a2), .v (.int .i64 a3)] := by
  obtain ⟨_, _, rfl, ⟨a0, rfl⟩, _, _, rfl, ⟨a1, rfl⟩, _, _, rfl, ⟨a2, rfl⟩, _, _, rfl, ⟨a3, rfl⟩, h⟩ := h
  simp only [FitR] at h; subst h
  exact ⟨a0, a1, a2, a3, rfl⟩
theorem sh_Term_mkFit  (a0 : Int) (a1 : Int) (a2 : Int) (a3 : Int) : FitR sh_Term [.v (.int .i64 a0), .v (.int .i64 a1), .v (.int .i64 a2), .v (.int .i64 a3)] := by
  exact ⟨_, _, rfl, ⟨_, rfl⟩, _, _, rfl, ⟨_, rfl⟩, _, _, rfl, ⟨_, rfl⟩, _, _, rfl, ⟨_, rfl⟩, rfl⟩
theorem to_Term_at  (a0 : Int) (a1 : Int) (a2 : Int) (a3 : Int) : toR_S sh_Term [.agg [.p (.int .i64 a0), .p (.int .i64 a1), .p (.int .i64 a2), .p (.int .i64 a3)]] = some (.agg [.p (.int .i64 a0), .p (.int .i64 a1), .p (.int .i64 a2), .p (.int .i64 a3)], []) := by
  have := toR_at (sh_Term_mkHas  a0 a1 a2 a3) (by simp only [szCs, szC]; omega)
  simpa only [fzCs, fzC, tvCs, tvC_v, tvC_nl, tvC_sl, bkCs, bkC, nbC, nbCs, Nat.add_zero, List.append_nil, List.nil_append, Nat.zero_add] using this
-- laws.toTerm
def c57 : AF := ⟨17,
 (.seq (.reg [rO 1 (.box 96 (.t 0)),
 rO 2 (.alloc 94 [(.int .i64 0), (.int .i64 0), (.int .i64 0), (.int .i64 0)])])
 (.seq (.reg [rO 3 (.alloc 94 [(.int .i64 0), (.int .i64 0), (.int .i64 0), (.int .i64 0)])])
 (.seq (.reg [rO 4 (.fa (.t 1) 0),
 rO 5 (.ld (.t 4)),
 rO 6 (.fa (.t 3) 0),
 ⟨none, none, .st 1 (.t 6) (.t 5)⟩])
 (.seq (.reg [rO 7 (.fa (.t 1) 1),
 rO 8 (.ld (.t 7)),
 rO 9 (.fa (.t 3) 1),
 ⟨none, none, .st 1 (.t 9) (.t 8)⟩])
 (.seq (.reg [rO 10 (.fa (.t 1) 2),
 rO 11 (.ld (.t 10)),
 rO 12 (.fa (.t 3) 2),
 ⟨none, none, .st 1 (.t 12) (.t 11)⟩])
 (.seq (.reg [rO 13 (.fa (.t 1) 3),
 rO 14 (.ld (.t 13)),
 rO 15 (.fa (.t 3) 3),
 ⟨none, none, .st 1 (.t 15) (.t 14)⟩])
 (.seq (.reg [rO 16 (.ldn 4 (.t 3)),
 ⟨none, none, .st 4 (.t 2) (.t 16)⟩])
 .ret))))))),
 [.cell 2 (some 4)]⟩
theorem k57 : cFn Try.prog Try.f57 = some c57 := by kernel_rfl
theorem toTerm_ok : OkT Try.prog 57 (pureSp (toR_S sh_Term)) := by
  refine okT_toR (OkΓT.nil _) Try.func57 (by kernel_rfl) k57 ?_
  intro c hc hz
  obtain ⟨a0, a1, a2, a3, rfl⟩ := sh_Term_Has hc
  simp only [szCs, szC] at hz
  simp only [fzCs, fzC]
  (dsimp only [c57, rO]; simp (maxSteps := 8000000) -implicitDefEqProofs (disch := omega) only [↓reduceIte, go_sem])
  refine endT_cells' 3 (.inr rfl) (by (simp (maxSteps := 8000000) -implicitDefEqProofs (disch := omega) only [↓reduceIte, go_sem, fzCs, fzC, tvCs, tvC_v, tvC_nl, tvC_sl, bkCs, bkC, nbC, nbCs, Nat.add_zero, List.append_nil, List.nil_append]) <;> rfl) ?_ (by simp only [List.length_cons]; omega)
  simp only [List.drop_succ_cons, List.drop_zero, bkCs, bkC, nbC, Nat.add_zero, List.append_nil, List.nil_append, List.cons_append, Nat.add_assoc]
theorem eq_Term_at  (a0 : Int) (a1 : Int) (a2 : Int) (a3 : Int) : eqR_S sh_Term [.agg [.p (.int .i64 a0), .p (.int .i64 a1), .p (.int .i64 a2), .p (.int .i64 a3)], .agg [.p (.int .i64 a0), .p (.int .i64 a1), .p (.int .i64 a2), .p (.int .i64 a3)]] = some (.p (.bool true), []) := by
  exact eqR_at (sh_Term_mkFit  a0 a1 a2 a3) (by simp only [szCs, szC]; omega)
-- laws.eqTerm
def c59 : AF := ⟨25,
 (.seq (.reg [rO 2 (.box 94 (.t 0)),
 rO 3 (.box 94 (.t 1)),
 rO 4 (.mv (.v (.bool false)))])
 (.seq (.seq (.reg [rO 5 (.fa (.t 2) 0),
 rO 6 (.ld (.t 5)),
 rO 7 (.fa (.t 3) 0),
 rO 8 (.ld (.t 7)),
 rO 9 (.bin .neq (.t 6) (.t 8))])
 (.cond (.t 9) (.seq (.reg [rO 4 (.mv (.v (.bool false)))])
 .ret)
 .skip))
 (.seq (.seq (.reg [rO 10 (.fa (.t 2) 1),
 rO 11 (.ld (.t 10)),
 rO 12 (.fa (.t 3) 1),
 rO 13 (.ld (.t 12)),
 rO 14 (.bin .neq (.t 11) (.t 13))])
 (.cond (.t 14) (.seq (.reg [rO 4 (.mv (.v (.bool false)))])
 .ret)
 .skip))
 (.seq (.seq (.reg [rO 15 (.fa (.t 2) 2),
 rO 16 (.ld (.t 15)),
 rO 17 (.fa (.t 3) 2),
 rO 18 (.ld (.t 17)),
 rO 19 (.bin .neq (.t 16) (.t 18))])
 (.cond (.t 19) (.seq (.reg [rO 4 (.mv (.v (.bool false)))])
 .ret)
 .skip))
 (.seq (.seq (.reg [rO 20 (.fa (.t 2) 3),
 rO 21 (.ld (.t 20)),
 rO 22 (.fa (.t 3) 3),
 rO 23 (.ld (.t 22)),
 rO 24 (.bin .neq (.t 21) (.t 23))])
 (.cond (.t 24) (.seq (.reg [rO 4 (.mv (.v (.bool false)))])
 .ret)
 .skip))
 (.seq (.reg [rO 4 (.mv (.v (.bool true)))])
 .ret)))))),
 [.t 4]⟩
theorem k59 : cFn Try.prog Try.f59 = some c59 := by kernel_rfl
theorem eqTerm_ok : OkT Try.prog 59 (pureSp (eqR_S sh_Term)) := by
  refine okT_eqR (OkΓT.nil _) Try.func59 (by kernel_rfl) k59 ?_
  intro c hc hz
  obtain ⟨a0, a1, a2, a3, rfl⟩ := sh_Term_Fit hc
  simp only [szCs, szC] at hz
  simp only [fzCs, fzC]
  (dsimp only [c59, rO]; simp (maxSteps := 8000000) -implicitDefEqProofs (disch := omega) only [↓reduceIte, go_sem])
  repeat' first
    | ((first | refine gdKT_deq (fun hg hG => ?_) (fun hg hG => ?_) | refine condKT_deq (fun hg hG => ?_) (fun hg hG => ?_)) <;> (try simp (maxSteps := 8000000) -implicitDefEqProofs (disch := omega) only [↓reduceIte, go_sem, hG]) <;> clear hG)
    | ((first | refine gdKT_split (fun hg => ?_) (fun hg => ?_) | refine condKT_split (fun hg => ?_) (fun hg => ?_)) <;> (try simp (maxSteps := 8000000) -implicitDefEqProofs (disch := omega) only [↓reduceIte, go_sem, hg]))
    | (refine endT_p (.inr rfl) (by simp (maxSteps := 8000000) -implicitDefEqProofs (disch := omega) only [↓reduceIte, go_sem]; rfl) ?_; (first | exact vb_true (by omega) | exact vb_false (by omega) | exact vb_dec (by omega) | exact vi_eq (by omega) | rfl | (refine vi_eq ?_; simp_all; first | done | (intros; omega))))
    | exact endT_v (.inr rfl) (by simp (maxSteps := 8000000) -implicitDefEqProofs (disch := omega) only [↓reduceIte, go_sem]; try rfl) (fun _ => rfl)
def sh_TermS : Shp := .sl 94 sh_Term
-- laws.toTermS
def c15 : AF := ⟨23,
 (.seq (.reg [rO 2 (.mv (.v (.slice none 0 0)))])
 (.seq (.reg [rO 5 (.mv (.t 0)),
 rO 6 (.len (.t 5)),
 rO 7 (.mkSl 94 4 32 [(.int .i64 0), (.int .i64 0), (.int .i64 0), (.int .i64 0)] (.t 6) (.t 6)),
 rO 3 (.mv (.t 7))])
 (.seq (.seq (.reg [rO 4 (.mv (.v (.int .i64 0)))])
 (.block 0 (.loop (.seq (.seq (.reg [rO 8 (.mv (.t 4)),
 rO 9 (.mv (.t 0)),
 rO 10 (.len (.t 9)),
 rO 11 (.bin .lss (.t 8) (.t 10))])
 (.cond (.t 11) .skip
 (.exit 0)))
 (.seq (.block 1 (.reg [rO 14 (.mv (.t 3)),
 rO 15 (.mv (.t 4)),
 rO 16 (.mv (.t 0)),
 rO 17 (.mv (.t 4)),
 rO 18 (.ia 4 (.t 16) (.t 17)),
 rO 19 (.ldn 4 (.t 18)),
 rO 20 (.call 57 [(.t 19)]),
 rO 21 (.ia 4 (.t 14) (.t 15)),
 ⟨none, none, .st 4 (.t 21) (.t 20)⟩]))
 (.reg [rO 12 (.mv (.t 4)),
 rO 13 (.bin .add (.t 12) (.v (.int .i64 1))),
 rO 4 (.mv (.t 13))]))))))
 (.seq (.reg [rO 22 (.mv (.t 3)),
 rO 2 (.mv (.t 22))])
 .ret)))),
 [.t 2]⟩
theorem k15 : cFn Try.prog Try.f15 = some c15 := by kernel_rfl
theorem toTermS_ok : OkT Try.prog 15 (pureSp (toC_S sh_TermS)) := by
  refine okT_toC (OkΓT.cons toTerm_ok (OkΓT.nil _)) Try.func15 (by kernel_rfl) k15 ?_
  intro c hc hz
  simp only [sh_TermS, HasC] at hc
  obtain ⟨rows, rfl, hr⟩ := hc
  simp only [szC] at hz
  have hlen : ∀ r ∈ rows, r.length = 4 := fun r hx => (hr r hx).len
  generalize hzz : (el [.p (.int .i64 0), .p (.int .i64 0), .p (.int .i64 0), .p (.int .i64 0)] : TV) = z0
  have hz1 : cellsT z0 = [.p (.int .i64 0), .p (.int .i64 0), .p (.int .i64 0), .p (.int .i64 0)] := by rw [← hzz]; rfl
  simp only [fzC, tvC_v, tvC_nl, tvC_sl, bkC]
  (dsimp only [c15, rO]; simp (maxSteps := 8000000) -implicitDefEqProofs (disch := omega) only [↓reduceIte, go_sem, hzz, mixR_zero 1 rows z0])
  refine awpT_loop (α := Nat) (fun i => ⟨slots [(0, .s (fzRs rows)), (3, .os 0 0 rows.length), (4, .p (.int .i64 i))], .cells 94 4 (mixR 1 rows z0 i) :: bkRs 1 (rows.take i)⟩)
    (fun i => i ≤ rows.length) (fun i => rows.length - i) 0 (Nat.zero_le _) (by simp only [List.take_zero, bkRs]; exact le_keep (Nat.zero_le _) (by simp (maxSteps := 8000000) -implicitDefEqProofs (disch := omega) only [↓reduceIte, go_sem, slotsIn])) ?_
  intro i hi
  simp (maxSteps := 8000000) -implicitDefEqProofs (disch := omega) only [↓reduceIte, go_sem, mixR_len 1 rows z0 hi]
  refine condKT_dec (fun hlt => ?_) (fun hge => ?_)
  · obtain ⟨r, hx⟩ := get_ex (l := rows) (i := i) (by omega)
    have hrr := hr r (List.mem_of_getElem? hx)
    have hzr := szRs_mem hx
    have hg := fzRs_get hx; have hm := mixR_get 1 (rows := rows) z0 (i := i) (by omega)
    have hs := mixR_set 1 z0 hx; have hb := bkRs_snoc 1 hx; have hn := bkRs_len 1 (rows.take i)
    obtain ⟨a0, a1, a2, a3, rfl⟩ := sh_Term_Has hrr
    simp only [szCs, szC] at hzr
    simp only [fzCs, fzC, tvCs, tvC_v, tvC_nl, tvC_sl, bkCs, bkC, nbC, nbCs, Nat.add_zero, List.append_nil, List.nil_append, el_one, el_two, Nat.add_comm 1 (nbRs _)] at hg hs hb
    simp (maxSteps := 8000000) -implicitDefEqProofs (disch := omega) only [↓reduceIte, go_sem, eq_true hlt, hg, hm, hs, hn, hz1, el_two, to_Term_at]
    refine loopKT_next (i + 1) (by omega) (by omega) ?_
    rw [hb]; refine (le_keep (Nat.zero_le _) ?_) <;> simp (maxSteps := 8000000) -implicitDefEqProofs (disch := omega) only [↓reduceIte, go_sem, slotsIn]
  · have hb : rows.take i = rows := List.take_of_length_le (by omega)
    have hm := mixR_full 1 (rows := rows) z0 (i := i) (by omega)
    simp (maxSteps := 8000000) -implicitDefEqProofs (disch := omega) only [↓reduceIte, go_sem, eq_false hge, hb, hm]
    refine joinK_here ?_
    simp (maxSteps := 8000000) -implicitDefEqProofs (disch := omega) only [↓reduceIte, go_sem]
    exact endT_same (.inr rfl) (by (simp (maxSteps := 8000000) -implicitDefEqProofs (disch := omega) only [↓reduceIte, go_sem]) <;> rfl) rfl
-- laws.eqTermS
def c18 : AF := ⟨27,
 (.seq (.reg [rO 4 (.mv (.v (.bool false)))])
 (.seq (.seq (.reg [rO 6 (.mv (.t 0)),
 rO 7 (.len (.t 6)),
 rO 8 (.mv (.t 1)),
 rO 9 (.len (.t 8)),
 rO 10 (.bin .neq (.t 7) (.t 9))])
 (.cond (.t 10) (.seq (.reg [rO 4 (.mv (.v (.bool false)))])
 .ret)
 .skip))
 (.seq (.seq (.reg [rO 5 (.mv (.v (.int .i64 0)))])
 (.block 0 (.loop (.seq (.seq (.reg [rO 11 (.mv (.t 5)),
 rO 12 (.mv (.t 0)),
 rO 13 (.len (.t 12)),
 rO 14 (.bin .lss (.t 11) (.t 13))])
 (.cond (.t 14) .skip
 (.exit 0)))
 (.seq (.block 1 (.seq (.drw [rO 17 (.mv (.t 0)),
 rO 18 (.mv (.t 5)),
 rO 19 (.ia 4 (.t 17) (.t 18)),
 rO 20 (.ldn 4 (.t 19)),
 rO 21 (.mv (.t 1)),
 rO 22 (.mv (.t 5)),
 rO 23 (.ia 4 (.t 21) (.t 22)),
 rO 24 (.ldn 4 (.t 23))] [rO 25 (.call 59 [(.t 20), (.t 24)]),
 rO 26 (.un .not (.t 25))])
 (.cond (.t 26) (.seq (.reg [rO 4 (.mv (.v (.bool false)))])
 .ret)
 .skip)))
 (.reg [rO 15 (.mv (.t 5)),
 rO 16 (.bin .add (.t 15) (.v (.int .i64 1))),
 rO 5 (.mv (.t 16))]))))))
 (.seq (.reg [rO 4 (.mv (.v (.bool true)))])
 .ret)))),
 [.t 4]⟩
theorem k18 : cFn Try.prog Try.f18 = some c18 := by kernel_rfl
theorem eqTermS_ok : OkT Try.prog 18 (pureSp (eqC_S sh_TermS)) := by
  refine okT_eqC (OkΓT.cons eqTerm_ok (OkΓT.nil _)) Try.func18 (by kernel_rfl) k18 ?_
  intro c hc hz
  obtain ⟨rows, hf, hr, hsz, _⟩ := FitC.rows hc
  rw [hf]
  (dsimp only [c18, rO]; simp (maxSteps := 8000000) -implicitDefEqProofs (disch := omega) only [↓reduceIte, go_sem])
  refine awpT_loop (α := Nat) (fun i => ⟨slots [(0, .s (fzRs rows)), (1, .s (fzRs rows)), (5, .p (.int .i64 i))], []⟩) (fun i => i ≤ rows.length) (fun i => rows.length - i) 0 (Nat.zero_le _) (le_of [] (by simp (maxSteps := 8000000) -implicitDefEqProofs (disch := omega) only [↓reduceIte, go_sem]) (by simp (maxSteps := 8000000) -implicitDefEqProofs (disch := omega) only [↓reduceIte, go_sem]) (by decide) (by simp)) ?_
  intro i hi
  simp (maxSteps := 8000000) -implicitDefEqProofs (disch := omega) only [↓reduceIte, go_sem]
  refine condKT_dec (fun hlt => ?_) (fun hge => ?_)
  · obtain ⟨r, hx⟩ := get_ex (l := rows) (i := i) (by omega)
    have hrr := hr r (List.mem_of_getElem? hx)
    have hzr := szRs_mem hx
    have hg := fzRs_get hx
    obtain ⟨a0, a1, a2, a3, rfl⟩ := sh_Term_Fit hrr
    simp only [szCs, szC] at hzr
    simp only [fzCs, fzC, el_one, el_two] at hg
    simp (maxSteps := 8000000) -implicitDefEqProofs (disch := omega) only [↓reduceIte, go_sem, eq_true hlt, hg, eq_Term_at]
    refine loopKT_next (i + 1) (by omega) (by omega) ?_
    exact (le_of [] (by simp (maxSteps := 8000000) -implicitDefEqProofs (disch := omega) only [↓reduceIte, go_sem]) (by simp (maxSteps := 8000000) -implicitDefEqProofs (disch := omega) only [↓reduceIte, go_sem]) (by decide) (by simp))
  · simp (maxSteps := 8000000) -implicitDefEqProofs (disch := omega) only [↓reduceIte, go_sem, eq_false hge]
    refine joinK_here ?_
    simp (maxSteps := 8000000) -implicitDefEqProofs (disch := omega) only [↓reduceIte, go_sem]
    repeat' first
      | ((first | refine gdKT_deq (fun hg hG => ?_) (fun hg hG => ?_) | refine condKT_deq (fun hg hG => ?_) (fun hg hG => ?_)) <;> (try simp (maxSteps := 8000000) -implicitDefEqProofs (disch := omega) only [↓reduceIte, go_sem, hG]) <;> clear hG)
      | ((first | refine gdKT_split (fun hg => ?_) (fun hg => ?_) | refine condKT_split (fun hg => ?_) (fun hg => ?_)) <;> (try simp (maxSteps := 8000000) -implicitDefEqProofs (disch := omega) only [↓reduceIte, go_sem, hg]))
      | (refine endT_p (.inr rfl) (by simp (maxSteps := 8000000) -implicitDefEqProofs (disch := omega) only [↓reduceIte, go_sem]; rfl) ?_; (first | exact vb_true (by omega) | exact vb_false (by omega) | exact vb_dec (by omega) | exact vi_eq (by omega) | rfl | (refine vi_eq ?_; simp_all; first | done | (intros; omega))))
      | exact endT_v (.inr rfl) (by simp (maxSteps := 8000000) -implicitDefEqProofs (disch := omega) only [↓reduceIte, go_sem]; try rfl) (fun _ => rfl)
-- laws.szTermS
def c12 : AF := ⟨12,
 (.seq (.reg [rO 4 (.mv (.v (.int .i64 0)))])
 (.seq (.reg [rO 5 (.mv (.t 1)),
 rO 6 (.mv (.t 0)),
 rO 7 (.len (.t 6)),
 rO 8 (.bin .sub (.t 5) (.t 7)),
 rO 1 (.mv (.t 8))])
 (.seq (.seq (.reg [rO 9 (.mv (.t 1)),
 rO 10 (.bin .lss (.t 9) (.v (.int .i64 0)))])
 (.cond (.t 10) (.seq (.reg [rO 4 (.mv (.v (.int .i64 (-1))))])
 .ret)
 .skip))
 (.seq (.reg [rO 11 (.mv (.t 1)),
 rO 4 (.mv (.t 11))])
 .ret)))),
 [.t 4]⟩
theorem k12 : cFn Try.prog Try.f12 = some c12 := by kernel_rfl
theorem szTermS_ok : OkT Try.prog 12 (pureSp (szC_S sh_TermS)) := by
  refine okT_szC (OkΓT.nil _) Try.func12 (by kernel_rfl) k12 ?_
  intro c k hc h1 h2 hz
  simp only [sh_TermS, HasC] at hc
  obtain ⟨rows, rfl, hr⟩ := hc
  generalize hN : szC _ = N at *
  simp only [szC] at hN
  simp only [lnC, Bool.and_eq_true, decide_eq_true_eq] at hz
  obtain ⟨hz, hzr⟩ := hz
  simp only [fzC]
  have hz0 : szRs rows = 0 := szRs_zero fun r hx => by
    have hrr := hr r hx
    obtain ⟨a0, a1, a2, a3, rfl⟩ := sh_Term_Has hrr
    rfl
  by_cases q : (rows.length : Int) ≤ k
  · rw [if_pos (by omega), show (N : Int) = rows.length by omega]
    (dsimp only [c12, rO]; simp (maxSteps := 8000000) -implicitDefEqProofs (disch := omega) only [↓reduceIte, go_sem])
    repeat' first
      | ((first | refine gdKT_deq (fun hg hG => ?_) (fun hg hG => ?_) | refine condKT_deq (fun hg hG => ?_) (fun hg hG => ?_)) <;> (try simp (maxSteps := 8000000) -implicitDefEqProofs (disch := omega) only [↓reduceIte, go_sem, hG]) <;> clear hG)
      | ((first | refine gdKT_split (fun hg => ?_) (fun hg => ?_) | refine condKT_split (fun hg => ?_) (fun hg => ?_)) <;> (try simp (maxSteps := 8000000) -implicitDefEqProofs (disch := omega) only [↓reduceIte, go_sem, hg]))
      | (refine endT_p (.inr rfl) (by simp (maxSteps := 8000000) -implicitDefEqProofs (disch := omega) only [↓reduceIte, go_sem]; rfl) ?_; (first | exact vb_true (by omega) | exact vb_false (by omega) | exact vb_dec (by omega) | exact vi_eq (by omega) | rfl | (refine vi_eq ?_; simp_all; first | done | (intros; omega))))
      | exact endT_v (.inr rfl) (by simp (maxSteps := 8000000) -implicitDefEqProofs (disch := omega) only [↓reduceIte, go_sem]; try rfl) (fun _ => rfl)
  · rw [if_neg (by omega)]
    (dsimp only [c12, rO]; simp (maxSteps := 8000000) -implicitDefEqProofs (disch := omega) only [↓reduceIte, go_sem])
    repeat' first
      | ((first | refine gdKT_deq (fun hg hG => ?_) (fun hg hG => ?_) | refine condKT_deq (fun hg hG => ?_) (fun hg hG => ?_)) <;> (try simp (maxSteps := 8000000) -implicitDefEqProofs (disch := omega) only [↓reduceIte, go_sem, hG]) <;> clear hG)
      | ((first | refine gdKT_split (fun hg => ?_) (fun hg => ?_) | refine condKT_split (fun hg => ?_) (fun hg => ?_)) <;> (try simp (maxSteps := 8000000) -implicitDefEqProofs (disch := omega) only [↓reduceIte, go_sem, hg]))
      | (refine endT_p (.inr rfl) (by simp (maxSteps := 8000000) -implicitDefEqProofs (disch := omega) only [↓reduceIte, go_sem]; rfl) ?_; (first | exact vb_true (by omega) | exact vb_false (by omega) | exact vb_dec (by omega) | exact vi_eq (by omega) | rfl | (refine vi_eq ?_; simp_all; first | done | (intros; omega))))
      | exact endT_v (.inr rfl) (by simp (maxSteps := 8000000) -implicitDefEqProofs (disch := omega) only [↓reduceIte, go_sem]; try rfl) (fun _ => rfl)
/-! Net -/
def sh_Net : List Shp := [sh_TermS, sh_GateS, sh_Int64S, sh_Int64S, sh_GivenS, sh_GivenS]
theorem sh_Net_Has {cs : List Cell} (h : HasR sh_Net cs) : ∃ (c0 : Cell) (c1 : Cell) (c2 : Cell) (c3 : Cell) (c4 : Cell) (c5 : Cell), cs = [c0, c1, c2, c3, c4, c5] ∧ HasC sh_TermS c0 ∧ HasC sh_GateS c1 ∧ HasC sh_Int64S c2 ∧ HasC sh_Int64S c3 ∧ HasC sh_GivenS c4 ∧ HasC sh_GivenS c5 := by
  obtain ⟨c0, _, rfl, hc0, c1, _, rfl, hc1, c2, _, rfl, hc2, c3, _, rfl, hc3, c4, _, rfl, hc4, c5, _, rfl, hc5, h⟩ := h
  simp only [HasR] at h; subst h
  exact ⟨c0, c1, c2, c3, c4, c5, rfl, hc0, hc1, hc2, hc3, hc4, hc5⟩
theorem sh_Net_Fit {cs : List Cell} (h : FitR sh_Net cs) : ∃ (c0 : Cell) (c1 : Cell) (c2 : Cell) (c3 : Cell) (c4 : Cell) (c5 : Cell), cs = [c0, c1, c2, c3, c4, c5] ∧ FitC sh_TermS c0 ∧ FitC sh_GateS c1 ∧ FitC sh_Int64S c2 ∧ FitC sh_Int64S c3 ∧ FitC sh_GivenS c4 ∧ FitC sh_GivenS c5 := by
  obtain ⟨c0, _, rfl, hc0, c1, _, rfl, hc1, c2, _, rfl, hc2, c3, _, rfl, hc3, c4, _, rfl, hc4, c5, _, rfl, hc5, h⟩ := h
  simp only [FitR] at h; subst h
  exact ⟨c0, c1, c2, c3, c4, c5, rfl, hc0, hc1, hc2, hc3, hc4, hc5⟩
-- laws.toNet
def c26 : AF := ⟨29,
 (.seq (.reg [rO 1 (.box 59 (.t 0)),
 rO 2 (.alloc 67 [(.slice none 0 0), (.slice none 0 0), (.slice none 0 0), (.slice none 0 0), (.slice none 0 0), (.slice none 0 0)])])
 (.seq (.reg [rO 3 (.alloc 67 [(.slice none 0 0), (.slice none 0 0), (.slice none 0 0), (.slice none 0 0), (.slice none 0 0), (.slice none 0 0)])])
 (.seq (.reg [rO 4 (.fa (.t 1) 0),
 rO 5 (.ld (.t 4)),
 rO 6 (.call 15 [(.t 5)]),
 rO 7 (.fa (.t 3) 0),
 ⟨none, none, .st 1 (.t 7) (.t 6)⟩])
 (.seq (.reg [rO 8 (.fa (.t 1) 1),
 rO 9 (.ld (.t 8)),
 rO 10 (.call 70 [(.t 9)]),
 rO 11 (.fa (.t 3) 1),
 ⟨none, none, .st 1 (.t 11) (.t 10)⟩])
 (.seq (.reg [rO 12 (.fa (.t 1) 2),
 rO 13 (.ld (.t 12)),
 rO 14 (.call 71 [(.t 13)]),
 rO 15 (.fa (.t 3) 2),
 ⟨none, none, .st 1 (.t 15) (.t 14)⟩])
 (.seq (.reg [rO 16 (.fa (.t 1) 3),
 rO 17 (.ld (.t 16)),
 rO 18 (.call 71 [(.t 17)]),
 rO 19 (.fa (.t 3) 3),
 ⟨none, none, .st 1 (.t 19) (.t 18)⟩])
 (.seq (.reg [rO 20 (.fa (.t 1) 4),
 rO 21 (.ld (.t 20)),
 rO 22 (.call 72 [(.t 21)]),
 rO 23 (.fa (.t 3) 4),
 ⟨none, none, .st 1 (.t 23) (.t 22)⟩])
 (.seq (.reg [rO 24 (.fa (.t 1) 5),
 rO 25 (.ld (.t 24)),
 rO 26 (.call 72 [(.t 25)]),
 rO 27 (.fa (.t 3) 5),
 ⟨none, none, .st 1 (.t 27) (.t 26)⟩])
 (.seq (.reg [rO 28 (.ldn 6 (.t 3)),
 ⟨none, none, .st 6 (.t 2) (.t 28)⟩])
 .ret))))))))),
 [.cell 2 (some 6)]⟩
theorem k26 : cFn Try.prog Try.f26 = some c26 := by kernel_rfl
theorem toNet_ok : OkT Try.prog 26 (pureSp (toR_S sh_Net)) := by
  refine okT_toR (OkΓT.cons toTermS_ok (OkΓT.cons toGateS_ok (OkΓT.cons toInt64S_ok (OkΓT.cons toGivenS_ok (OkΓT.nil _))))) Try.func26 (by kernel_rfl) k26 ?_
  intro c hc hz
  obtain ⟨c0, c1, c2, c3, c4, c5, rfl, hc0, hc1, hc2, hc3, hc4, hc5⟩ := sh_Net_Has hc
  simp only [szCs, szC] at hz
  simp only [fzCs, fzC]
  (dsimp only [c26, rO]; simp (maxSteps := 8000000) -implicitDefEqProofs (disch := omega) only [↓reduceIte, go_sem, toC_at hc0 (by omega), toC_at hc1 (by omega), toC_at hc2 (by omega), toC_at hc3 (by omega), toC_at hc4 (by omega), toC_at hc5 (by omega)])
  have w1 : nbC c0 + 1 + 1 + 1 = 3 + nbC c0 := by omega
  have w2 : nbC c0 + (nbC c1) + 1 + 1 + 1 = 3 + nbC c0 + nbC c1 := by omega
  have w3 : nbC c0 + (nbC c1 + (nbC c2)) + 1 + 1 + 1 = 3 + nbC c0 + nbC c1 + nbC c2 := by omega
  have w4 : nbC c0 + (nbC c1 + (nbC c2 + (nbC c3))) + 1 + 1 + 1 = 3 + nbC c0 + nbC c1 + nbC c2 + nbC c3 := by omega
  have w5 : nbC c0 + (nbC c1 + (nbC c2 + (nbC c3 + (nbC c4)))) + 1 + 1 + 1 = 3 + nbC c0 + nbC c1 + nbC c2 + nbC c3 + nbC c4 := by omega
  refine endT_cells' 3 (.inr rfl) (by (simp (maxSteps := 8000000) -implicitDefEqProofs (disch := omega) only [↓reduceIte, go_sem, fzCs, fzC, tvCs, tvC_v, tvC_nl, tvC_sl, bkCs, bkC, nbC, nbCs, Nat.add_zero, List.append_nil, List.nil_append, bkC_len, w1, w2, w3, w4, w5]) <;> rfl) ?_ (by simp only [List.length_cons]; omega)
  simp only [List.drop_succ_cons, List.drop_zero, bkCs, bkC, nbC, Nat.add_zero, List.append_nil, List.nil_append, List.cons_append, bkC_len, w1, w2, w3, w4, w5]
-- laws.eqNet
def c29 : AF := ⟨41,
 (.seq (.reg [rO 2 (.box 67 (.t 0)),
 rO 3 (.box 67 (.t 1)),
 rO 4 (.mv (.v (.bool false)))])
 (.seq (.seq (.reg [rO 5 (.fa (.t 2) 0),
 rO 6 (.ld (.t 5)),
 rO 7 (.fa (.t 3) 0),
 rO 8 (.ld (.t 7)),
 rO 9 (.call 18 [(.t 6), (.t 8)]),
 rO 10 (.un .not (.t 9))])
 (.cond (.t 10) (.seq (.reg [rO 4 (.mv (.v (.bool false)))])
 .ret)
 .skip))
 (.seq (.seq (.reg [rO 11 (.fa (.t 2) 1),
 rO 12 (.ld (.t 11)),
 rO 13 (.fa (.t 3) 1),
 rO 14 (.ld (.t 13)),
 rO 15 (.call 75 [(.t 12), (.t 14)]),
 rO 16 (.un .not (.t 15))])
 (.cond (.t 16) (.seq (.reg [rO 4 (.mv (.v (.bool false)))])
 .ret)
 .skip))
 (.seq (.seq (.reg [rO 17 (.fa (.t 2) 2),
 rO 18 (.ld (.t 17)),
 rO 19 (.fa (.t 3) 2),
 rO 20 (.ld (.t 19)),
 rO 21 (.call 76 [(.t 18), (.t 20)]),
 rO 22 (.un .not (.t 21))])
 (.cond (.t 22) (.seq (.reg [rO 4 (.mv (.v (.bool false)))])
 .ret)
 .skip))
 (.seq (.seq (.reg [rO 23 (.fa (.t 2) 3),
 rO 24 (.ld (.t 23)),
 rO 25 (.fa (.t 3) 3),
 rO 26 (.ld (.t 25)),
 rO 27 (.call 76 [(.t 24), (.t 26)]),
 rO 28 (.un .not (.t 27))])
 (.cond (.t 28) (.seq (.reg [rO 4 (.mv (.v (.bool false)))])
 .ret)
 .skip))
 (.seq (.seq (.reg [rO 29 (.fa (.t 2) 4),
 rO 30 (.ld (.t 29)),
 rO 31 (.fa (.t 3) 4),
 rO 32 (.ld (.t 31)),
 rO 33 (.call 77 [(.t 30), (.t 32)]),
 rO 34 (.un .not (.t 33))])
 (.cond (.t 34) (.seq (.reg [rO 4 (.mv (.v (.bool false)))])
 .ret)
 .skip))
 (.seq (.seq (.reg [rO 35 (.fa (.t 2) 5),
 rO 36 (.ld (.t 35)),
 rO 37 (.fa (.t 3) 5),
 rO 38 (.ld (.t 37)),
 rO 39 (.call 77 [(.t 36), (.t 38)]),
 rO 40 (.un .not (.t 39))])
 (.cond (.t 40) (.seq (.reg [rO 4 (.mv (.v (.bool false)))])
 .ret)
 .skip))
 (.seq (.reg [rO 4 (.mv (.v (.bool true)))])
 .ret)))))))),
 [.t 4]⟩
theorem k29 : cFn Try.prog Try.f29 = some c29 := by kernel_rfl
theorem eqNet_ok : OkT Try.prog 29 (pureSp (eqR_S sh_Net)) := by
  refine okT_eqR (OkΓT.cons eqTermS_ok (OkΓT.cons eqGateS_ok (OkΓT.cons eqInt64S_ok (OkΓT.cons eqGivenS_ok (OkΓT.nil _))))) Try.func29 (by kernel_rfl) k29 ?_
  intro c hc hz
  obtain ⟨c0, c1, c2, c3, c4, c5, rfl, hc0, hc1, hc2, hc3, hc4, hc5⟩ := sh_Net_Fit hc
  simp only [szCs, szC] at hz
  simp only [fzCs, fzC]
  (dsimp only [c29, rO]; simp (maxSteps := 8000000) -implicitDefEqProofs (disch := omega) only [↓reduceIte, go_sem, eqC_at hc0 (by omega), eqC_at hc1 (by omega), eqC_at hc2 (by omega), eqC_at hc3 (by omega), eqC_at hc4 (by omega), eqC_at hc5 (by omega)])
  repeat' first
    | ((first | refine gdKT_deq (fun hg hG => ?_) (fun hg hG => ?_) | refine condKT_deq (fun hg hG => ?_) (fun hg hG => ?_)) <;> (try simp (maxSteps := 8000000) -implicitDefEqProofs (disch := omega) only [↓reduceIte, go_sem, hG, eqC_at hc0 (by omega), eqC_at hc1 (by omega), eqC_at hc2 (by omega), eqC_at hc3 (by omega), eqC_at hc4 (by omega), eqC_at hc5 (by omega)]) <;> clear hG)
    | ((first | refine gdKT_split (fun hg => ?_) (fun hg => ?_) | refine condKT_split (fun hg => ?_) (fun hg => ?_)) <;> (try simp (maxSteps := 8000000) -implicitDefEqProofs (disch := omega) only [↓reduceIte, go_sem, hg, eqC_at hc0 (by omega), eqC_at hc1 (by omega), eqC_at hc2 (by omega), eqC_at hc3 (by omega), eqC_at hc4 (by omega), eqC_at hc5 (by omega)]))
    | (refine endT_p (.inr rfl) (by simp (maxSteps := 8000000) -implicitDefEqProofs (disch := omega) only [↓reduceIte, go_sem, eqC_at hc0 (by omega), eqC_at hc1 (by omega), eqC_at hc2 (by omega), eqC_at hc3 (by omega), eqC_at hc4 (by omega), eqC_at hc5 (by omega)]; rfl) ?_; (first | exact vb_true (by omega) | exact vb_false (by omega) | exact vb_dec (by omega) | exact vi_eq (by omega) | rfl | (refine vi_eq ?_; simp_all; first | done | (intros; omega))))
    | exact endT_v (.inr rfl) (by simp (maxSteps := 8000000) -implicitDefEqProofs (disch := omega) only [↓reduceIte, go_sem, eqC_at hc0 (by omega), eqC_at hc1 (by omega), eqC_at hc2 (by omega), eqC_at hc3 (by omega), eqC_at hc4 (by omega), eqC_at hc5 (by omega)]; try rfl) (fun _ => rfl)
-- laws.szNet
def c24 : AF := ⟨42,
 (.seq (.reg [rO 2 (.box 59 (.t 0)),
 rO 4 (.mv (.v (.int .i64 0)))])
 (.seq (.reg [rO 5 (.fa (.t 2) 0),
 rO 6 (.ld (.t 5)),
 rO 7 (.mv (.t 1)),
 rO 8 (.call 12 [(.t 6), (.t 7)]),
 rO 1 (.mv (.t 8))])
 (.seq (.seq (.reg [rO 9 (.mv (.t 1)),
 rO 10 (.bin .lss (.t 9) (.v (.int .i64 0)))])
 (.cond (.t 10) (.seq (.reg [rO 4 (.mv (.v (.int .i64 (-1))))])
 .ret)
 .skip))
 (.seq (.reg [rO 11 (.fa (.t 2) 1),
 rO 12 (.ld (.t 11)),
 rO 13 (.mv (.t 1)),
 rO 14 (.call 64 [(.t 12), (.t 13)]),
 rO 1 (.mv (.t 14))])
 (.seq (.seq (.reg [rO 15 (.mv (.t 1)),
 rO 16 (.bin .lss (.t 15) (.v (.int .i64 0)))])
 (.cond (.t 16) (.seq (.reg [rO 4 (.mv (.v (.int .i64 (-1))))])
 .ret)
 .skip))
 (.seq (.reg [rO 17 (.fa (.t 2) 2),
 rO 18 (.ld (.t 17)),
 rO 19 (.mv (.t 1)),
 rO 20 (.call 65 [(.t 18), (.t 19)]),
 rO 1 (.mv (.t 20))])
 (.seq (.seq (.reg [rO 21 (.mv (.t 1)),
 rO 22 (.bin .lss (.t 21) (.v (.int .i64 0)))])
 (.cond (.t 22) (.seq (.reg [rO 4 (.mv (.v (.int .i64 (-1))))])
 .ret)
 .skip))
 (.seq (.reg [rO 23 (.fa (.t 2) 3),
 rO 24 (.ld (.t 23)),
 rO 25 (.mv (.t 1)),
 rO 26 (.call 65 [(.t 24), (.t 25)]),
 rO 1 (.mv (.t 26))])
 (.seq (.seq (.reg [rO 27 (.mv (.t 1)),
 rO 28 (.bin .lss (.t 27) (.v (.int .i64 0)))])
 (.cond (.t 28) (.seq (.reg [rO 4 (.mv (.v (.int .i64 (-1))))])
 .ret)
 .skip))
 (.seq (.reg [rO 29 (.fa (.t 2) 4),
 rO 30 (.ld (.t 29)),
 rO 31 (.mv (.t 1)),
 rO 32 (.call 66 [(.t 30), (.t 31)]),
 rO 1 (.mv (.t 32))])
 (.seq (.seq (.reg [rO 33 (.mv (.t 1)),
 rO 34 (.bin .lss (.t 33) (.v (.int .i64 0)))])
 (.cond (.t 34) (.seq (.reg [rO 4 (.mv (.v (.int .i64 (-1))))])
 .ret)
 .skip))
 (.seq (.reg [rO 35 (.fa (.t 2) 5),
 rO 36 (.ld (.t 35)),
 rO 37 (.mv (.t 1)),
 rO 38 (.call 66 [(.t 36), (.t 37)]),
 rO 1 (.mv (.t 38))])
 (.seq (.seq (.reg [rO 39 (.mv (.t 1)),
 rO 40 (.bin .lss (.t 39) (.v (.int .i64 0)))])
 (.cond (.t 40) (.seq (.reg [rO 4 (.mv (.v (.int .i64 (-1))))])
 .ret)
 .skip))
 (.seq (.reg [rO 41 (.mv (.t 1)),
 rO 4 (.mv (.t 41))])
 .ret)))))))))))))),
 [.t 4]⟩
theorem k24 : cFn Try.prog Try.f24 = some c24 := by kernel_rfl
theorem szNet_ok : OkT Try.prog 24 (pureSp (szR_S sh_Net)) := by
  refine okT_szR (OkΓT.cons szTermS_ok (OkΓT.cons szGateS_ok (OkΓT.cons szInt64S_ok (OkΓT.cons szGivenS_ok (OkΓT.nil _))))) Try.func24 (by kernel_rfl) k24 ?_
  intro c k hc h1 h2 hz
  obtain ⟨c0, c1, c2, c3, c4, c5, rfl, hc0, hc1, hc2, hc3, hc4, hc5⟩ := sh_Net_Has hc
  generalize hN : szCs _ = N at *
  simp only [szCs, szC, Nat.add_zero, Nat.zero_add] at hN
  simp only [lnCs, lnC, Bool.true_and, Bool.and_true, Bool.and_eq_true] at hz
  obtain ⟨wc0, wc1, wc2, wc3, wc4, wc5⟩ := hz
  simp only [fzCs, fzC]
  have zc0 := szC_at (k := k) hc0 (by omega) wc0
  by_cases qc0 : (szC c0 : Int) ≤ k
  case neg =>
    rw [if_neg qc0] at zc0
    rw [if_neg (show ¬ _ by omega)]
    (dsimp only [c24, rO]; simp (maxSteps := 8000000) -implicitDefEqProofs (disch := omega) only [↓reduceIte, go_sem, zc0])
    repeat' first
      | ((first | refine gdKT_deq (fun hg hG => ?_) (fun hg hG => ?_) | refine condKT_deq (fun hg hG => ?_) (fun hg hG => ?_)) <;> (try simp (maxSteps := 8000000) -implicitDefEqProofs (disch := omega) only [↓reduceIte, go_sem, hG, zc0]) <;> clear hG)
      | ((first | refine gdKT_split (fun hg => ?_) (fun hg => ?_) | refine condKT_split (fun hg => ?_) (fun hg => ?_)) <;> (try simp (maxSteps := 8000000) -implicitDefEqProofs (disch := omega) only [↓reduceIte, go_sem, hg, zc0]))
      | (refine endT_p (.inr rfl) (by simp (maxSteps := 8000000) -implicitDefEqProofs (disch := omega) only [↓reduceIte, go_sem, zc0]; rfl) ?_; (first | exact vb_true (by omega) | exact vb_false (by omega) | exact vb_dec (by omega) | exact vi_eq (by omega) | rfl | (refine vi_eq ?_; simp_all; first | done | (intros; omega))))
      | exact endT_v (.inr rfl) (by simp (maxSteps := 8000000) -implicitDefEqProofs (disch := omega) only [↓reduceIte, go_sem, zc0]; try rfl) (fun _ => rfl)
  rw [if_pos qc0] at zc0
  have zc1 := szC_at (k := k - (szC c0 : Int)) hc1 (by omega) wc1
  by_cases qc1 : (szC c1 : Int) ≤ k - (szC c0 : Int)
  case neg =>
    rw [if_neg qc1] at zc1
    rw [if_neg (show ¬ _ by omega)]
    (dsimp only [c24, rO]; simp (maxSteps := 8000000) -implicitDefEqProofs (disch := omega) only [↓reduceIte, go_sem, zc0, zc1])
    repeat' first
      | ((first | refine gdKT_deq (fun hg hG => ?_) (fun hg hG => ?_) | refine condKT_deq (fun hg hG => ?_) (fun hg hG => ?_)) <;> (try simp (maxSteps := 8000000) -implicitDefEqProofs (disch := omega) only [↓reduceIte, go_sem, hG, zc0, zc1]) <;> clear hG)
      | ((first | refine gdKT_split (fun hg => ?_) (fun hg => ?_) | refine condKT_split (fun hg => ?_) (fun hg => ?_)) <;> (try simp (maxSteps := 8000000) -implicitDefEqProofs (disch := omega) only [↓reduceIte, go_sem, hg, zc0, zc1]))
      | (refine endT_p (.inr rfl) (by simp (maxSteps := 8000000) -implicitDefEqProofs (disch := omega) only [↓reduceIte, go_sem, zc0, zc1]; rfl) ?_; (first | exact vb_true (by omega) | exact vb_false (by omega) | exact vb_dec (by omega) | exact vi_eq (by omega) | rfl | (refine vi_eq ?_; simp_all; first | done | (intros; omega))))
      | exact endT_v (.inr rfl) (by simp (maxSteps := 8000000) -implicitDefEqProofs (disch := omega) only [↓reduceIte, go_sem, zc0, zc1]; try rfl) (fun _ => rfl)
  rw [if_pos qc1] at zc1
  have zc2 := szC_at (k := k - (szC c0 : Int) - (szC c1 : Int)) hc2 (by omega) wc2
  by_cases qc2 : (szC c2 : Int) ≤ k - (szC c0 : Int) - (szC c1 : Int)
  case neg =>
    rw [if_neg qc2] at zc2
    rw [if_neg (show ¬ _ by omega)]
    (dsimp only [c24, rO]; simp (maxSteps := 8000000) -implicitDefEqProofs (disch := omega) only [↓reduceIte, go_sem, zc0, zc1, zc2])
    repeat' first
      | ((first | refine gdKT_deq (fun hg hG => ?_) (fun hg hG => ?_) | refine condKT_deq (fun hg hG => ?_) (fun hg hG => ?_)) <;> (try simp (maxSteps := 8000000) -implicitDefEqProofs (disch := omega) only [↓reduceIte, go_sem, hG, zc0, zc1, zc2]) <;> clear hG)
      | ((first | refine gdKT_split (fun hg => ?_) (fun hg => ?_) | refine condKT_split (fun hg => ?_) (fun hg => ?_)) <;> (try simp (maxSteps := 8000000) -implicitDefEqProofs (disch := omega) only [↓reduceIte, go_sem, hg, zc0, zc1, zc2]))
      | (refine endT_p (.inr rfl) (by simp (maxSteps := 8000000) -implicitDefEqProofs (disch := omega) only [↓reduceIte, go_sem, zc0, zc1, zc2]; rfl) ?_; (first | exact vb_true (by omega) | exact vb_false (by omega) | exact vb_dec (by omega) | exact vi_eq (by omega) | rfl | (refine vi_eq ?_; simp_all; first | done | (intros; omega))))
      | exact endT_v (.inr rfl) (by simp (maxSteps := 8000000) -implicitDefEqProofs (disch := omega) only [↓reduceIte, go_sem, zc0, zc1, zc2]; try rfl) (fun _ => rfl)
  rw [if_pos qc2] at zc2
  have zc3 := szC_at (k := k - (szC c0 : Int) - (szC c1 : Int) - (szC c2 : Int)) hc3 (by omega) wc3
  by_cases qc3 : (szC c3 : Int) ≤ k - (szC c0 : Int) - (szC c1 : Int) - (szC c2 : Int)
  case neg =>
    rw [if_neg qc3] at zc3
    rw [if_neg (show ¬ _ by omega)]
    (dsimp only [c24, rO]; simp (maxSteps := 8000000) -implicitDefEqProofs (disch := omega) only [↓reduceIte, go_sem, zc0, zc1, zc2, zc3])
    repeat' first
      | ((first | refine gdKT_deq (fun hg hG => ?_) (fun hg hG => ?_) | refine condKT_deq (fun hg hG => ?_) (fun hg hG => ?_)) <;> (try simp (maxSteps := 8000000) -implicitDefEqProofs (disch := omega) only [↓reduceIte, go_sem, hG, zc0, zc1, zc2, zc3]) <;> clear hG)
      | ((first | refine gdKT_split (fun hg => ?_) (fun hg => ?_) | refine condKT_split (fun hg => ?_) (fun hg => ?_)) <;> (try simp (maxSteps := 8000000) -implicitDefEqProofs (disch := omega) only [↓reduceIte, go_sem, hg, zc0, zc1, zc2, zc3]))
      | (refine endT_p (.inr rfl) (by simp (maxSteps := 8000000) -implicitDefEqProofs (disch := omega) only [↓reduceIte, go_sem, zc0, zc1, zc2, zc3]; rfl) ?_; (first | exact vb_true (by omega) | exact vb_false (by omega) | exact vb_dec (by omega) | exact vi_eq (by omega) | rfl | (refine vi_eq ?_; simp_all; first | done | (intros; omega))))
      | exact endT_v (.inr rfl) (by simp (maxSteps := 8000000) -implicitDefEqProofs (disch := omega) only [↓reduceIte, go_sem, zc0, zc1, zc2, zc3]; try rfl) (fun _ => rfl)
  rw [if_pos qc3] at zc3
  have zc4 := szC_at (k := k - (szC c0 : Int) - (szC c1 : Int) - (szC c2 : Int) - (szC c3 : Int)) hc4 (by omega) wc4
  by_cases qc4 : (szC c4 : Int) ≤ k - (szC c0 : Int) - (szC c1 : Int) - (szC c2 : Int) - (szC c3 : Int)
  case neg =>
    rw [if_neg qc4] at zc4
    rw [if_neg (show ¬ _ by omega)]
    (dsimp only [c24, rO]; simp (maxSteps := 8000000) -implicitDefEqProofs (disch := omega) only [↓reduceIte, go_sem, zc0, zc1, zc2, zc3, zc4])
    repeat' first
      | ((first | refine gdKT_deq (fun hg hG => ?_) (fun hg hG => ?_) | refine condKT_deq (fun hg hG => ?_) (fun hg hG => ?_)) <;> (try simp (maxSteps := 8000000) -implicitDefEqProofs (disch := omega) only [↓reduceIte, go_sem, hG, zc0, zc1, zc2, zc3, zc4]) <;> clear hG)
      | ((first | refine gdKT_split (fun hg => ?_) (fun hg => ?_) | refine condKT_split (fun hg => ?_) (fun hg => ?_)) <;> (try simp (maxSteps := 8000000) -implicitDefEqProofs (disch := omega) only [↓reduceIte, go_sem, hg, zc0, zc1, zc2, zc3, zc4]))
      | (refine endT_p (.inr rfl) (by simp (maxSteps := 8000000) -implicitDefEqProofs (disch := omega) only [↓reduceIte, go_sem, zc0, zc1, zc2, zc3, zc4]; rfl) ?_; (first | exact vb_true (by omega) | exact vb_false (by omega) | exact vb_dec (by omega) | exact vi_eq (by omega) | rfl | (refine vi_eq ?_; simp_all; first | done | (intros; omega))))
      | exact endT_v (.inr rfl) (by simp (maxSteps := 8000000) -implicitDefEqProofs (disch := omega) only [↓reduceIte, go_sem, zc0, zc1, zc2, zc3, zc4]; try rfl) (fun _ => rfl)
  rw [if_pos qc4] at zc4
  have zc5 := szC_at (k := k - (szC c0 : Int) - (szC c1 : Int) - (szC c2 : Int) - (szC c3 : Int) - (szC c4 : Int)) hc5 (by omega) wc5
  by_cases qc5 : (szC c5 : Int) ≤ k - (szC c0 : Int) - (szC c1 : Int) - (szC c2 : Int) - (szC c3 : Int) - (szC c4 : Int)
  case neg =>
    rw [if_neg qc5] at zc5
    rw [if_neg (show ¬ _ by omega)]
    (dsimp only [c24, rO]; simp (maxSteps := 8000000) -implicitDefEqProofs (disch := omega) only [↓reduceIte, go_sem, zc0, zc1, zc2, zc3, zc4, zc5])
    repeat' first
      | ((first | refine gdKT_deq (fun hg hG => ?_) (fun hg hG => ?_) | refine condKT_deq (fun hg hG => ?_) (fun hg hG => ?_)) <;> (try simp (maxSteps := 8000000) -implicitDefEqProofs (disch := omega) only [↓reduceIte, go_sem, hG, zc0, zc1, zc2, zc3, zc4, zc5]) <;> clear hG)
      | ((first | refine gdKT_split (fun hg => ?_) (fun hg => ?_) | refine condKT_split (fun hg => ?_) (fun hg => ?_)) <;> (try simp (maxSteps := 8000000) -implicitDefEqProofs (disch := omega) only [↓reduceIte, go_sem, hg, zc0, zc1, zc2, zc3, zc4, zc5]))
      | (refine endT_p (.inr rfl) (by simp (maxSteps := 8000000) -implicitDefEqProofs (disch := omega) only [↓reduceIte, go_sem, zc0, zc1, zc2, zc3, zc4, zc5]; rfl) ?_; (first | exact vb_true (by omega) | exact vb_false (by omega) | exact vb_dec (by omega) | exact vi_eq (by omega) | rfl | (refine vi_eq ?_; simp_all; first | done | (intros; omega))))
      | exact endT_v (.inr rfl) (by simp (maxSteps := 8000000) -implicitDefEqProofs (disch := omega) only [↓reduceIte, go_sem, zc0, zc1, zc2, zc3, zc4, zc5]; try rfl) (fun _ => rfl)
  rw [if_pos qc5] at zc5
  rw [if_pos (show _ by omega), show k - (N : Int) = k - (szC c0 : Int) - (szC c1 : Int) - (szC c2 : Int) - (szC c3 : Int) - (szC c4 : Int) - (szC c5 : Int) by omega]
  (dsimp only [c24, rO]; simp (maxSteps := 8000000) -implicitDefEqProofs (disch := omega) only [↓reduceIte, go_sem, zc0, zc1, zc2, zc3, zc4, zc5])
  repeat' first
    | ((first | refine gdKT_deq (fun hg hG => ?_) (fun hg hG => ?_) | refine condKT_deq (fun hg hG => ?_) (fun hg hG => ?_)) <;> (try simp (maxSteps := 8000000) -implicitDefEqProofs (disch := omega) only [↓reduceIte, go_sem, hG, zc0, zc1, zc2, zc3, zc4, zc5]) <;> clear hG)
    | ((first | refine gdKT_split (fun hg => ?_) (fun hg => ?_) | refine condKT_split (fun hg => ?_) (fun hg => ?_)) <;> (try simp (maxSteps := 8000000) -implicitDefEqProofs (disch := omega) only [↓reduceIte, go_sem, hg, zc0, zc1, zc2, zc3, zc4, zc5]))
    | (refine endT_p (.inr rfl) (by simp (maxSteps := 8000000) -implicitDefEqProofs (disch := omega) only [↓reduceIte, go_sem, zc0, zc1, zc2, zc3, zc4, zc5]; rfl) ?_; (first | exact vb_true (by omega) | exact vb_false (by omega) | exact vb_dec (by omega) | exact vi_eq (by omega) | rfl | (refine vi_eq ?_; simp_all; first | done | (intros; omega))))
    | exact endT_v (.inr rfl) (by simp (maxSteps := 8000000) -implicitDefEqProofs (disch := omega) only [↓reduceIte, go_sem, zc0, zc1, zc2, zc3, zc4, zc5]; try rfl) (fun _ => rfl)
end Go.Proofs.Ytbddhlhpakbcdaa
