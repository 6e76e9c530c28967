import Derived.Test.YtghpdclhhnbgjaaG4
set_option linter.unusedSimpArgs false
set_option linter.unusedVariables false
set_option maxRecDepth 100000
set_option maxHeartbeats 4000000
namespace Go.Proofs.Ytghpdclhhnbgjaa
open Go Go.AH
attribute [local irreducible] awpT ropsT qopsT stepT condKT gdKT EndT joinK loopKT seqKT blkKT kont kontR
theorem sasK_tv (n : Nat) (l : List SaR) : tvC n (sasK l) = .os n 0 l.length := by simp only [sasK, tvC, List.length_map]
theorem sasK_bk (n : Nat) (l : List SaR) : bkC n (sasK l) = .cells 45 (zOf l.length 11) (tvRs (n + 1) (l.map saC)) :: bkRs (n + 1) (l.map saC) := by simp only [sasK, bkC]
def badC (f : Int) : List Cell := [.v (.int .i64 f), .nl]
def goodC (c : Cell) : List Cell := [.v (.int .i64 0), c]
theorem badC_ans (f : Int) : ansR (badC f) = (.agg [.p (.int .i64 f), .nl], []) := rfl
theorem sasC_fit (l : List SaR) : FitC sh_SaS (sasC l) := HasC.fit _ _ (sasC_has l)
theorem szs_filter (p : SaR → Bool) : ∀ l : List SaR, szRs ((l.filter p).map saC) ≤ szRs (l.map saC)
  | [] => Nat.le_refl _
  | x :: l => by
    have := szs_filter p l
    by_cases h : p x = true
    · simp only [List.filter_cons_of_pos h, List.map_cons, szRs]; omega
    · simp only [List.filter_cons_of_neg h, List.map_cons, szRs]; omega
/-! ExpireSas -/
def expR (l : List SaR) (n : Int) : List Cell := if sasF l = 0 then (if 0 ≤ n ∧ n ≤ 1000000000 then goodC (sasK (l.filter (lateU n))) else badC 3) else badC (sasF l)
abbrev smallL (l : List SaR) : Prop := l.length ≤ 1048576 ∧ ∀ y ∈ l, y.sels.length ≤ 1048576
noncomputable def expire_S := specP (fun x : List SaR × Int => [.s (rowsT saT x.1), .p (.int .i64 x.2)]) (fun x => smallL x.1) (fun x => ansR (expR x.1 x.2))
theorem goodL_of {l : List SaR} (hz : sasF l = 0) : goodL l := by
  obtain ⟨g1, g2, _⟩ := sasF_zero hz
  exact ⟨g1, fun x hx => (saF_zero (g2 x hx)).2.2.2⟩
-- spec.ExpireSas
def c16 : AF := ⟨20,
 (.seq (.reg [rO 4 (.alloc 35 [(.int .i64 0), (.slice none 0 0)])])
 (.seq (.seq (.reg [rO 6 (.mv (.t 0)),
 rO 7 (.call 60 [(.t 6)]),
 rO 5 (.mv (.t 7))])
 (.seq (.reg [rO 8 (.mv (.t 5)),
 rO 9 (.bin .neq (.t 8) (.v (.int .i64 0)))])
 (.cond (.t 9) (.seq (.reg [rO 10 (.mv (.t 5)),
 rO 11 (.build [(.int .i64 0), (.slice none 0 0)] [(0, 1, (.t 10))]),
 ⟨none, none, .st 2 (.t 4) (.t 11)⟩])
 .ret)
 .skip)))
 (.seq (.seq (.reg [rO 12 (.mv (.t 1)),
 rO 13 (.call 61 [(.t 12)]),
 rO 14 (.un .not (.t 13))])
 (.cond (.t 14) (.seq (.reg [rO 15 (.build [(.int .i64 0), (.slice none 0 0)] [(0, 1, (.v (.int .i64 3)))]),
 ⟨none, none, .st 2 (.t 4) (.t 15)⟩])
 .ret)
 .skip))
 (.seq (.reg [rO 16 (.mv (.t 0)),
 rO 17 (.mv (.t 1)),
 rO 18 (.call 62 [(.t 16), (.t 17)]),
 rO 19 (.build [(.int .i64 0), (.slice none 0 0)] [(1, 1, (.t 18))]),
 ⟨none, none, .st 2 (.t 4) (.t 19)⟩])
 .ret)))),
 [.cell 4 (some 2)]⟩
theorem k16 : cFn Try.prog Try.f16 = some c16 := by kernel_rfl
theorem expS_ok : OkT Try.prog 16 (pureSp expire_S) := by
  refine okT_fn (OkΓT.cons sasFS_ok (OkΓT.cons l16Long_ok (OkΓT.cons l16Expire_ok (OkΓT.nil _)))) Try.func16 (by kernel_rfl) k16 (fun x _ => ansR_own _) ?_
  rintro ⟨l, n⟩ ⟨h1, h2⟩
  dsimp only at *
  have hf := sasF_at l ⟨by omega, fun y hy => by have := h2 y hy; omega⟩
  by_cases hz : sasF l = 0
  case neg =>
    rw [expR, if_neg hz, badC_ans]
    (dsimp only [c16, rO]; simp (maxSteps := 8000000) -implicitDefEqProofs (disch := omega) only [↓reduceIte, go_sem, hf, eq_false hz])
    exact endT_v (.inr rfl) (by (simp (maxSteps := 8000000) -implicitDefEqProofs (disch := omega) only [↓reduceIte, go_sem]) <;> rfl) (fun _ => rfl)
  rw [expR, if_pos hz]
  by_cases ht : 0 ≤ n ∧ n ≤ 1000000000
  case neg =>
    rw [if_neg ht, badC_ans]
    (dsimp only [c16, rO]; simp (maxSteps := 8000000) -implicitDefEqProofs (disch := omega) only [↓reduceIte, go_sem, hf, hz, tick_at, eq_false ht])
    exact endT_v (.inr rfl) (by (simp (maxSteps := 8000000) -implicitDefEqProofs (disch := omega) only [↓reduceIte, go_sem]) <;> rfl) (fun _ => rfl)
  rw [if_pos ht]
  (dsimp only [c16, rO]; simp (maxSteps := 8000000) -implicitDefEqProofs (disch := omega) only [↓reduceIte, go_sem, hf, hz, tick_at, eq_true ht, exp_at l n (goodL_of hz), ansC])
  refine endT_cells' 1 (.inr rfl) (by (simp (maxSteps := 8000000) -implicitDefEqProofs (disch := omega) only [↓reduceIte, go_sem, goodC, tvCs, tvC_v, nbC, Nat.add_zero]) <;> rfl) ?_ (by simp only [List.length_cons]; omega)
  simp only [goodC, List.drop_succ_cons, List.drop_zero, bkCs, bkC, nbC, Nat.add_zero, List.append_nil, List.nil_append]
-- impl.ExpireSas
def c15 : AF := ⟨20,
 (.seq (.reg [rO 3 (.box 2 (.t 1)),
 rO 4 (.alloc 35 [(.int .i64 0), (.slice none 0 0)])])
 (.seq (.seq (.reg [rO 6 (.mv (.t 0)),
 rO 7 (.call 19 [(.t 6)]),
 rO 5 (.mv (.t 7))])
 (.seq (.reg [rO 8 (.mv (.t 5)),
 rO 9 (.bin .neq (.t 8) (.v (.int .i64 0)))])
 (.cond (.t 9) (.seq (.reg [rO 10 (.mv (.t 5)),
 rO 11 (.build [(.int .i64 0), (.slice none 0 0)] [(0, 1, (.t 10))]),
 ⟨none, none, .st 2 (.t 4) (.t 11)⟩])
 .ret)
 .skip)))
 (.seq (.seq (.reg [rO 12 (.ld (.t 3)),
 rO 13 (.call 57 [(.t 12)]),
 rO 14 (.un .not (.t 13))])
 (.cond (.t 14) (.seq (.reg [rO 15 (.build [(.int .i64 0), (.slice none 0 0)] [(0, 1, (.v (.int .i64 3)))]),
 ⟨none, none, .st 2 (.t 4) (.t 15)⟩])
 .ret)
 .skip))
 (.seq (.reg [rO 16 (.mv (.t 0)),
 rO 17 (.fn 59 [(.t 3)]),
 rO 18 (.call 58 [(.t 16), (.t 17)]),
 rO 19 (.build [(.int .i64 0), (.slice none 0 0)] [(0, 1, (.v (.int .i64 0))), (1, 1, (.t 18))]),
 ⟨none, none, .st 2 (.t 4) (.t 19)⟩])
 .ret)))),
 [.cell 4 (some 2)]⟩
theorem k15 : cFn Try.prog Try.f15 = some c15 := by kernel_rfl
theorem expI_ok : OkT Try.prog 15 (pureSp expire_S) := by
  refine okT_fn (OkΓT.cons sasFI_ok (OkΓT.cons isTick_ok (OkΓT.cons keepL_ok (OkΓT.nil _)))) Try.func15 (by kernel_rfl) k15 (fun x _ => ansR_own _) ?_
  rintro ⟨l, n⟩ ⟨h1, h2⟩
  dsimp only at *
  have hf := sasF_at l ⟨by omega, fun y hy => by have := h2 y hy; omega⟩
  by_cases hz : sasF l = 0
  case neg =>
    rw [expR, if_neg hz, badC_ans]
    (dsimp only [c15, rO]; simp (maxSteps := 8000000) -implicitDefEqProofs (disch := omega) only [↓reduceIte, go_sem, hf, eq_false hz])
    exact endT_v (.inr rfl) (by (simp (maxSteps := 8000000) -implicitDefEqProofs (disch := omega) only [↓reduceIte, go_sem]) <;> rfl) (fun _ => rfl)
  rw [expR, if_pos hz]
  by_cases ht : 0 ≤ n ∧ n ≤ 1000000000
  case neg =>
    rw [if_neg ht, badC_ans]
    (dsimp only [c15, rO]; simp (maxSteps := 8000000) -implicitDefEqProofs (disch := omega) only [↓reduceIte, go_sem, hf, hz, tick_at, eq_false ht])
    exact endT_v (.inr rfl) (by (simp (maxSteps := 8000000) -implicitDefEqProofs (disch := omega) only [↓reduceIte, go_sem]) <;> rfl) (fun _ => rfl)
  rw [if_pos ht]
  have hk : keep_S (fun b => [.fn 59 (capU b)]) lateU [.s (rowsT saT l), .fn 59 [.fe (.p (.int .i64 n)) 0]] = some (ansC (sasK (l.filter (lateU n)))) := keep_at (cap := fun b => [.fn 59 (capU b)]) (p := lateU) (fun x y h => capU_inj x y (by simpa using h)) l n (goodL_of hz)
  (dsimp only [c15, rO]; simp (maxSteps := 8000000) -implicitDefEqProofs (disch := omega) only [↓reduceIte, go_sem, hf, hz, tick_at, eq_true ht, hk, ansC])
  refine endT_cells' 2 (.inr rfl) (by (simp (maxSteps := 8000000) -implicitDefEqProofs (disch := omega) only [↓reduceIte, go_sem, goodC, tvCs, tvC_v, nbC, Nat.add_zero]) <;> rfl) ?_ (by simp only [List.length_cons]; omega)
  simp only [goodC, List.drop_succ_cons, List.drop_zero, bkCs, bkC, nbC, Nat.add_zero, List.append_nil, List.nil_append]
end Go.Proofs.Ytghpdclhhnbgjaa
