import Derived.Test.YtghpdclhhnbgjaaGreatU9
set_option linter.unusedSimpArgs false
set_option linter.unusedVariables false
set_option maxRecDepth 100000
set_option maxHeartbeats 4000000
namespace Go.Proofs.YtghpdclhhnbgjaaGreat
open Go Go.AH
attribute [local irreducible] awpT ropsT qopsT stepT condKT gdKT EndT joinK loopKT seqKT blkKT kont kontR
-- laws.markSa
def c21 : AF := ⟨10,
 (.seq (.reg [rO 2 (.box 54 (.t 0)),
 rO 4 (.mv (.v (.int .i64 0)))])
 (.seq (.reg [rO 5 (.fa (.t 2) 10),
 rO 6 (.ld (.t 5)),
 rO 7 (.mv (.t 1)),
 rO 8 (.call 63 [(.t 6), (.t 7)]),
 rO 1 (.mv (.t 8))])
 (.seq (.reg [rO 9 (.mv (.t 1)),
 rO 4 (.mv (.t 9))])
 .ret))),
 [.t 4]⟩
theorem k21 : cFn Tryz.prog Tryz.f21 = some c21 := by kernel_rfl
theorem markSa_ok : OkT Tryz.prog 21 (mkR_Sp sh_Sa) := by
  refine okT_mkR (OkΓT.cons markSelS_ok (OkΓT.nil _)) Tryz.func21 (by kernel_rfl) k21 ?_
  intro c k hc h1 hz
  obtain ⟨a0, a1, a2, a3, a4, a5, a6, a7, a8, a9, c10, rfl, hc10⟩ := sh_Sa_Fit hc
  simp only [wtCs, wtC_v, Nat.zero_add, Nat.add_zero] at hz ⊢
  simp only [mkCs, mkC_v, wtC_v, nat0T, Int.add_zero]
  simp only [tvCs, tvC_v, tvC_nl, tvC_sl, nbC, Nat.add_zero, Nat.zero_add]
  generalize hN : nbCs _ = N
  have l0 : (bkCs 0 [.v (.int .i64 a0), .v (.int .i64 a1), .v (.int .i64 a2), .v (.bool a3), .v (.int .i64 a4), .v (.int .i64 a5), .v (.int .i64 a6), .v (.int .i64 a7), .v (.int .i64 a8), .v (.int .i64 a9), c10]).length = N := by rw [bkCs_len]; exact hN
  (dsimp only [c21, rO]; simp (maxSteps := 8000000) -implicitDefEqProofs (disch := omega) only [↓reduceIte, go_sem, l0, get_last l0])
  have m0 := fun X => mk_cell (A := [.v (.int .i64 a0), .v (.int .i64 a1), .v (.int .i64 a2), .v (.bool a3), .v (.int .i64 a4), .v (.int .i64 a5), .v (.int .i64 a6), .v (.int .i64 a7), .v (.int .i64 a8), .v (.int .i64 a9)]) (B := []) (G := [X]) (n := 0) (k := k) (by simp only [nbCs, nbC, mkC_nb] <;> omega) hc10 (by omega) (by omega)
  simp only [List.cons_append, List.nil_append, mkCs, mkC_v, wtCs, wtC_v, nat0T, Int.add_zero, Nat.add_zero, Nat.zero_add, tvCs, tvC_v, tvC_nl, tvC_sl, nbC, natAT, ← Int.add_assoc, mkC_tv, mkC_nb] at m0
  have l1 : (bkCs 0 [.v (.int .i64 a0), .v (.int .i64 a1), .v (.int .i64 a2), .v (.bool a3), .v (.int .i64 a4), .v (.int .i64 a5), .v (.int .i64 a6), .v (.int .i64 a7), .v (.int .i64 a8), .v (.int .i64 a9), (mkC c10 (k))]).length = N := by rw [bkCs_len, ← hN]; simp only [nbCs, mkC_nb]
  refine mutQ_call (by simp (maxSteps := 8000000) -implicitDefEqProofs (disch := omega) only [↓reduceIte, go_sem]; rfl) (by simp (maxSteps := 8000000) -implicitDefEqProofs (disch := omega) only [↓reduceIte, go_sem]) (m0 _) ?_
  simp (maxSteps := 8000000) -implicitDefEqProofs (disch := omega) only [↓reduceIte, go_sem, l1, get_last l1]
  exact endK_cells (.inr rfl) (by rw [← hN]; simp only [nbCs, mkC_nb]; omega) (by (simp (maxSteps := 8000000) -implicitDefEqProofs (disch := omega) only [↓reduceIte, go_sem, natAT, ← Int.add_assoc]) <;> rfl) rfl
end Go.Proofs.YtghpdclhhnbgjaaGreat
