import Derived.Test.YtghpdclhhnbgjaaGreatD1
set_option linter.unusedSimpArgs false
set_option linter.unusedVariables false
set_option maxRecDepth 100000
set_option maxHeartbeats 4000000
namespace Go.Proofs.YtghpdclhhnbgjaaGreat
open Go Go.AH
attribute [local irreducible] awpT ropsT qopsT stepT condKT gdKT EndT joinK loopKT seqKT blkKT kont kontR
/-! Packets -/
noncomputable def adr_S := specP (fun x : Int => [.p (.int .i64 x)]) (fun x => True) (fun x => (.p (.bool (decide (0 ≤ x ∧ x ≤ 4294967295))), []))
theorem adr_at (a : Int) : adr_S [.p (.int .i64 a)] = some (.p (.bool (decide (0 ≤ a ∧ a ≤ 4294967295))), []) := specP_at (enc := fun x : Int => [.p (.int .i64 x)]) (by intro x y h; simpa using h) a trivial
-- spec.l2Address
def c156 : AF := ⟨5,
 (.seq (.reg [rO 2 (.mv (.v (.bool false)))])
 (.seq (.reg [rO 3 (.mv (.t 0)),
 rO 4 (.call 35 [(.t 3), (.v (.int .i64 0)), (.v (.int .i64 4294967295))]),
 rO 2 (.mv (.t 4))])
 .ret)),
 [.t 2]⟩
theorem k156 : cFn Tryz.prog Tryz.f156 = some c156 := by kernel_rfl
theorem l2Address_ok : OkT Tryz.prog 156 (pureSp adr_S) := by
  refine okT_fn (OkΓT.cons l1In_ok (OkΓT.nil _)) Tryz.func156 (by kernel_rfl) k156 (fun x _ => ⟨rfl, rfl⟩) ?_
  rintro x _
  dsimp only at *
  (dsimp only [c156, rO]; simp (maxSteps := 8000000) -implicitDefEqProofs (disch := omega) only [↓reduceIte, go_sem, in_at])
  repeat' first
    | ((first | refine gdKT_deq (fun hg hG => ?_) (fun hg hG => ?_) | refine condKT_deq (fun hg hG => ?_) (fun hg hG => ?_)) <;> (try simp (maxSteps := 8000000) -implicitDefEqProofs (disch := omega) only [↓reduceIte, go_sem, hG, in_at]) <;> clear hG)
    | ((first | refine gdKT_split (fun hg => ?_) (fun hg => ?_) | refine condKT_split (fun hg => ?_) (fun hg => ?_)) <;> (try simp (maxSteps := 8000000) -implicitDefEqProofs (disch := omega) only [↓reduceIte, go_sem, hg, in_at]))
    | (refine endT_p (.inr rfl) (by simp (maxSteps := 8000000) -implicitDefEqProofs (disch := omega) only [↓reduceIte, go_sem, in_at]; rfl) ?_; (first | exact vb_true (by omega) | exact vb_false (by omega) | exact vb_dec (by omega) | exact vi_eq (by omega) | rfl | (refine vi_eq ?_; simp_all; first | done | (intros; omega))))
    | exact endT_v (.inr rfl) (by simp (maxSteps := 8000000) -implicitDefEqProofs (disch := omega) only [↓reduceIte, go_sem, in_at]; try rfl) (fun _ => rfl)
-- impl.isAddress
def c90 : AF := ⟨5,
 (.seq (.reg [rO 2 (.mv (.v (.bool false)))])
 (.seq (.reg [rO 3 (.mv (.t 0)),
 rO 4 (.call 43 [(.t 3), (.v (.int .i64 0)), (.v (.int .i64 4294967295))]),
 rO 2 (.mv (.t 4))])
 .ret)),
 [.t 2]⟩
theorem k90 : cFn Tryz.prog Tryz.f90 = some c90 := by kernel_rfl
theorem isAddress_ok : OkT Tryz.prog 90 (pureSp adr_S) := by
  refine okT_fn (OkΓT.cons in_ok (OkΓT.nil _)) Tryz.func90 (by kernel_rfl) k90 (fun x _ => ⟨rfl, rfl⟩) ?_
  rintro x _
  dsimp only at *
  (dsimp only [c90, rO]; simp (maxSteps := 8000000) -implicitDefEqProofs (disch := omega) only [↓reduceIte, go_sem, in_at])
  repeat' first
    | ((first | refine gdKT_deq (fun hg hG => ?_) (fun hg hG => ?_) | refine condKT_deq (fun hg hG => ?_) (fun hg hG => ?_)) <;> (try simp (maxSteps := 8000000) -implicitDefEqProofs (disch := omega) only [↓reduceIte, go_sem, hG, in_at]) <;> clear hG)
    | ((first | refine gdKT_split (fun hg => ?_) (fun hg => ?_) | refine condKT_split (fun hg => ?_) (fun hg => ?_)) <;> (try simp (maxSteps := 8000000) -implicitDefEqProofs (disch := omega) only [↓reduceIte, go_sem, hg, in_at]))
    | (refine endT_p (.inr rfl) (by simp (maxSteps := 8000000) -implicitDefEqProofs (disch := omega) only [↓reduceIte, go_sem, in_at]; rfl) ?_; (first | exact vb_true (by omega) | exact vb_false (by omega) | exact vb_dec (by omega) | exact vi_eq (by omega) | rfl | (refine vi_eq ?_; simp_all; first | done | (intros; omega))))
    | exact endT_v (.inr rfl) (by simp (maxSteps := 8000000) -implicitDefEqProofs (disch := omega) only [↓reduceIte, go_sem, in_at]; try rfl) (fun _ => rfl)
/-! What selectors hold -/
end Go.Proofs.YtghpdclhhnbgjaaGreat
