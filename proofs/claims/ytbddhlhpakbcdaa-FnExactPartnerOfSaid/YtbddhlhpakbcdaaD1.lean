import Derived.Test.YtbddhlhpakbcdaaLU
import Derived.Test.YtbddhlhpakbcdaaProg
set_option linter.unusedSimpArgs false
set_option linter.unusedVariables false
set_option maxRecDepth 100000
set_option maxHeartbeats 4000000
namespace Go.Proofs.Ytbddhlhpakbcdaa
open Go Go.AH
attribute [local irreducible] awpT ropsT qopsT stepT condKT gdKT EndT joinK loopKT seqKT blkKT kont kontR ropsTF frKT
-- spec.l1In
def c54 : AF := ⟨15,
 (.seq (.reg [rO 6 (.mv (.v (.bool false)))])
 (.seq (.reg [rO 7 (.mv (.t 0)),
 rO 8 (.mv (.t 1)),
 rO 9 (.bin .geq (.t 7) (.t 8)),
 rO 10 (.mv (.t 9)),
 ⟨(some 11), (some (10, true)), .mv (.t 0)⟩,
 ⟨(some 12), (some (10, true)), .mv (.t 2)⟩,
 ⟨(some 13), (some (10, true)), .bin .leq (.t 11) (.t 12)⟩,
 rO 14 (.pick (.t 10) (.t 13) (.v (.bool false))),
 rO 6 (.mv (.t 14))])
 .ret)),
 [.t 6]⟩
theorem k54 : cFn Try.prog Try.f54 = some c54 := by kernel_rfl
-- impl.in
def c48 : AF := ⟨15,
 (.seq (.reg [rO 6 (.mv (.v (.bool false)))])
 (.seq (.reg [rO 7 (.mv (.t 0)),
 rO 8 (.mv (.t 1)),
 rO 9 (.bin .geq (.t 7) (.t 8)),
 rO 10 (.mv (.t 9)),
 ⟨(some 11), (some (10, true)), .mv (.t 0)⟩,
 ⟨(some 12), (some (10, true)), .mv (.t 2)⟩,
 ⟨(some 13), (some (10, true)), .bin .leq (.t 11) (.t 12)⟩,
 rO 14 (.pick (.t 10) (.t 13) (.v (.bool false))),
 rO 6 (.mv (.t 14))])
 .ret)),
 [.t 6]⟩
theorem k48 : cFn Try.prog Try.f48 = some c48 := by kernel_rfl
/-! In a range -/
noncomputable def in_S := specP (fun x : Int × Int × Int => [.p (.int .i64 x.1), .p (.int .i64 x.2.1), .p (.int .i64 x.2.2)]) (fun _ => True) (fun x => (.p (.bool (decide (x.2.1 ≤ x.1 ∧ x.1 ≤ x.2.2))), []))
theorem in_at (a b c : Int) : in_S [.p (.int .i64 a), .p (.int .i64 b), .p (.int .i64 c)] = some (.p (.bool (decide (b ≤ a ∧ a ≤ c))), []) :=
  specP_at (enc := fun x : Int × Int × Int => [.p (.int .i64 x.1), .p (.int .i64 x.2.1), .p (.int .i64 x.2.2)]) (by rintro ⟨a, b, c⟩ ⟨a', b', c'⟩ h; simp at h; simp [h]) (a, b, c) trivial
theorem l1In_ok : OkT Try.prog 54 (pureSp in_S) := by
  refine okT_fn (OkΓT.nil _) Try.func54 (by kernel_rfl) k54 (fun x _ => ⟨rfl, rfl⟩) ?_
  rintro ⟨a, b, c⟩ _
  dsimp only
  (dsimp only [c54, rO]; simp (maxSteps := 8000000) -implicitDefEqProofs (disch := omega) only [↓reduceIte, go_sem])
  repeat' first
    | ((first | refine gdKT_deq (fun hg hG => ?_) (fun hg hG => ?_) | refine condKT_deq (fun hg hG => ?_) (fun hg hG => ?_)) <;> (try simp (maxSteps := 8000000) -implicitDefEqProofs (disch := omega) only [↓reduceIte, go_sem, hG]) <;> clear hG)
    | ((first | refine gdKT_split (fun hg => ?_) (fun hg => ?_) | refine condKT_split (fun hg => ?_) (fun hg => ?_)) <;> (try simp (maxSteps := 8000000) -implicitDefEqProofs (disch := omega) only [↓reduceIte, go_sem, hg]))
    | (refine endT_p (.inr rfl) (by simp (maxSteps := 8000000) -implicitDefEqProofs (disch := omega) only [↓reduceIte, go_sem]; rfl) ?_; (first | exact vb_true (by omega) | exact vb_false (by omega) | exact vb_dec (by omega) | exact vi_eq (by omega) | rfl | (refine vi_eq ?_; simp_all; first | done | (intros; omega))))
    | exact endT_v (.inr rfl) (by simp (maxSteps := 8000000) -implicitDefEqProofs (disch := omega) only [↓reduceIte, go_sem]; try rfl) (fun _ => rfl)
theorem in_ok : OkT Try.prog 48 (pureSp in_S) := by
  refine okT_fn (OkΓT.nil _) Try.func48 (by kernel_rfl) k48 (fun x _ => ⟨rfl, rfl⟩) ?_
  rintro ⟨a, b, c⟩ _
  dsimp only
  (dsimp only [c48, rO]; simp (maxSteps := 8000000) -implicitDefEqProofs (disch := omega) only [↓reduceIte, go_sem])
  repeat' first
    | ((first | refine gdKT_deq (fun hg hG => ?_) (fun hg hG => ?_) | refine condKT_deq (fun hg hG => ?_) (fun hg hG => ?_)) <;> (try simp (maxSteps := 8000000) -implicitDefEqProofs (disch := omega) only [↓reduceIte, go_sem, hG]) <;> clear hG)
    | ((first | refine gdKT_split (fun hg => ?_) (fun hg => ?_) | refine condKT_split (fun hg => ?_) (fun hg => ?_)) <;> (try simp (maxSteps := 8000000) -implicitDefEqProofs (disch := omega) only [↓reduceIte, go_sem, hg]))
    | (refine endT_p (.inr rfl) (by simp (maxSteps := 8000000) -implicitDefEqProofs (disch := omega) only [↓reduceIte, go_sem]; rfl) ?_; (first | exact vb_true (by omega) | exact vb_false (by omega) | exact vb_dec (by omega) | exact vi_eq (by omega) | rfl | (refine vi_eq ?_; simp_all; first | done | (intros; omega))))
    | exact endT_v (.inr rfl) (by simp (maxSteps := 8000000) -implicitDefEqProofs (disch := omega) only [↓reduceIte, go_sem]; try rfl) (fun _ => rfl)
/-! Two ends -/
/-! Selectors -/
structure SlR where
  (f1 f2 t1 t2 p1 p2 q1 q2 pr : Int)
def slT (x : SlR) : TV := .agg [.p (.int .i64 x.f1), .p (.int .i64 x.f2), .p (.int .i64 x.t1), .p (.int .i64 x.t2), .p (.int .i64 x.p1), .p (.int .i64 x.p2), .p (.int .i64 x.q1), .p (.int .i64 x.q2), .p (.int .i64 x.pr)]
theorem slT_flat : Flat slT 9 := ⟨fun _ => rfl, fun h n x => by simp only [slT, frz_agg, frz_p, List.map_cons, List.map_nil], fun _ _ => rfl⟩
theorem sls_sized (l : List SlR) : sizedT 9 (rowsT slT l) = true := rowsT_sized slT_flat l
theorem sls_frz (h : THeap) (n : Nat) (l : List SlR) : (rowsT slT l).map (frzT h n) = rowsT slT l := rowsT_frz slT_flat h n l
theorem sls_ren (ρ : Nat → Nat) (l : List SlR) : renTs ρ (rowsT slT l) = rowsT slT l := rowsT_ren slT_flat ρ l
theorem sls_own (l : List SlR) : ownTs (rowsT slT l) = true := rowsT_own (fun _ => rfl) l
theorem sls_snoc (l : List SlR) (x : SlR) : rowsT slT l ++ [.agg [.p (.int .i64 x.f1), .p (.int .i64 x.f2), .p (.int .i64 x.t1), .p (.int .i64 x.t2), .p (.int .i64 x.p1), .p (.int .i64 x.p2), .p (.int .i64 x.q1), .p (.int .i64 x.q2), .p (.int .i64 x.pr)]] = rowsT slT (l ++ [x]) := rowsT_snoc l x
attribute [go_sem] sls_sized sls_frz sls_ren sls_own sls_snoc
/-! Rows of selectors -/
/-! Right selectors -/
end Go.Proofs.Ytbddhlhpakbcdaa
