import Derived.Test.YtghpdclhhnbgjaaG5
set_option linter.unusedSimpArgs false
set_option linter.unusedVariables false
set_option maxRecDepth 100000
set_option maxHeartbeats 4000000
namespace Go.Proofs.Ytghpdclhhnbgjaa
open Go Go.AH
attribute [local irreducible] awpT ropsT qopsT stepT condKT gdKT EndT joinK loopKT seqKT blkKT kont kontR
-- impl.all
def c94 : AF := ⟨3,
 (.seq (.reg [rO 1 (.box 45 (.t 0)),
 rO 2 (.mv (.v (.bool false)))])
 (.seq (.reg [rO 2 (.mv (.v (.bool true)))])
 .ret)),
 [.t 2]⟩
theorem k94 : cFn Try.prog Try.f94 = some c94 := by kernel_rfl
theorem all_ok : OkT Try.prog 94 (pureSp (asks_S (fun _ : Unit => []) (fun _ _ => true))) := by
  refine okT_fn (OkΓT.nil _) Try.func94 (by kernel_rfl) k94 (fun x _ => ⟨rfl, rfl⟩) ?_
  rintro ⟨x, s⟩ _
  dsimp only [saT] at *
  (dsimp only [c94, rO]; simp (maxSteps := 8000000) -implicitDefEqProofs (disch := omega) only [↓reduceIte, go_sem])
  repeat' first
    | ((first | refine gdKT_deq (fun hg hG => ?_) (fun hg hG => ?_) | refine condKT_deq (fun hg hG => ?_) (fun hg hG => ?_)) <;> (try simp (maxSteps := 8000000) -implicitDefEqProofs (disch := omega) only [↓reduceIte, go_sem, hG]) <;> clear hG)
    | ((first | refine gdKT_split (fun hg => ?_) (fun hg => ?_) | refine condKT_split (fun hg => ?_) (fun hg => ?_)) <;> (try simp (maxSteps := 8000000) -implicitDefEqProofs (disch := omega) only [↓reduceIte, go_sem, hg]))
    | (refine endT_p (.inr rfl) (by simp (maxSteps := 8000000) -implicitDefEqProofs (disch := omega) only [↓reduceIte, go_sem]; rfl) ?_; (first | exact vb_true (by omega) | exact vb_false (by omega) | exact vb_dec (by omega) | exact vi_eq (by omega) | rfl | (refine vi_eq ?_; simp_all; first | done | (intros; omega))))
    | exact endT_v (.inr rfl) (by simp (maxSteps := 8000000) -implicitDefEqProofs (disch := omega) only [↓reduceIte, go_sem]; try rfl) (fun _ => rfl)
theorem keepE_ok : OkT Try.prog 58 (pureSp (keep_S (fun _ : Unit => [.fn 94 []]) (fun _ _ => true))) := cloneSas_ok (cap := fun _ : Unit => []) (fun _ _ _ => rfl) (fun _ _ _ => rfl) (fun _ _ => rfl) (fun _ _ => rfl) (by decide) all_ok
theorem keepE_at (l : List SaR) (h : goodL l) : keep_S (fun _ : Unit => [.fn 94 []]) (fun _ _ => true) [.s (rowsT saT l), .fn 94 []] = some (ansC (sasK l)) := by
  have := keep_at (cap := fun _ : Unit => [.fn 94 []]) (p := fun _ _ => true) (fun _ _ _ => rfl) l () h
  rw [filter_all] at this; exact this
theorem sasK_nb (l : List SaR) : nbC (sasK l) = l.length + 1 := by simp only [sasK, nbC, saC_nbs]; omega
theorem sas_S (m : Nat) (l : List SaR) : ∃ S, bkRs m (l.map saC) = S ∧ S.length = l.length := ⟨_, rfl, by rw [bkRs_len, saC_nbs]⟩
theorem sas_E (m : Nat) (l : List SaR) : ∃ E, tvRs m (l.map saC) = E ∧ E.length = l.length := ⟨_, rfl, by rw [tvRs_len, List.length_map]⟩
theorem keepK (l : List SaR) : (ansC (sasK l) : TV × THeap) = (.os 0 0 l.length, .cells 45 (zOf l.length 11) (tvRs 1 (l.map saC)) :: bkRs 1 (l.map saC)) := by rw [ansC, sasK_tv, sasK_bk]
theorem ren_m_tvRs (n : Nat) (rs : List (List Cell)) : renTs (fun b => b + n) (tvRs 1 rs) = tvRs (n + 1) rs := ren_tvRs rs 1 (n + 1) fun i _ => by omega
theorem ren_m_bkRs (n : Nat) (rs : List (List Cell)) : (bkRs 1 rs).map (renB fun b => b + n) = bkRs (n + 1) rs := ren_bkRs rs 1 (n + 1) fun i _ => by omega
end Go.Proofs.Ytghpdclhhnbgjaa
