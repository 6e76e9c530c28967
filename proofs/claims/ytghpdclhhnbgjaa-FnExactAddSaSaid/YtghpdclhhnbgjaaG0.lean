import Derived.Test.YtghpdclhhnbgjaaU11
import Derived.Test.YtghpdclhhnbgjaaD8
import Derived.Test.YtghpdclhhnbgjaaD4
import Derived.Test.YtghpdclhhnbgjaaP0
set_option linter.unusedSimpArgs false
set_option linter.unusedVariables false
set_option maxRecDepth 100000
set_option maxHeartbeats 4000000
namespace Go.Proofs.Ytghpdclhhnbgjaa
open Go Go.AH
attribute [local irreducible] awpT ropsT qopsT stepT condKT gdKT EndT joinK loopKT seqKT blkKT kont kontR
/-! Selectors and agreements as cells -/
def slC (x : SlR) : List Cell := [.v (.int .i64 x.f1), .v (.int .i64 x.f2), .v (.int .i64 x.t1), .v (.int .i64 x.t2), .v (.int .i64 x.p1), .v (.int .i64 x.p2), .v (.int .i64 x.q1), .v (.int .i64 x.q2), .v (.int .i64 x.pr)]
theorem slC_el (x : SlR) : el (fzCs (slC x)) = slT x := rfl
theorem slC_has (x : SlR) : HasR sh_Sel (slC x) := sh_Sel_mkHas _ _ _ _ _ _ _ _ _
theorem slC_ex (r : List Cell) (h : HasR sh_Sel r) : ∃ x, r = slC x := by
  obtain ⟨a0, a1, a2, a3, a4, a5, a6, a7, a8, rfl⟩ := sh_Sel_Has h
  exact ⟨⟨a0, a1, a2, a3, a4, a5, a6, a7, a8⟩, rfl⟩
theorem slC_rows (n : Nat) (l : List SlR) : tvRs n (l.map slC) = rowsT slT l ∧ bkRs n (l.map slC) = [] ∧ nbRs (l.map slC) = 0 := flatRs_map slC slT (fun _ => rfl) (fun _ _ => rfl) (fun _ _ => rfl) n l
theorem slC_fz (l : List SlR) : fzRs (l.map slC) = rowsT slT l := fzRs_map slC l
theorem slC_sz (l : List SlR) : szRs (l.map slC) = 0 := szRs_zero fun r hr => by obtain ⟨x, _, rfl⟩ := List.mem_map.1 hr; rfl
def slsC (l : List SlR) : Cell := .sl 160 9 (l.map slC)
theorem slsC_has (l : List SlR) : HasC sh_SelS (slsC l) := ⟨_, rfl, fun r hr => by obtain ⟨x, _, rfl⟩ := List.mem_map.1 hr; exact slC_has x⟩
theorem slsC_ex {c : Cell} (h : HasC sh_SelS c) : ∃ l, c = slsC l := by
  obtain ⟨rows, rfl, hr⟩ := h
  obtain ⟨l, rfl⟩ := rows_typed slC slC_ex hr
  exact ⟨l, rfl⟩
theorem slsC_szC (l : List SlR) : szC (slsC l) = l.length := by simp only [slsC, szC, slC_sz, List.length_map, Nat.add_zero]
theorem slsC_fzC (l : List SlR) : fzC (slsC l) = .s (rowsT slT l) := by simp only [slsC, fzC, slC_fz]
theorem slsC_tv (n : Nat) (l : List SlR) : tvC n (slsC l) = .os n 0 l.length := by simp only [slsC, tvC, List.length_map]
theorem slsC_bk (n : Nat) (l : List SlR) : bkC n (slsC l) = [selB l] := by simp only [slsC, bkC, slC_rows]
theorem slsC_nb (l : List SlR) : nbC (slsC l) = 1 := by simp only [slsC, nbC, (slC_rows 0 l).2.2]
def saC (x : SaR) : List Cell := [.v (.int .i64 x.spi), .v (.int .i64 x.peer), .v (.int .i64 x.key), .v (.bool x.inn), .v (.int .i64 x.sent), .v (.int .i64 x.top), .v (.int .i64 x.bits), .v (.int .i64 x.byt), .v (.int .i64 x.hard), .v (.int .i64 x.til), slsC x.sels]
theorem saC_el (x : SaR) : el (fzCs (saC x)) = saT x := by simp only [saC, fzCs, fzC, slsC_fzC, el_two]; rfl
theorem saC_has (x : SaR) : HasR sh_Sa (saC x) := sh_Sa_mkHas (slsC_has _) _ _ _ _ _ _ _ _ _ _
theorem saC_ex (r : List Cell) (h : HasR sh_Sa r) : ∃ x, r = saC x := by
  obtain ⟨a0, a1, a2, a3, a4, a5, a6, a7, a8, a9, c10, rfl, h'⟩ := sh_Sa_Has h
  obtain ⟨l, rfl⟩ := slsC_ex h'
  exact ⟨⟨a0, a1, a2, a3, a4, a5, a6, a7, a8, a9, l⟩, rfl⟩
theorem saC_fz (l : List SaR) : fzRs (l.map saC) = rowsT saT l := by rw [fzRs_map]; simp only [saC_el]; rfl
theorem saC_nb (x : SaR) : nbCs (saC x) = 1 := by simp only [saC, nbCs, nbC, slsC_nb, Nat.add_zero, Nat.zero_add]
theorem saC_nbs (l : List SaR) : nbRs (l.map saC) = l.length := by induction l with
  | nil => rfl
  | cons x l ih => simp only [List.map_cons, nbRs, saC_nb, ih, List.length_cons]; omega
theorem saC_szC (x : SaR) : szCs (saC x) = x.sels.length := by simp only [saC, szCs, szC, slsC_szC, Nat.add_zero, Nat.zero_add]
def sasC (l : List SaR) : Cell := .sl 45 11 (l.map saC)
theorem sasC_has (l : List SaR) : HasC sh_SaS (sasC l) := ⟨_, rfl, fun r hr => by obtain ⟨x, _, rfl⟩ := List.mem_map.1 hr; exact saC_has x⟩
theorem sasC_ex {c : Cell} (h : HasC sh_SaS c) : ∃ l, c = sasC l := by
  obtain ⟨rows, rfl, hr⟩ := h
  obtain ⟨l, rfl⟩ := rows_typed saC saC_ex hr
  exact ⟨l, rfl⟩
theorem sasC_fzC (l : List SaR) : fzC (sasC l) = .s (rowsT saT l) := by simp only [sasC, fzC, saC_fz]
theorem saC_szs : ∀ (l : List SaR), (∀ y ∈ l, y.sels.length ≤ szRs (l.map saC))
  | [], y, hy => by cases hy
  | x :: l, y, hy => by
    simp only [List.map_cons, szRs, saC_szC]
    rcases List.mem_cons.1 hy with rfl | hy
    · omega
    · have := saC_szs l y hy; omega
theorem sasC_szC (l : List SaR) : szC (sasC l) = l.length + szRs (l.map saC) := by simp only [sasC, szC, List.length_map]
theorem sasC_small {l : List SaR} (h : szC (sasC l) ≤ 1048576) : l.length ≤ 1048576 ∧ ∀ y ∈ l, y.sels.length ≤ 1048576 := by
  rw [sasC_szC] at h
  exact ⟨by omega, fun y hy => by have := saC_szs l y hy; omega⟩
/-! The first fault of several -/
def ffz : List Int → Int
  | [] => 0
  | x :: r => if x = 0 then ffz r else x
theorem ffz_at' {l : List Int} {i : Nat} (h : i < l.length) : ffz (l.drop i) = if l.getD i 0 = 0 then ffz (l.drop (i + 1)) else l.getD i 0 := by
  rw [List.drop_eq_getElem_cons h, ffz]
  simp [h]
noncomputable def ffz_S := specP (fun x : List Int => [.s (isT x)]) (fun x => x.length ≤ 140737488355328) (fun x => (.p (.int .i64 (ffz x)), []))
theorem ffz_at (l : List Int) (h : l.length ≤ 140737488355328) : ffz_S [.s (isT l)] = some ((.p (.int .i64 (ffz l)), [])) := specP_at (enc := fun x : List Int => [.s (isT x)]) (by rintro a0 b0 h; simp only [List.cons.injEq, and_true] at h; have h0 := h; obtain rfl := sis_inj h0; rfl) l h
-- impl.faultOf
def c92 : AF := ⟨15,
 (.seq (.reg [rO 2 (.mv (.v (.int .i64 0)))])
 (.seq (.seq (.reg [rO 5 (.mv (.t 0)),
 rO 6 (.len (.t 5)),
 rO 7 (.mv (.v (.int .i64 0)))])
 (.block 0 (.loop (.seq (.reg [rO 8 (.bin .lss (.t 7) (.t 6))])
 (.seq (.cond (.t 8) .skip
 (.exit 0))
 (.seq (.block 1 (.seq (.reg [rO 9 (.ia 1 (.t 5) (.t 7)),
 rO 10 (.ld (.t 9)),
 rO 4 (.mv (.t 10))])
 (.seq (.reg [rO 11 (.mv (.t 4)),
 rO 12 (.bin .neq (.t 11) (.v (.int .i64 0)))])
 (.cond (.t 12) (.seq (.reg [rO 13 (.mv (.t 4)),
 rO 2 (.mv (.t 13))])
 .ret)
 .skip))))
 (.reg [rO 14 (.bin .add (.t 7) (.v (.int .i64 1))),
 rO 7 (.mv (.t 14))])))))))
 (.seq (.reg [rO 2 (.mv (.v (.int .i64 0)))])
 .ret))),
 [.t 2]⟩
theorem k92 : cFn Try.prog Try.f92 = some c92 := by kernel_rfl
theorem ffz_ok : OkT Try.prog 92 (pureSp ffz_S) := by
  refine okT_fn (OkΓT.nil _) Try.func92 (by kernel_rfl) k92 (fun x _ => ⟨by first | rfl | simp only [go_sem], by first | rfl | simp only [go_sem]⟩) ?_
  rintro l hl
  try dsimp only at *
  have hlen := is_len l
  (dsimp only [c92, rO]; simp (maxSteps := 8000000) -implicitDefEqProofs (disch := omega) only [↓reduceIte, go_sem, hlen])
  refine awpT_loop (α := Nat) (fun i => ⟨slots [(5, .s (isT l)), (6, .p (.int .i64 l.length)), (7, .p (.int .i64 i))], []⟩) (fun i => i ≤ l.length ∧ ffz (l.drop i) = ffz l) (fun i => l.length - i) 0 ⟨by omega, by simp⟩ (by simp only [nat0T]; exact (le_of [] (by simp (maxSteps := 8000000) -implicitDefEqProofs (disch := omega) only [↓reduceIte, go_sem]) (by simp (maxSteps := 8000000) -implicitDefEqProofs (disch := omega) only [↓reduceIte, go_sem]) (by decide) (by simp))) ?_
  intro i ⟨hi, hinv⟩
  simp (maxSteps := 8000000) -implicitDefEqProofs (disch := omega) only [↓reduceIte, go_sem]
  refine condKT_dec (fun hlt => ?_) (fun hge => ?_)
  · have g := is_get (l := l) (i := i) (by omega)
    rw [ffz_at' (by omega)] at hinv
    by_cases hz : l.getD i 0 = 0
    · rw [if_pos hz] at hinv
      simp (maxSteps := 8000000) -implicitDefEqProofs (disch := omega) only [↓reduceIte, go_sem, eq_true hlt, Int.toNat_natCast, g, eq_true hz]
      refine loopKT_next (i + 1) ⟨by omega, hinv⟩ (by omega) ?_
      exact (le_of [] (by simp (maxSteps := 8000000) -implicitDefEqProofs (disch := omega) only [↓reduceIte, go_sem]) (by simp (maxSteps := 8000000) -implicitDefEqProofs (disch := omega) only [↓reduceIte, go_sem]) (by decide) (by simp))
    · rw [if_neg hz] at hinv
      rw [← hinv]
      generalize l.getD i 0 = v at *
      simp (maxSteps := 8000000) -implicitDefEqProofs (disch := omega) only [↓reduceIte, go_sem, eq_true hlt, Int.toNat_natCast, g, eq_false hz]
      exact endT_v (.inr rfl) (by (simp (maxSteps := 8000000) -implicitDefEqProofs (disch := omega) only [↓reduceIte, go_sem]) <;> rfl) (fun _ => rfl)
  · rw [show l.drop i = [] from List.drop_eq_nil_of_le (by omega), ffz] at hinv
    rw [← hinv]
    simp (maxSteps := 8000000) -implicitDefEqProofs (disch := omega) only [↓reduceIte, go_sem, eq_false hge]
    refine joinK_here ?_
    simp (maxSteps := 8000000) -implicitDefEqProofs (disch := omega) only [↓reduceIte, go_sem]
    exact endT_v (.inr rfl) (by (simp (maxSteps := 8000000) -implicitDefEqProofs (disch := omega) only [↓reduceIte, go_sem]) <;> rfl) (fun _ => rfl)

end Go.Proofs.Ytghpdclhhnbgjaa
