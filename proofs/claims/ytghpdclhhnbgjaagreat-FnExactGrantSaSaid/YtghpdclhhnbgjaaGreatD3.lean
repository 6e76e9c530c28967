import Derived.Test.YtghpdclhhnbgjaaGreatD2
set_option linter.unusedSimpArgs false
set_option linter.unusedVariables false
set_option maxRecDepth 100000
set_option maxHeartbeats 4000000
namespace Go.Proofs.YtghpdclhhnbgjaaGreat
open Go Go.AH
attribute [local irreducible] awpT ropsT qopsT stepT condKT gdKT EndT joinK loopKT seqKT blkKT kont kontR
/-! Rows of agreements -/
def saZ : TV := .agg [.p (.int .i64 0), .p (.int .i64 0), .p (.int .i64 0), .p (.bool false), .p (.int .i64 0), .p (.int .i64 0), .p (.int .i64 0), .p (.int .i64 0), .p (.int .i64 0), .p (.int .i64 0), .nl]
theorem saZ_el : el [.p (.int .i64 0), .p (.int .i64 0), .p (.int .i64 0), .p (.bool false), .p (.int .i64 0), .p (.int .i64 0), .p (.int .i64 0), .p (.int .i64 0), .p (.int .i64 0), .p (.int .i64 0), .nl] = saZ := rfl
theorem saZ_cells : cellsT saZ = [.p (.int .i64 0), .p (.int .i64 0), .p (.int .i64 0), .p (.bool false), .p (.int .i64 0), .p (.int .i64 0), .p (.int .i64 0), .p (.int .i64 0), .p (.int .i64 0), .p (.int .i64 0), .nl] := rfl
theorem sas_inj {l l' : List SaR} (h : rowsT saT l = rowsT saT l') : l = l' := rowsT_inj saT_inj h
theorem saF_atx (x : SaR) (h : x.sels.length ≤ 140737488355328) : saF_S [.agg [.p (.int .i64 x.spi), .p (.int .i64 x.peer), .p (.int .i64 x.key), .p (.bool x.inn), .p (.int .i64 x.sent), .p (.int .i64 x.top), .p (.int .i64 x.bits), .p (.int .i64 x.byt), .p (.int .i64 x.hard), .p (.int .i64 x.til), .s (rowsT slT x.sels)]] = some (.p (.int .i64 (saF x)), []) := saF_at x.spi x.peer x.key x.inn x.sent x.top x.bits x.byt x.hard x.til x.sels h
/-! How many -/
/-! Alike -/
/-! Faults of rows of agreements -/
def badO : Option Int → Int → Prop
  | none, _ => False
  | some p, s => s ≤ p
instance (p : Option Int) (s : Int) : Decidable (badO p s) := by cases p <;> simp only [badO] <;> infer_instance
def firstS : Option Int → List SaR → Int
  | _, [] => 0
  | p, x :: r => if saF x = 0 then (if badO p x.spi then 1 else firstS (some x.spi) r) else saF x
def prevO (l : List SaR) (i : Nat) : Option Int := if i = 0 then none else (l[i - 1]?).map (·.spi)
theorem prevO_succ {l : List SaR} {i : Nat} {x : SaR} (h : l[i]? = some x) : prevO l (i + 1) = some x.spi := by simp [prevO, h]
theorem firstS_at {l : List SaR} {i : Nat} {x : SaR} {p : Option Int} (h : l[i]? = some x) : firstS p (l.drop i) = if saF x = 0 then (if badO p x.spi then 1 else firstS (some x.spi) (l.drop (i + 1))) else saF x := by
  have hlt := (List.getElem?_eq_some_iff.1 h).1
  rw [List.drop_eq_getElem_cons hlt, (List.getElem?_eq_some_iff.1 h).2, firstS]
def sasF (l : List SaR) : Int := if l.length ≤ 12 then firstS none l else 2
noncomputable def sasF_S := specP (fun x : List SaR => [.s (rowsT saT x)]) (fun x => x.length ≤ 140737488355328 ∧ ∀ y ∈ x, y.sels.length ≤ 140737488355328) (fun x => (.p (.int .i64 (sasF x)), []))
-- spec.SasFault
def c84 : AF := ⟨38,
 (.seq (.reg [rO 2 (.mv (.v (.int .i64 0)))])
 (.seq (.seq (.reg [rO 5 (.mv (.t 0)),
 rO 6 (.len (.t 5)),
 rO 7 (.bin .gtr (.t 6) (.v (.int .i64 12)))])
 (.cond (.t 7) (.seq (.reg [rO 2 (.mv (.v (.int .i64 2)))])
 .ret)
 .skip))
 (.seq (.seq (.reg [rO 3 (.mv (.v (.int .i64 0)))])
 (.block 0 (.loop (.seq (.seq (.reg [rO 8 (.mv (.t 3)),
 rO 9 (.mv (.t 0)),
 rO 10 (.len (.t 9)),
 rO 11 (.bin .lss (.t 8) (.t 10))])
 (.cond (.t 11) .skip
 (.exit 0)))
 (.seq (.block 1 (.seq (.seq (.reg [rO 14 (.mv (.t 0)),
 rO 15 (.mv (.t 3)),
 rO 16 (.ia 11 (.t 14) (.t 15)),
 rO 17 (.ldn 11 (.t 16)),
 rO 18 (.call 110 [(.t 17)]),
 rO 4 (.mv (.t 18))])
 (.seq (.reg [rO 19 (.mv (.t 4)),
 rO 20 (.bin .neq (.t 19) (.v (.int .i64 0)))])
 (.cond (.t 20) (.seq (.reg [rO 21 (.mv (.t 4)),
 rO 2 (.mv (.t 21))])
 .ret)
 .skip)))
 (.seq (.drw [rO 22 (.mv (.t 3)),
 rO 23 (.bin .gtr (.t 22) (.v (.int .i64 0))),
 rO 24 (.mv (.t 23)),
 ⟨(some 25), (some (24, true)), .mv (.t 0)⟩,
 ⟨(some 26), (some (24, true)), .mv (.t 3)⟩,
 ⟨(some 27), (some (24, true)), .ia 11 (.t 25) (.t 26)⟩,
 ⟨(some 28), (some (24, true)), .fa (.t 27) 0⟩,
 ⟨(some 29), (some (24, true)), .ld (.t 28)⟩,
 ⟨(some 30), (some (24, true)), .mv (.t 0)⟩,
 ⟨(some 31), (some (24, true)), .mv (.t 3)⟩,
 ⟨(some 32), (some (24, true)), .bin .sub (.t 31) (.v (.int .i64 1))⟩,
 ⟨(some 33), (some (24, true)), .ia 11 (.t 30) (.t 32)⟩,
 ⟨(some 34), (some (24, true)), .fa (.t 33) 0⟩,
 ⟨(some 35), (some (24, true)), .ld (.t 34)⟩] [⟨(some 36), (some (24, true)), .bin .leq (.t 29) (.t 35)⟩,
 rO 37 (.pick (.t 24) (.t 36) (.v (.bool false)))])
 (.cond (.t 37) (.seq (.reg [rO 2 (.mv (.v (.int .i64 1)))])
 .ret)
 .skip))))
 (.reg [rO 12 (.mv (.t 3)),
 rO 13 (.bin .add (.t 12) (.v (.int .i64 1))),
 rO 3 (.mv (.t 13))]))))))
 (.seq (.reg [rO 2 (.mv (.v (.int .i64 0)))])
 .ret)))),
 [.t 2]⟩
theorem k84 : cFn Tryz.prog Tryz.f84 = some c84 := by kernel_rfl
theorem sasFS_ok : OkT Tryz.prog 84 (pureSp sasF_S) := by
  refine okT_fn (OkΓT.cons saFS_ok (OkΓT.nil _)) Tryz.func84 (by kernel_rfl) k84 (fun x _ => ⟨rfl, rfl⟩) ?_
  rintro l ⟨hl, hs⟩
  dsimp only at *
  by_cases hr : l.length ≤ 12
  case neg =>
    rw [show sasF l = 2 by simp only [sasF]; rw [if_neg hr]]
    (dsimp only [c84, rO]; simp (maxSteps := 8000000) -implicitDefEqProofs (disch := omega) only [↓reduceIte, go_sem])
    repeat' first
      | ((first | refine gdKT_deq (fun hg hG => ?_) (fun hg hG => ?_) | refine condKT_deq (fun hg hG => ?_) (fun hg hG => ?_)) <;> (try simp (maxSteps := 8000000) -implicitDefEqProofs (disch := omega) only [↓reduceIte, go_sem, hG]) <;> clear hG)
      | ((first | refine gdKT_split (fun hg => ?_) (fun hg => ?_) | refine condKT_split (fun hg => ?_) (fun hg => ?_)) <;> (try simp (maxSteps := 8000000) -implicitDefEqProofs (disch := omega) only [↓reduceIte, go_sem, hg]))
      | (refine endT_p (.inr rfl) (by simp (maxSteps := 8000000) -implicitDefEqProofs (disch := omega) only [↓reduceIte, go_sem]; rfl) ?_; (first | exact vb_true (by omega) | exact vb_false (by omega) | exact vb_dec (by omega) | exact vi_eq (by omega) | rfl | (refine vi_eq ?_; simp_all; first | done | (intros; omega))))
      | exact endT_v (.inr rfl) (by simp (maxSteps := 8000000) -implicitDefEqProofs (disch := omega) only [↓reduceIte, go_sem]; try rfl) (fun _ => rfl)
  rw [show sasF l = firstS none l by simp only [sasF]; rw [if_pos hr]]
  (dsimp only [c84, rO]; simp (maxSteps := 8000000) -implicitDefEqProofs (disch := omega) only [↓reduceIte, go_sem])
  refine awpT_loop (α := Nat) (fun i => ⟨slots [(0, .s (rowsT saT l)), (3, .p (.int .i64 i))], []⟩) (fun i => i ≤ l.length ∧ firstS (prevO l i) (l.drop i) = firstS none l) (fun i => l.length - i) 0 ⟨by omega, by simp [prevO]⟩ (le_of [] (by simp (maxSteps := 8000000) -implicitDefEqProofs (disch := omega) only [↓reduceIte, go_sem]) (by simp (maxSteps := 8000000) -implicitDefEqProofs (disch := omega) only [↓reduceIte, go_sem]) (by decide) (by simp)) ?_
  intro i ⟨hi, hinv⟩
  simp (maxSteps := 8000000) -implicitDefEqProofs (disch := omega) only [↓reduceIte, go_sem]
  refine condKT_dec (fun hlt => ?_) (fun hge => ?_)
  · obtain ⟨x, hx⟩ := get_ex (l := l) (i := i) (by omega)
    have hxs := hs x (List.mem_of_getElem? hx)
    rw [firstS_at hx, ← prevO_succ hx] at hinv
    by_cases hz : saF x = 0
    · rw [if_pos hz] at hinv
      by_cases h0 : i = 0
      · rw [show prevO l i = none by simp [prevO, h0], if_neg (by simp [badO])] at hinv
        simp (maxSteps := 8000000) -implicitDefEqProofs (disch := omega) only [↓reduceIte, go_sem, hx, saT, saF_atx x hxs, hz, eq_true hlt]
        refine loopKT_next (i + 1) ⟨by omega, hinv⟩ (by omega) ?_
        exact (le_of [] (by simp (maxSteps := 8000000) -implicitDefEqProofs (disch := omega) only [↓reduceIte, go_sem]) (by simp (maxSteps := 8000000) -implicitDefEqProofs (disch := omega) only [↓reduceIte, go_sem]) (by decide) (by simp))
      · obtain ⟨y, hy⟩ := get_ex (l := l) (i := i - 1) (by omega)
        rw [show prevO l i = some y.spi by simp [prevO, h0, hy]] at hinv
        have hpi : ((i : Int) - 1).toNat = i - 1 := by omega
        by_cases hb : x.spi ≤ y.spi
        · rw [if_pos (show badO (some y.spi) x.spi from hb)] at hinv
          rw [← hinv]
          simp (maxSteps := 8000000) -implicitDefEqProofs (disch := omega) only [↓reduceIte, go_sem, hx, hy, hpi, saT, saF_atx x hxs, hz, eq_true hlt, eq_true hb]
          repeat' first
            | ((first | refine gdKT_deq (fun hg hG => ?_) (fun hg hG => ?_) | refine condKT_deq (fun hg hG => ?_) (fun hg hG => ?_)) <;> (try simp (maxSteps := 8000000) -implicitDefEqProofs (disch := omega) only [↓reduceIte, go_sem, hG, hx, hy, hpi, saT, saF_atx x hxs, hz, eq_true hlt, eq_true hb]) <;> clear hG)
            | ((first | refine gdKT_split (fun hg => ?_) (fun hg => ?_) | refine condKT_split (fun hg => ?_) (fun hg => ?_)) <;> (try simp (maxSteps := 8000000) -implicitDefEqProofs (disch := omega) only [↓reduceIte, go_sem, hg, hx, hy, hpi, saT, saF_atx x hxs, hz, eq_true hlt, eq_true hb]))
            | (refine endT_p (.inr rfl) (by simp (maxSteps := 8000000) -implicitDefEqProofs (disch := omega) only [↓reduceIte, go_sem, hx, hy, hpi, saT, saF_atx x hxs, hz, eq_true hlt, eq_true hb]; rfl) ?_; (first | exact vb_true (by omega) | exact vb_false (by omega) | exact vb_dec (by omega) | exact vi_eq (by omega) | rfl | (refine vi_eq ?_; simp_all; first | done | (intros; omega))))
            | exact endT_v (.inr rfl) (by simp (maxSteps := 8000000) -implicitDefEqProofs (disch := omega) only [↓reduceIte, go_sem, hx, hy, hpi, saT, saF_atx x hxs, hz, eq_true hlt, eq_true hb]; try rfl) (fun _ => rfl)
        · rw [if_neg (show ¬ badO (some y.spi) x.spi from hb)] at hinv
          simp (maxSteps := 8000000) -implicitDefEqProofs (disch := omega) only [↓reduceIte, go_sem, hx, hy, hpi, saT, saF_atx x hxs, hz, eq_true hlt, eq_false hb]
          refine loopKT_next (i + 1) ⟨by omega, hinv⟩ (by omega) ?_
          exact (le_of [] (by simp (maxSteps := 8000000) -implicitDefEqProofs (disch := omega) only [↓reduceIte, go_sem]) (by simp (maxSteps := 8000000) -implicitDefEqProofs (disch := omega) only [↓reduceIte, go_sem]) (by decide) (by simp))
    · rw [if_neg hz] at hinv
      rw [← hinv]
      simp (maxSteps := 8000000) -implicitDefEqProofs (disch := omega) only [↓reduceIte, go_sem, hx, saT, saF_atx x hxs, eq_false hz, eq_true hlt]
      repeat' first
        | ((first | refine gdKT_deq (fun hg hG => ?_) (fun hg hG => ?_) | refine condKT_deq (fun hg hG => ?_) (fun hg hG => ?_)) <;> (try simp (maxSteps := 8000000) -implicitDefEqProofs (disch := omega) only [↓reduceIte, go_sem, hG, hx, saT, saF_atx x hxs, eq_false hz, eq_true hlt]) <;> clear hG)
        | ((first | refine gdKT_split (fun hg => ?_) (fun hg => ?_) | refine condKT_split (fun hg => ?_) (fun hg => ?_)) <;> (try simp (maxSteps := 8000000) -implicitDefEqProofs (disch := omega) only [↓reduceIte, go_sem, hg, hx, saT, saF_atx x hxs, eq_false hz, eq_true hlt]))
        | (refine endT_p (.inr rfl) (by simp (maxSteps := 8000000) -implicitDefEqProofs (disch := omega) only [↓reduceIte, go_sem, hx, saT, saF_atx x hxs, eq_false hz, eq_true hlt]; rfl) ?_; (first | exact vb_true (by omega) | exact vb_false (by omega) | exact vb_dec (by omega) | exact vi_eq (by omega) | rfl | (refine vi_eq ?_; simp_all; first | done | (intros; omega))))
        | exact endT_v (.inr rfl) (by simp (maxSteps := 8000000) -implicitDefEqProofs (disch := omega) only [↓reduceIte, go_sem, hx, saT, saF_atx x hxs, eq_false hz, eq_true hlt]; try rfl) (fun _ => rfl)
  · rw [show l.drop i = [] from List.drop_eq_nil_of_le (by omega), firstS] at hinv
    rw [← hinv]
    simp (maxSteps := 8000000) -implicitDefEqProofs (disch := omega) only [↓reduceIte, go_sem, eq_false hge]
    refine joinK_here ?_
    simp (maxSteps := 8000000) -implicitDefEqProofs (disch := omega) only [↓reduceIte, go_sem]
    repeat' first
      | ((first | refine gdKT_deq (fun hg hG => ?_) (fun hg hG => ?_) | refine condKT_deq (fun hg hG => ?_) (fun hg hG => ?_)) <;> (try simp (maxSteps := 8000000) -implicitDefEqProofs (disch := omega) only [↓reduceIte, go_sem, hG]) <;> clear hG)
      | ((first | refine gdKT_split (fun hg => ?_) (fun hg => ?_) | refine condKT_split (fun hg => ?_) (fun hg => ?_)) <;> (try simp (maxSteps := 8000000) -implicitDefEqProofs (disch := omega) only [↓reduceIte, go_sem, hg]))
      | (refine endT_p (.inr rfl) (by simp (maxSteps := 8000000) -implicitDefEqProofs (disch := omega) only [↓reduceIte, go_sem]; rfl) ?_; (first | exact vb_true (by omega) | exact vb_false (by omega) | exact vb_dec (by omega) | exact vi_eq (by omega) | rfl | (refine vi_eq ?_; simp_all; first | done | (intros; omega))))
      | exact endT_v (.inr rfl) (by simp (maxSteps := 8000000) -implicitDefEqProofs (disch := omega) only [↓reduceIte, go_sem]; try rfl) (fun _ => rfl)
-- impl.SasFault
def c95 : AF := ⟨35,
 (.seq (.reg [rO 2 (.mv (.v (.int .i64 0)))])
 (.seq (.seq (.reg [rO 6 (.mv (.t 0)),
 rO 7 (.len (.t 6)),
 rO 8 (.bin .gtr (.t 7) (.v (.int .i64 12)))])
 (.cond (.t 8) (.seq (.reg [rO 2 (.mv (.v (.int .i64 2)))])
 .ret)
 .skip))
 (.seq (.seq (.reg [rO 9 (.mv (.t 0)),
 rO 10 (.len (.t 9)),
 rO 11 (.mv (.v (.int .i64 0)))])
 (.block 0 (.loop (.seq (.reg [rO 12 (.bin .lss (.t 11) (.t 10))])
 (.seq (.cond (.t 12) .skip
 (.exit 0))
 (.seq (.block 1 (.seq (.reg [rO 13 (.mv (.t 11)),
 rO 14 (.ia 11 (.t 9) (.t 11)),
 rO 15 (.ldn 11 (.t 14)),
 rO 4 (.alloc 54 [(.int .i64 0), (.int .i64 0), (.int .i64 0), (.bool false), (.int .i64 0), (.int .i64 0), (.int .i64 0), (.int .i64 0), (.int .i64 0), (.int .i64 0), (.slice none 0 0)]),
 rO 3 (.mv (.t 13)),
 ⟨none, none, .st 11 (.t 4) (.t 15)⟩])
 (.seq (.seq (.reg [rO 16 (.ldn 11 (.t 4)),
 rO 17 (.call 112 [(.t 16)]),
 rO 5 (.mv (.t 17))])
 (.seq (.reg [rO 18 (.mv (.t 5)),
 rO 19 (.bin .neq (.t 18) (.v (.int .i64 0)))])
 (.cond (.t 19) (.seq (.reg [rO 20 (.mv (.t 5)),
 rO 2 (.mv (.t 20))])
 .ret)
 .skip)))
 (.seq (.drw [rO 21 (.mv (.t 3)),
 rO 22 (.bin .gtr (.t 21) (.v (.int .i64 0))),
 rO 23 (.mv (.t 22)),
 ⟨(some 24), (some (23, true)), .mv (.t 0)⟩,
 ⟨(some 25), (some (23, true)), .mv (.t 3)⟩,
 ⟨(some 26), (some (23, true)), .bin .sub (.t 25) (.v (.int .i64 1))⟩,
 ⟨(some 27), (some (23, true)), .ia 11 (.t 24) (.t 26)⟩,
 ⟨(some 28), (some (23, true)), .fa (.t 27) 0⟩,
 ⟨(some 29), (some (23, true)), .ld (.t 28)⟩,
 ⟨(some 30), (some (23, true)), .fa (.t 4) 0⟩,
 ⟨(some 31), (some (23, true)), .ld (.t 30)⟩] [⟨(some 32), (some (23, true)), .bin .geq (.t 29) (.t 31)⟩,
 rO 33 (.pick (.t 23) (.t 32) (.v (.bool false)))])
 (.cond (.t 33) (.seq (.reg [rO 2 (.mv (.v (.int .i64 1)))])
 .ret)
 .skip)))))
 (.reg [rO 34 (.bin .add (.t 11) (.v (.int .i64 1))),
 rO 11 (.mv (.t 34))])))))))
 (.seq (.reg [rO 2 (.mv (.v (.int .i64 0)))])
 .ret)))),
 [.t 2]⟩
theorem k95 : cFn Tryz.prog Tryz.f95 = some c95 := by kernel_rfl
theorem sasFI_ok : OkT Tryz.prog 95 (pureSp sasF_S) := by
  refine okT_fn (OkΓT.cons saFI_ok (OkΓT.nil _)) Tryz.func95 (by kernel_rfl) k95 (fun x _ => ⟨rfl, rfl⟩) ?_
  rintro l ⟨hl, hs⟩
  dsimp only at *
  by_cases hr : l.length ≤ 12
  case neg =>
    rw [show sasF l = 2 by simp only [sasF]; rw [if_neg hr]]
    (dsimp only [c95, rO]; simp (maxSteps := 8000000) -implicitDefEqProofs (disch := omega) only [↓reduceIte, go_sem])
    repeat' first
      | ((first | refine gdKT_deq (fun hg hG => ?_) (fun hg hG => ?_) | refine condKT_deq (fun hg hG => ?_) (fun hg hG => ?_)) <;> (try simp (maxSteps := 8000000) -implicitDefEqProofs (disch := omega) only [↓reduceIte, go_sem, hG]) <;> clear hG)
      | ((first | refine gdKT_split (fun hg => ?_) (fun hg => ?_) | refine condKT_split (fun hg => ?_) (fun hg => ?_)) <;> (try simp (maxSteps := 8000000) -implicitDefEqProofs (disch := omega) only [↓reduceIte, go_sem, hg]))
      | (refine endT_p (.inr rfl) (by simp (maxSteps := 8000000) -implicitDefEqProofs (disch := omega) only [↓reduceIte, go_sem]; rfl) ?_; (first | exact vb_true (by omega) | exact vb_false (by omega) | exact vb_dec (by omega) | exact vi_eq (by omega) | rfl | (refine vi_eq ?_; simp_all; first | done | (intros; omega))))
      | exact endT_v (.inr rfl) (by simp (maxSteps := 8000000) -implicitDefEqProofs (disch := omega) only [↓reduceIte, go_sem]; try rfl) (fun _ => rfl)
  rw [show sasF l = firstS none l by simp only [sasF]; rw [if_pos hr]]
  (dsimp only [c95, rO]; simp (maxSteps := 8000000) -implicitDefEqProofs (disch := omega) only [↓reduceIte, go_sem])
  refine awpT_loop (α := Nat) (fun i => ⟨slots [(0, .s (rowsT saT l)), (9, .s (rowsT saT l)), (10, .p (.int .i64 l.length)), (11, .p (.int .i64 i))], []⟩) (fun i => i ≤ l.length ∧ firstS (prevO l i) (l.drop i) = firstS none l) (fun i => l.length - i) 0 ⟨by omega, by simp [prevO]⟩ (le_of [] (by simp (maxSteps := 8000000) -implicitDefEqProofs (disch := omega) only [↓reduceIte, go_sem]) (by simp (maxSteps := 8000000) -implicitDefEqProofs (disch := omega) only [↓reduceIte, go_sem]) (by decide) (by simp)) ?_
  intro i ⟨hi, hinv⟩
  simp (maxSteps := 8000000) -implicitDefEqProofs (disch := omega) only [↓reduceIte, go_sem]
  refine condKT_dec (fun hlt => ?_) (fun hge => ?_)
  · obtain ⟨x, hx⟩ := get_ex (l := l) (i := i) (by omega)
    have hxs := hs x (List.mem_of_getElem? hx)
    rw [firstS_at hx, ← prevO_succ hx] at hinv
    by_cases hz : saF x = 0
    · rw [if_pos hz] at hinv
      by_cases h0 : i = 0
      · rw [show prevO l i = none by simp [prevO, h0], if_neg (by simp [badO])] at hinv
        simp (maxSteps := 8000000) -implicitDefEqProofs (disch := omega) only [↓reduceIte, go_sem, hx, saT, saZ_el, saZ_cells, saF_atx x hxs, hz, eq_true hlt]
        refine loopKT_next (i + 1) ⟨by omega, hinv⟩ (by omega) ?_
        exact (le_of [] (by simp (maxSteps := 8000000) -implicitDefEqProofs (disch := omega) only [↓reduceIte, go_sem]) (by simp (maxSteps := 8000000) -implicitDefEqProofs (disch := omega) only [↓reduceIte, go_sem]) (by decide) (by simp))
      · obtain ⟨y, hy⟩ := get_ex (l := l) (i := i - 1) (by omega)
        rw [show prevO l i = some y.spi by simp [prevO, h0, hy]] at hinv
        have hpi : ((i : Int) - 1).toNat = i - 1 := by omega
        by_cases hb : x.spi ≤ y.spi
        · rw [if_pos (show badO (some y.spi) x.spi from hb)] at hinv
          rw [← hinv]
          simp (maxSteps := 8000000) -implicitDefEqProofs (disch := omega) only [↓reduceIte, go_sem, hx, hy, hpi, saT, saZ_el, saZ_cells, saF_atx x hxs, hz, eq_true hlt, eq_true hb]
          repeat' first
            | ((first | refine gdKT_deq (fun hg hG => ?_) (fun hg hG => ?_) | refine condKT_deq (fun hg hG => ?_) (fun hg hG => ?_)) <;> (try simp (maxSteps := 8000000) -implicitDefEqProofs (disch := omega) only [↓reduceIte, go_sem, hG, hx, hy, hpi, saT, saZ_el, saZ_cells, saF_atx x hxs, hz, eq_true hlt, eq_true hb]) <;> clear hG)
            | ((first | refine gdKT_split (fun hg => ?_) (fun hg => ?_) | refine condKT_split (fun hg => ?_) (fun hg => ?_)) <;> (try simp (maxSteps := 8000000) -implicitDefEqProofs (disch := omega) only [↓reduceIte, go_sem, hg, hx, hy, hpi, saT, saZ_el, saZ_cells, saF_atx x hxs, hz, eq_true hlt, eq_true hb]))
            | (refine endT_p (.inr rfl) (by simp (maxSteps := 8000000) -implicitDefEqProofs (disch := omega) only [↓reduceIte, go_sem, hx, hy, hpi, saT, saZ_el, saZ_cells, saF_atx x hxs, hz, eq_true hlt, eq_true hb]; rfl) ?_; (first | exact vb_true (by omega) | exact vb_false (by omega) | exact vb_dec (by omega) | exact vi_eq (by omega) | rfl | (refine vi_eq ?_; simp_all; first | done | (intros; omega))))
            | exact endT_v (.inr rfl) (by simp (maxSteps := 8000000) -implicitDefEqProofs (disch := omega) only [↓reduceIte, go_sem, hx, hy, hpi, saT, saZ_el, saZ_cells, saF_atx x hxs, hz, eq_true hlt, eq_true hb]; try rfl) (fun _ => rfl)
        · rw [if_neg (show ¬ badO (some y.spi) x.spi from hb)] at hinv
          simp (maxSteps := 8000000) -implicitDefEqProofs (disch := omega) only [↓reduceIte, go_sem, hx, hy, hpi, saT, saZ_el, saZ_cells, saF_atx x hxs, hz, eq_true hlt, eq_false hb]
          refine loopKT_next (i + 1) ⟨by omega, hinv⟩ (by omega) ?_
          exact (le_of [] (by simp (maxSteps := 8000000) -implicitDefEqProofs (disch := omega) only [↓reduceIte, go_sem]) (by simp (maxSteps := 8000000) -implicitDefEqProofs (disch := omega) only [↓reduceIte, go_sem]) (by decide) (by simp))
    · rw [if_neg hz] at hinv
      rw [← hinv]
      simp (maxSteps := 8000000) -implicitDefEqProofs (disch := omega) only [↓reduceIte, go_sem, hx, saT, saZ_el, saZ_cells, saF_atx x hxs, eq_false hz, eq_true hlt]
      repeat' first
        | ((first | refine gdKT_deq (fun hg hG => ?_) (fun hg hG => ?_) | refine condKT_deq (fun hg hG => ?_) (fun hg hG => ?_)) <;> (try simp (maxSteps := 8000000) -implicitDefEqProofs (disch := omega) only [↓reduceIte, go_sem, hG, hx, saT, saZ_el, saZ_cells, saF_atx x hxs, eq_false hz, eq_true hlt]) <;> clear hG)
        | ((first | refine gdKT_split (fun hg => ?_) (fun hg => ?_) | refine condKT_split (fun hg => ?_) (fun hg => ?_)) <;> (try simp (maxSteps := 8000000) -implicitDefEqProofs (disch := omega) only [↓reduceIte, go_sem, hg, hx, saT, saZ_el, saZ_cells, saF_atx x hxs, eq_false hz, eq_true hlt]))
        | (refine endT_p (.inr rfl) (by simp (maxSteps := 8000000) -implicitDefEqProofs (disch := omega) only [↓reduceIte, go_sem, hx, saT, saZ_el, saZ_cells, saF_atx x hxs, eq_false hz, eq_true hlt]; rfl) ?_; (first | exact vb_true (by omega) | exact vb_false (by omega) | exact vb_dec (by omega) | exact vi_eq (by omega) | rfl | (refine vi_eq ?_; simp_all; first | done | (intros; omega))))
        | exact endT_v (.inr rfl) (by simp (maxSteps := 8000000) -implicitDefEqProofs (disch := omega) only [↓reduceIte, go_sem, hx, saT, saZ_el, saZ_cells, saF_atx x hxs, eq_false hz, eq_true hlt]; try rfl) (fun _ => rfl)
  · rw [show l.drop i = [] from List.drop_eq_nil_of_le (by omega), firstS] at hinv
    rw [← hinv]
    simp (maxSteps := 8000000) -implicitDefEqProofs (disch := omega) only [↓reduceIte, go_sem, eq_false hge]
    refine joinK_here ?_
    simp (maxSteps := 8000000) -implicitDefEqProofs (disch := omega) only [↓reduceIte, go_sem]
    repeat' first
      | ((first | refine gdKT_deq (fun hg hG => ?_) (fun hg hG => ?_) | refine condKT_deq (fun hg hG => ?_) (fun hg hG => ?_)) <;> (try simp (maxSteps := 8000000) -implicitDefEqProofs (disch := omega) only [↓reduceIte, go_sem, hG]) <;> clear hG)
      | ((first | refine gdKT_split (fun hg => ?_) (fun hg => ?_) | refine condKT_split (fun hg => ?_) (fun hg => ?_)) <;> (try simp (maxSteps := 8000000) -implicitDefEqProofs (disch := omega) only [↓reduceIte, go_sem, hg]))
      | (refine endT_p (.inr rfl) (by simp (maxSteps := 8000000) -implicitDefEqProofs (disch := omega) only [↓reduceIte, go_sem]; rfl) ?_; (first | exact vb_true (by omega) | exact vb_false (by omega) | exact vb_dec (by omega) | exact vi_eq (by omega) | rfl | (refine vi_eq ?_; simp_all; first | done | (intros; omega))))
      | exact endT_v (.inr rfl) (by simp (maxSteps := 8000000) -implicitDefEqProofs (disch := omega) only [↓reduceIte, go_sem]; try rfl) (fun _ => rfl)
/-! Marks -/
abbrev selB (l : List SlR) : TB := .cells 103 9 (rowsT slT l)
theorem saF_zero {x : SaR} (h : saF x = 0) : (0 ≤ x.sent ∧ x.sent ≤ 1099511627776) ∧ (0 ≤ x.byt ∧ x.byt ≤ 1000000000) ∧ (0 ≤ x.hard ∧ x.hard ≤ 1000000000) ∧ 1 ≤ x.sels.length ∧ x.sels.length ≤ 12 := by
  simp only [saF] at h
  split at h
  · rename_i hb
    split at h
    · split at h
      · cases h
      · simp only [selsF] at h
        split at h
        · rename_i hs; exact ⟨hb.2.2.2.1, hb.2.2.2.2.1, hb.2.2.2.2.2.1, hs⟩
        · cases h
    · contradiction
  · cases h
/-! Copies -/
noncomputable def clone_S := specP (fun x : List SlR => [.s (rowsT slT x)]) (fun x => 1 ≤ x.length ∧ x.length ≤ 12) (fun x => (.os 0 0 x.length, [selB x]))
theorem clone_at (l : List SlR) (h : 1 ≤ l.length ∧ l.length ≤ 12) : clone_S [.s (rowsT slT l)] = some (.os 0 0 l.length, [selB l]) :=
  specP_at (enc := fun x : List SlR => [.s (rowsT slT x)]) (fun x y h => by simp at h; exact sls_inj h) l h
-- slices.Clone[[]impl.Sel,impl.Sel]
def c172 : AF := ⟨8,
 (.seq (.reg [rO 2 (.mv (.v (.slice none 0 0)))])
 (.seq (.seq (.reg [rO 3 (.mv (.t 0)),
 rO 4 (.eqN false (.t 3))])
 (.cond (.t 4) (.seq (.reg [rO 2 (.mv (.v (.slice none 0 0)))])
 .ret)
 .skip))
 (.seq (.reg [rO 5 (.mkS 103 0 [] []),
 rO 6 (.mv (.t 0)),
 rO 7 (.app 103 9 72 (.t 5) (.t 6)),
 rO 2 (.mv (.t 7))])
 .ret))),
 [.t 2]⟩
theorem k172 : cFn Tryz.prog Tryz.f172 = some c172 := by kernel_rfl
theorem clone_ok : OkT Tryz.prog 172 (pureSp clone_S) := by
  refine okT_fn (OkΓT.nil _) Tryz.func172 (by kernel_rfl) k172 (fun x _ => ⟨rfl, by simp only [go_sem]⟩) ?_
  rintro l ⟨h1, h2⟩
  dsimp only at *
  (dsimp only [c172, rO]; simp (maxSteps := 8000000) -implicitDefEqProofs (disch := omega) only [↓reduceIte, go_sem])
  exact endT_of [1] (.inr rfl) (by simp (maxSteps := 8000000) -implicitDefEqProofs (disch := omega) only [↓reduceIte, go_sem]; rfl) (by simp (maxSteps := 8000000) -implicitDefEqProofs (disch := omega) only [↓reduceIte, go_sem]) (by simp (maxSteps := 8000000) -implicitDefEqProofs (disch := omega) only [↓reduceIte, go_sem]) (by decide) (by simp)
noncomputable def copy_S := specP (fun x : SaR => [saT x]) (fun x => 1 ≤ x.sels.length ∧ x.sels.length ≤ 12) (fun x => (.agg [.p (.int .i64 x.spi), .p (.int .i64 x.peer), .p (.int .i64 x.key), .p (.bool x.inn), .p (.int .i64 x.sent), .p (.int .i64 x.top), .p (.int .i64 x.bits), .p (.int .i64 x.byt), .p (.int .i64 x.hard), .p (.int .i64 x.til), .os 0 0 x.sels.length], [selB x.sels]))
theorem copy_at (spi peer key : Int) (inn : Bool) (sent top bits byt hard til : Int) (sels : List SlR) (h : 1 ≤ sels.length ∧ sels.length ≤ 12) : copy_S [.agg [.p (.int .i64 spi), .p (.int .i64 peer), .p (.int .i64 key), .p (.bool inn), .p (.int .i64 sent), .p (.int .i64 top), .p (.int .i64 bits), .p (.int .i64 byt), .p (.int .i64 hard), .p (.int .i64 til), .s (rowsT slT sels)]] = some (.agg [.p (.int .i64 spi), .p (.int .i64 peer), .p (.int .i64 key), .p (.bool inn), .p (.int .i64 sent), .p (.int .i64 top), .p (.int .i64 bits), .p (.int .i64 byt), .p (.int .i64 hard), .p (.int .i64 til), .os 0 0 sels.length], [selB sels]) :=
  specP_at (enc := fun x : SaR => [saT x]) (by intro x y h; exact saT_inj x y (by simpa using h)) ⟨spi, peer, key, inn, sent, top, bits, byt, hard, til, sels⟩ h
-- spec.l16Copy
def c87 : AF := ⟨9,
 (.seq (.reg [rO 1 (.box 54 (.t 0)),
 rO 2 (.alloc 54 [(.int .i64 0), (.int .i64 0), (.int .i64 0), (.bool false), (.int .i64 0), (.int .i64 0), (.int .i64 0), (.int .i64 0), (.int .i64 0), (.int .i64 0), (.slice none 0 0)])])
 (.seq (.reg [rO 3 (.mkS 103 0 [] []),
 rO 4 (.fa (.t 1) 10),
 rO 5 (.ld (.t 4)),
 rO 6 (.app 103 9 72 (.t 3) (.t 5)),
 rO 7 (.fa (.t 1) 10),
 ⟨none, none, .st 1 (.t 7) (.t 6)⟩])
 (.seq (.reg [rO 8 (.ldn 11 (.t 1)),
 ⟨none, none, .st 11 (.t 2) (.t 8)⟩])
 .ret))),
 [.cell 2 (some 11)]⟩
theorem k87 : cFn Tryz.prog Tryz.f87 = some c87 := by kernel_rfl
theorem l16Copy_ok : OkT Tryz.prog 87 (pureSp copy_S) := by
  refine okT_fn (OkΓT.nil _) Tryz.func87 (by kernel_rfl) k87 (fun x _ => ⟨rfl, by simp only [go_sem]⟩) ?_
  rintro x ⟨h1, h2⟩
  dsimp only [saT] at *
  (dsimp only [c87, rO]; simp (maxSteps := 8000000) -implicitDefEqProofs (disch := omega) only [↓reduceIte, go_sem])
  exact endT_of [3] (.inr rfl) (by simp (maxSteps := 8000000) -implicitDefEqProofs (disch := omega) only [↓reduceIte, go_sem]; rfl) (by simp (maxSteps := 8000000) -implicitDefEqProofs (disch := omega) only [↓reduceIte, go_sem]) (by simp (maxSteps := 8000000) -implicitDefEqProofs (disch := omega) only [↓reduceIte, go_sem]) (by decide) (by simp)
-- impl.cloneSa
def c114 : AF := ⟨8,
 (.seq (.reg [rO 1 (.box 54 (.t 0)),
 rO 2 (.alloc 54 [(.int .i64 0), (.int .i64 0), (.int .i64 0), (.bool false), (.int .i64 0), (.int .i64 0), (.int .i64 0), (.int .i64 0), (.int .i64 0), (.int .i64 0), (.slice none 0 0)])])
 (.seq (.reg [rO 3 (.fa (.t 1) 10),
 rO 4 (.ld (.t 3)),
 rO 5 (.call 172 [(.t 4)]),
 rO 6 (.fa (.t 1) 10),
 ⟨none, none, .st 1 (.t 6) (.t 5)⟩])
 (.seq (.reg [rO 7 (.ldn 11 (.t 1)),
 ⟨none, none, .st 11 (.t 2) (.t 7)⟩])
 .ret))),
 [.cell 2 (some 11)]⟩
theorem k114 : cFn Tryz.prog Tryz.f114 = some c114 := by kernel_rfl
theorem cloneSa_ok : OkT Tryz.prog 114 (pureSp copy_S) := by
  refine okT_fn (OkΓT.cons clone_ok (OkΓT.nil _)) Tryz.func114 (by kernel_rfl) k114 (fun x _ => ⟨rfl, by simp only [go_sem]⟩) ?_
  rintro x ⟨h1, h2⟩
  dsimp only [saT] at *
  (dsimp only [c114, rO]; simp (maxSteps := 8000000) -implicitDefEqProofs (disch := omega) only [↓reduceIte, go_sem, clone_at])
  exact endT_of [2] (.inr rfl) (by simp (maxSteps := 8000000) -implicitDefEqProofs (disch := omega) only [↓reduceIte, go_sem]; rfl) (by simp (maxSteps := 8000000) -implicitDefEqProofs (disch := omega) only [↓reduceIte, go_sem]) (by simp (maxSteps := 8000000) -implicitDefEqProofs (disch := omega) only [↓reduceIte, go_sem]) (by decide) (by simp)
/-! Charging -/
/-! Alike -/
end Go.Proofs.YtghpdclhhnbgjaaGreat
