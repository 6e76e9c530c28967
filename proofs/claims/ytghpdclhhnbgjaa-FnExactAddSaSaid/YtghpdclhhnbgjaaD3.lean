import Derived.Test.YtghpdclhhnbgjaaD2
set_option linter.unusedSimpArgs false
set_option linter.unusedVariables false
set_option maxRecDepth 100000
set_option maxHeartbeats 4000000
namespace Go.Proofs.Ytghpdclhhnbgjaa
open Go Go.AH
attribute [local irreducible] awpT ropsT qopsT stepT condKT gdKT EndT joinK loopKT seqKT blkKT kont kontR
/-! Rows of agreements -/
def saZ : TV := .agg [.p (.int .i64 0), .p (.int .i64 0), .p (.int .i64 0), .p (.bool false), .p (.int .i64 0), .p (.int .i64 0), .p (.int .i64 0), .p (.int .i64 0), .p (.int .i64 0), .p (.int .i64 0), .nl]
theorem saZ_el : el [.p (.int .i64 0), .p (.int .i64 0), .p (.int .i64 0), .p (.bool false), .p (.int .i64 0), .p (.int .i64 0), .p (.int .i64 0), .p (.int .i64 0), .p (.int .i64 0), .p (.int .i64 0), .nl] = saZ := rfl
theorem saZ_cells : cellsT saZ = [.p (.int .i64 0), .p (.int .i64 0), .p (.int .i64 0), .p (.bool false), .p (.int .i64 0), .p (.int .i64 0), .p (.int .i64 0), .p (.int .i64 0), .p (.int .i64 0), .p (.int .i64 0), .nl] := rfl
theorem sas_inj {l l' : List SaR} (h : rowsT saT l = rowsT saT l') : l = l' := rowsT_inj saT_inj h
theorem sas_frz (h : THeap) (n : Nat) (l : List SaR) : frzT h n (.s (rowsT saT l)) = .s (rowsT saT l) := by simp only [frz_s]
theorem saF_atx (x : SaR) (h : x.sels.length ≤ 140737488355328) : saF_S [.agg [.p (.int .i64 x.spi), .p (.int .i64 x.peer), .p (.int .i64 x.key), .p (.bool x.inn), .p (.int .i64 x.sent), .p (.int .i64 x.top), .p (.int .i64 x.bits), .p (.int .i64 x.byt), .p (.int .i64 x.hard), .p (.int .i64 x.til), .s (rowsT slT x.sels)]] = some (.p (.int .i64 (saF x)), []) := saF_at x.spi x.peer x.key x.inn x.sent x.top x.bits x.byt x.hard x.til x.sels h
/-! How many -/
/-! Alike -/
/-! Faults of rows of agreements -/
def badO : Option Int → Int → Prop
  | none, _ => False
  | some p, s => s ≤ p
instance (p : Option Int) (s : Int) : Decidable (badO p s) := by cases p <;> simp only [badO] <;> infer_instance
def firstS : Option Int → List SaR → Int
  | _, [] => 0
  | p, x :: r => if saF x = 0 then (if badO p x.spi then 1 else firstS (some x.spi) r) else saF x
def prevO (l : List SaR) (i : Nat) : Option Int := if i = 0 then none else (l[i - 1]?).map (·.spi)
theorem prevO_succ {l : List SaR} {i : Nat} {x : SaR} (h : l[i]? = some x) : prevO l (i + 1) = some x.spi := by simp [prevO, h]
theorem firstS_at {l : List SaR} {i : Nat} {x : SaR} {p : Option Int} (h : l[i]? = some x) : firstS p (l.drop i) = if saF x = 0 then (if badO p x.spi then 1 else firstS (some x.spi) (l.drop (i + 1))) else saF x := by
  have hlt := (List.getElem?_eq_some_iff.1 h).1
  rw [List.drop_eq_getElem_cons hlt, (List.getElem?_eq_some_iff.1 h).2, firstS]
def sasF (l : List SaR) : Int := if l.length ≤ 12 then firstS none l else 2
noncomputable def sasF_S := specP (fun x : List SaR => [.s (rowsT saT x)]) (fun x => x.length ≤ 140737488355328 ∧ ∀ y ∈ x, y.sels.length ≤ 140737488355328) (fun x => (.p (.int .i64 (sasF x)), []))
-- spec.SasFault
def c60 : AF := ⟨38,
 (.seq (.reg [rO 2 (.mv (.v (.int .i64 0)))])
 (.seq (.seq (.reg [rO 5 (.mv (.t 0)),
 rO 6 (.len (.t 5)),
 rO 7 (.bin .gtr (.t 6) (.v (.int .i64 12)))])
 (.cond (.t 7) (.seq (.reg [rO 2 (.mv (.v (.int .i64 2)))])
 .ret)
 .skip))
 (.seq (.seq (.reg [rO 3 (.mv (.v (.int .i64 0)))])
 (.block 0 (.loop (.seq (.seq (.reg [rO 8 (.mv (.t 3)),
 rO 9 (.mv (.t 0)),
 rO 10 (.len (.t 9)),
 rO 11 (.bin .lss (.t 8) (.t 10))])
 (.cond (.t 11) .skip
 (.exit 0)))
 (.seq (.block 1 (.seq (.seq (.reg [rO 14 (.mv (.t 0)),
 rO 15 (.mv (.t 3)),
 rO 16 (.ia 11 (.t 14) (.t 15)),
 rO 17 (.ldn 11 (.t 16)),
 rO 18 (.call 86 [(.t 17)]),
 rO 4 (.mv (.t 18))])
 (.seq (.reg [rO 19 (.mv (.t 4)),
 rO 20 (.bin .neq (.t 19) (.v (.int .i64 0)))])
 (.cond (.t 20) (.seq (.reg [rO 21 (.mv (.t 4)),
 rO 2 (.mv (.t 21))])
 .ret)
 .skip)))
 (.seq (.drw [rO 22 (.mv (.t 3)),
 rO 23 (.bin .gtr (.t 22) (.v (.int .i64 0))),
 rO 24 (.mv (.t 23)),
 ⟨(some 25), (some (24, true)), .mv (.t 0)⟩,
 ⟨(some 26), (some (24, true)), .mv (.t 3)⟩,
 ⟨(some 27), (some (24, true)), .ia 11 (.t 25) (.t 26)⟩,
 ⟨(some 28), (some (24, true)), .fa (.t 27) 0⟩,
 ⟨(some 29), (some (24, true)), .ld (.t 28)⟩,
 ⟨(some 30), (some (24, true)), .mv (.t 0)⟩,
 ⟨(some 31), (some (24, true)), .mv (.t 3)⟩,
 ⟨(some 32), (some (24, true)), .bin .sub (.t 31) (.v (.int .i64 1))⟩,
 ⟨(some 33), (some (24, true)), .ia 11 (.t 30) (.t 32)⟩,
 ⟨(some 34), (some (24, true)), .fa (.t 33) 0⟩,
 ⟨(some 35), (some (24, true)), .ld (.t 34)⟩] [⟨(some 36), (some (24, true)), .bin .leq (.t 29) (.t 35)⟩,
 rO 37 (.pick (.t 24) (.t 36) (.v (.bool false)))])
 (.cond (.t 37) (.seq (.reg [rO 2 (.mv (.v (.int .i64 1)))])
 .ret)
 .skip))))
 (.reg [rO 12 (.mv (.t 3)),
 rO 13 (.bin .add (.t 12) (.v (.int .i64 1))),
 rO 3 (.mv (.t 13))]))))))
 (.seq (.reg [rO 2 (.mv (.v (.int .i64 0)))])
 .ret)))),
 [.t 2]⟩
theorem k60 : cFn Try.prog Try.f60 = some c60 := by kernel_rfl
theorem sasFS_ok : OkT Try.prog 60 (pureSp sasF_S) := by
  refine okT_fn (OkΓT.cons saFS_ok (OkΓT.nil _)) Try.func60 (by kernel_rfl) k60 (fun x _ => ⟨rfl, rfl⟩) ?_
  rintro l ⟨hl, hs⟩
  dsimp only at *
  by_cases hr : l.length ≤ 12
  case neg =>
    rw [show sasF l = 2 by simp only [sasF]; rw [if_neg hr]]
    (dsimp only [c60, rO]; simp (maxSteps := 8000000) -implicitDefEqProofs (disch := omega) only [↓reduceIte, go_sem])
    repeat' first
      | ((first | refine gdKT_deq (fun hg hG => ?_) (fun hg hG => ?_) | refine condKT_deq (fun hg hG => ?_) (fun hg hG => ?_)) <;> (try simp (maxSteps := 8000000) -implicitDefEqProofs (disch := omega) only [↓reduceIte, go_sem, hG]) <;> clear hG)
      | ((first | refine gdKT_split (fun hg => ?_) (fun hg => ?_) | refine condKT_split (fun hg => ?_) (fun hg => ?_)) <;> (try simp (maxSteps := 8000000) -implicitDefEqProofs (disch := omega) only [↓reduceIte, go_sem, hg]))
      | (refine endT_p (.inr rfl) (by simp (maxSteps := 8000000) -implicitDefEqProofs (disch := omega) only [↓reduceIte, go_sem]; rfl) ?_; (first | exact vb_true (by omega) | exact vb_false (by omega) | exact vb_dec (by omega) | exact vi_eq (by omega) | rfl | (refine vi_eq ?_; simp_all; first | done | (intros; omega))))
      | exact endT_v (.inr rfl) (by simp (maxSteps := 8000000) -implicitDefEqProofs (disch := omega) only [↓reduceIte, go_sem]; try rfl) (fun _ => rfl)
  rw [show sasF l = firstS none l by simp only [sasF]; rw [if_pos hr]]
  (dsimp only [c60, rO]; simp (maxSteps := 8000000) -implicitDefEqProofs (disch := omega) only [↓reduceIte, go_sem])
  refine awpT_loop (α := Nat) (fun i => ⟨slots [(0, .s (rowsT saT l)), (3, .p (.int .i64 i))], []⟩) (fun i => i ≤ l.length ∧ firstS (prevO l i) (l.drop i) = firstS none l) (fun i => l.length - i) 0 ⟨by omega, by simp [prevO]⟩ (le_of [] (by simp (maxSteps := 8000000) -implicitDefEqProofs (disch := omega) only [↓reduceIte, go_sem]) (by simp (maxSteps := 8000000) -implicitDefEqProofs (disch := omega) only [↓reduceIte, go_sem]) (by decide) (by simp)) ?_
  intro i ⟨hi, hinv⟩
  simp (maxSteps := 8000000) -implicitDefEqProofs (disch := omega) only [↓reduceIte, go_sem]
  refine condKT_dec (fun hlt => ?_) (fun hge => ?_)
  · obtain ⟨x, hx⟩ := get_ex (l := l) (i := i) (by omega)
    have hxs := hs x (List.mem_of_getElem? hx)
    rw [firstS_at hx, ← prevO_succ hx] at hinv
    by_cases hz : saF x = 0
    · rw [if_pos hz] at hinv
      by_cases h0 : i = 0
      · rw [show prevO l i = none by simp [prevO, h0], if_neg (by simp [badO])] at hinv
        simp (maxSteps := 8000000) -implicitDefEqProofs (disch := omega) only [↓reduceIte, go_sem, hx, saT, saF_atx x hxs, hz, eq_true hlt]
        refine loopKT_next (i + 1) ⟨by omega, hinv⟩ (by omega) ?_
        exact (le_of [] (by simp (maxSteps := 8000000) -implicitDefEqProofs (disch := omega) only [↓reduceIte, go_sem]) (by simp (maxSteps := 8000000) -implicitDefEqProofs (disch := omega) only [↓reduceIte, go_sem]) (by decide) (by simp))
      · obtain ⟨y, hy⟩ := get_ex (l := l) (i := i - 1) (by omega)
        rw [show prevO l i = some y.spi by simp [prevO, h0, hy]] at hinv
        have hpi : ((i : Int) - 1).toNat = i - 1 := by omega
        by_cases hb : x.spi ≤ y.spi
        · rw [if_pos (show badO (some y.spi) x.spi from hb)] at hinv
          rw [← hinv]
          simp (maxSteps := 8000000) -implicitDefEqProofs (disch := omega) only [↓reduceIte, go_sem, hx, hy, hpi, saT, saF_atx x hxs, hz, eq_true hlt, eq_true hb]
          repeat' first
            | ((first | refine gdKT_deq (fun hg hG => ?_) (fun hg hG => ?_) | refine condKT_deq (fun hg hG => ?_) (fun hg hG => ?_)) <;> (try simp (maxSteps := 8000000) -implicitDefEqProofs (disch := omega) only [↓reduceIte, go_sem, hG, hx, hy, hpi, saT, saF_atx x hxs, hz, eq_true hlt, eq_true hb]) <;> clear hG)
            | ((first | refine gdKT_split (fun hg => ?_) (fun hg => ?_) | refine condKT_split (fun hg => ?_) (fun hg => ?_)) <;> (try simp (maxSteps := 8000000) -implicitDefEqProofs (disch := omega) only [↓reduceIte, go_sem, hg, hx, hy, hpi, saT, saF_atx x hxs, hz, eq_true hlt, eq_true hb]))
            | (refine endT_p (.inr rfl) (by simp (maxSteps := 8000000) -implicitDefEqProofs (disch := omega) only [↓reduceIte, go_sem, hx, hy, hpi, saT, saF_atx x hxs, hz, eq_true hlt, eq_true hb]; rfl) ?_; (first | exact vb_true (by omega) | exact vb_false (by omega) | exact vb_dec (by omega) | exact vi_eq (by omega) | rfl | (refine vi_eq ?_; simp_all; first | done | (intros; omega))))
            | exact endT_v (.inr rfl) (by simp (maxSteps := 8000000) -implicitDefEqProofs (disch := omega) only [↓reduceIte, go_sem, hx, hy, hpi, saT, saF_atx x hxs, hz, eq_true hlt, eq_true hb]; try rfl) (fun _ => rfl)
        · rw [if_neg (show ¬ badO (some y.spi) x.spi from hb)] at hinv
          simp (maxSteps := 8000000) -implicitDefEqProofs (disch := omega) only [↓reduceIte, go_sem, hx, hy, hpi, saT, saF_atx x hxs, hz, eq_true hlt, eq_false hb]
          refine loopKT_next (i + 1) ⟨by omega, hinv⟩ (by omega) ?_
          exact (le_of [] (by simp (maxSteps := 8000000) -implicitDefEqProofs (disch := omega) only [↓reduceIte, go_sem]) (by simp (maxSteps := 8000000) -implicitDefEqProofs (disch := omega) only [↓reduceIte, go_sem]) (by decide) (by simp))
    · rw [if_neg hz] at hinv
      rw [← hinv]
      simp (maxSteps := 8000000) -implicitDefEqProofs (disch := omega) only [↓reduceIte, go_sem, hx, saT, saF_atx x hxs, eq_false hz, eq_true hlt]
      repeat' first
        | ((first | refine gdKT_deq (fun hg hG => ?_) (fun hg hG => ?_) | refine condKT_deq (fun hg hG => ?_) (fun hg hG => ?_)) <;> (try simp (maxSteps := 8000000) -implicitDefEqProofs (disch := omega) only [↓reduceIte, go_sem, hG, hx, saT, saF_atx x hxs, eq_false hz, eq_true hlt]) <;> clear hG)
        | ((first | refine gdKT_split (fun hg => ?_) (fun hg => ?_) | refine condKT_split (fun hg => ?_) (fun hg => ?_)) <;> (try simp (maxSteps := 8000000) -implicitDefEqProofs (disch := omega) only [↓reduceIte, go_sem, hg, hx, saT, saF_atx x hxs, eq_false hz, eq_true hlt]))
        | (refine endT_p (.inr rfl) (by simp (maxSteps := 8000000) -implicitDefEqProofs (disch := omega) only [↓reduceIte, go_sem, hx, saT, saF_atx x hxs, eq_false hz, eq_true hlt]; rfl) ?_; (first | exact vb_true (by omega) | exact vb_false (by omega) | exact vb_dec (by omega) | exact vi_eq (by omega) | rfl | (refine vi_eq ?_; simp_all; first | done | (intros; omega))))
        | exact endT_v (.inr rfl) (by simp (maxSteps := 8000000) -implicitDefEqProofs (disch := omega) only [↓reduceIte, go_sem, hx, saT, saF_atx x hxs, eq_false hz, eq_true hlt]; try rfl) (fun _ => rfl)
  · rw [show l.drop i = [] from List.drop_eq_nil_of_le (by omega), firstS] at hinv
    rw [← hinv]
    simp (maxSteps := 8000000) -implicitDefEqProofs (disch := omega) only [↓reduceIte, go_sem, eq_false hge]
    refine joinK_here ?_
    simp (maxSteps := 8000000) -implicitDefEqProofs (disch := omega) only [↓reduceIte, go_sem]
    repeat' first
      | ((first | refine gdKT_deq (fun hg hG => ?_) (fun hg hG => ?_) | refine condKT_deq (fun hg hG => ?_) (fun hg hG => ?_)) <;> (try simp (maxSteps := 8000000) -implicitDefEqProofs (disch := omega) only [↓reduceIte, go_sem, hG]) <;> clear hG)
      | ((first | refine gdKT_split (fun hg => ?_) (fun hg => ?_) | refine condKT_split (fun hg => ?_) (fun hg => ?_)) <;> (try simp (maxSteps := 8000000) -implicitDefEqProofs (disch := omega) only [↓reduceIte, go_sem, hg]))
      | (refine endT_p (.inr rfl) (by simp (maxSteps := 8000000) -implicitDefEqProofs (disch := omega) only [↓reduceIte, go_sem]; rfl) ?_; (first | exact vb_true (by omega) | exact vb_false (by omega) | exact vb_dec (by omega) | exact vi_eq (by omega) | rfl | (refine vi_eq ?_; simp_all; first | done | (intros; omega))))
      | exact endT_v (.inr rfl) (by simp (maxSteps := 8000000) -implicitDefEqProofs (disch := omega) only [↓reduceIte, go_sem]; try rfl) (fun _ => rfl)
-- impl.SasFault
def c19 : AF := ⟨35,
 (.seq (.reg [rO 2 (.mv (.v (.int .i64 0)))])
 (.seq (.seq (.reg [rO 6 (.mv (.t 0)),
 rO 7 (.len (.t 6)),
 rO 8 (.bin .gtr (.t 7) (.v (.int .i64 12)))])
 (.cond (.t 8) (.seq (.reg [rO 2 (.mv (.v (.int .i64 2)))])
 .ret)
 .skip))
 (.seq (.seq (.reg [rO 9 (.mv (.t 0)),
 rO 10 (.len (.t 9)),
 rO 11 (.mv (.v (.int .i64 0)))])
 (.block 0 (.loop (.seq (.reg [rO 12 (.bin .lss (.t 11) (.t 10))])
 (.seq (.cond (.t 12) .skip
 (.exit 0))
 (.seq (.block 1 (.seq (.reg [rO 13 (.mv (.t 11)),
 rO 14 (.ia 11 (.t 9) (.t 11)),
 rO 15 (.ldn 11 (.t 14)),
 rO 4 (.alloc 45 [(.int .i64 0), (.int .i64 0), (.int .i64 0), (.bool false), (.int .i64 0), (.int .i64 0), (.int .i64 0), (.int .i64 0), (.int .i64 0), (.int .i64 0), (.slice none 0 0)]),
 rO 3 (.mv (.t 13)),
 ⟨none, none, .st 11 (.t 4) (.t 15)⟩])
 (.seq (.seq (.reg [rO 16 (.ldn 11 (.t 4)),
 rO 17 (.call 32 [(.t 16)]),
 rO 5 (.mv (.t 17))])
 (.seq (.reg [rO 18 (.mv (.t 5)),
 rO 19 (.bin .neq (.t 18) (.v (.int .i64 0)))])
 (.cond (.t 19) (.seq (.reg [rO 20 (.mv (.t 5)),
 rO 2 (.mv (.t 20))])
 .ret)
 .skip)))
 (.seq (.drw [rO 21 (.mv (.t 3)),
 rO 22 (.bin .gtr (.t 21) (.v (.int .i64 0))),
 rO 23 (.mv (.t 22)),
 ⟨(some 24), (some (23, true)), .mv (.t 0)⟩,
 ⟨(some 25), (some (23, true)), .mv (.t 3)⟩,
 ⟨(some 26), (some (23, true)), .bin .sub (.t 25) (.v (.int .i64 1))⟩,
 ⟨(some 27), (some (23, true)), .ia 11 (.t 24) (.t 26)⟩,
 ⟨(some 28), (some (23, true)), .fa (.t 27) 0⟩,
 ⟨(some 29), (some (23, true)), .ld (.t 28)⟩,
 ⟨(some 30), (some (23, true)), .fa (.t 4) 0⟩,
 ⟨(some 31), (some (23, true)), .ld (.t 30)⟩] [⟨(some 32), (some (23, true)), .bin .geq (.t 29) (.t 31)⟩,
 rO 33 (.pick (.t 23) (.t 32) (.v (.bool false)))])
 (.cond (.t 33) (.seq (.reg [rO 2 (.mv (.v (.int .i64 1)))])
 .ret)
 .skip)))))
 (.reg [rO 34 (.bin .add (.t 11) (.v (.int .i64 1))),
 rO 11 (.mv (.t 34))])))))))
 (.seq (.reg [rO 2 (.mv (.v (.int .i64 0)))])
 .ret)))),
 [.t 2]⟩
theorem k19 : cFn Try.prog Try.f19 = some c19 := by kernel_rfl
theorem sasFI_ok : OkT Try.prog 19 (pureSp sasF_S) := by
  refine okT_fn (OkΓT.cons saFI_ok (OkΓT.nil _)) Try.func19 (by kernel_rfl) k19 (fun x _ => ⟨rfl, rfl⟩) ?_
  rintro l ⟨hl, hs⟩
  dsimp only at *
  by_cases hr : l.length ≤ 12
  case neg =>
    rw [show sasF l = 2 by simp only [sasF]; rw [if_neg hr]]
    (dsimp only [c19, rO]; simp (maxSteps := 8000000) -implicitDefEqProofs (disch := omega) only [↓reduceIte, go_sem])
    repeat' first
      | ((first | refine gdKT_deq (fun hg hG => ?_) (fun hg hG => ?_) | refine condKT_deq (fun hg hG => ?_) (fun hg hG => ?_)) <;> (try simp (maxSteps := 8000000) -implicitDefEqProofs (disch := omega) only [↓reduceIte, go_sem, hG]) <;> clear hG)
      | ((first | refine gdKT_split (fun hg => ?_) (fun hg => ?_) | refine condKT_split (fun hg => ?_) (fun hg => ?_)) <;> (try simp (maxSteps := 8000000) -implicitDefEqProofs (disch := omega) only [↓reduceIte, go_sem, hg]))
      | (refine endT_p (.inr rfl) (by simp (maxSteps := 8000000) -implicitDefEqProofs (disch := omega) only [↓reduceIte, go_sem]; rfl) ?_; (first | exact vb_true (by omega) | exact vb_false (by omega) | exact vb_dec (by omega) | exact vi_eq (by omega) | rfl | (refine vi_eq ?_; simp_all; first | done | (intros; omega))))
      | exact endT_v (.inr rfl) (by simp (maxSteps := 8000000) -implicitDefEqProofs (disch := omega) only [↓reduceIte, go_sem]; try rfl) (fun _ => rfl)
  rw [show sasF l = firstS none l by simp only [sasF]; rw [if_pos hr]]
  (dsimp only [c19, rO]; simp (maxSteps := 8000000) -implicitDefEqProofs (disch := omega) only [↓reduceIte, go_sem])
  refine awpT_loop (α := Nat) (fun i => ⟨slots [(0, .s (rowsT saT l)), (9, .s (rowsT saT l)), (10, .p (.int .i64 l.length)), (11, .p (.int .i64 i))], []⟩) (fun i => i ≤ l.length ∧ firstS (prevO l i) (l.drop i) = firstS none l) (fun i => l.length - i) 0 ⟨by omega, by simp [prevO]⟩ (le_of [] (by simp (maxSteps := 8000000) -implicitDefEqProofs (disch := omega) only [↓reduceIte, go_sem]) (by simp (maxSteps := 8000000) -implicitDefEqProofs (disch := omega) only [↓reduceIte, go_sem]) (by decide) (by simp)) ?_
  intro i ⟨hi, hinv⟩
  simp (maxSteps := 8000000) -implicitDefEqProofs (disch := omega) only [↓reduceIte, go_sem]
  refine condKT_dec (fun hlt => ?_) (fun hge => ?_)
  · obtain ⟨x, hx⟩ := get_ex (l := l) (i := i) (by omega)
    have hxs := hs x (List.mem_of_getElem? hx)
    rw [firstS_at hx, ← prevO_succ hx] at hinv
    by_cases hz : saF x = 0
    · rw [if_pos hz] at hinv
      by_cases h0 : i = 0
      · rw [show prevO l i = none by simp [prevO, h0], if_neg (by simp [badO])] at hinv
        simp (maxSteps := 8000000) -implicitDefEqProofs (disch := omega) only [↓reduceIte, go_sem, hx, saT, saZ_el, saZ_cells, saF_atx x hxs, hz, eq_true hlt]
        refine loopKT_next (i + 1) ⟨by omega, hinv⟩ (by omega) ?_
        exact (le_of [] (by simp (maxSteps := 8000000) -implicitDefEqProofs (disch := omega) only [↓reduceIte, go_sem]) (by simp (maxSteps := 8000000) -implicitDefEqProofs (disch := omega) only [↓reduceIte, go_sem]) (by decide) (by simp))
      · obtain ⟨y, hy⟩ := get_ex (l := l) (i := i - 1) (by omega)
        rw [show prevO l i = some y.spi by simp [prevO, h0, hy]] at hinv
        have hpi : ((i : Int) - 1).toNat = i - 1 := by omega
        by_cases hb : x.spi ≤ y.spi
        · rw [if_pos (show badO (some y.spi) x.spi from hb)] at hinv
          rw [← hinv]
          simp (maxSteps := 8000000) -implicitDefEqProofs (disch := omega) only [↓reduceIte, go_sem, hx, hy, hpi, saT, saZ_el, saZ_cells, saF_atx x hxs, hz, eq_true hlt, eq_true hb]
          repeat' first
            | ((first | refine gdKT_deq (fun hg hG => ?_) (fun hg hG => ?_) | refine condKT_deq (fun hg hG => ?_) (fun hg hG => ?_)) <;> (try simp (maxSteps := 8000000) -implicitDefEqProofs (disch := omega) only [↓reduceIte, go_sem, hG, hx, hy, hpi, saT, saZ_el, saZ_cells, saF_atx x hxs, hz, eq_true hlt, eq_true hb]) <;> clear hG)
            | ((first | refine gdKT_split (fun hg => ?_) (fun hg => ?_) | refine condKT_split (fun hg => ?_) (fun hg => ?_)) <;> (try simp (maxSteps := 8000000) -implicitDefEqProofs (disch := omega) only [↓reduceIte, go_sem, hg, hx, hy, hpi, saT, saZ_el, saZ_cells, saF_atx x hxs, hz, eq_true hlt, eq_true hb]))
            | (refine endT_p (.inr rfl) (by simp (maxSteps := 8000000) -implicitDefEqProofs (disch := omega) only [↓reduceIte, go_sem, hx, hy, hpi, saT, saZ_el, saZ_cells, saF_atx x hxs, hz, eq_true hlt, eq_true hb]; rfl) ?_; (first | exact vb_true (by omega) | exact vb_false (by omega) | exact vb_dec (by omega) | exact vi_eq (by omega) | rfl | (refine vi_eq ?_; simp_all; first | done | (intros; omega))))
            | exact endT_v (.inr rfl) (by simp (maxSteps := 8000000) -implicitDefEqProofs (disch := omega) only [↓reduceIte, go_sem, hx, hy, hpi, saT, saZ_el, saZ_cells, saF_atx x hxs, hz, eq_true hlt, eq_true hb]; try rfl) (fun _ => rfl)
        · rw [if_neg (show ¬ badO (some y.spi) x.spi from hb)] at hinv
          simp (maxSteps := 8000000) -implicitDefEqProofs (disch := omega) only [↓reduceIte, go_sem, hx, hy, hpi, saT, saZ_el, saZ_cells, saF_atx x hxs, hz, eq_true hlt, eq_false hb]
          refine loopKT_next (i + 1) ⟨by omega, hinv⟩ (by omega) ?_
          exact (le_of [] (by simp (maxSteps := 8000000) -implicitDefEqProofs (disch := omega) only [↓reduceIte, go_sem]) (by simp (maxSteps := 8000000) -implicitDefEqProofs (disch := omega) only [↓reduceIte, go_sem]) (by decide) (by simp))
    · rw [if_neg hz] at hinv
      rw [← hinv]
      simp (maxSteps := 8000000) -implicitDefEqProofs (disch := omega) only [↓reduceIte, go_sem, hx, saT, saZ_el, saZ_cells, saF_atx x hxs, eq_false hz, eq_true hlt]
      repeat' first
        | ((first | refine gdKT_deq (fun hg hG => ?_) (fun hg hG => ?_) | refine condKT_deq (fun hg hG => ?_) (fun hg hG => ?_)) <;> (try simp (maxSteps := 8000000) -implicitDefEqProofs (disch := omega) only [↓reduceIte, go_sem, hG, hx, saT, saZ_el, saZ_cells, saF_atx x hxs, eq_false hz, eq_true hlt]) <;> clear hG)
        | ((first | refine gdKT_split (fun hg => ?_) (fun hg => ?_) | refine condKT_split (fun hg => ?_) (fun hg => ?_)) <;> (try simp (maxSteps := 8000000) -implicitDefEqProofs (disch := omega) only [↓reduceIte, go_sem, hg, hx, saT, saZ_el, saZ_cells, saF_atx x hxs, eq_false hz, eq_true hlt]))
        | (refine endT_p (.inr rfl) (by simp (maxSteps := 8000000) -implicitDefEqProofs (disch := omega) only [↓reduceIte, go_sem, hx, saT, saZ_el, saZ_cells, saF_atx x hxs, eq_false hz, eq_true hlt]; rfl) ?_; (first | exact vb_true (by omega) | exact vb_false (by omega) | exact vb_dec (by omega) | exact vi_eq (by omega) | rfl | (refine vi_eq ?_; simp_all; first | done | (intros; omega))))
        | exact endT_v (.inr rfl) (by simp (maxSteps := 8000000) -implicitDefEqProofs (disch := omega) only [↓reduceIte, go_sem, hx, saT, saZ_el, saZ_cells, saF_atx x hxs, eq_false hz, eq_true hlt]; try rfl) (fun _ => rfl)
  · rw [show l.drop i = [] from List.drop_eq_nil_of_le (by omega), firstS] at hinv
    rw [← hinv]
    simp (maxSteps := 8000000) -implicitDefEqProofs (disch := omega) only [↓reduceIte, go_sem, eq_false hge]
    refine joinK_here ?_
    simp (maxSteps := 8000000) -implicitDefEqProofs (disch := omega) only [↓reduceIte, go_sem]
    repeat' first
      | ((first | refine gdKT_deq (fun hg hG => ?_) (fun hg hG => ?_) | refine condKT_deq (fun hg hG => ?_) (fun hg hG => ?_)) <;> (try simp (maxSteps := 8000000) -implicitDefEqProofs (disch := omega) only [↓reduceIte, go_sem, hG]) <;> clear hG)
      | ((first | refine gdKT_split (fun hg => ?_) (fun hg => ?_) | refine condKT_split (fun hg => ?_) (fun hg => ?_)) <;> (try simp (maxSteps := 8000000) -implicitDefEqProofs (disch := omega) only [↓reduceIte, go_sem, hg]))
      | (refine endT_p (.inr rfl) (by simp (maxSteps := 8000000) -implicitDefEqProofs (disch := omega) only [↓reduceIte, go_sem]; rfl) ?_; (first | exact vb_true (by omega) | exact vb_false (by omega) | exact vb_dec (by omega) | exact vi_eq (by omega) | rfl | (refine vi_eq ?_; simp_all; first | done | (intros; omega))))
      | exact endT_v (.inr rfl) (by simp (maxSteps := 8000000) -implicitDefEqProofs (disch := omega) only [↓reduceIte, go_sem]; try rfl) (fun _ => rfl)
/-! Marks -/
abbrev selB (l : List SlR) : TB := .cells 160 9 (rowsT slT l)
theorem saF_zero {x : SaR} (h : saF x = 0) : (0 ≤ x.sent ∧ x.sent ≤ 1099511627776) ∧ (0 ≤ x.byt ∧ x.byt ≤ 1000000000) ∧ (0 ≤ x.hard ∧ x.hard ≤ 1000000000) ∧ 1 ≤ x.sels.length ∧ x.sels.length ≤ 12 := by
  simp only [saF] at h
  split at h
  · rename_i hb
    split at h
    · split at h
      · cases h
      · simp only [selsF] at h
        split at h
        · rename_i hs; exact ⟨hb.2.2.2.1, hb.2.2.2.2.1, hb.2.2.2.2.2.1, hs⟩
        · cases h
    · contradiction
  · cases h
/-! Copies -/
noncomputable def clone_S := specP (fun x : List SlR => [.s (rowsT slT x)]) (fun x => 1 ≤ x.length ∧ x.length ≤ 12) (fun x => (.os 0 0 x.length, [selB x]))
theorem clone_at (l : List SlR) (h : 1 ≤ l.length ∧ l.length ≤ 12) : clone_S [.s (rowsT slT l)] = some (.os 0 0 l.length, [selB l]) :=
  specP_at (enc := fun x : List SlR => [.s (rowsT slT x)]) (fun x y h => by simp at h; exact sls_inj h) l h
-- slices.Clone[[]impl.Sel,impl.Sel]
def c132 : AF := ⟨8,
 (.seq (.reg [rO 2 (.mv (.v (.slice none 0 0)))])
 (.seq (.seq (.reg [rO 3 (.mv (.t 0)),
 rO 4 (.eqN false (.t 3))])
 (.cond (.t 4) (.seq (.reg [rO 2 (.mv (.v (.slice none 0 0)))])
 .ret)
 .skip))
 (.seq (.reg [rO 5 (.mkS 160 0 [] []),
 rO 6 (.mv (.t 0)),
 rO 7 (.app 160 9 72 (.t 5) (.t 6)),
 rO 2 (.mv (.t 7))])
 .ret))),
 [.t 2]⟩
theorem k132 : cFn Try.prog Try.f132 = some c132 := by kernel_rfl
theorem clone_ok : OkT Try.prog 132 (pureSp clone_S) := by
  refine okT_fn (OkΓT.nil _) Try.func132 (by kernel_rfl) k132 (fun x _ => ⟨rfl, by simp only [go_sem]⟩) ?_
  rintro l ⟨h1, h2⟩
  dsimp only at *
  (dsimp only [c132, rO]; simp (maxSteps := 8000000) -implicitDefEqProofs (disch := omega) only [↓reduceIte, go_sem])
  exact endT_of [1] (.inr rfl) (by simp (maxSteps := 8000000) -implicitDefEqProofs (disch := omega) only [↓reduceIte, go_sem]; rfl) (by simp (maxSteps := 8000000) -implicitDefEqProofs (disch := omega) only [↓reduceIte, go_sem]) (by simp (maxSteps := 8000000) -implicitDefEqProofs (disch := omega) only [↓reduceIte, go_sem]) (by decide) (by simp)
noncomputable def copy_S := specP (fun x : SaR => [saT x]) (fun x => 1 ≤ x.sels.length ∧ x.sels.length ≤ 12) (fun x => (.agg [.p (.int .i64 x.spi), .p (.int .i64 x.peer), .p (.int .i64 x.key), .p (.bool x.inn), .p (.int .i64 x.sent), .p (.int .i64 x.top), .p (.int .i64 x.bits), .p (.int .i64 x.byt), .p (.int .i64 x.hard), .p (.int .i64 x.til), .os 0 0 x.sels.length], [selB x.sels]))
theorem copy_at (spi peer key : Int) (inn : Bool) (sent top bits byt hard til : Int) (sels : List SlR) (h : 1 ≤ sels.length ∧ sels.length ≤ 12) : copy_S [.agg [.p (.int .i64 spi), .p (.int .i64 peer), .p (.int .i64 key), .p (.bool inn), .p (.int .i64 sent), .p (.int .i64 top), .p (.int .i64 bits), .p (.int .i64 byt), .p (.int .i64 hard), .p (.int .i64 til), .s (rowsT slT sels)]] = some (.agg [.p (.int .i64 spi), .p (.int .i64 peer), .p (.int .i64 key), .p (.bool inn), .p (.int .i64 sent), .p (.int .i64 top), .p (.int .i64 bits), .p (.int .i64 byt), .p (.int .i64 hard), .p (.int .i64 til), .os 0 0 sels.length], [selB sels]) :=
  specP_at (enc := fun x : SaR => [saT x]) (by intro x y h; exact saT_inj x y (by simpa using h)) ⟨spi, peer, key, inn, sent, top, bits, byt, hard, til, sels⟩ h
-- spec.l16Copy
def c99 : AF := ⟨9,
 (.seq (.reg [rO 1 (.box 45 (.t 0)),
 rO 2 (.alloc 45 [(.int .i64 0), (.int .i64 0), (.int .i64 0), (.bool false), (.int .i64 0), (.int .i64 0), (.int .i64 0), (.int .i64 0), (.int .i64 0), (.int .i64 0), (.slice none 0 0)])])
 (.seq (.reg [rO 3 (.mkS 160 0 [] []),
 rO 4 (.fa (.t 1) 10),
 rO 5 (.ld (.t 4)),
 rO 6 (.app 160 9 72 (.t 3) (.t 5)),
 rO 7 (.fa (.t 1) 10),
 ⟨none, none, .st 1 (.t 7) (.t 6)⟩])
 (.seq (.reg [rO 8 (.ldn 11 (.t 1)),
 ⟨none, none, .st 11 (.t 2) (.t 8)⟩])
 .ret))),
 [.cell 2 (some 11)]⟩
theorem k99 : cFn Try.prog Try.f99 = some c99 := by kernel_rfl
theorem l16Copy_ok : OkT Try.prog 99 (pureSp copy_S) := by
  refine okT_fn (OkΓT.nil _) Try.func99 (by kernel_rfl) k99 (fun x _ => ⟨rfl, by simp only [go_sem]⟩) ?_
  rintro x ⟨h1, h2⟩
  dsimp only [saT] at *
  (dsimp only [c99, rO]; simp (maxSteps := 8000000) -implicitDefEqProofs (disch := omega) only [↓reduceIte, go_sem])
  exact endT_of [3] (.inr rfl) (by simp (maxSteps := 8000000) -implicitDefEqProofs (disch := omega) only [↓reduceIte, go_sem]; rfl) (by simp (maxSteps := 8000000) -implicitDefEqProofs (disch := omega) only [↓reduceIte, go_sem]) (by simp (maxSteps := 8000000) -implicitDefEqProofs (disch := omega) only [↓reduceIte, go_sem]) (by decide) (by simp)
-- impl.cloneSa
def c85 : AF := ⟨8,
 (.seq (.reg [rO 1 (.box 45 (.t 0)),
 rO 2 (.alloc 45 [(.int .i64 0), (.int .i64 0), (.int .i64 0), (.bool false), (.int .i64 0), (.int .i64 0), (.int .i64 0), (.int .i64 0), (.int .i64 0), (.int .i64 0), (.slice none 0 0)])])
 (.seq (.reg [rO 3 (.fa (.t 1) 10),
 rO 4 (.ld (.t 3)),
 rO 5 (.call 132 [(.t 4)]),
 rO 6 (.fa (.t 1) 10),
 ⟨none, none, .st 1 (.t 6) (.t 5)⟩])
 (.seq (.reg [rO 7 (.ldn 11 (.t 1)),
 ⟨none, none, .st 11 (.t 2) (.t 7)⟩])
 .ret))),
 [.cell 2 (some 11)]⟩
theorem k85 : cFn Try.prog Try.f85 = some c85 := by kernel_rfl
theorem cloneSa_ok : OkT Try.prog 85 (pureSp copy_S) := by
  refine okT_fn (OkΓT.cons clone_ok (OkΓT.nil _)) Try.func85 (by kernel_rfl) k85 (fun x _ => ⟨rfl, by simp only [go_sem]⟩) ?_
  rintro x ⟨h1, h2⟩
  dsimp only [saT] at *
  (dsimp only [c85, rO]; simp (maxSteps := 8000000) -implicitDefEqProofs (disch := omega) only [↓reduceIte, go_sem, clone_at])
  exact endT_of [2] (.inr rfl) (by simp (maxSteps := 8000000) -implicitDefEqProofs (disch := omega) only [↓reduceIte, go_sem]; rfl) (by simp (maxSteps := 8000000) -implicitDefEqProofs (disch := omega) only [↓reduceIte, go_sem]) (by simp (maxSteps := 8000000) -implicitDefEqProofs (disch := omega) only [↓reduceIte, go_sem]) (by decide) (by simp)
/-! Charging -/
def chF (x : SaR) (a : Int) : Int := if x.byt + a > x.hard then 10 else if x.inn = false ∧ 1099511627776 ≤ x.sent then 2 else 0
def chV (x : SaR) (a : Int) (v : TV) : List TV := [.p (.int .i64 x.spi), .p (.int .i64 x.peer), .p (.int .i64 x.key), .p (.bool x.inn), .p (.int .i64 (if x.inn = true then x.sent else x.sent + 1)), .p (.int .i64 x.top), .p (.int .i64 x.bits), .p (.int .i64 (x.byt + a)), .p (.int .i64 x.hard), .p (.int .i64 x.til), v]
abbrev chB (x : SaR) (a : Int) : Prop := (0 ≤ a ∧ a ≤ 100000) ∧ (0 ≤ x.sent ∧ x.sent ≤ 1099511627776) ∧ (0 ≤ x.byt ∧ x.byt ≤ 1000000000) ∧ (0 ≤ x.hard ∧ x.hard ≤ 1000000000) ∧ 1 ≤ x.sels.length ∧ x.sels.length ≤ 12
noncomputable def ch_S := specP (fun x : SaR × Int => [saT x.1, .p (.int .i64 x.2)]) (fun x => chB x.1 x.2) (fun x => if chF x.1 x.2 = 0 then (.tup [.agg (chV x.1 x.2 (.os 0 0 x.1.sels.length)), .p (.int .i64 0)], [selB x.1.sels]) else (.tup [saT x.1, .p (.int .i64 (chF x.1 x.2))], []))
theorem sa2_inj : ∀ x y : SaR × Int, ([saT x.1, .p (.int .i64 x.2)] : List TV) = [saT y.1, .p (.int .i64 y.2)] → x = y := by
  rintro ⟨a, b⟩ ⟨a', b'⟩ h; simp at h; simp [saT_inj _ _ h.1, h.2]
theorem ch_at (x : SaR) (a : Int) (h : chB x a) : ch_S [.agg [.p (.int .i64 x.spi), .p (.int .i64 x.peer), .p (.int .i64 x.key), .p (.bool x.inn), .p (.int .i64 x.sent), .p (.int .i64 x.top), .p (.int .i64 x.bits), .p (.int .i64 x.byt), .p (.int .i64 x.hard), .p (.int .i64 x.til), .s (rowsT slT x.sels)], .p (.int .i64 a)] = some (if chF x a = 0 then (.tup [.agg (chV x a (.os 0 0 x.sels.length)), .p (.int .i64 0)], [selB x.sels]) else (.tup [saT x, .p (.int .i64 (chF x a))], [])) :=
  specP_at (enc := fun x : SaR × Int => [saT x.1, .p (.int .i64 x.2)]) sa2_inj (x, a) h
-- spec.l16Charge
def c87 : AF := ⟨39,
 (.seq (.reg [rO 2 (.box 45 (.t 0)),
 rO 4 (.alloc 45 [(.int .i64 0), (.int .i64 0), (.int .i64 0), (.bool false), (.int .i64 0), (.int .i64 0), (.int .i64 0), (.int .i64 0), (.int .i64 0), (.int .i64 0), (.slice none 0 0)]),
 rO 5 (.mv (.v (.int .i64 0)))])
 (.seq (.seq (.reg [rO 7 (.fa (.t 2) 7),
 rO 8 (.ld (.t 7)),
 rO 9 (.mv (.t 1)),
 rO 10 (.bin .add (.t 8) (.t 9)),
 rO 11 (.fa (.t 2) 8),
 rO 12 (.ld (.t 11)),
 rO 13 (.bin .gtr (.t 10) (.t 12))])
 (.cond (.t 13) (.seq (.reg [rO 14 (.ldn 11 (.t 2)),
 ⟨none, none, .st 11 (.t 4) (.t 14)⟩,
 rO 5 (.mv (.v (.int .i64 10)))])
 .ret)
 .skip))
 (.seq (.seq (.reg [rO 15 (.fa (.t 2) 3),
 rO 16 (.ld (.t 15)),
 rO 17 (.un .not (.t 16)),
 rO 18 (.mv (.t 17)),
 ⟨(some 19), (some (18, true)), .fa (.t 2) 4⟩,
 ⟨(some 20), (some (18, true)), .ld (.t 19)⟩,
 ⟨(some 21), (some (18, true)), .bin .geq (.t 20) (.v (.int .i64 1099511627776))⟩,
 rO 22 (.pick (.t 18) (.t 21) (.v (.bool false)))])
 (.cond (.t 22) (.seq (.reg [rO 23 (.ldn 11 (.t 2)),
 ⟨none, none, .st 11 (.t 4) (.t 23)⟩,
 rO 5 (.mv (.v (.int .i64 2)))])
 .ret)
 .skip))
 (.seq (.reg [rO 24 (.ldn 11 (.t 2)),
 rO 25 (.call 99 [(.t 24)]),
 rO 6 (.alloc 45 [(.int .i64 0), (.int .i64 0), (.int .i64 0), (.bool false), (.int .i64 0), (.int .i64 0), (.int .i64 0), (.int .i64 0), (.int .i64 0), (.int .i64 0), (.slice none 0 0)]),
 ⟨none, none, .st 11 (.t 6) (.t 25)⟩])
 (.seq (.reg [rO 26 (.fa (.t 2) 7),
 rO 27 (.ld (.t 26)),
 rO 28 (.mv (.t 1)),
 rO 29 (.bin .add (.t 27) (.t 28)),
 rO 30 (.fa (.t 6) 7),
 ⟨none, none, .st 1 (.t 30) (.t 29)⟩])
 (.seq (.seq (.reg [rO 31 (.fa (.t 2) 3),
 rO 32 (.ld (.t 31)),
 rO 33 (.un .not (.t 32))])
 (.cond (.t 33) (.reg [rO 34 (.fa (.t 2) 4),
 rO 35 (.ld (.t 34)),
 rO 36 (.bin .add (.t 35) (.v (.int .i64 1))),
 rO 37 (.fa (.t 6) 4),
 ⟨none, none, .st 1 (.t 37) (.t 36)⟩])
 .skip))
 (.seq (.reg [rO 38 (.ldn 11 (.t 6)),
 ⟨none, none, .st 11 (.t 4) (.t 38)⟩,
 rO 5 (.mv (.v (.int .i64 0)))])
 .ret))))))),
 [.cell 4 (some 11), .t 5]⟩
theorem k87 : cFn Try.prog Try.f87 = some c87 := by kernel_rfl
theorem l16Charge_ok : OkT Try.prog 87 (shareSp ch_S) := by
  refine okT_sh (OkΓT.cons l16Copy_ok (OkΓT.nil _)) Try.func87 (by kernel_rfl) k87 ?_
  rintro ⟨x, a⟩ ⟨h1, h2, h3, h4, h5, h6⟩
  dsimp only [saT] at *
  by_cases c1 : x.byt + a > x.hard
  · rw [show chF x a = 10 by simp only [chF]; rw [if_pos c1], if_neg (by decide)]
    (dsimp only [c87, rO]; simp (maxSteps := 8000000) -implicitDefEqProofs (disch := omega) only [↓reduceIte, go_sem, eq_true c1])
    exact endT_of [] (.inr rfl) (by simp (maxSteps := 8000000) -implicitDefEqProofs (disch := omega) only [↓reduceIte, go_sem]; rfl) (by simp (maxSteps := 8000000) -implicitDefEqProofs (disch := omega) only [↓reduceIte, go_sem]) (by simp (maxSteps := 8000000) -implicitDefEqProofs (disch := omega) only [↓reduceIte, go_sem]) (by decide) (by simp)
  by_cases c2 : x.inn = false ∧ 1099511627776 ≤ x.sent
  · rw [show chF x a = 2 by simp only [chF]; rw [if_neg c1, if_pos c2], if_neg (by decide)]
    obtain ⟨d1, d2⟩ := c2
    (dsimp only [c87, rO]; simp (maxSteps := 8000000) -implicitDefEqProofs (disch := omega) only [↓reduceIte, go_sem, eq_false c1, d1, eq_true d2, ge_iff_le, gt_iff_lt])
    exact endT_of [] (.inr rfl) (by simp (maxSteps := 8000000) -implicitDefEqProofs (disch := omega) only [↓reduceIte, go_sem, d1]; rfl) (by simp (maxSteps := 8000000) -implicitDefEqProofs (disch := omega) only [↓reduceIte, go_sem, d1]) (by simp (maxSteps := 8000000) -implicitDefEqProofs (disch := omega) only [↓reduceIte, go_sem, d1]) (by decide) (by simp)
  rw [show chF x a = 0 by simp only [chF]; rw [if_neg c1, if_neg c2], if_pos rfl]
  cases hi : x.inn with
  | true =>
    (dsimp only [c87, rO]; simp (maxSteps := 8000000) -implicitDefEqProofs (disch := omega) only [↓reduceIte, go_sem, eq_false c1, hi, copy_at, chV])
    exact endT_of [2] (.inr rfl) (by simp (maxSteps := 8000000) -implicitDefEqProofs (disch := omega) only [↓reduceIte, go_sem, chV, hi]; rfl) (by simp (maxSteps := 8000000) -implicitDefEqProofs (disch := omega) only [↓reduceIte, go_sem, chV, hi]) (by simp (maxSteps := 8000000) -implicitDefEqProofs (disch := omega) only [↓reduceIte, go_sem, chV, hi]) (by decide) (by simp)
  | false =>
    have d2 : ¬ 1099511627776 ≤ x.sent := fun h => c2 ⟨hi, h⟩
    (dsimp only [c87, rO]; simp (maxSteps := 8000000) -implicitDefEqProofs (disch := omega) only [↓reduceIte, go_sem, eq_false c1, hi, eq_false d2, ge_iff_le, gt_iff_lt, copy_at, chV])
    exact endT_of [2] (.inr rfl) (by simp (maxSteps := 8000000) -implicitDefEqProofs (disch := omega) only [↓reduceIte, go_sem, chV, hi]; rfl) (by simp (maxSteps := 8000000) -implicitDefEqProofs (disch := omega) only [↓reduceIte, go_sem, chV, hi]) (by simp (maxSteps := 8000000) -implicitDefEqProofs (disch := omega) only [↓reduceIte, go_sem, chV, hi]) (by decide) (by simp)
theorem saF_ax (x : SaR) (h : x.sels.length ≤ 140737488355328) : saF_S [.agg [.p (.int .i64 x.spi), .p (.int .i64 x.peer), .p (.int .i64 x.key), .p (.bool x.inn), .p (.int .i64 x.sent), .p (.int .i64 x.top), .p (.int .i64 x.bits), .p (.int .i64 x.byt), .p (.int .i64 x.hard), .p (.int .i64 x.til), .s (rowsT slT x.sels)]] = some (.p (.int .i64 (saF x)), []) := saF_at x.spi x.peer x.key x.inn x.sent x.top x.bits x.byt x.hard x.til x.sels h
def chR (x : SaR) (a : Int) : Int := if saF x = 0 then (if 0 ≤ a ∧ a ≤ 100000 then chF x a else 3) else saF x
noncomputable def cha_S := specP (fun x : SaR × Int => [saT x.1, .p (.int .i64 x.2)]) (fun x => x.1.sels.length ≤ 1048576) (fun x => if chR x.1 x.2 = 0 then (.agg (.p (.int .i64 0) :: .p (.int .i64 0) :: chV x.1 x.2 (.os 0 0 x.1.sels.length)), [selB x.1.sels]) else (.agg [.p (.int .i64 (chR x.1 x.2)), .p (.int .i64 0), .p (.int .i64 0), .p (.int .i64 0), .p (.int .i64 0), .p (.bool false), .p (.int .i64 0), .p (.int .i64 0), .p (.int .i64 0), .p (.int .i64 0), .p (.int .i64 0), .p (.int .i64 0), .nl], []))
theorem cha_at (x : SaR) (a : Int) (h : x.sels.length ≤ 1048576) : cha_S [.agg [.p (.int .i64 x.spi), .p (.int .i64 x.peer), .p (.int .i64 x.key), .p (.bool x.inn), .p (.int .i64 x.sent), .p (.int .i64 x.top), .p (.int .i64 x.bits), .p (.int .i64 x.byt), .p (.int .i64 x.hard), .p (.int .i64 x.til), .s (rowsT slT x.sels)], .p (.int .i64 a)] = some (if chR x a = 0 then (.agg (.p (.int .i64 0) :: .p (.int .i64 0) :: chV x a (.os 0 0 x.sels.length)), [selB x.sels]) else (.agg [.p (.int .i64 (chR x a)), .p (.int .i64 0), .p (.int .i64 0), .p (.int .i64 0), .p (.int .i64 0), .p (.bool false), .p (.int .i64 0), .p (.int .i64 0), .p (.int .i64 0), .p (.int .i64 0), .p (.int .i64 0), .p (.int .i64 0), .nl], [])) :=
  specP_at (enc := fun x : SaR × Int => [saT x.1, .p (.int .i64 x.2)]) sa2_inj (x, a) h
theorem cha_own : ∀ x : SaR × Int, x.1.sels.length ≤ 1048576 → ownT (if chR x.1 x.2 = 0 then ((.agg (.p (.int .i64 0) :: .p (.int .i64 0) :: chV x.1 x.2 (.os 0 0 x.1.sels.length)), [selB x.1.sels]) : TV × THeap) else (.agg [.p (.int .i64 (chR x.1 x.2)), .p (.int .i64 0), .p (.int .i64 0), .p (.int .i64 0), .p (.int .i64 0), .p (.bool false), .p (.int .i64 0), .p (.int .i64 0), .p (.int .i64 0), .p (.int .i64 0), .p (.int .i64 0), .p (.int .i64 0), .nl], [])).1 = true ∧ (if chR x.1 x.2 = 0 then ((.agg (.p (.int .i64 0) :: .p (.int .i64 0) :: chV x.1 x.2 (.os 0 0 x.1.sels.length)), [selB x.1.sels]) : TV × THeap) else (.agg [.p (.int .i64 (chR x.1 x.2)), .p (.int .i64 0), .p (.int .i64 0), .p (.int .i64 0), .p (.int .i64 0), .p (.bool false), .p (.int .i64 0), .p (.int .i64 0), .p (.int .i64 0), .p (.int .i64 0), .p (.int .i64 0), .p (.int .i64 0), .nl], [])).2.all ownB = true := by
  intro x _
  split
  · exact ⟨by simp [ownT, ownTs, chV], by simp [ownB, sls_own]⟩
  · exact ⟨by simp [ownT, ownTs], rfl⟩
-- spec.ChargeSa
def c31 : AF := ⟨30,
 (.seq (.reg [rO 2 (.box 45 (.t 0)),
 rO 4 (.alloc 70 [(.int .i64 0), (.int .i64 0), (.int .i64 0), (.int .i64 0), (.int .i64 0), (.bool false), (.int .i64 0), (.int .i64 0), (.int .i64 0), (.int .i64 0), (.int .i64 0), (.int .i64 0), (.slice none 0 0)])])
 (.seq (.seq (.reg [rO 8 (.ldn 11 (.t 2)),
 rO 9 (.call 86 [(.t 8)]),
 rO 5 (.mv (.t 9))])
 (.seq (.reg [rO 10 (.mv (.t 5)),
 rO 11 (.bin .neq (.t 10) (.v (.int .i64 0)))])
 (.cond (.t 11) (.seq (.reg [rO 12 (.mv (.t 5)),
 rO 13 (.build [(.int .i64 0), (.int .i64 0), (.int .i64 0), (.int .i64 0), (.int .i64 0), (.bool false), (.int .i64 0), (.int .i64 0), (.int .i64 0), (.int .i64 0), (.int .i64 0), (.int .i64 0), (.slice none 0 0)] [(0, 1, (.t 12))]),
 ⟨none, none, .st 13 (.t 4) (.t 13)⟩])
 .ret)
 .skip)))
 (.seq (.seq (.reg [rO 14 (.mv (.t 1)),
 rO 15 (.call 64 [(.t 14), (.v (.int .i64 0)), (.v (.int .i64 100000))]),
 rO 16 (.un .not (.t 15))])
 (.cond (.t 16) (.seq (.reg [rO 17 (.build [(.int .i64 0), (.int .i64 0), (.int .i64 0), (.int .i64 0), (.int .i64 0), (.bool false), (.int .i64 0), (.int .i64 0), (.int .i64 0), (.int .i64 0), (.int .i64 0), (.int .i64 0), (.slice none 0 0)] [(0, 1, (.v (.int .i64 3)))]),
 ⟨none, none, .st 13 (.t 4) (.t 17)⟩])
 .ret)
 .skip))
 (.seq (.reg [rO 19 (.ldn 11 (.t 2)),
 rO 20 (.mv (.t 1)),
 rO 21 (.call 87 [(.t 19), (.t 20)]),
 rO 18 (.mv (.t 21)),
 rO 22 (.ext (.t 18) 0),
 rO 23 (.ext (.t 18) 1),
 rO 6 (.alloc 45 [(.int .i64 0), (.int .i64 0), (.int .i64 0), (.bool false), (.int .i64 0), (.int .i64 0), (.int .i64 0), (.int .i64 0), (.int .i64 0), (.int .i64 0), (.slice none 0 0)]),
 ⟨none, none, .st 11 (.t 6) (.t 22)⟩,
 rO 7 (.mv (.t 23))])
 (.seq (.seq (.reg [rO 24 (.mv (.t 7)),
 rO 25 (.bin .neq (.t 24) (.v (.int .i64 0)))])
 (.cond (.t 25) (.seq (.reg [rO 26 (.mv (.t 7)),
 rO 27 (.build [(.int .i64 0), (.int .i64 0), (.int .i64 0), (.int .i64 0), (.int .i64 0), (.bool false), (.int .i64 0), (.int .i64 0), (.int .i64 0), (.int .i64 0), (.int .i64 0), (.int .i64 0), (.slice none 0 0)] [(0, 1, (.t 26))]),
 ⟨none, none, .st 13 (.t 4) (.t 27)⟩])
 .ret)
 .skip))
 (.seq (.reg [rO 28 (.ldn 11 (.t 6)),
 rO 29 (.build [(.int .i64 0), (.int .i64 0), (.int .i64 0), (.int .i64 0), (.int .i64 0), (.bool false), (.int .i64 0), (.int .i64 0), (.int .i64 0), (.int .i64 0), (.int .i64 0), (.int .i64 0), (.slice none 0 0)] [(2, 11, (.t 28))]),
 ⟨none, none, .st 13 (.t 4) (.t 29)⟩])
 .ret)))))),
 [.cell 4 (some 13)]⟩
theorem k31 : cFn Try.prog Try.f31 = some c31 := by kernel_rfl
theorem chaS_ok : OkT Try.prog 31 (pureSp cha_S) := by
  refine okT_fn (OkΓT.cons saFS_ok (OkΓT.cons l1In_ok (OkΓT.cons l16Charge_ok (OkΓT.nil _)))) Try.func31 (by kernel_rfl) k31 cha_own ?_
  rintro ⟨x, a⟩ hl
  dsimp only [saT] at *
  have hf := saF_ax x (by omega)
  by_cases hz : saF x = 0
  case neg =>
    have e : chR x a = saF x := by simp only [chR]; rw [if_neg hz]
    rw [e, if_neg hz]
    (dsimp only [c31, rO]; simp (maxSteps := 8000000) -implicitDefEqProofs (disch := omega) only [↓reduceIte, go_sem, hf, eq_false hz])
    exact endT_of [] (.inr rfl) (by simp (maxSteps := 8000000) -implicitDefEqProofs (disch := omega) only [↓reduceIte, go_sem]; rfl) (by simp (maxSteps := 8000000) -implicitDefEqProofs (disch := omega) only [↓reduceIte, go_sem]) (by simp (maxSteps := 8000000) -implicitDefEqProofs (disch := omega) only [↓reduceIte, go_sem]) (by decide) (by simp)
  obtain ⟨b1, b2, b3, b4⟩ := saF_zero hz
  by_cases ha : 0 ≤ a ∧ a ≤ 100000
  case neg =>
    have e : chR x a = 3 := by simp only [chR]; rw [if_pos hz, if_neg ha]
    rw [e, if_neg (by decide)]
    (dsimp only [c31, rO]; simp (maxSteps := 8000000) -implicitDefEqProofs (disch := omega) only [↓reduceIte, go_sem, hf, hz, in_at, eq_false ha])
    exact endT_of [] (.inr rfl) (by simp (maxSteps := 8000000) -implicitDefEqProofs (disch := omega) only [↓reduceIte, go_sem]; rfl) (by simp (maxSteps := 8000000) -implicitDefEqProofs (disch := omega) only [↓reduceIte, go_sem]) (by simp (maxSteps := 8000000) -implicitDefEqProofs (disch := omega) only [↓reduceIte, go_sem]) (by decide) (by simp)
  have hc := ch_at x a ⟨ha, b1, b2, b3, b4⟩
  have e : chR x a = chF x a := by simp only [chR]; rw [if_pos hz, if_pos ha]
  rw [e]
  by_cases hq : chF x a = 0
  · rw [if_pos hq] at hc
    rw [if_pos hq]
    (dsimp only [c31, rO]; simp (maxSteps := 8000000) -implicitDefEqProofs (disch := omega) only [↓reduceIte, go_sem, hf, hz, in_at, eq_true ha, hc, chV])
    exact endT_of [2] (.inr rfl) (by simp (maxSteps := 8000000) -implicitDefEqProofs (disch := omega) only [↓reduceIte, go_sem, chV]; rfl) (by simp (maxSteps := 8000000) -implicitDefEqProofs (disch := omega) only [↓reduceIte, go_sem, chV]) (by simp (maxSteps := 8000000) -implicitDefEqProofs (disch := omega) only [↓reduceIte, go_sem, chV]) (by decide) (by simp)
  · rw [if_neg hq] at hc
    rw [if_neg hq]
    (dsimp only [c31, rO]; simp (maxSteps := 8000000) -implicitDefEqProofs (disch := omega) only [↓reduceIte, go_sem, hf, hz, in_at, eq_true ha, hc, saT, eq_false hq])
    exact endT_of [] (.inr rfl) (by simp (maxSteps := 8000000) -implicitDefEqProofs (disch := omega) only [↓reduceIte, go_sem]; rfl) (by simp (maxSteps := 8000000) -implicitDefEqProofs (disch := omega) only [↓reduceIte, go_sem]) (by simp (maxSteps := 8000000) -implicitDefEqProofs (disch := omega) only [↓reduceIte, go_sem]) (by decide) (by simp)
-- impl.ChargeSa
def c30 : AF := ⟨53,
 (.seq (.reg [rO 2 (.box 45 (.t 0)),
 rO 4 (.alloc 70 [(.int .i64 0), (.int .i64 0), (.int .i64 0), (.int .i64 0), (.int .i64 0), (.bool false), (.int .i64 0), (.int .i64 0), (.int .i64 0), (.int .i64 0), (.int .i64 0), (.int .i64 0), (.slice none 0 0)])])
 (.seq (.seq (.reg [rO 7 (.ldn 11 (.t 2)),
 rO 8 (.call 32 [(.t 7)]),
 rO 5 (.mv (.t 8))])
 (.seq (.reg [rO 9 (.mv (.t 5)),
 rO 10 (.bin .neq (.t 9) (.v (.int .i64 0)))])
 (.cond (.t 10) (.seq (.reg [rO 11 (.mv (.t 5)),
 rO 12 (.build [(.int .i64 0), (.int .i64 0), (.int .i64 0), (.int .i64 0), (.int .i64 0), (.bool false), (.int .i64 0), (.int .i64 0), (.int .i64 0), (.int .i64 0), (.int .i64 0), (.int .i64 0), (.slice none 0 0)] [(0, 1, (.t 11))]),
 ⟨none, none, .st 13 (.t 4) (.t 12)⟩])
 .ret)
 .skip)))
 (.seq (.block 0 (.seq (.reg [rO 14 (.mv (.t 1)),
 rO 15 (.call 63 [(.t 14), (.v (.int .i64 0)), (.v (.int .i64 100000))]),
 rO 16 (.un .not (.t 15)),
 rO 13 (.mv (.t 16))])
 (.cond (.t 13) (.seq (.reg [rO 17 (.build [(.int .i64 0), (.int .i64 0), (.int .i64 0), (.int .i64 0), (.int .i64 0), (.bool false), (.int .i64 0), (.int .i64 0), (.int .i64 0), (.int .i64 0), (.int .i64 0), (.int .i64 0), (.slice none 0 0)] [(0, 1, (.v (.int .i64 3)))]),
 ⟨none, none, .st 13 (.t 4) (.t 17)⟩])
 .ret)
 (.seq (.reg [rO 19 (.fa (.t 2) 7),
 rO 20 (.ld (.t 19)),
 rO 21 (.mv (.t 1)),
 rO 22 (.bin .add (.t 20) (.t 21)),
 rO 23 (.fa (.t 2) 8),
 rO 24 (.ld (.t 23)),
 rO 25 (.bin .gtr (.t 22) (.t 24)),
 rO 18 (.mv (.t 25))])
 (.cond (.t 18) (.seq (.reg [rO 26 (.build [(.int .i64 0), (.int .i64 0), (.int .i64 0), (.int .i64 0), (.int .i64 0), (.bool false), (.int .i64 0), (.int .i64 0), (.int .i64 0), (.int .i64 0), (.int .i64 0), (.int .i64 0), (.slice none 0 0)] [(0, 1, (.v (.int .i64 10)))]),
 ⟨none, none, .st 13 (.t 4) (.t 26)⟩])
 .ret)
 (.seq (.reg [rO 28 (.fa (.t 2) 3),
 rO 29 (.ld (.t 28)),
 rO 30 (.un .not (.t 29)),
 rO 31 (.mv (.t 30)),
 ⟨(some 32), (some (31, true)), .fa (.t 2) 4⟩,
 ⟨(some 33), (some (31, true)), .ld (.t 32)⟩,
 ⟨(some 34), (some (31, true)), .bin .eql (.t 33) (.v (.int .i64 1099511627776))⟩,
 rO 35 (.pick (.t 31) (.t 34) (.v (.bool false))),
 rO 27 (.mv (.t 35))])
 (.cond (.t 27) (.seq (.reg [rO 36 (.build [(.int .i64 0), (.int .i64 0), (.int .i64 0), (.int .i64 0), (.int .i64 0), (.bool false), (.int .i64 0), (.int .i64 0), (.int .i64 0), (.int .i64 0), (.int .i64 0), (.int .i64 0), (.slice none 0 0)] [(0, 1, (.v (.int .i64 2)))]),
 ⟨none, none, .st 13 (.t 4) (.t 36)⟩])
 .ret)
 .skip)))))))
 (.seq (.reg [rO 37 (.ldn 11 (.t 2)),
 rO 38 (.call 85 [(.t 37)]),
 rO 6 (.alloc 45 [(.int .i64 0), (.int .i64 0), (.int .i64 0), (.bool false), (.int .i64 0), (.int .i64 0), (.int .i64 0), (.int .i64 0), (.int .i64 0), (.int .i64 0), (.slice none 0 0)]),
 ⟨none, none, .st 11 (.t 6) (.t 38)⟩])
 (.seq (.reg [rO 39 (.fa (.t 6) 7),
 rO 40 (.ld (.t 39)),
 rO 41 (.mv (.t 1)),
 rO 42 (.bin .add (.t 40) (.t 41)),
 rO 43 (.fa (.t 6) 7),
 ⟨none, none, .st 1 (.t 43) (.t 42)⟩])
 (.seq (.seq (.reg [rO 44 (.fa (.t 6) 3),
 rO 45 (.ld (.t 44)),
 rO 46 (.un .not (.t 45))])
 (.cond (.t 46) (.reg [rO 47 (.fa (.t 6) 4),
 rO 48 (.ld (.t 47)),
 rO 49 (.bin .add (.t 48) (.v (.int .i64 1))),
 rO 50 (.fa (.t 6) 4),
 ⟨none, none, .st 1 (.t 50) (.t 49)⟩])
 .skip))
 (.seq (.reg [rO 51 (.ldn 11 (.t 6)),
 rO 52 (.build [(.int .i64 0), (.int .i64 0), (.int .i64 0), (.int .i64 0), (.int .i64 0), (.bool false), (.int .i64 0), (.int .i64 0), (.int .i64 0), (.int .i64 0), (.int .i64 0), (.int .i64 0), (.slice none 0 0)] [(2, 11, (.t 51))]),
 ⟨none, none, .st 13 (.t 4) (.t 52)⟩])
 .ret))))))),
 [.cell 4 (some 13)]⟩
theorem k30 : cFn Try.prog Try.f30 = some c30 := by kernel_rfl
theorem chaI_ok : OkT Try.prog 30 (pureSp cha_S) := by
  refine okT_fn (OkΓT.cons saFI_ok (OkΓT.cons in_ok (OkΓT.cons cloneSa_ok (OkΓT.nil _)))) Try.func30 (by kernel_rfl) k30 cha_own ?_
  rintro ⟨x, a⟩ hl
  dsimp only [saT] at *
  have hf := saF_ax x (by omega)
  by_cases hz : saF x = 0
  case neg =>
    have e : chR x a = saF x := by simp only [chR]; rw [if_neg hz]
    rw [e, if_neg hz]
    (dsimp only [c30, rO]; simp (maxSteps := 8000000) -implicitDefEqProofs (disch := omega) only [↓reduceIte, go_sem, hf, eq_false hz])
    exact endT_of [] (.inr rfl) (by simp (maxSteps := 8000000) -implicitDefEqProofs (disch := omega) only [↓reduceIte, go_sem]; rfl) (by simp (maxSteps := 8000000) -implicitDefEqProofs (disch := omega) only [↓reduceIte, go_sem]) (by simp (maxSteps := 8000000) -implicitDefEqProofs (disch := omega) only [↓reduceIte, go_sem]) (by decide) (by simp)
  obtain ⟨b1, b2, b3, b4, b5⟩ := saF_zero hz
  by_cases ha : 0 ≤ a ∧ a ≤ 100000
  case neg =>
    have e : chR x a = 3 := by simp only [chR]; rw [if_pos hz, if_neg ha]
    rw [e, if_neg (by decide)]
    (dsimp only [c30, rO]; simp (maxSteps := 8000000) -implicitDefEqProofs (disch := omega) only [↓reduceIte, go_sem, hf, hz, in_at, eq_false ha])
    exact endT_of [] (.inr rfl) (by simp (maxSteps := 8000000) -implicitDefEqProofs (disch := omega) only [↓reduceIte, go_sem]; rfl) (by simp (maxSteps := 8000000) -implicitDefEqProofs (disch := omega) only [↓reduceIte, go_sem]) (by simp (maxSteps := 8000000) -implicitDefEqProofs (disch := omega) only [↓reduceIte, go_sem]) (by decide) (by simp)
  have e : chR x a = chF x a := by simp only [chR]; rw [if_pos hz, if_pos ha]
  rw [e]
  by_cases c1 : x.byt + a > x.hard
  · rw [show chF x a = 10 by simp only [chF]; rw [if_pos c1], if_neg (by decide)]
    (dsimp only [c30, rO]; simp (maxSteps := 8000000) -implicitDefEqProofs (disch := omega) only [↓reduceIte, go_sem, hf, hz, in_at, eq_true ha, eq_true c1])
    exact endT_of [] (.inr rfl) (by simp (maxSteps := 8000000) -implicitDefEqProofs (disch := omega) only [↓reduceIte, go_sem]; rfl) (by simp (maxSteps := 8000000) -implicitDefEqProofs (disch := omega) only [↓reduceIte, go_sem]) (by simp (maxSteps := 8000000) -implicitDefEqProofs (disch := omega) only [↓reduceIte, go_sem]) (by decide) (by simp)
  by_cases c2 : x.inn = false ∧ 1099511627776 ≤ x.sent
  · rw [show chF x a = 2 by simp only [chF]; rw [if_neg c1, if_pos c2], if_neg (by decide)]
    obtain ⟨d1, d2⟩ := c2
    have d3 : x.sent = 1099511627776 := by omega
    rw [d1, d3] at hf
    (dsimp only [c30, rO]; simp (maxSteps := 8000000) -implicitDefEqProofs (disch := omega) only [↓reduceIte, go_sem, hf, hz, in_at, eq_true ha, eq_false c1, d1, d3])
    exact endT_of [] (.inr rfl) (by simp (maxSteps := 8000000) -implicitDefEqProofs (disch := omega) only [↓reduceIte, go_sem]; rfl) (by simp (maxSteps := 8000000) -implicitDefEqProofs (disch := omega) only [↓reduceIte, go_sem]) (by simp (maxSteps := 8000000) -implicitDefEqProofs (disch := omega) only [↓reduceIte, go_sem]) (by decide) (by simp)
  rw [show chF x a = 0 by simp only [chF]; rw [if_neg c1, if_neg c2], if_pos rfl]
  cases hi : x.inn with
  | true =>
    rw [hi] at hf
    (dsimp only [c30, rO]; simp (maxSteps := 8000000) -implicitDefEqProofs (disch := omega) only [↓reduceIte, go_sem, hf, hz, in_at, eq_true ha, eq_false c1, hi, copy_at, chV])
    exact endT_of [2] (.inr rfl) (by simp (maxSteps := 8000000) -implicitDefEqProofs (disch := omega) only [↓reduceIte, go_sem, chV, hi]; rfl) (by simp (maxSteps := 8000000) -implicitDefEqProofs (disch := omega) only [↓reduceIte, go_sem, chV, hi]) (by simp (maxSteps := 8000000) -implicitDefEqProofs (disch := omega) only [↓reduceIte, go_sem, chV, hi]) (by decide) (by simp)
  | false =>
    rw [hi] at hf
    have d2 : ¬ x.sent = 1099511627776 := fun h => c2 ⟨hi, by omega⟩
    (dsimp only [c30, rO]; simp (maxSteps := 8000000) -implicitDefEqProofs (disch := omega) only [↓reduceIte, go_sem, hf, hz, in_at, eq_true ha, eq_false c1, hi, eq_false d2, copy_at, chV])
    exact endT_of [2] (.inr rfl) (by simp (maxSteps := 8000000) -implicitDefEqProofs (disch := omega) only [↓reduceIte, go_sem, chV, hi]; rfl) (by simp (maxSteps := 8000000) -implicitDefEqProofs (disch := omega) only [↓reduceIte, go_sem, chV, hi]) (by simp (maxSteps := 8000000) -implicitDefEqProofs (disch := omega) only [↓reduceIte, go_sem, chV, hi]) (by decide) (by simp)
/-! Alike -/
end Go.Proofs.Ytghpdclhhnbgjaa
