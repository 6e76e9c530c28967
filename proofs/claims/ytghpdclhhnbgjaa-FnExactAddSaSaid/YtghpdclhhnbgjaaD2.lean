import Derived.Test.YtghpdclhhnbgjaaD1
set_option linter.unusedSimpArgs false
set_option linter.unusedVariables false
set_option maxRecDepth 100000
set_option maxHeartbeats 4000000
namespace Go.Proofs.Ytghpdclhhnbgjaa
open Go Go.AH
attribute [local irreducible] awpT ropsT qopsT stepT condKT gdKT EndT joinK loopKT seqKT blkKT kont kontR
/-! Windows -/
theorem shr_ok {b k : Int} {kk : IntKind} (hb : 0 ≤ b) (hk : 0 ≤ k ∧ k ≤ 64) : abin .shr (.int .i64 b) (.int kk k) = some (.int .i64 (b / 2 ^ k.toNat)) := by
  simp only [abin]
  rw [if_neg (by omega)]
  congr 2
  rw [show min k.toNat IntKind.i64.bits = k.toNat by show min k.toNat 64 = _; omega]
  exact Int.fdiv_eq_ediv_of_nonneg _ (Int.le_of_lt (Int.pow_pos (by decide)))
theorem and1_ok {x : Int} (hx : 0 ≤ x ∧ x ≤ 9223372036854775807) : abin .and (.int .i64 x) (.int .i64 1) = some (.int .i64 (x % 2)) := by
  obtain ⟨n, rfl⟩ := Int.eq_ofNat_of_zero_le hx.1
  have e : ((BitVec.ofInt 64 (n : Int) &&& BitVec.ofInt 64 1).toNat : Int) = (n : Int) % 2 := by
    have h1 : (BitVec.ofInt 64 (n : Int)).toNat = n := by
      rw [BitVec.toNat_ofInt]; omega
    have h2 : (BitVec.ofInt 64 1).toNat = 1 := by decide
    rw [BitVec.toNat_and, h1, h2, Nat.and_one_is_mod]; omega
  simp only [abin, intB, if_true]
  show some (Value.int .i64 (IntKind.i64.wrap ((BitVec.ofInt 64 (n : Int) &&& BitVec.ofInt 64 1).toNat : Int))) = _
  rw [e, tw64 (by omega)]
theorem bit_bd {b : Int} (hb : 0 ≤ b ∧ b ≤ 4294967295) (k : Nat) : 0 ≤ b / 2 ^ k ∧ b / 2 ^ k ≤ 4294967295 := by
  have h0 : (0 : Int) < 2 ^ k := Int.pow_pos (by decide)
  exact ⟨Int.ediv_nonneg hb.1 (Int.le_of_lt h0), Int.le_trans (Int.ediv_le_self _ hb.1) hb.2⟩
def winBad (t b : Int) (k : Nat) : Prop := (b / 2 ^ k) % 2 = 1 ∧ t - k < 1
instance (t b : Int) (k : Nat) : Decidable (winBad t b k) := inferInstanceAs (Decidable (_ ∧ _))
def winF (t b : Int) : Int := if 0 ≤ t ∧ t ≤ 1099511627776 ∧ 0 ≤ b ∧ b ≤ 4294967295 then (if (t = 0 ∧ b ≠ 0) ∨ (0 < t ∧ b % 2 = 0) then 1 else if (List.range 32).any (fun k => decide (winBad t b k)) = true then 1 else 0) else 3
theorem winF_1 {t b : Int} (h : 0 ≤ t ∧ t ≤ 1099511627776 ∧ 0 ≤ b ∧ b ≤ 4294967295) (k : (t = 0 ∧ b ≠ 0) ∨ (0 < t ∧ b % 2 = 0)) : winF t b = 1 := by simp only [winF]; rw [if_pos h, if_pos k]
theorem winF_2 {t b : Int} (h : 0 ≤ t ∧ t ≤ 1099511627776 ∧ 0 ≤ b ∧ b ≤ 4294967295) (k : ¬ ((t = 0 ∧ b ≠ 0) ∨ (0 < t ∧ b % 2 = 0))) (j : Nat) (hj : j < 32) (hb : winBad t b j) : winF t b = 1 := by simp only [winF]; rw [if_pos h, if_neg k, if_pos (List.any_eq_true.2 ⟨j, List.mem_range.2 hj, decide_eq_true hb⟩)]
theorem winF_3 {t b : Int} (h : 0 ≤ t ∧ t ≤ 1099511627776 ∧ 0 ≤ b ∧ b ≤ 4294967295) (k : ¬ ((t = 0 ∧ b ≠ 0) ∨ (0 < t ∧ b % 2 = 0))) (hb : ∀ j, j < 32 → ¬ winBad t b j) : winF t b = 0 := by simp only [winF]; rw [if_pos h, if_neg k, if_neg (fun hh => by obtain ⟨j, hj, hh⟩ := List.any_eq_true.1 hh; exact hb j (List.mem_range.1 hj) (of_decide_eq_true hh))]
theorem winF_4 {t b : Int} (h : ¬ (0 ≤ t ∧ t ≤ 1099511627776 ∧ 0 ≤ b ∧ b ≤ 4294967295)) : winF t b = 3 := by simp only [winF]; rw [if_neg h]
structure WnR where
  (top bits : Int)
def wnT (x : WnR) : TV := .agg [.p (.int .i64 x.top), .p (.int .i64 x.bits)]
theorem wnT_inj (x y : WnR) (h : wnT x = wnT y) : x = y := by cases x; cases y; simp [wnT] at h; simp [h]
noncomputable def took_S := specP (fun x : WnR × Int => [wnT x.1, .p (.int .i64 x.2)]) (fun x => 0 ≤ x.1.bits ∧ x.1.bits ≤ 4294967295 ∧ 0 ≤ x.2 ∧ x.2 ≤ 64) (fun x => (.p (.bool (decide ((x.1.bits / 2 ^ x.2.toNat) % 2 = 1))), []))
theorem took_at (a b k : Int) (h : 0 ≤ b ∧ b ≤ 4294967295 ∧ 0 ≤ k ∧ k ≤ 64) : took_S [.agg [.p (.int .i64 a), .p (.int .i64 b)], .p (.int .i64 k)] = some (.p (.bool (decide ((b / 2 ^ k.toNat) % 2 = 1))), []) :=
  specP_at (enc := fun x : WnR × Int => [wnT x.1, .p (.int .i64 x.2)]) (by rintro ⟨a, b⟩ ⟨a', b'⟩ h; simp at h; simp [wnT_inj _ _ h.1, h.2]) (⟨a, b⟩, k) h
-- (impl.Window).took
def c129 : AF := ⟨11,
 (.seq (.reg [rO 2 (.box 42 (.t 0)),
 rO 4 (.mv (.v (.bool false)))])
 (.seq (.reg [rO 5 (.fa (.t 2) 1),
 rO 6 (.ld (.t 5)),
 rO 7 (.mv (.t 1)),
 rO 8 (.bin .shr (.t 6) (.t 7)),
 rO 9 (.bin .and (.t 8) (.v (.int .i64 1))),
 rO 10 (.bin .eql (.t 9) (.v (.int .i64 1))),
 rO 4 (.mv (.t 10))])
 .ret)),
 [.t 4]⟩
theorem k129 : cFn Try.prog Try.f129 = some c129 := by kernel_rfl
theorem took_ok : OkT Try.prog 129 (pureSp took_S) := by
  refine okT_fn (OkΓT.nil _) Try.func129 (by kernel_rfl) k129 (fun x _ => ⟨rfl, rfl⟩) ?_
  rintro ⟨⟨a, b⟩, k⟩ ⟨h1, h2, h3, h4⟩
  dsimp only [wnT] at *
  have hb := bit_bd ⟨h1, h2⟩ k.toNat
  (dsimp only [c129, rO]; simp (maxSteps := 8000000) -implicitDefEqProofs (disch := omega) only [↓reduceIte, go_sem, ↓shr_ok, ↓and1_ok])
  repeat' first
    | ((first | refine gdKT_deq (fun hg hG => ?_) (fun hg hG => ?_) | refine condKT_deq (fun hg hG => ?_) (fun hg hG => ?_)) <;> (try simp (maxSteps := 8000000) -implicitDefEqProofs (disch := omega) only [↓reduceIte, go_sem, hG, ↓shr_ok, ↓and1_ok]) <;> clear hG)
    | ((first | refine gdKT_split (fun hg => ?_) (fun hg => ?_) | refine condKT_split (fun hg => ?_) (fun hg => ?_)) <;> (try simp (maxSteps := 8000000) -implicitDefEqProofs (disch := omega) only [↓reduceIte, go_sem, hg, ↓shr_ok, ↓and1_ok]))
    | (refine endT_p (.inr rfl) (by simp (maxSteps := 8000000) -implicitDefEqProofs (disch := omega) only [↓reduceIte, go_sem, ↓shr_ok, ↓and1_ok]; rfl) ?_; (first | exact vb_true (by omega) | exact vb_false (by omega) | exact vb_dec (by omega) | exact vi_eq (by omega) | rfl | (refine vi_eq ?_; simp_all; first | done | (intros; omega))))
    | exact endT_v (.inr rfl) (by simp (maxSteps := 8000000) -implicitDefEqProofs (disch := omega) only [↓reduceIte, go_sem, ↓shr_ok, ↓and1_ok]; try rfl) (fun _ => rfl)
noncomputable def winF_S := specP (fun x : WnR => [wnT x]) (fun x => True) (fun x => (.p (.int .i64 (winF x.top x.bits)), []))
theorem winF_at (a b : Int) : winF_S [.agg [.p (.int .i64 a), .p (.int .i64 b)]] = some (.p (.int .i64 (winF a b)), []) :=
  specP_at (enc := fun x : WnR => [wnT x]) (by intro x y h; exact wnT_inj x y (by simpa using h)) ⟨a, b⟩ trivial
-- spec.WindowFault
def c133 : AF := ⟨51,
 (.seq (.reg [rO 1 (.box 42 (.t 0)),
 rO 2 (.mv (.v (.int .i64 0)))])
 (.seq (.seq (.reg [rO 4 (.fa (.t 1) 0),
 rO 5 (.ld (.t 4)),
 rO 6 (.call 64 [(.t 5), (.v (.int .i64 0)), (.v (.int .i64 1099511627776))]),
 rO 7 (.un .not (.t 6)),
 rO 8 (.mv (.t 7)),
 ⟨(some 9), (some (8, false)), .fa (.t 1) 1⟩,
 ⟨(some 10), (some (8, false)), .ld (.t 9)⟩,
 ⟨(some 11), (some (8, false)), .call 64 [(.t 10), (.v (.int .i64 0)), (.v (.int .i64 4294967295))]⟩,
 ⟨(some 12), (some (8, false)), .un .not (.t 11)⟩,
 rO 13 (.pick (.t 8) (.v (.bool true)) (.t 12))])
 (.cond (.t 13) (.seq (.reg [rO 2 (.mv (.v (.int .i64 3)))])
 .ret)
 .skip))
 (.seq (.seq (.reg [rO 14 (.fa (.t 1) 0),
 rO 15 (.ld (.t 14)),
 rO 16 (.bin .eql (.t 15) (.v (.int .i64 0))),
 rO 17 (.mv (.t 16)),
 ⟨(some 18), (some (17, true)), .fa (.t 1) 1⟩,
 ⟨(some 19), (some (17, true)), .ld (.t 18)⟩,
 ⟨(some 20), (some (17, true)), .bin .neq (.t 19) (.v (.int .i64 0))⟩,
 rO 21 (.pick (.t 17) (.t 20) (.v (.bool false))),
 rO 22 (.mv (.t 21)),
 ⟨(some 23), (some (22, false)), .fa (.t 1) 0⟩,
 ⟨(some 24), (some (22, false)), .ld (.t 23)⟩,
 ⟨(some 25), (some (22, false)), .bin .gtr (.t 24) (.v (.int .i64 0))⟩,
 ⟨(some 26), (some (22, false)), .mv (.t 25)⟩,
 ⟨(some 27), (some (26, true)), .fa (.t 1) 1⟩,
 ⟨(some 28), (some (26, true)), .ld (.t 27)⟩,
 ⟨(some 29), (some (26, true)), .bin .and (.t 28) (.v (.int .i64 1))⟩,
 ⟨(some 30), (some (26, true)), .bin .eql (.t 29) (.v (.int .i64 0))⟩,
 ⟨(some 31), (some (22, false)), .pick (.t 26) (.t 30) (.v (.bool false))⟩,
 rO 32 (.pick (.t 22) (.v (.bool true)) (.t 31))])
 (.cond (.t 32) (.seq (.reg [rO 2 (.mv (.v (.int .i64 1)))])
 .ret)
 .skip))
 (.seq (.seq (.reg [rO 3 (.mv (.v (.int .i64 0)))])
 (.block 0 (.loop (.seq (.seq (.reg [rO 33 (.mv (.t 3)),
 rO 34 (.bin .lss (.t 33) (.v (.int .i64 32)))])
 (.cond (.t 34) .skip
 (.exit 0)))
 (.seq (.block 1 (.seq (.reg [rO 37 (.fa (.t 1) 1),
 rO 38 (.ld (.t 37)),
 rO 39 (.mv (.t 3)),
 rO 40 (.cvI .u64 (.t 39)),
 rO 41 (.bin .shr (.t 38) (.t 40)),
 rO 42 (.bin .and (.t 41) (.v (.int .i64 1))),
 rO 43 (.bin .eql (.t 42) (.v (.int .i64 1))),
 rO 44 (.mv (.t 43)),
 ⟨(some 45), (some (44, true)), .fa (.t 1) 0⟩,
 ⟨(some 46), (some (44, true)), .ld (.t 45)⟩,
 ⟨(some 47), (some (44, true)), .mv (.t 3)⟩,
 ⟨(some 48), (some (44, true)), .bin .sub (.t 46) (.t 47)⟩,
 ⟨(some 49), (some (44, true)), .bin .lss (.t 48) (.v (.int .i64 1))⟩,
 rO 50 (.pick (.t 44) (.t 49) (.v (.bool false)))])
 (.cond (.t 50) (.seq (.reg [rO 2 (.mv (.v (.int .i64 1)))])
 .ret)
 .skip)))
 (.reg [rO 35 (.mv (.t 3)),
 rO 36 (.bin .add (.t 35) (.v (.int .i64 1))),
 rO 3 (.mv (.t 36))]))))))
 (.seq (.reg [rO 2 (.mv (.v (.int .i64 0)))])
 .ret))))),
 [.t 2]⟩
theorem k133 : cFn Try.prog Try.f133 = some c133 := by kernel_rfl
theorem winFS_ok : OkT Try.prog 133 (pureSp winF_S) := by
  refine okT_fn (OkΓT.cons l1In_ok (OkΓT.nil _)) Try.func133 (by kernel_rfl) k133 (fun x _ => ⟨rfl, rfl⟩) ?_
  rintro ⟨a, b⟩ _
  dsimp only [wnT]
  by_cases hr : 0 ≤ a ∧ a ≤ 1099511627776 ∧ 0 ≤ b ∧ b ≤ 4294967295
  case neg =>
    rw [winF_4 hr]
    (dsimp only [c133, rO]; simp (maxSteps := 8000000) -implicitDefEqProofs (disch := omega) only [↓reduceIte, go_sem, in_at, took_at, ↓shr_ok, ↓and1_ok])
    repeat' first
      | ((first | refine gdKT_deq (fun hg hG => ?_) (fun hg hG => ?_) | refine condKT_deq (fun hg hG => ?_) (fun hg hG => ?_)) <;> (try simp (maxSteps := 8000000) -implicitDefEqProofs (disch := omega) only [↓reduceIte, go_sem, hG, in_at, took_at, ↓shr_ok, ↓and1_ok]) <;> clear hG)
      | ((first | refine gdKT_split (fun hg => ?_) (fun hg => ?_) | refine condKT_split (fun hg => ?_) (fun hg => ?_)) <;> (try simp (maxSteps := 8000000) -implicitDefEqProofs (disch := omega) only [↓reduceIte, go_sem, hg, in_at, took_at, ↓shr_ok, ↓and1_ok]))
      | (refine endT_p (.inr rfl) (by simp (maxSteps := 8000000) -implicitDefEqProofs (disch := omega) only [↓reduceIte, go_sem, in_at, took_at, ↓shr_ok, ↓and1_ok]; rfl) ?_; (first | exact vb_true (by omega) | exact vb_false (by omega) | exact vb_dec (by omega) | exact vi_eq (by omega) | rfl | (refine vi_eq ?_; simp_all; first | done | (intros; omega))))
      | exact endT_v (.inr rfl) (by simp (maxSteps := 8000000) -implicitDefEqProofs (disch := omega) only [↓reduceIte, go_sem, in_at, took_at, ↓shr_ok, ↓and1_ok]; try rfl) (fun _ => rfl)
  by_cases hk : (a = 0 ∧ b ≠ 0) ∨ (0 < a ∧ b % 2 = 0)
  · rw [winF_1 hr hk]
    (dsimp only [c133, rO]; simp (maxSteps := 8000000) -implicitDefEqProofs (disch := omega) only [↓reduceIte, go_sem, in_at, took_at, ↓shr_ok, ↓and1_ok, Int.pow_zero, Int.ediv_one, Int.toNat_zero])
    repeat' first
      | ((first | refine gdKT_deq (fun hg hG => ?_) (fun hg hG => ?_) | refine condKT_deq (fun hg hG => ?_) (fun hg hG => ?_)) <;> (try simp (maxSteps := 8000000) -implicitDefEqProofs (disch := omega) only [↓reduceIte, go_sem, hG, in_at, took_at, ↓shr_ok, ↓and1_ok, Int.pow_zero, Int.ediv_one, Int.toNat_zero]) <;> clear hG)
      | ((first | refine gdKT_split (fun hg => ?_) (fun hg => ?_) | refine condKT_split (fun hg => ?_) (fun hg => ?_)) <;> (try simp (maxSteps := 8000000) -implicitDefEqProofs (disch := omega) only [↓reduceIte, go_sem, hg, in_at, took_at, ↓shr_ok, ↓and1_ok, Int.pow_zero, Int.ediv_one, Int.toNat_zero]))
      | (refine endT_p (.inr rfl) (by simp (maxSteps := 8000000) -implicitDefEqProofs (disch := omega) only [↓reduceIte, go_sem, in_at, took_at, ↓shr_ok, ↓and1_ok, Int.pow_zero, Int.ediv_one, Int.toNat_zero]; rfl) ?_; (first | exact vb_true (by omega) | exact vb_false (by omega) | exact vb_dec (by omega) | exact vi_eq (by omega) | rfl | (refine vi_eq ?_; simp_all; first | done | (intros; omega))))
      | exact endT_v (.inr rfl) (by simp (maxSteps := 8000000) -implicitDefEqProofs (disch := omega) only [↓reduceIte, go_sem, in_at, took_at, ↓shr_ok, ↓and1_ok, Int.pow_zero, Int.ediv_one, Int.toNat_zero]; try rfl) (fun _ => rfl)
  have hbits := fun k => bit_bd hr.2.2 k
  (dsimp only [c133, rO]; simp (maxSteps := 8000000) -implicitDefEqProofs (disch := omega) only [↓reduceIte, go_sem, in_at, took_at, ↓shr_ok, ↓and1_ok, Int.pow_zero, Int.ediv_one, Int.toNat_zero])
  repeat' first
    | ((first | refine gdKT_deq (fun hg hG => ?_) (fun hg hG => ?_) | refine condKT_deq (fun hg hG => ?_) (fun hg hG => ?_)) <;> (try simp (maxSteps := 8000000) -implicitDefEqProofs (disch := omega) only [↓reduceIte, go_sem, hG, in_at, took_at, ↓shr_ok, ↓and1_ok, Int.pow_zero, Int.ediv_one, Int.toNat_zero]) <;> clear hG)
    | ((first | refine gdKT_split (fun hg => ?_) (fun hg => ?_) | refine condKT_split (fun hg => ?_) (fun hg => ?_)) <;> (try simp (maxSteps := 8000000) -implicitDefEqProofs (disch := omega) only [↓reduceIte, go_sem, hg, in_at, took_at, ↓shr_ok, ↓and1_ok, Int.pow_zero, Int.ediv_one, Int.toNat_zero]))
    | (refine endT_p (.inr rfl) (by simp (maxSteps := 8000000) -implicitDefEqProofs (disch := omega) only [↓reduceIte, go_sem, in_at, took_at, ↓shr_ok, ↓and1_ok, Int.pow_zero, Int.ediv_one, Int.toNat_zero]; rfl) ?_; (first | exact vb_true (by omega) | exact vb_false (by omega) | exact vb_dec (by omega) | exact vi_eq (by omega) | rfl | (refine vi_eq ?_; simp_all; first | done | (intros; omega))))
    | exact endT_v (.inr rfl) (by simp (maxSteps := 8000000) -implicitDefEqProofs (disch := omega) only [↓reduceIte, go_sem, in_at, took_at, ↓shr_ok, ↓and1_ok, Int.pow_zero, Int.ediv_one, Int.toNat_zero]; try rfl) (fun _ => rfl)
  all_goals
    refine awpT_loop (α := Nat) (fun i => ⟨slots [(1, .op 0 0 0), (3, .p (.int .i64 i))], [.cells 42 2 [.agg [.p (.int .i64 a), .p (.int .i64 b)]]]⟩)
      (fun i => i ≤ 32 ∧ ∀ j, j < i → ¬ winBad a b j) (fun i => 32 - i) 0 ⟨by omega, fun j hj => absurd hj (by omega)⟩ (le_of [0] (by simp (maxSteps := 8000000) -implicitDefEqProofs (disch := omega) only [↓reduceIte, go_sem]) (by simp (maxSteps := 8000000) -implicitDefEqProofs (disch := omega) only [↓reduceIte, go_sem]) (by decide) (by simp)) ?_
    intro i ⟨hi, hnb⟩
    have hq := hbits i
    simp (maxSteps := 8000000) -implicitDefEqProofs (disch := omega) only [↓reduceIte, go_sem]
    refine condKT_dec (fun hlt => ?_) (fun hge => ?_)
    · have hcv : IntKind.u64.wrap (i : Int) = i := by simp [IntKind.wrap, IntKind.min, IntKind.max, IntKind.bits, IntKind.signed]; omega
      by_cases hbad : winBad a b i
      · rw [winF_2 hr hk i (by omega) hbad]
        obtain ⟨g1, g2⟩ := hbad
        simp (maxSteps := 8000000) -implicitDefEqProofs (disch := omega) only [↓reduceIte, go_sem, hcv, took_at, ↓shr_ok, ↓and1_ok]
        repeat' first
          | ((first | refine gdKT_deq (fun hg hG => ?_) (fun hg hG => ?_) | refine condKT_deq (fun hg hG => ?_) (fun hg hG => ?_)) <;> (try simp (maxSteps := 8000000) -implicitDefEqProofs (disch := omega) only [↓reduceIte, go_sem, hG, hcv, took_at, ↓shr_ok, ↓and1_ok]) <;> clear hG)
          | ((first | refine gdKT_split (fun hg => ?_) (fun hg => ?_) | refine condKT_split (fun hg => ?_) (fun hg => ?_)) <;> (try simp (maxSteps := 8000000) -implicitDefEqProofs (disch := omega) only [↓reduceIte, go_sem, hg, hcv, took_at, ↓shr_ok, ↓and1_ok]))
          | (refine endT_p (.inr rfl) (by simp (maxSteps := 8000000) -implicitDefEqProofs (disch := omega) only [↓reduceIte, go_sem, hcv, took_at, ↓shr_ok, ↓and1_ok]; rfl) ?_; (first | exact vb_true (by omega) | exact vb_false (by omega) | exact vb_dec (by omega) | exact vi_eq (by omega) | rfl | (refine vi_eq ?_; simp_all; first | done | (intros; omega))))
          | exact endT_v (.inr rfl) (by simp (maxSteps := 8000000) -implicitDefEqProofs (disch := omega) only [↓reduceIte, go_sem, hcv, took_at, ↓shr_ok, ↓and1_ok]; try rfl) (fun _ => rfl)
      · have hbad' : ¬ ((b / 2 ^ i) % 2 = 1 ∧ a - i < 1) := hbad
        simp (maxSteps := 8000000) -implicitDefEqProofs (disch := omega) only [↓reduceIte, go_sem, hcv, took_at, ↓shr_ok, ↓and1_ok]
        repeat' first
          | ((first | refine gdKT_deq (fun hg hG => ?_) (fun hg hG => ?_) | refine condKT_deq (fun hg hG => ?_) (fun hg hG => ?_)) <;> (try simp (maxSteps := 8000000) -implicitDefEqProofs (disch := omega) only [↓reduceIte, go_sem, hG, hcv, took_at, ↓shr_ok, ↓and1_ok]) <;> clear hG)
          | ((first | refine gdKT_split (fun hg => ?_) (fun hg => ?_) | refine condKT_split (fun hg => ?_) (fun hg => ?_)) <;> (try simp (maxSteps := 8000000) -implicitDefEqProofs (disch := omega) only [↓reduceIte, go_sem, hg, hcv, took_at, ↓shr_ok, ↓and1_ok]))
          | (refine endT_p (.inr rfl) (by simp (maxSteps := 8000000) -implicitDefEqProofs (disch := omega) only [↓reduceIte, go_sem, hcv, took_at, ↓shr_ok, ↓and1_ok]; rfl) ?_; (first | exact vb_true (by omega) | exact vb_false (by omega) | exact vb_dec (by omega) | exact vi_eq (by omega) | rfl | (refine vi_eq ?_; simp_all; first | done | (intros; omega))))
          | exact endT_v (.inr rfl) (by simp (maxSteps := 8000000) -implicitDefEqProofs (disch := omega) only [↓reduceIte, go_sem, hcv, took_at, ↓shr_ok, ↓and1_ok]; try rfl) (fun _ => rfl)
        all_goals
          refine loopKT_next (i + 1) ⟨by omega, fun j hj => ?_⟩ (by omega) ?_
          · by_cases e : j = i
            · subst e; exact hbad
            · exact hnb j (by omega)
          · exact (le_of [0] (by simp (maxSteps := 8000000) -implicitDefEqProofs (disch := omega) only [↓reduceIte, go_sem]) (by simp (maxSteps := 8000000) -implicitDefEqProofs (disch := omega) only [↓reduceIte, go_sem]) (by decide) (by simp))
    · rw [winF_3 hr hk (fun j hj => hnb j (by omega))]
      simp (maxSteps := 8000000) -implicitDefEqProofs (disch := omega) only [↓reduceIte, go_sem]
      refine joinK_here ?_
      simp (maxSteps := 8000000) -implicitDefEqProofs (disch := omega) only [↓reduceIte, go_sem]
      repeat' first
        | ((first | refine gdKT_deq (fun hg hG => ?_) (fun hg hG => ?_) | refine condKT_deq (fun hg hG => ?_) (fun hg hG => ?_)) <;> (try simp (maxSteps := 8000000) -implicitDefEqProofs (disch := omega) only [↓reduceIte, go_sem, hG]) <;> clear hG)
        | ((first | refine gdKT_split (fun hg => ?_) (fun hg => ?_) | refine condKT_split (fun hg => ?_) (fun hg => ?_)) <;> (try simp (maxSteps := 8000000) -implicitDefEqProofs (disch := omega) only [↓reduceIte, go_sem, hg]))
        | (refine endT_p (.inr rfl) (by simp (maxSteps := 8000000) -implicitDefEqProofs (disch := omega) only [↓reduceIte, go_sem]; rfl) ?_; (first | exact vb_true (by omega) | exact vb_false (by omega) | exact vb_dec (by omega) | exact vi_eq (by omega) | rfl | (refine vi_eq ?_; simp_all; first | done | (intros; omega))))
        | exact endT_v (.inr rfl) (by simp (maxSteps := 8000000) -implicitDefEqProofs (disch := omega) only [↓reduceIte, go_sem]; try rfl) (fun _ => rfl)
-- impl.WindowFault
def c73 : AF := ⟨46,
 (.seq (.reg [rO 1 (.box 42 (.t 0)),
 rO 2 (.mv (.v (.int .i64 0)))])
 (.seq (.seq (.reg [rO 4 (.fa (.t 1) 0),
 rO 5 (.ld (.t 4)),
 rO 6 (.call 63 [(.t 5), (.v (.int .i64 0)), (.v (.int .i64 1099511627776))]),
 rO 7 (.un .not (.t 6)),
 rO 8 (.mv (.t 7)),
 ⟨(some 9), (some (8, false)), .fa (.t 1) 1⟩,
 ⟨(some 10), (some (8, false)), .ld (.t 9)⟩,
 ⟨(some 11), (some (8, false)), .call 63 [(.t 10), (.v (.int .i64 0)), (.v (.int .i64 4294967295))]⟩,
 ⟨(some 12), (some (8, false)), .un .not (.t 11)⟩,
 rO 13 (.pick (.t 8) (.v (.bool true)) (.t 12))])
 (.cond (.t 13) (.seq (.reg [rO 2 (.mv (.v (.int .i64 3)))])
 .ret)
 .skip))
 (.seq (.seq (.reg [rO 14 (.fa (.t 1) 0),
 rO 15 (.ld (.t 14)),
 rO 16 (.bin .eql (.t 15) (.v (.int .i64 0))),
 rO 17 (.mv (.t 16)),
 ⟨(some 18), (some (17, true)), .fa (.t 1) 1⟩,
 ⟨(some 19), (some (17, true)), .ld (.t 18)⟩,
 ⟨(some 20), (some (17, true)), .bin .neq (.t 19) (.v (.int .i64 0))⟩,
 rO 21 (.pick (.t 17) (.t 20) (.v (.bool false))),
 rO 22 (.mv (.t 21)),
 ⟨(some 23), (some (22, false)), .fa (.t 1) 0⟩,
 ⟨(some 24), (some (22, false)), .ld (.t 23)⟩,
 ⟨(some 25), (some (22, false)), .bin .gtr (.t 24) (.v (.int .i64 0))⟩,
 ⟨(some 26), (some (22, false)), .mv (.t 25)⟩,
 ⟨(some 27), (some (26, true)), .ldn 2 (.t 1)⟩,
 ⟨(some 28), (some (26, true)), .call 129 [(.t 27), (.v (.int .i64 0))]⟩,
 ⟨(some 29), (some (26, true)), .un .not (.t 28)⟩,
 ⟨(some 30), (some (22, false)), .pick (.t 26) (.t 29) (.v (.bool false))⟩,
 rO 31 (.pick (.t 22) (.v (.bool true)) (.t 30))])
 (.cond (.t 31) (.seq (.reg [rO 2 (.mv (.v (.int .i64 1)))])
 .ret)
 .skip))
 (.seq (.seq (.reg [rO 32 (.mv (.v (.int .i64 0)))])
 (.block 0 (.loop (.seq (.reg [rO 33 (.bin .lss (.t 32) (.v (.int .i64 32)))])
 (.seq (.cond (.t 33) .skip
 (.exit 0))
 (.seq (.block 1 (.seq (.reg [rO 34 (.mv (.t 32)),
 rO 3 (.mv (.t 34))])
 (.seq (.reg [rO 35 (.ldn 2 (.t 1)),
 rO 36 (.mv (.t 3)),
 rO 37 (.call 129 [(.t 35), (.t 36)]),
 rO 38 (.mv (.t 37)),
 ⟨(some 39), (some (38, true)), .fa (.t 1) 0⟩,
 ⟨(some 40), (some (38, true)), .ld (.t 39)⟩,
 ⟨(some 41), (some (38, true)), .mv (.t 3)⟩,
 ⟨(some 42), (some (38, true)), .bin .sub (.t 40) (.t 41)⟩,
 ⟨(some 43), (some (38, true)), .bin .lss (.t 42) (.v (.int .i64 1))⟩,
 rO 44 (.pick (.t 38) (.t 43) (.v (.bool false)))])
 (.cond (.t 44) (.seq (.reg [rO 2 (.mv (.v (.int .i64 1)))])
 .ret)
 .skip))))
 (.reg [rO 45 (.bin .add (.t 32) (.v (.int .i64 1))),
 rO 32 (.mv (.t 45))])))))))
 (.seq (.reg [rO 2 (.mv (.v (.int .i64 0)))])
 .ret))))),
 [.t 2]⟩
theorem k73 : cFn Try.prog Try.f73 = some c73 := by kernel_rfl
theorem winFI_ok : OkT Try.prog 73 (pureSp winF_S) := by
  refine okT_fn (OkΓT.cons in_ok (OkΓT.cons took_ok (OkΓT.nil _))) Try.func73 (by kernel_rfl) k73 (fun x _ => ⟨rfl, rfl⟩) ?_
  rintro ⟨a, b⟩ _
  dsimp only [wnT]
  by_cases hr : 0 ≤ a ∧ a ≤ 1099511627776 ∧ 0 ≤ b ∧ b ≤ 4294967295
  case neg =>
    rw [winF_4 hr]
    (dsimp only [c73, rO]; simp (maxSteps := 8000000) -implicitDefEqProofs (disch := omega) only [↓reduceIte, go_sem, in_at, took_at, ↓shr_ok, ↓and1_ok])
    repeat' first
      | ((first | refine gdKT_deq (fun hg hG => ?_) (fun hg hG => ?_) | refine condKT_deq (fun hg hG => ?_) (fun hg hG => ?_)) <;> (try simp (maxSteps := 8000000) -implicitDefEqProofs (disch := omega) only [↓reduceIte, go_sem, hG, in_at, took_at, ↓shr_ok, ↓and1_ok]) <;> clear hG)
      | ((first | refine gdKT_split (fun hg => ?_) (fun hg => ?_) | refine condKT_split (fun hg => ?_) (fun hg => ?_)) <;> (try simp (maxSteps := 8000000) -implicitDefEqProofs (disch := omega) only [↓reduceIte, go_sem, hg, in_at, took_at, ↓shr_ok, ↓and1_ok]))
      | (refine endT_p (.inr rfl) (by simp (maxSteps := 8000000) -implicitDefEqProofs (disch := omega) only [↓reduceIte, go_sem, in_at, took_at, ↓shr_ok, ↓and1_ok]; rfl) ?_; (first | exact vb_true (by omega) | exact vb_false (by omega) | exact vb_dec (by omega) | exact vi_eq (by omega) | rfl | (refine vi_eq ?_; simp_all; first | done | (intros; omega))))
      | exact endT_v (.inr rfl) (by simp (maxSteps := 8000000) -implicitDefEqProofs (disch := omega) only [↓reduceIte, go_sem, in_at, took_at, ↓shr_ok, ↓and1_ok]; try rfl) (fun _ => rfl)
  by_cases hk : (a = 0 ∧ b ≠ 0) ∨ (0 < a ∧ b % 2 = 0)
  · rw [winF_1 hr hk]
    (dsimp only [c73, rO]; simp (maxSteps := 8000000) -implicitDefEqProofs (disch := omega) only [↓reduceIte, go_sem, in_at, took_at, ↓shr_ok, ↓and1_ok, Int.pow_zero, Int.ediv_one, Int.toNat_zero])
    repeat' first
      | ((first | refine gdKT_deq (fun hg hG => ?_) (fun hg hG => ?_) | refine condKT_deq (fun hg hG => ?_) (fun hg hG => ?_)) <;> (try simp (maxSteps := 8000000) -implicitDefEqProofs (disch := omega) only [↓reduceIte, go_sem, hG, in_at, took_at, ↓shr_ok, ↓and1_ok, Int.pow_zero, Int.ediv_one, Int.toNat_zero]) <;> clear hG)
      | ((first | refine gdKT_split (fun hg => ?_) (fun hg => ?_) | refine condKT_split (fun hg => ?_) (fun hg => ?_)) <;> (try simp (maxSteps := 8000000) -implicitDefEqProofs (disch := omega) only [↓reduceIte, go_sem, hg, in_at, took_at, ↓shr_ok, ↓and1_ok, Int.pow_zero, Int.ediv_one, Int.toNat_zero]))
      | (refine endT_p (.inr rfl) (by simp (maxSteps := 8000000) -implicitDefEqProofs (disch := omega) only [↓reduceIte, go_sem, in_at, took_at, ↓shr_ok, ↓and1_ok, Int.pow_zero, Int.ediv_one, Int.toNat_zero]; rfl) ?_; (first | exact vb_true (by omega) | exact vb_false (by omega) | exact vb_dec (by omega) | exact vi_eq (by omega) | rfl | (refine vi_eq ?_; simp_all; first | done | (intros; omega))))
      | exact endT_v (.inr rfl) (by simp (maxSteps := 8000000) -implicitDefEqProofs (disch := omega) only [↓reduceIte, go_sem, in_at, took_at, ↓shr_ok, ↓and1_ok, Int.pow_zero, Int.ediv_one, Int.toNat_zero]; try rfl) (fun _ => rfl)
  have hbits := fun k => bit_bd hr.2.2 k
  (dsimp only [c73, rO]; simp (maxSteps := 8000000) -implicitDefEqProofs (disch := omega) only [↓reduceIte, go_sem, in_at, took_at, ↓shr_ok, ↓and1_ok, Int.pow_zero, Int.ediv_one, Int.toNat_zero])
  repeat' first
    | ((first | refine gdKT_deq (fun hg hG => ?_) (fun hg hG => ?_) | refine condKT_deq (fun hg hG => ?_) (fun hg hG => ?_)) <;> (try simp (maxSteps := 8000000) -implicitDefEqProofs (disch := omega) only [↓reduceIte, go_sem, hG, in_at, took_at, ↓shr_ok, ↓and1_ok, Int.pow_zero, Int.ediv_one, Int.toNat_zero]) <;> clear hG)
    | ((first | refine gdKT_split (fun hg => ?_) (fun hg => ?_) | refine condKT_split (fun hg => ?_) (fun hg => ?_)) <;> (try simp (maxSteps := 8000000) -implicitDefEqProofs (disch := omega) only [↓reduceIte, go_sem, hg, in_at, took_at, ↓shr_ok, ↓and1_ok, Int.pow_zero, Int.ediv_one, Int.toNat_zero]))
    | (refine endT_p (.inr rfl) (by simp (maxSteps := 8000000) -implicitDefEqProofs (disch := omega) only [↓reduceIte, go_sem, in_at, took_at, ↓shr_ok, ↓and1_ok, Int.pow_zero, Int.ediv_one, Int.toNat_zero]; rfl) ?_; (first | exact vb_true (by omega) | exact vb_false (by omega) | exact vb_dec (by omega) | exact vi_eq (by omega) | rfl | (refine vi_eq ?_; simp_all; first | done | (intros; omega))))
    | exact endT_v (.inr rfl) (by simp (maxSteps := 8000000) -implicitDefEqProofs (disch := omega) only [↓reduceIte, go_sem, in_at, took_at, ↓shr_ok, ↓and1_ok, Int.pow_zero, Int.ediv_one, Int.toNat_zero]; try rfl) (fun _ => rfl)
  all_goals
    refine awpT_loop (α := Nat) (fun i => ⟨slots [(1, .op 0 0 0), (32, .p (.int .i64 i))], [.cells 42 2 [.agg [.p (.int .i64 a), .p (.int .i64 b)]]]⟩)
      (fun i => i ≤ 32 ∧ ∀ j, j < i → ¬ winBad a b j) (fun i => 32 - i) 0 ⟨by omega, fun j hj => absurd hj (by omega)⟩ (le_of [0] (by simp (maxSteps := 8000000) -implicitDefEqProofs (disch := omega) only [↓reduceIte, go_sem]) (by simp (maxSteps := 8000000) -implicitDefEqProofs (disch := omega) only [↓reduceIte, go_sem]) (by decide) (by simp)) ?_
    intro i ⟨hi, hnb⟩
    have hq := hbits i
    simp (maxSteps := 8000000) -implicitDefEqProofs (disch := omega) only [↓reduceIte, go_sem]
    refine condKT_dec (fun hlt => ?_) (fun hge => ?_)
    · have hcv : IntKind.u64.wrap (i : Int) = i := by simp [IntKind.wrap, IntKind.min, IntKind.max, IntKind.bits, IntKind.signed]; omega
      by_cases hbad : winBad a b i
      · rw [winF_2 hr hk i (by omega) hbad]
        obtain ⟨g1, g2⟩ := hbad
        simp (maxSteps := 8000000) -implicitDefEqProofs (disch := omega) only [↓reduceIte, go_sem, hcv, took_at, ↓shr_ok, ↓and1_ok]
        repeat' first
          | ((first | refine gdKT_deq (fun hg hG => ?_) (fun hg hG => ?_) | refine condKT_deq (fun hg hG => ?_) (fun hg hG => ?_)) <;> (try simp (maxSteps := 8000000) -implicitDefEqProofs (disch := omega) only [↓reduceIte, go_sem, hG, hcv, took_at, ↓shr_ok, ↓and1_ok]) <;> clear hG)
          | ((first | refine gdKT_split (fun hg => ?_) (fun hg => ?_) | refine condKT_split (fun hg => ?_) (fun hg => ?_)) <;> (try simp (maxSteps := 8000000) -implicitDefEqProofs (disch := omega) only [↓reduceIte, go_sem, hg, hcv, took_at, ↓shr_ok, ↓and1_ok]))
          | (refine endT_p (.inr rfl) (by simp (maxSteps := 8000000) -implicitDefEqProofs (disch := omega) only [↓reduceIte, go_sem, hcv, took_at, ↓shr_ok, ↓and1_ok]; rfl) ?_; (first | exact vb_true (by omega) | exact vb_false (by omega) | exact vb_dec (by omega) | exact vi_eq (by omega) | rfl | (refine vi_eq ?_; simp_all; first | done | (intros; omega))))
          | exact endT_v (.inr rfl) (by simp (maxSteps := 8000000) -implicitDefEqProofs (disch := omega) only [↓reduceIte, go_sem, hcv, took_at, ↓shr_ok, ↓and1_ok]; try rfl) (fun _ => rfl)
      · have hbad' : ¬ ((b / 2 ^ i) % 2 = 1 ∧ a - i < 1) := hbad
        simp (maxSteps := 8000000) -implicitDefEqProofs (disch := omega) only [↓reduceIte, go_sem, hcv, took_at, ↓shr_ok, ↓and1_ok]
        repeat' first
          | ((first | refine gdKT_deq (fun hg hG => ?_) (fun hg hG => ?_) | refine condKT_deq (fun hg hG => ?_) (fun hg hG => ?_)) <;> (try simp (maxSteps := 8000000) -implicitDefEqProofs (disch := omega) only [↓reduceIte, go_sem, hG, hcv, took_at, ↓shr_ok, ↓and1_ok]) <;> clear hG)
          | ((first | refine gdKT_split (fun hg => ?_) (fun hg => ?_) | refine condKT_split (fun hg => ?_) (fun hg => ?_)) <;> (try simp (maxSteps := 8000000) -implicitDefEqProofs (disch := omega) only [↓reduceIte, go_sem, hg, hcv, took_at, ↓shr_ok, ↓and1_ok]))
          | (refine endT_p (.inr rfl) (by simp (maxSteps := 8000000) -implicitDefEqProofs (disch := omega) only [↓reduceIte, go_sem, hcv, took_at, ↓shr_ok, ↓and1_ok]; rfl) ?_; (first | exact vb_true (by omega) | exact vb_false (by omega) | exact vb_dec (by omega) | exact vi_eq (by omega) | rfl | (refine vi_eq ?_; simp_all; first | done | (intros; omega))))
          | exact endT_v (.inr rfl) (by simp (maxSteps := 8000000) -implicitDefEqProofs (disch := omega) only [↓reduceIte, go_sem, hcv, took_at, ↓shr_ok, ↓and1_ok]; try rfl) (fun _ => rfl)
        all_goals
          refine loopKT_next (i + 1) ⟨by omega, fun j hj => ?_⟩ (by omega) ?_
          · by_cases e : j = i
            · subst e; exact hbad
            · exact hnb j (by omega)
          · exact (le_of [0] (by simp (maxSteps := 8000000) -implicitDefEqProofs (disch := omega) only [↓reduceIte, go_sem]) (by simp (maxSteps := 8000000) -implicitDefEqProofs (disch := omega) only [↓reduceIte, go_sem]) (by decide) (by simp))
    · rw [winF_3 hr hk (fun j hj => hnb j (by omega))]
      simp (maxSteps := 8000000) -implicitDefEqProofs (disch := omega) only [↓reduceIte, go_sem]
      refine joinK_here ?_
      simp (maxSteps := 8000000) -implicitDefEqProofs (disch := omega) only [↓reduceIte, go_sem]
      repeat' first
        | ((first | refine gdKT_deq (fun hg hG => ?_) (fun hg hG => ?_) | refine condKT_deq (fun hg hG => ?_) (fun hg hG => ?_)) <;> (try simp (maxSteps := 8000000) -implicitDefEqProofs (disch := omega) only [↓reduceIte, go_sem, hG]) <;> clear hG)
        | ((first | refine gdKT_split (fun hg => ?_) (fun hg => ?_) | refine condKT_split (fun hg => ?_) (fun hg => ?_)) <;> (try simp (maxSteps := 8000000) -implicitDefEqProofs (disch := omega) only [↓reduceIte, go_sem, hg]))
        | (refine endT_p (.inr rfl) (by simp (maxSteps := 8000000) -implicitDefEqProofs (disch := omega) only [↓reduceIte, go_sem]; rfl) ?_; (first | exact vb_true (by omega) | exact vb_false (by omega) | exact vb_dec (by omega) | exact vi_eq (by omega) | rfl | (refine vi_eq ?_; simp_all; first | done | (intros; omega))))
        | exact endT_v (.inr rfl) (by simp (maxSteps := 8000000) -implicitDefEqProofs (disch := omega) only [↓reduceIte, go_sem]; try rfl) (fun _ => rfl)
theorem selF_atx (x : SlR) : selF_S [.agg [.p (.int .i64 x.f1), .p (.int .i64 x.f2), .p (.int .i64 x.t1), .p (.int .i64 x.t2), .p (.int .i64 x.p1), .p (.int .i64 x.p2), .p (.int .i64 x.q1), .p (.int .i64 x.q2), .p (.int .i64 x.pr)]] = some (.p (.int .i64 (selF x)), []) := selF_at x.f1 x.f2 x.t1 x.t2 x.p1 x.p2 x.q1 x.q2 x.pr
/-! Faults of rows of selectors -/
def firstF : List SlR → Int
  | [] => 0
  | x :: r => if selF x = 0 then firstF r else selF x
theorem firstF_at {l : List SlR} {i : Nat} {x : SlR} (h : l[i]? = some x) : firstF (l.drop i) = if selF x = 0 then firstF (l.drop (i + 1)) else selF x := by
  have hlt := (List.getElem?_eq_some_iff.1 h).1
  rw [List.drop_eq_getElem_cons hlt, (List.getElem?_eq_some_iff.1 h).2, firstF]
def selsF (l : List SlR) : Int := if 1 ≤ l.length ∧ l.length ≤ 12 then firstF l else 2
noncomputable def selsF_S := specP (fun x : List SlR => [.s (rowsT slT x)]) (fun x => x.length ≤ 140737488355328) (fun x => (.p (.int .i64 (selsF x)), []))
theorem selsF_at (l : List SlR) (h : l.length ≤ 140737488355328) : selsF_S [.s (rowsT slT l)] = some (.p (.int .i64 (selsF l)), []) :=
  specP_at (enc := fun x : List SlR => [.s (rowsT slT x)]) (by intro x y h; simp at h; exact sls_inj h) l h
-- spec.SelsFault
def c134 : AF := ⟨27,
 (.seq (.reg [rO 2 (.mv (.v (.int .i64 0)))])
 (.seq (.seq (.reg [rO 5 (.mv (.t 0)),
 rO 6 (.len (.t 5)),
 rO 7 (.bin .lss (.t 6) (.v (.int .i64 1))),
 rO 8 (.mv (.t 7)),
 ⟨(some 9), (some (8, false)), .mv (.t 0)⟩,
 ⟨(some 10), (some (8, false)), .len (.t 9)⟩,
 ⟨(some 11), (some (8, false)), .bin .gtr (.t 10) (.v (.int .i64 12))⟩,
 rO 12 (.pick (.t 8) (.v (.bool true)) (.t 11))])
 (.cond (.t 12) (.seq (.reg [rO 2 (.mv (.v (.int .i64 2)))])
 .ret)
 .skip))
 (.seq (.seq (.reg [rO 3 (.mv (.v (.int .i64 0)))])
 (.block 0 (.loop (.seq (.seq (.reg [rO 13 (.mv (.t 3)),
 rO 14 (.mv (.t 0)),
 rO 15 (.len (.t 14)),
 rO 16 (.bin .lss (.t 13) (.t 15))])
 (.cond (.t 16) .skip
 (.exit 0)))
 (.seq (.block 1 (.seq (.reg [rO 19 (.mv (.t 0)),
 rO 20 (.mv (.t 3)),
 rO 21 (.ia 9 (.t 19) (.t 20)),
 rO 22 (.ldn 9 (.t 21)),
 rO 23 (.call 162 [(.t 22)]),
 rO 4 (.mv (.t 23))])
 (.seq (.reg [rO 24 (.mv (.t 4)),
 rO 25 (.bin .neq (.t 24) (.v (.int .i64 0)))])
 (.cond (.t 25) (.seq (.reg [rO 26 (.mv (.t 4)),
 rO 2 (.mv (.t 26))])
 .ret)
 .skip))))
 (.reg [rO 17 (.mv (.t 3)),
 rO 18 (.bin .add (.t 17) (.v (.int .i64 1))),
 rO 3 (.mv (.t 18))]))))))
 (.seq (.reg [rO 2 (.mv (.v (.int .i64 0)))])
 .ret)))),
 [.t 2]⟩
theorem k134 : cFn Try.prog Try.f134 = some c134 := by kernel_rfl
theorem selsFS_ok : OkT Try.prog 134 (pureSp selsF_S) := by
  refine okT_fn (OkΓT.cons selFS_ok (OkΓT.nil _)) Try.func134 (by kernel_rfl) k134 (fun x _ => ⟨rfl, rfl⟩) ?_
  rintro l hl
  dsimp only at *
  by_cases hr : 1 ≤ l.length ∧ l.length ≤ 12
  case neg =>
    rw [show selsF l = 2 by simp only [selsF]; rw [if_neg hr]]
    (dsimp only [c134, rO]; simp (maxSteps := 8000000) -implicitDefEqProofs (disch := omega) only [↓reduceIte, go_sem, in_at])
    repeat' first
      | ((first | refine gdKT_deq (fun hg hG => ?_) (fun hg hG => ?_) | refine condKT_deq (fun hg hG => ?_) (fun hg hG => ?_)) <;> (try simp (maxSteps := 8000000) -implicitDefEqProofs (disch := omega) only [↓reduceIte, go_sem, hG, in_at]) <;> clear hG)
      | ((first | refine gdKT_split (fun hg => ?_) (fun hg => ?_) | refine condKT_split (fun hg => ?_) (fun hg => ?_)) <;> (try simp (maxSteps := 8000000) -implicitDefEqProofs (disch := omega) only [↓reduceIte, go_sem, hg, in_at]))
      | (refine endT_p (.inr rfl) (by simp (maxSteps := 8000000) -implicitDefEqProofs (disch := omega) only [↓reduceIte, go_sem, in_at]; rfl) ?_; (first | exact vb_true (by omega) | exact vb_false (by omega) | exact vb_dec (by omega) | exact vi_eq (by omega) | rfl | (refine vi_eq ?_; simp_all; first | done | (intros; omega))))
      | exact endT_v (.inr rfl) (by simp (maxSteps := 8000000) -implicitDefEqProofs (disch := omega) only [↓reduceIte, go_sem, in_at]; try rfl) (fun _ => rfl)
  rw [show selsF l = firstF l by simp only [selsF]; rw [if_pos hr]]
  (dsimp only [c134, rO]; simp (maxSteps := 8000000) -implicitDefEqProofs (disch := omega) only [↓reduceIte, go_sem, in_at])
  refine awpT_loop (α := Nat) (fun i => ⟨slots [(0, .s (rowsT slT l)), (3, .p (.int .i64 i))], []⟩) (fun i => i ≤ l.length ∧ firstF (l.drop i) = firstF l) (fun i => l.length - i) 0 ⟨by omega, by simp⟩ (le_of [] (by simp (maxSteps := 8000000) -implicitDefEqProofs (disch := omega) only [↓reduceIte, go_sem]) (by simp (maxSteps := 8000000) -implicitDefEqProofs (disch := omega) only [↓reduceIte, go_sem]) (by decide) (by simp)) ?_
  intro i ⟨hi, hinv⟩
  simp (maxSteps := 8000000) -implicitDefEqProofs (disch := omega) only [↓reduceIte, go_sem]
  refine condKT_dec (fun hlt => ?_) (fun hge => ?_)
  · obtain ⟨x, hx⟩ := get_ex (l := l) (i := i) (by omega)
    rw [firstF_at hx] at hinv
    by_cases hz : selF x = 0
    · rw [if_pos hz] at hinv
      simp (maxSteps := 8000000) -implicitDefEqProofs (disch := omega) only [↓reduceIte, go_sem, hx, slT, selF_atx, hz, eq_true hlt, slZ_el]
      refine loopKT_next (i + 1) ⟨by omega, hinv⟩ (by omega) ?_
      exact (le_of [] (by simp (maxSteps := 8000000) -implicitDefEqProofs (disch := omega) only [↓reduceIte, go_sem]) (by simp (maxSteps := 8000000) -implicitDefEqProofs (disch := omega) only [↓reduceIte, go_sem]) (by decide) (by simp))
    · rw [if_neg hz] at hinv
      rw [← hinv]
      simp (maxSteps := 8000000) -implicitDefEqProofs (disch := omega) only [↓reduceIte, go_sem, hx, slT, selF_atx, eq_false hz, eq_true hlt, slZ_el]
      repeat' first
        | ((first | refine gdKT_deq (fun hg hG => ?_) (fun hg hG => ?_) | refine condKT_deq (fun hg hG => ?_) (fun hg hG => ?_)) <;> (try simp (maxSteps := 8000000) -implicitDefEqProofs (disch := omega) only [↓reduceIte, go_sem, hG, hx, slT, selF_atx, eq_false hz, eq_true hlt, slZ_el]) <;> clear hG)
        | ((first | refine gdKT_split (fun hg => ?_) (fun hg => ?_) | refine condKT_split (fun hg => ?_) (fun hg => ?_)) <;> (try simp (maxSteps := 8000000) -implicitDefEqProofs (disch := omega) only [↓reduceIte, go_sem, hg, hx, slT, selF_atx, eq_false hz, eq_true hlt, slZ_el]))
        | (refine endT_p (.inr rfl) (by simp (maxSteps := 8000000) -implicitDefEqProofs (disch := omega) only [↓reduceIte, go_sem, hx, slT, selF_atx, eq_false hz, eq_true hlt, slZ_el]; rfl) ?_; (first | exact vb_true (by omega) | exact vb_false (by omega) | exact vb_dec (by omega) | exact vi_eq (by omega) | rfl | (refine vi_eq ?_; simp_all; first | done | (intros; omega))))
        | exact endT_v (.inr rfl) (by simp (maxSteps := 8000000) -implicitDefEqProofs (disch := omega) only [↓reduceIte, go_sem, hx, slT, selF_atx, eq_false hz, eq_true hlt, slZ_el]; try rfl) (fun _ => rfl)
  · rw [show l.drop i = [] from List.drop_eq_nil_of_le (by omega), firstF] at hinv
    rw [← hinv]
    simp (maxSteps := 8000000) -implicitDefEqProofs (disch := omega) only [↓reduceIte, go_sem, eq_false hge]
    refine joinK_here ?_
    simp (maxSteps := 8000000) -implicitDefEqProofs (disch := omega) only [↓reduceIte, go_sem]
    repeat' first
      | ((first | refine gdKT_deq (fun hg hG => ?_) (fun hg hG => ?_) | refine condKT_deq (fun hg hG => ?_) (fun hg hG => ?_)) <;> (try simp (maxSteps := 8000000) -implicitDefEqProofs (disch := omega) only [↓reduceIte, go_sem, hG]) <;> clear hG)
      | ((first | refine gdKT_split (fun hg => ?_) (fun hg => ?_) | refine condKT_split (fun hg => ?_) (fun hg => ?_)) <;> (try simp (maxSteps := 8000000) -implicitDefEqProofs (disch := omega) only [↓reduceIte, go_sem, hg]))
      | (refine endT_p (.inr rfl) (by simp (maxSteps := 8000000) -implicitDefEqProofs (disch := omega) only [↓reduceIte, go_sem]; rfl) ?_; (first | exact vb_true (by omega) | exact vb_false (by omega) | exact vb_dec (by omega) | exact vi_eq (by omega) | rfl | (refine vi_eq ?_; simp_all; first | done | (intros; omega))))
      | exact endT_v (.inr rfl) (by simp (maxSteps := 8000000) -implicitDefEqProofs (disch := omega) only [↓reduceIte, go_sem]; try rfl) (fun _ => rfl)
-- impl.SelsFault
def c91 : AF := ⟨22,
 (.seq (.reg [rO 2 (.mv (.v (.int .i64 0)))])
 (.seq (.seq (.reg [rO 6 (.mv (.t 0)),
 rO 7 (.len (.t 6)),
 rO 8 (.call 63 [(.t 7), (.v (.int .i64 1)), (.v (.int .i64 12))]),
 rO 9 (.un .not (.t 8))])
 (.cond (.t 9) (.seq (.reg [rO 2 (.mv (.v (.int .i64 2)))])
 .ret)
 .skip))
 (.seq (.seq (.reg [rO 10 (.mv (.t 0)),
 rO 11 (.len (.t 10)),
 rO 12 (.mv (.v (.int .i64 0)))])
 (.block 0 (.loop (.seq (.reg [rO 13 (.bin .lss (.t 12) (.t 11))])
 (.seq (.cond (.t 13) .skip
 (.exit 0))
 (.seq (.block 1 (.seq (.reg [rO 14 (.ia 9 (.t 10) (.t 12)),
 rO 15 (.ldn 9 (.t 14)),
 rO 4 (.alloc 160 [(.int .i64 0), (.int .i64 0), (.int .i64 0), (.int .i64 0), (.int .i64 0), (.int .i64 0), (.int .i64 0), (.int .i64 0), (.int .i64 0)]),
 ⟨none, none, .st 9 (.t 4) (.t 15)⟩])
 (.seq (.reg [rO 16 (.ldn 9 (.t 4)),
 rO 17 (.call 135 [(.t 16)]),
 rO 5 (.mv (.t 17))])
 (.seq (.reg [rO 18 (.mv (.t 5)),
 rO 19 (.bin .neq (.t 18) (.v (.int .i64 0)))])
 (.cond (.t 19) (.seq (.reg [rO 20 (.mv (.t 5)),
 rO 2 (.mv (.t 20))])
 .ret)
 .skip)))))
 (.reg [rO 21 (.bin .add (.t 12) (.v (.int .i64 1))),
 rO 12 (.mv (.t 21))])))))))
 (.seq (.reg [rO 2 (.mv (.v (.int .i64 0)))])
 .ret)))),
 [.t 2]⟩
theorem k91 : cFn Try.prog Try.f91 = some c91 := by kernel_rfl
theorem selsFI_ok : OkT Try.prog 91 (pureSp selsF_S) := by
  refine okT_fn (OkΓT.cons in_ok (OkΓT.cons selFI_ok (OkΓT.nil _))) Try.func91 (by kernel_rfl) k91 (fun x _ => ⟨rfl, rfl⟩) ?_
  rintro l hl
  dsimp only at *
  by_cases hr : 1 ≤ l.length ∧ l.length ≤ 12
  case neg =>
    rw [show selsF l = 2 by simp only [selsF]; rw [if_neg hr]]
    (dsimp only [c91, rO]; simp (maxSteps := 8000000) -implicitDefEqProofs (disch := omega) only [↓reduceIte, go_sem, in_at])
    repeat' first
      | ((first | refine gdKT_deq (fun hg hG => ?_) (fun hg hG => ?_) | refine condKT_deq (fun hg hG => ?_) (fun hg hG => ?_)) <;> (try simp (maxSteps := 8000000) -implicitDefEqProofs (disch := omega) only [↓reduceIte, go_sem, hG, in_at]) <;> clear hG)
      | ((first | refine gdKT_split (fun hg => ?_) (fun hg => ?_) | refine condKT_split (fun hg => ?_) (fun hg => ?_)) <;> (try simp (maxSteps := 8000000) -implicitDefEqProofs (disch := omega) only [↓reduceIte, go_sem, hg, in_at]))
      | (refine endT_p (.inr rfl) (by simp (maxSteps := 8000000) -implicitDefEqProofs (disch := omega) only [↓reduceIte, go_sem, in_at]; rfl) ?_; (first | exact vb_true (by omega) | exact vb_false (by omega) | exact vb_dec (by omega) | exact vi_eq (by omega) | rfl | (refine vi_eq ?_; simp_all; first | done | (intros; omega))))
      | exact endT_v (.inr rfl) (by simp (maxSteps := 8000000) -implicitDefEqProofs (disch := omega) only [↓reduceIte, go_sem, in_at]; try rfl) (fun _ => rfl)
  rw [show selsF l = firstF l by simp only [selsF]; rw [if_pos hr]]
  (dsimp only [c91, rO]; simp (maxSteps := 8000000) -implicitDefEqProofs (disch := omega) only [↓reduceIte, go_sem, in_at])
  refine awpT_loop (α := Nat) (fun i => ⟨slots [(10, .s (rowsT slT l)), (11, .p (.int .i64 l.length)), (12, .p (.int .i64 i))], []⟩) (fun i => i ≤ l.length ∧ firstF (l.drop i) = firstF l) (fun i => l.length - i) 0 ⟨by omega, by simp⟩ (le_of [] (by simp (maxSteps := 8000000) -implicitDefEqProofs (disch := omega) only [↓reduceIte, go_sem]) (by simp (maxSteps := 8000000) -implicitDefEqProofs (disch := omega) only [↓reduceIte, go_sem]) (by decide) (by simp)) ?_
  intro i ⟨hi, hinv⟩
  simp (maxSteps := 8000000) -implicitDefEqProofs (disch := omega) only [↓reduceIte, go_sem]
  refine condKT_dec (fun hlt => ?_) (fun hge => ?_)
  · obtain ⟨x, hx⟩ := get_ex (l := l) (i := i) (by omega)
    rw [firstF_at hx] at hinv
    by_cases hz : selF x = 0
    · rw [if_pos hz] at hinv
      simp (maxSteps := 8000000) -implicitDefEqProofs (disch := omega) only [↓reduceIte, go_sem, hx, slT, selF_atx, hz, eq_true hlt, slZ_el, slZ_cells]
      refine loopKT_next (i + 1) ⟨by omega, hinv⟩ (by omega) ?_
      exact (le_of [] (by simp (maxSteps := 8000000) -implicitDefEqProofs (disch := omega) only [↓reduceIte, go_sem]) (by simp (maxSteps := 8000000) -implicitDefEqProofs (disch := omega) only [↓reduceIte, go_sem]) (by decide) (by simp))
    · rw [if_neg hz] at hinv
      rw [← hinv]
      simp (maxSteps := 8000000) -implicitDefEqProofs (disch := omega) only [↓reduceIte, go_sem, hx, slT, selF_atx, eq_false hz, eq_true hlt, slZ_el, slZ_cells]
      repeat' first
        | ((first | refine gdKT_deq (fun hg hG => ?_) (fun hg hG => ?_) | refine condKT_deq (fun hg hG => ?_) (fun hg hG => ?_)) <;> (try simp (maxSteps := 8000000) -implicitDefEqProofs (disch := omega) only [↓reduceIte, go_sem, hG, hx, slT, selF_atx, eq_false hz, eq_true hlt, slZ_el, slZ_cells]) <;> clear hG)
        | ((first | refine gdKT_split (fun hg => ?_) (fun hg => ?_) | refine condKT_split (fun hg => ?_) (fun hg => ?_)) <;> (try simp (maxSteps := 8000000) -implicitDefEqProofs (disch := omega) only [↓reduceIte, go_sem, hg, hx, slT, selF_atx, eq_false hz, eq_true hlt, slZ_el, slZ_cells]))
        | (refine endT_p (.inr rfl) (by simp (maxSteps := 8000000) -implicitDefEqProofs (disch := omega) only [↓reduceIte, go_sem, hx, slT, selF_atx, eq_false hz, eq_true hlt, slZ_el, slZ_cells]; rfl) ?_; (first | exact vb_true (by omega) | exact vb_false (by omega) | exact vb_dec (by omega) | exact vi_eq (by omega) | rfl | (refine vi_eq ?_; simp_all; first | done | (intros; omega))))
        | exact endT_v (.inr rfl) (by simp (maxSteps := 8000000) -implicitDefEqProofs (disch := omega) only [↓reduceIte, go_sem, hx, slT, selF_atx, eq_false hz, eq_true hlt, slZ_el, slZ_cells]; try rfl) (fun _ => rfl)
  · rw [show l.drop i = [] from List.drop_eq_nil_of_le (by omega), firstF] at hinv
    rw [← hinv]
    simp (maxSteps := 8000000) -implicitDefEqProofs (disch := omega) only [↓reduceIte, go_sem, eq_false hge]
    refine joinK_here ?_
    simp (maxSteps := 8000000) -implicitDefEqProofs (disch := omega) only [↓reduceIte, go_sem]
    repeat' first
      | ((first | refine gdKT_deq (fun hg hG => ?_) (fun hg hG => ?_) | refine condKT_deq (fun hg hG => ?_) (fun hg hG => ?_)) <;> (try simp (maxSteps := 8000000) -implicitDefEqProofs (disch := omega) only [↓reduceIte, go_sem, hG]) <;> clear hG)
      | ((first | refine gdKT_split (fun hg => ?_) (fun hg => ?_) | refine condKT_split (fun hg => ?_) (fun hg => ?_)) <;> (try simp (maxSteps := 8000000) -implicitDefEqProofs (disch := omega) only [↓reduceIte, go_sem, hg]))
      | (refine endT_p (.inr rfl) (by simp (maxSteps := 8000000) -implicitDefEqProofs (disch := omega) only [↓reduceIte, go_sem]; rfl) ?_; (first | exact vb_true (by omega) | exact vb_false (by omega) | exact vb_dec (by omega) | exact vi_eq (by omega) | rfl | (refine vi_eq ?_; simp_all; first | done | (intros; omega))))
      | exact endT_v (.inr rfl) (by simp (maxSteps := 8000000) -implicitDefEqProofs (disch := omega) only [↓reduceIte, go_sem]; try rfl) (fun _ => rfl)
/-! Numbers in their ranges -/
noncomputable def spi_S := specP (fun x : Int => [.p (.int .i64 x)]) (fun x => True) (fun x => (.p (.bool (decide (1 ≤ x ∧ x ≤ 4294967295))), []))
theorem spi_at (a : Int) : spi_S [.p (.int .i64 a)] = some (.p (.bool (decide (1 ≤ a ∧ a ≤ 4294967295))), []) :=
  specP_at (enc := fun x : Int => [.p (.int .i64 x)]) (by intro x y h; simpa using h) a trivial
-- impl.isSpi
def c88 : AF := ⟨5,
 (.seq (.reg [rO 2 (.mv (.v (.bool false)))])
 (.seq (.reg [rO 3 (.mv (.t 0)),
 rO 4 (.call 63 [(.t 3), (.v (.int .i64 1)), (.v (.int .i64 4294967295))]),
 rO 2 (.mv (.t 4))])
 .ret)),
 [.t 2]⟩
theorem k88 : cFn Try.prog Try.f88 = some c88 := by kernel_rfl
theorem isSpi_ok : OkT Try.prog 88 (pureSp spi_S) := by
  refine okT_fn (OkΓT.cons in_ok (OkΓT.nil _)) Try.func88 (by kernel_rfl) k88 (fun x _ => ⟨rfl, rfl⟩) ?_
  rintro x _
  dsimp only at *
  (dsimp only [c88, rO]; simp (maxSteps := 8000000) -implicitDefEqProofs (disch := omega) only [↓reduceIte, go_sem, in_at])
  repeat' first
    | ((first | refine gdKT_deq (fun hg hG => ?_) (fun hg hG => ?_) | refine condKT_deq (fun hg hG => ?_) (fun hg hG => ?_)) <;> (try simp (maxSteps := 8000000) -implicitDefEqProofs (disch := omega) only [↓reduceIte, go_sem, hG, in_at]) <;> clear hG)
    | ((first | refine gdKT_split (fun hg => ?_) (fun hg => ?_) | refine condKT_split (fun hg => ?_) (fun hg => ?_)) <;> (try simp (maxSteps := 8000000) -implicitDefEqProofs (disch := omega) only [↓reduceIte, go_sem, hg, in_at]))
    | (refine endT_p (.inr rfl) (by simp (maxSteps := 8000000) -implicitDefEqProofs (disch := omega) only [↓reduceIte, go_sem, in_at]; rfl) ?_; (first | exact vb_true (by omega) | exact vb_false (by omega) | exact vb_dec (by omega) | exact vi_eq (by omega) | rfl | (refine vi_eq ?_; simp_all; first | done | (intros; omega))))
    | exact endT_v (.inr rfl) (by simp (maxSteps := 8000000) -implicitDefEqProofs (disch := omega) only [↓reduceIte, go_sem, in_at]; try rfl) (fun _ => rfl)
noncomputable def peer_S := specP (fun x : Int => [.p (.int .i64 x)]) (fun x => True) (fun x => (.p (.bool (decide (1 ≤ x ∧ x ≤ 9))), []))
theorem peer_at (a : Int) : peer_S [.p (.int .i64 a)] = some (.p (.bool (decide (1 ≤ a ∧ a ≤ 9))), []) :=
  specP_at (enc := fun x : Int => [.p (.int .i64 x)]) (by intro x y h; simpa using h) a trivial
-- impl.isPeer
def c89 : AF := ⟨5,
 (.seq (.reg [rO 2 (.mv (.v (.bool false)))])
 (.seq (.reg [rO 3 (.mv (.t 0)),
 rO 4 (.call 63 [(.t 3), (.v (.int .i64 1)), (.v (.int .i64 9))]),
 rO 2 (.mv (.t 4))])
 .ret)),
 [.t 2]⟩
theorem k89 : cFn Try.prog Try.f89 = some c89 := by kernel_rfl
theorem isPeer_ok : OkT Try.prog 89 (pureSp peer_S) := by
  refine okT_fn (OkΓT.cons in_ok (OkΓT.nil _)) Try.func89 (by kernel_rfl) k89 (fun x _ => ⟨rfl, rfl⟩) ?_
  rintro x _
  dsimp only at *
  (dsimp only [c89, rO]; simp (maxSteps := 8000000) -implicitDefEqProofs (disch := omega) only [↓reduceIte, go_sem, in_at])
  repeat' first
    | ((first | refine gdKT_deq (fun hg hG => ?_) (fun hg hG => ?_) | refine condKT_deq (fun hg hG => ?_) (fun hg hG => ?_)) <;> (try simp (maxSteps := 8000000) -implicitDefEqProofs (disch := omega) only [↓reduceIte, go_sem, hG, in_at]) <;> clear hG)
    | ((first | refine gdKT_split (fun hg => ?_) (fun hg => ?_) | refine condKT_split (fun hg => ?_) (fun hg => ?_)) <;> (try simp (maxSteps := 8000000) -implicitDefEqProofs (disch := omega) only [↓reduceIte, go_sem, hg, in_at]))
    | (refine endT_p (.inr rfl) (by simp (maxSteps := 8000000) -implicitDefEqProofs (disch := omega) only [↓reduceIte, go_sem, in_at]; rfl) ?_; (first | exact vb_true (by omega) | exact vb_false (by omega) | exact vb_dec (by omega) | exact vi_eq (by omega) | rfl | (refine vi_eq ?_; simp_all; first | done | (intros; omega))))
    | exact endT_v (.inr rfl) (by simp (maxSteps := 8000000) -implicitDefEqProofs (disch := omega) only [↓reduceIte, go_sem, in_at]; try rfl) (fun _ => rfl)
noncomputable def key_S := specP (fun x : Int => [.p (.int .i64 x)]) (fun x => True) (fun x => (.p (.bool (decide (0 ≤ x ∧ x ≤ 4294967295))), []))
theorem key_at (a : Int) : key_S [.p (.int .i64 a)] = some (.p (.bool (decide (0 ≤ a ∧ a ≤ 4294967295))), []) :=
  specP_at (enc := fun x : Int => [.p (.int .i64 x)]) (by intro x y h; simpa using h) a trivial
-- impl.isKey
def c90 : AF := ⟨5,
 (.seq (.reg [rO 2 (.mv (.v (.bool false)))])
 (.seq (.reg [rO 3 (.mv (.t 0)),
 rO 4 (.call 63 [(.t 3), (.v (.int .i64 0)), (.v (.int .i64 4294967295))]),
 rO 2 (.mv (.t 4))])
 .ret)),
 [.t 2]⟩
theorem k90 : cFn Try.prog Try.f90 = some c90 := by kernel_rfl
theorem isKey_ok : OkT Try.prog 90 (pureSp key_S) := by
  refine okT_fn (OkΓT.cons in_ok (OkΓT.nil _)) Try.func90 (by kernel_rfl) k90 (fun x _ => ⟨rfl, rfl⟩) ?_
  rintro x _
  dsimp only at *
  (dsimp only [c90, rO]; simp (maxSteps := 8000000) -implicitDefEqProofs (disch := omega) only [↓reduceIte, go_sem, in_at])
  repeat' first
    | ((first | refine gdKT_deq (fun hg hG => ?_) (fun hg hG => ?_) | refine condKT_deq (fun hg hG => ?_) (fun hg hG => ?_)) <;> (try simp (maxSteps := 8000000) -implicitDefEqProofs (disch := omega) only [↓reduceIte, go_sem, hG, in_at]) <;> clear hG)
    | ((first | refine gdKT_split (fun hg => ?_) (fun hg => ?_) | refine condKT_split (fun hg => ?_) (fun hg => ?_)) <;> (try simp (maxSteps := 8000000) -implicitDefEqProofs (disch := omega) only [↓reduceIte, go_sem, hg, in_at]))
    | (refine endT_p (.inr rfl) (by simp (maxSteps := 8000000) -implicitDefEqProofs (disch := omega) only [↓reduceIte, go_sem, in_at]; rfl) ?_; (first | exact vb_true (by omega) | exact vb_false (by omega) | exact vb_dec (by omega) | exact vi_eq (by omega) | rfl | (refine vi_eq ?_; simp_all; first | done | (intros; omega))))
    | exact endT_v (.inr rfl) (by simp (maxSteps := 8000000) -implicitDefEqProofs (disch := omega) only [↓reduceIte, go_sem, in_at]; try rfl) (fun _ => rfl)
noncomputable def tick_S := specP (fun x : Int => [.p (.int .i64 x)]) (fun x => True) (fun x => (.p (.bool (decide (0 ≤ x ∧ x ≤ 1000000000))), []))
theorem tick_at (a : Int) : tick_S [.p (.int .i64 a)] = some (.p (.bool (decide (0 ≤ a ∧ a ≤ 1000000000))), []) :=
  specP_at (enc := fun x : Int => [.p (.int .i64 x)]) (by intro x y h; simpa using h) a trivial
-- impl.isTick
def c57 : AF := ⟨5,
 (.seq (.reg [rO 2 (.mv (.v (.bool false)))])
 (.seq (.reg [rO 3 (.mv (.t 0)),
 rO 4 (.call 63 [(.t 3), (.v (.int .i64 0)), (.v (.int .i64 1000000000))]),
 rO 2 (.mv (.t 4))])
 .ret)),
 [.t 2]⟩
theorem k57 : cFn Try.prog Try.f57 = some c57 := by kernel_rfl
theorem isTick_ok : OkT Try.prog 57 (pureSp tick_S) := by
  refine okT_fn (OkΓT.cons in_ok (OkΓT.nil _)) Try.func57 (by kernel_rfl) k57 (fun x _ => ⟨rfl, rfl⟩) ?_
  rintro x _
  dsimp only at *
  (dsimp only [c57, rO]; simp (maxSteps := 8000000) -implicitDefEqProofs (disch := omega) only [↓reduceIte, go_sem, in_at])
  repeat' first
    | ((first | refine gdKT_deq (fun hg hG => ?_) (fun hg hG => ?_) | refine condKT_deq (fun hg hG => ?_) (fun hg hG => ?_)) <;> (try simp (maxSteps := 8000000) -implicitDefEqProofs (disch := omega) only [↓reduceIte, go_sem, hG, in_at]) <;> clear hG)
    | ((first | refine gdKT_split (fun hg => ?_) (fun hg => ?_) | refine condKT_split (fun hg => ?_) (fun hg => ?_)) <;> (try simp (maxSteps := 8000000) -implicitDefEqProofs (disch := omega) only [↓reduceIte, go_sem, hg, in_at]))
    | (refine endT_p (.inr rfl) (by simp (maxSteps := 8000000) -implicitDefEqProofs (disch := omega) only [↓reduceIte, go_sem, in_at]; rfl) ?_; (first | exact vb_true (by omega) | exact vb_false (by omega) | exact vb_dec (by omega) | exact vi_eq (by omega) | rfl | (refine vi_eq ?_; simp_all; first | done | (intros; omega))))
    | exact endT_v (.inr rfl) (by simp (maxSteps := 8000000) -implicitDefEqProofs (disch := omega) only [↓reduceIte, go_sem, in_at]; try rfl) (fun _ => rfl)
-- spec.l16Long
def c61 : AF := ⟨5,
 (.seq (.reg [rO 2 (.mv (.v (.bool false)))])
 (.seq (.reg [rO 3 (.mv (.t 0)),
 rO 4 (.call 64 [(.t 3), (.v (.int .i64 0)), (.v (.int .i64 1000000000))]),
 rO 2 (.mv (.t 4))])
 .ret)),
 [.t 2]⟩
theorem k61 : cFn Try.prog Try.f61 = some c61 := by kernel_rfl
theorem l16Long_ok : OkT Try.prog 61 (pureSp tick_S) := by
  refine okT_fn (OkΓT.cons l1In_ok (OkΓT.nil _)) Try.func61 (by kernel_rfl) k61 (fun x _ => ⟨rfl, rfl⟩) ?_
  rintro x _
  dsimp only at *
  (dsimp only [c61, rO]; simp (maxSteps := 8000000) -implicitDefEqProofs (disch := omega) only [↓reduceIte, go_sem, in_at])
  repeat' first
    | ((first | refine gdKT_deq (fun hg hG => ?_) (fun hg hG => ?_) | refine condKT_deq (fun hg hG => ?_) (fun hg hG => ?_)) <;> (try simp (maxSteps := 8000000) -implicitDefEqProofs (disch := omega) only [↓reduceIte, go_sem, hG, in_at]) <;> clear hG)
    | ((first | refine gdKT_split (fun hg => ?_) (fun hg => ?_) | refine condKT_split (fun hg => ?_) (fun hg => ?_)) <;> (try simp (maxSteps := 8000000) -implicitDefEqProofs (disch := omega) only [↓reduceIte, go_sem, hg, in_at]))
    | (refine endT_p (.inr rfl) (by simp (maxSteps := 8000000) -implicitDefEqProofs (disch := omega) only [↓reduceIte, go_sem, in_at]; rfl) ?_; (first | exact vb_true (by omega) | exact vb_false (by omega) | exact vb_dec (by omega) | exact vi_eq (by omega) | rfl | (refine vi_eq ?_; simp_all; first | done | (intros; omega))))
    | exact endT_v (.inr rfl) (by simp (maxSteps := 8000000) -implicitDefEqProofs (disch := omega) only [↓reduceIte, go_sem, in_at]; try rfl) (fun _ => rfl)
/-! Agreements -/
structure SaR where
  (spi peer key : Int)
  (inn : Bool)
  (sent top bits byt hard til : Int)
  (sels : List SlR)
def saT (x : SaR) : TV := .agg [.p (.int .i64 x.spi), .p (.int .i64 x.peer), .p (.int .i64 x.key), .p (.bool x.inn), .p (.int .i64 x.sent), .p (.int .i64 x.top), .p (.int .i64 x.bits), .p (.int .i64 x.byt), .p (.int .i64 x.hard), .p (.int .i64 x.til), .s (rowsT slT x.sels)]
theorem saT_inj (x y : SaR) (h : saT x = saT y) : x = y := by cases x; cases y; simp [saT] at h; obtain ⟨h1, h2, h3, h4, h5, h6, h7, h8, h9, h10, h11⟩ := h; simp_all [sls_inj h11]
def saF (x : SaR) : Int := if (1 ≤ x.spi ∧ x.spi ≤ 4294967295) ∧ (1 ≤ x.peer ∧ x.peer ≤ 9) ∧ (0 ≤ x.key ∧ x.key ≤ 4294967295) ∧ (0 ≤ x.sent ∧ x.sent ≤ 1099511627776) ∧ (0 ≤ x.byt ∧ x.byt ≤ 1000000000) ∧ (0 ≤ x.hard ∧ x.hard ≤ 1000000000) ∧ (0 ≤ x.til ∧ x.til ≤ 1000000000) then
  (if winF x.top x.bits = 0 then (if (x.inn = true ∧ x.sent ≠ 0) ∨ (x.inn = false ∧ ¬ (x.top = 0 ∧ x.bits = 0)) ∨ x.byt > x.hard then 1 else selsF x.sels) else winF x.top x.bits) else 3
noncomputable def saF_S := specP (fun x : SaR => [saT x]) (fun x => x.sels.length ≤ 140737488355328) (fun x => (.p (.int .i64 (saF x)), []))
theorem saF_at (spi peer key : Int) (inn : Bool) (sent top bits byt hard til : Int) (sels : List SlR) (h : sels.length ≤ 140737488355328) : saF_S [.agg [.p (.int .i64 spi), .p (.int .i64 peer), .p (.int .i64 key), .p (.bool inn), .p (.int .i64 sent), .p (.int .i64 top), .p (.int .i64 bits), .p (.int .i64 byt), .p (.int .i64 hard), .p (.int .i64 til), .s (rowsT slT sels)]] = some (.p (.int .i64 (saF ⟨spi, peer, key, inn, sent, top, bits, byt, hard, til, sels⟩)), []) :=
  specP_at (enc := fun x : SaR => [saT x]) (by intro x y h; exact saT_inj x y (by simpa using h)) ⟨spi, peer, key, inn, sent, top, bits, byt, hard, til, sels⟩ h
-- spec.SaFault
def c86 : AF := ⟨80,
 (.seq (.reg [rO 1 (.box 45 (.t 0)),
 rO 2 (.mv (.v (.int .i64 0)))])
 (.seq (.seq (.reg [rO 5 (.fa (.t 1) 0),
 rO 6 (.ld (.t 5)),
 rO 7 (.call 64 [(.t 6), (.v (.int .i64 1)), (.v (.int .i64 4294967295))]),
 rO 8 (.un .not (.t 7)),
 rO 9 (.mv (.t 8)),
 ⟨(some 10), (some (9, false)), .fa (.t 1) 1⟩,
 ⟨(some 11), (some (9, false)), .ld (.t 10)⟩,
 ⟨(some 12), (some (9, false)), .call 64 [(.t 11), (.v (.int .i64 1)), (.v (.int .i64 9))]⟩,
 ⟨(some 13), (some (9, false)), .un .not (.t 12)⟩,
 rO 14 (.pick (.t 9) (.v (.bool true)) (.t 13)),
 rO 15 (.mv (.t 14)),
 ⟨(some 16), (some (15, false)), .fa (.t 1) 2⟩,
 ⟨(some 17), (some (15, false)), .ld (.t 16)⟩,
 ⟨(some 18), (some (15, false)), .call 64 [(.t 17), (.v (.int .i64 0)), (.v (.int .i64 4294967295))]⟩,
 ⟨(some 19), (some (15, false)), .un .not (.t 18)⟩,
 rO 20 (.pick (.t 15) (.v (.bool true)) (.t 19)),
 rO 21 (.mv (.t 20)),
 ⟨(some 22), (some (21, false)), .fa (.t 1) 4⟩,
 ⟨(some 23), (some (21, false)), .ld (.t 22)⟩,
 ⟨(some 24), (some (21, false)), .call 64 [(.t 23), (.v (.int .i64 0)), (.v (.int .i64 1099511627776))]⟩,
 ⟨(some 25), (some (21, false)), .un .not (.t 24)⟩,
 rO 26 (.pick (.t 21) (.v (.bool true)) (.t 25)),
 rO 27 (.mv (.t 26)),
 ⟨(some 28), (some (27, false)), .fa (.t 1) 7⟩,
 ⟨(some 29), (some (27, false)), .ld (.t 28)⟩,
 ⟨(some 30), (some (27, false)), .call 61 [(.t 29)]⟩,
 ⟨(some 31), (some (27, false)), .un .not (.t 30)⟩,
 rO 32 (.pick (.t 27) (.v (.bool true)) (.t 31)),
 rO 33 (.mv (.t 32)),
 ⟨(some 34), (some (33, false)), .fa (.t 1) 8⟩,
 ⟨(some 35), (some (33, false)), .ld (.t 34)⟩,
 ⟨(some 36), (some (33, false)), .call 61 [(.t 35)]⟩,
 ⟨(some 37), (some (33, false)), .un .not (.t 36)⟩,
 rO 38 (.pick (.t 33) (.v (.bool true)) (.t 37)),
 rO 39 (.mv (.t 38)),
 ⟨(some 40), (some (39, false)), .fa (.t 1) 9⟩,
 ⟨(some 41), (some (39, false)), .ld (.t 40)⟩,
 ⟨(some 42), (some (39, false)), .call 61 [(.t 41)]⟩,
 ⟨(some 43), (some (39, false)), .un .not (.t 42)⟩,
 rO 44 (.pick (.t 39) (.v (.bool true)) (.t 43))])
 (.cond (.t 44) (.seq (.reg [rO 2 (.mv (.v (.int .i64 3)))])
 .ret)
 .skip))
 (.seq (.seq (.reg [rO 45 (.fa (.t 1) 5),
 rO 46 (.ldn 2 (.t 45)),
 rO 47 (.call 133 [(.t 46)]),
 rO 3 (.mv (.t 47))])
 (.seq (.reg [rO 48 (.mv (.t 3)),
 rO 49 (.bin .neq (.t 48) (.v (.int .i64 0)))])
 (.cond (.t 49) (.seq (.reg [rO 50 (.mv (.t 3)),
 rO 2 (.mv (.t 50))])
 .ret)
 .skip)))
 (.seq (.reg [rO 51 (.build [(.int .i64 0), (.int .i64 0)] []),
 rO 4 (.alloc 42 [(.int .i64 0), (.int .i64 0)]),
 ⟨none, none, .st 2 (.t 4) (.t 51)⟩])
 (.seq (.seq (.reg [rO 52 (.fa (.t 1) 3),
 rO 53 (.ld (.t 52)),
 rO 54 (.mv (.t 53)),
 ⟨(some 55), (some (54, true)), .fa (.t 1) 4⟩,
 ⟨(some 56), (some (54, true)), .ld (.t 55)⟩,
 ⟨(some 57), (some (54, true)), .bin .neq (.t 56) (.v (.int .i64 0))⟩,
 rO 58 (.pick (.t 54) (.t 57) (.v (.bool false))),
 rO 59 (.mv (.t 58)),
 ⟨(some 60), (some (59, false)), .fa (.t 1) 3⟩,
 ⟨(some 61), (some (59, false)), .ld (.t 60)⟩,
 ⟨(some 62), (some (59, false)), .un .not (.t 61)⟩,
 ⟨(some 63), (some (59, false)), .mv (.t 62)⟩,
 ⟨(some 64), (some (63, true)), .fa (.t 1) 5⟩,
 ⟨(some 65), (some (63, true)), .ldn 2 (.t 64)⟩,
 ⟨(some 66), (some (63, true)), .ldn 2 (.t 4)⟩,
 ⟨(some 67), (some (63, true)), .eqS true [.i, .i] (.t 65) (.t 66)⟩,
 ⟨(some 68), (some (59, false)), .pick (.t 63) (.t 67) (.v (.bool false))⟩,
 rO 69 (.pick (.t 59) (.v (.bool true)) (.t 68)),
 rO 70 (.mv (.t 69)),
 ⟨(some 71), (some (70, false)), .fa (.t 1) 7⟩,
 ⟨(some 72), (some (70, false)), .ld (.t 71)⟩,
 ⟨(some 73), (some (70, false)), .fa (.t 1) 8⟩,
 ⟨(some 74), (some (70, false)), .ld (.t 73)⟩,
 ⟨(some 75), (some (70, false)), .bin .gtr (.t 72) (.t 74)⟩,
 rO 76 (.pick (.t 70) (.v (.bool true)) (.t 75))])
 (.cond (.t 76) (.seq (.reg [rO 2 (.mv (.v (.int .i64 1)))])
 .ret)
 .skip))
 (.seq (.reg [rO 77 (.fa (.t 1) 10),
 rO 78 (.ld (.t 77)),
 rO 79 (.call 134 [(.t 78)]),
 rO 2 (.mv (.t 79))])
 .ret)))))),
 [.t 2]⟩
theorem k86 : cFn Try.prog Try.f86 = some c86 := by kernel_rfl
theorem saFS_ok : OkT Try.prog 86 (pureSp saF_S) := by
  refine okT_fn (OkΓT.cons l1In_ok (OkΓT.cons l16Long_ok (OkΓT.cons winFS_ok (OkΓT.cons selsFS_ok (OkΓT.nil _))))) Try.func86 (by kernel_rfl) k86 (fun x _ => ⟨rfl, rfl⟩) ?_
  rintro x hx
  dsimp only [saT, saF] at *
  (dsimp only [c86, rO]; simp (maxSteps := 8000000) -implicitDefEqProofs (disch := omega) only [↓reduceIte, go_sem, in_at, tick_at, winF_at, selsF_at])
  repeat' first
    | ((first | refine gdKT_deq (fun hg hG => ?_) (fun hg hG => ?_) | refine condKT_deq (fun hg hG => ?_) (fun hg hG => ?_)) <;> (try simp (maxSteps := 8000000) -implicitDefEqProofs (disch := omega) only [↓reduceIte, go_sem, hG, in_at, tick_at, winF_at, selsF_at]) <;> clear hG)
    | ((first | refine gdKT_split (fun hg => ?_) (fun hg => ?_) | refine condKT_split (fun hg => ?_) (fun hg => ?_)) <;> (try simp (maxSteps := 8000000) -implicitDefEqProofs (disch := omega) only [↓reduceIte, go_sem, hg, in_at, tick_at, winF_at, selsF_at]))
    | (refine endT_p (.inr rfl) (by simp (maxSteps := 8000000) -implicitDefEqProofs (disch := omega) only [↓reduceIte, go_sem, in_at, tick_at, winF_at, selsF_at]; rfl) ?_; (first | exact vb_true (by omega) | exact vb_false (by omega) | exact vb_dec (by omega) | exact vi_eq (by omega) | rfl | (refine vi_eq ?_; simp_all; first | done | (intros; omega))))
    | exact endT_v (.inr rfl) (by simp (maxSteps := 8000000) -implicitDefEqProofs (disch := omega) only [↓reduceIte, go_sem, in_at, tick_at, winF_at, selsF_at]; try rfl) (fun _ => rfl)
-- impl.SaFault
def c32 : AF := ⟨78,
 (.seq (.reg [rO 1 (.box 45 (.t 0)),
 rO 2 (.mv (.v (.int .i64 0)))])
 (.seq (.seq (.reg [rO 4 (.fa (.t 1) 0),
 rO 5 (.ld (.t 4)),
 rO 6 (.call 88 [(.t 5)]),
 rO 7 (.un .not (.t 6)),
 rO 8 (.mv (.t 7)),
 ⟨(some 9), (some (8, false)), .fa (.t 1) 1⟩,
 ⟨(some 10), (some (8, false)), .ld (.t 9)⟩,
 ⟨(some 11), (some (8, false)), .call 89 [(.t 10)]⟩,
 ⟨(some 12), (some (8, false)), .un .not (.t 11)⟩,
 rO 13 (.pick (.t 8) (.v (.bool true)) (.t 12)),
 rO 14 (.mv (.t 13)),
 ⟨(some 15), (some (14, false)), .fa (.t 1) 2⟩,
 ⟨(some 16), (some (14, false)), .ld (.t 15)⟩,
 ⟨(some 17), (some (14, false)), .call 90 [(.t 16)]⟩,
 ⟨(some 18), (some (14, false)), .un .not (.t 17)⟩,
 rO 19 (.pick (.t 14) (.v (.bool true)) (.t 18)),
 rO 20 (.mv (.t 19)),
 ⟨(some 21), (some (20, false)), .fa (.t 1) 4⟩,
 ⟨(some 22), (some (20, false)), .ld (.t 21)⟩,
 ⟨(some 23), (some (20, false)), .call 63 [(.t 22), (.v (.int .i64 0)), (.v (.int .i64 1099511627776))]⟩,
 ⟨(some 24), (some (20, false)), .un .not (.t 23)⟩,
 rO 25 (.pick (.t 20) (.v (.bool true)) (.t 24)),
 rO 26 (.mv (.t 25)),
 ⟨(some 27), (some (26, false)), .fa (.t 1) 7⟩,
 ⟨(some 28), (some (26, false)), .ld (.t 27)⟩,
 ⟨(some 29), (some (26, false)), .call 57 [(.t 28)]⟩,
 ⟨(some 30), (some (26, false)), .un .not (.t 29)⟩,
 rO 31 (.pick (.t 26) (.v (.bool true)) (.t 30)),
 rO 32 (.mv (.t 31)),
 ⟨(some 33), (some (32, false)), .fa (.t 1) 8⟩,
 ⟨(some 34), (some (32, false)), .ld (.t 33)⟩,
 ⟨(some 35), (some (32, false)), .call 57 [(.t 34)]⟩,
 ⟨(some 36), (some (32, false)), .un .not (.t 35)⟩,
 rO 37 (.pick (.t 32) (.v (.bool true)) (.t 36)),
 rO 38 (.mv (.t 37)),
 ⟨(some 39), (some (38, false)), .fa (.t 1) 9⟩,
 ⟨(some 40), (some (38, false)), .ld (.t 39)⟩,
 ⟨(some 41), (some (38, false)), .call 57 [(.t 40)]⟩,
 ⟨(some 42), (some (38, false)), .un .not (.t 41)⟩,
 rO 43 (.pick (.t 38) (.v (.bool true)) (.t 42))])
 (.cond (.t 43) (.seq (.reg [rO 2 (.mv (.v (.int .i64 3)))])
 .ret)
 .skip))
 (.seq (.seq (.reg [rO 44 (.fa (.t 1) 5),
 rO 45 (.ldn 2 (.t 44)),
 rO 46 (.call 73 [(.t 45)]),
 rO 3 (.mv (.t 46))])
 (.seq (.reg [rO 47 (.mv (.t 3)),
 rO 48 (.bin .neq (.t 47) (.v (.int .i64 0)))])
 (.cond (.t 48) (.seq (.reg [rO 49 (.mv (.t 3)),
 rO 2 (.mv (.t 49))])
 .ret)
 .skip)))
 (.seq (.seq (.reg [rO 50 (.fa (.t 1) 3),
 rO 51 (.ld (.t 50)),
 rO 52 (.mv (.t 51)),
 ⟨(some 53), (some (52, true)), .fa (.t 1) 4⟩,
 ⟨(some 54), (some (52, true)), .ld (.t 53)⟩,
 ⟨(some 55), (some (52, true)), .bin .neq (.t 54) (.v (.int .i64 0))⟩,
 rO 56 (.pick (.t 52) (.t 55) (.v (.bool false))),
 rO 57 (.mv (.t 56)),
 ⟨(some 58), (some (57, false)), .fa (.t 1) 3⟩,
 ⟨(some 59), (some (57, false)), .ld (.t 58)⟩,
 ⟨(some 60), (some (57, false)), .un .not (.t 59)⟩,
 ⟨(some 61), (some (57, false)), .mv (.t 60)⟩,
 ⟨(some 62), (some (61, true)), .fa (.t 1) 5⟩,
 ⟨(some 63), (some (61, true)), .ldn 2 (.t 62)⟩,
 ⟨(some 64), (some (61, true)), .build [(.int .i64 0), (.int .i64 0)] []⟩,
 ⟨(some 65), (some (61, true)), .eqS true [.i, .i] (.t 63) (.t 64)⟩,
 ⟨(some 66), (some (57, false)), .pick (.t 61) (.t 65) (.v (.bool false))⟩,
 rO 67 (.pick (.t 57) (.v (.bool true)) (.t 66)),
 rO 68 (.mv (.t 67)),
 ⟨(some 69), (some (68, false)), .fa (.t 1) 7⟩,
 ⟨(some 70), (some (68, false)), .ld (.t 69)⟩,
 ⟨(some 71), (some (68, false)), .fa (.t 1) 8⟩,
 ⟨(some 72), (some (68, false)), .ld (.t 71)⟩,
 ⟨(some 73), (some (68, false)), .bin .gtr (.t 70) (.t 72)⟩,
 rO 74 (.pick (.t 68) (.v (.bool true)) (.t 73))])
 (.cond (.t 74) (.seq (.reg [rO 2 (.mv (.v (.int .i64 1)))])
 .ret)
 .skip))
 (.seq (.reg [rO 75 (.fa (.t 1) 10),
 rO 76 (.ld (.t 75)),
 rO 77 (.call 91 [(.t 76)]),
 rO 2 (.mv (.t 77))])
 .ret))))),
 [.t 2]⟩
theorem k32 : cFn Try.prog Try.f32 = some c32 := by kernel_rfl
theorem saFI_ok : OkT Try.prog 32 (pureSp saF_S) := by
  refine okT_fn (OkΓT.cons isSpi_ok (OkΓT.cons isPeer_ok (OkΓT.cons isKey_ok (OkΓT.cons in_ok (OkΓT.cons isTick_ok (OkΓT.cons winFI_ok (OkΓT.cons selsFI_ok (OkΓT.nil _)))))))) Try.func32 (by kernel_rfl) k32 (fun x _ => ⟨rfl, rfl⟩) ?_
  rintro x hx
  dsimp only [saT, saF] at *
  (dsimp only [c32, rO]; simp (maxSteps := 8000000) -implicitDefEqProofs (disch := omega) only [↓reduceIte, go_sem, spi_at, peer_at, key_at, in_at, tick_at, winF_at, selsF_at])
  repeat' first
    | ((first | refine gdKT_deq (fun hg hG => ?_) (fun hg hG => ?_) | refine condKT_deq (fun hg hG => ?_) (fun hg hG => ?_)) <;> (try simp (maxSteps := 8000000) -implicitDefEqProofs (disch := omega) only [↓reduceIte, go_sem, hG, spi_at, peer_at, key_at, in_at, tick_at, winF_at, selsF_at]) <;> clear hG)
    | ((first | refine gdKT_split (fun hg => ?_) (fun hg => ?_) | refine condKT_split (fun hg => ?_) (fun hg => ?_)) <;> (try simp (maxSteps := 8000000) -implicitDefEqProofs (disch := omega) only [↓reduceIte, go_sem, hg, spi_at, peer_at, key_at, in_at, tick_at, winF_at, selsF_at]))
    | (refine endT_p (.inr rfl) (by simp (maxSteps := 8000000) -implicitDefEqProofs (disch := omega) only [↓reduceIte, go_sem, spi_at, peer_at, key_at, in_at, tick_at, winF_at, selsF_at]; rfl) ?_; (first | exact vb_true (by omega) | exact vb_false (by omega) | exact vb_dec (by omega) | exact vi_eq (by omega) | rfl | (refine vi_eq ?_; simp_all; first | done | (intros; omega))))
    | exact endT_v (.inr rfl) (by simp (maxSteps := 8000000) -implicitDefEqProofs (disch := omega) only [↓reduceIte, go_sem, spi_at, peer_at, key_at, in_at, tick_at, winF_at, selsF_at]; try rfl) (fun _ => rfl)
end Go.Proofs.Ytghpdclhhnbgjaa
