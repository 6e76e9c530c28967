import Derived.Test.YtbddhlhpakbcdaaD1
set_option linter.unusedSimpArgs false
set_option linter.unusedVariables false
set_option maxRecDepth 100000
set_option maxHeartbeats 4000000
namespace Go.Proofs.Ytbddhlhpakbcdaa
open Go Go.AH
attribute [local irreducible] awpT ropsT qopsT stepT condKT gdKT EndT joinK loopKT seqKT blkKT kont kontR ropsTF frKT
/-! Windows -/
theorem shr_ok {b k : Int} {kk : IntKind} (hb : 0 ≤ b) (hk : 0 ≤ k ∧ k ≤ 64) : abin .shr (.int .i64 b) (.int kk k) = some (.int .i64 (b / 2 ^ k.toNat)) := by
  simp only [abin]
  rw [if_neg (by omega)]
  congr 2
  rw [show min k.toNat IntKind.i64.bits = k.toNat by show min k.toNat 64 = _; omega]
  exact Int.fdiv_eq_ediv_of_nonneg _ (Int.le_of_lt (Int.pow_pos (by decide)))
theorem and1_ok {x : Int} (hx : 0 ≤ x ∧ x ≤ 9223372036854775807) : abin .and (.int .i64 x) (.int .i64 1) = some (.int .i64 (x % 2)) := by
  obtain ⟨n, rfl⟩ := Int.eq_ofNat_of_zero_le hx.1
  have e : ((BitVec.ofInt 64 (n : Int) &&& BitVec.ofInt 64 1).toNat : Int) = (n : Int) % 2 := by
    have h1 : (BitVec.ofInt 64 (n : Int)).toNat = n := by
      rw [BitVec.toNat_ofInt]; omega
    have h2 : (BitVec.ofInt 64 1).toNat = 1 := by decide
    rw [BitVec.toNat_and, h1, h2, Nat.and_one_is_mod]; omega
  simp only [abin, intB, if_true]
  show some (Value.int .i64 (IntKind.i64.wrap ((BitVec.ofInt 64 (n : Int) &&& BitVec.ofInt 64 1).toNat : Int))) = _
  rw [e, tw64 (by omega)]
theorem bit_bd {b : Int} (hb : 0 ≤ b ∧ b ≤ 4294967295) (k : Nat) : 0 ≤ b / 2 ^ k ∧ b / 2 ^ k ≤ 4294967295 := by
  have h0 : (0 : Int) < 2 ^ k := Int.pow_pos (by decide)
  exact ⟨Int.ediv_nonneg hb.1 (Int.le_of_lt h0), Int.le_trans (Int.ediv_le_self _ hb.1) hb.2⟩
def winBad (t b : Int) (k : Nat) : Prop := (b / 2 ^ k) % 2 = 1 ∧ t - k < 1
instance (t b : Int) (k : Nat) : Decidable (winBad t b k) := inferInstanceAs (Decidable (_ ∧ _))
def winF (t b : Int) : Int := if 0 ≤ t ∧ t ≤ 1099511627776 ∧ 0 ≤ b ∧ b ≤ 4294967295 then (if (t = 0 ∧ b ≠ 0) ∨ (0 < t ∧ b % 2 = 0) then 1 else if (List.range 32).any (fun k => decide (winBad t b k)) = true then 1 else 0) else 3
theorem winF_1 {t b : Int} (h : 0 ≤ t ∧ t ≤ 1099511627776 ∧ 0 ≤ b ∧ b ≤ 4294967295) (k : (t = 0 ∧ b ≠ 0) ∨ (0 < t ∧ b % 2 = 0)) : winF t b = 1 := by simp only [winF]; rw [if_pos h, if_pos k]
theorem winF_2 {t b : Int} (h : 0 ≤ t ∧ t ≤ 1099511627776 ∧ 0 ≤ b ∧ b ≤ 4294967295) (k : ¬ ((t = 0 ∧ b ≠ 0) ∨ (0 < t ∧ b % 2 = 0))) (j : Nat) (hj : j < 32) (hb : winBad t b j) : winF t b = 1 := by simp only [winF]; rw [if_pos h, if_neg k, if_pos (List.any_eq_true.2 ⟨j, List.mem_range.2 hj, decide_eq_true hb⟩)]
theorem winF_3 {t b : Int} (h : 0 ≤ t ∧ t ≤ 1099511627776 ∧ 0 ≤ b ∧ b ≤ 4294967295) (k : ¬ ((t = 0 ∧ b ≠ 0) ∨ (0 < t ∧ b % 2 = 0))) (hb : ∀ j, j < 32 → ¬ winBad t b j) : winF t b = 0 := by simp only [winF]; rw [if_pos h, if_neg k, if_neg (fun hh => by obtain ⟨j, hj, hh⟩ := List.any_eq_true.1 hh; exact hb j (List.mem_range.1 hj) (of_decide_eq_true hh))]
theorem winF_4 {t b : Int} (h : ¬ (0 ≤ t ∧ t ≤ 1099511627776 ∧ 0 ≤ b ∧ b ≤ 4294967295)) : winF t b = 3 := by simp only [winF]; rw [if_neg h]
structure WnR where
  (top bits : Int)
def wnT (x : WnR) : TV := .agg [.p (.int .i64 x.top), .p (.int .i64 x.bits)]
theorem wnT_inj (x y : WnR) (h : wnT x = wnT y) : x = y := by cases x; cases y; simp [wnT] at h; simp [h]
noncomputable def took_S := specP (fun x : WnR × Int => [wnT x.1, .p (.int .i64 x.2)]) (fun x => 0 ≤ x.1.bits ∧ x.1.bits ≤ 4294967295 ∧ 0 ≤ x.2 ∧ x.2 ≤ 64) (fun x => (.p (.bool (decide ((x.1.bits / 2 ^ x.2.toNat) % 2 = 1))), []))
theorem took_at (a b k : Int) (h : 0 ≤ b ∧ b ≤ 4294967295 ∧ 0 ≤ k ∧ k ≤ 64) : took_S [.agg [.p (.int .i64 a), .p (.int .i64 b)], .p (.int .i64 k)] = some (.p (.bool (decide ((b / 2 ^ k.toNat) % 2 = 1))), []) :=
  specP_at (enc := fun x : WnR × Int => [wnT x.1, .p (.int .i64 x.2)]) (by rintro ⟨a, b⟩ ⟨a', b'⟩ h; simp at h; simp [wnT_inj _ _ h.1, h.2]) (⟨a, b⟩, k) h
-- (impl.Window).took
def c165 : AF := ⟨11,
 (.seq (.reg [rO 2 (.box 36 (.t 0)),
 rO 4 (.mv (.v (.bool false)))])
 (.seq (.reg [rO 5 (.fa (.t 2) 1),
 rO 6 (.ld (.t 5)),
 rO 7 (.mv (.t 1)),
 rO 8 (.bin .shr (.t 6) (.t 7)),
 rO 9 (.bin .and (.t 8) (.v (.int .i64 1))),
 rO 10 (.bin .eql (.t 9) (.v (.int .i64 1))),
 rO 4 (.mv (.t 10))])
 .ret)),
 [.t 4]⟩
theorem k165 : cFn Try.prog Try.f165 = some c165 := by kernel_rfl
theorem took_ok : OkT Try.prog 165 (pureSp took_S) := by
  refine okT_fn (OkΓT.nil _) Try.func165 (by kernel_rfl) k165 (fun x _ => ⟨rfl, rfl⟩) ?_
  rintro ⟨⟨a, b⟩, k⟩ ⟨h1, h2, h3, h4⟩
  dsimp only [wnT] at *
  have hb := bit_bd ⟨h1, h2⟩ k.toNat
  (dsimp only [c165, rO]; simp (maxSteps := 8000000) -implicitDefEqProofs (disch := omega) only [↓reduceIte, go_sem, ↓shr_ok, ↓and1_ok])
  repeat' first
    | ((first | refine gdKT_deq (fun hg hG => ?_) (fun hg hG => ?_) | refine condKT_deq (fun hg hG => ?_) (fun hg hG => ?_)) <;> (try simp (maxSteps := 8000000) -implicitDefEqProofs (disch := omega) only [↓reduceIte, go_sem, hG, ↓shr_ok, ↓and1_ok]) <;> clear hG)
    | ((first | refine gdKT_split (fun hg => ?_) (fun hg => ?_) | refine condKT_split (fun hg => ?_) (fun hg => ?_)) <;> (try simp (maxSteps := 8000000) -implicitDefEqProofs (disch := omega) only [↓reduceIte, go_sem, hg, ↓shr_ok, ↓and1_ok]))
    | (refine endT_p (.inr rfl) (by simp (maxSteps := 8000000) -implicitDefEqProofs (disch := omega) only [↓reduceIte, go_sem, ↓shr_ok, ↓and1_ok]; rfl) ?_; (first | exact vb_true (by omega) | exact vb_false (by omega) | exact vb_dec (by omega) | exact vi_eq (by omega) | rfl | (refine vi_eq ?_; simp_all; first | done | (intros; omega))))
    | exact endT_v (.inr rfl) (by simp (maxSteps := 8000000) -implicitDefEqProofs (disch := omega) only [↓reduceIte, go_sem, ↓shr_ok, ↓and1_ok]; try rfl) (fun _ => rfl)
noncomputable def winF_S := specP (fun x : WnR => [wnT x]) (fun x => True) (fun x => (.p (.int .i64 (winF x.top x.bits)), []))
theorem winF_at (a b : Int) : winF_S [.agg [.p (.int .i64 a), .p (.int .i64 b)]] = some (.p (.int .i64 (winF a b)), []) :=
  specP_at (enc := fun x : WnR => [wnT x]) (by intro x y h; exact wnT_inj x y (by simpa using h)) ⟨a, b⟩ trivial
-- spec.WindowFault
def c169 : AF := ⟨51,
 (.seq (.reg [rO 1 (.box 36 (.t 0)),
 rO 2 (.mv (.v (.int .i64 0)))])
 (.seq (.seq (.reg [rO 4 (.fa (.t 1) 0),
 rO 5 (.ld (.t 4)),
 rO 6 (.call 54 [(.t 5), (.v (.int .i64 0)), (.v (.int .i64 1099511627776))]),
 rO 7 (.un .not (.t 6)),
 rO 8 (.mv (.t 7)),
 ⟨(some 9), (some (8, false)), .fa (.t 1) 1⟩,
 ⟨(some 10), (some (8, false)), .ld (.t 9)⟩,
 ⟨(some 11), (some (8, false)), .call 54 [(.t 10), (.v (.int .i64 0)), (.v (.int .i64 4294967295))]⟩,
 ⟨(some 12), (some (8, false)), .un .not (.t 11)⟩,
 rO 13 (.pick (.t 8) (.v (.bool true)) (.t 12))])
 (.cond (.t 13) (.seq (.reg [rO 2 (.mv (.v (.int .i64 3)))])
 .ret)
 .skip))
 (.seq (.seq (.reg [rO 14 (.fa (.t 1) 0),
 rO 15 (.ld (.t 14)),
 rO 16 (.bin .eql (.t 15) (.v (.int .i64 0))),
 rO 17 (.mv (.t 16)),
 ⟨(some 18), (some (17, true)), .fa (.t 1) 1⟩,
 ⟨(some 19), (some (17, true)), .ld (.t 18)⟩,
 ⟨(some 20), (some (17, true)), .bin .neq (.t 19) (.v (.int .i64 0))⟩,
 rO 21 (.pick (.t 17) (.t 20) (.v (.bool false))),
 rO 22 (.mv (.t 21)),
 ⟨(some 23), (some (22, false)), .fa (.t 1) 0⟩,
 ⟨(some 24), (some (22, false)), .ld (.t 23)⟩,
 ⟨(some 25), (some (22, false)), .bin .gtr (.t 24) (.v (.int .i64 0))⟩,
 ⟨(some 26), (some (22, false)), .mv (.t 25)⟩,
 ⟨(some 27), (some (26, true)), .fa (.t 1) 1⟩,
 ⟨(some 28), (some (26, true)), .ld (.t 27)⟩,
 ⟨(some 29), (some (26, true)), .bin .and (.t 28) (.v (.int .i64 1))⟩,
 ⟨(some 30), (some (26, true)), .bin .eql (.t 29) (.v (.int .i64 0))⟩,
 ⟨(some 31), (some (22, false)), .pick (.t 26) (.t 30) (.v (.bool false))⟩,
 rO 32 (.pick (.t 22) (.v (.bool true)) (.t 31))])
 (.cond (.t 32) (.seq (.reg [rO 2 (.mv (.v (.int .i64 1)))])
 .ret)
 .skip))
 (.seq (.seq (.reg [rO 3 (.mv (.v (.int .i64 0)))])
 (.block 0 (.loop (.seq (.seq (.reg [rO 33 (.mv (.t 3)),
 rO 34 (.bin .lss (.t 33) (.v (.int .i64 32)))])
 (.cond (.t 34) .skip
 (.exit 0)))
 (.seq (.block 1 (.seq (.reg [rO 37 (.fa (.t 1) 1),
 rO 38 (.ld (.t 37)),
 rO 39 (.mv (.t 3)),
 rO 40 (.cvI .u64 (.t 39)),
 rO 41 (.bin .shr (.t 38) (.t 40)),
 rO 42 (.bin .and (.t 41) (.v (.int .i64 1))),
 rO 43 (.bin .eql (.t 42) (.v (.int .i64 1))),
 rO 44 (.mv (.t 43)),
 ⟨(some 45), (some (44, true)), .fa (.t 1) 0⟩,
 ⟨(some 46), (some (44, true)), .ld (.t 45)⟩,
 ⟨(some 47), (some (44, true)), .mv (.t 3)⟩,
 ⟨(some 48), (some (44, true)), .bin .sub (.t 46) (.t 47)⟩,
 ⟨(some 49), (some (44, true)), .bin .lss (.t 48) (.v (.int .i64 1))⟩,
 rO 50 (.pick (.t 44) (.t 49) (.v (.bool false)))])
 (.cond (.t 50) (.seq (.reg [rO 2 (.mv (.v (.int .i64 1)))])
 .ret)
 .skip)))
 (.reg [rO 35 (.mv (.t 3)),
 rO 36 (.bin .add (.t 35) (.v (.int .i64 1))),
 rO 3 (.mv (.t 36))]))))))
 (.seq (.reg [rO 2 (.mv (.v (.int .i64 0)))])
 .ret))))),
 [.t 2]⟩
theorem k169 : cFn Try.prog Try.f169 = some c169 := by kernel_rfl
theorem winFS_ok : OkT Try.prog 169 (pureSp winF_S) := by
  refine okT_fn (OkΓT.cons l1In_ok (OkΓT.nil _)) Try.func169 (by kernel_rfl) k169 (fun x _ => ⟨rfl, rfl⟩) ?_
  rintro ⟨a, b⟩ _
  dsimp only [wnT]
  by_cases hr : 0 ≤ a ∧ a ≤ 1099511627776 ∧ 0 ≤ b ∧ b ≤ 4294967295
  case neg =>
    rw [winF_4 hr]
    (dsimp only [c169, rO]; simp (maxSteps := 8000000) -implicitDefEqProofs (disch := omega) only [↓reduceIte, go_sem, in_at, took_at, ↓shr_ok, ↓and1_ok])
    repeat' first
      | ((first | refine gdKT_deq (fun hg hG => ?_) (fun hg hG => ?_) | refine condKT_deq (fun hg hG => ?_) (fun hg hG => ?_)) <;> (try simp (maxSteps := 8000000) -implicitDefEqProofs (disch := omega) only [↓reduceIte, go_sem, hG, in_at, took_at, ↓shr_ok, ↓and1_ok]) <;> clear hG)
      | ((first | refine gdKT_split (fun hg => ?_) (fun hg => ?_) | refine condKT_split (fun hg => ?_) (fun hg => ?_)) <;> (try simp (maxSteps := 8000000) -implicitDefEqProofs (disch := omega) only [↓reduceIte, go_sem, hg, in_at, took_at, ↓shr_ok, ↓and1_ok]))
      | (refine endT_p (.inr rfl) (by simp (maxSteps := 8000000) -implicitDefEqProofs (disch := omega) only [↓reduceIte, go_sem, in_at, took_at, ↓shr_ok, ↓and1_ok]; rfl) ?_; (first | exact vb_true (by omega) | exact vb_false (by omega) | exact vb_dec (by omega) | exact vi_eq (by omega) | rfl | (refine vi_eq ?_; simp_all; first | done | (intros; omega))))
      | exact endT_v (.inr rfl) (by simp (maxSteps := 8000000) -implicitDefEqProofs (disch := omega) only [↓reduceIte, go_sem, in_at, took_at, ↓shr_ok, ↓and1_ok]; try rfl) (fun _ => rfl)
  by_cases hk : (a = 0 ∧ b ≠ 0) ∨ (0 < a ∧ b % 2 = 0)
  · rw [winF_1 hr hk]
    (dsimp only [c169, rO]; simp (maxSteps := 8000000) -implicitDefEqProofs (disch := omega) only [↓reduceIte, go_sem, in_at, took_at, ↓shr_ok, ↓and1_ok, Int.pow_zero, Int.ediv_one, Int.toNat_zero])
    repeat' first
      | ((first | refine gdKT_deq (fun hg hG => ?_) (fun hg hG => ?_) | refine condKT_deq (fun hg hG => ?_) (fun hg hG => ?_)) <;> (try simp (maxSteps := 8000000) -implicitDefEqProofs (disch := omega) only [↓reduceIte, go_sem, hG, in_at, took_at, ↓shr_ok, ↓and1_ok, Int.pow_zero, Int.ediv_one, Int.toNat_zero]) <;> clear hG)
      | ((first | refine gdKT_split (fun hg => ?_) (fun hg => ?_) | refine condKT_split (fun hg => ?_) (fun hg => ?_)) <;> (try simp (maxSteps := 8000000) -implicitDefEqProofs (disch := omega) only [↓reduceIte, go_sem, hg, in_at, took_at, ↓shr_ok, ↓and1_ok, Int.pow_zero, Int.ediv_one, Int.toNat_zero]))
      | (refine endT_p (.inr rfl) (by simp (maxSteps := 8000000) -implicitDefEqProofs (disch := omega) only [↓reduceIte, go_sem, in_at, took_at, ↓shr_ok, ↓and1_ok, Int.pow_zero, Int.ediv_one, Int.toNat_zero]; rfl) ?_; (first | exact vb_true (by omega) | exact vb_false (by omega) | exact vb_dec (by omega) | exact vi_eq (by omega) | rfl | (refine vi_eq ?_; simp_all; first | done | (intros; omega))))
      | exact endT_v (.inr rfl) (by simp (maxSteps := 8000000) -implicitDefEqProofs (disch := omega) only [↓reduceIte, go_sem, in_at, took_at, ↓shr_ok, ↓and1_ok, Int.pow_zero, Int.ediv_one, Int.toNat_zero]; try rfl) (fun _ => rfl)
  have hbits := fun k => bit_bd hr.2.2 k
  (dsimp only [c169, rO]; simp (maxSteps := 8000000) -implicitDefEqProofs (disch := omega) only [↓reduceIte, go_sem, in_at, took_at, ↓shr_ok, ↓and1_ok, Int.pow_zero, Int.ediv_one, Int.toNat_zero])
  repeat' first
    | ((first | refine gdKT_deq (fun hg hG => ?_) (fun hg hG => ?_) | refine condKT_deq (fun hg hG => ?_) (fun hg hG => ?_)) <;> (try simp (maxSteps := 8000000) -implicitDefEqProofs (disch := omega) only [↓reduceIte, go_sem, hG, in_at, took_at, ↓shr_ok, ↓and1_ok, Int.pow_zero, Int.ediv_one, Int.toNat_zero]) <;> clear hG)
    | ((first | refine gdKT_split (fun hg => ?_) (fun hg => ?_) | refine condKT_split (fun hg => ?_) (fun hg => ?_)) <;> (try simp (maxSteps := 8000000) -implicitDefEqProofs (disch := omega) only [↓reduceIte, go_sem, hg, in_at, took_at, ↓shr_ok, ↓and1_ok, Int.pow_zero, Int.ediv_one, Int.toNat_zero]))
    | (refine endT_p (.inr rfl) (by simp (maxSteps := 8000000) -implicitDefEqProofs (disch := omega) only [↓reduceIte, go_sem, in_at, took_at, ↓shr_ok, ↓and1_ok, Int.pow_zero, Int.ediv_one, Int.toNat_zero]; rfl) ?_; (first | exact vb_true (by omega) | exact vb_false (by omega) | exact vb_dec (by omega) | exact vi_eq (by omega) | rfl | (refine vi_eq ?_; simp_all; first | done | (intros; omega))))
    | exact endT_v (.inr rfl) (by simp (maxSteps := 8000000) -implicitDefEqProofs (disch := omega) only [↓reduceIte, go_sem, in_at, took_at, ↓shr_ok, ↓and1_ok, Int.pow_zero, Int.ediv_one, Int.toNat_zero]; try rfl) (fun _ => rfl)
  all_goals
    refine awpT_loop (α := Nat) (fun i => ⟨slots [(1, .op 0 0 0), (3, .p (.int .i64 i))], [.cells 36 2 [.agg [.p (.int .i64 a), .p (.int .i64 b)]]]⟩)
      (fun i => i ≤ 32 ∧ ∀ j, j < i → ¬ winBad a b j) (fun i => 32 - i) 0 ⟨by omega, fun j hj => absurd hj (by omega)⟩ (le_of [0] (by simp (maxSteps := 8000000) -implicitDefEqProofs (disch := omega) only [↓reduceIte, go_sem]) (by simp (maxSteps := 8000000) -implicitDefEqProofs (disch := omega) only [↓reduceIte, go_sem]) (by decide) (by simp)) ?_
    intro i ⟨hi, hnb⟩
    have hq := hbits i
    simp (maxSteps := 8000000) -implicitDefEqProofs (disch := omega) only [↓reduceIte, go_sem]
    refine condKT_dec (fun hlt => ?_) (fun hge => ?_)
    · have hcv : IntKind.u64.wrap (i : Int) = i := by simp [IntKind.wrap, IntKind.min, IntKind.max, IntKind.bits, IntKind.signed]; omega
      by_cases hbad : winBad a b i
      · rw [winF_2 hr hk i (by omega) hbad]
        obtain ⟨g1, g2⟩ := hbad
        simp (maxSteps := 8000000) -implicitDefEqProofs (disch := omega) only [↓reduceIte, go_sem, hcv, took_at, ↓shr_ok, ↓and1_ok]
        repeat' first
          | ((first | refine gdKT_deq (fun hg hG => ?_) (fun hg hG => ?_) | refine condKT_deq (fun hg hG => ?_) (fun hg hG => ?_)) <;> (try simp (maxSteps := 8000000) -implicitDefEqProofs (disch := omega) only [↓reduceIte, go_sem, hG, hcv, took_at, ↓shr_ok, ↓and1_ok]) <;> clear hG)
          | ((first | refine gdKT_split (fun hg => ?_) (fun hg => ?_) | refine condKT_split (fun hg => ?_) (fun hg => ?_)) <;> (try simp (maxSteps := 8000000) -implicitDefEqProofs (disch := omega) only [↓reduceIte, go_sem, hg, hcv, took_at, ↓shr_ok, ↓and1_ok]))
          | (refine endT_p (.inr rfl) (by simp (maxSteps := 8000000) -implicitDefEqProofs (disch := omega) only [↓reduceIte, go_sem, hcv, took_at, ↓shr_ok, ↓and1_ok]; rfl) ?_; (first | exact vb_true (by omega) | exact vb_false (by omega) | exact vb_dec (by omega) | exact vi_eq (by omega) | rfl | (refine vi_eq ?_; simp_all; first | done | (intros; omega))))
          | exact endT_v (.inr rfl) (by simp (maxSteps := 8000000) -implicitDefEqProofs (disch := omega) only [↓reduceIte, go_sem, hcv, took_at, ↓shr_ok, ↓and1_ok]; try rfl) (fun _ => rfl)
      · have hbad' : ¬ ((b / 2 ^ i) % 2 = 1 ∧ a - i < 1) := hbad
        simp (maxSteps := 8000000) -implicitDefEqProofs (disch := omega) only [↓reduceIte, go_sem, hcv, took_at, ↓shr_ok, ↓and1_ok]
        repeat' first
          | ((first | refine gdKT_deq (fun hg hG => ?_) (fun hg hG => ?_) | refine condKT_deq (fun hg hG => ?_) (fun hg hG => ?_)) <;> (try simp (maxSteps := 8000000) -implicitDefEqProofs (disch := omega) only [↓reduceIte, go_sem, hG, hcv, took_at, ↓shr_ok, ↓and1_ok]) <;> clear hG)
          | ((first | refine gdKT_split (fun hg => ?_) (fun hg => ?_) | refine condKT_split (fun hg => ?_) (fun hg => ?_)) <;> (try simp (maxSteps := 8000000) -implicitDefEqProofs (disch := omega) only [↓reduceIte, go_sem, hg, hcv, took_at, ↓shr_ok, ↓and1_ok]))
          | (refine endT_p (.inr rfl) (by simp (maxSteps := 8000000) -implicitDefEqProofs (disch := omega) only [↓reduceIte, go_sem, hcv, took_at, ↓shr_ok, ↓and1_ok]; rfl) ?_; (first | exact vb_true (by omega) | exact vb_false (by omega) | exact vb_dec (by omega) | exact vi_eq (by omega) | rfl | (refine vi_eq ?_; simp_all; first | done | (intros; omega))))
          | exact endT_v (.inr rfl) (by simp (maxSteps := 8000000) -implicitDefEqProofs (disch := omega) only [↓reduceIte, go_sem, hcv, took_at, ↓shr_ok, ↓and1_ok]; try rfl) (fun _ => rfl)
        all_goals
          refine loopKT_next (i + 1) ⟨by omega, fun j hj => ?_⟩ (by omega) ?_
          · by_cases e : j = i
            · subst e; exact hbad
            · exact hnb j (by omega)
          · exact (le_of [0] (by simp (maxSteps := 8000000) -implicitDefEqProofs (disch := omega) only [↓reduceIte, go_sem]) (by simp (maxSteps := 8000000) -implicitDefEqProofs (disch := omega) only [↓reduceIte, go_sem]) (by decide) (by simp))
    · rw [winF_3 hr hk (fun j hj => hnb j (by omega))]
      simp (maxSteps := 8000000) -implicitDefEqProofs (disch := omega) only [↓reduceIte, go_sem]
      refine joinK_here ?_
      simp (maxSteps := 8000000) -implicitDefEqProofs (disch := omega) only [↓reduceIte, go_sem]
      repeat' first
        | ((first | refine gdKT_deq (fun hg hG => ?_) (fun hg hG => ?_) | refine condKT_deq (fun hg hG => ?_) (fun hg hG => ?_)) <;> (try simp (maxSteps := 8000000) -implicitDefEqProofs (disch := omega) only [↓reduceIte, go_sem, hG]) <;> clear hG)
        | ((first | refine gdKT_split (fun hg => ?_) (fun hg => ?_) | refine condKT_split (fun hg => ?_) (fun hg => ?_)) <;> (try simp (maxSteps := 8000000) -implicitDefEqProofs (disch := omega) only [↓reduceIte, go_sem, hg]))
        | (refine endT_p (.inr rfl) (by simp (maxSteps := 8000000) -implicitDefEqProofs (disch := omega) only [↓reduceIte, go_sem]; rfl) ?_; (first | exact vb_true (by omega) | exact vb_false (by omega) | exact vb_dec (by omega) | exact vi_eq (by omega) | rfl | (refine vi_eq ?_; simp_all; first | done | (intros; omega))))
        | exact endT_v (.inr rfl) (by simp (maxSteps := 8000000) -implicitDefEqProofs (disch := omega) only [↓reduceIte, go_sem]; try rfl) (fun _ => rfl)
-- impl.WindowFault
def c131 : AF := ⟨46,
 (.seq (.reg [rO 1 (.box 36 (.t 0)),
 rO 2 (.mv (.v (.int .i64 0)))])
 (.seq (.seq (.reg [rO 4 (.fa (.t 1) 0),
 rO 5 (.ld (.t 4)),
 rO 6 (.call 48 [(.t 5), (.v (.int .i64 0)), (.v (.int .i64 1099511627776))]),
 rO 7 (.un .not (.t 6)),
 rO 8 (.mv (.t 7)),
 ⟨(some 9), (some (8, false)), .fa (.t 1) 1⟩,
 ⟨(some 10), (some (8, false)), .ld (.t 9)⟩,
 ⟨(some 11), (some (8, false)), .call 48 [(.t 10), (.v (.int .i64 0)), (.v (.int .i64 4294967295))]⟩,
 ⟨(some 12), (some (8, false)), .un .not (.t 11)⟩,
 rO 13 (.pick (.t 8) (.v (.bool true)) (.t 12))])
 (.cond (.t 13) (.seq (.reg [rO 2 (.mv (.v (.int .i64 3)))])
 .ret)
 .skip))
 (.seq (.seq (.reg [rO 14 (.fa (.t 1) 0),
 rO 15 (.ld (.t 14)),
 rO 16 (.bin .eql (.t 15) (.v (.int .i64 0))),
 rO 17 (.mv (.t 16)),
 ⟨(some 18), (some (17, true)), .fa (.t 1) 1⟩,
 ⟨(some 19), (some (17, true)), .ld (.t 18)⟩,
 ⟨(some 20), (some (17, true)), .bin .neq (.t 19) (.v (.int .i64 0))⟩,
 rO 21 (.pick (.t 17) (.t 20) (.v (.bool false))),
 rO 22 (.mv (.t 21)),
 ⟨(some 23), (some (22, false)), .fa (.t 1) 0⟩,
 ⟨(some 24), (some (22, false)), .ld (.t 23)⟩,
 ⟨(some 25), (some (22, false)), .bin .gtr (.t 24) (.v (.int .i64 0))⟩,
 ⟨(some 26), (some (22, false)), .mv (.t 25)⟩,
 ⟨(some 27), (some (26, true)), .ldn 2 (.t 1)⟩,
 ⟨(some 28), (some (26, true)), .call 165 [(.t 27), (.v (.int .i64 0))]⟩,
 ⟨(some 29), (some (26, true)), .un .not (.t 28)⟩,
 ⟨(some 30), (some (22, false)), .pick (.t 26) (.t 29) (.v (.bool false))⟩,
 rO 31 (.pick (.t 22) (.v (.bool true)) (.t 30))])
 (.cond (.t 31) (.seq (.reg [rO 2 (.mv (.v (.int .i64 1)))])
 .ret)
 .skip))
 (.seq (.seq (.reg [rO 32 (.mv (.v (.int .i64 0)))])
 (.block 0 (.loop (.seq (.reg [rO 33 (.bin .lss (.t 32) (.v (.int .i64 32)))])
 (.seq (.cond (.t 33) .skip
 (.exit 0))
 (.seq (.block 1 (.seq (.reg [rO 34 (.mv (.t 32)),
 rO 3 (.mv (.t 34))])
 (.seq (.reg [rO 35 (.ldn 2 (.t 1)),
 rO 36 (.mv (.t 3)),
 rO 37 (.call 165 [(.t 35), (.t 36)]),
 rO 38 (.mv (.t 37)),
 ⟨(some 39), (some (38, true)), .fa (.t 1) 0⟩,
 ⟨(some 40), (some (38, true)), .ld (.t 39)⟩,
 ⟨(some 41), (some (38, true)), .mv (.t 3)⟩,
 ⟨(some 42), (some (38, true)), .bin .sub (.t 40) (.t 41)⟩,
 ⟨(some 43), (some (38, true)), .bin .lss (.t 42) (.v (.int .i64 1))⟩,
 rO 44 (.pick (.t 38) (.t 43) (.v (.bool false)))])
 (.cond (.t 44) (.seq (.reg [rO 2 (.mv (.v (.int .i64 1)))])
 .ret)
 .skip))))
 (.reg [rO 45 (.bin .add (.t 32) (.v (.int .i64 1))),
 rO 32 (.mv (.t 45))])))))))
 (.seq (.reg [rO 2 (.mv (.v (.int .i64 0)))])
 .ret))))),
 [.t 2]⟩
theorem k131 : cFn Try.prog Try.f131 = some c131 := by kernel_rfl
theorem winFI_ok : OkT Try.prog 131 (pureSp winF_S) := by
  refine okT_fn (OkΓT.cons in_ok (OkΓT.cons took_ok (OkΓT.nil _))) Try.func131 (by kernel_rfl) k131 (fun x _ => ⟨rfl, rfl⟩) ?_
  rintro ⟨a, b⟩ _
  dsimp only [wnT]
  by_cases hr : 0 ≤ a ∧ a ≤ 1099511627776 ∧ 0 ≤ b ∧ b ≤ 4294967295
  case neg =>
    rw [winF_4 hr]
    (dsimp only [c131, rO]; simp (maxSteps := 8000000) -implicitDefEqProofs (disch := omega) only [↓reduceIte, go_sem, in_at, took_at, ↓shr_ok, ↓and1_ok])
    repeat' first
      | ((first | refine gdKT_deq (fun hg hG => ?_) (fun hg hG => ?_) | refine condKT_deq (fun hg hG => ?_) (fun hg hG => ?_)) <;> (try simp (maxSteps := 8000000) -implicitDefEqProofs (disch := omega) only [↓reduceIte, go_sem, hG, in_at, took_at, ↓shr_ok, ↓and1_ok]) <;> clear hG)
      | ((first | refine gdKT_split (fun hg => ?_) (fun hg => ?_) | refine condKT_split (fun hg => ?_) (fun hg => ?_)) <;> (try simp (maxSteps := 8000000) -implicitDefEqProofs (disch := omega) only [↓reduceIte, go_sem, hg, in_at, took_at, ↓shr_ok, ↓and1_ok]))
      | (refine endT_p (.inr rfl) (by simp (maxSteps := 8000000) -implicitDefEqProofs (disch := omega) only [↓reduceIte, go_sem, in_at, took_at, ↓shr_ok, ↓and1_ok]; rfl) ?_; (first | exact vb_true (by omega) | exact vb_false (by omega) | exact vb_dec (by omega) | exact vi_eq (by omega) | rfl | (refine vi_eq ?_; simp_all; first | done | (intros; omega))))
      | exact endT_v (.inr rfl) (by simp (maxSteps := 8000000) -implicitDefEqProofs (disch := omega) only [↓reduceIte, go_sem, in_at, took_at, ↓shr_ok, ↓and1_ok]; try rfl) (fun _ => rfl)
  by_cases hk : (a = 0 ∧ b ≠ 0) ∨ (0 < a ∧ b % 2 = 0)
  · rw [winF_1 hr hk]
    (dsimp only [c131, rO]; simp (maxSteps := 8000000) -implicitDefEqProofs (disch := omega) only [↓reduceIte, go_sem, in_at, took_at, ↓shr_ok, ↓and1_ok, Int.pow_zero, Int.ediv_one, Int.toNat_zero])
    repeat' first
      | ((first | refine gdKT_deq (fun hg hG => ?_) (fun hg hG => ?_) | refine condKT_deq (fun hg hG => ?_) (fun hg hG => ?_)) <;> (try simp (maxSteps := 8000000) -implicitDefEqProofs (disch := omega) only [↓reduceIte, go_sem, hG, in_at, took_at, ↓shr_ok, ↓and1_ok, Int.pow_zero, Int.ediv_one, Int.toNat_zero]) <;> clear hG)
      | ((first | refine gdKT_split (fun hg => ?_) (fun hg => ?_) | refine condKT_split (fun hg => ?_) (fun hg => ?_)) <;> (try simp (maxSteps := 8000000) -implicitDefEqProofs (disch := omega) only [↓reduceIte, go_sem, hg, in_at, took_at, ↓shr_ok, ↓and1_ok, Int.pow_zero, Int.ediv_one, Int.toNat_zero]))
      | (refine endT_p (.inr rfl) (by simp (maxSteps := 8000000) -implicitDefEqProofs (disch := omega) only [↓reduceIte, go_sem, in_at, took_at, ↓shr_ok, ↓and1_ok, Int.pow_zero, Int.ediv_one, Int.toNat_zero]; rfl) ?_; (first | exact vb_true (by omega) | exact vb_false (by omega) | exact vb_dec (by omega) | exact vi_eq (by omega) | rfl | (refine vi_eq ?_; simp_all; first | done | (intros; omega))))
      | exact endT_v (.inr rfl) (by simp (maxSteps := 8000000) -implicitDefEqProofs (disch := omega) only [↓reduceIte, go_sem, in_at, took_at, ↓shr_ok, ↓and1_ok, Int.pow_zero, Int.ediv_one, Int.toNat_zero]; try rfl) (fun _ => rfl)
  have hbits := fun k => bit_bd hr.2.2 k
  (dsimp only [c131, rO]; simp (maxSteps := 8000000) -implicitDefEqProofs (disch := omega) only [↓reduceIte, go_sem, in_at, took_at, ↓shr_ok, ↓and1_ok, Int.pow_zero, Int.ediv_one, Int.toNat_zero])
  repeat' first
    | ((first | refine gdKT_deq (fun hg hG => ?_) (fun hg hG => ?_) | refine condKT_deq (fun hg hG => ?_) (fun hg hG => ?_)) <;> (try simp (maxSteps := 8000000) -implicitDefEqProofs (disch := omega) only [↓reduceIte, go_sem, hG, in_at, took_at, ↓shr_ok, ↓and1_ok, Int.pow_zero, Int.ediv_one, Int.toNat_zero]) <;> clear hG)
    | ((first | refine gdKT_split (fun hg => ?_) (fun hg => ?_) | refine condKT_split (fun hg => ?_) (fun hg => ?_)) <;> (try simp (maxSteps := 8000000) -implicitDefEqProofs (disch := omega) only [↓reduceIte, go_sem, hg, in_at, took_at, ↓shr_ok, ↓and1_ok, Int.pow_zero, Int.ediv_one, Int.toNat_zero]))
    | (refine endT_p (.inr rfl) (by simp (maxSteps := 8000000) -implicitDefEqProofs (disch := omega) only [↓reduceIte, go_sem, in_at, took_at, ↓shr_ok, ↓and1_ok, Int.pow_zero, Int.ediv_one, Int.toNat_zero]; rfl) ?_; (first | exact vb_true (by omega) | exact vb_false (by omega) | exact vb_dec (by omega) | exact vi_eq (by omega) | rfl | (refine vi_eq ?_; simp_all; first | done | (intros; omega))))
    | exact endT_v (.inr rfl) (by simp (maxSteps := 8000000) -implicitDefEqProofs (disch := omega) only [↓reduceIte, go_sem, in_at, took_at, ↓shr_ok, ↓and1_ok, Int.pow_zero, Int.ediv_one, Int.toNat_zero]; try rfl) (fun _ => rfl)
  all_goals
    refine awpT_loop (α := Nat) (fun i => ⟨slots [(1, .op 0 0 0), (32, .p (.int .i64 i))], [.cells 36 2 [.agg [.p (.int .i64 a), .p (.int .i64 b)]]]⟩)
      (fun i => i ≤ 32 ∧ ∀ j, j < i → ¬ winBad a b j) (fun i => 32 - i) 0 ⟨by omega, fun j hj => absurd hj (by omega)⟩ (le_of [0] (by simp (maxSteps := 8000000) -implicitDefEqProofs (disch := omega) only [↓reduceIte, go_sem]) (by simp (maxSteps := 8000000) -implicitDefEqProofs (disch := omega) only [↓reduceIte, go_sem]) (by decide) (by simp)) ?_
    intro i ⟨hi, hnb⟩
    have hq := hbits i
    simp (maxSteps := 8000000) -implicitDefEqProofs (disch := omega) only [↓reduceIte, go_sem]
    refine condKT_dec (fun hlt => ?_) (fun hge => ?_)
    · have hcv : IntKind.u64.wrap (i : Int) = i := by simp [IntKind.wrap, IntKind.min, IntKind.max, IntKind.bits, IntKind.signed]; omega
      by_cases hbad : winBad a b i
      · rw [winF_2 hr hk i (by omega) hbad]
        obtain ⟨g1, g2⟩ := hbad
        simp (maxSteps := 8000000) -implicitDefEqProofs (disch := omega) only [↓reduceIte, go_sem, hcv, took_at, ↓shr_ok, ↓and1_ok]
        repeat' first
          | ((first | refine gdKT_deq (fun hg hG => ?_) (fun hg hG => ?_) | refine condKT_deq (fun hg hG => ?_) (fun hg hG => ?_)) <;> (try simp (maxSteps := 8000000) -implicitDefEqProofs (disch := omega) only [↓reduceIte, go_sem, hG, hcv, took_at, ↓shr_ok, ↓and1_ok]) <;> clear hG)
          | ((first | refine gdKT_split (fun hg => ?_) (fun hg => ?_) | refine condKT_split (fun hg => ?_) (fun hg => ?_)) <;> (try simp (maxSteps := 8000000) -implicitDefEqProofs (disch := omega) only [↓reduceIte, go_sem, hg, hcv, took_at, ↓shr_ok, ↓and1_ok]))
          | (refine endT_p (.inr rfl) (by simp (maxSteps := 8000000) -implicitDefEqProofs (disch := omega) only [↓reduceIte, go_sem, hcv, took_at, ↓shr_ok, ↓and1_ok]; rfl) ?_; (first | exact vb_true (by omega) | exact vb_false (by omega) | exact vb_dec (by omega) | exact vi_eq (by omega) | rfl | (refine vi_eq ?_; simp_all; first | done | (intros; omega))))
          | exact endT_v (.inr rfl) (by simp (maxSteps := 8000000) -implicitDefEqProofs (disch := omega) only [↓reduceIte, go_sem, hcv, took_at, ↓shr_ok, ↓and1_ok]; try rfl) (fun _ => rfl)
      · have hbad' : ¬ ((b / 2 ^ i) % 2 = 1 ∧ a - i < 1) := hbad
        simp (maxSteps := 8000000) -implicitDefEqProofs (disch := omega) only [↓reduceIte, go_sem, hcv, took_at, ↓shr_ok, ↓and1_ok]
        repeat' first
          | ((first | refine gdKT_deq (fun hg hG => ?_) (fun hg hG => ?_) | refine condKT_deq (fun hg hG => ?_) (fun hg hG => ?_)) <;> (try simp (maxSteps := 8000000) -implicitDefEqProofs (disch := omega) only [↓reduceIte, go_sem, hG, hcv, took_at, ↓shr_ok, ↓and1_ok]) <;> clear hG)
          | ((first | refine gdKT_split (fun hg => ?_) (fun hg => ?_) | refine condKT_split (fun hg => ?_) (fun hg => ?_)) <;> (try simp (maxSteps := 8000000) -implicitDefEqProofs (disch := omega) only [↓reduceIte, go_sem, hg, hcv, took_at, ↓shr_ok, ↓and1_ok]))
          | (refine endT_p (.inr rfl) (by simp (maxSteps := 8000000) -implicitDefEqProofs (disch := omega) only [↓reduceIte, go_sem, hcv, took_at, ↓shr_ok, ↓and1_ok]; rfl) ?_; (first | exact vb_true (by omega) | exact vb_false (by omega) | exact vb_dec (by omega) | exact vi_eq (by omega) | rfl | (refine vi_eq ?_; simp_all; first | done | (intros; omega))))
          | exact endT_v (.inr rfl) (by simp (maxSteps := 8000000) -implicitDefEqProofs (disch := omega) only [↓reduceIte, go_sem, hcv, took_at, ↓shr_ok, ↓and1_ok]; try rfl) (fun _ => rfl)
        all_goals
          refine loopKT_next (i + 1) ⟨by omega, fun j hj => ?_⟩ (by omega) ?_
          · by_cases e : j = i
            · subst e; exact hbad
            · exact hnb j (by omega)
          · exact (le_of [0] (by simp (maxSteps := 8000000) -implicitDefEqProofs (disch := omega) only [↓reduceIte, go_sem]) (by simp (maxSteps := 8000000) -implicitDefEqProofs (disch := omega) only [↓reduceIte, go_sem]) (by decide) (by simp))
    · rw [winF_3 hr hk (fun j hj => hnb j (by omega))]
      simp (maxSteps := 8000000) -implicitDefEqProofs (disch := omega) only [↓reduceIte, go_sem]
      refine joinK_here ?_
      simp (maxSteps := 8000000) -implicitDefEqProofs (disch := omega) only [↓reduceIte, go_sem]
      repeat' first
        | ((first | refine gdKT_deq (fun hg hG => ?_) (fun hg hG => ?_) | refine condKT_deq (fun hg hG => ?_) (fun hg hG => ?_)) <;> (try simp (maxSteps := 8000000) -implicitDefEqProofs (disch := omega) only [↓reduceIte, go_sem, hG]) <;> clear hG)
        | ((first | refine gdKT_split (fun hg => ?_) (fun hg => ?_) | refine condKT_split (fun hg => ?_) (fun hg => ?_)) <;> (try simp (maxSteps := 8000000) -implicitDefEqProofs (disch := omega) only [↓reduceIte, go_sem, hg]))
        | (refine endT_p (.inr rfl) (by simp (maxSteps := 8000000) -implicitDefEqProofs (disch := omega) only [↓reduceIte, go_sem]; rfl) ?_; (first | exact vb_true (by omega) | exact vb_false (by omega) | exact vb_dec (by omega) | exact vi_eq (by omega) | rfl | (refine vi_eq ?_; simp_all; first | done | (intros; omega))))
        | exact endT_v (.inr rfl) (by simp (maxSteps := 8000000) -implicitDefEqProofs (disch := omega) only [↓reduceIte, go_sem]; try rfl) (fun _ => rfl)
/-! Faults of rows of selectors -/
/-! Numbers in their ranges -/
/-! Agreements -/
end Go.Proofs.Ytbddhlhpakbcdaa
