import Derived.Test.YtngebdcbcliobaaC3
set_option linter.unusedSimpArgs false
set_option linter.unusedVariables false
set_option maxRecDepth 100000
set_option maxHeartbeats 4000000
namespace Go.Proofs.Ytngebdcbcliobaa
open Go Go.AH
attribute [local irreducible] awpT ropsT qopsT stepT condKT gdKT EndT joinK loopKT seqKT blkKT kont kontR
/-! Windows -/
theorem shr_ok {b k : Int} {kk : IntKind} (hb : 0 ≤ b) (hk : 0 ≤ k ∧ k ≤ 64) : abin .shr (.int .i64 b) (.int kk k) = some (.int .i64 (b / 2 ^ k.toNat)) := by
  simp only [abin]
  rw [if_neg (by omega)]
  congr 2
  rw [show min k.toNat IntKind.i64.bits = k.toNat by show min k.toNat 64 = _; omega]
  exact Int.fdiv_eq_ediv_of_nonneg _ (Int.le_of_lt (Int.pow_pos (by decide)))
theorem and1_ok {x : Int} (hx : 0 ≤ x ∧ x ≤ 9223372036854775807) : abin .and (.int .i64 x) (.int .i64 1) = some (.int .i64 (x % 2)) := by
  obtain ⟨n, rfl⟩ := Int.eq_ofNat_of_zero_le hx.1
  have e : ((BitVec.ofInt 64 (n : Int) &&& BitVec.ofInt 64 1).toNat : Int) = (n : Int) % 2 := by
    have h1 : (BitVec.ofInt 64 (n : Int)).toNat = n := by
      rw [BitVec.toNat_ofInt]; omega
    have h2 : (BitVec.ofInt 64 1).toNat = 1 := by decide
    rw [BitVec.toNat_and, h1, h2, Nat.and_one_is_mod]; omega
  simp only [abin, intB, if_true]
  show some (Value.int .i64 (IntKind.i64.wrap ((BitVec.ofInt 64 (n : Int) &&& BitVec.ofInt 64 1).toNat : Int))) = _
  rw [e, tw64 (by omega)]
theorem bit_bd {b : Int} (hb : 0 ≤ b ∧ b ≤ 4294967295) (k : Nat) : 0 ≤ b / 2 ^ k ∧ b / 2 ^ k ≤ 4294967295 := by
  have h0 : (0 : Int) < 2 ^ k := Int.pow_pos (by decide)
  exact ⟨Int.ediv_nonneg hb.1 (Int.le_of_lt h0), Int.le_trans (Int.ediv_le_self _ hb.1) hb.2⟩
def winBad (t b : Int) (k : Nat) : Prop := (b / 2 ^ k) % 2 = 1 ∧ t - k < 1
instance (t b : Int) (k : Nat) : Decidable (winBad t b k) := inferInstanceAs (Decidable (_ ∧ _))
def winF (t b : Int) : Int := if 0 ≤ t ∧ t ≤ 1099511627776 ∧ 0 ≤ b ∧ b ≤ 4294967295 then (if (t = 0 ∧ b ≠ 0) ∨ (0 < t ∧ b % 2 = 0) then 1 else if (List.range 32).any (fun k => decide (winBad t b k)) = true then 1 else 0) else 3
theorem winF_1 {t b : Int} (h : 0 ≤ t ∧ t ≤ 1099511627776 ∧ 0 ≤ b ∧ b ≤ 4294967295) (k : (t = 0 ∧ b ≠ 0) ∨ (0 < t ∧ b % 2 = 0)) : winF t b = 1 := by simp only [winF]; rw [if_pos h, if_pos k]
theorem winF_2 {t b : Int} (h : 0 ≤ t ∧ t ≤ 1099511627776 ∧ 0 ≤ b ∧ b ≤ 4294967295) (k : ¬ ((t = 0 ∧ b ≠ 0) ∨ (0 < t ∧ b % 2 = 0))) (j : Nat) (hj : j < 32) (hb : winBad t b j) : winF t b = 1 := by simp only [winF]; rw [if_pos h, if_neg k, if_pos (List.any_eq_true.2 ⟨j, List.mem_range.2 hj, decide_eq_true hb⟩)]
theorem winF_3 {t b : Int} (h : 0 ≤ t ∧ t ≤ 1099511627776 ∧ 0 ≤ b ∧ b ≤ 4294967295) (k : ¬ ((t = 0 ∧ b ≠ 0) ∨ (0 < t ∧ b % 2 = 0))) (hb : ∀ j, j < 32 → ¬ winBad t b j) : winF t b = 0 := by simp only [winF]; rw [if_pos h, if_neg k, if_neg (fun hh => by obtain ⟨j, hj, hh⟩ := List.any_eq_true.1 hh; exact hb j (List.mem_range.1 hj) (of_decide_eq_true hh))]
theorem winF_4 {t b : Int} (h : ¬ (0 ≤ t ∧ t ≤ 1099511627776 ∧ 0 ≤ b ∧ b ≤ 4294967295)) : winF t b = 3 := by simp only [winF]; rw [if_neg h]
structure WnR where
  (top bits : Int)
def wnT (x : WnR) : TV := .agg [.p (.int .i64 x.top), .p (.int .i64 x.bits)]
theorem wnT_inj (x y : WnR) (h : wnT x = wnT y) : x = y := by cases x; cases y; simp [wnT] at h; simp [h]
noncomputable def took_S := specP (fun x : WnR × Int => [wnT x.1, .p (.int .i64 x.2)]) (fun x => 0 ≤ x.1.bits ∧ x.1.bits ≤ 4294967295 ∧ 0 ≤ x.2 ∧ x.2 ≤ 64) (fun x => (.p (.bool (decide ((x.1.bits / 2 ^ x.2.toNat) % 2 = 1))), []))
theorem took_at (a b k : Int) (h : 0 ≤ b ∧ b ≤ 4294967295 ∧ 0 ≤ k ∧ k ≤ 64) : took_S [.agg [.p (.int .i64 a), .p (.int .i64 b)], .p (.int .i64 k)] = some (.p (.bool (decide ((b / 2 ^ k.toNat) % 2 = 1))), []) :=
  specP_at (enc := fun x : WnR × Int => [wnT x.1, .p (.int .i64 x.2)]) (by rintro ⟨a, b⟩ ⟨a', b'⟩ h; simp at h; simp [wnT_inj _ _ h.1, h.2]) (⟨a, b⟩, k) h
-- (impl.Window).took
def c145 : AF := ⟨11,
  (.seq (.reg [⟨(some 2), none, .box 29 (.t 0)⟩,
   ⟨(some 4), none, .mv (.v (.bool false))⟩])
  (.seq (.reg [⟨(some 5), none, .fa (.t 2) 1⟩,
   ⟨(some 6), none, .ld (.t 5)⟩,
   ⟨(some 7), none, .mv (.t 1)⟩,
   ⟨(some 8), none, .bin .shr (.t 6) (.t 7)⟩,
   ⟨(some 9), none, .bin .and (.t 8) (.v (.int .i64 1))⟩,
   ⟨(some 10), none, .bin .eql (.t 9) (.v (.int .i64 1))⟩,
   ⟨(some 4), none, .mv (.t 10)⟩])
  .ret)),
  [.t 4]⟩
theorem k145 : cFn Try.prog Try.f145 = some c145 := by kernel_rfl
theorem took_ok : OkT Try.prog 145 (pureSp took_S) := by
  refine okT_fn (OkΓT.nil _) Try.func145 (by kernel_rfl) k145 (fun x _ => ⟨rfl, rfl⟩) ?_
  rintro ⟨⟨a, b⟩, k⟩ ⟨h1, h2, h3, h4⟩
  dsimp only [wnT] at *
  have hb := bit_bd ⟨h1, h2⟩ k.toNat
  (dsimp only [c145]; simp (maxSteps := 1000000) (implicitDefEqProofs := false) (disch := omega) only [go_sem, if_pos, if_neg, tw64, twu8, ↓condKT_pos, ↓condKT_neg, ↓gdKT_pt, ↓gdKT_nt, ↓gdKT_pf, ↓gdKT_nf, ↓shr_ok, ↓and1_ok])
  repeat' first
    | (refine gdKT_dec (fun hg => ?_) (fun hg => ?_) <;> (try (first | simp (maxSteps := 1000000) (implicitDefEqProofs := false) (disch := omega) only [go_sem, if_pos, if_neg, tw64, twu8, ↓condKT_pos, ↓condKT_neg, ↓gdKT_pt, ↓gdKT_nt, ↓gdKT_pf, ↓gdKT_nf, eq_false hg, ↓shr_ok, ↓and1_ok] | simp (maxSteps := 1000000) (implicitDefEqProofs := false) (disch := omega) only [go_sem, if_pos, if_neg, tw64, twu8, ↓condKT_pos, ↓condKT_neg, ↓gdKT_pt, ↓gdKT_nt, ↓gdKT_pf, ↓gdKT_nf, eq_true hg, ↓shr_ok, ↓and1_ok])))
    | (refine condKT_dec (fun hg => ?_) (fun hg => ?_) <;> (try (first | simp (maxSteps := 1000000) (implicitDefEqProofs := false) (disch := omega) only [go_sem, if_pos, if_neg, tw64, twu8, ↓condKT_pos, ↓condKT_neg, ↓gdKT_pt, ↓gdKT_nt, ↓gdKT_pf, ↓gdKT_nf, eq_false hg, ↓shr_ok, ↓and1_ok] | simp (maxSteps := 1000000) (implicitDefEqProofs := false) (disch := omega) only [go_sem, if_pos, if_neg, tw64, twu8, ↓condKT_pos, ↓condKT_neg, ↓gdKT_pt, ↓gdKT_nt, ↓gdKT_pf, ↓gdKT_nf, eq_true hg, ↓shr_ok, ↓and1_ok])))
    | (refine gdKT_split (fun hg => ?_) (fun hg => ?_) <;> (try simp (maxSteps := 1000000) (implicitDefEqProofs := false) (disch := omega) only [go_sem, if_pos, if_neg, tw64, twu8, ↓condKT_pos, ↓condKT_neg, ↓gdKT_pt, ↓gdKT_nt, ↓gdKT_pf, ↓gdKT_nf, hg, ↓shr_ok, ↓and1_ok]))
    | (refine condKT_split (fun hg => ?_) (fun hg => ?_) <;> (try simp (maxSteps := 1000000) (implicitDefEqProofs := false) (disch := omega) only [go_sem, if_pos, if_neg, tw64, twu8, ↓condKT_pos, ↓condKT_neg, ↓gdKT_pt, ↓gdKT_nt, ↓gdKT_pf, ↓gdKT_nf, hg, ↓shr_ok, ↓and1_ok]))
    | (refine endT_p (.inr rfl) (by simp (maxSteps := 1000000) (implicitDefEqProofs := false) (disch := omega) only [go_sem, if_pos, if_neg, tw64, twu8, ↓condKT_pos, ↓condKT_neg, ↓gdKT_pt, ↓gdKT_nt, ↓gdKT_pf, ↓gdKT_nf, ↓shr_ok, ↓and1_ok]; rfl) ?_; (first | exact vb_true (by omega) | exact vb_false (by omega) | exact vb_dec (by omega) | exact vi_eq (by omega) | rfl | (refine vi_eq ?_; simp_all; done) | (refine vi_eq ?_; simp_all; omega) | (refine vi_eq ?_; simp_all; intros; omega)))
    | exact endT_v (.inr rfl) (by simp (maxSteps := 1000000) (implicitDefEqProofs := false) (disch := omega) only [go_sem, if_pos, if_neg, tw64, twu8, ↓condKT_pos, ↓condKT_neg, ↓gdKT_pt, ↓gdKT_nt, ↓gdKT_pf, ↓gdKT_nf, ↓shr_ok, ↓and1_ok]; try rfl) (fun _ => rfl)
noncomputable def winF_S := specP (fun x : WnR => [wnT x]) (fun x => True) (fun x => (.p (.int .i64 (winF x.top x.bits)), []))
theorem winF_at (a b : Int) : winF_S [.agg [.p (.int .i64 a), .p (.int .i64 b)]] = some (.p (.int .i64 (winF a b)), []) :=
  specP_at (enc := fun x : WnR => [wnT x]) (by intro x y h; exact wnT_inj x y (by simpa using h)) ⟨a, b⟩ trivial
-- spec.WindowFault
def c76 : AF := ⟨51,
  (.seq (.reg [⟨(some 1), none, .box 29 (.t 0)⟩,
   ⟨(some 2), none, .mv (.v (.int .i64 0))⟩])
  (.seq (.seq (.reg [⟨(some 4), none, .fa (.t 1) 0⟩,
   ⟨(some 5), none, .ld (.t 4)⟩,
   ⟨(some 6), none, .call 74 [(.t 5), (.v (.int .i64 0)), (.v (.int .i64 1099511627776))]⟩,
   ⟨(some 7), none, .un .not (.t 6)⟩,
   ⟨(some 8), none, .mv (.t 7)⟩,
   ⟨(some 9), (some (8, false)), .fa (.t 1) 1⟩,
   ⟨(some 10), (some (8, false)), .ld (.t 9)⟩,
   ⟨(some 11), (some (8, false)), .call 74 [(.t 10), (.v (.int .i64 0)), (.v (.int .i64 4294967295))]⟩,
   ⟨(some 12), (some (8, false)), .un .not (.t 11)⟩,
   ⟨(some 13), none, .pick (.t 8) (.v (.bool true)) (.t 12)⟩])
  (.cond (.t 13) (.seq (.reg [⟨(some 2), none, .mv (.v (.int .i64 3))⟩])
  .ret)
  .skip))
  (.seq (.seq (.reg [⟨(some 14), none, .fa (.t 1) 0⟩,
   ⟨(some 15), none, .ld (.t 14)⟩,
   ⟨(some 16), none, .bin .eql (.t 15) (.v (.int .i64 0))⟩,
   ⟨(some 17), none, .mv (.t 16)⟩,
   ⟨(some 18), (some (17, true)), .fa (.t 1) 1⟩,
   ⟨(some 19), (some (17, true)), .ld (.t 18)⟩,
   ⟨(some 20), (some (17, true)), .bin .neq (.t 19) (.v (.int .i64 0))⟩,
   ⟨(some 21), none, .pick (.t 17) (.t 20) (.v (.bool false))⟩,
   ⟨(some 22), none, .mv (.t 21)⟩,
   ⟨(some 23), (some (22, false)), .fa (.t 1) 0⟩,
   ⟨(some 24), (some (22, false)), .ld (.t 23)⟩,
   ⟨(some 25), (some (22, false)), .bin .gtr (.t 24) (.v (.int .i64 0))⟩,
   ⟨(some 26), (some (22, false)), .mv (.t 25)⟩,
   ⟨(some 27), (some (26, true)), .fa (.t 1) 1⟩,
   ⟨(some 28), (some (26, true)), .ld (.t 27)⟩,
   ⟨(some 29), (some (26, true)), .bin .and (.t 28) (.v (.int .i64 1))⟩,
   ⟨(some 30), (some (26, true)), .bin .eql (.t 29) (.v (.int .i64 0))⟩,
   ⟨(some 31), (some (22, false)), .pick (.t 26) (.t 30) (.v (.bool false))⟩,
   ⟨(some 32), none, .pick (.t 22) (.v (.bool true)) (.t 31)⟩])
  (.cond (.t 32) (.seq (.reg [⟨(some 2), none, .mv (.v (.int .i64 1))⟩])
  .ret)
  .skip))
  (.seq (.seq (.reg [⟨(some 3), none, .mv (.v (.int .i64 0))⟩])
  (.block 0 (.loop (.seq (.seq (.reg [⟨(some 33), none, .mv (.t 3)⟩,
   ⟨(some 34), none, .bin .lss (.t 33) (.v (.int .i64 32))⟩])
  (.cond (.t 34) .skip
  (.exit 0)))
  (.seq (.block 1 (.seq (.reg [⟨(some 37), none, .fa (.t 1) 1⟩,
   ⟨(some 38), none, .ld (.t 37)⟩,
   ⟨(some 39), none, .mv (.t 3)⟩,
   ⟨(some 40), none, .cvI .u64 (.t 39)⟩,
   ⟨(some 41), none, .bin .shr (.t 38) (.t 40)⟩,
   ⟨(some 42), none, .bin .and (.t 41) (.v (.int .i64 1))⟩,
   ⟨(some 43), none, .bin .eql (.t 42) (.v (.int .i64 1))⟩,
   ⟨(some 44), none, .mv (.t 43)⟩,
   ⟨(some 45), (some (44, true)), .fa (.t 1) 0⟩,
   ⟨(some 46), (some (44, true)), .ld (.t 45)⟩,
   ⟨(some 47), (some (44, true)), .mv (.t 3)⟩,
   ⟨(some 48), (some (44, true)), .bin .sub (.t 46) (.t 47)⟩,
   ⟨(some 49), (some (44, true)), .bin .lss (.t 48) (.v (.int .i64 1))⟩,
   ⟨(some 50), none, .pick (.t 44) (.t 49) (.v (.bool false))⟩])
  (.cond (.t 50) (.seq (.reg [⟨(some 2), none, .mv (.v (.int .i64 1))⟩])
  .ret)
  .skip)))
  (.reg [⟨(some 35), none, .mv (.t 3)⟩,
   ⟨(some 36), none, .bin .add (.t 35) (.v (.int .i64 1))⟩,
   ⟨(some 3), none, .mv (.t 36)⟩]))))))
  (.seq (.reg [⟨(some 2), none, .mv (.v (.int .i64 0))⟩])
  .ret))))),
  [.t 2]⟩
theorem k76 : cFn Try.prog Try.f76 = some c76 := by kernel_rfl
theorem winFS_ok : OkT Try.prog 76 (pureSp winF_S) := by
  refine okT_fn (OkΓT.cons l1In_ok (OkΓT.nil _)) Try.func76 (by kernel_rfl) k76 (fun x _ => ⟨rfl, rfl⟩) ?_
  rintro ⟨a, b⟩ _
  dsimp only [wnT]
  by_cases hr : 0 ≤ a ∧ a ≤ 1099511627776 ∧ 0 ≤ b ∧ b ≤ 4294967295
  case neg =>
    rw [winF_4 hr]
    (dsimp only [c76]; simp (maxSteps := 1000000) (implicitDefEqProofs := false) (disch := omega) only [go_sem, if_pos, if_neg, tw64, twu8, ↓condKT_pos, ↓condKT_neg, ↓gdKT_pt, ↓gdKT_nt, ↓gdKT_pf, ↓gdKT_nf, in_at, took_at, ↓shr_ok, ↓and1_ok])
    repeat' first
      | (refine gdKT_dec (fun hg => ?_) (fun hg => ?_) <;> (try (first | simp (maxSteps := 1000000) (implicitDefEqProofs := false) (disch := omega) only [go_sem, if_pos, if_neg, tw64, twu8, ↓condKT_pos, ↓condKT_neg, ↓gdKT_pt, ↓gdKT_nt, ↓gdKT_pf, ↓gdKT_nf, eq_false hg, in_at, took_at, ↓shr_ok, ↓and1_ok] | simp (maxSteps := 1000000) (implicitDefEqProofs := false) (disch := omega) only [go_sem, if_pos, if_neg, tw64, twu8, ↓condKT_pos, ↓condKT_neg, ↓gdKT_pt, ↓gdKT_nt, ↓gdKT_pf, ↓gdKT_nf, eq_true hg, in_at, took_at, ↓shr_ok, ↓and1_ok])))
      | (refine condKT_dec (fun hg => ?_) (fun hg => ?_) <;> (try (first | simp (maxSteps := 1000000) (implicitDefEqProofs := false) (disch := omega) only [go_sem, if_pos, if_neg, tw64, twu8, ↓condKT_pos, ↓condKT_neg, ↓gdKT_pt, ↓gdKT_nt, ↓gdKT_pf, ↓gdKT_nf, eq_false hg, in_at, took_at, ↓shr_ok, ↓and1_ok] | simp (maxSteps := 1000000) (implicitDefEqProofs := false) (disch := omega) only [go_sem, if_pos, if_neg, tw64, twu8, ↓condKT_pos, ↓condKT_neg, ↓gdKT_pt, ↓gdKT_nt, ↓gdKT_pf, ↓gdKT_nf, eq_true hg, in_at, took_at, ↓shr_ok, ↓and1_ok])))
      | (refine gdKT_split (fun hg => ?_) (fun hg => ?_) <;> (try simp (maxSteps := 1000000) (implicitDefEqProofs := false) (disch := omega) only [go_sem, if_pos, if_neg, tw64, twu8, ↓condKT_pos, ↓condKT_neg, ↓gdKT_pt, ↓gdKT_nt, ↓gdKT_pf, ↓gdKT_nf, hg, in_at, took_at, ↓shr_ok, ↓and1_ok]))
      | (refine condKT_split (fun hg => ?_) (fun hg => ?_) <;> (try simp (maxSteps := 1000000) (implicitDefEqProofs := false) (disch := omega) only [go_sem, if_pos, if_neg, tw64, twu8, ↓condKT_pos, ↓condKT_neg, ↓gdKT_pt, ↓gdKT_nt, ↓gdKT_pf, ↓gdKT_nf, hg, in_at, took_at, ↓shr_ok, ↓and1_ok]))
      | (refine endT_p (.inr rfl) (by simp (maxSteps := 1000000) (implicitDefEqProofs := false) (disch := omega) only [go_sem, if_pos, if_neg, tw64, twu8, ↓condKT_pos, ↓condKT_neg, ↓gdKT_pt, ↓gdKT_nt, ↓gdKT_pf, ↓gdKT_nf, in_at, took_at, ↓shr_ok, ↓and1_ok]; rfl) ?_; (first | exact vb_true (by omega) | exact vb_false (by omega) | exact vb_dec (by omega) | exact vi_eq (by omega) | rfl | (refine vi_eq ?_; simp_all; done) | (refine vi_eq ?_; simp_all; omega) | (refine vi_eq ?_; simp_all; intros; omega)))
      | exact endT_v (.inr rfl) (by simp (maxSteps := 1000000) (implicitDefEqProofs := false) (disch := omega) only [go_sem, if_pos, if_neg, tw64, twu8, ↓condKT_pos, ↓condKT_neg, ↓gdKT_pt, ↓gdKT_nt, ↓gdKT_pf, ↓gdKT_nf, in_at, took_at, ↓shr_ok, ↓and1_ok]; try rfl) (fun _ => rfl)
  by_cases hk : (a = 0 ∧ b ≠ 0) ∨ (0 < a ∧ b % 2 = 0)
  · rw [winF_1 hr hk]
    (dsimp only [c76]; simp (maxSteps := 1000000) (implicitDefEqProofs := false) (disch := omega) only [go_sem, if_pos, if_neg, tw64, twu8, ↓condKT_pos, ↓condKT_neg, ↓gdKT_pt, ↓gdKT_nt, ↓gdKT_pf, ↓gdKT_nf, in_at, took_at, ↓shr_ok, ↓and1_ok, Int.pow_zero, Int.ediv_one, Int.toNat_zero])
    repeat' first
      | (refine gdKT_dec (fun hg => ?_) (fun hg => ?_) <;> (try (first | simp (maxSteps := 1000000) (implicitDefEqProofs := false) (disch := omega) only [go_sem, if_pos, if_neg, tw64, twu8, ↓condKT_pos, ↓condKT_neg, ↓gdKT_pt, ↓gdKT_nt, ↓gdKT_pf, ↓gdKT_nf, eq_false hg, in_at, took_at, ↓shr_ok, ↓and1_ok, Int.pow_zero, Int.ediv_one, Int.toNat_zero] | simp (maxSteps := 1000000) (implicitDefEqProofs := false) (disch := omega) only [go_sem, if_pos, if_neg, tw64, twu8, ↓condKT_pos, ↓condKT_neg, ↓gdKT_pt, ↓gdKT_nt, ↓gdKT_pf, ↓gdKT_nf, eq_true hg, in_at, took_at, ↓shr_ok, ↓and1_ok, Int.pow_zero, Int.ediv_one, Int.toNat_zero])))
      | (refine condKT_dec (fun hg => ?_) (fun hg => ?_) <;> (try (first | simp (maxSteps := 1000000) (implicitDefEqProofs := false) (disch := omega) only [go_sem, if_pos, if_neg, tw64, twu8, ↓condKT_pos, ↓condKT_neg, ↓gdKT_pt, ↓gdKT_nt, ↓gdKT_pf, ↓gdKT_nf, eq_false hg, in_at, took_at, ↓shr_ok, ↓and1_ok, Int.pow_zero, Int.ediv_one, Int.toNat_zero] | simp (maxSteps := 1000000) (implicitDefEqProofs := false) (disch := omega) only [go_sem, if_pos, if_neg, tw64, twu8, ↓condKT_pos, ↓condKT_neg, ↓gdKT_pt, ↓gdKT_nt, ↓gdKT_pf, ↓gdKT_nf, eq_true hg, in_at, took_at, ↓shr_ok, ↓and1_ok, Int.pow_zero, Int.ediv_one, Int.toNat_zero])))
      | (refine gdKT_split (fun hg => ?_) (fun hg => ?_) <;> (try simp (maxSteps := 1000000) (implicitDefEqProofs := false) (disch := omega) only [go_sem, if_pos, if_neg, tw64, twu8, ↓condKT_pos, ↓condKT_neg, ↓gdKT_pt, ↓gdKT_nt, ↓gdKT_pf, ↓gdKT_nf, hg, in_at, took_at, ↓shr_ok, ↓and1_ok, Int.pow_zero, Int.ediv_one, Int.toNat_zero]))
      | (refine condKT_split (fun hg => ?_) (fun hg => ?_) <;> (try simp (maxSteps := 1000000) (implicitDefEqProofs := false) (disch := omega) only [go_sem, if_pos, if_neg, tw64, twu8, ↓condKT_pos, ↓condKT_neg, ↓gdKT_pt, ↓gdKT_nt, ↓gdKT_pf, ↓gdKT_nf, hg, in_at, took_at, ↓shr_ok, ↓and1_ok, Int.pow_zero, Int.ediv_one, Int.toNat_zero]))
      | (refine endT_p (.inr rfl) (by simp (maxSteps := 1000000) (implicitDefEqProofs := false) (disch := omega) only [go_sem, if_pos, if_neg, tw64, twu8, ↓condKT_pos, ↓condKT_neg, ↓gdKT_pt, ↓gdKT_nt, ↓gdKT_pf, ↓gdKT_nf, in_at, took_at, ↓shr_ok, ↓and1_ok, Int.pow_zero, Int.ediv_one, Int.toNat_zero]; rfl) ?_; (first | exact vb_true (by omega) | exact vb_false (by omega) | exact vb_dec (by omega) | exact vi_eq (by omega) | rfl | (refine vi_eq ?_; simp_all; done) | (refine vi_eq ?_; simp_all; omega) | (refine vi_eq ?_; simp_all; intros; omega)))
      | exact endT_v (.inr rfl) (by simp (maxSteps := 1000000) (implicitDefEqProofs := false) (disch := omega) only [go_sem, if_pos, if_neg, tw64, twu8, ↓condKT_pos, ↓condKT_neg, ↓gdKT_pt, ↓gdKT_nt, ↓gdKT_pf, ↓gdKT_nf, in_at, took_at, ↓shr_ok, ↓and1_ok, Int.pow_zero, Int.ediv_one, Int.toNat_zero]; try rfl) (fun _ => rfl)
  have hbits := fun k => bit_bd hr.2.2 k
  (dsimp only [c76]; simp (maxSteps := 1000000) (implicitDefEqProofs := false) (disch := omega) only [go_sem, if_pos, if_neg, tw64, twu8, ↓condKT_pos, ↓condKT_neg, ↓gdKT_pt, ↓gdKT_nt, ↓gdKT_pf, ↓gdKT_nf, in_at, took_at, ↓shr_ok, ↓and1_ok, Int.pow_zero, Int.ediv_one, Int.toNat_zero])
  repeat' first
    | (refine gdKT_dec (fun hg => ?_) (fun hg => ?_) <;> (try (first | simp (maxSteps := 1000000) (implicitDefEqProofs := false) (disch := omega) only [go_sem, if_pos, if_neg, tw64, twu8, ↓condKT_pos, ↓condKT_neg, ↓gdKT_pt, ↓gdKT_nt, ↓gdKT_pf, ↓gdKT_nf, eq_false hg, in_at, took_at, ↓shr_ok, ↓and1_ok, Int.pow_zero, Int.ediv_one, Int.toNat_zero] | simp (maxSteps := 1000000) (implicitDefEqProofs := false) (disch := omega) only [go_sem, if_pos, if_neg, tw64, twu8, ↓condKT_pos, ↓condKT_neg, ↓gdKT_pt, ↓gdKT_nt, ↓gdKT_pf, ↓gdKT_nf, eq_true hg, in_at, took_at, ↓shr_ok, ↓and1_ok, Int.pow_zero, Int.ediv_one, Int.toNat_zero])))
    | (refine condKT_dec (fun hg => ?_) (fun hg => ?_) <;> (try (first | simp (maxSteps := 1000000) (implicitDefEqProofs := false) (disch := omega) only [go_sem, if_pos, if_neg, tw64, twu8, ↓condKT_pos, ↓condKT_neg, ↓gdKT_pt, ↓gdKT_nt, ↓gdKT_pf, ↓gdKT_nf, eq_false hg, in_at, took_at, ↓shr_ok, ↓and1_ok, Int.pow_zero, Int.ediv_one, Int.toNat_zero] | simp (maxSteps := 1000000) (implicitDefEqProofs := false) (disch := omega) only [go_sem, if_pos, if_neg, tw64, twu8, ↓condKT_pos, ↓condKT_neg, ↓gdKT_pt, ↓gdKT_nt, ↓gdKT_pf, ↓gdKT_nf, eq_true hg, in_at, took_at, ↓shr_ok, ↓and1_ok, Int.pow_zero, Int.ediv_one, Int.toNat_zero])))
    | (refine gdKT_split (fun hg => ?_) (fun hg => ?_) <;> (try simp (maxSteps := 1000000) (implicitDefEqProofs := false) (disch := omega) only [go_sem, if_pos, if_neg, tw64, twu8, ↓condKT_pos, ↓condKT_neg, ↓gdKT_pt, ↓gdKT_nt, ↓gdKT_pf, ↓gdKT_nf, hg, in_at, took_at, ↓shr_ok, ↓and1_ok, Int.pow_zero, Int.ediv_one, Int.toNat_zero]))
    | (refine condKT_split (fun hg => ?_) (fun hg => ?_) <;> (try simp (maxSteps := 1000000) (implicitDefEqProofs := false) (disch := omega) only [go_sem, if_pos, if_neg, tw64, twu8, ↓condKT_pos, ↓condKT_neg, ↓gdKT_pt, ↓gdKT_nt, ↓gdKT_pf, ↓gdKT_nf, hg, in_at, took_at, ↓shr_ok, ↓and1_ok, Int.pow_zero, Int.ediv_one, Int.toNat_zero]))
    | (refine endT_p (.inr rfl) (by simp (maxSteps := 1000000) (implicitDefEqProofs := false) (disch := omega) only [go_sem, if_pos, if_neg, tw64, twu8, ↓condKT_pos, ↓condKT_neg, ↓gdKT_pt, ↓gdKT_nt, ↓gdKT_pf, ↓gdKT_nf, in_at, took_at, ↓shr_ok, ↓and1_ok, Int.pow_zero, Int.ediv_one, Int.toNat_zero]; rfl) ?_; (first | exact vb_true (by omega) | exact vb_false (by omega) | exact vb_dec (by omega) | exact vi_eq (by omega) | rfl | (refine vi_eq ?_; simp_all; done) | (refine vi_eq ?_; simp_all; omega) | (refine vi_eq ?_; simp_all; intros; omega)))
    | exact endT_v (.inr rfl) (by simp (maxSteps := 1000000) (implicitDefEqProofs := false) (disch := omega) only [go_sem, if_pos, if_neg, tw64, twu8, ↓condKT_pos, ↓condKT_neg, ↓gdKT_pt, ↓gdKT_nt, ↓gdKT_pf, ↓gdKT_nf, in_at, took_at, ↓shr_ok, ↓and1_ok, Int.pow_zero, Int.ediv_one, Int.toNat_zero]; try rfl) (fun _ => rfl)
  all_goals
    refine awpT_loop (α := Nat) (fun i => ⟨slots [(1, .op 0 0 0), (3, .p (.int .i64 i))], [.cells 29 2 [.agg [.p (.int .i64 a), .p (.int .i64 b)]]]⟩)
      (fun i => i ≤ 32 ∧ ∀ j, j < i → ¬ winBad a b j) (fun i => 32 - i) 0 ⟨by omega, fun j hj => absurd hj (by omega)⟩ (le_of [0] (by simp (maxSteps := 1000000) (implicitDefEqProofs := false) (disch := omega) only [go_sem, if_pos, if_neg, tw64, twu8, ↓condKT_pos, ↓condKT_neg, ↓gdKT_pt, ↓gdKT_nt, ↓gdKT_pf, ↓gdKT_nf]) (by simp (maxSteps := 1000000) (implicitDefEqProofs := false) (disch := omega) only [go_sem, if_pos, if_neg, tw64, twu8, ↓condKT_pos, ↓condKT_neg, ↓gdKT_pt, ↓gdKT_nt, ↓gdKT_pf, ↓gdKT_nf]) (by decide) (by simp)) ?_
    intro i ⟨hi, hnb⟩
    have hq := hbits i
    simp (maxSteps := 1000000) (implicitDefEqProofs := false) (disch := omega) only [go_sem, if_pos, if_neg, tw64, twu8, ↓condKT_pos, ↓condKT_neg, ↓gdKT_pt, ↓gdKT_nt, ↓gdKT_pf, ↓gdKT_nf]
    refine condKT_dec (fun hlt => ?_) (fun hge => ?_)
    · have hcv : IntKind.u64.wrap (i : Int) = i := by simp [IntKind.wrap, IntKind.min, IntKind.max, IntKind.bits, IntKind.signed]; omega
      by_cases hbad : winBad a b i
      · rw [winF_2 hr hk i (by omega) hbad]
        obtain ⟨g1, g2⟩ := hbad
        simp (maxSteps := 1000000) (implicitDefEqProofs := false) (disch := omega) only [go_sem, if_pos, if_neg, tw64, twu8, ↓condKT_pos, ↓condKT_neg, ↓gdKT_pt, ↓gdKT_nt, ↓gdKT_pf, ↓gdKT_nf, hcv, took_at, ↓shr_ok, ↓and1_ok]
        repeat' first
          | (refine gdKT_dec (fun hg => ?_) (fun hg => ?_) <;> (try (first | simp (maxSteps := 1000000) (implicitDefEqProofs := false) (disch := omega) only [go_sem, if_pos, if_neg, tw64, twu8, ↓condKT_pos, ↓condKT_neg, ↓gdKT_pt, ↓gdKT_nt, ↓gdKT_pf, ↓gdKT_nf, eq_false hg, hcv, took_at, ↓shr_ok, ↓and1_ok] | simp (maxSteps := 1000000) (implicitDefEqProofs := false) (disch := omega) only [go_sem, if_pos, if_neg, tw64, twu8, ↓condKT_pos, ↓condKT_neg, ↓gdKT_pt, ↓gdKT_nt, ↓gdKT_pf, ↓gdKT_nf, eq_true hg, hcv, took_at, ↓shr_ok, ↓and1_ok])))
          | (refine condKT_dec (fun hg => ?_) (fun hg => ?_) <;> (try (first | simp (maxSteps := 1000000) (implicitDefEqProofs := false) (disch := omega) only [go_sem, if_pos, if_neg, tw64, twu8, ↓condKT_pos, ↓condKT_neg, ↓gdKT_pt, ↓gdKT_nt, ↓gdKT_pf, ↓gdKT_nf, eq_false hg, hcv, took_at, ↓shr_ok, ↓and1_ok] | simp (maxSteps := 1000000) (implicitDefEqProofs := false) (disch := omega) only [go_sem, if_pos, if_neg, tw64, twu8, ↓condKT_pos, ↓condKT_neg, ↓gdKT_pt, ↓gdKT_nt, ↓gdKT_pf, ↓gdKT_nf, eq_true hg, hcv, took_at, ↓shr_ok, ↓and1_ok])))
          | (refine gdKT_split (fun hg => ?_) (fun hg => ?_) <;> (try simp (maxSteps := 1000000) (implicitDefEqProofs := false) (disch := omega) only [go_sem, if_pos, if_neg, tw64, twu8, ↓condKT_pos, ↓condKT_neg, ↓gdKT_pt, ↓gdKT_nt, ↓gdKT_pf, ↓gdKT_nf, hg, hcv, took_at, ↓shr_ok, ↓and1_ok]))
          | (refine condKT_split (fun hg => ?_) (fun hg => ?_) <;> (try simp (maxSteps := 1000000) (implicitDefEqProofs := false) (disch := omega) only [go_sem, if_pos, if_neg, tw64, twu8, ↓condKT_pos, ↓condKT_neg, ↓gdKT_pt, ↓gdKT_nt, ↓gdKT_pf, ↓gdKT_nf, hg, hcv, took_at, ↓shr_ok, ↓and1_ok]))
          | (refine endT_p (.inr rfl) (by simp (maxSteps := 1000000) (implicitDefEqProofs := false) (disch := omega) only [go_sem, if_pos, if_neg, tw64, twu8, ↓condKT_pos, ↓condKT_neg, ↓gdKT_pt, ↓gdKT_nt, ↓gdKT_pf, ↓gdKT_nf, hcv, took_at, ↓shr_ok, ↓and1_ok]; rfl) ?_; (first | exact vb_true (by omega) | exact vb_false (by omega) | exact vb_dec (by omega) | exact vi_eq (by omega) | rfl | (refine vi_eq ?_; simp_all; done) | (refine vi_eq ?_; simp_all; omega) | (refine vi_eq ?_; simp_all; intros; omega)))
          | exact endT_v (.inr rfl) (by simp (maxSteps := 1000000) (implicitDefEqProofs := false) (disch := omega) only [go_sem, if_pos, if_neg, tw64, twu8, ↓condKT_pos, ↓condKT_neg, ↓gdKT_pt, ↓gdKT_nt, ↓gdKT_pf, ↓gdKT_nf, hcv, took_at, ↓shr_ok, ↓and1_ok]; try rfl) (fun _ => rfl)
      · have hbad' : ¬ ((b / 2 ^ i) % 2 = 1 ∧ a - i < 1) := hbad
        simp (maxSteps := 1000000) (implicitDefEqProofs := false) (disch := omega) only [go_sem, if_pos, if_neg, tw64, twu8, ↓condKT_pos, ↓condKT_neg, ↓gdKT_pt, ↓gdKT_nt, ↓gdKT_pf, ↓gdKT_nf, hcv, took_at, ↓shr_ok, ↓and1_ok]
        repeat' first
          | (refine gdKT_dec (fun hg => ?_) (fun hg => ?_) <;> (try (first | simp (maxSteps := 1000000) (implicitDefEqProofs := false) (disch := omega) only [go_sem, if_pos, if_neg, tw64, twu8, ↓condKT_pos, ↓condKT_neg, ↓gdKT_pt, ↓gdKT_nt, ↓gdKT_pf, ↓gdKT_nf, eq_false hg, hcv, took_at, ↓shr_ok, ↓and1_ok] | simp (maxSteps := 1000000) (implicitDefEqProofs := false) (disch := omega) only [go_sem, if_pos, if_neg, tw64, twu8, ↓condKT_pos, ↓condKT_neg, ↓gdKT_pt, ↓gdKT_nt, ↓gdKT_pf, ↓gdKT_nf, eq_true hg, hcv, took_at, ↓shr_ok, ↓and1_ok])))
          | (refine condKT_dec (fun hg => ?_) (fun hg => ?_) <;> (try (first | simp (maxSteps := 1000000) (implicitDefEqProofs := false) (disch := omega) only [go_sem, if_pos, if_neg, tw64, twu8, ↓condKT_pos, ↓condKT_neg, ↓gdKT_pt, ↓gdKT_nt, ↓gdKT_pf, ↓gdKT_nf, eq_false hg, hcv, took_at, ↓shr_ok, ↓and1_ok] | simp (maxSteps := 1000000) (implicitDefEqProofs := false) (disch := omega) only [go_sem, if_pos, if_neg, tw64, twu8, ↓condKT_pos, ↓condKT_neg, ↓gdKT_pt, ↓gdKT_nt, ↓gdKT_pf, ↓gdKT_nf, eq_true hg, hcv, took_at, ↓shr_ok, ↓and1_ok])))
          | (refine gdKT_split (fun hg => ?_) (fun hg => ?_) <;> (try simp (maxSteps := 1000000) (implicitDefEqProofs := false) (disch := omega) only [go_sem, if_pos, if_neg, tw64, twu8, ↓condKT_pos, ↓condKT_neg, ↓gdKT_pt, ↓gdKT_nt, ↓gdKT_pf, ↓gdKT_nf, hg, hcv, took_at, ↓shr_ok, ↓and1_ok]))
          | (refine condKT_split (fun hg => ?_) (fun hg => ?_) <;> (try simp (maxSteps := 1000000) (implicitDefEqProofs := false) (disch := omega) only [go_sem, if_pos, if_neg, tw64, twu8, ↓condKT_pos, ↓condKT_neg, ↓gdKT_pt, ↓gdKT_nt, ↓gdKT_pf, ↓gdKT_nf, hg, hcv, took_at, ↓shr_ok, ↓and1_ok]))
          | (refine endT_p (.inr rfl) (by simp (maxSteps := 1000000) (implicitDefEqProofs := false) (disch := omega) only [go_sem, if_pos, if_neg, tw64, twu8, ↓condKT_pos, ↓condKT_neg, ↓gdKT_pt, ↓gdKT_nt, ↓gdKT_pf, ↓gdKT_nf, hcv, took_at, ↓shr_ok, ↓and1_ok]; rfl) ?_; (first | exact vb_true (by omega) | exact vb_false (by omega) | exact vb_dec (by omega) | exact vi_eq (by omega) | rfl | (refine vi_eq ?_; simp_all; done) | (refine vi_eq ?_; simp_all; omega) | (refine vi_eq ?_; simp_all; intros; omega)))
          | exact endT_v (.inr rfl) (by simp (maxSteps := 1000000) (implicitDefEqProofs := false) (disch := omega) only [go_sem, if_pos, if_neg, tw64, twu8, ↓condKT_pos, ↓condKT_neg, ↓gdKT_pt, ↓gdKT_nt, ↓gdKT_pf, ↓gdKT_nf, hcv, took_at, ↓shr_ok, ↓and1_ok]; try rfl) (fun _ => rfl)
        all_goals
          refine loopKT_next (i + 1) ⟨by omega, fun j hj => ?_⟩ (by omega) ?_
          · by_cases e : j = i
            · subst e; exact hbad
            · exact hnb j (by omega)
          · exact (le_of [0] (by simp (maxSteps := 1000000) (implicitDefEqProofs := false) (disch := omega) only [go_sem, if_pos, if_neg, tw64, twu8, ↓condKT_pos, ↓condKT_neg, ↓gdKT_pt, ↓gdKT_nt, ↓gdKT_pf, ↓gdKT_nf]) (by simp (maxSteps := 1000000) (implicitDefEqProofs := false) (disch := omega) only [go_sem, if_pos, if_neg, tw64, twu8, ↓condKT_pos, ↓condKT_neg, ↓gdKT_pt, ↓gdKT_nt, ↓gdKT_pf, ↓gdKT_nf]) (by decide) (by simp))
    · rw [winF_3 hr hk (fun j hj => hnb j (by omega))]
      simp (maxSteps := 1000000) (implicitDefEqProofs := false) (disch := omega) only [go_sem, if_pos, if_neg, tw64, twu8, ↓condKT_pos, ↓condKT_neg, ↓gdKT_pt, ↓gdKT_nt, ↓gdKT_pf, ↓gdKT_nf]
      refine joinK_here ?_
      simp (maxSteps := 1000000) (implicitDefEqProofs := false) (disch := omega) only [go_sem, if_pos, if_neg, tw64, twu8, ↓condKT_pos, ↓condKT_neg, ↓gdKT_pt, ↓gdKT_nt, ↓gdKT_pf, ↓gdKT_nf]
      repeat' first
        | (refine gdKT_dec (fun hg => ?_) (fun hg => ?_) <;> (try (first | simp (maxSteps := 1000000) (implicitDefEqProofs := false) (disch := omega) only [go_sem, if_pos, if_neg, tw64, twu8, ↓condKT_pos, ↓condKT_neg, ↓gdKT_pt, ↓gdKT_nt, ↓gdKT_pf, ↓gdKT_nf, eq_false hg] | simp (maxSteps := 1000000) (implicitDefEqProofs := false) (disch := omega) only [go_sem, if_pos, if_neg, tw64, twu8, ↓condKT_pos, ↓condKT_neg, ↓gdKT_pt, ↓gdKT_nt, ↓gdKT_pf, ↓gdKT_nf, eq_true hg])))
        | (refine condKT_dec (fun hg => ?_) (fun hg => ?_) <;> (try (first | simp (maxSteps := 1000000) (implicitDefEqProofs := false) (disch := omega) only [go_sem, if_pos, if_neg, tw64, twu8, ↓condKT_pos, ↓condKT_neg, ↓gdKT_pt, ↓gdKT_nt, ↓gdKT_pf, ↓gdKT_nf, eq_false hg] | simp (maxSteps := 1000000) (implicitDefEqProofs := false) (disch := omega) only [go_sem, if_pos, if_neg, tw64, twu8, ↓condKT_pos, ↓condKT_neg, ↓gdKT_pt, ↓gdKT_nt, ↓gdKT_pf, ↓gdKT_nf, eq_true hg])))
        | (refine gdKT_split (fun hg => ?_) (fun hg => ?_) <;> (try simp (maxSteps := 1000000) (implicitDefEqProofs := false) (disch := omega) only [go_sem, if_pos, if_neg, tw64, twu8, ↓condKT_pos, ↓condKT_neg, ↓gdKT_pt, ↓gdKT_nt, ↓gdKT_pf, ↓gdKT_nf, hg]))
        | (refine condKT_split (fun hg => ?_) (fun hg => ?_) <;> (try simp (maxSteps := 1000000) (implicitDefEqProofs := false) (disch := omega) only [go_sem, if_pos, if_neg, tw64, twu8, ↓condKT_pos, ↓condKT_neg, ↓gdKT_pt, ↓gdKT_nt, ↓gdKT_pf, ↓gdKT_nf, hg]))
        | (refine endT_p (.inr rfl) (by simp (maxSteps := 1000000) (implicitDefEqProofs := false) (disch := omega) only [go_sem, if_pos, if_neg, tw64, twu8, ↓condKT_pos, ↓condKT_neg, ↓gdKT_pt, ↓gdKT_nt, ↓gdKT_pf, ↓gdKT_nf]; rfl) ?_; (first | exact vb_true (by omega) | exact vb_false (by omega) | exact vb_dec (by omega) | exact vi_eq (by omega) | rfl | (refine vi_eq ?_; simp_all; done) | (refine vi_eq ?_; simp_all; omega) | (refine vi_eq ?_; simp_all; intros; omega)))
        | exact endT_v (.inr rfl) (by simp (maxSteps := 1000000) (implicitDefEqProofs := false) (disch := omega) only [go_sem, if_pos, if_neg, tw64, twu8, ↓condKT_pos, ↓condKT_neg, ↓gdKT_pt, ↓gdKT_nt, ↓gdKT_pf, ↓gdKT_nf]; try rfl) (fun _ => rfl)
-- impl.WindowFault
def c84 : AF := ⟨46,
  (.seq (.reg [⟨(some 1), none, .box 29 (.t 0)⟩,
   ⟨(some 2), none, .mv (.v (.int .i64 0))⟩])
  (.seq (.seq (.reg [⟨(some 4), none, .fa (.t 1) 0⟩,
   ⟨(some 5), none, .ld (.t 4)⟩,
   ⟨(some 6), none, .call 82 [(.t 5), (.v (.int .i64 0)), (.v (.int .i64 1099511627776))]⟩,
   ⟨(some 7), none, .un .not (.t 6)⟩,
   ⟨(some 8), none, .mv (.t 7)⟩,
   ⟨(some 9), (some (8, false)), .fa (.t 1) 1⟩,
   ⟨(some 10), (some (8, false)), .ld (.t 9)⟩,
   ⟨(some 11), (some (8, false)), .call 82 [(.t 10), (.v (.int .i64 0)), (.v (.int .i64 4294967295))]⟩,
   ⟨(some 12), (some (8, false)), .un .not (.t 11)⟩,
   ⟨(some 13), none, .pick (.t 8) (.v (.bool true)) (.t 12)⟩])
  (.cond (.t 13) (.seq (.reg [⟨(some 2), none, .mv (.v (.int .i64 3))⟩])
  .ret)
  .skip))
  (.seq (.seq (.reg [⟨(some 14), none, .fa (.t 1) 0⟩,
   ⟨(some 15), none, .ld (.t 14)⟩,
   ⟨(some 16), none, .bin .eql (.t 15) (.v (.int .i64 0))⟩,
   ⟨(some 17), none, .mv (.t 16)⟩,
   ⟨(some 18), (some (17, true)), .fa (.t 1) 1⟩,
   ⟨(some 19), (some (17, true)), .ld (.t 18)⟩,
   ⟨(some 20), (some (17, true)), .bin .neq (.t 19) (.v (.int .i64 0))⟩,
   ⟨(some 21), none, .pick (.t 17) (.t 20) (.v (.bool false))⟩,
   ⟨(some 22), none, .mv (.t 21)⟩,
   ⟨(some 23), (some (22, false)), .fa (.t 1) 0⟩,
   ⟨(some 24), (some (22, false)), .ld (.t 23)⟩,
   ⟨(some 25), (some (22, false)), .bin .gtr (.t 24) (.v (.int .i64 0))⟩,
   ⟨(some 26), (some (22, false)), .mv (.t 25)⟩,
   ⟨(some 27), (some (26, true)), .ldn 2 (.t 1)⟩,
   ⟨(some 28), (some (26, true)), .call 145 [(.t 27), (.v (.int .i64 0))]⟩,
   ⟨(some 29), (some (26, true)), .un .not (.t 28)⟩,
   ⟨(some 30), (some (22, false)), .pick (.t 26) (.t 29) (.v (.bool false))⟩,
   ⟨(some 31), none, .pick (.t 22) (.v (.bool true)) (.t 30)⟩])
  (.cond (.t 31) (.seq (.reg [⟨(some 2), none, .mv (.v (.int .i64 1))⟩])
  .ret)
  .skip))
  (.seq (.seq (.reg [⟨(some 32), none, .mv (.v (.int .i64 0))⟩])
  (.block 0 (.loop (.seq (.reg [⟨(some 33), none, .bin .lss (.t 32) (.v (.int .i64 32))⟩])
  (.seq (.cond (.t 33) .skip
  (.exit 0))
  (.seq (.block 1 (.seq (.reg [⟨(some 34), none, .mv (.t 32)⟩,
   ⟨(some 3), none, .mv (.t 34)⟩])
  (.seq (.reg [⟨(some 35), none, .ldn 2 (.t 1)⟩,
   ⟨(some 36), none, .mv (.t 3)⟩,
   ⟨(some 37), none, .call 145 [(.t 35), (.t 36)]⟩,
   ⟨(some 38), none, .mv (.t 37)⟩,
   ⟨(some 39), (some (38, true)), .fa (.t 1) 0⟩,
   ⟨(some 40), (some (38, true)), .ld (.t 39)⟩,
   ⟨(some 41), (some (38, true)), .mv (.t 3)⟩,
   ⟨(some 42), (some (38, true)), .bin .sub (.t 40) (.t 41)⟩,
   ⟨(some 43), (some (38, true)), .bin .lss (.t 42) (.v (.int .i64 1))⟩,
   ⟨(some 44), none, .pick (.t 38) (.t 43) (.v (.bool false))⟩])
  (.cond (.t 44) (.seq (.reg [⟨(some 2), none, .mv (.v (.int .i64 1))⟩])
  .ret)
  .skip))))
  (.reg [⟨(some 45), none, .bin .add (.t 32) (.v (.int .i64 1))⟩,
   ⟨(some 32), none, .mv (.t 45)⟩])))))))
  (.seq (.reg [⟨(some 2), none, .mv (.v (.int .i64 0))⟩])
  .ret))))),
  [.t 2]⟩
theorem k84 : cFn Try.prog Try.f84 = some c84 := by kernel_rfl
theorem winFI_ok : OkT Try.prog 84 (pureSp winF_S) := by
  refine okT_fn (OkΓT.cons in_ok (OkΓT.cons took_ok (OkΓT.nil _))) Try.func84 (by kernel_rfl) k84 (fun x _ => ⟨rfl, rfl⟩) ?_
  rintro ⟨a, b⟩ _
  dsimp only [wnT]
  by_cases hr : 0 ≤ a ∧ a ≤ 1099511627776 ∧ 0 ≤ b ∧ b ≤ 4294967295
  case neg =>
    rw [winF_4 hr]
    (dsimp only [c84]; simp (maxSteps := 1000000) (implicitDefEqProofs := false) (disch := omega) only [go_sem, if_pos, if_neg, tw64, twu8, ↓condKT_pos, ↓condKT_neg, ↓gdKT_pt, ↓gdKT_nt, ↓gdKT_pf, ↓gdKT_nf, in_at, took_at, ↓shr_ok, ↓and1_ok])
    repeat' first
      | (refine gdKT_dec (fun hg => ?_) (fun hg => ?_) <;> (try (first | simp (maxSteps := 1000000) (implicitDefEqProofs := false) (disch := omega) only [go_sem, if_pos, if_neg, tw64, twu8, ↓condKT_pos, ↓condKT_neg, ↓gdKT_pt, ↓gdKT_nt, ↓gdKT_pf, ↓gdKT_nf, eq_false hg, in_at, took_at, ↓shr_ok, ↓and1_ok] | simp (maxSteps := 1000000) (implicitDefEqProofs := false) (disch := omega) only [go_sem, if_pos, if_neg, tw64, twu8, ↓condKT_pos, ↓condKT_neg, ↓gdKT_pt, ↓gdKT_nt, ↓gdKT_pf, ↓gdKT_nf, eq_true hg, in_at, took_at, ↓shr_ok, ↓and1_ok])))
      | (refine condKT_dec (fun hg => ?_) (fun hg => ?_) <;> (try (first | simp (maxSteps := 1000000) (implicitDefEqProofs := false) (disch := omega) only [go_sem, if_pos, if_neg, tw64, twu8, ↓condKT_pos, ↓condKT_neg, ↓gdKT_pt, ↓gdKT_nt, ↓gdKT_pf, ↓gdKT_nf, eq_false hg, in_at, took_at, ↓shr_ok, ↓and1_ok] | simp (maxSteps := 1000000) (implicitDefEqProofs := false) (disch := omega) only [go_sem, if_pos, if_neg, tw64, twu8, ↓condKT_pos, ↓condKT_neg, ↓gdKT_pt, ↓gdKT_nt, ↓gdKT_pf, ↓gdKT_nf, eq_true hg, in_at, took_at, ↓shr_ok, ↓and1_ok])))
      | (refine gdKT_split (fun hg => ?_) (fun hg => ?_) <;> (try simp (maxSteps := 1000000) (implicitDefEqProofs := false) (disch := omega) only [go_sem, if_pos, if_neg, tw64, twu8, ↓condKT_pos, ↓condKT_neg, ↓gdKT_pt, ↓gdKT_nt, ↓gdKT_pf, ↓gdKT_nf, hg, in_at, took_at, ↓shr_ok, ↓and1_ok]))
      | (refine condKT_split (fun hg => ?_) (fun hg => ?_) <;> (try simp (maxSteps := 1000000) (implicitDefEqProofs := false) (disch := omega) only [go_sem, if_pos, if_neg, tw64, twu8, ↓condKT_pos, ↓condKT_neg, ↓gdKT_pt, ↓gdKT_nt, ↓gdKT_pf, ↓gdKT_nf, hg, in_at, took_at, ↓shr_ok, ↓and1_ok]))
      | (refine endT_p (.inr rfl) (by simp (maxSteps := 1000000) (implicitDefEqProofs := false) (disch := omega) only [go_sem, if_pos, if_neg, tw64, twu8, ↓condKT_pos, ↓condKT_neg, ↓gdKT_pt, ↓gdKT_nt, ↓gdKT_pf, ↓gdKT_nf, in_at, took_at, ↓shr_ok, ↓and1_ok]; rfl) ?_; (first | exact vb_true (by omega) | exact vb_false (by omega) | exact vb_dec (by omega) | exact vi_eq (by omega) | rfl | (refine vi_eq ?_; simp_all; done) | (refine vi_eq ?_; simp_all; omega) | (refine vi_eq ?_; simp_all; intros; omega)))
      | exact endT_v (.inr rfl) (by simp (maxSteps := 1000000) (implicitDefEqProofs := false) (disch := omega) only [go_sem, if_pos, if_neg, tw64, twu8, ↓condKT_pos, ↓condKT_neg, ↓gdKT_pt, ↓gdKT_nt, ↓gdKT_pf, ↓gdKT_nf, in_at, took_at, ↓shr_ok, ↓and1_ok]; try rfl) (fun _ => rfl)
  by_cases hk : (a = 0 ∧ b ≠ 0) ∨ (0 < a ∧ b % 2 = 0)
  · rw [winF_1 hr hk]
    (dsimp only [c84]; simp (maxSteps := 1000000) (implicitDefEqProofs := false) (disch := omega) only [go_sem, if_pos, if_neg, tw64, twu8, ↓condKT_pos, ↓condKT_neg, ↓gdKT_pt, ↓gdKT_nt, ↓gdKT_pf, ↓gdKT_nf, in_at, took_at, ↓shr_ok, ↓and1_ok, Int.pow_zero, Int.ediv_one, Int.toNat_zero])
    repeat' first
      | (refine gdKT_dec (fun hg => ?_) (fun hg => ?_) <;> (try (first | simp (maxSteps := 1000000) (implicitDefEqProofs := false) (disch := omega) only [go_sem, if_pos, if_neg, tw64, twu8, ↓condKT_pos, ↓condKT_neg, ↓gdKT_pt, ↓gdKT_nt, ↓gdKT_pf, ↓gdKT_nf, eq_false hg, in_at, took_at, ↓shr_ok, ↓and1_ok, Int.pow_zero, Int.ediv_one, Int.toNat_zero] | simp (maxSteps := 1000000) (implicitDefEqProofs := false) (disch := omega) only [go_sem, if_pos, if_neg, tw64, twu8, ↓condKT_pos, ↓condKT_neg, ↓gdKT_pt, ↓gdKT_nt, ↓gdKT_pf, ↓gdKT_nf, eq_true hg, in_at, took_at, ↓shr_ok, ↓and1_ok, Int.pow_zero, Int.ediv_one, Int.toNat_zero])))
      | (refine condKT_dec (fun hg => ?_) (fun hg => ?_) <;> (try (first | simp (maxSteps := 1000000) (implicitDefEqProofs := false) (disch := omega) only [go_sem, if_pos, if_neg, tw64, twu8, ↓condKT_pos, ↓condKT_neg, ↓gdKT_pt, ↓gdKT_nt, ↓gdKT_pf, ↓gdKT_nf, eq_false hg, in_at, took_at, ↓shr_ok, ↓and1_ok, Int.pow_zero, Int.ediv_one, Int.toNat_zero] | simp (maxSteps := 1000000) (implicitDefEqProofs := false) (disch := omega) only [go_sem, if_pos, if_neg, tw64, twu8, ↓condKT_pos, ↓condKT_neg, ↓gdKT_pt, ↓gdKT_nt, ↓gdKT_pf, ↓gdKT_nf, eq_true hg, in_at, took_at, ↓shr_ok, ↓and1_ok, Int.pow_zero, Int.ediv_one, Int.toNat_zero])))
      | (refine gdKT_split (fun hg => ?_) (fun hg => ?_) <;> (try simp (maxSteps := 1000000) (implicitDefEqProofs := false) (disch := omega) only [go_sem, if_pos, if_neg, tw64, twu8, ↓condKT_pos, ↓condKT_neg, ↓gdKT_pt, ↓gdKT_nt, ↓gdKT_pf, ↓gdKT_nf, hg, in_at, took_at, ↓shr_ok, ↓and1_ok, Int.pow_zero, Int.ediv_one, Int.toNat_zero]))
      | (refine condKT_split (fun hg => ?_) (fun hg => ?_) <;> (try simp (maxSteps := 1000000) (implicitDefEqProofs := false) (disch := omega) only [go_sem, if_pos, if_neg, tw64, twu8, ↓condKT_pos, ↓condKT_neg, ↓gdKT_pt, ↓gdKT_nt, ↓gdKT_pf, ↓gdKT_nf, hg, in_at, took_at, ↓shr_ok, ↓and1_ok, Int.pow_zero, Int.ediv_one, Int.toNat_zero]))
      | (refine endT_p (.inr rfl) (by simp (maxSteps := 1000000) (implicitDefEqProofs := false) (disch := omega) only [go_sem, if_pos, if_neg, tw64, twu8, ↓condKT_pos, ↓condKT_neg, ↓gdKT_pt, ↓gdKT_nt, ↓gdKT_pf, ↓gdKT_nf, in_at, took_at, ↓shr_ok, ↓and1_ok, Int.pow_zero, Int.ediv_one, Int.toNat_zero]; rfl) ?_; (first | exact vb_true (by omega) | exact vb_false (by omega) | exact vb_dec (by omega) | exact vi_eq (by omega) | rfl | (refine vi_eq ?_; simp_all; done) | (refine vi_eq ?_; simp_all; omega) | (refine vi_eq ?_; simp_all; intros; omega)))
      | exact endT_v (.inr rfl) (by simp (maxSteps := 1000000) (implicitDefEqProofs := false) (disch := omega) only [go_sem, if_pos, if_neg, tw64, twu8, ↓condKT_pos, ↓condKT_neg, ↓gdKT_pt, ↓gdKT_nt, ↓gdKT_pf, ↓gdKT_nf, in_at, took_at, ↓shr_ok, ↓and1_ok, Int.pow_zero, Int.ediv_one, Int.toNat_zero]; try rfl) (fun _ => rfl)
  have hbits := fun k => bit_bd hr.2.2 k
  (dsimp only [c84]; simp (maxSteps := 1000000) (implicitDefEqProofs := false) (disch := omega) only [go_sem, if_pos, if_neg, tw64, twu8, ↓condKT_pos, ↓condKT_neg, ↓gdKT_pt, ↓gdKT_nt, ↓gdKT_pf, ↓gdKT_nf, in_at, took_at, ↓shr_ok, ↓and1_ok, Int.pow_zero, Int.ediv_one, Int.toNat_zero])
  repeat' first
    | (refine gdKT_dec (fun hg => ?_) (fun hg => ?_) <;> (try (first | simp (maxSteps := 1000000) (implicitDefEqProofs := false) (disch := omega) only [go_sem, if_pos, if_neg, tw64, twu8, ↓condKT_pos, ↓condKT_neg, ↓gdKT_pt, ↓gdKT_nt, ↓gdKT_pf, ↓gdKT_nf, eq_false hg, in_at, took_at, ↓shr_ok, ↓and1_ok, Int.pow_zero, Int.ediv_one, Int.toNat_zero] | simp (maxSteps := 1000000) (implicitDefEqProofs := false) (disch := omega) only [go_sem, if_pos, if_neg, tw64, twu8, ↓condKT_pos, ↓condKT_neg, ↓gdKT_pt, ↓gdKT_nt, ↓gdKT_pf, ↓gdKT_nf, eq_true hg, in_at, took_at, ↓shr_ok, ↓and1_ok, Int.pow_zero, Int.ediv_one, Int.toNat_zero])))
    | (refine condKT_dec (fun hg => ?_) (fun hg => ?_) <;> (try (first | simp (maxSteps := 1000000) (implicitDefEqProofs := false) (disch := omega) only [go_sem, if_pos, if_neg, tw64, twu8, ↓condKT_pos, ↓condKT_neg, ↓gdKT_pt, ↓gdKT_nt, ↓gdKT_pf, ↓gdKT_nf, eq_false hg, in_at, took_at, ↓shr_ok, ↓and1_ok, Int.pow_zero, Int.ediv_one, Int.toNat_zero] | simp (maxSteps := 1000000) (implicitDefEqProofs := false) (disch := omega) only [go_sem, if_pos, if_neg, tw64, twu8, ↓condKT_pos, ↓condKT_neg, ↓gdKT_pt, ↓gdKT_nt, ↓gdKT_pf, ↓gdKT_nf, eq_true hg, in_at, took_at, ↓shr_ok, ↓and1_ok, Int.pow_zero, Int.ediv_one, Int.toNat_zero])))
    | (refine gdKT_split (fun hg => ?_) (fun hg => ?_) <;> (try simp (maxSteps := 1000000) (implicitDefEqProofs := false) (disch := omega) only [go_sem, if_pos, if_neg, tw64, twu8, ↓condKT_pos, ↓condKT_neg, ↓gdKT_pt, ↓gdKT_nt, ↓gdKT_pf, ↓gdKT_nf, hg, in_at, took_at, ↓shr_ok, ↓and1_ok, Int.pow_zero, Int.ediv_one, Int.toNat_zero]))
    | (refine condKT_split (fun hg => ?_) (fun hg => ?_) <;> (try simp (maxSteps := 1000000) (implicitDefEqProofs := false) (disch := omega) only [go_sem, if_pos, if_neg, tw64, twu8, ↓condKT_pos, ↓condKT_neg, ↓gdKT_pt, ↓gdKT_nt, ↓gdKT_pf, ↓gdKT_nf, hg, in_at, took_at, ↓shr_ok, ↓and1_ok, Int.pow_zero, Int.ediv_one, Int.toNat_zero]))
    | (refine endT_p (.inr rfl) (by simp (maxSteps := 1000000) (implicitDefEqProofs := false) (disch := omega) only [go_sem, if_pos, if_neg, tw64, twu8, ↓condKT_pos, ↓condKT_neg, ↓gdKT_pt, ↓gdKT_nt, ↓gdKT_pf, ↓gdKT_nf, in_at, took_at, ↓shr_ok, ↓and1_ok, Int.pow_zero, Int.ediv_one, Int.toNat_zero]; rfl) ?_; (first | exact vb_true (by omega) | exact vb_false (by omega) | exact vb_dec (by omega) | exact vi_eq (by omega) | rfl | (refine vi_eq ?_; simp_all; done) | (refine vi_eq ?_; simp_all; omega) | (refine vi_eq ?_; simp_all; intros; omega)))
    | exact endT_v (.inr rfl) (by simp (maxSteps := 1000000) (implicitDefEqProofs := false) (disch := omega) only [go_sem, if_pos, if_neg, tw64, twu8, ↓condKT_pos, ↓condKT_neg, ↓gdKT_pt, ↓gdKT_nt, ↓gdKT_pf, ↓gdKT_nf, in_at, took_at, ↓shr_ok, ↓and1_ok, Int.pow_zero, Int.ediv_one, Int.toNat_zero]; try rfl) (fun _ => rfl)
  all_goals
    refine awpT_loop (α := Nat) (fun i => ⟨slots [(1, .op 0 0 0), (32, .p (.int .i64 i))], [.cells 29 2 [.agg [.p (.int .i64 a), .p (.int .i64 b)]]]⟩)
      (fun i => i ≤ 32 ∧ ∀ j, j < i → ¬ winBad a b j) (fun i => 32 - i) 0 ⟨by omega, fun j hj => absurd hj (by omega)⟩ (le_of [0] (by simp (maxSteps := 1000000) (implicitDefEqProofs := false) (disch := omega) only [go_sem, if_pos, if_neg, tw64, twu8, ↓condKT_pos, ↓condKT_neg, ↓gdKT_pt, ↓gdKT_nt, ↓gdKT_pf, ↓gdKT_nf]) (by simp (maxSteps := 1000000) (implicitDefEqProofs := false) (disch := omega) only [go_sem, if_pos, if_neg, tw64, twu8, ↓condKT_pos, ↓condKT_neg, ↓gdKT_pt, ↓gdKT_nt, ↓gdKT_pf, ↓gdKT_nf]) (by decide) (by simp)) ?_
    intro i ⟨hi, hnb⟩
    have hq := hbits i
    simp (maxSteps := 1000000) (implicitDefEqProofs := false) (disch := omega) only [go_sem, if_pos, if_neg, tw64, twu8, ↓condKT_pos, ↓condKT_neg, ↓gdKT_pt, ↓gdKT_nt, ↓gdKT_pf, ↓gdKT_nf]
    refine condKT_dec (fun hlt => ?_) (fun hge => ?_)
    · have hcv : IntKind.u64.wrap (i : Int) = i := by simp [IntKind.wrap, IntKind.min, IntKind.max, IntKind.bits, IntKind.signed]; omega
      by_cases hbad : winBad a b i
      · rw [winF_2 hr hk i (by omega) hbad]
        obtain ⟨g1, g2⟩ := hbad
        simp (maxSteps := 1000000) (implicitDefEqProofs := false) (disch := omega) only [go_sem, if_pos, if_neg, tw64, twu8, ↓condKT_pos, ↓condKT_neg, ↓gdKT_pt, ↓gdKT_nt, ↓gdKT_pf, ↓gdKT_nf, hcv, took_at, ↓shr_ok, ↓and1_ok]
        repeat' first
          | (refine gdKT_dec (fun hg => ?_) (fun hg => ?_) <;> (try (first | simp (maxSteps := 1000000) (implicitDefEqProofs := false) (disch := omega) only [go_sem, if_pos, if_neg, tw64, twu8, ↓condKT_pos, ↓condKT_neg, ↓gdKT_pt, ↓gdKT_nt, ↓gdKT_pf, ↓gdKT_nf, eq_false hg, hcv, took_at, ↓shr_ok, ↓and1_ok] | simp (maxSteps := 1000000) (implicitDefEqProofs := false) (disch := omega) only [go_sem, if_pos, if_neg, tw64, twu8, ↓condKT_pos, ↓condKT_neg, ↓gdKT_pt, ↓gdKT_nt, ↓gdKT_pf, ↓gdKT_nf, eq_true hg, hcv, took_at, ↓shr_ok, ↓and1_ok])))
          | (refine condKT_dec (fun hg => ?_) (fun hg => ?_) <;> (try (first | simp (maxSteps := 1000000) (implicitDefEqProofs := false) (disch := omega) only [go_sem, if_pos, if_neg, tw64, twu8, ↓condKT_pos, ↓condKT_neg, ↓gdKT_pt, ↓gdKT_nt, ↓gdKT_pf, ↓gdKT_nf, eq_false hg, hcv, took_at, ↓shr_ok, ↓and1_ok] | simp (maxSteps := 1000000) (implicitDefEqProofs := false) (disch := omega) only [go_sem, if_pos, if_neg, tw64, twu8, ↓condKT_pos, ↓condKT_neg, ↓gdKT_pt, ↓gdKT_nt, ↓gdKT_pf, ↓gdKT_nf, eq_true hg, hcv, took_at, ↓shr_ok, ↓and1_ok])))
          | (refine gdKT_split (fun hg => ?_) (fun hg => ?_) <;> (try simp (maxSteps := 1000000) (implicitDefEqProofs := false) (disch := omega) only [go_sem, if_pos, if_neg, tw64, twu8, ↓condKT_pos, ↓condKT_neg, ↓gdKT_pt, ↓gdKT_nt, ↓gdKT_pf, ↓gdKT_nf, hg, hcv, took_at, ↓shr_ok, ↓and1_ok]))
          | (refine condKT_split (fun hg => ?_) (fun hg => ?_) <;> (try simp (maxSteps := 1000000) (implicitDefEqProofs := false) (disch := omega) only [go_sem, if_pos, if_neg, tw64, twu8, ↓condKT_pos, ↓condKT_neg, ↓gdKT_pt, ↓gdKT_nt, ↓gdKT_pf, ↓gdKT_nf, hg, hcv, took_at, ↓shr_ok, ↓and1_ok]))
          | (refine endT_p (.inr rfl) (by simp (maxSteps := 1000000) (implicitDefEqProofs := false) (disch := omega) only [go_sem, if_pos, if_neg, tw64, twu8, ↓condKT_pos, ↓condKT_neg, ↓gdKT_pt, ↓gdKT_nt, ↓gdKT_pf, ↓gdKT_nf, hcv, took_at, ↓shr_ok, ↓and1_ok]; rfl) ?_; (first | exact vb_true (by omega) | exact vb_false (by omega) | exact vb_dec (by omega) | exact vi_eq (by omega) | rfl | (refine vi_eq ?_; simp_all; done) | (refine vi_eq ?_; simp_all; omega) | (refine vi_eq ?_; simp_all; intros; omega)))
          | exact endT_v (.inr rfl) (by simp (maxSteps := 1000000) (implicitDefEqProofs := false) (disch := omega) only [go_sem, if_pos, if_neg, tw64, twu8, ↓condKT_pos, ↓condKT_neg, ↓gdKT_pt, ↓gdKT_nt, ↓gdKT_pf, ↓gdKT_nf, hcv, took_at, ↓shr_ok, ↓and1_ok]; try rfl) (fun _ => rfl)
      · have hbad' : ¬ ((b / 2 ^ i) % 2 = 1 ∧ a - i < 1) := hbad
        simp (maxSteps := 1000000) (implicitDefEqProofs := false) (disch := omega) only [go_sem, if_pos, if_neg, tw64, twu8, ↓condKT_pos, ↓condKT_neg, ↓gdKT_pt, ↓gdKT_nt, ↓gdKT_pf, ↓gdKT_nf, hcv, took_at, ↓shr_ok, ↓and1_ok]
        repeat' first
          | (refine gdKT_dec (fun hg => ?_) (fun hg => ?_) <;> (try (first | simp (maxSteps := 1000000) (implicitDefEqProofs := false) (disch := omega) only [go_sem, if_pos, if_neg, tw64, twu8, ↓condKT_pos, ↓condKT_neg, ↓gdKT_pt, ↓gdKT_nt, ↓gdKT_pf, ↓gdKT_nf, eq_false hg, hcv, took_at, ↓shr_ok, ↓and1_ok] | simp (maxSteps := 1000000) (implicitDefEqProofs := false) (disch := omega) only [go_sem, if_pos, if_neg, tw64, twu8, ↓condKT_pos, ↓condKT_neg, ↓gdKT_pt, ↓gdKT_nt, ↓gdKT_pf, ↓gdKT_nf, eq_true hg, hcv, took_at, ↓shr_ok, ↓and1_ok])))
          | (refine condKT_dec (fun hg => ?_) (fun hg => ?_) <;> (try (first | simp (maxSteps := 1000000) (implicitDefEqProofs := false) (disch := omega) only [go_sem, if_pos, if_neg, tw64, twu8, ↓condKT_pos, ↓condKT_neg, ↓gdKT_pt, ↓gdKT_nt, ↓gdKT_pf, ↓gdKT_nf, eq_false hg, hcv, took_at, ↓shr_ok, ↓and1_ok] | simp (maxSteps := 1000000) (implicitDefEqProofs := false) (disch := omega) only [go_sem, if_pos, if_neg, tw64, twu8, ↓condKT_pos, ↓condKT_neg, ↓gdKT_pt, ↓gdKT_nt, ↓gdKT_pf, ↓gdKT_nf, eq_true hg, hcv, took_at, ↓shr_ok, ↓and1_ok])))
          | (refine gdKT_split (fun hg => ?_) (fun hg => ?_) <;> (try simp (maxSteps := 1000000) (implicitDefEqProofs := false) (disch := omega) only [go_sem, if_pos, if_neg, tw64, twu8, ↓condKT_pos, ↓condKT_neg, ↓gdKT_pt, ↓gdKT_nt, ↓gdKT_pf, ↓gdKT_nf, hg, hcv, took_at, ↓shr_ok, ↓and1_ok]))
          | (refine condKT_split (fun hg => ?_) (fun hg => ?_) <;> (try simp (maxSteps := 1000000) (implicitDefEqProofs := false) (disch := omega) only [go_sem, if_pos, if_neg, tw64, twu8, ↓condKT_pos, ↓condKT_neg, ↓gdKT_pt, ↓gdKT_nt, ↓gdKT_pf, ↓gdKT_nf, hg, hcv, took_at, ↓shr_ok, ↓and1_ok]))
          | (refine endT_p (.inr rfl) (by simp (maxSteps := 1000000) (implicitDefEqProofs := false) (disch := omega) only [go_sem, if_pos, if_neg, tw64, twu8, ↓condKT_pos, ↓condKT_neg, ↓gdKT_pt, ↓gdKT_nt, ↓gdKT_pf, ↓gdKT_nf, hcv, took_at, ↓shr_ok, ↓and1_ok]; rfl) ?_; (first | exact vb_true (by omega) | exact vb_false (by omega) | exact vb_dec (by omega) | exact vi_eq (by omega) | rfl | (refine vi_eq ?_; simp_all; done) | (refine vi_eq ?_; simp_all; omega) | (refine vi_eq ?_; simp_all; intros; omega)))
          | exact endT_v (.inr rfl) (by simp (maxSteps := 1000000) (implicitDefEqProofs := false) (disch := omega) only [go_sem, if_pos, if_neg, tw64, twu8, ↓condKT_pos, ↓condKT_neg, ↓gdKT_pt, ↓gdKT_nt, ↓gdKT_pf, ↓gdKT_nf, hcv, took_at, ↓shr_ok, ↓and1_ok]; try rfl) (fun _ => rfl)
        all_goals
          refine loopKT_next (i + 1) ⟨by omega, fun j hj => ?_⟩ (by omega) ?_
          · by_cases e : j = i
            · subst e; exact hbad
            · exact hnb j (by omega)
          · exact (le_of [0] (by simp (maxSteps := 1000000) (implicitDefEqProofs := false) (disch := omega) only [go_sem, if_pos, if_neg, tw64, twu8, ↓condKT_pos, ↓condKT_neg, ↓gdKT_pt, ↓gdKT_nt, ↓gdKT_pf, ↓gdKT_nf]) (by simp (maxSteps := 1000000) (implicitDefEqProofs := false) (disch := omega) only [go_sem, if_pos, if_neg, tw64, twu8, ↓condKT_pos, ↓condKT_neg, ↓gdKT_pt, ↓gdKT_nt, ↓gdKT_pf, ↓gdKT_nf]) (by decide) (by simp))
    · rw [winF_3 hr hk (fun j hj => hnb j (by omega))]
      simp (maxSteps := 1000000) (implicitDefEqProofs := false) (disch := omega) only [go_sem, if_pos, if_neg, tw64, twu8, ↓condKT_pos, ↓condKT_neg, ↓gdKT_pt, ↓gdKT_nt, ↓gdKT_pf, ↓gdKT_nf]
      refine joinK_here ?_
      simp (maxSteps := 1000000) (implicitDefEqProofs := false) (disch := omega) only [go_sem, if_pos, if_neg, tw64, twu8, ↓condKT_pos, ↓condKT_neg, ↓gdKT_pt, ↓gdKT_nt, ↓gdKT_pf, ↓gdKT_nf]
      repeat' first
        | (refine gdKT_dec (fun hg => ?_) (fun hg => ?_) <;> (try (first | simp (maxSteps := 1000000) (implicitDefEqProofs := false) (disch := omega) only [go_sem, if_pos, if_neg, tw64, twu8, ↓condKT_pos, ↓condKT_neg, ↓gdKT_pt, ↓gdKT_nt, ↓gdKT_pf, ↓gdKT_nf, eq_false hg] | simp (maxSteps := 1000000) (implicitDefEqProofs := false) (disch := omega) only [go_sem, if_pos, if_neg, tw64, twu8, ↓condKT_pos, ↓condKT_neg, ↓gdKT_pt, ↓gdKT_nt, ↓gdKT_pf, ↓gdKT_nf, eq_true hg])))
        | (refine condKT_dec (fun hg => ?_) (fun hg => ?_) <;> (try (first | simp (maxSteps := 1000000) (implicitDefEqProofs := false) (disch := omega) only [go_sem, if_pos, if_neg, tw64, twu8, ↓condKT_pos, ↓condKT_neg, ↓gdKT_pt, ↓gdKT_nt, ↓gdKT_pf, ↓gdKT_nf, eq_false hg] | simp (maxSteps := 1000000) (implicitDefEqProofs := false) (disch := omega) only [go_sem, if_pos, if_neg, tw64, twu8, ↓condKT_pos, ↓condKT_neg, ↓gdKT_pt, ↓gdKT_nt, ↓gdKT_pf, ↓gdKT_nf, eq_true hg])))
        | (refine gdKT_split (fun hg => ?_) (fun hg => ?_) <;> (try simp (maxSteps := 1000000) (implicitDefEqProofs := false) (disch := omega) only [go_sem, if_pos, if_neg, tw64, twu8, ↓condKT_pos, ↓condKT_neg, ↓gdKT_pt, ↓gdKT_nt, ↓gdKT_pf, ↓gdKT_nf, hg]))
        | (refine condKT_split (fun hg => ?_) (fun hg => ?_) <;> (try simp (maxSteps := 1000000) (implicitDefEqProofs := false) (disch := omega) only [go_sem, if_pos, if_neg, tw64, twu8, ↓condKT_pos, ↓condKT_neg, ↓gdKT_pt, ↓gdKT_nt, ↓gdKT_pf, ↓gdKT_nf, hg]))
        | (refine endT_p (.inr rfl) (by simp (maxSteps := 1000000) (implicitDefEqProofs := false) (disch := omega) only [go_sem, if_pos, if_neg, tw64, twu8, ↓condKT_pos, ↓condKT_neg, ↓gdKT_pt, ↓gdKT_nt, ↓gdKT_pf, ↓gdKT_nf]; rfl) ?_; (first | exact vb_true (by omega) | exact vb_false (by omega) | exact vb_dec (by omega) | exact vi_eq (by omega) | rfl | (refine vi_eq ?_; simp_all; done) | (refine vi_eq ?_; simp_all; omega) | (refine vi_eq ?_; simp_all; intros; omega)))
        | exact endT_v (.inr rfl) (by simp (maxSteps := 1000000) (implicitDefEqProofs := false) (disch := omega) only [go_sem, if_pos, if_neg, tw64, twu8, ↓condKT_pos, ↓condKT_neg, ↓gdKT_pt, ↓gdKT_nt, ↓gdKT_pf, ↓gdKT_nf]; try rfl) (fun _ => rfl)
end Go.Proofs.Ytngebdcbcliobaa
