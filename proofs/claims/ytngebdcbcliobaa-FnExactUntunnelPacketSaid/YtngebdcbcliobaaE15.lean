import Derived.Test.YtngebdcbcliobaaE14
set_option linter.unusedSimpArgs false
set_option linter.unusedVariables false
set_option maxRecDepth 100000
set_option maxHeartbeats 4000000
namespace Go.Proofs.Ytngebdcbcliobaa
open Go Go.AH
attribute [local irreducible] awpT ropsT qopsT stepT condKT gdKT EndT joinK loopKT seqKT blkKT kont kontR
/-! Windows: numbers guessed, seen and taken -/

theorem winF_rng {t b : Int} (h : winF t b = 0) : 0 ≤ t ∧ t ≤ 1099511627776 ∧ 0 ≤ b ∧ b ≤ 4294967295 := by
  by_cases hr : 0 ≤ t ∧ t ≤ 1099511627776 ∧ 0 ≤ b ∧ b ≤ 4294967295
  · exact hr
  · rw [winF_4 hr] at h; cases h
def gLeast (t : Int) : Int := if t - 31 < 1 then 1 else t - 31
def gV (t low : Int) : Int := if gLeast t - gLeast t % 4294967296 + low < gLeast t then gLeast t - gLeast t % 4294967296 + low + 4294967296 else gLeast t - gLeast t % 4294967296 + low
def guessC (t b low : Int) : Int := if winF t b = 0 then (if 0 ≤ low ∧ low ≤ 4294967295 then (if gV t low > 1099511627776 then 3 else 0) else 3) else winF t b
def guessV (t b low : Int) : TV := if guessC t b low = 0 then .agg [.p (.int .i64 0), .p (.int .i64 (gV t low))] else .agg [.p (.int .i64 (guessC t b low)), .p (.int .i64 0)]
theorem guess_bad {t b low c : Int} (h : guessC t b low = c) (hc : c ≠ 0) : guessV t b low = .agg [.p (.int .i64 c), .p (.int .i64 0)] := by unfold guessV; rw [h, if_neg hc]
theorem guess_ok {t b low : Int} (h : guessC t b low = 0) : guessV t b low = .agg [.p (.int .i64 0), .p (.int .i64 (gV t low))] := by unfold guessV; rw [if_pos h]
theorem shl_at {n k : Int} {kk : IntKind} (hk : 0 ≤ k ∧ k ≤ 32) (hn : 0 ≤ n ∧ n * 2 ^ k.toNat ≤ 9223372036854775807) : abin .shl (.int .i64 n) (.int kk k) = some (.int .i64 (n * 2 ^ k.toNat)) := by
  simp only [abin]
  rw [if_neg (by omega), show min k.toNat IntKind.i64.bits = k.toNat by show min k.toNat 64 = _; omega]
  have h0 : 0 ≤ n * 2 ^ k.toNat := Int.mul_nonneg hn.1 (Int.le_of_lt (Int.pow_pos (by decide)))
  rw [w64' (by omega)]
def or64 (a b : Int) : Int := ((BitVec.ofInt 64 a ||| BitVec.ofInt 64 b).toNat : Int)
def and64 (a b : Int) : Int := ((BitVec.ofInt 64 a &&& BitVec.ofInt 64 b).toNat : Int)
theorem ofInt_toNat {a : Int} (h : 0 ≤ a ∧ a < 18446744073709551616) : ((BitVec.ofInt 64 a).toNat : Int) = a := by rw [BitVec.toNat_ofInt]; omega
theorem or_lt {a b : Int} {n : Nat} (hn : n ≤ 63) (ha : 0 ≤ a ∧ a < 2 ^ n) (hb : 0 ≤ b ∧ b < 2 ^ n) : 0 ≤ or64 a b ∧ or64 a b < 2 ^ n := by
  have h63 : (2 : Int) ^ n ≤ 9223372036854775808 := by
    have := Nat.pow_le_pow_right (n := 2) (by decide) hn
    have e : ((2 ^ n : Nat) : Int) = (2 : Int) ^ n := by simp
    rw [← e]
    omega
  obtain ⟨x, rfl⟩ := Int.eq_ofNat_of_zero_le ha.1
  obtain ⟨y, rfl⟩ := Int.eq_ofNat_of_zero_le hb.1
  have hx : (BitVec.ofInt 64 (x : Int)).toNat = x := by have := ofInt_toNat (a := (x : Int)) (by omega); omega
  have hy : (BitVec.ofInt 64 (y : Int)).toNat = y := by have := ofInt_toNat (a := (y : Int)) (by omega); omega
  unfold or64
  rw [BitVec.toNat_or, hx, hy]
  have e : ((2 ^ n : Nat) : Int) = (2 : Int) ^ n := by simp
  have := Nat.or_lt_two_pow (x := x) (y := y) (n := n) (by omega) (by omega)
  omega
theorem or_run {a b : Int} (ha : 0 ≤ a ∧ a ≤ 9223372036854775807) (hb : 0 ≤ b ∧ b ≤ 9223372036854775807) : abin .or (.int .i64 a) (.int .i64 b) = some (.int .i64 (or64 a b)) := by
  have h := or_lt (a := a) (b := b) (n := 63) (by decide) (by omega) (by omega)
  show some (Value.int .i64 (IntKind.i64.wrap (or64 a b))) = _
  rw [w64' (by omega)]
theorem and_le {a b : Int} (hb : 0 ≤ b ∧ b ≤ 9223372036854775807) : 0 ≤ and64 a b ∧ and64 a b ≤ b := by
  obtain ⟨y, rfl⟩ := Int.eq_ofNat_of_zero_le hb.1
  have hy : (BitVec.ofInt 64 (y : Int)).toNat = y := by have := ofInt_toNat (a := (y : Int)) (by omega); omega
  unfold and64
  rw [BitVec.toNat_and, hy]
  have := Nat.and_le_right (n := (BitVec.ofInt 64 a).toNat) (m := y)
  omega
theorem and_run {a b : Int} (hb : 0 ≤ b ∧ b ≤ 9223372036854775807) : abin .and (.int .i64 a) (.int .i64 b) = some (.int .i64 (and64 a b)) := by
  have h := and_le (a := a) hb
  show some (Value.int .i64 (IntKind.i64.wrap (and64 a b))) = _
  rw [w64' (by omega)]
theorem and_or (a : Int) : or64 (and64 a 4294967295) 1 = and64 (or64 a 1) 4294967295 := by
  unfold or64 and64
  have e1 : ∀ x : BitVec 64, BitVec.ofInt 64 (x.toNat : Int) = x := fun x => by apply BitVec.eq_of_toNat_eq; rw [BitVec.toNat_ofInt]; have := x.isLt; omega
  rw [e1, e1, BitVec.and_or_distrib_right]
  have e2 : (BitVec.ofInt 64 1 &&& BitVec.ofInt 64 4294967295) = BitVec.ofInt 64 1 := by decide
  rw [e2]

theorem p2k {k : Int} (h : 0 ≤ k ∧ k < 32) : (2 : Int) ^ k.toNat ≤ 2147483648 ∧ 0 < (2 : Int) ^ k.toNat := by
  refine ⟨?_, Int.pow_pos (by decide)⟩
  have := Nat.pow_le_pow_right (n := 2) (by decide) (show k.toNat ≤ 31 by omega)
  have e : ((2 ^ k.toNat : Nat) : Int) = (2 : Int) ^ k.toNat := by simp
  rw [← e]; omega

theorem mm_ite {a b ls : Int} (h : mmT true (.p (.int .i64 a)) (.p (.int .i64 b)) = some (.int .i64 ls)) : (if b > a then b else a) = ls := by
  have h' : some (Value.int .i64 (if b > a then b else a)) = some (Value.int .i64 ls) := h
  simpa using h'
noncomputable def l1Max_S := specP (fun x : Int × Int => [.p (.int .i64 x.1), .p (.int .i64 x.2)]) (fun x => True) (fun x => (.p (.int .i64 (if x.2 < x.1 then x.1 else x.2)), []))
theorem l1Max_at (a : Int) (b : Int) : l1Max_S [.p (.int .i64 a), .p (.int .i64 b)] = some ((.p (.int .i64 (if b < a then a else b)), [])) := specP_at (enc := fun x : Int × Int => [.p (.int .i64 x.1), .p (.int .i64 x.2)]) (by rintro ⟨a0, a1⟩ ⟨b0, b1⟩ h; simp only [List.cons.injEq, and_true] at h; obtain ⟨h0, h1⟩ := h; obtain rfl := p64_inj h0; obtain rfl := p64_inj h1; rfl) (a, b) trivial
-- spec.l1Max
def c175 : AF := ⟨10,
  (.seq (.reg [⟨(some 4), none, .mv (.v (.int .i64 0))⟩])
  (.seq (.seq (.reg [⟨(some 5), none, .mv (.t 0)⟩,
   ⟨(some 6), none, .mv (.t 1)⟩,
   ⟨(some 7), none, .bin .gtr (.t 5) (.t 6)⟩])
  (.cond (.t 7) (.seq (.reg [⟨(some 8), none, .mv (.t 0)⟩,
   ⟨(some 4), none, .mv (.t 8)⟩])
  .ret)
  .skip))
  (.seq (.reg [⟨(some 9), none, .mv (.t 1)⟩,
   ⟨(some 4), none, .mv (.t 9)⟩])
  .ret))),
  [.t 4]⟩
theorem k175 : cFn Try.prog Try.f175 = some c175 := by kernel_rfl
theorem l1Max_ok : OkT Try.prog 175 (pureSp l1Max_S) := by
  refine okT_fn (OkΓT.nil _) Try.func175 (by kernel_rfl) k175 (fun x _ => ⟨by first | rfl | simp only [go_sem], by first | rfl | simp only [go_sem]⟩) ?_
  rintro ⟨a, b⟩ _
  try dsimp only at *
  by_cases h : b < a
  · rw [if_pos h]
    (dsimp only [c175]; simp (maxSteps := 8000000) (implicitDefEqProofs := false) (disch := omega) only [↓reduceIte, go_sem, if_pos, if_neg, gt_iff_lt, eq_true h])
    exact endT_v (.inr rfl) (by (simp (maxSteps := 8000000) (implicitDefEqProofs := false) (disch := omega) only [↓reduceIte, go_sem, if_pos, if_neg]) <;> rfl) (fun _ => rfl)
  · rw [if_neg h]
    (dsimp only [c175]; simp (maxSteps := 8000000) (implicitDefEqProofs := false) (disch := omega) only [↓reduceIte, go_sem, if_pos, if_neg, gt_iff_lt, eq_false h])
    exact endT_v (.inr rfl) (by (simp (maxSteps := 8000000) (implicitDefEqProofs := false) (disch := omega) only [↓reduceIte, go_sem, if_pos, if_neg]) <;> rfl) (fun _ => rfl)
noncomputable def guess_S := specP (fun x : Int × Int × Int => [.agg [.p (.int .i64 x.1), .p (.int .i64 x.2.1)], .p (.int .i64 x.2.2)]) (fun x => True) (fun x => (guessV x.1 x.2.1 x.2.2, []))
theorem guess_at (t b low : Int) : guess_S [.agg [.p (.int .i64 t), .p (.int .i64 b)], .p (.int .i64 low)] = some (guessV t b low, []) := specP_at (enc := fun x : Int × Int × Int => [.agg [.p (.int .i64 x.1), .p (.int .i64 x.2.1)], .p (.int .i64 x.2.2)]) (by rintro ⟨a, b, c⟩ ⟨a1, b1, c1⟩ h; simp at h; simp [h]) (t, b, low) trivial
-- impl.GuessSeq
def c120 : AF := ⟨39,
  (.seq (.reg [⟨(some 2), none, .box 29 (.t 0)⟩,
   ⟨(some 4), none, .alloc 135 [(.int .i64 0), (.int .i64 0)]⟩])
  (.seq (.seq (.reg [⟨(some 8), none, .ldn 2 (.t 2)⟩,
   ⟨(some 9), none, .call 84 [(.t 8)]⟩,
   ⟨(some 5), none, .mv (.t 9)⟩])
  (.seq (.reg [⟨(some 10), none, .mv (.t 5)⟩,
   ⟨(some 11), none, .bin .neq (.t 10) (.v (.int .i64 0))⟩])
  (.cond (.t 11) (.seq (.reg [⟨(some 12), none, .mv (.t 5)⟩,
   ⟨(some 13), none, .build [(.int .i64 0), (.int .i64 0)] [(0, 1, (.t 12))]⟩,
   ⟨none, none, .st 2 (.t 4) (.t 13)⟩])
  .ret)
  .skip)))
  (.seq (.seq (.reg [⟨(some 14), none, .mv (.t 1)⟩,
   ⟨(some 15), none, .call 82 [(.t 14), (.v (.int .i64 0)), (.v (.int .i64 4294967295))]⟩,
   ⟨(some 16), none, .un .not (.t 15)⟩])
  (.cond (.t 16) (.seq (.reg [⟨(some 17), none, .build [(.int .i64 0), (.int .i64 0)] [(0, 1, (.v (.int .i64 3)))]⟩,
   ⟨none, none, .st 2 (.t 4) (.t 17)⟩])
  .ret)
  .skip))
  (.seq (.reg [⟨(some 18), none, .fa (.t 2) 0⟩,
   ⟨(some 19), none, .ld (.t 18)⟩,
   ⟨(some 20), none, .bin .sub (.t 19) (.v (.int .i64 32))⟩,
   ⟨(some 21), none, .bin .add (.t 20) (.v (.int .i64 1))⟩,
   ⟨(some 22), none, .mm true (.t 21) (.v (.int .i64 1))⟩,
   ⟨(some 6), none, .mv (.t 22)⟩])
  (.seq (.reg [⟨(some 23), none, .mv (.t 6)⟩,
   ⟨(some 24), none, .mv (.t 6)⟩,
   ⟨(some 25), none, .bin .rem (.t 24) (.v (.int .i64 4294967296))⟩,
   ⟨(some 26), none, .bin .sub (.t 23) (.t 25)⟩,
   ⟨(some 27), none, .mv (.t 1)⟩,
   ⟨(some 28), none, .bin .add (.t 26) (.t 27)⟩,
   ⟨(some 7), none, .mv (.t 28)⟩])
  (.seq (.seq (.reg [⟨(some 29), none, .mv (.t 7)⟩,
   ⟨(some 30), none, .mv (.t 6)⟩,
   ⟨(some 31), none, .bin .lss (.t 29) (.t 30)⟩])
  (.cond (.t 31) (.reg [⟨(some 32), none, .mv (.t 7)⟩,
   ⟨(some 33), none, .bin .add (.t 32) (.v (.int .i64 4294967296))⟩,
   ⟨(some 7), none, .mv (.t 33)⟩])
  .skip))
  (.seq (.seq (.reg [⟨(some 34), none, .mv (.t 7)⟩,
   ⟨(some 35), none, .bin .gtr (.t 34) (.v (.int .i64 1099511627776))⟩])
  (.cond (.t 35) (.seq (.reg [⟨(some 36), none, .build [(.int .i64 0), (.int .i64 0)] [(0, 1, (.v (.int .i64 3)))]⟩,
   ⟨none, none, .st 2 (.t 4) (.t 36)⟩])
  .ret)
  .skip))
  (.seq (.reg [⟨(some 37), none, .mv (.t 7)⟩,
   ⟨(some 38), none, .build [(.int .i64 0), (.int .i64 0)] [(0, 1, (.v (.int .i64 0))), (1, 1, (.t 37))]⟩,
   ⟨none, none, .st 2 (.t 4) (.t 38)⟩])
  .ret)))))))),
  [.cell 4 (some 2)]⟩
theorem k120 : cFn Try.prog Try.f120 = some c120 := by kernel_rfl
theorem guessI_ok : OkT Try.prog 120 (pureSp guess_S) := by
  refine okT_fn (OkΓT.cons winFI_ok (OkΓT.cons in_ok (OkΓT.nil _))) Try.func120 (by kernel_rfl) k120 (fun x _ => ⟨by unfold guessV; split <;> rfl, rfl⟩) ?_
  rintro ⟨t, b, low⟩ _
  try dsimp only at *
  have hw := winF_at t b
  by_cases c0 : winF t b = 0
  case neg =>
    rw [guess_bad (c := winF t b) (by unfold guessC; rw [if_neg c0]) c0]
    generalize winF t b = c at *
    (dsimp only [c120]; simp (maxSteps := 8000000) (implicitDefEqProofs := false) (disch := omega) only [↓reduceIte, go_sem, if_pos, if_neg, hw, eq_false c0])
    exact endT_v (.inr rfl) (by (simp (maxSteps := 8000000) (implicitDefEqProofs := false) (disch := omega) only [↓reduceIte, go_sem, if_pos, if_neg]) <;> rfl) (fun _ => rfl)
  obtain ⟨t1, t2, b1, b2⟩ := winF_rng c0
  rw [c0] at hw
  by_cases c1 : 0 ≤ low ∧ low ≤ 4294967295
  case neg =>
    rw [guess_bad (c := 3) (by unfold guessC; rw [if_pos c0, if_neg c1]) (by decide)]
    (dsimp only [c120]; simp (maxSteps := 8000000) (implicitDefEqProofs := false) (disch := omega) only [↓reduceIte, go_sem, if_pos, if_neg, hw, in_at, eq_false c1])
    exact endT_v (.inr rfl) (by (simp (maxSteps := 8000000) (implicitDefEqProofs := false) (disch := omega) only [↓reduceIte, go_sem, if_pos, if_neg]) <;> rfl) (fun _ => rfl)
  have hgc : guessC t b low = (if gV t low > 1099511627776 then 3 else 0) := by unfold guessC; rw [if_pos c0, if_pos c1]
  have hl1 : 1 ≤ gLeast t ∧ gLeast t ≤ 1099511627776 := by unfold gLeast; split <;> omega
  have hgv : gV t low = (if gLeast t - gLeast t % 4294967296 + low < gLeast t then gLeast t - gLeast t % 4294967296 + low + 4294967296 else gLeast t - gLeast t % 4294967296 + low) := rfl
  have hmx : mmT true (.p (.int .i64 (t - 32 + 1))) (.p (.int .i64 1)) = some (.int .i64 (gLeast t)) := by
    show some (Value.int .i64 (if (1 : Int) > t - 32 + 1 then (1 : Int) else t - 32 + 1)) = _
    congr 2
    unfold gLeast; split <;> split <;> omega
  have hm := rem64 (n := gLeast t) (b := 4294967296) (by omega) (by decide)
  generalize gLeast t = ls at *
  by_cases c2 : ls - ls % 4294967296 + low < ls
  · rw [if_pos c2] at hgv
    by_cases c3 : ls - ls % 4294967296 + low + 4294967296 > 1099511627776
    · rw [guess_bad (c := 3) (by rw [hgc, hgv, if_pos c3]) (by decide)]
      (dsimp only [c120]; simp (maxSteps := 8000000) (implicitDefEqProofs := false) (disch := omega) only [↓reduceIte, go_sem, if_pos, if_neg, hw, in_at, eq_true c1, mm_ite hmx, ↓hm, eq_true c2, eq_true c3])
      exact endT_v (.inr rfl) (by (simp (maxSteps := 8000000) (implicitDefEqProofs := false) (disch := omega) only [↓reduceIte, go_sem, if_pos, if_neg]) <;> rfl) (fun _ => rfl)
    · rw [guess_ok (by rw [hgc, hgv, if_neg c3]), hgv]
      (dsimp only [c120]; simp (maxSteps := 8000000) (implicitDefEqProofs := false) (disch := omega) only [↓reduceIte, go_sem, if_pos, if_neg, hw, in_at, eq_true c1, mm_ite hmx, ↓hm, eq_true c2, eq_false c3])
      exact endT_v (.inr rfl) (by (simp (maxSteps := 8000000) (implicitDefEqProofs := false) (disch := omega) only [↓reduceIte, go_sem, if_pos, if_neg]) <;> rfl) (fun _ => rfl)
  · rw [if_neg c2] at hgv
    by_cases c3 : ls - ls % 4294967296 + low > 1099511627776
    · rw [guess_bad (c := 3) (by rw [hgc, hgv, if_pos c3]) (by decide)]
      (dsimp only [c120]; simp (maxSteps := 8000000) (implicitDefEqProofs := false) (disch := omega) only [↓reduceIte, go_sem, if_pos, if_neg, hw, in_at, eq_true c1, mm_ite hmx, ↓hm, eq_false c2, eq_true c3])
      exact endT_v (.inr rfl) (by (simp (maxSteps := 8000000) (implicitDefEqProofs := false) (disch := omega) only [↓reduceIte, go_sem, if_pos, if_neg]) <;> rfl) (fun _ => rfl)
    · rw [guess_ok (by rw [hgc, hgv, if_neg c3]), hgv]
      (dsimp only [c120]; simp (maxSteps := 8000000) (implicitDefEqProofs := false) (disch := omega) only [↓reduceIte, go_sem, if_pos, if_neg, hw, in_at, eq_true c1, mm_ite hmx, ↓hm, eq_false c2, eq_false c3])
      exact endT_v (.inr rfl) (by (simp (maxSteps := 8000000) (implicitDefEqProofs := false) (disch := omega) only [↓reduceIte, go_sem, if_pos, if_neg]) <;> rfl) (fun _ => rfl)
-- spec.GuessSeq
def c133 : AF := ⟨38,
  (.seq (.reg [⟨(some 2), none, .box 29 (.t 0)⟩,
   ⟨(some 4), none, .alloc 135 [(.int .i64 0), (.int .i64 0)]⟩])
  (.seq (.seq (.reg [⟨(some 8), none, .ldn 2 (.t 2)⟩,
   ⟨(some 9), none, .call 76 [(.t 8)]⟩,
   ⟨(some 5), none, .mv (.t 9)⟩])
  (.seq (.reg [⟨(some 10), none, .mv (.t 5)⟩,
   ⟨(some 11), none, .bin .neq (.t 10) (.v (.int .i64 0))⟩])
  (.cond (.t 11) (.seq (.reg [⟨(some 12), none, .mv (.t 5)⟩,
   ⟨(some 13), none, .build [(.int .i64 0), (.int .i64 0)] [(0, 1, (.t 12))]⟩,
   ⟨none, none, .st 2 (.t 4) (.t 13)⟩])
  .ret)
  .skip)))
  (.seq (.seq (.reg [⟨(some 14), none, .mv (.t 1)⟩,
   ⟨(some 15), none, .call 74 [(.t 14), (.v (.int .i64 0)), (.v (.int .i64 4294967295))]⟩,
   ⟨(some 16), none, .un .not (.t 15)⟩])
  (.cond (.t 16) (.seq (.reg [⟨(some 17), none, .build [(.int .i64 0), (.int .i64 0)] [(0, 1, (.v (.int .i64 3)))]⟩,
   ⟨none, none, .st 2 (.t 4) (.t 17)⟩])
  .ret)
  .skip))
  (.seq (.reg [⟨(some 18), none, .fa (.t 2) 0⟩,
   ⟨(some 19), none, .ld (.t 18)⟩,
   ⟨(some 20), none, .bin .sub (.t 19) (.v (.int .i64 32))⟩,
   ⟨(some 21), none, .bin .add (.t 20) (.v (.int .i64 1))⟩,
   ⟨(some 22), none, .call 175 [(.v (.int .i64 1)), (.t 21)]⟩,
   ⟨(some 6), none, .mv (.t 22)⟩])
  (.seq (.reg [⟨(some 23), none, .mv (.t 6)⟩,
   ⟨(some 24), none, .bin .shr (.t 23) (.v (.int .u64 32))⟩,
   ⟨(some 25), none, .bin .shl (.t 24) (.v (.int .u64 32))⟩,
   ⟨(some 26), none, .mv (.t 1)⟩,
   ⟨(some 27), none, .bin .add (.t 25) (.t 26)⟩,
   ⟨(some 7), none, .mv (.t 27)⟩])
  (.seq (.seq (.reg [⟨(some 28), none, .mv (.t 7)⟩,
   ⟨(some 29), none, .mv (.t 6)⟩,
   ⟨(some 30), none, .bin .lss (.t 28) (.t 29)⟩])
  (.cond (.t 30) (.reg [⟨(some 31), none, .mv (.t 7)⟩,
   ⟨(some 32), none, .bin .add (.t 31) (.v (.int .i64 4294967296))⟩,
   ⟨(some 7), none, .mv (.t 32)⟩])
  .skip))
  (.seq (.seq (.reg [⟨(some 33), none, .mv (.t 7)⟩,
   ⟨(some 34), none, .bin .gtr (.t 33) (.v (.int .i64 1099511627776))⟩])
  (.cond (.t 34) (.seq (.reg [⟨(some 35), none, .build [(.int .i64 0), (.int .i64 0)] [(0, 1, (.v (.int .i64 3)))]⟩,
   ⟨none, none, .st 2 (.t 4) (.t 35)⟩])
  .ret)
  .skip))
  (.seq (.reg [⟨(some 36), none, .mv (.t 7)⟩,
   ⟨(some 37), none, .build [(.int .i64 0), (.int .i64 0)] [(1, 1, (.t 36))]⟩,
   ⟨none, none, .st 2 (.t 4) (.t 37)⟩])
  .ret)))))))),
  [.cell 4 (some 2)]⟩
theorem k133 : cFn Try.prog Try.f133 = some c133 := by kernel_rfl
theorem guessS_ok : OkT Try.prog 133 (pureSp guess_S) := by
  refine okT_fn (OkΓT.cons winFS_ok (OkΓT.cons l1In_ok (OkΓT.cons l1Max_ok (OkΓT.nil _)))) Try.func133 (by kernel_rfl) k133 (fun x _ => ⟨by unfold guessV; split <;> rfl, rfl⟩) ?_
  rintro ⟨t, b, low⟩ _
  try dsimp only at *
  have hw := winF_at t b
  by_cases c0 : winF t b = 0
  case neg =>
    rw [guess_bad (c := winF t b) (by unfold guessC; rw [if_neg c0]) c0]
    generalize winF t b = c at *
    (dsimp only [c133]; simp (maxSteps := 8000000) (implicitDefEqProofs := false) (disch := omega) only [↓reduceIte, go_sem, if_pos, if_neg, hw, eq_false c0])
    exact endT_v (.inr rfl) (by (simp (maxSteps := 8000000) (implicitDefEqProofs := false) (disch := omega) only [↓reduceIte, go_sem, if_pos, if_neg]) <;> rfl) (fun _ => rfl)
  obtain ⟨t1, t2, b1, b2⟩ := winF_rng c0
  rw [c0] at hw
  by_cases c1 : 0 ≤ low ∧ low ≤ 4294967295
  case neg =>
    rw [guess_bad (c := 3) (by unfold guessC; rw [if_pos c0, if_neg c1]) (by decide)]
    (dsimp only [c133]; simp (maxSteps := 8000000) (implicitDefEqProofs := false) (disch := omega) only [↓reduceIte, go_sem, if_pos, if_neg, hw, in_at, eq_false c1])
    exact endT_v (.inr rfl) (by (simp (maxSteps := 8000000) (implicitDefEqProofs := false) (disch := omega) only [↓reduceIte, go_sem, if_pos, if_neg]) <;> rfl) (fun _ => rfl)
  have hgc : guessC t b low = (if gV t low > 1099511627776 then 3 else 0) := by unfold guessC; rw [if_pos c0, if_pos c1]
  have hl1 : 1 ≤ gLeast t ∧ gLeast t ≤ 1099511627776 := by unfold gLeast; split <;> omega
  have hgv : gV t low = (if gLeast t - gLeast t % 4294967296 + low < gLeast t then gLeast t - gLeast t % 4294967296 + low + 4294967296 else gLeast t - gLeast t % 4294967296 + low) := rfl
  have hmx := l1Max_at 1 (t - 32 + 1)
  have hme : (if t - 32 + 1 < 1 then (1 : Int) else t - 32 + 1) = gLeast t := by unfold gLeast; split <;> split <;> omega
  rw [hme] at hmx
  clear hme
  have hq1 := shr_ok (b := gLeast t) (k := 32) (kk := .u64) (by omega) (by decide)
  have hd : gLeast t / 2 ^ (32 : Int).toNat = gLeast t / 4294967296 := rfl
  rw [hd] at hq1
  have hq2 := shl_at (n := gLeast t / 4294967296) (k := 32) (kk := .u64) (by decide) ⟨by omega, by show gLeast t / 4294967296 * 4294967296 ≤ _; omega⟩
  have hd2 : gLeast t / 4294967296 * 2 ^ (32 : Int).toNat = gLeast t - gLeast t % 4294967296 := by show gLeast t / 4294967296 * 4294967296 = _; omega
  rw [hd2] at hq2
  generalize gLeast t = ls at *
  by_cases c2 : ls - ls % 4294967296 + low < ls
  · rw [if_pos c2] at hgv
    by_cases c3 : ls - ls % 4294967296 + low + 4294967296 > 1099511627776
    · rw [guess_bad (c := 3) (by rw [hgc, hgv, if_pos c3]) (by decide)]
      (dsimp only [c133]; simp (maxSteps := 8000000) (implicitDefEqProofs := false) (disch := omega) only [↓reduceIte, go_sem, if_pos, if_neg, hw, in_at, eq_true c1, hmx, ↓hq1, ↓hq2, eq_true c2, eq_true c3])
      exact endT_v (.inr rfl) (by (simp (maxSteps := 8000000) (implicitDefEqProofs := false) (disch := omega) only [↓reduceIte, go_sem, if_pos, if_neg]) <;> rfl) (fun _ => rfl)
    · rw [guess_ok (by rw [hgc, hgv, if_neg c3]), hgv]
      (dsimp only [c133]; simp (maxSteps := 8000000) (implicitDefEqProofs := false) (disch := omega) only [↓reduceIte, go_sem, if_pos, if_neg, hw, in_at, eq_true c1, hmx, ↓hq1, ↓hq2, eq_true c2, eq_false c3])
      exact endT_v (.inr rfl) (by (simp (maxSteps := 8000000) (implicitDefEqProofs := false) (disch := omega) only [↓reduceIte, go_sem, if_pos, if_neg]) <;> rfl) (fun _ => rfl)
  · rw [if_neg c2] at hgv
    by_cases c3 : ls - ls % 4294967296 + low > 1099511627776
    · rw [guess_bad (c := 3) (by rw [hgc, hgv, if_pos c3]) (by decide)]
      (dsimp only [c133]; simp (maxSteps := 8000000) (implicitDefEqProofs := false) (disch := omega) only [↓reduceIte, go_sem, if_pos, if_neg, hw, in_at, eq_true c1, hmx, ↓hq1, ↓hq2, eq_false c2, eq_true c3])
      exact endT_v (.inr rfl) (by (simp (maxSteps := 8000000) (implicitDefEqProofs := false) (disch := omega) only [↓reduceIte, go_sem, if_pos, if_neg]) <;> rfl) (fun _ => rfl)
    · rw [guess_ok (by rw [hgc, hgv, if_neg c3]), hgv]
      (dsimp only [c133]; simp (maxSteps := 8000000) (implicitDefEqProofs := false) (disch := omega) only [↓reduceIte, go_sem, if_pos, if_neg, hw, in_at, eq_true c1, hmx, ↓hq1, ↓hq2, eq_false c2, eq_false c3])
      exact endT_v (.inr rfl) (by (simp (maxSteps := 8000000) (implicitDefEqProofs := false) (disch := omega) only [↓reduceIte, go_sem, if_pos, if_neg]) <;> rfl) (fun _ => rfl)

abbrev hadP (t b s : Int) : Prop := s ≤ t ∧ (b / 2 ^ (t - s).toNat) % 2 = 1
abbrev seenP (t b s : Int) : Prop := ¬ winF t b = 0 ∨ s < 1 ∨ s ≤ t - 32 ∨ hadP t b s
noncomputable def old_S := specP (fun x : Int × Int × Int => [.agg [.p (.int .i64 x.1), .p (.int .i64 x.2.1)], .p (.int .i64 x.2.2)]) (fun x => -4611686018427387904 ≤ x.1 ∧ x.1 ≤ 4611686018427387904) (fun x => (.p (.bool (decide (x.2.2 ≤ x.1 - 32))), []))
theorem old_at (t b s : Int) (h : -4611686018427387904 ≤ t ∧ t ≤ 4611686018427387904) : old_S [.agg [.p (.int .i64 t), .p (.int .i64 b)], .p (.int .i64 s)] = some ((.p (.bool (decide (s ≤ t - 32))), [])) := specP_at (enc := fun x : Int × Int × Int => [.agg [.p (.int .i64 x.1), .p (.int .i64 x.2.1)], .p (.int .i64 x.2.2)]) (by rintro ⟨a, b, c⟩ ⟨a1, b1, c1⟩ h; simp at h; simp [h]) (t, b, s) h
-- spec.l10Old
def c176 : AF := ⟨10,
  (.seq (.reg [⟨(some 2), none, .box 29 (.t 0)⟩,
   ⟨(some 4), none, .mv (.v (.bool false))⟩])
  (.seq (.reg [⟨(some 5), none, .mv (.t 1)⟩,
   ⟨(some 6), none, .fa (.t 2) 0⟩,
   ⟨(some 7), none, .ld (.t 6)⟩,
   ⟨(some 8), none, .bin .sub (.t 7) (.v (.int .i64 32))⟩,
   ⟨(some 9), none, .bin .leq (.t 5) (.t 8)⟩,
   ⟨(some 4), none, .mv (.t 9)⟩])
  .ret)),
  [.t 4]⟩
theorem k176 : cFn Try.prog Try.f176 = some c176 := by kernel_rfl
theorem old_ok : OkT Try.prog 176 (pureSp old_S) := by
  refine okT_fn (OkΓT.nil _) Try.func176 (by kernel_rfl) k176 (fun x _ => ⟨by first | rfl | simp only [go_sem], by first | rfl | simp only [go_sem]⟩) ?_
  rintro ⟨t, b, s⟩ ⟨h1, h2⟩
  try dsimp only at *
  (dsimp only [c176]; simp (maxSteps := 8000000) (implicitDefEqProofs := false) (disch := omega) only [↓reduceIte, go_sem, if_pos, if_neg])
  repeat' first
    | (refine gdKT_dec (fun hg => ?_) (fun hg => ?_) <;> (try (first | simp (maxSteps := 8000000) (implicitDefEqProofs := false) (disch := omega) only [↓reduceIte, go_sem, if_pos, if_neg, eq_false hg] | simp (maxSteps := 8000000) (implicitDefEqProofs := false) (disch := omega) only [↓reduceIte, go_sem, if_pos, if_neg, eq_true hg])))
    | (refine condKT_dec (fun hg => ?_) (fun hg => ?_) <;> (try (first | simp (maxSteps := 8000000) (implicitDefEqProofs := false) (disch := omega) only [↓reduceIte, go_sem, if_pos, if_neg, eq_false hg] | simp (maxSteps := 8000000) (implicitDefEqProofs := false) (disch := omega) only [↓reduceIte, go_sem, if_pos, if_neg, eq_true hg])))
    | (refine gdKT_split (fun hg => ?_) (fun hg => ?_) <;> (try simp (maxSteps := 8000000) (implicitDefEqProofs := false) (disch := omega) only [↓reduceIte, go_sem, if_pos, if_neg, hg]))
    | (refine condKT_split (fun hg => ?_) (fun hg => ?_) <;> (try simp (maxSteps := 8000000) (implicitDefEqProofs := false) (disch := omega) only [↓reduceIte, go_sem, if_pos, if_neg, hg]))
    | (refine endT_p (.inr rfl) (by simp (maxSteps := 8000000) (implicitDefEqProofs := false) (disch := omega) only [↓reduceIte, go_sem, if_pos, if_neg]; rfl) ?_; (first | exact vb_true (by omega) | exact vb_false (by omega) | exact vb_dec (by omega) | exact vi_eq (by omega) | rfl | (refine vi_eq ?_; simp_all; done) | (refine vi_eq ?_; simp_all; omega) | (refine vi_eq ?_; simp_all; intros; omega)))
    | exact endT_v (.inr rfl) (by simp (maxSteps := 8000000) (implicitDefEqProofs := false) (disch := omega) only [↓reduceIte, go_sem, if_pos, if_neg]; try rfl) (fun _ => rfl)
noncomputable def had_S := specP (fun x : Int × Int × Int => [.agg [.p (.int .i64 x.1), .p (.int .i64 x.2.1)], .p (.int .i64 x.2.2)]) (fun x => 0 ≤ x.1 ∧ x.1 ≤ 1099511627776 ∧ 0 ≤ x.2.1 ∧ x.2.1 ≤ 4294967295 ∧ x.1 - 32 < x.2.2 ∧ x.2.2 ≤ 1099511627776) (fun x => (.p (.bool (decide (hadP x.1 x.2.1 x.2.2))), []))
theorem had_at (t b s : Int) (h : 0 ≤ t ∧ t ≤ 1099511627776 ∧ 0 ≤ b ∧ b ≤ 4294967295 ∧ t - 32 < s ∧ s ≤ 1099511627776) : had_S [.agg [.p (.int .i64 t), .p (.int .i64 b)], .p (.int .i64 s)] = some ((.p (.bool (decide (hadP t b s))), [])) := specP_at (enc := fun x : Int × Int × Int => [.agg [.p (.int .i64 x.1), .p (.int .i64 x.2.1)], .p (.int .i64 x.2.2)]) (by rintro ⟨a, b, c⟩ ⟨a1, b1, c1⟩ h; simp at h; simp [h]) (t, b, s) h
-- spec.l10Had
def c177 : AF := ⟨21,
  (.seq (.reg [⟨(some 2), none, .box 29 (.t 0)⟩,
   ⟨(some 4), none, .mv (.v (.bool false))⟩])
  (.seq (.reg [⟨(some 5), none, .mv (.t 1)⟩,
   ⟨(some 6), none, .fa (.t 2) 0⟩,
   ⟨(some 7), none, .ld (.t 6)⟩,
   ⟨(some 8), none, .bin .leq (.t 5) (.t 7)⟩,
   ⟨(some 9), none, .mv (.t 8)⟩,
   ⟨(some 10), (some (9, true)), .fa (.t 2) 1⟩,
   ⟨(some 11), (some (9, true)), .ld (.t 10)⟩,
   ⟨(some 12), (some (9, true)), .fa (.t 2) 0⟩,
   ⟨(some 13), (some (9, true)), .ld (.t 12)⟩,
   ⟨(some 14), (some (9, true)), .mv (.t 1)⟩,
   ⟨(some 15), (some (9, true)), .bin .sub (.t 13) (.t 14)⟩,
   ⟨(some 16), (some (9, true)), .cvI .u64 (.t 15)⟩,
   ⟨(some 17), (some (9, true)), .bin .shr (.t 11) (.t 16)⟩,
   ⟨(some 18), (some (9, true)), .bin .and (.t 17) (.v (.int .i64 1))⟩,
   ⟨(some 19), (some (9, true)), .bin .eql (.t 18) (.v (.int .i64 1))⟩,
   ⟨(some 20), none, .pick (.t 9) (.t 19) (.v (.bool false))⟩,
   ⟨(some 4), none, .mv (.t 20)⟩])
  .ret)),
  [.t 4]⟩
theorem k177 : cFn Try.prog Try.f177 = some c177 := by kernel_rfl
theorem had_ok : OkT Try.prog 177 (pureSp had_S) := by
  refine okT_fn (OkΓT.nil _) Try.func177 (by kernel_rfl) k177 (fun x _ => ⟨by first | rfl | simp only [go_sem], by first | rfl | simp only [go_sem]⟩) ?_
  rintro ⟨t, b, s⟩ ⟨h1, h2, h3, h4, h5, h6⟩
  try dsimp only at *
  by_cases c0 : s ≤ t
  · have w1 := wu64 (n := t - s) (by omega)
    have q1 := shr_ok (b := b) (k := t - s) (kk := .u64) (by omega) (by omega)
    have hb := bit_bd (b := b) (by omega) (t - s).toNat
    have q2 := and1_ok (x := b / 2 ^ (t - s).toNat) (by omega)
    have hd : decide (hadP t b s) = decide ((b / 2 ^ (t - s).toNat) % 2 = 1) := decide_eq_decide.2 ⟨fun h => h.2, fun h => ⟨c0, h⟩⟩
    rw [hd]
    clear hd
    generalize b / 2 ^ (t - s).toNat = y at *
    (dsimp only [c177]; simp (maxSteps := 8000000) (implicitDefEqProofs := false) (disch := omega) only [↓reduceIte, go_sem, if_pos, if_neg, eq_true c0, w1, ↓q1, ↓q2])
    exact endT_v (.inr rfl) (by (simp (maxSteps := 8000000) (implicitDefEqProofs := false) (disch := omega) only [↓reduceIte, go_sem, if_pos, if_neg]) <;> rfl) (fun _ => rfl)
  · rw [decide_eq_false (fun h => c0 h.1)]
    (dsimp only [c177]; simp (maxSteps := 8000000) (implicitDefEqProofs := false) (disch := omega) only [↓reduceIte, go_sem, if_pos, if_neg, eq_false c0])
    exact endT_v (.inr rfl) (by (simp (maxSteps := 8000000) (implicitDefEqProofs := false) (disch := omega) only [↓reduceIte, go_sem, if_pos, if_neg]) <;> rfl) (fun _ => rfl)
noncomputable def seen_S := specP (fun x : Int × Int × Int => [.agg [.p (.int .i64 x.1), .p (.int .i64 x.2.1)], .p (.int .i64 x.2.2)]) (fun x => -4611686018427387904 ≤ x.2.2 ∧ x.2.2 ≤ 1099511627776) (fun x => (.p (.bool (decide (seenP x.1 x.2.1 x.2.2))), []))
theorem seen_at (t b s : Int) (h : -4611686018427387904 ≤ s ∧ s ≤ 1099511627776) : seen_S [.agg [.p (.int .i64 t), .p (.int .i64 b)], .p (.int .i64 s)] = some ((.p (.bool (decide (seenP t b s))), [])) := specP_at (enc := fun x : Int × Int × Int => [.agg [.p (.int .i64 x.1), .p (.int .i64 x.2.1)], .p (.int .i64 x.2.2)]) (by rintro ⟨a, b, c⟩ ⟨a1, b1, c1⟩ h; simp at h; simp [h]) (t, b, s) h
-- impl.SeenIn
def c121 : AF := ⟨31,
  (.seq (.reg [⟨(some 2), none, .box 29 (.t 0)⟩,
   ⟨(some 4), none, .mv (.v (.bool false))⟩])
  (.seq (.seq (.reg [⟨(some 5), none, .ldn 2 (.t 2)⟩,
   ⟨(some 6), none, .call 84 [(.t 5)]⟩,
   ⟨(some 7), none, .bin .neq (.t 6) (.v (.int .i64 0))⟩,
   ⟨(some 8), none, .mv (.t 7)⟩,
   ⟨(some 9), (some (8, false)), .mv (.t 1)⟩,
   ⟨(some 10), (some (8, false)), .bin .lss (.t 9) (.v (.int .i64 1))⟩,
   ⟨(some 11), none, .pick (.t 8) (.v (.bool true)) (.t 10)⟩])
  (.cond (.t 11) (.seq (.reg [⟨(some 4), none, .mv (.v (.bool true))⟩])
  .ret)
  .skip))
  (.seq (.reg [⟨(some 12), none, .mv (.t 1)⟩,
   ⟨(some 13), none, .fa (.t 2) 0⟩,
   ⟨(some 14), none, .ld (.t 13)⟩,
   ⟨(some 15), none, .bin .sub (.t 14) (.v (.int .i64 32))⟩,
   ⟨(some 16), none, .bin .leq (.t 12) (.t 15)⟩,
   ⟨(some 17), none, .mv (.t 16)⟩,
   ⟨(some 18), (some (17, false)), .mv (.t 1)⟩,
   ⟨(some 19), (some (17, false)), .fa (.t 2) 0⟩,
   ⟨(some 20), (some (17, false)), .ld (.t 19)⟩,
   ⟨(some 21), (some (17, false)), .bin .leq (.t 18) (.t 20)⟩,
   ⟨(some 22), (some (17, false)), .mv (.t 21)⟩,
   ⟨(some 23), (some (22, true)), .ldn 2 (.t 2)⟩,
   ⟨(some 24), (some (22, true)), .fa (.t 2) 0⟩,
   ⟨(some 25), (some (22, true)), .ld (.t 24)⟩,
   ⟨(some 26), (some (22, true)), .mv (.t 1)⟩,
   ⟨(some 27), (some (22, true)), .bin .sub (.t 25) (.t 26)⟩,
   ⟨(some 28), (some (22, true)), .call 145 [(.t 23), (.t 27)]⟩,
   ⟨(some 29), (some (17, false)), .pick (.t 22) (.t 28) (.v (.bool false))⟩,
   ⟨(some 30), none, .pick (.t 17) (.v (.bool true)) (.t 29)⟩,
   ⟨(some 4), none, .mv (.t 30)⟩])
  .ret))),
  [.t 4]⟩
theorem k121 : cFn Try.prog Try.f121 = some c121 := by kernel_rfl
theorem seenI_ok : OkT Try.prog 121 (pureSp seen_S) := by
  refine okT_fn (OkΓT.cons winFI_ok (OkΓT.cons took_ok (OkΓT.nil _))) Try.func121 (by kernel_rfl) k121 (fun x _ => ⟨by first | rfl | simp only [go_sem], by first | rfl | simp only [go_sem]⟩) ?_
  rintro ⟨t, b, s⟩ ⟨h1, h2⟩
  try dsimp only at *
  have hw := winF_at t b
  by_cases c0 : winF t b = 0
  case neg =>
    rw [decide_eq_true (.inl c0)]
    generalize winF t b = c at *
    (dsimp only [c121]; simp (maxSteps := 8000000) (implicitDefEqProofs := false) (disch := omega) only [↓reduceIte, go_sem, if_pos, if_neg, hw, eq_false c0])
    exact endT_v (.inr rfl) (by (simp (maxSteps := 8000000) (implicitDefEqProofs := false) (disch := omega) only [↓reduceIte, go_sem, if_pos, if_neg]) <;> rfl) (fun _ => rfl)
  obtain ⟨t1, t2, b1, b2⟩ := winF_rng c0
  have hsp : ∀ p : Prop, (seenP t b s ↔ p) → ∀ [Decidable p], decide (seenP t b s) = decide p := fun p h _ => decide_eq_decide.2 h
  rw [c0] at hw
  by_cases c1 : s < 1
  case pos =>
    rw [decide_eq_true (.inr (.inl c1))]
    (dsimp only [c121]; simp (maxSteps := 8000000) (implicitDefEqProofs := false) (disch := omega) only [↓reduceIte, go_sem, if_pos, if_neg, hw, eq_true c1])
    exact endT_v (.inr rfl) (by (simp (maxSteps := 8000000) (implicitDefEqProofs := false) (disch := omega) only [↓reduceIte, go_sem, if_pos, if_neg]) <;> rfl) (fun _ => rfl)
  by_cases c2 : s ≤ t - 32
  case pos =>
    rw [decide_eq_true (.inr (.inr (.inl c2)))]
    (dsimp only [c121]; simp (maxSteps := 8000000) (implicitDefEqProofs := false) (disch := omega) only [↓reduceIte, go_sem, if_pos, if_neg, hw, eq_false c1, eq_true c2])
    exact endT_v (.inr rfl) (by (simp (maxSteps := 8000000) (implicitDefEqProofs := false) (disch := omega) only [↓reduceIte, go_sem, if_pos, if_neg]) <;> rfl) (fun _ => rfl)
  by_cases c3 : s ≤ t
  case neg =>
    rw [decide_eq_false (fun h => by rcases h with h | h | h | h; exact h c0; exact c1 h; exact c2 h; exact c3 h.1)]
    (dsimp only [c121]; simp (maxSteps := 8000000) (implicitDefEqProofs := false) (disch := omega) only [↓reduceIte, go_sem, if_pos, if_neg, hw, eq_false c1, eq_false c2, eq_false c3])
    exact endT_v (.inr rfl) (by (simp (maxSteps := 8000000) (implicitDefEqProofs := false) (disch := omega) only [↓reduceIte, go_sem, if_pos, if_neg]) <;> rfl) (fun _ => rfl)
  have hk := took_at t b (t - s) (by omega)
  have hd : decide (seenP t b s) = decide ((b / 2 ^ (t - s).toNat) % 2 = 1) := decide_eq_decide.2 ⟨fun h => by rcases h with h | h | h | h; exact absurd c0 h; exact absurd h c1; exact absurd h c2; exact h.2, fun h => .inr (.inr (.inr ⟨c3, h⟩))⟩
  rw [hd]
  generalize decide ((b / 2 ^ (t - s).toNat) % 2 = 1) = y at *
  (dsimp only [c121]; simp (maxSteps := 8000000) (implicitDefEqProofs := false) (disch := omega) only [↓reduceIte, go_sem, if_pos, if_neg, hw, eq_false c1, eq_false c2, eq_true c3, hk])
  exact endT_v (.inr rfl) (by (simp (maxSteps := 8000000) (implicitDefEqProofs := false) (disch := omega) only [↓reduceIte, go_sem, if_pos, if_neg]) <;> rfl) (fun _ => rfl)
-- spec.SeenIn
def c134 : AF := ⟨22,
  (.seq (.reg [⟨(some 2), none, .box 29 (.t 0)⟩,
   ⟨(some 4), none, .mv (.v (.bool false))⟩])
  (.seq (.reg [⟨(some 5), none, .ldn 2 (.t 2)⟩,
   ⟨(some 6), none, .call 76 [(.t 5)]⟩,
   ⟨(some 7), none, .bin .neq (.t 6) (.v (.int .i64 0))⟩,
   ⟨(some 8), none, .mv (.t 7)⟩,
   ⟨(some 9), (some (8, false)), .mv (.t 1)⟩,
   ⟨(some 10), (some (8, false)), .bin .lss (.t 9) (.v (.int .i64 1))⟩,
   ⟨(some 11), none, .pick (.t 8) (.v (.bool true)) (.t 10)⟩,
   ⟨(some 12), none, .mv (.t 11)⟩,
   ⟨(some 13), (some (12, false)), .ldn 2 (.t 2)⟩,
   ⟨(some 14), (some (12, false)), .mv (.t 1)⟩,
   ⟨(some 15), (some (12, false)), .call 176 [(.t 13), (.t 14)]⟩,
   ⟨(some 16), none, .pick (.t 12) (.v (.bool true)) (.t 15)⟩,
   ⟨(some 17), none, .mv (.t 16)⟩,
   ⟨(some 18), (some (17, false)), .ldn 2 (.t 2)⟩,
   ⟨(some 19), (some (17, false)), .mv (.t 1)⟩,
   ⟨(some 20), (some (17, false)), .call 177 [(.t 18), (.t 19)]⟩,
   ⟨(some 21), none, .pick (.t 17) (.v (.bool true)) (.t 20)⟩,
   ⟨(some 4), none, .mv (.t 21)⟩])
  .ret)),
  [.t 4]⟩
theorem k134 : cFn Try.prog Try.f134 = some c134 := by kernel_rfl
theorem seenS_ok : OkT Try.prog 134 (pureSp seen_S) := by
  refine okT_fn (OkΓT.cons winFS_ok (OkΓT.cons old_ok (OkΓT.cons had_ok (OkΓT.nil _)))) Try.func134 (by kernel_rfl) k134 (fun x _ => ⟨by first | rfl | simp only [go_sem], by first | rfl | simp only [go_sem]⟩) ?_
  rintro ⟨t, b, s⟩ ⟨h1, h2⟩
  try dsimp only at *
  have hw := winF_at t b
  by_cases c0 : winF t b = 0
  case neg =>
    rw [decide_eq_true (.inl c0)]
    generalize winF t b = c at *
    (dsimp only [c134]; simp (maxSteps := 8000000) (implicitDefEqProofs := false) (disch := omega) only [↓reduceIte, go_sem, if_pos, if_neg, hw, eq_false c0])
    exact endT_v (.inr rfl) (by (simp (maxSteps := 8000000) (implicitDefEqProofs := false) (disch := omega) only [↓reduceIte, go_sem, if_pos, if_neg]) <;> rfl) (fun _ => rfl)
  obtain ⟨t1, t2, b1, b2⟩ := winF_rng c0
  have hsp : ∀ p : Prop, (seenP t b s ↔ p) → ∀ [Decidable p], decide (seenP t b s) = decide p := fun p h _ => decide_eq_decide.2 h
  rw [c0] at hw
  by_cases c1 : s < 1
  case pos =>
    rw [decide_eq_true (.inr (.inl c1))]
    (dsimp only [c134]; simp (maxSteps := 8000000) (implicitDefEqProofs := false) (disch := omega) only [↓reduceIte, go_sem, if_pos, if_neg, hw, eq_true c1])
    exact endT_v (.inr rfl) (by (simp (maxSteps := 8000000) (implicitDefEqProofs := false) (disch := omega) only [↓reduceIte, go_sem, if_pos, if_neg]) <;> rfl) (fun _ => rfl)
  have ho := old_at t b s (by omega)
  by_cases c2 : s ≤ t - 32
  case pos =>
    rw [decide_eq_true (.inr (.inr (.inl c2)))]
    rw [decide_eq_true c2] at ho
    (dsimp only [c134]; simp (maxSteps := 8000000) (implicitDefEqProofs := false) (disch := omega) only [↓reduceIte, go_sem, if_pos, if_neg, hw, eq_false c1, ho])
    exact endT_v (.inr rfl) (by (simp (maxSteps := 8000000) (implicitDefEqProofs := false) (disch := omega) only [↓reduceIte, go_sem, if_pos, if_neg]) <;> rfl) (fun _ => rfl)
  have hk := had_at t b s (by omega)
  have hd : decide (seenP t b s) = decide (hadP t b s) := decide_eq_decide.2 ⟨fun h => by rcases h with h | h | h | h; exact absurd c0 h; exact absurd h c1; exact absurd h c2; exact h, fun h => .inr (.inr (.inr h))⟩
  rw [hd]
  rw [decide_eq_false c2] at ho
  generalize decide (hadP t b s) = y at *
  (dsimp only [c134]; simp (maxSteps := 8000000) (implicitDefEqProofs := false) (disch := omega) only [↓reduceIte, go_sem, if_pos, if_neg, hw, eq_false c1, ho, hk])
  exact endT_v (.inr rfl) (by (simp (maxSteps := 8000000) (implicitDefEqProofs := false) (disch := omega) only [↓reduceIte, go_sem, if_pos, if_neg]) <;> rfl) (fun _ => rfl)

def takeW (t b s : Int) : Int × Int := if s ≤ t then (t, or64 b (2 ^ (t - s).toNat)) else if s - t ≥ 32 then (s, 1) else (s, or64 (and64 (b * 2 ^ (s - t).toNat) 4294967295) 1)
noncomputable def taken_S := specP (fun x : Int × Int × Int => [.agg [.p (.int .i64 x.1), .p (.int .i64 x.2.1)], .p (.int .i64 x.2.2)]) (fun x => winF x.1 x.2.1 = 0 ∧ 1 ≤ x.2.2 ∧ x.2.2 ≤ 1099511627776 ∧ x.1 - 32 < x.2.2) (fun x => (.agg [.p (.int .i64 (takeW x.1 x.2.1 x.2.2).1), .p (.int .i64 (takeW x.1 x.2.1 x.2.2).2)], []))
theorem taken_at (t b s : Int) (h : winF t b = 0 ∧ 1 ≤ s ∧ s ≤ 1099511627776 ∧ t - 32 < s) : taken_S [.agg [.p (.int .i64 t), .p (.int .i64 b)], .p (.int .i64 s)] = some ((.agg [.p (.int .i64 (takeW t b s).1), .p (.int .i64 (takeW t b s).2)], [])) := specP_at (enc := fun x : Int × Int × Int => [.agg [.p (.int .i64 x.1), .p (.int .i64 x.2.1)], .p (.int .i64 x.2.2)]) (by rintro ⟨a, b, c⟩ ⟨a1, b1, c1⟩ h; simp at h; simp [h]) (t, b, s) h
noncomputable def take10_S := specP (fun x : Int × Int × Int => [.agg [.p (.int .i64 x.1), .p (.int .i64 x.2.1)], .p (.int .i64 x.2.2)]) (fun x => winF x.1 x.2.1 = 0 ∧ 1 ≤ x.2.2 ∧ x.2.2 ≤ 1099511627776 ∧ x.1 - 32 < x.2.2 ∧ ¬ hadP x.1 x.2.1 x.2.2) (fun x => (.agg [.p (.int .i64 0), .p (.int .i64 x.2.2), .p (.int .i64 (takeW x.1 x.2.1 x.2.2).1), .p (.int .i64 (takeW x.1 x.2.1 x.2.2).2)], []))
theorem take10_at (t b s : Int) (h : winF t b = 0 ∧ 1 ≤ s ∧ s ≤ 1099511627776 ∧ t - 32 < s ∧ ¬ hadP t b s) : take10_S [.agg [.p (.int .i64 t), .p (.int .i64 b)], .p (.int .i64 s)] = some ((.agg [.p (.int .i64 0), .p (.int .i64 s), .p (.int .i64 (takeW t b s).1), .p (.int .i64 (takeW t b s).2)], [])) := specP_at (enc := fun x : Int × Int × Int => [.agg [.p (.int .i64 x.1), .p (.int .i64 x.2.1)], .p (.int .i64 x.2.2)]) (by rintro ⟨a, b, c⟩ ⟨a1, b1, c1⟩ h; simp at h; simp [h]) (t, b, s) h
-- (impl.Window).taken
def c123 : AF := ⟨37,
  (.seq (.reg [⟨(some 2), none, .box 29 (.t 0)⟩,
   ⟨(some 4), none, .alloc 29 [(.int .i64 0), (.int .i64 0)]⟩])
  (.seq (.seq (.reg [⟨(some 6), none, .mv (.t 1)⟩,
   ⟨(some 7), none, .fa (.t 2) 0⟩,
   ⟨(some 8), none, .ld (.t 7)⟩,
   ⟨(some 9), none, .bin .leq (.t 6) (.t 8)⟩])
  (.cond (.t 9) (.seq (.drw [⟨(some 10), none, .fa (.t 2) 0⟩,
   ⟨(some 11), none, .ld (.t 10)⟩,
   ⟨(some 12), none, .fa (.t 2) 1⟩,
   ⟨(some 13), none, .ld (.t 12)⟩,
   ⟨(some 14), none, .fa (.t 2) 0⟩,
   ⟨(some 15), none, .ld (.t 14)⟩,
   ⟨(some 16), none, .mv (.t 1)⟩,
   ⟨(some 17), none, .bin .sub (.t 15) (.t 16)⟩,
   ⟨(some 18), none, .bin .shl (.v (.int .i64 1)) (.t 17)⟩,
   ⟨(some 19), none, .bin .or (.t 13) (.t 18)⟩] [⟨(some 20), none, .build [(.int .i64 0), (.int .i64 0)] [(0, 1, (.t 11)), (1, 1, (.t 19))]⟩,
   ⟨none, none, .st 2 (.t 4) (.t 20)⟩])
  .ret)
  .skip))
  (.seq (.reg [⟨(some 21), none, .mv (.t 1)⟩,
   ⟨(some 22), none, .fa (.t 2) 0⟩,
   ⟨(some 23), none, .ld (.t 22)⟩,
   ⟨(some 24), none, .bin .sub (.t 21) (.t 23)⟩,
   ⟨(some 5), none, .mv (.t 24)⟩])
  (.seq (.seq (.reg [⟨(some 25), none, .mv (.t 5)⟩,
   ⟨(some 26), none, .bin .geq (.t 25) (.v (.int .i64 32))⟩])
  (.cond (.t 26) (.seq (.reg [⟨(some 27), none, .mv (.t 1)⟩,
   ⟨(some 28), none, .build [(.int .i64 0), (.int .i64 0)] [(0, 1, (.t 27)), (1, 1, (.v (.int .i64 1)))]⟩,
   ⟨none, none, .st 2 (.t 4) (.t 28)⟩])
  .ret)
  .skip))
  (.seq (.reg [⟨(some 29), none, .mv (.t 1)⟩,
   ⟨(some 30), none, .fa (.t 2) 1⟩,
   ⟨(some 31), none, .ld (.t 30)⟩,
   ⟨(some 32), none, .mv (.t 5)⟩,
   ⟨(some 33), none, .bin .shl (.t 31) (.t 32)⟩,
   ⟨(some 34), none, .bin .and (.t 33) (.v (.int .i64 4294967295))⟩,
   ⟨(some 35), none, .bin .or (.t 34) (.v (.int .i64 1))⟩,
   ⟨(some 36), none, .build [(.int .i64 0), (.int .i64 0)] [(0, 1, (.t 29)), (1, 1, (.t 35))]⟩,
   ⟨none, none, .st 2 (.t 4) (.t 36)⟩])
  .ret))))),
  [.cell 4 (some 2)]⟩
theorem k123 : cFn Try.prog Try.f123 = some c123 := by kernel_rfl
theorem takenI_ok : OkT Try.prog 123 (pureSp taken_S) := by
  refine okT_fn (OkΓT.nil _) Try.func123 (by kernel_rfl) k123 (fun x _ => ⟨by first | rfl | simp only [go_sem], by first | rfl | simp only [go_sem]⟩) ?_
  rintro ⟨t, b, s⟩ ⟨h1, h2, h3, h4⟩
  try dsimp only at *
  obtain ⟨t1, t2, b1, b2⟩ := winF_rng h1
  by_cases c0 : s ≤ t
  · have hp := p2k (k := t - s) (by omega)
    have q1 := shl_at (n := 1) (k := t - s) (kk := .i64) (by omega) ⟨by omega, by omega⟩
    rw [Int.one_mul] at q1
    have w1 := wu64 (n := t - s) (by omega)
    generalize hg : (2 : Int) ^ (t - s).toNat = pw at *
    have q2 := or_run (a := b) (b := pw) (by omega) (by omega)
    have he : takeW t b s = (t, or64 b pw) := by unfold takeW; rw [if_pos c0, hg]
    rw [he]
    generalize or64 b pw = ov at *
    (dsimp only [c123]; simp (maxSteps := 8000000) (implicitDefEqProofs := false) (disch := omega) only [↓reduceIte, go_sem, if_pos, if_neg, eq_true c0, ↓q1, ↓q2, w1])
    exact endT_v (.inr rfl) (by (simp (maxSteps := 8000000) (implicitDefEqProofs := false) (disch := omega) only [↓reduceIte, go_sem, if_pos, if_neg]) <;> rfl) (fun _ => rfl)
  · by_cases c1 : s - t ≥ 32
    · have he : takeW t b s = (s, 1) := by unfold takeW; rw [if_neg c0, if_pos c1]
      rw [he]
      (dsimp only [c123]; simp (maxSteps := 8000000) (implicitDefEqProofs := false) (disch := omega) only [↓reduceIte, go_sem, if_pos, if_neg, eq_false c0, eq_true c1])
      exact endT_v (.inr rfl) (by (simp (maxSteps := 8000000) (implicitDefEqProofs := false) (disch := omega) only [↓reduceIte, go_sem, if_pos, if_neg]) <;> rfl) (fun _ => rfl)
    · have hp := p2k (k := s - t) (by omega)
      have hbp : b * (2 : Int) ^ (s - t).toNat ≤ 4294967295 * 2147483648 := Int.mul_le_mul b2 hp.1 (by omega) (by decide)
      have hb0 : 0 ≤ b * (2 : Int) ^ (s - t).toNat := Int.mul_nonneg b1 (by omega)
      have q1 := shl_at (n := b) (k := s - t) (kk := .i64) (by omega) ⟨b1, by omega⟩
      have w1 := wu64 (n := s - t) (by omega)
      have he : takeW t b s = (s, or64 (and64 (b * 2 ^ (s - t).toNat) 4294967295) 1) := by unfold takeW; rw [if_neg c0, if_neg c1]
      rw [he]
      generalize b * (2 : Int) ^ (s - t).toNat = pw at *
      have ha := and_le (a := pw) (b := 4294967295) (by decide)
      have q2 := and_run (a := pw) (b := 4294967295) (by decide)
      have q3 := or_run (a := and64 pw 4294967295) (b := 1) (by omega) (by decide)
      generalize and64 pw 4294967295 = av at *
      generalize or64 av 1 = ov at *
      (dsimp only [c123]; simp (maxSteps := 8000000) (implicitDefEqProofs := false) (disch := omega) only [↓reduceIte, go_sem, if_pos, if_neg, eq_false c0, eq_false c1, ↓q1, ↓q2, ↓q3, w1])
      exact endT_v (.inr rfl) (by (simp (maxSteps := 8000000) (implicitDefEqProofs := false) (disch := omega) only [↓reduceIte, go_sem, if_pos, if_neg]) <;> rfl) (fun _ => rfl)
-- spec.l10Take
def c136 : AF := ⟨55,
  (.seq (.reg [⟨(some 2), none, .box 29 (.t 0)⟩,
   ⟨(some 4), none, .alloc 145 [(.int .i64 0), (.int .i64 0), (.int .i64 0), (.int .i64 0)]⟩])
  (.seq (.seq (.reg [⟨(some 7), none, .mv (.t 1)⟩,
   ⟨(some 8), none, .call 74 [(.t 7), (.v (.int .i64 1)), (.v (.int .i64 1099511627776))]⟩,
   ⟨(some 9), none, .un .not (.t 8)⟩])
  (.cond (.t 9) (.seq (.reg [⟨(some 10), none, .build [(.int .i64 0), (.int .i64 0), (.int .i64 0), (.int .i64 0)] [(0, 1, (.v (.int .i64 3)))]⟩,
   ⟨none, none, .st 4 (.t 4) (.t 10)⟩])
  .ret)
  .skip))
  (.seq (.seq (.reg [⟨(some 11), none, .ldn 2 (.t 2)⟩,
   ⟨(some 12), none, .mv (.t 1)⟩,
   ⟨(some 13), none, .call 176 [(.t 11), (.t 12)]⟩])
  (.cond (.t 13) (.seq (.reg [⟨(some 14), none, .build [(.int .i64 0), (.int .i64 0), (.int .i64 0), (.int .i64 0)] [(0, 1, (.v (.int .i64 10)))]⟩,
   ⟨none, none, .st 4 (.t 4) (.t 14)⟩])
  .ret)
  .skip))
  (.seq (.seq (.reg [⟨(some 15), none, .ldn 2 (.t 2)⟩,
   ⟨(some 16), none, .mv (.t 1)⟩,
   ⟨(some 17), none, .call 177 [(.t 15), (.t 16)]⟩])
  (.cond (.t 17) (.seq (.reg [⟨(some 18), none, .build [(.int .i64 0), (.int .i64 0), (.int .i64 0), (.int .i64 0)] [(0, 1, (.v (.int .i64 7)))]⟩,
   ⟨none, none, .st 4 (.t 4) (.t 18)⟩])
  .ret)
  .skip))
  (.seq (.seq (.reg [⟨(some 19), none, .mv (.t 1)⟩,
   ⟨(some 20), none, .fa (.t 2) 0⟩,
   ⟨(some 21), none, .ld (.t 20)⟩,
   ⟨(some 22), none, .bin .leq (.t 19) (.t 21)⟩])
  (.cond (.t 22) (.seq (.reg [⟨(some 23), none, .mv (.t 1)⟩,
   ⟨(some 24), none, .fa (.t 2) 0⟩,
   ⟨(some 25), none, .ld (.t 24)⟩,
   ⟨(some 26), none, .fa (.t 2) 1⟩,
   ⟨(some 27), none, .ld (.t 26)⟩,
   ⟨(some 28), none, .fa (.t 2) 0⟩,
   ⟨(some 29), none, .ld (.t 28)⟩,
   ⟨(some 30), none, .mv (.t 1)⟩,
   ⟨(some 31), none, .bin .sub (.t 29) (.t 30)⟩,
   ⟨(some 32), none, .cvI .u64 (.t 31)⟩,
   ⟨(some 33), none, .bin .shl (.v (.int .i64 1)) (.t 32)⟩,
   ⟨(some 34), none, .bin .or (.t 27) (.t 33)⟩,
   ⟨(some 35), none, .build [(.int .i64 0), (.int .i64 0)] [(0, 1, (.t 25)), (1, 1, (.t 34))]⟩,
   ⟨(some 36), none, .build [(.int .i64 0), (.int .i64 0), (.int .i64 0), (.int .i64 0)] [(1, 1, (.t 23)), (2, 2, (.t 35))]⟩,
   ⟨none, none, .st 4 (.t 4) (.t 36)⟩])
  .ret)
  .skip))
  (.seq (.reg [⟨(some 5), none, .mv (.v (.int .i64 1))⟩])
  (.seq (.seq (.reg [⟨(some 37), none, .mv (.t 1)⟩,
   ⟨(some 38), none, .fa (.t 2) 0⟩,
   ⟨(some 39), none, .ld (.t 38)⟩,
   ⟨(some 40), none, .bin .sub (.t 37) (.t 39)⟩,
   ⟨(some 6), none, .mv (.t 40)⟩])
  (.seq (.reg [⟨(some 41), none, .mv (.t 6)⟩,
   ⟨(some 42), none, .bin .lss (.t 41) (.v (.int .i64 32))⟩])
  (.cond (.t 42) (.reg [⟨(some 43), none, .fa (.t 2) 1⟩,
   ⟨(some 44), none, .ld (.t 43)⟩,
   ⟨(some 45), none, .mv (.t 6)⟩,
   ⟨(some 46), none, .cvI .u64 (.t 45)⟩,
   ⟨(some 47), none, .bin .shl (.t 44) (.t 46)⟩,
   ⟨(some 48), none, .bin .or (.t 47) (.v (.int .i64 1))⟩,
   ⟨(some 49), none, .bin .and (.t 48) (.v (.int .i64 4294967295))⟩,
   ⟨(some 5), none, .mv (.t 49)⟩])
  .skip)))
  (.seq (.reg [⟨(some 50), none, .mv (.t 1)⟩,
   ⟨(some 51), none, .mv (.t 1)⟩,
   ⟨(some 52), none, .mv (.t 5)⟩,
   ⟨(some 53), none, .build [(.int .i64 0), (.int .i64 0)] [(0, 1, (.t 51)), (1, 1, (.t 52))]⟩,
   ⟨(some 54), none, .build [(.int .i64 0), (.int .i64 0), (.int .i64 0), (.int .i64 0)] [(1, 1, (.t 50)), (2, 2, (.t 53))]⟩,
   ⟨none, none, .st 4 (.t 4) (.t 54)⟩])
  .ret)))))))),
  [.cell 4 (some 4)]⟩
theorem k136 : cFn Try.prog Try.f136 = some c136 := by kernel_rfl
theorem takeS_ok : OkT Try.prog 136 (pureSp take10_S) := by
  refine okT_fn (OkΓT.cons l1In_ok (OkΓT.cons old_ok (OkΓT.cons had_ok (OkΓT.nil _)))) Try.func136 (by kernel_rfl) k136 (fun x _ => ⟨by first | rfl | simp only [go_sem], by first | rfl | simp only [go_sem]⟩) ?_
  rintro ⟨t, b, s⟩ ⟨h1, h2, h3, h4, h5⟩
  try dsimp only at *
  obtain ⟨t1, t2, b1, b2⟩ := winF_rng h1
  have ho := old_at t b s (by omega)
  rw [decide_eq_false (show ¬ s ≤ t - 32 by omega)] at ho
  have hk := had_at t b s (by omega)
  rw [decide_eq_false h5] at hk
  by_cases c0 : s ≤ t
  · have hp := p2k (k := t - s) (by omega)
    have q1 := shl_at (n := 1) (k := t - s) (kk := .u64) (by omega) ⟨by omega, by omega⟩
    rw [Int.one_mul] at q1
    have w1 := wu64 (n := t - s) (by omega)
    generalize hg : (2 : Int) ^ (t - s).toNat = pw at *
    have q2 := or_run (a := b) (b := pw) (by omega) (by omega)
    have he : takeW t b s = (t, or64 b pw) := by unfold takeW; rw [if_pos c0, hg]
    rw [he]
    generalize or64 b pw = ov at *
    (dsimp only [c136]; simp (maxSteps := 8000000) (implicitDefEqProofs := false) (disch := omega) only [↓reduceIte, go_sem, if_pos, if_neg, ho, hk, in_at, eq_true (show 1 ≤ s ∧ s ≤ 1099511627776 by omega), eq_true c0, ↓q1, ↓q2, w1])
    exact endT_v (.inr rfl) (by (simp (maxSteps := 8000000) (implicitDefEqProofs := false) (disch := omega) only [↓reduceIte, go_sem, if_pos, if_neg]) <;> rfl) (fun _ => rfl)
  · by_cases c1 : s - t ≥ 32
    · have he : takeW t b s = (s, 1) := by unfold takeW; rw [if_neg c0, if_pos c1]
      rw [he]
      (dsimp only [c136]; simp (maxSteps := 8000000) (implicitDefEqProofs := false) (disch := omega) only [↓reduceIte, go_sem, if_pos, if_neg, ho, hk, in_at, eq_true (show 1 ≤ s ∧ s ≤ 1099511627776 by omega), eq_false c0, eq_false (show ¬ s - t < 32 by omega)])
      exact endT_v (.inr rfl) (by (simp (maxSteps := 8000000) (implicitDefEqProofs := false) (disch := omega) only [↓reduceIte, go_sem, if_pos, if_neg]) <;> rfl) (fun _ => rfl)
    · have hp := p2k (k := s - t) (by omega)
      have hbp : b * (2 : Int) ^ (s - t).toNat ≤ 4294967295 * 2147483648 := Int.mul_le_mul b2 hp.1 (by omega) (by decide)
      have hb0 : 0 ≤ b * (2 : Int) ^ (s - t).toNat := Int.mul_nonneg b1 (by omega)
      have q1 := shl_at (n := b) (k := s - t) (kk := .u64) (by omega) ⟨b1, by omega⟩
      have w1 := wu64 (n := s - t) (by omega)
      have he : takeW t b s = (s, or64 (and64 (b * 2 ^ (s - t).toNat) 4294967295) 1) := by unfold takeW; rw [if_neg c0, if_neg c1]
      rw [he]
      generalize b * (2 : Int) ^ (s - t).toNat = pw at *
      rw [and_or]
      have q2 := or_run (a := pw) (b := 1) (by omega) (by decide)
      have q3 := and_run (a := or64 pw 1) (b := 4294967295) (by decide)
      generalize or64 pw 1 = av at *
      generalize and64 av 4294967295 = ov at *
      (dsimp only [c136]; simp (maxSteps := 8000000) (implicitDefEqProofs := false) (disch := omega) only [↓reduceIte, go_sem, if_pos, if_neg, ho, hk, in_at, eq_true (show 1 ≤ s ∧ s ≤ 1099511627776 by omega), eq_false c0, eq_true (show s - t < 32 by omega), ↓q1, ↓q2, ↓q3, w1])
      exact endT_v (.inr rfl) (by (simp (maxSteps := 8000000) (implicitDefEqProofs := false) (disch := omega) only [↓reduceIte, go_sem, if_pos, if_neg]) <;> rfl) (fun _ => rfl)
end Go.Proofs.Ytngebdcbcliobaa
