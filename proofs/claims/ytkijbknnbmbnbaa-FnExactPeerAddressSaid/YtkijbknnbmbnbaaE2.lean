import Derived.Test.YtkijbknnbmbnbaaE1
set_option linter.unusedSimpArgs false
set_option linter.unusedVariables false
set_option maxRecDepth 100000
set_option maxHeartbeats 4000000
namespace Go.Proofs.Ytkijbknnbmbnbaa
open Go Go.AH
attribute [local irreducible] awpT ropsT qopsT stepT condKT gdKT EndT joinK loopKT seqKT blkKT kont kontR
/-! The number of bytes -/
def takeN (l : List Int) : Int := l.foldl (fun a b => a * 256 + b) 0
theorem takeN_nil : takeN [] = 0 := rfl
theorem takeN_snoc (l : List Int) (x : Int) : takeN (l ++ [x]) = takeN l * 256 + x := by simp [takeN]
theorem takeN_succ {l : List Int} {k : Nat} (hk : k < l.length) : takeN (l.take (k + 1)) = takeN (l.take k) * 256 + l.getD k 0 := by
  rw [List.take_succ_eq_append_getElem hk, takeN_snoc]; simp [hk]
theorem takeN_bd (l : List Int) (h : isB l) : ∀ k, 0 ≤ takeN (l.take k) ∧ takeN (l.take k) < 256 ^ k
  | 0 => by simp [takeN]
  | k + 1 => by
    have ih := takeN_bd l h k
    by_cases hk : k < l.length
    · have hx := h l[k] (by simp)
      rw [List.take_succ_eq_append_getElem hk, takeN_snoc, Int.pow_succ]
      omega
    · rw [List.take_of_length_le (by omega)]
      rw [List.take_of_length_le (by omega)] at ih
      rw [Int.pow_succ]; omega
theorem takeN_bd6 (l : List Int) (h : isB l) {k : Nat} (hk : k ≤ 6) : 0 ≤ takeN (l.take k) ∧ takeN (l.take k) ≤ 281474976710656 := by
  have hbd := takeN_bd l h k
  have hp6 : (256 : Int) ^ k ≤ 281474976710656 := by
    have : k = 0 ∨ k = 1 ∨ k = 2 ∨ k = 3 ∨ k = 4 ∨ k = 5 ∨ k = 6 := by omega
    rcases this with rfl | rfl | rfl | rfl | rfl | rfl | rfl <;> decide
  omega
theorem w64' {n : Int} (h : -9223372036854775808 ≤ n ∧ n ≤ 9223372036854775807) : IntKind.i64.wrap n = n := by rw [IntKind.wrap_i64]; omega
theorem shl8 {n : Int} (h : 0 ≤ n ∧ n ≤ 281474976710656) : abin .shl (.int .i64 n) (.int .u64 8) = some (.int .i64 (n * 256)) := by
  simp only [abin]
  rw [if_neg (by decide), show (2 : Int) ^ (min (Int.toNat 8) IntKind.i64.bits) = 256 from rfl, w64' (by omega)]
theorem or8 {n b : Int} (h : 0 ≤ n ∧ n ≤ 281474976710656) (hb : 0 ≤ b ∧ b < 256) : abin .or (.int .i64 (n * 256)) (.int .i64 b) = some (.int .i64 (n * 256 + b)) := by
  obtain ⟨N, rfl⟩ := Int.eq_ofNat_of_zero_le h.1
  obtain ⟨B, rfl⟩ := Int.eq_ofNat_of_zero_le hb.1
  show some (Value.int .i64 (IntKind.i64.wrap (BitVec.ofInt 64 ((N : Int) * 256) ||| BitVec.ofInt 64 (B : Int)).toNat)) = _
  have e2 : ((N : Int) * 256) = ((N * 256 : Nat) : Int) := by simp
  have e3 : (BitVec.ofInt 64 ((N * 256 : Nat) : Int) ||| BitVec.ofInt 64 (B : Int)).toNat = N * 256 + B := by
    rw [BitVec.toNat_or]
    simp only [BitVec.ofInt_natCast, BitVec.toNat_ofNat]
    rw [Nat.mod_eq_of_lt (by omega), Nat.mod_eq_of_lt (by omega)]
    have h8 := Nat.shiftLeft_add_eq_or_of_lt (i := 8) (b := B) (by omega) N
    rw [Nat.shiftLeft_eq, show (2 : Nat) ^ 8 = 256 from rfl] at h8
    exact h8.symm
  rw [e2, e3, w64' (n := ((N * 256 + B : Nat) : Int)) (by omega)]; simp
noncomputable def take_S := specP (fun x : List Int => [.s (bsT x)]) (fun x => isB x ∧ x.length ≤ 7) (fun x => (.p (.int .i64 (takeN x)), []))
theorem take_at (l : List Int) (h : isB l) (hl : l.length ≤ 7) : take_S [.s (bsT l)] = some (.p (.int .i64 (takeN l)), []) :=
  specP_at (enc := fun x : List Int => [.s (bsT x)]) (by intro a b h; simp at h; exact bs_inj h) l ⟨h, hl⟩
-- impl.take
def c111 : AF := ⟨19,
  (.seq (.reg [⟨(some 2), none, .mv (.v (.int .i64 0))⟩])
  (.seq (.reg [⟨(some 3), none, .mv (.v (.int .i64 0))⟩])
  (.seq (.seq (.reg [⟨(some 6), none, .mv (.t 0)⟩,
   ⟨(some 7), none, .len (.t 6)⟩,
   ⟨(some 8), none, .mv (.v (.int .i64 0))⟩])
  (.block 0 (.loop (.seq (.reg [⟨(some 9), none, .bin .lss (.t 8) (.t 7)⟩])
  (.seq (.cond (.t 9) .skip
  (.exit 0))
  (.seq (.block 1 (.seq (.reg [⟨(some 10), none, .ia 1 (.t 6) (.t 8)⟩,
   ⟨(some 11), none, .ld (.t 10)⟩,
   ⟨(some 5), none, .mv (.t 11)⟩])
  (.reg [⟨(some 12), none, .mv (.t 3)⟩,
   ⟨(some 13), none, .bin .shl (.t 12) (.v (.int .u64 8))⟩,
   ⟨(some 14), none, .mv (.t 5)⟩,
   ⟨(some 15), none, .cvI .i64 (.t 14)⟩,
   ⟨(some 16), none, .bin .or (.t 13) (.t 15)⟩,
   ⟨(some 3), none, .mv (.t 16)⟩])))
  (.reg [⟨(some 17), none, .bin .add (.t 8) (.v (.int .i64 1))⟩,
   ⟨(some 8), none, .mv (.t 17)⟩])))))))
  (.seq (.reg [⟨(some 18), none, .mv (.t 3)⟩,
   ⟨(some 2), none, .mv (.t 18)⟩])
  .ret)))),
  [.t 2]⟩
theorem k111 : cFn Try.prog Try.f111 = some c111 := by kernel_rfl
theorem take_ok : OkT Try.prog 111 (pureSp take_S) := by
  refine okT_fn (OkΓT.nil _) Try.func111 (by kernel_rfl) k111 (fun x _ => ⟨rfl, by simp only [go_sem]⟩) ?_
  rintro l ⟨hb, hl⟩
  dsimp only at *
  have hlen := bs_len l
  (dsimp only [c111]; simp (maxSteps := 8000000) (implicitDefEqProofs := false) (disch := omega) only [↓reduceIte, go_sem, if_pos, if_neg, hlen])
  refine awpT_loop (α := Nat) (fun k => ⟨slots [(3, .p (.int .i64 (takeN (l.take k)))), (6, .s (bsT l)), (7, .p (.int .i64 l.length)), (8, .p (.int .i64 k))], []⟩) (fun k => k ≤ l.length) (fun k => l.length - k) 0 (Nat.zero_le _) (by simp only [List.take_zero, nat0T, takeN_nil]; exact (le_of [] (by simp (maxSteps := 8000000) (implicitDefEqProofs := false) (disch := omega) only [↓reduceIte, go_sem, if_pos, if_neg]) (by simp (maxSteps := 8000000) (implicitDefEqProofs := false) (disch := omega) only [↓reduceIte, go_sem, if_pos, if_neg]) (by decide) (by simp))) ?_
  intro k hk
  simp (maxSteps := 8000000) (implicitDefEqProofs := false) (disch := omega) only [↓reduceIte, go_sem, if_pos, if_neg]
  refine condKT_dec (fun hlt => ?_) (fun hge => ?_)
  · have hk' : k < l.length := by omega
    have hy := bs_get hk'
    have hel := isB_get hb k
    have hn := takeN_bd6 l hb (k := k) (by omega)
    have q1 := shl8 hn
    have q2 := or8 hn hel
    have hsn := takeN_succ hk'
    simp (maxSteps := 8000000) (implicitDefEqProofs := false) (disch := omega) only [↓reduceIte, go_sem, if_pos, if_neg, eq_true hlt, hlen, Int.toNat_natCast, hy, ↓q1, ↓q2]
    refine loopKT_next (k + 1) (by omega) (by omega) ?_
    rw [hsn]
    exact (le_of [] (by simp (maxSteps := 8000000) (implicitDefEqProofs := false) (disch := omega) only [↓reduceIte, go_sem, if_pos, if_neg]) (by simp (maxSteps := 8000000) (implicitDefEqProofs := false) (disch := omega) only [↓reduceIte, go_sem, if_pos, if_neg]) (by decide) (by simp))
  · have hN : k = l.length := by omega
    subst hN
    simp (maxSteps := 8000000) (implicitDefEqProofs := false) (disch := omega) only [↓reduceIte, go_sem, if_pos, if_neg, eq_false hge, List.take_length]
    refine joinK_here ?_
    simp (maxSteps := 8000000) (implicitDefEqProofs := false) (disch := omega) only [↓reduceIte, go_sem, if_pos, if_neg]
    exact endT_of [] (.inr rfl) (by simp (maxSteps := 8000000) (implicitDefEqProofs := false) (disch := omega) only [↓reduceIte, go_sem, if_pos, if_neg]; rfl) (by simp (maxSteps := 8000000) (implicitDefEqProofs := false) (disch := omega) only [↓reduceIte, go_sem, if_pos, if_neg]) (by simp (maxSteps := 8000000) (implicitDefEqProofs := false) (disch := omega) only [↓reduceIte, go_sem, if_pos, if_neg]) (by decide) (by simp)
noncomputable def l1Take_S := specP (fun x : List Int × Nat × Nat => [.s (bsT x.1), .p (.int .i64 x.2.1), .p (.int .i64 x.2.2)]) (fun x => isB x.1 ∧ x.2.1 + x.2.2 ≤ x.1.length ∧ x.2.2 ≤ 7 ∧ x.1.length ≤ 1073741824) (fun x => (.p (.int .i64 (takeN ((x.1.drop x.2.1).take x.2.2))), []))
theorem l1Take_at (l : List Int) (a n : Nat) (h : isB l) (hl : a + n ≤ l.length) (hn : n ≤ 7) (hL : l.length ≤ 1073741824) : l1Take_S [.s (bsT l), .p (.int .i64 a), .p (.int .i64 n)] = some (.p (.int .i64 (takeN ((l.drop a).take n))), []) :=
  specP_at (enc := fun x : List Int × Nat × Nat => [.s (bsT x.1), .p (.int .i64 x.2.1), .p (.int .i64 x.2.2)]) (by rintro ⟨a, b, c⟩ ⟨a', b', c'⟩ h; simp at h; obtain ⟨h1, h2, h3⟩ := h; simp [bs_inj h1]; omega) (l, a, n) ⟨h, hl, hn, hL⟩
-- spec.l1Take
def c192 : AF := ⟨25,
  (.seq (.reg [⟨(some 6), none, .mv (.v (.int .i64 0))⟩])
  (.seq (.reg [⟨(some 7), none, .mv (.v (.int .i64 0))⟩])
  (.seq (.seq (.reg [⟨(some 8), none, .mv (.v (.int .i64 0))⟩])
  (.block 0 (.loop (.seq (.seq (.reg [⟨(some 9), none, .mv (.t 8)⟩,
   ⟨(some 10), none, .mv (.t 2)⟩,
   ⟨(some 11), none, .bin .lss (.t 9) (.t 10)⟩])
  (.cond (.t 11) .skip
  (.exit 0)))
  (.seq (.block 1 (.reg [⟨(some 14), none, .mv (.t 7)⟩,
   ⟨(some 15), none, .bin .mul (.t 14) (.v (.int .i64 256))⟩,
   ⟨(some 16), none, .mv (.t 0)⟩,
   ⟨(some 17), none, .mv (.t 1)⟩,
   ⟨(some 18), none, .mv (.t 8)⟩,
   ⟨(some 19), none, .bin .add (.t 17) (.t 18)⟩,
   ⟨(some 20), none, .ia 1 (.t 16) (.t 19)⟩,
   ⟨(some 21), none, .ld (.t 20)⟩,
   ⟨(some 22), none, .cvI .i64 (.t 21)⟩,
   ⟨(some 23), none, .bin .add (.t 15) (.t 22)⟩,
   ⟨(some 7), none, .mv (.t 23)⟩]))
  (.reg [⟨(some 12), none, .mv (.t 8)⟩,
   ⟨(some 13), none, .bin .add (.t 12) (.v (.int .i64 1))⟩,
   ⟨(some 8), none, .mv (.t 13)⟩]))))))
  (.seq (.reg [⟨(some 24), none, .mv (.t 7)⟩,
   ⟨(some 6), none, .mv (.t 24)⟩])
  .ret)))),
  [.t 6]⟩
theorem k192 : cFn Try.prog Try.f192 = some c192 := by kernel_rfl
theorem l1Take_ok : OkT Try.prog 192 (pureSp l1Take_S) := by
  refine okT_fn (OkΓT.nil _) Try.func192 (by kernel_rfl) k192 (fun x _ => ⟨rfl, by simp only [go_sem]⟩) ?_
  rintro ⟨l, A, N⟩ ⟨hb, hl, hn, hL⟩
  dsimp only at *
  have hlen := bs_len l
  (dsimp only [c192]; simp (maxSteps := 8000000) (implicitDefEqProofs := false) (disch := omega) only [↓reduceIte, go_sem, if_pos, if_neg, hlen])
  refine awpT_loop (α := Nat) (fun k => ⟨slots [(0, .s (bsT l)), (1, .p (.int .i64 A)), (2, .p (.int .i64 N)), (7, .p (.int .i64 (takeN ((l.drop A).take k)))), (8, .p (.int .i64 k))], []⟩) (fun k => k ≤ N) (fun k => N - k) 0 (Nat.zero_le _) (by simp only [List.take_zero, nat0T, takeN_nil]; exact (le_of [] (by simp (maxSteps := 8000000) (implicitDefEqProofs := false) (disch := omega) only [↓reduceIte, go_sem, if_pos, if_neg]) (by simp (maxSteps := 8000000) (implicitDefEqProofs := false) (disch := omega) only [↓reduceIte, go_sem, if_pos, if_neg]) (by decide) (by simp))) ?_
  intro k hk
  simp (maxSteps := 8000000) (implicitDefEqProofs := false) (disch := omega) only [↓reduceIte, go_sem, if_pos, if_neg]
  refine condKT_dec (fun hlt => ?_) (fun hge => ?_)
  · have hk' : A + k < l.length := by omega
    have hkd : k < (l.drop A).length := by rw [List.length_drop]; omega
    have hy := bs_get hk'
    have hel := isB_get hb (A + k)
    have hn := takeN_bd6 (l.drop A) (isB_drop hb A) (k := k) (by omega)
    have hsn := takeN_succ hkd
    have hg : (l.drop A).getD k 0 = l.getD (A + k) 0 := by simp [hk', hkd]
    rw [hg] at hsn
    have et : ((A : Int) + k).toNat = A + k := by omega
    simp (maxSteps := 8000000) (implicitDefEqProofs := false) (disch := omega) only [↓reduceIte, go_sem, if_pos, if_neg, eq_true hlt, hlen, et, hy]
    refine loopKT_next (k + 1) (by omega) (by omega) ?_
    rw [hsn]
    exact (le_of [] (by simp (maxSteps := 8000000) (implicitDefEqProofs := false) (disch := omega) only [↓reduceIte, go_sem, if_pos, if_neg]) (by simp (maxSteps := 8000000) (implicitDefEqProofs := false) (disch := omega) only [↓reduceIte, go_sem, if_pos, if_neg]) (by decide) (by simp))
  · have hN : k = N := by omega
    subst hN
    simp (maxSteps := 8000000) (implicitDefEqProofs := false) (disch := omega) only [↓reduceIte, go_sem, if_pos, if_neg, eq_false hge]
    refine joinK_here ?_
    simp (maxSteps := 8000000) (implicitDefEqProofs := false) (disch := omega) only [↓reduceIte, go_sem, if_pos, if_neg]
    exact endT_of [] (.inr rfl) (by simp (maxSteps := 8000000) (implicitDefEqProofs := false) (disch := omega) only [↓reduceIte, go_sem, if_pos, if_neg]; rfl) (by simp (maxSteps := 8000000) (implicitDefEqProofs := false) (disch := omega) only [↓reduceIte, go_sem, if_pos, if_neg]) (by simp (maxSteps := 8000000) (implicitDefEqProofs := false) (disch := omega) only [↓reduceIte, go_sem, if_pos, if_neg]) (by decide) (by simp)
end Go.Proofs.Ytkijbknnbmbnbaa
