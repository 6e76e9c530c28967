import Derived.Test.YtkijbknnbmbnbaaD1
set_option linter.unusedSimpArgs false
set_option linter.unusedVariables false
set_option maxRecDepth 100000
set_option maxHeartbeats 4000000
namespace Go.Proofs.Ytkijbknnbmbnbaa
open Go Go.AH
attribute [local irreducible] awpT ropsT qopsT stepT condKT gdKT EndT joinK loopKT seqKT blkKT kont kontR
/-! A number's bytes, the highest first -/
def putL (v : Int) (n : Nat) : List Int := (List.range n).map fun i => v / 256 ^ (n - 1 - i) % 256
theorem putL_len (v : Int) (n : Nat) : (putL v n).length = n := by simp [putL]
theorem putL_bd (v : Int) (n : Nat) : isB (putL v n) := by
  intro x hx; simp [putL] at hx; obtain ⟨i, _, rfl⟩ := hx; omega
theorem putL_take (v : Int) (n j : Nat) (hj : j < n) : (putL v n).take (j + 1) = (putL v n).take j ++ [v / 256 ^ (n - 1 - j) % 256] := by
  rw [List.take_succ_eq_append_getElem (by rw [putL_len]; exact hj)]
  simp [putL]
theorem shr256 (v : Int) (m : Nat) : v.fdiv (2 ^ (8 * m)) = v / 256 ^ m := by
  rw [Int.fdiv_eq_ediv_of_nonneg _ (Int.pow_nonneg (by decide)), Int.pow_mul]; rfl
theorem shr_by (v : Int) {k : Int} {m : Nat} (hk : k = 8 * (m : Int)) (hm : m ≤ 7) : abin .shr (.int .i64 v) (.int .u64 k) = some (.int .i64 (v / 256 ^ m)) := by
  subst hk
  simp only [abin]
  rw [if_neg (by omega), ← shr256]
  congr 3
  rw [show (8 * (m : Int)).toNat = 8 * m by omega]
  show 2 ^ min (8 * m) 64 = 2 ^ (8 * m)
  congr 1
  omega
theorem wu64 {n : Int} (h : 0 ≤ n ∧ n ≤ 9223372036854775807) : IntKind.u64.wrap n = n := by
  have : IntKind.u64.wrap n = n % 18446744073709551616 := by rfl
  rw [this]; omega
def putC (v : Int) (n j : Nat) : List Int := List.replicate (n - j) 0 ++ (putL v n).drop (n - j)
theorem putC_len (v : Int) (n j : Nat) (hj : j ≤ n) : (putC v n j).length = n := by simp [putC, putL_len]
theorem putC_zero (v : Int) (n : Nat) : bsT (putC v n 0) = List.replicate n (.p (.int .u8 0)) := by
  have : (putL v n).drop n = [] := List.drop_eq_nil_of_le (by rw [putL_len]; omega)
  simp [putC, this, bsT, bT]
theorem putC_full (v : Int) (n : Nat) : putC v n n = putL v n := by simp [putC]
theorem putC_step (v : Int) (n j : Nat) (hj : j < n) : (bsT (putC v n j)).set (n - 1 - j) (.p (.int .u8 (v / 256 ^ j % 256))) = bsT (putC v n (j + 1)) := by
  rw [bs_set]
  congr 1
  simp only [putC]
  have e1 : n - j = (n - 1 - j) + 1 := by omega
  rw [e1, show n - (j + 1) = n - 1 - j by omega, List.replicate_succ']
  rw [List.append_assoc, List.set_append_right _ _ (by simp)]
  simp only [List.length_replicate, Nat.sub_self, List.cons_append, List.nil_append, List.set_cons_zero]
  congr 1
  rw [List.drop_eq_getElem_cons (i := n - 1 - j) (by rw [putL_len]; omega)]
  congr 1
  simp only [putL, List.getElem_map, List.getElem_range]
  rw [show n - 1 - (n - 1 - j) = j by omega]
theorem sized_b1 (v : Value) : sizedT 1 [.p v] = true := rfl
noncomputable def put_S := specP (fun x : Int × Nat => [.p (.int .i64 x.1), .p (.int .i64 x.2)]) (fun x => 0 ≤ x.1 ∧ x.1 ≤ 4611686018427387904 ∧ 1 ≤ x.2 ∧ x.2 ≤ 7) (fun x => (.os 0 0 x.2, [.cells 5 1 (bsT (putL x.1 x.2))]))
theorem put_at (v : Int) (n : Nat) (h : 0 ≤ v ∧ v ≤ 4611686018427387904) (hn : 1 ≤ n ∧ n ≤ 7) : put_S [.p (.int .i64 v), .p (.int .i64 n)] = some (.os 0 0 n, [.cells 5 1 (bsT (putL v n))]) :=
  specP_at (enc := fun x : Int × Nat => [.p (.int .i64 x.1), .p (.int .i64 x.2)]) (by rintro ⟨a, b⟩ ⟨a', b'⟩ h; simp at h; obtain ⟨h1, h2⟩ := h; simp; omega) (v, n) ⟨h.1, h.2, hn.1, hn.2⟩
-- spec.l1Bytes
def c109 : AF := ⟨24,
  (.seq (.reg [⟨(some 4), none, .mv (.v (.slice none 0 0))⟩])
  (.seq (.reg [⟨(some 7), none, .mkS 5 0 [] []⟩,
   ⟨(some 5), none, .mv (.t 7)⟩])
  (.seq (.seq (.reg [⟨(some 8), none, .mv (.t 1)⟩,
   ⟨(some 9), none, .bin .sub (.t 8) (.v (.int .i64 1))⟩,
   ⟨(some 6), none, .mv (.t 9)⟩])
  (.block 0 (.loop (.seq (.seq (.reg [⟨(some 10), none, .mv (.t 6)⟩,
   ⟨(some 11), none, .bin .geq (.t 10) (.v (.int .i64 0))⟩])
  (.cond (.t 11) .skip
  (.exit 0)))
  (.seq (.block 1 (.reg [⟨(some 14), none, .mv (.t 5)⟩,
   ⟨(some 15), none, .mv (.t 0)⟩,
   ⟨(some 16), none, .mv (.t 6)⟩,
   ⟨(some 17), none, .bin .mul (.v (.int .i64 8)) (.t 16)⟩,
   ⟨(some 18), none, .cvI .u64 (.t 17)⟩,
   ⟨(some 19), none, .bin .shr (.t 15) (.t 18)⟩,
   ⟨(some 20), none, .cvI .u8 (.t 19)⟩,
   ⟨(some 21), none, .mkS 5 1 [(.int .u8 0)] [(0, 1, (.t 20))]⟩,
   ⟨(some 22), none, .app 5 1 1 (.t 14) (.t 21)⟩,
   ⟨(some 5), none, .mv (.t 22)⟩]))
  (.reg [⟨(some 12), none, .mv (.t 6)⟩,
   ⟨(some 13), none, .bin .sub (.t 12) (.v (.int .i64 1))⟩,
   ⟨(some 6), none, .mv (.t 13)⟩]))))))
  (.seq (.reg [⟨(some 23), none, .mv (.t 5)⟩,
   ⟨(some 4), none, .mv (.t 23)⟩])
  .ret)))),
  [.t 4]⟩
theorem k109 : cFn Try.prog Try.f109 = some c109 := by kernel_rfl
theorem l1Bytes_ok : OkT Try.prog 109 (pureSp put_S) := by
  refine okT_fn (OkΓT.nil _) Try.func109 (by kernel_rfl) k109 (fun x _ => ⟨rfl, by simp only [go_sem]⟩) ?_
  rintro ⟨v, N⟩ ⟨h1, h2, h3, h4⟩
  dsimp only at *
  (dsimp only [c109]; simp (maxSteps := 8000000) (implicitDefEqProofs := false) (disch := omega) only [↓reduceIte, go_sem, if_pos, if_neg])
  refine awpT_loop (α := Nat) (fun i => ⟨slots [(0, .p (.int .i64 v)), (5, .os 0 0 i), (6, .p (.int .i64 ((N : Int) - 1 - i)))], [.cells 5 (zOf i 1) (bsT ((putL v N).take i))]⟩) (fun i => i ≤ N) (fun i => N - i) 0 (Nat.zero_le _) (by simp only [zOf_zero, List.take_zero, bs_nil, nat0T, Int.sub_zero]; exact (le_of [0] (by simp (maxSteps := 8000000) (implicitDefEqProofs := false) (disch := omega) only [↓reduceIte, go_sem, if_pos, if_neg]) (by simp (maxSteps := 8000000) (implicitDefEqProofs := false) (disch := omega) only [↓reduceIte, go_sem, if_pos, if_neg]) (by decide) (by simp))) ?_
  intro i hi
  simp (maxSteps := 8000000) (implicitDefEqProofs := false) (disch := omega) only [↓reduceIte, go_sem, if_pos, if_neg]
  refine condKT_dec (fun hlt => ?_) (fun hge => ?_)
  · have hsh := shr_by v (k := 8 * ((N : Int) - 1 - i)) (m := N - 1 - i) (by omega) (by omega)
    have hl : (bsT ((putL v N).take i)).length = i := by rw [bs_len, List.length_take, putL_len]; omega
    have ht : (bsT ((putL v N).take i)).take i = bsT ((putL v N).take i) := List.take_of_length_le (by omega)
    have hs : bsT ((putL v N).take i) ++ [.p (.int .u8 (v / 256 ^ (N - 1 - i) % 256))] = bsT ((putL v N).take (i + 1)) := by rw [putL_take v N i (by omega), ← bs_snoc]
    simp (maxSteps := 8000000) (implicitDefEqProofs := false) (disch := omega) only [↓reduceIte, go_sem, if_pos, if_neg, eq_true hlt, wu64, ↓hsh, twu8m, sized_b1, zOf_or, hl, ht]
    refine loopKT_next (i + 1) (by omega) (by omega) ?_
    rw [zOf_succ, ← hs]
    have e2 : (N : Int) - 1 - ((i : Int) + 1) = (N : Int) - 1 - i - 1 := by omega
    exact (le_of [2] (by simp (maxSteps := 8000000) (implicitDefEqProofs := false) (disch := omega) only [↓reduceIte, go_sem, if_pos, if_neg, e2]) (by simp (maxSteps := 8000000) (implicitDefEqProofs := false) (disch := omega) only [↓reduceIte, go_sem, if_pos, if_neg, e2]) (by decide) (by simp))
  · have hN : i = N := by omega
    subst hN
    have ht : (putL v i).take i = putL v i := List.take_of_length_le (by rw [putL_len]; omega)
    have hz : zOf i 1 = 1 := by unfold zOf; rw [if_neg (by omega)]
    simp (maxSteps := 8000000) (implicitDefEqProofs := false) (disch := omega) only [↓reduceIte, go_sem, if_pos, if_neg, eq_false hge, ht, hz]
    refine joinK_here ?_
    simp (maxSteps := 8000000) (implicitDefEqProofs := false) (disch := omega) only [↓reduceIte, go_sem, if_pos, if_neg]
    exact endT_of [0] (.inr rfl) (by simp (maxSteps := 8000000) (implicitDefEqProofs := false) (disch := omega) only [↓reduceIte, go_sem, if_pos, if_neg]; rfl) (by simp (maxSteps := 8000000) (implicitDefEqProofs := false) (disch := omega) only [↓reduceIte, go_sem, if_pos, if_neg]) (by simp (maxSteps := 8000000) (implicitDefEqProofs := false) (disch := omega) only [↓reduceIte, go_sem, if_pos, if_neg]) (by decide) (by simp)
-- impl.put
def c105 : AF := ⟨23,
  (.seq (.reg [⟨(some 4), none, .mv (.v (.slice none 0 0))⟩])
  (.seq (.reg [⟨(some 7), none, .mv (.t 1)⟩,
   ⟨(some 8), none, .mkSl 5 1 1 [(.int .u8 0)] (.t 7) (.t 7)⟩,
   ⟨(some 5), none, .mv (.t 8)⟩])
  (.seq (.seq (.reg [⟨(some 9), none, .mv (.t 1)⟩,
   ⟨(some 10), none, .bin .sub (.t 9) (.v (.int .i64 1))⟩,
   ⟨(some 6), none, .mv (.t 10)⟩])
  (.block 0 (.loop (.seq (.seq (.reg [⟨(some 11), none, .mv (.t 6)⟩,
   ⟨(some 12), none, .bin .geq (.t 11) (.v (.int .i64 0))⟩])
  (.cond (.t 12) .skip
  (.exit 0)))
  (.seq (.block 1 (.seq (.reg [⟨(some 15), none, .mv (.t 5)⟩,
   ⟨(some 16), none, .mv (.t 6)⟩,
   ⟨(some 17), none, .mv (.t 0)⟩,
   ⟨(some 18), none, .cvI .u8 (.t 17)⟩,
   ⟨(some 19), none, .ia 1 (.t 15) (.t 16)⟩,
   ⟨none, none, .st 1 (.t 19) (.t 18)⟩])
  (.reg [⟨(some 20), none, .mv (.t 0)⟩,
   ⟨(some 21), none, .bin .shr (.t 20) (.v (.int .u64 8))⟩,
   ⟨(some 0), none, .mv (.t 21)⟩])))
  (.reg [⟨(some 13), none, .mv (.t 6)⟩,
   ⟨(some 14), none, .bin .sub (.t 13) (.v (.int .i64 1))⟩,
   ⟨(some 6), none, .mv (.t 14)⟩]))))))
  (.seq (.reg [⟨(some 22), none, .mv (.t 5)⟩,
   ⟨(some 4), none, .mv (.t 22)⟩])
  .ret)))),
  [.t 4]⟩
theorem k105 : cFn Try.prog Try.f105 = some c105 := by kernel_rfl
theorem put_ok : OkT Try.prog 105 (pureSp put_S) := by
  refine okT_fn (OkΓT.nil _) Try.func105 (by kernel_rfl) k105 (fun x _ => ⟨rfl, by simp only [go_sem]⟩) ?_
  rintro ⟨v, N⟩ ⟨h1, h2, h3, h4⟩
  dsimp only at *
  have hrep := (putC_zero v N).symm
  (dsimp only [c105]; simp (maxSteps := 8000000) (implicitDefEqProofs := false) (disch := omega) only [↓reduceIte, go_sem, if_pos, if_neg, Int.toNat_natCast, hrep])
  refine awpT_loop (α := Nat) (fun j => ⟨slots [(0, .p (.int .i64 (v / 256 ^ j))), (5, .os 0 0 N), (6, .p (.int .i64 ((N : Int) - 1 - j)))], [.cells 5 1 (bsT (putC v N j))]⟩) (fun j => j ≤ N) (fun j => N - j) 0 (Nat.zero_le _) (by simp only [nat0T, Int.sub_zero, Int.pow_zero, Int.ediv_one]; exact (le_of [0] (by simp (maxSteps := 8000000) (implicitDefEqProofs := false) (disch := omega) only [↓reduceIte, go_sem, if_pos, if_neg]) (by simp (maxSteps := 8000000) (implicitDefEqProofs := false) (disch := omega) only [↓reduceIte, go_sem, if_pos, if_neg]) (by decide) (by simp))) ?_
  intro j hj
  have hp : (0 : Int) < 256 ^ j := Int.pow_pos (by decide)
  have hv : 0 ≤ v / 256 ^ j ∧ v / 256 ^ j ≤ 4611686018427387904 := ⟨Int.ediv_nonneg h1 (Int.le_of_lt hp), Int.le_trans (Int.ediv_le_self _ h1) h2⟩
  simp (maxSteps := 8000000) (implicitDefEqProofs := false) (disch := omega) only [↓reduceIte, go_sem, if_pos, if_neg]
  refine condKT_dec (fun hlt => ?_) (fun hge => ?_)
  · have hsh := shr_by (v / 256 ^ j) (k := 8) (m := 1) (by omega) (by omega)
    have e1 : v / 256 ^ j / 256 ^ 1 = v / 256 ^ (j + 1) := by rw [Int.pow_one, Int.pow_succ, Int.ediv_ediv_of_nonneg (Int.le_of_lt hp)]
    rw [e1] at hsh
    have hl : (bsT (putC v N j)).length = N := by rw [bs_len, putC_len v N j hj]
    obtain ⟨y, hy⟩ : ∃ y, (bsT (putC v N j))[N - 1 - j]? = some (.p (.int .u8 y)) := ⟨_, bs_get (l := putC v N j) (i := N - 1 - j) (by rw [putC_len v N j hj]; omega)⟩
    have hst := putC_step v N j (by omega)
    have et : ((N : Int) - 1 - j).toNat = N - 1 - j := by omega
    generalize hq : v / 256 ^ j = q at *
    generalize hq' : v / 256 ^ (j + 1) = q' at *
    simp (maxSteps := 8000000) (implicitDefEqProofs := false) (disch := omega) only [↓reduceIte, go_sem, if_pos, if_neg, eq_true hlt, ↓hsh, twu8m, hl, et, hy, hst]
    refine loopKT_next (j + 1) (by omega) (by omega) ?_
    rw [hq']
    have e2 : (N : Int) - 1 - ((j : Int) + 1) = (N : Int) - 1 - j - 1 := by omega
    exact (le_of [0] (by simp (maxSteps := 8000000) (implicitDefEqProofs := false) (disch := omega) only [↓reduceIte, go_sem, if_pos, if_neg, e2]) (by simp (maxSteps := 8000000) (implicitDefEqProofs := false) (disch := omega) only [↓reduceIte, go_sem, if_pos, if_neg, e2]) (by decide) (by simp))
  · have hN : j = N := by omega
    subst hN
    simp (maxSteps := 8000000) (implicitDefEqProofs := false) (disch := omega) only [↓reduceIte, go_sem, if_pos, if_neg, eq_false hge, putC_full]
    refine joinK_here ?_
    simp (maxSteps := 8000000) (implicitDefEqProofs := false) (disch := omega) only [↓reduceIte, go_sem, if_pos, if_neg]
    exact endT_of [0] (.inr rfl) (by simp (maxSteps := 8000000) (implicitDefEqProofs := false) (disch := omega) only [↓reduceIte, go_sem, if_pos, if_neg]; rfl) (by simp (maxSteps := 8000000) (implicitDefEqProofs := false) (disch := omega) only [↓reduceIte, go_sem, if_pos, if_neg]) (by simp (maxSteps := 8000000) (implicitDefEqProofs := false) (disch := omega) only [↓reduceIte, go_sem, if_pos, if_neg]) (by decide) (by simp)
end Go.Proofs.Ytkijbknnbmbnbaa
