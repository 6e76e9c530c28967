import Derived.Test.YtkijbknnbmbnbaaE3
set_option linter.unusedSimpArgs false
set_option linter.unusedVariables false
set_option maxRecDepth 100000
set_option maxHeartbeats 4000000
namespace Go.Proofs.Ytkijbknnbmbnbaa
open Go Go.AH
attribute [local irreducible] awpT ropsT qopsT stepT condKT gdKT EndT joinK loopKT seqKT blkKT kont kontR
/-! Checksums -/
def sumS (l : List Int) : Nat → Int
  | 0 => 0
  | k + 1 => sumS l k + (if k % 2 = 0 then 256 * l.getD k 0 else l.getD k 0)
theorem sumS_bd {l : List Int} (h : isB l) : ∀ k, 0 ≤ sumS l k ∧ sumS l k ≤ 65280 * k
  | 0 => by simp [sumS]
  | k + 1 => by
    have ih := sumS_bd h k
    have hx := isB_get h k
    simp only [sumS]
    split <;> omega
def sumN (l : List Int) : Int := 65535 - foldN (sumS l l.length)
theorem sumN_bd {l : List Int} (h : isB l) : 0 ≤ sumN l ∧ sumN l ≤ 65535 := by
  have := foldN_bd (sumS_bd h l.length).1; unfold sumN; omega
noncomputable def sum_S := specP (fun x : List Int => [.s (bsT x)]) (fun x => isB x ∧ x.length ≤ 1048576) (fun x => (.p (.int .i64 (sumN x)), []))
theorem sum_at (l : List Int) (h : isB l) (hl : l.length ≤ 1048576) : sum_S [.s (bsT l)] = some (.p (.int .i64 (sumN l)), []) :=
  specP_at (enc := fun x : List Int => [.s (bsT x)]) (by intro a b h; simp at h; exact bs_inj h) l ⟨h, hl⟩
-- impl.SumWords
def c197 : AF := ⟨29,
  (.seq (.reg [⟨(some 2), none, .mv (.v (.int .i64 0))⟩])
  (.seq (.reg [⟨(some 3), none, .mv (.v (.int .i64 0))⟩])
  (.seq (.seq (.reg [⟨(some 6), none, .mv (.t 0)⟩,
   ⟨(some 7), none, .len (.t 6)⟩,
   ⟨(some 8), none, .mv (.v (.int .i64 0))⟩])
  (.block 0 (.loop (.seq (.reg [⟨(some 9), none, .bin .lss (.t 8) (.t 7)⟩])
  (.seq (.cond (.t 9) .skip
  (.exit 0))
  (.seq (.block 1 (.seq (.reg [⟨(some 10), none, .mv (.t 8)⟩,
   ⟨(some 11), none, .ia 1 (.t 6) (.t 8)⟩,
   ⟨(some 12), none, .ld (.t 11)⟩,
   ⟨(some 4), none, .mv (.t 10)⟩,
   ⟨(some 5), none, .mv (.t 12)⟩])
  (.seq (.reg [⟨(some 13), none, .mv (.t 4)⟩,
   ⟨(some 14), none, .bin .rem (.t 13) (.v (.int .i64 2))⟩,
   ⟨(some 15), none, .bin .eql (.t 14) (.v (.int .i64 0))⟩])
  (.cond (.t 15) (.reg [⟨(some 16), none, .mv (.t 3)⟩,
   ⟨(some 17), none, .mv (.t 5)⟩,
   ⟨(some 18), none, .cvI .i64 (.t 17)⟩,
   ⟨(some 19), none, .bin .mul (.v (.int .i64 256)) (.t 18)⟩,
   ⟨(some 20), none, .bin .add (.t 16) (.t 19)⟩,
   ⟨(some 3), none, .mv (.t 20)⟩])
  (.reg [⟨(some 21), none, .mv (.t 3)⟩,
   ⟨(some 22), none, .mv (.t 5)⟩,
   ⟨(some 23), none, .cvI .i64 (.t 22)⟩,
   ⟨(some 24), none, .bin .add (.t 21) (.t 23)⟩,
   ⟨(some 3), none, .mv (.t 24)⟩])))))
  (.reg [⟨(some 25), none, .bin .add (.t 8) (.v (.int .i64 1))⟩,
   ⟨(some 8), none, .mv (.t 25)⟩])))))))
  (.seq (.reg [⟨(some 26), none, .mv (.t 3)⟩,
   ⟨(some 27), none, .call 225 [(.t 26)]⟩,
   ⟨(some 28), none, .bin .sub (.v (.int .i64 65535)) (.t 27)⟩,
   ⟨(some 2), none, .mv (.t 28)⟩])
  .ret)))),
  [.t 2]⟩
theorem k197 : cFn Try.prog Try.f197 = some c197 := by kernel_rfl
theorem sumI_ok : OkT Try.prog 197 (pureSp sum_S) := by
  refine okT_fn (OkΓT.cons fold_ok (OkΓT.nil _)) Try.func197 (by kernel_rfl) k197 (fun x _ => ⟨rfl, by simp only [go_sem]⟩) ?_
  rintro l ⟨hb, hl⟩
  dsimp only at *
  have hlen := bs_len l
  (dsimp only [c197]; simp (maxSteps := 8000000) (implicitDefEqProofs := false) (disch := omega) only [↓reduceIte, go_sem, if_pos, if_neg, hlen])
  refine awpT_loop (α := Nat) (fun k => ⟨slots [(3, .p (.int .i64 (sumS l k))), (6, .s (bsT l)), (7, .p (.int .i64 l.length)), (8, .p (.int .i64 k))], []⟩) (fun k => k ≤ l.length) (fun k => l.length - k) 0 (Nat.zero_le _) (by simp only [sumS, nat0T]; exact (le_of [] (by simp (maxSteps := 8000000) (implicitDefEqProofs := false) (disch := omega) only [↓reduceIte, go_sem, if_pos, if_neg]) (by simp (maxSteps := 8000000) (implicitDefEqProofs := false) (disch := omega) only [↓reduceIte, go_sem, if_pos, if_neg]) (by decide) (by simp))) ?_
  intro k hk
  have hbd := sumS_bd hb k
  simp (maxSteps := 8000000) (implicitDefEqProofs := false) (disch := omega) only [↓reduceIte, go_sem, if_pos, if_neg]
  refine condKT_dec (fun hlt => ?_) (fun hge => ?_)
  · have hk' : k < l.length := by omega
    have hy := bs_get hk'
    have hel := isB_get hb k
    have q1 := rem64 (n := (k : Int)) (b := 2) (by omega) (by decide)
    generalize hg : l.getD k 0 = g at *
    generalize hs : sumS l k = s at *
    by_cases h2 : k % 2 = 0
    · have e0 : ((k : Int) % 2 == 0) = true := by simp; omega
      have hsn : sumS l (k + 1) = s + 256 * g := by simp only [sumS, hs, hg, h2, if_true]
      simp (maxSteps := 8000000) (implicitDefEqProofs := false) (disch := omega) only [↓reduceIte, go_sem, if_pos, if_neg, eq_true hlt, hlen, Int.toNat_natCast, hy, ↓q1, e0]
      refine loopKT_next (k + 1) (by omega) (by omega) ?_
      rw [hsn]
      exact (le_of [] (by simp (maxSteps := 8000000) (implicitDefEqProofs := false) (disch := omega) only [↓reduceIte, go_sem, if_pos, if_neg]) (by simp (maxSteps := 8000000) (implicitDefEqProofs := false) (disch := omega) only [↓reduceIte, go_sem, if_pos, if_neg]) (by decide) (by simp))
    · have e0 : ((k : Int) % 2 == 0) = false := by simp; omega
      have hsn : sumS l (k + 1) = s + g := by simp only [sumS, hs, hg, h2, if_false]
      simp (maxSteps := 8000000) (implicitDefEqProofs := false) (disch := omega) only [↓reduceIte, go_sem, if_pos, if_neg, eq_true hlt, hlen, Int.toNat_natCast, hy, ↓q1, e0]
      refine loopKT_next (k + 1) (by omega) (by omega) ?_
      rw [hsn]
      exact (le_of [] (by simp (maxSteps := 8000000) (implicitDefEqProofs := false) (disch := omega) only [↓reduceIte, go_sem, if_pos, if_neg]) (by simp (maxSteps := 8000000) (implicitDefEqProofs := false) (disch := omega) only [↓reduceIte, go_sem, if_pos, if_neg]) (by decide) (by simp))
  · have hN : k = l.length := by omega
    subst hN
    have hf := fold_at (sumS l l.length) (by omega)
    have hfb := foldN_bd hbd.1
    simp (maxSteps := 8000000) (implicitDefEqProofs := false) (disch := omega) only [↓reduceIte, go_sem, if_pos, if_neg, eq_false hge]
    refine joinK_here ?_
    simp only [sumN]
    simp (maxSteps := 8000000) (implicitDefEqProofs := false) (disch := omega) only [↓reduceIte, go_sem, if_pos, if_neg, hf]
    exact endT_of [] (.inr rfl) (by simp (maxSteps := 8000000) (implicitDefEqProofs := false) (disch := omega) only [↓reduceIte, go_sem, if_pos, if_neg]; rfl) (by simp (maxSteps := 8000000) (implicitDefEqProofs := false) (disch := omega) only [↓reduceIte, go_sem, if_pos, if_neg]) (by simp (maxSteps := 8000000) (implicitDefEqProofs := false) (disch := omega) only [↓reduceIte, go_sem, if_pos, if_neg]) (by decide) (by simp)
-- spec.SumWords
def c227 : AF := ⟨36,
  (.seq (.reg [⟨(some 2), none, .mv (.v (.int .i64 0))⟩])
  (.seq (.reg [⟨(some 3), none, .mv (.v (.int .i64 0))⟩])
  (.seq (.seq (.reg [⟨(some 4), none, .mv (.v (.int .i64 0))⟩])
  (.block 0 (.loop (.seq (.seq (.reg [⟨(some 5), none, .mv (.t 4)⟩,
   ⟨(some 6), none, .mv (.t 0)⟩,
   ⟨(some 7), none, .len (.t 6)⟩,
   ⟨(some 8), none, .bin .lss (.t 5) (.t 7)⟩])
  (.cond (.t 8) .skip
  (.exit 0)))
  (.seq (.block 1 (.seq (.reg [⟨(some 11), none, .mv (.t 3)⟩,
   ⟨(some 12), none, .mv (.t 0)⟩,
   ⟨(some 13), none, .mv (.t 4)⟩,
   ⟨(some 14), none, .ia 1 (.t 12) (.t 13)⟩,
   ⟨(some 15), none, .ld (.t 14)⟩,
   ⟨(some 16), none, .cvI .i64 (.t 15)⟩,
   ⟨(some 17), none, .bin .mul (.v (.int .i64 256)) (.t 16)⟩,
   ⟨(some 18), none, .bin .add (.t 11) (.t 17)⟩,
   ⟨(some 3), none, .mv (.t 18)⟩])
  (.seq (.seq (.reg [⟨(some 19), none, .mv (.t 4)⟩,
   ⟨(some 20), none, .bin .add (.t 19) (.v (.int .i64 1))⟩,
   ⟨(some 21), none, .mv (.t 0)⟩,
   ⟨(some 22), none, .len (.t 21)⟩,
   ⟨(some 23), none, .bin .lss (.t 20) (.t 22)⟩])
  (.cond (.t 23) (.reg [⟨(some 24), none, .mv (.t 3)⟩,
   ⟨(some 25), none, .mv (.t 0)⟩,
   ⟨(some 26), none, .mv (.t 4)⟩,
   ⟨(some 27), none, .bin .add (.t 26) (.v (.int .i64 1))⟩,
   ⟨(some 28), none, .ia 1 (.t 25) (.t 27)⟩,
   ⟨(some 29), none, .ld (.t 28)⟩,
   ⟨(some 30), none, .cvI .i64 (.t 29)⟩,
   ⟨(some 31), none, .bin .add (.t 24) (.t 30)⟩,
   ⟨(some 3), none, .mv (.t 31)⟩])
  .skip))
  (.reg [⟨(some 32), none, .mv (.t 3)⟩,
   ⟨(some 33), none, .call 247 [(.t 32)]⟩,
   ⟨(some 3), none, .mv (.t 33)⟩]))))
  (.reg [⟨(some 9), none, .mv (.t 4)⟩,
   ⟨(some 10), none, .bin .add (.t 9) (.v (.int .i64 2))⟩,
   ⟨(some 4), none, .mv (.t 10)⟩]))))))
  (.seq (.reg [⟨(some 34), none, .mv (.t 3)⟩,
   ⟨(some 35), none, .bin .sub (.v (.int .i64 65535)) (.t 34)⟩,
   ⟨(some 2), none, .mv (.t 35)⟩])
  .ret)))),
  [.t 2]⟩
theorem k227 : cFn Try.prog Try.f227 = some c227 := by kernel_rfl
theorem sumS_ok : OkT Try.prog 227 (pureSp sum_S) := by
  refine okT_fn (OkΓT.cons l1Fold_ok (OkΓT.nil _)) Try.func227 (by kernel_rfl) k227 (fun x _ => ⟨rfl, by simp only [go_sem]⟩) ?_
  rintro l ⟨hb, hl⟩
  dsimp only at *
  have hlen := bs_len l
  have hf0 : foldN 0 = 0 := rfl
  (dsimp only [c227]; simp (maxSteps := 8000000) (implicitDefEqProofs := false) (disch := omega) only [↓reduceIte, go_sem, if_pos, if_neg, hlen])
  refine awpT_loop (α := Nat) (fun k => ⟨slots [(0, .s (bsT l)), (3, .p (.int .i64 (foldN (sumS l (min (2 * k) l.length))))), (4, .p (.int .i64 (2 * (k : Int))))], []⟩) (fun k => 2 * k ≤ l.length + 1) (fun k => l.length + 1 - k) 0 (by omega) (by simp only [sumS, hf0, Nat.mul_zero, Nat.zero_min, nat0T, Int.mul_zero]; exact (le_of [] (by simp (maxSteps := 8000000) (implicitDefEqProofs := false) (disch := omega) only [↓reduceIte, go_sem, if_pos, if_neg]) (by simp (maxSteps := 8000000) (implicitDefEqProofs := false) (disch := omega) only [↓reduceIte, go_sem, if_pos, if_neg]) (by decide) (by simp))) ?_
  intro k hk
  simp (maxSteps := 8000000) (implicitDefEqProofs := false) (disch := omega) only [↓reduceIte, go_sem, if_pos, if_neg, hlen]
  refine condKT_dec (fun hlt => ?_) (fun hge => ?_)
  · have hk' : 2 * k < l.length := by omega
    have hm : min (2 * k) l.length = 2 * k := by omega
    rw [hm]
    have hbd := sumS_bd hb (2 * k)
    have hbd1 := sumS_bd hb (2 * k + 1)
    have hfb := foldN_bd hbd.1
    have hy := bs_get hk'
    have hel := isB_get hb (2 * k)
    have e2 : (2 * k) % 2 = 0 := by omega
    have e3 : ¬ (2 * k + 1) % 2 = 0 := by omega
    have s1 : sumS l (2 * k + 1) = sumS l (2 * k) + 256 * l.getD (2 * k) 0 := by simp only [sumS, e2, if_true]
    have et : (2 * (k : Int)).toNat = 2 * k := by omega
    have en : (2 * (k : Int) + 2) = 2 * ((k : Int) + 1) := by omega
    by_cases h3 : 2 * k + 1 < l.length
    · have hy1 := bs_get h3
      have hel1 := isB_get hb (2 * k + 1)
      have s2 : sumS l (2 * k + 1 + 1) = sumS l (2 * k + 1) + l.getD (2 * k + 1) 0 := by rw [sumS]; simp only [e3, if_false]
      have et1 : (2 * (k : Int) + 1).toNat = 2 * k + 1 := by omega
      have hm1 : min (2 * (k + 1)) l.length = 2 * k + 1 + 1 := by omega
      generalize hg : l.getD (2 * k) 0 = g at *
      generalize hg1 : l.getD (2 * k + 1) 0 = g1 at *
      generalize hs : sumS l (2 * k) = s at *
      have hf := fold_at (foldN s + 256 * g + g1) (by omega)
      have hff : foldN (foldN s + 256 * g + g1) = foldN (sumS l (min (2 * (k + 1)) l.length)) := by
        rw [hm1, s2, s1, Int.add_assoc, foldN_add (by omega) (by omega), Int.add_assoc]
      rw [hff] at hf
      have hc : (2 * (k : Int) + 1 < l.length) = True := eq_true (by omega)
      simp (maxSteps := 8000000) (implicitDefEqProofs := false) (disch := omega) only [↓reduceIte, go_sem, if_pos, if_neg, eq_true hlt, hlen, et, et1, hy, hy1, hc, hf]
      refine loopKT_next (k + 1) (by omega) (by omega) ?_
      exact (le_of [] (by simp (maxSteps := 8000000) (implicitDefEqProofs := false) (disch := omega) only [↓reduceIte, go_sem, if_pos, if_neg, en]) (by simp (maxSteps := 8000000) (implicitDefEqProofs := false) (disch := omega) only [↓reduceIte, go_sem, if_pos, if_neg, en]) (by decide) (by simp))
    · have hm1 : min (2 * (k + 1)) l.length = 2 * k + 1 := by omega
      generalize hg : l.getD (2 * k) 0 = g at *
      generalize hs : sumS l (2 * k) = s at *
      have hf := fold_at (foldN s + 256 * g) (by omega)
      have hff : foldN (foldN s + 256 * g) = foldN (sumS l (min (2 * (k + 1)) l.length)) := by
        rw [hm1, s1, foldN_add (by omega) (by omega)]
      rw [hff] at hf
      have hc : (2 * (k : Int) + 1 < l.length) = False := eq_false (by omega)
      simp (maxSteps := 8000000) (implicitDefEqProofs := false) (disch := omega) only [↓reduceIte, go_sem, if_pos, if_neg, eq_true hlt, hlen, et, hy, hc, hf]
      refine loopKT_next (k + 1) (by omega) (by omega) ?_
      exact (le_of [] (by simp (maxSteps := 8000000) (implicitDefEqProofs := false) (disch := omega) only [↓reduceIte, go_sem, if_pos, if_neg, en]) (by simp (maxSteps := 8000000) (implicitDefEqProofs := false) (disch := omega) only [↓reduceIte, go_sem, if_pos, if_neg, en]) (by decide) (by simp))
  · have hm : min (2 * k) l.length = l.length := by omega
    rw [hm]
    have hbd := sumS_bd hb l.length
    have hfb := foldN_bd hbd.1
    simp (maxSteps := 8000000) (implicitDefEqProofs := false) (disch := omega) only [↓reduceIte, go_sem, if_pos, if_neg, eq_false hge]
    refine joinK_here ?_
    simp only [sumN]
    simp (maxSteps := 8000000) (implicitDefEqProofs := false) (disch := omega) only [↓reduceIte, go_sem, if_pos, if_neg]
    exact endT_of [] (.inr rfl) (by simp (maxSteps := 8000000) (implicitDefEqProofs := false) (disch := omega) only [↓reduceIte, go_sem, if_pos, if_neg]; rfl) (by simp (maxSteps := 8000000) (implicitDefEqProofs := false) (disch := omega) only [↓reduceIte, go_sem, if_pos, if_neg]) (by simp (maxSteps := 8000000) (implicitDefEqProofs := false) (disch := omega) only [↓reduceIte, go_sem, if_pos, if_neg]) (by decide) (by simp)
noncomputable def chk_S := specP (fun x : List Int => [.s (bsT x)]) (fun x => isB x ∧ x.length ≤ 1048576) (fun x => (.p (.bool (sumN x == 0)), []))
theorem chk_at (l : List Int) (h : isB l) (hl : l.length ≤ 1048576) : chk_S [.s (bsT l)] = some (.p (.bool (sumN l == 0)), []) :=
  specP_at (enc := fun x : List Int => [.s (bsT x)]) (by intro a b h; simp at h; exact bs_inj h) l ⟨h, hl⟩
-- impl.CheckWords
def c139 : AF := ⟨6,
  (.seq (.reg [⟨(some 2), none, .mv (.v (.bool false))⟩])
  (.seq (.reg [⟨(some 3), none, .mv (.t 0)⟩,
   ⟨(some 4), none, .call 197 [(.t 3)]⟩,
   ⟨(some 5), none, .bin .eql (.t 4) (.v (.int .i64 0))⟩,
   ⟨(some 2), none, .mv (.t 5)⟩])
  .ret)),
  [.t 2]⟩
theorem k139 : cFn Try.prog Try.f139 = some c139 := by kernel_rfl
theorem chkI_ok : OkT Try.prog 139 (pureSp chk_S) := by
  refine okT_fn (OkΓT.cons sumI_ok (OkΓT.nil _)) Try.func139 (by kernel_rfl) k139 (fun x _ => ⟨rfl, by simp only [go_sem]⟩) ?_
  rintro l ⟨hb, hl⟩
  dsimp only at *
  have hs := sum_at l hb hl
  (dsimp only [c139]; simp (maxSteps := 8000000) (implicitDefEqProofs := false) (disch := omega) only [↓reduceIte, go_sem, if_pos, if_neg, hs])
  exact endT_of [] (.inr rfl) (by simp (maxSteps := 8000000) (implicitDefEqProofs := false) (disch := omega) only [↓reduceIte, go_sem, if_pos, if_neg]; rfl) (by simp (maxSteps := 8000000) (implicitDefEqProofs := false) (disch := omega) only [↓reduceIte, go_sem, if_pos, if_neg]) (by simp (maxSteps := 8000000) (implicitDefEqProofs := false) (disch := omega) only [↓reduceIte, go_sem, if_pos, if_neg]) (by decide) (by simp)
end Go.Proofs.Ytkijbknnbmbnbaa
