import Derived.Test.YtngebdcbcliobaaC6
import Derived.Test.YtngebdcbcliobaaT16
set_option linter.unusedSimpArgs false
set_option linter.unusedVariables false
set_option maxRecDepth 100000
set_option maxHeartbeats 4000000
namespace Go.Proofs.Ytngebdcbcliobaa
open Go Go.AH
attribute [local irreducible] awpT ropsT qopsT stepT condKT gdKT EndT joinK loopKT seqKT blkKT kont kontR
/-! Marks -/
def markSl (m : Int) : SlR := ⟨m, m + 1, m + 1 + 1, m + 1 + 1 + 1, m + 1 + 1 + 1 + 1, m + 1 + 1 + 1 + 1 + 1, m + 1 + 1 + 1 + 1 + 1 + 1, m + 1 + 1 + 1 + 1 + 1 + 1 + 1, m + 1 + 1 + 1 + 1 + 1 + 1 + 1 + 1⟩
def markL : Int → Nat → List SlR
  | _, 0 => []
  | m, n + 1 => markL m n ++ [markSl (m + 9 * n)]
theorem markL_len : ∀ (m : Int) (n : Nat), (markL m n).length = n
  | _, 0 => rfl
  | m, n + 1 => by simp [markL, markL_len m n]
theorem markL_get : ∀ (m : Int) (n i : Nat), i < n → (markL m n)[i]? = some (markSl (m + 9 * i))
  | _, 0, _, h => by omega
  | m, n + 1, i, h => by
    by_cases e : i < n
    · simp only [markL]; rw [List.getElem?_append_left (by rw [markL_len]; exact e), markL_get m n i e]
    · have : i = n := by omega
      subst this
      simp only [markL]; rw [List.getElem?_append_right (by rw [markL_len]; omega), markL_len, Nat.sub_self]; rfl
def markU (l : List SlR) (m : Int) (i : Nat) : List SlR := markL m i ++ l.drop i
theorem markU_len {l : List SlR} {i : Nat} (m : Int) (h : i ≤ l.length) : (markU l m i).length = l.length := by simp [markU, markL_len]; omega
theorem markU_get {l : List SlR} {i : Nat} {x : SlR} (m : Int) (h : l[i]? = some x) : (markU l m i)[i]? = some x := by
  simp only [markU]; rw [List.getElem?_append_right (by rw [markL_len]; omega), markL_len, Nat.sub_self, List.getElem?_drop, Nat.add_zero]; exact h
theorem markU_set {l : List SlR} {i : Nat} (m : Int) (h : i < l.length) : (rowsT slT (markU l m i)).set i (slT (markSl (m + 9 * i))) = rowsT slT (markU l m (i + 1)) := by
  rw [rowsT_set]; congr 1
  simp only [markU, markL]
  rw [List.set_append_right _ _ (by rw [markL_len]; omega), markL_len, Nat.sub_self, List.drop_eq_getElem_cons h, List.set_cons_zero, List.append_assoc]; rfl
theorem markU_full {l : List SlR} {i : Nat} (m : Int) (h : l.length ≤ i) : markU l m i = markL m i := by simp [markU, List.drop_of_length_le h]
abbrev selB (l : List SlR) : TB := .cells 155 9 (rowsT slT l)
def mkE : Option (List SlR) × Int → List TV × THeap
  | (some l, m) => ([.os 0 0 l.length, .p (.int .i64 m)], [selB l])
  | (none, m) => ([.nl, .p (.int .i64 m)], [])
theorem mkE_inj : ∀ x y, mkE x = mkE y → x = y
  | (some l, m), (some l', m'), h => by simp [mkE] at h; simp [sls_inj h.2, h.1.2]
  | (some l, m), (none, m'), h => by simp [mkE] at h
  | (none, m), (some l', m'), h => by simp [mkE] at h
  | (none, m), (none, m'), h => by simp [mkE] at h; simp [h]
def mkN : Option (List SlR) → Nat
  | some l => l.length
  | none => 0
def mkR : Option (List SlR) × Int → TV × THeap
  | (some l, m) => (.p (.int .i64 (m + 9 * l.length)), [selB (markL m l.length)])
  | (none, m) => (.p (.int .i64 m), [])
abbrev mkP (x : Option (List SlR) × Int) : Prop := 0 ≤ x.2 ∧ x.2 ≤ 1000000000 ∧ mkN x.1 ≤ 1048576
noncomputable def markSelS_F := mutF mkE mkP mkR
-- laws.markSelS
def c97 : AF := ⟨84,
  (.seq (.reg [⟨(some 4), none, .mv (.v (.int .i64 0))⟩])
  (.seq (.seq (.reg [⟨(some 5), none, .mv (.v (.int .i64 0))⟩])
  (.block 0 (.loop (.seq (.seq (.reg [⟨(some 6), none, .mv (.t 5)⟩,
   ⟨(some 7), none, .mv (.t 0)⟩,
   ⟨(some 8), none, .len (.t 7)⟩,
   ⟨(some 9), none, .bin .lss (.t 6) (.t 8)⟩])
  (.cond (.t 9) .skip
  (.exit 0)))
  (.seq (.block 1 (.seq (.reg [⟨(some 12), none, .mv (.t 0)⟩,
   ⟨(some 13), none, .mv (.t 5)⟩,
   ⟨(some 14), none, .mv (.t 1)⟩,
   ⟨(some 15), none, .ia 9 (.t 12) (.t 13)⟩,
   ⟨(some 16), none, .fa (.t 15) 0⟩,
   ⟨(some 17), none, .fa (.t 16) 0⟩,
   ⟨none, none, .st 1 (.t 17) (.t 14)⟩])
  (.seq (.reg [⟨(some 18), none, .mv (.t 1)⟩,
   ⟨(some 19), none, .bin .add (.t 18) (.v (.int .i64 1))⟩,
   ⟨(some 1), none, .mv (.t 19)⟩])
  (.seq (.reg [⟨(some 20), none, .mv (.t 0)⟩,
   ⟨(some 21), none, .mv (.t 5)⟩,
   ⟨(some 22), none, .mv (.t 1)⟩,
   ⟨(some 23), none, .ia 9 (.t 20) (.t 21)⟩,
   ⟨(some 24), none, .fa (.t 23) 0⟩,
   ⟨(some 25), none, .fa (.t 24) 1⟩,
   ⟨none, none, .st 1 (.t 25) (.t 22)⟩])
  (.seq (.reg [⟨(some 26), none, .mv (.t 1)⟩,
   ⟨(some 27), none, .bin .add (.t 26) (.v (.int .i64 1))⟩,
   ⟨(some 1), none, .mv (.t 27)⟩])
  (.seq (.reg [⟨(some 28), none, .mv (.t 0)⟩,
   ⟨(some 29), none, .mv (.t 5)⟩,
   ⟨(some 30), none, .mv (.t 1)⟩,
   ⟨(some 31), none, .ia 9 (.t 28) (.t 29)⟩,
   ⟨(some 32), none, .fa (.t 31) 2⟩,
   ⟨(some 33), none, .fa (.t 32) 0⟩,
   ⟨none, none, .st 1 (.t 33) (.t 30)⟩])
  (.seq (.reg [⟨(some 34), none, .mv (.t 1)⟩,
   ⟨(some 35), none, .bin .add (.t 34) (.v (.int .i64 1))⟩,
   ⟨(some 1), none, .mv (.t 35)⟩])
  (.seq (.reg [⟨(some 36), none, .mv (.t 0)⟩,
   ⟨(some 37), none, .mv (.t 5)⟩,
   ⟨(some 38), none, .mv (.t 1)⟩,
   ⟨(some 39), none, .ia 9 (.t 36) (.t 37)⟩,
   ⟨(some 40), none, .fa (.t 39) 2⟩,
   ⟨(some 41), none, .fa (.t 40) 1⟩,
   ⟨none, none, .st 1 (.t 41) (.t 38)⟩])
  (.seq (.reg [⟨(some 42), none, .mv (.t 1)⟩,
   ⟨(some 43), none, .bin .add (.t 42) (.v (.int .i64 1))⟩,
   ⟨(some 1), none, .mv (.t 43)⟩])
  (.seq (.reg [⟨(some 44), none, .mv (.t 0)⟩,
   ⟨(some 45), none, .mv (.t 5)⟩,
   ⟨(some 46), none, .mv (.t 1)⟩,
   ⟨(some 47), none, .ia 9 (.t 44) (.t 45)⟩,
   ⟨(some 48), none, .fa (.t 47) 4⟩,
   ⟨(some 49), none, .fa (.t 48) 0⟩,
   ⟨none, none, .st 1 (.t 49) (.t 46)⟩])
  (.seq (.reg [⟨(some 50), none, .mv (.t 1)⟩,
   ⟨(some 51), none, .bin .add (.t 50) (.v (.int .i64 1))⟩,
   ⟨(some 1), none, .mv (.t 51)⟩])
  (.seq (.reg [⟨(some 52), none, .mv (.t 0)⟩,
   ⟨(some 53), none, .mv (.t 5)⟩,
   ⟨(some 54), none, .mv (.t 1)⟩,
   ⟨(some 55), none, .ia 9 (.t 52) (.t 53)⟩,
   ⟨(some 56), none, .fa (.t 55) 4⟩,
   ⟨(some 57), none, .fa (.t 56) 1⟩,
   ⟨none, none, .st 1 (.t 57) (.t 54)⟩])
  (.seq (.reg [⟨(some 58), none, .mv (.t 1)⟩,
   ⟨(some 59), none, .bin .add (.t 58) (.v (.int .i64 1))⟩,
   ⟨(some 1), none, .mv (.t 59)⟩])
  (.seq (.reg [⟨(some 60), none, .mv (.t 0)⟩,
   ⟨(some 61), none, .mv (.t 5)⟩,
   ⟨(some 62), none, .mv (.t 1)⟩,
   ⟨(some 63), none, .ia 9 (.t 60) (.t 61)⟩,
   ⟨(some 64), none, .fa (.t 63) 6⟩,
   ⟨(some 65), none, .fa (.t 64) 0⟩,
   ⟨none, none, .st 1 (.t 65) (.t 62)⟩])
  (.seq (.reg [⟨(some 66), none, .mv (.t 1)⟩,
   ⟨(some 67), none, .bin .add (.t 66) (.v (.int .i64 1))⟩,
   ⟨(some 1), none, .mv (.t 67)⟩])
  (.seq (.reg [⟨(some 68), none, .mv (.t 0)⟩,
   ⟨(some 69), none, .mv (.t 5)⟩,
   ⟨(some 70), none, .mv (.t 1)⟩,
   ⟨(some 71), none, .ia 9 (.t 68) (.t 69)⟩,
   ⟨(some 72), none, .fa (.t 71) 6⟩,
   ⟨(some 73), none, .fa (.t 72) 1⟩,
   ⟨none, none, .st 1 (.t 73) (.t 70)⟩])
  (.seq (.reg [⟨(some 74), none, .mv (.t 1)⟩,
   ⟨(some 75), none, .bin .add (.t 74) (.v (.int .i64 1))⟩,
   ⟨(some 1), none, .mv (.t 75)⟩])
  (.seq (.reg [⟨(some 76), none, .mv (.t 0)⟩,
   ⟨(some 77), none, .mv (.t 5)⟩,
   ⟨(some 78), none, .mv (.t 1)⟩,
   ⟨(some 79), none, .ia 9 (.t 76) (.t 77)⟩,
   ⟨(some 80), none, .fa (.t 79) 8⟩,
   ⟨none, none, .st 1 (.t 80) (.t 78)⟩])
  (.reg [⟨(some 81), none, .mv (.t 1)⟩,
   ⟨(some 82), none, .bin .add (.t 81) (.v (.int .i64 1))⟩,
   ⟨(some 1), none, .mv (.t 82)⟩])))))))))))))))))))
  (.reg [⟨(some 10), none, .mv (.t 5)⟩,
   ⟨(some 11), none, .bin .add (.t 10) (.v (.int .i64 1))⟩,
   ⟨(some 5), none, .mv (.t 11)⟩]))))))
  (.seq (.reg [⟨(some 83), none, .mv (.t 1)⟩,
   ⟨(some 4), none, .mv (.t 83)⟩])
  .ret))),
  [.t 4]⟩
theorem k97 : cFn Try.prog Try.f97 = some c97 := by kernel_rfl
theorem markSelS_ok : OkT Try.prog 97 (mutSp markSelS_F) := by
  refine okT_mutF (OkΓT.nil _) Try.func97 (by kernel_rfl) k97 ?_
  rintro ⟨_ | l, m⟩ ⟨h1, h2, h3⟩
  · dsimp only [mkE, mkR, mkN] at *
    (dsimp only [c97]; simp (maxSteps := 1000000) (implicitDefEqProofs := false) (disch := omega) only [go_sem, if_pos, if_neg, tw64, twu8, ↓condKT_pos, ↓condKT_neg, ↓gdKT_pt, ↓gdKT_nt, ↓gdKT_pf, ↓gdKT_nf])
    refine awpT_loop (α := Unit) (fun _ => ⟨slots [(0, .nl), (1, .p (.int .i64 m)), (5, .p (.int .i64 0))], []⟩) (fun _ => True) (fun _ => 0) () trivial (le_keep (Nat.zero_le _) (by simp (maxSteps := 1000000) (implicitDefEqProofs := false) (disch := omega) only [go_sem, if_pos, if_neg, tw64, twu8, ↓condKT_pos, ↓condKT_neg, ↓gdKT_pt, ↓gdKT_nt, ↓gdKT_pf, ↓gdKT_nf, slotsIn])) ?_
    intro _ _
    simp (maxSteps := 1000000) (implicitDefEqProofs := false) (disch := omega) only [go_sem, if_pos, if_neg, tw64, twu8, ↓condKT_pos, ↓condKT_neg, ↓gdKT_pt, ↓gdKT_nt, ↓gdKT_pf, ↓gdKT_nf]
    refine joinK_at _ (le_same _ _ (by simp)) ?_
    simp (maxSteps := 1000000) (implicitDefEqProofs := false) (disch := omega) only [go_sem, if_pos, if_neg, tw64, twu8, ↓condKT_pos, ↓condKT_neg, ↓gdKT_pt, ↓gdKT_nt, ↓gdKT_pf, ↓gdKT_nf]
    exact endK_same (.inr rfl) (by simp) (by simp (maxSteps := 1000000) (implicitDefEqProofs := false) (disch := omega) only [go_sem, if_pos, if_neg, tw64, twu8, ↓condKT_pos, ↓condKT_neg, ↓gdKT_pt, ↓gdKT_nt, ↓gdKT_pf, ↓gdKT_nf]) rfl
  · dsimp only [mkE, mkR, mkN] at *
    (dsimp only [c97]; simp (maxSteps := 1000000) (implicitDefEqProofs := false) (disch := omega) only [go_sem, if_pos, if_neg, tw64, twu8, ↓condKT_pos, ↓condKT_neg, ↓gdKT_pt, ↓gdKT_nt, ↓gdKT_pf, ↓gdKT_nf])
    refine awpT_loop (α := Nat) (fun i => ⟨slots [(0, .os 0 0 l.length), (1, .p (.int .i64 (m + 9 * i))), (5, .p (.int .i64 i))], [selB (markU l m i)]⟩) (fun i => i ≤ l.length) (fun i => l.length - i) 0 (by omega) (by rw [show markU l m 0 = l by simp [markU, markL]]; exact le_keep (by simp) (by simp (maxSteps := 1000000) (implicitDefEqProofs := false) (disch := omega) only [go_sem, if_pos, if_neg, tw64, twu8, ↓condKT_pos, ↓condKT_neg, ↓gdKT_pt, ↓gdKT_nt, ↓gdKT_pf, ↓gdKT_nf, slotsIn, Int.mul_zero, Int.add_zero])) ?_
    intro i hi
    have hlen : (rowsT slT (markU l m i)).length = l.length := by rw [rowsT_len, markU_len m hi]
    simp (maxSteps := 1000000) (implicitDefEqProofs := false) (disch := omega) only [go_sem, if_pos, if_neg, tw64, twu8, ↓condKT_pos, ↓condKT_neg, ↓gdKT_pt, ↓gdKT_nt, ↓gdKT_pf, ↓gdKT_nf]
    refine condKT_dec (fun hlt => ?_) (fun hge => ?_)
    · obtain ⟨x, hx⟩ := get_ex (l := l) (i := i) (by omega)
      have hx2 := rowsT_get (f := slT) (markU_get m hx)
      have hs := markU_set (l := l) m (show i < l.length by omega)
      simp only [slT, markSl] at hs
      simp (maxSteps := 1000000) (implicitDefEqProofs := false) (disch := omega) only [go_sem, if_pos, if_neg, tw64, twu8, ↓condKT_pos, ↓condKT_neg, ↓gdKT_pt, ↓gdKT_nt, ↓gdKT_pf, ↓gdKT_nf, hx2, slT, List.getElem?_set_self, List.set_set, hs]
      refine loopKT_next (i + 1) (by omega) (by omega) ?_
      have e : m + 9 * (i : Int) + 1 + 1 + 1 + 1 + 1 + 1 + 1 + 1 + 1 = m + 9 * ((i : Int) + 1) := by omega
      exact le_keep (by simp) (by simp (maxSteps := 1000000) (implicitDefEqProofs := false) (disch := omega) only [go_sem, if_pos, if_neg, tw64, twu8, ↓condKT_pos, ↓condKT_neg, ↓gdKT_pt, ↓gdKT_nt, ↓gdKT_pf, ↓gdKT_nf, slotsIn, e])
    · have hil : i = l.length := by omega
      subst hil
      simp (maxSteps := 1000000) (implicitDefEqProofs := false) (disch := omega) only [go_sem, if_pos, if_neg, tw64, twu8, ↓condKT_pos, ↓condKT_neg, ↓gdKT_pt, ↓gdKT_nt, ↓gdKT_pf, ↓gdKT_nf, markU_full m (Nat.le_refl _)]
      refine joinK_at _ (le_same _ _ (by simp)) ?_
      simp (maxSteps := 1000000) (implicitDefEqProofs := false) (disch := omega) only [go_sem, if_pos, if_neg, tw64, twu8, ↓condKT_pos, ↓condKT_neg, ↓gdKT_pt, ↓gdKT_nt, ↓gdKT_pf, ↓gdKT_nf]
      exact endK_same (.inr rfl) (by simp) (by simp (maxSteps := 1000000) (implicitDefEqProofs := false) (disch := omega) only [go_sem, if_pos, if_neg, tw64, twu8, ↓condKT_pos, ↓condKT_neg, ↓gdKT_pt, ↓gdKT_nt, ↓gdKT_pf, ↓gdKT_nf]) rfl
end Go.Proofs.Ytngebdcbcliobaa
