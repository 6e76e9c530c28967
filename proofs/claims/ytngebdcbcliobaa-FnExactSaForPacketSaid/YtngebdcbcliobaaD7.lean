import Derived.Test.YtngebdcbcliobaaD6
import Derived.Test.YtngebdcbcliobaaU4
set_option linter.unusedSimpArgs false
set_option linter.unusedVariables false
set_option maxRecDepth 100000
set_option maxHeartbeats 4000000
namespace Go.Proofs.Ytngebdcbcliobaa
open Go Go.AH
attribute [local irreducible] awpT ropsT qopsT stepT condKT gdKT EndT joinK loopKT seqKT blkKT kont kontR
/-! SoonOver -/
def iC (n : Int) : List Cell := [.v (.int .i64 n)]
theorem iC_rows (n : Nat) (l : List Int) : tvRs n (l.map iC) = isT l ∧ bkRs n (l.map iC) = [] ∧ nbRs (l.map iC) = 0 := flatRs_map iC iT (fun _ => rfl) (fun _ _ => rfl) (fun _ _ => rfl) n l
theorem iC_fz (l : List Int) : fzRs (l.map iC) = isT l := fzRs_map iC l
theorem iC_szs (l : List Int) : szRs (l.map iC) = 0 := szRs_zero fun r hr => by obtain ⟨x, _, rfl⟩ := List.mem_map.1 hr; rfl
theorem iC_has (n : Int) : HasR [.i .i64] (iC n) := ⟨_, _, rfl, ⟨_, rfl⟩, rfl⟩
def intsN (l : List Int) : Cell := match l with
  | [] => .nl
  | l => .sl 2 1 (l.map iC)
def intsZ (l : List Int) : Cell := .sl 2 (zOf l.length 1) (l.map iC)
theorem intsN_fit (l : List Int) : FitC sh_Int64S (intsN l) := by
  cases l with
  | nil => exact .inl rfl
  | cons a l => exact .inr ⟨_, _, rfl, .inr rfl, fun r hr => by obtain ⟨x, _, rfl⟩ := List.mem_map.1 hr; exact HasR.fit _ _ (iC_has x)⟩
theorem intsZ_fit (l : List Int) : FitC sh_Int64S (intsZ l) := .inr ⟨_, _, rfl, by cases l with | nil => exact .inl rfl | cons a l => exact .inr (zOf_succ _ _), fun r hr => by obtain ⟨x, _, rfl⟩ := List.mem_map.1 hr; exact HasR.fit _ _ (iC_has x)⟩
theorem intsN_fz (l : List Int) : fzC (intsN l) = .s (isT l) := by cases l with
  | nil => rfl
  | cons a l => simp only [intsN, fzC, iC_fz]
theorem intsZ_fz (l : List Int) : fzC (intsZ l) = .s (isT l) := by simp only [intsZ, fzC, iC_fz]
theorem intsN_sz (l : List Int) : szC (intsN l) = l.length := by cases l with
  | nil => rfl
  | cons a l => simp only [intsN, szC, iC_szs, List.length_map, Nat.add_zero]
theorem intsZ_sz (l : List Int) : szC (intsZ l) = l.length := by simp only [intsZ, szC, iC_szs, List.length_map, Nat.add_zero]
theorem saF_til {x : SaR} (h : saF x = 0) : 0 ≤ x.til ∧ x.til ≤ 1000000000 := by
  simp only [saF] at h
  split at h
  · rename_i hb; omega
  · cases h
theorem is_one (x : Int) : isT [x] = [.p (.int .i64 x)] := rfl
theorem sized_p1 (v : Value) : sizedT 1 [.p v] = true := rfl
def soonX (n a : Int) (x : SaR) : Bool := decide (x.til < n + a) || decide (4 * x.byt > 3 * x.hard)
def soonL (n a : Int) (l : List SaR) : List Int := (l.filter (soonX n a)).map (·.spi)
theorem soonL_snoc {n a : Int} {l : List SaR} {i : Nat} {x : SaR} (hx : l[i]? = some x) : soonL n a (l.take (i + 1)) = if soonX n a x = true then soonL n a (l.take i) ++ [x.spi] else soonL n a (l.take i) := by
  simp only [soonL, take_filter hx]
  split <;> simp
theorem soonL_len (n a : Int) (l : List SaR) (i : Nat) : (soonL n a (l.take i)).length ≤ l.length := by
  simp only [soonL, List.length_map]
  exact Nat.le_trans (List.length_filter_le _ _) (by rw [List.length_take]; omega)
abbrev okNA (n a : Int) : Prop := (0 ≤ n ∧ n ≤ 1000000000) ∧ (0 ≤ a ∧ a ≤ 1000000)
def soonR (k : List Int → Cell) (l : List SaR) (n a : Int) : List Cell := if sasF l = 0 then (if okNA n a then goodC (k (soonL n a l)) else badC 3) else badC (sasF l)
noncomputable def soon_S (k : List Int → Cell) := specP (fun x : List SaR × Int × Int => [.s (rowsT saT x.1), .p (.int .i64 x.2.1), .p (.int .i64 x.2.2)]) (fun x => smallL x.1) (fun x => ansR (soonR k x.1 x.2.1 x.2.2))
def stN : List Int → TV
  | [] => .nl
  | l => .os 2 0 l.length
def stB : List Int → List TB
  | [] => []
  | l => [.cells 2 1 (isT l)]
theorem stN_snoc (l : List Int) (x : Int) : stN (l ++ [x]) = .os 2 0 (l.length + 1) := by cases l <;> simp [stN]
theorem stB_snoc (l : List Int) (x : Int) : stB (l ++ [x]) = [.cells 2 1 (isT (l ++ [x]))] := by cases l <;> simp [stB]
theorem goodN_ans (l : List Int) : ansR (goodC (intsN l)) = (.agg [.p (.int .i64 0), match l with | [] => .nl | l => .os 0 0 l.length], stB l) := by
  cases l with
  | nil => rfl
  | cons a l => simp only [ansR, goodC, intsN, tvCs, tvC_v, tvC_sl, bkCs, bkC, nbC, iC_rows, List.nil_append, List.append_nil, List.length_map, stB]
theorem goodZ_ans (l : List Int) : ansR (goodC (intsZ l)) = (.agg [.p (.int .i64 0), .os 0 0 l.length], [.cells 2 (zOf l.length 1) (isT l)]) := by
  simp only [ansR, goodC, intsZ, tvCs, tvC_v, tvC_sl, bkCs, bkC, nbC, iC_rows, List.nil_append, List.append_nil, List.length_map]
-- spec.SoonOver
def c31 : AF := ⟨67,
  (.seq (.reg [⟨(some 6), none, .alloc 52 [(.int .i64 0), (.slice none 0 0)]⟩])
  (.seq (.seq (.reg [⟨(some 10), none, .mv (.t 0)⟩,
   ⟨(some 11), none, .call 21 [(.t 10)]⟩,
   ⟨(some 7), none, .mv (.t 11)⟩])
  (.seq (.reg [⟨(some 12), none, .mv (.t 7)⟩,
   ⟨(some 13), none, .bin .neq (.t 12) (.v (.int .i64 0))⟩])
  (.cond (.t 13) (.seq (.reg [⟨(some 14), none, .mv (.t 7)⟩,
   ⟨(some 15), none, .build [(.int .i64 0), (.slice none 0 0)] [(0, 1, (.t 14))]⟩,
   ⟨none, none, .st 2 (.t 6) (.t 15)⟩])
  .ret)
  .skip)))
  (.seq (.seq (.reg [⟨(some 16), none, .mv (.t 1)⟩,
   ⟨(some 17), none, .call 75 [(.t 16)]⟩,
   ⟨(some 18), none, .un .not (.t 17)⟩,
   ⟨(some 19), none, .mv (.t 18)⟩,
   ⟨(some 20), (some (19, false)), .mv (.t 2)⟩,
   ⟨(some 21), (some (19, false)), .call 74 [(.t 20), (.v (.int .i64 0)), (.v (.int .i64 1000000))]⟩,
   ⟨(some 22), (some (19, false)), .un .not (.t 21)⟩,
   ⟨(some 23), none, .pick (.t 19) (.v (.bool true)) (.t 22)⟩])
  (.cond (.t 23) (.seq (.reg [⟨(some 24), none, .build [(.int .i64 0), (.slice none 0 0)] [(0, 1, (.v (.int .i64 3)))]⟩,
   ⟨none, none, .st 2 (.t 6) (.t 24)⟩])
  .ret)
  .skip))
  (.seq (.reg [⟨(some 25), none, .build [(.int .i64 0), (.slice none 0 0)] []⟩,
   ⟨(some 8), none, .alloc 52 [(.int .i64 0), (.slice none 0 0)]⟩,
   ⟨none, none, .st 2 (.t 8) (.t 25)⟩])
  (.seq (.seq (.reg [⟨(some 9), none, .mv (.v (.int .i64 0))⟩])
  (.block 0 (.loop (.seq (.seq (.reg [⟨(some 26), none, .mv (.t 9)⟩,
   ⟨(some 27), none, .mv (.t 0)⟩,
   ⟨(some 28), none, .len (.t 27)⟩,
   ⟨(some 29), none, .bin .lss (.t 26) (.t 28)⟩])
  (.cond (.t 29) .skip
  (.exit 0)))
  (.seq (.block 1 (.seq (.drw [⟨(some 32), none, .mv (.t 0)⟩,
   ⟨(some 33), none, .mv (.t 9)⟩,
   ⟨(some 34), none, .ia 11 (.t 32) (.t 33)⟩,
   ⟨(some 35), none, .fa (.t 34) 9⟩,
   ⟨(some 36), none, .ld (.t 35)⟩,
   ⟨(some 37), none, .mv (.t 1)⟩,
   ⟨(some 38), none, .mv (.t 2)⟩,
   ⟨(some 39), none, .bin .add (.t 37) (.t 38)⟩,
   ⟨(some 40), none, .bin .lss (.t 36) (.t 39)⟩,
   ⟨(some 41), none, .mv (.t 40)⟩,
   ⟨(some 42), (some (41, false)), .mv (.t 0)⟩,
   ⟨(some 43), (some (41, false)), .mv (.t 9)⟩,
   ⟨(some 44), (some (41, false)), .ia 11 (.t 42) (.t 43)⟩,
   ⟨(some 45), (some (41, false)), .fa (.t 44) 7⟩,
   ⟨(some 46), (some (41, false)), .ld (.t 45)⟩,
   ⟨(some 47), (some (41, false)), .bin .mul (.v (.int .i64 4)) (.t 46)⟩,
   ⟨(some 48), (some (41, false)), .mv (.t 0)⟩,
   ⟨(some 49), (some (41, false)), .mv (.t 9)⟩,
   ⟨(some 50), (some (41, false)), .ia 11 (.t 48) (.t 49)⟩,
   ⟨(some 51), (some (41, false)), .fa (.t 50) 8⟩,
   ⟨(some 52), (some (41, false)), .ld (.t 51)⟩,
   ⟨(some 53), (some (41, false)), .bin .mul (.v (.int .i64 3)) (.t 52)⟩] [⟨(some 54), (some (41, false)), .bin .gtr (.t 47) (.t 53)⟩,
   ⟨(some 55), none, .pick (.t 41) (.v (.bool true)) (.t 54)⟩])
  (.cond (.t 55) (.drw [⟨(some 56), none, .fa (.t 8) 1⟩,
   ⟨(some 57), none, .ld (.t 56)⟩,
   ⟨(some 58), none, .mv (.t 0)⟩,
   ⟨(some 59), none, .mv (.t 9)⟩,
   ⟨(some 60), none, .ia 11 (.t 58) (.t 59)⟩,
   ⟨(some 61), none, .fa (.t 60) 0⟩,
   ⟨(some 62), none, .ld (.t 61)⟩,
   ⟨(some 63), none, .mkS 2 1 [(.int .i64 0)] [(0, 1, (.t 62))]⟩] [⟨(some 64), none, .app 2 1 8 (.t 57) (.t 63)⟩,
   ⟨(some 65), none, .fa (.t 8) 1⟩,
   ⟨none, none, .st 1 (.t 65) (.t 64)⟩])
  .skip)))
  (.reg [⟨(some 30), none, .mv (.t 9)⟩,
   ⟨(some 31), none, .bin .add (.t 30) (.v (.int .i64 1))⟩,
   ⟨(some 9), none, .mv (.t 31)⟩]))))))
  (.seq (.reg [⟨(some 66), none, .ldn 2 (.t 8)⟩,
   ⟨none, none, .st 2 (.t 6) (.t 66)⟩])
  .ret)))))),
  [.cell 6 (some 2)]⟩
theorem k31 : cFn Try.prog Try.f31 = some c31 := by kernel_rfl
theorem soonS_ok : OkT Try.prog 31 (pureSp (soon_S intsN)) := by
  refine okT_fn (OkΓT.cons sasFS_ok (OkΓT.cons l16Long_ok (OkΓT.cons l1In_ok (OkΓT.nil _)))) Try.func31 (by kernel_rfl) k31 (fun x _ => ansR_own _) ?_
  rintro ⟨l, n, a⟩ ⟨h1, h2⟩
  dsimp only at *
  have hf := sasF_at l ⟨by omega, fun y hy => by have := h2 y hy; omega⟩
  by_cases hz : sasF l = 0
  case neg =>
    rw [soonR, if_neg hz, badC_ans]
    (dsimp only [c31]; simp (maxSteps := 8000000) (implicitDefEqProofs := false) (disch := omega) only [↓reduceIte, go_sem, if_pos, if_neg, hf, eq_false hz])
    exact endT_v (.inr rfl) (by (simp (maxSteps := 8000000) (implicitDefEqProofs := false) (disch := omega) only [↓reduceIte, go_sem, if_pos, if_neg]) <;> rfl) (fun _ => rfl)
  rw [soonR, if_pos hz]
  by_cases ht : 0 ≤ n ∧ n ≤ 1000000000
  case neg =>
    rw [if_neg (fun h => ht h.1), badC_ans]
    (dsimp only [c31]; simp (maxSteps := 8000000) (implicitDefEqProofs := false) (disch := omega) only [↓reduceIte, go_sem, if_pos, if_neg, hf, hz, tick_at, in_at, eq_false ht])
    exact endT_v (.inr rfl) (by (simp (maxSteps := 8000000) (implicitDefEqProofs := false) (disch := omega) only [↓reduceIte, go_sem, if_pos, if_neg]) <;> rfl) (fun _ => rfl)
  by_cases ha : 0 ≤ a ∧ a ≤ 1000000
  case neg =>
    rw [if_neg (fun h => ha h.2), badC_ans]
    (dsimp only [c31]; simp (maxSteps := 8000000) (implicitDefEqProofs := false) (disch := omega) only [↓reduceIte, go_sem, if_pos, if_neg, hf, hz, tick_at, in_at, eq_true ht, eq_false ha])
    exact endT_v (.inr rfl) (by (simp (maxSteps := 8000000) (implicitDefEqProofs := false) (disch := omega) only [↓reduceIte, go_sem, if_pos, if_neg]) <;> rfl) (fun _ => rfl)
  rw [if_pos ⟨ht, ha⟩]
  obtain ⟨g1, g2, _⟩ := sasF_zero hz
  (dsimp only [c31]; simp (maxSteps := 8000000) (implicitDefEqProofs := false) (disch := omega) only [↓reduceIte, go_sem, if_pos, if_neg, hf, hz, tick_at, in_at, eq_true ht, eq_true ha])
  refine awpT_loop (α := Nat) (fun i => ⟨slots [(0, .s (rowsT saT l)), (1, .p (.int .i64 n)), (2, .p (.int .i64 a)), (6, .op 0 0 0), (8, .op 1 0 0), (9, .p (.int .i64 i))], .cells 52 2 [.agg [.p (.int .i64 0), .nl]] :: .cells 52 2 [.agg [.p (.int .i64 0), stN (soonL n a (l.take i))]] :: stB (soonL n a (l.take i))⟩)
    (fun i => i ≤ l.length) (fun i => l.length - i) 0 (Nat.zero_le _) (by simp only [List.take_zero, soonL, List.filter_nil, List.map_nil, stN, stB]; exact (le_of [0, 1] (by simp (maxSteps := 8000000) (implicitDefEqProofs := false) (disch := omega) only [↓reduceIte, go_sem, if_pos, if_neg]) (by simp (maxSteps := 8000000) (implicitDefEqProofs := false) (disch := omega) only [↓reduceIte, go_sem, if_pos, if_neg]) (by decide) (by simp))) ?_
  intro i hi
  simp (maxSteps := 8000000) (implicitDefEqProofs := false) (disch := omega) only [↓reduceIte, go_sem, if_pos, if_neg]
  refine condKT_dec (fun hlt => ?_) (fun hge => ?_)
  · obtain ⟨x, hx⟩ := get_ex (l := l) (i := i) (by omega)
    have hz1 := g2 x (List.mem_of_getElem? hx)
    have hx1 := saF_til hz1
    obtain ⟨_, hx2, hx3, _⟩ := saF_zero hz1
    have hs := soonL_snoc (n := n) (a := a) hx
    have hsn := soonL_len n a l i
    generalize soonL n a (l.take i) = D at *
    by_cases c1 : x.til < n + a
    · rw [if_pos (by simp [soonX, c1])] at hs
      cases D with
      | nil =>
        simp (maxSteps := 8000000) (implicitDefEqProofs := false) (disch := omega) only [↓reduceIte, go_sem, if_pos, if_neg, stN, stB, hx, saT, eq_true hlt, sized_p1, eq_true c1]
        refine loopKT_next (i + 1) (by omega) (by omega) ?_
        rw [hs]; simp only [stN_snoc, stB_snoc]
        exact (le_of [0, 1, 3] (by simp (maxSteps := 8000000) (implicitDefEqProofs := false) (disch := omega) only [↓reduceIte, go_sem, if_pos, if_neg, List.length_nil, is_one, List.nil_append]) (by simp (maxSteps := 8000000) (implicitDefEqProofs := false) (disch := omega) only [↓reduceIte, go_sem, if_pos, if_neg, List.length_nil, is_one, List.nil_append]) (by decide) (by simp))
      | cons d D =>
        have hN : stN (d :: D) = .os 2 0 (d :: D).length := rfl
        have hB : stB (d :: D) = [.cells 2 1 (isT (d :: D))] := rfl
        generalize d :: D = E at *
        simp (maxSteps := 8000000) (implicitDefEqProofs := false) (disch := omega) only [↓reduceIte, go_sem, if_pos, if_neg, hN, hB, is_take, List.take_length, hx, saT, eq_true hlt, sized_p1, eq_true c1, is_len]
        refine loopKT_next (i + 1) (by omega) (by omega) ?_
        rw [hs]; simp only [stN_snoc, stB_snoc]
        exact (le_of [0, 1, 4] (by simp (maxSteps := 8000000) (implicitDefEqProofs := false) (disch := omega) only [↓reduceIte, go_sem, if_pos, if_neg, is_snoc]) (by simp (maxSteps := 8000000) (implicitDefEqProofs := false) (disch := omega) only [↓reduceIte, go_sem, if_pos, if_neg, is_snoc]) (by decide) (by simp))
    · by_cases c2 : 4 * x.byt > 3 * x.hard
      · rw [if_pos (by simp [soonX, c2])] at hs
        cases D with
        | nil =>
          simp (maxSteps := 8000000) (implicitDefEqProofs := false) (disch := omega) only [↓reduceIte, go_sem, if_pos, if_neg, stN, stB, hx, saT, eq_true hlt, sized_p1, eq_false c1, eq_true c2]
          refine loopKT_next (i + 1) (by omega) (by omega) ?_
          rw [hs]; simp only [stN_snoc, stB_snoc]
          exact (le_of [0, 1, 3] (by simp (maxSteps := 8000000) (implicitDefEqProofs := false) (disch := omega) only [↓reduceIte, go_sem, if_pos, if_neg, List.length_nil, is_one, List.nil_append]) (by simp (maxSteps := 8000000) (implicitDefEqProofs := false) (disch := omega) only [↓reduceIte, go_sem, if_pos, if_neg, List.length_nil, is_one, List.nil_append]) (by decide) (by simp))
        | cons d D =>
          have hN : stN (d :: D) = .os 2 0 (d :: D).length := rfl
          have hB : stB (d :: D) = [.cells 2 1 (isT (d :: D))] := rfl
          generalize d :: D = E at *
          simp (maxSteps := 8000000) (implicitDefEqProofs := false) (disch := omega) only [↓reduceIte, go_sem, if_pos, if_neg, hN, hB, is_take, List.take_length, hx, saT, eq_true hlt, sized_p1, eq_false c1, eq_true c2, is_len]
          refine loopKT_next (i + 1) (by omega) (by omega) ?_
          rw [hs]; simp only [stN_snoc, stB_snoc]
          exact (le_of [0, 1, 4] (by simp (maxSteps := 8000000) (implicitDefEqProofs := false) (disch := omega) only [↓reduceIte, go_sem, if_pos, if_neg, is_snoc]) (by simp (maxSteps := 8000000) (implicitDefEqProofs := false) (disch := omega) only [↓reduceIte, go_sem, if_pos, if_neg, is_snoc]) (by decide) (by simp))
      · rw [if_neg (by simp [soonX, c1, c2] <;> omega)] at hs
        simp (maxSteps := 8000000) (implicitDefEqProofs := false) (disch := omega) only [↓reduceIte, go_sem, if_pos, if_neg, hx, saT, eq_true hlt, eq_false c1, eq_false c2]
        refine loopKT_next (i + 1) (by omega) (by omega) ?_
        rw [hs]
        exact le_keep (Nat.zero_le _) (by simp (maxSteps := 8000000) (implicitDefEqProofs := false) (disch := omega) only [↓reduceIte, go_sem, if_pos, if_neg, slotsIn])
  · have hb : l.take i = l := List.take_of_length_le (by omega)
    rw [hb, goodN_ans]
    simp (maxSteps := 8000000) (implicitDefEqProofs := false) (disch := omega) only [↓reduceIte, go_sem, if_pos, if_neg, eq_false hge]
    refine joinK_here ?_
    cases hD : soonL n a l with
    | nil =>
      simp (maxSteps := 8000000) (implicitDefEqProofs := false) (disch := omega) only [↓reduceIte, go_sem, if_pos, if_neg, stN, stB]
      exact endT_v (.inr rfl) (by (simp (maxSteps := 8000000) (implicitDefEqProofs := false) (disch := omega) only [↓reduceIte, go_sem, if_pos, if_neg]) <;> rfl) (fun _ => rfl)
    | cons d D =>
      simp (maxSteps := 8000000) (implicitDefEqProofs := false) (disch := omega) only [↓reduceIte, go_sem, if_pos, if_neg, stN, stB]
      exact endT_of [2] (.inr rfl) (by simp (maxSteps := 8000000) (implicitDefEqProofs := false) (disch := omega) only [↓reduceIte, go_sem, if_pos, if_neg, stB]; rfl) (by simp (maxSteps := 8000000) (implicitDefEqProofs := false) (disch := omega) only [↓reduceIte, go_sem, if_pos, if_neg, stB]) (by simp (maxSteps := 8000000) (implicitDefEqProofs := false) (disch := omega) only [↓reduceIte, go_sem, if_pos, if_neg, stB]) (by decide) (by simp)
-- impl.SoonOver
def c29 : AF := ⟨56,
  (.seq (.reg [⟨(some 6), none, .alloc 52 [(.int .i64 0), (.slice none 0 0)]⟩])
  (.seq (.seq (.reg [⟨(some 11), none, .mv (.t 0)⟩,
   ⟨(some 12), none, .call 23 [(.t 11)]⟩,
   ⟨(some 7), none, .mv (.t 12)⟩])
  (.seq (.reg [⟨(some 13), none, .mv (.t 7)⟩,
   ⟨(some 14), none, .bin .neq (.t 13) (.v (.int .i64 0))⟩])
  (.cond (.t 14) (.seq (.reg [⟨(some 15), none, .mv (.t 7)⟩,
   ⟨(some 16), none, .build [(.int .i64 0), (.slice none 0 0)] [(0, 1, (.t 15))]⟩,
   ⟨none, none, .st 2 (.t 6) (.t 16)⟩])
  .ret)
  .skip)))
  (.seq (.seq (.reg [⟨(some 17), none, .mv (.t 1)⟩,
   ⟨(some 18), none, .call 83 [(.t 17)]⟩,
   ⟨(some 19), none, .un .not (.t 18)⟩,
   ⟨(some 20), none, .mv (.t 19)⟩,
   ⟨(some 21), (some (20, false)), .mv (.t 2)⟩,
   ⟨(some 22), (some (20, false)), .call 82 [(.t 21), (.v (.int .i64 0)), (.v (.int .i64 1000000))]⟩,
   ⟨(some 23), (some (20, false)), .un .not (.t 22)⟩,
   ⟨(some 24), none, .pick (.t 20) (.v (.bool true)) (.t 23)⟩])
  (.cond (.t 24) (.seq (.reg [⟨(some 25), none, .build [(.int .i64 0), (.slice none 0 0)] [(0, 1, (.v (.int .i64 3)))]⟩,
   ⟨none, none, .st 2 (.t 6) (.t 25)⟩])
  .ret)
  .skip))
  (.seq (.reg [⟨(some 26), none, .mkS 2 0 [] []⟩,
   ⟨(some 8), none, .mv (.t 26)⟩])
  (.seq (.seq (.reg [⟨(some 27), none, .mv (.t 0)⟩,
   ⟨(some 28), none, .len (.t 27)⟩,
   ⟨(some 29), none, .mv (.v (.int .i64 0))⟩])
  (.block 0 (.loop (.seq (.reg [⟨(some 30), none, .bin .lss (.t 29) (.t 28)⟩])
  (.seq (.cond (.t 30) .skip
  (.exit 0))
  (.seq (.block 1 (.seq (.reg [⟨(some 31), none, .ia 11 (.t 27) (.t 29)⟩,
   ⟨(some 32), none, .ldn 11 (.t 31)⟩,
   ⟨(some 10), none, .alloc 32 [(.int .i64 0), (.int .i64 0), (.int .i64 0), (.bool false), (.int .i64 0), (.int .i64 0), (.int .i64 0), (.int .i64 0), (.int .i64 0), (.int .i64 0), (.slice none 0 0)]⟩,
   ⟨none, none, .st 11 (.t 10) (.t 32)⟩])
  (.seq (.reg [⟨(some 33), none, .fa (.t 10) 9⟩,
   ⟨(some 34), none, .ld (.t 33)⟩,
   ⟨(some 35), none, .mv (.t 1)⟩,
   ⟨(some 36), none, .mv (.t 2)⟩,
   ⟨(some 37), none, .bin .add (.t 35) (.t 36)⟩,
   ⟨(some 38), none, .bin .lss (.t 34) (.t 37)⟩,
   ⟨(some 39), none, .mv (.t 38)⟩,
   ⟨(some 40), (some (39, false)), .fa (.t 10) 7⟩,
   ⟨(some 41), (some (39, false)), .ld (.t 40)⟩,
   ⟨(some 42), (some (39, false)), .bin .mul (.v (.int .i64 4)) (.t 41)⟩,
   ⟨(some 43), (some (39, false)), .fa (.t 10) 8⟩,
   ⟨(some 44), (some (39, false)), .ld (.t 43)⟩,
   ⟨(some 45), (some (39, false)), .bin .mul (.v (.int .i64 3)) (.t 44)⟩,
   ⟨(some 46), (some (39, false)), .bin .gtr (.t 42) (.t 45)⟩,
   ⟨(some 47), none, .pick (.t 39) (.v (.bool true)) (.t 46)⟩])
  (.cond (.t 47) (.reg [⟨(some 48), none, .mv (.t 8)⟩,
   ⟨(some 49), none, .fa (.t 10) 0⟩,
   ⟨(some 50), none, .ld (.t 49)⟩,
   ⟨(some 51), none, .mkS 2 1 [(.int .i64 0)] [(0, 1, (.t 50))]⟩,
   ⟨(some 52), none, .app 2 1 8 (.t 48) (.t 51)⟩,
   ⟨(some 8), none, .mv (.t 52)⟩])
  .skip))))
  (.reg [⟨(some 53), none, .bin .add (.t 29) (.v (.int .i64 1))⟩,
   ⟨(some 29), none, .mv (.t 53)⟩])))))))
  (.seq (.reg [⟨(some 54), none, .mv (.t 8)⟩,
   ⟨(some 55), none, .build [(.int .i64 0), (.slice none 0 0)] [(0, 1, (.v (.int .i64 0))), (1, 1, (.t 54))]⟩,
   ⟨none, none, .st 2 (.t 6) (.t 55)⟩])
  .ret)))))),
  [.cell 6 (some 2)]⟩
theorem k29 : cFn Try.prog Try.f29 = some c29 := by kernel_rfl
theorem soonI_ok : OkT Try.prog 29 (pureSp (soon_S intsZ)) := by
  refine okT_fn (OkΓT.cons sasFI_ok (OkΓT.cons isTick_ok (OkΓT.cons in_ok (OkΓT.nil _)))) Try.func29 (by kernel_rfl) k29 (fun x _ => ansR_own _) ?_
  rintro ⟨l, n, a⟩ ⟨h1, h2⟩
  dsimp only at *
  have hf := sasF_at l ⟨by omega, fun y hy => by have := h2 y hy; omega⟩
  by_cases hz : sasF l = 0
  case neg =>
    rw [soonR, if_neg hz, badC_ans]
    (dsimp only [c29]; simp (maxSteps := 8000000) (implicitDefEqProofs := false) (disch := omega) only [↓reduceIte, go_sem, if_pos, if_neg, hf, eq_false hz])
    exact endT_v (.inr rfl) (by (simp (maxSteps := 8000000) (implicitDefEqProofs := false) (disch := omega) only [↓reduceIte, go_sem, if_pos, if_neg]) <;> rfl) (fun _ => rfl)
  rw [soonR, if_pos hz]
  by_cases ht : 0 ≤ n ∧ n ≤ 1000000000
  case neg =>
    rw [if_neg (fun h => ht h.1), badC_ans]
    (dsimp only [c29]; simp (maxSteps := 8000000) (implicitDefEqProofs := false) (disch := omega) only [↓reduceIte, go_sem, if_pos, if_neg, hf, hz, tick_at, in_at, eq_false ht])
    exact endT_v (.inr rfl) (by (simp (maxSteps := 8000000) (implicitDefEqProofs := false) (disch := omega) only [↓reduceIte, go_sem, if_pos, if_neg]) <;> rfl) (fun _ => rfl)
  by_cases ha : 0 ≤ a ∧ a ≤ 1000000
  case neg =>
    rw [if_neg (fun h => ha h.2), badC_ans]
    (dsimp only [c29]; simp (maxSteps := 8000000) (implicitDefEqProofs := false) (disch := omega) only [↓reduceIte, go_sem, if_pos, if_neg, hf, hz, tick_at, in_at, eq_true ht, eq_false ha])
    exact endT_v (.inr rfl) (by (simp (maxSteps := 8000000) (implicitDefEqProofs := false) (disch := omega) only [↓reduceIte, go_sem, if_pos, if_neg]) <;> rfl) (fun _ => rfl)
  rw [if_pos ⟨ht, ha⟩]
  obtain ⟨g1, g2, _⟩ := sasF_zero hz
  (dsimp only [c29]; simp (maxSteps := 8000000) (implicitDefEqProofs := false) (disch := omega) only [↓reduceIte, go_sem, if_pos, if_neg, hf, hz, tick_at, in_at, eq_true ht, eq_true ha])
  refine awpT_loop (α := Nat) (fun i => ⟨slots [(1, .p (.int .i64 n)), (2, .p (.int .i64 a)), (6, .op 0 0 0), (8, .os 1 0 (soonL n a (l.take i)).length), (27, .s (rowsT saT l)), (28, .p (.int .i64 l.length)), (29, .p (.int .i64 i))], [.cells 52 2 [.agg [.p (.int .i64 0), .nl]], .cells 2 (zOf (soonL n a (l.take i)).length 1) (isT (soonL n a (l.take i)))]⟩)
    (fun i => i ≤ l.length) (fun i => l.length - i) 0 (Nat.zero_le _) (by simp only [List.take_zero, soonL, List.filter_nil, List.map_nil, List.length_nil, zOf_zero, is_nil]; exact (le_of [0, 1] (by simp (maxSteps := 8000000) (implicitDefEqProofs := false) (disch := omega) only [↓reduceIte, go_sem, if_pos, if_neg]) (by simp (maxSteps := 8000000) (implicitDefEqProofs := false) (disch := omega) only [↓reduceIte, go_sem, if_pos, if_neg]) (by decide) (by simp))) ?_
  intro i hi
  simp (maxSteps := 8000000) (implicitDefEqProofs := false) (disch := omega) only [↓reduceIte, go_sem, if_pos, if_neg]
  refine condKT_dec (fun hlt => ?_) (fun hge => ?_)
  · obtain ⟨x, hx⟩ := get_ex (l := l) (i := i) (by omega)
    have hz1 := g2 x (List.mem_of_getElem? hx)
    have hx1 := saF_til hz1
    obtain ⟨_, hx2, hx3, _⟩ := saF_zero hz1
    have hs := soonL_snoc (n := n) (a := a) hx
    have hsn := soonL_len n a l i
    generalize soonL n a (l.take i) = D at *
    by_cases c1 : x.til < n + a
    · rw [if_pos (by simp [soonX, c1])] at hs
      simp (maxSteps := 8000000) (implicitDefEqProofs := false) (disch := omega) only [↓reduceIte, go_sem, if_pos, if_neg, hx, saT, eq_true hlt, sized_p1, eq_true c1, is_len, zOf_or]
      refine loopKT_next (i + 1) (by omega) (by omega) ?_
      rw [hs]; simp only [List.length_append, List.length_singleton, zOf_succ]
      exact (le_of [0, 4] (by simp (maxSteps := 8000000) (implicitDefEqProofs := false) (disch := omega) only [↓reduceIte, go_sem, if_pos, if_neg, is_snoc, is_take, List.take_length]) (by simp (maxSteps := 8000000) (implicitDefEqProofs := false) (disch := omega) only [↓reduceIte, go_sem, if_pos, if_neg, is_snoc, is_take, List.take_length]) (by decide) (by simp))
    · by_cases c2 : 4 * x.byt > 3 * x.hard
      · rw [if_pos (by simp [soonX, c2])] at hs
        simp (maxSteps := 8000000) (implicitDefEqProofs := false) (disch := omega) only [↓reduceIte, go_sem, if_pos, if_neg, hx, saT, eq_true hlt, sized_p1, eq_false c1, eq_true c2, is_len, zOf_or]
        refine loopKT_next (i + 1) (by omega) (by omega) ?_
        rw [hs]; simp only [List.length_append, List.length_singleton, zOf_succ]
        exact (le_of [0, 4] (by simp (maxSteps := 8000000) (implicitDefEqProofs := false) (disch := omega) only [↓reduceIte, go_sem, if_pos, if_neg, is_snoc, is_take, List.take_length]) (by simp (maxSteps := 8000000) (implicitDefEqProofs := false) (disch := omega) only [↓reduceIte, go_sem, if_pos, if_neg, is_snoc, is_take, List.take_length]) (by decide) (by simp))
      · rw [if_neg (by simp [soonX, c1, c2] <;> omega)] at hs
        simp (maxSteps := 8000000) (implicitDefEqProofs := false) (disch := omega) only [↓reduceIte, go_sem, if_pos, if_neg, hx, saT, eq_true hlt, eq_false c1, eq_false c2]
        refine loopKT_next (i + 1) (by omega) (by omega) ?_
        rw [hs]
        exact (le_of [0, 1] (by simp (maxSteps := 8000000) (implicitDefEqProofs := false) (disch := omega) only [↓reduceIte, go_sem, if_pos, if_neg]) (by simp (maxSteps := 8000000) (implicitDefEqProofs := false) (disch := omega) only [↓reduceIte, go_sem, if_pos, if_neg]) (by decide) (by simp))
  · have hb : l.take i = l := List.take_of_length_le (by omega)
    rw [hb, goodZ_ans]
    simp (maxSteps := 8000000) (implicitDefEqProofs := false) (disch := omega) only [↓reduceIte, go_sem, if_pos, if_neg, eq_false hge]
    refine joinK_here ?_
    simp (maxSteps := 8000000) (implicitDefEqProofs := false) (disch := omega) only [↓reduceIte, go_sem, if_pos, if_neg]
    exact endT_of [1] (.inr rfl) (by simp (maxSteps := 8000000) (implicitDefEqProofs := false) (disch := omega) only [↓reduceIte, go_sem, if_pos, if_neg]; rfl) (by simp (maxSteps := 8000000) (implicitDefEqProofs := false) (disch := omega) only [↓reduceIte, go_sem, if_pos, if_neg]) (by simp (maxSteps := 8000000) (implicitDefEqProofs := false) (disch := omega) only [↓reduceIte, go_sem, if_pos, if_neg]) (by decide) (by simp)
theorem soon_H (x0 : Cell) (x1 x2 : Int) (h0 : HasC sh_SaS x0) (y0 : szC x0 ≤ 1048576) : ∃ w w', soon_S intsN [fzC x0, .p (.int .i64 x1), .p (.int .i64 x2)] = some (.agg (tvCs 0 w), bkCs 0 w) ∧ soon_S intsZ [fzC x0, .p (.int .i64 x1), .p (.int .i64 x2)] = some (.agg (tvCs 0 w'), bkCs 0 w') ∧ fzCs w = fzCs w' ∧ FitR sh_IntsResult w ∧ FitR sh_IntsResult w' ∧ szCs w ≤ 1073741824 ∧ szCs w' ≤ 1073741824 := by
  obtain ⟨l, rfl⟩ := sasC_ex h0
  have hS : ∀ k, soon_S k [.s (rowsT saT l), .p (.int .i64 x1), .p (.int .i64 x2)] = some (ansR (soonR k l x1 x2)) := fun k => specP_at (enc := fun x : List SaR × Int × Int => [.s (rowsT saT x.1), .p (.int .i64 x.2.1), .p (.int .i64 x.2.2)]) (by rintro ⟨a, b, c⟩ ⟨a', b', c'⟩ h; simp at h; simp [sas_inj h.1, h.2]) (l, x1, x2) (sasC_small y0)
  have hl := soonL_len x1 x2 l l.length
  rw [List.take_length] at hl
  have bfit : ∀ f, FitR sh_IntsResult (badC f) := fun f => ⟨_, _, rfl, ⟨_, rfl⟩, _, _, rfl, .inl rfl, rfl⟩
  have hw : ∀ k : List Int → Cell, (∀ l, FitC sh_Int64S (k l)) → (∀ l, szC (k l) = l.length) → FitR sh_IntsResult (soonR k l x1 x2) ∧ szCs (soonR k l x1 x2) ≤ 1073741824 := by
    intro k hk hz
    unfold soonR
    split
    · split
      · refine ⟨⟨_, _, rfl, ⟨_, rfl⟩, _, _, rfl, hk _, rfl⟩, ?_⟩
        rw [sasC_szC] at y0
        simp only [goodC, szCs, szC, hz]; omega
      · exact ⟨bfit _, by decide⟩
    · exact ⟨bfit _, by simp only [badC, szCs, szC]; omega⟩
  have a1 := hw intsN intsN_fit intsN_sz
  have a2 := hw intsZ intsZ_fit intsZ_sz
  rw [sasC_fzC, hS, hS]
  refine ⟨_, _, rfl, rfl, ?_, a1.1, a2.1, a1.2, a2.2⟩
  unfold soonR
  split
  · split
    · simp only [goodC, fzCs, intsN_fz, intsZ_fz]
    · rfl
  · rfl
end Go.Proofs.Ytngebdcbcliobaa
