import Derived.Test.YtkijbknnbmbnbaaE10
set_option linter.unusedSimpArgs false
set_option linter.unusedVariables false
set_option maxRecDepth 100000
set_option maxHeartbeats 4000000
namespace Go.Proofs.Ytkijbknnbmbnbaa
open Go Go.AH
attribute [local irreducible] awpT ropsT qopsT stepT condKT gdKT EndT joinK loopKT seqKT blkKT kont kontR
/-! Padding -/

theorem two_cells (a b : Int) : ([.p (.int .u8 a), .p (.int .u8 b)] : List TV) = bsT [a, b] := rfl
theorem natmod {a b : Nat} : ((a : Int) % (b : Int)) = ((a % b : Nat) : Int) := (Int.natCast_emod a b).symm
noncomputable def pad_S := specP (fun x : List Int × Nat × Int => [.s (bsT x.1), .p (.int .i64 x.2.1), .p (.int .u8 x.2.2)]) (fun x => (isB x.1) ∧ (x.1.length ≤ 1048576) ∧ (1 ≤ x.2.1 ∧ x.2.1 ≤ 16) ∧ (0 ≤ x.2.2 ∧ x.2.2 < 256)) (fun x => (.os 0 0 (padL x.1 x.2.1 x.2.2).length, [.cells 5 1 (bsT (padL x.1 x.2.1 x.2.2))]))
theorem pad_at (l : List Int) (s : Nat) (x : Int) (h : (isB l) ∧ (l.length ≤ 1048576) ∧ (1 ≤ s ∧ s ≤ 16) ∧ (0 ≤ x ∧ x < 256)) : pad_S [.s (bsT l), .p (.int .i64 s), .p (.int .u8 x)] = some ((.os 0 0 (padL l s x).length, [.cells 5 1 (bsT (padL l s x))])) := specP_at (enc := fun x : List Int × Nat × Int => [.s (bsT x.1), .p (.int .i64 x.2.1), .p (.int .u8 x.2.2)]) (by rintro ⟨a0, a1, a2⟩ ⟨b0, b1, b2⟩ h; simp only [List.cons.injEq, and_true] at h; obtain ⟨h0, h1, h2⟩ := h; obtain rfl := sby_inj h0; obtain rfl := p64n_inj h1; obtain rfl := p8_inj h2; rfl) (l, s, x) h
-- impl.pad
def c96 : AF := ⟨30,
  (.seq (.reg [⟨(some 6), none, .mv (.v (.slice none 0 0))⟩])
  (.seq (.reg [⟨(some 9), none, .mv (.t 0)⟩,
   ⟨(some 10), none, .call 99 [(.t 9)]⟩,
   ⟨(some 7), none, .mv (.t 10)⟩,
   ⟨(some 8), none, .mv (.v (.int .i64 0))⟩])
  (.seq (.block 0 (.loop (.seq (.seq (.reg [⟨(some 11), none, .mv (.t 7)⟩,
   ⟨(some 12), none, .len (.t 11)⟩,
   ⟨(some 13), none, .bin .add (.t 12) (.v (.int .i64 2))⟩,
   ⟨(some 14), none, .mv (.t 1)⟩,
   ⟨(some 15), none, .bin .rem (.t 13) (.t 14)⟩,
   ⟨(some 16), none, .bin .neq (.t 15) (.v (.int .i64 0))⟩])
  (.cond (.t 16) .skip
  (.exit 0)))
  (.block 1 (.seq (.reg [⟨(some 17), none, .mv (.t 8)⟩,
   ⟨(some 18), none, .bin .add (.t 17) (.v (.int .i64 1))⟩,
   ⟨(some 8), none, .mv (.t 18)⟩])
  (.reg [⟨(some 19), none, .mv (.t 7)⟩,
   ⟨(some 20), none, .mv (.t 8)⟩,
   ⟨(some 21), none, .cvI .u8 (.t 20)⟩,
   ⟨(some 22), none, .mkS 5 1 [(.int .u8 0)] [(0, 1, (.t 21))]⟩,
   ⟨(some 23), none, .app 5 1 1 (.t 19) (.t 22)⟩,
   ⟨(some 7), none, .mv (.t 23)⟩]))))))
  (.seq (.reg [⟨(some 24), none, .mv (.t 7)⟩,
   ⟨(some 25), none, .mv (.t 8)⟩,
   ⟨(some 26), none, .cvI .u8 (.t 25)⟩,
   ⟨(some 27), none, .mv (.t 2)⟩,
   ⟨(some 28), none, .mkS 5 2 [(.int .u8 0), (.int .u8 0)] [(0, 1, (.t 26)), (1, 1, (.t 27))]⟩,
   ⟨(some 29), none, .app 5 1 1 (.t 24) (.t 28)⟩,
   ⟨(some 6), none, .mv (.t 29)⟩])
  .ret)))),
  [.t 6]⟩
theorem k96 : cFn Try.prog Try.f96 = some c96 := by kernel_rfl
theorem padI_ok : OkT Try.prog 96 (pureSp pad_S) := by
  refine okT_fn (OkΓT.cons cloneB_ok (OkΓT.nil _)) Try.func96 (by kernel_rfl) k96 (fun x _ => ⟨by first | rfl | simp only [go_sem], by first | rfl | simp only [go_sem]⟩) ?_
  rintro ⟨l, s, x⟩ ⟨h1, h2, h3, h4⟩
  try dsimp only at *
  have hlen := bs_len l
  have q := cloneB_at l (by omega)
  (dsimp only [c96]; simp (maxSteps := 8000000) (implicitDefEqProofs := false) (disch := omega) only [↓reduceIte, go_sem, if_pos, if_neg, hlen, q])

  have hm := padN_bd (n := l.length) (S := s) (by omega)
  have he := padN_eq (n := l.length) (S := s) (by omega)
  have hlt' : ∀ j, j < padN l.length s → (l.length + j + 2) % s ≠ 0 := fun j hj => padN_lt (by omega) hj
  have hpl := padL_len l s x
  have hpd : padL l s x = l ++ (runL (padN l.length s) ++ [(padN l.length s : Int), x]) := by simp [padL]
  generalize padN l.length s = m at *
  refine awpT_loop (α := Nat) (fun j => ⟨slots [(1, .p (.int .i64 s)), (2, .p (.int .u8 x)), (7, .os 0 0 (l.length + j)), (8, .p (.int .i64 j))], [.cells 5 1 (bsT (l ++ runL j))]⟩) (fun j => j ≤ m) (fun j => m - j) 0 (Nat.zero_le _) (by simp only [show runL 0 = [] from rfl, List.append_nil, Nat.add_zero, nat0T]; exact (le_of [0] (by simp (maxSteps := 8000000) (implicitDefEqProofs := false) (disch := omega) only [↓reduceIte, go_sem, if_pos, if_neg]) (by simp (maxSteps := 8000000) (implicitDefEqProofs := false) (disch := omega) only [↓reduceIte, go_sem, if_pos, if_neg]) (by decide) (by simp))) ?_
  intro j hj
  have hl : (bsT (l ++ runL j)).length = l.length + j := by rw [bs_len, List.length_append, runL_len]
  have ht : (bsT (l ++ runL j)).take (l.length + j) = bsT (l ++ runL j) := List.take_of_length_le (by omega)
  have hq := rem64 (n := (l.length : Int) + (j : Int) + 2) (b := (s : Int)) (by omega) (by omega)
  rw [show (l.length : Int) + (j : Int) + 2 = ((l.length + j + 2 : Nat) : Int) by omega, natmod] at hq
  have hr : j < m → (l.length + j + 2) % s ≠ 0 := hlt' j
  have hr0 : j = m → (l.length + j + 2) % s = 0 := fun e => by rw [e]; exact he
  generalize (l.length + j + 2) % s = r at *
  rw [show ((l.length + j + 2 : Nat) : Int) = (l.length : Int) + (j : Int) + 2 by omega] at hq
  have ht2 : (l ++ runL j).take (l.length + j) = l ++ runL j := List.take_of_length_le (by rw [List.length_append, runL_len]; omega)
  have ap1 : l ++ (runL j ++ [(j : Int) + 1]) = l ++ runL j ++ [(j : Int) + 1] := by simp
  by_cases hc : j < m
  · have hne := hr hc
    simp (maxSteps := 8000000) (implicitDefEqProofs := false) (disch := omega) only [↓reduceIte, go_sem, if_pos, if_neg, bs_len, runL_len, ↓hq, eq_false (show ¬ (r : Int) = 0 by omega), ht2, sized_b1]
    refine loopKT_next (j + 1) (by omega) (by omega) ?_
    rw [runL_succ, ← List.append_assoc, show l.length + (j + 1) = l.length + j + 1 from rfl]
    exact (le_of [2] (by simp (maxSteps := 8000000) (implicitDefEqProofs := false) (disch := omega) only [↓reduceIte, go_sem, if_pos, if_neg]) (by simp (maxSteps := 8000000) (implicitDefEqProofs := false) (disch := omega) only [↓reduceIte, go_sem, if_pos, if_neg]) (by decide) (by simp))
  · have hjm : j = m := by omega
    subst hjm
    have hr2 := hr0 rfl
    simp (maxSteps := 8000000) (implicitDefEqProofs := false) (disch := omega) only [↓reduceIte, go_sem, if_pos, if_neg, bs_len, runL_len, ↓hq, eq_true (show (r : Int) = 0 by omega)]
    refine joinK_here ?_
    rw [hpl, hpd]
    simp (maxSteps := 8000000) (implicitDefEqProofs := false) (disch := first | omega | (simp only [List.length_append, List.length_cons, List.length_nil, Nat.reduceAdd, runL_len]; omega)) only [↓reduceIte, go_sem, if_pos, if_neg, bs_len, runL_len, ht2, bs_lit, sized1_p, sized1_nil, List.cons_append, List.nil_append, List.append_nil, List.append_assoc]
    exact endT_of [2] (.inr rfl) (by simp (maxSteps := 8000000) (implicitDefEqProofs := false) (disch := omega) only [↓reduceIte, go_sem, if_pos, if_neg]; rfl) (by simp (maxSteps := 8000000) (implicitDefEqProofs := false) (disch := omega) only [↓reduceIte, go_sem, if_pos, if_neg]) (by simp (maxSteps := 8000000) (implicitDefEqProofs := false) (disch := omega) only [↓reduceIte, go_sem, if_pos, if_neg]) (by decide) (by simp)
def padC (l : List Int) (s x : Int) : Int := if (1 ≤ s ∧ s ≤ 16) ∧ (0 ≤ x ∧ x ≤ 255) then (if (l.length : Int) > 400 then 2 else 0) else 3
noncomputable def padB_S := specP (fun x : List Int × Int × Int => [.s (bsT x.1), .p (.int .i64 x.2.1), .p (.int .i64 x.2.2)]) (fun x => (isB x.1) ∧ (x.1.length ≤ 1048576)) (fun x => brV (padC x.1 x.2.1 x.2.2) (padL x.1 x.2.1.toNat x.2.2))
theorem padB_at (l : List Int) (s : Int) (x : Int) (h : (isB l) ∧ (l.length ≤ 1048576)) : padB_S [.s (bsT l), .p (.int .i64 s), .p (.int .i64 x)] = some (brV (padC l s x) (padL l s.toNat x)) := specP_at (enc := fun x : List Int × Int × Int => [.s (bsT x.1), .p (.int .i64 x.2.1), .p (.int .i64 x.2.2)]) (by rintro ⟨a0, a1, a2⟩ ⟨b0, b1, b2⟩ h; simp only [List.cons.injEq, and_true] at h; obtain ⟨h0, h1, h2⟩ := h; obtain rfl := sby_inj h0; obtain rfl := p64_inj h1; obtain rfl := p64_inj h2; rfl) (l, s, x) h
-- spec.PadBytes
def c17 : AF := ⟨46,
  (.seq (.reg [⟨(some 6), none, .alloc 27 [(.int .i64 0), (.slice none 0 0)]⟩])
  (.seq (.seq (.reg [⟨(some 9), none, .mv (.t 1)⟩,
   ⟨(some 10), none, .call 97 [(.t 9), (.v (.int .i64 1)), (.v (.int .i64 16))]⟩,
   ⟨(some 11), none, .un .not (.t 10)⟩,
   ⟨(some 12), none, .mv (.t 11)⟩,
   ⟨(some 13), (some (12, false)), .mv (.t 2)⟩,
   ⟨(some 14), (some (12, false)), .call 97 [(.t 13), (.v (.int .i64 0)), (.v (.int .i64 255))]⟩,
   ⟨(some 15), (some (12, false)), .un .not (.t 14)⟩,
   ⟨(some 16), none, .pick (.t 12) (.v (.bool true)) (.t 15)⟩])
  (.cond (.t 16) (.seq (.reg [⟨(some 17), none, .build [(.int .i64 0), (.slice none 0 0)] [(0, 1, (.v (.int .i64 3)))]⟩,
   ⟨none, none, .st 2 (.t 6) (.t 17)⟩])
  .ret)
  .skip))
  (.seq (.seq (.reg [⟨(some 18), none, .mv (.t 0)⟩,
   ⟨(some 19), none, .len (.t 18)⟩,
   ⟨(some 20), none, .bin .gtr (.t 19) (.v (.int .i64 400))⟩])
  (.cond (.t 20) (.seq (.reg [⟨(some 21), none, .build [(.int .i64 0), (.slice none 0 0)] [(0, 1, (.v (.int .i64 2)))]⟩,
   ⟨none, none, .st 2 (.t 6) (.t 21)⟩])
  .ret)
  .skip))
  (.seq (.reg [⟨(some 22), none, .mkS 5 0 [] []⟩,
   ⟨(some 23), none, .mv (.t 0)⟩,
   ⟨(some 24), none, .app 5 1 1 (.t 22) (.t 23)⟩,
   ⟨(some 7), none, .mv (.t 24)⟩])
  (.seq (.reg [⟨(some 8), none, .mv (.v (.int .i64 0))⟩])
  (.seq (.block 0 (.loop (.seq (.seq (.reg [⟨(some 25), none, .mv (.t 7)⟩,
   ⟨(some 26), none, .len (.t 25)⟩,
   ⟨(some 27), none, .bin .add (.t 26) (.v (.int .i64 2))⟩,
   ⟨(some 28), none, .mv (.t 1)⟩,
   ⟨(some 29), none, .bin .rem (.t 27) (.t 28)⟩,
   ⟨(some 30), none, .bin .neq (.t 29) (.v (.int .i64 0))⟩])
  (.cond (.t 30) .skip
  (.exit 0)))
  (.block 1 (.seq (.reg [⟨(some 31), none, .mv (.t 8)⟩,
   ⟨(some 32), none, .bin .add (.t 31) (.v (.int .i64 1))⟩,
   ⟨(some 8), none, .mv (.t 32)⟩])
  (.reg [⟨(some 33), none, .mv (.t 7)⟩,
   ⟨(some 34), none, .mv (.t 8)⟩,
   ⟨(some 35), none, .cvI .u8 (.t 34)⟩,
   ⟨(some 36), none, .mkS 5 1 [(.int .u8 0)] [(0, 1, (.t 35))]⟩,
   ⟨(some 37), none, .app 5 1 1 (.t 33) (.t 36)⟩,
   ⟨(some 7), none, .mv (.t 37)⟩]))))))
  (.seq (.reg [⟨(some 38), none, .mv (.t 7)⟩,
   ⟨(some 39), none, .mv (.t 8)⟩,
   ⟨(some 40), none, .cvI .u8 (.t 39)⟩,
   ⟨(some 41), none, .mv (.t 2)⟩,
   ⟨(some 42), none, .cvI .u8 (.t 41)⟩,
   ⟨(some 43), none, .mkS 5 2 [(.int .u8 0), (.int .u8 0)] [(0, 1, (.t 40)), (1, 1, (.t 42))]⟩,
   ⟨(some 44), none, .app 5 1 1 (.t 38) (.t 43)⟩,
   ⟨(some 45), none, .build [(.int .i64 0), (.slice none 0 0)] [(1, 1, (.t 44))]⟩,
   ⟨none, none, .st 2 (.t 6) (.t 45)⟩])
  .ret))))))),
  [.cell 6 (some 2)]⟩
theorem k17 : cFn Try.prog Try.f17 = some c17 := by kernel_rfl
theorem padBS_ok : OkT Try.prog 17 (pureSp padB_S) := by
  refine okT_fn (OkΓT.cons l1In_ok (OkΓT.nil _)) Try.func17 (by kernel_rfl) k17 (fun x _ => brV_own _ _) ?_
  rintro ⟨l, s, x⟩ ⟨h1, h2⟩
  try dsimp only at *
  have hlen := bs_len l
  by_cases c0 : 1 ≤ s ∧ s ≤ 16
  case neg =>
    rw [brV_bad (c' := 3) (by unfold padC; rw [if_neg (fun h => c0 h.1)]) (by decide)]
    (dsimp only [c17]; simp (maxSteps := 8000000) (implicitDefEqProofs := false) (disch := omega) only [↓reduceIte, go_sem, if_pos, if_neg, hlen, in_at, eq_false c0])
    exact endT_v (.inr rfl) (by (simp (maxSteps := 8000000) (implicitDefEqProofs := false) (disch := omega) only [↓reduceIte, go_sem, if_pos, if_neg]) <;> rfl) (fun _ => rfl)
  by_cases c1 : 0 ≤ x ∧ x ≤ 255
  case neg =>
    rw [brV_bad (c' := 3) (by unfold padC; rw [if_neg (fun h => c1 h.2)]) (by decide)]
    (dsimp only [c17]; simp (maxSteps := 8000000) (implicitDefEqProofs := false) (disch := omega) only [↓reduceIte, go_sem, if_pos, if_neg, hlen, in_at, eq_true c0, eq_false c1])
    exact endT_v (.inr rfl) (by (simp (maxSteps := 8000000) (implicitDefEqProofs := false) (disch := omega) only [↓reduceIte, go_sem, if_pos, if_neg]) <;> rfl) (fun _ => rfl)
  by_cases c2 : (l.length : Int) > 400
  case pos =>
    rw [brV_bad (c' := 2) (by unfold padC; rw [if_pos ⟨c0, c1⟩, if_pos c2]) (by decide)]
    (dsimp only [c17]; simp (maxSteps := 8000000) (implicitDefEqProofs := false) (disch := omega) only [↓reduceIte, go_sem, if_pos, if_neg, hlen, in_at, eq_true c0, eq_true c1, eq_true c2])
    exact endT_v (.inr rfl) (by (simp (maxSteps := 8000000) (implicitDefEqProofs := false) (disch := omega) only [↓reduceIte, go_sem, if_pos, if_neg]) <;> rfl) (fun _ => rfl)
  have hx := tu8 c1
  rw [brV_ok (by unfold padC; rw [if_pos ⟨c0, c1⟩, if_neg c2])]
  obtain ⟨s, rfl⟩ := Int.eq_ofNat_of_zero_le (show 0 ≤ s by omega)
  rw [Int.toNat_natCast]
  have hzo := zOf_pos (n := (padL l s x).length) (z := 1) (by rw [padL_len]; omega)
  rw [hzo]
  (dsimp only [c17]; simp (maxSteps := 8000000) (implicitDefEqProofs := false) (disch := omega) only [↓reduceIte, go_sem, if_pos, if_neg, hlen, in_at, eq_true c0, eq_true c1, eq_false c2])

  have hm := padN_bd (n := l.length) (S := s) (by omega)
  have he := padN_eq (n := l.length) (S := s) (by omega)
  have hlt' : ∀ j, j < padN l.length s → (l.length + j + 2) % s ≠ 0 := fun j hj => padN_lt (by omega) hj
  have hpl := padL_len l s x
  have hpd : padL l s x = l ++ (runL (padN l.length s) ++ [(padN l.length s : Int), x]) := by simp [padL]
  generalize padN l.length s = m at *
  refine awpT_loop (α := Nat) (fun j => ⟨slots [(1, .p (.int .i64 s)), (2, .p (.int .i64 x)), (6, .op 0 0 0), (7, .os 1 0 (l.length + j)), (8, .p (.int .i64 j))], [.cells 27 2 [.agg [.p (.int .i64 0), .nl]], .cells 5 1 (bsT (l ++ runL j))]⟩) (fun j => j ≤ m) (fun j => m - j) 0 (Nat.zero_le _) (by simp only [show runL 0 = [] from rfl, List.append_nil, Nat.add_zero, nat0T]; exact (le_of [0, 2] (by simp (maxSteps := 8000000) (implicitDefEqProofs := false) (disch := omega) only [↓reduceIte, go_sem, if_pos, if_neg]) (by simp (maxSteps := 8000000) (implicitDefEqProofs := false) (disch := omega) only [↓reduceIte, go_sem, if_pos, if_neg]) (by decide) (by simp))) ?_
  intro j hj
  have hl : (bsT (l ++ runL j)).length = l.length + j := by rw [bs_len, List.length_append, runL_len]
  have ht : (bsT (l ++ runL j)).take (l.length + j) = bsT (l ++ runL j) := List.take_of_length_le (by omega)
  have hq := rem64 (n := (l.length : Int) + (j : Int) + 2) (b := (s : Int)) (by omega) (by omega)
  rw [show (l.length : Int) + (j : Int) + 2 = ((l.length + j + 2 : Nat) : Int) by omega, natmod] at hq
  have hr : j < m → (l.length + j + 2) % s ≠ 0 := hlt' j
  have hr0 : j = m → (l.length + j + 2) % s = 0 := fun e => by rw [e]; exact he
  generalize (l.length + j + 2) % s = r at *
  rw [show ((l.length + j + 2 : Nat) : Int) = (l.length : Int) + (j : Int) + 2 by omega] at hq
  have ht2 : (l ++ runL j).take (l.length + j) = l ++ runL j := List.take_of_length_le (by rw [List.length_append, runL_len]; omega)
  have ap1 : l ++ (runL j ++ [(j : Int) + 1]) = l ++ runL j ++ [(j : Int) + 1] := by simp
  by_cases hc : j < m
  · have hne := hr hc
    simp (maxSteps := 8000000) (implicitDefEqProofs := false) (disch := omega) only [↓reduceIte, go_sem, if_pos, if_neg, bs_len, runL_len, ↓hq, eq_false (show ¬ (r : Int) = 0 by omega), ht2, sized_b1, hx]
    refine loopKT_next (j + 1) (by omega) (by omega) ?_
    rw [runL_succ, ← List.append_assoc, show l.length + (j + 1) = l.length + j + 1 from rfl]
    exact (le_of [0, 3] (by simp (maxSteps := 8000000) (implicitDefEqProofs := false) (disch := omega) only [↓reduceIte, go_sem, if_pos, if_neg]) (by simp (maxSteps := 8000000) (implicitDefEqProofs := false) (disch := omega) only [↓reduceIte, go_sem, if_pos, if_neg]) (by decide) (by simp))
  · have hjm : j = m := by omega
    subst hjm
    have hr2 := hr0 rfl
    simp (maxSteps := 8000000) (implicitDefEqProofs := false) (disch := omega) only [↓reduceIte, go_sem, if_pos, if_neg, bs_len, runL_len, ↓hq, eq_true (show (r : Int) = 0 by omega), hx]
    refine joinK_here ?_
    rw [hpl, hpd]
    simp (maxSteps := 8000000) (implicitDefEqProofs := false) (disch := first | omega | (simp only [List.length_append, List.length_cons, List.length_nil, Nat.reduceAdd, runL_len]; omega)) only [↓reduceIte, go_sem, if_pos, if_neg, bs_len, runL_len, ht2, bs_lit, hx, sized1_p, sized1_nil, List.cons_append, List.nil_append, List.append_nil, List.append_assoc]
    exact endT_of [3] (.inr rfl) (by simp (maxSteps := 8000000) (implicitDefEqProofs := false) (disch := omega) only [↓reduceIte, go_sem, if_pos, if_neg]; rfl) (by simp (maxSteps := 8000000) (implicitDefEqProofs := false) (disch := omega) only [↓reduceIte, go_sem, if_pos, if_neg]) (by simp (maxSteps := 8000000) (implicitDefEqProofs := false) (disch := omega) only [↓reduceIte, go_sem, if_pos, if_neg]) (by decide) (by simp)
end Go.Proofs.Ytkijbknnbmbnbaa
