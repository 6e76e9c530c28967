import Derived.Test.YtghpdclhhnbgjaaG8
set_option linter.unusedSimpArgs false
set_option linter.unusedVariables false
set_option maxRecDepth 100000
set_option maxHeartbeats 4000000
namespace Go.Proofs.Ytghpdclhhnbgjaa
open Go Go.AH
attribute [local irreducible] awpT ropsT qopsT stepT condKT gdKT EndT joinK loopKT seqKT blkKT kont kontR
/-! Sorting of agreements of which but the last lies wrong -/

def saB (l : List Rw) : TB := .cells 45 11 (rowsT rwT l)
/-- The parts of a row lie ready, apart from the block b. -/
def rdy (b : Nat) (h : THeap) (r : Rw) : Prop := h[r.2]? = some (selB r.1.sels) ∧ r.2 ≠ b
structure SortP (b : Nat) (h : THeap) (A : List Rw) (x : Rw) (p : Nat) : Prop where
  at_ : h[b]? = some (saB (A ++ [x]))
  len : A.length ≤ 11
  rdyA : ∀ r ∈ A, rdy b h r
  rdyX : rdy b h x
  ple : p ≤ A.length
  lo : ∀ i y, A[i]? = some y → i < p → y.1.spi < x.1.spi
  hi : ∀ i y, A[i]? = some y → p ≤ i → x.1.spi < y.1.spi
  asc : ∀ i y z, A[i]? = some y → A[i + 1]? = some z → y.1.spi < z.1.spi
  bel : h.all (belowB h.length) = true
def insQ (args : List TV) (h : THeap) (r : TV) (h' : THeap) : Prop := ∃ b A x p, args = [.os b 0 (A.length + 1), .p (.int .i64 0), .p (.int .i64 (A.length + 1 : Nat)), .fn 96 []] ∧ SortP b h A x p ∧ r = .tup [] ∧ h' = h.set b (saB (insA A x p))
def pdqQ (args : List TV) (h : THeap) (r : TV) (h' : THeap) : Prop := ∃ b A x p m, args = [.os b 0 (A.length + 1), .p (.int .i64 0), .p (.int .i64 (A.length + 1 : Nat)), .p (.int .i64 m), .fn 96 []] ∧ SortP b h A x p ∧ r = .tup [] ∧ h' = h.set b (saB (insA A x p))
def sortQ (args : List TV) (h : THeap) (r : TV) (h' : THeap) : Prop := ∃ b A x p, args = [.os b 0 (A.length + 1), .fn 96 []] ∧ SortP b h A x p ∧ r = .tup [] ∧ h' = h.set b (saB (insA A x p))
theorem below_row {m : Nat} {l : List Rw} : belows m (rowsT rwT l) = true ↔ ∀ r ∈ l, r.2 < m := by
  induction l with
  | nil => simp [rowsT, belows]
  | cons a l ih =>
    have e : rowsT rwT (a :: l) = rwT a :: rowsT rwT l := rfl
    simp only [e, belows, Bool.and_eq_true, ih, List.mem_cons, forall_eq_or_imp, rwT, below, decide_eq_true_eq]
    simp
theorem SortP.after {b : Nat} {h : THeap} {A : List Rw} {x : Rw} {p : Nat} (H : SortP b h A x p) (j : Nat) : (h.set b (saB (insA A x j))).all (belowB h.length) = true := by
  rw [List.all_eq_true]
  intro y hy
  rcases List.mem_or_eq_of_mem_set hy with hy | rfl
  · exact List.all_eq_true.1 H.bel y hy
  · have h0 : belows h.length (rowsT rwT (A ++ [x])) = true := belowB_at H.bel b _ _ _ H.at_
    show belows h.length (rowsT rwT (insA A x j)) = true
    rw [below_row] at h0 ⊢
    intro r hr
    rcases insA_mem hr with hr | rfl
    · exact h0 r (List.mem_append_left _ hr)
    · exact h0 r (by simp)
theorem SortP.mut {F : List TV → THeap → TV → THeap → Prop} {b : Nat} {h : THeap} {A : List Rw} {x : Rw} {p : Nat} (H : SortP b h A x p) {targs : List TV} (ha : belows h.length targs = true) (hF : F targs h (.tup []) (h.set b (saB (insA A x p)))) : MutQ F targs h (.tup []) (h.set b (saB (insA A x p))) (List.range h.length) targs h (.tup []) (h.set b (saB (insA A x p))) :=
  mutQ_id ha H.bel hF (List.length_set ..) rfl (H.after p)
-- slices.insertionSortCmpFunc[impl.Sa]
def c165 : AF := ⟨53,
 (.seq (.reg [rO 10 (.mv (.t 1)),
 rO 11 (.bin .add (.t 10) (.v (.int .i64 1))),
 rO 8 (.mv (.t 11))])
 (.block 0 (.loop (.seq (.seq (.reg [rO 12 (.mv (.t 8)),
 rO 13 (.mv (.t 2)),
 rO 14 (.bin .lss (.t 12) (.t 13))])
 (.cond (.t 14) .skip
 (.exit 0)))
 (.seq (.block 1 (.seq (.reg [rO 17 (.mv (.t 8)),
 rO 9 (.mv (.t 17))])
 (.block 2 (.loop (.seq (.seq (.drw [rO 18 (.mv (.t 9)),
 rO 19 (.mv (.t 1)),
 rO 20 (.bin .gtr (.t 18) (.t 19)),
 rO 21 (.mv (.t 20)),
 ⟨(some 22), (some (21, true)), .mv (.t 3)⟩,
 ⟨(some 23), (some (21, true)), .mv (.t 0)⟩,
 ⟨(some 24), (some (21, true)), .mv (.t 9)⟩,
 ⟨(some 25), (some (21, true)), .ia 11 (.t 23) (.t 24)⟩,
 ⟨(some 26), (some (21, true)), .ldn 11 (.t 25)⟩,
 ⟨(some 27), (some (21, true)), .mv (.t 0)⟩,
 ⟨(some 28), (some (21, true)), .mv (.t 9)⟩,
 ⟨(some 29), (some (21, true)), .bin .sub (.t 28) (.v (.int .i64 1))⟩,
 ⟨(some 30), (some (21, true)), .ia 11 (.t 27) (.t 29)⟩,
 ⟨(some 31), (some (21, true)), .ldn 11 (.t 30)⟩] [⟨(some 32), (some (21, true)), .callv (.t 22) [(.t 26), (.t 31)]⟩,
 ⟨(some 33), (some (21, true)), .bin .lss (.t 32) (.v (.int .i64 0))⟩,
 rO 34 (.pick (.t 21) (.t 33) (.v (.bool false)))])
 (.cond (.t 34) .skip
 (.exit 2)))
 (.seq (.block 3 (.drw [rO 37 (.mv (.t 0)),
 rO 38 (.mv (.t 9)),
 rO 39 (.mv (.t 0)),
 rO 40 (.mv (.t 9)),
 rO 41 (.bin .sub (.t 40) (.v (.int .i64 1))),
 rO 42 (.mv (.t 0)),
 rO 43 (.mv (.t 9)),
 rO 44 (.bin .sub (.t 43) (.v (.int .i64 1))),
 rO 45 (.ia 11 (.t 42) (.t 44)),
 rO 46 (.ldn 11 (.t 45)),
 rO 47 (.mv (.t 0)),
 rO 48 (.mv (.t 9)),
 rO 49 (.ia 11 (.t 47) (.t 48)),
 rO 50 (.ldn 11 (.t 49))] [rO 51 (.ia 11 (.t 37) (.t 38)),
 ⟨none, none, .st 11 (.t 51) (.t 46)⟩,
 rO 52 (.ia 11 (.t 39) (.t 41)),
 ⟨none, none, .st 11 (.t 52) (.t 50)⟩]))
 (.reg [rO 35 (.mv (.t 9)),
 rO 36 (.bin .sub (.t 35) (.v (.int .i64 1))),
 rO 9 (.mv (.t 36))])))))))
 (.reg [rO 15 (.mv (.t 8)),
 rO 16 (.bin .add (.t 15) (.v (.int .i64 1))),
 rO 8 (.mv (.t 16))])))))),
 []⟩
theorem k165 : cFn Try.prog Try.f165 = some c165 := by kernel_rfl
theorem ins_ok : OkT Try.prog 165 (mutQ insQ) := by
  refine okT_mutQ (OkΓT.cons cmpS_ok (OkΓT.nil _)) Try.func165 (by kernel_rfl) k165 ?_
  rintro args h r h' ⟨b, A, x, p, rfl, H, rfl, rfl⟩
  have hlt : b < h.length := (List.getElem?_eq_some_iff.1 H.at_).1
  have hle := H.len; have hple := H.ple
  have g1 : ∀ Y, (h.set b Y)[b]? = some Y := fun Y => List.getElem?_set_self hlt
  have g2 : ∀ Y Z, (h.set b Y).set b Z = h.set b Z := fun Y Z => List.set_set ..
  have g3 : ∀ Y, (h.set b Y).length = h.length := fun Y => List.length_set ..
  have g4 : ∀ r, rdy b h r → ∀ Y, (h.set b Y)[r.2]? = some (selB r.1.sels) := fun r hr Y => by rw [List.getElem?_set_ne (Ne.symm hr.2)]; exact hr.1
  have h0 : h = h.set b (saB (insA A x A.length)) := by rw [insA_full]; exact (by
    apply List.ext_getElem?
    intro i
    by_cases e : i = b
    · subst e; rw [List.getElem?_set_self hlt]; exact H.at_
    · rw [List.getElem?_set_ne (fun q => e q.symm)])
  have hlen : ∀ j, (rowsT rwT (insA A x j)).length = A.length + 1 := fun j => by rw [rowsT_len, insA_len]
  generalize hn : A.length + 1 = n at *
  (dsimp only [c165, rO]; simp (maxSteps := 8000000) -implicitDefEqProofs (disch := omega) only [↓reduceIte, go_sem])
  refine awpT_loop (α := Nat) (fun i => ⟨slots [(0, .os b 0 n), (1, .p (.int .i64 0)), (2, .p (.int .i64 n)), (3, .fn 96 []), (8, .p (.int .i64 i))], h.set b (saB (insA A x (if i ≤ A.length then A.length else p)))⟩) (fun i => 1 ≤ i ∧ i ≤ n) (fun i => n - i) 1 ⟨by omega, by omega⟩ (by
    by_cases c : 1 ≤ A.length
    · rw [if_pos c, ← h0]; exact le_keep (Nat.le_refl _) (by simp (maxSteps := 8000000) -implicitDefEqProofs (disch := omega) only [↓reduceIte, go_sem, slotsIn, nat1T])
    · have c0 : A.length = 0 := by omega
      have e : p = A.length := by omega
      rw [if_neg c, e, ← h0]; exact le_keep (Nat.le_refl _) (by simp (maxSteps := 8000000) -implicitDefEqProofs (disch := omega) only [↓reduceIte, go_sem, slotsIn, nat1T])) ?_
  intro i ⟨hi1, hi2⟩
  simp (maxSteps := 8000000) -implicitDefEqProofs (disch := omega) only [↓reduceIte, go_sem]
  refine condKT_dec (fun hlt => ?_) (fun hge => ?_)
  · rw [if_pos (show i ≤ A.length by omega)]
    by_cases c : i < A.length
    · obtain ⟨m, hm⟩ : ∃ m, i = m + 1 := ⟨i - 1, by omega⟩
      obtain ⟨y, hy⟩ := get_ex (l := A) (i := i) c
      obtain ⟨z, hz⟩ := get_ex (l := A) (i := m) (by omega)
      have e1 : (i : Int) - 1 = (m : Int) := by omega
      have k1 : (insA A x A.length)[i]? = some y := by rw [insA_lt c (Nat.le_refl _)]; exact hy
      have k2 : (insA A x A.length)[m]? = some z := by rw [insA_lt (by omega) (Nat.le_refl _)]; exact hz
      have ry := g4 y (H.rdyA y (List.mem_of_getElem? hy)); have rz := g4 z (H.rdyA z (List.mem_of_getElem? hz))
      have ha := H.asc m z y hz (by rw [← hm]; exact hy)
      have q := cmpS_at y.1 z.1
      rw [show cmpI y.1.spi z.1.spi = 1 by unfold cmpI; rw [if_neg (by omega), if_pos (by omega)]] at q
      simp only [saT] at q
      simp (maxSteps := 8000000) -implicitDefEqProofs (disch := omega) only [↓reduceIte, go_sem, eq_true hlt]
      refine awpT_loop (α := Unit) (fun _ => ⟨slots [(0, .os b 0 n), (1, .p (.int .i64 0)), (2, .p (.int .i64 n)), (3, .fn 96 []), (8, .p (.int .i64 i)), (9, .p (.int .i64 i))], h.set b (saB (insA A x A.length))⟩) (fun _ => True) (fun _ => 0) () trivial (le_keep (by rw [g3]; exact Nat.le_refl _) (by simp (maxSteps := 8000000) -implicitDefEqProofs (disch := omega) only [↓reduceIte, go_sem, slotsIn])) ?_
      intro _ _
      simp (maxSteps := 8000000) -implicitDefEqProofs (disch := omega) only [↓reduceIte, go_sem, saB, g1, g2, g3, hlen, e1, k1, k2, eq_true (show (i : Int) > 0 by omega), rwT, ry, rz, q, List.take_length]
      refine loopKT_next (i + 1) ⟨by omega, by omega⟩ (by omega) ?_
      rw [if_pos (show i + 1 ≤ A.length by omega)]
      exact le_keep (by rw [g3]; exact Nat.le_refl _) (by simp (maxSteps := 8000000) -implicitDefEqProofs (disch := omega) only [↓reduceIte, go_sem, slotsIn])
    · have e : i = A.length := by omega
      simp (maxSteps := 8000000) -implicitDefEqProofs (disch := omega) only [↓reduceIte, go_sem, eq_true hlt]
      refine awpT_loop (α := Nat) (fun j => ⟨slots [(0, .os b 0 n), (1, .p (.int .i64 0)), (2, .p (.int .i64 n)), (3, .fn 96 []), (8, .p (.int .i64 i)), (9, .p (.int .i64 j))], h.set b (saB (insA A x j))⟩) (fun j => p ≤ j ∧ j ≤ A.length) (fun j => j) i ⟨by omega, by omega⟩ (by rw [e]; exact le_keep (by rw [g3]; exact Nat.le_refl _) (by simp (maxSteps := 8000000) -implicitDefEqProofs (disch := omega) only [↓reduceIte, go_sem, slotsIn])) ?_
      intro j ⟨hj1, hj2⟩
      by_cases j0 : j = 0
      · simp (maxSteps := 8000000) -implicitDefEqProofs (disch := omega) only [↓reduceIte, go_sem, eq_false (show ¬ (j : Int) > 0 by omega)]
        refine loopKT_next (i + 1) ⟨by omega, by omega⟩ (by omega) ?_
        rw [if_neg (show ¬ i + 1 ≤ A.length by omega), show p = j by omega]
        exact le_keep (by rw [g3]; exact Nat.le_refl _) (by simp (maxSteps := 8000000) -implicitDefEqProofs (disch := omega) only [↓reduceIte, go_sem, slotsIn])
      obtain ⟨m, hm⟩ : ∃ m, j = m + 1 := ⟨j - 1, by omega⟩
      obtain ⟨y, hy⟩ := get_ex (l := A) (i := m) (by omega)
      have e1 : (j : Int) - 1 = (m : Int) := by omega
      have k1 : (insA A x j)[j]? = some x := insA_x hj2
      have k2 : (insA A x j)[m]? = some y := by rw [insA_lt (by omega) hj2]; exact hy
      have rx := g4 x H.rdyX; have ry := g4 y (H.rdyA y (List.mem_of_getElem? hy))
      have q := cmpS_at x.1 y.1
      simp only [saT] at q
      by_cases cm : m < p
      · have ha := H.lo m y hy cm
        rw [show cmpI x.1.spi y.1.spi = 1 by unfold cmpI; rw [if_neg (by omega), if_pos (by omega)]] at q
        simp (maxSteps := 8000000) -implicitDefEqProofs (disch := omega) only [↓reduceIte, go_sem, saB, g1, g2, g3, hlen, e1, k1, k2, eq_true (show (j : Int) > 0 by omega), rwT, rx, ry, q, List.take_length]
        refine loopKT_next (i + 1) ⟨by omega, by omega⟩ (by omega) ?_
        rw [if_neg (show ¬ i + 1 ≤ A.length by omega), show p = j by omega]
        exact le_keep (by rw [g3]; exact Nat.le_refl _) (by simp (maxSteps := 8000000) -implicitDefEqProofs (disch := omega) only [↓reduceIte, go_sem, slotsIn])
      · have ha := H.hi m y hy (by omega)
        have hs : ((rowsT rwT (insA A x j)).set j (rwT y)).set m (rwT x) = rowsT rwT (insA A x m) := by rw [rows_set, rows_set, hm, insA_swap hy]
        simp only [rwT] at hs
        have kg : ∀ v, ((rowsT rwT (insA A x j)).set j v)[m]? = some (rwT y) := fun v => by rw [List.getElem?_set_ne (by omega)]; exact rowsT_get k2
        rw [show cmpI x.1.spi y.1.spi = -1 by unfold cmpI; rw [if_pos (by omega)]] at q
        simp (maxSteps := 8000000) -implicitDefEqProofs (disch := omega) only [↓reduceIte, go_sem, saB, g1, g2, g3, hlen, e1, k1, k2, eq_true (show (j : Int) > 0 by omega), rwT, rx, ry, q, List.take_length, hs, kg]
        refine loopKT_next m ⟨by omega, by omega⟩ (by omega) ?_
        exact le_keep (by rw [g3]; exact Nat.le_refl _) (by simp (maxSteps := 8000000) -implicitDefEqProofs (disch := omega) only [↓reduceIte, go_sem, slotsIn])
  · rw [if_neg (show ¬ i ≤ A.length by omega)]
    simp (maxSteps := 8000000) -implicitDefEqProofs (disch := omega) only [↓reduceIte, go_sem, eq_false hge]
    exact endK_same (.inl rfl) (by rw [g3]; exact Nat.le_refl _) (by simp (maxSteps := 8000000) -implicitDefEqProofs (disch := omega) only [↓reduceIte, go_sem]) rfl

-- slices.pdqsortCmpFunc[impl.Sa]
def c138 : AF := ⟨148,
 (.seq (.reg [rO 10 (.mv (.v (.bool true)))])
 (.seq (.reg [rO 11 (.mv (.v (.bool true)))])
 (.block 0 (.loop (.block 1 (.seq (.reg [rO 21 (.mv (.t 2)),
 rO 22 (.mv (.t 1)),
 rO 23 (.bin .sub (.t 21) (.t 22)),
 rO 12 (.mv (.t 23))])
 (.seq (.seq (.reg [rO 24 (.mv (.t 12)),
 rO 25 (.bin .leq (.t 24) (.v (.int .i64 12)))])
 (.cond (.t 25) (.seq (.reg [rO 26 (.mv (.t 0)),
 rO 27 (.mv (.t 1)),
 rO 28 (.mv (.t 2)),
 rO 29 (.mv (.t 4)),
 rO 30 (.call 165 [(.t 26), (.t 27), (.t 28), (.t 29)])])
 .ret)
 .skip))
 (.seq (.seq (.reg [rO 31 (.mv (.t 3)),
 rO 32 (.bin .eql (.t 31) (.v (.int .i64 0)))])
 (.cond (.t 32) (.seq (.reg [rO 33 (.mv (.t 0)),
 rO 34 (.mv (.t 1)),
 rO 35 (.mv (.t 2)),
 rO 36 (.mv (.t 4)),
 rO 37 (.call 166 [(.t 33), (.t 34), (.t 35), (.t 36)])])
 .ret)
 .skip))
 (.seq (.seq (.reg [rO 38 (.mv (.t 10)),
 rO 39 (.un .not (.t 38))])
 (.cond (.t 39) (.seq (.reg [rO 40 (.mv (.t 0)),
 rO 41 (.mv (.t 1)),
 rO 42 (.mv (.t 2)),
 rO 43 (.mv (.t 4)),
 rO 44 (.call 167 [(.t 40), (.t 41), (.t 42), (.t 43)])])
 (.reg [rO 45 (.mv (.t 3)),
 rO 46 (.bin .sub (.t 45) (.v (.int .i64 1))),
 rO 3 (.mv (.t 46))]))
 .skip))
 (.seq (.reg [rO 48 (.mv (.t 0)),
 rO 49 (.mv (.t 1)),
 rO 50 (.mv (.t 2)),
 rO 51 (.mv (.t 4)),
 rO 52 (.call 168 [(.t 48), (.t 49), (.t 50), (.t 51)]),
 rO 47 (.mv (.t 52)),
 rO 53 (.ext (.t 47) 0),
 rO 54 (.ext (.t 47) 1),
 rO 13 (.mv (.t 53)),
 rO 14 (.mv (.t 54))])
 (.seq (.seq (.reg [rO 55 (.mv (.t 14)),
 rO 56 (.bin .eql (.t 55) (.v (.int .i64 2)))])
 (.cond (.t 56) (.seq (.reg [rO 57 (.mv (.t 0)),
 rO 58 (.mv (.t 1)),
 rO 59 (.mv (.t 2)),
 rO 60 (.mv (.t 4)),
 rO 61 (.call 169 [(.t 57), (.t 58), (.t 59), (.t 60)])])
 (.seq (.reg [rO 62 (.mv (.t 2)),
 rO 63 (.bin .sub (.t 62) (.v (.int .i64 1))),
 rO 64 (.mv (.t 13)),
 rO 65 (.mv (.t 1)),
 rO 66 (.bin .sub (.t 64) (.t 65)),
 rO 67 (.bin .sub (.t 63) (.t 66)),
 rO 13 (.mv (.t 67))])
 (.reg [rO 14 (.mv (.v (.int .i64 1)))])))
 .skip))
 (.seq (.seq (.reg [rO 68 (.mv (.t 10)),
 rO 69 (.mv (.t 68)),
 ⟨(some 70), (some (69, true)), .mv (.t 11)⟩,
 rO 71 (.pick (.t 69) (.t 70) (.v (.bool false))),
 rO 72 (.mv (.t 71)),
 ⟨(some 73), (some (72, true)), .mv (.t 14)⟩,
 ⟨(some 74), (some (72, true)), .bin .eql (.t 73) (.v (.int .i64 1))⟩,
 rO 75 (.pick (.t 72) (.t 74) (.v (.bool false)))])
 (.cond (.t 75) (.seq (.reg [rO 76 (.mv (.t 0)),
 rO 77 (.mv (.t 1)),
 rO 78 (.mv (.t 2)),
 rO 79 (.mv (.t 4)),
 rO 80 (.call 170 [(.t 76), (.t 77), (.t 78), (.t 79)])])
 (.cond (.t 80) .ret
 .skip))
 .skip))
 (.seq (.seq (.drw [rO 81 (.mv (.t 1)),
 rO 82 (.bin .gtr (.t 81) (.v (.int .i64 0))),
 rO 83 (.mv (.t 82)),
 ⟨(some 84), (some (83, true)), .mv (.t 4)⟩,
 ⟨(some 85), (some (83, true)), .mv (.t 0)⟩,
 ⟨(some 86), (some (83, true)), .mv (.t 1)⟩,
 ⟨(some 87), (some (83, true)), .bin .sub (.t 86) (.v (.int .i64 1))⟩,
 ⟨(some 88), (some (83, true)), .ia 11 (.t 85) (.t 87)⟩,
 ⟨(some 89), (some (83, true)), .ldn 11 (.t 88)⟩,
 ⟨(some 90), (some (83, true)), .mv (.t 0)⟩,
 ⟨(some 91), (some (83, true)), .mv (.t 13)⟩,
 ⟨(some 92), (some (83, true)), .ia 11 (.t 90) (.t 91)⟩,
 ⟨(some 93), (some (83, true)), .ldn 11 (.t 92)⟩] [⟨(some 94), (some (83, true)), .callv (.t 84) [(.t 89), (.t 93)]⟩,
 ⟨(some 95), (some (83, true)), .bin .lss (.t 94) (.v (.int .i64 0))⟩,
 ⟨(some 96), (some (83, true)), .un .not (.t 95)⟩,
 rO 97 (.pick (.t 83) (.t 96) (.v (.bool false)))])
 (.cond (.t 97) (.seq (.reg [rO 98 (.mv (.t 0)),
 rO 99 (.mv (.t 1)),
 rO 100 (.mv (.t 2)),
 rO 101 (.mv (.t 13)),
 rO 102 (.mv (.t 4)),
 rO 103 (.call 171 [(.t 98), (.t 99), (.t 100), (.t 101), (.t 102)]),
 rO 15 (.mv (.t 103))])
 (.seq (.reg [rO 104 (.mv (.t 15)),
 rO 1 (.mv (.t 104))])
 (.exit 1)))
 .skip))
 (.seq (.reg [rO 106 (.mv (.t 0)),
 rO 107 (.mv (.t 1)),
 rO 108 (.mv (.t 2)),
 rO 109 (.mv (.t 13)),
 rO 110 (.mv (.t 4)),
 rO 111 (.call 172 [(.t 106), (.t 107), (.t 108), (.t 109), (.t 110)]),
 rO 105 (.mv (.t 111)),
 rO 112 (.ext (.t 105) 0),
 rO 113 (.ext (.t 105) 1),
 rO 16 (.mv (.t 112)),
 rO 17 (.mv (.t 113))])
 (.seq (.reg [rO 114 (.mv (.t 17)),
 rO 11 (.mv (.t 114))])
 (.seq (.reg [rO 115 (.mv (.t 16)),
 rO 116 (.mv (.t 1)),
 rO 117 (.bin .sub (.t 115) (.t 116)),
 rO 118 (.mv (.t 2)),
 rO 119 (.mv (.t 16)),
 rO 120 (.bin .sub (.t 118) (.t 119)),
 rO 18 (.mv (.t 117)),
 rO 19 (.mv (.t 120))])
 (.seq (.reg [rO 121 (.mv (.t 12)),
 rO 122 (.bin .quo (.t 121) (.v (.int .i64 8))),
 rO 20 (.mv (.t 122))])
 (.seq (.reg [rO 123 (.mv (.t 18)),
 rO 124 (.mv (.t 19)),
 rO 125 (.bin .lss (.t 123) (.t 124))])
 (.cond (.t 125) (.seq (.reg [rO 126 (.mv (.t 18)),
 rO 127 (.mv (.t 20)),
 rO 128 (.bin .geq (.t 126) (.t 127)),
 rO 10 (.mv (.t 128))])
 (.seq (.reg [rO 129 (.mv (.t 0)),
 rO 130 (.mv (.t 1)),
 rO 131 (.mv (.t 16)),
 rO 132 (.mv (.t 3)),
 rO 133 (.mv (.t 4)),
 rO 134 (.call 138 [(.t 129), (.t 130), (.t 131), (.t 132), (.t 133)])])
 (.reg [rO 135 (.mv (.t 16)),
 rO 136 (.bin .add (.t 135) (.v (.int .i64 1))),
 rO 1 (.mv (.t 136))])))
 (.seq (.reg [rO 137 (.mv (.t 19)),
 rO 138 (.mv (.t 20)),
 rO 139 (.bin .geq (.t 137) (.t 138)),
 rO 10 (.mv (.t 139))])
 (.seq (.reg [rO 140 (.mv (.t 0)),
 rO 141 (.mv (.t 16)),
 rO 142 (.bin .add (.t 141) (.v (.int .i64 1))),
 rO 143 (.mv (.t 2)),
 rO 144 (.mv (.t 3)),
 rO 145 (.mv (.t 4)),
 rO 146 (.call 138 [(.t 140), (.t 142), (.t 143), (.t 144), (.t 145)])])
 (.reg [rO 147 (.mv (.t 16)),
 rO 2 (.mv (.t 147))])))))))))))))))))))))),
 []⟩
theorem k138 : cFn Try.prog Try.f138 = some c138 := by kernel_rfl
theorem pdq_ok : OkT Try.prog 138 (mutQ pdqQ) := by
  refine okT_mutQ (OkΓT.cons ins_ok (OkΓT.nil _)) Try.func138 (by kernel_rfl) k138 ?_
  rintro args h r h' ⟨b, A, x, p, m, rfl, H, rfl, rfl⟩
  have hlt : b < h.length := (List.getElem?_eq_some_iff.1 H.at_).1
  have hle := H.len
  have hM := H.mut (F := insQ) (targs := [.os b 0 (A.length + 1), .p (.int .i64 0), .p (.int .i64 (A.length + 1 : Nat)), .fn 96 []]) (by simp only [belows, below, Bool.and_true, decide_eq_true_eq]; exact hlt) ⟨b, A, x, p, rfl, H, rfl, rfl⟩
  generalize hn : A.length + 1 = n at *
  (dsimp only [c138, rO]; simp (maxSteps := 8000000) -implicitDefEqProofs (disch := omega) only [↓reduceIte, go_sem])
  refine awpT_loop (α := Unit) (fun _ => ⟨slots [(0, .os b 0 n), (1, .p (.int .i64 0)), (2, .p (.int .i64 n)), (3, .p (.int .i64 m)), (4, .fn 96 [])], h⟩) (fun _ => True) (fun _ => 0) () trivial (le_keep (Nat.le_refl _) (by simp (maxSteps := 8000000) -implicitDefEqProofs (disch := omega) only [↓reduceIte, go_sem, slotsIn])) ?_
  intro _ _
  simp (maxSteps := 8000000) -implicitDefEqProofs (disch := omega) only [↓reduceIte, go_sem, eq_true (show (n : Int) ≤ 12 by omega)]
  refine mutQ_call (by simp (maxSteps := 8000000) -implicitDefEqProofs (disch := omega) only [↓reduceIte, go_sem]) (by simp (maxSteps := 8000000) -implicitDefEqProofs (disch := omega) only [↓reduceIte, go_sem]) hM ?_
  simp (maxSteps := 8000000) -implicitDefEqProofs (disch := omega) only [↓reduceIte, go_sem]
  exact endK_same (.inr rfl) (by rw [List.length_set]; exact Nat.le_refl _) (by simp (maxSteps := 8000000) -implicitDefEqProofs (disch := omega) only [↓reduceIte, go_sem]) rfl
-- slices.SortFunc[[]impl.Sa,impl.Sa]
def c95 : AF := ⟨14,
 (.seq (.reg [rO 5 (.mv (.t 0)),
 rO 6 (.len (.t 5)),
 rO 4 (.mv (.t 6))])
 (.reg [rO 7 (.mv (.t 0)),
 rO 8 (.mv (.t 4)),
 rO 9 (.mv (.t 4)),
 rO 10 (.cvI .u64 (.t 9)),
 rO 11 (.call 139 [(.t 10)]),
 rO 12 (.mv (.t 1)),
 rO 13 (.call 138 [(.t 7), (.v (.int .i64 0)), (.t 8), (.t 11), (.t 12)])])),
 []⟩
theorem k95 : cFn Try.prog Try.f95 = some c95 := by kernel_rfl
theorem sort_ok : OkT Try.prog 95 (mutQ sortQ) := by
  refine okT_mutQ (OkΓT.cons len_ok (OkΓT.cons pdq_ok (OkΓT.nil _))) Try.func95 (by kernel_rfl) k95 ?_
  rintro args h r h' ⟨b, A, x, p, rfl, H, rfl, rfl⟩
  have hlt : b < h.length := (List.getElem?_eq_some_iff.1 H.at_).1
  have hle := H.len
  have hM := H.mut (F := pdqQ) (targs := [.os b 0 (A.length + 1), .p (.int .i64 0), .p (.int .i64 (A.length + 1 : Nat)), .p (.int .i64 (lenB (A.length + 1))), .fn 96 []]) (by simp only [belows, below, Bool.and_true, decide_eq_true_eq]; exact hlt) ⟨b, A, x, p, _, rfl, H, rfl, rfl⟩
  have q := lenB_at (A.length + 1) (by omega)
  generalize hn : A.length + 1 = n at *
  have hw : IntKind.u64.wrap (n : Int) = (n : Int) := by
    simp [IntKind.wrap, IntKind.min, IntKind.max, IntKind.bits, IntKind.signed]; omega
  (dsimp only [c95, rO]; simp (maxSteps := 8000000) -implicitDefEqProofs (disch := omega) only [↓reduceIte, go_sem, hw, q])
  refine mutQ_call (by simp (maxSteps := 8000000) -implicitDefEqProofs (disch := omega) only [↓reduceIte, go_sem]) (by simp (maxSteps := 8000000) -implicitDefEqProofs (disch := omega) only [↓reduceIte, go_sem]) hM ?_
  simp (maxSteps := 8000000) -implicitDefEqProofs (disch := omega) only [↓reduceIte, go_sem]
  exact endK_same (.inl rfl) (by rw [List.length_set]; exact Nat.le_refl _) (by simp (maxSteps := 8000000) -implicitDefEqProofs (disch := omega) only [↓reduceIte, go_sem]) rfl
end Go.Proofs.Ytghpdclhhnbgjaa
