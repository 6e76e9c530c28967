import Derived.Test.YtghpdclhhnbgjaaG10
set_option linter.unusedSimpArgs false
set_option linter.unusedVariables false
set_option maxRecDepth 100000
set_option maxHeartbeats 4000000
namespace Go.Proofs.Ytghpdclhhnbgjaa
open Go Go.AH
attribute [local irreducible] awpT ropsT qopsT stepT condKT gdKT EndT joinK loopKT seqKT blkKT kont kontR
/-! AddSa of the specification -/

theorem keepAll_ex (l : List SaR) (h : goodL l) : keep_S (fun _ : Unit => []) (fun _ _ => true) [.s (rowsT saT l)] = some (.os 0 0 l.length, .cells 45 (zOf l.length 11) (tvRs 1 (l.map saC)) :: bkRs 1 (l.map saC)) := by
  rw [keepAll_at l h, ansC, sasK_tv, sasK_bk]
theorem sas_sized (l : List SaR) : sizedT 11 (rowsT saT l) = true := sized_iff.2 fun e he => by obtain ⟨x, _, rfl⟩ := List.mem_map.1 he; rfl
theorem spi_none {l : List SaR} {s : Int} (h : ¬ ∃ (i : Nat) (y : SaR), l[i]? = some y ∧ y.spi = s) : l.findIdx? (fun y => decide (y.spi = s)) = none := by
  rw [List.findIdx?_eq_none_iff]
  intro y hy
  obtain ⟨i, hi⟩ := List.getElem?_of_mem hy
  exact decide_eq_false fun e => h ⟨i, y, hi, e⟩
theorem spi_some {l : List SaR} {s : Int} (h : ∃ (i : Nat) (y : SaR), l[i]? = some y ∧ y.spi = s) : ∃ k, l.findIdx? (fun y => decide (y.spi = s)) = some k := by
  cases hf : l.findIdx? (fun y => decide (y.spi = s)) with
  | some k => exact ⟨k, rfl⟩
  | none =>
    obtain ⟨i, y, hi, e⟩ := h
    have := List.findIdx?_eq_none_iff.1 hf y (List.mem_of_getElem? hi)
    simp [e] at this
-- spec.AddSa
def c34 : AF := ⟨71,
 (.seq (.reg [rO 3 (.box 45 (.t 1)),
 rO 4 (.alloc 35 [(.int .i64 0), (.slice none 0 0)])])
 (.seq (.seq (.reg [rO 9 (.mv (.t 0)),
 rO 10 (.call 60 [(.t 9)]),
 rO 5 (.mv (.t 10))])
 (.seq (.reg [rO 11 (.mv (.t 5)),
 rO 12 (.bin .neq (.t 11) (.v (.int .i64 0)))])
 (.cond (.t 12) (.seq (.reg [rO 13 (.mv (.t 5)),
 rO 14 (.build [(.int .i64 0), (.slice none 0 0)] [(0, 1, (.t 13))]),
 ⟨none, none, .st 2 (.t 4) (.t 14)⟩])
 .ret)
 .skip)))
 (.seq (.seq (.reg [rO 15 (.ldn 11 (.t 3)),
 rO 16 (.call 86 [(.t 15)]),
 rO 6 (.mv (.t 16))])
 (.seq (.reg [rO 17 (.mv (.t 6)),
 rO 18 (.bin .neq (.t 17) (.v (.int .i64 0)))])
 (.cond (.t 18) (.seq (.reg [rO 19 (.mv (.t 6)),
 rO 20 (.build [(.int .i64 0), (.slice none 0 0)] [(0, 1, (.t 19))]),
 ⟨none, none, .st 2 (.t 4) (.t 20)⟩])
 .ret)
 .skip)))
 (.seq (.reg [rO 7 (.mv (.v (.int .i64 0)))])
 (.seq (.block 0 (.loop (.seq (.seq (.drw [rO 21 (.mv (.t 7)),
 rO 22 (.mv (.t 0)),
 rO 23 (.len (.t 22)),
 rO 24 (.bin .lss (.t 21) (.t 23)),
 rO 25 (.mv (.t 24)),
 ⟨(some 26), (some (25, true)), .mv (.t 0)⟩,
 ⟨(some 27), (some (25, true)), .mv (.t 7)⟩,
 ⟨(some 28), (some (25, true)), .ia 11 (.t 26) (.t 27)⟩,
 ⟨(some 29), (some (25, true)), .fa (.t 28) 0⟩,
 ⟨(some 30), (some (25, true)), .ld (.t 29)⟩,
 ⟨(some 31), (some (25, true)), .fa (.t 3) 0⟩,
 ⟨(some 32), (some (25, true)), .ld (.t 31)⟩] [⟨(some 33), (some (25, true)), .bin .lss (.t 30) (.t 32)⟩,
 rO 34 (.pick (.t 25) (.t 33) (.v (.bool false)))])
 (.cond (.t 34) .skip
 (.exit 0)))
 (.block 1 (.reg [rO 35 (.mv (.t 7)),
 rO 36 (.bin .add (.t 35) (.v (.int .i64 1))),
 rO 7 (.mv (.t 36))])))))
 (.seq (.seq (.drw [rO 37 (.mv (.t 7)),
 rO 38 (.mv (.t 0)),
 rO 39 (.len (.t 38)),
 rO 40 (.bin .lss (.t 37) (.t 39)),
 rO 41 (.mv (.t 40)),
 ⟨(some 42), (some (41, true)), .mv (.t 0)⟩,
 ⟨(some 43), (some (41, true)), .mv (.t 7)⟩,
 ⟨(some 44), (some (41, true)), .ia 11 (.t 42) (.t 43)⟩,
 ⟨(some 45), (some (41, true)), .fa (.t 44) 0⟩,
 ⟨(some 46), (some (41, true)), .ld (.t 45)⟩,
 ⟨(some 47), (some (41, true)), .fa (.t 3) 0⟩,
 ⟨(some 48), (some (41, true)), .ld (.t 47)⟩] [⟨(some 49), (some (41, true)), .bin .eql (.t 46) (.t 48)⟩,
 rO 50 (.pick (.t 41) (.t 49) (.v (.bool false)))])
 (.cond (.t 50) (.seq (.reg [rO 51 (.build [(.int .i64 0), (.slice none 0 0)] [(0, 1, (.v (.int .i64 7)))]),
 ⟨none, none, .st 2 (.t 4) (.t 51)⟩])
 .ret)
 .skip))
 (.seq (.seq (.reg [rO 52 (.mv (.t 0)),
 rO 53 (.len (.t 52)),
 rO 54 (.bin .geq (.t 53) (.v (.int .i64 12)))])
 (.cond (.t 54) (.seq (.reg [rO 55 (.build [(.int .i64 0), (.slice none 0 0)] [(0, 1, (.v (.int .i64 2)))]),
 ⟨none, none, .st 2 (.t 4) (.t 55)⟩])
 .ret)
 .skip))
 (.seq (.drw [rO 56 (.mv (.t 0)),
 rO 57 (.mv (.t 7)),
 rO 58 (.sl 11 (.t 56) none (some (.t 57))),
 rO 59 (.call 98 [(.t 58)]),
 rO 60 (.ldn 11 (.t 3))] [rO 61 (.call 99 [(.t 60)]),
 rO 62 (.mkS 45 1 [(.int .i64 0), (.int .i64 0), (.int .i64 0), (.bool false), (.int .i64 0), (.int .i64 0), (.int .i64 0), (.int .i64 0), (.int .i64 0), (.int .i64 0), (.slice none 0 0)] [(0, 11, (.t 61))]),
 rO 63 (.app 45 11 104 (.t 59) (.t 62)),
 rO 8 (.mv (.t 63))])
 (.seq (.reg [rO 64 (.mv (.t 8)),
 rO 65 (.mv (.t 0)),
 rO 66 (.mv (.t 7)),
 rO 67 (.sl 11 (.t 65) (some (.t 66)) none),
 rO 68 (.call 98 [(.t 67)]),
 rO 69 (.app 45 11 104 (.t 64) (.t 68)),
 rO 70 (.build [(.int .i64 0), (.slice none 0 0)] [(1, 1, (.t 69))]),
 ⟨none, none, .st 2 (.t 4) (.t 70)⟩])
 .ret))))))))),
 [.cell 4 (some 2)]⟩
theorem k34 : cFn Try.prog Try.f34 = some c34 := by kernel_rfl
theorem addS_ok : OkT Try.prog 34 (pureSp add_S) := by
  refine okT_fn (OkΓT.cons sasFS_ok (OkΓT.cons saFS_ok (OkΓT.cons l16All_ok (OkΓT.cons l16Copy_ok (OkΓT.nil _))))) Try.func34 (by kernel_rfl) k34 (fun x _ => ansR_own _) ?_
  rintro ⟨l, x⟩ ⟨⟨h1, h2⟩, h3⟩
  try dsimp only at *
  have hf := sasF_at l ⟨by omega, fun y hy => by have := h2 y hy; omega⟩
  have hx := saF_atx x (by omega)
  by_cases hz : sasF l = 0
  case neg =>
    rw [addR, if_neg hz, badC_ans]
    (dsimp only [c34, rO]; simp (maxSteps := 8000000) -implicitDefEqProofs (disch := omega) only [↓reduceIte, go_sem, saT, hf, eq_false hz])
    exact endT_v (.inr rfl) (by (simp (maxSteps := 8000000) -implicitDefEqProofs (disch := omega) only [↓reduceIte, go_sem]) <;> rfl) (fun _ => rfl)
  rw [addR, if_pos hz]
  by_cases hy : saF x = 0
  case neg =>
    rw [if_neg hy, badC_ans]
    (dsimp only [c34, rO]; simp (maxSteps := 8000000) -implicitDefEqProofs (disch := omega) only [↓reduceIte, go_sem, hf, hz, saT, hx, eq_false hy])
    exact endT_v (.inr rfl) (by (simp (maxSteps := 8000000) -implicitDefEqProofs (disch := omega) only [↓reduceIte, go_sem]) <;> rfl) (fun _ => rfl)
  rw [if_pos hy]
  obtain ⟨g1, g2, g3⟩ := sasF_zero hz
  have hp := pA_le l x.spi
  have hlo := fun i y => pA_lo (l := l) (s := x.spi) (i := i) (y := y)
  have hat := fun y => pA_at (l := l) (s := x.spi) (y := y)
  have htk := pA_taken g3 (s := x.spi)
  generalize hP : pA l x.spi = p at *
  (dsimp only [c34, rO]; simp (maxSteps := 8000000) -implicitDefEqProofs (disch := omega) only [↓reduceIte, go_sem, hf, hz, saT, hx, hy])
  refine awpT_loop (α := Nat) (fun i => ⟨slots [(0, .s (rowsT saT l)), (3, .op 0 0 0), (4, .op 1 0 0), (7, .p (.int .i64 i))], [.cells 45 11 [saT x], .cells 35 2 [.agg [.p (.int .i64 0), .nl]]]⟩) (fun i => i ≤ p) (fun i => p - i) 0 (Nat.zero_le _) (by simp only [nat0T, saT]; exact (le_of [0, 1] (by simp (maxSteps := 8000000) -implicitDefEqProofs (disch := omega) only [↓reduceIte, go_sem]) (by simp (maxSteps := 8000000) -implicitDefEqProofs (disch := omega) only [↓reduceIte, go_sem]) (by decide) (by simp))) ?_
  intro i hi
  by_cases hip : i < p
  · obtain ⟨y, hy'⟩ := get_ex (l := l) (i := i) (by omega)
    have := hlo i y hy' hip
    simp (maxSteps := 8000000) -implicitDefEqProofs (disch := omega) only [↓reduceIte, go_sem, eq_true (show (i : Int) < (l.length : Int) by omega), hy', saT, eq_true this]
    refine loopKT_next (i + 1) (by omega) (by omega) ?_
    exact (le_of [0, 1] (by simp (maxSteps := 8000000) -implicitDefEqProofs (disch := omega) only [↓reduceIte, go_sem, saT]) (by simp (maxSteps := 8000000) -implicitDefEqProofs (disch := omega) only [↓reduceIte, go_sem, saT]) (by decide) (by simp))
  obtain rfl : i = p := by omega
  by_cases hl : i < l.length
  · obtain ⟨y, hy'⟩ := get_ex (l := l) (i := i) hl
    have hle := hat y hy'
    simp (maxSteps := 8000000) -implicitDefEqProofs (disch := omega) only [↓reduceIte, go_sem, eq_true (show (i : Int) < (l.length : Int) by omega), hy', saT, eq_false (show ¬ y.spi < x.spi by omega)]
    refine joinK_at _ (show Le 0 _ ⟨slots [(0, .s (rowsT saT l)), (3, .op 0 0 0), (4, .op 1 0 0), (7, .p (.int .i64 i))], [.cells 45 11 [saT x], .cells 35 2 [.agg [.p (.int .i64 0), .nl]]]⟩ from (le_of [0, 1] (by simp (maxSteps := 8000000) -implicitDefEqProofs (disch := omega) only [↓reduceIte, go_sem, saT]) (by simp (maxSteps := 8000000) -implicitDefEqProofs (disch := omega) only [↓reduceIte, go_sem, saT]) (by decide) (by simp))) ?_
    by_cases he : y.spi = x.spi
    · obtain ⟨k, hk⟩ := spi_some (htk.1 ⟨y, hy', he⟩)
      rw [hk]
      dsimp only
      rw [badC_ans]
      simp (maxSteps := 8000000) -implicitDefEqProofs (disch := omega) only [↓reduceIte, go_sem, eq_true (show (i : Int) < (l.length : Int) by omega), hy', saT, he]
      exact endT_v (.inr rfl) (by (simp (maxSteps := 8000000) -implicitDefEqProofs (disch := omega) only [↓reduceIte, go_sem]) <;> rfl) (fun _ => rfl)
    have hk := spi_none fun h => he (by obtain ⟨z, hz, e⟩ := htk.2 h; rw [hy'] at hz; cases hz; exact e)
    rw [hk]
    dsimp only
    by_cases c12 : l.length ≥ 12
    · rw [if_pos c12, badC_ans]
      simp (maxSteps := 8000000) -implicitDefEqProofs (disch := omega) only [↓reduceIte, go_sem, eq_true (show (i : Int) < (l.length : Int) by omega), hy', saT, eq_false he, eq_true (show (l.length : Int) ≥ 12 by omega)]
      exact endT_v (.inr rfl) (by (simp (maxSteps := 8000000) -implicitDefEqProofs (disch := omega) only [↓reduceIte, go_sem]) <;> rfl) (fun _ => rfl)
    rw [if_neg c12]
    have k1 := keepAll_ex (l.take i) ⟨by rw [List.length_take]; omega, fun y hy => (saF_zero (g2 y (List.mem_of_mem_take hy))).2.2.2⟩
    have k2 := keepAll_ex (l.drop i) ⟨by rw [List.length_drop]; omega, fun y hy => (saF_zero (g2 y (List.mem_of_mem_drop hy))).2.2.2⟩
    have hc := (saF_zero hy).2.2.2
    have hm : (l.take i).length = i := by rw [List.length_take]; omega
    obtain ⟨S1, eS, hS⟩ := sas_S 3 (l.take i)
    obtain ⟨E1, eE, hE⟩ := sas_E 3 (l.take i)
    rw [hm] at hS hE
    have hEt : E1.take i = E1 := List.take_of_length_le (by omega)
    have ht : List.take ((l.length : Int) - (i : Int)).toNat (List.drop i l) = l.drop i := by
      rw [List.take_of_length_le (by rw [List.length_drop]; omega)]
    obtain ⟨S2, fS, hS2⟩ := sas_S (i + 3 + 1 + 1 + 1 + 1) (l.drop i)
    obtain ⟨E2, fE, hE2⟩ := sas_E (i + 3 + 1 + 1 + 1 + 1) (l.drop i)
    rw [List.length_drop] at hS2 hE2
    have hEv : ∀ v, (E1 ++ [v]).take (i + 1) = E1 ++ [v] := fun v => List.take_of_length_le (by rw [List.length_append, List.length_singleton]; omega)
    have hEt2 : E2.take (l.length - i) = E2 := List.take_of_length_le (by omega)
    have hsz2 : sizedT 11 E2 = true := by rw [← fE]; exact tvRs_sized _ fun r hr => by obtain ⟨y, _, rfl⟩ := List.mem_map.1 hr; rfl
    have hset : ∀ (a b c d : TB) (R : List TB), (S1 ++ (a :: b :: c :: R)).set (i + 2) d = S1 ++ (a :: b :: d :: R) := fun a b c d R => by rw [List.set_append_right _ _ (by omega), hS, show i + 2 - i = 2 by omega]; rfl
    have en : i + 1 + (l.length - i) = l.length + 1 := by omega
    simp (maxSteps := 8000000) -implicitDefEqProofs (disch := omega) only [↓reduceIte, go_sem, fS, fE, hS2, hE2, hEv, hEt2, hsz2, List.length_drop, eS, eE, hS, hE, hEt, hm, ht, List.take_length, fun R k => seg_at (R := R) hS k, fun R => seg_at0 (R := R) hS, zOf_or, sized_sa, eq_true (show (i : Int) < (l.length : Int) by omega), hy', eq_false he, saT, eq_false (show ¬ (l.length : Int) ≥ 12 by omega), rowsT_take, rowsT_drop, k1, k2, copy_at, sas_sized, ren_m_tvRs, ren_m_bkRs, hset, en]
    refine endT_mk (.inr rfl) (by (simp (maxSteps := 8000000) -implicitDefEqProofs (disch := omega) only [↓reduceIte, go_sem]) <;> rfl) (le_ins (i + (l.length - i + 1 + 1 + 1 + 1) + 1 + 1 + 1) (i + 1 + 1 + 1) 3 (i + 3 + 1 + 1 + 1 + 1) (by omega) ?_ ?_ ?_ ?_ ?_ (fun _ => rfl))
    · simp only [List.getElem?_cons_succ, List.getElem?_cons_zero, seg_at hS, seg_at0 hS2, eE, fE, saC_tv]
    · exact ⟨_, by simp only [List.drop_succ_cons, List.drop_zero, eS]; rfl⟩
    · simp only [List.getElem?_cons_succ, seg_at0 hS, List.getElem?_cons_zero]
    · refine ⟨_, by rw [show i + 3 + 1 + 1 + 1 + 1 = (i + 4) + 1 + 1 + 1 by omega]; simp only [List.drop_succ_cons]; rw [drop_seg hS, show i + 4 + 1 + 1 + 1 = i + 3 + 1 + 1 + 1 + 1 by omega]; simp only [List.drop_succ_cons, List.drop_zero, fS]; rfl⟩
    · simp only [segOk, segApart, List.length_cons, List.length_append, hS, hS2, List.length_nil]
      repeat' first | exact True.intro | omega | apply And.intro
  · simp (maxSteps := 8000000) -implicitDefEqProofs (disch := omega) only [↓reduceIte, go_sem, eq_false (show ¬ (i : Int) < (l.length : Int) by omega)]
    refine joinK_at _ (show Le 0 _ ⟨slots [(0, .s (rowsT saT l)), (3, .op 0 0 0), (4, .op 1 0 0), (7, .p (.int .i64 i))], [.cells 45 11 [saT x], .cells 35 2 [.agg [.p (.int .i64 0), .nl]]]⟩ from (le_of [0, 1] (by simp (maxSteps := 8000000) -implicitDefEqProofs (disch := omega) only [↓reduceIte, go_sem, saT]) (by simp (maxSteps := 8000000) -implicitDefEqProofs (disch := omega) only [↓reduceIte, go_sem, saT]) (by decide) (by simp))) ?_
    have hk := spi_none fun h => by obtain ⟨z, hz, e⟩ := htk.2 h; exact absurd (List.getElem?_eq_some_iff.1 hz).1 hl
    rw [hk]
    dsimp only
    by_cases c12 : l.length ≥ 12
    · rw [if_pos c12, badC_ans]
      simp (maxSteps := 8000000) -implicitDefEqProofs (disch := omega) only [↓reduceIte, go_sem, eq_false (show ¬ (i : Int) < (l.length : Int) by omega), eq_true (show (l.length : Int) ≥ 12 by omega)]
      exact endT_v (.inr rfl) (by (simp (maxSteps := 8000000) -implicitDefEqProofs (disch := omega) only [↓reduceIte, go_sem]) <;> rfl) (fun _ => rfl)
    rw [if_neg c12]
    have k1 := keepAll_ex (l.take i) ⟨by rw [List.length_take]; omega, fun y hy => (saF_zero (g2 y (List.mem_of_mem_take hy))).2.2.2⟩
    have k2 := keepAll_ex (l.drop i) ⟨by rw [List.length_drop]; omega, fun y hy => (saF_zero (g2 y (List.mem_of_mem_drop hy))).2.2.2⟩
    have hc := (saF_zero hy).2.2.2
    have hm : (l.take i).length = i := by rw [List.length_take]; omega
    obtain ⟨S1, eS, hS⟩ := sas_S 3 (l.take i)
    obtain ⟨E1, eE, hE⟩ := sas_E 3 (l.take i)
    rw [hm] at hS hE
    have hEt : E1.take i = E1 := List.take_of_length_le (by omega)
    have ht : List.take ((l.length : Int) - (i : Int)).toNat (List.drop i l) = l.drop i := by
      rw [List.take_of_length_le (by rw [List.length_drop]; omega)]
    obtain ⟨S2, fS, hS2⟩ := sas_S (i + 3 + 1 + 1 + 1 + 1) (l.drop i)
    obtain ⟨E2, fE, hE2⟩ := sas_E (i + 3 + 1 + 1 + 1 + 1) (l.drop i)
    rw [List.length_drop] at hS2 hE2
    have hEv : ∀ v, (E1 ++ [v]).take (i + 1) = E1 ++ [v] := fun v => List.take_of_length_le (by rw [List.length_append, List.length_singleton]; omega)
    have hEt2 : E2.take (l.length - i) = E2 := List.take_of_length_le (by omega)
    have hsz2 : sizedT 11 E2 = true := by rw [← fE]; exact tvRs_sized _ fun r hr => by obtain ⟨y, _, rfl⟩ := List.mem_map.1 hr; rfl
    have hset : ∀ (a b c d : TB) (R : List TB), (S1 ++ (a :: b :: c :: R)).set (i + 2) d = S1 ++ (a :: b :: d :: R) := fun a b c d R => by rw [List.set_append_right _ _ (by omega), hS, show i + 2 - i = 2 by omega]; rfl
    have en : i + 1 + (l.length - i) = l.length + 1 := by omega
    simp (maxSteps := 8000000) -implicitDefEqProofs (disch := omega) only [↓reduceIte, go_sem, fS, fE, hS2, hE2, hEv, hEt2, hsz2, List.length_drop, eS, eE, hS, hE, hEt, hm, ht, List.take_length, fun R k => seg_at (R := R) hS k, fun R => seg_at0 (R := R) hS, zOf_or, sized_sa, eq_false (show ¬ (i : Int) < (l.length : Int) by omega), saT, eq_false (show ¬ (l.length : Int) ≥ 12 by omega), rowsT_take, rowsT_drop, k1, k2, copy_at, sas_sized, ren_m_tvRs, ren_m_bkRs, hset, en]
    refine endT_mk (.inr rfl) (by (simp (maxSteps := 8000000) -implicitDefEqProofs (disch := omega) only [↓reduceIte, go_sem]) <;> rfl) (le_ins (i + (l.length - i + 1 + 1 + 1 + 1) + 1 + 1 + 1) (i + 1 + 1 + 1) 3 (i + 3 + 1 + 1 + 1 + 1) (by omega) ?_ ?_ ?_ ?_ ?_ (fun _ => rfl))
    · simp only [List.getElem?_cons_succ, List.getElem?_cons_zero, seg_at hS, seg_at0 hS2, eE, fE, saC_tv]
    · exact ⟨_, by simp only [List.drop_succ_cons, List.drop_zero, eS]; rfl⟩
    · simp only [List.getElem?_cons_succ, seg_at0 hS, List.getElem?_cons_zero]
    · refine ⟨_, by rw [show i + 3 + 1 + 1 + 1 + 1 = (i + 4) + 1 + 1 + 1 by omega]; simp only [List.drop_succ_cons]; rw [drop_seg hS, show i + 4 + 1 + 1 + 1 = i + 3 + 1 + 1 + 1 + 1 by omega]; simp only [List.drop_succ_cons, List.drop_zero, fS]; rfl⟩
    · simp only [segOk, segApart, List.length_cons, List.length_append, hS, hS2, List.length_nil]
      repeat' first | exact True.intro | omega | apply And.intro
end Go.Proofs.Ytghpdclhhnbgjaa
