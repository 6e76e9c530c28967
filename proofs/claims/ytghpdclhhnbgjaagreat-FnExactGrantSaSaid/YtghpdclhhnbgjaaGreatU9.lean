import Derived.Test.YtghpdclhhnbgjaaGreatU8
set_option linter.unusedSimpArgs false
set_option linter.unusedVariables false
set_option maxRecDepth 100000
set_option maxHeartbeats 4000000
namespace Go.Proofs.YtghpdclhhnbgjaaGreat
open Go Go.AH
attribute [local irreducible] awpT ropsT qopsT stepT condKT gdKT EndT joinK loopKT seqKT blkKT kont kontR
-- laws.heldRuleS
def c106 : AF := ⟨129,
 (.seq (.reg [rO 4 (.mv (.v (.int .i64 0)))])
 (.seq (.seq (.reg [rO 5 (.mv (.v (.int .i64 0)))])
 (.block 0 (.loop (.seq (.seq (.reg [rO 6 (.mv (.t 5)),
 rO 7 (.mv (.t 0)),
 rO 8 (.len (.t 7)),
 rO 9 (.bin .lss (.t 6) (.t 8))])
 (.cond (.t 9) .skip
 (.exit 0)))
 (.seq (.block 1 (.seq (.seq (.reg [rO 12 (.mv (.t 0)),
 rO 13 (.mv (.t 5)),
 rO 14 (.ia 11 (.t 12) (.t 13)),
 rO 15 (.fa (.t 14) 0),
 rO 16 (.fa (.t 15) 0),
 rO 17 (.fa (.t 16) 0),
 rO 18 (.ld (.t 17)),
 rO 19 (.mv (.t 1)),
 rO 20 (.bin .neq (.t 18) (.t 19))])
 (.cond (.t 20) (.seq (.reg [rO 4 (.mv (.v (.int .i64 (-1))))])
 .ret)
 .skip))
 (.seq (.reg [rO 21 (.mv (.t 1)),
 rO 22 (.bin .add (.t 21) (.v (.int .i64 1))),
 rO 1 (.mv (.t 22))])
 (.seq (.seq (.reg [rO 23 (.mv (.t 0)),
 rO 24 (.mv (.t 5)),
 rO 25 (.ia 11 (.t 23) (.t 24)),
 rO 26 (.fa (.t 25) 0),
 rO 27 (.fa (.t 26) 0),
 rO 28 (.fa (.t 27) 1),
 rO 29 (.ld (.t 28)),
 rO 30 (.mv (.t 1)),
 rO 31 (.bin .neq (.t 29) (.t 30))])
 (.cond (.t 31) (.seq (.reg [rO 4 (.mv (.v (.int .i64 (-1))))])
 .ret)
 .skip))
 (.seq (.reg [rO 32 (.mv (.t 1)),
 rO 33 (.bin .add (.t 32) (.v (.int .i64 1))),
 rO 1 (.mv (.t 33))])
 (.seq (.seq (.reg [rO 34 (.mv (.t 0)),
 rO 35 (.mv (.t 5)),
 rO 36 (.ia 11 (.t 34) (.t 35)),
 rO 37 (.fa (.t 36) 0),
 rO 38 (.fa (.t 37) 2),
 rO 39 (.fa (.t 38) 0),
 rO 40 (.ld (.t 39)),
 rO 41 (.mv (.t 1)),
 rO 42 (.bin .neq (.t 40) (.t 41))])
 (.cond (.t 42) (.seq (.reg [rO 4 (.mv (.v (.int .i64 (-1))))])
 .ret)
 .skip))
 (.seq (.reg [rO 43 (.mv (.t 1)),
 rO 44 (.bin .add (.t 43) (.v (.int .i64 1))),
 rO 1 (.mv (.t 44))])
 (.seq (.seq (.reg [rO 45 (.mv (.t 0)),
 rO 46 (.mv (.t 5)),
 rO 47 (.ia 11 (.t 45) (.t 46)),
 rO 48 (.fa (.t 47) 0),
 rO 49 (.fa (.t 48) 2),
 rO 50 (.fa (.t 49) 1),
 rO 51 (.ld (.t 50)),
 rO 52 (.mv (.t 1)),
 rO 53 (.bin .neq (.t 51) (.t 52))])
 (.cond (.t 53) (.seq (.reg [rO 4 (.mv (.v (.int .i64 (-1))))])
 .ret)
 .skip))
 (.seq (.reg [rO 54 (.mv (.t 1)),
 rO 55 (.bin .add (.t 54) (.v (.int .i64 1))),
 rO 1 (.mv (.t 55))])
 (.seq (.seq (.reg [rO 56 (.mv (.t 0)),
 rO 57 (.mv (.t 5)),
 rO 58 (.ia 11 (.t 56) (.t 57)),
 rO 59 (.fa (.t 58) 0),
 rO 60 (.fa (.t 59) 4),
 rO 61 (.fa (.t 60) 0),
 rO 62 (.ld (.t 61)),
 rO 63 (.mv (.t 1)),
 rO 64 (.bin .neq (.t 62) (.t 63))])
 (.cond (.t 64) (.seq (.reg [rO 4 (.mv (.v (.int .i64 (-1))))])
 .ret)
 .skip))
 (.seq (.reg [rO 65 (.mv (.t 1)),
 rO 66 (.bin .add (.t 65) (.v (.int .i64 1))),
 rO 1 (.mv (.t 66))])
 (.seq (.seq (.reg [rO 67 (.mv (.t 0)),
 rO 68 (.mv (.t 5)),
 rO 69 (.ia 11 (.t 67) (.t 68)),
 rO 70 (.fa (.t 69) 0),
 rO 71 (.fa (.t 70) 4),
 rO 72 (.fa (.t 71) 1),
 rO 73 (.ld (.t 72)),
 rO 74 (.mv (.t 1)),
 rO 75 (.bin .neq (.t 73) (.t 74))])
 (.cond (.t 75) (.seq (.reg [rO 4 (.mv (.v (.int .i64 (-1))))])
 .ret)
 .skip))
 (.seq (.reg [rO 76 (.mv (.t 1)),
 rO 77 (.bin .add (.t 76) (.v (.int .i64 1))),
 rO 1 (.mv (.t 77))])
 (.seq (.seq (.reg [rO 78 (.mv (.t 0)),
 rO 79 (.mv (.t 5)),
 rO 80 (.ia 11 (.t 78) (.t 79)),
 rO 81 (.fa (.t 80) 0),
 rO 82 (.fa (.t 81) 6),
 rO 83 (.fa (.t 82) 0),
 rO 84 (.ld (.t 83)),
 rO 85 (.mv (.t 1)),
 rO 86 (.bin .neq (.t 84) (.t 85))])
 (.cond (.t 86) (.seq (.reg [rO 4 (.mv (.v (.int .i64 (-1))))])
 .ret)
 .skip))
 (.seq (.reg [rO 87 (.mv (.t 1)),
 rO 88 (.bin .add (.t 87) (.v (.int .i64 1))),
 rO 1 (.mv (.t 88))])
 (.seq (.seq (.reg [rO 89 (.mv (.t 0)),
 rO 90 (.mv (.t 5)),
 rO 91 (.ia 11 (.t 89) (.t 90)),
 rO 92 (.fa (.t 91) 0),
 rO 93 (.fa (.t 92) 6),
 rO 94 (.fa (.t 93) 1),
 rO 95 (.ld (.t 94)),
 rO 96 (.mv (.t 1)),
 rO 97 (.bin .neq (.t 95) (.t 96))])
 (.cond (.t 97) (.seq (.reg [rO 4 (.mv (.v (.int .i64 (-1))))])
 .ret)
 .skip))
 (.seq (.reg [rO 98 (.mv (.t 1)),
 rO 99 (.bin .add (.t 98) (.v (.int .i64 1))),
 rO 1 (.mv (.t 99))])
 (.seq (.seq (.reg [rO 100 (.mv (.t 0)),
 rO 101 (.mv (.t 5)),
 rO 102 (.ia 11 (.t 100) (.t 101)),
 rO 103 (.fa (.t 102) 0),
 rO 104 (.fa (.t 103) 8),
 rO 105 (.ld (.t 104)),
 rO 106 (.mv (.t 1)),
 rO 107 (.bin .neq (.t 105) (.t 106))])
 (.cond (.t 107) (.seq (.reg [rO 4 (.mv (.v (.int .i64 (-1))))])
 .ret)
 .skip))
 (.seq (.reg [rO 108 (.mv (.t 1)),
 rO 109 (.bin .add (.t 108) (.v (.int .i64 1))),
 rO 1 (.mv (.t 109))])
 (.seq (.seq (.reg [rO 110 (.mv (.t 0)),
 rO 111 (.mv (.t 5)),
 rO 112 (.ia 11 (.t 110) (.t 111)),
 rO 113 (.fa (.t 112) 9),
 rO 114 (.ld (.t 113)),
 rO 115 (.mv (.t 1)),
 rO 116 (.bin .neq (.t 114) (.t 115))])
 (.cond (.t 116) (.seq (.reg [rO 4 (.mv (.v (.int .i64 (-1))))])
 .ret)
 .skip))
 (.seq (.reg [rO 117 (.mv (.t 1)),
 rO 118 (.bin .add (.t 117) (.v (.int .i64 1))),
 rO 1 (.mv (.t 118))])
 (.seq (.seq (.reg [rO 119 (.mv (.t 0)),
 rO 120 (.mv (.t 5)),
 rO 121 (.ia 11 (.t 119) (.t 120)),
 rO 122 (.fa (.t 121) 10),
 rO 123 (.ld (.t 122)),
 rO 124 (.mv (.t 1)),
 rO 125 (.bin .neq (.t 123) (.t 124))])
 (.cond (.t 125) (.seq (.reg [rO 4 (.mv (.v (.int .i64 (-1))))])
 .ret)
 .skip))
 (.reg [rO 126 (.mv (.t 1)),
 rO 127 (.bin .add (.t 126) (.v (.int .i64 1))),
 rO 1 (.mv (.t 127))])))))))))))))))))))))))
 (.reg [rO 10 (.mv (.t 5)),
 rO 11 (.bin .add (.t 10) (.v (.int .i64 1))),
 rO 5 (.mv (.t 11))]))))))
 (.seq (.reg [rO 128 (.mv (.t 1)),
 rO 4 (.mv (.t 128))])
 .ret))),
 [.t 4]⟩
theorem k106 : cFn Tryz.prog Tryz.f106 = some c106 := by kernel_rfl
theorem heldRuleS_ok : OkT Tryz.prog 106 (pureSp (hdC_S sh_RuleS)) := by
  refine okT_hdC (OkΓT.nil _) Tryz.func106 (by kernel_rfl) k106 ?_
  intro c k hc h1 hz
  obtain ⟨rows, _, hr, _, hwt, hf⟩ := FitC.rows hc
  rw [hwt] at hz ⊢; rw [hf]
  have hlw : rows.length ≤ wtRs rows := wtRs_rows fun r hx => by
    have hrr := hr r hx
    obtain ⟨a0, a1, a2, a3, a4, a5, a6, a7, a8, a9, a10, rfl⟩ := sh_Rule_Fit hrr
    simp only [wtIs, wtI]; omega
  (dsimp only [c106, rO]; simp (maxSteps := 8000000) -implicitDefEqProofs (disch := omega) only [↓reduceIte, go_sem])
  refine awpT_loop (α := Nat) (fun i => ⟨slots [(0, .s (fzRs (mkRs rows k))), (1, .p (.int .i64 (k + (wtRs (rows.take i) : Int)))), (5, .p (.int .i64 i))], []⟩) (fun i => i ≤ rows.length) (fun i => rows.length - i) 0 (Nat.zero_le _) (by simp only [List.take_zero, wtRs, nat0T, Int.add_zero]; exact (le_of [] (by simp (maxSteps := 8000000) -implicitDefEqProofs (disch := omega) only [↓reduceIte, go_sem]) (by simp (maxSteps := 8000000) -implicitDefEqProofs (disch := omega) only [↓reduceIte, go_sem]) (by decide) (by simp))) ?_
  intro i hi
  simp (maxSteps := 8000000) -implicitDefEqProofs (disch := omega) only [↓reduceIte, go_sem]
  refine condKT_dec (fun hlt => ?_) (fun hge => ?_)
  · obtain ⟨r, hx⟩ := get_ex (l := rows) (i := i) (by omega)
    have hrr := hr r (List.mem_of_getElem? hx)
    have hwr := wtRs_mem hx; have hsn := wtRs_snoc hx
    have hg := fzRs_get (mkRs_get (k := k) hx)
    generalize hm : k + (wtRs (rows.take i) : Int) = m at *
    obtain ⟨a0, a1, a2, a3, a4, a5, a6, a7, a8, a9, a10, rfl⟩ := sh_Rule_Fit hrr
    simp only [wtIs, wtI, Nat.add_zero] at hwr hsn
    simp only [mkIs, mkI, mkV, wtI, nat1T, fzCs, fzC, el_one, el_two] at hg
    simp (maxSteps := 8000000) -implicitDefEqProofs (disch := omega) only [↓reduceIte, go_sem, eq_true hlt, hg, dec_self, Bool.not_true, not_true, decide_false]
    refine loopKT_next (i + 1) (by omega) (by omega) ?_
    have hs2 : k + (wtRs (rows.take (i + 1)) : Int) = m + 1 + 1 + 1 + 1 + 1 + 1 + 1 + 1 + 1 + 1 + 1 := by rw [hsn]; omega
    exact (le_of [] (by simp (maxSteps := 8000000) -implicitDefEqProofs (disch := omega) only [↓reduceIte, go_sem, hs2]) (by simp (maxSteps := 8000000) -implicitDefEqProofs (disch := omega) only [↓reduceIte, go_sem, hs2]) (by decide) (by simp))
  · have hb : rows.take i = rows := List.take_of_length_le (by omega)
    simp (maxSteps := 8000000) -implicitDefEqProofs (disch := omega) only [↓reduceIte, go_sem, eq_false hge, hb]
    refine joinK_here ?_
    simp (maxSteps := 8000000) -implicitDefEqProofs (disch := omega) only [↓reduceIte, go_sem]
    repeat' first
      | ((first | refine gdKT_deq (fun hg hG => ?_) (fun hg hG => ?_) | refine condKT_deq (fun hg hG => ?_) (fun hg hG => ?_)) <;> (try simp (maxSteps := 8000000) -implicitDefEqProofs (disch := omega) only [↓reduceIte, go_sem, hG]) <;> clear hG)
      | ((first | refine gdKT_split (fun hg => ?_) (fun hg => ?_) | refine condKT_split (fun hg => ?_) (fun hg => ?_)) <;> (try simp (maxSteps := 8000000) -implicitDefEqProofs (disch := omega) only [↓reduceIte, go_sem, hg]))
      | (refine endT_p (.inr rfl) (by simp (maxSteps := 8000000) -implicitDefEqProofs (disch := omega) only [↓reduceIte, go_sem]; rfl) ?_; (first | exact vb_true (by omega) | exact vb_false (by omega) | exact vb_dec (by omega) | exact vi_eq (by omega) | rfl | (refine vi_eq ?_; simp_all; first | done | (intros; omega))))
      | exact endT_v (.inr rfl) (by simp (maxSteps := 8000000) -implicitDefEqProofs (disch := omega) only [↓reduceIte, go_sem]; try rfl) (fun _ => rfl)
-- laws.markRuleS
def c50 : AF := ⟨107,
 (.seq (.reg [rO 4 (.mv (.v (.int .i64 0)))])
 (.seq (.seq (.reg [rO 5 (.mv (.v (.int .i64 0)))])
 (.block 0 (.loop (.seq (.seq (.reg [rO 6 (.mv (.t 5)),
 rO 7 (.mv (.t 0)),
 rO 8 (.len (.t 7)),
 rO 9 (.bin .lss (.t 6) (.t 8))])
 (.cond (.t 9) .skip
 (.exit 0)))
 (.seq (.block 1 (.seq (.reg [rO 12 (.mv (.t 0)),
 rO 13 (.mv (.t 5)),
 rO 14 (.mv (.t 1)),
 rO 15 (.ia 11 (.t 12) (.t 13)),
 rO 16 (.fa (.t 15) 0),
 rO 17 (.fa (.t 16) 0),
 rO 18 (.fa (.t 17) 0),
 ⟨none, none, .st 1 (.t 18) (.t 14)⟩])
 (.seq (.reg [rO 19 (.mv (.t 1)),
 rO 20 (.bin .add (.t 19) (.v (.int .i64 1))),
 rO 1 (.mv (.t 20))])
 (.seq (.reg [rO 21 (.mv (.t 0)),
 rO 22 (.mv (.t 5)),
 rO 23 (.mv (.t 1)),
 rO 24 (.ia 11 (.t 21) (.t 22)),
 rO 25 (.fa (.t 24) 0),
 rO 26 (.fa (.t 25) 0),
 rO 27 (.fa (.t 26) 1),
 ⟨none, none, .st 1 (.t 27) (.t 23)⟩])
 (.seq (.reg [rO 28 (.mv (.t 1)),
 rO 29 (.bin .add (.t 28) (.v (.int .i64 1))),
 rO 1 (.mv (.t 29))])
 (.seq (.reg [rO 30 (.mv (.t 0)),
 rO 31 (.mv (.t 5)),
 rO 32 (.mv (.t 1)),
 rO 33 (.ia 11 (.t 30) (.t 31)),
 rO 34 (.fa (.t 33) 0),
 rO 35 (.fa (.t 34) 2),
 rO 36 (.fa (.t 35) 0),
 ⟨none, none, .st 1 (.t 36) (.t 32)⟩])
 (.seq (.reg [rO 37 (.mv (.t 1)),
 rO 38 (.bin .add (.t 37) (.v (.int .i64 1))),
 rO 1 (.mv (.t 38))])
 (.seq (.reg [rO 39 (.mv (.t 0)),
 rO 40 (.mv (.t 5)),
 rO 41 (.mv (.t 1)),
 rO 42 (.ia 11 (.t 39) (.t 40)),
 rO 43 (.fa (.t 42) 0),
 rO 44 (.fa (.t 43) 2),
 rO 45 (.fa (.t 44) 1),
 ⟨none, none, .st 1 (.t 45) (.t 41)⟩])
 (.seq (.reg [rO 46 (.mv (.t 1)),
 rO 47 (.bin .add (.t 46) (.v (.int .i64 1))),
 rO 1 (.mv (.t 47))])
 (.seq (.reg [rO 48 (.mv (.t 0)),
 rO 49 (.mv (.t 5)),
 rO 50 (.mv (.t 1)),
 rO 51 (.ia 11 (.t 48) (.t 49)),
 rO 52 (.fa (.t 51) 0),
 rO 53 (.fa (.t 52) 4),
 rO 54 (.fa (.t 53) 0),
 ⟨none, none, .st 1 (.t 54) (.t 50)⟩])
 (.seq (.reg [rO 55 (.mv (.t 1)),
 rO 56 (.bin .add (.t 55) (.v (.int .i64 1))),
 rO 1 (.mv (.t 56))])
 (.seq (.reg [rO 57 (.mv (.t 0)),
 rO 58 (.mv (.t 5)),
 rO 59 (.mv (.t 1)),
 rO 60 (.ia 11 (.t 57) (.t 58)),
 rO 61 (.fa (.t 60) 0),
 rO 62 (.fa (.t 61) 4),
 rO 63 (.fa (.t 62) 1),
 ⟨none, none, .st 1 (.t 63) (.t 59)⟩])
 (.seq (.reg [rO 64 (.mv (.t 1)),
 rO 65 (.bin .add (.t 64) (.v (.int .i64 1))),
 rO 1 (.mv (.t 65))])
 (.seq (.reg [rO 66 (.mv (.t 0)),
 rO 67 (.mv (.t 5)),
 rO 68 (.mv (.t 1)),
 rO 69 (.ia 11 (.t 66) (.t 67)),
 rO 70 (.fa (.t 69) 0),
 rO 71 (.fa (.t 70) 6),
 rO 72 (.fa (.t 71) 0),
 ⟨none, none, .st 1 (.t 72) (.t 68)⟩])
 (.seq (.reg [rO 73 (.mv (.t 1)),
 rO 74 (.bin .add (.t 73) (.v (.int .i64 1))),
 rO 1 (.mv (.t 74))])
 (.seq (.reg [rO 75 (.mv (.t 0)),
 rO 76 (.mv (.t 5)),
 rO 77 (.mv (.t 1)),
 rO 78 (.ia 11 (.t 75) (.t 76)),
 rO 79 (.fa (.t 78) 0),
 rO 80 (.fa (.t 79) 6),
 rO 81 (.fa (.t 80) 1),
 ⟨none, none, .st 1 (.t 81) (.t 77)⟩])
 (.seq (.reg [rO 82 (.mv (.t 1)),
 rO 83 (.bin .add (.t 82) (.v (.int .i64 1))),
 rO 1 (.mv (.t 83))])
 (.seq (.reg [rO 84 (.mv (.t 0)),
 rO 85 (.mv (.t 5)),
 rO 86 (.mv (.t 1)),
 rO 87 (.ia 11 (.t 84) (.t 85)),
 rO 88 (.fa (.t 87) 0),
 rO 89 (.fa (.t 88) 8),
 ⟨none, none, .st 1 (.t 89) (.t 86)⟩])
 (.seq (.reg [rO 90 (.mv (.t 1)),
 rO 91 (.bin .add (.t 90) (.v (.int .i64 1))),
 rO 1 (.mv (.t 91))])
 (.seq (.reg [rO 92 (.mv (.t 0)),
 rO 93 (.mv (.t 5)),
 rO 94 (.mv (.t 1)),
 rO 95 (.ia 11 (.t 92) (.t 93)),
 rO 96 (.fa (.t 95) 9),
 ⟨none, none, .st 1 (.t 96) (.t 94)⟩])
 (.seq (.reg [rO 97 (.mv (.t 1)),
 rO 98 (.bin .add (.t 97) (.v (.int .i64 1))),
 rO 1 (.mv (.t 98))])
 (.seq (.reg [rO 99 (.mv (.t 0)),
 rO 100 (.mv (.t 5)),
 rO 101 (.mv (.t 1)),
 rO 102 (.ia 11 (.t 99) (.t 100)),
 rO 103 (.fa (.t 102) 10),
 ⟨none, none, .st 1 (.t 103) (.t 101)⟩])
 (.reg [rO 104 (.mv (.t 1)),
 rO 105 (.bin .add (.t 104) (.v (.int .i64 1))),
 rO 1 (.mv (.t 105))])))))))))))))))))))))))
 (.reg [rO 10 (.mv (.t 5)),
 rO 11 (.bin .add (.t 10) (.v (.int .i64 1))),
 rO 5 (.mv (.t 11))]))))))
 (.seq (.reg [rO 106 (.mv (.t 1)),
 rO 4 (.mv (.t 106))])
 .ret))),
 [.t 4]⟩
theorem k50 : cFn Tryz.prog Tryz.f50 = some c50 := by kernel_rfl
theorem markRuleS_ok : OkT Tryz.prog 50 (mkC_Sp sh_RuleS) := by
  refine okT_mkC (OkΓT.nil _) Tryz.func50 (by kernel_rfl) k50 ?_
  intro c k hc h1 hz
  simp only [sh_RuleS, FitC] at hc
  rcases hc with rfl | ⟨z, rows, rfl, hz0, hr⟩
  · simp only [wtC, mkC, nbC, tvC_v, tvC_nl, tvC_sl, bkC, nat0T, Int.add_zero] at *
    (dsimp only [c50, rO]; simp (maxSteps := 8000000) -implicitDefEqProofs (disch := omega) only [↓reduceIte, go_sem])
    refine awpT_loop (α := Unit) (fun _ => ⟨slots [(0, .nl), (1, .p (.int .i64 k)), (5, .p (.int .i64 0))], []⟩) (fun _ => True) (fun _ => 0) () trivial (le_keep (Nat.zero_le _) (by simp (maxSteps := 8000000) -implicitDefEqProofs (disch := omega) only [↓reduceIte, go_sem, slotsIn])) ?_
    intro _ _
    simp (maxSteps := 8000000) -implicitDefEqProofs (disch := omega) only [↓reduceIte, go_sem]
    refine joinK_at _ (le_same _ _ (Nat.zero_le _)) ?_
    simp (maxSteps := 8000000) -implicitDefEqProofs (disch := omega) only [↓reduceIte, go_sem]
    exact endK_same (.inr rfl) (Nat.zero_le _) (by simp (maxSteps := 8000000) -implicitDefEqProofs (disch := omega) only [↓reduceIte, go_sem]) rfl
  · simp only [wtC] at hz ⊢
    have hlw : rows.length ≤ wtRs rows := wtRs_rows fun r hx => by
      have hrr := hr r hx
      obtain ⟨a0, a1, a2, a3, a4, a5, a6, a7, a8, a9, a10, rfl⟩ := sh_Rule_Fit hrr
      simp only [wtIs, wtI]; omega
    simp only [tvC_v, tvC_nl, tvC_sl, bkC, mkC, Nat.zero_add]
    generalize hnb : nbC _ = nb
    simp only [nbC] at hnb
    have hnb2 : ∀ i, nb = (bkRs 1 (mkAt rows k i)).length + 1 := fun i => by
      have := mkRs_nb (rows.take i) k; have h2 := nbRs_app (rows.take i) (rows.drop i)
      rw [List.take_append_drop] at h2; rw [bkRs_len, mkAt, nbRs_app]; omega
    (dsimp only [c50, rO]; simp (maxSteps := 8000000) -implicitDefEqProofs (disch := omega) only [↓reduceIte, go_sem])
    refine awpT_loop (α := Nat) (fun i => ⟨slots [(0, .os 0 0 rows.length), (1, .p (.int .i64 (k + (wtRs (rows.take i) : Int)))), (5, .p (.int .i64 i))], .cells 105 z (tvRs 1 (mkAt rows k i)) :: bkRs 1 (mkAt rows k i)⟩)
      (fun i => i ≤ rows.length) (fun i => rows.length - i) 0 (Nat.zero_le _) (by simp only [mkAt_zero, List.take_zero, wtRs, nat0T, Int.add_zero]; exact le_keep (by have := hnb2 0; rw [mkAt_zero] at this; rw [List.length_cons]; omega) (by simp (maxSteps := 8000000) -implicitDefEqProofs (disch := omega) only [↓reduceIte, go_sem, slotsIn])) ?_
    intro i hi
    have hl1 : (tvRs 1 (mkAt rows k i)).length = rows.length := by rw [tvRs_len, mkAt_len]
    simp (maxSteps := 8000000) -implicitDefEqProofs (disch := omega) only [↓reduceIte, go_sem, hl1]
    refine condKT_dec (fun hlt => ?_) (fun hge => ?_)
    · obtain ⟨r, hx⟩ := get_ex (l := rows) (i := i) (by omega)
      obtain rfl : z = 11 := by rcases hz0 with h | h; (rw [h] at hx; simp at hx); exact h
      have hrr := hr r (List.mem_of_getElem? hx)
      have hwr := wtRs_mem hx; have hsn := wtRs_snoc hx
      have hg := mkAt_get 1 (k := k) hx; have hs := mkAt_set 1 (k := k) hx
      generalize hm : k + (wtRs (rows.take i) : Int) = m at *
      obtain ⟨a0, a1, a2, a3, a4, a5, a6, a7, a8, a9, a10, rfl⟩ := sh_Rule_Fit hrr
      simp only [wtIs, wtI, Nat.add_zero] at hwr hsn
      simp only [mkIs, mkI, mkV, wtI, nat1T, tvCs, tvC_v, tvC_nl, tvC_sl, nbC, Nat.add_zero, mkC_tv, el_one, el_two] at hg hs
      have hb2 : bkRs 1 (mkAt rows k (i + 1)) = bkRs 1 (mkAt rows k i) := by rw [mkAt_bkn 1 hx, mkAt_bk 1 hx]; rfl
      simp (maxSteps := 8000000) -implicitDefEqProofs (disch := omega) only [↓reduceIte, go_sem, hl1, hg, List.getElem?_set_self, List.set_set]
      refine loopKT_next (i + 1) (by omega) (by omega) ?_
      have hs2 : k + (wtRs (rows.take (i + 1)) : Int) = m + 1 + 1 + 1 + 1 + 1 + 1 + 1 + 1 + 1 + 1 + 1 := by rw [hsn]; omega
      rw [hs2, ← hs, hb2]
      exact le_keep (by have := hnb2 i; rw [List.length_cons]; omega) (by simp (maxSteps := 8000000) -implicitDefEqProofs (disch := omega) only [↓reduceIte, go_sem, slotsIn])
    · have hb : rows.take i = rows := List.take_of_length_le (by omega)
      have hmf := mkAt_full (k := k) (show rows.length ≤ i by omega)
      have hnb3 := hnb2 i; rw [hmf] at hnb3
      simp (maxSteps := 8000000) -implicitDefEqProofs (disch := omega) only [↓reduceIte, go_sem, eq_false hge, hb, hmf]
      refine joinK_at _ (le_same _ _ (by show nb ≤ List.length (_ :: _); rw [List.length_cons]; omega)) ?_
      simp (maxSteps := 8000000) -implicitDefEqProofs (disch := omega) only [↓reduceIte, go_sem]
      exact endK_same (.inr rfl) (by rw [List.length_cons]; omega) (by simp (maxSteps := 8000000) -implicitDefEqProofs (disch := omega) only [↓reduceIte, go_sem]) rfl
-- laws.heldPeerS
def c107 : AF := ⟨31,
 (.seq (.reg [rO 4 (.mv (.v (.int .i64 0)))])
 (.seq (.seq (.reg [rO 5 (.mv (.v (.int .i64 0)))])
 (.block 0 (.loop (.seq (.seq (.reg [rO 6 (.mv (.t 5)),
 rO 7 (.mv (.t 0)),
 rO 8 (.len (.t 7)),
 rO 9 (.bin .lss (.t 6) (.t 8))])
 (.cond (.t 9) .skip
 (.exit 0)))
 (.seq (.block 1 (.seq (.seq (.reg [rO 12 (.mv (.t 0)),
 rO 13 (.mv (.t 5)),
 rO 14 (.ia 2 (.t 12) (.t 13)),
 rO 15 (.fa (.t 14) 0),
 rO 16 (.ld (.t 15)),
 rO 17 (.mv (.t 1)),
 rO 18 (.bin .neq (.t 16) (.t 17))])
 (.cond (.t 18) (.seq (.reg [rO 4 (.mv (.v (.int .i64 (-1))))])
 .ret)
 .skip))
 (.seq (.reg [rO 19 (.mv (.t 1)),
 rO 20 (.bin .add (.t 19) (.v (.int .i64 1))),
 rO 1 (.mv (.t 20))])
 (.seq (.seq (.reg [rO 21 (.mv (.t 0)),
 rO 22 (.mv (.t 5)),
 rO 23 (.ia 2 (.t 21) (.t 22)),
 rO 24 (.fa (.t 23) 1),
 rO 25 (.ld (.t 24)),
 rO 26 (.mv (.t 1)),
 rO 27 (.bin .neq (.t 25) (.t 26))])
 (.cond (.t 27) (.seq (.reg [rO 4 (.mv (.v (.int .i64 (-1))))])
 .ret)
 .skip))
 (.reg [rO 28 (.mv (.t 1)),
 rO 29 (.bin .add (.t 28) (.v (.int .i64 1))),
 rO 1 (.mv (.t 29))])))))
 (.reg [rO 10 (.mv (.t 5)),
 rO 11 (.bin .add (.t 10) (.v (.int .i64 1))),
 rO 5 (.mv (.t 11))]))))))
 (.seq (.reg [rO 30 (.mv (.t 1)),
 rO 4 (.mv (.t 30))])
 .ret))),
 [.t 4]⟩
theorem k107 : cFn Tryz.prog Tryz.f107 = some c107 := by kernel_rfl
theorem heldPeerS_ok : OkT Tryz.prog 107 (pureSp (hdC_S sh_PeerS)) := by
  refine okT_hdC (OkΓT.nil _) Tryz.func107 (by kernel_rfl) k107 ?_
  intro c k hc h1 hz
  obtain ⟨rows, _, hr, _, hwt, hf⟩ := FitC.rows hc
  rw [hwt] at hz ⊢; rw [hf]
  have hlw : rows.length ≤ wtRs rows := wtRs_rows fun r hx => by
    have hrr := hr r hx
    obtain ⟨a0, a1, rfl⟩ := sh_Peer_Fit hrr
    simp only [wtIs, wtI]; omega
  (dsimp only [c107, rO]; simp (maxSteps := 8000000) -implicitDefEqProofs (disch := omega) only [↓reduceIte, go_sem])
  refine awpT_loop (α := Nat) (fun i => ⟨slots [(0, .s (fzRs (mkRs rows k))), (1, .p (.int .i64 (k + (wtRs (rows.take i) : Int)))), (5, .p (.int .i64 i))], []⟩) (fun i => i ≤ rows.length) (fun i => rows.length - i) 0 (Nat.zero_le _) (by simp only [List.take_zero, wtRs, nat0T, Int.add_zero]; exact (le_of [] (by simp (maxSteps := 8000000) -implicitDefEqProofs (disch := omega) only [↓reduceIte, go_sem]) (by simp (maxSteps := 8000000) -implicitDefEqProofs (disch := omega) only [↓reduceIte, go_sem]) (by decide) (by simp))) ?_
  intro i hi
  simp (maxSteps := 8000000) -implicitDefEqProofs (disch := omega) only [↓reduceIte, go_sem]
  refine condKT_dec (fun hlt => ?_) (fun hge => ?_)
  · obtain ⟨r, hx⟩ := get_ex (l := rows) (i := i) (by omega)
    have hrr := hr r (List.mem_of_getElem? hx)
    have hwr := wtRs_mem hx; have hsn := wtRs_snoc hx
    have hg := fzRs_get (mkRs_get (k := k) hx)
    generalize hm : k + (wtRs (rows.take i) : Int) = m at *
    obtain ⟨a0, a1, rfl⟩ := sh_Peer_Fit hrr
    simp only [wtIs, wtI, Nat.add_zero] at hwr hsn
    simp only [mkIs, mkI, mkV, wtI, nat1T, fzCs, fzC, el_one, el_two] at hg
    simp (maxSteps := 8000000) -implicitDefEqProofs (disch := omega) only [↓reduceIte, go_sem, eq_true hlt, hg, dec_self, Bool.not_true, not_true, decide_false]
    refine loopKT_next (i + 1) (by omega) (by omega) ?_
    have hs2 : k + (wtRs (rows.take (i + 1)) : Int) = m + 1 + 1 := by rw [hsn]; omega
    exact (le_of [] (by simp (maxSteps := 8000000) -implicitDefEqProofs (disch := omega) only [↓reduceIte, go_sem, hs2]) (by simp (maxSteps := 8000000) -implicitDefEqProofs (disch := omega) only [↓reduceIte, go_sem, hs2]) (by decide) (by simp))
  · have hb : rows.take i = rows := List.take_of_length_le (by omega)
    simp (maxSteps := 8000000) -implicitDefEqProofs (disch := omega) only [↓reduceIte, go_sem, eq_false hge, hb]
    refine joinK_here ?_
    simp (maxSteps := 8000000) -implicitDefEqProofs (disch := omega) only [↓reduceIte, go_sem]
    repeat' first
      | ((first | refine gdKT_deq (fun hg hG => ?_) (fun hg hG => ?_) | refine condKT_deq (fun hg hG => ?_) (fun hg hG => ?_)) <;> (try simp (maxSteps := 8000000) -implicitDefEqProofs (disch := omega) only [↓reduceIte, go_sem, hG]) <;> clear hG)
      | ((first | refine gdKT_split (fun hg => ?_) (fun hg => ?_) | refine condKT_split (fun hg => ?_) (fun hg => ?_)) <;> (try simp (maxSteps := 8000000) -implicitDefEqProofs (disch := omega) only [↓reduceIte, go_sem, hg]))
      | (refine endT_p (.inr rfl) (by simp (maxSteps := 8000000) -implicitDefEqProofs (disch := omega) only [↓reduceIte, go_sem]; rfl) ?_; (first | exact vb_true (by omega) | exact vb_false (by omega) | exact vb_dec (by omega) | exact vi_eq (by omega) | rfl | (refine vi_eq ?_; simp_all; first | done | (intros; omega))))
      | exact endT_v (.inr rfl) (by simp (maxSteps := 8000000) -implicitDefEqProofs (disch := omega) only [↓reduceIte, go_sem]; try rfl) (fun _ => rfl)
-- laws.markPeerS
def c51 : AF := ⟨27,
 (.seq (.reg [rO 4 (.mv (.v (.int .i64 0)))])
 (.seq (.seq (.reg [rO 5 (.mv (.v (.int .i64 0)))])
 (.block 0 (.loop (.seq (.seq (.reg [rO 6 (.mv (.t 5)),
 rO 7 (.mv (.t 0)),
 rO 8 (.len (.t 7)),
 rO 9 (.bin .lss (.t 6) (.t 8))])
 (.cond (.t 9) .skip
 (.exit 0)))
 (.seq (.block 1 (.seq (.reg [rO 12 (.mv (.t 0)),
 rO 13 (.mv (.t 5)),
 rO 14 (.mv (.t 1)),
 rO 15 (.ia 2 (.t 12) (.t 13)),
 rO 16 (.fa (.t 15) 0),
 ⟨none, none, .st 1 (.t 16) (.t 14)⟩])
 (.seq (.reg [rO 17 (.mv (.t 1)),
 rO 18 (.bin .add (.t 17) (.v (.int .i64 1))),
 rO 1 (.mv (.t 18))])
 (.seq (.reg [rO 19 (.mv (.t 0)),
 rO 20 (.mv (.t 5)),
 rO 21 (.mv (.t 1)),
 rO 22 (.ia 2 (.t 19) (.t 20)),
 rO 23 (.fa (.t 22) 1),
 ⟨none, none, .st 1 (.t 23) (.t 21)⟩])
 (.reg [rO 24 (.mv (.t 1)),
 rO 25 (.bin .add (.t 24) (.v (.int .i64 1))),
 rO 1 (.mv (.t 25))])))))
 (.reg [rO 10 (.mv (.t 5)),
 rO 11 (.bin .add (.t 10) (.v (.int .i64 1))),
 rO 5 (.mv (.t 11))]))))))
 (.seq (.reg [rO 26 (.mv (.t 1)),
 rO 4 (.mv (.t 26))])
 .ret))),
 [.t 4]⟩
theorem k51 : cFn Tryz.prog Tryz.f51 = some c51 := by kernel_rfl
theorem markPeerS_ok : OkT Tryz.prog 51 (mkC_Sp sh_PeerS) := by
  refine okT_mkC (OkΓT.nil _) Tryz.func51 (by kernel_rfl) k51 ?_
  intro c k hc h1 hz
  simp only [sh_PeerS, FitC] at hc
  rcases hc with rfl | ⟨z, rows, rfl, hz0, hr⟩
  · simp only [wtC, mkC, nbC, tvC_v, tvC_nl, tvC_sl, bkC, nat0T, Int.add_zero] at *
    (dsimp only [c51, rO]; simp (maxSteps := 8000000) -implicitDefEqProofs (disch := omega) only [↓reduceIte, go_sem])
    refine awpT_loop (α := Unit) (fun _ => ⟨slots [(0, .nl), (1, .p (.int .i64 k)), (5, .p (.int .i64 0))], []⟩) (fun _ => True) (fun _ => 0) () trivial (le_keep (Nat.zero_le _) (by simp (maxSteps := 8000000) -implicitDefEqProofs (disch := omega) only [↓reduceIte, go_sem, slotsIn])) ?_
    intro _ _
    simp (maxSteps := 8000000) -implicitDefEqProofs (disch := omega) only [↓reduceIte, go_sem]
    refine joinK_at _ (le_same _ _ (Nat.zero_le _)) ?_
    simp (maxSteps := 8000000) -implicitDefEqProofs (disch := omega) only [↓reduceIte, go_sem]
    exact endK_same (.inr rfl) (Nat.zero_le _) (by simp (maxSteps := 8000000) -implicitDefEqProofs (disch := omega) only [↓reduceIte, go_sem]) rfl
  · simp only [wtC] at hz ⊢
    have hlw : rows.length ≤ wtRs rows := wtRs_rows fun r hx => by
      have hrr := hr r hx
      obtain ⟨a0, a1, rfl⟩ := sh_Peer_Fit hrr
      simp only [wtIs, wtI]; omega
    simp only [tvC_v, tvC_nl, tvC_sl, bkC, mkC, Nat.zero_add]
    generalize hnb : nbC _ = nb
    simp only [nbC] at hnb
    have hnb2 : ∀ i, nb = (bkRs 1 (mkAt rows k i)).length + 1 := fun i => by
      have := mkRs_nb (rows.take i) k; have h2 := nbRs_app (rows.take i) (rows.drop i)
      rw [List.take_append_drop] at h2; rw [bkRs_len, mkAt, nbRs_app]; omega
    (dsimp only [c51, rO]; simp (maxSteps := 8000000) -implicitDefEqProofs (disch := omega) only [↓reduceIte, go_sem])
    refine awpT_loop (α := Nat) (fun i => ⟨slots [(0, .os 0 0 rows.length), (1, .p (.int .i64 (k + (wtRs (rows.take i) : Int)))), (5, .p (.int .i64 i))], .cells 131 z (tvRs 1 (mkAt rows k i)) :: bkRs 1 (mkAt rows k i)⟩)
      (fun i => i ≤ rows.length) (fun i => rows.length - i) 0 (Nat.zero_le _) (by simp only [mkAt_zero, List.take_zero, wtRs, nat0T, Int.add_zero]; exact le_keep (by have := hnb2 0; rw [mkAt_zero] at this; rw [List.length_cons]; omega) (by simp (maxSteps := 8000000) -implicitDefEqProofs (disch := omega) only [↓reduceIte, go_sem, slotsIn])) ?_
    intro i hi
    have hl1 : (tvRs 1 (mkAt rows k i)).length = rows.length := by rw [tvRs_len, mkAt_len]
    simp (maxSteps := 8000000) -implicitDefEqProofs (disch := omega) only [↓reduceIte, go_sem, hl1]
    refine condKT_dec (fun hlt => ?_) (fun hge => ?_)
    · obtain ⟨r, hx⟩ := get_ex (l := rows) (i := i) (by omega)
      obtain rfl : z = 2 := by rcases hz0 with h | h; (rw [h] at hx; simp at hx); exact h
      have hrr := hr r (List.mem_of_getElem? hx)
      have hwr := wtRs_mem hx; have hsn := wtRs_snoc hx
      have hg := mkAt_get 1 (k := k) hx; have hs := mkAt_set 1 (k := k) hx
      generalize hm : k + (wtRs (rows.take i) : Int) = m at *
      obtain ⟨a0, a1, rfl⟩ := sh_Peer_Fit hrr
      simp only [wtIs, wtI, Nat.add_zero] at hwr hsn
      simp only [mkIs, mkI, mkV, wtI, nat1T, tvCs, tvC_v, tvC_nl, tvC_sl, nbC, Nat.add_zero, mkC_tv, el_one, el_two] at hg hs
      have hb2 : bkRs 1 (mkAt rows k (i + 1)) = bkRs 1 (mkAt rows k i) := by rw [mkAt_bkn 1 hx, mkAt_bk 1 hx]; rfl
      simp (maxSteps := 8000000) -implicitDefEqProofs (disch := omega) only [↓reduceIte, go_sem, hl1, hg, List.getElem?_set_self, List.set_set]
      refine loopKT_next (i + 1) (by omega) (by omega) ?_
      have hs2 : k + (wtRs (rows.take (i + 1)) : Int) = m + 1 + 1 := by rw [hsn]; omega
      rw [hs2, ← hs, hb2]
      exact le_keep (by have := hnb2 i; rw [List.length_cons]; omega) (by simp (maxSteps := 8000000) -implicitDefEqProofs (disch := omega) only [↓reduceIte, go_sem, slotsIn])
    · have hb : rows.take i = rows := List.take_of_length_le (by omega)
      have hmf := mkAt_full (k := k) (show rows.length ≤ i by omega)
      have hnb3 := hnb2 i; rw [hmf] at hnb3
      simp (maxSteps := 8000000) -implicitDefEqProofs (disch := omega) only [↓reduceIte, go_sem, eq_false hge, hb, hmf]
      refine joinK_at _ (le_same _ _ (by show nb ≤ List.length (_ :: _); rw [List.length_cons]; omega)) ?_
      simp (maxSteps := 8000000) -implicitDefEqProofs (disch := omega) only [↓reduceIte, go_sem]
      exact endK_same (.inr rfl) (by rw [List.length_cons]; omega) (by simp (maxSteps := 8000000) -implicitDefEqProofs (disch := omega) only [↓reduceIte, go_sem]) rfl
-- laws.heldSelS
def c162 : AF := ⟨102,
 (.seq (.reg [rO 4 (.mv (.v (.int .i64 0)))])
 (.seq (.seq (.reg [rO 5 (.mv (.v (.int .i64 0)))])
 (.block 0 (.loop (.seq (.seq (.reg [rO 6 (.mv (.t 5)),
 rO 7 (.mv (.t 0)),
 rO 8 (.len (.t 7)),
 rO 9 (.bin .lss (.t 6) (.t 8))])
 (.cond (.t 9) .skip
 (.exit 0)))
 (.seq (.block 1 (.seq (.seq (.reg [rO 12 (.mv (.t 0)),
 rO 13 (.mv (.t 5)),
 rO 14 (.ia 9 (.t 12) (.t 13)),
 rO 15 (.fa (.t 14) 0),
 rO 16 (.fa (.t 15) 0),
 rO 17 (.ld (.t 16)),
 rO 18 (.mv (.t 1)),
 rO 19 (.bin .neq (.t 17) (.t 18))])
 (.cond (.t 19) (.seq (.reg [rO 4 (.mv (.v (.int .i64 (-1))))])
 .ret)
 .skip))
 (.seq (.reg [rO 20 (.mv (.t 1)),
 rO 21 (.bin .add (.t 20) (.v (.int .i64 1))),
 rO 1 (.mv (.t 21))])
 (.seq (.seq (.reg [rO 22 (.mv (.t 0)),
 rO 23 (.mv (.t 5)),
 rO 24 (.ia 9 (.t 22) (.t 23)),
 rO 25 (.fa (.t 24) 0),
 rO 26 (.fa (.t 25) 1),
 rO 27 (.ld (.t 26)),
 rO 28 (.mv (.t 1)),
 rO 29 (.bin .neq (.t 27) (.t 28))])
 (.cond (.t 29) (.seq (.reg [rO 4 (.mv (.v (.int .i64 (-1))))])
 .ret)
 .skip))
 (.seq (.reg [rO 30 (.mv (.t 1)),
 rO 31 (.bin .add (.t 30) (.v (.int .i64 1))),
 rO 1 (.mv (.t 31))])
 (.seq (.seq (.reg [rO 32 (.mv (.t 0)),
 rO 33 (.mv (.t 5)),
 rO 34 (.ia 9 (.t 32) (.t 33)),
 rO 35 (.fa (.t 34) 2),
 rO 36 (.fa (.t 35) 0),
 rO 37 (.ld (.t 36)),
 rO 38 (.mv (.t 1)),
 rO 39 (.bin .neq (.t 37) (.t 38))])
 (.cond (.t 39) (.seq (.reg [rO 4 (.mv (.v (.int .i64 (-1))))])
 .ret)
 .skip))
 (.seq (.reg [rO 40 (.mv (.t 1)),
 rO 41 (.bin .add (.t 40) (.v (.int .i64 1))),
 rO 1 (.mv (.t 41))])
 (.seq (.seq (.reg [rO 42 (.mv (.t 0)),
 rO 43 (.mv (.t 5)),
 rO 44 (.ia 9 (.t 42) (.t 43)),
 rO 45 (.fa (.t 44) 2),
 rO 46 (.fa (.t 45) 1),
 rO 47 (.ld (.t 46)),
 rO 48 (.mv (.t 1)),
 rO 49 (.bin .neq (.t 47) (.t 48))])
 (.cond (.t 49) (.seq (.reg [rO 4 (.mv (.v (.int .i64 (-1))))])
 .ret)
 .skip))
 (.seq (.reg [rO 50 (.mv (.t 1)),
 rO 51 (.bin .add (.t 50) (.v (.int .i64 1))),
 rO 1 (.mv (.t 51))])
 (.seq (.seq (.reg [rO 52 (.mv (.t 0)),
 rO 53 (.mv (.t 5)),
 rO 54 (.ia 9 (.t 52) (.t 53)),
 rO 55 (.fa (.t 54) 4),
 rO 56 (.fa (.t 55) 0),
 rO 57 (.ld (.t 56)),
 rO 58 (.mv (.t 1)),
 rO 59 (.bin .neq (.t 57) (.t 58))])
 (.cond (.t 59) (.seq (.reg [rO 4 (.mv (.v (.int .i64 (-1))))])
 .ret)
 .skip))
 (.seq (.reg [rO 60 (.mv (.t 1)),
 rO 61 (.bin .add (.t 60) (.v (.int .i64 1))),
 rO 1 (.mv (.t 61))])
 (.seq (.seq (.reg [rO 62 (.mv (.t 0)),
 rO 63 (.mv (.t 5)),
 rO 64 (.ia 9 (.t 62) (.t 63)),
 rO 65 (.fa (.t 64) 4),
 rO 66 (.fa (.t 65) 1),
 rO 67 (.ld (.t 66)),
 rO 68 (.mv (.t 1)),
 rO 69 (.bin .neq (.t 67) (.t 68))])
 (.cond (.t 69) (.seq (.reg [rO 4 (.mv (.v (.int .i64 (-1))))])
 .ret)
 .skip))
 (.seq (.reg [rO 70 (.mv (.t 1)),
 rO 71 (.bin .add (.t 70) (.v (.int .i64 1))),
 rO 1 (.mv (.t 71))])
 (.seq (.seq (.reg [rO 72 (.mv (.t 0)),
 rO 73 (.mv (.t 5)),
 rO 74 (.ia 9 (.t 72) (.t 73)),
 rO 75 (.fa (.t 74) 6),
 rO 76 (.fa (.t 75) 0),
 rO 77 (.ld (.t 76)),
 rO 78 (.mv (.t 1)),
 rO 79 (.bin .neq (.t 77) (.t 78))])
 (.cond (.t 79) (.seq (.reg [rO 4 (.mv (.v (.int .i64 (-1))))])
 .ret)
 .skip))
 (.seq (.reg [rO 80 (.mv (.t 1)),
 rO 81 (.bin .add (.t 80) (.v (.int .i64 1))),
 rO 1 (.mv (.t 81))])
 (.seq (.seq (.reg [rO 82 (.mv (.t 0)),
 rO 83 (.mv (.t 5)),
 rO 84 (.ia 9 (.t 82) (.t 83)),
 rO 85 (.fa (.t 84) 6),
 rO 86 (.fa (.t 85) 1),
 rO 87 (.ld (.t 86)),
 rO 88 (.mv (.t 1)),
 rO 89 (.bin .neq (.t 87) (.t 88))])
 (.cond (.t 89) (.seq (.reg [rO 4 (.mv (.v (.int .i64 (-1))))])
 .ret)
 .skip))
 (.seq (.reg [rO 90 (.mv (.t 1)),
 rO 91 (.bin .add (.t 90) (.v (.int .i64 1))),
 rO 1 (.mv (.t 91))])
 (.seq (.seq (.reg [rO 92 (.mv (.t 0)),
 rO 93 (.mv (.t 5)),
 rO 94 (.ia 9 (.t 92) (.t 93)),
 rO 95 (.fa (.t 94) 8),
 rO 96 (.ld (.t 95)),
 rO 97 (.mv (.t 1)),
 rO 98 (.bin .neq (.t 96) (.t 97))])
 (.cond (.t 98) (.seq (.reg [rO 4 (.mv (.v (.int .i64 (-1))))])
 .ret)
 .skip))
 (.reg [rO 99 (.mv (.t 1)),
 rO 100 (.bin .add (.t 99) (.v (.int .i64 1))),
 rO 1 (.mv (.t 100))])))))))))))))))))))
 (.reg [rO 10 (.mv (.t 5)),
 rO 11 (.bin .add (.t 10) (.v (.int .i64 1))),
 rO 5 (.mv (.t 11))]))))))
 (.seq (.reg [rO 101 (.mv (.t 1)),
 rO 4 (.mv (.t 101))])
 .ret))),
 [.t 4]⟩
theorem k162 : cFn Tryz.prog Tryz.f162 = some c162 := by kernel_rfl
theorem heldSelS_ok : OkT Tryz.prog 162 (pureSp (hdC_S sh_SelS)) := by
  refine okT_hdC (OkΓT.nil _) Tryz.func162 (by kernel_rfl) k162 ?_
  intro c k hc h1 hz
  obtain ⟨rows, _, hr, _, hwt, hf⟩ := FitC.rows hc
  rw [hwt] at hz ⊢; rw [hf]
  have hlw : rows.length ≤ wtRs rows := wtRs_rows fun r hx => by
    have hrr := hr r hx
    obtain ⟨a0, a1, a2, a3, a4, a5, a6, a7, a8, rfl⟩ := sh_Sel_Fit hrr
    simp only [wtIs, wtI]; omega
  (dsimp only [c162, rO]; simp (maxSteps := 8000000) -implicitDefEqProofs (disch := omega) only [↓reduceIte, go_sem])
  refine awpT_loop (α := Nat) (fun i => ⟨slots [(0, .s (fzRs (mkRs rows k))), (1, .p (.int .i64 (k + (wtRs (rows.take i) : Int)))), (5, .p (.int .i64 i))], []⟩) (fun i => i ≤ rows.length) (fun i => rows.length - i) 0 (Nat.zero_le _) (by simp only [List.take_zero, wtRs, nat0T, Int.add_zero]; exact (le_of [] (by simp (maxSteps := 8000000) -implicitDefEqProofs (disch := omega) only [↓reduceIte, go_sem]) (by simp (maxSteps := 8000000) -implicitDefEqProofs (disch := omega) only [↓reduceIte, go_sem]) (by decide) (by simp))) ?_
  intro i hi
  simp (maxSteps := 8000000) -implicitDefEqProofs (disch := omega) only [↓reduceIte, go_sem]
  refine condKT_dec (fun hlt => ?_) (fun hge => ?_)
  · obtain ⟨r, hx⟩ := get_ex (l := rows) (i := i) (by omega)
    have hrr := hr r (List.mem_of_getElem? hx)
    have hwr := wtRs_mem hx; have hsn := wtRs_snoc hx
    have hg := fzRs_get (mkRs_get (k := k) hx)
    generalize hm : k + (wtRs (rows.take i) : Int) = m at *
    obtain ⟨a0, a1, a2, a3, a4, a5, a6, a7, a8, rfl⟩ := sh_Sel_Fit hrr
    simp only [wtIs, wtI, Nat.add_zero] at hwr hsn
    simp only [mkIs, mkI, mkV, wtI, nat1T, fzCs, fzC, el_one, el_two] at hg
    simp (maxSteps := 8000000) -implicitDefEqProofs (disch := omega) only [↓reduceIte, go_sem, eq_true hlt, hg, dec_self, Bool.not_true, not_true, decide_false]
    refine loopKT_next (i + 1) (by omega) (by omega) ?_
    have hs2 : k + (wtRs (rows.take (i + 1)) : Int) = m + 1 + 1 + 1 + 1 + 1 + 1 + 1 + 1 + 1 := by rw [hsn]; omega
    exact (le_of [] (by simp (maxSteps := 8000000) -implicitDefEqProofs (disch := omega) only [↓reduceIte, go_sem, hs2]) (by simp (maxSteps := 8000000) -implicitDefEqProofs (disch := omega) only [↓reduceIte, go_sem, hs2]) (by decide) (by simp))
  · have hb : rows.take i = rows := List.take_of_length_le (by omega)
    simp (maxSteps := 8000000) -implicitDefEqProofs (disch := omega) only [↓reduceIte, go_sem, eq_false hge, hb]
    refine joinK_here ?_
    simp (maxSteps := 8000000) -implicitDefEqProofs (disch := omega) only [↓reduceIte, go_sem]
    repeat' first
      | ((first | refine gdKT_deq (fun hg hG => ?_) (fun hg hG => ?_) | refine condKT_deq (fun hg hG => ?_) (fun hg hG => ?_)) <;> (try simp (maxSteps := 8000000) -implicitDefEqProofs (disch := omega) only [↓reduceIte, go_sem, hG]) <;> clear hG)
      | ((first | refine gdKT_split (fun hg => ?_) (fun hg => ?_) | refine condKT_split (fun hg => ?_) (fun hg => ?_)) <;> (try simp (maxSteps := 8000000) -implicitDefEqProofs (disch := omega) only [↓reduceIte, go_sem, hg]))
      | (refine endT_p (.inr rfl) (by simp (maxSteps := 8000000) -implicitDefEqProofs (disch := omega) only [↓reduceIte, go_sem]; rfl) ?_; (first | exact vb_true (by omega) | exact vb_false (by omega) | exact vb_dec (by omega) | exact vi_eq (by omega) | rfl | (refine vi_eq ?_; simp_all; first | done | (intros; omega))))
      | exact endT_v (.inr rfl) (by simp (maxSteps := 8000000) -implicitDefEqProofs (disch := omega) only [↓reduceIte, go_sem]; try rfl) (fun _ => rfl)
-- laws.markSelS
def c63 : AF := ⟨84,
 (.seq (.reg [rO 4 (.mv (.v (.int .i64 0)))])
 (.seq (.seq (.reg [rO 5 (.mv (.v (.int .i64 0)))])
 (.block 0 (.loop (.seq (.seq (.reg [rO 6 (.mv (.t 5)),
 rO 7 (.mv (.t 0)),
 rO 8 (.len (.t 7)),
 rO 9 (.bin .lss (.t 6) (.t 8))])
 (.cond (.t 9) .skip
 (.exit 0)))
 (.seq (.block 1 (.seq (.reg [rO 12 (.mv (.t 0)),
 rO 13 (.mv (.t 5)),
 rO 14 (.mv (.t 1)),
 rO 15 (.ia 9 (.t 12) (.t 13)),
 rO 16 (.fa (.t 15) 0),
 rO 17 (.fa (.t 16) 0),
 ⟨none, none, .st 1 (.t 17) (.t 14)⟩])
 (.seq (.reg [rO 18 (.mv (.t 1)),
 rO 19 (.bin .add (.t 18) (.v (.int .i64 1))),
 rO 1 (.mv (.t 19))])
 (.seq (.reg [rO 20 (.mv (.t 0)),
 rO 21 (.mv (.t 5)),
 rO 22 (.mv (.t 1)),
 rO 23 (.ia 9 (.t 20) (.t 21)),
 rO 24 (.fa (.t 23) 0),
 rO 25 (.fa (.t 24) 1),
 ⟨none, none, .st 1 (.t 25) (.t 22)⟩])
 (.seq (.reg [rO 26 (.mv (.t 1)),
 rO 27 (.bin .add (.t 26) (.v (.int .i64 1))),
 rO 1 (.mv (.t 27))])
 (.seq (.reg [rO 28 (.mv (.t 0)),
 rO 29 (.mv (.t 5)),
 rO 30 (.mv (.t 1)),
 rO 31 (.ia 9 (.t 28) (.t 29)),
 rO 32 (.fa (.t 31) 2),
 rO 33 (.fa (.t 32) 0),
 ⟨none, none, .st 1 (.t 33) (.t 30)⟩])
 (.seq (.reg [rO 34 (.mv (.t 1)),
 rO 35 (.bin .add (.t 34) (.v (.int .i64 1))),
 rO 1 (.mv (.t 35))])
 (.seq (.reg [rO 36 (.mv (.t 0)),
 rO 37 (.mv (.t 5)),
 rO 38 (.mv (.t 1)),
 rO 39 (.ia 9 (.t 36) (.t 37)),
 rO 40 (.fa (.t 39) 2),
 rO 41 (.fa (.t 40) 1),
 ⟨none, none, .st 1 (.t 41) (.t 38)⟩])
 (.seq (.reg [rO 42 (.mv (.t 1)),
 rO 43 (.bin .add (.t 42) (.v (.int .i64 1))),
 rO 1 (.mv (.t 43))])
 (.seq (.reg [rO 44 (.mv (.t 0)),
 rO 45 (.mv (.t 5)),
 rO 46 (.mv (.t 1)),
 rO 47 (.ia 9 (.t 44) (.t 45)),
 rO 48 (.fa (.t 47) 4),
 rO 49 (.fa (.t 48) 0),
 ⟨none, none, .st 1 (.t 49) (.t 46)⟩])
 (.seq (.reg [rO 50 (.mv (.t 1)),
 rO 51 (.bin .add (.t 50) (.v (.int .i64 1))),
 rO 1 (.mv (.t 51))])
 (.seq (.reg [rO 52 (.mv (.t 0)),
 rO 53 (.mv (.t 5)),
 rO 54 (.mv (.t 1)),
 rO 55 (.ia 9 (.t 52) (.t 53)),
 rO 56 (.fa (.t 55) 4),
 rO 57 (.fa (.t 56) 1),
 ⟨none, none, .st 1 (.t 57) (.t 54)⟩])
 (.seq (.reg [rO 58 (.mv (.t 1)),
 rO 59 (.bin .add (.t 58) (.v (.int .i64 1))),
 rO 1 (.mv (.t 59))])
 (.seq (.reg [rO 60 (.mv (.t 0)),
 rO 61 (.mv (.t 5)),
 rO 62 (.mv (.t 1)),
 rO 63 (.ia 9 (.t 60) (.t 61)),
 rO 64 (.fa (.t 63) 6),
 rO 65 (.fa (.t 64) 0),
 ⟨none, none, .st 1 (.t 65) (.t 62)⟩])
 (.seq (.reg [rO 66 (.mv (.t 1)),
 rO 67 (.bin .add (.t 66) (.v (.int .i64 1))),
 rO 1 (.mv (.t 67))])
 (.seq (.reg [rO 68 (.mv (.t 0)),
 rO 69 (.mv (.t 5)),
 rO 70 (.mv (.t 1)),
 rO 71 (.ia 9 (.t 68) (.t 69)),
 rO 72 (.fa (.t 71) 6),
 rO 73 (.fa (.t 72) 1),
 ⟨none, none, .st 1 (.t 73) (.t 70)⟩])
 (.seq (.reg [rO 74 (.mv (.t 1)),
 rO 75 (.bin .add (.t 74) (.v (.int .i64 1))),
 rO 1 (.mv (.t 75))])
 (.seq (.reg [rO 76 (.mv (.t 0)),
 rO 77 (.mv (.t 5)),
 rO 78 (.mv (.t 1)),
 rO 79 (.ia 9 (.t 76) (.t 77)),
 rO 80 (.fa (.t 79) 8),
 ⟨none, none, .st 1 (.t 80) (.t 78)⟩])
 (.reg [rO 81 (.mv (.t 1)),
 rO 82 (.bin .add (.t 81) (.v (.int .i64 1))),
 rO 1 (.mv (.t 82))])))))))))))))))))))
 (.reg [rO 10 (.mv (.t 5)),
 rO 11 (.bin .add (.t 10) (.v (.int .i64 1))),
 rO 5 (.mv (.t 11))]))))))
 (.seq (.reg [rO 83 (.mv (.t 1)),
 rO 4 (.mv (.t 83))])
 .ret))),
 [.t 4]⟩
theorem k63 : cFn Tryz.prog Tryz.f63 = some c63 := by kernel_rfl
theorem markSelS_ok : OkT Tryz.prog 63 (mkC_Sp sh_SelS) := by
  refine okT_mkC (OkΓT.nil _) Tryz.func63 (by kernel_rfl) k63 ?_
  intro c k hc h1 hz
  simp only [sh_SelS, FitC] at hc
  rcases hc with rfl | ⟨z, rows, rfl, hz0, hr⟩
  · simp only [wtC, mkC, nbC, tvC_v, tvC_nl, tvC_sl, bkC, nat0T, Int.add_zero] at *
    (dsimp only [c63, rO]; simp (maxSteps := 8000000) -implicitDefEqProofs (disch := omega) only [↓reduceIte, go_sem])
    refine awpT_loop (α := Unit) (fun _ => ⟨slots [(0, .nl), (1, .p (.int .i64 k)), (5, .p (.int .i64 0))], []⟩) (fun _ => True) (fun _ => 0) () trivial (le_keep (Nat.zero_le _) (by simp (maxSteps := 8000000) -implicitDefEqProofs (disch := omega) only [↓reduceIte, go_sem, slotsIn])) ?_
    intro _ _
    simp (maxSteps := 8000000) -implicitDefEqProofs (disch := omega) only [↓reduceIte, go_sem]
    refine joinK_at _ (le_same _ _ (Nat.zero_le _)) ?_
    simp (maxSteps := 8000000) -implicitDefEqProofs (disch := omega) only [↓reduceIte, go_sem]
    exact endK_same (.inr rfl) (Nat.zero_le _) (by simp (maxSteps := 8000000) -implicitDefEqProofs (disch := omega) only [↓reduceIte, go_sem]) rfl
  · simp only [wtC] at hz ⊢
    have hlw : rows.length ≤ wtRs rows := wtRs_rows fun r hx => by
      have hrr := hr r hx
      obtain ⟨a0, a1, a2, a3, a4, a5, a6, a7, a8, rfl⟩ := sh_Sel_Fit hrr
      simp only [wtIs, wtI]; omega
    simp only [tvC_v, tvC_nl, tvC_sl, bkC, mkC, Nat.zero_add]
    generalize hnb : nbC _ = nb
    simp only [nbC] at hnb
    have hnb2 : ∀ i, nb = (bkRs 1 (mkAt rows k i)).length + 1 := fun i => by
      have := mkRs_nb (rows.take i) k; have h2 := nbRs_app (rows.take i) (rows.drop i)
      rw [List.take_append_drop] at h2; rw [bkRs_len, mkAt, nbRs_app]; omega
    (dsimp only [c63, rO]; simp (maxSteps := 8000000) -implicitDefEqProofs (disch := omega) only [↓reduceIte, go_sem])
    refine awpT_loop (α := Nat) (fun i => ⟨slots [(0, .os 0 0 rows.length), (1, .p (.int .i64 (k + (wtRs (rows.take i) : Int)))), (5, .p (.int .i64 i))], .cells 103 z (tvRs 1 (mkAt rows k i)) :: bkRs 1 (mkAt rows k i)⟩)
      (fun i => i ≤ rows.length) (fun i => rows.length - i) 0 (Nat.zero_le _) (by simp only [mkAt_zero, List.take_zero, wtRs, nat0T, Int.add_zero]; exact le_keep (by have := hnb2 0; rw [mkAt_zero] at this; rw [List.length_cons]; omega) (by simp (maxSteps := 8000000) -implicitDefEqProofs (disch := omega) only [↓reduceIte, go_sem, slotsIn])) ?_
    intro i hi
    have hl1 : (tvRs 1 (mkAt rows k i)).length = rows.length := by rw [tvRs_len, mkAt_len]
    simp (maxSteps := 8000000) -implicitDefEqProofs (disch := omega) only [↓reduceIte, go_sem, hl1]
    refine condKT_dec (fun hlt => ?_) (fun hge => ?_)
    · obtain ⟨r, hx⟩ := get_ex (l := rows) (i := i) (by omega)
      obtain rfl : z = 9 := by rcases hz0 with h | h; (rw [h] at hx; simp at hx); exact h
      have hrr := hr r (List.mem_of_getElem? hx)
      have hwr := wtRs_mem hx; have hsn := wtRs_snoc hx
      have hg := mkAt_get 1 (k := k) hx; have hs := mkAt_set 1 (k := k) hx
      generalize hm : k + (wtRs (rows.take i) : Int) = m at *
      obtain ⟨a0, a1, a2, a3, a4, a5, a6, a7, a8, rfl⟩ := sh_Sel_Fit hrr
      simp only [wtIs, wtI, Nat.add_zero] at hwr hsn
      simp only [mkIs, mkI, mkV, wtI, nat1T, tvCs, tvC_v, tvC_nl, tvC_sl, nbC, Nat.add_zero, mkC_tv, el_one, el_two] at hg hs
      have hb2 : bkRs 1 (mkAt rows k (i + 1)) = bkRs 1 (mkAt rows k i) := by rw [mkAt_bkn 1 hx, mkAt_bk 1 hx]; rfl
      simp (maxSteps := 8000000) -implicitDefEqProofs (disch := omega) only [↓reduceIte, go_sem, hl1, hg, List.getElem?_set_self, List.set_set]
      refine loopKT_next (i + 1) (by omega) (by omega) ?_
      have hs2 : k + (wtRs (rows.take (i + 1)) : Int) = m + 1 + 1 + 1 + 1 + 1 + 1 + 1 + 1 + 1 := by rw [hsn]; omega
      rw [hs2, ← hs, hb2]
      exact le_keep (by have := hnb2 i; rw [List.length_cons]; omega) (by simp (maxSteps := 8000000) -implicitDefEqProofs (disch := omega) only [↓reduceIte, go_sem, slotsIn])
    · have hb : rows.take i = rows := List.take_of_length_le (by omega)
      have hmf := mkAt_full (k := k) (show rows.length ≤ i by omega)
      have hnb3 := hnb2 i; rw [hmf] at hnb3
      simp (maxSteps := 8000000) -implicitDefEqProofs (disch := omega) only [↓reduceIte, go_sem, eq_false hge, hb, hmf]
      refine joinK_at _ (le_same _ _ (by show nb ≤ List.length (_ :: _); rw [List.length_cons]; omega)) ?_
      simp (maxSteps := 8000000) -implicitDefEqProofs (disch := omega) only [↓reduceIte, go_sem]
      exact endK_same (.inr rfl) (by rw [List.length_cons]; omega) (by simp (maxSteps := 8000000) -implicitDefEqProofs (disch := omega) only [↓reduceIte, go_sem]) rfl
-- laws.heldSaS
def c108 : AF := ⟨116,
 (.seq (.reg [rO 4 (.mv (.v (.int .i64 0)))])
 (.seq (.seq (.reg [rO 5 (.mv (.v (.int .i64 0)))])
 (.block 0 (.loop (.seq (.seq (.reg [rO 6 (.mv (.t 5)),
 rO 7 (.mv (.t 0)),
 rO 8 (.len (.t 7)),
 rO 9 (.bin .lss (.t 6) (.t 8))])
 (.cond (.t 9) .skip
 (.exit 0)))
 (.seq (.block 1 (.seq (.seq (.reg [rO 12 (.mv (.t 0)),
 rO 13 (.mv (.t 5)),
 rO 14 (.ia 11 (.t 12) (.t 13)),
 rO 15 (.fa (.t 14) 0),
 rO 16 (.ld (.t 15)),
 rO 17 (.mv (.t 1)),
 rO 18 (.bin .neq (.t 16) (.t 17))])
 (.cond (.t 18) (.seq (.reg [rO 4 (.mv (.v (.int .i64 (-1))))])
 .ret)
 .skip))
 (.seq (.reg [rO 19 (.mv (.t 1)),
 rO 20 (.bin .add (.t 19) (.v (.int .i64 1))),
 rO 1 (.mv (.t 20))])
 (.seq (.seq (.reg [rO 21 (.mv (.t 0)),
 rO 22 (.mv (.t 5)),
 rO 23 (.ia 11 (.t 21) (.t 22)),
 rO 24 (.fa (.t 23) 1),
 rO 25 (.ld (.t 24)),
 rO 26 (.mv (.t 1)),
 rO 27 (.bin .neq (.t 25) (.t 26))])
 (.cond (.t 27) (.seq (.reg [rO 4 (.mv (.v (.int .i64 (-1))))])
 .ret)
 .skip))
 (.seq (.reg [rO 28 (.mv (.t 1)),
 rO 29 (.bin .add (.t 28) (.v (.int .i64 1))),
 rO 1 (.mv (.t 29))])
 (.seq (.seq (.reg [rO 30 (.mv (.t 0)),
 rO 31 (.mv (.t 5)),
 rO 32 (.ia 11 (.t 30) (.t 31)),
 rO 33 (.fa (.t 32) 2),
 rO 34 (.ld (.t 33)),
 rO 35 (.mv (.t 1)),
 rO 36 (.bin .neq (.t 34) (.t 35))])
 (.cond (.t 36) (.seq (.reg [rO 4 (.mv (.v (.int .i64 (-1))))])
 .ret)
 .skip))
 (.seq (.reg [rO 37 (.mv (.t 1)),
 rO 38 (.bin .add (.t 37) (.v (.int .i64 1))),
 rO 1 (.mv (.t 38))])
 (.seq (.seq (.reg [rO 39 (.mv (.t 0)),
 rO 40 (.mv (.t 5)),
 rO 41 (.ia 11 (.t 39) (.t 40)),
 rO 42 (.fa (.t 41) 3),
 rO 43 (.ld (.t 42)),
 rO 44 (.mv (.t 1)),
 rO 45 (.bin .rem (.t 44) (.v (.int .i64 3))),
 rO 46 (.bin .eql (.t 45) (.v (.int .i64 0))),
 rO 47 (.eqB true (.t 43) (.t 46))])
 (.cond (.t 47) (.seq (.reg [rO 4 (.mv (.v (.int .i64 (-1))))])
 .ret)
 .skip))
 (.seq (.reg [rO 48 (.mv (.t 1)),
 rO 49 (.bin .add (.t 48) (.v (.int .i64 1))),
 rO 1 (.mv (.t 49))])
 (.seq (.seq (.reg [rO 50 (.mv (.t 0)),
 rO 51 (.mv (.t 5)),
 rO 52 (.ia 11 (.t 50) (.t 51)),
 rO 53 (.fa (.t 52) 4),
 rO 54 (.ld (.t 53)),
 rO 55 (.mv (.t 1)),
 rO 56 (.bin .neq (.t 54) (.t 55))])
 (.cond (.t 56) (.seq (.reg [rO 4 (.mv (.v (.int .i64 (-1))))])
 .ret)
 .skip))
 (.seq (.reg [rO 57 (.mv (.t 1)),
 rO 58 (.bin .add (.t 57) (.v (.int .i64 1))),
 rO 1 (.mv (.t 58))])
 (.seq (.seq (.reg [rO 59 (.mv (.t 0)),
 rO 60 (.mv (.t 5)),
 rO 61 (.ia 11 (.t 59) (.t 60)),
 rO 62 (.fa (.t 61) 5),
 rO 63 (.fa (.t 62) 0),
 rO 64 (.ld (.t 63)),
 rO 65 (.mv (.t 1)),
 rO 66 (.bin .neq (.t 64) (.t 65))])
 (.cond (.t 66) (.seq (.reg [rO 4 (.mv (.v (.int .i64 (-1))))])
 .ret)
 .skip))
 (.seq (.reg [rO 67 (.mv (.t 1)),
 rO 68 (.bin .add (.t 67) (.v (.int .i64 1))),
 rO 1 (.mv (.t 68))])
 (.seq (.seq (.reg [rO 69 (.mv (.t 0)),
 rO 70 (.mv (.t 5)),
 rO 71 (.ia 11 (.t 69) (.t 70)),
 rO 72 (.fa (.t 71) 5),
 rO 73 (.fa (.t 72) 1),
 rO 74 (.ld (.t 73)),
 rO 75 (.mv (.t 1)),
 rO 76 (.bin .neq (.t 74) (.t 75))])
 (.cond (.t 76) (.seq (.reg [rO 4 (.mv (.v (.int .i64 (-1))))])
 .ret)
 .skip))
 (.seq (.reg [rO 77 (.mv (.t 1)),
 rO 78 (.bin .add (.t 77) (.v (.int .i64 1))),
 rO 1 (.mv (.t 78))])
 (.seq (.seq (.reg [rO 79 (.mv (.t 0)),
 rO 80 (.mv (.t 5)),
 rO 81 (.ia 11 (.t 79) (.t 80)),
 rO 82 (.fa (.t 81) 7),
 rO 83 (.ld (.t 82)),
 rO 84 (.mv (.t 1)),
 rO 85 (.bin .neq (.t 83) (.t 84))])
 (.cond (.t 85) (.seq (.reg [rO 4 (.mv (.v (.int .i64 (-1))))])
 .ret)
 .skip))
 (.seq (.reg [rO 86 (.mv (.t 1)),
 rO 87 (.bin .add (.t 86) (.v (.int .i64 1))),
 rO 1 (.mv (.t 87))])
 (.seq (.seq (.reg [rO 88 (.mv (.t 0)),
 rO 89 (.mv (.t 5)),
 rO 90 (.ia 11 (.t 88) (.t 89)),
 rO 91 (.fa (.t 90) 8),
 rO 92 (.ld (.t 91)),
 rO 93 (.mv (.t 1)),
 rO 94 (.bin .neq (.t 92) (.t 93))])
 (.cond (.t 94) (.seq (.reg [rO 4 (.mv (.v (.int .i64 (-1))))])
 .ret)
 .skip))
 (.seq (.reg [rO 95 (.mv (.t 1)),
 rO 96 (.bin .add (.t 95) (.v (.int .i64 1))),
 rO 1 (.mv (.t 96))])
 (.seq (.seq (.reg [rO 97 (.mv (.t 0)),
 rO 98 (.mv (.t 5)),
 rO 99 (.ia 11 (.t 97) (.t 98)),
 rO 100 (.fa (.t 99) 9),
 rO 101 (.ld (.t 100)),
 rO 102 (.mv (.t 1)),
 rO 103 (.bin .neq (.t 101) (.t 102))])
 (.cond (.t 103) (.seq (.reg [rO 4 (.mv (.v (.int .i64 (-1))))])
 .ret)
 .skip))
 (.seq (.reg [rO 104 (.mv (.t 1)),
 rO 105 (.bin .add (.t 104) (.v (.int .i64 1))),
 rO 1 (.mv (.t 105))])
 (.seq (.reg [rO 106 (.mv (.t 0)),
 rO 107 (.mv (.t 5)),
 rO 108 (.ia 11 (.t 106) (.t 107)),
 rO 109 (.fa (.t 108) 10),
 rO 110 (.ld (.t 109)),
 rO 111 (.mv (.t 1)),
 rO 112 (.call 162 [(.t 110), (.t 111)]),
 rO 1 (.mv (.t 112))])
 (.seq (.reg [rO 113 (.mv (.t 1)),
 rO 114 (.bin .lss (.t 113) (.v (.int .i64 0)))])
 (.cond (.t 114) (.seq (.reg [rO 4 (.mv (.v (.int .i64 (-1))))])
 .ret)
 .skip))))))))))))))))))))))))
 (.reg [rO 10 (.mv (.t 5)),
 rO 11 (.bin .add (.t 10) (.v (.int .i64 1))),
 rO 5 (.mv (.t 11))]))))))
 (.seq (.reg [rO 115 (.mv (.t 1)),
 rO 4 (.mv (.t 115))])
 .ret))),
 [.t 4]⟩
theorem k108 : cFn Tryz.prog Tryz.f108 = some c108 := by kernel_rfl
theorem heldSaS_ok : OkT Tryz.prog 108 (pureSp (hdC_S sh_SaS)) := by
  refine okT_hdC (OkΓT.cons heldSelS_ok (OkΓT.nil _)) Tryz.func108 (by kernel_rfl) k108 ?_
  intro c k hc h1 hz
  obtain ⟨rows, _, hr, _, hwt, hf⟩ := FitC.rows hc
  rw [hwt] at hz ⊢; rw [hf]
  have hlw : rows.length ≤ wtRs rows := wtRs_rows fun r hx => by
    have hrr := hr r hx
    obtain ⟨a0, a1, a2, a3, a4, a5, a6, a7, a8, a9, c10, rfl, hc10⟩ := sh_Sa_Fit hrr
    simp only [wtIs, wtI]; omega
  (dsimp only [c108, rO]; simp (maxSteps := 8000000) -implicitDefEqProofs (disch := omega) only [↓reduceIte, go_sem])
  refine awpT_loop (α := Nat) (fun i => ⟨slots [(0, .s (fzRs (mkRs rows k))), (1, .p (.int .i64 (k + (wtRs (rows.take i) : Int)))), (5, .p (.int .i64 i))], []⟩) (fun i => i ≤ rows.length) (fun i => rows.length - i) 0 (Nat.zero_le _) (by simp only [List.take_zero, wtRs, nat0T, Int.add_zero]; exact (le_of [] (by simp (maxSteps := 8000000) -implicitDefEqProofs (disch := omega) only [↓reduceIte, go_sem]) (by simp (maxSteps := 8000000) -implicitDefEqProofs (disch := omega) only [↓reduceIte, go_sem]) (by decide) (by simp))) ?_
  intro i hi
  simp (maxSteps := 8000000) -implicitDefEqProofs (disch := omega) only [↓reduceIte, go_sem]
  refine condKT_dec (fun hlt => ?_) (fun hge => ?_)
  · obtain ⟨r, hx⟩ := get_ex (l := rows) (i := i) (by omega)
    have hrr := hr r (List.mem_of_getElem? hx)
    have hwr := wtRs_mem hx; have hsn := wtRs_snoc hx
    have hg := fzRs_get (mkRs_get (k := k) hx)
    generalize hm : k + (wtRs (rows.take i) : Int) = m at *
    obtain ⟨a0, a1, a2, a3, a4, a5, a6, a7, a8, a9, c10, rfl, hc10⟩ := sh_Sa_Fit hrr
    simp only [wtIs, wtI, Nat.add_zero] at hwr hsn
    have hmk_c10 := FitC.mk hc10
    simp only [hmk_c10.1] at hwr hsn
    simp only [mkIs, mkI, mkV, wtI, nat1T, fzCs, fzC, el_one, el_two, hmk_c10.1, hmk_c10.2] at hg
    simp only [isT3] at hg
    simp (maxSteps := 8000000) -implicitDefEqProofs (disch := omega) only [↓reduceIte, go_sem, eq_true hlt, hg, dec_self, Bool.not_true, not_true, decide_false, hdC_at hc10 (show 0 ≤ m + 1 + 1 + 1 + 1 + 1 + 1 + 1 + 1 + 1 + 1 by omega) (by omega)]
    simp (maxSteps := 8000000) -implicitDefEqProofs (disch := omega) only [↓reduceIte, go_sem, eq_false (show ¬ (m + 1 + 1 + 1 + 1 + 1 + 1 + 1 + 1 + 1 + 1 + (wtC c10 : Int) < 0) by omega)]
    refine loopKT_next (i + 1) (by omega) (by omega) ?_
    have hs2 : k + (wtRs (rows.take (i + 1)) : Int) = m + 1 + 1 + 1 + 1 + 1 + 1 + 1 + 1 + 1 + 1 + (wtC c10 : Int) := by rw [hsn]; omega
    exact (le_of [] (by simp (maxSteps := 8000000) -implicitDefEqProofs (disch := omega) only [↓reduceIte, go_sem, hs2]) (by simp (maxSteps := 8000000) -implicitDefEqProofs (disch := omega) only [↓reduceIte, go_sem, hs2]) (by decide) (by simp))
  · have hb : rows.take i = rows := List.take_of_length_le (by omega)
    simp (maxSteps := 8000000) -implicitDefEqProofs (disch := omega) only [↓reduceIte, go_sem, eq_false hge, hb]
    refine joinK_here ?_
    simp (maxSteps := 8000000) -implicitDefEqProofs (disch := omega) only [↓reduceIte, go_sem]
    repeat' first
      | ((first | refine gdKT_deq (fun hg hG => ?_) (fun hg hG => ?_) | refine condKT_deq (fun hg hG => ?_) (fun hg hG => ?_)) <;> (try simp (maxSteps := 8000000) -implicitDefEqProofs (disch := omega) only [↓reduceIte, go_sem, hG]) <;> clear hG)
      | ((first | refine gdKT_split (fun hg => ?_) (fun hg => ?_) | refine condKT_split (fun hg => ?_) (fun hg => ?_)) <;> (try simp (maxSteps := 8000000) -implicitDefEqProofs (disch := omega) only [↓reduceIte, go_sem, hg]))
      | (refine endT_p (.inr rfl) (by simp (maxSteps := 8000000) -implicitDefEqProofs (disch := omega) only [↓reduceIte, go_sem]; rfl) ?_; (first | exact vb_true (by omega) | exact vb_false (by omega) | exact vb_dec (by omega) | exact vi_eq (by omega) | rfl | (refine vi_eq ?_; simp_all; first | done | (intros; omega))))
      | exact endT_v (.inr rfl) (by simp (maxSteps := 8000000) -implicitDefEqProofs (disch := omega) only [↓reduceIte, go_sem]; try rfl) (fun _ => rfl)
-- laws.markSaS
def c52 : AF := ⟨94,
 (.seq (.reg [rO 4 (.mv (.v (.int .i64 0)))])
 (.seq (.seq (.reg [rO 5 (.mv (.v (.int .i64 0)))])
 (.block 0 (.loop (.seq (.seq (.reg [rO 6 (.mv (.t 5)),
 rO 7 (.mv (.t 0)),
 rO 8 (.len (.t 7)),
 rO 9 (.bin .lss (.t 6) (.t 8))])
 (.cond (.t 9) .skip
 (.exit 0)))
 (.seq (.block 1 (.seq (.reg [rO 12 (.mv (.t 0)),
 rO 13 (.mv (.t 5)),
 rO 14 (.mv (.t 1)),
 rO 15 (.ia 11 (.t 12) (.t 13)),
 rO 16 (.fa (.t 15) 0),
 ⟨none, none, .st 1 (.t 16) (.t 14)⟩])
 (.seq (.reg [rO 17 (.mv (.t 1)),
 rO 18 (.bin .add (.t 17) (.v (.int .i64 1))),
 rO 1 (.mv (.t 18))])
 (.seq (.reg [rO 19 (.mv (.t 0)),
 rO 20 (.mv (.t 5)),
 rO 21 (.mv (.t 1)),
 rO 22 (.ia 11 (.t 19) (.t 20)),
 rO 23 (.fa (.t 22) 1),
 ⟨none, none, .st 1 (.t 23) (.t 21)⟩])
 (.seq (.reg [rO 24 (.mv (.t 1)),
 rO 25 (.bin .add (.t 24) (.v (.int .i64 1))),
 rO 1 (.mv (.t 25))])
 (.seq (.reg [rO 26 (.mv (.t 0)),
 rO 27 (.mv (.t 5)),
 rO 28 (.mv (.t 1)),
 rO 29 (.ia 11 (.t 26) (.t 27)),
 rO 30 (.fa (.t 29) 2),
 ⟨none, none, .st 1 (.t 30) (.t 28)⟩])
 (.seq (.reg [rO 31 (.mv (.t 1)),
 rO 32 (.bin .add (.t 31) (.v (.int .i64 1))),
 rO 1 (.mv (.t 32))])
 (.seq (.reg [rO 33 (.mv (.t 0)),
 rO 34 (.mv (.t 5)),
 rO 35 (.mv (.t 1)),
 rO 36 (.bin .rem (.t 35) (.v (.int .i64 3))),
 rO 37 (.bin .eql (.t 36) (.v (.int .i64 0))),
 rO 38 (.ia 11 (.t 33) (.t 34)),
 rO 39 (.fa (.t 38) 3),
 ⟨none, none, .st 1 (.t 39) (.t 37)⟩])
 (.seq (.reg [rO 40 (.mv (.t 1)),
 rO 41 (.bin .add (.t 40) (.v (.int .i64 1))),
 rO 1 (.mv (.t 41))])
 (.seq (.reg [rO 42 (.mv (.t 0)),
 rO 43 (.mv (.t 5)),
 rO 44 (.mv (.t 1)),
 rO 45 (.ia 11 (.t 42) (.t 43)),
 rO 46 (.fa (.t 45) 4),
 ⟨none, none, .st 1 (.t 46) (.t 44)⟩])
 (.seq (.reg [rO 47 (.mv (.t 1)),
 rO 48 (.bin .add (.t 47) (.v (.int .i64 1))),
 rO 1 (.mv (.t 48))])
 (.seq (.reg [rO 49 (.mv (.t 0)),
 rO 50 (.mv (.t 5)),
 rO 51 (.mv (.t 1)),
 rO 52 (.ia 11 (.t 49) (.t 50)),
 rO 53 (.fa (.t 52) 5),
 rO 54 (.fa (.t 53) 0),
 ⟨none, none, .st 1 (.t 54) (.t 51)⟩])
 (.seq (.reg [rO 55 (.mv (.t 1)),
 rO 56 (.bin .add (.t 55) (.v (.int .i64 1))),
 rO 1 (.mv (.t 56))])
 (.seq (.reg [rO 57 (.mv (.t 0)),
 rO 58 (.mv (.t 5)),
 rO 59 (.mv (.t 1)),
 rO 60 (.ia 11 (.t 57) (.t 58)),
 rO 61 (.fa (.t 60) 5),
 rO 62 (.fa (.t 61) 1),
 ⟨none, none, .st 1 (.t 62) (.t 59)⟩])
 (.seq (.reg [rO 63 (.mv (.t 1)),
 rO 64 (.bin .add (.t 63) (.v (.int .i64 1))),
 rO 1 (.mv (.t 64))])
 (.seq (.reg [rO 65 (.mv (.t 0)),
 rO 66 (.mv (.t 5)),
 rO 67 (.mv (.t 1)),
 rO 68 (.ia 11 (.t 65) (.t 66)),
 rO 69 (.fa (.t 68) 7),
 ⟨none, none, .st 1 (.t 69) (.t 67)⟩])
 (.seq (.reg [rO 70 (.mv (.t 1)),
 rO 71 (.bin .add (.t 70) (.v (.int .i64 1))),
 rO 1 (.mv (.t 71))])
 (.seq (.reg [rO 72 (.mv (.t 0)),
 rO 73 (.mv (.t 5)),
 rO 74 (.mv (.t 1)),
 rO 75 (.ia 11 (.t 72) (.t 73)),
 rO 76 (.fa (.t 75) 8),
 ⟨none, none, .st 1 (.t 76) (.t 74)⟩])
 (.seq (.reg [rO 77 (.mv (.t 1)),
 rO 78 (.bin .add (.t 77) (.v (.int .i64 1))),
 rO 1 (.mv (.t 78))])
 (.seq (.reg [rO 79 (.mv (.t 0)),
 rO 80 (.mv (.t 5)),
 rO 81 (.mv (.t 1)),
 rO 82 (.ia 11 (.t 79) (.t 80)),
 rO 83 (.fa (.t 82) 9),
 ⟨none, none, .st 1 (.t 83) (.t 81)⟩])
 (.seq (.reg [rO 84 (.mv (.t 1)),
 rO 85 (.bin .add (.t 84) (.v (.int .i64 1))),
 rO 1 (.mv (.t 85))])
 (.reg [rO 86 (.mv (.t 0)),
 rO 87 (.mv (.t 5)),
 rO 88 (.ia 11 (.t 86) (.t 87)),
 rO 89 (.fa (.t 88) 10),
 rO 90 (.ld (.t 89)),
 rO 91 (.mv (.t 1)),
 rO 92 (.call 63 [(.t 90), (.t 91)]),
 rO 1 (.mv (.t 92))]))))))))))))))))))))))
 (.reg [rO 10 (.mv (.t 5)),
 rO 11 (.bin .add (.t 10) (.v (.int .i64 1))),
 rO 5 (.mv (.t 11))]))))))
 (.seq (.reg [rO 93 (.mv (.t 1)),
 rO 4 (.mv (.t 93))])
 .ret))),
 [.t 4]⟩
theorem k52 : cFn Tryz.prog Tryz.f52 = some c52 := by kernel_rfl
theorem markSaS_ok : OkT Tryz.prog 52 (mkC_Sp sh_SaS) := by
  refine okT_mkC (OkΓT.cons markSelS_ok (OkΓT.nil _)) Tryz.func52 (by kernel_rfl) k52 ?_
  intro c k hc h1 hz
  simp only [sh_SaS, FitC] at hc
  rcases hc with rfl | ⟨z, rows, rfl, hz0, hr⟩
  · simp only [wtC, mkC, nbC, tvC_v, tvC_nl, tvC_sl, bkC, nat0T, Int.add_zero] at *
    (dsimp only [c52, rO]; simp (maxSteps := 8000000) -implicitDefEqProofs (disch := omega) only [↓reduceIte, go_sem])
    refine awpT_loop (α := Unit) (fun _ => ⟨slots [(0, .nl), (1, .p (.int .i64 k)), (5, .p (.int .i64 0))], []⟩) (fun _ => True) (fun _ => 0) () trivial (le_keep (Nat.zero_le _) (by simp (maxSteps := 8000000) -implicitDefEqProofs (disch := omega) only [↓reduceIte, go_sem, slotsIn])) ?_
    intro _ _
    simp (maxSteps := 8000000) -implicitDefEqProofs (disch := omega) only [↓reduceIte, go_sem]
    refine joinK_at _ (le_same _ _ (Nat.zero_le _)) ?_
    simp (maxSteps := 8000000) -implicitDefEqProofs (disch := omega) only [↓reduceIte, go_sem]
    exact endK_same (.inr rfl) (Nat.zero_le _) (by simp (maxSteps := 8000000) -implicitDefEqProofs (disch := omega) only [↓reduceIte, go_sem]) rfl
  · simp only [wtC] at hz ⊢
    have hlw : rows.length ≤ wtRs rows := wtRs_rows fun r hx => by
      have hrr := hr r hx
      obtain ⟨a0, a1, a2, a3, a4, a5, a6, a7, a8, a9, c10, rfl, hc10⟩ := sh_Sa_Fit hrr
      simp only [wtIs, wtI]; omega
    simp only [tvC_v, tvC_nl, tvC_sl, bkC, mkC, Nat.zero_add]
    generalize hnb : nbC _ = nb
    simp only [nbC] at hnb
    have hnb2 : ∀ i, nb = (bkRs 1 (mkAt rows k i)).length + 1 := fun i => by
      have := mkRs_nb (rows.take i) k; have h2 := nbRs_app (rows.take i) (rows.drop i)
      rw [List.take_append_drop] at h2; rw [bkRs_len, mkAt, nbRs_app]; omega
    (dsimp only [c52, rO]; simp (maxSteps := 8000000) -implicitDefEqProofs (disch := omega) only [↓reduceIte, go_sem])
    refine awpT_loop (α := Nat) (fun i => ⟨slots [(0, .os 0 0 rows.length), (1, .p (.int .i64 (k + (wtRs (rows.take i) : Int)))), (5, .p (.int .i64 i))], .cells 54 z (tvRs 1 (mkAt rows k i)) :: bkRs 1 (mkAt rows k i)⟩)
      (fun i => i ≤ rows.length) (fun i => rows.length - i) 0 (Nat.zero_le _) (by simp only [mkAt_zero, List.take_zero, wtRs, nat0T, Int.add_zero]; exact le_keep (by have := hnb2 0; rw [mkAt_zero] at this; rw [List.length_cons]; omega) (by simp (maxSteps := 8000000) -implicitDefEqProofs (disch := omega) only [↓reduceIte, go_sem, slotsIn])) ?_
    intro i hi
    have hl1 : (tvRs 1 (mkAt rows k i)).length = rows.length := by rw [tvRs_len, mkAt_len]
    simp (maxSteps := 8000000) -implicitDefEqProofs (disch := omega) only [↓reduceIte, go_sem, hl1]
    refine condKT_dec (fun hlt => ?_) (fun hge => ?_)
    · obtain ⟨r, hx⟩ := get_ex (l := rows) (i := i) (by omega)
      obtain rfl : z = 11 := by rcases hz0 with h | h; (rw [h] at hx; simp at hx); exact h
      have hrr := hr r (List.mem_of_getElem? hx)
      have hwr := wtRs_mem hx; have hsn := wtRs_snoc hx
      have hg := mkAt_get 1 (k := k) hx; have hs := mkAt_set 1 (k := k) hx
      have hb1 := mkAt_bk 1 (k := k) hx; have hb2 := mkAt_bkn 1 (k := k) hx
      generalize hm : k + (wtRs (rows.take i) : Int) = m at *
      obtain ⟨a0, a1, a2, a3, a4, a5, a6, a7, a8, a9, c10, rfl, hc10⟩ := sh_Sa_Fit hrr
      simp only [wtIs, wtI, Nat.add_zero] at hwr hsn
      have hmk_c10 := FitC.mk hc10
      simp only [hmk_c10.1] at hwr hsn
      simp only [mkIs, mkI, mkV, wtI, nat1T, tvCs, tvC_v, tvC_nl, tvC_sl, nbC, Nat.add_zero, mkC_tv, el_one, el_two, hmk_c10.1, hmk_c10.2] at hg hs
      simp only [isT3] at hs
      simp only [mkIs, mkI, mkV, wtI, nat1T, bkCs, bkC, nbCs, nbC, Nat.add_zero, Nat.zero_add, List.nil_append, List.append_nil, hmk_c10.1, hmk_c10.2] at hb1 hb2
      simp (maxSteps := 8000000) -implicitDefEqProofs (disch := omega) only [↓reduceIte, go_sem, hl1, hg, List.getElem?_set_self, List.set_set]
      have m1 := fun X => mkC_seg (A := X :: bkRs 1 (mkRs (rows.take i) k)) (B := bkRs (1 + nbRs (rows.take i) + nbC c10) (rows.drop (i + 1))) (n := 1 + nbRs (rows.take i)) (k := m + 1 + 1 + 1 + 1 + 1 + 1 + 1 + 1 + 1 + 1) (by rw [List.length_cons, bkRs_len, mkRs_nb]; omega) hc10 (by omega) (by omega)
      simp only [List.cons_append, ← hb1, ← hb2] at m1
      refine mutQ_call (by simp (maxSteps := 8000000) -implicitDefEqProofs (disch := omega) only [↓reduceIte, go_sem]; rfl) (by simp (maxSteps := 8000000) -implicitDefEqProofs (disch := omega) only [↓reduceIte, go_sem]) (m1 _) ?_
      simp (maxSteps := 8000000) -implicitDefEqProofs (disch := omega) only [↓reduceIte, go_sem]
      refine loopKT_next (i + 1) (by omega) (by omega) ?_
      have hs2 : k + (wtRs (rows.take (i + 1)) : Int) = m + 1 + 1 + 1 + 1 + 1 + 1 + 1 + 1 + 1 + 1 + (wtC c10 : Int) := by rw [hsn]; omega
      rw [hs2, ← hs]
      exact le_keep (by have := hnb2 (i + 1); rw [List.length_cons]; omega) (by simp (maxSteps := 8000000) -implicitDefEqProofs (disch := omega) only [↓reduceIte, go_sem, slotsIn])
    · have hb : rows.take i = rows := List.take_of_length_le (by omega)
      have hmf := mkAt_full (k := k) (show rows.length ≤ i by omega)
      have hnb3 := hnb2 i; rw [hmf] at hnb3
      simp (maxSteps := 8000000) -implicitDefEqProofs (disch := omega) only [↓reduceIte, go_sem, eq_false hge, hb, hmf]
      refine joinK_at _ (le_same _ _ (by show nb ≤ List.length (_ :: _); rw [List.length_cons]; omega)) ?_
      simp (maxSteps := 8000000) -implicitDefEqProofs (disch := omega) only [↓reduceIte, go_sem]
      exact endK_same (.inr rfl) (by rw [List.length_cons]; omega) (by simp (maxSteps := 8000000) -implicitDefEqProofs (disch := omega) only [↓reduceIte, go_sem]) rfl
-- laws.heldInt64S
def c109 : AF := ⟨21,
 (.seq (.reg [rO 4 (.mv (.v (.int .i64 0)))])
 (.seq (.seq (.reg [rO 5 (.mv (.v (.int .i64 0)))])
 (.block 0 (.loop (.seq (.seq (.reg [rO 6 (.mv (.t 5)),
 rO 7 (.mv (.t 0)),
 rO 8 (.len (.t 7)),
 rO 9 (.bin .lss (.t 6) (.t 8))])
 (.cond (.t 9) .skip
 (.exit 0)))
 (.seq (.block 1 (.seq (.seq (.reg [rO 12 (.mv (.t 0)),
 rO 13 (.mv (.t 5)),
 rO 14 (.ia 1 (.t 12) (.t 13)),
 rO 15 (.ld (.t 14)),
 rO 16 (.mv (.t 1)),
 rO 17 (.bin .neq (.t 15) (.t 16))])
 (.cond (.t 17) (.seq (.reg [rO 4 (.mv (.v (.int .i64 (-1))))])
 .ret)
 .skip))
 (.reg [rO 18 (.mv (.t 1)),
 rO 19 (.bin .add (.t 18) (.v (.int .i64 1))),
 rO 1 (.mv (.t 19))])))
 (.reg [rO 10 (.mv (.t 5)),
 rO 11 (.bin .add (.t 10) (.v (.int .i64 1))),
 rO 5 (.mv (.t 11))]))))))
 (.seq (.reg [rO 20 (.mv (.t 1)),
 rO 4 (.mv (.t 20))])
 .ret))),
 [.t 4]⟩
theorem k109 : cFn Tryz.prog Tryz.f109 = some c109 := by kernel_rfl
theorem heldInt64S_ok : OkT Tryz.prog 109 (pureSp (hdC_S sh_Int64S)) := by
  refine okT_hdC (OkΓT.nil _) Tryz.func109 (by kernel_rfl) k109 ?_
  intro c k hc h1 hz
  obtain ⟨rows, _, hr, _, hwt, hf⟩ := FitC.rows hc
  rw [hwt] at hz ⊢; rw [hf]
  have hlw : rows.length ≤ wtRs rows := wtRs_rows fun r hx => by
    have hrr := hr r hx
    obtain ⟨_, _, rfl, ⟨a0, rfl⟩, hrr⟩ := hrr; simp only [FitR] at hrr; subst hrr
    simp only [wtIs, wtI]; omega
  (dsimp only [c109, rO]; simp (maxSteps := 8000000) -implicitDefEqProofs (disch := omega) only [↓reduceIte, go_sem])
  refine awpT_loop (α := Nat) (fun i => ⟨slots [(0, .s (fzRs (mkRs rows k))), (1, .p (.int .i64 (k + (wtRs (rows.take i) : Int)))), (5, .p (.int .i64 i))], []⟩) (fun i => i ≤ rows.length) (fun i => rows.length - i) 0 (Nat.zero_le _) (by simp only [List.take_zero, wtRs, nat0T, Int.add_zero]; exact (le_of [] (by simp (maxSteps := 8000000) -implicitDefEqProofs (disch := omega) only [↓reduceIte, go_sem]) (by simp (maxSteps := 8000000) -implicitDefEqProofs (disch := omega) only [↓reduceIte, go_sem]) (by decide) (by simp))) ?_
  intro i hi
  simp (maxSteps := 8000000) -implicitDefEqProofs (disch := omega) only [↓reduceIte, go_sem]
  refine condKT_dec (fun hlt => ?_) (fun hge => ?_)
  · obtain ⟨r, hx⟩ := get_ex (l := rows) (i := i) (by omega)
    have hrr := hr r (List.mem_of_getElem? hx)
    have hwr := wtRs_mem hx; have hsn := wtRs_snoc hx
    have hg := fzRs_get (mkRs_get (k := k) hx)
    generalize hm : k + (wtRs (rows.take i) : Int) = m at *
    obtain ⟨_, _, rfl, ⟨a0, rfl⟩, hrr⟩ := hrr; simp only [FitR] at hrr; subst hrr
    simp only [wtIs, wtI, Nat.add_zero] at hwr hsn
    simp only [mkIs, mkI, mkV, wtI, nat1T, fzCs, fzC, el_one, el_two] at hg
    simp (maxSteps := 8000000) -implicitDefEqProofs (disch := omega) only [↓reduceIte, go_sem, eq_true hlt, hg, dec_self, Bool.not_true, not_true, decide_false]
    refine loopKT_next (i + 1) (by omega) (by omega) ?_
    have hs2 : k + (wtRs (rows.take (i + 1)) : Int) = m + 1 := by rw [hsn]; omega
    exact (le_of [] (by simp (maxSteps := 8000000) -implicitDefEqProofs (disch := omega) only [↓reduceIte, go_sem, hs2]) (by simp (maxSteps := 8000000) -implicitDefEqProofs (disch := omega) only [↓reduceIte, go_sem, hs2]) (by decide) (by simp))
  · have hb : rows.take i = rows := List.take_of_length_le (by omega)
    simp (maxSteps := 8000000) -implicitDefEqProofs (disch := omega) only [↓reduceIte, go_sem, eq_false hge, hb]
    refine joinK_here ?_
    simp (maxSteps := 8000000) -implicitDefEqProofs (disch := omega) only [↓reduceIte, go_sem]
    repeat' first
      | ((first | refine gdKT_deq (fun hg hG => ?_) (fun hg hG => ?_) | refine condKT_deq (fun hg hG => ?_) (fun hg hG => ?_)) <;> (try simp (maxSteps := 8000000) -implicitDefEqProofs (disch := omega) only [↓reduceIte, go_sem, hG]) <;> clear hG)
      | ((first | refine gdKT_split (fun hg => ?_) (fun hg => ?_) | refine condKT_split (fun hg => ?_) (fun hg => ?_)) <;> (try simp (maxSteps := 8000000) -implicitDefEqProofs (disch := omega) only [↓reduceIte, go_sem, hg]))
      | (refine endT_p (.inr rfl) (by simp (maxSteps := 8000000) -implicitDefEqProofs (disch := omega) only [↓reduceIte, go_sem]; rfl) ?_; (first | exact vb_true (by omega) | exact vb_false (by omega) | exact vb_dec (by omega) | exact vi_eq (by omega) | rfl | (refine vi_eq ?_; simp_all; first | done | (intros; omega))))
      | exact endT_v (.inr rfl) (by simp (maxSteps := 8000000) -implicitDefEqProofs (disch := omega) only [↓reduceIte, go_sem]; try rfl) (fun _ => rfl)
-- laws.markInt64S
def c53 : AF := ⟨19,
 (.seq (.reg [rO 4 (.mv (.v (.int .i64 0)))])
 (.seq (.seq (.reg [rO 5 (.mv (.v (.int .i64 0)))])
 (.block 0 (.loop (.seq (.seq (.reg [rO 6 (.mv (.t 5)),
 rO 7 (.mv (.t 0)),
 rO 8 (.len (.t 7)),
 rO 9 (.bin .lss (.t 6) (.t 8))])
 (.cond (.t 9) .skip
 (.exit 0)))
 (.seq (.block 1 (.seq (.reg [rO 12 (.mv (.t 0)),
 rO 13 (.mv (.t 5)),
 rO 14 (.mv (.t 1)),
 rO 15 (.ia 1 (.t 12) (.t 13)),
 ⟨none, none, .st 1 (.t 15) (.t 14)⟩])
 (.reg [rO 16 (.mv (.t 1)),
 rO 17 (.bin .add (.t 16) (.v (.int .i64 1))),
 rO 1 (.mv (.t 17))])))
 (.reg [rO 10 (.mv (.t 5)),
 rO 11 (.bin .add (.t 10) (.v (.int .i64 1))),
 rO 5 (.mv (.t 11))]))))))
 (.seq (.reg [rO 18 (.mv (.t 1)),
 rO 4 (.mv (.t 18))])
 .ret))),
 [.t 4]⟩
theorem k53 : cFn Tryz.prog Tryz.f53 = some c53 := by kernel_rfl
theorem markInt64S_ok : OkT Tryz.prog 53 (mkC_Sp sh_Int64S) := by
  refine okT_mkC (OkΓT.nil _) Tryz.func53 (by kernel_rfl) k53 ?_
  intro c k hc h1 hz
  simp only [sh_Int64S, FitC] at hc
  rcases hc with rfl | ⟨z, rows, rfl, hz0, hr⟩
  · simp only [wtC, mkC, nbC, tvC_v, tvC_nl, tvC_sl, bkC, nat0T, Int.add_zero] at *
    (dsimp only [c53, rO]; simp (maxSteps := 8000000) -implicitDefEqProofs (disch := omega) only [↓reduceIte, go_sem])
    refine awpT_loop (α := Unit) (fun _ => ⟨slots [(0, .nl), (1, .p (.int .i64 k)), (5, .p (.int .i64 0))], []⟩) (fun _ => True) (fun _ => 0) () trivial (le_keep (Nat.zero_le _) (by simp (maxSteps := 8000000) -implicitDefEqProofs (disch := omega) only [↓reduceIte, go_sem, slotsIn])) ?_
    intro _ _
    simp (maxSteps := 8000000) -implicitDefEqProofs (disch := omega) only [↓reduceIte, go_sem]
    refine joinK_at _ (le_same _ _ (Nat.zero_le _)) ?_
    simp (maxSteps := 8000000) -implicitDefEqProofs (disch := omega) only [↓reduceIte, go_sem]
    exact endK_same (.inr rfl) (Nat.zero_le _) (by simp (maxSteps := 8000000) -implicitDefEqProofs (disch := omega) only [↓reduceIte, go_sem]) rfl
  · simp only [wtC] at hz ⊢
    have hlw : rows.length ≤ wtRs rows := wtRs_rows fun r hx => by
      have hrr := hr r hx
      obtain ⟨_, _, rfl, ⟨a0, rfl⟩, hrr⟩ := hrr; simp only [FitR] at hrr; subst hrr
      simp only [wtIs, wtI]; omega
    simp only [tvC_v, tvC_nl, tvC_sl, bkC, mkC, Nat.zero_add]
    generalize hnb : nbC _ = nb
    simp only [nbC] at hnb
    have hnb2 : ∀ i, nb = (bkRs 1 (mkAt rows k i)).length + 1 := fun i => by
      have := mkRs_nb (rows.take i) k; have h2 := nbRs_app (rows.take i) (rows.drop i)
      rw [List.take_append_drop] at h2; rw [bkRs_len, mkAt, nbRs_app]; omega
    (dsimp only [c53, rO]; simp (maxSteps := 8000000) -implicitDefEqProofs (disch := omega) only [↓reduceIte, go_sem])
    refine awpT_loop (α := Nat) (fun i => ⟨slots [(0, .os 0 0 rows.length), (1, .p (.int .i64 (k + (wtRs (rows.take i) : Int)))), (5, .p (.int .i64 i))], .cells 2 z (tvRs 1 (mkAt rows k i)) :: bkRs 1 (mkAt rows k i)⟩)
      (fun i => i ≤ rows.length) (fun i => rows.length - i) 0 (Nat.zero_le _) (by simp only [mkAt_zero, List.take_zero, wtRs, nat0T, Int.add_zero]; exact le_keep (by have := hnb2 0; rw [mkAt_zero] at this; rw [List.length_cons]; omega) (by simp (maxSteps := 8000000) -implicitDefEqProofs (disch := omega) only [↓reduceIte, go_sem, slotsIn])) ?_
    intro i hi
    have hl1 : (tvRs 1 (mkAt rows k i)).length = rows.length := by rw [tvRs_len, mkAt_len]
    simp (maxSteps := 8000000) -implicitDefEqProofs (disch := omega) only [↓reduceIte, go_sem, hl1]
    refine condKT_dec (fun hlt => ?_) (fun hge => ?_)
    · obtain ⟨r, hx⟩ := get_ex (l := rows) (i := i) (by omega)
      obtain rfl : z = 1 := by rcases hz0 with h | h; (rw [h] at hx; simp at hx); exact h
      have hrr := hr r (List.mem_of_getElem? hx)
      have hwr := wtRs_mem hx; have hsn := wtRs_snoc hx
      have hg := mkAt_get 1 (k := k) hx; have hs := mkAt_set 1 (k := k) hx
      generalize hm : k + (wtRs (rows.take i) : Int) = m at *
      obtain ⟨_, _, rfl, ⟨a0, rfl⟩, hrr⟩ := hrr; simp only [FitR] at hrr; subst hrr
      simp only [wtIs, wtI, Nat.add_zero] at hwr hsn
      simp only [mkIs, mkI, mkV, wtI, nat1T, tvCs, tvC_v, tvC_nl, tvC_sl, nbC, Nat.add_zero, mkC_tv, el_one, el_two] at hg hs
      have hb2 : bkRs 1 (mkAt rows k (i + 1)) = bkRs 1 (mkAt rows k i) := by rw [mkAt_bkn 1 hx, mkAt_bk 1 hx]; rfl
      simp (maxSteps := 8000000) -implicitDefEqProofs (disch := omega) only [↓reduceIte, go_sem, hl1, hg, List.getElem?_set_self, List.set_set]
      refine loopKT_next (i + 1) (by omega) (by omega) ?_
      have hs2 : k + (wtRs (rows.take (i + 1)) : Int) = m + 1 := by rw [hsn]; omega
      rw [hs2, ← hs, hb2]
      exact le_keep (by have := hnb2 i; rw [List.length_cons]; omega) (by simp (maxSteps := 8000000) -implicitDefEqProofs (disch := omega) only [↓reduceIte, go_sem, slotsIn])
    · have hb : rows.take i = rows := List.take_of_length_le (by omega)
      have hmf := mkAt_full (k := k) (show rows.length ≤ i by omega)
      have hnb3 := hnb2 i; rw [hmf] at hnb3
      simp (maxSteps := 8000000) -implicitDefEqProofs (disch := omega) only [↓reduceIte, go_sem, eq_false hge, hb, hmf]
      refine joinK_at _ (le_same _ _ (by show nb ≤ List.length (_ :: _); rw [List.length_cons]; omega)) ?_
      simp (maxSteps := 8000000) -implicitDefEqProofs (disch := omega) only [↓reduceIte, go_sem]
      exact endK_same (.inr rfl) (by rw [List.length_cons]; omega) (by simp (maxSteps := 8000000) -implicitDefEqProofs (disch := omega) only [↓reduceIte, go_sem]) rfl
theorem hd_Box_at {c1 : Cell} {c2 : Cell} {c3 : Cell} {c5 : Cell} (hc1 : FitC sh_RuleS c1) (hc2 : FitC sh_PeerS c2) (hc3 : FitC sh_SaS c3) (hc5 : FitC sh_Int64S c5) {k : Int} (hk : 0 ≤ k) (hz : k + (wtC c1 : Int) + (wtC c2 : Int) + (wtC c3 : Int) + (wtC c5 : Int) ≤ 1099511627776) (a0 : Int) (a4 : Int) : hdR_S sh_Box [.agg [.p (.int .i64 a0), fzC (mkC c1 (k)), fzC (mkC c2 (k + (wtC c1 : Int))), fzC (mkC c3 (k + (wtC c1 : Int) + (wtC c2 : Int))), .p (.int .i64 a4), fzC (mkC c5 (k + (wtC c1 : Int) + (wtC c2 : Int) + (wtC c3 : Int)))], .p (.int .i64 k)] = some (.p (.int .i64 (k + (wtC c1 : Int) + (wtC c2 : Int) + (wtC c3 : Int) + (wtC c5 : Int))), []) := by
  have := hdR_at (k := k) (sh_Box_mkFit hc1 hc2 hc3 hc5 a0 a4) hk (by simp only [wtCs, wtC_v]; omega)
  simp only [mkCs, mkC_v, wtC_v, nat0T, Int.add_zero, fzCs, fzC, wtCs, Nat.zero_add, Nat.add_zero] at this
  rw [this]; congr 4; omega
-- laws.heldBox
def c55 : AF := ⟨30,
 (.seq (.reg [rO 2 (.box 34 (.t 0)),
 rO 4 (.mv (.v (.int .i64 0)))])
 (.seq (.reg [rO 5 (.fa (.t 2) 1),
 rO 6 (.ld (.t 5)),
 rO 7 (.mv (.t 1)),
 rO 8 (.call 106 [(.t 6), (.t 7)]),
 rO 1 (.mv (.t 8))])
 (.seq (.seq (.reg [rO 9 (.mv (.t 1)),
 rO 10 (.bin .lss (.t 9) (.v (.int .i64 0)))])
 (.cond (.t 10) (.seq (.reg [rO 4 (.mv (.v (.int .i64 (-1))))])
 .ret)
 .skip))
 (.seq (.reg [rO 11 (.fa (.t 2) 2),
 rO 12 (.ld (.t 11)),
 rO 13 (.mv (.t 1)),
 rO 14 (.call 107 [(.t 12), (.t 13)]),
 rO 1 (.mv (.t 14))])
 (.seq (.seq (.reg [rO 15 (.mv (.t 1)),
 rO 16 (.bin .lss (.t 15) (.v (.int .i64 0)))])
 (.cond (.t 16) (.seq (.reg [rO 4 (.mv (.v (.int .i64 (-1))))])
 .ret)
 .skip))
 (.seq (.reg [rO 17 (.fa (.t 2) 3),
 rO 18 (.ld (.t 17)),
 rO 19 (.mv (.t 1)),
 rO 20 (.call 108 [(.t 18), (.t 19)]),
 rO 1 (.mv (.t 20))])
 (.seq (.seq (.reg [rO 21 (.mv (.t 1)),
 rO 22 (.bin .lss (.t 21) (.v (.int .i64 0)))])
 (.cond (.t 22) (.seq (.reg [rO 4 (.mv (.v (.int .i64 (-1))))])
 .ret)
 .skip))
 (.seq (.reg [rO 23 (.fa (.t 2) 5),
 rO 24 (.ld (.t 23)),
 rO 25 (.mv (.t 1)),
 rO 26 (.call 109 [(.t 24), (.t 25)]),
 rO 1 (.mv (.t 26))])
 (.seq (.seq (.reg [rO 27 (.mv (.t 1)),
 rO 28 (.bin .lss (.t 27) (.v (.int .i64 0)))])
 (.cond (.t 28) (.seq (.reg [rO 4 (.mv (.v (.int .i64 (-1))))])
 .ret)
 .skip))
 (.seq (.reg [rO 29 (.mv (.t 1)),
 rO 4 (.mv (.t 29))])
 .ret)))))))))),
 [.t 4]⟩
theorem k55 : cFn Tryz.prog Tryz.f55 = some c55 := by kernel_rfl
theorem heldBox_ok : OkT Tryz.prog 55 (pureSp (hdR_S sh_Box)) := by
  refine okT_hdR (OkΓT.cons heldRuleS_ok (OkΓT.cons heldPeerS_ok (OkΓT.cons heldSaS_ok (OkΓT.cons heldInt64S_ok (OkΓT.nil _))))) Tryz.func55 (by kernel_rfl) k55 ?_
  intro c k hc h1 hz
  obtain ⟨a0, a4, c1, c2, c3, c5, rfl, hc1, hc2, hc3, hc5⟩ := sh_Box_Fit hc
  simp only [wtCs, wtC_v, Nat.zero_add, Nat.add_zero] at hz ⊢
  simp only [mkCs, mkC_v, wtC_v, nat0T, Int.add_zero, fzCs, fzC]
  (dsimp only [c55, rO]; simp (maxSteps := 8000000) -implicitDefEqProofs (disch := omega) only [↓reduceIte, go_sem, hdC_at hc1 (show 0 ≤ k by omega) (by omega), hdC_at hc2 (show 0 ≤ k + (wtC c1 : Int) by omega) (by omega), hdC_at hc3 (show 0 ≤ k + (wtC c1 : Int) + (wtC c2 : Int) by omega) (by omega), hdC_at hc5 (show 0 ≤ k + (wtC c1 : Int) + (wtC c2 : Int) + (wtC c3 : Int) by omega) (by omega)])
  repeat' first
    | ((first | refine gdKT_deq (fun hg hG => ?_) (fun hg hG => ?_) | refine condKT_deq (fun hg hG => ?_) (fun hg hG => ?_)) <;> (try simp (maxSteps := 8000000) -implicitDefEqProofs (disch := omega) only [↓reduceIte, go_sem, hG, hdC_at hc1 (show 0 ≤ k by omega) (by omega), hdC_at hc2 (show 0 ≤ k + (wtC c1 : Int) by omega) (by omega), hdC_at hc3 (show 0 ≤ k + (wtC c1 : Int) + (wtC c2 : Int) by omega) (by omega), hdC_at hc5 (show 0 ≤ k + (wtC c1 : Int) + (wtC c2 : Int) + (wtC c3 : Int) by omega) (by omega)]) <;> clear hG)
    | ((first | refine gdKT_split (fun hg => ?_) (fun hg => ?_) | refine condKT_split (fun hg => ?_) (fun hg => ?_)) <;> (try simp (maxSteps := 8000000) -implicitDefEqProofs (disch := omega) only [↓reduceIte, go_sem, hg, hdC_at hc1 (show 0 ≤ k by omega) (by omega), hdC_at hc2 (show 0 ≤ k + (wtC c1 : Int) by omega) (by omega), hdC_at hc3 (show 0 ≤ k + (wtC c1 : Int) + (wtC c2 : Int) by omega) (by omega), hdC_at hc5 (show 0 ≤ k + (wtC c1 : Int) + (wtC c2 : Int) + (wtC c3 : Int) by omega) (by omega)]))
    | (refine endT_p (.inr rfl) (by simp (maxSteps := 8000000) -implicitDefEqProofs (disch := omega) only [↓reduceIte, go_sem, hdC_at hc1 (show 0 ≤ k by omega) (by omega), hdC_at hc2 (show 0 ≤ k + (wtC c1 : Int) by omega) (by omega), hdC_at hc3 (show 0 ≤ k + (wtC c1 : Int) + (wtC c2 : Int) by omega) (by omega), hdC_at hc5 (show 0 ≤ k + (wtC c1 : Int) + (wtC c2 : Int) + (wtC c3 : Int) by omega) (by omega)]; rfl) ?_; (first | exact vb_true (by omega) | exact vb_false (by omega) | exact vb_dec (by omega) | exact vi_eq (by omega) | rfl | (refine vi_eq ?_; simp_all; first | done | (intros; omega))))
    | exact endT_v (.inr rfl) (by simp (maxSteps := 8000000) -implicitDefEqProofs (disch := omega) only [↓reduceIte, go_sem, hdC_at hc1 (show 0 ≤ k by omega) (by omega), hdC_at hc2 (show 0 ≤ k + (wtC c1 : Int) by omega) (by omega), hdC_at hc3 (show 0 ≤ k + (wtC c1 : Int) + (wtC c2 : Int) by omega) (by omega), hdC_at hc5 (show 0 ≤ k + (wtC c1 : Int) + (wtC c2 : Int) + (wtC c3 : Int) by omega) (by omega)]; try rfl) (fun _ => rfl)
-- laws.markBox
def c13 : AF := ⟨22,
 (.seq (.reg [rO 2 (.box 34 (.t 0)),
 rO 4 (.mv (.v (.int .i64 0)))])
 (.seq (.reg [rO 5 (.fa (.t 2) 1),
 rO 6 (.ld (.t 5)),
 rO 7 (.mv (.t 1)),
 rO 8 (.call 50 [(.t 6), (.t 7)]),
 rO 1 (.mv (.t 8))])
 (.seq (.reg [rO 9 (.fa (.t 2) 2),
 rO 10 (.ld (.t 9)),
 rO 11 (.mv (.t 1)),
 rO 12 (.call 51 [(.t 10), (.t 11)]),
 rO 1 (.mv (.t 12))])
 (.seq (.reg [rO 13 (.fa (.t 2) 3),
 rO 14 (.ld (.t 13)),
 rO 15 (.mv (.t 1)),
 rO 16 (.call 52 [(.t 14), (.t 15)]),
 rO 1 (.mv (.t 16))])
 (.seq (.reg [rO 17 (.fa (.t 2) 5),
 rO 18 (.ld (.t 17)),
 rO 19 (.mv (.t 1)),
 rO 20 (.call 53 [(.t 18), (.t 19)]),
 rO 1 (.mv (.t 20))])
 (.seq (.reg [rO 21 (.mv (.t 1)),
 rO 4 (.mv (.t 21))])
 .ret)))))),
 [.t 4]⟩
theorem k13 : cFn Tryz.prog Tryz.f13 = some c13 := by kernel_rfl
theorem markBox_ok : OkT Tryz.prog 13 (mkR_Sp sh_Box) := by
  refine okT_mkR (OkΓT.cons markRuleS_ok (OkΓT.cons markPeerS_ok (OkΓT.cons markSaS_ok (OkΓT.cons markInt64S_ok (OkΓT.nil _))))) Tryz.func13 (by kernel_rfl) k13 ?_
  intro c k hc h1 hz
  obtain ⟨a0, a4, c1, c2, c3, c5, rfl, hc1, hc2, hc3, hc5⟩ := sh_Box_Fit hc
  simp only [wtCs, wtC_v, Nat.zero_add, Nat.add_zero] at hz ⊢
  simp only [mkCs, mkC_v, wtC_v, nat0T, Int.add_zero]
  simp only [tvCs, tvC_v, tvC_nl, tvC_sl, nbC, Nat.add_zero, Nat.zero_add]
  generalize hN : nbCs _ = N
  have l0 : (bkCs 0 [.v (.int .i64 a0), c1, c2, c3, .v (.int .i64 a4), c5]).length = N := by rw [bkCs_len]; exact hN
  (dsimp only [c13, rO]; simp (maxSteps := 8000000) -implicitDefEqProofs (disch := omega) only [↓reduceIte, go_sem, l0, get_last l0])
  have m0 := fun X => mk_cell (A := [.v (.int .i64 a0)]) (B := [c2, c3, .v (.int .i64 a4), c5]) (G := [X]) (n := 0) (k := k) (by simp only [nbCs, nbC, mkC_nb] <;> omega) hc1 (by omega) (by omega)
  simp only [List.cons_append, List.nil_append, mkCs, mkC_v, wtCs, wtC_v, nat0T, Int.add_zero, Nat.add_zero, Nat.zero_add, tvCs, tvC_v, tvC_nl, tvC_sl, nbC, natAT, ← Int.add_assoc, mkC_tv, mkC_nb] at m0
  have l1 : (bkCs 0 [.v (.int .i64 a0), (mkC c1 (k)), c2, c3, .v (.int .i64 a4), c5]).length = N := by rw [bkCs_len, ← hN]; simp only [nbCs, mkC_nb]
  refine mutQ_call (by simp (maxSteps := 8000000) -implicitDefEqProofs (disch := omega) only [↓reduceIte, go_sem]; rfl) (by simp (maxSteps := 8000000) -implicitDefEqProofs (disch := omega) only [↓reduceIte, go_sem]) (m0 _) ?_
  simp (maxSteps := 8000000) -implicitDefEqProofs (disch := omega) only [↓reduceIte, go_sem, l1, get_last l1]
  have m1 := fun X => mk_cell (A := [.v (.int .i64 a0), (mkC c1 (k))]) (B := [c3, .v (.int .i64 a4), c5]) (G := [X]) (n := nbC c1) (k := k + (wtC c1 : Int)) (by simp only [nbCs, nbC, mkC_nb] <;> omega) hc2 (by omega) (by omega)
  simp only [List.cons_append, List.nil_append, mkCs, mkC_v, wtCs, wtC_v, nat0T, Int.add_zero, Nat.add_zero, Nat.zero_add, tvCs, tvC_v, tvC_nl, tvC_sl, nbC, natAT, ← Int.add_assoc, mkC_tv, mkC_nb] at m1
  have l2 : (bkCs 0 [.v (.int .i64 a0), (mkC c1 (k)), (mkC c2 (k + (wtC c1 : Int))), c3, .v (.int .i64 a4), c5]).length = N := by rw [bkCs_len, ← hN]; simp only [nbCs, mkC_nb]
  refine mutQ_call (by simp (maxSteps := 8000000) -implicitDefEqProofs (disch := omega) only [↓reduceIte, go_sem]; rfl) (by simp (maxSteps := 8000000) -implicitDefEqProofs (disch := omega) only [↓reduceIte, go_sem]) (m1 _) ?_
  simp (maxSteps := 8000000) -implicitDefEqProofs (disch := omega) only [↓reduceIte, go_sem, l2, get_last l2]
  have m2 := fun X => mk_cell (A := [.v (.int .i64 a0), (mkC c1 (k)), (mkC c2 (k + (wtC c1 : Int)))]) (B := [.v (.int .i64 a4), c5]) (G := [X]) (n := nbC c1 + nbC c2) (k := k + (wtC c1 : Int) + (wtC c2 : Int)) (by simp only [nbCs, nbC, mkC_nb] <;> omega) hc3 (by omega) (by omega)
  simp only [List.cons_append, List.nil_append, mkCs, mkC_v, wtCs, wtC_v, nat0T, Int.add_zero, Nat.add_zero, Nat.zero_add, tvCs, tvC_v, tvC_nl, tvC_sl, nbC, natAT, ← Int.add_assoc, mkC_tv, mkC_nb] at m2
  have l3 : (bkCs 0 [.v (.int .i64 a0), (mkC c1 (k)), (mkC c2 (k + (wtC c1 : Int))), (mkC c3 (k + (wtC c1 : Int) + (wtC c2 : Int))), .v (.int .i64 a4), c5]).length = N := by rw [bkCs_len, ← hN]; simp only [nbCs, mkC_nb]
  refine mutQ_call (by simp (maxSteps := 8000000) -implicitDefEqProofs (disch := omega) only [↓reduceIte, go_sem]; rfl) (by simp (maxSteps := 8000000) -implicitDefEqProofs (disch := omega) only [↓reduceIte, go_sem]) (m2 _) ?_
  simp (maxSteps := 8000000) -implicitDefEqProofs (disch := omega) only [↓reduceIte, go_sem, l3, get_last l3]
  have m3 := fun X => mk_cell (A := [.v (.int .i64 a0), (mkC c1 (k)), (mkC c2 (k + (wtC c1 : Int))), (mkC c3 (k + (wtC c1 : Int) + (wtC c2 : Int))), .v (.int .i64 a4)]) (B := []) (G := [X]) (n := nbC c1 + nbC c2 + nbC c3) (k := k + (wtC c1 : Int) + (wtC c2 : Int) + (wtC c3 : Int)) (by simp only [nbCs, nbC, mkC_nb] <;> omega) hc5 (by omega) (by omega)
  simp only [List.cons_append, List.nil_append, mkCs, mkC_v, wtCs, wtC_v, nat0T, Int.add_zero, Nat.add_zero, Nat.zero_add, tvCs, tvC_v, tvC_nl, tvC_sl, nbC, natAT, ← Int.add_assoc, mkC_tv, mkC_nb] at m3
  have l4 : (bkCs 0 [.v (.int .i64 a0), (mkC c1 (k)), (mkC c2 (k + (wtC c1 : Int))), (mkC c3 (k + (wtC c1 : Int) + (wtC c2 : Int))), .v (.int .i64 a4), (mkC c5 (k + (wtC c1 : Int) + (wtC c2 : Int) + (wtC c3 : Int)))]).length = N := by rw [bkCs_len, ← hN]; simp only [nbCs, mkC_nb]
  refine mutQ_call (by simp (maxSteps := 8000000) -implicitDefEqProofs (disch := omega) only [↓reduceIte, go_sem]; rfl) (by simp (maxSteps := 8000000) -implicitDefEqProofs (disch := omega) only [↓reduceIte, go_sem]) (m3 _) ?_
  simp (maxSteps := 8000000) -implicitDefEqProofs (disch := omega) only [↓reduceIte, go_sem, l4, get_last l4]
  exact endK_cells (.inr rfl) (by rw [← hN]; simp only [nbCs, mkC_nb]; omega) (by (simp (maxSteps := 8000000) -implicitDefEqProofs (disch := omega) only [↓reduceIte, go_sem, natAT, ← Int.add_assoc]) <;> rfl) rfl
def sh_ByteS : Shp := .sl 5 [.i .u8]
-- laws.eqByteS
def c25 : AF := ⟨26,
 (.seq (.reg [rO 4 (.mv (.v (.bool false)))])
 (.seq (.seq (.reg [rO 6 (.mv (.t 0)),
 rO 7 (.len (.t 6)),
 rO 8 (.mv (.t 1)),
 rO 9 (.len (.t 8)),
 rO 10 (.bin .neq (.t 7) (.t 9))])
 (.cond (.t 10) (.seq (.reg [rO 4 (.mv (.v (.bool false)))])
 .ret)
 .skip))
 (.seq (.seq (.reg [rO 5 (.mv (.v (.int .i64 0)))])
 (.block 0 (.loop (.seq (.seq (.reg [rO 11 (.mv (.t 5)),
 rO 12 (.mv (.t 0)),
 rO 13 (.len (.t 12)),
 rO 14 (.bin .lss (.t 11) (.t 13))])
 (.cond (.t 14) .skip
 (.exit 0)))
 (.seq (.block 1 (.seq (.drw [rO 17 (.mv (.t 0)),
 rO 18 (.mv (.t 5)),
 rO 19 (.ia 1 (.t 17) (.t 18)),
 rO 20 (.ld (.t 19)),
 rO 21 (.mv (.t 1)),
 rO 22 (.mv (.t 5)),
 rO 23 (.ia 1 (.t 21) (.t 22)),
 rO 24 (.ld (.t 23))] [rO 25 (.bin .neq (.t 20) (.t 24))])
 (.cond (.t 25) (.seq (.reg [rO 4 (.mv (.v (.bool false)))])
 .ret)
 .skip)))
 (.reg [rO 15 (.mv (.t 5)),
 rO 16 (.bin .add (.t 15) (.v (.int .i64 1))),
 rO 5 (.mv (.t 16))]))))))
 (.seq (.reg [rO 4 (.mv (.v (.bool true)))])
 .ret)))),
 [.t 4]⟩
theorem k25 : cFn Tryz.prog Tryz.f25 = some c25 := by kernel_rfl
theorem eqByteS_ok : OkT Tryz.prog 25 (pureSp (eqC_S sh_ByteS)) := by
  refine okT_eqC (OkΓT.nil _) Tryz.func25 (by kernel_rfl) k25 ?_
  intro c hc hz
  obtain ⟨rows, hf, hr, hsz, _⟩ := FitC.rows hc
  rw [hf]
  (dsimp only [c25, rO]; simp (maxSteps := 8000000) -implicitDefEqProofs (disch := omega) only [↓reduceIte, go_sem])
  refine awpT_loop (α := Nat) (fun i => ⟨slots [(0, .s (fzRs rows)), (1, .s (fzRs rows)), (5, .p (.int .i64 i))], []⟩) (fun i => i ≤ rows.length) (fun i => rows.length - i) 0 (Nat.zero_le _) (le_of [] (by simp (maxSteps := 8000000) -implicitDefEqProofs (disch := omega) only [↓reduceIte, go_sem]) (by simp (maxSteps := 8000000) -implicitDefEqProofs (disch := omega) only [↓reduceIte, go_sem]) (by decide) (by simp)) ?_
  intro i hi
  simp (maxSteps := 8000000) -implicitDefEqProofs (disch := omega) only [↓reduceIte, go_sem]
  refine condKT_dec (fun hlt => ?_) (fun hge => ?_)
  · obtain ⟨r, hx⟩ := get_ex (l := rows) (i := i) (by omega)
    have hrr := hr r (List.mem_of_getElem? hx)
    have hzr := szRs_mem hx
    have hg := fzRs_get hx
    obtain ⟨_, _, rfl, ⟨a0, rfl⟩, hrr⟩ := hrr; simp only [FitR] at hrr; subst hrr
    simp only [szCs, szC] at hzr
    simp only [fzCs, fzC, el_one, el_two] at hg
    simp (maxSteps := 8000000) -implicitDefEqProofs (disch := omega) only [↓reduceIte, go_sem, eq_true hlt, hg, not_true, decide_false]
    refine loopKT_next (i + 1) (by omega) (by omega) ?_
    exact (le_of [] (by simp (maxSteps := 8000000) -implicitDefEqProofs (disch := omega) only [↓reduceIte, go_sem]) (by simp (maxSteps := 8000000) -implicitDefEqProofs (disch := omega) only [↓reduceIte, go_sem]) (by decide) (by simp))
  · simp (maxSteps := 8000000) -implicitDefEqProofs (disch := omega) only [↓reduceIte, go_sem, eq_false hge]
    refine joinK_here ?_
    simp (maxSteps := 8000000) -implicitDefEqProofs (disch := omega) only [↓reduceIte, go_sem]
    repeat' first
      | ((first | refine gdKT_deq (fun hg hG => ?_) (fun hg hG => ?_) | refine condKT_deq (fun hg hG => ?_) (fun hg hG => ?_)) <;> (try simp (maxSteps := 8000000) -implicitDefEqProofs (disch := omega) only [↓reduceIte, go_sem, hG]) <;> clear hG)
      | ((first | refine gdKT_split (fun hg => ?_) (fun hg => ?_) | refine condKT_split (fun hg => ?_) (fun hg => ?_)) <;> (try simp (maxSteps := 8000000) -implicitDefEqProofs (disch := omega) only [↓reduceIte, go_sem, hg]))
      | (refine endT_p (.inr rfl) (by simp (maxSteps := 8000000) -implicitDefEqProofs (disch := omega) only [↓reduceIte, go_sem]; rfl) ?_; (first | exact vb_true (by omega) | exact vb_false (by omega) | exact vb_dec (by omega) | exact vi_eq (by omega) | rfl | (refine vi_eq ?_; simp_all; first | done | (intros; omega))))
      | exact endT_v (.inr rfl) (by simp (maxSteps := 8000000) -implicitDefEqProofs (disch := omega) only [↓reduceIte, go_sem]; try rfl) (fun _ => rfl)
-- laws.heldByteS
def c54 : AF := ⟨22,
 (.seq (.reg [rO 4 (.mv (.v (.int .i64 0)))])
 (.seq (.seq (.reg [rO 5 (.mv (.v (.int .i64 0)))])
 (.block 0 (.loop (.seq (.seq (.reg [rO 6 (.mv (.t 5)),
 rO 7 (.mv (.t 0)),
 rO 8 (.len (.t 7)),
 rO 9 (.bin .lss (.t 6) (.t 8))])
 (.cond (.t 9) .skip
 (.exit 0)))
 (.seq (.block 1 (.seq (.seq (.reg [rO 12 (.mv (.t 0)),
 rO 13 (.mv (.t 5)),
 rO 14 (.ia 1 (.t 12) (.t 13)),
 rO 15 (.ld (.t 14)),
 rO 16 (.mv (.t 1)),
 rO 17 (.cvI .u8 (.t 16)),
 rO 18 (.bin .neq (.t 15) (.t 17))])
 (.cond (.t 18) (.seq (.reg [rO 4 (.mv (.v (.int .i64 (-1))))])
 .ret)
 .skip))
 (.reg [rO 19 (.mv (.t 1)),
 rO 20 (.bin .add (.t 19) (.v (.int .i64 1))),
 rO 1 (.mv (.t 20))])))
 (.reg [rO 10 (.mv (.t 5)),
 rO 11 (.bin .add (.t 10) (.v (.int .i64 1))),
 rO 5 (.mv (.t 11))]))))))
 (.seq (.reg [rO 21 (.mv (.t 1)),
 rO 4 (.mv (.t 21))])
 .ret))),
 [.t 4]⟩
theorem k54 : cFn Tryz.prog Tryz.f54 = some c54 := by kernel_rfl
theorem heldByteS_ok : OkT Tryz.prog 54 (pureSp (hdC_S sh_ByteS)) := by
  refine okT_hdC (OkΓT.nil _) Tryz.func54 (by kernel_rfl) k54 ?_
  intro c k hc h1 hz
  obtain ⟨rows, _, hr, _, hwt, hf⟩ := FitC.rows hc
  rw [hwt] at hz ⊢; rw [hf]
  have hlw : rows.length ≤ wtRs rows := wtRs_rows fun r hx => by
    have hrr := hr r hx
    obtain ⟨_, _, rfl, ⟨a0, rfl⟩, hrr⟩ := hrr; simp only [FitR] at hrr; subst hrr
    simp only [wtIs, wtI]; omega
  (dsimp only [c54, rO]; simp (maxSteps := 8000000) -implicitDefEqProofs (disch := omega) only [↓reduceIte, go_sem])
  refine awpT_loop (α := Nat) (fun i => ⟨slots [(0, .s (fzRs (mkRs rows k))), (1, .p (.int .i64 (k + (wtRs (rows.take i) : Int)))), (5, .p (.int .i64 i))], []⟩) (fun i => i ≤ rows.length) (fun i => rows.length - i) 0 (Nat.zero_le _) (by simp only [List.take_zero, wtRs, nat0T, Int.add_zero]; exact (le_of [] (by simp (maxSteps := 8000000) -implicitDefEqProofs (disch := omega) only [↓reduceIte, go_sem]) (by simp (maxSteps := 8000000) -implicitDefEqProofs (disch := omega) only [↓reduceIte, go_sem]) (by decide) (by simp))) ?_
  intro i hi
  simp (maxSteps := 8000000) -implicitDefEqProofs (disch := omega) only [↓reduceIte, go_sem]
  refine condKT_dec (fun hlt => ?_) (fun hge => ?_)
  · obtain ⟨r, hx⟩ := get_ex (l := rows) (i := i) (by omega)
    have hrr := hr r (List.mem_of_getElem? hx)
    have hwr := wtRs_mem hx; have hsn := wtRs_snoc hx
    have hg := fzRs_get (mkRs_get (k := k) hx)
    generalize hm : k + (wtRs (rows.take i) : Int) = m at *
    obtain ⟨_, _, rfl, ⟨a0, rfl⟩, hrr⟩ := hrr; simp only [FitR] at hrr; subst hrr
    simp only [wtIs, wtI, Nat.add_zero] at hwr hsn
    simp only [mkIs, mkI, mkV, wtI, nat1T, fzCs, fzC, el_one, el_two] at hg
    simp (maxSteps := 8000000) -implicitDefEqProofs (disch := omega) only [↓reduceIte, go_sem, eq_true hlt, hg, dec_self, Bool.not_true, not_true, decide_false]
    refine loopKT_next (i + 1) (by omega) (by omega) ?_
    have hs2 : k + (wtRs (rows.take (i + 1)) : Int) = m + 1 := by rw [hsn]; omega
    exact (le_of [] (by simp (maxSteps := 8000000) -implicitDefEqProofs (disch := omega) only [↓reduceIte, go_sem, hs2]) (by simp (maxSteps := 8000000) -implicitDefEqProofs (disch := omega) only [↓reduceIte, go_sem, hs2]) (by decide) (by simp))
  · have hb : rows.take i = rows := List.take_of_length_le (by omega)
    simp (maxSteps := 8000000) -implicitDefEqProofs (disch := omega) only [↓reduceIte, go_sem, eq_false hge, hb]
    refine joinK_here ?_
    simp (maxSteps := 8000000) -implicitDefEqProofs (disch := omega) only [↓reduceIte, go_sem]
    repeat' first
      | ((first | refine gdKT_deq (fun hg hG => ?_) (fun hg hG => ?_) | refine condKT_deq (fun hg hG => ?_) (fun hg hG => ?_)) <;> (try simp (maxSteps := 8000000) -implicitDefEqProofs (disch := omega) only [↓reduceIte, go_sem, hG]) <;> clear hG)
      | ((first | refine gdKT_split (fun hg => ?_) (fun hg => ?_) | refine condKT_split (fun hg => ?_) (fun hg => ?_)) <;> (try simp (maxSteps := 8000000) -implicitDefEqProofs (disch := omega) only [↓reduceIte, go_sem, hg]))
      | (refine endT_p (.inr rfl) (by simp (maxSteps := 8000000) -implicitDefEqProofs (disch := omega) only [↓reduceIte, go_sem]; rfl) ?_; (first | exact vb_true (by omega) | exact vb_false (by omega) | exact vb_dec (by omega) | exact vi_eq (by omega) | rfl | (refine vi_eq ?_; simp_all; first | done | (intros; omega))))
      | exact endT_v (.inr rfl) (by simp (maxSteps := 8000000) -implicitDefEqProofs (disch := omega) only [↓reduceIte, go_sem]; try rfl) (fun _ => rfl)
-- laws.markByteS
def c26 : AF := ⟨20,
 (.seq (.reg [rO 4 (.mv (.v (.int .i64 0)))])
 (.seq (.seq (.reg [rO 5 (.mv (.v (.int .i64 0)))])
 (.block 0 (.loop (.seq (.seq (.reg [rO 6 (.mv (.t 5)),
 rO 7 (.mv (.t 0)),
 rO 8 (.len (.t 7)),
 rO 9 (.bin .lss (.t 6) (.t 8))])
 (.cond (.t 9) .skip
 (.exit 0)))
 (.seq (.block 1 (.seq (.reg [rO 12 (.mv (.t 0)),
 rO 13 (.mv (.t 5)),
 rO 14 (.mv (.t 1)),
 rO 15 (.cvI .u8 (.t 14)),
 rO 16 (.ia 1 (.t 12) (.t 13)),
 ⟨none, none, .st 1 (.t 16) (.t 15)⟩])
 (.reg [rO 17 (.mv (.t 1)),
 rO 18 (.bin .add (.t 17) (.v (.int .i64 1))),
 rO 1 (.mv (.t 18))])))
 (.reg [rO 10 (.mv (.t 5)),
 rO 11 (.bin .add (.t 10) (.v (.int .i64 1))),
 rO 5 (.mv (.t 11))]))))))
 (.seq (.reg [rO 19 (.mv (.t 1)),
 rO 4 (.mv (.t 19))])
 .ret))),
 [.t 4]⟩
theorem k26 : cFn Tryz.prog Tryz.f26 = some c26 := by kernel_rfl
theorem markByteS_ok : OkT Tryz.prog 26 (mkC_Sp sh_ByteS) := by
  refine okT_mkC (OkΓT.nil _) Tryz.func26 (by kernel_rfl) k26 ?_
  intro c k hc h1 hz
  simp only [sh_ByteS, FitC] at hc
  rcases hc with rfl | ⟨z, rows, rfl, hz0, hr⟩
  · simp only [wtC, mkC, nbC, tvC_v, tvC_nl, tvC_sl, bkC, nat0T, Int.add_zero] at *
    (dsimp only [c26, rO]; simp (maxSteps := 8000000) -implicitDefEqProofs (disch := omega) only [↓reduceIte, go_sem])
    refine awpT_loop (α := Unit) (fun _ => ⟨slots [(0, .nl), (1, .p (.int .i64 k)), (5, .p (.int .i64 0))], []⟩) (fun _ => True) (fun _ => 0) () trivial (le_keep (Nat.zero_le _) (by simp (maxSteps := 8000000) -implicitDefEqProofs (disch := omega) only [↓reduceIte, go_sem, slotsIn])) ?_
    intro _ _
    simp (maxSteps := 8000000) -implicitDefEqProofs (disch := omega) only [↓reduceIte, go_sem]
    refine joinK_at _ (le_same _ _ (Nat.zero_le _)) ?_
    simp (maxSteps := 8000000) -implicitDefEqProofs (disch := omega) only [↓reduceIte, go_sem]
    exact endK_same (.inr rfl) (Nat.zero_le _) (by simp (maxSteps := 8000000) -implicitDefEqProofs (disch := omega) only [↓reduceIte, go_sem]) rfl
  · simp only [wtC] at hz ⊢
    have hlw : rows.length ≤ wtRs rows := wtRs_rows fun r hx => by
      have hrr := hr r hx
      obtain ⟨_, _, rfl, ⟨a0, rfl⟩, hrr⟩ := hrr; simp only [FitR] at hrr; subst hrr
      simp only [wtIs, wtI]; omega
    simp only [tvC_v, tvC_nl, tvC_sl, bkC, mkC, Nat.zero_add]
    generalize hnb : nbC _ = nb
    simp only [nbC] at hnb
    have hnb2 : ∀ i, nb = (bkRs 1 (mkAt rows k i)).length + 1 := fun i => by
      have := mkRs_nb (rows.take i) k; have h2 := nbRs_app (rows.take i) (rows.drop i)
      rw [List.take_append_drop] at h2; rw [bkRs_len, mkAt, nbRs_app]; omega
    (dsimp only [c26, rO]; simp (maxSteps := 8000000) -implicitDefEqProofs (disch := omega) only [↓reduceIte, go_sem])
    refine awpT_loop (α := Nat) (fun i => ⟨slots [(0, .os 0 0 rows.length), (1, .p (.int .i64 (k + (wtRs (rows.take i) : Int)))), (5, .p (.int .i64 i))], .cells 5 z (tvRs 1 (mkAt rows k i)) :: bkRs 1 (mkAt rows k i)⟩)
      (fun i => i ≤ rows.length) (fun i => rows.length - i) 0 (Nat.zero_le _) (by simp only [mkAt_zero, List.take_zero, wtRs, nat0T, Int.add_zero]; exact le_keep (by have := hnb2 0; rw [mkAt_zero] at this; rw [List.length_cons]; omega) (by simp (maxSteps := 8000000) -implicitDefEqProofs (disch := omega) only [↓reduceIte, go_sem, slotsIn])) ?_
    intro i hi
    have hl1 : (tvRs 1 (mkAt rows k i)).length = rows.length := by rw [tvRs_len, mkAt_len]
    simp (maxSteps := 8000000) -implicitDefEqProofs (disch := omega) only [↓reduceIte, go_sem, hl1]
    refine condKT_dec (fun hlt => ?_) (fun hge => ?_)
    · obtain ⟨r, hx⟩ := get_ex (l := rows) (i := i) (by omega)
      obtain rfl : z = 1 := by rcases hz0 with h | h; (rw [h] at hx; simp at hx); exact h
      have hrr := hr r (List.mem_of_getElem? hx)
      have hwr := wtRs_mem hx; have hsn := wtRs_snoc hx
      have hg := mkAt_get 1 (k := k) hx; have hs := mkAt_set 1 (k := k) hx
      generalize hm : k + (wtRs (rows.take i) : Int) = m at *
      obtain ⟨_, _, rfl, ⟨a0, rfl⟩, hrr⟩ := hrr; simp only [FitR] at hrr; subst hrr
      simp only [wtIs, wtI, Nat.add_zero] at hwr hsn
      simp only [mkIs, mkI, mkV, wtI, nat1T, tvCs, tvC_v, tvC_nl, tvC_sl, nbC, Nat.add_zero, mkC_tv, el_one, el_two] at hg hs
      have hb2 : bkRs 1 (mkAt rows k (i + 1)) = bkRs 1 (mkAt rows k i) := by rw [mkAt_bkn 1 hx, mkAt_bk 1 hx]; rfl
      simp (maxSteps := 8000000) -implicitDefEqProofs (disch := omega) only [↓reduceIte, go_sem, hl1, hg, List.getElem?_set_self, List.set_set]
      refine loopKT_next (i + 1) (by omega) (by omega) ?_
      have hs2 : k + (wtRs (rows.take (i + 1)) : Int) = m + 1 := by rw [hsn]; omega
      rw [hs2, ← hs, hb2]
      exact le_keep (by have := hnb2 i; rw [List.length_cons]; omega) (by simp (maxSteps := 8000000) -implicitDefEqProofs (disch := omega) only [↓reduceIte, go_sem, slotsIn])
    · have hb : rows.take i = rows := List.take_of_length_le (by omega)
      have hmf := mkAt_full (k := k) (show rows.length ≤ i by omega)
      have hnb3 := hnb2 i; rw [hmf] at hnb3
      simp (maxSteps := 8000000) -implicitDefEqProofs (disch := omega) only [↓reduceIte, go_sem, eq_false hge, hb, hmf]
      refine joinK_at _ (le_same _ _ (by show nb ≤ List.length (_ :: _); rw [List.length_cons]; omega)) ?_
      simp (maxSteps := 8000000) -implicitDefEqProofs (disch := omega) only [↓reduceIte, go_sem]
      exact endK_same (.inr rfl) (by rw [List.length_cons]; omega) (by simp (maxSteps := 8000000) -implicitDefEqProofs (disch := omega) only [↓reduceIte, go_sem]) rfl
/-! BoxResult -/
def sh_BoxResult : List Shp := [.i .i64, .i .i64, .i .i64, sh_ByteS, .i .i64, sh_RuleS, sh_PeerS, sh_SaS, .i .i64, sh_Int64S]
theorem sh_BoxResult_Fit {cs : List Cell} (h : FitR sh_BoxResult cs) : ∃ (a0 : Int) (a1 : Int) (a2 : Int) (a4 : Int) (a8 : Int) (c3 : Cell) (c5 : Cell) (c6 : Cell) (c7 : Cell) (c9 : Cell), cs = [.v (.int .i64 a0), .v (.int .i64 a1), .v (.int .i64 a2), c3, .v (.int .i64 a4), c5, c6, c7, .v (.int .i64 a8), c9] ∧ FitC sh_ByteS c3 ∧ FitC sh_RuleS c5 ∧ FitC sh_PeerS c6 ∧ FitC sh_SaS c7 ∧ FitC sh_Int64S c9 := by
  obtain ⟨_, _, rfl, ⟨a0, rfl⟩, _, _, rfl, ⟨a1, rfl⟩, _, _, rfl, ⟨a2, rfl⟩, c3, _, rfl, hc3, _, _, rfl, ⟨a4, rfl⟩, c5, _, rfl, hc5, c6, _, rfl, hc6, c7, _, rfl, hc7, _, _, rfl, ⟨a8, rfl⟩, c9, _, rfl, hc9, h⟩ := h
  simp only [FitR] at h; subst h
  exact ⟨a0, a1, a2, a4, a8, c3, c5, c6, c7, c9, rfl, hc3, hc5, hc6, hc7, hc9⟩
theorem sh_BoxResult_mkFit {c3 : Cell} {c5 : Cell} {c6 : Cell} {c7 : Cell} {c9 : Cell} (hc3 : FitC sh_ByteS c3) (hc5 : FitC sh_RuleS c5) (hc6 : FitC sh_PeerS c6) (hc7 : FitC sh_SaS c7) (hc9 : FitC sh_Int64S c9) (a0 : Int) (a1 : Int) (a2 : Int) (a4 : Int) (a8 : Int) : FitR sh_BoxResult [.v (.int .i64 a0), .v (.int .i64 a1), .v (.int .i64 a2), c3, .v (.int .i64 a4), c5, c6, c7, .v (.int .i64 a8), c9] := by
  exact ⟨_, _, rfl, ⟨_, rfl⟩, _, _, rfl, ⟨_, rfl⟩, _, _, rfl, ⟨_, rfl⟩, _, _, rfl, hc3, _, _, rfl, ⟨_, rfl⟩, _, _, rfl, hc5, _, _, rfl, hc6, _, _, rfl, hc7, _, _, rfl, ⟨_, rfl⟩, _, _, rfl, hc9, rfl⟩
-- laws.eqBoxResult
def c11 : AF := ⟨32,
 (.seq (.reg [rO 2 (.box 36 (.t 0)),
 rO 3 (.box 36 (.t 1)),
 rO 4 (.mv (.v (.bool false)))])
 (.seq (.seq (.reg [rO 5 (.fa (.t 2) 0),
 rO 6 (.ld (.t 5)),
 rO 7 (.fa (.t 3) 0),
 rO 8 (.ld (.t 7)),
 rO 9 (.bin .neq (.t 6) (.t 8))])
 (.cond (.t 9) (.seq (.reg [rO 4 (.mv (.v (.bool false)))])
 .ret)
 .skip))
 (.seq (.seq (.reg [rO 10 (.fa (.t 2) 1),
 rO 11 (.ld (.t 10)),
 rO 12 (.fa (.t 3) 1),
 rO 13 (.ld (.t 12)),
 rO 14 (.bin .neq (.t 11) (.t 13))])
 (.cond (.t 14) (.seq (.reg [rO 4 (.mv (.v (.bool false)))])
 .ret)
 .skip))
 (.seq (.seq (.reg [rO 15 (.fa (.t 2) 2),
 rO 16 (.ld (.t 15)),
 rO 17 (.fa (.t 3) 2),
 rO 18 (.ld (.t 17)),
 rO 19 (.bin .neq (.t 16) (.t 18))])
 (.cond (.t 19) (.seq (.reg [rO 4 (.mv (.v (.bool false)))])
 .ret)
 .skip))
 (.seq (.seq (.reg [rO 20 (.fa (.t 2) 3),
 rO 21 (.ld (.t 20)),
 rO 22 (.fa (.t 3) 3),
 rO 23 (.ld (.t 22)),
 rO 24 (.call 25 [(.t 21), (.t 23)]),
 rO 25 (.un .not (.t 24))])
 (.cond (.t 25) (.seq (.reg [rO 4 (.mv (.v (.bool false)))])
 .ret)
 .skip))
 (.seq (.seq (.reg [rO 26 (.fa (.t 2) 4),
 rO 27 (.ldn 6 (.t 26)),
 rO 28 (.fa (.t 3) 4),
 rO 29 (.ldn 6 (.t 28)),
 rO 30 (.call 12 [(.t 27), (.t 29)]),
 rO 31 (.un .not (.t 30))])
 (.cond (.t 31) (.seq (.reg [rO 4 (.mv (.v (.bool false)))])
 .ret)
 .skip))
 (.seq (.reg [rO 4 (.mv (.v (.bool true)))])
 .ret))))))),
 [.t 4]⟩
theorem k11 : cFn Tryz.prog Tryz.f11 = some c11 := by kernel_rfl
theorem eqBoxResult_ok : OkT Tryz.prog 11 (pureSp (eqR_S sh_BoxResult)) := by
  refine okT_eqR (OkΓT.cons eqByteS_ok (OkΓT.cons eqBox_ok (OkΓT.nil _))) Tryz.func11 (by kernel_rfl) k11 ?_
  intro c hc hz
  obtain ⟨a0, a1, a2, a4, a8, c3, c5, c6, c7, c9, rfl, hc3, hc5, hc6, hc7, hc9⟩ := sh_BoxResult_Fit hc
  simp only [szCs, szC] at hz
  simp only [fzCs, fzC]
  (dsimp only [c11, rO]; simp (maxSteps := 8000000) -implicitDefEqProofs (disch := omega) only [↓reduceIte, go_sem, eqC_at hc3 (by omega), eq_Box_at hc5 hc6 hc7 hc9 (by omega)])
  repeat' first
    | ((first | refine gdKT_deq (fun hg hG => ?_) (fun hg hG => ?_) | refine condKT_deq (fun hg hG => ?_) (fun hg hG => ?_)) <;> (try simp (maxSteps := 8000000) -implicitDefEqProofs (disch := omega) only [↓reduceIte, go_sem, hG, eqC_at hc3 (by omega), eq_Box_at hc5 hc6 hc7 hc9 (by omega)]) <;> clear hG)
    | ((first | refine gdKT_split (fun hg => ?_) (fun hg => ?_) | refine condKT_split (fun hg => ?_) (fun hg => ?_)) <;> (try simp (maxSteps := 8000000) -implicitDefEqProofs (disch := omega) only [↓reduceIte, go_sem, hg, eqC_at hc3 (by omega), eq_Box_at hc5 hc6 hc7 hc9 (by omega)]))
    | (refine endT_p (.inr rfl) (by simp (maxSteps := 8000000) -implicitDefEqProofs (disch := omega) only [↓reduceIte, go_sem, eqC_at hc3 (by omega), eq_Box_at hc5 hc6 hc7 hc9 (by omega)]; rfl) ?_; (first | exact vb_true (by omega) | exact vb_false (by omega) | exact vb_dec (by omega) | exact vi_eq (by omega) | rfl | (refine vi_eq ?_; simp_all; first | done | (intros; omega))))
    | exact endT_v (.inr rfl) (by simp (maxSteps := 8000000) -implicitDefEqProofs (disch := omega) only [↓reduceIte, go_sem, eqC_at hc3 (by omega), eq_Box_at hc5 hc6 hc7 hc9 (by omega)]; try rfl) (fun _ => rfl)
-- laws.heldBoxResult
def c15 : AF := ⟨18,
 (.seq (.reg [rO 2 (.box 36 (.t 0)),
 rO 4 (.mv (.v (.int .i64 0)))])
 (.seq (.reg [rO 5 (.fa (.t 2) 3),
 rO 6 (.ld (.t 5)),
 rO 7 (.mv (.t 1)),
 rO 8 (.call 54 [(.t 6), (.t 7)]),
 rO 1 (.mv (.t 8))])
 (.seq (.seq (.reg [rO 9 (.mv (.t 1)),
 rO 10 (.bin .lss (.t 9) (.v (.int .i64 0)))])
 (.cond (.t 10) (.seq (.reg [rO 4 (.mv (.v (.int .i64 (-1))))])
 .ret)
 .skip))
 (.seq (.reg [rO 11 (.fa (.t 2) 4),
 rO 12 (.ldn 6 (.t 11)),
 rO 13 (.mv (.t 1)),
 rO 14 (.call 55 [(.t 12), (.t 13)]),
 rO 1 (.mv (.t 14))])
 (.seq (.seq (.reg [rO 15 (.mv (.t 1)),
 rO 16 (.bin .lss (.t 15) (.v (.int .i64 0)))])
 (.cond (.t 16) (.seq (.reg [rO 4 (.mv (.v (.int .i64 (-1))))])
 .ret)
 .skip))
 (.seq (.reg [rO 17 (.mv (.t 1)),
 rO 4 (.mv (.t 17))])
 .ret)))))),
 [.t 4]⟩
theorem k15 : cFn Tryz.prog Tryz.f15 = some c15 := by kernel_rfl
theorem heldBoxResult_ok : OkT Tryz.prog 15 (pureSp (hdR_S sh_BoxResult)) := by
  refine okT_hdR (OkΓT.cons heldByteS_ok (OkΓT.cons heldBox_ok (OkΓT.nil _))) Tryz.func15 (by kernel_rfl) k15 ?_
  intro c k hc h1 hz
  obtain ⟨a0, a1, a2, a4, a8, c3, c5, c6, c7, c9, rfl, hc3, hc5, hc6, hc7, hc9⟩ := sh_BoxResult_Fit hc
  simp only [wtCs, wtC_v, Nat.zero_add, Nat.add_zero] at hz ⊢
  simp only [mkCs, mkC_v, wtC_v, nat0T, Int.add_zero, fzCs, fzC]
  (dsimp only [c15, rO]; simp (maxSteps := 8000000) -implicitDefEqProofs (disch := omega) only [↓reduceIte, go_sem, hdC_at hc3 (show 0 ≤ k by omega) (by omega), hd_Box_at hc5 hc6 hc7 hc9 (show 0 ≤ k + (wtC c3 : Int) by omega) (by omega)])
  repeat' first
    | ((first | refine gdKT_deq (fun hg hG => ?_) (fun hg hG => ?_) | refine condKT_deq (fun hg hG => ?_) (fun hg hG => ?_)) <;> (try simp (maxSteps := 8000000) -implicitDefEqProofs (disch := omega) only [↓reduceIte, go_sem, hG, hdC_at hc3 (show 0 ≤ k by omega) (by omega), hd_Box_at hc5 hc6 hc7 hc9 (show 0 ≤ k + (wtC c3 : Int) by omega) (by omega)]) <;> clear hG)
    | ((first | refine gdKT_split (fun hg => ?_) (fun hg => ?_) | refine condKT_split (fun hg => ?_) (fun hg => ?_)) <;> (try simp (maxSteps := 8000000) -implicitDefEqProofs (disch := omega) only [↓reduceIte, go_sem, hg, hdC_at hc3 (show 0 ≤ k by omega) (by omega), hd_Box_at hc5 hc6 hc7 hc9 (show 0 ≤ k + (wtC c3 : Int) by omega) (by omega)]))
    | (refine endT_p (.inr rfl) (by simp (maxSteps := 8000000) -implicitDefEqProofs (disch := omega) only [↓reduceIte, go_sem, hdC_at hc3 (show 0 ≤ k by omega) (by omega), hd_Box_at hc5 hc6 hc7 hc9 (show 0 ≤ k + (wtC c3 : Int) by omega) (by omega)]; rfl) ?_; (first | exact vb_true (by omega) | exact vb_false (by omega) | exact vb_dec (by omega) | exact vi_eq (by omega) | rfl | (refine vi_eq ?_; simp_all; first | done | (intros; omega))))
    | exact endT_v (.inr rfl) (by simp (maxSteps := 8000000) -implicitDefEqProofs (disch := omega) only [↓reduceIte, go_sem, hdC_at hc3 (show 0 ≤ k by omega) (by omega), hd_Box_at hc5 hc6 hc7 hc9 (show 0 ≤ k + (wtC c3 : Int) by omega) (by omega)]; try rfl) (fun _ => rfl)
-- laws.markBoxResult
def c14 : AF := ⟨14,
 (.seq (.reg [rO 2 (.box 36 (.t 0)),
 rO 4 (.mv (.v (.int .i64 0)))])
 (.seq (.reg [rO 5 (.fa (.t 2) 3),
 rO 6 (.ld (.t 5)),
 rO 7 (.mv (.t 1)),
 rO 8 (.call 26 [(.t 6), (.t 7)]),
 rO 1 (.mv (.t 8))])
 (.seq (.reg [rO 9 (.fa (.t 2) 4),
 rO 10 (.ldn 6 (.t 9)),
 rO 11 (.mv (.t 1)),
 rO 12 (.call 13 [(.t 10), (.t 11)]),
 rO 1 (.mv (.t 12))])
 (.seq (.reg [rO 13 (.mv (.t 1)),
 rO 4 (.mv (.t 13))])
 .ret)))),
 [.t 4]⟩
theorem k14 : cFn Tryz.prog Tryz.f14 = some c14 := by kernel_rfl
theorem markBoxResult_ok : OkT Tryz.prog 14 (mkR_Sp sh_BoxResult) := by
  refine okT_mkR (OkΓT.cons markByteS_ok (OkΓT.cons markBox_ok (OkΓT.nil _))) Tryz.func14 (by kernel_rfl) k14 ?_
  intro c k hc h1 hz
  obtain ⟨a0, a1, a2, a4, a8, c3, c5, c6, c7, c9, rfl, hc3, hc5, hc6, hc7, hc9⟩ := sh_BoxResult_Fit hc
  simp only [wtCs, wtC_v, Nat.zero_add, Nat.add_zero] at hz ⊢
  simp only [mkCs, mkC_v, wtC_v, nat0T, Int.add_zero]
  simp only [tvCs, tvC_v, tvC_nl, tvC_sl, nbC, Nat.add_zero, Nat.zero_add]
  generalize hN : nbCs _ = N
  have l0 : (bkCs 0 [.v (.int .i64 a0), .v (.int .i64 a1), .v (.int .i64 a2), c3, .v (.int .i64 a4), c5, c6, c7, .v (.int .i64 a8), c9]).length = N := by rw [bkCs_len]; exact hN
  (dsimp only [c14, rO]; simp (maxSteps := 8000000) -implicitDefEqProofs (disch := omega) only [↓reduceIte, go_sem, l0, get_last l0])
  have m0 := fun X => mk_cell (A := [.v (.int .i64 a0), .v (.int .i64 a1), .v (.int .i64 a2)]) (B := [.v (.int .i64 a4), c5, c6, c7, .v (.int .i64 a8), c9]) (G := [X]) (n := 0) (k := k) (by simp only [nbCs, nbC, mkC_nb] <;> omega) hc3 (by omega) (by omega)
  simp only [List.cons_append, List.nil_append, mkCs, mkC_v, wtCs, wtC_v, nat0T, Int.add_zero, Nat.add_zero, Nat.zero_add, tvCs, tvC_v, tvC_nl, tvC_sl, nbC, natAT, ← Int.add_assoc, mkC_tv, mkC_nb] at m0
  have l1 : (bkCs 0 [.v (.int .i64 a0), .v (.int .i64 a1), .v (.int .i64 a2), (mkC c3 (k)), .v (.int .i64 a4), c5, c6, c7, .v (.int .i64 a8), c9]).length = N := by rw [bkCs_len, ← hN]; simp only [nbCs, mkC_nb]
  refine mutQ_call (by simp (maxSteps := 8000000) -implicitDefEqProofs (disch := omega) only [↓reduceIte, go_sem]; rfl) (by simp (maxSteps := 8000000) -implicitDefEqProofs (disch := omega) only [↓reduceIte, go_sem]) (m0 _) ?_
  simp (maxSteps := 8000000) -implicitDefEqProofs (disch := omega) only [↓reduceIte, go_sem, l1, get_last l1]
  have m1 := fun X => mk_cells (A := [.v (.int .i64 a0), .v (.int .i64 a1), .v (.int .i64 a2), (mkC c3 (k))]) (c := [.v (.int .i64 a4), c5, c6, c7, .v (.int .i64 a8), c9]) (B := []) (G := [X]) (n := nbC c3) (k := k + (wtC c3 : Int)) (by simp only [nbCs, nbC, mkC_nb] <;> omega) (sh_Box_mkFit hc5 hc6 hc7 hc9 a4 a8) (by omega) (by simp only [wtCs, wtC_v]; omega)
  simp only [List.cons_append, List.nil_append, mkCs, mkC_v, wtCs, wtC_v, nat0T, Int.add_zero, Nat.add_zero, Nat.zero_add, tvCs, tvC_v, tvC_nl, tvC_sl, nbC, natAT, ← Int.add_assoc, mkC_tv, mkC_nb] at m1
  have l2 : (bkCs 0 [.v (.int .i64 a0), .v (.int .i64 a1), .v (.int .i64 a2), (mkC c3 (k)), .v (.int .i64 a4), (mkC c5 (k + (wtC c3 : Int))), (mkC c6 (k + (wtC c3 : Int) + (wtC c5 : Int))), (mkC c7 (k + (wtC c3 : Int) + (wtC c5 : Int) + (wtC c6 : Int))), .v (.int .i64 a8), (mkC c9 (k + (wtC c3 : Int) + (wtC c5 : Int) + (wtC c6 : Int) + (wtC c7 : Int)))]).length = N := by rw [bkCs_len, ← hN]; simp only [nbCs, mkC_nb]
  refine mutQ_call (by simp (maxSteps := 8000000) -implicitDefEqProofs (disch := omega) only [↓reduceIte, go_sem]; rfl) (by simp (maxSteps := 8000000) -implicitDefEqProofs (disch := omega) only [↓reduceIte, go_sem]) (m1 _) ?_
  simp (maxSteps := 8000000) -implicitDefEqProofs (disch := omega) only [↓reduceIte, go_sem, l2, get_last l2]
  exact endK_cells (.inr rfl) (by rw [← hN]; simp only [nbCs, mkC_nb]; omega) (by (simp (maxSteps := 8000000) -implicitDefEqProofs (disch := omega) only [↓reduceIte, go_sem, natAT, ← Int.add_assoc]) <;> rfl) rfl
end Go.Proofs.YtghpdclhhnbgjaaGreat
