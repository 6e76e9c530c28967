import Derived.Test.YtkijbknnbmbnbaaQ2
set_option linter.unusedSimpArgs false
set_option linter.unusedVariables false
set_option maxRecDepth 100000
set_option maxHeartbeats 4000000
namespace Go.Proofs.Ytkijbknnbmbnbaa
open Go Go.AH
attribute [local irreducible] awpT ropsT qopsT stepT condKT gdKT EndT joinK loopKT seqKT blkKT kont kontR
/-! The law of padding -/

theorem padL_padV (D : List Int) (s : Nat) (x : Int) : padV (padL D s x) = (padN D.length s : Int) := by
  unfold padV; rw [padL_len]; unfold padL
  rw [List.getD_eq_getElem?_getD, List.getElem?_append_right (by simp only [List.length_append, runL_len]; omega)]
  rw [show D.length + padN D.length s + 2 - 2 - (D ++ runL (padN D.length s)).length = 0 by simp only [List.length_append, runL_len]; omega]
  rfl
theorem padL_nextV (D : List Int) (s : Nat) (x : Int) : nextV (padL D s x) = x := by
  unfold nextV; rw [padL_len]; unfold padL
  rw [List.getD_eq_getElem?_getD, List.getElem?_append_right (by simp only [List.length_append, runL_len]; omega)]
  rw [show D.length + padN D.length s + 2 - 1 - (D ++ runL (padN D.length s)).length = 1 by simp only [List.length_append, runL_len]; omega]
  rfl
theorem padL_ownV (D : List Int) (s : Nat) (x : Int) : ownV (padL D s x) = D := by
  unfold ownV; rw [padL_padV, padL_len, Int.toNat_natCast, show D.length + padN D.length s + 2 - 2 - padN D.length s = D.length by omega]
  unfold padL; rw [List.append_assoc, List.take_left' rfl]
theorem padL_up (D : List Int) (s : Nat) (x : Int) (h : 1 ≤ s ∧ s ≤ 16) (hl : D.length ≤ 400) : upB (padL D s x) = true := by
  have hp := padL_padV D s x
  have hlen := padL_len D s x
  exact upB_true (by omega) (by omega) (by omega) ⟨s, h.1, h.2, by rw [padL_ownV, padL_nextV]⟩
noncomputable def big_S := specP (fun x : List Int => [.s (bsT x)]) (fun x => True) (fun x => (.p (.bool (decide ((x.length : Int) > 1048576))), []))
theorem big_at (l : List Int) : big_S [.s (bsT l)] = some ((.p (.bool (decide ((l.length : Int) > 1048576))), [])) := specP_at (enc := fun x : List Int => [.s (bsT x)]) (by rintro a0 b0 h; simp only [List.cons.injEq, and_true] at h; have h0 := h; obtain rfl := sby_inj h0; rfl) l trivial
-- laws.lwBig
def c14 : AF := ⟨6,
  (.seq (.reg [⟨(some 2), none, .mv (.v (.bool false))⟩])
  (.seq (.reg [⟨(some 3), none, .mv (.t 0)⟩,
   ⟨(some 4), none, .len (.t 3)⟩,
   ⟨(some 5), none, .bin .gtr (.t 4) (.v (.int .i64 1048576))⟩,
   ⟨(some 2), none, .mv (.t 5)⟩])
  .ret)),
  [.t 2]⟩
theorem k14 : cFn Try.prog Try.f14 = some c14 := by kernel_rfl
theorem big_ok : OkT Try.prog 14 (pureSp big_S) := by
  refine okT_fn (OkΓT.nil _) Try.func14 (by kernel_rfl) k14 (fun x _ => ⟨by first | rfl | simp only [go_sem], by first | rfl | simp only [go_sem]⟩) ?_
  rintro l _
  try dsimp only at *
  have hlen := bs_len l
  (dsimp only [c14]; simp (maxSteps := 8000000) (implicitDefEqProofs := false) (disch := omega) only [↓reduceIte, go_sem, if_pos, if_neg, hlen])
  exact endT_v (.inr rfl) (by (simp (maxSteps := 8000000) (implicitDefEqProofs := false) (disch := omega) only [↓reduceIte, go_sem, if_pos, if_neg]) <;> rfl) (fun _ => rfl)
noncomputable def pads_S := specP (fun x : List Int => [.s (bsT x)]) (fun x => isB x) (fun x => (.p (.bool true), []))
theorem pads_at (l : List Int) (h : isB l) : pads_S [.s (bsT l)] = some ((.p (.bool true), [])) := specP_at (enc := fun x : List Int => [.s (bsT x)]) (by rintro a0 b0 h; simp only [List.cons.injEq, and_true] at h; have h0 := h; obtain rfl := sby_inj h0; rfl) l h
-- laws.FnPads
def c3 : AF := ⟨65,
  (.seq (.reg [⟨(some 2), none, .mv (.v (.bool false))⟩])
  (.seq (.seq (.reg [⟨(some 8), none, .mv (.t 0)⟩,
   ⟨(some 9), none, .call 14 [(.t 8)]⟩])
  (.cond (.t 9) (.seq (.reg [⟨(some 2), none, .mv (.v (.bool true))⟩])
  .ret)
  .skip))
  (.seq (.reg [⟨(some 11), none, .mv (.t 0)⟩,
   ⟨(some 12), none, .call 15 [(.t 11)]⟩,
   ⟨(some 10), none, .mv (.t 12)⟩,
   ⟨(some 13), none, .ext (.t 10) 0⟩,
   ⟨(some 14), none, .ext (.t 10) 1⟩,
   ⟨(some 15), none, .ext (.t 10) 2⟩,
   ⟨(some 3), none, .mv (.t 13)⟩,
   ⟨(some 4), none, .mv (.t 14)⟩,
   ⟨(some 5), none, .mv (.t 15)⟩])
  (.seq (.reg [⟨(some 16), none, .mv (.t 3)⟩,
   ⟨(some 17), none, .mv (.t 4)⟩,
   ⟨(some 18), none, .mv (.t 5)⟩,
   ⟨(some 19), none, .call 16 [(.t 16), (.t 17), (.t 18)]⟩,
   ⟨(some 6), none, .alloc 27 [(.int .i64 0), (.slice none 0 0)]⟩,
   ⟨none, none, .st 2 (.t 6) (.t 19)⟩])
  (.seq (.seq (.reg [⟨(some 20), none, .fa (.t 6) 0⟩,
   ⟨(some 21), none, .ld (.t 20)⟩,
   ⟨(some 22), none, .bin .neq (.t 21) (.v (.int .i64 0))⟩])
  (.cond (.t 22) (.seq (.drw [⟨(some 23), none, .mv (.t 3)⟩,
   ⟨(some 24), none, .mv (.t 4)⟩,
   ⟨(some 25), none, .mv (.t 5)⟩,
   ⟨(some 26), none, .call 17 [(.t 23), (.t 24), (.t 25)]⟩,
   ⟨(some 27), none, .fld (.t 26) 0⟩,
   ⟨(some 28), none, .fa (.t 6) 0⟩,
   ⟨(some 29), none, .ld (.t 28)⟩] [⟨(some 30), none, .bin .eql (.t 27) (.t 29)⟩,
   ⟨(some 2), none, .mv (.t 30)⟩])
  .ret)
  .skip))
  (.seq (.reg [⟨(some 31), none, .fa (.t 6) 1⟩,
   ⟨(some 32), none, .ld (.t 31)⟩,
   ⟨(some 33), none, .call 18 [(.t 32)]⟩,
   ⟨(some 7), none, .alloc 30 [(.int .i64 0), (.slice none 0 0), (.int .i64 0), (.int .i64 0)]⟩,
   ⟨none, none, .st 4 (.t 7) (.t 33)⟩])
  (.seq (.reg [⟨(some 34), none, .fa (.t 6) 1⟩,
   ⟨(some 35), none, .ld (.t 34)⟩,
   ⟨(some 36), none, .len (.t 35)⟩,
   ⟨(some 37), none, .mv (.t 4)⟩,
   ⟨(some 38), none, .bin .rem (.t 36) (.t 37)⟩,
   ⟨(some 39), none, .bin .eql (.t 38) (.v (.int .i64 0))⟩,
   ⟨(some 40), none, .mv (.t 39)⟩,
   ⟨(some 41), (some (40, true)), .fa (.t 7) 0⟩,
   ⟨(some 42), (some (40, true)), .ld (.t 41)⟩,
   ⟨(some 43), (some (40, true)), .bin .eql (.t 42) (.v (.int .i64 0))⟩,
   ⟨(some 44), none, .pick (.t 40) (.t 43) (.v (.bool false))⟩,
   ⟨(some 45), none, .mv (.t 44)⟩,
   ⟨(some 46), (some (45, true)), .fa (.t 7) 1⟩,
   ⟨(some 47), (some (45, true)), .ld (.t 46)⟩,
   ⟨(some 48), (some (45, true)), .cvBS (.t 47)⟩,
   ⟨(some 49), (some (45, true)), .mv (.t 3)⟩,
   ⟨(some 50), (some (45, true)), .cvBS (.t 49)⟩,
   ⟨(some 51), (some (45, true)), .bin .eql (.t 48) (.t 50)⟩,
   ⟨(some 52), none, .pick (.t 45) (.t 51) (.v (.bool false))⟩,
   ⟨(some 53), none, .mv (.t 52)⟩,
   ⟨(some 54), (some (53, true)), .fa (.t 7) 2⟩,
   ⟨(some 55), (some (53, true)), .ld (.t 54)⟩,
   ⟨(some 56), (some (53, true)), .mv (.t 5)⟩,
   ⟨(some 57), (some (53, true)), .bin .eql (.t 55) (.t 56)⟩,
   ⟨(some 58), none, .pick (.t 53) (.t 57) (.v (.bool false))⟩,
   ⟨(some 59), none, .mv (.t 58)⟩,
   ⟨(some 60), (some (59, true)), .fa (.t 7) 3⟩,
   ⟨(some 61), (some (59, true)), .ld (.t 60)⟩,
   ⟨(some 62), (some (59, true)), .mv (.t 4)⟩,
   ⟨(some 63), (some (59, true)), .bin .lss (.t 61) (.t 62)⟩,
   ⟨(some 64), none, .pick (.t 59) (.t 63) (.v (.bool false))⟩,
   ⟨(some 2), none, .mv (.t 64)⟩])
  .ret))))))),
  [.t 2]⟩
theorem k3 : cFn Try.prog Try.f3 = some c3 := by kernel_rfl
theorem law_Pads : OkT Try.prog 3 (pureSp pads_S) := by
  refine okT_fn (OkΓT.cons big_ok (OkΓT.cons drawP_ok (OkΓT.cons padBI_ok (OkΓT.cons padBS_ok (OkΓT.cons unpI_ok (OkΓT.nil _)))))) Try.func3 (by kernel_rfl) k3 (fun x _ => ⟨by first | rfl | simp only [go_sem], by first | rfl | simp only [go_sem]⟩) ?_
  rintro l h
  try dsimp only at *
  have qb := big_at l
  by_cases c0 : (l.length : Int) > 1048576
  · rw [decide_eq_true c0] at qb
    (dsimp only [c3]; simp (maxSteps := 8000000) (implicitDefEqProofs := false) (disch := omega) only [↓reduceIte, go_sem, if_pos, if_neg, qb])
    exact endT_v (.inr rfl) (by (simp (maxSteps := 8000000) (implicitDefEqProofs := false) (disch := omega) only [↓reduceIte, go_sem, if_pos, if_neg]) <;> rfl) (fun _ => rfl)
  rw [decide_eq_false c0] at qb
  have qd := drawP_at l ⟨h, by omega⟩
  have hs := pdS_mem l
  have hx := pdX_mem l
  have hdl := dL_len l 0
  have hdb := dN_bd l 0
  have hdB := dL_bd l 0
  generalize dL l 0 = D at *
  generalize pdS l = S at *
  generalize pdX l = X at *
  have hD : D.length ≤ 401 := by omega
  clear hdl hdb
  have ht : (bsT D).take D.length = bsT D := List.take_of_length_le (by rw [bs_len]; omega)
  have q1 := padB_at D S X ⟨hdB, by omega⟩
  by_cases hc : padC D S X = 0
  case neg =>
    rw [brV_bad rfl hc] at q1
    generalize padC D S X = c at *
    (dsimp only [c3]; simp (maxSteps := 8000000) (implicitDefEqProofs := false) (disch := omega) only [↓reduceIte, go_sem, if_pos, if_neg, qb, qd, ht, q1, eq_false hc])
    exact endT_v (.inr rfl) (by (simp (maxSteps := 8000000) (implicitDefEqProofs := false) (disch := omega) only [↓reduceIte, go_sem, if_pos, if_neg]) <;> rfl) (fun _ => rfl)
  have hb : (1 ≤ S ∧ S ≤ 16) ∧ (0 ≤ X ∧ X ≤ 255) ∧ D.length ≤ 400 := by
    unfold padC at hc
    split at hc
    · rename_i k
      split at hc
      · omega
      · exact ⟨k.1, k.2, by omega⟩
    · omega
  obtain ⟨b1, b2, b3⟩ := hb
  rw [brV_ok hc] at q1
  obtain ⟨s, rfl⟩ := Int.eq_ofNat_of_zero_le (show 0 ≤ S by omega)
  rw [Int.toNat_natCast] at q1
  have hup := padL_up D s X ⟨by omega, by omega⟩ b3
  have how := padL_ownV D s X
  have hnx := padL_nextV D s X
  have hpv := padL_padV D s X
  have hpn := padN_bd (n := D.length) (S := s) (by omega)
  have hgl := padL_len D s X
  have hgb := padL_bd (l := D) (S := s) (nx := X) hdB ⟨by omega, by omega⟩ ⟨by omega, by omega⟩
  have hm : (padL D s X).length % s = 0 := by
    have := padN_eq (n := D.length) (S := s) (by omega)
    rw [hgl]; exact this
  generalize padL D s X = G at *
  generalize padN D.length s = m at *
  have hG : (bsT G).take G.length = bsT G := List.take_of_length_le (by rw [bs_len]; omega)
  have q2 := unp_at G ⟨hgb, by omega⟩
  rw [unV_0 (by omega) hup, how, hnx, hpv] at q2
  have hq := rem64 (n := (G.length : Int)) (b := (s : Int)) (by omega) (by omega)
  rw [natmod, hm] at hq
  have u1 : (bsT D).mapM u8T = some (D.map u8n) := bs_u8 D
  have u2 := abin_str_eq hdB hdB
  simp only [strOf] at u2
  (dsimp only [c3]; simp (maxSteps := 8000000) (implicitDefEqProofs := false) (disch := omega) only [↓reduceIte, go_sem, if_pos, if_neg, qb, qd, ht, hG, q1, q2, ↓hq, u1, ↓u2, eq_true (show (m : Int) < (s : Int) by omega)])
  exact endT_v (.inr rfl) (by (simp (maxSteps := 8000000) (implicitDefEqProofs := false) (disch := omega) only [↓reduceIte, go_sem, if_pos, if_neg]) <;> rfl) (fun _ => rfl)
end Go.Proofs.Ytkijbknnbmbnbaa
