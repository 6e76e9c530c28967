import Derived.Test.YtkijbknnbmbnbaaQ4
set_option linter.unusedSimpArgs false
set_option linter.unusedVariables false
set_option maxRecDepth 100000
set_option maxHeartbeats 4000000
namespace Go.Proofs.Ytkijbknnbmbnbaa
open Go Go.AH
attribute [local irreducible] awpT ropsT qopsT stepT condKT gdKT EndT joinK loopKT seqKT blkKT kont kontR
/-! The law of sealing -/

theorem xor8_back {a b : Int} (hb : 0 ≤ b ∧ b < 256) : xor8 a (xor8 a b) = b := by
  unfold xor8
  have e : BitVec.ofInt 8 ((BitVec.ofInt 8 a ^^^ BitVec.ofInt 8 b).toNat : Int) = BitVec.ofInt 8 a ^^^ BitVec.ofInt 8 b := by
    rw [BitVec.ofInt_natCast, BitVec.ofNat_toNat]; simp
  rw [e, ← BitVec.xor_assoc, BitVec.xor_self, BitVec.zero_xor, BitVec.toNat_ofInt]
  omega
theorem xor8_ne {b y : Int} (hy : 1 ≤ y ∧ y ≤ 255) : xor8 b y ≠ b := by
  intro e
  have h : xor8 b (xor8 b y) = y := xor8_back ⟨by omega, by omega⟩
  rw [e] at h
  unfold xor8 at h
  rw [BitVec.xor_self] at h
  simp at h
  omega
theorem mix_back (k s : Int) (l : List Int) (h : isB l) : mixL k s (mixL k s l) = l := by
  have e : mixL k s (mixL k s l) = mixW (streamL (st0 k s) l.length) (mixW (streamL (st0 k s) l.length) l) := by
    show mixW (streamL (st0 k s) (mixL k s l).length) (mixL k s l) = _
    rw [mixL_len]; rfl
  have hS := streamL_len (st0 k s) l.length
  rw [e]
  generalize streamL (st0 k s) l.length = S at *
  apply List.ext_getElem
  · simp [mixW, hS]
  · intro i h1 h2
    simp only [mixW, List.getElem_zipWith]
    exact xor8_back (h _ (List.getElem_mem _))
theorem takeN_put {v : Int} (h : 0 ≤ v ∧ v < 4294967296) : takeN (putL v 4) = v := by
  have e : putL v 4 = [v / 16777216 % 256, v / 65536 % 256, v / 256 % 256, v / 1 % 256] := rfl
  rw [e]
  simp only [takeN, List.foldl_cons, List.foldl_nil]
  omega
theorem takeN_inj4 {a b : List Int} (ha : isB a) (hb : isB b) (la : a.length = 4) (lb : b.length = 4) (h : takeN a = takeN b) : a = b := by
  match a, b, la, lb with
  | [a1, a2, a3, a4], [b1, b2, b3, b4], _, _ =>
    have x1 := ha a1 (by simp); have x2 := ha a2 (by simp); have x3 := ha a3 (by simp); have x4 := ha a4 (by simp)
    have y1 := hb b1 (by simp); have y2 := hb b2 (by simp); have y3 := hb b3 (by simp); have y4 := hb b4 (by simp)
    simp only [takeN, List.foldl_cons, List.foldl_nil] at h
    have e1 : a1 = b1 := by omega
    have e2 : a2 = b2 := by omega
    have e3 : a3 = b3 := by omega
    have e4 : a4 = b4 := by omega
    rw [e1, e2, e3, e4]
theorem seal_take (k s : Int) (l : List Int) : (sealL k s l).take ((sealL k s l).length - 4) = mixL k s l := by
  rw [sealL_len, Nat.add_sub_cancel]; unfold sealL; exact List.take_left' (mixL_len _ _ _)
theorem seal_drop (k s : Int) (l : List Int) : (sealL k s l).drop ((sealL k s l).length - 4) = putL (tagL k s (mixL k s l)) 4 := by
  rw [sealL_len, Nat.add_sub_cancel]; unfold sealL; exact List.drop_left' (mixL_len _ _ _)
theorem seal_tag (k s : Int) (l : List Int) : 0 ≤ tagL k s (mixL k s l) ∧ tagL k s (mixL k s l) < 1000003 := by
  have h := tagL_bd k s (mixL k s l) (mixL k s l).length
  rw [List.take_length] at h; exact h
theorem open_seal {k s : Int} {l : List Int} (hk : keyP k s) (hl : isB l) (hn : l.length ≤ 480) : openC k s (sealL k s l) = 0 ∧ openL k s (sealL k s l) = l := by
  have ht := seal_tag k s l
  refine ⟨?_, ?_⟩
  · unfold openC; rw [if_pos hk, if_pos (by rw [sealL_len]; omega), seal_drop, seal_take, takeN_put (by omega), if_pos rfl]
  · unfold openL; rw [seal_take]; exact mix_back k s l hl
theorem tagS_inj {h h' b : Int} (a : 0 ≤ h ∧ h < 1000003) (a' : 0 ≤ h' ∧ h' < 1000003) (e : tagS h b = tagS h' b) : h = h' := by unfold tagS at e; omega
theorem tagS_ne {h b b' : Int} (a : 0 ≤ b ∧ b < 256) (a' : 0 ≤ b' ∧ b' < 256) (e : tagS h b = tagS h b') : b = b' := by unfold tagS at e; omega
theorem tags_inj : ∀ (l : List Int) {h h' : Int}, (0 ≤ h ∧ h < 1000003) → (0 ≤ h' ∧ h' < 1000003) → l.foldl tagS h = l.foldl tagS h' → h = h'
  | [], _, _, _, _, e => e
  | b :: l, _, _, a, a', e => tagS_inj a a' (tags_inj l (tagS_bd _ _) (tagS_bd _ _) e)
theorem tagL_set {k s : Int} {l : List Int} (h : isB l) {i : Nat} {x : Int} (hi : i < l.length) (hx : 0 ≤ x ∧ x < 256) (e : tagL k s (l.set i x) = tagL k s l) : x = l.getD i 0 := by
  have e1 : l.set i x = l.take i ++ x :: l.drop (i + 1) := by rw [List.set_eq_take_append_cons_drop, if_pos hi]
  have e2 : l = l.take i ++ l.getD i 0 :: l.drop (i + 1) := by
    rw [List.getD_eq_getElem?_getD, List.getElem?_eq_getElem hi, Option.getD_some, ← List.drop_eq_getElem_cons hi, List.take_append_drop]
  rw [e1] at e
  have e' : tagL k s (l.take i ++ x :: l.drop (i + 1)) = tagL k s (l.take i ++ l.getD i 0 :: l.drop (i + 1)) := by rw [e, ← e2]
  simp only [tagL, List.foldl_append, List.foldl_cons] at e'
  exact tagS_ne hx (isB_get h i) (tags_inj _ (tagS_bd _ _) (tagS_bd _ _) e')
theorem isB_set {l : List Int} (h : isB l) {x : Int} (hx : 0 ≤ x ∧ x < 256) (i : Nat) : isB (l.set i x) := fun y hy => by
  rcases List.mem_or_eq_of_mem_set hy with hy | rfl
  · exact h y hy
  · exact hx
theorem open_turn {k s : Int} {l : List Int} (hk : keyP k s) (hn : l.length ≤ 480) {i : Nat} (hi : i < (sealL k s l).length) {x : Int} (hx : 0 ≤ x ∧ x < 256) (hne : x ≠ (sealL k s l).getD i 0) : openC k s ((sealL k s l).set i x) = 6 := by
  have ht := seal_tag k s l
  have hd := seal_drop k s l
  have hm := seal_take k s l
  have hl := sealL_len k s l
  have hml := mixL_len k s l
  have hmb := mixL_bd k s l
  unfold openC
  rw [if_pos hk, if_pos (by rw [List.length_set, hl]; omega), List.length_set]
  generalize sealL k s l = G at *
  generalize mixL k s l = M at *
  refine if_neg fun e => hne ?_
  by_cases hc : i < G.length - 4
  · rw [List.drop_set, if_pos hc, List.take_set, hd, hm, takeN_put (by omega)] at e
    have := tagL_set hmb (by omega) hx e.symm
    rw [this, ← hm]
    simp [List.getElem?_take, hc, List.getElem?_eq_getElem hi]
  · have em : M.set i x = M := List.set_eq_of_length_le (by omega)
    rw [List.drop_set, if_neg hc, List.take_set, hd, hm, em] at e
    have hpl := putL_len (tagL k s M) 4
    have hpb := putL_bd (tagL k s M) 4
    have e2 : takeN ((putL (tagL k s M) 4).set (i - (G.length - 4)) x) = takeN (putL (tagL k s M) 4) := by rw [e, takeN_put (by omega)]
    have e3 := takeN_inj4 (isB_set hpb hx _) hpb (by rw [List.length_set]; exact hpl) hpl e2
    have e4 := congrArg (fun L => L.getD (i - (G.length - 4)) 0) e3
    simp only [List.getD_eq_getElem?_getD, List.getElem?_set_self (show i - (G.length - 4) < (putL (tagL k s M) 4).length by omega), Option.getD_some] at e4
    rw [e4, ← hd, List.getElem?_drop, show G.length - 4 + (i - (G.length - 4)) = i by omega, List.getD_eq_getElem?_getD]
theorem abin_str_ne {a : List Int} (ha : isB a) : abin .neq (.string (strOf a)) (.string (strOf a)) = some (.bool false) := by
  show some (Value.bool (!_)) = _
  rw [str_eq ha ha]
  simp
noncomputable def seals_S := specP (fun x : List Int => [.s (bsT x)]) (fun x => isB x) (fun x => (.p (.bool true), []))
theorem seals_at (l : List Int) (h : isB l) : seals_S [.s (bsT l)] = some ((.p (.bool true), [])) := specP_at (enc := fun x : List Int => [.s (bsT x)]) (by rintro a0 b0 h; simp only [List.cons.injEq, and_true] at h; have h0 := h; obtain rfl := sby_inj h0; rfl) l h
-- laws.FnSeals
def c4 : AF := ⟨84,
  (.seq (.reg [⟨(some 2), none, .mv (.v (.bool false))⟩])
  (.seq (.seq (.reg [⟨(some 10), none, .mv (.t 0)⟩,
   ⟨(some 11), none, .call 14 [(.t 10)]⟩])
  (.cond (.t 11) (.seq (.reg [⟨(some 2), none, .mv (.v (.bool true))⟩])
  .ret)
  .skip))
  (.seq (.reg [⟨(some 13), none, .mv (.t 0)⟩,
   ⟨(some 14), none, .call 19 [(.t 13)]⟩,
   ⟨(some 12), none, .mv (.t 14)⟩,
   ⟨(some 15), none, .ext (.t 12) 0⟩,
   ⟨(some 16), none, .ext (.t 12) 1⟩,
   ⟨(some 17), none, .ext (.t 12) 2⟩,
   ⟨(some 3), none, .mv (.t 15)⟩,
   ⟨(some 4), none, .mv (.t 16)⟩,
   ⟨(some 5), none, .mv (.t 17)⟩])
  (.seq (.reg [⟨(some 18), none, .mv (.t 3)⟩,
   ⟨(some 19), none, .mv (.t 4)⟩,
   ⟨(some 20), none, .mv (.t 5)⟩,
   ⟨(some 21), none, .call 20 [(.t 18), (.t 19), (.t 20)]⟩,
   ⟨(some 6), none, .alloc 27 [(.int .i64 0), (.slice none 0 0)]⟩,
   ⟨none, none, .st 2 (.t 6) (.t 21)⟩])
  (.seq (.seq (.reg [⟨(some 22), none, .fa (.t 6) 0⟩,
   ⟨(some 23), none, .ld (.t 22)⟩,
   ⟨(some 24), none, .bin .neq (.t 23) (.v (.int .i64 0))⟩])
  (.cond (.t 24) (.seq (.drw [⟨(some 25), none, .mv (.t 3)⟩,
   ⟨(some 26), none, .mv (.t 4)⟩,
   ⟨(some 27), none, .mv (.t 5)⟩,
   ⟨(some 28), none, .call 21 [(.t 25), (.t 26), (.t 27)]⟩,
   ⟨(some 29), none, .fld (.t 28) 0⟩,
   ⟨(some 30), none, .fa (.t 6) 0⟩,
   ⟨(some 31), none, .ld (.t 30)⟩] [⟨(some 32), none, .bin .eql (.t 29) (.t 31)⟩,
   ⟨(some 2), none, .mv (.t 32)⟩])
  .ret)
  .skip))
  (.seq (.reg [⟨(some 33), none, .mv (.t 3)⟩,
   ⟨(some 34), none, .mv (.t 4)⟩,
   ⟨(some 35), none, .fa (.t 6) 1⟩,
   ⟨(some 36), none, .ld (.t 35)⟩,
   ⟨(some 37), none, .call 22 [(.t 33), (.t 34), (.t 36)]⟩,
   ⟨(some 7), none, .alloc 27 [(.int .i64 0), (.slice none 0 0)]⟩,
   ⟨none, none, .st 2 (.t 7) (.t 37)⟩])
  (.seq (.seq (.reg [⟨(some 38), none, .fa (.t 7) 0⟩,
   ⟨(some 39), none, .ld (.t 38)⟩,
   ⟨(some 40), none, .bin .neq (.t 39) (.v (.int .i64 0))⟩,
   ⟨(some 41), none, .mv (.t 40)⟩,
   ⟨(some 42), (some (41, false)), .fa (.t 7) 1⟩,
   ⟨(some 43), (some (41, false)), .ld (.t 42)⟩,
   ⟨(some 44), (some (41, false)), .cvBS (.t 43)⟩,
   ⟨(some 45), (some (41, false)), .mv (.t 5)⟩,
   ⟨(some 46), (some (41, false)), .cvBS (.t 45)⟩,
   ⟨(some 47), (some (41, false)), .bin .neq (.t 44) (.t 46)⟩,
   ⟨(some 48), none, .pick (.t 41) (.v (.bool true)) (.t 47)⟩,
   ⟨(some 49), none, .mv (.t 48)⟩,
   ⟨(some 50), (some (49, false)), .fa (.t 6) 1⟩,
   ⟨(some 51), (some (49, false)), .ld (.t 50)⟩,
   ⟨(some 52), (some (49, false)), .len (.t 51)⟩,
   ⟨(some 53), (some (49, false)), .mv (.t 5)⟩,
   ⟨(some 54), (some (49, false)), .len (.t 53)⟩,
   ⟨(some 55), (some (49, false)), .bin .add (.t 54) (.v (.int .i64 4))⟩,
   ⟨(some 56), (some (49, false)), .bin .neq (.t 52) (.t 55)⟩,
   ⟨(some 57), none, .pick (.t 49) (.v (.bool true)) (.t 56)⟩])
  (.cond (.t 57) (.seq (.reg [⟨(some 2), none, .mv (.v (.bool false))⟩])
  .ret)
  .skip))
  (.seq (.reg [⟨(some 58), none, .mkS 5 0 [] []⟩,
   ⟨(some 59), none, .fa (.t 6) 1⟩,
   ⟨(some 60), none, .ld (.t 59)⟩,
   ⟨(some 61), none, .app 5 1 1 (.t 58) (.t 60)⟩,
   ⟨(some 8), none, .mv (.t 61)⟩])
  (.seq (.reg [⟨(some 62), none, .mv (.t 0)⟩,
   ⟨(some 63), none, .mv (.t 8)⟩,
   ⟨(some 64), none, .len (.t 63)⟩,
   ⟨(some 65), none, .call 23 [(.t 62), (.v (.int .i64 1)), (.t 64)]⟩,
   ⟨(some 9), none, .mv (.t 65)⟩])
  (.seq (.drw [⟨(some 66), none, .mv (.t 8)⟩,
   ⟨(some 67), none, .mv (.t 9)⟩,
   ⟨(some 68), none, .mv (.t 8)⟩,
   ⟨(some 69), none, .mv (.t 9)⟩,
   ⟨(some 70), none, .ia 1 (.t 68) (.t 69)⟩,
   ⟨(some 71), none, .ld (.t 70)⟩,
   ⟨(some 72), none, .mv (.t 0)⟩,
   ⟨(some 73), none, .call 23 [(.t 72), (.v (.int .i64 2)), (.v (.int .i64 255))]⟩,
   ⟨(some 74), none, .bin .add (.v (.int .i64 1)) (.t 73)⟩,
   ⟨(some 75), none, .cvI .u8 (.t 74)⟩,
   ⟨(some 76), none, .bin .xor (.t 71) (.t 75)⟩] [⟨(some 77), none, .ia 1 (.t 66) (.t 67)⟩,
   ⟨none, none, .st 1 (.t 77) (.t 76)⟩])
  (.seq (.reg [⟨(some 78), none, .mv (.t 3)⟩,
   ⟨(some 79), none, .mv (.t 4)⟩,
   ⟨(some 80), none, .mv (.t 8)⟩,
   ⟨(some 81), none, .call 22 [(.t 78), (.t 79), (.t 80)]⟩,
   ⟨(some 82), none, .fld (.t 81) 0⟩,
   ⟨(some 83), none, .bin .eql (.t 82) (.v (.int .i64 6))⟩,
   ⟨(some 2), none, .mv (.t 83)⟩])
  .ret))))))))))),
  [.t 2]⟩
theorem k4 : cFn Try.prog Try.f4 = some c4 := by kernel_rfl
theorem law_Seals : OkT Try.prog 4 (pureSp seals_S) := by
  refine okT_fn (OkΓT.cons big_ok (OkΓT.cons drawS_ok (OkΓT.cons sealI_ok (OkΓT.cons sealS_ok (OkΓT.cons openI_ok (OkΓT.cons lwAt_ok (OkΓT.nil _))))))) Try.func4 (by kernel_rfl) k4 (fun x _ => ⟨by first | rfl | simp only [go_sem], by first | rfl | simp only [go_sem]⟩) ?_
  rintro l h
  try dsimp only at *
  have qb := big_at l
  by_cases c0 : (l.length : Int) > 1048576
  · rw [decide_eq_true c0] at qb
    (dsimp only [c4]; simp (maxSteps := 8000000) (implicitDefEqProofs := false) (disch := omega) only [↓reduceIte, go_sem, if_pos, if_neg, qb])
    exact endT_v (.inr rfl) (by (simp (maxSteps := 8000000) (implicitDefEqProofs := false) (disch := omega) only [↓reduceIte, go_sem, if_pos, if_neg]) <;> rfl) (fun _ => rfl)
  rw [decide_eq_false c0] at qb
  have qd := drawS_at l ⟨h, by omega⟩
  obtain ⟨hdB, hD⟩ := slL_bd l
  generalize slL l = D at *
  generalize kyDV l 0 = K at *
  generalize sqDV l 3 = Q at *
  have ht : (bsT D).take D.length = bsT D := List.take_of_length_le (by rw [bs_len]; omega)
  have hDl := bs_len D
  have q1 := seal_at K Q D ⟨hdB, by omega⟩
  by_cases hc : sealC K Q D = 0
  case neg =>
    rw [brV_bad rfl hc] at q1
    generalize sealC K Q D = c at *
    (dsimp only [c4]; simp (maxSteps := 8000000) (implicitDefEqProofs := false) (disch := omega) only [↓reduceIte, go_sem, if_pos, if_neg, qb, qd, ht, q1, eq_false hc])
    exact endT_v (.inr rfl) (by (simp (maxSteps := 8000000) (implicitDefEqProofs := false) (disch := omega) only [↓reduceIte, go_sem, if_pos, if_neg]) <;> rfl) (fun _ => rfl)
  have hb : keyP K Q ∧ D.length ≤ 480 := by
    unfold sealC at hc
    split at hc
    · rename_i k
      split at hc
      · omega
      · exact ⟨k, by omega⟩
    · omega
  obtain ⟨b1, b2⟩ := hb
  rw [brV_ok hc] at q1
  have hgl := sealL_len K Q D
  have hgb := sealL_bd K Q D
  have ho := open_seal b1 hdB b2
  have q2 := open_at K Q (sealL K Q D) ⟨hgb, by omega⟩
  rw [brV_ok ho.1, ho.2] at q2
  have a1 := lwAt_at l 1 ((sealL K Q D).length : Int) ⟨h, by omega, by decide, by omega⟩
  have a2 := lwAt_at l 2 255 ⟨h, by omega, by decide, by decide⟩
  have a1b := lwV_bd l 1 ((sealL K Q D).length : Int) (by omega)
  have a2b := lwV_bd l 2 255 (by decide)
  generalize lwV l 1 ((sealL K Q D).length : Int) = i at *
  generalize lwV l 2 255 = y at *
  obtain ⟨i, rfl⟩ := Int.eq_ofNat_of_zero_le a1b.1
  have hi : i < (sealL K Q D).length := by omega
  have hw : IntKind.u8.wrap (1 + y) = 1 + y := tu8 (by omega)
  have hxb := xor8_bd ((sealL K Q D).getD i 0) (1 + y)
  have hxx := xor_u8 ((sealL K Q D).getD i 0) (1 + y)
  have hot := open_turn b1 b2 hi hxb (xor8_ne ⟨by omega, by omega⟩)
  have hgi := bs_get hi
  have hsl : ((sealL K Q D).set i (xor8 ((sealL K Q D).getD i 0) (1 + y))).length = (sealL K Q D).length := List.length_set
  have hst := bs_set (sealL K Q D) i (xor8 ((sealL K Q D).getD i 0) (1 + y))
  have hsb := isB_set hgb hxb i
  generalize xor8 ((sealL K Q D).getD i 0) (1 + y) = x at *
  generalize (sealL K Q D).getD i 0 = b at *
  generalize sealL K Q D = G at *
  generalize G.set i x = G' at *
  have hG : (bsT G).take G.length = bsT G := List.take_of_length_le (by rw [bs_len]; omega)
  have hG' : (bsT G').take G.length = bsT G' := List.take_of_length_le (by rw [bs_len]; omega)
  have hGl := bs_len G
  have hGl' := bs_len G'
  have q3 := open_at K Q G' ⟨hsb, by omega⟩
  rw [brV_bad hot (by decide)] at q3
  have u1 : (bsT D).mapM u8T = some (D.map u8n) := bs_u8 D
  have u2 := abin_str_ne hdB
  simp only [strOf] at u2
  have hgz : zOf G.length 1 = 1 := zOf_pos (by omega)
  have e1 : (G.length : Int) = (D.length : Int) + 4 := by omega
  (dsimp only [c4]; simp (maxSteps := 8000000) (implicitDefEqProofs := false) (disch := omega) only [↓reduceIte, go_sem, if_pos, if_neg, qb, qd, ht, hG, hG', q1, q2, q3, u1, ↓u2, a1, a2, hw, ↓hxx, hgi, hst, hgz, hGl, hGl', Int.toNat_natCast, Nat.zero_add, eq_true e1, eq_true (show (i : Int) < (G.length : Int) by omega)])
  exact endT_v (.inr rfl) (by (simp (maxSteps := 8000000) (implicitDefEqProofs := false) (disch := omega) only [↓reduceIte, go_sem, if_pos, if_neg]) <;> rfl) (fun _ => rfl)
end Go.Proofs.Ytkijbknnbmbnbaa
