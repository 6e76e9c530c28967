import Derived.Test.YtkijbknnbmbnbaaQ3
import Derived.Test.YtkijbknnbmbnbaaE10
set_option linter.unusedSimpArgs false
set_option linter.unusedVariables false
set_option maxRecDepth 100000
set_option maxHeartbeats 4000000
namespace Go.Proofs.Ytkijbknnbmbnbaa
open Go Go.AH
attribute [local irreducible] awpT ropsT qopsT stepT condKT gdKT EndT joinK loopKT seqKT blkKT kont kontR
/-! Draws of keys and of bytes to seal -/
def kyDV (l : List Int) (a : Int) : Int := pkV l (a + 1 + 1) [drwV l a 99, drwV l (a + 1) 99, 4294967295, 4294967296, 0, -1]
noncomputable def kyD_S := specL (fun x : List Int × Int => [.op 0 0 0]) (fun x : List Int × Int => [srcB x.1 x.2]) (fun x => isB x.1 ∧ x.1.length ≤ 1048576 ∧ 0 ≤ x.2 ∧ x.2 ≤ 900000) (fun x => (.p (.int .i64 (kyDV x.1 x.2)), [srcB x.1 (x.2 + 1 + 1 + 1)]))
theorem kyD_at (l : List Int) (a : Int) (h : isB l ∧ l.length ≤ 1048576 ∧ 0 ≤ a ∧ a ≤ 900000) : kyD_S [.op 0 0 0] [srcB l a] = some (.p (.int .i64 (kyDV l a)), [srcB l (a + 1 + 1 + 1)]) := specL_at (enc := fun x : List Int × Int => [.op 0 0 0]) (encH := fun x : List Int × Int => [srcB x.1 x.2]) (by rintro ⟨a, b⟩ ⟨a1, b1⟩ h k; simp only [List.cons.injEq, and_true] at k; obtain ⟨rfl, rfl⟩ := srcB_inj k; rfl) (l, a) h
-- spec.l14Key
def c187 : AF := ⟨10,
  (.seq (.reg [⟨(some 2), none, .mv (.v (.int .i64 0))⟩])
  (.seq (.reg [⟨(some 3), none, .mv (.t 0)⟩,
   ⟨(some 4), none, .mv (.t 0)⟩,
   ⟨(some 5), none, .call 102 [(.t 4), (.v (.int .i64 99))]⟩,
   ⟨(some 6), none, .mv (.t 0)⟩,
   ⟨(some 7), none, .call 102 [(.t 6), (.v (.int .i64 99))]⟩,
   ⟨(some 8), none, .mkS 2 6 [(.int .i64 0), (.int .i64 0), (.int .i64 0), (.int .i64 0), (.int .i64 0), (.int .i64 0)] [(0, 1, (.t 5)), (1, 1, (.t 7)), (2, 1, (.v (.int .i64 4294967295))), (3, 1, (.v (.int .i64 4294967296))), (4, 1, (.v (.int .i64 0))), (5, 1, (.v (.int .i64 (-1))))]⟩,
   ⟨(some 9), none, .call 94 [(.t 3), (.t 8)]⟩,
   ⟨(some 2), none, .mv (.t 9)⟩])
  .ret)),
  [.t 2]⟩
theorem k187 : cFn Try.prog Try.f187 = some c187 := by kernel_rfl
theorem kyD_ok : OkT Try.prog 187 (locSp kyD_S) := by
  refine okT_lc (OkΓT.cons next_ok (OkΓT.cons pick_ok (OkΓT.nil _))) Try.func187 (by kernel_rfl) k187 ?_
  rintro ⟨l, a⟩ ⟨h1, h2, h3, h4⟩
  refine ⟨by simp, ?_⟩
  show awpT 1 _ _ (EndK 1 _ _ _) _
  try dsimp only at *
  have q1 := next_at l a 99 ⟨⟨h1, h2, by omega, by omega⟩, by decide, by decide⟩
  have q2 := next_at l (a + 1) 99 ⟨⟨h1, h2, by omega, by omega⟩, by decide, by decide⟩
  have q3 : pick_S [.op 0 0 0, .os 1 0 6] [srcB l (a + 1 + 1), .cells 2 1 [.p (.int .i64 (drwV l a 99)), .p (.int .i64 (drwV l (a + 1) 99)), .p (.int .i64 (4294967295)), .p (.int .i64 (4294967296)), .p (.int .i64 (0)), .p (.int .i64 (-1))]] = some (.p (.int .i64 (kyDV l a)), [srcB l (a + 1 + 1 + 1), .cells 2 1 [.p (.int .i64 (drwV l a 99)), .p (.int .i64 (drwV l (a + 1) 99)), .p (.int .i64 (4294967295)), .p (.int .i64 (4294967296)), .p (.int .i64 (0)), .p (.int .i64 (-1))]]) := pkV_at l (a + 1 + 1) [drwV l a 99, drwV l (a + 1) 99, 4294967295, 4294967296, 0, -1] ⟨⟨h1, h2, by omega, by omega⟩, (by show 1 ≤ 6; decide), (by show 6 ≤ 100; decide)⟩
  generalize kyDV l a = N at *
  generalize drwV l a 99 = n1 at *
  generalize drwV l (a + 1) 99 = n2 at *
  dsimp only [srcB] at *
  (dsimp only [c187]; simp (maxSteps := 8000000) (implicitDefEqProofs := false) (disch := omega) only [↓reduceIte, go_sem, if_pos, if_neg, q1, q2, q3])
  exact endK_of [0] (.inr rfl) (by simp (maxSteps := 8000000) (implicitDefEqProofs := false) (disch := omega) only [↓reduceIte, go_sem, if_pos, if_neg]; rfl) (by simp (maxSteps := 8000000) (implicitDefEqProofs := false) (disch := omega) only [↓reduceIte, go_sem, if_pos, if_neg]) (by simp (maxSteps := 8000000) (implicitDefEqProofs := false) (disch := omega) only [↓reduceIte, go_sem, if_pos, if_neg]) (by decide) (by simp) (by decide)
def sqDV (l : List Int) (a : Int) : Int := pkV l (a + 1 + 1) [drwV l a 99, drwV l (a + 1) 99, 1099511627776, 1099511627777, 1, -1]
noncomputable def sqD_S := specL (fun x : List Int × Int => [.op 0 0 0]) (fun x : List Int × Int => [srcB x.1 x.2]) (fun x => isB x.1 ∧ x.1.length ≤ 1048576 ∧ 0 ≤ x.2 ∧ x.2 ≤ 900000) (fun x => (.p (.int .i64 (sqDV x.1 x.2)), [srcB x.1 (x.2 + 1 + 1 + 1)]))
theorem sqD_at (l : List Int) (a : Int) (h : isB l ∧ l.length ≤ 1048576 ∧ 0 ≤ a ∧ a ≤ 900000) : sqD_S [.op 0 0 0] [srcB l a] = some (.p (.int .i64 (sqDV l a)), [srcB l (a + 1 + 1 + 1)]) := specL_at (enc := fun x : List Int × Int => [.op 0 0 0]) (encH := fun x : List Int × Int => [srcB x.1 x.2]) (by rintro ⟨a, b⟩ ⟨a1, b1⟩ h k; simp only [List.cons.injEq, and_true] at k; obtain ⟨rfl, rfl⟩ := srcB_inj k; rfl) (l, a) h
-- spec.l14Seq
def c188 : AF := ⟨10,
  (.seq (.reg [⟨(some 2), none, .mv (.v (.int .i64 0))⟩])
  (.seq (.reg [⟨(some 3), none, .mv (.t 0)⟩,
   ⟨(some 4), none, .mv (.t 0)⟩,
   ⟨(some 5), none, .call 102 [(.t 4), (.v (.int .i64 99))]⟩,
   ⟨(some 6), none, .mv (.t 0)⟩,
   ⟨(some 7), none, .call 102 [(.t 6), (.v (.int .i64 99))]⟩,
   ⟨(some 8), none, .mkS 2 6 [(.int .i64 0), (.int .i64 0), (.int .i64 0), (.int .i64 0), (.int .i64 0), (.int .i64 0)] [(0, 1, (.t 5)), (1, 1, (.t 7)), (2, 1, (.v (.int .i64 1099511627776))), (3, 1, (.v (.int .i64 1099511627777))), (4, 1, (.v (.int .i64 1))), (5, 1, (.v (.int .i64 (-1))))]⟩,
   ⟨(some 9), none, .call 94 [(.t 3), (.t 8)]⟩,
   ⟨(some 2), none, .mv (.t 9)⟩])
  .ret)),
  [.t 2]⟩
theorem k188 : cFn Try.prog Try.f188 = some c188 := by kernel_rfl
theorem sqD_ok : OkT Try.prog 188 (locSp sqD_S) := by
  refine okT_lc (OkΓT.cons next_ok (OkΓT.cons pick_ok (OkΓT.nil _))) Try.func188 (by kernel_rfl) k188 ?_
  rintro ⟨l, a⟩ ⟨h1, h2, h3, h4⟩
  refine ⟨by simp, ?_⟩
  show awpT 1 _ _ (EndK 1 _ _ _) _
  try dsimp only at *
  have q1 := next_at l a 99 ⟨⟨h1, h2, by omega, by omega⟩, by decide, by decide⟩
  have q2 := next_at l (a + 1) 99 ⟨⟨h1, h2, by omega, by omega⟩, by decide, by decide⟩
  have q3 : pick_S [.op 0 0 0, .os 1 0 6] [srcB l (a + 1 + 1), .cells 2 1 [.p (.int .i64 (drwV l a 99)), .p (.int .i64 (drwV l (a + 1) 99)), .p (.int .i64 (1099511627776)), .p (.int .i64 (1099511627777)), .p (.int .i64 (1)), .p (.int .i64 (-1))]] = some (.p (.int .i64 (sqDV l a)), [srcB l (a + 1 + 1 + 1), .cells 2 1 [.p (.int .i64 (drwV l a 99)), .p (.int .i64 (drwV l (a + 1) 99)), .p (.int .i64 (1099511627776)), .p (.int .i64 (1099511627777)), .p (.int .i64 (1)), .p (.int .i64 (-1))]]) := pkV_at l (a + 1 + 1) [drwV l a 99, drwV l (a + 1) 99, 1099511627776, 1099511627777, 1, -1] ⟨⟨h1, h2, by omega, by omega⟩, (by show 1 ≤ 6; decide), (by show 6 ≤ 100; decide)⟩
  generalize sqDV l a = N at *
  generalize drwV l a 99 = n1 at *
  generalize drwV l (a + 1) 99 = n2 at *
  dsimp only [srcB] at *
  (dsimp only [c188]; simp (maxSteps := 8000000) (implicitDefEqProofs := false) (disch := omega) only [↓reduceIte, go_sem, if_pos, if_neg, q1, q2, q3])
  exact endK_of [0] (.inr rfl) (by simp (maxSteps := 8000000) (implicitDefEqProofs := false) (disch := omega) only [↓reduceIte, go_sem, if_pos, if_neg]; rfl) (by simp (maxSteps := 8000000) (implicitDefEqProofs := false) (disch := omega) only [↓reduceIte, go_sem, if_pos, if_neg]) (by simp (maxSteps := 8000000) (implicitDefEqProofs := false) (disch := omega) only [↓reduceIte, go_sem, if_pos, if_neg]) (by decide) (by simp) (by decide)

theorem bs_rep (n : Nat) : bsT (List.replicate n 0) = List.replicate n (.p (.int .u8 0)) := by simp [bsT, bT]
theorem isB_rep (n : Nat) : isB (List.replicate n 0) := fun x hx => by obtain ⟨_, rfl⟩ := List.mem_replicate.1 hx; omega
def tgL (l : List Int) : List Int := if drwV l (dA l 6) 20 = 0 then List.replicate 501 0 else dL l 6
theorem tgL_bd (l : List Int) : isB (tgL l) ∧ (tgL l).length ≤ 501 := by
  have := dN_bd l 6
  unfold tgL; split
  · exact ⟨isB_rep _, by simp⟩
  · exact ⟨dL_bd _ _, by rw [dL_len]; omega⟩
def slL (l : List Int) : List Int := if drwV l 0 12 = 0 then List.replicate (480 + drwV l 1 2).toNat 0 else tgL l
theorem slL_bd (l : List Int) : isB (slL l) ∧ (slL l).length ≤ 501 := by
  obtain ⟨a1, a2, _⟩ := drwV_bd l 1 2
  have a2 := a2 (by omega)
  unfold slL; split
  · exact ⟨isB_rep _, by rw [List.length_replicate]; omega⟩
  · exact tgL_bd l
noncomputable def drawT_S := specP (fun x : List Int => [.s (bsT x)]) (fun x => (isB x) ∧ (x.length ≤ 1048576)) (fun x => (.tup [.p (.int .i64 (kyDV x 0)), .p (.int .i64 (sqDV x 3)), .os 0 0 (tgL x).length], [.cells 5 (zOf (tgL x).length 1) (bsT (tgL x))]))
theorem drawT_at (l : List Int) (h : (isB l) ∧ (l.length ≤ 1048576)) : drawT_S [.s (bsT l)] = some ((.tup [.p (.int .i64 (kyDV l 0)), .p (.int .i64 (sqDV l 3)), .os 0 0 (tgL l).length], [.cells 5 (zOf (tgL l).length 1) (bsT (tgL l))])) := specP_at (enc := fun x : List Int => [.s (bsT x)]) (by rintro a0 b0 h; simp only [List.cons.injEq, and_true] at h; have h0 := h; obtain rfl := sby_inj h0; rfl) l h
-- spec.DrawTagOf
def c100 : AF := ⟨23,
  (.seq (.reg [⟨(some 2), none, .mv (.v (.int .i64 0))⟩,
   ⟨(some 3), none, .mv (.v (.int .i64 0))⟩,
   ⟨(some 4), none, .mv (.v (.slice none 0 0))⟩])
  (.seq (.reg [⟨(some 9), none, .mv (.t 0)⟩,
   ⟨(some 10), none, .call 92 [(.t 9)]⟩,
   ⟨(some 5), none, .mv (.t 10)⟩])
  (.seq (.reg [⟨(some 11), none, .mv (.t 5)⟩,
   ⟨(some 12), none, .call 187 [(.t 11)]⟩,
   ⟨(some 6), none, .mv (.t 12)⟩])
  (.seq (.reg [⟨(some 13), none, .mv (.t 5)⟩,
   ⟨(some 14), none, .call 188 [(.t 13)]⟩,
   ⟨(some 7), none, .mv (.t 14)⟩])
  (.seq (.reg [⟨(some 15), none, .mv (.t 5)⟩,
   ⟨(some 16), none, .call 93 [(.t 15)]⟩,
   ⟨(some 8), none, .mv (.t 16)⟩])
  (.seq (.seq (.reg [⟨(some 17), none, .mv (.t 5)⟩,
   ⟨(some 18), none, .call 101 [(.t 17), (.v (.int .i64 20))]⟩])
  (.cond (.t 18) (.reg [⟨(some 19), none, .mkSl 5 1 1 [(.int .u8 0)] (.v (.int .i64 501)) (.v (.int .i64 501))⟩,
   ⟨(some 8), none, .mv (.t 19)⟩])
  .skip))
  (.seq (.reg [⟨(some 20), none, .mv (.t 6)⟩,
   ⟨(some 21), none, .mv (.t 7)⟩,
   ⟨(some 22), none, .mv (.t 8)⟩,
   ⟨(some 2), none, .mv (.t 20)⟩,
   ⟨(some 3), none, .mv (.t 21)⟩,
   ⟨(some 4), none, .mv (.t 22)⟩])
  .ret))))))),
  [.t 2, .t 3, .t 4]⟩
theorem k100 : cFn Try.prog Try.f100 = some c100 := by kernel_rfl
theorem drawT_ok : OkT Try.prog 100 (pureSp drawT_S) := by
  refine okT_fn (OkΓT.cons source_ok (OkΓT.cons kyD_ok (OkΓT.cons sqD_ok (OkΓT.cons data_ok (OkΓT.cons chance_ok (OkΓT.nil _)))))) Try.func100 (by kernel_rfl) k100 (fun x _ => ⟨rfl, by simp only [go_sem, List.all_cons, List.all_nil]⟩) ?_
  rintro l ⟨h1, h2⟩
  try dsimp only at *
  have hA := dA_bd l 6
  have qs := source_at l
  have qk : kyD_S [.op 0 0 0] [srcB l 0] = some (.p (.int .i64 (kyDV l 0)), [srcB l 3]) := kyD_at l 0 ⟨h1, h2, by decide, by decide⟩
  have qq : sqD_S [.op 0 0 0] [srcB l 3] = some (.p (.int .i64 (sqDV l 3)), [srcB l 6]) := sqD_at l 3 ⟨h1, h2, by decide, by decide⟩
  have qd := data_at l 6 ⟨h1, h2, by decide, by decide⟩
  have qc := chance_at l (dA l 6) 20 ⟨⟨h1, h2, by omega, by omega⟩, by decide, by decide⟩
  generalize kyDV l 0 = K at *
  generalize sqDV l 3 = Q at *
  have e := bs_rep 501
  have eL : (List.replicate 501 (0 : Int)).length = 501 := List.length_replicate
  have ez : zOf 501 1 = 1 := zOf_pos (by decide)
  by_cases c : drwV l (dA l 6) 20 = 0
  · rw [show tgL l = List.replicate 501 0 by unfold tgL; rw [if_pos c]]
    rw [decide_eq_true c] at qc
    generalize dL l 6 = D at *
    generalize dA l 6 = A at *
    generalize List.replicate 501 (0 : Int) = R at *
    rw [eL, ez]
    dsimp only [srcB] at *
    (dsimp only [c100]; simp (maxSteps := 8000000) (implicitDefEqProofs := false) (disch := omega) only [↓reduceIte, go_sem, if_pos, if_neg, qs, qk, qq, qd, qc, ← e])
    exact endT_of [2] (.inr rfl) (by simp (maxSteps := 8000000) (implicitDefEqProofs := false) (disch := omega) only [↓reduceIte, go_sem, if_pos, if_neg]; rfl) (by simp (maxSteps := 8000000) (implicitDefEqProofs := false) (disch := omega) only [↓reduceIte, go_sem, if_pos, if_neg]) (by simp (maxSteps := 8000000) (implicitDefEqProofs := false) (disch := omega) only [↓reduceIte, go_sem, if_pos, if_neg]) (by decide) (by simp)
  · rw [show tgL l = dL l 6 by unfold tgL; rw [if_neg c]]
    rw [decide_eq_false c] at qc
    generalize dL l 6 = D at *
    generalize dA l 6 = A at *
    dsimp only [srcB] at *
    (dsimp only [c100]; simp (maxSteps := 8000000) (implicitDefEqProofs := false) (disch := omega) only [↓reduceIte, go_sem, if_pos, if_neg, qs, qk, qq, qd, qc])
    exact endT_of [1] (.inr rfl) (by simp (maxSteps := 8000000) (implicitDefEqProofs := false) (disch := omega) only [↓reduceIte, go_sem, if_pos, if_neg]; rfl) (by simp (maxSteps := 8000000) (implicitDefEqProofs := false) (disch := omega) only [↓reduceIte, go_sem, if_pos, if_neg]) (by simp (maxSteps := 8000000) (implicitDefEqProofs := false) (disch := omega) only [↓reduceIte, go_sem, if_pos, if_neg]) (by decide) (by simp)
noncomputable def drawS_S := specP (fun x : List Int => [.s (bsT x)]) (fun x => (isB x) ∧ (x.length ≤ 1048576)) (fun x => (.tup [.p (.int .i64 (kyDV x 0)), .p (.int .i64 (sqDV x 3)), .os 0 0 (slL x).length], [.cells 5 (zOf (slL x).length 1) (bsT (slL x))]))
theorem drawS_at (l : List Int) (h : (isB l) ∧ (l.length ≤ 1048576)) : drawS_S [.s (bsT l)] = some ((.tup [.p (.int .i64 (kyDV l 0)), .p (.int .i64 (sqDV l 3)), .os 0 0 (slL l).length], [.cells 5 (zOf (slL l).length 1) (bsT (slL l))])) := specP_at (enc := fun x : List Int => [.s (bsT x)]) (by rintro a0 b0 h; simp only [List.cons.injEq, and_true] at h; have h0 := h; obtain rfl := sby_inj h0; rfl) l h
-- spec.DrawSealBytes
def c19 : AF := ⟨26,
  (.seq (.reg [⟨(some 2), none, .mv (.v (.int .i64 0))⟩,
   ⟨(some 3), none, .mv (.v (.int .i64 0))⟩,
   ⟨(some 4), none, .mv (.v (.slice none 0 0))⟩])
  (.seq (.reg [⟨(some 9), none, .mv (.t 0)⟩,
   ⟨(some 10), none, .call 92 [(.t 9)]⟩,
   ⟨(some 5), none, .mv (.t 10)⟩])
  (.seq (.reg [⟨(some 12), none, .mv (.t 0)⟩,
   ⟨(some 13), none, .call 100 [(.t 12)]⟩,
   ⟨(some 11), none, .mv (.t 13)⟩,
   ⟨(some 14), none, .ext (.t 11) 0⟩,
   ⟨(some 15), none, .ext (.t 11) 1⟩,
   ⟨(some 16), none, .ext (.t 11) 2⟩,
   ⟨(some 6), none, .mv (.t 14)⟩,
   ⟨(some 7), none, .mv (.t 15)⟩,
   ⟨(some 8), none, .mv (.t 16)⟩])
  (.seq (.seq (.reg [⟨(some 17), none, .mv (.t 5)⟩,
   ⟨(some 18), none, .call 101 [(.t 17), (.v (.int .i64 12))]⟩])
  (.cond (.t 18) (.reg [⟨(some 19), none, .mv (.t 5)⟩,
   ⟨(some 20), none, .call 102 [(.t 19), (.v (.int .i64 2))]⟩,
   ⟨(some 21), none, .bin .add (.v (.int .i64 480)) (.t 20)⟩,
   ⟨(some 22), none, .mkSl 5 1 1 [(.int .u8 0)] (.t 21) (.t 21)⟩,
   ⟨(some 8), none, .mv (.t 22)⟩])
  .skip))
  (.seq (.reg [⟨(some 23), none, .mv (.t 6)⟩,
   ⟨(some 24), none, .mv (.t 7)⟩,
   ⟨(some 25), none, .mv (.t 8)⟩,
   ⟨(some 2), none, .mv (.t 23)⟩,
   ⟨(some 3), none, .mv (.t 24)⟩,
   ⟨(some 4), none, .mv (.t 25)⟩])
  .ret))))),
  [.t 2, .t 3, .t 4]⟩
theorem k19 : cFn Try.prog Try.f19 = some c19 := by kernel_rfl
theorem drawS_ok : OkT Try.prog 19 (pureSp drawS_S) := by
  refine okT_fn (OkΓT.cons source_ok (OkΓT.cons drawT_ok (OkΓT.cons chance_ok (OkΓT.cons next_ok (OkΓT.nil _))))) Try.func19 (by kernel_rfl) k19 (fun x _ => ⟨rfl, by simp only [go_sem, List.all_cons, List.all_nil]⟩) ?_
  rintro l ⟨h1, h2⟩
  try dsimp only at *
  have qs := source_at l
  have qt := drawT_at l ⟨h1, h2⟩
  have qc : chance_S [.op 0 0 0, .p (.int .i64 12)] [srcB l 0] = some (.p (.bool (decide (drwV l 0 12 = 0))), [srcB l 1]) := chance_at l 0 12 ⟨⟨h1, h2, by decide, by decide⟩, by decide, by decide⟩
  generalize kyDV l 0 = K at *
  generalize sqDV l 3 = Q at *
  by_cases c : drwV l 0 12 = 0
  · rw [show slL l = List.replicate (480 + drwV l 1 2).toNat 0 by unfold slL; rw [if_pos c]]
    rw [decide_eq_true c] at qc
    have qn : next_S [.op 0 0 0, .p (.int .i64 2)] [srcB l 1] = some (.p (.int .i64 (drwV l 1 2)), [srcB l 2]) := next_at l 1 2 ⟨⟨h1, h2, by decide, by decide⟩, by decide, by decide⟩
    obtain ⟨a1, a2, _⟩ := drwV_bd l 1 2
    have a2 := a2 (by omega)
    generalize drwV l 1 2 = n at *
    obtain ⟨n, rfl⟩ := Int.eq_ofNat_of_zero_le a1
    have en : (480 + (n : Int)).toNat = 480 + n := by omega
    have e := bs_rep (480 + n)
    have eL : (List.replicate (480 + n) (0 : Int)).length = 480 + n := List.length_replicate
    have ez : zOf (480 + n) 1 = 1 := zOf_pos (by omega)
    rw [en]
    generalize List.replicate (480 + n) (0 : Int) = R at *
    rw [eL, ez]
    generalize tgL l = D at *
    dsimp only [srcB] at *
    (dsimp only [c19]; simp (maxSteps := 8000000) (implicitDefEqProofs := false) (disch := omega) only [↓reduceIte, go_sem, if_pos, if_neg, qs, qt, qc, qn, en, ← e])
    exact endT_of [2] (.inr rfl) (by simp (maxSteps := 8000000) (implicitDefEqProofs := false) (disch := omega) only [↓reduceIte, go_sem, if_pos, if_neg]; rfl) (by simp (maxSteps := 8000000) (implicitDefEqProofs := false) (disch := omega) only [↓reduceIte, go_sem, if_pos, if_neg]) (by simp (maxSteps := 8000000) (implicitDefEqProofs := false) (disch := omega) only [↓reduceIte, go_sem, if_pos, if_neg]) (by decide) (by simp)
  · rw [show slL l = tgL l by unfold slL; rw [if_neg c]]
    rw [decide_eq_false c] at qc
    generalize tgL l = D at *
    dsimp only [srcB] at *
    (dsimp only [c19]; simp (maxSteps := 8000000) (implicitDefEqProofs := false) (disch := omega) only [↓reduceIte, go_sem, if_pos, if_neg, qs, qt, qc])
    exact endT_of [1] (.inr rfl) (by simp (maxSteps := 8000000) (implicitDefEqProofs := false) (disch := omega) only [↓reduceIte, go_sem, if_pos, if_neg]; rfl) (by simp (maxSteps := 8000000) (implicitDefEqProofs := false) (disch := omega) only [↓reduceIte, go_sem, if_pos, if_neg]) (by simp (maxSteps := 8000000) (implicitDefEqProofs := false) (disch := omega) only [↓reduceIte, go_sem, if_pos, if_neg]) (by decide) (by simp)

/-- What a law draws below n, at a place. -/
def lwV (l : List Int) (i n : Int) : Int := if n ≤ 1 then 0 else if l.length = 0 then (i * 7) % n else if n > 200 then ((l.getD (i % l.length).toNat 0 + i / l.length * 3) * 251 + l.getD ((i + 1) % l.length).toNat 0) % n else (l.getD (i % l.length).toNat 0 + i / l.length * 3) % n
theorem lwV_bd (l : List Int) (i n : Int) (h : 1 ≤ n) : 0 ≤ lwV l i n ∧ lwV l i n < n := by
  unfold lwV
  split
  · omega
  · split
    · exact ⟨Int.emod_nonneg _ (by omega), Int.emod_lt_of_pos _ (by omega)⟩
    · split
      · exact ⟨Int.emod_nonneg _ (by omega), Int.emod_lt_of_pos _ (by omega)⟩
      · exact ⟨Int.emod_nonneg _ (by omega), Int.emod_lt_of_pos _ (by omega)⟩
noncomputable def lwAt_S := specP (fun x : List Int × Int × Int => [.s (bsT x.1), .p (.int .i64 x.2.1), .p (.int .i64 x.2.2)]) (fun x => (isB x.1) ∧ (x.1.length ≤ 1048576) ∧ (0 ≤ x.2.1 ∧ x.2.1 ≤ 100) ∧ (0 ≤ x.2.2 ∧ x.2.2 ≤ 1048576)) (fun x => (.p (.int .i64 (lwV x.1 x.2.1 x.2.2)), []))
theorem lwAt_at (l : List Int) (i : Int) (n : Int) (h : (isB l) ∧ (l.length ≤ 1048576) ∧ (0 ≤ i ∧ i ≤ 100) ∧ (0 ≤ n ∧ n ≤ 1048576)) : lwAt_S [.s (bsT l), .p (.int .i64 i), .p (.int .i64 n)] = some ((.p (.int .i64 (lwV l i n)), [])) := specP_at (enc := fun x : List Int × Int × Int => [.s (bsT x.1), .p (.int .i64 x.2.1), .p (.int .i64 x.2.2)]) (by rintro ⟨a0, a1, a2⟩ ⟨b0, b1, b2⟩ h; simp only [List.cons.injEq, and_true] at h; obtain ⟨h0, h1, h2⟩ := h; obtain rfl := sby_inj h0; obtain rfl := p64_inj h1; obtain rfl := p64_inj h2; rfl) (l, i, n) h
-- laws.lwAt
def c23 : AF := ⟨47,
  (.seq (.reg [⟨(some 6), none, .mv (.v (.int .i64 0))⟩])
  (.seq (.reg [⟨(some 9), none, .mv (.t 0)⟩,
   ⟨(some 10), none, .len (.t 9)⟩,
   ⟨(some 7), none, .mv (.t 10)⟩])
  (.seq (.seq (.reg [⟨(some 11), none, .mv (.t 2)⟩,
   ⟨(some 12), none, .bin .leq (.t 11) (.v (.int .i64 1))⟩])
  (.cond (.t 12) (.seq (.reg [⟨(some 6), none, .mv (.v (.int .i64 0))⟩])
  .ret)
  .skip))
  (.seq (.seq (.reg [⟨(some 13), none, .mv (.t 7)⟩,
   ⟨(some 14), none, .bin .eql (.t 13) (.v (.int .i64 0))⟩])
  (.cond (.t 14) (.seq (.reg [⟨(some 15), none, .mv (.t 1)⟩,
   ⟨(some 16), none, .bin .mul (.t 15) (.v (.int .i64 7))⟩,
   ⟨(some 17), none, .mv (.t 2)⟩,
   ⟨(some 18), none, .bin .rem (.t 16) (.t 17)⟩,
   ⟨(some 6), none, .mv (.t 18)⟩])
  .ret)
  .skip))
  (.seq (.drw [⟨(some 19), none, .mv (.t 0)⟩,
   ⟨(some 20), none, .mv (.t 1)⟩,
   ⟨(some 21), none, .mv (.t 7)⟩,
   ⟨(some 22), none, .bin .rem (.t 20) (.t 21)⟩,
   ⟨(some 23), none, .ia 1 (.t 19) (.t 22)⟩,
   ⟨(some 24), none, .ld (.t 23)⟩,
   ⟨(some 25), none, .cvI .i64 (.t 24)⟩,
   ⟨(some 26), none, .mv (.t 1)⟩,
   ⟨(some 27), none, .mv (.t 7)⟩,
   ⟨(some 28), none, .bin .quo (.t 26) (.t 27)⟩,
   ⟨(some 29), none, .bin .mul (.t 28) (.v (.int .i64 3))⟩] [⟨(some 30), none, .bin .add (.t 25) (.t 29)⟩,
   ⟨(some 8), none, .mv (.t 30)⟩])
  (.seq (.seq (.reg [⟨(some 31), none, .mv (.t 2)⟩,
   ⟨(some 32), none, .bin .gtr (.t 31) (.v (.int .i64 200))⟩])
  (.cond (.t 32) (.reg [⟨(some 33), none, .mv (.t 8)⟩,
   ⟨(some 34), none, .bin .mul (.t 33) (.v (.int .i64 251))⟩,
   ⟨(some 35), none, .mv (.t 0)⟩,
   ⟨(some 36), none, .mv (.t 1)⟩,
   ⟨(some 37), none, .bin .add (.t 36) (.v (.int .i64 1))⟩,
   ⟨(some 38), none, .mv (.t 7)⟩,
   ⟨(some 39), none, .bin .rem (.t 37) (.t 38)⟩,
   ⟨(some 40), none, .ia 1 (.t 35) (.t 39)⟩,
   ⟨(some 41), none, .ld (.t 40)⟩,
   ⟨(some 42), none, .cvI .i64 (.t 41)⟩,
   ⟨(some 43), none, .bin .add (.t 34) (.t 42)⟩,
   ⟨(some 8), none, .mv (.t 43)⟩])
  .skip))
  (.seq (.reg [⟨(some 44), none, .mv (.t 8)⟩,
   ⟨(some 45), none, .mv (.t 2)⟩,
   ⟨(some 46), none, .bin .rem (.t 44) (.t 45)⟩,
   ⟨(some 6), none, .mv (.t 46)⟩])
  .ret))))))),
  [.t 6]⟩
theorem k23 : cFn Try.prog Try.f23 = some c23 := by kernel_rfl
theorem lwAt_ok : OkT Try.prog 23 (pureSp lwAt_S) := by
  refine okT_fn (OkΓT.nil _) Try.func23 (by kernel_rfl) k23 (fun x _ => ⟨by first | rfl | simp only [go_sem], by first | rfl | simp only [go_sem]⟩) ?_
  rintro ⟨l, a, n⟩ ⟨h1, h2, ⟨h3, h4⟩, h5, h6⟩
  try dsimp only at *
  have hlen := bs_len l
  by_cases c0 : n ≤ 1
  · have hv : lwV l a n = 0 := by unfold lwV; rw [if_pos c0]
    rw [hv]
    (dsimp only [c23]; simp (maxSteps := 8000000) (implicitDefEqProofs := false) (disch := omega) only [↓reduceIte, go_sem, if_pos, if_neg, hlen, eq_true c0])
    exact endT_v (.inr rfl) (by (simp (maxSteps := 8000000) (implicitDefEqProofs := false) (disch := omega) only [↓reduceIte, go_sem, if_pos, if_neg]) <;> rfl) (fun _ => rfl)
  by_cases c1 : (l.length : Int) = 0
  · have hv : lwV l a n = (a * 7) % n := by unfold lwV; rw [if_neg c0, if_pos (by omega)]
    have q := rem64 (n := a * 7) (b := n) (by omega) (by omega)
    rw [hv]
    (dsimp only [c23]; simp (maxSteps := 8000000) (implicitDefEqProofs := false) (disch := omega) only [↓reduceIte, go_sem, if_pos, if_neg, eq_false c0, hlen, eq_true c1, ↓q])
    exact endT_v (.inr rfl) (by (simp (maxSteps := 8000000) (implicitDefEqProofs := false) (disch := omega) only [↓reduceIte, go_sem, if_pos, if_neg]) <;> rfl) (fun _ => rfl)
  have hk : (0 : Int) < l.length := by omega
  have m1 : 0 ≤ a % l.length ∧ a % l.length < l.length := ⟨Int.emod_nonneg _ (by omega), Int.emod_lt_of_pos _ hk⟩
  have m2 : 0 ≤ (a + 1) % l.length ∧ (a + 1) % l.length < l.length := ⟨Int.emod_nonneg _ (by omega), Int.emod_lt_of_pos _ hk⟩
  have m3 : 0 ≤ a / l.length ∧ a / l.length ≤ a := ⟨Int.ediv_nonneg h3 (by omega), Int.ediv_le_self _ h3⟩
  have q1 := rem64 (n := a) (b := l.length) (by omega) hk
  have q2 := rem64 (n := a + 1) (b := l.length) (by omega) hk
  have q3 := quo64 (n := a) (b := l.length) (by omega) hk
  have g1 := bs_get (l := l) (i := (a % l.length).toNat) (by omega)
  have g2 := bs_get (l := l) (i := ((a + 1) % l.length).toNat) (by omega)
  have b1 := isB_get h1 (a % l.length).toNat
  have b2 := isB_get h1 ((a + 1) % l.length).toNat
  have hnv : lwV l a n = if n > 200 then ((l.getD (a % l.length).toNat 0 + a / l.length * 3) * 251 + l.getD ((a + 1) % l.length).toNat 0) % n else (l.getD (a % l.length).toNat 0 + a / l.length * 3) % n := by
    unfold lwV; rw [if_neg c0, if_neg (by omega)]
  generalize l.getD (a % l.length).toNat 0 = x1 at *
  generalize l.getD ((a + 1) % l.length).toNat 0 = x2 at *
  generalize a % l.length = y1 at *
  generalize (a + 1) % l.length = y2 at *
  generalize a / l.length = y3 at *
  by_cases c2 : n > 200
  · rw [if_pos c2] at hnv
    have q := rem64 (n := (x1 + y3 * 3) * 251 + x2) (b := n) (by omega) (by omega)
    rw [hnv]
    (dsimp only [c23]; simp (maxSteps := 8000000) (implicitDefEqProofs := false) (disch := omega) only [↓reduceIte, go_sem, if_pos, if_neg, eq_false c0, hlen, eq_false c1, ↓q1, ↓q2, ↓q3, g1, g2, eq_true c2, ↓q])
    exact endT_v (.inr rfl) (by (simp (maxSteps := 8000000) (implicitDefEqProofs := false) (disch := omega) only [↓reduceIte, go_sem, if_pos, if_neg]) <;> rfl) (fun _ => rfl)
  · rw [if_neg c2] at hnv
    have q := rem64 (n := x1 + y3 * 3) (b := n) (by omega) (by omega)
    rw [hnv]
    (dsimp only [c23]; simp (maxSteps := 8000000) (implicitDefEqProofs := false) (disch := omega) only [↓reduceIte, go_sem, if_pos, if_neg, eq_false c0, hlen, eq_false c1, ↓q1, ↓q2, ↓q3, g1, g2, eq_false c2, ↓q])
    exact endT_v (.inr rfl) (by (simp (maxSteps := 8000000) (implicitDefEqProofs := false) (disch := omega) only [↓reduceIte, go_sem, if_pos, if_neg]) <;> rfl) (fun _ => rfl)
end Go.Proofs.Ytkijbknnbmbnbaa
