import Derived.Test.YtkijbknnbmbnbaaQ1
import Derived.Test.YtkijbknnbmbnbaaE12
set_option linter.unusedSimpArgs false
set_option linter.unusedVariables false
set_option maxRecDepth 100000
set_option maxHeartbeats 4000000
namespace Go.Proofs.Ytkijbknnbmbnbaa
open Go Go.AH
attribute [local irreducible] awpT ropsT qopsT stepT condKT gdKT EndT joinK loopKT seqKT blkKT kont kontR
/-! Draws of bytes, keys and sizes -/

def pkV (l : List Int) (a : Int) (L : List Int) : Int := L.getD (drwV l a L.length).toNat 0
theorem pkV_mem (l : List Int) (a : Int) {L : List Int} (h : 1 ≤ L.length) : pkV l a L ∈ L := by
  obtain ⟨n1, n2, _⟩ := drwV_bd l a L.length
  have n2 := n2 (by omega)
  have hi : (drwV l a L.length).toNat < L.length := by omega
  unfold pkV
  rw [List.getD_eq_getElem?_getD, List.getElem?_eq_getElem hi]
  exact List.getElem_mem hi
theorem pkV_at (l : List Int) (a : Int) (L : List Int) (h : srcP l a ∧ 1 ≤ L.length ∧ L.length ≤ 100) : pick_S [.op 0 0 0, .os 1 0 L.length] [srcB l a, .cells 2 1 (isT L)] = some (.p (.int .i64 (pkV l a L)), [srcB l (a + 1), .cells 2 1 (isT L)]) := pick_at l a L h
def dN (l : List Int) (a : Int) : Int := pkV l (a + 1 + 1 + 1) [drwV l a 9, drwV l (a + 1) 30, drwV l (a + 1 + 1) 30, 0, 400, 401]
theorem dN_bd (l : List Int) (a : Int) : 0 ≤ dN l a ∧ dN l a ≤ 401 := by
  have h := pkV_mem l (a + 1 + 1 + 1) (L := [drwV l a 9, drwV l (a + 1) 30, drwV l (a + 1 + 1) 30, 0, 400, 401]) (by show 1 ≤ 6; decide)
  obtain ⟨a1, a2, _⟩ := drwV_bd l a 9
  obtain ⟨b1, b2, _⟩ := drwV_bd l (a + 1) 30
  obtain ⟨c1, c2, _⟩ := drwV_bd l (a + 1 + 1) 30
  have a2 := a2 (by omega); have b2 := b2 (by omega); have c2 := c2 (by omega)
  show 0 ≤ pkV l (a + 1 + 1 + 1) _ ∧ _
  simp only [List.mem_cons, List.not_mem_nil, or_false] at h
  unfold dN
  omega
def dL (l : List Int) (a : Int) : List Int := someL l (a + 1 + 1 + 1 + 1) (dN l a).toNat
def dA (l : List Int) (a : Int) : Int := a + 1 + 1 + 1 + 1 + 3 * ((dN l a).toNat : Int)
theorem dL_len (l : List Int) (a : Int) : (dL l a).length = (dN l a).toNat := someL_len _ _ _
theorem dL_bd (l : List Int) (a : Int) : isB (dL l a) := someL_bd _ _ _
theorem dA_bd (l : List Int) (a : Int) : a ≤ dA l a ∧ dA l a ≤ a + 1207 := by have := dN_bd l a; unfold dA; omega
noncomputable def data_S := specL (fun x : List Int × Int => [.op 0 0 0]) (fun x : List Int × Int => [srcB x.1 x.2]) (fun x => isB x.1 ∧ x.1.length ≤ 1048576 ∧ 0 ≤ x.2 ∧ x.2 ≤ 900000) (fun x => (.os 1 0 (dL x.1 x.2).length, [srcB x.1 (dA x.1 x.2), .cells 5 (zOf (dL x.1 x.2).length 1) (bsT (dL x.1 x.2))]))
theorem data_at (l : List Int) (a : Int) (h : isB l ∧ l.length ≤ 1048576 ∧ 0 ≤ a ∧ a ≤ 900000) : data_S [.op 0 0 0] [srcB l a] = some (.os 1 0 (dL l a).length, [srcB l (dA l a), .cells 5 (zOf (dL l a).length 1) (bsT (dL l a))]) := specL_at (enc := fun x : List Int × Int => [.op 0 0 0]) (encH := fun x : List Int × Int => [srcB x.1 x.2]) (by rintro ⟨a, b⟩ ⟨a1, b1⟩ h k; simp only [List.cons.injEq, and_true] at k; obtain ⟨rfl, rfl⟩ := srcB_inj k; rfl) (l, a) h
-- spec.l1Data
def c93 : AF := ⟨14,
  (.seq (.reg [⟨(some 2), none, .mv (.v (.slice none 0 0))⟩])
  (.seq (.reg [⟨(some 3), none, .mv (.t 0)⟩,
   ⟨(some 4), none, .mv (.t 0)⟩,
   ⟨(some 5), none, .mv (.t 0)⟩,
   ⟨(some 6), none, .call 102 [(.t 5), (.v (.int .i64 9))]⟩,
   ⟨(some 7), none, .mv (.t 0)⟩,
   ⟨(some 8), none, .call 102 [(.t 7), (.v (.int .i64 30))]⟩,
   ⟨(some 9), none, .mv (.t 0)⟩,
   ⟨(some 10), none, .call 102 [(.t 9), (.v (.int .i64 30))]⟩,
   ⟨(some 11), none, .mkS 2 6 [(.int .i64 0), (.int .i64 0), (.int .i64 0), (.int .i64 0), (.int .i64 0), (.int .i64 0)] [(0, 1, (.t 6)), (1, 1, (.t 8)), (2, 1, (.t 10)), (3, 1, (.v (.int .i64 0))), (4, 1, (.v (.int .i64 400))), (5, 1, (.v (.int .i64 401)))]⟩,
   ⟨(some 12), none, .call 94 [(.t 4), (.t 11)]⟩,
   ⟨(some 13), none, .call 186 [(.t 3), (.t 12)]⟩,
   ⟨(some 2), none, .mv (.t 13)⟩])
  .ret)),
  [.t 2]⟩
theorem k93 : cFn Try.prog Try.f93 = some c93 := by kernel_rfl
theorem data_ok : OkT Try.prog 93 (locSp data_S) := by
  refine okT_lc (OkΓT.cons next_ok (OkΓT.cons pick_ok (OkΓT.cons some_ok (OkΓT.nil _)))) Try.func93 (by kernel_rfl) k93 ?_
  rintro ⟨l, a⟩ ⟨h1, h2, h3, h4⟩
  refine ⟨by simp, ?_⟩
  show awpT 1 _ _ (EndK 1 _ _ _) _
  try dsimp only at *
  have hb := dN_bd l a
  have q1 := next_at l a 9 ⟨⟨h1, h2, by omega, by omega⟩, by decide, by decide⟩
  have q2 := next_at l (a + 1) 30 ⟨⟨h1, h2, by omega, by omega⟩, by decide, by decide⟩
  have q3 := next_at l (a + 1 + 1) 30 ⟨⟨h1, h2, by omega, by omega⟩, by decide, by decide⟩
  have q4 : pick_S [.op 0 0 0, .os 1 0 6] [srcB l (a + 1 + 1 + 1), .cells 2 1 [.p (.int .i64 (drwV l a 9)), .p (.int .i64 (drwV l (a + 1) 30)), .p (.int .i64 (drwV l (a + 1 + 1) 30)), .p (.int .i64 0), .p (.int .i64 400), .p (.int .i64 401)]] = some (.p (.int .i64 (dN l a)), [srcB l (a + 1 + 1 + 1 + 1), .cells 2 1 [.p (.int .i64 (drwV l a 9)), .p (.int .i64 (drwV l (a + 1) 30)), .p (.int .i64 (drwV l (a + 1 + 1) 30)), .p (.int .i64 0), .p (.int .i64 400), .p (.int .i64 401)]]) := pkV_at l (a + 1 + 1 + 1) [drwV l a 9, drwV l (a + 1) 30, drwV l (a + 1 + 1) 30, 0, 400, 401] ⟨⟨h1, h2, by omega, by omega⟩, (by show 1 ≤ 6; decide), (by show 6 ≤ 100; decide)⟩
  have q5 := some_at l (a + 1 + 1 + 1 + 1) (dN l a).toNat ⟨⟨h1, h2, by omega, by omega⟩, by omega⟩
  have hA : a + 1 + 1 + 1 + 1 + 3 * ((dN l a).toNat : Int) = dA l a := rfl
  have hL : someL l (a + 1 + 1 + 1 + 1) (dN l a).toNat = dL l a := rfl
  rw [hA, hL] at q5
  rw [show ((dN l a).toNat : Int) = dN l a by omega, show (dN l a).toNat = (dL l a).length from (dL_len l a).symm] at q5
  generalize dL l a = D at *
  generalize dA l a = A at *
  clear hA hL
  generalize dN l a = N at *
  generalize drwV l a 9 = n1 at *
  generalize drwV l (a + 1) 30 = n2 at *
  generalize drwV l (a + 1 + 1) 30 = n3 at *
  dsimp only [srcB] at *
  (dsimp only [c93]; simp (maxSteps := 8000000) (implicitDefEqProofs := false) (disch := omega) only [↓reduceIte, go_sem, if_pos, if_neg, q1, q2, q3, q4, q5])
  exact endK_of [0, 2] (.inr rfl) (by simp (maxSteps := 8000000) (implicitDefEqProofs := false) (disch := omega) only [↓reduceIte, go_sem, if_pos, if_neg]; rfl) (by simp (maxSteps := 8000000) (implicitDefEqProofs := false) (disch := omega) only [↓reduceIte, go_sem, if_pos, if_neg]) (by simp (maxSteps := 8000000) (implicitDefEqProofs := false) (disch := omega) only [↓reduceIte, go_sem, if_pos, if_neg]) (by decide) (by simp) (by decide)

def pdS (l : List Int) : Int := pkV l (dA l 0) [4, 8, 1, 16, 0, 17]
def pdX (l : List Int) : Int := pkV l (dA l 0 + 1) [4, 0, 255, 256]
noncomputable def drawP_S := specP (fun x : List Int => [.s (bsT x)]) (fun x => (isB x) ∧ (x.length ≤ 1048576)) (fun x => (.tup [.os 0 0 (dL x 0).length, .p (.int .i64 (pdS x)), .p (.int .i64 (pdX x))], [.cells 5 (zOf (dL x 0).length 1) (bsT (dL x 0))]))
theorem drawP_at (l : List Int) (h : (isB l) ∧ (l.length ≤ 1048576)) : drawP_S [.s (bsT l)] = some ((.tup [.os 0 0 (dL l 0).length, .p (.int .i64 (pdS l)), .p (.int .i64 (pdX l))], [.cells 5 (zOf (dL l 0).length 1) (bsT (dL l 0))])) := specP_at (enc := fun x : List Int => [.s (bsT x)]) (by rintro a0 b0 h; simp only [List.cons.injEq, and_true] at h; have h0 := h; obtain rfl := sby_inj h0; rfl) l h
-- spec.DrawPadBytes
def c15 : AF := ⟨16,
  (.seq (.reg [⟨(some 2), none, .mv (.v (.slice none 0 0))⟩,
   ⟨(some 3), none, .mv (.v (.int .i64 0))⟩,
   ⟨(some 4), none, .mv (.v (.int .i64 0))⟩])
  (.seq (.reg [⟨(some 6), none, .mv (.t 0)⟩,
   ⟨(some 7), none, .call 92 [(.t 6)]⟩,
   ⟨(some 5), none, .mv (.t 7)⟩])
  (.seq (.reg [⟨(some 8), none, .mv (.t 5)⟩,
   ⟨(some 9), none, .call 93 [(.t 8)]⟩,
   ⟨(some 10), none, .mv (.t 5)⟩,
   ⟨(some 11), none, .mkS 2 6 [(.int .i64 0), (.int .i64 0), (.int .i64 0), (.int .i64 0), (.int .i64 0), (.int .i64 0)] [(0, 1, (.v (.int .i64 4))), (1, 1, (.v (.int .i64 8))), (2, 1, (.v (.int .i64 1))), (3, 1, (.v (.int .i64 16))), (4, 1, (.v (.int .i64 0))), (5, 1, (.v (.int .i64 17)))]⟩,
   ⟨(some 12), none, .call 94 [(.t 10), (.t 11)]⟩,
   ⟨(some 13), none, .mv (.t 5)⟩,
   ⟨(some 14), none, .mkS 2 4 [(.int .i64 0), (.int .i64 0), (.int .i64 0), (.int .i64 0)] [(0, 1, (.v (.int .i64 4))), (1, 1, (.v (.int .i64 0))), (2, 1, (.v (.int .i64 255))), (3, 1, (.v (.int .i64 256)))]⟩,
   ⟨(some 15), none, .call 94 [(.t 13), (.t 14)]⟩,
   ⟨(some 2), none, .mv (.t 9)⟩,
   ⟨(some 3), none, .mv (.t 12)⟩,
   ⟨(some 4), none, .mv (.t 15)⟩])
  .ret))),
  [.t 2, .t 3, .t 4]⟩
theorem k15 : cFn Try.prog Try.f15 = some c15 := by kernel_rfl
theorem drawP_ok : OkT Try.prog 15 (pureSp drawP_S) := by
  refine okT_fn (OkΓT.cons source_ok (OkΓT.cons data_ok (OkΓT.cons pick_ok (OkΓT.nil _)))) Try.func15 (by kernel_rfl) k15 (fun x _ => ⟨rfl, by simp only [go_sem, List.all_cons, List.all_nil]⟩) ?_
  rintro l ⟨h1, h2⟩
  try dsimp only at *
  have hA := dA_bd l 0
  have qs := source_at l
  have qd := data_at l 0 ⟨h1, h2, by decide, by decide⟩
  have q1 : pick_S [.op 0 0 0, .os 1 0 6] [srcB l (dA l 0), .cells 2 1 [.p (.int .i64 4), .p (.int .i64 8), .p (.int .i64 1), .p (.int .i64 16), .p (.int .i64 0), .p (.int .i64 17)]] = some (.p (.int .i64 (pdS l)), [srcB l (dA l 0 + 1), .cells 2 1 [.p (.int .i64 4), .p (.int .i64 8), .p (.int .i64 1), .p (.int .i64 16), .p (.int .i64 0), .p (.int .i64 17)]]) := pkV_at l (dA l 0) [4, 8, 1, 16, 0, 17] ⟨⟨h1, h2, by omega, by omega⟩, (by show 1 ≤ 6; decide), (by show 6 ≤ 100; decide)⟩
  have q2 : pick_S [.op 0 0 0, .os 1 0 4] [srcB l (dA l 0 + 1), .cells 2 1 [.p (.int .i64 4), .p (.int .i64 0), .p (.int .i64 255), .p (.int .i64 256)]] = some (.p (.int .i64 (pdX l)), [srcB l (dA l 0 + 1 + 1), .cells 2 1 [.p (.int .i64 4), .p (.int .i64 0), .p (.int .i64 255), .p (.int .i64 256)]]) := pkV_at l (dA l 0 + 1) [4, 0, 255, 256] ⟨⟨h1, h2, by omega, by omega⟩, (by show 1 ≤ 4; decide), (by show 4 ≤ 100; decide)⟩
  generalize pdS l = S at *
  generalize pdX l = X at *
  generalize dL l 0 = D at *
  generalize dA l 0 = A at *
  dsimp only [srcB] at *
  (dsimp only [c15]; simp (maxSteps := 8000000) (implicitDefEqProofs := false) (disch := omega) only [↓reduceIte, go_sem, if_pos, if_neg, qs, qd, q1, q2])
  exact endT_of [1] (.inr rfl) (by simp (maxSteps := 8000000) (implicitDefEqProofs := false) (disch := omega) only [↓reduceIte, go_sem, if_pos, if_neg]; rfl) (by simp (maxSteps := 8000000) (implicitDefEqProofs := false) (disch := omega) only [↓reduceIte, go_sem, if_pos, if_neg]) (by simp (maxSteps := 8000000) (implicitDefEqProofs := false) (disch := omega) only [↓reduceIte, go_sem, if_pos, if_neg]) (by decide) (by simp)

theorem pdS_mem (l : List Int) : pdS l = 4 ∨ pdS l = 8 ∨ pdS l = 1 ∨ pdS l = 16 ∨ pdS l = 0 ∨ pdS l = 17 := by
  have h := pkV_mem l (dA l 0) (L := [4, 8, 1, 16, 0, 17]) (by show 1 ≤ 6; decide)
  simp only [List.mem_cons, List.not_mem_nil, or_false] at h
  exact h
theorem pdX_mem (l : List Int) : pdX l = 4 ∨ pdX l = 0 ∨ pdX l = 255 ∨ pdX l = 256 := by
  have h := pkV_mem l (dA l 0 + 1) (L := [4, 0, 255, 256]) (by show 1 ≤ 4; decide)
  simp only [List.mem_cons, List.not_mem_nil, or_false] at h
  exact h
-- impl.PadBytes
def c16 : AF := ⟨28,
  (.seq (.reg [⟨(some 6), none, .alloc 27 [(.int .i64 0), (.slice none 0 0)]⟩])
  (.seq (.block 0 (.seq (.reg [⟨(some 8), none, .mv (.t 1)⟩,
   ⟨(some 9), none, .call 95 [(.t 8), (.v (.int .i64 1)), (.v (.int .i64 16))]⟩,
   ⟨(some 10), none, .un .not (.t 9)⟩,
   ⟨(some 11), none, .mv (.t 10)⟩,
   ⟨(some 12), (some (11, false)), .mv (.t 2)⟩,
   ⟨(some 13), (some (11, false)), .call 95 [(.t 12), (.v (.int .i64 0)), (.v (.int .i64 255))]⟩,
   ⟨(some 14), (some (11, false)), .un .not (.t 13)⟩,
   ⟨(some 15), none, .pick (.t 11) (.v (.bool true)) (.t 14)⟩,
   ⟨(some 7), none, .mv (.t 15)⟩])
  (.cond (.t 7) (.seq (.reg [⟨(some 16), none, .build [(.int .i64 0), (.slice none 0 0)] [(0, 1, (.v (.int .i64 3)))]⟩,
   ⟨none, none, .st 2 (.t 6) (.t 16)⟩])
  .ret)
  (.seq (.reg [⟨(some 18), none, .mv (.t 0)⟩,
   ⟨(some 19), none, .len (.t 18)⟩,
   ⟨(some 20), none, .bin .gtr (.t 19) (.v (.int .i64 400))⟩,
   ⟨(some 17), none, .mv (.t 20)⟩])
  (.cond (.t 17) (.seq (.reg [⟨(some 21), none, .build [(.int .i64 0), (.slice none 0 0)] [(0, 1, (.v (.int .i64 2)))]⟩,
   ⟨none, none, .st 2 (.t 6) (.t 21)⟩])
  .ret)
  .skip)))))
  (.seq (.reg [⟨(some 22), none, .mv (.t 0)⟩,
   ⟨(some 23), none, .mv (.t 1)⟩,
   ⟨(some 24), none, .mv (.t 2)⟩,
   ⟨(some 25), none, .cvI .u8 (.t 24)⟩,
   ⟨(some 26), none, .call 96 [(.t 22), (.t 23), (.t 25)]⟩,
   ⟨(some 27), none, .build [(.int .i64 0), (.slice none 0 0)] [(0, 1, (.v (.int .i64 0))), (1, 1, (.t 26))]⟩,
   ⟨none, none, .st 2 (.t 6) (.t 27)⟩])
  .ret))),
  [.cell 6 (some 2)]⟩
theorem k16 : cFn Try.prog Try.f16 = some c16 := by kernel_rfl
theorem padBI_ok : OkT Try.prog 16 (pureSp padB_S) := by
  refine okT_fn (OkΓT.cons in_ok (OkΓT.cons padI_ok (OkΓT.nil _))) Try.func16 (by kernel_rfl) k16 (fun x _ => brV_own _ _) ?_
  rintro ⟨l, s, x⟩ ⟨h1, h2⟩
  try dsimp only at *
  have hlen := bs_len l
  by_cases c0 : 1 ≤ s ∧ s ≤ 16
  case neg =>
    rw [brV_bad (c' := 3) (by unfold padC; rw [if_neg (fun h => c0 h.1)]) (by decide)]
    (dsimp only [c16]; simp (maxSteps := 8000000) (implicitDefEqProofs := false) (disch := omega) only [↓reduceIte, go_sem, if_pos, if_neg, hlen, in_at, eq_false c0])
    exact endT_v (.inr rfl) (by (simp (maxSteps := 8000000) (implicitDefEqProofs := false) (disch := omega) only [↓reduceIte, go_sem, if_pos, if_neg]) <;> rfl) (fun _ => rfl)
  by_cases c1 : 0 ≤ x ∧ x ≤ 255
  case neg =>
    rw [brV_bad (c' := 3) (by unfold padC; rw [if_neg (fun h => c1 h.2)]) (by decide)]
    (dsimp only [c16]; simp (maxSteps := 8000000) (implicitDefEqProofs := false) (disch := omega) only [↓reduceIte, go_sem, if_pos, if_neg, hlen, in_at, eq_true c0, eq_false c1])
    exact endT_v (.inr rfl) (by (simp (maxSteps := 8000000) (implicitDefEqProofs := false) (disch := omega) only [↓reduceIte, go_sem, if_pos, if_neg]) <;> rfl) (fun _ => rfl)
  by_cases c2 : (l.length : Int) > 400
  case pos =>
    rw [brV_bad (c' := 2) (by unfold padC; rw [if_pos ⟨c0, c1⟩, if_pos c2]) (by decide)]
    (dsimp only [c16]; simp (maxSteps := 8000000) (implicitDefEqProofs := false) (disch := omega) only [↓reduceIte, go_sem, if_pos, if_neg, hlen, in_at, eq_true c0, eq_true c1, eq_true c2])
    exact endT_v (.inr rfl) (by (simp (maxSteps := 8000000) (implicitDefEqProofs := false) (disch := omega) only [↓reduceIte, go_sem, if_pos, if_neg]) <;> rfl) (fun _ => rfl)
  have hx := tu8 c1
  rw [brV_ok (by unfold padC; rw [if_pos ⟨c0, c1⟩, if_neg c2])]
  obtain ⟨s, rfl⟩ := Int.eq_ofNat_of_zero_le (show 0 ≤ s by omega)
  rw [Int.toNat_natCast]
  have hzo := zOf_pos (n := (padL l s x).length) (z := 1) (by rw [padL_len]; omega)
  have q := pad_at l s x ⟨h1, h2, by omega, by omega⟩
  rw [hzo]
  (dsimp only [c16]; simp (maxSteps := 8000000) (implicitDefEqProofs := false) (disch := omega) only [↓reduceIte, go_sem, if_pos, if_neg, hlen, in_at, eq_true c0, eq_true c1, eq_false c2, hx, q])
  exact endT_of [1] (.inr rfl) (by simp (maxSteps := 8000000) (implicitDefEqProofs := false) (disch := omega) only [↓reduceIte, go_sem, if_pos, if_neg]; rfl) (by simp (maxSteps := 8000000) (implicitDefEqProofs := false) (disch := omega) only [↓reduceIte, go_sem, if_pos, if_neg]) (by simp (maxSteps := 8000000) (implicitDefEqProofs := false) (disch := omega) only [↓reduceIte, go_sem, if_pos, if_neg]) (by decide) (by simp)
end Go.Proofs.Ytkijbknnbmbnbaa
