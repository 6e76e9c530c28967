import Derived.Test.YtkijbknnbmbnbaaE9
set_option linter.unusedSimpArgs false
set_option linter.unusedVariables false
set_option maxRecDepth 100000
set_option maxHeartbeats 4000000
namespace Go.Proofs.Ytkijbknnbmbnbaa
open Go Go.AH
attribute [local irreducible] awpT ropsT qopsT stepT condKT gdKT EndT joinK loopKT seqKT blkKT kont kontR
/-! Sealing and opening, padding and unpadding -/

theorem zOf_pos {n z : Nat} (h : 0 < n) : zOf n z = z := by unfold zOf; rw [if_neg (by omega)]
def brV (c : Int) (l : List Int) : TV × THeap := if c = 0 then (.agg [.p (.int .i64 0), .os 0 0 l.length], [.cells 5 (zOf l.length 1) (bsT l)]) else (.agg [.p (.int .i64 c), .nl], [])
theorem brV_bad {c c' : Int} {l : List Int} (h : c = c') (hc : c' ≠ 0) : brV c l = (.agg [.p (.int .i64 c'), .nl], []) := by unfold brV; rw [h, if_neg hc]
theorem brV_ok {c : Int} {l : List Int} (h : c = 0) : brV c l = (.agg [.p (.int .i64 0), .os 0 0 l.length], [.cells 5 (zOf l.length 1) (bsT l)]) := by unfold brV; rw [if_pos h]
theorem brV_own (c : Int) (l : List Int) : ownT (brV c l).1 = true ∧ (brV c l).2.all ownB = true := by
  unfold brV; split
  · exact ⟨rfl, by simp only [go_sem, List.all_cons, List.all_nil]⟩
  · exact ⟨rfl, rfl⟩
def sealC (k s : Int) (l : List Int) : Int := if keyP k s then (if (l.length : Int) > 480 then 2 else 0) else 3
def sealL (k s : Int) (l : List Int) : List Int := mixL k s l ++ putL (tagL k s (mixL k s l)) 4
theorem sealL_len (k s : Int) (l : List Int) : (sealL k s l).length = l.length + 4 := by simp [sealL, mixL_len, putL_len]
theorem sealL_bd (k s : Int) (l : List Int) : isB (sealL k s l) := isB_append (mixL_bd k s l) (putL_bd _ _)
def openC (k s : Int) (l : List Int) : Int := if keyP k s then (if 4 ≤ (l.length : Int) ∧ (l.length : Int) ≤ 484 then (if takeN (l.drop (l.length - 4)) = tagL k s (l.take (l.length - 4)) then 0 else 6) else 5) else 3
def openL (k s : Int) (l : List Int) : List Int := mixL k s (l.take (l.length - 4))
theorem openL_len (k s : Int) (l : List Int) : (openL k s l).length = l.length - 4 := by simp [openL, mixL_len]
theorem openL_bd (k s : Int) (l : List Int) : isB (openL k s l) := mixL_bd _ _ _
noncomputable def seal_S := specP (fun x : Int × Int × List Int => [.p (.int .i64 x.1), .p (.int .i64 x.2.1), .s (bsT x.2.2)]) (fun x => (isB x.2.2) ∧ (x.2.2.length ≤ 1048576)) (fun x => brV (sealC x.1 x.2.1 x.2.2) (sealL x.1 x.2.1 x.2.2))
theorem seal_at (k : Int) (s : Int) (l : List Int) (h : (isB l) ∧ (l.length ≤ 1048576)) : seal_S [.p (.int .i64 k), .p (.int .i64 s), .s (bsT l)] = some (brV (sealC k s l) (sealL k s l)) := specP_at (enc := fun x : Int × Int × List Int => [.p (.int .i64 x.1), .p (.int .i64 x.2.1), .s (bsT x.2.2)]) (by rintro ⟨a0, a1, a2⟩ ⟨b0, b1, b2⟩ h; simp only [List.cons.injEq, and_true] at h; obtain ⟨h0, h1, h2⟩ := h; obtain rfl := p64_inj h0; obtain rfl := p64_inj h1; obtain rfl := sby_inj h2; rfl) (k, s, l) h
-- impl.SealBytes
def c20 : AF := ⟨31,
  (.seq (.reg [⟨(some 6), none, .alloc 27 [(.int .i64 0), (.slice none 0 0)]⟩])
  (.seq (.block 0 (.seq (.reg [⟨(some 9), none, .mv (.t 0)⟩,
   ⟨(some 10), none, .mv (.t 1)⟩,
   ⟨(some 11), none, .call 103 [(.t 9), (.t 10)]⟩,
   ⟨(some 12), none, .un .not (.t 11)⟩,
   ⟨(some 8), none, .mv (.t 12)⟩])
  (.cond (.t 8) (.seq (.reg [⟨(some 13), none, .build [(.int .i64 0), (.slice none 0 0)] [(0, 1, (.v (.int .i64 3)))]⟩,
   ⟨none, none, .st 2 (.t 6) (.t 13)⟩])
  .ret)
  (.seq (.reg [⟨(some 15), none, .mv (.t 2)⟩,
   ⟨(some 16), none, .len (.t 15)⟩,
   ⟨(some 17), none, .bin .gtr (.t 16) (.v (.int .i64 480))⟩,
   ⟨(some 14), none, .mv (.t 17)⟩])
  (.cond (.t 14) (.seq (.reg [⟨(some 18), none, .build [(.int .i64 0), (.slice none 0 0)] [(0, 1, (.v (.int .i64 2)))]⟩,
   ⟨none, none, .st 2 (.t 6) (.t 18)⟩])
  .ret)
  .skip)))))
  (.seq (.reg [⟨(some 19), none, .mv (.t 0)⟩,
   ⟨(some 20), none, .mv (.t 1)⟩,
   ⟨(some 21), none, .mv (.t 2)⟩,
   ⟨(some 22), none, .call 104 [(.t 19), (.t 20), (.t 21)]⟩,
   ⟨(some 7), none, .mv (.t 22)⟩])
  (.seq (.reg [⟨(some 23), none, .mv (.t 7)⟩,
   ⟨(some 24), none, .mv (.t 0)⟩,
   ⟨(some 25), none, .mv (.t 1)⟩,
   ⟨(some 26), none, .mv (.t 7)⟩,
   ⟨(some 27), none, .call 106 [(.t 24), (.t 25), (.t 26)]⟩,
   ⟨(some 28), none, .call 105 [(.t 27), (.v (.int .i64 4))]⟩,
   ⟨(some 29), none, .app 5 1 1 (.t 23) (.t 28)⟩,
   ⟨(some 30), none, .build [(.int .i64 0), (.slice none 0 0)] [(0, 1, (.v (.int .i64 0))), (1, 1, (.t 29))]⟩,
   ⟨none, none, .st 2 (.t 6) (.t 30)⟩])
  .ret)))),
  [.cell 6 (some 2)]⟩
theorem k20 : cFn Try.prog Try.f20 = some c20 := by kernel_rfl
theorem sealI_ok : OkT Try.prog 20 (pureSp seal_S) := by
  refine okT_fn (OkΓT.cons keyed_ok (OkΓT.cons mixI_ok (OkΓT.cons tagI_ok (OkΓT.cons put_ok (OkΓT.nil _))))) Try.func20 (by kernel_rfl) k20 (fun x _ => brV_own _ _) ?_
  rintro ⟨k, s, l⟩ ⟨h1, h2⟩
  try dsimp only at *
  have hlen := bs_len l
  have ha := keyed_at k s
  by_cases hk : keyP k s
  case neg =>
    rw [decide_eq_false hk] at ha
    rw [brV_bad (c' := 3) (by unfold sealC; rw [if_neg hk]) (by decide)]
    (dsimp only [c20]; simp (maxSteps := 8000000) (implicitDefEqProofs := false) (disch := omega) only [↓reduceIte, go_sem, if_pos, if_neg, hlen, ha])
    exact endT_v (.inr rfl) (by (simp (maxSteps := 8000000) (implicitDefEqProofs := false) (disch := omega) only [↓reduceIte, go_sem, if_pos, if_neg]) <;> rfl) (fun _ => rfl)
  rw [decide_eq_true hk] at ha
  by_cases c1 : (l.length : Int) > 480
  case pos =>
    rw [brV_bad (c' := 2) (by unfold sealC; rw [if_pos hk, if_pos c1]) (by decide)]
    (dsimp only [c20]; simp (maxSteps := 8000000) (implicitDefEqProofs := false) (disch := omega) only [↓reduceIte, go_sem, if_pos, if_neg, hlen, ha, eq_true c1])
    exact endT_v (.inr rfl) (by (simp (maxSteps := 8000000) (implicitDefEqProofs := false) (disch := omega) only [↓reduceIte, go_sem, if_pos, if_neg]) <;> rfl) (fun _ => rfl)
  have q1 := mix_at k s l ⟨hk, h1, by omega⟩
  have hml := mixL_len k s l
  have hmb := bs_len (mixL k s l)
  have q2 := tag_at k s (mixL k s l) ⟨hk, mixL_bd k s l, by omega⟩
  have htb := tagL_bd k s (mixL k s l) (mixL k s l).length
  rw [List.take_length] at htb
  have q3 : put_S [.p (.int .i64 (tagL k s (mixL k s l))), .p (.int .i64 4)] = _ := put_at (tagL k s (mixL k s l)) 4 (by omega) (by omega)
  have hz := zOf_pos (n := (sealL k s l).length) (z := 1) (by rw [sealL_len]; omega)
  rw [brV_ok (by unfold sealC; rw [if_pos hk, if_neg c1]), hz, sealL_len]
  simp only [sealL]
  (dsimp only [c20]; simp (maxSteps := 8000000) (implicitDefEqProofs := false) (disch := first | omega | (simp only [List.length_append, List.length_cons, List.length_nil, Nat.reduceAdd, putL_len, hml]; omega)) only [↓reduceIte, go_sem, if_pos, if_neg, hlen, ha, eq_false c1, q1, q2, q3, hml, hmb, bs_append, zOf_or, putL_len, List.take_of_length_le])
  exact endT_of [3] (.inr rfl) (by simp (maxSteps := 8000000) (implicitDefEqProofs := false) (disch := omega) only [↓reduceIte, go_sem, if_pos, if_neg]; rfl) (by simp (maxSteps := 8000000) (implicitDefEqProofs := false) (disch := omega) only [↓reduceIte, go_sem, if_pos, if_neg]) (by simp (maxSteps := 8000000) (implicitDefEqProofs := false) (disch := omega) only [↓reduceIte, go_sem, if_pos, if_neg]) (by decide) (by simp)
-- spec.SealBytes
def c21 : AF := ⟨32,
  (.seq (.reg [⟨(some 6), none, .alloc 27 [(.int .i64 0), (.slice none 0 0)]⟩])
  (.seq (.seq (.reg [⟨(some 9), none, .mv (.t 0)⟩,
   ⟨(some 10), none, .mv (.t 1)⟩,
   ⟨(some 11), none, .call 107 [(.t 9), (.t 10)]⟩,
   ⟨(some 7), none, .mv (.t 11)⟩])
  (.seq (.reg [⟨(some 12), none, .mv (.t 7)⟩,
   ⟨(some 13), none, .bin .neq (.t 12) (.v (.int .i64 0))⟩])
  (.cond (.t 13) (.seq (.reg [⟨(some 14), none, .mv (.t 7)⟩,
   ⟨(some 15), none, .build [(.int .i64 0), (.slice none 0 0)] [(0, 1, (.t 14))]⟩,
   ⟨none, none, .st 2 (.t 6) (.t 15)⟩])
  .ret)
  .skip)))
  (.seq (.seq (.reg [⟨(some 16), none, .mv (.t 2)⟩,
   ⟨(some 17), none, .len (.t 16)⟩,
   ⟨(some 18), none, .bin .gtr (.t 17) (.v (.int .i64 480))⟩])
  (.cond (.t 18) (.seq (.reg [⟨(some 19), none, .build [(.int .i64 0), (.slice none 0 0)] [(0, 1, (.v (.int .i64 2)))]⟩,
   ⟨none, none, .st 2 (.t 6) (.t 19)⟩])
  .ret)
  .skip))
  (.seq (.reg [⟨(some 20), none, .mv (.t 0)⟩,
   ⟨(some 21), none, .mv (.t 1)⟩,
   ⟨(some 22), none, .mv (.t 2)⟩,
   ⟨(some 23), none, .call 108 [(.t 20), (.t 21), (.t 22)]⟩,
   ⟨(some 8), none, .mv (.t 23)⟩])
  (.seq (.reg [⟨(some 24), none, .mv (.t 8)⟩,
   ⟨(some 25), none, .mv (.t 0)⟩,
   ⟨(some 26), none, .mv (.t 1)⟩,
   ⟨(some 27), none, .mv (.t 8)⟩,
   ⟨(some 28), none, .call 110 [(.t 25), (.t 26), (.t 27)]⟩,
   ⟨(some 29), none, .call 109 [(.t 28), (.v (.int .i64 4))]⟩,
   ⟨(some 30), none, .app 5 1 1 (.t 24) (.t 29)⟩,
   ⟨(some 31), none, .build [(.int .i64 0), (.slice none 0 0)] [(1, 1, (.t 30))]⟩,
   ⟨none, none, .st 2 (.t 6) (.t 31)⟩])
  .ret))))),
  [.cell 6 (some 2)]⟩
theorem k21 : cFn Try.prog Try.f21 = some c21 := by kernel_rfl
theorem sealS_ok : OkT Try.prog 21 (pureSp seal_S) := by
  refine okT_fn (OkΓT.cons asked_ok (OkΓT.cons mixS_ok (OkΓT.cons tagS_ok (OkΓT.cons l1Bytes_ok (OkΓT.nil _))))) Try.func21 (by kernel_rfl) k21 (fun x _ => brV_own _ _) ?_
  rintro ⟨k, s, l⟩ ⟨h1, h2⟩
  try dsimp only at *
  have hlen := bs_len l
  have ha := asked_at k s
  by_cases hk : keyP k s
  case neg =>
    rw [if_neg hk] at ha
    rw [brV_bad (c' := 3) (by unfold sealC; rw [if_neg hk]) (by decide)]
    (dsimp only [c21]; simp (maxSteps := 8000000) (implicitDefEqProofs := false) (disch := omega) only [↓reduceIte, go_sem, if_pos, if_neg, hlen, ha])
    exact endT_v (.inr rfl) (by (simp (maxSteps := 8000000) (implicitDefEqProofs := false) (disch := omega) only [↓reduceIte, go_sem, if_pos, if_neg]) <;> rfl) (fun _ => rfl)
  rw [if_pos hk] at ha
  by_cases c1 : (l.length : Int) > 480
  case pos =>
    rw [brV_bad (c' := 2) (by unfold sealC; rw [if_pos hk, if_pos c1]) (by decide)]
    (dsimp only [c21]; simp (maxSteps := 8000000) (implicitDefEqProofs := false) (disch := omega) only [↓reduceIte, go_sem, if_pos, if_neg, hlen, ha, eq_true c1])
    exact endT_v (.inr rfl) (by (simp (maxSteps := 8000000) (implicitDefEqProofs := false) (disch := omega) only [↓reduceIte, go_sem, if_pos, if_neg]) <;> rfl) (fun _ => rfl)
  have q1 := mix_at k s l ⟨hk, h1, by omega⟩
  have hml := mixL_len k s l
  have hmb := bs_len (mixL k s l)
  have q2 := tag_at k s (mixL k s l) ⟨hk, mixL_bd k s l, by omega⟩
  have htb := tagL_bd k s (mixL k s l) (mixL k s l).length
  rw [List.take_length] at htb
  have q3 : put_S [.p (.int .i64 (tagL k s (mixL k s l))), .p (.int .i64 4)] = _ := put_at (tagL k s (mixL k s l)) 4 (by omega) (by omega)
  have hz := zOf_pos (n := (sealL k s l).length) (z := 1) (by rw [sealL_len]; omega)
  rw [brV_ok (by unfold sealC; rw [if_pos hk, if_neg c1]), hz, sealL_len]
  simp only [sealL]
  (dsimp only [c21]; simp (maxSteps := 8000000) (implicitDefEqProofs := false) (disch := first | omega | (simp only [List.length_append, List.length_cons, List.length_nil, Nat.reduceAdd, putL_len, hml]; omega)) only [↓reduceIte, go_sem, if_pos, if_neg, hlen, ha, eq_false c1, q1, q2, q3, hml, hmb, bs_append, zOf_or, putL_len, List.take_of_length_le])
  exact endT_of [3] (.inr rfl) (by simp (maxSteps := 8000000) (implicitDefEqProofs := false) (disch := omega) only [↓reduceIte, go_sem, if_pos, if_neg]; rfl) (by simp (maxSteps := 8000000) (implicitDefEqProofs := false) (disch := omega) only [↓reduceIte, go_sem, if_pos, if_neg]) (by simp (maxSteps := 8000000) (implicitDefEqProofs := false) (disch := omega) only [↓reduceIte, go_sem, if_pos, if_neg]) (by decide) (by simp)
noncomputable def open_S := specP (fun x : Int × Int × List Int => [.p (.int .i64 x.1), .p (.int .i64 x.2.1), .s (bsT x.2.2)]) (fun x => (isB x.2.2) ∧ (x.2.2.length ≤ 1048576)) (fun x => brV (openC x.1 x.2.1 x.2.2) (openL x.1 x.2.1 x.2.2))
theorem open_at (k : Int) (s : Int) (l : List Int) (h : (isB l) ∧ (l.length ≤ 1048576)) : open_S [.p (.int .i64 k), .p (.int .i64 s), .s (bsT l)] = some (brV (openC k s l) (openL k s l)) := specP_at (enc := fun x : Int × Int × List Int => [.p (.int .i64 x.1), .p (.int .i64 x.2.1), .s (bsT x.2.2)]) (by rintro ⟨a0, a1, a2⟩ ⟨b0, b1, b2⟩ h; simp only [List.cons.injEq, and_true] at h; obtain ⟨h0, h1, h2⟩ := h; obtain rfl := p64_inj h0; obtain rfl := p64_inj h1; obtain rfl := sby_inj h2; rfl) (k, s, l) h
-- impl.OpenBytes
def c22 : AF := ⟨42,
  (.seq (.reg [⟨(some 6), none, .alloc 27 [(.int .i64 0), (.slice none 0 0)]⟩])
  (.seq (.reg [⟨(some 8), none, .mv (.t 2)⟩,
   ⟨(some 9), none, .len (.t 8)⟩,
   ⟨(some 10), none, .bin .sub (.t 9) (.v (.int .i64 4))⟩,
   ⟨(some 7), none, .mv (.t 10)⟩])
  (.seq (.block 0 (.seq (.reg [⟨(some 12), none, .mv (.t 0)⟩,
   ⟨(some 13), none, .mv (.t 1)⟩,
   ⟨(some 14), none, .call 103 [(.t 12), (.t 13)]⟩,
   ⟨(some 15), none, .un .not (.t 14)⟩,
   ⟨(some 11), none, .mv (.t 15)⟩])
  (.cond (.t 11) (.seq (.reg [⟨(some 16), none, .build [(.int .i64 0), (.slice none 0 0)] [(0, 1, (.v (.int .i64 3)))]⟩,
   ⟨none, none, .st 2 (.t 6) (.t 16)⟩])
  .ret)
  (.seq (.reg [⟨(some 18), none, .mv (.t 7)⟩,
   ⟨(some 19), none, .call 95 [(.t 18), (.v (.int .i64 0)), (.v (.int .i64 480))]⟩,
   ⟨(some 20), none, .un .not (.t 19)⟩,
   ⟨(some 17), none, .mv (.t 20)⟩])
  (.cond (.t 17) (.seq (.reg [⟨(some 21), none, .build [(.int .i64 0), (.slice none 0 0)] [(0, 1, (.v (.int .i64 5)))]⟩,
   ⟨none, none, .st 2 (.t 6) (.t 21)⟩])
  .ret)
  (.seq (.drw [⟨(some 23), none, .mv (.t 2)⟩,
   ⟨(some 24), none, .mv (.t 7)⟩,
   ⟨(some 25), none, .sl 1 (.t 23) (some (.t 24)) none⟩,
   ⟨(some 26), none, .call 111 [(.t 25)]⟩,
   ⟨(some 27), none, .mv (.t 0)⟩,
   ⟨(some 28), none, .mv (.t 1)⟩,
   ⟨(some 29), none, .mv (.t 2)⟩,
   ⟨(some 30), none, .mv (.t 7)⟩,
   ⟨(some 31), none, .sl 1 (.t 29) none (some (.t 30))⟩] [⟨(some 32), none, .call 106 [(.t 27), (.t 28), (.t 31)]⟩,
   ⟨(some 33), none, .bin .neq (.t 26) (.t 32)⟩,
   ⟨(some 22), none, .mv (.t 33)⟩])
  (.cond (.t 22) (.seq (.reg [⟨(some 34), none, .build [(.int .i64 0), (.slice none 0 0)] [(0, 1, (.v (.int .i64 6)))]⟩,
   ⟨none, none, .st 2 (.t 6) (.t 34)⟩])
  .ret)
  .skip)))))))
  (.seq (.reg [⟨(some 35), none, .mv (.t 0)⟩,
   ⟨(some 36), none, .mv (.t 1)⟩,
   ⟨(some 37), none, .mv (.t 2)⟩,
   ⟨(some 38), none, .mv (.t 7)⟩,
   ⟨(some 39), none, .sl 1 (.t 37) none (some (.t 38))⟩,
   ⟨(some 40), none, .call 104 [(.t 35), (.t 36), (.t 39)]⟩,
   ⟨(some 41), none, .build [(.int .i64 0), (.slice none 0 0)] [(0, 1, (.v (.int .i64 0))), (1, 1, (.t 40))]⟩,
   ⟨none, none, .st 2 (.t 6) (.t 41)⟩])
  .ret)))),
  [.cell 6 (some 2)]⟩
theorem k22 : cFn Try.prog Try.f22 = some c22 := by kernel_rfl
theorem openI_ok : OkT Try.prog 22 (pureSp open_S) := by
  refine okT_fn (OkΓT.cons keyed_ok (OkΓT.cons in_ok (OkΓT.cons take_ok (OkΓT.cons tagI_ok (OkΓT.cons mixI_ok (OkΓT.nil _)))))) Try.func22 (by kernel_rfl) k22 (fun x _ => brV_own _ _) ?_
  rintro ⟨k, s, l⟩ ⟨h1, h2⟩
  try dsimp only at *
  have hlen := bs_len l
  have ha := keyed_at k s
  by_cases hk : keyP k s
  case neg =>
    rw [decide_eq_false hk] at ha
    rw [brV_bad (c' := 3) (by unfold openC; rw [if_neg hk]) (by decide)]
    (dsimp only [c22]; simp (maxSteps := 8000000) (implicitDefEqProofs := false) (disch := omega) only [↓reduceIte, go_sem, if_pos, if_neg, hlen, ha, in_at])
    exact endT_v (.inr rfl) (by (simp (maxSteps := 8000000) (implicitDefEqProofs := false) (disch := omega) only [↓reduceIte, go_sem, if_pos, if_neg]) <;> rfl) (fun _ => rfl)
  rw [decide_eq_true hk] at ha
  by_cases c1 : 4 ≤ (l.length : Int) ∧ (l.length : Int) ≤ 484
  case neg =>
    rw [brV_bad (c' := 5) (by unfold openC; rw [if_pos hk, if_neg c1]) (by decide)]
    (dsimp only [c22]; simp (maxSteps := 8000000) (implicitDefEqProofs := false) (disch := omega) only [↓reduceIte, go_sem, if_pos, if_neg, hlen, ha, in_at, eq_false (show ¬ (0 ≤ (l.length : Int) - 4 ∧ (l.length : Int) - 4 ≤ 480) by omega)])
    exact endT_v (.inr rfl) (by (simp (maxSteps := 8000000) (implicitDefEqProofs := false) (disch := omega) only [↓reduceIte, go_sem, if_pos, if_neg]) <;> rfl) (fun _ => rfl)
  have e4 : ((l.length : Int) - 4).toNat = l.length - 4 := by omega
  have htk : (l.drop (l.length - 4)).take ((l.length : Int) - ((l.length : Int) - 4)).toNat = l.drop (l.length - 4) := List.take_of_length_le (by rw [List.length_drop]; omega)
  have hdl : (l.drop (l.length - 4)).length = 4 := by rw [List.length_drop]; omega
  have e0 : ((l.length : Int) - 4 - 0).toNat = l.length - 4 := by omega
  have q1 := take_at (l.drop (l.length - 4)) (isB_drop h1 _) (by omega)
  have q2 := tag_at k s (l.take (l.length - 4)) ⟨hk, isB_take h1 _, by rw [List.length_take]; omega⟩
  by_cases c2 : takeN (l.drop (l.length - 4)) = tagL k s (l.take (l.length - 4))
  case neg =>
    rw [brV_bad (c' := 6) (by unfold openC; rw [if_pos hk, if_pos c1, if_neg c2]) (by decide)]
    (dsimp only [c22]; simp (maxSteps := 8000000) (implicitDefEqProofs := false) (disch := omega) only [↓reduceIte, go_sem, if_pos, if_neg, hlen, ha, in_at, eq_true (show (0 ≤ (l.length : Int) - 4 ∧ (l.length : Int) - 4 ≤ 480) by omega), e4, e0, htk, q1, q2, eq_false c2])
    exact endT_v (.inr rfl) (by (simp (maxSteps := 8000000) (implicitDefEqProofs := false) (disch := omega) only [↓reduceIte, go_sem, if_pos, if_neg]) <;> rfl) (fun _ => rfl)
  have q3 := mix_at k s (l.take (l.length - 4)) ⟨hk, isB_take h1 _, by rw [List.length_take]; omega⟩
  have hl4 : (l.take (l.length - 4)).length = l.length - 4 := by rw [List.length_take]; omega
  have hol := openL_len k s l
  rw [brV_ok (by unfold openC; rw [if_pos hk, if_pos c1, if_pos c2]), hol]
  simp only [openL]
  rw [hl4] at q3
  (dsimp only [c22]; simp (maxSteps := 8000000) (implicitDefEqProofs := false) (disch := omega) only [↓reduceIte, go_sem, if_pos, if_neg, hlen, ha, in_at, eq_true (show (0 ≤ (l.length : Int) - 4 ∧ (l.length : Int) - 4 ≤ 480) by omega), e4, e0, htk, q1, q2, eq_true c2, q3])
  exact endT_of [1] (.inr rfl) (by simp (maxSteps := 8000000) (implicitDefEqProofs := false) (disch := omega) only [↓reduceIte, go_sem, if_pos, if_neg]; rfl) (by simp (maxSteps := 8000000) (implicitDefEqProofs := false) (disch := omega) only [↓reduceIte, go_sem, if_pos, if_neg]) (by simp (maxSteps := 8000000) (implicitDefEqProofs := false) (disch := omega) only [↓reduceIte, go_sem, if_pos, if_neg]) (by decide) (by simp)
-- spec.OpenBytes
def c119 : AF := ⟨42,
  (.seq (.reg [⟨(some 6), none, .alloc 27 [(.int .i64 0), (.slice none 0 0)]⟩])
  (.seq (.seq (.reg [⟨(some 10), none, .mv (.t 0)⟩,
   ⟨(some 11), none, .mv (.t 1)⟩,
   ⟨(some 12), none, .call 107 [(.t 10), (.t 11)]⟩,
   ⟨(some 7), none, .mv (.t 12)⟩])
  (.seq (.reg [⟨(some 13), none, .mv (.t 7)⟩,
   ⟨(some 14), none, .bin .neq (.t 13) (.v (.int .i64 0))⟩])
  (.cond (.t 14) (.seq (.reg [⟨(some 15), none, .mv (.t 7)⟩,
   ⟨(some 16), none, .build [(.int .i64 0), (.slice none 0 0)] [(0, 1, (.t 15))]⟩,
   ⟨none, none, .st 2 (.t 6) (.t 16)⟩])
  .ret)
  .skip)))
  (.seq (.reg [⟨(some 17), none, .mv (.t 2)⟩,
   ⟨(some 18), none, .len (.t 17)⟩,
   ⟨(some 8), none, .mv (.t 18)⟩])
  (.seq (.seq (.reg [⟨(some 19), none, .mv (.t 8)⟩,
   ⟨(some 20), none, .call 97 [(.t 19), (.v (.int .i64 4)), (.v (.int .i64 484))]⟩,
   ⟨(some 21), none, .un .not (.t 20)⟩])
  (.cond (.t 21) (.seq (.reg [⟨(some 22), none, .build [(.int .i64 0), (.slice none 0 0)] [(0, 1, (.v (.int .i64 5)))]⟩,
   ⟨none, none, .st 2 (.t 6) (.t 22)⟩])
  .ret)
  .skip))
  (.seq (.reg [⟨(some 23), none, .mv (.t 2)⟩,
   ⟨(some 24), none, .mv (.t 8)⟩,
   ⟨(some 25), none, .bin .sub (.t 24) (.v (.int .i64 4))⟩,
   ⟨(some 26), none, .sl 1 (.t 23) none (some (.t 25))⟩,
   ⟨(some 9), none, .mv (.t 26)⟩])
  (.seq (.seq (.reg [⟨(some 27), none, .mv (.t 2)⟩,
   ⟨(some 28), none, .mv (.t 8)⟩,
   ⟨(some 29), none, .bin .sub (.t 28) (.v (.int .i64 4))⟩,
   ⟨(some 30), none, .call 192 [(.t 27), (.t 29), (.v (.int .i64 4))]⟩,
   ⟨(some 31), none, .mv (.t 0)⟩,
   ⟨(some 32), none, .mv (.t 1)⟩,
   ⟨(some 33), none, .mv (.t 9)⟩,
   ⟨(some 34), none, .call 110 [(.t 31), (.t 32), (.t 33)]⟩,
   ⟨(some 35), none, .bin .neq (.t 30) (.t 34)⟩])
  (.cond (.t 35) (.seq (.reg [⟨(some 36), none, .build [(.int .i64 0), (.slice none 0 0)] [(0, 1, (.v (.int .i64 6)))]⟩,
   ⟨none, none, .st 2 (.t 6) (.t 36)⟩])
  .ret)
  .skip))
  (.seq (.reg [⟨(some 37), none, .mv (.t 0)⟩,
   ⟨(some 38), none, .mv (.t 1)⟩,
   ⟨(some 39), none, .mv (.t 9)⟩,
   ⟨(some 40), none, .call 108 [(.t 37), (.t 38), (.t 39)]⟩,
   ⟨(some 41), none, .build [(.int .i64 0), (.slice none 0 0)] [(1, 1, (.t 40))]⟩,
   ⟨none, none, .st 2 (.t 6) (.t 41)⟩])
  .ret))))))),
  [.cell 6 (some 2)]⟩
theorem k119 : cFn Try.prog Try.f119 = some c119 := by kernel_rfl
theorem openS_ok : OkT Try.prog 119 (pureSp open_S) := by
  refine okT_fn (OkΓT.cons asked_ok (OkΓT.cons l1In_ok (OkΓT.cons l1Take_ok (OkΓT.cons tagS_ok (OkΓT.cons mixS_ok (OkΓT.nil _)))))) Try.func119 (by kernel_rfl) k119 (fun x _ => brV_own _ _) ?_
  rintro ⟨k, s, l⟩ ⟨h1, h2⟩
  try dsimp only at *
  have hlen := bs_len l
  have ha := asked_at k s
  by_cases hk : keyP k s
  case neg =>
    rw [if_neg hk] at ha
    rw [brV_bad (c' := 3) (by unfold openC; rw [if_neg hk]) (by decide)]
    (dsimp only [c119]; simp (maxSteps := 8000000) (implicitDefEqProofs := false) (disch := omega) only [↓reduceIte, go_sem, if_pos, if_neg, hlen, ha, in_at])
    exact endT_v (.inr rfl) (by (simp (maxSteps := 8000000) (implicitDefEqProofs := false) (disch := omega) only [↓reduceIte, go_sem, if_pos, if_neg]) <;> rfl) (fun _ => rfl)
  rw [if_pos hk] at ha
  by_cases c1 : 4 ≤ (l.length : Int) ∧ (l.length : Int) ≤ 484
  case neg =>
    rw [brV_bad (c' := 5) (by unfold openC; rw [if_pos hk, if_neg c1]) (by decide)]
    (dsimp only [c119]; simp (maxSteps := 8000000) (implicitDefEqProofs := false) (disch := omega) only [↓reduceIte, go_sem, if_pos, if_neg, hlen, ha, in_at, eq_false (show ¬ (4 ≤ (l.length : Int) ∧ (l.length : Int) ≤ 484) by omega)])
    exact endT_v (.inr rfl) (by (simp (maxSteps := 8000000) (implicitDefEqProofs := false) (disch := omega) only [↓reduceIte, go_sem, if_pos, if_neg]) <;> rfl) (fun _ => rfl)
  have e4 : ((l.length : Int) - 4).toNat = l.length - 4 := by omega
  have htk : (l.drop (l.length - 4)).take ((l.length : Int) - ((l.length : Int) - 4)).toNat = l.drop (l.length - 4) := List.take_of_length_le (by rw [List.length_drop]; omega)
  have hdl : (l.drop (l.length - 4)).length = 4 := by rw [List.length_drop]; omega
  have e0 : ((l.length : Int) - 4 - 0).toNat = l.length - 4 := by omega
  have q1 : l1Take_S [.s (bsT l), .p (.int .i64 ((l.length : Int) - 4)), .p (.int .i64 4)] = some (.p (.int .i64 (takeN (l.drop (l.length - 4)))), []) := by
    have := l1Take_at l (l.length - 4) 4 h1 (by omega) (by omega) (by omega)
    rw [List.take_of_length_le (by omega)] at this
    rw [← this]
    congr 5
    omega
  have q2 := tag_at k s (l.take (l.length - 4)) ⟨hk, isB_take h1 _, by rw [List.length_take]; omega⟩
  by_cases c2 : takeN (l.drop (l.length - 4)) = tagL k s (l.take (l.length - 4))
  case neg =>
    rw [brV_bad (c' := 6) (by unfold openC; rw [if_pos hk, if_pos c1, if_neg c2]) (by decide)]
    (dsimp only [c119]; simp (maxSteps := 8000000) (implicitDefEqProofs := false) (disch := omega) only [↓reduceIte, go_sem, if_pos, if_neg, hlen, ha, in_at, eq_true (show (4 ≤ (l.length : Int) ∧ (l.length : Int) ≤ 484) by omega), e4, e0, htk, q1, q2, eq_false c2])
    exact endT_v (.inr rfl) (by (simp (maxSteps := 8000000) (implicitDefEqProofs := false) (disch := omega) only [↓reduceIte, go_sem, if_pos, if_neg]) <;> rfl) (fun _ => rfl)
  have q3 := mix_at k s (l.take (l.length - 4)) ⟨hk, isB_take h1 _, by rw [List.length_take]; omega⟩
  have hl4 : (l.take (l.length - 4)).length = l.length - 4 := by rw [List.length_take]; omega
  have hol := openL_len k s l
  rw [brV_ok (by unfold openC; rw [if_pos hk, if_pos c1, if_pos c2]), hol]
  simp only [openL]
  rw [hl4] at q3
  (dsimp only [c119]; simp (maxSteps := 8000000) (implicitDefEqProofs := false) (disch := omega) only [↓reduceIte, go_sem, if_pos, if_neg, hlen, ha, in_at, eq_true (show (4 ≤ (l.length : Int) ∧ (l.length : Int) ≤ 484) by omega), e4, e0, htk, q1, q2, eq_true c2, q3])
  exact endT_of [1] (.inr rfl) (by simp (maxSteps := 8000000) (implicitDefEqProofs := false) (disch := omega) only [↓reduceIte, go_sem, if_pos, if_neg]; rfl) (by simp (maxSteps := 8000000) (implicitDefEqProofs := false) (disch := omega) only [↓reduceIte, go_sem, if_pos, if_neg]) (by simp (maxSteps := 8000000) (implicitDefEqProofs := false) (disch := omega) only [↓reduceIte, go_sem, if_pos, if_neg]) (by decide) (by simp)
end Go.Proofs.Ytkijbknnbmbnbaa
