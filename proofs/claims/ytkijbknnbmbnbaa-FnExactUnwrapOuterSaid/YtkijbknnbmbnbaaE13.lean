import Derived.Test.YtkijbknnbmbnbaaE12
set_option linter.unusedSimpArgs false
set_option linter.unusedVariables false
set_option maxRecDepth 100000
set_option maxHeartbeats 4000000
namespace Go.Proofs.Ytkijbknnbmbnbaa
open Go Go.AH
attribute [local irreducible] awpT ropsT qopsT stepT condKT gdKT EndT joinK loopKT seqKT blkKT kont kontR
/-! Into and out of the tunnel -/

abbrev rangeP (a k s : Int) : Prop := (1 ≤ a ∧ a ≤ 4294967295) ∧ (0 ≤ k ∧ k ≤ 4294967295) ∧ (1 ≤ s ∧ s ≤ 1099511627776)
theorem putL_mod {s : Int} (h : 0 ≤ s) : putL (s % 4294967296) 4 = putL s 4 := by
  simp only [putL, show List.range 4 = [0, 1, 2, 3] from rfl, List.map_cons, List.map_nil, List.cons.injEq, and_true]
  refine ⟨?_, ?_, ?_, ?_⟩ <;> simp <;> omega
def wrapC (a k s : Int) (l : List Int) : Int := if rangeP a k s then (if (l.length : Int) > 240 then 2 else 0) else 3
def wrapL (a k s : Int) (l : List Int) : List Int := putL a 4 ++ (putL s 4 ++ sealL k s (padL l 4 4))
theorem wrapL_len (a k s : Int) (l : List Int) : (wrapL a k s l).length = 12 + (padL l 4 4).length := by simp [wrapL, putL_len, sealL_len]; omega
theorem wrapL_bd (a k s : Int) (l : List Int) : isB (wrapL a k s l) := isB_append (putL_bd _ _) (isB_append (putL_bd _ _) (sealL_bd _ _ _))
theorem keyP_of {a k s : Int} (h : rangeP a k s) : keyP k s := ⟨h.2.1, by omega, h.2.2.2⟩
noncomputable def seq_S := specP (fun x : Int => [.p (.int .i64 x)]) (fun x => True) (fun x => (.p (.bool (decide (1 ≤ x ∧ x ≤ 1099511627776))), []))
theorem seq_at (s : Int) : seq_S [.p (.int .i64 s)] = some ((.p (.bool (decide (1 ≤ s ∧ s ≤ 1099511627776))), [])) := specP_at (enc := fun x : Int => [.p (.int .i64 x)]) (by rintro a0 b0 h; simp only [List.cons.injEq, and_true] at h; have h0 := h; obtain rfl := p64_inj h0; rfl) s trivial
-- impl.isSeq
def c115 : AF := ⟨5,
  (.seq (.reg [⟨(some 2), none, .mv (.v (.bool false))⟩])
  (.seq (.reg [⟨(some 3), none, .mv (.t 0)⟩,
   ⟨(some 4), none, .call 95 [(.t 3), (.v (.int .i64 1)), (.v (.int .i64 1099511627776))]⟩,
   ⟨(some 2), none, .mv (.t 4)⟩])
  .ret)),
  [.t 2]⟩
theorem k115 : cFn Try.prog Try.f115 = some c115 := by kernel_rfl
theorem isSeq_ok : OkT Try.prog 115 (pureSp seq_S) := by
  refine okT_fn (OkΓT.cons in_ok (OkΓT.nil _)) Try.func115 (by kernel_rfl) k115 (fun x _ => ⟨by first | rfl | simp only [go_sem], by first | rfl | simp only [go_sem]⟩) ?_
  rintro s _
  try dsimp only at *
  (dsimp only [c115]; simp (maxSteps := 8000000) (implicitDefEqProofs := false) (disch := omega) only [↓reduceIte, go_sem, if_pos, if_neg, in_at])
  repeat' first
    | (refine gdKT_dec (fun hg => ?_) (fun hg => ?_) <;> (try (first | simp (maxSteps := 8000000) (implicitDefEqProofs := false) (disch := omega) only [↓reduceIte, go_sem, if_pos, if_neg, eq_false hg, in_at] | simp (maxSteps := 8000000) (implicitDefEqProofs := false) (disch := omega) only [↓reduceIte, go_sem, if_pos, if_neg, eq_true hg, in_at])))
    | (refine condKT_dec (fun hg => ?_) (fun hg => ?_) <;> (try (first | simp (maxSteps := 8000000) (implicitDefEqProofs := false) (disch := omega) only [↓reduceIte, go_sem, if_pos, if_neg, eq_false hg, in_at] | simp (maxSteps := 8000000) (implicitDefEqProofs := false) (disch := omega) only [↓reduceIte, go_sem, if_pos, if_neg, eq_true hg, in_at])))
    | (refine gdKT_split (fun hg => ?_) (fun hg => ?_) <;> (try simp (maxSteps := 8000000) (implicitDefEqProofs := false) (disch := omega) only [↓reduceIte, go_sem, if_pos, if_neg, hg, in_at]))
    | (refine condKT_split (fun hg => ?_) (fun hg => ?_) <;> (try simp (maxSteps := 8000000) (implicitDefEqProofs := false) (disch := omega) only [↓reduceIte, go_sem, if_pos, if_neg, hg, in_at]))
    | (refine endT_p (.inr rfl) (by simp (maxSteps := 8000000) (implicitDefEqProofs := false) (disch := omega) only [↓reduceIte, go_sem, if_pos, if_neg, in_at]; rfl) ?_; (first | exact vb_true (by omega) | exact vb_false (by omega) | exact vb_dec (by omega) | exact vi_eq (by omega) | rfl | (refine vi_eq ?_; simp_all; done) | (refine vi_eq ?_; simp_all; omega) | (refine vi_eq ?_; simp_all; intros; omega)))
    | exact endT_v (.inr rfl) (by simp (maxSteps := 8000000) (implicitDefEqProofs := false) (disch := omega) only [↓reduceIte, go_sem, if_pos, if_neg, in_at]; try rfl) (fun _ => rfl)
noncomputable def range_S := specP (fun x : Int × Int × Int => [.p (.int .i64 x.1), .p (.int .i64 x.2.1), .p (.int .i64 x.2.2)]) (fun x => True) (fun x => (.p (.bool (decide (rangeP x.1 x.2.1 x.2.2))), []))
theorem range_at (a : Int) (k : Int) (s : Int) : range_S [.p (.int .i64 a), .p (.int .i64 k), .p (.int .i64 s)] = some ((.p (.bool (decide (rangeP a k s))), [])) := specP_at (enc := fun x : Int × Int × Int => [.p (.int .i64 x.1), .p (.int .i64 x.2.1), .p (.int .i64 x.2.2)]) (by rintro ⟨a0, a1, a2⟩ ⟨b0, b1, b2⟩ h; simp only [List.cons.injEq, and_true] at h; obtain ⟨h0, h1, h2⟩ := h; obtain rfl := p64_inj h0; obtain rfl := p64_inj h1; obtain rfl := p64_inj h2; rfl) (a, k, s) trivial
-- spec.l15Range
def c112 : AF := ⟨17,
  (.seq (.reg [⟨(some 6), none, .mv (.v (.bool false))⟩])
  (.seq (.reg [⟨(some 7), none, .mv (.t 0)⟩,
   ⟨(some 8), none, .call 97 [(.t 7), (.v (.int .i64 1)), (.v (.int .i64 4294967295))]⟩,
   ⟨(some 9), none, .mv (.t 8)⟩,
   ⟨(some 10), (some (9, true)), .mv (.t 1)⟩,
   ⟨(some 11), (some (9, true)), .call 97 [(.t 10), (.v (.int .i64 0)), (.v (.int .i64 4294967295))]⟩,
   ⟨(some 12), none, .pick (.t 9) (.t 11) (.v (.bool false))⟩,
   ⟨(some 13), none, .mv (.t 12)⟩,
   ⟨(some 14), (some (13, true)), .mv (.t 2)⟩,
   ⟨(some 15), (some (13, true)), .call 97 [(.t 14), (.v (.int .i64 1)), (.v (.int .i64 1099511627776))]⟩,
   ⟨(some 16), none, .pick (.t 13) (.t 15) (.v (.bool false))⟩,
   ⟨(some 6), none, .mv (.t 16)⟩])
  .ret)),
  [.t 6]⟩
theorem k112 : cFn Try.prog Try.f112 = some c112 := by kernel_rfl
theorem range_ok : OkT Try.prog 112 (pureSp range_S) := by
  refine okT_fn (OkΓT.cons l1In_ok (OkΓT.nil _)) Try.func112 (by kernel_rfl) k112 (fun x _ => ⟨by first | rfl | simp only [go_sem], by first | rfl | simp only [go_sem]⟩) ?_
  rintro ⟨a, k, s⟩ _
  try dsimp only at *
  (dsimp only [c112]; simp (maxSteps := 8000000) (implicitDefEqProofs := false) (disch := omega) only [↓reduceIte, go_sem, if_pos, if_neg, in_at])
  repeat' first
    | (refine gdKT_dec (fun hg => ?_) (fun hg => ?_) <;> (try (first | simp (maxSteps := 8000000) (implicitDefEqProofs := false) (disch := omega) only [↓reduceIte, go_sem, if_pos, if_neg, eq_false hg, in_at] | simp (maxSteps := 8000000) (implicitDefEqProofs := false) (disch := omega) only [↓reduceIte, go_sem, if_pos, if_neg, eq_true hg, in_at])))
    | (refine condKT_dec (fun hg => ?_) (fun hg => ?_) <;> (try (first | simp (maxSteps := 8000000) (implicitDefEqProofs := false) (disch := omega) only [↓reduceIte, go_sem, if_pos, if_neg, eq_false hg, in_at] | simp (maxSteps := 8000000) (implicitDefEqProofs := false) (disch := omega) only [↓reduceIte, go_sem, if_pos, if_neg, eq_true hg, in_at])))
    | (refine gdKT_split (fun hg => ?_) (fun hg => ?_) <;> (try simp (maxSteps := 8000000) (implicitDefEqProofs := false) (disch := omega) only [↓reduceIte, go_sem, if_pos, if_neg, hg, in_at]))
    | (refine condKT_split (fun hg => ?_) (fun hg => ?_) <;> (try simp (maxSteps := 8000000) (implicitDefEqProofs := false) (disch := omega) only [↓reduceIte, go_sem, if_pos, if_neg, hg, in_at]))
    | (refine endT_p (.inr rfl) (by simp (maxSteps := 8000000) (implicitDefEqProofs := false) (disch := omega) only [↓reduceIte, go_sem, if_pos, if_neg, in_at]; rfl) ?_; (first | exact vb_true (by omega) | exact vb_false (by omega) | exact vb_dec (by omega) | exact vi_eq (by omega) | rfl | (refine vi_eq ?_; simp_all; done) | (refine vi_eq ?_; simp_all; omega) | (refine vi_eq ?_; simp_all; intros; omega)))
    | exact endT_v (.inr rfl) (by simp (maxSteps := 8000000) (implicitDefEqProofs := false) (disch := omega) only [↓reduceIte, go_sem, if_pos, if_neg, in_at]; try rfl) (fun _ => rfl)
noncomputable def wrap_S := specP (fun x : Int × Int × Int × List Int => [.p (.int .i64 x.1), .p (.int .i64 x.2.1), .p (.int .i64 x.2.2.1), .s (bsT x.2.2.2)]) (fun x => (isB x.2.2.2) ∧ (x.2.2.2.length ≤ 1048576)) (fun x => brV (wrapC x.1 x.2.1 x.2.2.1 x.2.2.2) (wrapL x.1 x.2.1 x.2.2.1 x.2.2.2))
theorem wrap_at (a : Int) (k : Int) (s : Int) (l : List Int) (h : (isB l) ∧ (l.length ≤ 1048576)) : wrap_S [.p (.int .i64 a), .p (.int .i64 k), .p (.int .i64 s), .s (bsT l)] = some (brV (wrapC a k s l) (wrapL a k s l)) := specP_at (enc := fun x : Int × Int × Int × List Int => [.p (.int .i64 x.1), .p (.int .i64 x.2.1), .p (.int .i64 x.2.2.1), .s (bsT x.2.2.2)]) (by rintro ⟨a0, a1, a2, a3⟩ ⟨b0, b1, b2, b3⟩ h; simp only [List.cons.injEq, and_true] at h; obtain ⟨h0, h1, h2, h3⟩ := h; obtain rfl := p64_inj h0; obtain rfl := p64_inj h1; obtain rfl := p64_inj h2; obtain rfl := sby_inj h3; rfl) (a, k, s, l) h
-- impl.WrapInner
def c26 : AF := ⟨44,
  (.seq (.reg [⟨(some 8), none, .alloc 27 [(.int .i64 0), (.slice none 0 0)]⟩])
  (.seq (.block 0 (.seq (.reg [⟨(some 11), none, .mv (.t 0)⟩,
   ⟨(some 12), none, .call 113 [(.t 11)]⟩,
   ⟨(some 13), none, .un .not (.t 12)⟩,
   ⟨(some 14), none, .mv (.t 13)⟩,
   ⟨(some 15), (some (14, false)), .mv (.t 1)⟩,
   ⟨(some 16), (some (14, false)), .call 114 [(.t 15)]⟩,
   ⟨(some 17), (some (14, false)), .un .not (.t 16)⟩,
   ⟨(some 18), none, .pick (.t 14) (.v (.bool true)) (.t 17)⟩,
   ⟨(some 19), none, .mv (.t 18)⟩,
   ⟨(some 20), (some (19, false)), .mv (.t 2)⟩,
   ⟨(some 21), (some (19, false)), .call 115 [(.t 20)]⟩,
   ⟨(some 22), (some (19, false)), .un .not (.t 21)⟩,
   ⟨(some 23), none, .pick (.t 19) (.v (.bool true)) (.t 22)⟩,
   ⟨(some 10), none, .mv (.t 23)⟩])
  (.cond (.t 10) (.seq (.reg [⟨(some 24), none, .build [(.int .i64 0), (.slice none 0 0)] [(0, 1, (.v (.int .i64 3)))]⟩,
   ⟨none, none, .st 2 (.t 8) (.t 24)⟩])
  .ret)
  (.seq (.reg [⟨(some 26), none, .mv (.t 3)⟩,
   ⟨(some 27), none, .len (.t 26)⟩,
   ⟨(some 28), none, .bin .gtr (.t 27) (.v (.int .i64 240))⟩,
   ⟨(some 25), none, .mv (.t 28)⟩])
  (.cond (.t 25) (.seq (.reg [⟨(some 29), none, .build [(.int .i64 0), (.slice none 0 0)] [(0, 1, (.v (.int .i64 2)))]⟩,
   ⟨none, none, .st 2 (.t 8) (.t 29)⟩])
  .ret)
  .skip)))))
  (.seq (.reg [⟨(some 30), none, .mv (.t 1)⟩,
   ⟨(some 31), none, .mv (.t 2)⟩,
   ⟨(some 32), none, .mv (.t 3)⟩,
   ⟨(some 33), none, .call 96 [(.t 32), (.v (.int .i64 4)), (.v (.int .u8 4))]⟩,
   ⟨(some 34), none, .call 20 [(.t 30), (.t 31), (.t 33)]⟩,
   ⟨(some 9), none, .alloc 27 [(.int .i64 0), (.slice none 0 0)]⟩,
   ⟨none, none, .st 2 (.t 9) (.t 34)⟩])
  (.seq (.drw [⟨(some 35), none, .mv (.t 0)⟩,
   ⟨(some 36), none, .call 105 [(.t 35), (.v (.int .i64 4))]⟩,
   ⟨(some 37), none, .mv (.t 2)⟩,
   ⟨(some 38), none, .call 105 [(.t 37), (.v (.int .i64 4))]⟩,
   ⟨(some 39), none, .fa (.t 9) 1⟩,
   ⟨(some 40), none, .ld (.t 39)⟩] [⟨(some 41), none, .mkS 22 3 [(.slice none 0 0), (.slice none 0 0), (.slice none 0 0)] [(0, 1, (.t 36)), (1, 1, (.t 38)), (2, 1, (.t 40))]⟩,
   ⟨(some 42), none, .call 116 [(.t 41)]⟩,
   ⟨(some 43), none, .build [(.int .i64 0), (.slice none 0 0)] [(0, 1, (.v (.int .i64 0))), (1, 1, (.t 42))]⟩,
   ⟨none, none, .st 2 (.t 8) (.t 43)⟩])
  .ret)))),
  [.cell 8 (some 2)]⟩
theorem k26 : cFn Try.prog Try.f26 = some c26 := by kernel_rfl
theorem wrapI_ok : OkT Try.prog 26 (pureSp wrap_S) := by
  refine okT_fn (OkΓT.cons isSpi_ok (OkΓT.cons isKey_ok (OkΓT.cons isSeq_ok (OkΓT.cons padI_ok (OkΓT.cons sealI_ok (OkΓT.cons put_ok (OkΓT.cons concat_ok (OkΓT.nil _)))))))) Try.func26 (by kernel_rfl) k26 (fun x _ => brV_own _ _) ?_
  rintro ⟨a, k, s, l⟩ ⟨h1, h2⟩
  try dsimp only at *
  have hlen := bs_len l
  by_cases r0 : 1 ≤ a ∧ a ≤ 4294967295
  case neg =>
    rw [brV_bad (c' := 3) (by unfold wrapC; rw [if_neg (fun h => r0 h.1)]) (by decide)]
    (dsimp only [c26]; simp (maxSteps := 8000000) (implicitDefEqProofs := false) (disch := omega) only [↓reduceIte, go_sem, if_pos, if_neg, hlen, spi_at, key_at, seq_at, eq_false r0])
    exact endT_v (.inr rfl) (by (simp (maxSteps := 8000000) (implicitDefEqProofs := false) (disch := omega) only [↓reduceIte, go_sem, if_pos, if_neg]) <;> rfl) (fun _ => rfl)
  by_cases r1 : 0 ≤ k ∧ k ≤ 4294967295
  case neg =>
    rw [brV_bad (c' := 3) (by unfold wrapC; rw [if_neg (fun h => r1 h.2.1)]) (by decide)]
    (dsimp only [c26]; simp (maxSteps := 8000000) (implicitDefEqProofs := false) (disch := omega) only [↓reduceIte, go_sem, if_pos, if_neg, hlen, spi_at, key_at, seq_at, eq_true r0, eq_false r1])
    exact endT_v (.inr rfl) (by (simp (maxSteps := 8000000) (implicitDefEqProofs := false) (disch := omega) only [↓reduceIte, go_sem, if_pos, if_neg]) <;> rfl) (fun _ => rfl)
  by_cases r2 : 1 ≤ s ∧ s ≤ 1099511627776
  case neg =>
    rw [brV_bad (c' := 3) (by unfold wrapC; rw [if_neg (fun h => r2 h.2.2)]) (by decide)]
    (dsimp only [c26]; simp (maxSteps := 8000000) (implicitDefEqProofs := false) (disch := omega) only [↓reduceIte, go_sem, if_pos, if_neg, hlen, spi_at, key_at, seq_at, eq_true r0, eq_true r1, eq_false r2])
    exact endT_v (.inr rfl) (by (simp (maxSteps := 8000000) (implicitDefEqProofs := false) (disch := omega) only [↓reduceIte, go_sem, if_pos, if_neg]) <;> rfl) (fun _ => rfl)
  have hr : rangeP a k s := ⟨r0, r1, r2⟩
  by_cases c1 : (l.length : Int) > 240
  case pos =>
    rw [brV_bad (c' := 2) (by unfold wrapC; rw [if_pos hr, if_pos c1]) (by decide)]
    (dsimp only [c26]; simp (maxSteps := 8000000) (implicitDefEqProofs := false) (disch := omega) only [↓reduceIte, go_sem, if_pos, if_neg, hlen, spi_at, key_at, seq_at, eq_true r0, eq_true r1, eq_true r2, eq_true c1])
    exact endT_v (.inr rfl) (by (simp (maxSteps := 8000000) (implicitDefEqProofs := false) (disch := omega) only [↓reduceIte, go_sem, if_pos, if_neg]) <;> rfl) (fun _ => rfl)
  have hpl := padL_len l 4 4
  have hpn := padN_bd (n := l.length) (S := 4) (by omega)
  have hpb : isB (padL l 4 4) := padL_bd h1 (by omega) (by omega)
  have q2 := seal_at k s (padL l 4 4) ⟨hpb, by omega⟩
  have hsc : sealC k s (padL l 4 4) = 0 := by unfold sealC; rw [if_pos (keyP_of hr), if_neg (by omega)]
  have hsl := sealL_len k s (padL l 4 4)
  rw [brV_ok hsc, zOf_pos (by omega)] at q2
  have q3 : put_S [.p (.int .i64 a), .p (.int .i64 4)] = _ := put_at a 4 (by omega) (by omega)
  have hwl := wrapL_len a k s l
  rw [brV_ok (by unfold wrapC; rw [if_pos hr, if_neg c1]), zOf_pos (by omega)]
  have q1 : pad_S [.s (bsT l), .p (.int .i64 4), .p (.int .u8 4)] = _ := pad_at l 4 4 ⟨h1, h2, by omega, by omega⟩
  have q4 : put_S [.p (.int .i64 s), .p (.int .i64 4)] = _ := put_at s 4 (by omega) (by omega)
  have q5 : concat_S [.s [.s (bsT (putL a 4)), .s (bsT (putL s 4)), .s (bsT (sealL k s (padL l 4 4)))]] = _ := concat_at [putL a 4, putL s 4, sealL k s (padL l 4 4)] (by simp [putL_len]; omega)
  have e5 : [putL a 4, putL s 4, sealL k s (padL l 4 4)].flatten = wrapL a k s l := by simp [wrapL]
  rw [e5] at q5
  (dsimp only [c26]; simp (maxSteps := 8000000) (implicitDefEqProofs := false) (disch := first | omega | (simp only [List.length_append, List.length_cons, List.length_nil, Nat.reduceAdd, putL_len]; omega)) only [↓reduceIte, go_sem, if_pos, if_neg, hlen, spi_at, key_at, seq_at, eq_true r0, eq_true r1, eq_true r2, eq_false c1, q1, q2, q3, q4, q5, List.take_of_length_le])
  exact endT_of [7] (.inr rfl) (by simp (maxSteps := 8000000) (implicitDefEqProofs := false) (disch := omega) only [↓reduceIte, go_sem, if_pos, if_neg]; rfl) (by simp (maxSteps := 8000000) (implicitDefEqProofs := false) (disch := omega) only [↓reduceIte, go_sem, if_pos, if_neg]) (by simp (maxSteps := 8000000) (implicitDefEqProofs := false) (disch := omega) only [↓reduceIte, go_sem, if_pos, if_neg]) (by decide) (by simp)
-- spec.WrapInner
def c24 : AF := ⟨36,
  (.seq (.reg [⟨(some 8), none, .alloc 27 [(.int .i64 0), (.slice none 0 0)]⟩])
  (.seq (.seq (.reg [⟨(some 10), none, .mv (.t 0)⟩,
   ⟨(some 11), none, .mv (.t 1)⟩,
   ⟨(some 12), none, .mv (.t 2)⟩,
   ⟨(some 13), none, .call 112 [(.t 10), (.t 11), (.t 12)]⟩,
   ⟨(some 14), none, .un .not (.t 13)⟩])
  (.cond (.t 14) (.seq (.reg [⟨(some 15), none, .build [(.int .i64 0), (.slice none 0 0)] [(0, 1, (.v (.int .i64 3)))]⟩,
   ⟨none, none, .st 2 (.t 8) (.t 15)⟩])
  .ret)
  .skip))
  (.seq (.seq (.reg [⟨(some 16), none, .mv (.t 3)⟩,
   ⟨(some 17), none, .len (.t 16)⟩,
   ⟨(some 18), none, .bin .gtr (.t 17) (.v (.int .i64 240))⟩])
  (.cond (.t 18) (.seq (.reg [⟨(some 19), none, .build [(.int .i64 0), (.slice none 0 0)] [(0, 1, (.v (.int .i64 2)))]⟩,
   ⟨none, none, .st 2 (.t 8) (.t 19)⟩])
  .ret)
  .skip))
  (.seq (.reg [⟨(some 20), none, .mv (.t 0)⟩,
   ⟨(some 21), none, .call 109 [(.t 20), (.v (.int .i64 4))]⟩,
   ⟨(some 22), none, .mv (.t 2)⟩,
   ⟨(some 23), none, .bin .rem (.t 22) (.v (.int .i64 4294967296))⟩,
   ⟨(some 24), none, .call 109 [(.t 23), (.v (.int .i64 4))]⟩,
   ⟨(some 25), none, .app 5 1 1 (.t 21) (.t 24)⟩,
   ⟨(some 9), none, .mv (.t 25)⟩])
  (.seq (.reg [⟨(some 26), none, .mv (.t 9)⟩,
   ⟨(some 27), none, .mv (.t 1)⟩,
   ⟨(some 28), none, .mv (.t 2)⟩,
   ⟨(some 29), none, .mv (.t 3)⟩,
   ⟨(some 30), none, .call 17 [(.t 29), (.v (.int .i64 4)), (.v (.int .i64 4))]⟩,
   ⟨(some 31), none, .fld (.t 30) 1⟩,
   ⟨(some 32), none, .call 21 [(.t 27), (.t 28), (.t 31)]⟩,
   ⟨(some 33), none, .fld (.t 32) 1⟩,
   ⟨(some 34), none, .app 5 1 1 (.t 26) (.t 33)⟩,
   ⟨(some 35), none, .build [(.int .i64 0), (.slice none 0 0)] [(1, 1, (.t 34))]⟩,
   ⟨none, none, .st 2 (.t 8) (.t 35)⟩])
  .ret))))),
  [.cell 8 (some 2)]⟩
theorem k24 : cFn Try.prog Try.f24 = some c24 := by kernel_rfl
theorem wrapS_ok : OkT Try.prog 24 (pureSp wrap_S) := by
  refine okT_fn (OkΓT.cons range_ok (OkΓT.cons l1Bytes_ok (OkΓT.cons padBS_ok (OkΓT.cons sealS_ok (OkΓT.nil _))))) Try.func24 (by kernel_rfl) k24 (fun x _ => brV_own _ _) ?_
  rintro ⟨a, k, s, l⟩ ⟨h1, h2⟩
  try dsimp only at *
  have hlen := bs_len l
  by_cases hr : rangeP a k s
  case neg =>
    rw [brV_bad (c' := 3) (by unfold wrapC; rw [if_neg hr]) (by decide)]
    (dsimp only [c24]; simp (maxSteps := 8000000) (implicitDefEqProofs := false) (disch := omega) only [↓reduceIte, go_sem, if_pos, if_neg, hlen, range_at, eq_false hr])
    exact endT_v (.inr rfl) (by (simp (maxSteps := 8000000) (implicitDefEqProofs := false) (disch := omega) only [↓reduceIte, go_sem, if_pos, if_neg]) <;> rfl) (fun _ => rfl)
  by_cases c1 : (l.length : Int) > 240
  case pos =>
    rw [brV_bad (c' := 2) (by unfold wrapC; rw [if_pos hr, if_pos c1]) (by decide)]
    (dsimp only [c24]; simp (maxSteps := 8000000) (implicitDefEqProofs := false) (disch := omega) only [↓reduceIte, go_sem, if_pos, if_neg, hlen, range_at, eq_true hr, eq_true c1])
    exact endT_v (.inr rfl) (by (simp (maxSteps := 8000000) (implicitDefEqProofs := false) (disch := omega) only [↓reduceIte, go_sem, if_pos, if_neg]) <;> rfl) (fun _ => rfl)
  have hpl := padL_len l 4 4
  have hpn := padN_bd (n := l.length) (S := 4) (by omega)
  have hpb : isB (padL l 4 4) := padL_bd h1 (by omega) (by omega)
  have q2 := seal_at k s (padL l 4 4) ⟨hpb, by omega⟩
  have hsc : sealC k s (padL l 4 4) = 0 := by unfold sealC; rw [if_pos (keyP_of hr), if_neg (by omega)]
  have hsl := sealL_len k s (padL l 4 4)
  rw [brV_ok hsc, zOf_pos (by omega)] at q2
  have q3 : put_S [.p (.int .i64 a), .p (.int .i64 4)] = _ := put_at a 4 (by omega) (by omega)
  have hwl := wrapL_len a k s l
  rw [brV_ok (by unfold wrapC; rw [if_pos hr, if_neg c1]), zOf_pos (by omega)]
  have q1 : padB_S [.s (bsT l), .p (.int .i64 4), .p (.int .i64 4)] = _ := padB_at l 4 4 ⟨h1, h2⟩
  have hpc : padC l 4 4 = 0 := by unfold padC; rw [if_pos (by omega), if_neg (by omega)]
  rw [brV_ok hpc, show (4 : Int).toNat = 4 from rfl, zOf_pos (by omega)] at q1
  have hm := rem64 (n := s) (b := 4294967296) (by omega) (by omega)
  have q4 : put_S [.p (.int .i64 (s % 4294967296)), .p (.int .i64 4)] = _ := put_at (s % 4294967296) 4 (by omega) (by omega)
  rw [putL_mod (by omega)] at q4
  rw [show (wrapL a k s l).length = 8 + ((padL l 4 4).length + 4) by omega]
  simp only [wrapL]
  (dsimp only [c24]; simp (maxSteps := 8000000) (implicitDefEqProofs := false) (disch := first | omega | (simp only [List.length_append, List.length_cons, List.length_nil, Nat.reduceAdd, putL_len, hsl]; omega)) only [↓reduceIte, go_sem, if_pos, if_neg, hlen, range_at, eq_true hr, eq_false c1, q1, ↓hm, q2, q3, q4, bs_append, List.append_assoc, List.take_of_length_le, putL_len, hsl])
  exact endT_of [6] (.inr rfl) (by simp (maxSteps := 8000000) (implicitDefEqProofs := false) (disch := omega) only [↓reduceIte, go_sem, if_pos, if_neg]; rfl) (by simp (maxSteps := 8000000) (implicitDefEqProofs := false) (disch := omega) only [↓reduceIte, go_sem, if_pos, if_neg]) (by simp (maxSteps := 8000000) (implicitDefEqProofs := false) (disch := omega) only [↓reduceIte, go_sem, if_pos, if_neg]) (by decide) (by simp)

def peekC (l : List Int) : Int := if (14 ≤ (l.length : Int) ∧ (l.length : Int) ≤ 300) ∧ ¬ takeN (l.take 4) = 0 then 0 else 5
def peekV (l : List Int) : TV := if peekC l = 0 then .agg [.p (.int .i64 0), .p (.int .i64 (takeN (l.take 4))), .p (.int .i64 (takeN ((l.drop 4).take 4)))] else .agg [.p (.int .i64 5), .p (.int .i64 0), .p (.int .i64 0)]
theorem peekV_bad {l : List Int} (h : ¬ ((14 ≤ (l.length : Int) ∧ (l.length : Int) ≤ 300) ∧ ¬ takeN (l.take 4) = 0)) : peekC l = 5 ∧ peekV l = .agg [.p (.int .i64 5), .p (.int .i64 0), .p (.int .i64 0)] := by
  have e : peekC l = 5 := by unfold peekC; rw [if_neg h]
  exact ⟨e, by unfold peekV; rw [e]; rfl⟩
theorem peekV_ok {l : List Int} (h : (14 ≤ (l.length : Int) ∧ (l.length : Int) ≤ 300) ∧ ¬ takeN (l.take 4) = 0) : peekC l = 0 ∧ peekV l = .agg [.p (.int .i64 0), .p (.int .i64 (takeN (l.take 4))), .p (.int .i64 (takeN ((l.drop 4).take 4)))] := by
  have e : peekC l = 0 := by unfold peekC; rw [if_pos h]
  exact ⟨e, by unfold peekV; rw [if_pos e]⟩
noncomputable def peek_S := specP (fun x : List Int => [.s (bsT x)]) (fun x => (isB x) ∧ (x.length ≤ 1048576)) (fun x => (peekV x, []))
theorem peek_at (l : List Int) (h : (isB l) ∧ (l.length ≤ 1048576)) : peek_S [.s (bsT l)] = some ((peekV l, [])) := specP_at (enc := fun x : List Int => [.s (bsT x)]) (by rintro a0 b0 h; simp only [List.cons.injEq, and_true] at h; have h0 := h; obtain rfl := sby_inj h0; rfl) l h
-- impl.PeekOuter
def c49 : AF := ⟨21,
  (.seq (.reg [⟨(some 2), none, .alloc 78 [(.int .i64 0), (.int .i64 0), (.int .i64 0)]⟩])
  (.seq (.seq (.reg [⟨(some 3), none, .mv (.t 0)⟩,
   ⟨(some 4), none, .len (.t 3)⟩,
   ⟨(some 5), none, .call 95 [(.t 4), (.v (.int .i64 14)), (.v (.int .i64 300))]⟩,
   ⟨(some 6), none, .un .not (.t 5)⟩,
   ⟨(some 7), none, .mv (.t 6)⟩,
   ⟨(some 8), (some (7, false)), .mv (.t 0)⟩,
   ⟨(some 9), (some (7, false)), .sl 1 (.t 8) none (some (.v (.int .i64 4)))⟩,
   ⟨(some 10), (some (7, false)), .call 111 [(.t 9)]⟩,
   ⟨(some 11), (some (7, false)), .bin .eql (.t 10) (.v (.int .i64 0))⟩,
   ⟨(some 12), none, .pick (.t 7) (.v (.bool true)) (.t 11)⟩])
  (.cond (.t 12) (.seq (.reg [⟨(some 13), none, .build [(.int .i64 0), (.int .i64 0), (.int .i64 0)] [(0, 1, (.v (.int .i64 5)))]⟩,
   ⟨none, none, .st 3 (.t 2) (.t 13)⟩])
  .ret)
  .skip))
  (.seq (.drw [⟨(some 14), none, .mv (.t 0)⟩,
   ⟨(some 15), none, .sl 1 (.t 14) none (some (.v (.int .i64 4)))⟩,
   ⟨(some 16), none, .call 111 [(.t 15)]⟩,
   ⟨(some 17), none, .mv (.t 0)⟩,
   ⟨(some 18), none, .sl 1 (.t 17) (some (.v (.int .i64 4))) (some (.v (.int .i64 8)))⟩] [⟨(some 19), none, .call 111 [(.t 18)]⟩,
   ⟨(some 20), none, .build [(.int .i64 0), (.int .i64 0), (.int .i64 0)] [(0, 1, (.v (.int .i64 0))), (1, 1, (.t 16)), (2, 1, (.t 19))]⟩,
   ⟨none, none, .st 3 (.t 2) (.t 20)⟩])
  .ret))),
  [.cell 2 (some 3)]⟩
theorem k49 : cFn Try.prog Try.f49 = some c49 := by kernel_rfl
theorem peekI_ok : OkT Try.prog 49 (pureSp peek_S) := by
  refine okT_fn (OkΓT.cons in_ok (OkΓT.cons take_ok (OkΓT.nil _))) Try.func49 (by kernel_rfl) k49 (fun x _ => ⟨by unfold peekV; split <;> rfl, rfl⟩) ?_
  rintro l ⟨h1, h2⟩
  try dsimp only at *
  have hlen := bs_len l
  by_cases c0 : 14 ≤ (l.length : Int) ∧ (l.length : Int) ≤ 300
  case neg =>
    rw [(peekV_bad (fun h => c0 h.1)).2]
    (dsimp only [c49]; simp (maxSteps := 8000000) (implicitDefEqProofs := false) (disch := omega) only [↓reduceIte, go_sem, if_pos, if_neg, hlen, in_at, eq_false c0])
    exact endT_v (.inr rfl) (by (simp (maxSteps := 8000000) (implicitDefEqProofs := false) (disch := omega) only [↓reduceIte, go_sem, if_pos, if_neg]) <;> rfl) (fun _ => rfl)
  have q1 := take_at (l.take 4) (isB_take h1 _) (by simp; omega)
  have q2 := take_at ((l.drop 4).take 4) (isB_take (isB_drop h1 _) _) (by simp; omega)
  by_cases c1 : takeN (l.take 4) = 0
  case pos =>
    rw [(peekV_bad (fun h => h.2 c1)).2]
    (dsimp only [c49]; simp (maxSteps := 8000000) (implicitDefEqProofs := false) (disch := omega) only [↓reduceIte, go_sem, if_pos, if_neg, hlen, in_at, eq_true c0, q1, q2, eq_true c1])
    exact endT_v (.inr rfl) (by (simp (maxSteps := 8000000) (implicitDefEqProofs := false) (disch := omega) only [↓reduceIte, go_sem, if_pos, if_neg]) <;> rfl) (fun _ => rfl)
  rw [(peekV_ok ⟨c0, c1⟩).2]
  (dsimp only [c49]; simp (maxSteps := 8000000) (implicitDefEqProofs := false) (disch := omega) only [↓reduceIte, go_sem, if_pos, if_neg, hlen, in_at, eq_true c0, q1, q2, eq_false c1])
  exact endT_v (.inr rfl) (by (simp (maxSteps := 8000000) (implicitDefEqProofs := false) (disch := omega) only [↓reduceIte, go_sem, if_pos, if_neg]) <;> rfl) (fun _ => rfl)
-- spec.PeekOuter
def c118 : AF := ⟨18,
  (.seq (.reg [⟨(some 2), none, .alloc 78 [(.int .i64 0), (.int .i64 0), (.int .i64 0)]⟩])
  (.seq (.seq (.reg [⟨(some 3), none, .mv (.t 0)⟩,
   ⟨(some 4), none, .len (.t 3)⟩,
   ⟨(some 5), none, .call 97 [(.t 4), (.v (.int .i64 14)), (.v (.int .i64 300))]⟩,
   ⟨(some 6), none, .un .not (.t 5)⟩,
   ⟨(some 7), none, .mv (.t 6)⟩,
   ⟨(some 8), (some (7, false)), .mv (.t 0)⟩,
   ⟨(some 9), (some (7, false)), .call 192 [(.t 8), (.v (.int .i64 0)), (.v (.int .i64 4))]⟩,
   ⟨(some 10), (some (7, false)), .bin .eql (.t 9) (.v (.int .i64 0))⟩,
   ⟨(some 11), none, .pick (.t 7) (.v (.bool true)) (.t 10)⟩])
  (.cond (.t 11) (.seq (.reg [⟨(some 12), none, .build [(.int .i64 0), (.int .i64 0), (.int .i64 0)] [(0, 1, (.v (.int .i64 5)))]⟩,
   ⟨none, none, .st 3 (.t 2) (.t 12)⟩])
  .ret)
  .skip))
  (.seq (.reg [⟨(some 13), none, .mv (.t 0)⟩,
   ⟨(some 14), none, .call 192 [(.t 13), (.v (.int .i64 0)), (.v (.int .i64 4))]⟩,
   ⟨(some 15), none, .mv (.t 0)⟩,
   ⟨(some 16), none, .call 192 [(.t 15), (.v (.int .i64 4)), (.v (.int .i64 4))]⟩,
   ⟨(some 17), none, .build [(.int .i64 0), (.int .i64 0), (.int .i64 0)] [(1, 1, (.t 14)), (2, 1, (.t 16))]⟩,
   ⟨none, none, .st 3 (.t 2) (.t 17)⟩])
  .ret))),
  [.cell 2 (some 3)]⟩
theorem k118 : cFn Try.prog Try.f118 = some c118 := by kernel_rfl
theorem peekS_ok : OkT Try.prog 118 (pureSp peek_S) := by
  refine okT_fn (OkΓT.cons l1In_ok (OkΓT.cons l1Take_ok (OkΓT.nil _))) Try.func118 (by kernel_rfl) k118 (fun x _ => ⟨by unfold peekV; split <;> rfl, rfl⟩) ?_
  rintro l ⟨h1, h2⟩
  try dsimp only at *
  have hlen := bs_len l
  by_cases c0 : 14 ≤ (l.length : Int) ∧ (l.length : Int) ≤ 300
  case neg =>
    rw [(peekV_bad (fun h => c0 h.1)).2]
    (dsimp only [c118]; simp (maxSteps := 8000000) (implicitDefEqProofs := false) (disch := omega) only [↓reduceIte, go_sem, if_pos, if_neg, hlen, in_at, eq_false c0])
    exact endT_v (.inr rfl) (by (simp (maxSteps := 8000000) (implicitDefEqProofs := false) (disch := omega) only [↓reduceIte, go_sem, if_pos, if_neg]) <;> rfl) (fun _ => rfl)
  have q1 : l1Take_S [.s (bsT l), .p (.int .i64 0), .p (.int .i64 4)] = some (.p (.int .i64 (takeN (l.take 4))), []) := l1Take_at l 0 4 h1 (by omega) (by omega) (by omega)
  have q2 : l1Take_S [.s (bsT l), .p (.int .i64 4), .p (.int .i64 4)] = _ := l1Take_at l 4 4 h1 (by omega) (by omega) (by omega)
  by_cases c1 : takeN (l.take 4) = 0
  case pos =>
    rw [(peekV_bad (fun h => h.2 c1)).2]
    (dsimp only [c118]; simp (maxSteps := 8000000) (implicitDefEqProofs := false) (disch := omega) only [↓reduceIte, go_sem, if_pos, if_neg, hlen, in_at, eq_true c0, q1, q2, eq_true c1])
    exact endT_v (.inr rfl) (by (simp (maxSteps := 8000000) (implicitDefEqProofs := false) (disch := omega) only [↓reduceIte, go_sem, if_pos, if_neg]) <;> rfl) (fun _ => rfl)
  rw [(peekV_ok ⟨c0, c1⟩).2]
  (dsimp only [c118]; simp (maxSteps := 8000000) (implicitDefEqProofs := false) (disch := omega) only [↓reduceIte, go_sem, if_pos, if_neg, hlen, in_at, eq_true c0, q1, q2, eq_false c1])
  exact endT_v (.inr rfl) (by (simp (maxSteps := 8000000) (implicitDefEqProofs := false) (disch := omega) only [↓reduceIte, go_sem, if_pos, if_neg]) <;> rfl) (fun _ => rfl)

abbrev ksP (k s : Int) : Prop := (0 ≤ k ∧ k ≤ 4294967295) ∧ (1 ≤ s ∧ s ≤ 1099511627776)
abbrev formP (o : List Int) : Prop := ¬ nextV o = 4 ∨ ¬ o.length % 4 = 0 ∨ padV o > 3
noncomputable def inC (l : List Int) (k s : Int) : Int := if peekC l = 0 then (if ksP k s then (if takeN ((l.drop 4).take 4) = s % 4294967296 then (if openC k s (l.drop 8) = 0 then (if upB (openL k s (l.drop 8)) = true then (if formP (openL k s (l.drop 8)) then 1 else 0) else 5) else openC k s (l.drop 8)) else 1) else 3) else 5
noncomputable def inL (l : List Int) (k s : Int) : List Int := ownV (openL k s (l.drop 8))
noncomputable def inV (l : List Int) (k s : Int) : TV × THeap := if inC l k s = 0 then (.agg [.p (.int .i64 0), .p (.int .i64 s), .os 0 0 (inL l k s).length], [.cells 5 1 (bsT (inL l k s))]) else (.agg [.p (.int .i64 (inC l k s)), .p (.int .i64 0), .nl], [])
theorem inV_bad {l : List Int} {k s c : Int} (h : inC l k s = c) (hc : c ≠ 0) : inV l k s = (.agg [.p (.int .i64 c), .p (.int .i64 0), .nl], []) := by unfold inV; rw [h, if_neg hc]
theorem inV_ok {l : List Int} {k s : Int} (h : inC l k s = 0) : inV l k s = (.agg [.p (.int .i64 0), .p (.int .i64 s), .os 0 0 (inL l k s).length], [.cells 5 1 (bsT (inL l k s))]) := by unfold inV; rw [if_pos h]
theorem inV_own (l : List Int) (k s : Int) : ownT (inV l k s).1 = true ∧ (inV l k s).2.all ownB = true := by
  unfold inV; split
  · exact ⟨rfl, by simp only [go_sem, List.all_cons, List.all_nil]⟩
  · exact ⟨rfl, rfl⟩
theorem inL_bd (l : List Int) (k s : Int) : isB (inL l k s) := isB_take (openL_bd _ _ _) _
theorem inL_len (l : List Int) (k s : Int) : (inL l k s).length ≤ l.length := by
  unfold inL ownV; rw [List.length_take, openL_len, List.length_drop]; omega
noncomputable def unwrap_S := specP (fun x : List Int × Int × Int => [.s (bsT x.1), .p (.int .i64 x.2.1), .p (.int .i64 x.2.2)]) (fun x => (isB x.1) ∧ (x.1.length ≤ 1048576)) (fun x => inV x.1 x.2.1 x.2.2)
theorem unwrap_at (l : List Int) (k : Int) (s : Int) (h : (isB l) ∧ (l.length ≤ 1048576)) : unwrap_S [.s (bsT l), .p (.int .i64 k), .p (.int .i64 s)] = some (inV l k s) := specP_at (enc := fun x : List Int × Int × Int => [.s (bsT x.1), .p (.int .i64 x.2.1), .p (.int .i64 x.2.2)]) (by rintro ⟨a0, a1, a2⟩ ⟨b0, b1, b2⟩ h; simp only [List.cons.injEq, and_true] at h; obtain ⟨h0, h1, h2⟩ := h; obtain rfl := sby_inj h0; obtain rfl := p64_inj h1; obtain rfl := p64_inj h2; rfl) (l, k, s) h
-- impl.UnwrapOuter
def c33 : AF := ⟨78,
  (.seq (.reg [⟨(some 6), none, .alloc 44 [(.int .i64 0), (.int .i64 0), (.slice none 0 0)]⟩])
  (.seq (.reg [⟨(some 10), none, .mv (.t 0)⟩,
   ⟨(some 11), none, .call 49 [(.t 10)]⟩,
   ⟨(some 7), none, .alloc 78 [(.int .i64 0), (.int .i64 0), (.int .i64 0)]⟩,
   ⟨none, none, .st 3 (.t 7) (.t 11)⟩])
  (.seq (.block 0 (.seq (.reg [⟨(some 13), none, .fa (.t 7) 0⟩,
   ⟨(some 14), none, .ld (.t 13)⟩,
   ⟨(some 15), none, .bin .neq (.t 14) (.v (.int .i64 0))⟩,
   ⟨(some 12), none, .mv (.t 15)⟩])
  (.cond (.t 12) (.seq (.reg [⟨(some 16), none, .fa (.t 7) 0⟩,
   ⟨(some 17), none, .ld (.t 16)⟩,
   ⟨(some 18), none, .build [(.int .i64 0), (.int .i64 0), (.slice none 0 0)] [(0, 1, (.t 17))]⟩,
   ⟨none, none, .st 3 (.t 6) (.t 18)⟩])
  .ret)
  (.seq (.reg [⟨(some 20), none, .mv (.t 1)⟩,
   ⟨(some 21), none, .call 114 [(.t 20)]⟩,
   ⟨(some 22), none, .un .not (.t 21)⟩,
   ⟨(some 23), none, .mv (.t 22)⟩,
   ⟨(some 24), (some (23, false)), .mv (.t 2)⟩,
   ⟨(some 25), (some (23, false)), .call 115 [(.t 24)]⟩,
   ⟨(some 26), (some (23, false)), .un .not (.t 25)⟩,
   ⟨(some 27), none, .pick (.t 23) (.v (.bool true)) (.t 26)⟩,
   ⟨(some 19), none, .mv (.t 27)⟩])
  (.cond (.t 19) (.seq (.reg [⟨(some 28), none, .build [(.int .i64 0), (.int .i64 0), (.slice none 0 0)] [(0, 1, (.v (.int .i64 3)))]⟩,
   ⟨none, none, .st 3 (.t 6) (.t 28)⟩])
  .ret)
  (.seq (.reg [⟨(some 30), none, .fa (.t 7) 2⟩,
   ⟨(some 31), none, .ld (.t 30)⟩,
   ⟨(some 32), none, .mv (.t 2)⟩,
   ⟨(some 33), none, .bin .rem (.t 32) (.v (.int .i64 4294967296))⟩,
   ⟨(some 34), none, .bin .neq (.t 31) (.t 33)⟩,
   ⟨(some 29), none, .mv (.t 34)⟩])
  (.cond (.t 29) (.seq (.reg [⟨(some 35), none, .build [(.int .i64 0), (.int .i64 0), (.slice none 0 0)] [(0, 1, (.v (.int .i64 1)))]⟩,
   ⟨none, none, .st 3 (.t 6) (.t 35)⟩])
  .ret)
  .skip)))))))
  (.seq (.reg [⟨(some 36), none, .mv (.t 1)⟩,
   ⟨(some 37), none, .mv (.t 2)⟩,
   ⟨(some 38), none, .mv (.t 0)⟩,
   ⟨(some 39), none, .sl 1 (.t 38) (some (.v (.int .i64 8))) none⟩,
   ⟨(some 40), none, .call 22 [(.t 36), (.t 37), (.t 39)]⟩,
   ⟨(some 8), none, .alloc 27 [(.int .i64 0), (.slice none 0 0)]⟩,
   ⟨none, none, .st 2 (.t 8) (.t 40)⟩])
  (.seq (.seq (.reg [⟨(some 41), none, .fa (.t 8) 0⟩,
   ⟨(some 42), none, .ld (.t 41)⟩,
   ⟨(some 43), none, .bin .neq (.t 42) (.v (.int .i64 0))⟩])
  (.cond (.t 43) (.seq (.reg [⟨(some 44), none, .fa (.t 8) 0⟩,
   ⟨(some 45), none, .ld (.t 44)⟩,
   ⟨(some 46), none, .build [(.int .i64 0), (.int .i64 0), (.slice none 0 0)] [(0, 1, (.t 45))]⟩,
   ⟨none, none, .st 3 (.t 6) (.t 46)⟩])
  .ret)
  .skip))
  (.seq (.reg [⟨(some 47), none, .fa (.t 8) 1⟩,
   ⟨(some 48), none, .ld (.t 47)⟩,
   ⟨(some 49), none, .call 18 [(.t 48)]⟩,
   ⟨(some 9), none, .alloc 30 [(.int .i64 0), (.slice none 0 0), (.int .i64 0), (.int .i64 0)]⟩,
   ⟨none, none, .st 4 (.t 9) (.t 49)⟩])
  (.seq (.block 1 (.seq (.reg [⟨(some 51), none, .fa (.t 9) 0⟩,
   ⟨(some 52), none, .ld (.t 51)⟩,
   ⟨(some 53), none, .bin .neq (.t 52) (.v (.int .i64 0))⟩,
   ⟨(some 50), none, .mv (.t 53)⟩])
  (.cond (.t 50) (.seq (.reg [⟨(some 54), none, .fa (.t 9) 0⟩,
   ⟨(some 55), none, .ld (.t 54)⟩,
   ⟨(some 56), none, .build [(.int .i64 0), (.int .i64 0), (.slice none 0 0)] [(0, 1, (.t 55))]⟩,
   ⟨none, none, .st 3 (.t 6) (.t 56)⟩])
  .ret)
  (.seq (.reg [⟨(some 58), none, .fa (.t 9) 2⟩,
   ⟨(some 59), none, .ld (.t 58)⟩,
   ⟨(some 60), none, .bin .neq (.t 59) (.v (.int .i64 4))⟩,
   ⟨(some 61), none, .mv (.t 60)⟩,
   ⟨(some 62), (some (61, false)), .fa (.t 8) 1⟩,
   ⟨(some 63), (some (61, false)), .ld (.t 62)⟩,
   ⟨(some 64), (some (61, false)), .len (.t 63)⟩,
   ⟨(some 65), (some (61, false)), .bin .rem (.t 64) (.v (.int .i64 4))⟩,
   ⟨(some 66), (some (61, false)), .bin .neq (.t 65) (.v (.int .i64 0))⟩,
   ⟨(some 67), none, .pick (.t 61) (.v (.bool true)) (.t 66)⟩,
   ⟨(some 68), none, .mv (.t 67)⟩,
   ⟨(some 69), (some (68, false)), .fa (.t 9) 3⟩,
   ⟨(some 70), (some (68, false)), .ld (.t 69)⟩,
   ⟨(some 71), (some (68, false)), .bin .gtr (.t 70) (.v (.int .i64 3))⟩,
   ⟨(some 72), none, .pick (.t 68) (.v (.bool true)) (.t 71)⟩,
   ⟨(some 57), none, .mv (.t 72)⟩])
  (.cond (.t 57) (.seq (.reg [⟨(some 73), none, .build [(.int .i64 0), (.int .i64 0), (.slice none 0 0)] [(0, 1, (.v (.int .i64 1)))]⟩,
   ⟨none, none, .st 3 (.t 6) (.t 73)⟩])
  .ret)
  .skip)))))
  (.seq (.reg [⟨(some 74), none, .mv (.t 2)⟩,
   ⟨(some 75), none, .fa (.t 9) 1⟩,
   ⟨(some 76), none, .ld (.t 75)⟩,
   ⟨(some 77), none, .build [(.int .i64 0), (.int .i64 0), (.slice none 0 0)] [(0, 1, (.v (.int .i64 0))), (1, 1, (.t 74)), (2, 1, (.t 76))]⟩,
   ⟨none, none, .st 3 (.t 6) (.t 77)⟩])
  .ret)))))))),
  [.cell 6 (some 3)]⟩
theorem k33 : cFn Try.prog Try.f33 = some c33 := by kernel_rfl
theorem unwI_ok : OkT Try.prog 33 (pureSp unwrap_S) := by
  refine okT_fn (OkΓT.cons peekI_ok (OkΓT.cons isKey_ok (OkΓT.cons isSeq_ok (OkΓT.cons openI_ok (OkΓT.cons unpI_ok (OkΓT.nil _)))))) Try.func33 (by kernel_rfl) k33 (fun x _ => inV_own _ _ _) ?_
  rintro ⟨l, k, s⟩ ⟨h1, h2⟩
  try dsimp only at *
  have hlen := bs_len l
  have hp := peek_at l ⟨h1, h2⟩
  by_cases c0 : (14 ≤ (l.length : Int) ∧ (l.length : Int) ≤ 300) ∧ ¬ takeN (l.take 4) = 0
  case neg =>
    obtain ⟨p1, p2⟩ := peekV_bad c0
    rw [p2] at hp
    rw [inV_bad (c := 5) (by unfold inC; rw [p1]; rfl) (by decide)]
    (dsimp only [c33]; simp (maxSteps := 8000000) (implicitDefEqProofs := false) (disch := omega) only [↓reduceIte, go_sem, if_pos, if_neg, hlen, hp])
    exact endT_v (.inr rfl) (by (simp (maxSteps := 8000000) (implicitDefEqProofs := false) (disch := omega) only [↓reduceIte, go_sem, if_pos, if_neg]) <;> rfl) (fun _ => rfl)
  obtain ⟨p1, p2⟩ := peekV_ok c0
  rw [p2] at hp
  by_cases r0 : 0 ≤ k ∧ k ≤ 4294967295
  case neg =>
    rw [inV_bad (c := 3) (by unfold inC; rw [if_pos p1, if_neg (fun h => r0 h.1)]) (by decide)]
    (dsimp only [c33]; simp (maxSteps := 8000000) (implicitDefEqProofs := false) (disch := omega) only [↓reduceIte, go_sem, if_pos, if_neg, hlen, hp, key_at, seq_at, eq_false r0])
    exact endT_v (.inr rfl) (by (simp (maxSteps := 8000000) (implicitDefEqProofs := false) (disch := omega) only [↓reduceIte, go_sem, if_pos, if_neg]) <;> rfl) (fun _ => rfl)
  by_cases r1 : 1 ≤ s ∧ s ≤ 1099511627776
  case neg =>
    rw [inV_bad (c := 3) (by unfold inC; rw [if_pos p1, if_neg (fun h => r1 h.2)]) (by decide)]
    (dsimp only [c33]; simp (maxSteps := 8000000) (implicitDefEqProofs := false) (disch := omega) only [↓reduceIte, go_sem, if_pos, if_neg, hlen, hp, key_at, seq_at, eq_true r0, eq_false r1])
    exact endT_v (.inr rfl) (by (simp (maxSteps := 8000000) (implicitDefEqProofs := false) (disch := omega) only [↓reduceIte, go_sem, if_pos, if_neg]) <;> rfl) (fun _ => rfl)
  have hr : ksP k s := ⟨r0, r1⟩
  have hm := rem64 (n := s) (b := 4294967296) (by omega) (by omega)
  by_cases c1 : takeN ((l.drop 4).take 4) = s % 4294967296
  case neg =>
    rw [inV_bad (c := 1) (by unfold inC; rw [if_pos p1, if_pos hr, if_neg c1]) (by decide)]
    (dsimp only [c33]; simp (maxSteps := 8000000) (implicitDefEqProofs := false) (disch := omega) only [↓reduceIte, go_sem, if_pos, if_neg, hlen, hp, key_at, seq_at, eq_true r0, eq_true r1, ↓hm, eq_false c1])
    exact endT_v (.inr rfl) (by (simp (maxSteps := 8000000) (implicitDefEqProofs := false) (disch := omega) only [↓reduceIte, go_sem, if_pos, if_neg]) <;> rfl) (fun _ => rfl)
  have ht8 : (l.drop 8).take ((l.length : Int) - 8).toNat = l.drop 8 := List.take_of_length_le (by rw [List.length_drop]; omega)
  have ho := open_at k s (l.drop 8) ⟨isB_drop h1 _, by rw [List.length_drop]; omega⟩
  by_cases c2 : openC k s (l.drop 8) = 0
  case neg =>
    have hoc := c2
    rw [brV_bad rfl c2] at ho
    generalize hg : openC k s (l.drop 8) = oc at *
    rw [inV_bad (c := oc) (by unfold inC; rw [if_pos p1, if_pos hr, if_pos c1, hg, if_neg c2]) (hoc)]
    (dsimp only [c33]; simp (maxSteps := 8000000) (implicitDefEqProofs := false) (disch := omega) only [↓reduceIte, go_sem, if_pos, if_neg, hlen, hp, key_at, seq_at, eq_true r0, eq_true r1, ↓hm, eq_true c1, ht8, ho, eq_false c2])
    exact endT_v (.inr rfl) (by (simp (maxSteps := 8000000) (implicitDefEqProofs := false) (disch := omega) only [↓reduceIte, go_sem, if_pos, if_neg]) <;> rfl) (fun _ => rfl)
  rw [brV_ok c2] at ho
  have hol := openL_len k s (l.drop 8)
  have hob := openL_bd k s (l.drop 8)
  rw [List.length_drop] at hol
  have hin : inL l k s = ownV (openL k s (l.drop 8)) := rfl
  have hcc : inC l k s = (if upB (openL k s (l.drop 8)) = true then (if formP (openL k s (l.drop 8)) then 1 else 0) else 5) := by unfold inC; rw [if_pos p1, if_pos hr, if_pos c1, if_pos c2]
  have hob2 := bs_len (openL k s (l.drop 8))
  have htk : (openL k s (l.drop 8)).take (openL k s (l.drop 8)).length = openL k s (l.drop 8) := List.take_length
  generalize openL k s (l.drop 8) = o at *
  have hu := unp_at o ⟨hob, by omega⟩
  have hx : ¬ (o.length : Int) > 418 := by omega
  by_cases c3 : upB o = true
  case neg =>
    have c3' : upB o = false := by simpa using c3
    rw [unV_5 hx c3'] at hu
    rw [inV_bad (c := 5) (by rw [hcc, if_neg c3]) (by decide)]
    (dsimp only [c33]; simp (maxSteps := 8000000) (implicitDefEqProofs := false) (disch := omega) only [↓reduceIte, go_sem, if_pos, if_neg, hlen, hp, key_at, seq_at, eq_true r0, eq_true r1, ↓hm, eq_true c1, ht8, ho, htk, hu])
    exact endT_v (.inr rfl) (by (simp (maxSteps := 8000000) (implicitDefEqProofs := false) (disch := omega) only [↓reduceIte, go_sem, if_pos, if_neg]) <;> rfl) (fun _ => rfl)
  rw [unV_0 hx c3] at hu
  rw [if_pos c3] at hcc
  have hpb := padV_bd hob
  have hnb := nextV_bd hob
  have hm4 := rem64 (n := (o.length : Int)) (b := 4) (by omega) (by omega)
  by_cases f0 : nextV o = 4
  case neg =>
    rw [inV_bad (c := 1) (by rw [hcc, if_pos (.inl f0)]) (by decide)]
    (dsimp only [c33]; simp (maxSteps := 8000000) (implicitDefEqProofs := false) (disch := omega) only [↓reduceIte, go_sem, if_pos, if_neg, hlen, hp, key_at, seq_at, eq_true r0, eq_true r1, ↓hm, eq_true c1, ht8, ho, htk, hu, hob2, ↓hm4, eq_false f0])
    exact endT_v (.inr rfl) (by (simp (maxSteps := 8000000) (implicitDefEqProofs := false) (disch := omega) only [↓reduceIte, go_sem, if_pos, if_neg]) <;> rfl) (fun _ => rfl)
  by_cases f1 : (o.length : Int) % 4 = 0
  case neg =>
    rw [inV_bad (c := 1) (by rw [hcc, if_pos (.inr (.inl (by omega)))]) (by decide)]
    (dsimp only [c33]; simp (maxSteps := 8000000) (implicitDefEqProofs := false) (disch := omega) only [↓reduceIte, go_sem, if_pos, if_neg, hlen, hp, key_at, seq_at, eq_true r0, eq_true r1, ↓hm, eq_true c1, ht8, ho, htk, hu, hob2, ↓hm4, eq_true f0, eq_false f1])
    exact endT_v (.inr rfl) (by (simp (maxSteps := 8000000) (implicitDefEqProofs := false) (disch := omega) only [↓reduceIte, go_sem, if_pos, if_neg]) <;> rfl) (fun _ => rfl)
  by_cases f2 : padV o > 3
  case pos =>
    rw [inV_bad (c := 1) (by rw [hcc, if_pos (.inr (.inr f2))]) (by decide)]
    (dsimp only [c33]; simp (maxSteps := 8000000) (implicitDefEqProofs := false) (disch := omega) only [↓reduceIte, go_sem, if_pos, if_neg, hlen, hp, key_at, seq_at, eq_true r0, eq_true r1, ↓hm, eq_true c1, ht8, ho, htk, hu, hob2, ↓hm4, eq_true f0, eq_true f1, eq_true f2])
    exact endT_v (.inr rfl) (by (simp (maxSteps := 8000000) (implicitDefEqProofs := false) (disch := omega) only [↓reduceIte, go_sem, if_pos, if_neg]) <;> rfl) (fun _ => rfl)
  rw [inV_ok (by rw [hcc, if_neg (by omega)]), hin]
  (dsimp only [c33]; simp (maxSteps := 8000000) (implicitDefEqProofs := false) (disch := omega) only [↓reduceIte, go_sem, if_pos, if_neg, hlen, hp, key_at, seq_at, eq_true r0, eq_true r1, ↓hm, eq_true c1, ht8, ho, htk, hu, hob2, ↓hm4, eq_true f0, eq_true f1, eq_false f2])
  exact endT_of [4] (.inr rfl) (by simp (maxSteps := 8000000) (implicitDefEqProofs := false) (disch := omega) only [↓reduceIte, go_sem, if_pos, if_neg]; rfl) (by simp (maxSteps := 8000000) (implicitDefEqProofs := false) (disch := omega) only [↓reduceIte, go_sem, if_pos, if_neg]) (by simp (maxSteps := 8000000) (implicitDefEqProofs := false) (disch := omega) only [↓reduceIte, go_sem, if_pos, if_neg]) (by decide) (by simp)
-- spec.UnwrapOuter
def c32 : AF := ⟨69,
  (.seq (.reg [⟨(some 6), none, .alloc 44 [(.int .i64 0), (.int .i64 0), (.slice none 0 0)]⟩])
  (.seq (.reg [⟨(some 10), none, .mv (.t 0)⟩,
   ⟨(some 11), none, .call 118 [(.t 10)]⟩,
   ⟨(some 7), none, .alloc 78 [(.int .i64 0), (.int .i64 0), (.int .i64 0)]⟩,
   ⟨none, none, .st 3 (.t 7) (.t 11)⟩])
  (.seq (.seq (.reg [⟨(some 12), none, .fa (.t 7) 0⟩,
   ⟨(some 13), none, .ld (.t 12)⟩,
   ⟨(some 14), none, .bin .neq (.t 13) (.v (.int .i64 0))⟩])
  (.cond (.t 14) (.seq (.reg [⟨(some 15), none, .fa (.t 7) 0⟩,
   ⟨(some 16), none, .ld (.t 15)⟩,
   ⟨(some 17), none, .build [(.int .i64 0), (.int .i64 0), (.slice none 0 0)] [(0, 1, (.t 16))]⟩,
   ⟨none, none, .st 3 (.t 6) (.t 17)⟩])
  .ret)
  .skip))
  (.seq (.seq (.reg [⟨(some 18), none, .mv (.t 1)⟩,
   ⟨(some 19), none, .mv (.t 2)⟩,
   ⟨(some 20), none, .call 112 [(.v (.int .i64 1)), (.t 18), (.t 19)]⟩,
   ⟨(some 21), none, .un .not (.t 20)⟩])
  (.cond (.t 21) (.seq (.reg [⟨(some 22), none, .build [(.int .i64 0), (.int .i64 0), (.slice none 0 0)] [(0, 1, (.v (.int .i64 3)))]⟩,
   ⟨none, none, .st 3 (.t 6) (.t 22)⟩])
  .ret)
  .skip))
  (.seq (.seq (.reg [⟨(some 23), none, .fa (.t 7) 2⟩,
   ⟨(some 24), none, .ld (.t 23)⟩,
   ⟨(some 25), none, .mv (.t 2)⟩,
   ⟨(some 26), none, .bin .rem (.t 25) (.v (.int .i64 4294967296))⟩,
   ⟨(some 27), none, .bin .neq (.t 24) (.t 26)⟩])
  (.cond (.t 27) (.seq (.reg [⟨(some 28), none, .build [(.int .i64 0), (.int .i64 0), (.slice none 0 0)] [(0, 1, (.v (.int .i64 1)))]⟩,
   ⟨none, none, .st 3 (.t 6) (.t 28)⟩])
  .ret)
  .skip))
  (.seq (.reg [⟨(some 29), none, .mv (.t 1)⟩,
   ⟨(some 30), none, .mv (.t 2)⟩,
   ⟨(some 31), none, .mv (.t 0)⟩,
   ⟨(some 32), none, .sl 1 (.t 31) (some (.v (.int .i64 8))) none⟩,
   ⟨(some 33), none, .call 119 [(.t 29), (.t 30), (.t 32)]⟩,
   ⟨(some 8), none, .alloc 27 [(.int .i64 0), (.slice none 0 0)]⟩,
   ⟨none, none, .st 2 (.t 8) (.t 33)⟩])
  (.seq (.seq (.reg [⟨(some 34), none, .fa (.t 8) 0⟩,
   ⟨(some 35), none, .ld (.t 34)⟩,
   ⟨(some 36), none, .bin .neq (.t 35) (.v (.int .i64 0))⟩])
  (.cond (.t 36) (.seq (.reg [⟨(some 37), none, .fa (.t 8) 0⟩,
   ⟨(some 38), none, .ld (.t 37)⟩,
   ⟨(some 39), none, .build [(.int .i64 0), (.int .i64 0), (.slice none 0 0)] [(0, 1, (.t 38))]⟩,
   ⟨none, none, .st 3 (.t 6) (.t 39)⟩])
  .ret)
  .skip))
  (.seq (.reg [⟨(some 40), none, .fa (.t 8) 1⟩,
   ⟨(some 41), none, .ld (.t 40)⟩,
   ⟨(some 42), none, .call 120 [(.t 41)]⟩,
   ⟨(some 9), none, .alloc 30 [(.int .i64 0), (.slice none 0 0), (.int .i64 0), (.int .i64 0)]⟩,
   ⟨none, none, .st 4 (.t 9) (.t 42)⟩])
  (.seq (.seq (.reg [⟨(some 43), none, .fa (.t 9) 0⟩,
   ⟨(some 44), none, .ld (.t 43)⟩,
   ⟨(some 45), none, .bin .neq (.t 44) (.v (.int .i64 0))⟩])
  (.cond (.t 45) (.seq (.reg [⟨(some 46), none, .fa (.t 9) 0⟩,
   ⟨(some 47), none, .ld (.t 46)⟩,
   ⟨(some 48), none, .build [(.int .i64 0), (.int .i64 0), (.slice none 0 0)] [(0, 1, (.t 47))]⟩,
   ⟨none, none, .st 3 (.t 6) (.t 48)⟩])
  .ret)
  .skip))
  (.seq (.seq (.reg [⟨(some 49), none, .fa (.t 9) 2⟩,
   ⟨(some 50), none, .ld (.t 49)⟩,
   ⟨(some 51), none, .bin .neq (.t 50) (.v (.int .i64 4))⟩,
   ⟨(some 52), none, .mv (.t 51)⟩,
   ⟨(some 53), (some (52, false)), .fa (.t 8) 1⟩,
   ⟨(some 54), (some (52, false)), .ld (.t 53)⟩,
   ⟨(some 55), (some (52, false)), .len (.t 54)⟩,
   ⟨(some 56), (some (52, false)), .bin .rem (.t 55) (.v (.int .i64 4))⟩,
   ⟨(some 57), (some (52, false)), .bin .neq (.t 56) (.v (.int .i64 0))⟩,
   ⟨(some 58), none, .pick (.t 52) (.v (.bool true)) (.t 57)⟩,
   ⟨(some 59), none, .mv (.t 58)⟩,
   ⟨(some 60), (some (59, false)), .fa (.t 9) 3⟩,
   ⟨(some 61), (some (59, false)), .ld (.t 60)⟩,
   ⟨(some 62), (some (59, false)), .bin .gtr (.t 61) (.v (.int .i64 3))⟩,
   ⟨(some 63), none, .pick (.t 59) (.v (.bool true)) (.t 62)⟩])
  (.cond (.t 63) (.seq (.reg [⟨(some 64), none, .build [(.int .i64 0), (.int .i64 0), (.slice none 0 0)] [(0, 1, (.v (.int .i64 1)))]⟩,
   ⟨none, none, .st 3 (.t 6) (.t 64)⟩])
  .ret)
  .skip))
  (.seq (.reg [⟨(some 65), none, .mv (.t 2)⟩,
   ⟨(some 66), none, .fa (.t 9) 1⟩,
   ⟨(some 67), none, .ld (.t 66)⟩,
   ⟨(some 68), none, .build [(.int .i64 0), (.int .i64 0), (.slice none 0 0)] [(1, 1, (.t 65)), (2, 1, (.t 67))]⟩,
   ⟨none, none, .st 3 (.t 6) (.t 68)⟩])
  .ret))))))))))),
  [.cell 6 (some 3)]⟩
theorem k32 : cFn Try.prog Try.f32 = some c32 := by kernel_rfl
theorem unwS_ok : OkT Try.prog 32 (pureSp unwrap_S) := by
  refine okT_fn (OkΓT.cons peekS_ok (OkΓT.cons range_ok (OkΓT.cons openS_ok (OkΓT.cons unpS_ok (OkΓT.nil _))))) Try.func32 (by kernel_rfl) k32 (fun x _ => inV_own _ _ _) ?_
  rintro ⟨l, k, s⟩ ⟨h1, h2⟩
  try dsimp only at *
  have hlen := bs_len l
  have hp := peek_at l ⟨h1, h2⟩
  by_cases c0 : (14 ≤ (l.length : Int) ∧ (l.length : Int) ≤ 300) ∧ ¬ takeN (l.take 4) = 0
  case neg =>
    obtain ⟨p1, p2⟩ := peekV_bad c0
    rw [p2] at hp
    rw [inV_bad (c := 5) (by unfold inC; rw [p1]; rfl) (by decide)]
    (dsimp only [c32]; simp (maxSteps := 8000000) (implicitDefEqProofs := false) (disch := omega) only [↓reduceIte, go_sem, if_pos, if_neg, hlen, hp])
    exact endT_v (.inr rfl) (by (simp (maxSteps := 8000000) (implicitDefEqProofs := false) (disch := omega) only [↓reduceIte, go_sem, if_pos, if_neg]) <;> rfl) (fun _ => rfl)
  obtain ⟨p1, p2⟩ := peekV_ok c0
  rw [p2] at hp
  have hra : range_S [.p (.int .i64 1), .p (.int .i64 k), .p (.int .i64 s)] = some (.p (.bool (decide (ksP k s))), []) := by
    rw [range_at, show decide (rangeP 1 k s) = decide (ksP k s) from decide_eq_decide.2 ⟨fun h => h.2, fun h => ⟨by omega, h⟩⟩]
  by_cases r01 : ksP k s
  case neg =>
    rw [inV_bad (c := 3) (by unfold inC; rw [if_pos p1, if_neg r01]) (by decide)]
    (dsimp only [c32]; simp (maxSteps := 8000000) (implicitDefEqProofs := false) (disch := omega) only [↓reduceIte, go_sem, if_pos, if_neg, hlen, hp, hra, eq_false r01])
    exact endT_v (.inr rfl) (by (simp (maxSteps := 8000000) (implicitDefEqProofs := false) (disch := omega) only [↓reduceIte, go_sem, if_pos, if_neg]) <;> rfl) (fun _ => rfl)
  obtain ⟨r0, r1⟩ := id r01
  have hr : ksP k s := ⟨r0, r1⟩
  have hm := rem64 (n := s) (b := 4294967296) (by omega) (by omega)
  by_cases c1 : takeN ((l.drop 4).take 4) = s % 4294967296
  case neg =>
    rw [inV_bad (c := 1) (by unfold inC; rw [if_pos p1, if_pos hr, if_neg c1]) (by decide)]
    (dsimp only [c32]; simp (maxSteps := 8000000) (implicitDefEqProofs := false) (disch := omega) only [↓reduceIte, go_sem, if_pos, if_neg, hlen, hp, hra, eq_true r01, ↓hm, eq_false c1])
    exact endT_v (.inr rfl) (by (simp (maxSteps := 8000000) (implicitDefEqProofs := false) (disch := omega) only [↓reduceIte, go_sem, if_pos, if_neg]) <;> rfl) (fun _ => rfl)
  have ht8 : (l.drop 8).take ((l.length : Int) - 8).toNat = l.drop 8 := List.take_of_length_le (by rw [List.length_drop]; omega)
  have ho := open_at k s (l.drop 8) ⟨isB_drop h1 _, by rw [List.length_drop]; omega⟩
  by_cases c2 : openC k s (l.drop 8) = 0
  case neg =>
    have hoc := c2
    rw [brV_bad rfl c2] at ho
    generalize hg : openC k s (l.drop 8) = oc at *
    rw [inV_bad (c := oc) (by unfold inC; rw [if_pos p1, if_pos hr, if_pos c1, hg, if_neg c2]) (hoc)]
    (dsimp only [c32]; simp (maxSteps := 8000000) (implicitDefEqProofs := false) (disch := omega) only [↓reduceIte, go_sem, if_pos, if_neg, hlen, hp, hra, eq_true r01, ↓hm, eq_true c1, ht8, ho, eq_false c2])
    exact endT_v (.inr rfl) (by (simp (maxSteps := 8000000) (implicitDefEqProofs := false) (disch := omega) only [↓reduceIte, go_sem, if_pos, if_neg]) <;> rfl) (fun _ => rfl)
  rw [brV_ok c2] at ho
  have hol := openL_len k s (l.drop 8)
  have hob := openL_bd k s (l.drop 8)
  rw [List.length_drop] at hol
  have hin : inL l k s = ownV (openL k s (l.drop 8)) := rfl
  have hcc : inC l k s = (if upB (openL k s (l.drop 8)) = true then (if formP (openL k s (l.drop 8)) then 1 else 0) else 5) := by unfold inC; rw [if_pos p1, if_pos hr, if_pos c1, if_pos c2]
  have hob2 := bs_len (openL k s (l.drop 8))
  have htk : (openL k s (l.drop 8)).take (openL k s (l.drop 8)).length = openL k s (l.drop 8) := List.take_length
  generalize openL k s (l.drop 8) = o at *
  have hu := unp_at o ⟨hob, by omega⟩
  have hx : ¬ (o.length : Int) > 418 := by omega
  by_cases c3 : upB o = true
  case neg =>
    have c3' : upB o = false := by simpa using c3
    rw [unV_5 hx c3'] at hu
    rw [inV_bad (c := 5) (by rw [hcc, if_neg c3]) (by decide)]
    (dsimp only [c32]; simp (maxSteps := 8000000) (implicitDefEqProofs := false) (disch := omega) only [↓reduceIte, go_sem, if_pos, if_neg, hlen, hp, hra, eq_true r01, ↓hm, eq_true c1, ht8, ho, htk, hu])
    exact endT_v (.inr rfl) (by (simp (maxSteps := 8000000) (implicitDefEqProofs := false) (disch := omega) only [↓reduceIte, go_sem, if_pos, if_neg]) <;> rfl) (fun _ => rfl)
  rw [unV_0 hx c3] at hu
  rw [if_pos c3] at hcc
  have hpb := padV_bd hob
  have hnb := nextV_bd hob
  have hm4 := rem64 (n := (o.length : Int)) (b := 4) (by omega) (by omega)
  by_cases f0 : nextV o = 4
  case neg =>
    rw [inV_bad (c := 1) (by rw [hcc, if_pos (.inl f0)]) (by decide)]
    (dsimp only [c32]; simp (maxSteps := 8000000) (implicitDefEqProofs := false) (disch := omega) only [↓reduceIte, go_sem, if_pos, if_neg, hlen, hp, hra, eq_true r01, ↓hm, eq_true c1, ht8, ho, htk, hu, hob2, ↓hm4, eq_false f0])
    exact endT_v (.inr rfl) (by (simp (maxSteps := 8000000) (implicitDefEqProofs := false) (disch := omega) only [↓reduceIte, go_sem, if_pos, if_neg]) <;> rfl) (fun _ => rfl)
  by_cases f1 : (o.length : Int) % 4 = 0
  case neg =>
    rw [inV_bad (c := 1) (by rw [hcc, if_pos (.inr (.inl (by omega)))]) (by decide)]
    (dsimp only [c32]; simp (maxSteps := 8000000) (implicitDefEqProofs := false) (disch := omega) only [↓reduceIte, go_sem, if_pos, if_neg, hlen, hp, hra, eq_true r01, ↓hm, eq_true c1, ht8, ho, htk, hu, hob2, ↓hm4, eq_true f0, eq_false f1])
    exact endT_v (.inr rfl) (by (simp (maxSteps := 8000000) (implicitDefEqProofs := false) (disch := omega) only [↓reduceIte, go_sem, if_pos, if_neg]) <;> rfl) (fun _ => rfl)
  by_cases f2 : padV o > 3
  case pos =>
    rw [inV_bad (c := 1) (by rw [hcc, if_pos (.inr (.inr f2))]) (by decide)]
    (dsimp only [c32]; simp (maxSteps := 8000000) (implicitDefEqProofs := false) (disch := omega) only [↓reduceIte, go_sem, if_pos, if_neg, hlen, hp, hra, eq_true r01, ↓hm, eq_true c1, ht8, ho, htk, hu, hob2, ↓hm4, eq_true f0, eq_true f1, eq_true f2])
    exact endT_v (.inr rfl) (by (simp (maxSteps := 8000000) (implicitDefEqProofs := false) (disch := omega) only [↓reduceIte, go_sem, if_pos, if_neg]) <;> rfl) (fun _ => rfl)
  rw [inV_ok (by rw [hcc, if_neg (by omega)]), hin]
  (dsimp only [c32]; simp (maxSteps := 8000000) (implicitDefEqProofs := false) (disch := omega) only [↓reduceIte, go_sem, if_pos, if_neg, hlen, hp, hra, eq_true r01, ↓hm, eq_true c1, ht8, ho, htk, hu, hob2, ↓hm4, eq_true f0, eq_true f1, eq_false f2])
  exact endT_of [4] (.inr rfl) (by simp (maxSteps := 8000000) (implicitDefEqProofs := false) (disch := omega) only [↓reduceIte, go_sem, if_pos, if_neg]; rfl) (by simp (maxSteps := 8000000) (implicitDefEqProofs := false) (disch := omega) only [↓reduceIte, go_sem, if_pos, if_neg]) (by simp (maxSteps := 8000000) (implicitDefEqProofs := false) (disch := omega) only [↓reduceIte, go_sem, if_pos, if_neg]) (by decide) (by simp)
end Go.Proofs.Ytkijbknnbmbnbaa
