import Derived.Test.YtkijbknnbmbnbaaE4
set_option linter.unusedSimpArgs false
set_option linter.unusedVariables false
set_option maxRecDepth 100000
set_option maxHeartbeats 4000000
namespace Go.Proofs.Ytkijbknnbmbnbaa
open Go Go.AH
attribute [local irreducible] awpT ropsT qopsT stepT condKT gdKT EndT joinK loopKT seqKT blkKT kont kontR
/-! Bytes put together -/

theorem p64_inj {a b : Int} (h : TV.p (.int .i64 a) = .p (.int .i64 b)) : a = b := by simpa using h
theorem p64n_inj {a b : Nat} (h : TV.p (.int .i64 a) = .p (.int .i64 b)) : a = b := by simp at h; omega
theorem p8_inj {a b : Int} (h : TV.p (.int .u8 a) = .p (.int .u8 b)) : a = b := by simpa using h
theorem pb_inj {a b : Bool} (h : TV.p (.bool a) = .p (.bool b)) : a = b := by simpa using h
theorem pst_inj {a b : ByteArray} (h : TV.p (.string a) = .p (.string b)) : a = b := by simpa using h
theorem pu_inj {a b : Unit} {p : Prop} (_ : p) : a = b := rfl
theorem sby_inj {a b : List Int} (h : TV.s (bsT a) = .s (bsT b)) : a = b := by simp at h; exact bs_inj h
theorem sis_inj {a b : List Int} (h : TV.s (isT a) = .s (isT b)) : a = b := by simp at h; exact is_inj h
theorem rep_ren (ρ : Nat → Nat) (n : Nat) (v : Value) : renTs ρ (List.replicate n (.p v)) = List.replicate n (.p v) := by
  induction n with
  | zero => rfl
  | succ n ih => simp only [List.replicate_succ, renTs, renT, ih]
attribute [go_sem] rep_ren
def bssT (l : List (List Int)) : List TV := l.map fun x => .s (bsT x)
theorem bss_len (l : List (List Int)) : (bssT l).length = l.length := by simp [bssT]
theorem bss_get {l : List (List Int)} {i : Nat} {x : List Int} (h : l[i]? = some x) : (bssT l)[i]? = some (.s (bsT x)) := by simp [bssT, h]
theorem sbss_inj {a b : List (List Int)} (h : TV.s (bssT a) = .s (bssT b)) : a = b := by
  simp only [TV.s.injEq, bssT] at h
  induction a generalizing b with
  | nil => cases b with | nil => rfl | cons y b => simp at h
  | cons x a ih =>
    cases b with
    | nil => simp at h
    | cons y b => simp only [List.map_cons, List.cons.injEq, TV.s.injEq] at h; rw [bs_inj h.1, ih h.2]
theorem flat_snoc {l : List (List Int)} {i : Nat} {x : List Int} (h : l[i]? = some x) : (l.take (i + 1)).flatten = (l.take i).flatten ++ x := by
  obtain ⟨hi, rfl⟩ := List.getElem?_eq_some_iff.1 h
  rw [List.take_succ_eq_append_getElem hi, List.flatten_append]; simp
theorem flat_le (l : List (List Int)) (i : Nat) : (l.take i).flatten.length ≤ l.flatten.length := by
  have : l.flatten = (l.take i).flatten ++ (l.drop i).flatten := by rw [← List.flatten_append, List.take_append_drop]
  rw [this, List.length_append]; omega
noncomputable def grow_S := specP (fun x : Unit × Nat => [.nl, .p (.int .i64 x.2)]) (fun x => 1 ≤ x.2 ∧ x.2 ≤ 1073741824) (fun x => (.os 0 0 0, [.cells 5 1 (List.replicate x.2 (.p (.int .u8 0)))]))
theorem grow_at (u : Unit) (n : Nat) (h : 1 ≤ n ∧ n ≤ 1073741824) : grow_S [.nl, .p (.int .i64 n)] = some ((.os 0 0 0, [.cells 5 1 (List.replicate n (.p (.int .u8 0)))])) := specP_at (enc := fun x : Unit × Nat => [.nl, .p (.int .i64 x.2)]) (by rintro ⟨a0, a1⟩ ⟨b0, b1⟩ h; simp only [List.cons.injEq, and_true] at h; obtain ⟨h0, h1⟩ := h; obtain rfl : a0 = b0 := rfl; obtain rfl := p64n_inj h1; rfl) (u, n) h
-- slices.Grow[[]byte,byte]
def c191 : AF := ⟨27,
  (.seq (.reg [⟨(some 4), none, .mv (.v (.slice none 0 0))⟩])
  (.seq (.seq (.reg [⟨(some 5), none, .mv (.t 1)⟩,
   ⟨(some 6), none, .bin .lss (.t 5) (.v (.int .i64 0))⟩])
  (.cond (.t 6) (.reg [⟨(some 7), none, .fail⟩,
   ⟨none, none, .fail⟩])
  .skip))
  (.seq (.seq (.reg [⟨(some 8), none, .mv (.t 1)⟩,
   ⟨(some 9), none, .mv (.t 0)⟩,
   ⟨(some 10), none, .capZ (.t 9)⟩,
   ⟨(some 11), none, .mv (.t 0)⟩,
   ⟨(some 12), none, .len (.t 11)⟩,
   ⟨(some 13), none, .bin .sub (.t 10) (.t 12)⟩,
   ⟨(some 14), none, .bin .sub (.t 8) (.t 13)⟩,
   ⟨(some 1), none, .mv (.t 14)⟩])
  (.seq (.reg [⟨(some 15), none, .mv (.t 1)⟩,
   ⟨(some 16), none, .bin .gtr (.t 15) (.v (.int .i64 0))⟩])
  (.cond (.t 16) (.reg [⟨(some 17), none, .mv (.t 0)⟩,
   ⟨(some 18), none, .mv (.t 0)⟩,
   ⟨(some 19), none, .capZ (.t 18)⟩,
   ⟨(some 20), none, .sl 1 (.t 17) none (some (.t 19))⟩,
   ⟨(some 21), none, .mv (.t 1)⟩,
   ⟨(some 22), none, .apz 5 1 1 [(.int .u8 0)] (.t 20) (.t 21)⟩,
   ⟨(some 23), none, .mv (.t 0)⟩,
   ⟨(some 24), none, .len (.t 23)⟩,
   ⟨(some 25), none, .sl 1 (.t 22) none (some (.t 24))⟩,
   ⟨(some 0), none, .mv (.t 25)⟩])
  .skip)))
  (.seq (.reg [⟨(some 26), none, .mv (.t 0)⟩,
   ⟨(some 4), none, .mv (.t 26)⟩])
  .ret)))),
  [.t 4]⟩
theorem k191 : cFn Try.prog Try.f191 = some c191 := by kernel_rfl
theorem grow_ok : OkT Try.prog 191 (keepSp grow_S) := by
  refine okT_kp (OkΓT.nil _) Try.func191 (by kernel_rfl) k191 ?_
  rintro ⟨u, n⟩ ⟨h1, h2⟩
  dsimp only at *
  (dsimp only [c191]; simp (maxSteps := 8000000) (implicitDefEqProofs := false) (disch := omega) only [↓reduceIte, go_sem, if_pos, if_neg, Int.toNat_natCast])
  exact endT_of [0] (.inr rfl) (by simp (maxSteps := 8000000) (implicitDefEqProofs := false) (disch := omega) only [↓reduceIte, go_sem, if_pos, if_neg]; rfl) (by simp (maxSteps := 8000000) (implicitDefEqProofs := false) (disch := omega) only [↓reduceIte, go_sem, if_pos, if_neg]) (by simp (maxSteps := 8000000) (implicitDefEqProofs := false) (disch := omega) only [↓reduceIte, go_sem, if_pos, if_neg]) (by decide) (by simp)
def catB (l : List (List Int)) (i : Nat) : List TV := if i = 0 then List.replicate l.flatten.length (.p (.int .u8 0)) else bsT (l.take i).flatten
theorem catB_take (l : List (List Int)) (i : Nat) : (catB l i).take (l.take i).flatten.length = bsT (l.take i).flatten := by
  unfold catB; split
  · subst i; rfl
  · rw [List.take_of_length_le (by rw [bs_len]; omega)]
theorem catB_len (l : List (List Int)) (i : Nat) : (l.take i).flatten.length ≤ (catB l i).length := by
  unfold catB; split
  · subst i; simp
  · rw [bs_len]; omega
noncomputable def concat_S := specP (fun x : List (List Int) => [.s (bssT x)]) (fun x => 1 ≤ x.flatten.length ∧ x.flatten.length ≤ 1073741824 ∧ x.length ≤ 1073741824) (fun x => (.os 0 0 x.flatten.length, [.cells 5 1 (bsT x.flatten)]))
theorem concat_at (l : List (List Int)) (h : 1 ≤ l.flatten.length ∧ l.flatten.length ≤ 1073741824 ∧ l.length ≤ 1073741824) : concat_S [.s (bssT l)] = some ((.os 0 0 l.flatten.length, [.cells 5 1 (bsT l.flatten)])) := specP_at (enc := fun x : List (List Int) => [.s (bssT x)]) (by rintro a0 b0 h; simp only [List.cons.injEq, and_true] at h; have h0 := h; obtain rfl := sbss_inj h0; rfl) l h
-- slices.Concat[[]byte,byte]
def c116 : AF := ⟨36,
  (.seq (.reg [⟨(some 2), none, .mv (.v (.slice none 0 0))⟩])
  (.seq (.reg [⟨(some 3), none, .mv (.v (.int .i64 0))⟩])
  (.seq (.seq (.reg [⟨(some 9), none, .mv (.t 0)⟩,
   ⟨(some 10), none, .len (.t 9)⟩,
   ⟨(some 11), none, .mv (.v (.int .i64 0))⟩])
  (.block 0 (.loop (.seq (.reg [⟨(some 12), none, .bin .lss (.t 11) (.t 10)⟩])
  (.seq (.cond (.t 12) .skip
  (.exit 0))
  (.seq (.block 1 (.seq (.reg [⟨(some 13), none, .ia 1 (.t 9) (.t 11)⟩,
   ⟨(some 14), none, .ld (.t 13)⟩,
   ⟨(some 5), none, .mv (.t 14)⟩])
  (.seq (.reg [⟨(some 15), none, .mv (.t 3)⟩,
   ⟨(some 16), none, .mv (.t 5)⟩,
   ⟨(some 17), none, .len (.t 16)⟩,
   ⟨(some 18), none, .bin .add (.t 15) (.t 17)⟩,
   ⟨(some 3), none, .mv (.t 18)⟩])
  (.seq (.reg [⟨(some 19), none, .mv (.t 3)⟩,
   ⟨(some 20), none, .bin .lss (.t 19) (.v (.int .i64 0))⟩])
  (.cond (.t 20) (.reg [⟨(some 21), none, .fail⟩,
   ⟨none, none, .fail⟩])
  .skip)))))
  (.reg [⟨(some 22), none, .bin .add (.t 11) (.v (.int .i64 1))⟩,
   ⟨(some 11), none, .mv (.t 22)⟩])))))))
  (.seq (.reg [⟨(some 23), none, .mv (.t 3)⟩,
   ⟨(some 24), none, .call 191 [(.v (.slice none 0 0)), (.t 23)]⟩,
   ⟨(some 6), none, .mv (.t 24)⟩])
  (.seq (.seq (.reg [⟨(some 25), none, .mv (.t 0)⟩,
   ⟨(some 26), none, .len (.t 25)⟩,
   ⟨(some 27), none, .mv (.v (.int .i64 0))⟩])
  (.block 2 (.loop (.seq (.reg [⟨(some 28), none, .bin .lss (.t 27) (.t 26)⟩])
  (.seq (.cond (.t 28) .skip
  (.exit 2))
  (.seq (.block 3 (.seq (.reg [⟨(some 29), none, .ia 1 (.t 25) (.t 27)⟩,
   ⟨(some 30), none, .ld (.t 29)⟩,
   ⟨(some 8), none, .mv (.t 30)⟩])
  (.reg [⟨(some 31), none, .mv (.t 6)⟩,
   ⟨(some 32), none, .mv (.t 8)⟩,
   ⟨(some 33), none, .app 5 1 1 (.t 31) (.t 32)⟩,
   ⟨(some 6), none, .mv (.t 33)⟩])))
  (.reg [⟨(some 34), none, .bin .add (.t 27) (.v (.int .i64 1))⟩,
   ⟨(some 27), none, .mv (.t 34)⟩])))))))
  (.seq (.reg [⟨(some 35), none, .mv (.t 6)⟩,
   ⟨(some 2), none, .mv (.t 35)⟩])
  .ret)))))),
  [.t 2]⟩
theorem k116 : cFn Try.prog Try.f116 = some c116 := by kernel_rfl
theorem concat_ok : OkT Try.prog 116 (pureSp concat_S) := by
  refine okT_fn (OkΓT.cons grow_ok (OkΓT.nil _)) Try.func116 (by kernel_rfl) k116 (fun x _ => ⟨by first | rfl | simp only [go_sem], by first | rfl | simp only [go_sem]⟩) ?_
  rintro l ⟨h1, h2, h3⟩
  dsimp only at *
  have hlen := bss_len l
  (dsimp only [c116]; simp (maxSteps := 8000000) (implicitDefEqProofs := false) (disch := omega) only [↓reduceIte, go_sem, if_pos, if_neg, hlen])
  refine awpT_loop (α := Nat) (fun i => ⟨slots [(0, .s (bssT l)), (3, .p (.int .i64 (l.take i).flatten.length)), (9, .s (bssT l)), (10, .p (.int .i64 l.length)), (11, .p (.int .i64 i))], []⟩) (fun i => i ≤ l.length) (fun i => l.length - i) 0 (Nat.zero_le _) (by simp only [List.take_zero, List.flatten_nil, List.length_nil, nat0T]; exact (le_of [] (by simp (maxSteps := 8000000) (implicitDefEqProofs := false) (disch := omega) only [↓reduceIte, go_sem, if_pos, if_neg]) (by simp (maxSteps := 8000000) (implicitDefEqProofs := false) (disch := omega) only [↓reduceIte, go_sem, if_pos, if_neg]) (by decide) (by simp))) ?_
  intro i hi
  have hf := flat_le l i
  simp (maxSteps := 8000000) (implicitDefEqProofs := false) (disch := omega) only [↓reduceIte, go_sem, if_pos, if_neg]
  refine condKT_dec (fun hlt => ?_) (fun hge => ?_)
  · obtain ⟨x, hx⟩ := get_ex (l := l) (i := i) (by omega)
    have hx2 := bss_get hx
    have hs := flat_snoc hx
    have hf1 := flat_le l (i + 1)
    have hbl := bs_len x
    rw [hs, List.length_append] at hf1
    simp (maxSteps := 8000000) (implicitDefEqProofs := false) (disch := omega) only [↓reduceIte, go_sem, if_pos, if_neg, eq_true hlt, Int.toNat_natCast, hx2, hbl]
    refine loopKT_next (i + 1) (by omega) (by omega) ?_
    rw [hs, List.length_append]
    exact (le_of [] (by simp (maxSteps := 8000000) (implicitDefEqProofs := false) (disch := omega) only [↓reduceIte, go_sem, if_pos, if_neg]) (by simp (maxSteps := 8000000) (implicitDefEqProofs := false) (disch := omega) only [↓reduceIte, go_sem, if_pos, if_neg]) (by decide) (by simp))
  · have hN : i = l.length := by omega
    subst hN
    have hg := grow_at () l.flatten.length ⟨h1, h2⟩
    simp (maxSteps := 8000000) (implicitDefEqProofs := false) (disch := omega) only [↓reduceIte, go_sem, if_pos, if_neg, eq_false hge, List.take_length]
    refine joinK_here ?_
    simp (maxSteps := 8000000) (implicitDefEqProofs := false) (disch := omega) only [↓reduceIte, go_sem, if_pos, if_neg, hg, hlen]
    refine awpT_loop (α := Nat) (fun i => ⟨slots [(6, .os 0 0 (l.take i).flatten.length), (25, .s (bssT l)), (26, .p (.int .i64 l.length)), (27, .p (.int .i64 i))], [.cells 5 1 (catB l i)]⟩) (fun i => i ≤ l.length) (fun i => l.length - i) 0 (Nat.zero_le _) (by simp only [List.take_zero, List.flatten_nil, List.length_nil, nat0T, catB, if_true]; exact (le_of [0] (by simp (maxSteps := 8000000) (implicitDefEqProofs := false) (disch := omega) only [↓reduceIte, go_sem, if_pos, if_neg]) (by simp (maxSteps := 8000000) (implicitDefEqProofs := false) (disch := omega) only [↓reduceIte, go_sem, if_pos, if_neg]) (by decide) (by simp))) ?_
    intro i hi
    have hf := flat_le l i
    have hct := catB_take l i
    have hcl := catB_len l i
    have hcf : l.length ≤ i → catB l i = bsT l.flatten := fun h => by
      unfold catB
      rw [if_neg, List.take_of_length_le h]
      intro h0
      have : l = [] := List.eq_nil_of_length_eq_zero (by omega)
      subst this; simp at h1
    have hcs : catB l (i + 1) = bsT (l.take (i + 1)).flatten := by simp [catB]
    generalize catB l i = C at *
    simp (maxSteps := 8000000) (implicitDefEqProofs := false) (disch := omega) only [↓reduceIte, go_sem, if_pos, if_neg]
    refine condKT_dec (fun hlt => ?_) (fun hge => ?_)
    · obtain ⟨x, hx⟩ := get_ex (l := l) (i := i) (by omega)
      have hx2 := bss_get hx
      have hs := flat_snoc hx
      have hf1 := flat_le l (i + 1)
      have hbl := bs_len x
      rw [hs, List.length_append] at hf1
      have hap := bs_append (l.take i).flatten x
      simp (maxSteps := 8000000) (implicitDefEqProofs := false) (disch := omega) only [↓reduceIte, go_sem, if_pos, if_neg, eq_true hlt, Int.toNat_natCast, hx2, hbl, hct, hap]
      refine loopKT_next (i + 1) (by omega) (by omega) ?_
      rw [hcs, hs, List.length_append]
      exact (le_of [1] (by simp (maxSteps := 8000000) (implicitDefEqProofs := false) (disch := omega) only [↓reduceIte, go_sem, if_pos, if_neg]) (by simp (maxSteps := 8000000) (implicitDefEqProofs := false) (disch := omega) only [↓reduceIte, go_sem, if_pos, if_neg]) (by decide) (by simp))
    · have hN : i = l.length := by omega
      subst hN
      have hb : C = bsT l.flatten := hcf (Nat.le_refl _)
      simp (maxSteps := 8000000) (implicitDefEqProofs := false) (disch := omega) only [↓reduceIte, go_sem, if_pos, if_neg, eq_false hge, List.take_length, hb]
      refine joinK_here ?_
      simp (maxSteps := 8000000) (implicitDefEqProofs := false) (disch := omega) only [↓reduceIte, go_sem, if_pos, if_neg]
      exact endT_of [0] (.inr rfl) (by simp (maxSteps := 8000000) (implicitDefEqProofs := false) (disch := omega) only [↓reduceIte, go_sem, if_pos, if_neg]; rfl) (by simp (maxSteps := 8000000) (implicitDefEqProofs := false) (disch := omega) only [↓reduceIte, go_sem, if_pos, if_neg]) (by simp (maxSteps := 8000000) (implicitDefEqProofs := false) (disch := omega) only [↓reduceIte, go_sem, if_pos, if_neg]) (by decide) (by simp)
end Go.Proofs.Ytkijbknnbmbnbaa
