import Derived.Test.YtghpdclhhnbgjaaG6
set_option linter.unusedSimpArgs false
set_option linter.unusedVariables false
set_option maxRecDepth 100000
set_option maxHeartbeats 4000000
namespace Go.Proofs.Ytghpdclhhnbgjaa
open Go Go.AH
attribute [local irreducible] awpT ropsT qopsT stepT condKT gdKT EndT joinK loopKT seqKT blkKT kont kontR
/-! Sorting by keys: slices.SortFunc of at most twelve rows of which but the last lies wrong -/

theorem mutQ_id {F : List TV → THeap → TV → THeap → Prop} {targs : List TV} {hT hT' : THeap} {r : TV} (ha : belows hT.length targs = true) (hb : hT.all (belowB hT.length) = true) (hF : F targs hT r hT') (hl : hT'.length = hT.length) (hr : below hT.length r = true) (hb' : hT'.all (belowB hT.length) = true) : MutQ F targs hT r hT' (List.range hT.length) targs hT r hT' := by
  have hρ : ∀ b, b < hT.length → rho (List.range hT.length) hT.length b = b := fun b hb => by simp [rho, hb]
  refine ⟨List.nodup_range, fun x hx => List.mem_range.1 hx, by simp, ?_, ?_, hF, hl, (ren_below hρ r hr).symm, hl, ?_, ?_⟩
  · rw [← renTs_map]; exact (rens_below hρ _ ha).symm
  · intro b e z es h
    have hlt := (List.getElem?_eq_some_iff.1 h).1
    rw [hρ b hlt, rens_below hρ es (belowB_at hb b e z es h)]; exact h
  · intro i k hi
    have hlt := (List.getElem?_eq_some_iff.1 hi).1
    simp only [List.length_range] at hlt
    rw [List.getElem?_range hlt] at hi
    cases hi
    cases hx : hT'[i]? with
    | none => rfl
    | some y =>
      cases y with
      | dead => rfl
      | cells e z es => simp only [Option.map_some, renB, rens_below hρ es (belowB_at hb' i e z es hx)]
  · intro b hn
    have : hT.length ≤ b := by simpa using hn
    rw [List.getElem?_eq_none (by omega), List.getElem?_eq_none (by omega)]
/-! Rows with a key ahead -/
abbrev Rw := SaR × Nat
def rwT (r : Rw) : TV := .agg [.p (.int .i64 r.1.spi), .p (.int .i64 r.1.peer), .p (.int .i64 r.1.key), .p (.bool r.1.inn), .p (.int .i64 r.1.sent), .p (.int .i64 r.1.top), .p (.int .i64 r.1.bits), .p (.int .i64 r.1.byt), .p (.int .i64 r.1.hard), .p (.int .i64 r.1.til), .os r.2 0 r.1.sels.length]
def insA (A : List Rw) (x : Rw) (j : Nat) : List Rw := A.take j ++ x :: A.drop j
theorem insA_len (A : List Rw) (x : Rw) (j : Nat) : (insA A x j).length = A.length + 1 := by simp only [insA, List.length_append, List.length_cons, List.length_take, List.length_drop]; omega
theorem insA_full (A : List Rw) (x : Rw) : insA A x A.length = A ++ [x] := by simp [insA]
theorem insA_x {A : List Rw} {x : Rw} {j : Nat} (h : j ≤ A.length) : (insA A x j)[j]? = some x := by
  unfold insA; rw [List.getElem?_append_right (by rw [List.length_take]; omega), List.length_take, show j - min j A.length = 0 by omega]; rfl
theorem insA_lt {A : List Rw} {x : Rw} {j i : Nat} (h : i < j) (hj : j ≤ A.length) : (insA A x j)[i]? = A[i]? := by
  unfold insA; rw [List.getElem?_append_left (by rw [List.length_take]; omega), List.getElem?_take_of_lt h]
theorem insA_swap {A : List Rw} {x y : Rw} {j : Nat} (hy : A[j]? = some y) : ((insA A x (j + 1)).set (j + 1) y).set j x = insA A x j := by
  have hj := (List.getElem?_eq_some_iff.1 hy).1
  have e1 : A.take (j + 1) = A.take j ++ [y] := take_snoc hy
  have e2 : A.drop j = y :: A.drop (j + 1) := by rw [List.drop_eq_getElem_cons hj, (List.getElem?_eq_some_iff.1 hy).2]
  have hl : (A.take j).length = j := by rw [List.length_take]; omega
  unfold insA
  rw [e1, e2, List.append_assoc, List.set_append_right _ _ (by omega), hl, show j + 1 - j = 1 by omega]
  rw [List.set_append_right _ _ (by omega), hl, Nat.sub_self]
  rfl
theorem insA_mem {A : List Rw} {x r : Rw} {j : Nat} (h : r ∈ insA A x j) : r ∈ A ∨ r = x := by
  unfold insA at h
  rcases List.mem_append.1 h with h | h
  · exact .inl (List.mem_of_mem_take h)
  · rcases List.mem_cons.1 h with h | h
    · exact .inr h
    · exact .inl (List.mem_of_mem_drop h)
theorem rows_set (l : List Rw) (i : Nat) (y : Rw) : (rowsT rwT l).set i (rwT y) = rowsT rwT (l.set i y) := by simp [rowsT, List.map_set]
def cmpI (a b : Int) : Int := if a < b then -1 else if a > b then 1 else 0
noncomputable def nan_S := specP (fun x : Int => [.p (.int .i64 x)]) (fun x => True) (fun x => (.p (.bool false), []))
theorem nan_at (a : Int) : nan_S [.p (.int .i64 a)] = some ((.p (.bool false), [])) := specP_at (enc := fun x : Int => [.p (.int .i64 x)]) (by rintro a0 b0 h; simp only [List.cons.injEq, and_true] at h; have h0 := h; obtain rfl := p64_inj h0; rfl) a trivial
-- cmp.isNaN[int64]
def c140 : AF := ⟨6,
 (.seq (.reg [rO 2 (.mv (.v (.bool false)))])
 (.seq (.reg [rO 3 (.mv (.t 0)),
 rO 4 (.mv (.t 0)),
 rO 5 (.bin .neq (.t 3) (.t 4)),
 rO 2 (.mv (.t 5))])
 .ret)),
 [.t 2]⟩
theorem k140 : cFn Try.prog Try.f140 = some c140 := by kernel_rfl
theorem nan_ok : OkT Try.prog 140 (pureSp nan_S) := by
  refine okT_fn (OkΓT.nil _) Try.func140 (by kernel_rfl) k140 (fun x _ => ⟨by first | rfl | simp only [go_sem], by first | rfl | simp only [go_sem]⟩) ?_
  rintro a _
  try dsimp only at *
  (dsimp only [c140, rO]; simp (maxSteps := 8000000) -implicitDefEqProofs (disch := omega) only [↓reduceIte, go_sem])
  repeat' first
    | ((first | refine gdKT_deq (fun hg hG => ?_) (fun hg hG => ?_) | refine condKT_deq (fun hg hG => ?_) (fun hg hG => ?_)) <;> (try simp (maxSteps := 8000000) -implicitDefEqProofs (disch := omega) only [↓reduceIte, go_sem, hG]) <;> clear hG)
    | ((first | refine gdKT_split (fun hg => ?_) (fun hg => ?_) | refine condKT_split (fun hg => ?_) (fun hg => ?_)) <;> (try simp (maxSteps := 8000000) -implicitDefEqProofs (disch := omega) only [↓reduceIte, go_sem, hg]))
    | (refine endT_p (.inr rfl) (by simp (maxSteps := 8000000) -implicitDefEqProofs (disch := omega) only [↓reduceIte, go_sem]; rfl) ?_; (first | exact vb_true (by omega) | exact vb_false (by omega) | exact vb_dec (by omega) | exact vi_eq (by omega) | rfl | (refine vi_eq ?_; simp_all; first | done | (intros; omega))))
    | exact endT_v (.inr rfl) (by simp (maxSteps := 8000000) -implicitDefEqProofs (disch := omega) only [↓reduceIte, go_sem]; try rfl) (fun _ => rfl)
noncomputable def comp_S := specP (fun x : Int × Int => [.p (.int .i64 x.1), .p (.int .i64 x.2)]) (fun x => True) (fun x => (.p (.int .i64 (cmpI x.1 x.2)), []))
theorem comp_at (a : Int) (b : Int) : comp_S [.p (.int .i64 a), .p (.int .i64 b)] = some ((.p (.int .i64 (cmpI a b)), [])) := specP_at (enc := fun x : Int × Int => [.p (.int .i64 x.1), .p (.int .i64 x.2)]) (by rintro ⟨a0, a1⟩ ⟨b0, b1⟩ h; simp only [List.cons.injEq, and_true] at h; obtain ⟨h0, h1⟩ := h; obtain rfl := p64_inj h0; obtain rfl := p64_inj h1; rfl) (a, b) trivial
-- cmp.Compare[int64]
def c97 : AF := ⟨20,
 (.seq (.reg [rO 4 (.mv (.v (.int .i64 0)))])
 (.seq (.reg [rO 7 (.mv (.t 0)),
 rO 8 (.call 140 [(.t 7)]),
 rO 5 (.mv (.t 8))])
 (.seq (.reg [rO 9 (.mv (.t 1)),
 rO 10 (.call 140 [(.t 9)]),
 rO 6 (.mv (.t 10))])
 (.seq (.seq (.reg [rO 11 (.mv (.t 5))])
 (.cond (.t 11) (.seq (.seq (.reg [rO 12 (.mv (.t 6))])
 (.cond (.t 12) (.seq (.reg [rO 4 (.mv (.v (.int .i64 0)))])
 .ret)
 .skip))
 (.seq (.reg [rO 4 (.mv (.v (.int .i64 (-1))))])
 .ret))
 .skip))
 (.seq (.seq (.reg [rO 13 (.mv (.t 6))])
 (.cond (.t 13) (.seq (.reg [rO 4 (.mv (.v (.int .i64 1)))])
 .ret)
 .skip))
 (.seq (.seq (.reg [rO 14 (.mv (.t 0)),
 rO 15 (.mv (.t 1)),
 rO 16 (.bin .lss (.t 14) (.t 15))])
 (.cond (.t 16) (.seq (.reg [rO 4 (.mv (.v (.int .i64 (-1))))])
 .ret)
 .skip))
 (.seq (.seq (.reg [rO 17 (.mv (.t 0)),
 rO 18 (.mv (.t 1)),
 rO 19 (.bin .gtr (.t 17) (.t 18))])
 (.cond (.t 19) (.seq (.reg [rO 4 (.mv (.v (.int .i64 1)))])
 .ret)
 .skip))
 (.seq (.reg [rO 4 (.mv (.v (.int .i64 0)))])
 .ret)))))))),
 [.t 4]⟩
theorem k97 : cFn Try.prog Try.f97 = some c97 := by kernel_rfl
theorem comp_ok : OkT Try.prog 97 (pureSp comp_S) := by
  refine okT_fn (OkΓT.cons nan_ok (OkΓT.nil _)) Try.func97 (by kernel_rfl) k97 (fun x _ => ⟨by first | rfl | simp only [go_sem], by first | rfl | simp only [go_sem]⟩) ?_
  rintro ⟨a, b⟩ _
  dsimp only
  unfold cmpI
  by_cases h1 : a < b
  · rw [if_pos h1]
    (dsimp only [c97, rO]; simp (maxSteps := 8000000) -implicitDefEqProofs (disch := omega) only [↓reduceIte, go_sem, nan_at, eq_true h1])
    exact endT_v (.inr rfl) (by (simp (maxSteps := 8000000) -implicitDefEqProofs (disch := omega) only [↓reduceIte, go_sem]) <;> rfl) (fun _ => rfl)
  · rw [if_neg h1]
    by_cases h2 : a > b
    · rw [if_pos h2]
      (dsimp only [c97, rO]; simp (maxSteps := 8000000) -implicitDefEqProofs (disch := omega) only [↓reduceIte, go_sem, nan_at, eq_false h1, eq_true h2])
      exact endT_v (.inr rfl) (by (simp (maxSteps := 8000000) -implicitDefEqProofs (disch := omega) only [↓reduceIte, go_sem]) <;> rfl) (fun _ => rfl)
    · rw [if_neg h2]
      (dsimp only [c97, rO]; simp (maxSteps := 8000000) -implicitDefEqProofs (disch := omega) only [↓reduceIte, go_sem, nan_at, eq_false h1, eq_false h2])
      exact endT_v (.inr rfl) (by (simp (maxSteps := 8000000) -implicitDefEqProofs (disch := omega) only [↓reduceIte, go_sem]) <;> rfl) (fun _ => rfl)
noncomputable def cmpS_S := specP (fun x : SaR × SaR => [saT x.1, saT x.2]) (fun x => True) (fun x => (.p (.int .i64 (cmpI x.1.spi x.2.spi)), []))
theorem cmpS_at (x : SaR) (y : SaR) : cmpS_S [saT x, saT y] = some ((.p (.int .i64 (cmpI x.spi y.spi)), [])) := specP_at (enc := fun x : SaR × SaR => [saT x.1, saT x.2]) (by rintro ⟨a0, a1⟩ ⟨b0, b1⟩ h; simp only [List.cons.injEq, and_true] at h; obtain ⟨h0, h1⟩ := h; obtain rfl := saT_inj _ _ h0; obtain rfl := saT_inj _ _ h1; rfl) (x, y) trivial
-- impl.AddSa$1
def c96 : AF := ⟨10,
 (.seq (.reg [rO 2 (.box 45 (.t 0)),
 rO 3 (.box 45 (.t 1)),
 rO 4 (.mv (.v (.int .i64 0)))])
 (.seq (.reg [rO 5 (.fa (.t 2) 0),
 rO 6 (.ld (.t 5)),
 rO 7 (.fa (.t 3) 0),
 rO 8 (.ld (.t 7)),
 rO 9 (.call 97 [(.t 6), (.t 8)]),
 rO 4 (.mv (.t 9))])
 .ret)),
 [.t 4]⟩
theorem k96 : cFn Try.prog Try.f96 = some c96 := by kernel_rfl
theorem cmpS_ok : OkT Try.prog 96 (pureSp cmpS_S) := by
  refine okT_fn (OkΓT.cons comp_ok (OkΓT.nil _)) Try.func96 (by kernel_rfl) k96 (fun x _ => ⟨by first | rfl | simp only [go_sem], by first | rfl | simp only [go_sem]⟩) ?_
  rintro ⟨x, y⟩ _
  try dsimp only [saT] at *
  (dsimp only [c96, rO]; simp (maxSteps := 8000000) -implicitDefEqProofs (disch := omega) only [↓reduceIte, go_sem, comp_at])
  exact endT_v (.inr rfl) (by (simp (maxSteps := 8000000) -implicitDefEqProofs (disch := omega) only [↓reduceIte, go_sem]) <;> rfl) (fun _ => rfl)

/-! The number of binary digits of a small number -/
def lenB (n : Nat) : Int := if n = 0 then 0 else if n < 2 then 1 else if n < 4 then 2 else if n < 8 then 3 else 4
theorem upto12 {n : Nat} (h : n ≤ 12) : n = 0 ∨ n = 1 ∨ n = 2 ∨ n = 3 ∨ n = 4 ∨ n = 5 ∨ n = 6 ∨ n = 7 ∨ n = 8 ∨ n = 9 ∨ n = 10 ∨ n = 11 ∨ n = 12 := by omega
noncomputable def lenB_S := specP (fun x : Nat => [.p (.int .u64 x)]) (fun x => x ≤ 12) (fun x => (.p (.int .i64 (lenB x)), []))
theorem lenB_at (n : Nat) (h : n ≤ 12) : lenB_S [.p (.int .u64 n)] = some (.p (.int .i64 (lenB n)), []) := specP_at (enc := fun x : Nat => [.p (.int .u64 x)]) (by
  intro x y h; simp only [List.cons.injEq, TV.p.injEq, Value.int.injEq, and_true, true_and] at h; omega) n h
def tab8 : ByteArray := ⟨⟨[0, 1, 2, 2, 3, 3, 3, 3, 4, 4, 4, 4, 4, 4, 4, 4, 5, 5, 5, 5, 5, 5, 5, 5, 5, 5, 5, 5, 5, 5, 5, 5, 6, 6, 6, 6, 6, 6, 6, 6, 6, 6, 6, 6, 6, 6, 6, 6, 6, 6, 6, 6, 6, 6, 6, 6, 6, 6, 6, 6, 6, 6, 6, 6, 7, 7, 7, 7, 7, 7, 7, 7, 7, 7, 7, 7, 7, 7, 7, 7, 7, 7, 7, 7, 7, 7, 7, 7, 7, 7, 7, 7, 7, 7, 7, 7, 7, 7, 7, 7, 7, 7, 7, 7, 7, 7, 7, 7, 7, 7, 7, 7, 7, 7, 7, 7, 7, 7, 7, 7, 7, 7, 7, 7, 7, 7, 7, 7, 8, 8, 8, 8, 8, 8, 8, 8, 8, 8, 8, 8, 8, 8, 8, 8, 8, 8, 8, 8, 8, 8, 8, 8, 8, 8, 8, 8, 8, 8, 8, 8, 8, 8, 8, 8, 8, 8, 8, 8, 8, 8, 8, 8, 8, 8, 8, 8, 8, 8, 8, 8, 8, 8, 8, 8, 8, 8, 8, 8, 8, 8, 8, 8, 8, 8, 8, 8, 8, 8, 8, 8, 8, 8, 8, 8, 8, 8, 8, 8, 8, 8, 8, 8, 8, 8, 8, 8, 8, 8, 8, 8, 8, 8, 8, 8, 8, 8, 8, 8, 8, 8, 8, 8, 8, 8, 8, 8, 8, 8, 8, 8, 8, 8, 8, 8, 8, 8, 8, 8, 8, 8, 8, 8, 8, 8, 8, 8]⟩⟩
theorem tab8_at : tab8[0]? = some 0 ∧ tab8[1]? = some 1 ∧ tab8[2]? = some 2 ∧ tab8[3]? = some 2 ∧ tab8[4]? = some 3 ∧ tab8[5]? = some 3 ∧ tab8[6]? = some 3 ∧ tab8[7]? = some 3 ∧ tab8[8]? = some 4 ∧ tab8[9]? = some 4 ∧ tab8[10]? = some 4 ∧ tab8[11]? = some 4 ∧ tab8[12]? = some 4 := ⟨rfl, rfl, rfl, rfl, rfl, rfl, rfl, rfl, rfl, rfl, rfl, rfl, rfl⟩
-- math/bits.Len64
def c174 : AF := ⟨25,
 (.seq (.reg [rO 2 (.mv (.v (.int .i64 0)))])
 (.seq (.seq (.reg [rO 3 (.mv (.t 0)),
 rO 4 (.bin .geq (.t 3) (.v (.int .u64 4294967296)))])
 (.cond (.t 4) (.seq (.reg [rO 5 (.mv (.t 0)),
 rO 6 (.bin .shr (.t 5) (.v (.int .u64 32))),
 rO 0 (.mv (.t 6))])
 (.reg [rO 2 (.mv (.v (.int .i64 32)))]))
 .skip))
 (.seq (.seq (.reg [rO 7 (.mv (.t 0)),
 rO 8 (.bin .geq (.t 7) (.v (.int .u64 65536)))])
 (.cond (.t 8) (.seq (.reg [rO 9 (.mv (.t 0)),
 rO 10 (.bin .shr (.t 9) (.v (.int .u64 16))),
 rO 0 (.mv (.t 10))])
 (.reg [rO 11 (.mv (.t 2)),
 rO 12 (.bin .add (.t 11) (.v (.int .i64 16))),
 rO 2 (.mv (.t 12))]))
 .skip))
 (.seq (.seq (.reg [rO 13 (.mv (.t 0)),
 rO 14 (.bin .geq (.t 13) (.v (.int .u64 256)))])
 (.cond (.t 14) (.seq (.reg [rO 15 (.mv (.t 0)),
 rO 16 (.bin .shr (.t 15) (.v (.int .u64 8))),
 rO 0 (.mv (.t 16))])
 (.reg [rO 17 (.mv (.t 2)),
 rO 18 (.bin .add (.t 17) (.v (.int .i64 8))),
 rO 2 (.mv (.t 18))]))
 .skip))
 (.seq (.reg [rO 19 (.mv (.t 2)),
 rO 20 (.mv (.t 0)),
 rO 21 (.cvI .u8 (.t 20)),
 ⟨(some 22), none, .ix (.v (.string ⟨⟨[0, 1, 2, 2, 3, 3, 3, 3, 4, 4, 4, 4, 4, 4, 4, 4, 5, 5, 5, 5, 5, 5, 5, 5, 5, 5, 5, 5, 5, 5, 5, 5, 6, 6, 6, 6, 6, 6, 6, 6, 6, 6, 6, 6, 6, 6, 6, 6, 6, 6, 6, 6, 6, 6, 6, 6, 6, 6, 6, 6, 6, 6, 6, 6, 7, 7, 7, 7, 7, 7, 7, 7, 7, 7, 7, 7, 7, 7, 7, 7, 7, 7, 7, 7, 7, 7, 7, 7, 7, 7, 7, 7, 7, 7, 7, 7, 7, 7, 7, 7, 7, 7, 7, 7, 7, 7, 7, 7, 7, 7, 7, 7, 7, 7, 7, 7, 7, 7, 7, 7, 7, 7, 7, 7, 7, 7, 7, 7, 8, 8, 8, 8, 8, 8, 8, 8, 8, 8, 8, 8, 8, 8, 8, 8, 8, 8, 8, 8, 8, 8, 8, 8, 8, 8, 8, 8, 8, 8, 8, 8, 8, 8, 8, 8, 8, 8, 8, 8, 8, 8, 8, 8, 8, 8, 8, 8, 8, 8, 8, 8, 8, 8, 8, 8, 8, 8, 8, 8, 8, 8, 8, 8, 8, 8, 8, 8, 8, 8, 8, 8, 8, 8, 8, 8, 8, 8, 8, 8, 8, 8, 8, 8, 8, 8, 8, 8, 8, 8, 8, 8, 8, 8, 8, 8, 8, 8, 8, 8, 8, 8, 8, 8, 8, 8, 8, 8, 8, 8, 8, 8, 8, 8, 8, 8, 8, 8, 8, 8, 8, 8, 8, 8, 8, 8, 8, 8]⟩⟩)) (.t 21)⟩,
 rO 23 (.cvI .i64 (.t 22)),
 rO 24 (.bin .add (.t 19) (.t 23)),
 rO 2 (.mv (.t 24))])
 .ret))))),
 [.t 2]⟩
theorem k174 : cFn Try.prog Try.f174 = some c174 := by kernel_rfl
theorem len64_ok : OkT Try.prog 174 (pureSp lenB_S) := by
  refine okT_fn (OkΓT.nil _) Try.func174 (by kernel_rfl) k174 (fun x _ => ⟨by first | rfl | simp only [go_sem], by first | rfl | simp only [go_sem]⟩) ?_
  rintro n hn
  try dsimp only at *
  rcases upto12 hn with rfl | rfl | rfl | rfl | rfl | rfl | rfl | rfl | rfl | rfl | rfl | rfl | rfl
  all_goals (have q := tab8_at; dsimp only [tab8] at q; obtain ⟨q0, q1, q2, q3, q4, q5, q6, q7, q8, q9, q10, q11, q12⟩ := q; (dsimp only [c174, rO]; simp (maxSteps := 8000000) -implicitDefEqProofs (disch := omega) only [↓reduceIte, go_sem, q0, q1, q2, q3, q4, q5, q6, q7, q8, q9, q10, q11, q12]))
  all_goals exact endT_v (.inr rfl) (by (simp (maxSteps := 8000000) -implicitDefEqProofs (disch := omega) only [↓reduceIte, go_sem]) <;> rfl) (fun _ => rfl)
-- math/bits.Len
def c139 : AF := ⟨8,
 (.seq (.reg [rO 2 (.mv (.v (.int .i64 0)))])
 (.seq (.cond (.v (.bool false)) (.seq (.reg [rO 3 (.mv (.t 0)),
 rO 4 (.cvI .u32 (.t 3)),
 rO 5 (.call 173 [(.t 4)]),
 rO 2 (.mv (.t 5))])
 .ret)
 .skip)
 (.seq (.reg [rO 6 (.mv (.t 0)),
 rO 7 (.call 174 [(.t 6)]),
 rO 2 (.mv (.t 7))])
 .ret))),
 [.t 2]⟩
theorem k139 : cFn Try.prog Try.f139 = some c139 := by kernel_rfl
theorem len_ok : OkT Try.prog 139 (pureSp lenB_S) := by
  refine okT_fn (OkΓT.cons len64_ok (OkΓT.nil _)) Try.func139 (by kernel_rfl) k139 (fun x _ => ⟨by first | rfl | simp only [go_sem], by first | rfl | simp only [go_sem]⟩) ?_
  rintro n hn
  try dsimp only at *
  have h := lenB_at n hn
  (dsimp only [c139, rO]; simp (maxSteps := 8000000) -implicitDefEqProofs (disch := omega) only [↓reduceIte, go_sem, h])
  exact endT_v (.inr rfl) (by (simp (maxSteps := 8000000) -implicitDefEqProofs (disch := omega) only [↓reduceIte, go_sem]) <;> rfl) (fun _ => rfl)
end Go.Proofs.Ytghpdclhhnbgjaa
