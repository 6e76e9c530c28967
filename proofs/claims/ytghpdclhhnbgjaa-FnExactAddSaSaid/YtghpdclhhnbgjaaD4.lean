import Derived.Test.YtghpdclhhnbgjaaD3
set_option linter.unusedSimpArgs false
set_option linter.unusedVariables false
set_option maxRecDepth 100000
set_option maxHeartbeats 4000000
namespace Go.Proofs.Ytghpdclhhnbgjaa
open Go Go.AH
attribute [local irreducible] awpT ropsT qopsT stepT condKT gdKT EndT joinK loopKT seqKT blkKT kont kontR
/-! The first that is asked for -/
def idxV : Option Nat → Int
  | some i => i
  | none => -1
theorem find_some {α : Type} {l : List α} {p : α → Bool} {i : Nat} {x : α} (hx : l[i]? = some x) (hp : p x = true) (hn : ∀ j y, j < i → l[j]? = some y → p y = false) : l.findIdx? p = some i := by
  have hlt := (List.getElem?_eq_some_iff.1 hx).1
  rw [List.findIdx?_eq_some_iff_getElem]
  refine ⟨hlt, by rw [(List.getElem?_eq_some_iff.1 hx).2]; exact hp, fun j hj => ?_⟩
  rw [hn j (l[j]'(by omega)) hj (by simp)]; simp
theorem find_none {α : Type} {l : List α} {p : α → Bool} (hn : ∀ j y, j < l.length → l[j]? = some y → p y = false) : l.findIdx? p = none := by
  rw [List.findIdx?_eq_none_iff]
  intro x hx
  obtain ⟨j, hj⟩ := List.getElem?_of_mem hx
  exact hn j x (List.getElem?_eq_some_iff.1 hj).1 hj
theorem none_snoc {α : Type} {l : List α} {p : α → Bool} {i : Nat} {x : α} (hx : l[i]? = some x) (hp : p x = false) (hn : ∀ j y, j < i → l[j]? = some y → p y = false) : ∀ j y, j < i + 1 → l[j]? = some y → p y = false := by
  intro j y hj hy
  by_cases e : j = i
  · subst e; rw [hx] at hy; cases hy; exact hp
  · exact hn j y (by omega) hy
noncomputable def spiI_S := specP (fun x : List SaR × Int => [.s (rowsT saT x.1), .p (.int .i64 x.2)]) (fun x => x.1.length ≤ 140737488355328) (fun x => (.p (.int .i64 (idxV (x.1.findIdx? (fun y => decide (y.spi = x.2))))), []))
theorem spiI_at (l : List SaR) (s : Int) (h : l.length ≤ 140737488355328) : spiI_S [.s (rowsT saT l), .p (.int .i64 s)] = some (.p (.int .i64 (idxV (l.findIdx? (fun y => decide (y.spi = s))))), []) :=
  specP_at (enc := fun x : List SaR × Int => [.s (rowsT saT x.1), .p (.int .i64 x.2)]) (by rintro ⟨a, b⟩ ⟨a', b'⟩ h; simp at h; simp [sas_inj h.1, h.2]) (l, s) h
/-- The library's search, whatever function is handed to it. -/
noncomputable def find_S {β : Type} (f : Nat) (cap : β → List TV) (p : β → SaR → Bool) := specP (fun x : List SaR × β => [.s (rowsT saT x.1), .fn f (cap x.2)]) (fun x => x.1.length ≤ 140737488355328) (fun x => (.p (.int .i64 (idxV (x.1.findIdx? (p x.2)))), []))
noncomputable def asks_S {β : Type} (cap : β → List TV) (p : β → SaR → Bool) := specP (fun x : SaR × β => saT x.1 :: cap x.2) (fun _ => True) (fun x => (.p (.bool (p x.2 x.1)), []))
-- slices.IndexFunc[[]impl.Sa,impl.Sa]
def c136 : AF := ⟨19,
 (.seq (.reg [rO 4 (.mv (.v (.int .i64 0)))])
 (.seq (.seq (.reg [rO 6 (.mv (.t 0)),
 rO 7 (.len (.t 6)),
 rO 8 (.mv (.v (.int .i64 0)))])
 (.block 0 (.loop (.seq (.reg [rO 9 (.bin .lss (.t 8) (.t 7))])
 (.seq (.cond (.t 9) .skip
 (.exit 0))
 (.seq (.block 1 (.seq (.reg [rO 10 (.mv (.t 8)),
 rO 5 (.mv (.t 10))])
 (.seq (.reg [rO 11 (.mv (.t 1)),
 rO 12 (.mv (.t 0)),
 rO 13 (.mv (.t 5)),
 rO 14 (.ia 11 (.t 12) (.t 13)),
 rO 15 (.ldn 11 (.t 14)),
 rO 16 (.callv (.t 11) [(.t 15)])])
 (.cond (.t 16) (.seq (.reg [rO 17 (.mv (.t 5)),
 rO 4 (.mv (.t 17))])
 .ret)
 .skip))))
 (.reg [rO 18 (.bin .add (.t 8) (.v (.int .i64 1))),
 rO 8 (.mv (.t 18))])))))))
 (.seq (.reg [rO 4 (.mv (.v (.int .i64 (-1))))])
 .ret))),
 [.t 4]⟩
theorem k136 : cFn Try.prog Try.f136 = some c136 := by kernel_rfl
theorem find_ok {β : Type} {f : Nat} {cap : β → List TV} {p : β → SaR → Bool} (hcap : ∀ x y, cap x = cap y → x = y) (hfr : ∀ h n x, (cap x).map (frzT h n) = cap x) (ok : OkT Try.prog f (pureSp (asks_S cap p))) : OkT Try.prog 136 (pureSp (find_S f cap p)) := by
  have hat : ∀ (x : SaR) (b : β), asks_S cap p (saT x :: cap b) = some (.p (.bool (p b x)), []) := fun x b =>
    specP_at (enc := fun x : SaR × β => saT x.1 :: cap x.2) (by rintro ⟨a, b⟩ ⟨a', b'⟩ h; simp at h; simp [saT_inj _ _ h.1, hcap _ _ h.2]) (x, b) trivial
  refine okT_fn (OkΓT.cons ok (OkΓT.nil _)) Try.func136 (by kernel_rfl) k136 (fun x _ => ⟨rfl, rfl⟩) ?_
  rintro ⟨l, b⟩ hl
  dsimp only at *
  (dsimp only [c136, rO]; simp (maxSteps := 8000000) -implicitDefEqProofs (disch := omega) only [↓reduceIte, go_sem])
  refine awpT_loop (α := Nat) (fun i => ⟨slots [(0, .s (rowsT saT l)), (1, .fn f (cap b)), (7, .p (.int .i64 l.length)), (8, .p (.int .i64 i))], []⟩) (fun i => i ≤ l.length ∧ ∀ j y, j < i → l[j]? = some y → p b y = false) (fun i => l.length - i) 0 ⟨by omega, fun j y hj => absurd hj (by omega)⟩ (le_keep (Nat.zero_le _) (by simp (maxSteps := 8000000) -implicitDefEqProofs (disch := omega) only [↓reduceIte, go_sem, slotsIn])) ?_
  intro i ⟨hi, hn⟩
  simp (maxSteps := 8000000) -implicitDefEqProofs (disch := omega) only [↓reduceIte, go_sem]
  refine condKT_dec (fun hlt => ?_) (fun hge => ?_)
  · obtain ⟨x, hx⟩ := get_ex (l := l) (i := i) (by omega)
    have hx2 := hat x b
    simp only [saT] at hx2
    by_cases hs : p b x = true
    · rw [find_some hx hs hn]
      dsimp only [idxV]
      simp (maxSteps := 8000000) -implicitDefEqProofs (disch := omega) only [↓reduceIte, go_sem, hx, saT, eq_true hlt, hfr, hx2, hs]
      repeat' first
        | ((first | refine gdKT_deq (fun hg hG => ?_) (fun hg hG => ?_) | refine condKT_deq (fun hg hG => ?_) (fun hg hG => ?_)) <;> (try simp (maxSteps := 8000000) -implicitDefEqProofs (disch := omega) only [↓reduceIte, go_sem, hG, hx, saT, eq_true hlt, hfr, hx2, hs]) <;> clear hG)
        | ((first | refine gdKT_split (fun hg => ?_) (fun hg => ?_) | refine condKT_split (fun hg => ?_) (fun hg => ?_)) <;> (try simp (maxSteps := 8000000) -implicitDefEqProofs (disch := omega) only [↓reduceIte, go_sem, hg, hx, saT, eq_true hlt, hfr, hx2, hs]))
        | (refine endT_p (.inr rfl) (by simp (maxSteps := 8000000) -implicitDefEqProofs (disch := omega) only [↓reduceIte, go_sem, hx, saT, eq_true hlt, hfr, hx2, hs]; rfl) ?_; (first | exact vb_true (by omega) | exact vb_false (by omega) | exact vb_dec (by omega) | exact vi_eq (by omega) | rfl | (refine vi_eq ?_; simp_all; first | done | (intros; omega))))
        | exact endT_v (.inr rfl) (by simp (maxSteps := 8000000) -implicitDefEqProofs (disch := omega) only [↓reduceIte, go_sem, hx, saT, eq_true hlt, hfr, hx2, hs]; try rfl) (fun _ => rfl)
    · have hs' : p b x = false := by simpa using hs
      simp (maxSteps := 8000000) -implicitDefEqProofs (disch := omega) only [↓reduceIte, go_sem, hx, saT, eq_true hlt, hfr, hx2, hs']
      refine loopKT_next (i + 1) ⟨by omega, none_snoc hx hs' hn⟩ (by omega) ?_
      exact le_keep (Nat.zero_le _) (by simp (maxSteps := 8000000) -implicitDefEqProofs (disch := omega) only [↓reduceIte, go_sem, slotsIn])
  · rw [find_none (fun j y hj => hn j y (by omega))]
    dsimp only [idxV]
    simp (maxSteps := 8000000) -implicitDefEqProofs (disch := omega) only [↓reduceIte, go_sem, eq_false hge]
    refine joinK_here ?_
    simp (maxSteps := 8000000) -implicitDefEqProofs (disch := omega) only [↓reduceIte, go_sem]
    repeat' first
      | ((first | refine gdKT_deq (fun hg hG => ?_) (fun hg hG => ?_) | refine condKT_deq (fun hg hG => ?_) (fun hg hG => ?_)) <;> (try simp (maxSteps := 8000000) -implicitDefEqProofs (disch := omega) only [↓reduceIte, go_sem, hG]) <;> clear hG)
      | ((first | refine gdKT_split (fun hg => ?_) (fun hg => ?_) | refine condKT_split (fun hg => ?_) (fun hg => ?_)) <;> (try simp (maxSteps := 8000000) -implicitDefEqProofs (disch := omega) only [↓reduceIte, go_sem, hg]))
      | (refine endT_p (.inr rfl) (by simp (maxSteps := 8000000) -implicitDefEqProofs (disch := omega) only [↓reduceIte, go_sem]; rfl) ?_; (first | exact vb_true (by omega) | exact vb_false (by omega) | exact vb_dec (by omega) | exact vi_eq (by omega) | rfl | (refine vi_eq ?_; simp_all; first | done | (intros; omega))))
      | exact endT_v (.inr rfl) (by simp (maxSteps := 8000000) -implicitDefEqProofs (disch := omega) only [↓reduceIte, go_sem]; try rfl) (fun _ => rfl)
/-! The agreement of a number -/
theorem sasF_at (l : List SaR) (h : l.length ≤ 140737488355328 ∧ ∀ y ∈ l, y.sels.length ≤ 140737488355328) : sasF_S [.s (rowsT saT l)] = some (.p (.int .i64 (sasF l)), []) :=
  specP_at (enc := fun x : List SaR => [.s (rowsT saT x)]) (fun x y h => by simp at h; exact sas_inj h) l h
theorem firstS_ok : ∀ (p : Option Int) (l : List SaR), firstS p l = 0 → (∀ x ∈ l, saF x = 0) ∧ l.Pairwise (fun x y => x.spi < y.spi) ∧ ∀ q, p = some q → ∀ x ∈ l, q < x.spi
  | p, [], _ => ⟨by simp, .nil, by simp⟩
  | p, x :: l, h => by
    simp only [firstS] at h
    split at h
    · rename_i hz
      split at h
      · cases h
      · rename_i hb
        obtain ⟨h1, h2, h3⟩ := firstS_ok (some x.spi) l h
        have h4 := h3 x.spi rfl
        refine ⟨fun y hy => ?_, List.pairwise_cons.2 ⟨h4, h2⟩, fun q hq y hy => ?_⟩
        · rcases List.mem_cons.1 hy with rfl | hy
          · exact hz
          · exact h1 y hy
        · subst hq
          simp only [badO] at hb
          rcases List.mem_cons.1 hy with rfl | hy
          · omega
          · have := h4 y hy; omega
    · contradiction
theorem sasF_zero {l : List SaR} (h : sasF l = 0) : l.length ≤ 12 ∧ (∀ x ∈ l, saF x = 0) ∧ l.Pairwise (fun x y => x.spi < y.spi) := by
  simp only [sasF] at h
  split at h
  · rename_i hl; obtain ⟨h1, h2, _⟩ := firstS_ok none l h; exact ⟨hl, h1, h2⟩
  · cases h
theorem spi_one {l : List SaR} (h : l.Pairwise (fun x y => x.spi < y.spi)) {i j : Nat} {x y : SaR} (hx : l[i]? = some x) (hy : l[j]? = some y) (e : x.spi = y.spi) : i = j := by
  rw [List.pairwise_iff_getElem] at h
  obtain ⟨hi, hx⟩ := List.getElem?_eq_some_iff.1 hx
  obtain ⟨hj, hy⟩ := List.getElem?_eq_some_iff.1 hy
  rcases Nat.lt_trichotomy i j with k | k | k
  · have := h i j hi hj k; rw [hx, hy] at this; omega
  · exact k
  · have := h j i hj hi k; rw [hx, hy] at this; omega
def askI (s : Int) (x : SaR) : Bool := x.inn && decide (x.spi = s)
def capI (s : Int) : List TV := [.fe (.p (.int .i64 s)) 0]
theorem capI_inj : ∀ x y, capI x = capI y → x = y := by intro x y h; simpa [capI] using h
theorem askI_find {l : List SaR} (hp : l.Pairwise (fun x y => x.spi < y.spi)) (s : Int) : l.findIdx? (askI s) = match l.findIdx? (fun y => decide (y.spi = s)) with
    | none => none
    | some i => match l[i]? with
      | some x => if x.inn = true then some i else none
      | none => none := by
  cases ho : l.findIdx? (fun y => decide (y.spi = s)) with
  | none =>
    rw [List.findIdx?_eq_none_iff] at ho
    refine find_none fun j y _ hy => ?_
    have := ho y (List.mem_of_getElem? hy)
    simp only [askI, this, Bool.and_false]
  | some i =>
    obtain ⟨hi, h1, _⟩ := List.findIdx?_eq_some_iff_getElem.1 ho
    obtain ⟨x, hx⟩ := get_ex hi
    have hxs : x.spi = s := by rw [(List.getElem?_eq_some_iff.1 hx).2] at h1; exact of_decide_eq_true h1
    simp only [hx]
    cases hin : x.inn with
    | true =>
      refine find_some hx (by simp [askI, hin, hxs]) fun j y hj hy => ?_
      by_cases e : y.spi = s
      · have := spi_one hp hx hy (by rw [hxs, e]); omega
      · simp [askI, e]
    | false =>
      refine find_none fun j y _ hy => ?_
      by_cases e : y.spi = s
      · have := spi_one hp hx hy (by rw [hxs, e])
        subst this; rw [hx] at hy; cases hy; simp [askI, hin]
      · simp [askI, e]
-- impl.SaForSpi$1
def c102 : AF := ⟨12,
 (.seq (.reg [rO 2 (.box 45 (.t 0)),
 rO 3 (.mv (.v (.bool false)))])
 (.seq (.reg [rO 4 (.fa (.t 2) 3),
 rO 5 (.ld (.t 4)),
 rO 6 (.mv (.t 5)),
 ⟨(some 7), (some (6, true)), .fa (.t 2) 0⟩,
 ⟨(some 8), (some (6, true)), .ld (.t 7)⟩,
 ⟨(some 9), (some (6, true)), .ld (.t 1)⟩,
 ⟨(some 10), (some (6, true)), .bin .eql (.t 8) (.t 9)⟩,
 rO 11 (.pick (.t 6) (.t 10) (.v (.bool false))),
 rO 3 (.mv (.t 11))])
 .ret)),
 [.t 3]⟩
theorem k102 : cFn Try.prog Try.f102 = some c102 := by kernel_rfl
theorem askI_ok : OkT Try.prog 102 (pureSp (asks_S capI askI)) := by
  refine okT_fn (OkΓT.nil _) Try.func102 (by kernel_rfl) k102 (fun x _ => ⟨rfl, rfl⟩) ?_
  rintro ⟨x, s⟩ _
  dsimp only [saT, capI, askI] at *
  cases hi : x.inn with
  | true =>
    (dsimp only [c102, rO]; simp (maxSteps := 8000000) -implicitDefEqProofs (disch := omega) only [↓reduceIte, go_sem, hi])
    repeat' first
      | ((first | refine gdKT_deq (fun hg hG => ?_) (fun hg hG => ?_) | refine condKT_deq (fun hg hG => ?_) (fun hg hG => ?_)) <;> (try simp (maxSteps := 8000000) -implicitDefEqProofs (disch := omega) only [↓reduceIte, go_sem, hG, hi]) <;> clear hG)
      | ((first | refine gdKT_split (fun hg => ?_) (fun hg => ?_) | refine condKT_split (fun hg => ?_) (fun hg => ?_)) <;> (try simp (maxSteps := 8000000) -implicitDefEqProofs (disch := omega) only [↓reduceIte, go_sem, hg, hi]))
      | (refine endT_p (.inr rfl) (by simp (maxSteps := 8000000) -implicitDefEqProofs (disch := omega) only [↓reduceIte, go_sem, hi]; rfl) ?_; (first | exact vb_true (by omega) | exact vb_false (by omega) | exact vb_dec (by omega) | exact vi_eq (by omega) | rfl | (refine vi_eq ?_; simp_all; first | done | (intros; omega))))
      | exact endT_v (.inr rfl) (by simp (maxSteps := 8000000) -implicitDefEqProofs (disch := omega) only [↓reduceIte, go_sem, hi]; try rfl) (fun _ => rfl)
  | false =>
    (dsimp only [c102, rO]; simp (maxSteps := 8000000) -implicitDefEqProofs (disch := omega) only [↓reduceIte, go_sem, hi])
    repeat' first
      | ((first | refine gdKT_deq (fun hg hG => ?_) (fun hg hG => ?_) | refine condKT_deq (fun hg hG => ?_) (fun hg hG => ?_)) <;> (try simp (maxSteps := 8000000) -implicitDefEqProofs (disch := omega) only [↓reduceIte, go_sem, hG, hi]) <;> clear hG)
      | ((first | refine gdKT_split (fun hg => ?_) (fun hg => ?_) | refine condKT_split (fun hg => ?_) (fun hg => ?_)) <;> (try simp (maxSteps := 8000000) -implicitDefEqProofs (disch := omega) only [↓reduceIte, go_sem, hg, hi]))
      | (refine endT_p (.inr rfl) (by simp (maxSteps := 8000000) -implicitDefEqProofs (disch := omega) only [↓reduceIte, go_sem, hi]; rfl) ?_; (first | exact vb_true (by omega) | exact vb_false (by omega) | exact vb_dec (by omega) | exact vi_eq (by omega) | rfl | (refine vi_eq ?_; simp_all; first | done | (intros; omega))))
      | exact endT_v (.inr rfl) (by simp (maxSteps := 8000000) -implicitDefEqProofs (disch := omega) only [↓reduceIte, go_sem, hi]; try rfl) (fun _ => rfl)
/-- What is found, and copied. -/
def foundV (l : List SaR) : Option Nat → TV × THeap
  | none => (.agg [.p (.int .i64 4), .p (.int .i64 0), .p (.int .i64 0), .p (.int .i64 0), .p (.int .i64 0), .p (.bool false), .p (.int .i64 0), .p (.int .i64 0), .p (.int .i64 0), .p (.int .i64 0), .p (.int .i64 0), .p (.int .i64 0), .nl], [])
  | some i => match l[i]? with
    | some x => (.agg [.p (.int .i64 0), .p (.int .i64 i), .p (.int .i64 x.spi), .p (.int .i64 x.peer), .p (.int .i64 x.key), .p (.bool x.inn), .p (.int .i64 x.sent), .p (.int .i64 x.top), .p (.int .i64 x.bits), .p (.int .i64 x.byt), .p (.int .i64 x.hard), .p (.int .i64 x.til), .os 0 0 x.sels.length], [selB x.sels])
    | none => (.any, [])
theorem foundV_some {l : List SaR} {i : Nat} {x : SaR} (h : l[i]? = some x) : foundV l (some i) = (.agg [.p (.int .i64 0), .p (.int .i64 i), .p (.int .i64 x.spi), .p (.int .i64 x.peer), .p (.int .i64 x.key), .p (.bool x.inn), .p (.int .i64 x.sent), .p (.int .i64 x.top), .p (.int .i64 x.bits), .p (.int .i64 x.byt), .p (.int .i64 x.hard), .p (.int .i64 x.til), .os 0 0 x.sels.length], [selB x.sels]) := by simp only [foundV, h]
theorem foundV_own (l : List SaR) (o : Option Nat) : ownT (foundV l o).1 = true ∧ (foundV l o).2.all ownB = true := by
  cases o with
  | none => exact ⟨by simp [foundV, ownT, ownTs], rfl⟩
  | some i =>
    cases h : l[i]? with
    | none => simp [foundV, h, ownT]
    | some x => rw [foundV_some h]; exact ⟨by simp [ownT, ownTs], by simp [ownB, sls_own]⟩
abbrev goodL (l : List SaR) : Prop := l.length ≤ 12 ∧ ∀ x ∈ l, 1 ≤ x.sels.length ∧ x.sels.length ≤ 12
noncomputable def found_S {β : Type} (f : Nat) (cap : β → List TV) (p : β → SaR → Bool) := specP (fun x : List SaR × β => [.s (rowsT saT x.1), .fn f (cap x.2)]) (fun x => goodL x.1) (fun x => foundV x.1 (x.1.findIdx? (p x.2)))
theorem fn_inj {β : Type} {f : Nat} {cap : β → List TV} (hcap : ∀ x y, cap x = cap y → x = y) : ∀ x y : List SaR × β, ([.s (rowsT saT x.1), .fn f (cap x.2)] : List TV) = [.s (rowsT saT y.1), .fn f (cap y.2)] → x = y := by
  rintro ⟨a, b⟩ ⟨a', b'⟩ h; simp at h; simp [sas_inj h.1, hcap _ _ h.2]
theorem find_at {β : Type} {f : Nat} {cap : β → List TV} {p : β → SaR → Bool} (hcap : ∀ x y, cap x = cap y → x = y) (l : List SaR) (b : β) (h : l.length ≤ 140737488355328) : find_S f cap p [.s (rowsT saT l), .fn f (cap b)] = some (.p (.int .i64 (idxV (l.findIdx? (p b)))), []) :=
  specP_at (fn_inj hcap) (l, b) h
theorem found_at {β : Type} {f : Nat} {cap : β → List TV} {p : β → SaR → Bool} (hcap : ∀ x y, cap x = cap y → x = y) (l : List SaR) (b : β) (h : goodL l) : found_S f cap p [.s (rowsT saT l), .fn f (cap b)] = some (foundV l (l.findIdx? (p b))) :=
  specP_at (fn_inj hcap) (l, b) h
-- impl.found
def c101 : AF := ⟨19,
 (.seq (.reg [rO 4 (.alloc 70 [(.int .i64 0), (.int .i64 0), (.int .i64 0), (.int .i64 0), (.int .i64 0), (.bool false), (.int .i64 0), (.int .i64 0), (.int .i64 0), (.int .i64 0), (.int .i64 0), (.int .i64 0), (.slice none 0 0)])])
 (.seq (.reg [rO 6 (.mv (.t 0)),
 rO 7 (.mv (.t 1)),
 rO 8 (.call 136 [(.t 6), (.t 7)]),
 rO 5 (.mv (.t 8))])
 (.seq (.seq (.reg [rO 9 (.mv (.t 5)),
 rO 10 (.bin .lss (.t 9) (.v (.int .i64 0)))])
 (.cond (.t 10) (.seq (.reg [rO 11 (.build [(.int .i64 0), (.int .i64 0), (.int .i64 0), (.int .i64 0), (.int .i64 0), (.bool false), (.int .i64 0), (.int .i64 0), (.int .i64 0), (.int .i64 0), (.int .i64 0), (.int .i64 0), (.slice none 0 0)] [(0, 1, (.v (.int .i64 4)))]),
 ⟨none, none, .st 13 (.t 4) (.t 11)⟩])
 .ret)
 .skip))
 (.seq (.reg [rO 12 (.mv (.t 5)),
 rO 13 (.mv (.t 0)),
 rO 14 (.mv (.t 5)),
 rO 15 (.ia 11 (.t 13) (.t 14)),
 rO 16 (.ldn 11 (.t 15)),
 rO 17 (.call 85 [(.t 16)]),
 rO 18 (.build [(.int .i64 0), (.int .i64 0), (.int .i64 0), (.int .i64 0), (.int .i64 0), (.bool false), (.int .i64 0), (.int .i64 0), (.int .i64 0), (.int .i64 0), (.int .i64 0), (.int .i64 0), (.slice none 0 0)] [(0, 1, (.v (.int .i64 0))), (1, 1, (.t 12)), (2, 11, (.t 17))]),
 ⟨none, none, .st 13 (.t 4) (.t 18)⟩])
 .ret)))),
 [.cell 4 (some 13)]⟩
theorem k101 : cFn Try.prog Try.f101 = some c101 := by kernel_rfl
theorem found_ok {β : Type} {f : Nat} {cap : β → List TV} {p : β → SaR → Bool} (hcap : ∀ x y, cap x = cap y → x = y) (hfr : ∀ h n x, frzT h n (.fn f (cap x)) = .fn f (cap x)) (ok : OkT Try.prog 136 (pureSp (find_S f cap p))) : OkT Try.prog 101 (pureSp (found_S f cap p)) := by
  refine okT_fn (OkΓT.cons ok (OkΓT.cons cloneSa_ok (OkΓT.nil _))) Try.func101 (by kernel_rfl) k101 (fun x _ => foundV_own _ _) ?_
  rintro ⟨l, b⟩ ⟨h1, h2⟩
  dsimp only at *
  have hf := find_at (f := f) (p := p) hcap l b (by omega)
  cases ho : l.findIdx? (p b) with
  | none =>
    rw [ho] at hf; simp only [idxV] at hf
    (dsimp only [c101, rO]; simp (maxSteps := 8000000) -implicitDefEqProofs (disch := omega) only [↓reduceIte, go_sem, ↓hfr, hf, foundV])
    exact endT_of [] (.inr rfl) (by simp (maxSteps := 8000000) -implicitDefEqProofs (disch := omega) only [↓reduceIte, go_sem, foundV]; rfl) (by simp (maxSteps := 8000000) -implicitDefEqProofs (disch := omega) only [↓reduceIte, go_sem, foundV]) (by simp (maxSteps := 8000000) -implicitDefEqProofs (disch := omega) only [↓reduceIte, go_sem, foundV]) (by decide) (by simp)
  | some i =>
    obtain ⟨hi, _, _⟩ := List.findIdx?_eq_some_iff_getElem.1 ho
    obtain ⟨x, hx⟩ := get_ex hi
    have hxs := h2 x (List.mem_of_getElem? hx)
    rw [ho] at hf; simp only [idxV] at hf
    rw [foundV_some hx]
    (dsimp only [c101, rO]; simp (maxSteps := 8000000) -implicitDefEqProofs (disch := omega) only [↓reduceIte, go_sem, ↓hfr, hf, hx, saT, copy_at])
    exact endT_of [1] (.inr rfl) (by simp (maxSteps := 8000000) -implicitDefEqProofs (disch := omega) only [↓reduceIte, go_sem]; rfl) (by simp (maxSteps := 8000000) -implicitDefEqProofs (disch := omega) only [↓reduceIte, go_sem]) (by simp (maxSteps := 8000000) -implicitDefEqProofs (disch := omega) only [↓reduceIte, go_sem]) (by decide) (by simp)
theorem frz_capI (h : THeap) (n : Nat) (f : Nat) (s : Int) : frzT h n (.fn f (capI s)) = .fn f (capI s) := by simp only [capI, frz_fn, List.map_cons, List.map_nil, frz_fe]
theorem maps_capI (h : THeap) (n : Nat) (s : Int) : (capI s).map (frzT h n) = capI s := by simp only [capI, List.map_cons, List.map_nil, frz_fe]
theorem found_spi_ok : OkT Try.prog 101 (pureSp (found_S 102 capI askI)) := found_ok capI_inj (fun h n x => frz_capI h n _ x) (find_ok capI_inj maps_capI askI_ok)
def sfsR (l : List SaR) (s : Int) : TV × THeap := if sasF l = 0 then foundV l (l.findIdx? (askI s)) else (.agg [.p (.int .i64 (sasF l)), .p (.int .i64 0), .p (.int .i64 0), .p (.int .i64 0), .p (.int .i64 0), .p (.bool false), .p (.int .i64 0), .p (.int .i64 0), .p (.int .i64 0), .p (.int .i64 0), .p (.int .i64 0), .p (.int .i64 0), .nl], [])
theorem sfsR_own (l : List SaR) (s : Int) : ownT (sfsR l s).1 = true ∧ (sfsR l s).2.all ownB = true := by
  simp only [sfsR]
  split
  · exact foundV_own _ _
  · exact ⟨by simp [ownT, ownTs], rfl⟩
noncomputable def sfs_S := specP (fun x : List SaR × Int => [.s (rowsT saT x.1), .p (.int .i64 x.2)]) (fun x => x.1.length ≤ 1048576 ∧ ∀ y ∈ x.1, y.sels.length ≤ 1048576) (fun x => sfsR x.1 x.2)
-- impl.SaForSpi
def c36 : AF := ⟨15,
 (.seq (.reg [rO 3 (.box 2 (.t 1)),
 rO 4 (.alloc 70 [(.int .i64 0), (.int .i64 0), (.int .i64 0), (.int .i64 0), (.int .i64 0), (.bool false), (.int .i64 0), (.int .i64 0), (.int .i64 0), (.int .i64 0), (.int .i64 0), (.int .i64 0), (.slice none 0 0)])])
 (.seq (.seq (.reg [rO 6 (.mv (.t 0)),
 rO 7 (.call 19 [(.t 6)]),
 rO 5 (.mv (.t 7))])
 (.seq (.reg [rO 8 (.mv (.t 5)),
 rO 9 (.bin .neq (.t 8) (.v (.int .i64 0)))])
 (.cond (.t 9) (.seq (.reg [rO 10 (.mv (.t 5)),
 rO 11 (.build [(.int .i64 0), (.int .i64 0), (.int .i64 0), (.int .i64 0), (.int .i64 0), (.bool false), (.int .i64 0), (.int .i64 0), (.int .i64 0), (.int .i64 0), (.int .i64 0), (.int .i64 0), (.slice none 0 0)] [(0, 1, (.t 10))]),
 ⟨none, none, .st 13 (.t 4) (.t 11)⟩])
 .ret)
 .skip)))
 (.seq (.reg [rO 12 (.mv (.t 0)),
 rO 13 (.fn 102 [(.t 3)]),
 rO 14 (.call 101 [(.t 12), (.t 13)]),
 ⟨none, none, .st 13 (.t 4) (.t 14)⟩])
 .ret))),
 [.cell 4 (some 13)]⟩
theorem k36 : cFn Try.prog Try.f36 = some c36 := by kernel_rfl
theorem sfsI_ok : OkT Try.prog 36 (pureSp sfs_S) := by
  refine okT_fn (OkΓT.cons sasFI_ok (OkΓT.cons found_spi_ok (OkΓT.nil _))) Try.func36 (by kernel_rfl) k36 (fun x _ => sfsR_own _ _) ?_
  rintro ⟨l, s⟩ ⟨h1, h2⟩
  dsimp only at *
  have hf := sasF_at l ⟨by omega, fun y hy => by have := h2 y hy; omega⟩
  by_cases hz : sasF l = 0
  case neg =>
    rw [show sfsR l s = (.agg [.p (.int .i64 (sasF l)), .p (.int .i64 0), .p (.int .i64 0), .p (.int .i64 0), .p (.int .i64 0), .p (.bool false), .p (.int .i64 0), .p (.int .i64 0), .p (.int .i64 0), .p (.int .i64 0), .p (.int .i64 0), .p (.int .i64 0), .nl], []) by simp only [sfsR]; rw [if_neg hz]]
    (dsimp only [c36, rO]; simp (maxSteps := 8000000) -implicitDefEqProofs (disch := omega) only [↓reduceIte, go_sem, hf, eq_false hz])
    exact endT_of [] (.inr rfl) (by simp (maxSteps := 8000000) -implicitDefEqProofs (disch := omega) only [↓reduceIte, go_sem]; rfl) (by simp (maxSteps := 8000000) -implicitDefEqProofs (disch := omega) only [↓reduceIte, go_sem]) (by simp (maxSteps := 8000000) -implicitDefEqProofs (disch := omega) only [↓reduceIte, go_sem]) (by decide) (by simp)
  obtain ⟨g1, g2, g3⟩ := sasF_zero hz
  have hi := found_at (f := 102) (p := askI) capI_inj l s ⟨g1, fun x hx => (saF_zero (g2 x hx)).2.2.2⟩
  simp only [capI] at hi
  rw [show sfsR l s = foundV l (l.findIdx? (askI s)) by simp only [sfsR]; rw [if_pos hz]]
  cases ho : l.findIdx? (askI s) with
  | none =>
    rw [ho] at hi
    dsimp only [foundV] at hi ⊢
    (dsimp only [c36, rO]; simp (maxSteps := 8000000) -implicitDefEqProofs (disch := omega) only [↓reduceIte, go_sem, hf, hz, hi])
    exact endT_of [] (.inr rfl) (by simp (maxSteps := 8000000) -implicitDefEqProofs (disch := omega) only [↓reduceIte, go_sem]; rfl) (by simp (maxSteps := 8000000) -implicitDefEqProofs (disch := omega) only [↓reduceIte, go_sem]) (by simp (maxSteps := 8000000) -implicitDefEqProofs (disch := omega) only [↓reduceIte, go_sem]) (by decide) (by simp)
  | some i =>
    obtain ⟨hil, _, _⟩ := List.findIdx?_eq_some_iff_getElem.1 ho
    obtain ⟨x, hx⟩ := get_ex hil
    rw [ho, foundV_some hx] at hi
    rw [foundV_some hx]
    (dsimp only [c36, rO]; simp (maxSteps := 8000000) -implicitDefEqProofs (disch := omega) only [↓reduceIte, go_sem, hf, hz, hi])
    exact endT_of [2] (.inr rfl) (by simp (maxSteps := 8000000) -implicitDefEqProofs (disch := omega) only [↓reduceIte, go_sem]; rfl) (by simp (maxSteps := 8000000) -implicitDefEqProofs (disch := omega) only [↓reduceIte, go_sem]) (by simp (maxSteps := 8000000) -implicitDefEqProofs (disch := omega) only [↓reduceIte, go_sem]) (by decide) (by simp)
end Go.Proofs.Ytghpdclhhnbgjaa
