import Derived.Test.YtngebdcbcliobaaD5
set_option linter.unusedSimpArgs false
set_option linter.unusedVariables false
set_option maxRecDepth 100000
set_option maxHeartbeats 4000000
namespace Go.Proofs.Ytngebdcbcliobaa
open Go Go.AH
attribute [local irreducible] awpT ropsT qopsT stepT condKT gdKT EndT joinK loopKT seqKT blkKT kont kontR
theorem sasK_tv (n : Nat) (l : List SaR) : tvC n (sasK l) = .os n 0 l.length := by simp only [sasK, tvC, List.length_map]
theorem sasK_bk (n : Nat) (l : List SaR) : bkC n (sasK l) = .cells 32 (zOf l.length 11) (tvRs (n + 1) (l.map saC)) :: bkRs (n + 1) (l.map saC) := by simp only [sasK, bkC]
def badC (f : Int) : List Cell := [.v (.int .i64 f), .nl]
def goodC (c : Cell) : List Cell := [.v (.int .i64 0), c]
theorem badC_ans (f : Int) : ansR (badC f) = (.agg [.p (.int .i64 f), .nl], []) := rfl
theorem badC_fit (f : Int) : FitR sh_SasResult (badC f) := ⟨_, _, rfl, ⟨_, rfl⟩, _, _, rfl, .inl rfl, rfl⟩
theorem goodC_fit {c : Cell} (h : FitC sh_SaS c) : FitR sh_SasResult (goodC c) := ⟨_, _, rfl, ⟨_, rfl⟩, _, _, rfl, h, rfl⟩
theorem sasC_fit (l : List SaR) : FitC sh_SaS (sasC l) := HasC.fit _ _ (sasC_has l)
theorem szs_filter (p : SaR → Bool) : ∀ l : List SaR, szRs ((l.filter p).map saC) ≤ szRs (l.map saC)
  | [] => Nat.le_refl _
  | x :: l => by
    have := szs_filter p l
    by_cases h : p x = true
    · simp only [List.filter_cons_of_pos h, List.map_cons, szRs]; omega
    · simp only [List.filter_cons_of_neg h, List.map_cons, szRs]; omega
/-! ExpireSas -/
def expR (l : List SaR) (n : Int) : List Cell := if sasF l = 0 then (if 0 ≤ n ∧ n ≤ 1000000000 then goodC (sasK (l.filter (lateU n))) else badC 3) else badC (sasF l)
abbrev smallL (l : List SaR) : Prop := l.length ≤ 1048576 ∧ ∀ y ∈ l, y.sels.length ≤ 1048576
noncomputable def expire_S := specP (fun x : List SaR × Int => [.s (rowsT saT x.1), .p (.int .i64 x.2)]) (fun x => smallL x.1) (fun x => ansR (expR x.1 x.2))
theorem goodL_of {l : List SaR} (hz : sasF l = 0) : goodL l := by
  obtain ⟨g1, g2, _⟩ := sasF_zero hz
  exact ⟨g1, fun x hx => (saF_zero (g2 x hx)).2.2.2⟩
-- spec.ExpireSas
def c28 : AF := ⟨20,
  (.seq (.reg [⟨(some 4), none, .alloc 48 [(.int .i64 0), (.slice none 0 0)]⟩])
  (.seq (.seq (.reg [⟨(some 6), none, .mv (.t 0)⟩,
   ⟨(some 7), none, .call 21 [(.t 6)]⟩,
   ⟨(some 5), none, .mv (.t 7)⟩])
  (.seq (.reg [⟨(some 8), none, .mv (.t 5)⟩,
   ⟨(some 9), none, .bin .neq (.t 8) (.v (.int .i64 0))⟩])
  (.cond (.t 9) (.seq (.reg [⟨(some 10), none, .mv (.t 5)⟩,
   ⟨(some 11), none, .build [(.int .i64 0), (.slice none 0 0)] [(0, 1, (.t 10))]⟩,
   ⟨none, none, .st 2 (.t 4) (.t 11)⟩])
  .ret)
  .skip)))
  (.seq (.seq (.reg [⟨(some 12), none, .mv (.t 1)⟩,
   ⟨(some 13), none, .call 75 [(.t 12)]⟩,
   ⟨(some 14), none, .un .not (.t 13)⟩])
  (.cond (.t 14) (.seq (.reg [⟨(some 15), none, .build [(.int .i64 0), (.slice none 0 0)] [(0, 1, (.v (.int .i64 3)))]⟩,
   ⟨none, none, .st 2 (.t 4) (.t 15)⟩])
  .ret)
  .skip))
  (.seq (.reg [⟨(some 16), none, .mv (.t 0)⟩,
   ⟨(some 17), none, .mv (.t 1)⟩,
   ⟨(some 18), none, .call 94 [(.t 16), (.t 17)]⟩,
   ⟨(some 19), none, .build [(.int .i64 0), (.slice none 0 0)] [(1, 1, (.t 18))]⟩,
   ⟨none, none, .st 2 (.t 4) (.t 19)⟩])
  .ret)))),
  [.cell 4 (some 2)]⟩
theorem k28 : cFn Try.prog Try.f28 = some c28 := by kernel_rfl
theorem expS_ok : OkT Try.prog 28 (pureSp expire_S) := by
  refine okT_fn (OkΓT.cons sasFS_ok (OkΓT.cons l16Long_ok (OkΓT.cons l16Expire_ok (OkΓT.nil _)))) Try.func28 (by kernel_rfl) k28 (fun x _ => ansR_own _) ?_
  rintro ⟨l, n⟩ ⟨h1, h2⟩
  dsimp only at *
  have hf := sasF_at l ⟨by omega, fun y hy => by have := h2 y hy; omega⟩
  by_cases hz : sasF l = 0
  case neg =>
    rw [expR, if_neg hz, badC_ans]
    (dsimp only [c28]; simp (maxSteps := 8000000) (implicitDefEqProofs := false) (disch := omega) only [↓reduceIte, go_sem, if_pos, if_neg, hf, eq_false hz])
    exact endT_v (.inr rfl) (by (simp (maxSteps := 8000000) (implicitDefEqProofs := false) (disch := omega) only [↓reduceIte, go_sem, if_pos, if_neg]) <;> rfl) (fun _ => rfl)
  rw [expR, if_pos hz]
  by_cases ht : 0 ≤ n ∧ n ≤ 1000000000
  case neg =>
    rw [if_neg ht, badC_ans]
    (dsimp only [c28]; simp (maxSteps := 8000000) (implicitDefEqProofs := false) (disch := omega) only [↓reduceIte, go_sem, if_pos, if_neg, hf, hz, tick_at, eq_false ht])
    exact endT_v (.inr rfl) (by (simp (maxSteps := 8000000) (implicitDefEqProofs := false) (disch := omega) only [↓reduceIte, go_sem, if_pos, if_neg]) <;> rfl) (fun _ => rfl)
  rw [if_pos ht]
  (dsimp only [c28]; simp (maxSteps := 8000000) (implicitDefEqProofs := false) (disch := omega) only [↓reduceIte, go_sem, if_pos, if_neg, hf, hz, tick_at, eq_true ht, exp_at l n (goodL_of hz), ansC])
  refine endT_cells' 1 (.inr rfl) (by (simp (maxSteps := 8000000) (implicitDefEqProofs := false) (disch := omega) only [↓reduceIte, go_sem, if_pos, if_neg, goodC, tvCs, tvC_v, nbC, Nat.add_zero]) <;> rfl) ?_ (by simp only [List.length_cons]; omega)
  simp only [goodC, List.drop_succ_cons, List.drop_zero, bkCs, bkC, nbC, Nat.add_zero, List.append_nil, List.nil_append]
-- impl.ExpireSas
def c27 : AF := ⟨20,
  (.seq (.reg [⟨(some 3), none, .box 2 (.t 1)⟩,
   ⟨(some 4), none, .alloc 48 [(.int .i64 0), (.slice none 0 0)]⟩])
  (.seq (.seq (.reg [⟨(some 6), none, .mv (.t 0)⟩,
   ⟨(some 7), none, .call 23 [(.t 6)]⟩,
   ⟨(some 5), none, .mv (.t 7)⟩])
  (.seq (.reg [⟨(some 8), none, .mv (.t 5)⟩,
   ⟨(some 9), none, .bin .neq (.t 8) (.v (.int .i64 0))⟩])
  (.cond (.t 9) (.seq (.reg [⟨(some 10), none, .mv (.t 5)⟩,
   ⟨(some 11), none, .build [(.int .i64 0), (.slice none 0 0)] [(0, 1, (.t 10))]⟩,
   ⟨none, none, .st 2 (.t 4) (.t 11)⟩])
  .ret)
  .skip)))
  (.seq (.seq (.reg [⟨(some 12), none, .ld (.t 3)⟩,
   ⟨(some 13), none, .call 83 [(.t 12)]⟩,
   ⟨(some 14), none, .un .not (.t 13)⟩])
  (.cond (.t 14) (.seq (.reg [⟨(some 15), none, .build [(.int .i64 0), (.slice none 0 0)] [(0, 1, (.v (.int .i64 3)))]⟩,
   ⟨none, none, .st 2 (.t 4) (.t 15)⟩])
  .ret)
  .skip))
  (.seq (.reg [⟨(some 16), none, .mv (.t 0)⟩,
   ⟨(some 17), none, .fn 93 [(.t 3)]⟩,
   ⟨(some 18), none, .call 92 [(.t 16), (.t 17)]⟩,
   ⟨(some 19), none, .build [(.int .i64 0), (.slice none 0 0)] [(0, 1, (.v (.int .i64 0))), (1, 1, (.t 18))]⟩,
   ⟨none, none, .st 2 (.t 4) (.t 19)⟩])
  .ret)))),
  [.cell 4 (some 2)]⟩
theorem k27 : cFn Try.prog Try.f27 = some c27 := by kernel_rfl
theorem expI_ok : OkT Try.prog 27 (pureSp expire_S) := by
  refine okT_fn (OkΓT.cons sasFI_ok (OkΓT.cons isTick_ok (OkΓT.cons keepL_ok (OkΓT.nil _)))) Try.func27 (by kernel_rfl) k27 (fun x _ => ansR_own _) ?_
  rintro ⟨l, n⟩ ⟨h1, h2⟩
  dsimp only at *
  have hf := sasF_at l ⟨by omega, fun y hy => by have := h2 y hy; omega⟩
  by_cases hz : sasF l = 0
  case neg =>
    rw [expR, if_neg hz, badC_ans]
    (dsimp only [c27]; simp (maxSteps := 8000000) (implicitDefEqProofs := false) (disch := omega) only [↓reduceIte, go_sem, if_pos, if_neg, hf, eq_false hz])
    exact endT_v (.inr rfl) (by (simp (maxSteps := 8000000) (implicitDefEqProofs := false) (disch := omega) only [↓reduceIte, go_sem, if_pos, if_neg]) <;> rfl) (fun _ => rfl)
  rw [expR, if_pos hz]
  by_cases ht : 0 ≤ n ∧ n ≤ 1000000000
  case neg =>
    rw [if_neg ht, badC_ans]
    (dsimp only [c27]; simp (maxSteps := 8000000) (implicitDefEqProofs := false) (disch := omega) only [↓reduceIte, go_sem, if_pos, if_neg, hf, hz, tick_at, eq_false ht])
    exact endT_v (.inr rfl) (by (simp (maxSteps := 8000000) (implicitDefEqProofs := false) (disch := omega) only [↓reduceIte, go_sem, if_pos, if_neg]) <;> rfl) (fun _ => rfl)
  rw [if_pos ht]
  have hk : keep_S (fun b => [.fn 93 (capU b)]) lateU [.s (rowsT saT l), .fn 93 [.fe (.p (.int .i64 n)) 0]] = some (ansC (sasK (l.filter (lateU n)))) := keep_at (cap := fun b => [.fn 93 (capU b)]) (p := lateU) (fun x y h => capU_inj x y (by simpa using h)) l n (goodL_of hz)
  (dsimp only [c27]; simp (maxSteps := 8000000) (implicitDefEqProofs := false) (disch := omega) only [↓reduceIte, go_sem, if_pos, if_neg, hf, hz, tick_at, eq_true ht, hk, ansC])
  refine endT_cells' 2 (.inr rfl) (by (simp (maxSteps := 8000000) (implicitDefEqProofs := false) (disch := omega) only [↓reduceIte, go_sem, if_pos, if_neg, goodC, tvCs, tvC_v, nbC, Nat.add_zero]) <;> rfl) ?_ (by simp only [List.length_cons]; omega)
  simp only [goodC, List.drop_succ_cons, List.drop_zero, bkCs, bkC, nbC, Nat.add_zero, List.append_nil, List.nil_append]
theorem exp_H (x0 : Cell) (x1 : Int) (h0 : HasC sh_SaS x0) (y0 : szC x0 ≤ 1048576) : ∃ w w', expire_S [fzC x0, .p (.int .i64 x1)] = some (.agg (tvCs 0 w), bkCs 0 w) ∧ expire_S [fzC x0, .p (.int .i64 x1)] = some (.agg (tvCs 0 w'), bkCs 0 w') ∧ fzCs w = fzCs w' ∧ FitR sh_SasResult w ∧ FitR sh_SasResult w' ∧ szCs w ≤ 1073741824 ∧ szCs w' ≤ 1073741824 := by
  obtain ⟨l, rfl⟩ := sasC_ex h0
  have hS : expire_S [.s (rowsT saT l), .p (.int .i64 x1)] = some (ansR (expR l x1)) := specP_at (enc := fun x : List SaR × Int => [.s (rowsT saT x.1), .p (.int .i64 x.2)]) las_inj (l, x1) (sasC_small y0)
  have hw : FitR sh_SasResult (expR l x1) ∧ szCs (expR l x1) ≤ 1073741824 := by
    unfold expR
    split
    · split
      · refine ⟨goodC_fit (sasK_fit _), ?_⟩
        have := szs_filter (lateU x1) l; have := List.length_filter_le (lateU x1) l
        rw [sasC_szC] at y0
        simp only [goodC, szCs, szC, sasK_sz]; omega
      · exact ⟨badC_fit _, by decide⟩
    · exact ⟨badC_fit _, by simp only [badC, szCs, szC]; omega⟩
  rw [sasC_fzC, hS]
  exact ⟨_, _, rfl, rfl, rfl, hw.1, hw.1, hw.2, hw.2⟩
/-! DropSa -/
def dropR (k : List SaR → Cell) (l : List SaR) (s : Int) : List Cell := if sasF l = 0 then (match l.findIdx? (fun y => decide (y.spi = s)) with
  | none => badC 4
  | some _ => goodC (k (l.filter (otherU s)))) else badC (sasF l)
noncomputable def drop_S (k : List SaR → Cell) := specP (fun x : List SaR × Int => [.s (rowsT saT x.1), .p (.int .i64 x.2)]) (fun x => smallL x.1) (fun x => ansR (dropR k x.1 x.2))
def isU (s : Int) (x : SaR) : Bool := decide (x.spi = s)
-- impl.spiAt$1
def c167 : AF := ⟨8,
  (.seq (.reg [⟨(some 2), none, .box 32 (.t 0)⟩,
   ⟨(some 3), none, .mv (.v (.bool false))⟩])
  (.seq (.reg [⟨(some 4), none, .fa (.t 2) 0⟩,
   ⟨(some 5), none, .ld (.t 4)⟩,
   ⟨(some 6), none, .ld (.t 1)⟩,
   ⟨(some 7), none, .bin .eql (.t 5) (.t 6)⟩,
   ⟨(some 3), none, .mv (.t 7)⟩])
  .ret)),
  [.t 3]⟩
theorem k167 : cFn Try.prog Try.f167 = some c167 := by kernel_rfl
theorem is_ok : OkT Try.prog 167 (pureSp (asks_S capU isU)) := by
  refine okT_fn (OkΓT.nil _) Try.func167 (by kernel_rfl) k167 (fun x _ => ⟨rfl, rfl⟩) ?_
  rintro ⟨x, s⟩ _
  dsimp only [saT, capU, isU] at *
  (dsimp only [c167]; simp (maxSteps := 8000000) (implicitDefEqProofs := false) (disch := omega) only [↓reduceIte, go_sem, if_pos, if_neg])
  repeat' first
    | (refine gdKT_dec (fun hg => ?_) (fun hg => ?_) <;> (try (first | simp (maxSteps := 8000000) (implicitDefEqProofs := false) (disch := omega) only [↓reduceIte, go_sem, if_pos, if_neg, eq_false hg] | simp (maxSteps := 8000000) (implicitDefEqProofs := false) (disch := omega) only [↓reduceIte, go_sem, if_pos, if_neg, eq_true hg])))
    | (refine condKT_dec (fun hg => ?_) (fun hg => ?_) <;> (try (first | simp (maxSteps := 8000000) (implicitDefEqProofs := false) (disch := omega) only [↓reduceIte, go_sem, if_pos, if_neg, eq_false hg] | simp (maxSteps := 8000000) (implicitDefEqProofs := false) (disch := omega) only [↓reduceIte, go_sem, if_pos, if_neg, eq_true hg])))
    | (refine gdKT_split (fun hg => ?_) (fun hg => ?_) <;> (try simp (maxSteps := 8000000) (implicitDefEqProofs := false) (disch := omega) only [↓reduceIte, go_sem, if_pos, if_neg, hg]))
    | (refine condKT_split (fun hg => ?_) (fun hg => ?_) <;> (try simp (maxSteps := 8000000) (implicitDefEqProofs := false) (disch := omega) only [↓reduceIte, go_sem, if_pos, if_neg, hg]))
    | (refine endT_p (.inr rfl) (by simp (maxSteps := 8000000) (implicitDefEqProofs := false) (disch := omega) only [↓reduceIte, go_sem, if_pos, if_neg]; rfl) ?_; (first | exact vb_true (by omega) | exact vb_false (by omega) | exact vb_dec (by omega) | exact vi_eq (by omega) | rfl | (refine vi_eq ?_; simp_all; done) | (refine vi_eq ?_; simp_all; omega) | (refine vi_eq ?_; simp_all; intros; omega)))
    | exact endT_v (.inr rfl) (by simp (maxSteps := 8000000) (implicitDefEqProofs := false) (disch := omega) only [↓reduceIte, go_sem, if_pos, if_neg]; try rfl) (fun _ => rfl)
-- impl.spiAt
def c116 : AF := ⟨8,
  (.seq (.reg [⟨(some 3), none, .box 2 (.t 1)⟩,
   ⟨(some 4), none, .mv (.v (.int .i64 0))⟩])
  (.seq (.reg [⟨(some 5), none, .mv (.t 0)⟩,
   ⟨(some 6), none, .fn 167 [(.t 3)]⟩,
   ⟨(some 7), none, .call 166 [(.t 5), (.t 6)]⟩,
   ⟨(some 4), none, .mv (.t 7)⟩])
  .ret)),
  [.t 4]⟩
theorem k116 : cFn Try.prog Try.f116 = some c116 := by kernel_rfl
theorem spiAt_ok : OkT Try.prog 116 (pureSp spiI_S) := by
  refine okT_fn (OkΓT.cons (find_ok capU_inj capU_frz is_ok) (OkΓT.nil _)) Try.func116 (by kernel_rfl) k116 (fun x _ => ⟨rfl, rfl⟩) ?_
  rintro ⟨l, s⟩ hl
  dsimp only at *
  have hf := find_at (f := 167) (p := isU) capU_inj l s hl
  simp only [capU] at hf
  have e : (fun y : SaR => decide (y.spi = s)) = isU s := rfl
  rw [e]
  (dsimp only [c116]; simp (maxSteps := 8000000) (implicitDefEqProofs := false) (disch := omega) only [↓reduceIte, go_sem, if_pos, if_neg, hf])
  repeat' first
    | (refine gdKT_dec (fun hg => ?_) (fun hg => ?_) <;> (try (first | simp (maxSteps := 8000000) (implicitDefEqProofs := false) (disch := omega) only [↓reduceIte, go_sem, if_pos, if_neg, eq_false hg, hf] | simp (maxSteps := 8000000) (implicitDefEqProofs := false) (disch := omega) only [↓reduceIte, go_sem, if_pos, if_neg, eq_true hg, hf])))
    | (refine condKT_dec (fun hg => ?_) (fun hg => ?_) <;> (try (first | simp (maxSteps := 8000000) (implicitDefEqProofs := false) (disch := omega) only [↓reduceIte, go_sem, if_pos, if_neg, eq_false hg, hf] | simp (maxSteps := 8000000) (implicitDefEqProofs := false) (disch := omega) only [↓reduceIte, go_sem, if_pos, if_neg, eq_true hg, hf])))
    | (refine gdKT_split (fun hg => ?_) (fun hg => ?_) <;> (try simp (maxSteps := 8000000) (implicitDefEqProofs := false) (disch := omega) only [↓reduceIte, go_sem, if_pos, if_neg, hg, hf]))
    | (refine condKT_split (fun hg => ?_) (fun hg => ?_) <;> (try simp (maxSteps := 8000000) (implicitDefEqProofs := false) (disch := omega) only [↓reduceIte, go_sem, if_pos, if_neg, hg, hf]))
    | (refine endT_p (.inr rfl) (by simp (maxSteps := 8000000) (implicitDefEqProofs := false) (disch := omega) only [↓reduceIte, go_sem, if_pos, if_neg, hf]; rfl) ?_; (first | exact vb_true (by omega) | exact vb_false (by omega) | exact vb_dec (by omega) | exact vi_eq (by omega) | rfl | (refine vi_eq ?_; simp_all; done) | (refine vi_eq ?_; simp_all; omega) | (refine vi_eq ?_; simp_all; intros; omega)))
    | exact endT_v (.inr rfl) (by simp (maxSteps := 8000000) (implicitDefEqProofs := false) (disch := omega) only [↓reduceIte, go_sem, if_pos, if_neg, hf]; try rfl) (fun _ => rfl)
theorem drop_filter {l : List SaR} (hp : l.Pairwise (fun x y => x.spi < y.spi)) {s : Int} {i : Nat} {x : SaR} (hx : l[i]? = some x) (hs : x.spi = s) : l.filter (otherU s) = l.take i ++ l.drop (i + 1) := by
  have h1 : ∀ y ∈ l.take i, otherU s y = true := fun y hy => by
    obtain ⟨j, hj⟩ := List.getElem?_of_mem hy
    have hji : j < i := by have := (List.getElem?_eq_some_iff.1 hj).1; rw [List.length_take] at this; omega
    rw [List.getElem?_take_of_lt hji] at hj
    simp only [otherU, decide_eq_true_eq]
    intro e; have := spi_one hp hj hx (by rw [e, hs]); omega
  have h2 : ∀ y ∈ l.drop (i + 1), otherU s y = true := fun y hy => by
    obtain ⟨j, hj⟩ := List.getElem?_of_mem hy
    rw [List.getElem?_drop] at hj
    simp only [otherU, decide_eq_true_eq]
    intro e; have := spi_one hp hj hx (by rw [e, hs]); omega
  conv => lhs; rw [rows_at hx]
  have h3 : ¬ otherU s x = true := by simp [otherU, hs]
  rw [List.filter_append, List.filter_cons_of_neg h3, List.filter_eq_self.2 h1, List.filter_eq_self.2 h2]
-- impl.DropSa
def c57 : AF := ⟨21,
  (.seq (.reg [⟨(some 3), none, .box 2 (.t 1)⟩,
   ⟨(some 4), none, .alloc 48 [(.int .i64 0), (.slice none 0 0)]⟩])
  (.seq (.seq (.reg [⟨(some 6), none, .mv (.t 0)⟩,
   ⟨(some 7), none, .call 23 [(.t 6)]⟩,
   ⟨(some 5), none, .mv (.t 7)⟩])
  (.seq (.reg [⟨(some 8), none, .mv (.t 5)⟩,
   ⟨(some 9), none, .bin .neq (.t 8) (.v (.int .i64 0))⟩])
  (.cond (.t 9) (.seq (.reg [⟨(some 10), none, .mv (.t 5)⟩,
   ⟨(some 11), none, .build [(.int .i64 0), (.slice none 0 0)] [(0, 1, (.t 10))]⟩,
   ⟨none, none, .st 2 (.t 4) (.t 11)⟩])
  .ret)
  .skip)))
  (.seq (.seq (.reg [⟨(some 12), none, .mv (.t 0)⟩,
   ⟨(some 13), none, .ld (.t 3)⟩,
   ⟨(some 14), none, .call 116 [(.t 12), (.t 13)]⟩,
   ⟨(some 15), none, .bin .lss (.t 14) (.v (.int .i64 0))⟩])
  (.cond (.t 15) (.seq (.reg [⟨(some 16), none, .build [(.int .i64 0), (.slice none 0 0)] [(0, 1, (.v (.int .i64 4)))]⟩,
   ⟨none, none, .st 2 (.t 4) (.t 16)⟩])
  .ret)
  .skip))
  (.seq (.reg [⟨(some 17), none, .mv (.t 0)⟩,
   ⟨(some 18), none, .fn 117 [(.t 3)]⟩,
   ⟨(some 19), none, .call 92 [(.t 17), (.t 18)]⟩,
   ⟨(some 20), none, .build [(.int .i64 0), (.slice none 0 0)] [(0, 1, (.v (.int .i64 0))), (1, 1, (.t 19))]⟩,
   ⟨none, none, .st 2 (.t 4) (.t 20)⟩])
  .ret)))),
  [.cell 4 (some 2)]⟩
theorem k57 : cFn Try.prog Try.f57 = some c57 := by kernel_rfl
theorem dropI_ok : OkT Try.prog 57 (pureSp (drop_S sasK)) := by
  refine okT_fn (OkΓT.cons sasFI_ok (OkΓT.cons spiAt_ok (OkΓT.cons keepD_ok (OkΓT.nil _)))) Try.func57 (by kernel_rfl) k57 (fun x _ => ansR_own _) ?_
  rintro ⟨l, s⟩ ⟨h1, h2⟩
  dsimp only at *
  have hf := sasF_at l ⟨by omega, fun y hy => by have := h2 y hy; omega⟩
  by_cases hz : sasF l = 0
  case neg =>
    rw [dropR, if_neg hz, badC_ans]
    (dsimp only [c57]; simp (maxSteps := 8000000) (implicitDefEqProofs := false) (disch := omega) only [↓reduceIte, go_sem, if_pos, if_neg, hf, eq_false hz])
    exact endT_v (.inr rfl) (by (simp (maxSteps := 8000000) (implicitDefEqProofs := false) (disch := omega) only [↓reduceIte, go_sem, if_pos, if_neg]) <;> rfl) (fun _ => rfl)
  rw [dropR, if_pos hz]
  have hi := spiI_at l s (by omega)
  cases ho : l.findIdx? (fun y => decide (y.spi = s)) with
  | none =>
    rw [ho] at hi; simp only [idxV] at hi
    dsimp only
    rw [badC_ans]
    (dsimp only [c57]; simp (maxSteps := 8000000) (implicitDefEqProofs := false) (disch := omega) only [↓reduceIte, go_sem, if_pos, if_neg, hf, hz, hi])
    exact endT_v (.inr rfl) (by (simp (maxSteps := 8000000) (implicitDefEqProofs := false) (disch := omega) only [↓reduceIte, go_sem, if_pos, if_neg]) <;> rfl) (fun _ => rfl)
  | some i =>
    rw [ho] at hi; simp only [idxV] at hi
    have hk : keep_S (fun b => [.fn 117 (capU b)]) otherU [.s (rowsT saT l), .fn 117 [.fe (.p (.int .i64 s)) 0]] = some (ansC (sasK (l.filter (otherU s)))) := keep_at (cap := fun b => [.fn 117 (capU b)]) (p := otherU) (fun x y h => capU_inj x y (by simpa using h)) l s (goodL_of hz)
    dsimp only
    (dsimp only [c57]; simp (maxSteps := 8000000) (implicitDefEqProofs := false) (disch := omega) only [↓reduceIte, go_sem, if_pos, if_neg, hf, hz, hi, hk, ansC])
    refine endT_cells' 2 (.inr rfl) (by (simp (maxSteps := 8000000) (implicitDefEqProofs := false) (disch := omega) only [↓reduceIte, go_sem, if_pos, if_neg, goodC, tvCs, tvC_v, nbC, Nat.add_zero]) <;> rfl) ?_ (by simp only [List.length_cons]; omega)
    simp only [goodC, List.drop_succ_cons, List.drop_zero, bkCs, bkC, nbC, Nat.add_zero, List.append_nil, List.nil_append]
theorem ren1_tvRs (n : Nat) (rs : List (List Cell)) : renTs (fun b => b + n) (tvRs 1 rs) = tvRs (n + 1) rs := ren_tvRs rs 1 (n + 1) fun i _ => by omega
theorem ren1_bkRs (n : Nat) (rs : List (List Cell)) : (bkRs 1 rs).map (renB fun b => b + n) = bkRs (n + 1) rs := ren_bkRs rs 1 (n + 1) fun i _ => by omega
theorem keepAll_ex (l : List SaR) (h : goodL l) : keep_S (fun _ : Unit => []) (fun _ _ => true) [.s (rowsT saT l)] = some (.os 0 0 l.length, .cells 32 (zOf l.length 11) (tvRs 1 (l.map saC)) :: bkRs 1 (l.map saC)) := by
  rw [keepAll_at l h, ansC, sasK_tv, sasK_bk]
theorem sas_sized (l : List SaR) : sizedT 11 (rowsT saT l) = true := sized_iff.2 fun e he => by obtain ⟨x, _, rfl⟩ := List.mem_map.1 he; rfl
theorem goodSas_ans (l : List SaR) : ansR (goodC (sasC l)) = (.agg [.p (.int .i64 0), .os 0 0 l.length], .cells 32 11 (tvRs 1 (l.map saC)) :: bkRs 1 (l.map saC)) := by
  simp only [ansR, goodC, sasC, tvCs, tvC_v, tvC_sl, bkCs, bkC, nbC, Nat.add_zero, Nat.zero_add, List.append_nil, List.nil_append, List.length_map]
theorem endT_mk {res : List AR} {r tv : TV} {hL : THeap} {e : Exit} {s : TSt} (he : e = .normal ∨ e = .ret) (hr : rresT s res = some tv) (hl : Le 0 ⟨fun _ => tv, s.h⟩ ⟨fun _ => r, hL⟩) : EndT res r hL e s := by
  unfold EndT; exact ⟨he, tv, hr, hl⟩
theorem cat_get {S R : List TB} {n : Nat} (h : S.length = n) (a X b : TB) : (a :: (X :: (S ++ (b :: R))))[n + 1 + 1]? = some b := by
  rw [List.getElem?_cons_succ, List.getElem?_cons_succ, List.getElem?_append_right (by omega), h, Nat.sub_self]; rfl
-- spec.DropSa
def c56 : AF := ⟨30,
  (.seq (.reg [⟨(some 4), none, .alloc 48 [(.int .i64 0), (.slice none 0 0)]⟩])
  (.seq (.seq (.reg [⟨(some 7), none, .mv (.t 0)⟩,
   ⟨(some 8), none, .call 21 [(.t 7)]⟩,
   ⟨(some 5), none, .mv (.t 8)⟩])
  (.seq (.reg [⟨(some 9), none, .mv (.t 5)⟩,
   ⟨(some 10), none, .bin .neq (.t 9) (.v (.int .i64 0))⟩])
  (.cond (.t 10) (.seq (.reg [⟨(some 11), none, .mv (.t 5)⟩,
   ⟨(some 12), none, .build [(.int .i64 0), (.slice none 0 0)] [(0, 1, (.t 11))]⟩,
   ⟨none, none, .st 2 (.t 4) (.t 12)⟩])
  .ret)
  .skip)))
  (.seq (.reg [⟨(some 13), none, .mv (.t 0)⟩,
   ⟨(some 14), none, .mv (.t 1)⟩,
   ⟨(some 15), none, .call 110 [(.t 13), (.t 14)]⟩,
   ⟨(some 6), none, .mv (.t 15)⟩])
  (.seq (.seq (.reg [⟨(some 16), none, .mv (.t 6)⟩,
   ⟨(some 17), none, .bin .lss (.t 16) (.v (.int .i64 0))⟩])
  (.cond (.t 17) (.seq (.reg [⟨(some 18), none, .build [(.int .i64 0), (.slice none 0 0)] [(0, 1, (.v (.int .i64 4)))]⟩,
   ⟨none, none, .st 2 (.t 4) (.t 18)⟩])
  .ret)
  .skip))
  (.seq (.drw [⟨(some 19), none, .mv (.t 0)⟩,
   ⟨(some 20), none, .mv (.t 6)⟩,
   ⟨(some 21), none, .sl 11 (.t 19) none (some (.t 20))⟩,
   ⟨(some 22), none, .call 115 [(.t 21)]⟩,
   ⟨(some 23), none, .mv (.t 0)⟩,
   ⟨(some 24), none, .mv (.t 6)⟩,
   ⟨(some 25), none, .bin .add (.t 24) (.v (.int .i64 1))⟩,
   ⟨(some 26), none, .sl 11 (.t 23) (some (.t 25)) none⟩] [⟨(some 27), none, .call 115 [(.t 26)]⟩,
   ⟨(some 28), none, .app 32 11 104 (.t 22) (.t 27)⟩,
   ⟨(some 29), none, .build [(.int .i64 0), (.slice none 0 0)] [(1, 1, (.t 28))]⟩,
   ⟨none, none, .st 2 (.t 4) (.t 29)⟩])
  .ret))))),
  [.cell 4 (some 2)]⟩
theorem k56 : cFn Try.prog Try.f56 = some c56 := by kernel_rfl
theorem dropS_ok : OkT Try.prog 56 (pureSp (drop_S sasC)) := by
  refine okT_fn (OkΓT.cons sasFS_ok (OkΓT.cons l16Spi_ok (OkΓT.cons l16All_ok (OkΓT.nil _)))) Try.func56 (by kernel_rfl) k56 (fun x _ => ansR_own _) ?_
  rintro ⟨l, s⟩ ⟨h1, h2⟩
  dsimp only at *
  have hf := sasF_at l ⟨by omega, fun y hy => by have := h2 y hy; omega⟩
  by_cases hz : sasF l = 0
  case neg =>
    rw [dropR, if_neg hz, badC_ans]
    (dsimp only [c56]; simp (maxSteps := 8000000) (implicitDefEqProofs := false) (disch := omega) only [↓reduceIte, go_sem, if_pos, if_neg, hf, eq_false hz])
    exact endT_v (.inr rfl) (by (simp (maxSteps := 8000000) (implicitDefEqProofs := false) (disch := omega) only [↓reduceIte, go_sem, if_pos, if_neg]) <;> rfl) (fun _ => rfl)
  rw [dropR, if_pos hz]
  have hi := spiI_at l s (by omega)
  cases ho : l.findIdx? (fun y => decide (y.spi = s)) with
  | none =>
    rw [ho] at hi; simp only [idxV] at hi
    dsimp only
    rw [badC_ans]
    (dsimp only [c56]; simp (maxSteps := 8000000) (implicitDefEqProofs := false) (disch := omega) only [↓reduceIte, go_sem, if_pos, if_neg, hf, hz, hi])
    exact endT_v (.inr rfl) (by (simp (maxSteps := 8000000) (implicitDefEqProofs := false) (disch := omega) only [↓reduceIte, go_sem, if_pos, if_neg]) <;> rfl) (fun _ => rfl)
  | some i =>
    rw [ho] at hi; simp only [idxV] at hi
    obtain ⟨hil, hsx, _⟩ := List.findIdx?_eq_some_iff_getElem.1 ho
    obtain ⟨x, hx⟩ := get_ex hil
    rw [(List.getElem?_eq_some_iff.1 hx).2] at hsx
    obtain ⟨g1, g2⟩ := goodL_of hz
    have k1 := keepAll_ex (l.take i) ⟨by rw [List.length_take]; omega, fun y hy => g2 y (List.mem_of_mem_take hy)⟩
    have k2 := keepAll_ex (l.drop (i + 1)) ⟨by rw [List.length_drop]; omega, fun y hy => g2 y (List.mem_of_mem_drop hy)⟩
    dsimp only
    rw [drop_filter (sasF_zero hz).2.2 hx (of_decide_eq_true hsx)]
    obtain ⟨S1, eS, hS⟩ : ∃ S1, bkRs 2 ((l.take i).map saC) = S1 ∧ S1.length = i := ⟨_, rfl, by rw [bkRs_len, saC_nbs, List.length_take]; omega⟩
    obtain ⟨E1, eE, hE⟩ : ∃ E1, tvRs 2 ((l.take i).map saC) = E1 ∧ E1.length = i := ⟨_, rfl, by rw [tvRs_len, List.length_map, List.length_take]; omega⟩
    obtain ⟨S2, fS⟩ : ∃ S2, bkRs (i + 1 + 1 + 1) ((l.drop (i + 1)).map saC) = S2 := ⟨_, rfl⟩
    obtain ⟨E2, fE, hE2⟩ : ∃ E2, tvRs (i + 1 + 1 + 1) ((l.drop (i + 1)).map saC) = E2 ∧ E2.length = l.length - (i + 1) := ⟨_, rfl, by rw [tvRs_len, List.length_map, List.length_drop]⟩
    have hEt : E1.take i = E1 := List.take_of_length_le (by omega)
    have hEt2 : E2.take (l.length - (i + 1)) = E2 := List.take_of_length_le (by omega)
    have hg := fun R => cat_get (R := R) hS
    have hm : min i l.length = i := by omega
    have hsz2 : sizedT 11 E2 = true := by rw [← fE]; exact tvRs_sized _ fun r hr => by obtain ⟨y, _, rfl⟩ := List.mem_map.1 hr; rfl
    have ht : List.take ((l.length : Int) - ((i : Int) + 1)).toNat (List.drop ((i : Int) + 1).toNat l) = l.drop (i + 1) := by
      rw [show ((i : Int) + 1).toNat = i + 1 by omega, List.take_of_length_le (by rw [List.length_drop]; omega)]
    (dsimp only [c56]; simp (maxSteps := 8000000) (implicitDefEqProofs := false) (disch := omega) only [↓reduceIte, go_sem, if_pos, if_neg, hf, hz, hi, rowsT_take, rowsT_drop, ht, k1, k2, sas_sized, ren1_tvRs, ren1_bkRs, Nat.reduceAdd, eS, eE, hS, hE, fS, fE, hE2, hEt, hEt2, hg, hm, hsz2, zOf_or, List.length_take, List.length_drop])
    rw [goodSas_ans, List.map_append]
    refine endT_mk (.inr rfl) (by (simp (maxSteps := 8000000) (implicitDefEqProofs := false) (disch := omega) only [↓reduceIte, go_sem, if_pos, if_neg]) <;> rfl) ?_
    refine le_cat (P := [.cells 48 2 [.agg [.p (.int .i64 0), .os (i + (S2.length + 1) + 1 + 1) 0 (i + (l.length - (i + 1)))]]]) (rows := (l.take i).map saC) (rows2 := (l.drop (i + 1)).map saC) (J1 := [.cells 32 (zOf (l.length - (i + 1)) 11) E2]) (J2 := []) (X := .dead) (E := E1 ++ E2) ?_ ?_ (fun _ => .inr ?_)
    · simp only [List.length_singleton, saC_nbs, List.length_take, hm, List.cons_append, List.nil_append]
      rw [show 1 + 1 + i + 1 = i + 1 + 1 + 1 by omega, eS, fS]
    · simp only [List.length_singleton, saC_nbs, List.length_take, hm]
      rw [show 1 + 1 + i + 1 = i + 1 + 1 + 1 by omega, eE, fE]
    · have hS2 : S2.length = l.length - (i + 1) := by rw [← fS, bkRs_len, saC_nbs, List.length_drop]
      simp only [List.length_singleton, List.length_nil, saC_nbs, List.length_take, List.length_drop, hm, renT, renTs, catR_zero, List.length_append]
      congr 4; omega
theorem drop_H (x0 : Cell) (x1 : Int) (h0 : HasC sh_SaS x0) (y0 : szC x0 ≤ 1048576) : ∃ w w', drop_S sasC [fzC x0, .p (.int .i64 x1)] = some (.agg (tvCs 0 w), bkCs 0 w) ∧ drop_S sasK [fzC x0, .p (.int .i64 x1)] = some (.agg (tvCs 0 w'), bkCs 0 w') ∧ fzCs w = fzCs w' ∧ FitR sh_SasResult w ∧ FitR sh_SasResult w' ∧ szCs w ≤ 1073741824 ∧ szCs w' ≤ 1073741824 := by
  obtain ⟨l, rfl⟩ := sasC_ex h0
  have hS : ∀ k, drop_S k [.s (rowsT saT l), .p (.int .i64 x1)] = some (ansR (dropR k l x1)) := fun k => specP_at (enc := fun x : List SaR × Int => [.s (rowsT saT x.1), .p (.int .i64 x.2)]) las_inj (l, x1) (sasC_small y0)
  have hw : ∀ k : List SaR → Cell, (∀ l, FitC sh_SaS (k l)) → (∀ l, szC (k l) = l.length + szRs (l.map saC)) → FitR sh_SasResult (dropR k l x1) ∧ szCs (dropR k l x1) ≤ 1073741824 := by
    intro k hk hz
    unfold dropR
    split
    · split
      · exact ⟨badC_fit _, by decide⟩
      · refine ⟨goodC_fit (hk _), ?_⟩
        have := szs_filter (otherU x1) l; have := List.length_filter_le (otherU x1) l
        rw [sasC_szC] at y0
        simp only [goodC, szCs, szC, hz]; omega
    · exact ⟨badC_fit _, by simp only [badC, szCs, szC]; omega⟩
  have a1 := hw sasC sasC_fit sasC_szC
  have a2 := hw sasK sasK_fit sasK_sz
  rw [sasC_fzC, hS, hS]
  refine ⟨_, _, rfl, rfl, ?_, a1.1, a2.1, a1.2, a2.2⟩
  unfold dropR
  split
  · split
    · rfl
    · simp only [goodC, fzCs, fzC, sasC, sasK]
  · rfl
end Go.Proofs.Ytngebdcbcliobaa
