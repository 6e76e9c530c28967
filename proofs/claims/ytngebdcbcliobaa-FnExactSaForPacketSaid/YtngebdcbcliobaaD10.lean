import Derived.Test.YtngebdcbcliobaaD9
set_option linter.unusedSimpArgs false
set_option linter.unusedVariables false
set_option maxRecDepth 100000
set_option maxHeartbeats 4000000
namespace Go.Proofs.Ytngebdcbcliobaa
open Go Go.AH
attribute [local irreducible] awpT ropsT qopsT stepT condKT gdKT EndT joinK loopKT seqKT blkKT kont kontR
/-! The first fault of several -/
def faultF : List Int → Int
  | [] => 0
  | a :: r => if a = 0 then faultF r else a
noncomputable def fault_S := specP (fun x : List Int => [.s (isT x)]) (fun x => x.length ≤ 1000) (fun x => (.p (.int .i64 (faultF x)), []))
theorem fault_at (l : List Int) (h : l.length ≤ 1000) : fault_S [.s (isT l)] = some (.p (.int .i64 (faultF l)), []) := specP_at (enc := fun x : List Int => [.s (isT x)]) (by intro x y h; simp at h; exact is_inj h) l h
theorem fault_at2 (a b : Int) : fault_S [.s [.p (.int .i64 a), .p (.int .i64 b)]] = some (.p (.int .i64 (if a = 0 then b else a)), []) := by
  have h := fault_at [a, b] (by simp)
  have e : faultF [a, b] = if a = 0 then b else a := by simp only [faultF]; by_cases h1 : a = 0 <;> by_cases h2 : b = 0 <;> simp [h1, h2]
  rw [e] at h; exact h
theorem fault_at3 (a b c : Int) : fault_S [.s [.p (.int .i64 a), .p (.int .i64 b), .p (.int .i64 c)]] = some (.p (.int .i64 (if a = 0 then (if b = 0 then c else b) else a)), []) := by
  have h := fault_at [a, b, c] (by simp)
  have e : faultF [a, b, c] = if a = 0 then (if b = 0 then c else b) else a := by simp only [faultF]; by_cases h1 : a = 0 <;> by_cases h2 : b = 0 <;> by_cases h3 : c = 0 <;> simp [h1, h2, h3]
  rw [e] at h; exact h
theorem faultF_drop {l : List Int} {i : Nat} {x : Int} (h : l[i]? = some x) : faultF (l.drop i) = if x = 0 then faultF (l.drop (i + 1)) else x := by rw [drop_cons h]; rfl
theorem isT_at {l : List Int} {i : Nat} {x : Int} (h : l[i]? = some x) : (isT l)[i]? = some (.p (.int .i64 x)) := by simp [isT, iT, h]
-- impl.faultOf
def c140 : AF := ⟨15,
  (.seq (.reg [⟨(some 2), none, .mv (.v (.int .i64 0))⟩])
  (.seq (.seq (.reg [⟨(some 5), none, .mv (.t 0)⟩,
   ⟨(some 6), none, .len (.t 5)⟩,
   ⟨(some 7), none, .mv (.v (.int .i64 0))⟩])
  (.block 0 (.loop (.seq (.reg [⟨(some 8), none, .bin .lss (.t 7) (.t 6)⟩])
  (.seq (.cond (.t 8) .skip
  (.exit 0))
  (.seq (.block 1 (.seq (.reg [⟨(some 9), none, .ia 1 (.t 5) (.t 7)⟩,
   ⟨(some 10), none, .ld (.t 9)⟩,
   ⟨(some 4), none, .mv (.t 10)⟩])
  (.seq (.reg [⟨(some 11), none, .mv (.t 4)⟩,
   ⟨(some 12), none, .bin .neq (.t 11) (.v (.int .i64 0))⟩])
  (.cond (.t 12) (.seq (.reg [⟨(some 13), none, .mv (.t 4)⟩,
   ⟨(some 2), none, .mv (.t 13)⟩])
  .ret)
  .skip))))
  (.reg [⟨(some 14), none, .bin .add (.t 7) (.v (.int .i64 1))⟩,
   ⟨(some 7), none, .mv (.t 14)⟩])))))))
  (.seq (.reg [⟨(some 2), none, .mv (.v (.int .i64 0))⟩])
  .ret))),
  [.t 2]⟩
theorem k140 : cFn Try.prog Try.f140 = some c140 := by kernel_rfl
theorem faultOf_ok : OkT Try.prog 140 (pureSp fault_S) := by
  refine okT_fn (OkΓT.nil _) Try.func140 (by kernel_rfl) k140 (fun x _ => ⟨rfl, rfl⟩) ?_
  rintro l hl
  dsimp only at *
  (dsimp only [c140]; simp (maxSteps := 8000000) (implicitDefEqProofs := false) (disch := omega) only [↓reduceIte, go_sem, if_pos, if_neg, is_len])
  refine awpT_loop (α := Nat) (fun i => ⟨slots [(5, .s (isT l)), (6, .p (.int .i64 l.length)), (7, .p (.int .i64 i))], []⟩) (fun i => i ≤ l.length ∧ faultF (l.drop i) = faultF l) (fun i => l.length - i) 0 ⟨by omega, by simp⟩ (le_of [] (by simp (maxSteps := 8000000) (implicitDefEqProofs := false) (disch := omega) only [↓reduceIte, go_sem, if_pos, if_neg]) (by simp (maxSteps := 8000000) (implicitDefEqProofs := false) (disch := omega) only [↓reduceIte, go_sem, if_pos, if_neg]) (by decide) (by simp)) ?_
  intro i ⟨hi, hn⟩
  simp (maxSteps := 8000000) (implicitDefEqProofs := false) (disch := omega) only [↓reduceIte, go_sem, if_pos, if_neg]
  refine condKT_dec (fun hlt => ?_) (fun hge => ?_)
  · obtain ⟨x, hx⟩ := get_ex (l := l) (i := i) (by omega)
    rw [faultF_drop hx] at hn
    have hx' := isT_at hx
    by_cases hz : x = 0
    · rw [if_pos hz] at hn
      subst hz
      simp (maxSteps := 8000000) (implicitDefEqProofs := false) (disch := omega) only [↓reduceIte, go_sem, if_pos, if_neg, hx', eq_true hlt, not_true, decide_false]
      refine loopKT_next (i + 1) ⟨by omega, hn⟩ (by omega) ?_
      exact (le_of [] (by simp (maxSteps := 8000000) (implicitDefEqProofs := false) (disch := omega) only [↓reduceIte, go_sem, if_pos, if_neg]) (by simp (maxSteps := 8000000) (implicitDefEqProofs := false) (disch := omega) only [↓reduceIte, go_sem, if_pos, if_neg]) (by decide) (by simp))
    · rw [if_neg hz] at hn
      rw [← hn]
      simp (maxSteps := 8000000) (implicitDefEqProofs := false) (disch := omega) only [↓reduceIte, go_sem, if_pos, if_neg, hx', eq_true hlt, eq_false hz]
      repeat' first
        | (refine gdKT_dec (fun hg => ?_) (fun hg => ?_) <;> (try (first | simp (maxSteps := 8000000) (implicitDefEqProofs := false) (disch := omega) only [↓reduceIte, go_sem, if_pos, if_neg, eq_false hg, hx', eq_true hlt, eq_false hz] | simp (maxSteps := 8000000) (implicitDefEqProofs := false) (disch := omega) only [↓reduceIte, go_sem, if_pos, if_neg, eq_true hg, hx', eq_true hlt, eq_false hz])))
        | (refine condKT_dec (fun hg => ?_) (fun hg => ?_) <;> (try (first | simp (maxSteps := 8000000) (implicitDefEqProofs := false) (disch := omega) only [↓reduceIte, go_sem, if_pos, if_neg, eq_false hg, hx', eq_true hlt, eq_false hz] | simp (maxSteps := 8000000) (implicitDefEqProofs := false) (disch := omega) only [↓reduceIte, go_sem, if_pos, if_neg, eq_true hg, hx', eq_true hlt, eq_false hz])))
        | (refine gdKT_split (fun hg => ?_) (fun hg => ?_) <;> (try simp (maxSteps := 8000000) (implicitDefEqProofs := false) (disch := omega) only [↓reduceIte, go_sem, if_pos, if_neg, hg, hx', eq_true hlt, eq_false hz]))
        | (refine condKT_split (fun hg => ?_) (fun hg => ?_) <;> (try simp (maxSteps := 8000000) (implicitDefEqProofs := false) (disch := omega) only [↓reduceIte, go_sem, if_pos, if_neg, hg, hx', eq_true hlt, eq_false hz]))
        | (refine endT_p (.inr rfl) (by simp (maxSteps := 8000000) (implicitDefEqProofs := false) (disch := omega) only [↓reduceIte, go_sem, if_pos, if_neg, hx', eq_true hlt, eq_false hz]; rfl) ?_; (first | exact vb_true (by omega) | exact vb_false (by omega) | exact vb_dec (by omega) | exact vi_eq (by omega) | rfl | (refine vi_eq ?_; simp_all; done) | (refine vi_eq ?_; simp_all; omega) | (refine vi_eq ?_; simp_all; intros; omega)))
        | exact endT_v (.inr rfl) (by simp (maxSteps := 8000000) (implicitDefEqProofs := false) (disch := omega) only [↓reduceIte, go_sem, if_pos, if_neg, hx', eq_true hlt, eq_false hz]; try rfl) (fun _ => rfl)
  · rw [show l.drop i = [] from List.drop_eq_nil_of_le (by omega)] at hn
    rw [← hn]
    simp (maxSteps := 8000000) (implicitDefEqProofs := false) (disch := omega) only [↓reduceIte, go_sem, if_pos, if_neg, eq_false hge]
    refine joinK_here ?_
    simp (maxSteps := 8000000) (implicitDefEqProofs := false) (disch := omega) only [↓reduceIte, go_sem, if_pos, if_neg, faultF]
    repeat' first
      | (refine gdKT_dec (fun hg => ?_) (fun hg => ?_) <;> (try (first | simp (maxSteps := 8000000) (implicitDefEqProofs := false) (disch := omega) only [↓reduceIte, go_sem, if_pos, if_neg, eq_false hg, faultF] | simp (maxSteps := 8000000) (implicitDefEqProofs := false) (disch := omega) only [↓reduceIte, go_sem, if_pos, if_neg, eq_true hg, faultF])))
      | (refine condKT_dec (fun hg => ?_) (fun hg => ?_) <;> (try (first | simp (maxSteps := 8000000) (implicitDefEqProofs := false) (disch := omega) only [↓reduceIte, go_sem, if_pos, if_neg, eq_false hg, faultF] | simp (maxSteps := 8000000) (implicitDefEqProofs := false) (disch := omega) only [↓reduceIte, go_sem, if_pos, if_neg, eq_true hg, faultF])))
      | (refine gdKT_split (fun hg => ?_) (fun hg => ?_) <;> (try simp (maxSteps := 8000000) (implicitDefEqProofs := false) (disch := omega) only [↓reduceIte, go_sem, if_pos, if_neg, hg, faultF]))
      | (refine condKT_split (fun hg => ?_) (fun hg => ?_) <;> (try simp (maxSteps := 8000000) (implicitDefEqProofs := false) (disch := omega) only [↓reduceIte, go_sem, if_pos, if_neg, hg, faultF]))
      | (refine endT_p (.inr rfl) (by simp (maxSteps := 8000000) (implicitDefEqProofs := false) (disch := omega) only [↓reduceIte, go_sem, if_pos, if_neg, faultF]; rfl) ?_; (first | exact vb_true (by omega) | exact vb_false (by omega) | exact vb_dec (by omega) | exact vi_eq (by omega) | rfl | (refine vi_eq ?_; simp_all; done) | (refine vi_eq ?_; simp_all; omega) | (refine vi_eq ?_; simp_all; intros; omega)))
      | exact endT_v (.inr rfl) (by simp (maxSteps := 8000000) (implicitDefEqProofs := false) (disch := omega) only [↓reduceIte, go_sem, if_pos, if_neg, faultF]; try rfl) (fun _ => rfl)
/-! The agreement for a packet -/
theorem saF_sels {x : SaR} (h : saF x = 0) : selsF x.sels = 0 := by
  simp only [saF] at h
  split at h
  · split at h
    · split at h
      · cases h
      · exact h
    · rename_i _ hw; exact absurd h hw
  · cases h
def forI (b : Int × PkR) (x : SaR) : Bool := !x.inn && (decide (x.peer = b.1) && x.sels.any (hold1 b.2))
abbrev forP (x : SaR) (b : Int × PkR) : Prop := saF x = 0 ∧ pkF b.2 = 0
noncomputable def for_S := specP (fun x : List SaR × Int × PkR => [.s (rowsT saT x.1), .p (.int .i64 x.2.1), pkT x.2.2]) (fun x => x.1.length ≤ 12 ∧ ∀ y ∈ x.1, forP y x.2) (fun x => (.p (.int .i64 (idxV (x.1.findIdx? (forI x.2)))), []))
theorem for_at (l : List SaR) (n : Int) (p : PkR) (h : l.length ≤ 12) (hp : ∀ y ∈ l, forP y (n, p)) : for_S [.s (rowsT saT l), .p (.int .i64 n), pkT p] = some (.p (.int .i64 (idxV (l.findIdx? (forI (n, p))))), []) :=
  specP_at (enc := fun x : List SaR × Int × PkR => [.s (rowsT saT x.1), .p (.int .i64 x.2.1), pkT x.2.2]) (by rintro ⟨a, b, c⟩ ⟨a', b', c'⟩ h; simp at h; simp [sas_inj h.1, h.2.1, pkT_inj _ _ h.2.2]) (l, n, p) ⟨h, hp⟩
-- spec.l16For
def c139 : AF := ⟨39,
  (.seq (.reg [⟨(some 5), none, .box 68 (.t 2)⟩,
   ⟨(some 6), none, .mv (.v (.int .i64 0))⟩])
  (.seq (.seq (.reg [⟨(some 7), none, .mv (.v (.int .i64 0))⟩])
  (.block 0 (.loop (.seq (.seq (.reg [⟨(some 8), none, .mv (.t 7)⟩,
   ⟨(some 9), none, .mv (.t 0)⟩,
   ⟨(some 10), none, .len (.t 9)⟩,
   ⟨(some 11), none, .bin .lss (.t 8) (.t 10)⟩])
  (.cond (.t 11) .skip
  (.exit 0)))
  (.seq (.block 1 (.seq (.drw [⟨(some 14), none, .mv (.t 0)⟩,
   ⟨(some 15), none, .mv (.t 7)⟩,
   ⟨(some 16), none, .ia 11 (.t 14) (.t 15)⟩,
   ⟨(some 17), none, .fa (.t 16) 3⟩,
   ⟨(some 18), none, .ld (.t 17)⟩,
   ⟨(some 19), none, .un .not (.t 18)⟩,
   ⟨(some 20), none, .mv (.t 19)⟩,
   ⟨(some 21), (some (20, true)), .mv (.t 0)⟩,
   ⟨(some 22), (some (20, true)), .mv (.t 7)⟩,
   ⟨(some 23), (some (20, true)), .ia 11 (.t 21) (.t 22)⟩,
   ⟨(some 24), (some (20, true)), .fa (.t 23) 1⟩,
   ⟨(some 25), (some (20, true)), .ld (.t 24)⟩,
   ⟨(some 26), (some (20, true)), .mv (.t 1)⟩,
   ⟨(some 27), (some (20, true)), .bin .eql (.t 25) (.t 26)⟩,
   ⟨(some 28), none, .pick (.t 20) (.t 27) (.v (.bool false))⟩,
   ⟨(some 29), none, .mv (.t 28)⟩,
   ⟨(some 30), (some (29, true)), .mv (.t 0)⟩,
   ⟨(some 31), (some (29, true)), .mv (.t 7)⟩,
   ⟨(some 32), (some (29, true)), .ia 11 (.t 30) (.t 31)⟩,
   ⟨(some 33), (some (29, true)), .fa (.t 32) 10⟩,
   ⟨(some 34), (some (29, true)), .ld (.t 33)⟩,
   ⟨(some 35), (some (29, true)), .ldn 7 (.t 5)⟩] [⟨(some 36), (some (29, true)), .call 182 [(.t 34), (.t 35)]⟩,
   ⟨(some 37), none, .pick (.t 29) (.t 36) (.v (.bool false))⟩])
  (.cond (.t 37) (.seq (.reg [⟨(some 38), none, .mv (.t 7)⟩,
   ⟨(some 6), none, .mv (.t 38)⟩])
  .ret)
  .skip)))
  (.reg [⟨(some 12), none, .mv (.t 7)⟩,
   ⟨(some 13), none, .bin .add (.t 12) (.v (.int .i64 1))⟩,
   ⟨(some 7), none, .mv (.t 13)⟩]))))))
  (.seq (.reg [⟨(some 6), none, .mv (.v (.int .i64 (-1)))⟩])
  .ret))),
  [.t 6]⟩
theorem k139 : cFn Try.prog Try.f139 = some c139 := by kernel_rfl
theorem l16For_ok : OkT Try.prog 139 (pureSp for_S) := by
  refine okT_fn (OkΓT.cons l3Any_ok (OkΓT.nil _)) Try.func139 (by kernel_rfl) k139 (fun x _ => ⟨rfl, rfl⟩) ?_
  rintro ⟨l, n, p⟩ ⟨h1, h2⟩
  dsimp only at *
  dsimp only [pkT]
  (dsimp only [c139]; simp (maxSteps := 8000000) (implicitDefEqProofs := false) (disch := omega) only [↓reduceIte, go_sem, if_pos, if_neg])
  refine awpT_loop (α := Nat) (fun i => ⟨slots [(0, .s (rowsT saT l)), (1, .p (.int .i64 n)), (5, .op 0 0 0), (7, .p (.int .i64 i))], [.cells 68 7 [pkT p]]⟩) (fun i => i ≤ l.length ∧ ∀ j y, j < i → l[j]? = some y → forI (n, p) y = false) (fun i => l.length - i) 0 ⟨by omega, fun j y hj => absurd hj (by omega)⟩ (by dsimp only [pkT]; exact (le_of [0] (by simp (maxSteps := 8000000) (implicitDefEqProofs := false) (disch := omega) only [↓reduceIte, go_sem, if_pos, if_neg]) (by simp (maxSteps := 8000000) (implicitDefEqProofs := false) (disch := omega) only [↓reduceIte, go_sem, if_pos, if_neg]) (by decide) (by simp))) ?_
  intro i ⟨hi, hn⟩
  dsimp only [pkT]
  simp (maxSteps := 8000000) (implicitDefEqProofs := false) (disch := omega) only [↓reduceIte, go_sem, if_pos, if_neg]
  refine condKT_dec (fun hlt => ?_) (fun hge => ?_)
  · obtain ⟨x, hx⟩ := get_ex (l := l) (i := i) (by omega)
    obtain ⟨q1, q2⟩ := h2 x (List.mem_of_getElem? hx)
    have e3 := any_at x.sels p (saF_sels q1) q2
    dsimp only [pkT] at e3
    by_cases hs : forI (n, p) x = true
    · rw [find_some hx hs hn]
      simp only [forI, Bool.and_eq_true, Bool.not_eq_true', decide_eq_true_eq] at hs
      dsimp only [idxV]
      simp (maxSteps := 8000000) (implicitDefEqProofs := false) (disch := omega) only [↓reduceIte, go_sem, if_pos, if_neg, hx, saT, eq_true hlt, e3, hs.1, eq_true hs.2.1, hs.2.2]
      repeat' first
        | (refine gdKT_dec (fun hg => ?_) (fun hg => ?_) <;> (try (first | simp (maxSteps := 8000000) (implicitDefEqProofs := false) (disch := omega) only [↓reduceIte, go_sem, if_pos, if_neg, eq_false hg, hx, saT, eq_true hlt, e3, hs.1, eq_true hs.2.1, hs.2.2] | simp (maxSteps := 8000000) (implicitDefEqProofs := false) (disch := omega) only [↓reduceIte, go_sem, if_pos, if_neg, eq_true hg, hx, saT, eq_true hlt, e3, hs.1, eq_true hs.2.1, hs.2.2])))
        | (refine condKT_dec (fun hg => ?_) (fun hg => ?_) <;> (try (first | simp (maxSteps := 8000000) (implicitDefEqProofs := false) (disch := omega) only [↓reduceIte, go_sem, if_pos, if_neg, eq_false hg, hx, saT, eq_true hlt, e3, hs.1, eq_true hs.2.1, hs.2.2] | simp (maxSteps := 8000000) (implicitDefEqProofs := false) (disch := omega) only [↓reduceIte, go_sem, if_pos, if_neg, eq_true hg, hx, saT, eq_true hlt, e3, hs.1, eq_true hs.2.1, hs.2.2])))
        | (refine gdKT_split (fun hg => ?_) (fun hg => ?_) <;> (try simp (maxSteps := 8000000) (implicitDefEqProofs := false) (disch := omega) only [↓reduceIte, go_sem, if_pos, if_neg, hg, hx, saT, eq_true hlt, e3, hs.1, eq_true hs.2.1, hs.2.2]))
        | (refine condKT_split (fun hg => ?_) (fun hg => ?_) <;> (try simp (maxSteps := 8000000) (implicitDefEqProofs := false) (disch := omega) only [↓reduceIte, go_sem, if_pos, if_neg, hg, hx, saT, eq_true hlt, e3, hs.1, eq_true hs.2.1, hs.2.2]))
        | (refine endT_p (.inr rfl) (by simp (maxSteps := 8000000) (implicitDefEqProofs := false) (disch := omega) only [↓reduceIte, go_sem, if_pos, if_neg, hx, saT, eq_true hlt, e3, hs.1, eq_true hs.2.1, hs.2.2]; rfl) ?_; (first | exact vb_true (by omega) | exact vb_false (by omega) | exact vb_dec (by omega) | exact vi_eq (by omega) | rfl | (refine vi_eq ?_; simp_all; done) | (refine vi_eq ?_; simp_all; omega) | (refine vi_eq ?_; simp_all; intros; omega)))
        | exact endT_v (.inr rfl) (by simp (maxSteps := 8000000) (implicitDefEqProofs := false) (disch := omega) only [↓reduceIte, go_sem, if_pos, if_neg, hx, saT, eq_true hlt, e3, hs.1, eq_true hs.2.1, hs.2.2]; try rfl) (fun _ => rfl)
    · have hs' : forI (n, p) x = false := by simpa using hs
      have hn' := none_snoc hx hs' hn
      simp only [forI] at hs'
      cases hin : x.inn with
      | true =>
        simp (maxSteps := 8000000) (implicitDefEqProofs := false) (disch := omega) only [↓reduceIte, go_sem, if_pos, if_neg, hx, saT, eq_true hlt, hin]
        refine loopKT_next (i + 1) ⟨by omega, hn'⟩ (by omega) ?_
        (try dsimp only [pkT]); exact (le_of [0] (by simp (maxSteps := 8000000) (implicitDefEqProofs := false) (disch := omega) only [↓reduceIte, go_sem, if_pos, if_neg]) (by simp (maxSteps := 8000000) (implicitDefEqProofs := false) (disch := omega) only [↓reduceIte, go_sem, if_pos, if_neg]) (by decide) (by simp))
      | false =>
        by_cases hpe : x.peer = n
        · have ha : x.sels.any (hold1 p) = false := by simpa [hin, hpe] using hs'
          simp (maxSteps := 8000000) (implicitDefEqProofs := false) (disch := omega) only [↓reduceIte, go_sem, if_pos, if_neg, hx, saT, eq_true hlt, hin, eq_true hpe, e3, ha]
          refine loopKT_next (i + 1) ⟨by omega, hn'⟩ (by omega) ?_
          (try dsimp only [pkT]); exact (le_of [0] (by simp (maxSteps := 8000000) (implicitDefEqProofs := false) (disch := omega) only [↓reduceIte, go_sem, if_pos, if_neg]) (by simp (maxSteps := 8000000) (implicitDefEqProofs := false) (disch := omega) only [↓reduceIte, go_sem, if_pos, if_neg]) (by decide) (by simp))
        · simp (maxSteps := 8000000) (implicitDefEqProofs := false) (disch := omega) only [↓reduceIte, go_sem, if_pos, if_neg, hx, saT, eq_true hlt, hin, eq_false hpe]
          refine loopKT_next (i + 1) ⟨by omega, hn'⟩ (by omega) ?_
          (try dsimp only [pkT]); exact (le_of [0] (by simp (maxSteps := 8000000) (implicitDefEqProofs := false) (disch := omega) only [↓reduceIte, go_sem, if_pos, if_neg]) (by simp (maxSteps := 8000000) (implicitDefEqProofs := false) (disch := omega) only [↓reduceIte, go_sem, if_pos, if_neg]) (by decide) (by simp))
  · rw [find_none (fun j y hj => hn j y (by omega))]
    dsimp only [idxV]
    simp (maxSteps := 8000000) (implicitDefEqProofs := false) (disch := omega) only [↓reduceIte, go_sem, if_pos, if_neg, eq_false hge]
    refine joinK_here ?_
    simp (maxSteps := 8000000) (implicitDefEqProofs := false) (disch := omega) only [↓reduceIte, go_sem, if_pos, if_neg]
    repeat' first
      | (refine gdKT_dec (fun hg => ?_) (fun hg => ?_) <;> (try (first | simp (maxSteps := 8000000) (implicitDefEqProofs := false) (disch := omega) only [↓reduceIte, go_sem, if_pos, if_neg, eq_false hg] | simp (maxSteps := 8000000) (implicitDefEqProofs := false) (disch := omega) only [↓reduceIte, go_sem, if_pos, if_neg, eq_true hg])))
      | (refine condKT_dec (fun hg => ?_) (fun hg => ?_) <;> (try (first | simp (maxSteps := 8000000) (implicitDefEqProofs := false) (disch := omega) only [↓reduceIte, go_sem, if_pos, if_neg, eq_false hg] | simp (maxSteps := 8000000) (implicitDefEqProofs := false) (disch := omega) only [↓reduceIte, go_sem, if_pos, if_neg, eq_true hg])))
      | (refine gdKT_split (fun hg => ?_) (fun hg => ?_) <;> (try simp (maxSteps := 8000000) (implicitDefEqProofs := false) (disch := omega) only [↓reduceIte, go_sem, if_pos, if_neg, hg]))
      | (refine condKT_split (fun hg => ?_) (fun hg => ?_) <;> (try simp (maxSteps := 8000000) (implicitDefEqProofs := false) (disch := omega) only [↓reduceIte, go_sem, if_pos, if_neg, hg]))
      | (refine endT_p (.inr rfl) (by simp (maxSteps := 8000000) (implicitDefEqProofs := false) (disch := omega) only [↓reduceIte, go_sem, if_pos, if_neg]; rfl) ?_; (first | exact vb_true (by omega) | exact vb_false (by omega) | exact vb_dec (by omega) | exact vi_eq (by omega) | rfl | (refine vi_eq ?_; simp_all; done) | (refine vi_eq ?_; simp_all; omega) | (refine vi_eq ?_; simp_all; intros; omega)))
      | exact endT_v (.inr rfl) (by simp (maxSteps := 8000000) (implicitDefEqProofs := false) (disch := omega) only [↓reduceIte, go_sem, if_pos, if_neg]; try rfl) (fun _ => rfl)
def capQ (b : Int × PkR) : List TV := [.fe (.p (.int .i64 b.1)) 0, .fe (pkT b.2) 0]
theorem capQ_inj : ∀ x y, capQ x = capQ y → x = y := by rintro ⟨a, b⟩ ⟨a', b'⟩ h; simp [capQ] at h; simp [h.1, pkT_inj _ _ h.2]
theorem capQ_frz (h : THeap) (n : Nat) (x : Int × PkR) : (capQ x).map (frzT h n) = capQ x := by simp only [capQ, List.map_cons, List.map_nil, frz_fe]
-- impl.SaForPacket$1
def c141 : AF := ⟨20,
  (.seq (.reg [⟨(some 3), none, .box 32 (.t 0)⟩,
   ⟨(some 4), none, .mv (.v (.bool false))⟩])
  (.seq (.reg [⟨(some 5), none, .fa (.t 3) 3⟩,
   ⟨(some 6), none, .ld (.t 5)⟩,
   ⟨(some 7), none, .un .not (.t 6)⟩,
   ⟨(some 8), none, .mv (.t 7)⟩,
   ⟨(some 9), (some (8, true)), .fa (.t 3) 1⟩,
   ⟨(some 10), (some (8, true)), .ld (.t 9)⟩,
   ⟨(some 11), (some (8, true)), .ld (.t 1)⟩,
   ⟨(some 12), (some (8, true)), .bin .eql (.t 10) (.t 11)⟩,
   ⟨(some 13), none, .pick (.t 8) (.t 12) (.v (.bool false))⟩,
   ⟨(some 14), none, .mv (.t 13)⟩,
   ⟨(some 15), (some (14, true)), .fa (.t 3) 10⟩,
   ⟨(some 16), (some (14, true)), .ld (.t 15)⟩,
   ⟨(some 17), (some (14, true)), .ldn 7 (.t 2)⟩,
   ⟨(some 18), (some (14, true)), .call 142 [(.t 16), (.t 17)]⟩,
   ⟨(some 19), none, .pick (.t 14) (.t 18) (.v (.bool false))⟩,
   ⟨(some 4), none, .mv (.t 19)⟩])
  .ret)),
  [.t 4]⟩
theorem k141 : cFn Try.prog Try.f141 = some c141 := by kernel_rfl
theorem forQ_ok : OkT Try.prog 141 (pureSp (asksQ_Sa capQ forI forP)) := by
  refine okT_fn (OkΓT.cons HoldsAny_ok (OkΓT.nil _)) Try.func141 (by kernel_rfl) k141 (fun x _ => ⟨rfl, rfl⟩) ?_
  rintro ⟨x, n, p⟩ ⟨q1, q2⟩
  dsimp only at *
  have e3 := any_at x.sels p (saF_sels q1) q2
  dsimp only [saT, capQ, pkT, forI] at *
  cases hin : x.inn with
  | true =>
    (dsimp only [c141]; simp (maxSteps := 8000000) (implicitDefEqProofs := false) (disch := omega) only [↓reduceIte, go_sem, if_pos, if_neg, hin, Bool.not_true, Bool.false_and])
    repeat' first
      | (refine gdKT_dec (fun hg => ?_) (fun hg => ?_) <;> (try (first | simp (maxSteps := 8000000) (implicitDefEqProofs := false) (disch := omega) only [↓reduceIte, go_sem, if_pos, if_neg, eq_false hg, hin, Bool.not_true, Bool.false_and] | simp (maxSteps := 8000000) (implicitDefEqProofs := false) (disch := omega) only [↓reduceIte, go_sem, if_pos, if_neg, eq_true hg, hin, Bool.not_true, Bool.false_and])))
      | (refine condKT_dec (fun hg => ?_) (fun hg => ?_) <;> (try (first | simp (maxSteps := 8000000) (implicitDefEqProofs := false) (disch := omega) only [↓reduceIte, go_sem, if_pos, if_neg, eq_false hg, hin, Bool.not_true, Bool.false_and] | simp (maxSteps := 8000000) (implicitDefEqProofs := false) (disch := omega) only [↓reduceIte, go_sem, if_pos, if_neg, eq_true hg, hin, Bool.not_true, Bool.false_and])))
      | (refine gdKT_split (fun hg => ?_) (fun hg => ?_) <;> (try simp (maxSteps := 8000000) (implicitDefEqProofs := false) (disch := omega) only [↓reduceIte, go_sem, if_pos, if_neg, hg, hin, Bool.not_true, Bool.false_and]))
      | (refine condKT_split (fun hg => ?_) (fun hg => ?_) <;> (try simp (maxSteps := 8000000) (implicitDefEqProofs := false) (disch := omega) only [↓reduceIte, go_sem, if_pos, if_neg, hg, hin, Bool.not_true, Bool.false_and]))
      | (refine endT_p (.inr rfl) (by simp (maxSteps := 8000000) (implicitDefEqProofs := false) (disch := omega) only [↓reduceIte, go_sem, if_pos, if_neg, hin, Bool.not_true, Bool.false_and]; rfl) ?_; (first | exact vb_true (by omega) | exact vb_false (by omega) | exact vb_dec (by omega) | exact vi_eq (by omega) | rfl | (refine vi_eq ?_; simp_all; done) | (refine vi_eq ?_; simp_all; omega) | (refine vi_eq ?_; simp_all; intros; omega)))
      | exact endT_v (.inr rfl) (by simp (maxSteps := 8000000) (implicitDefEqProofs := false) (disch := omega) only [↓reduceIte, go_sem, if_pos, if_neg, hin, Bool.not_true, Bool.false_and]; try rfl) (fun _ => rfl)
  | false =>
    by_cases hpe : x.peer = n
    · have hd : decide (x.peer = n) = true := decide_eq_true hpe
      simp only [hd, Bool.true_and, Bool.not_false]
      (dsimp only [c141]; simp (maxSteps := 8000000) (implicitDefEqProofs := false) (disch := omega) only [↓reduceIte, go_sem, if_pos, if_neg, hin, eq_true hpe, e3])
      exact endT_v (.inr rfl) (by (simp (maxSteps := 8000000) (implicitDefEqProofs := false) (disch := omega) only [↓reduceIte, go_sem, if_pos, if_neg]) <;> rfl) (fun _ => rfl)
    ·
      (dsimp only [c141]; simp (maxSteps := 8000000) (implicitDefEqProofs := false) (disch := omega) only [↓reduceIte, go_sem, if_pos, if_neg, hin, eq_false hpe, Bool.not_false, Bool.true_and, Bool.false_and, decide_false])
      repeat' first
        | (refine gdKT_dec (fun hg => ?_) (fun hg => ?_) <;> (try (first | simp (maxSteps := 8000000) (implicitDefEqProofs := false) (disch := omega) only [↓reduceIte, go_sem, if_pos, if_neg, eq_false hg, hin, eq_false hpe, Bool.not_false, Bool.true_and, Bool.false_and, decide_false] | simp (maxSteps := 8000000) (implicitDefEqProofs := false) (disch := omega) only [↓reduceIte, go_sem, if_pos, if_neg, eq_true hg, hin, eq_false hpe, Bool.not_false, Bool.true_and, Bool.false_and, decide_false])))
        | (refine condKT_dec (fun hg => ?_) (fun hg => ?_) <;> (try (first | simp (maxSteps := 8000000) (implicitDefEqProofs := false) (disch := omega) only [↓reduceIte, go_sem, if_pos, if_neg, eq_false hg, hin, eq_false hpe, Bool.not_false, Bool.true_and, Bool.false_and, decide_false] | simp (maxSteps := 8000000) (implicitDefEqProofs := false) (disch := omega) only [↓reduceIte, go_sem, if_pos, if_neg, eq_true hg, hin, eq_false hpe, Bool.not_false, Bool.true_and, Bool.false_and, decide_false])))
        | (refine gdKT_split (fun hg => ?_) (fun hg => ?_) <;> (try simp (maxSteps := 8000000) (implicitDefEqProofs := false) (disch := omega) only [↓reduceIte, go_sem, if_pos, if_neg, hg, hin, eq_false hpe, Bool.not_false, Bool.true_and, Bool.false_and, decide_false]))
        | (refine condKT_split (fun hg => ?_) (fun hg => ?_) <;> (try simp (maxSteps := 8000000) (implicitDefEqProofs := false) (disch := omega) only [↓reduceIte, go_sem, if_pos, if_neg, hg, hin, eq_false hpe, Bool.not_false, Bool.true_and, Bool.false_and, decide_false]))
        | (refine endT_p (.inr rfl) (by simp (maxSteps := 8000000) (implicitDefEqProofs := false) (disch := omega) only [↓reduceIte, go_sem, if_pos, if_neg, hin, eq_false hpe, Bool.not_false, Bool.true_and, Bool.false_and, decide_false]; rfl) ?_; (first | exact vb_true (by omega) | exact vb_false (by omega) | exact vb_dec (by omega) | exact vi_eq (by omega) | rfl | (refine vi_eq ?_; simp_all; done) | (refine vi_eq ?_; simp_all; omega) | (refine vi_eq ?_; simp_all; intros; omega)))
        | exact endT_v (.inr rfl) (by simp (maxSteps := 8000000) (implicitDefEqProofs := false) (disch := omega) only [↓reduceIte, go_sem, if_pos, if_neg, hin, eq_false hpe, Bool.not_false, Bool.true_and, Bool.false_and, decide_false]; try rfl) (fun _ => rfl)
def foundW (l : List SaR) : Option Nat → List Cell
  | none => badSaC 4
  | some i => match l[i]? with
    | some x => okSaC i x
    | none => badSaC 4
theorem foundW_some {l : List SaR} {i : Nat} {x : SaR} (h : l[i]? = some x) : foundW l (some i) = okSaC i x := by simp only [foundW, h]
theorem okSa_ans (i : Nat) (x : SaR) : ansR (okSaC i x) = (.agg [.p (.int .i64 0), .p (.int .i64 (i : Nat)), .p (.int .i64 x.spi), .p (.int .i64 x.peer), .p (.int .i64 x.key), .p (.bool x.inn), .p (.int .i64 x.sent), .p (.int .i64 x.top), .p (.int .i64 x.bits), .p (.int .i64 x.byt), .p (.int .i64 x.hard), .p (.int .i64 x.til), .os 0 0 x.sels.length], [selB x.sels]) := by
  simp only [ansR, okSaC, saC, tvCs, tvC_v, slsC_tv, nbC, bkCs, bkC, slsC_bk, List.nil_append, List.append_nil, Nat.add_zero]
theorem badSa_ans (f : Int) : ansR (badSaC f) = (.agg [.p (.int .i64 f), .p (.int .i64 0), .p (.int .i64 0), .p (.int .i64 0), .p (.int .i64 0), .p (.bool false), .p (.int .i64 0), .p (.int .i64 0), .p (.int .i64 0), .p (.int .i64 0), .p (.int .i64 0), .p (.int .i64 0), .nl], []) := rfl
noncomputable def foundQ_S {β : Type} (f : Nat) (cap : β → List TV) (p : β → SaR → Bool) (Pre : SaR → β → Prop) := specP (fun x : List SaR × β => [.s (rowsT saT x.1), .fn f (cap x.2)]) (fun x => goodL x.1 ∧ ∀ y ∈ x.1, Pre y x.2) (fun x => ansR (foundW x.1 (x.1.findIdx? (p x.2))))
theorem foundQ_at {β : Type} {f : Nat} {cap : β → List TV} {p : β → SaR → Bool} {Pre : SaR → β → Prop} (hcap : ∀ x y, cap x = cap y → x = y) (l : List SaR) (b : β) (h : goodL l) (hp : ∀ y ∈ l, Pre y b) : foundQ_S f cap p Pre [.s (rowsT saT l), .fn f (cap b)] = some (ansR (foundW l (l.findIdx? (p b)))) :=
  specP_at (fn_inj hcap) (l, b) ⟨h, hp⟩
theorem foundQ_ok {β : Type} {f : Nat} {cap : β → List TV} {p : β → SaR → Bool} {Pre : SaR → β → Prop} (hcap : ∀ x y, cap x = cap y → x = y) (hfr : ∀ h n x, frzT h n (.fn f (cap x)) = .fn f (cap x)) (ok : OkT Try.prog 166 (pureSp (findQ_Sa f cap p Pre))) : OkT Try.prog 112 (pureSp (foundQ_S f cap p Pre)) := by
  refine okT_fn (OkΓT.cons ok (OkΓT.cons cloneSa_ok (OkΓT.nil _))) Try.func112 (by kernel_rfl) k112 (fun x _ => ansR_own _) ?_
  rintro ⟨l, b⟩ ⟨⟨h1, h2⟩, h3⟩
  dsimp only at *
  have hf := findQ_Sa_at (f := f) (p := p) hcap l b (by omega) h3
  cases ho : l.findIdx? (p b) with
  | none =>
    rw [ho] at hf; simp only [idxV] at hf
    dsimp only [foundW]
    rw [badSa_ans]
    (dsimp only [c112]; simp (maxSteps := 8000000) (implicitDefEqProofs := false) (disch := omega) only [↓reduceIte, go_sem, if_pos, if_neg, ↓hfr, hf])
    exact endT_of [] (.inr rfl) (by simp (maxSteps := 8000000) (implicitDefEqProofs := false) (disch := omega) only [↓reduceIte, go_sem, if_pos, if_neg]; rfl) (by simp (maxSteps := 8000000) (implicitDefEqProofs := false) (disch := omega) only [↓reduceIte, go_sem, if_pos, if_neg]) (by simp (maxSteps := 8000000) (implicitDefEqProofs := false) (disch := omega) only [↓reduceIte, go_sem, if_pos, if_neg]) (by decide) (by simp)
  | some i =>
    obtain ⟨hi, _, _⟩ := List.findIdx?_eq_some_iff_getElem.1 ho
    obtain ⟨x, hx⟩ := get_ex hi
    have hxs := h2 x (List.mem_of_getElem? hx)
    rw [ho] at hf; simp only [idxV] at hf
    rw [foundW_some hx, okSa_ans]
    (dsimp only [c112]; simp (maxSteps := 8000000) (implicitDefEqProofs := false) (disch := omega) only [↓reduceIte, go_sem, if_pos, if_neg, ↓hfr, hf, hx, saT, copy_at])
    exact endT_of [1] (.inr rfl) (by simp (maxSteps := 8000000) (implicitDefEqProofs := false) (disch := omega) only [↓reduceIte, go_sem, if_pos, if_neg]; rfl) (by simp (maxSteps := 8000000) (implicitDefEqProofs := false) (disch := omega) only [↓reduceIte, go_sem, if_pos, if_neg]) (by simp (maxSteps := 8000000) (implicitDefEqProofs := false) (disch := omega) only [↓reduceIte, go_sem, if_pos, if_neg]) (by decide) (by simp)
theorem found_for : OkT Try.prog 112 (pureSp (foundQ_S 141 capQ forI forP)) := foundQ_ok capQ_inj (fun h n x => by simp only [frz_fn, capQ_frz]) (findQ_Sa_ok capQ_inj capQ_frz forQ_ok)
def sfpR (l : List SaR) (n : Int) (p : PkR) : List Cell := if sasF l = 0 then (if pkF p = 0 then (if 1 ≤ n ∧ n ≤ 9 then foundW l (l.findIdx? (forI (n, p))) else badSaC 3) else badSaC (pkF p)) else badSaC (sasF l)
noncomputable def sfp_S := specP (fun x : List SaR × Int × PkR => [.s (rowsT saT x.1), .p (.int .i64 x.2.1), pkT x.2.2]) (fun x => smallL x.1) (fun x => ansR (sfpR x.1 x.2.1 x.2.2))
-- spec.SaForPacket
def c71 : AF := ⟨40,
  (.seq (.reg [⟨(some 5), none, .box 68 (.t 2)⟩,
   ⟨(some 6), none, .alloc 56 [(.int .i64 0), (.int .i64 0), (.int .i64 0), (.int .i64 0), (.int .i64 0), (.bool false), (.int .i64 0), (.int .i64 0), (.int .i64 0), (.int .i64 0), (.int .i64 0), (.int .i64 0), (.slice none 0 0)]⟩])
  (.seq (.seq (.reg [⟨(some 10), none, .mv (.t 0)⟩,
   ⟨(some 11), none, .call 21 [(.t 10)]⟩,
   ⟨(some 7), none, .mv (.t 11)⟩])
  (.seq (.reg [⟨(some 12), none, .mv (.t 7)⟩,
   ⟨(some 13), none, .bin .neq (.t 12) (.v (.int .i64 0))⟩])
  (.cond (.t 13) (.seq (.reg [⟨(some 14), none, .mv (.t 7)⟩,
   ⟨(some 15), none, .build [(.int .i64 0), (.int .i64 0), (.int .i64 0), (.int .i64 0), (.int .i64 0), (.bool false), (.int .i64 0), (.int .i64 0), (.int .i64 0), (.int .i64 0), (.int .i64 0), (.int .i64 0), (.slice none 0 0)] [(0, 1, (.t 14))]⟩,
   ⟨none, none, .st 13 (.t 6) (.t 15)⟩])
  .ret)
  .skip)))
  (.seq (.seq (.reg [⟨(some 16), none, .ldn 7 (.t 5)⟩,
   ⟨(some 17), none, .call 138 [(.t 16)]⟩,
   ⟨(some 8), none, .mv (.t 17)⟩])
  (.seq (.reg [⟨(some 18), none, .mv (.t 8)⟩,
   ⟨(some 19), none, .bin .neq (.t 18) (.v (.int .i64 0))⟩])
  (.cond (.t 19) (.seq (.reg [⟨(some 20), none, .mv (.t 8)⟩,
   ⟨(some 21), none, .build [(.int .i64 0), (.int .i64 0), (.int .i64 0), (.int .i64 0), (.int .i64 0), (.bool false), (.int .i64 0), (.int .i64 0), (.int .i64 0), (.int .i64 0), (.int .i64 0), (.int .i64 0), (.slice none 0 0)] [(0, 1, (.t 20))]⟩,
   ⟨none, none, .st 13 (.t 6) (.t 21)⟩])
  .ret)
  .skip)))
  (.seq (.seq (.reg [⟨(some 22), none, .mv (.t 1)⟩,
   ⟨(some 23), none, .call 74 [(.t 22), (.v (.int .i64 1)), (.v (.int .i64 9))]⟩,
   ⟨(some 24), none, .un .not (.t 23)⟩])
  (.cond (.t 24) (.seq (.reg [⟨(some 25), none, .build [(.int .i64 0), (.int .i64 0), (.int .i64 0), (.int .i64 0), (.int .i64 0), (.bool false), (.int .i64 0), (.int .i64 0), (.int .i64 0), (.int .i64 0), (.int .i64 0), (.int .i64 0), (.slice none 0 0)] [(0, 1, (.v (.int .i64 3)))]⟩,
   ⟨none, none, .st 13 (.t 6) (.t 25)⟩])
  .ret)
  .skip))
  (.seq (.reg [⟨(some 26), none, .mv (.t 0)⟩,
   ⟨(some 27), none, .mv (.t 1)⟩,
   ⟨(some 28), none, .ldn 7 (.t 5)⟩,
   ⟨(some 29), none, .call 139 [(.t 26), (.t 27), (.t 28)]⟩,
   ⟨(some 9), none, .mv (.t 29)⟩])
  (.seq (.seq (.reg [⟨(some 30), none, .mv (.t 9)⟩,
   ⟨(some 31), none, .bin .lss (.t 30) (.v (.int .i64 0))⟩])
  (.cond (.t 31) (.seq (.reg [⟨(some 32), none, .build [(.int .i64 0), (.int .i64 0), (.int .i64 0), (.int .i64 0), (.int .i64 0), (.bool false), (.int .i64 0), (.int .i64 0), (.int .i64 0), (.int .i64 0), (.int .i64 0), (.int .i64 0), (.slice none 0 0)] [(0, 1, (.v (.int .i64 4)))]⟩,
   ⟨none, none, .st 13 (.t 6) (.t 32)⟩])
  .ret)
  .skip))
  (.seq (.reg [⟨(some 33), none, .mv (.t 9)⟩,
   ⟨(some 34), none, .mv (.t 0)⟩,
   ⟨(some 35), none, .mv (.t 9)⟩,
   ⟨(some 36), none, .ia 11 (.t 34) (.t 35)⟩,
   ⟨(some 37), none, .ldn 11 (.t 36)⟩,
   ⟨(some 38), none, .call 111 [(.t 37)]⟩,
   ⟨(some 39), none, .build [(.int .i64 0), (.int .i64 0), (.int .i64 0), (.int .i64 0), (.int .i64 0), (.bool false), (.int .i64 0), (.int .i64 0), (.int .i64 0), (.int .i64 0), (.int .i64 0), (.int .i64 0), (.slice none 0 0)] [(1, 1, (.t 33)), (2, 11, (.t 38))]⟩,
   ⟨none, none, .st 13 (.t 6) (.t 39)⟩])
  .ret))))))),
  [.cell 6 (some 13)]⟩
theorem k71 : cFn Try.prog Try.f71 = some c71 := by kernel_rfl
theorem sfpS_ok : OkT Try.prog 71 (pureSp sfp_S) := by
  refine okT_fn (OkΓT.cons sasFS_ok (OkΓT.cons pkFS_ok (OkΓT.cons l1In_ok (OkΓT.cons l16For_ok (OkΓT.cons l16Copy_ok (OkΓT.nil _)))))) Try.func71 (by kernel_rfl) k71 (fun x _ => ansR_own _) ?_
  rintro ⟨l, n, p⟩ ⟨h1, h2⟩
  dsimp only at *
  have hf := sasF_at l ⟨by omega, fun y hy => by have := h2 y hy; omega⟩
  have hk := pkF_at p
  by_cases hz : sasF l = 0
  case neg =>
    rw [sfpR, if_neg hz, badSa_ans]
    dsimp only [pkT]
    (dsimp only [c71]; simp (maxSteps := 8000000) (implicitDefEqProofs := false) (disch := omega) only [↓reduceIte, go_sem, if_pos, if_neg, hf, eq_false hz])
    exact endT_of [] (.inr rfl) (by simp (maxSteps := 8000000) (implicitDefEqProofs := false) (disch := omega) only [↓reduceIte, go_sem, if_pos, if_neg]; rfl) (by simp (maxSteps := 8000000) (implicitDefEqProofs := false) (disch := omega) only [↓reduceIte, go_sem, if_pos, if_neg]) (by simp (maxSteps := 8000000) (implicitDefEqProofs := false) (disch := omega) only [↓reduceIte, go_sem, if_pos, if_neg]) (by decide) (by simp)
  rw [sfpR, if_pos hz]
  by_cases hp : pkF p = 0
  case neg =>
    rw [if_neg hp, badSa_ans]
    dsimp only [pkT] at *
    (dsimp only [c71]; simp (maxSteps := 8000000) (implicitDefEqProofs := false) (disch := omega) only [↓reduceIte, go_sem, if_pos, if_neg, hf, hz, hk, eq_false hp])
    exact endT_of [] (.inr rfl) (by simp (maxSteps := 8000000) (implicitDefEqProofs := false) (disch := omega) only [↓reduceIte, go_sem, if_pos, if_neg]; rfl) (by simp (maxSteps := 8000000) (implicitDefEqProofs := false) (disch := omega) only [↓reduceIte, go_sem, if_pos, if_neg]) (by simp (maxSteps := 8000000) (implicitDefEqProofs := false) (disch := omega) only [↓reduceIte, go_sem, if_pos, if_neg]) (by decide) (by simp)
  rw [if_pos hp]
  by_cases ht : 1 ≤ n ∧ n ≤ 9
  case neg =>
    rw [if_neg ht, badSa_ans]
    dsimp only [pkT] at *
    (dsimp only [c71]; simp (maxSteps := 8000000) (implicitDefEqProofs := false) (disch := omega) only [↓reduceIte, go_sem, if_pos, if_neg, hf, hz, hk, hp, in_at, eq_false ht])
    exact endT_of [] (.inr rfl) (by simp (maxSteps := 8000000) (implicitDefEqProofs := false) (disch := omega) only [↓reduceIte, go_sem, if_pos, if_neg]; rfl) (by simp (maxSteps := 8000000) (implicitDefEqProofs := false) (disch := omega) only [↓reduceIte, go_sem, if_pos, if_neg]) (by simp (maxSteps := 8000000) (implicitDefEqProofs := false) (disch := omega) only [↓reduceIte, go_sem, if_pos, if_neg]) (by decide) (by simp)
  rw [if_pos ht]
  obtain ⟨g1, g2, _⟩ := sasF_zero hz
  have hi := for_at l n p g1 (fun y hy => ⟨g2 y hy, hp⟩)
  dsimp only [pkT] at *
  cases ho : l.findIdx? (forI (n, p)) with
  | none =>
    rw [ho] at hi; simp only [idxV] at hi
    dsimp only [foundW]
    rw [badSa_ans]
    (dsimp only [c71]; simp (maxSteps := 8000000) (implicitDefEqProofs := false) (disch := omega) only [↓reduceIte, go_sem, if_pos, if_neg, hf, hz, hk, hp, in_at, eq_true ht, hi])
    exact endT_of [] (.inr rfl) (by simp (maxSteps := 8000000) (implicitDefEqProofs := false) (disch := omega) only [↓reduceIte, go_sem, if_pos, if_neg]; rfl) (by simp (maxSteps := 8000000) (implicitDefEqProofs := false) (disch := omega) only [↓reduceIte, go_sem, if_pos, if_neg]) (by simp (maxSteps := 8000000) (implicitDefEqProofs := false) (disch := omega) only [↓reduceIte, go_sem, if_pos, if_neg]) (by decide) (by simp)
  | some i =>
    obtain ⟨hil, _, _⟩ := List.findIdx?_eq_some_iff_getElem.1 ho
    obtain ⟨x, hx⟩ := get_ex hil
    have hxs := (goodL_of hz).2 x (List.mem_of_getElem? hx)
    rw [ho] at hi; simp only [idxV] at hi
    rw [foundW_some hx, okSa_ans]
    (dsimp only [c71]; simp (maxSteps := 8000000) (implicitDefEqProofs := false) (disch := omega) only [↓reduceIte, go_sem, if_pos, if_neg, hf, hz, hk, hp, in_at, eq_true ht, hi, hx, saT, copy_at])
    exact endT_of [2] (.inr rfl) (by simp (maxSteps := 8000000) (implicitDefEqProofs := false) (disch := omega) only [↓reduceIte, go_sem, if_pos, if_neg]; rfl) (by simp (maxSteps := 8000000) (implicitDefEqProofs := false) (disch := omega) only [↓reduceIte, go_sem, if_pos, if_neg]) (by simp (maxSteps := 8000000) (implicitDefEqProofs := false) (disch := omega) only [↓reduceIte, go_sem, if_pos, if_neg]) (by decide) (by simp)
-- impl.SaForPacket
def c72 : AF := ⟨25,
  (.seq (.reg [⟨(some 4), none, .box 2 (.t 1)⟩,
   ⟨(some 5), none, .box 68 (.t 2)⟩,
   ⟨(some 6), none, .alloc 56 [(.int .i64 0), (.int .i64 0), (.int .i64 0), (.int .i64 0), (.int .i64 0), (.bool false), (.int .i64 0), (.int .i64 0), (.int .i64 0), (.int .i64 0), (.int .i64 0), (.int .i64 0), (.slice none 0 0)]⟩])
  (.seq (.seq (.drw [⟨(some 8), none, .mv (.t 0)⟩,
   ⟨(some 9), none, .call 23 [(.t 8)]⟩,
   ⟨(some 10), none, .ldn 7 (.t 5)⟩] [⟨(some 11), none, .call 102 [(.t 10)]⟩,
   ⟨(some 12), none, .mkS 2 2 [(.int .i64 0), (.int .i64 0)] [(0, 1, (.t 9)), (1, 1, (.t 11))]⟩,
   ⟨(some 13), none, .call 140 [(.t 12)]⟩,
   ⟨(some 7), none, .mv (.t 13)⟩])
  (.seq (.reg [⟨(some 14), none, .mv (.t 7)⟩,
   ⟨(some 15), none, .bin .neq (.t 14) (.v (.int .i64 0))⟩])
  (.cond (.t 15) (.seq (.reg [⟨(some 16), none, .mv (.t 7)⟩,
   ⟨(some 17), none, .build [(.int .i64 0), (.int .i64 0), (.int .i64 0), (.int .i64 0), (.int .i64 0), (.bool false), (.int .i64 0), (.int .i64 0), (.int .i64 0), (.int .i64 0), (.int .i64 0), (.int .i64 0), (.slice none 0 0)] [(0, 1, (.t 16))]⟩,
   ⟨none, none, .st 13 (.t 6) (.t 17)⟩])
  .ret)
  .skip)))
  (.seq (.seq (.reg [⟨(some 18), none, .ld (.t 4)⟩,
   ⟨(some 19), none, .call 80 [(.t 18)]⟩,
   ⟨(some 20), none, .un .not (.t 19)⟩])
  (.cond (.t 20) (.seq (.reg [⟨(some 21), none, .build [(.int .i64 0), (.int .i64 0), (.int .i64 0), (.int .i64 0), (.int .i64 0), (.bool false), (.int .i64 0), (.int .i64 0), (.int .i64 0), (.int .i64 0), (.int .i64 0), (.int .i64 0), (.slice none 0 0)] [(0, 1, (.v (.int .i64 3)))]⟩,
   ⟨none, none, .st 13 (.t 6) (.t 21)⟩])
  .ret)
  .skip))
  (.seq (.reg [⟨(some 22), none, .mv (.t 0)⟩,
   ⟨(some 23), none, .fn 141 [(.t 4), (.t 5)]⟩,
   ⟨(some 24), none, .call 112 [(.t 22), (.t 23)]⟩,
   ⟨none, none, .st 13 (.t 6) (.t 24)⟩])
  .ret)))),
  [.cell 6 (some 13)]⟩
theorem k72 : cFn Try.prog Try.f72 = some c72 := by kernel_rfl
theorem sfpI_ok : OkT Try.prog 72 (pureSp sfp_S) := by
  refine okT_fn (OkΓT.cons sasFI_ok (OkΓT.cons pkFI_ok (OkΓT.cons faultOf_ok (OkΓT.cons isPeer_ok (OkΓT.cons found_for (OkΓT.nil _)))))) Try.func72 (by kernel_rfl) k72 (fun x _ => ansR_own _) ?_
  rintro ⟨l, n, p⟩ ⟨h1, h2⟩
  dsimp only at *
  have hf := sasF_at l ⟨by omega, fun y hy => by have := h2 y hy; omega⟩
  have hk := pkF_at p
  by_cases hz : sasF l = 0
  case neg =>
    rw [sfpR, if_neg hz, badSa_ans]
    dsimp only [pkT] at *
    (dsimp only [c72]; simp (maxSteps := 8000000) (implicitDefEqProofs := false) (disch := omega) only [↓reduceIte, go_sem, if_pos, if_neg, hf, hk, fault_at2, eq_false hz])
    exact endT_of [] (.inr rfl) (by simp (maxSteps := 8000000) (implicitDefEqProofs := false) (disch := omega) only [↓reduceIte, go_sem, if_pos, if_neg]; rfl) (by simp (maxSteps := 8000000) (implicitDefEqProofs := false) (disch := omega) only [↓reduceIte, go_sem, if_pos, if_neg]) (by simp (maxSteps := 8000000) (implicitDefEqProofs := false) (disch := omega) only [↓reduceIte, go_sem, if_pos, if_neg]) (by decide) (by simp)
  rw [sfpR, if_pos hz]
  by_cases hp : pkF p = 0
  case neg =>
    rw [if_neg hp, badSa_ans]
    dsimp only [pkT] at *
    (dsimp only [c72]; simp (maxSteps := 8000000) (implicitDefEqProofs := false) (disch := omega) only [↓reduceIte, go_sem, if_pos, if_neg, hf, hz, hk, fault_at2, eq_false hp])
    exact endT_of [] (.inr rfl) (by simp (maxSteps := 8000000) (implicitDefEqProofs := false) (disch := omega) only [↓reduceIte, go_sem, if_pos, if_neg]; rfl) (by simp (maxSteps := 8000000) (implicitDefEqProofs := false) (disch := omega) only [↓reduceIte, go_sem, if_pos, if_neg]) (by simp (maxSteps := 8000000) (implicitDefEqProofs := false) (disch := omega) only [↓reduceIte, go_sem, if_pos, if_neg]) (by decide) (by simp)
  rw [if_pos hp]
  by_cases ht : 1 ≤ n ∧ n ≤ 9
  case neg =>
    rw [if_neg ht, badSa_ans]
    dsimp only [pkT] at *
    (dsimp only [c72]; simp (maxSteps := 8000000) (implicitDefEqProofs := false) (disch := omega) only [↓reduceIte, go_sem, if_pos, if_neg, hf, hz, hk, hp, fault_at2, peer_at, eq_false ht])
    exact endT_of [] (.inr rfl) (by simp (maxSteps := 8000000) (implicitDefEqProofs := false) (disch := omega) only [↓reduceIte, go_sem, if_pos, if_neg]; rfl) (by simp (maxSteps := 8000000) (implicitDefEqProofs := false) (disch := omega) only [↓reduceIte, go_sem, if_pos, if_neg]) (by simp (maxSteps := 8000000) (implicitDefEqProofs := false) (disch := omega) only [↓reduceIte, go_sem, if_pos, if_neg]) (by decide) (by simp)
  rw [if_pos ht]
  obtain ⟨g1, g2, _⟩ := sasF_zero hz
  have hi : foundQ_S 141 capQ forI forP [.s (rowsT saT l), .fn 141 [.fe (.p (.int .i64 n)) 0, .fe (pkT p) 0]] = _ := foundQ_at (f := 141) (p := forI) (Pre := forP) capQ_inj l (n, p) (goodL_of hz) (fun y hy => ⟨g2 y hy, hp⟩)
  cases ho : l.findIdx? (forI (n, p)) with
  | none =>
    rw [ho] at hi
    dsimp only [foundW] at hi ⊢
    rw [badSa_ans] at hi ⊢
    dsimp only [pkT] at *
    (dsimp only [c72]; simp (maxSteps := 8000000) (implicitDefEqProofs := false) (disch := omega) only [↓reduceIte, go_sem, if_pos, if_neg, hf, hz, hk, hp, fault_at2, peer_at, eq_true ht, hi])
    exact endT_of [] (.inr rfl) (by simp (maxSteps := 8000000) (implicitDefEqProofs := false) (disch := omega) only [↓reduceIte, go_sem, if_pos, if_neg]; rfl) (by simp (maxSteps := 8000000) (implicitDefEqProofs := false) (disch := omega) only [↓reduceIte, go_sem, if_pos, if_neg]) (by simp (maxSteps := 8000000) (implicitDefEqProofs := false) (disch := omega) only [↓reduceIte, go_sem, if_pos, if_neg]) (by decide) (by simp)
  | some i =>
    obtain ⟨hil, _, _⟩ := List.findIdx?_eq_some_iff_getElem.1 ho
    obtain ⟨x, hx⟩ := get_ex hil
    rw [ho, foundW_some hx, okSa_ans] at hi
    rw [foundW_some hx, okSa_ans]
    dsimp only [pkT] at *
    (dsimp only [c72]; simp (maxSteps := 8000000) (implicitDefEqProofs := false) (disch := omega) only [↓reduceIte, go_sem, if_pos, if_neg, hf, hz, hk, hp, fault_at2, peer_at, eq_true ht, hi])
    exact endT_of [4] (.inr rfl) (by simp (maxSteps := 8000000) (implicitDefEqProofs := false) (disch := omega) only [↓reduceIte, go_sem, if_pos, if_neg]; rfl) (by simp (maxSteps := 8000000) (implicitDefEqProofs := false) (disch := omega) only [↓reduceIte, go_sem, if_pos, if_neg]) (by simp (maxSteps := 8000000) (implicitDefEqProofs := false) (disch := omega) only [↓reduceIte, go_sem, if_pos, if_neg]) (by decide) (by simp)
end Go.Proofs.Ytngebdcbcliobaa
