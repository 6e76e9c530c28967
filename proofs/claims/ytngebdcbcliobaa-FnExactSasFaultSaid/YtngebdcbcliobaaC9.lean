import Derived.Test.YtngebdcbcliobaaC8
set_option linter.unusedSimpArgs false
set_option linter.unusedVariables false
set_option maxRecDepth 100000
set_option maxHeartbeats 4000000
namespace Go.Proofs.Ytngebdcbcliobaa
open Go Go.AH
attribute [local irreducible] awpT ropsT qopsT stepT condKT gdKT EndT joinK loopKT seqKT blkKT kont kontR
theorem saF_atx (x : SaR) (h : x.sels.length ≤ 140737488355328) : saF_S [.agg [.p (.int .i64 x.spi), .p (.int .i64 x.peer), .p (.int .i64 x.key), .p (.bool x.inn), .p (.int .i64 x.sent), .p (.int .i64 x.top), .p (.int .i64 x.bits), .p (.int .i64 x.byt), .p (.int .i64 x.hard), .p (.int .i64 x.til), .s (rowsT slT x.sels)]] = some (.p (.int .i64 (saF x)), []) := saF_at x.spi x.peer x.key x.inn x.sent x.top x.bits x.byt x.hard x.til x.sels h
/-! How many -/
def totO : List SaR → Nat
  | [] => 0
  | x :: l => x.sels.length + totO l
theorem totO_snoc : ∀ (l : List SaR) (x : SaR), totO (l ++ [x]) = totO l + x.sels.length
  | [], x => by simp [totO]
  | y :: l, x => by simp only [List.cons_append, totO, totO_snoc l x]; omega
theorem totO_take {l : List SaR} {i : Nat} {x : SaR} (h : l[i]? = some x) : totO (l.take (i + 1)) = totO (l.take i) + x.sels.length := by
  have hlt := (List.getElem?_eq_some_iff.1 h).1
  have hx := (List.getElem?_eq_some_iff.1 h).2
  rw [List.take_succ_eq_append_getElem hlt, hx, totO_snoc]
theorem totO_le : ∀ (l : List SaR) (i : Nat), totO (l.take i) ≤ totO l
  | [], i => by simp
  | x :: l, 0 => by simp [totO]
  | x :: l, i + 1 => by have := totO_le l i; simp only [List.take_succ_cons, totO]; omega
theorem totO_mem : ∀ {l : List SaR} {x : SaR}, x ∈ l → x.sels.length ≤ totO l
  | y :: l, x, h => by
    rcases List.mem_cons.1 h with rfl | h
    · simp [totO]
    · have := totO_mem h; simp only [totO]; omega
noncomputable def szSaS_S := specP (fun x : List SaR × Int => [.s (rowsT saT x.1), .p (.int .i64 x.2)]) (fun x => 0 ≤ x.2 ∧ x.2 ≤ 1048576 ∧ x.1.length ≤ 140737488355328 ∧ ∀ y ∈ x.1, y.sels.length ≤ 140737488355328) (fun x => (.p (.int .i64 (if ((x.1.length + totO x.1 : Nat) : Int) ≤ x.2 then x.2 - x.1.length - totO x.1 else -1)), []))
theorem szSaS_at (l : List SaR) (n : Int) (h : 0 ≤ n ∧ n ≤ 1048576 ∧ l.length ≤ 140737488355328 ∧ ∀ y ∈ l, y.sels.length ≤ 140737488355328) : szSaS_S [.s (rowsT saT l), .p (.int .i64 n)] = some (.p (.int .i64 (if ((l.length + totO l : Nat) : Int) ≤ n then n - l.length - totO l else -1)), []) :=
  specP_at (enc := fun x : List SaR × Int => [.s (rowsT saT x.1), .p (.int .i64 x.2)]) (by rintro ⟨a, b⟩ ⟨a', b'⟩ h; simp at h; simp [sas_inj h.1, h.2]) (l, n) h
-- laws.szSaS
def c20 : AF := ⟨27,
  (.seq (.reg [⟨(some 4), none, .mv (.v (.int .i64 0))⟩])
  (.seq (.reg [⟨(some 6), none, .mv (.t 1)⟩,
   ⟨(some 7), none, .mv (.t 0)⟩,
   ⟨(some 8), none, .len (.t 7)⟩,
   ⟨(some 9), none, .bin .sub (.t 6) (.t 8)⟩,
   ⟨(some 1), none, .mv (.t 9)⟩])
  (.seq (.seq (.reg [⟨(some 10), none, .mv (.t 1)⟩,
   ⟨(some 11), none, .bin .lss (.t 10) (.v (.int .i64 0))⟩])
  (.cond (.t 11) (.seq (.reg [⟨(some 4), none, .mv (.v (.int .i64 (-1)))⟩])
  .ret)
  .skip))
  (.seq (.seq (.reg [⟨(some 5), none, .mv (.v (.int .i64 0))⟩])
  (.block 0 (.loop (.seq (.seq (.reg [⟨(some 12), none, .mv (.t 5)⟩,
   ⟨(some 13), none, .mv (.t 0)⟩,
   ⟨(some 14), none, .len (.t 13)⟩,
   ⟨(some 15), none, .bin .lss (.t 12) (.t 14)⟩])
  (.cond (.t 15) .skip
  (.exit 0)))
  (.seq (.block 1 (.seq (.reg [⟨(some 18), none, .mv (.t 0)⟩,
   ⟨(some 19), none, .mv (.t 5)⟩,
   ⟨(some 20), none, .ia 11 (.t 18) (.t 19)⟩,
   ⟨(some 21), none, .ldn 11 (.t 20)⟩,
   ⟨(some 22), none, .mv (.t 1)⟩,
   ⟨(some 23), none, .call 15 [(.t 21), (.t 22)]⟩,
   ⟨(some 1), none, .mv (.t 23)⟩])
  (.seq (.reg [⟨(some 24), none, .mv (.t 1)⟩,
   ⟨(some 25), none, .bin .lss (.t 24) (.v (.int .i64 0))⟩])
  (.cond (.t 25) (.seq (.reg [⟨(some 4), none, .mv (.v (.int .i64 (-1)))⟩])
  .ret)
  .skip))))
  (.reg [⟨(some 16), none, .mv (.t 5)⟩,
   ⟨(some 17), none, .bin .add (.t 16) (.v (.int .i64 1))⟩,
   ⟨(some 5), none, .mv (.t 17)⟩]))))))
  (.seq (.reg [⟨(some 26), none, .mv (.t 1)⟩,
   ⟨(some 4), none, .mv (.t 26)⟩])
  .ret))))),
  [.t 4]⟩
theorem k20 : cFn Try.prog Try.f20 = some c20 := by kernel_rfl
theorem szSaS_ok : OkT Try.prog 20 (pureSp szSaS_S) := by
  refine okT_fn (OkΓT.cons szSa_ok (OkΓT.nil _)) Try.func20 (by kernel_rfl) k20 (fun x _ => ⟨rfl, rfl⟩) ?_
  rintro ⟨l, n⟩ ⟨h1, h2, h3, h4⟩
  dsimp only at *
  by_cases hl : (l.length : Int) ≤ n
  case neg =>
    rw [if_neg (by omega)]
    (dsimp only [c20]; simp (maxSteps := 1000000) (implicitDefEqProofs := false) (disch := omega) only [go_sem, if_pos, if_neg, tw64, twu8, ↓condKT_pos, ↓condKT_neg, ↓gdKT_pt, ↓gdKT_nt, ↓gdKT_pf, ↓gdKT_nf])
    repeat' first
      | (refine gdKT_dec (fun hg => ?_) (fun hg => ?_) <;> (try (first | simp (maxSteps := 1000000) (implicitDefEqProofs := false) (disch := omega) only [go_sem, if_pos, if_neg, tw64, twu8, ↓condKT_pos, ↓condKT_neg, ↓gdKT_pt, ↓gdKT_nt, ↓gdKT_pf, ↓gdKT_nf, eq_false hg] | simp (maxSteps := 1000000) (implicitDefEqProofs := false) (disch := omega) only [go_sem, if_pos, if_neg, tw64, twu8, ↓condKT_pos, ↓condKT_neg, ↓gdKT_pt, ↓gdKT_nt, ↓gdKT_pf, ↓gdKT_nf, eq_true hg])))
      | (refine condKT_dec (fun hg => ?_) (fun hg => ?_) <;> (try (first | simp (maxSteps := 1000000) (implicitDefEqProofs := false) (disch := omega) only [go_sem, if_pos, if_neg, tw64, twu8, ↓condKT_pos, ↓condKT_neg, ↓gdKT_pt, ↓gdKT_nt, ↓gdKT_pf, ↓gdKT_nf, eq_false hg] | simp (maxSteps := 1000000) (implicitDefEqProofs := false) (disch := omega) only [go_sem, if_pos, if_neg, tw64, twu8, ↓condKT_pos, ↓condKT_neg, ↓gdKT_pt, ↓gdKT_nt, ↓gdKT_pf, ↓gdKT_nf, eq_true hg])))
      | (refine gdKT_split (fun hg => ?_) (fun hg => ?_) <;> (try simp (maxSteps := 1000000) (implicitDefEqProofs := false) (disch := omega) only [go_sem, if_pos, if_neg, tw64, twu8, ↓condKT_pos, ↓condKT_neg, ↓gdKT_pt, ↓gdKT_nt, ↓gdKT_pf, ↓gdKT_nf, hg]))
      | (refine condKT_split (fun hg => ?_) (fun hg => ?_) <;> (try simp (maxSteps := 1000000) (implicitDefEqProofs := false) (disch := omega) only [go_sem, if_pos, if_neg, tw64, twu8, ↓condKT_pos, ↓condKT_neg, ↓gdKT_pt, ↓gdKT_nt, ↓gdKT_pf, ↓gdKT_nf, hg]))
      | (refine endT_p (.inr rfl) (by simp (maxSteps := 1000000) (implicitDefEqProofs := false) (disch := omega) only [go_sem, if_pos, if_neg, tw64, twu8, ↓condKT_pos, ↓condKT_neg, ↓gdKT_pt, ↓gdKT_nt, ↓gdKT_pf, ↓gdKT_nf]; rfl) ?_; (first | exact vb_true (by omega) | exact vb_false (by omega) | exact vb_dec (by omega) | exact vi_eq (by omega) | rfl | (refine vi_eq ?_; simp_all; done) | (refine vi_eq ?_; simp_all; omega) | (refine vi_eq ?_; simp_all; intros; omega)))
      | exact endT_v (.inr rfl) (by simp (maxSteps := 1000000) (implicitDefEqProofs := false) (disch := omega) only [go_sem, if_pos, if_neg, tw64, twu8, ↓condKT_pos, ↓condKT_neg, ↓gdKT_pt, ↓gdKT_nt, ↓gdKT_pf, ↓gdKT_nf]; try rfl) (fun _ => rfl)
  (dsimp only [c20]; simp (maxSteps := 1000000) (implicitDefEqProofs := false) (disch := omega) only [go_sem, if_pos, if_neg, tw64, twu8, ↓condKT_pos, ↓condKT_neg, ↓gdKT_pt, ↓gdKT_nt, ↓gdKT_pf, ↓gdKT_nf])
  refine awpT_loop (α := Nat) (fun i => ⟨slots [(0, .s (rowsT saT l)), (1, .p (.int .i64 (n - l.length - totO (l.take i)))), (5, .p (.int .i64 i))], []⟩)
    (fun i => i ≤ l.length ∧ ((l.length + totO (l.take i) : Nat) : Int) ≤ n) (fun i => l.length - i) 0 ⟨by omega, by simp [totO]; omega⟩ (le_of [] (by simp (maxSteps := 1000000) (implicitDefEqProofs := false) (disch := omega) only [go_sem, if_pos, if_neg, tw64, twu8, ↓condKT_pos, ↓condKT_neg, ↓gdKT_pt, ↓gdKT_nt, ↓gdKT_pf, ↓gdKT_nf, List.take_zero, totO]) (by simp (maxSteps := 1000000) (implicitDefEqProofs := false) (disch := omega) only [go_sem, if_pos, if_neg, tw64, twu8, ↓condKT_pos, ↓condKT_neg, ↓gdKT_pt, ↓gdKT_nt, ↓gdKT_pf, ↓gdKT_nf, List.take_zero, totO]) (by decide) (by simp)) ?_
  intro i ⟨hi, hm⟩
  simp (maxSteps := 1000000) (implicitDefEqProofs := false) (disch := omega) only [go_sem, if_pos, if_neg, tw64, twu8, ↓condKT_pos, ↓condKT_neg, ↓gdKT_pt, ↓gdKT_nt, ↓gdKT_pf, ↓gdKT_nf]
  refine condKT_dec (fun hlt => ?_) (fun hge => ?_)
  · obtain ⟨x, hx⟩ := get_ex (l := l) (i := i) (by omega)
    have hxs := h4 x (List.mem_of_getElem? hx)
    have ht := totO_take hx
    have htl := totO_le l (i + 1)
    by_cases hb : (x.sels.length : Int) ≤ n - l.length - totO (l.take i)
    · simp (maxSteps := 1000000) (implicitDefEqProofs := false) (disch := omega) only [go_sem, if_pos, if_neg, tw64, twu8, ↓condKT_pos, ↓condKT_neg, ↓gdKT_pt, ↓gdKT_nt, ↓gdKT_pf, ↓gdKT_nf, hx, saT, szSa_at, eq_true hlt, eq_true hb]
      refine loopKT_next (i + 1) ⟨by omega, by omega⟩ (by omega) ?_
      have e : n - (l.length : Int) - (totO (l.take i) : Int) - (x.sels.length : Int) = n - (l.length : Int) - (totO (l.take (i + 1)) : Int) := by omega
      exact (le_of [] (by simp (maxSteps := 1000000) (implicitDefEqProofs := false) (disch := omega) only [go_sem, if_pos, if_neg, tw64, twu8, ↓condKT_pos, ↓condKT_neg, ↓gdKT_pt, ↓gdKT_nt, ↓gdKT_pf, ↓gdKT_nf, e]) (by simp (maxSteps := 1000000) (implicitDefEqProofs := false) (disch := omega) only [go_sem, if_pos, if_neg, tw64, twu8, ↓condKT_pos, ↓condKT_neg, ↓gdKT_pt, ↓gdKT_nt, ↓gdKT_pf, ↓gdKT_nf, e]) (by decide) (by simp))
    · rw [if_neg (by omega)]
      simp (maxSteps := 1000000) (implicitDefEqProofs := false) (disch := omega) only [go_sem, if_pos, if_neg, tw64, twu8, ↓condKT_pos, ↓condKT_neg, ↓gdKT_pt, ↓gdKT_nt, ↓gdKT_pf, ↓gdKT_nf, hx, saT, szSa_at, eq_true hlt, eq_false hb]
      repeat' first
        | (refine gdKT_dec (fun hg => ?_) (fun hg => ?_) <;> (try (first | simp (maxSteps := 1000000) (implicitDefEqProofs := false) (disch := omega) only [go_sem, if_pos, if_neg, tw64, twu8, ↓condKT_pos, ↓condKT_neg, ↓gdKT_pt, ↓gdKT_nt, ↓gdKT_pf, ↓gdKT_nf, eq_false hg, hx, saT, szSa_at, eq_true hlt, eq_false hb] | simp (maxSteps := 1000000) (implicitDefEqProofs := false) (disch := omega) only [go_sem, if_pos, if_neg, tw64, twu8, ↓condKT_pos, ↓condKT_neg, ↓gdKT_pt, ↓gdKT_nt, ↓gdKT_pf, ↓gdKT_nf, eq_true hg, hx, saT, szSa_at, eq_true hlt, eq_false hb])))
        | (refine condKT_dec (fun hg => ?_) (fun hg => ?_) <;> (try (first | simp (maxSteps := 1000000) (implicitDefEqProofs := false) (disch := omega) only [go_sem, if_pos, if_neg, tw64, twu8, ↓condKT_pos, ↓condKT_neg, ↓gdKT_pt, ↓gdKT_nt, ↓gdKT_pf, ↓gdKT_nf, eq_false hg, hx, saT, szSa_at, eq_true hlt, eq_false hb] | simp (maxSteps := 1000000) (implicitDefEqProofs := false) (disch := omega) only [go_sem, if_pos, if_neg, tw64, twu8, ↓condKT_pos, ↓condKT_neg, ↓gdKT_pt, ↓gdKT_nt, ↓gdKT_pf, ↓gdKT_nf, eq_true hg, hx, saT, szSa_at, eq_true hlt, eq_false hb])))
        | (refine gdKT_split (fun hg => ?_) (fun hg => ?_) <;> (try simp (maxSteps := 1000000) (implicitDefEqProofs := false) (disch := omega) only [go_sem, if_pos, if_neg, tw64, twu8, ↓condKT_pos, ↓condKT_neg, ↓gdKT_pt, ↓gdKT_nt, ↓gdKT_pf, ↓gdKT_nf, hg, hx, saT, szSa_at, eq_true hlt, eq_false hb]))
        | (refine condKT_split (fun hg => ?_) (fun hg => ?_) <;> (try simp (maxSteps := 1000000) (implicitDefEqProofs := false) (disch := omega) only [go_sem, if_pos, if_neg, tw64, twu8, ↓condKT_pos, ↓condKT_neg, ↓gdKT_pt, ↓gdKT_nt, ↓gdKT_pf, ↓gdKT_nf, hg, hx, saT, szSa_at, eq_true hlt, eq_false hb]))
        | (refine endT_p (.inr rfl) (by simp (maxSteps := 1000000) (implicitDefEqProofs := false) (disch := omega) only [go_sem, if_pos, if_neg, tw64, twu8, ↓condKT_pos, ↓condKT_neg, ↓gdKT_pt, ↓gdKT_nt, ↓gdKT_pf, ↓gdKT_nf, hx, saT, szSa_at, eq_true hlt, eq_false hb]; rfl) ?_; (first | exact vb_true (by omega) | exact vb_false (by omega) | exact vb_dec (by omega) | exact vi_eq (by omega) | rfl | (refine vi_eq ?_; simp_all; done) | (refine vi_eq ?_; simp_all; omega) | (refine vi_eq ?_; simp_all; intros; omega)))
        | exact endT_v (.inr rfl) (by simp (maxSteps := 1000000) (implicitDefEqProofs := false) (disch := omega) only [go_sem, if_pos, if_neg, tw64, twu8, ↓condKT_pos, ↓condKT_neg, ↓gdKT_pt, ↓gdKT_nt, ↓gdKT_pf, ↓gdKT_nf, hx, saT, szSa_at, eq_true hlt, eq_false hb]; try rfl) (fun _ => rfl)
  · have e : l.take i = l := List.take_of_length_le (by omega)
    rw [e] at hm
    rw [if_pos hm]
    simp (maxSteps := 1000000) (implicitDefEqProofs := false) (disch := omega) only [go_sem, if_pos, if_neg, tw64, twu8, ↓condKT_pos, ↓condKT_neg, ↓gdKT_pt, ↓gdKT_nt, ↓gdKT_pf, ↓gdKT_nf, eq_false hge, e]
    refine joinK_here ?_
    simp (maxSteps := 1000000) (implicitDefEqProofs := false) (disch := omega) only [go_sem, if_pos, if_neg, tw64, twu8, ↓condKT_pos, ↓condKT_neg, ↓gdKT_pt, ↓gdKT_nt, ↓gdKT_pf, ↓gdKT_nf]
    repeat' first
      | (refine gdKT_dec (fun hg => ?_) (fun hg => ?_) <;> (try (first | simp (maxSteps := 1000000) (implicitDefEqProofs := false) (disch := omega) only [go_sem, if_pos, if_neg, tw64, twu8, ↓condKT_pos, ↓condKT_neg, ↓gdKT_pt, ↓gdKT_nt, ↓gdKT_pf, ↓gdKT_nf, eq_false hg] | simp (maxSteps := 1000000) (implicitDefEqProofs := false) (disch := omega) only [go_sem, if_pos, if_neg, tw64, twu8, ↓condKT_pos, ↓condKT_neg, ↓gdKT_pt, ↓gdKT_nt, ↓gdKT_pf, ↓gdKT_nf, eq_true hg])))
      | (refine condKT_dec (fun hg => ?_) (fun hg => ?_) <;> (try (first | simp (maxSteps := 1000000) (implicitDefEqProofs := false) (disch := omega) only [go_sem, if_pos, if_neg, tw64, twu8, ↓condKT_pos, ↓condKT_neg, ↓gdKT_pt, ↓gdKT_nt, ↓gdKT_pf, ↓gdKT_nf, eq_false hg] | simp (maxSteps := 1000000) (implicitDefEqProofs := false) (disch := omega) only [go_sem, if_pos, if_neg, tw64, twu8, ↓condKT_pos, ↓condKT_neg, ↓gdKT_pt, ↓gdKT_nt, ↓gdKT_pf, ↓gdKT_nf, eq_true hg])))
      | (refine gdKT_split (fun hg => ?_) (fun hg => ?_) <;> (try simp (maxSteps := 1000000) (implicitDefEqProofs := false) (disch := omega) only [go_sem, if_pos, if_neg, tw64, twu8, ↓condKT_pos, ↓condKT_neg, ↓gdKT_pt, ↓gdKT_nt, ↓gdKT_pf, ↓gdKT_nf, hg]))
      | (refine condKT_split (fun hg => ?_) (fun hg => ?_) <;> (try simp (maxSteps := 1000000) (implicitDefEqProofs := false) (disch := omega) only [go_sem, if_pos, if_neg, tw64, twu8, ↓condKT_pos, ↓condKT_neg, ↓gdKT_pt, ↓gdKT_nt, ↓gdKT_pf, ↓gdKT_nf, hg]))
      | (refine endT_p (.inr rfl) (by simp (maxSteps := 1000000) (implicitDefEqProofs := false) (disch := omega) only [go_sem, if_pos, if_neg, tw64, twu8, ↓condKT_pos, ↓condKT_neg, ↓gdKT_pt, ↓gdKT_nt, ↓gdKT_pf, ↓gdKT_nf]; rfl) ?_; (first | exact vb_true (by omega) | exact vb_false (by omega) | exact vb_dec (by omega) | exact vi_eq (by omega) | rfl | (refine vi_eq ?_; simp_all; done) | (refine vi_eq ?_; simp_all; omega) | (refine vi_eq ?_; simp_all; intros; omega)))
      | exact endT_v (.inr rfl) (by simp (maxSteps := 1000000) (implicitDefEqProofs := false) (disch := omega) only [go_sem, if_pos, if_neg, tw64, twu8, ↓condKT_pos, ↓condKT_neg, ↓gdKT_pt, ↓gdKT_nt, ↓gdKT_pf, ↓gdKT_nf]; try rfl) (fun _ => rfl)
/-! Alike -/
theorem eqSa_atx (x : SaR) (h : x.sels.length ≤ 1048576) : eqSa_S [.agg [.p (.int .i64 x.spi), .p (.int .i64 x.peer), .p (.int .i64 x.key), .p (.bool x.inn), .p (.int .i64 x.sent), .p (.int .i64 x.top), .p (.int .i64 x.bits), .p (.int .i64 x.byt), .p (.int .i64 x.hard), .p (.int .i64 x.til), .s (rowsT slT x.sels)], .agg [.p (.int .i64 x.spi), .p (.int .i64 x.peer), .p (.int .i64 x.key), .p (.bool x.inn), .p (.int .i64 x.sent), .p (.int .i64 x.top), .p (.int .i64 x.bits), .p (.int .i64 x.byt), .p (.int .i64 x.hard), .p (.int .i64 x.til), .s (rowsT slT x.sels)]] = some (.p (.bool true), []) := eqSa_at x.spi x.peer x.key x.inn x.sent x.top x.bits x.byt x.hard x.til x.sels h
noncomputable def eqSaS_S := specP (fun x : List SaR => [.s (rowsT saT x), .s (rowsT saT x)]) (fun x => x.length ≤ 1048576 ∧ ∀ y ∈ x, y.sels.length ≤ 1048576) (fun x => (.p (.bool true), []))
-- laws.eqSaS
def c24 : AF := ⟨27,
  (.seq (.reg [⟨(some 4), none, .mv (.v (.bool false))⟩])
  (.seq (.seq (.reg [⟨(some 6), none, .mv (.t 0)⟩,
   ⟨(some 7), none, .len (.t 6)⟩,
   ⟨(some 8), none, .mv (.t 1)⟩,
   ⟨(some 9), none, .len (.t 8)⟩,
   ⟨(some 10), none, .bin .neq (.t 7) (.t 9)⟩])
  (.cond (.t 10) (.seq (.reg [⟨(some 4), none, .mv (.v (.bool false))⟩])
  .ret)
  .skip))
  (.seq (.seq (.reg [⟨(some 5), none, .mv (.v (.int .i64 0))⟩])
  (.block 0 (.loop (.seq (.seq (.reg [⟨(some 11), none, .mv (.t 5)⟩,
   ⟨(some 12), none, .mv (.t 0)⟩,
   ⟨(some 13), none, .len (.t 12)⟩,
   ⟨(some 14), none, .bin .lss (.t 11) (.t 13)⟩])
  (.cond (.t 14) .skip
  (.exit 0)))
  (.seq (.block 1 (.seq (.drw [⟨(some 17), none, .mv (.t 0)⟩,
   ⟨(some 18), none, .mv (.t 5)⟩,
   ⟨(some 19), none, .ia 11 (.t 17) (.t 18)⟩,
   ⟨(some 20), none, .ldn 11 (.t 19)⟩,
   ⟨(some 21), none, .mv (.t 1)⟩,
   ⟨(some 22), none, .mv (.t 5)⟩,
   ⟨(some 23), none, .ia 11 (.t 21) (.t 22)⟩,
   ⟨(some 24), none, .ldn 11 (.t 23)⟩,
   ⟨(some 25), none, .call 19 [(.t 20), (.t 24)]⟩,
   ⟨(some 26), none, .un .not (.t 25)⟩] [])
  (.cond (.t 26) (.seq (.reg [⟨(some 4), none, .mv (.v (.bool false))⟩])
  .ret)
  .skip)))
  (.reg [⟨(some 15), none, .mv (.t 5)⟩,
   ⟨(some 16), none, .bin .add (.t 15) (.v (.int .i64 1))⟩,
   ⟨(some 5), none, .mv (.t 16)⟩]))))))
  (.seq (.reg [⟨(some 4), none, .mv (.v (.bool true))⟩])
  .ret)))),
  [.t 4]⟩
theorem k24 : cFn Try.prog Try.f24 = some c24 := by kernel_rfl
theorem eqSaS_ok : OkT Try.prog 24 (pureSp eqSaS_S) := by
  refine okT_fn (OkΓT.cons eqSa_ok (OkΓT.nil _)) Try.func24 (by kernel_rfl) k24 (fun x _ => ⟨rfl, rfl⟩) ?_
  rintro l ⟨hl, hs⟩
  dsimp only at hl ⊢
  (dsimp only [c24]; simp (maxSteps := 1000000) (implicitDefEqProofs := false) (disch := omega) only [go_sem, if_pos, if_neg, tw64, twu8, ↓condKT_pos, ↓condKT_neg, ↓gdKT_pt, ↓gdKT_nt, ↓gdKT_pf, ↓gdKT_nf])
  refine awpT_loop (α := Nat) (fun i => ⟨slots [(0, .s (rowsT saT l)), (1, .s (rowsT saT l)), (5, .p (.int .i64 i))], []⟩) (fun i => i ≤ l.length) (fun i => l.length - i) 0 (by omega) (le_of [] (by simp (maxSteps := 1000000) (implicitDefEqProofs := false) (disch := omega) only [go_sem, if_pos, if_neg, tw64, twu8, ↓condKT_pos, ↓condKT_neg, ↓gdKT_pt, ↓gdKT_nt, ↓gdKT_pf, ↓gdKT_nf]) (by simp (maxSteps := 1000000) (implicitDefEqProofs := false) (disch := omega) only [go_sem, if_pos, if_neg, tw64, twu8, ↓condKT_pos, ↓condKT_neg, ↓gdKT_pt, ↓gdKT_nt, ↓gdKT_pf, ↓gdKT_nf]) (by decide) (by simp)) ?_
  intro i hi
  simp (maxSteps := 1000000) (implicitDefEqProofs := false) (disch := omega) only [go_sem, if_pos, if_neg, tw64, twu8, ↓condKT_pos, ↓condKT_neg, ↓gdKT_pt, ↓gdKT_nt, ↓gdKT_pf, ↓gdKT_nf]
  refine condKT_dec (fun hlt => ?_) (fun hge => ?_)
  · obtain ⟨x, hx⟩ := get_ex (l := l) (i := i) (by omega)
    have hxs := hs x (List.mem_of_getElem? hx)
    simp (maxSteps := 1000000) (implicitDefEqProofs := false) (disch := omega) only [go_sem, if_pos, if_neg, tw64, twu8, ↓condKT_pos, ↓condKT_neg, ↓gdKT_pt, ↓gdKT_nt, ↓gdKT_pf, ↓gdKT_nf, hx, saT, eqSa_atx x hxs]
    (refine loopKT_next (i + 1) (by omega) (by omega) ?_; refine (le_of [] (by simp (maxSteps := 1000000) (implicitDefEqProofs := false) (disch := omega) only [go_sem, if_pos, if_neg, tw64, twu8, ↓condKT_pos, ↓condKT_neg, ↓gdKT_pt, ↓gdKT_nt, ↓gdKT_pf, ↓gdKT_nf]) (by simp (maxSteps := 1000000) (implicitDefEqProofs := false) (disch := omega) only [go_sem, if_pos, if_neg, tw64, twu8, ↓condKT_pos, ↓condKT_neg, ↓gdKT_pt, ↓gdKT_nt, ↓gdKT_pf, ↓gdKT_nf]) (by decide) (by simp)))
  · simp (maxSteps := 1000000) (implicitDefEqProofs := false) (disch := omega) only [go_sem, if_pos, if_neg, tw64, twu8, ↓condKT_pos, ↓condKT_neg, ↓gdKT_pt, ↓gdKT_nt, ↓gdKT_pf, ↓gdKT_nf]
    refine joinK_here ?_
    simp (maxSteps := 1000000) (implicitDefEqProofs := false) (disch := omega) only [go_sem, if_pos, if_neg, tw64, twu8, ↓condKT_pos, ↓condKT_neg, ↓gdKT_pt, ↓gdKT_nt, ↓gdKT_pf, ↓gdKT_nf]
    repeat' first
      | (refine gdKT_dec (fun hg => ?_) (fun hg => ?_) <;> (try (first | simp (maxSteps := 1000000) (implicitDefEqProofs := false) (disch := omega) only [go_sem, if_pos, if_neg, tw64, twu8, ↓condKT_pos, ↓condKT_neg, ↓gdKT_pt, ↓gdKT_nt, ↓gdKT_pf, ↓gdKT_nf, eq_false hg] | simp (maxSteps := 1000000) (implicitDefEqProofs := false) (disch := omega) only [go_sem, if_pos, if_neg, tw64, twu8, ↓condKT_pos, ↓condKT_neg, ↓gdKT_pt, ↓gdKT_nt, ↓gdKT_pf, ↓gdKT_nf, eq_true hg])))
      | (refine condKT_dec (fun hg => ?_) (fun hg => ?_) <;> (try (first | simp (maxSteps := 1000000) (implicitDefEqProofs := false) (disch := omega) only [go_sem, if_pos, if_neg, tw64, twu8, ↓condKT_pos, ↓condKT_neg, ↓gdKT_pt, ↓gdKT_nt, ↓gdKT_pf, ↓gdKT_nf, eq_false hg] | simp (maxSteps := 1000000) (implicitDefEqProofs := false) (disch := omega) only [go_sem, if_pos, if_neg, tw64, twu8, ↓condKT_pos, ↓condKT_neg, ↓gdKT_pt, ↓gdKT_nt, ↓gdKT_pf, ↓gdKT_nf, eq_true hg])))
      | (refine gdKT_split (fun hg => ?_) (fun hg => ?_) <;> (try simp (maxSteps := 1000000) (implicitDefEqProofs := false) (disch := omega) only [go_sem, if_pos, if_neg, tw64, twu8, ↓condKT_pos, ↓condKT_neg, ↓gdKT_pt, ↓gdKT_nt, ↓gdKT_pf, ↓gdKT_nf, hg]))
      | (refine condKT_split (fun hg => ?_) (fun hg => ?_) <;> (try simp (maxSteps := 1000000) (implicitDefEqProofs := false) (disch := omega) only [go_sem, if_pos, if_neg, tw64, twu8, ↓condKT_pos, ↓condKT_neg, ↓gdKT_pt, ↓gdKT_nt, ↓gdKT_pf, ↓gdKT_nf, hg]))
      | (refine endT_p (.inr rfl) (by simp (maxSteps := 1000000) (implicitDefEqProofs := false) (disch := omega) only [go_sem, if_pos, if_neg, tw64, twu8, ↓condKT_pos, ↓condKT_neg, ↓gdKT_pt, ↓gdKT_nt, ↓gdKT_pf, ↓gdKT_nf]; rfl) ?_; (first | exact vb_true (by omega) | exact vb_false (by omega) | exact vb_dec (by omega) | exact vi_eq (by omega) | rfl | (refine vi_eq ?_; simp_all; done) | (refine vi_eq ?_; simp_all; omega) | (refine vi_eq ?_; simp_all; intros; omega)))
      | exact endT_v (.inr rfl) (by simp (maxSteps := 1000000) (implicitDefEqProofs := false) (disch := omega) only [go_sem, if_pos, if_neg, tw64, twu8, ↓condKT_pos, ↓condKT_neg, ↓gdKT_pt, ↓gdKT_nt, ↓gdKT_pf, ↓gdKT_nf]; try rfl) (fun _ => rfl)
/-! Faults of rows of agreements -/
def badO : Option Int → Int → Prop
  | none, _ => False
  | some p, s => s ≤ p
instance (p : Option Int) (s : Int) : Decidable (badO p s) := by cases p <;> simp only [badO] <;> infer_instance
def firstS : Option Int → List SaR → Int
  | _, [] => 0
  | p, x :: r => if saF x = 0 then (if badO p x.spi then 1 else firstS (some x.spi) r) else saF x
def prevO (l : List SaR) (i : Nat) : Option Int := if i = 0 then none else (l[i - 1]?).map (·.spi)
theorem prevO_succ {l : List SaR} {i : Nat} {x : SaR} (h : l[i]? = some x) : prevO l (i + 1) = some x.spi := by simp [prevO, h]
theorem firstS_at {l : List SaR} {i : Nat} {x : SaR} {p : Option Int} (h : l[i]? = some x) : firstS p (l.drop i) = if saF x = 0 then (if badO p x.spi then 1 else firstS (some x.spi) (l.drop (i + 1))) else saF x := by
  have hlt := (List.getElem?_eq_some_iff.1 h).1
  rw [List.drop_eq_getElem_cons hlt, (List.getElem?_eq_some_iff.1 h).2, firstS]
def sasF (l : List SaR) : Int := if l.length ≤ 12 then firstS none l else 2
noncomputable def sasF_S := specP (fun x : List SaR => [.s (rowsT saT x)]) (fun x => x.length ≤ 140737488355328 ∧ ∀ y ∈ x, y.sels.length ≤ 140737488355328) (fun x => (.p (.int .i64 (sasF x)), []))
-- spec.SasFault
def c21 : AF := ⟨38,
  (.seq (.reg [⟨(some 2), none, .mv (.v (.int .i64 0))⟩])
  (.seq (.seq (.reg [⟨(some 5), none, .mv (.t 0)⟩,
   ⟨(some 6), none, .len (.t 5)⟩,
   ⟨(some 7), none, .bin .gtr (.t 6) (.v (.int .i64 12))⟩])
  (.cond (.t 7) (.seq (.reg [⟨(some 2), none, .mv (.v (.int .i64 2))⟩])
  .ret)
  .skip))
  (.seq (.seq (.reg [⟨(some 3), none, .mv (.v (.int .i64 0))⟩])
  (.block 0 (.loop (.seq (.seq (.reg [⟨(some 8), none, .mv (.t 3)⟩,
   ⟨(some 9), none, .mv (.t 0)⟩,
   ⟨(some 10), none, .len (.t 9)⟩,
   ⟨(some 11), none, .bin .lss (.t 8) (.t 10)⟩])
  (.cond (.t 11) .skip
  (.exit 0)))
  (.seq (.block 1 (.seq (.seq (.reg [⟨(some 14), none, .mv (.t 0)⟩,
   ⟨(some 15), none, .mv (.t 3)⟩,
   ⟨(some 16), none, .ia 11 (.t 14) (.t 15)⟩,
   ⟨(some 17), none, .ldn 11 (.t 16)⟩,
   ⟨(some 18), none, .call 16 [(.t 17)]⟩,
   ⟨(some 4), none, .mv (.t 18)⟩])
  (.seq (.reg [⟨(some 19), none, .mv (.t 4)⟩,
   ⟨(some 20), none, .bin .neq (.t 19) (.v (.int .i64 0))⟩])
  (.cond (.t 20) (.seq (.reg [⟨(some 21), none, .mv (.t 4)⟩,
   ⟨(some 2), none, .mv (.t 21)⟩])
  .ret)
  .skip)))
  (.seq (.drw [⟨(some 22), none, .mv (.t 3)⟩,
   ⟨(some 23), none, .bin .gtr (.t 22) (.v (.int .i64 0))⟩,
   ⟨(some 24), none, .mv (.t 23)⟩,
   ⟨(some 25), (some (24, true)), .mv (.t 0)⟩,
   ⟨(some 26), (some (24, true)), .mv (.t 3)⟩,
   ⟨(some 27), (some (24, true)), .ia 11 (.t 25) (.t 26)⟩,
   ⟨(some 28), (some (24, true)), .fa (.t 27) 0⟩,
   ⟨(some 29), (some (24, true)), .ld (.t 28)⟩,
   ⟨(some 30), (some (24, true)), .mv (.t 0)⟩,
   ⟨(some 31), (some (24, true)), .mv (.t 3)⟩,
   ⟨(some 32), (some (24, true)), .bin .sub (.t 31) (.v (.int .i64 1))⟩,
   ⟨(some 33), (some (24, true)), .ia 11 (.t 30) (.t 32)⟩,
   ⟨(some 34), (some (24, true)), .fa (.t 33) 0⟩,
   ⟨(some 35), (some (24, true)), .ld (.t 34)⟩,
   ⟨(some 36), (some (24, true)), .bin .leq (.t 29) (.t 35)⟩,
   ⟨(some 37), none, .pick (.t 24) (.t 36) (.v (.bool false))⟩] [])
  (.cond (.t 37) (.seq (.reg [⟨(some 2), none, .mv (.v (.int .i64 1))⟩])
  .ret)
  .skip))))
  (.reg [⟨(some 12), none, .mv (.t 3)⟩,
   ⟨(some 13), none, .bin .add (.t 12) (.v (.int .i64 1))⟩,
   ⟨(some 3), none, .mv (.t 13)⟩]))))))
  (.seq (.reg [⟨(some 2), none, .mv (.v (.int .i64 0))⟩])
  .ret)))),
  [.t 2]⟩
theorem k21 : cFn Try.prog Try.f21 = some c21 := by kernel_rfl
theorem sasFS_ok : OkT Try.prog 21 (pureSp sasF_S) := by
  refine okT_fn (OkΓT.cons saFS_ok (OkΓT.nil _)) Try.func21 (by kernel_rfl) k21 (fun x _ => ⟨rfl, rfl⟩) ?_
  rintro l ⟨hl, hs⟩
  dsimp only at *
  by_cases hr : l.length ≤ 12
  case neg =>
    rw [show sasF l = 2 by simp only [sasF]; rw [if_neg hr]]
    (dsimp only [c21]; simp (maxSteps := 1000000) (implicitDefEqProofs := false) (disch := omega) only [go_sem, if_pos, if_neg, tw64, twu8, ↓condKT_pos, ↓condKT_neg, ↓gdKT_pt, ↓gdKT_nt, ↓gdKT_pf, ↓gdKT_nf])
    repeat' first
      | (refine gdKT_dec (fun hg => ?_) (fun hg => ?_) <;> (try (first | simp (maxSteps := 1000000) (implicitDefEqProofs := false) (disch := omega) only [go_sem, if_pos, if_neg, tw64, twu8, ↓condKT_pos, ↓condKT_neg, ↓gdKT_pt, ↓gdKT_nt, ↓gdKT_pf, ↓gdKT_nf, eq_false hg] | simp (maxSteps := 1000000) (implicitDefEqProofs := false) (disch := omega) only [go_sem, if_pos, if_neg, tw64, twu8, ↓condKT_pos, ↓condKT_neg, ↓gdKT_pt, ↓gdKT_nt, ↓gdKT_pf, ↓gdKT_nf, eq_true hg])))
      | (refine condKT_dec (fun hg => ?_) (fun hg => ?_) <;> (try (first | simp (maxSteps := 1000000) (implicitDefEqProofs := false) (disch := omega) only [go_sem, if_pos, if_neg, tw64, twu8, ↓condKT_pos, ↓condKT_neg, ↓gdKT_pt, ↓gdKT_nt, ↓gdKT_pf, ↓gdKT_nf, eq_false hg] | simp (maxSteps := 1000000) (implicitDefEqProofs := false) (disch := omega) only [go_sem, if_pos, if_neg, tw64, twu8, ↓condKT_pos, ↓condKT_neg, ↓gdKT_pt, ↓gdKT_nt, ↓gdKT_pf, ↓gdKT_nf, eq_true hg])))
      | (refine gdKT_split (fun hg => ?_) (fun hg => ?_) <;> (try simp (maxSteps := 1000000) (implicitDefEqProofs := false) (disch := omega) only [go_sem, if_pos, if_neg, tw64, twu8, ↓condKT_pos, ↓condKT_neg, ↓gdKT_pt, ↓gdKT_nt, ↓gdKT_pf, ↓gdKT_nf, hg]))
      | (refine condKT_split (fun hg => ?_) (fun hg => ?_) <;> (try simp (maxSteps := 1000000) (implicitDefEqProofs := false) (disch := omega) only [go_sem, if_pos, if_neg, tw64, twu8, ↓condKT_pos, ↓condKT_neg, ↓gdKT_pt, ↓gdKT_nt, ↓gdKT_pf, ↓gdKT_nf, hg]))
      | (refine endT_p (.inr rfl) (by simp (maxSteps := 1000000) (implicitDefEqProofs := false) (disch := omega) only [go_sem, if_pos, if_neg, tw64, twu8, ↓condKT_pos, ↓condKT_neg, ↓gdKT_pt, ↓gdKT_nt, ↓gdKT_pf, ↓gdKT_nf]; rfl) ?_; (first | exact vb_true (by omega) | exact vb_false (by omega) | exact vb_dec (by omega) | exact vi_eq (by omega) | rfl | (refine vi_eq ?_; simp_all; done) | (refine vi_eq ?_; simp_all; omega) | (refine vi_eq ?_; simp_all; intros; omega)))
      | exact endT_v (.inr rfl) (by simp (maxSteps := 1000000) (implicitDefEqProofs := false) (disch := omega) only [go_sem, if_pos, if_neg, tw64, twu8, ↓condKT_pos, ↓condKT_neg, ↓gdKT_pt, ↓gdKT_nt, ↓gdKT_pf, ↓gdKT_nf]; try rfl) (fun _ => rfl)
  rw [show sasF l = firstS none l by simp only [sasF]; rw [if_pos hr]]
  (dsimp only [c21]; simp (maxSteps := 1000000) (implicitDefEqProofs := false) (disch := omega) only [go_sem, if_pos, if_neg, tw64, twu8, ↓condKT_pos, ↓condKT_neg, ↓gdKT_pt, ↓gdKT_nt, ↓gdKT_pf, ↓gdKT_nf])
  refine awpT_loop (α := Nat) (fun i => ⟨slots [(0, .s (rowsT saT l)), (3, .p (.int .i64 i))], []⟩) (fun i => i ≤ l.length ∧ firstS (prevO l i) (l.drop i) = firstS none l) (fun i => l.length - i) 0 ⟨by omega, by simp [prevO]⟩ (le_of [] (by simp (maxSteps := 1000000) (implicitDefEqProofs := false) (disch := omega) only [go_sem, if_pos, if_neg, tw64, twu8, ↓condKT_pos, ↓condKT_neg, ↓gdKT_pt, ↓gdKT_nt, ↓gdKT_pf, ↓gdKT_nf]) (by simp (maxSteps := 1000000) (implicitDefEqProofs := false) (disch := omega) only [go_sem, if_pos, if_neg, tw64, twu8, ↓condKT_pos, ↓condKT_neg, ↓gdKT_pt, ↓gdKT_nt, ↓gdKT_pf, ↓gdKT_nf]) (by decide) (by simp)) ?_
  intro i ⟨hi, hinv⟩
  simp (maxSteps := 1000000) (implicitDefEqProofs := false) (disch := omega) only [go_sem, if_pos, if_neg, tw64, twu8, ↓condKT_pos, ↓condKT_neg, ↓gdKT_pt, ↓gdKT_nt, ↓gdKT_pf, ↓gdKT_nf]
  refine condKT_dec (fun hlt => ?_) (fun hge => ?_)
  · obtain ⟨x, hx⟩ := get_ex (l := l) (i := i) (by omega)
    have hxs := hs x (List.mem_of_getElem? hx)
    rw [firstS_at hx, ← prevO_succ hx] at hinv
    by_cases hz : saF x = 0
    · rw [if_pos hz] at hinv
      by_cases h0 : i = 0
      · rw [show prevO l i = none by simp [prevO, h0], if_neg (by simp [badO])] at hinv
        simp (maxSteps := 1000000) (implicitDefEqProofs := false) (disch := omega) only [go_sem, if_pos, if_neg, tw64, twu8, ↓condKT_pos, ↓condKT_neg, ↓gdKT_pt, ↓gdKT_nt, ↓gdKT_pf, ↓gdKT_nf, hx, saT, saF_atx x hxs, hz, eq_true hlt]
        refine loopKT_next (i + 1) ⟨by omega, hinv⟩ (by omega) ?_
        exact (le_of [] (by simp (maxSteps := 1000000) (implicitDefEqProofs := false) (disch := omega) only [go_sem, if_pos, if_neg, tw64, twu8, ↓condKT_pos, ↓condKT_neg, ↓gdKT_pt, ↓gdKT_nt, ↓gdKT_pf, ↓gdKT_nf]) (by simp (maxSteps := 1000000) (implicitDefEqProofs := false) (disch := omega) only [go_sem, if_pos, if_neg, tw64, twu8, ↓condKT_pos, ↓condKT_neg, ↓gdKT_pt, ↓gdKT_nt, ↓gdKT_pf, ↓gdKT_nf]) (by decide) (by simp))
      · obtain ⟨y, hy⟩ := get_ex (l := l) (i := i - 1) (by omega)
        rw [show prevO l i = some y.spi by simp [prevO, h0, hy]] at hinv
        have hpi : ((i : Int) - 1).toNat = i - 1 := by omega
        by_cases hb : x.spi ≤ y.spi
        · rw [if_pos (show badO (some y.spi) x.spi from hb)] at hinv
          rw [← hinv]
          simp (maxSteps := 1000000) (implicitDefEqProofs := false) (disch := omega) only [go_sem, if_pos, if_neg, tw64, twu8, ↓condKT_pos, ↓condKT_neg, ↓gdKT_pt, ↓gdKT_nt, ↓gdKT_pf, ↓gdKT_nf, hx, hy, hpi, saT, saF_atx x hxs, hz, eq_true hlt, eq_true hb]
          repeat' first
            | (refine gdKT_dec (fun hg => ?_) (fun hg => ?_) <;> (try (first | simp (maxSteps := 1000000) (implicitDefEqProofs := false) (disch := omega) only [go_sem, if_pos, if_neg, tw64, twu8, ↓condKT_pos, ↓condKT_neg, ↓gdKT_pt, ↓gdKT_nt, ↓gdKT_pf, ↓gdKT_nf, eq_false hg, hx, hy, hpi, saT, saF_atx x hxs, hz, eq_true hlt, eq_true hb] | simp (maxSteps := 1000000) (implicitDefEqProofs := false) (disch := omega) only [go_sem, if_pos, if_neg, tw64, twu8, ↓condKT_pos, ↓condKT_neg, ↓gdKT_pt, ↓gdKT_nt, ↓gdKT_pf, ↓gdKT_nf, eq_true hg, hx, hy, hpi, saT, saF_atx x hxs, hz, eq_true hlt, eq_true hb])))
            | (refine condKT_dec (fun hg => ?_) (fun hg => ?_) <;> (try (first | simp (maxSteps := 1000000) (implicitDefEqProofs := false) (disch := omega) only [go_sem, if_pos, if_neg, tw64, twu8, ↓condKT_pos, ↓condKT_neg, ↓gdKT_pt, ↓gdKT_nt, ↓gdKT_pf, ↓gdKT_nf, eq_false hg, hx, hy, hpi, saT, saF_atx x hxs, hz, eq_true hlt, eq_true hb] | simp (maxSteps := 1000000) (implicitDefEqProofs := false) (disch := omega) only [go_sem, if_pos, if_neg, tw64, twu8, ↓condKT_pos, ↓condKT_neg, ↓gdKT_pt, ↓gdKT_nt, ↓gdKT_pf, ↓gdKT_nf, eq_true hg, hx, hy, hpi, saT, saF_atx x hxs, hz, eq_true hlt, eq_true hb])))
            | (refine gdKT_split (fun hg => ?_) (fun hg => ?_) <;> (try simp (maxSteps := 1000000) (implicitDefEqProofs := false) (disch := omega) only [go_sem, if_pos, if_neg, tw64, twu8, ↓condKT_pos, ↓condKT_neg, ↓gdKT_pt, ↓gdKT_nt, ↓gdKT_pf, ↓gdKT_nf, hg, hx, hy, hpi, saT, saF_atx x hxs, hz, eq_true hlt, eq_true hb]))
            | (refine condKT_split (fun hg => ?_) (fun hg => ?_) <;> (try simp (maxSteps := 1000000) (implicitDefEqProofs := false) (disch := omega) only [go_sem, if_pos, if_neg, tw64, twu8, ↓condKT_pos, ↓condKT_neg, ↓gdKT_pt, ↓gdKT_nt, ↓gdKT_pf, ↓gdKT_nf, hg, hx, hy, hpi, saT, saF_atx x hxs, hz, eq_true hlt, eq_true hb]))
            | (refine endT_p (.inr rfl) (by simp (maxSteps := 1000000) (implicitDefEqProofs := false) (disch := omega) only [go_sem, if_pos, if_neg, tw64, twu8, ↓condKT_pos, ↓condKT_neg, ↓gdKT_pt, ↓gdKT_nt, ↓gdKT_pf, ↓gdKT_nf, hx, hy, hpi, saT, saF_atx x hxs, hz, eq_true hlt, eq_true hb]; rfl) ?_; (first | exact vb_true (by omega) | exact vb_false (by omega) | exact vb_dec (by omega) | exact vi_eq (by omega) | rfl | (refine vi_eq ?_; simp_all; done) | (refine vi_eq ?_; simp_all; omega) | (refine vi_eq ?_; simp_all; intros; omega)))
            | exact endT_v (.inr rfl) (by simp (maxSteps := 1000000) (implicitDefEqProofs := false) (disch := omega) only [go_sem, if_pos, if_neg, tw64, twu8, ↓condKT_pos, ↓condKT_neg, ↓gdKT_pt, ↓gdKT_nt, ↓gdKT_pf, ↓gdKT_nf, hx, hy, hpi, saT, saF_atx x hxs, hz, eq_true hlt, eq_true hb]; try rfl) (fun _ => rfl)
        · rw [if_neg (show ¬ badO (some y.spi) x.spi from hb)] at hinv
          simp (maxSteps := 1000000) (implicitDefEqProofs := false) (disch := omega) only [go_sem, if_pos, if_neg, tw64, twu8, ↓condKT_pos, ↓condKT_neg, ↓gdKT_pt, ↓gdKT_nt, ↓gdKT_pf, ↓gdKT_nf, hx, hy, hpi, saT, saF_atx x hxs, hz, eq_true hlt, eq_false hb]
          refine loopKT_next (i + 1) ⟨by omega, hinv⟩ (by omega) ?_
          exact (le_of [] (by simp (maxSteps := 1000000) (implicitDefEqProofs := false) (disch := omega) only [go_sem, if_pos, if_neg, tw64, twu8, ↓condKT_pos, ↓condKT_neg, ↓gdKT_pt, ↓gdKT_nt, ↓gdKT_pf, ↓gdKT_nf]) (by simp (maxSteps := 1000000) (implicitDefEqProofs := false) (disch := omega) only [go_sem, if_pos, if_neg, tw64, twu8, ↓condKT_pos, ↓condKT_neg, ↓gdKT_pt, ↓gdKT_nt, ↓gdKT_pf, ↓gdKT_nf]) (by decide) (by simp))
    · rw [if_neg hz] at hinv
      rw [← hinv]
      simp (maxSteps := 1000000) (implicitDefEqProofs := false) (disch := omega) only [go_sem, if_pos, if_neg, tw64, twu8, ↓condKT_pos, ↓condKT_neg, ↓gdKT_pt, ↓gdKT_nt, ↓gdKT_pf, ↓gdKT_nf, hx, saT, saF_atx x hxs, eq_false hz, eq_true hlt]
      repeat' first
        | (refine gdKT_dec (fun hg => ?_) (fun hg => ?_) <;> (try (first | simp (maxSteps := 1000000) (implicitDefEqProofs := false) (disch := omega) only [go_sem, if_pos, if_neg, tw64, twu8, ↓condKT_pos, ↓condKT_neg, ↓gdKT_pt, ↓gdKT_nt, ↓gdKT_pf, ↓gdKT_nf, eq_false hg, hx, saT, saF_atx x hxs, eq_false hz, eq_true hlt] | simp (maxSteps := 1000000) (implicitDefEqProofs := false) (disch := omega) only [go_sem, if_pos, if_neg, tw64, twu8, ↓condKT_pos, ↓condKT_neg, ↓gdKT_pt, ↓gdKT_nt, ↓gdKT_pf, ↓gdKT_nf, eq_true hg, hx, saT, saF_atx x hxs, eq_false hz, eq_true hlt])))
        | (refine condKT_dec (fun hg => ?_) (fun hg => ?_) <;> (try (first | simp (maxSteps := 1000000) (implicitDefEqProofs := false) (disch := omega) only [go_sem, if_pos, if_neg, tw64, twu8, ↓condKT_pos, ↓condKT_neg, ↓gdKT_pt, ↓gdKT_nt, ↓gdKT_pf, ↓gdKT_nf, eq_false hg, hx, saT, saF_atx x hxs, eq_false hz, eq_true hlt] | simp (maxSteps := 1000000) (implicitDefEqProofs := false) (disch := omega) only [go_sem, if_pos, if_neg, tw64, twu8, ↓condKT_pos, ↓condKT_neg, ↓gdKT_pt, ↓gdKT_nt, ↓gdKT_pf, ↓gdKT_nf, eq_true hg, hx, saT, saF_atx x hxs, eq_false hz, eq_true hlt])))
        | (refine gdKT_split (fun hg => ?_) (fun hg => ?_) <;> (try simp (maxSteps := 1000000) (implicitDefEqProofs := false) (disch := omega) only [go_sem, if_pos, if_neg, tw64, twu8, ↓condKT_pos, ↓condKT_neg, ↓gdKT_pt, ↓gdKT_nt, ↓gdKT_pf, ↓gdKT_nf, hg, hx, saT, saF_atx x hxs, eq_false hz, eq_true hlt]))
        | (refine condKT_split (fun hg => ?_) (fun hg => ?_) <;> (try simp (maxSteps := 1000000) (implicitDefEqProofs := false) (disch := omega) only [go_sem, if_pos, if_neg, tw64, twu8, ↓condKT_pos, ↓condKT_neg, ↓gdKT_pt, ↓gdKT_nt, ↓gdKT_pf, ↓gdKT_nf, hg, hx, saT, saF_atx x hxs, eq_false hz, eq_true hlt]))
        | (refine endT_p (.inr rfl) (by simp (maxSteps := 1000000) (implicitDefEqProofs := false) (disch := omega) only [go_sem, if_pos, if_neg, tw64, twu8, ↓condKT_pos, ↓condKT_neg, ↓gdKT_pt, ↓gdKT_nt, ↓gdKT_pf, ↓gdKT_nf, hx, saT, saF_atx x hxs, eq_false hz, eq_true hlt]; rfl) ?_; (first | exact vb_true (by omega) | exact vb_false (by omega) | exact vb_dec (by omega) | exact vi_eq (by omega) | rfl | (refine vi_eq ?_; simp_all; done) | (refine vi_eq ?_; simp_all; omega) | (refine vi_eq ?_; simp_all; intros; omega)))
        | exact endT_v (.inr rfl) (by simp (maxSteps := 1000000) (implicitDefEqProofs := false) (disch := omega) only [go_sem, if_pos, if_neg, tw64, twu8, ↓condKT_pos, ↓condKT_neg, ↓gdKT_pt, ↓gdKT_nt, ↓gdKT_pf, ↓gdKT_nf, hx, saT, saF_atx x hxs, eq_false hz, eq_true hlt]; try rfl) (fun _ => rfl)
  · rw [show l.drop i = [] from List.drop_eq_nil_of_le (by omega), firstS] at hinv
    rw [← hinv]
    simp (maxSteps := 1000000) (implicitDefEqProofs := false) (disch := omega) only [go_sem, if_pos, if_neg, tw64, twu8, ↓condKT_pos, ↓condKT_neg, ↓gdKT_pt, ↓gdKT_nt, ↓gdKT_pf, ↓gdKT_nf, eq_false hge]
    refine joinK_here ?_
    simp (maxSteps := 1000000) (implicitDefEqProofs := false) (disch := omega) only [go_sem, if_pos, if_neg, tw64, twu8, ↓condKT_pos, ↓condKT_neg, ↓gdKT_pt, ↓gdKT_nt, ↓gdKT_pf, ↓gdKT_nf]
    repeat' first
      | (refine gdKT_dec (fun hg => ?_) (fun hg => ?_) <;> (try (first | simp (maxSteps := 1000000) (implicitDefEqProofs := false) (disch := omega) only [go_sem, if_pos, if_neg, tw64, twu8, ↓condKT_pos, ↓condKT_neg, ↓gdKT_pt, ↓gdKT_nt, ↓gdKT_pf, ↓gdKT_nf, eq_false hg] | simp (maxSteps := 1000000) (implicitDefEqProofs := false) (disch := omega) only [go_sem, if_pos, if_neg, tw64, twu8, ↓condKT_pos, ↓condKT_neg, ↓gdKT_pt, ↓gdKT_nt, ↓gdKT_pf, ↓gdKT_nf, eq_true hg])))
      | (refine condKT_dec (fun hg => ?_) (fun hg => ?_) <;> (try (first | simp (maxSteps := 1000000) (implicitDefEqProofs := false) (disch := omega) only [go_sem, if_pos, if_neg, tw64, twu8, ↓condKT_pos, ↓condKT_neg, ↓gdKT_pt, ↓gdKT_nt, ↓gdKT_pf, ↓gdKT_nf, eq_false hg] | simp (maxSteps := 1000000) (implicitDefEqProofs := false) (disch := omega) only [go_sem, if_pos, if_neg, tw64, twu8, ↓condKT_pos, ↓condKT_neg, ↓gdKT_pt, ↓gdKT_nt, ↓gdKT_pf, ↓gdKT_nf, eq_true hg])))
      | (refine gdKT_split (fun hg => ?_) (fun hg => ?_) <;> (try simp (maxSteps := 1000000) (implicitDefEqProofs := false) (disch := omega) only [go_sem, if_pos, if_neg, tw64, twu8, ↓condKT_pos, ↓condKT_neg, ↓gdKT_pt, ↓gdKT_nt, ↓gdKT_pf, ↓gdKT_nf, hg]))
      | (refine condKT_split (fun hg => ?_) (fun hg => ?_) <;> (try simp (maxSteps := 1000000) (implicitDefEqProofs := false) (disch := omega) only [go_sem, if_pos, if_neg, tw64, twu8, ↓condKT_pos, ↓condKT_neg, ↓gdKT_pt, ↓gdKT_nt, ↓gdKT_pf, ↓gdKT_nf, hg]))
      | (refine endT_p (.inr rfl) (by simp (maxSteps := 1000000) (implicitDefEqProofs := false) (disch := omega) only [go_sem, if_pos, if_neg, tw64, twu8, ↓condKT_pos, ↓condKT_neg, ↓gdKT_pt, ↓gdKT_nt, ↓gdKT_pf, ↓gdKT_nf]; rfl) ?_; (first | exact vb_true (by omega) | exact vb_false (by omega) | exact vb_dec (by omega) | exact vi_eq (by omega) | rfl | (refine vi_eq ?_; simp_all; done) | (refine vi_eq ?_; simp_all; omega) | (refine vi_eq ?_; simp_all; intros; omega)))
      | exact endT_v (.inr rfl) (by simp (maxSteps := 1000000) (implicitDefEqProofs := false) (disch := omega) only [go_sem, if_pos, if_neg, tw64, twu8, ↓condKT_pos, ↓condKT_neg, ↓gdKT_pt, ↓gdKT_nt, ↓gdKT_pf, ↓gdKT_nf]; try rfl) (fun _ => rfl)
-- impl.SasFault
def c23 : AF := ⟨35,
  (.seq (.reg [⟨(some 2), none, .mv (.v (.int .i64 0))⟩])
  (.seq (.seq (.reg [⟨(some 6), none, .mv (.t 0)⟩,
   ⟨(some 7), none, .len (.t 6)⟩,
   ⟨(some 8), none, .bin .gtr (.t 7) (.v (.int .i64 12))⟩])
  (.cond (.t 8) (.seq (.reg [⟨(some 2), none, .mv (.v (.int .i64 2))⟩])
  .ret)
  .skip))
  (.seq (.seq (.reg [⟨(some 9), none, .mv (.t 0)⟩,
   ⟨(some 10), none, .len (.t 9)⟩,
   ⟨(some 11), none, .mv (.v (.int .i64 0))⟩])
  (.block 0 (.loop (.seq (.reg [⟨(some 12), none, .bin .lss (.t 11) (.t 10)⟩])
  (.seq (.cond (.t 12) .skip
  (.exit 0))
  (.seq (.block 1 (.seq (.reg [⟨(some 13), none, .mv (.t 11)⟩,
   ⟨(some 14), none, .ia 11 (.t 9) (.t 11)⟩,
   ⟨(some 15), none, .ldn 11 (.t 14)⟩,
   ⟨(some 4), none, .alloc 32 [(.int .i64 0), (.int .i64 0), (.int .i64 0), (.bool false), (.int .i64 0), (.int .i64 0), (.int .i64 0), (.int .i64 0), (.int .i64 0), (.int .i64 0), (.slice none 0 0)]⟩,
   ⟨(some 3), none, .mv (.t 13)⟩,
   ⟨none, none, .st 11 (.t 4) (.t 15)⟩])
  (.seq (.seq (.reg [⟨(some 16), none, .ldn 11 (.t 4)⟩,
   ⟨(some 17), none, .call 18 [(.t 16)]⟩,
   ⟨(some 5), none, .mv (.t 17)⟩])
  (.seq (.reg [⟨(some 18), none, .mv (.t 5)⟩,
   ⟨(some 19), none, .bin .neq (.t 18) (.v (.int .i64 0))⟩])
  (.cond (.t 19) (.seq (.reg [⟨(some 20), none, .mv (.t 5)⟩,
   ⟨(some 2), none, .mv (.t 20)⟩])
  .ret)
  .skip)))
  (.seq (.drw [⟨(some 21), none, .mv (.t 3)⟩,
   ⟨(some 22), none, .bin .gtr (.t 21) (.v (.int .i64 0))⟩,
   ⟨(some 23), none, .mv (.t 22)⟩,
   ⟨(some 24), (some (23, true)), .mv (.t 0)⟩,
   ⟨(some 25), (some (23, true)), .mv (.t 3)⟩,
   ⟨(some 26), (some (23, true)), .bin .sub (.t 25) (.v (.int .i64 1))⟩,
   ⟨(some 27), (some (23, true)), .ia 11 (.t 24) (.t 26)⟩,
   ⟨(some 28), (some (23, true)), .fa (.t 27) 0⟩,
   ⟨(some 29), (some (23, true)), .ld (.t 28)⟩,
   ⟨(some 30), (some (23, true)), .fa (.t 4) 0⟩,
   ⟨(some 31), (some (23, true)), .ld (.t 30)⟩,
   ⟨(some 32), (some (23, true)), .bin .geq (.t 29) (.t 31)⟩,
   ⟨(some 33), none, .pick (.t 23) (.t 32) (.v (.bool false))⟩] [])
  (.cond (.t 33) (.seq (.reg [⟨(some 2), none, .mv (.v (.int .i64 1))⟩])
  .ret)
  .skip)))))
  (.reg [⟨(some 34), none, .bin .add (.t 11) (.v (.int .i64 1))⟩,
   ⟨(some 11), none, .mv (.t 34)⟩])))))))
  (.seq (.reg [⟨(some 2), none, .mv (.v (.int .i64 0))⟩])
  .ret)))),
  [.t 2]⟩
theorem k23 : cFn Try.prog Try.f23 = some c23 := by kernel_rfl
theorem sasFI_ok : OkT Try.prog 23 (pureSp sasF_S) := by
  refine okT_fn (OkΓT.cons saFI_ok (OkΓT.nil _)) Try.func23 (by kernel_rfl) k23 (fun x _ => ⟨rfl, rfl⟩) ?_
  rintro l ⟨hl, hs⟩
  dsimp only at *
  by_cases hr : l.length ≤ 12
  case neg =>
    rw [show sasF l = 2 by simp only [sasF]; rw [if_neg hr]]
    (dsimp only [c23]; simp (maxSteps := 1000000) (implicitDefEqProofs := false) (disch := omega) only [go_sem, if_pos, if_neg, tw64, twu8, ↓condKT_pos, ↓condKT_neg, ↓gdKT_pt, ↓gdKT_nt, ↓gdKT_pf, ↓gdKT_nf])
    repeat' first
      | (refine gdKT_dec (fun hg => ?_) (fun hg => ?_) <;> (try (first | simp (maxSteps := 1000000) (implicitDefEqProofs := false) (disch := omega) only [go_sem, if_pos, if_neg, tw64, twu8, ↓condKT_pos, ↓condKT_neg, ↓gdKT_pt, ↓gdKT_nt, ↓gdKT_pf, ↓gdKT_nf, eq_false hg] | simp (maxSteps := 1000000) (implicitDefEqProofs := false) (disch := omega) only [go_sem, if_pos, if_neg, tw64, twu8, ↓condKT_pos, ↓condKT_neg, ↓gdKT_pt, ↓gdKT_nt, ↓gdKT_pf, ↓gdKT_nf, eq_true hg])))
      | (refine condKT_dec (fun hg => ?_) (fun hg => ?_) <;> (try (first | simp (maxSteps := 1000000) (implicitDefEqProofs := false) (disch := omega) only [go_sem, if_pos, if_neg, tw64, twu8, ↓condKT_pos, ↓condKT_neg, ↓gdKT_pt, ↓gdKT_nt, ↓gdKT_pf, ↓gdKT_nf, eq_false hg] | simp (maxSteps := 1000000) (implicitDefEqProofs := false) (disch := omega) only [go_sem, if_pos, if_neg, tw64, twu8, ↓condKT_pos, ↓condKT_neg, ↓gdKT_pt, ↓gdKT_nt, ↓gdKT_pf, ↓gdKT_nf, eq_true hg])))
      | (refine gdKT_split (fun hg => ?_) (fun hg => ?_) <;> (try simp (maxSteps := 1000000) (implicitDefEqProofs := false) (disch := omega) only [go_sem, if_pos, if_neg, tw64, twu8, ↓condKT_pos, ↓condKT_neg, ↓gdKT_pt, ↓gdKT_nt, ↓gdKT_pf, ↓gdKT_nf, hg]))
      | (refine condKT_split (fun hg => ?_) (fun hg => ?_) <;> (try simp (maxSteps := 1000000) (implicitDefEqProofs := false) (disch := omega) only [go_sem, if_pos, if_neg, tw64, twu8, ↓condKT_pos, ↓condKT_neg, ↓gdKT_pt, ↓gdKT_nt, ↓gdKT_pf, ↓gdKT_nf, hg]))
      | (refine endT_p (.inr rfl) (by simp (maxSteps := 1000000) (implicitDefEqProofs := false) (disch := omega) only [go_sem, if_pos, if_neg, tw64, twu8, ↓condKT_pos, ↓condKT_neg, ↓gdKT_pt, ↓gdKT_nt, ↓gdKT_pf, ↓gdKT_nf]; rfl) ?_; (first | exact vb_true (by omega) | exact vb_false (by omega) | exact vb_dec (by omega) | exact vi_eq (by omega) | rfl | (refine vi_eq ?_; simp_all; done) | (refine vi_eq ?_; simp_all; omega) | (refine vi_eq ?_; simp_all; intros; omega)))
      | exact endT_v (.inr rfl) (by simp (maxSteps := 1000000) (implicitDefEqProofs := false) (disch := omega) only [go_sem, if_pos, if_neg, tw64, twu8, ↓condKT_pos, ↓condKT_neg, ↓gdKT_pt, ↓gdKT_nt, ↓gdKT_pf, ↓gdKT_nf]; try rfl) (fun _ => rfl)
  rw [show sasF l = firstS none l by simp only [sasF]; rw [if_pos hr]]
  (dsimp only [c23]; simp (maxSteps := 1000000) (implicitDefEqProofs := false) (disch := omega) only [go_sem, if_pos, if_neg, tw64, twu8, ↓condKT_pos, ↓condKT_neg, ↓gdKT_pt, ↓gdKT_nt, ↓gdKT_pf, ↓gdKT_nf])
  refine awpT_loop (α := Nat) (fun i => ⟨slots [(0, .s (rowsT saT l)), (9, .s (rowsT saT l)), (10, .p (.int .i64 l.length)), (11, .p (.int .i64 i))], []⟩) (fun i => i ≤ l.length ∧ firstS (prevO l i) (l.drop i) = firstS none l) (fun i => l.length - i) 0 ⟨by omega, by simp [prevO]⟩ (le_of [] (by simp (maxSteps := 1000000) (implicitDefEqProofs := false) (disch := omega) only [go_sem, if_pos, if_neg, tw64, twu8, ↓condKT_pos, ↓condKT_neg, ↓gdKT_pt, ↓gdKT_nt, ↓gdKT_pf, ↓gdKT_nf]) (by simp (maxSteps := 1000000) (implicitDefEqProofs := false) (disch := omega) only [go_sem, if_pos, if_neg, tw64, twu8, ↓condKT_pos, ↓condKT_neg, ↓gdKT_pt, ↓gdKT_nt, ↓gdKT_pf, ↓gdKT_nf]) (by decide) (by simp)) ?_
  intro i ⟨hi, hinv⟩
  simp (maxSteps := 1000000) (implicitDefEqProofs := false) (disch := omega) only [go_sem, if_pos, if_neg, tw64, twu8, ↓condKT_pos, ↓condKT_neg, ↓gdKT_pt, ↓gdKT_nt, ↓gdKT_pf, ↓gdKT_nf]
  refine condKT_dec (fun hlt => ?_) (fun hge => ?_)
  · obtain ⟨x, hx⟩ := get_ex (l := l) (i := i) (by omega)
    have hxs := hs x (List.mem_of_getElem? hx)
    rw [firstS_at hx, ← prevO_succ hx] at hinv
    by_cases hz : saF x = 0
    · rw [if_pos hz] at hinv
      by_cases h0 : i = 0
      · rw [show prevO l i = none by simp [prevO, h0], if_neg (by simp [badO])] at hinv
        simp (maxSteps := 1000000) (implicitDefEqProofs := false) (disch := omega) only [go_sem, if_pos, if_neg, tw64, twu8, ↓condKT_pos, ↓condKT_neg, ↓gdKT_pt, ↓gdKT_nt, ↓gdKT_pf, ↓gdKT_nf, hx, saT, saZ_el, saZ_cells, saF_atx x hxs, hz, eq_true hlt]
        refine loopKT_next (i + 1) ⟨by omega, hinv⟩ (by omega) ?_
        exact (le_of [] (by simp (maxSteps := 1000000) (implicitDefEqProofs := false) (disch := omega) only [go_sem, if_pos, if_neg, tw64, twu8, ↓condKT_pos, ↓condKT_neg, ↓gdKT_pt, ↓gdKT_nt, ↓gdKT_pf, ↓gdKT_nf]) (by simp (maxSteps := 1000000) (implicitDefEqProofs := false) (disch := omega) only [go_sem, if_pos, if_neg, tw64, twu8, ↓condKT_pos, ↓condKT_neg, ↓gdKT_pt, ↓gdKT_nt, ↓gdKT_pf, ↓gdKT_nf]) (by decide) (by simp))
      · obtain ⟨y, hy⟩ := get_ex (l := l) (i := i - 1) (by omega)
        rw [show prevO l i = some y.spi by simp [prevO, h0, hy]] at hinv
        have hpi : ((i : Int) - 1).toNat = i - 1 := by omega
        by_cases hb : x.spi ≤ y.spi
        · rw [if_pos (show badO (some y.spi) x.spi from hb)] at hinv
          rw [← hinv]
          simp (maxSteps := 1000000) (implicitDefEqProofs := false) (disch := omega) only [go_sem, if_pos, if_neg, tw64, twu8, ↓condKT_pos, ↓condKT_neg, ↓gdKT_pt, ↓gdKT_nt, ↓gdKT_pf, ↓gdKT_nf, hx, hy, hpi, saT, saZ_el, saZ_cells, saF_atx x hxs, hz, eq_true hlt, eq_true hb]
          repeat' first
            | (refine gdKT_dec (fun hg => ?_) (fun hg => ?_) <;> (try (first | simp (maxSteps := 1000000) (implicitDefEqProofs := false) (disch := omega) only [go_sem, if_pos, if_neg, tw64, twu8, ↓condKT_pos, ↓condKT_neg, ↓gdKT_pt, ↓gdKT_nt, ↓gdKT_pf, ↓gdKT_nf, eq_false hg, hx, hy, hpi, saT, saZ_el, saZ_cells, saF_atx x hxs, hz, eq_true hlt, eq_true hb] | simp (maxSteps := 1000000) (implicitDefEqProofs := false) (disch := omega) only [go_sem, if_pos, if_neg, tw64, twu8, ↓condKT_pos, ↓condKT_neg, ↓gdKT_pt, ↓gdKT_nt, ↓gdKT_pf, ↓gdKT_nf, eq_true hg, hx, hy, hpi, saT, saZ_el, saZ_cells, saF_atx x hxs, hz, eq_true hlt, eq_true hb])))
            | (refine condKT_dec (fun hg => ?_) (fun hg => ?_) <;> (try (first | simp (maxSteps := 1000000) (implicitDefEqProofs := false) (disch := omega) only [go_sem, if_pos, if_neg, tw64, twu8, ↓condKT_pos, ↓condKT_neg, ↓gdKT_pt, ↓gdKT_nt, ↓gdKT_pf, ↓gdKT_nf, eq_false hg, hx, hy, hpi, saT, saZ_el, saZ_cells, saF_atx x hxs, hz, eq_true hlt, eq_true hb] | simp (maxSteps := 1000000) (implicitDefEqProofs := false) (disch := omega) only [go_sem, if_pos, if_neg, tw64, twu8, ↓condKT_pos, ↓condKT_neg, ↓gdKT_pt, ↓gdKT_nt, ↓gdKT_pf, ↓gdKT_nf, eq_true hg, hx, hy, hpi, saT, saZ_el, saZ_cells, saF_atx x hxs, hz, eq_true hlt, eq_true hb])))
            | (refine gdKT_split (fun hg => ?_) (fun hg => ?_) <;> (try simp (maxSteps := 1000000) (implicitDefEqProofs := false) (disch := omega) only [go_sem, if_pos, if_neg, tw64, twu8, ↓condKT_pos, ↓condKT_neg, ↓gdKT_pt, ↓gdKT_nt, ↓gdKT_pf, ↓gdKT_nf, hg, hx, hy, hpi, saT, saZ_el, saZ_cells, saF_atx x hxs, hz, eq_true hlt, eq_true hb]))
            | (refine condKT_split (fun hg => ?_) (fun hg => ?_) <;> (try simp (maxSteps := 1000000) (implicitDefEqProofs := false) (disch := omega) only [go_sem, if_pos, if_neg, tw64, twu8, ↓condKT_pos, ↓condKT_neg, ↓gdKT_pt, ↓gdKT_nt, ↓gdKT_pf, ↓gdKT_nf, hg, hx, hy, hpi, saT, saZ_el, saZ_cells, saF_atx x hxs, hz, eq_true hlt, eq_true hb]))
            | (refine endT_p (.inr rfl) (by simp (maxSteps := 1000000) (implicitDefEqProofs := false) (disch := omega) only [go_sem, if_pos, if_neg, tw64, twu8, ↓condKT_pos, ↓condKT_neg, ↓gdKT_pt, ↓gdKT_nt, ↓gdKT_pf, ↓gdKT_nf, hx, hy, hpi, saT, saZ_el, saZ_cells, saF_atx x hxs, hz, eq_true hlt, eq_true hb]; rfl) ?_; (first | exact vb_true (by omega) | exact vb_false (by omega) | exact vb_dec (by omega) | exact vi_eq (by omega) | rfl | (refine vi_eq ?_; simp_all; done) | (refine vi_eq ?_; simp_all; omega) | (refine vi_eq ?_; simp_all; intros; omega)))
            | exact endT_v (.inr rfl) (by simp (maxSteps := 1000000) (implicitDefEqProofs := false) (disch := omega) only [go_sem, if_pos, if_neg, tw64, twu8, ↓condKT_pos, ↓condKT_neg, ↓gdKT_pt, ↓gdKT_nt, ↓gdKT_pf, ↓gdKT_nf, hx, hy, hpi, saT, saZ_el, saZ_cells, saF_atx x hxs, hz, eq_true hlt, eq_true hb]; try rfl) (fun _ => rfl)
        · rw [if_neg (show ¬ badO (some y.spi) x.spi from hb)] at hinv
          simp (maxSteps := 1000000) (implicitDefEqProofs := false) (disch := omega) only [go_sem, if_pos, if_neg, tw64, twu8, ↓condKT_pos, ↓condKT_neg, ↓gdKT_pt, ↓gdKT_nt, ↓gdKT_pf, ↓gdKT_nf, hx, hy, hpi, saT, saZ_el, saZ_cells, saF_atx x hxs, hz, eq_true hlt, eq_false hb]
          refine loopKT_next (i + 1) ⟨by omega, hinv⟩ (by omega) ?_
          exact (le_of [] (by simp (maxSteps := 1000000) (implicitDefEqProofs := false) (disch := omega) only [go_sem, if_pos, if_neg, tw64, twu8, ↓condKT_pos, ↓condKT_neg, ↓gdKT_pt, ↓gdKT_nt, ↓gdKT_pf, ↓gdKT_nf]) (by simp (maxSteps := 1000000) (implicitDefEqProofs := false) (disch := omega) only [go_sem, if_pos, if_neg, tw64, twu8, ↓condKT_pos, ↓condKT_neg, ↓gdKT_pt, ↓gdKT_nt, ↓gdKT_pf, ↓gdKT_nf]) (by decide) (by simp))
    · rw [if_neg hz] at hinv
      rw [← hinv]
      simp (maxSteps := 1000000) (implicitDefEqProofs := false) (disch := omega) only [go_sem, if_pos, if_neg, tw64, twu8, ↓condKT_pos, ↓condKT_neg, ↓gdKT_pt, ↓gdKT_nt, ↓gdKT_pf, ↓gdKT_nf, hx, saT, saZ_el, saZ_cells, saF_atx x hxs, eq_false hz, eq_true hlt]
      repeat' first
        | (refine gdKT_dec (fun hg => ?_) (fun hg => ?_) <;> (try (first | simp (maxSteps := 1000000) (implicitDefEqProofs := false) (disch := omega) only [go_sem, if_pos, if_neg, tw64, twu8, ↓condKT_pos, ↓condKT_neg, ↓gdKT_pt, ↓gdKT_nt, ↓gdKT_pf, ↓gdKT_nf, eq_false hg, hx, saT, saZ_el, saZ_cells, saF_atx x hxs, eq_false hz, eq_true hlt] | simp (maxSteps := 1000000) (implicitDefEqProofs := false) (disch := omega) only [go_sem, if_pos, if_neg, tw64, twu8, ↓condKT_pos, ↓condKT_neg, ↓gdKT_pt, ↓gdKT_nt, ↓gdKT_pf, ↓gdKT_nf, eq_true hg, hx, saT, saZ_el, saZ_cells, saF_atx x hxs, eq_false hz, eq_true hlt])))
        | (refine condKT_dec (fun hg => ?_) (fun hg => ?_) <;> (try (first | simp (maxSteps := 1000000) (implicitDefEqProofs := false) (disch := omega) only [go_sem, if_pos, if_neg, tw64, twu8, ↓condKT_pos, ↓condKT_neg, ↓gdKT_pt, ↓gdKT_nt, ↓gdKT_pf, ↓gdKT_nf, eq_false hg, hx, saT, saZ_el, saZ_cells, saF_atx x hxs, eq_false hz, eq_true hlt] | simp (maxSteps := 1000000) (implicitDefEqProofs := false) (disch := omega) only [go_sem, if_pos, if_neg, tw64, twu8, ↓condKT_pos, ↓condKT_neg, ↓gdKT_pt, ↓gdKT_nt, ↓gdKT_pf, ↓gdKT_nf, eq_true hg, hx, saT, saZ_el, saZ_cells, saF_atx x hxs, eq_false hz, eq_true hlt])))
        | (refine gdKT_split (fun hg => ?_) (fun hg => ?_) <;> (try simp (maxSteps := 1000000) (implicitDefEqProofs := false) (disch := omega) only [go_sem, if_pos, if_neg, tw64, twu8, ↓condKT_pos, ↓condKT_neg, ↓gdKT_pt, ↓gdKT_nt, ↓gdKT_pf, ↓gdKT_nf, hg, hx, saT, saZ_el, saZ_cells, saF_atx x hxs, eq_false hz, eq_true hlt]))
        | (refine condKT_split (fun hg => ?_) (fun hg => ?_) <;> (try simp (maxSteps := 1000000) (implicitDefEqProofs := false) (disch := omega) only [go_sem, if_pos, if_neg, tw64, twu8, ↓condKT_pos, ↓condKT_neg, ↓gdKT_pt, ↓gdKT_nt, ↓gdKT_pf, ↓gdKT_nf, hg, hx, saT, saZ_el, saZ_cells, saF_atx x hxs, eq_false hz, eq_true hlt]))
        | (refine endT_p (.inr rfl) (by simp (maxSteps := 1000000) (implicitDefEqProofs := false) (disch := omega) only [go_sem, if_pos, if_neg, tw64, twu8, ↓condKT_pos, ↓condKT_neg, ↓gdKT_pt, ↓gdKT_nt, ↓gdKT_pf, ↓gdKT_nf, hx, saT, saZ_el, saZ_cells, saF_atx x hxs, eq_false hz, eq_true hlt]; rfl) ?_; (first | exact vb_true (by omega) | exact vb_false (by omega) | exact vb_dec (by omega) | exact vi_eq (by omega) | rfl | (refine vi_eq ?_; simp_all; done) | (refine vi_eq ?_; simp_all; omega) | (refine vi_eq ?_; simp_all; intros; omega)))
        | exact endT_v (.inr rfl) (by simp (maxSteps := 1000000) (implicitDefEqProofs := false) (disch := omega) only [go_sem, if_pos, if_neg, tw64, twu8, ↓condKT_pos, ↓condKT_neg, ↓gdKT_pt, ↓gdKT_nt, ↓gdKT_pf, ↓gdKT_nf, hx, saT, saZ_el, saZ_cells, saF_atx x hxs, eq_false hz, eq_true hlt]; try rfl) (fun _ => rfl)
  · rw [show l.drop i = [] from List.drop_eq_nil_of_le (by omega), firstS] at hinv
    rw [← hinv]
    simp (maxSteps := 1000000) (implicitDefEqProofs := false) (disch := omega) only [go_sem, if_pos, if_neg, tw64, twu8, ↓condKT_pos, ↓condKT_neg, ↓gdKT_pt, ↓gdKT_nt, ↓gdKT_pf, ↓gdKT_nf, eq_false hge]
    refine joinK_here ?_
    simp (maxSteps := 1000000) (implicitDefEqProofs := false) (disch := omega) only [go_sem, if_pos, if_neg, tw64, twu8, ↓condKT_pos, ↓condKT_neg, ↓gdKT_pt, ↓gdKT_nt, ↓gdKT_pf, ↓gdKT_nf]
    repeat' first
      | (refine gdKT_dec (fun hg => ?_) (fun hg => ?_) <;> (try (first | simp (maxSteps := 1000000) (implicitDefEqProofs := false) (disch := omega) only [go_sem, if_pos, if_neg, tw64, twu8, ↓condKT_pos, ↓condKT_neg, ↓gdKT_pt, ↓gdKT_nt, ↓gdKT_pf, ↓gdKT_nf, eq_false hg] | simp (maxSteps := 1000000) (implicitDefEqProofs := false) (disch := omega) only [go_sem, if_pos, if_neg, tw64, twu8, ↓condKT_pos, ↓condKT_neg, ↓gdKT_pt, ↓gdKT_nt, ↓gdKT_pf, ↓gdKT_nf, eq_true hg])))
      | (refine condKT_dec (fun hg => ?_) (fun hg => ?_) <;> (try (first | simp (maxSteps := 1000000) (implicitDefEqProofs := false) (disch := omega) only [go_sem, if_pos, if_neg, tw64, twu8, ↓condKT_pos, ↓condKT_neg, ↓gdKT_pt, ↓gdKT_nt, ↓gdKT_pf, ↓gdKT_nf, eq_false hg] | simp (maxSteps := 1000000) (implicitDefEqProofs := false) (disch := omega) only [go_sem, if_pos, if_neg, tw64, twu8, ↓condKT_pos, ↓condKT_neg, ↓gdKT_pt, ↓gdKT_nt, ↓gdKT_pf, ↓gdKT_nf, eq_true hg])))
      | (refine gdKT_split (fun hg => ?_) (fun hg => ?_) <;> (try simp (maxSteps := 1000000) (implicitDefEqProofs := false) (disch := omega) only [go_sem, if_pos, if_neg, tw64, twu8, ↓condKT_pos, ↓condKT_neg, ↓gdKT_pt, ↓gdKT_nt, ↓gdKT_pf, ↓gdKT_nf, hg]))
      | (refine condKT_split (fun hg => ?_) (fun hg => ?_) <;> (try simp (maxSteps := 1000000) (implicitDefEqProofs := false) (disch := omega) only [go_sem, if_pos, if_neg, tw64, twu8, ↓condKT_pos, ↓condKT_neg, ↓gdKT_pt, ↓gdKT_nt, ↓gdKT_pf, ↓gdKT_nf, hg]))
      | (refine endT_p (.inr rfl) (by simp (maxSteps := 1000000) (implicitDefEqProofs := false) (disch := omega) only [go_sem, if_pos, if_neg, tw64, twu8, ↓condKT_pos, ↓condKT_neg, ↓gdKT_pt, ↓gdKT_nt, ↓gdKT_pf, ↓gdKT_nf]; rfl) ?_; (first | exact vb_true (by omega) | exact vb_false (by omega) | exact vb_dec (by omega) | exact vi_eq (by omega) | rfl | (refine vi_eq ?_; simp_all; done) | (refine vi_eq ?_; simp_all; omega) | (refine vi_eq ?_; simp_all; intros; omega)))
      | exact endT_v (.inr rfl) (by simp (maxSteps := 1000000) (implicitDefEqProofs := false) (disch := omega) only [go_sem, if_pos, if_neg, tw64, twu8, ↓condKT_pos, ↓condKT_neg, ↓gdKT_pt, ↓gdKT_nt, ↓gdKT_pf, ↓gdKT_nf]; try rfl) (fun _ => rfl)
end Go.Proofs.Ytngebdcbcliobaa
