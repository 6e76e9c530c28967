import Derived.Test.YtngebdcbcliobaaLU
import Derived.Test.YtngebdcbcliobaaProg
set_option linter.unusedSimpArgs false
set_option linter.unusedVariables false
set_option maxRecDepth 100000
set_option maxHeartbeats 4000000
namespace Go.Proofs.Ytngebdcbcliobaa
open Go Go.AH
attribute [local irreducible] awpT ropsT qopsT stepT condKT gdKT EndT joinK loopKT seqKT blkKT kont kontR
def sh_ByteS : Shp := .sl 5 [.i .u8]
-- laws.toByteS
def c64 : AF := ⟨22,
  (.seq (.reg [⟨(some 2), none, .mv (.v (.slice none 0 0))⟩])
  (.seq (.reg [⟨(some 5), none, .mv (.t 0)⟩,
   ⟨(some 6), none, .len (.t 5)⟩,
   ⟨(some 7), none, .mkSl 5 1 1 [(.int .u8 0)] (.t 6) (.t 6)⟩,
   ⟨(some 3), none, .mv (.t 7)⟩])
  (.seq (.seq (.reg [⟨(some 4), none, .mv (.v (.int .i64 0))⟩])
  (.block 0 (.loop (.seq (.seq (.reg [⟨(some 8), none, .mv (.t 4)⟩,
   ⟨(some 9), none, .mv (.t 0)⟩,
   ⟨(some 10), none, .len (.t 9)⟩,
   ⟨(some 11), none, .bin .lss (.t 8) (.t 10)⟩])
  (.cond (.t 11) .skip
  (.exit 0)))
  (.seq (.block 1 (.reg [⟨(some 14), none, .mv (.t 3)⟩,
   ⟨(some 15), none, .mv (.t 4)⟩,
   ⟨(some 16), none, .mv (.t 0)⟩,
   ⟨(some 17), none, .mv (.t 4)⟩,
   ⟨(some 18), none, .ia 1 (.t 16) (.t 17)⟩,
   ⟨(some 19), none, .ld (.t 18)⟩,
   ⟨(some 20), none, .ia 1 (.t 14) (.t 15)⟩,
   ⟨none, none, .st 1 (.t 20) (.t 19)⟩]))
  (.reg [⟨(some 12), none, .mv (.t 4)⟩,
   ⟨(some 13), none, .bin .add (.t 12) (.v (.int .i64 1))⟩,
   ⟨(some 4), none, .mv (.t 13)⟩]))))))
  (.seq (.reg [⟨(some 21), none, .mv (.t 3)⟩,
   ⟨(some 2), none, .mv (.t 21)⟩])
  .ret)))),
  [.t 2]⟩
theorem k64 : cFn Try.prog Try.f64 = some c64 := by kernel_rfl
theorem toByteS_ok : OkT Try.prog 64 (pureSp (toC_S sh_ByteS)) := by
  refine okT_toC (OkΓT.nil _) Try.func64 (by kernel_rfl) k64 ?_
  intro c hc hz
  simp only [sh_ByteS, HasC] at hc
  obtain ⟨rows, rfl, hr⟩ := hc
  simp only [szC] at hz
  have hlen : ∀ r ∈ rows, r.length = 1 := fun r hx => (hr r hx).len
  generalize hzz : (el [.p (.int .u8 0)] : TV) = z0
  have hz1 : cellsT z0 = [.p (.int .u8 0)] := by rw [← hzz]; rfl
  simp only [fzC, tvC_v, tvC_nl, tvC_sl, bkC]
  (dsimp only [c64]; simp (maxSteps := 8000000) (implicitDefEqProofs := false) (disch := omega) only [↓reduceIte, go_sem, if_pos, if_neg, hzz, mixR_zero 1 rows z0])
  refine awpT_loop (α := Nat) (fun i => ⟨slots [(0, .s (fzRs rows)), (3, .os 0 0 rows.length), (4, .p (.int .i64 i))], .cells 5 1 (mixR 1 rows z0 i) :: bkRs 1 (rows.take i)⟩)
    (fun i => i ≤ rows.length) (fun i => rows.length - i) 0 (Nat.zero_le _) (by simp only [List.take_zero, bkRs]; exact le_keep (Nat.zero_le _) (by simp (maxSteps := 8000000) (implicitDefEqProofs := false) (disch := omega) only [↓reduceIte, go_sem, if_pos, if_neg, slotsIn])) ?_
  intro i hi
  simp (maxSteps := 8000000) (implicitDefEqProofs := false) (disch := omega) only [↓reduceIte, go_sem, if_pos, if_neg, mixR_len 1 rows z0 hi]
  refine condKT_dec (fun hlt => ?_) (fun hge => ?_)
  · obtain ⟨r, hx⟩ := get_ex (l := rows) (i := i) (by omega)
    have hrr := hr r (List.mem_of_getElem? hx)
    have hzr := szRs_mem hx
    have hg := fzRs_get hx; have hm := mixR_get 1 (rows := rows) z0 (i := i) (by omega)
    have hs := mixR_set 1 z0 hx; have hb := bkRs_snoc 1 hx; have hn := bkRs_len 1 (rows.take i)
    obtain ⟨_, _, rfl, ⟨a0, rfl, _⟩, hrr⟩ := hrr; simp only [HasR] at hrr; subst hrr
    simp only [fzCs, fzC, tvCs, tvC_v, tvC_nl, tvC_sl, bkCs, bkC, nbC, nbCs, Nat.add_zero, List.append_nil, List.nil_append, el_one, el_two, Nat.add_comm 1 (nbRs _)] at hg hs hb
    simp (maxSteps := 8000000) (implicitDefEqProofs := false) (disch := omega) only [↓reduceIte, go_sem, if_pos, if_neg, eq_true hlt, hg, hm, hs, hn, hz1, el_two]
    refine loopKT_next (i + 1) (by omega) (by omega) ?_
    rw [hb]; refine (le_keep (Nat.zero_le _) ?_) <;> simp (maxSteps := 8000000) (implicitDefEqProofs := false) (disch := omega) only [↓reduceIte, go_sem, if_pos, if_neg, slotsIn]
  · have hb : rows.take i = rows := List.take_of_length_le (by omega)
    have hm := mixR_full 1 (rows := rows) z0 (i := i) (by omega)
    simp (maxSteps := 8000000) (implicitDefEqProofs := false) (disch := omega) only [↓reduceIte, go_sem, if_pos, if_neg, eq_false hge, hb, hm]
    refine joinK_here ?_
    simp (maxSteps := 8000000) (implicitDefEqProofs := false) (disch := omega) only [↓reduceIte, go_sem, if_pos, if_neg]
    exact endT_same (.inr rfl) (by (simp (maxSteps := 8000000) (implicitDefEqProofs := false) (disch := omega) only [↓reduceIte, go_sem, if_pos, if_neg]) <;> rfl) rfl
-- laws.eqByteS
def c67 : AF := ⟨26,
  (.seq (.reg [⟨(some 4), none, .mv (.v (.bool false))⟩])
  (.seq (.seq (.reg [⟨(some 6), none, .mv (.t 0)⟩,
   ⟨(some 7), none, .len (.t 6)⟩,
   ⟨(some 8), none, .mv (.t 1)⟩,
   ⟨(some 9), none, .len (.t 8)⟩,
   ⟨(some 10), none, .bin .neq (.t 7) (.t 9)⟩])
  (.cond (.t 10) (.seq (.reg [⟨(some 4), none, .mv (.v (.bool false))⟩])
  .ret)
  .skip))
  (.seq (.seq (.reg [⟨(some 5), none, .mv (.v (.int .i64 0))⟩])
  (.block 0 (.loop (.seq (.seq (.reg [⟨(some 11), none, .mv (.t 5)⟩,
   ⟨(some 12), none, .mv (.t 0)⟩,
   ⟨(some 13), none, .len (.t 12)⟩,
   ⟨(some 14), none, .bin .lss (.t 11) (.t 13)⟩])
  (.cond (.t 14) .skip
  (.exit 0)))
  (.seq (.block 1 (.seq (.drw [⟨(some 17), none, .mv (.t 0)⟩,
   ⟨(some 18), none, .mv (.t 5)⟩,
   ⟨(some 19), none, .ia 1 (.t 17) (.t 18)⟩,
   ⟨(some 20), none, .ld (.t 19)⟩,
   ⟨(some 21), none, .mv (.t 1)⟩,
   ⟨(some 22), none, .mv (.t 5)⟩,
   ⟨(some 23), none, .ia 1 (.t 21) (.t 22)⟩,
   ⟨(some 24), none, .ld (.t 23)⟩] [⟨(some 25), none, .bin .neq (.t 20) (.t 24)⟩])
  (.cond (.t 25) (.seq (.reg [⟨(some 4), none, .mv (.v (.bool false))⟩])
  .ret)
  .skip)))
  (.reg [⟨(some 15), none, .mv (.t 5)⟩,
   ⟨(some 16), none, .bin .add (.t 15) (.v (.int .i64 1))⟩,
   ⟨(some 5), none, .mv (.t 16)⟩]))))))
  (.seq (.reg [⟨(some 4), none, .mv (.v (.bool true))⟩])
  .ret)))),
  [.t 4]⟩
theorem k67 : cFn Try.prog Try.f67 = some c67 := by kernel_rfl
theorem eqByteS_ok : OkT Try.prog 67 (pureSp (eqC_S sh_ByteS)) := by
  refine okT_eqC (OkΓT.nil _) Try.func67 (by kernel_rfl) k67 ?_
  intro c hc hz
  obtain ⟨rows, hf, hr, hsz, _⟩ := FitC.rows hc
  rw [hf]
  (dsimp only [c67]; simp (maxSteps := 8000000) (implicitDefEqProofs := false) (disch := omega) only [↓reduceIte, go_sem, if_pos, if_neg])
  refine awpT_loop (α := Nat) (fun i => ⟨slots [(0, .s (fzRs rows)), (1, .s (fzRs rows)), (5, .p (.int .i64 i))], []⟩) (fun i => i ≤ rows.length) (fun i => rows.length - i) 0 (Nat.zero_le _) (le_of [] (by simp (maxSteps := 8000000) (implicitDefEqProofs := false) (disch := omega) only [↓reduceIte, go_sem, if_pos, if_neg]) (by simp (maxSteps := 8000000) (implicitDefEqProofs := false) (disch := omega) only [↓reduceIte, go_sem, if_pos, if_neg]) (by decide) (by simp)) ?_
  intro i hi
  simp (maxSteps := 8000000) (implicitDefEqProofs := false) (disch := omega) only [↓reduceIte, go_sem, if_pos, if_neg]
  refine condKT_dec (fun hlt => ?_) (fun hge => ?_)
  · obtain ⟨r, hx⟩ := get_ex (l := rows) (i := i) (by omega)
    have hrr := hr r (List.mem_of_getElem? hx)
    have hzr := szRs_mem hx
    have hg := fzRs_get hx
    obtain ⟨_, _, rfl, ⟨a0, rfl⟩, hrr⟩ := hrr; simp only [FitR] at hrr; subst hrr
    simp only [szCs, szC] at hzr
    simp only [fzCs, fzC, el_one, el_two] at hg
    simp (maxSteps := 8000000) (implicitDefEqProofs := false) (disch := omega) only [↓reduceIte, go_sem, if_pos, if_neg, eq_true hlt, hg, not_true, decide_false]
    refine loopKT_next (i + 1) (by omega) (by omega) ?_
    exact (le_of [] (by simp (maxSteps := 8000000) (implicitDefEqProofs := false) (disch := omega) only [↓reduceIte, go_sem, if_pos, if_neg]) (by simp (maxSteps := 8000000) (implicitDefEqProofs := false) (disch := omega) only [↓reduceIte, go_sem, if_pos, if_neg]) (by decide) (by simp))
  · simp (maxSteps := 8000000) (implicitDefEqProofs := false) (disch := omega) only [↓reduceIte, go_sem, if_pos, if_neg, eq_false hge]
    refine joinK_here ?_
    simp (maxSteps := 8000000) (implicitDefEqProofs := false) (disch := omega) only [↓reduceIte, go_sem, if_pos, if_neg]
    repeat' first
      | (refine gdKT_dec (fun hg => ?_) (fun hg => ?_) <;> (try (first | simp (maxSteps := 8000000) (implicitDefEqProofs := false) (disch := omega) only [↓reduceIte, go_sem, if_pos, if_neg, eq_false hg] | simp (maxSteps := 8000000) (implicitDefEqProofs := false) (disch := omega) only [↓reduceIte, go_sem, if_pos, if_neg, eq_true hg])))
      | (refine condKT_dec (fun hg => ?_) (fun hg => ?_) <;> (try (first | simp (maxSteps := 8000000) (implicitDefEqProofs := false) (disch := omega) only [↓reduceIte, go_sem, if_pos, if_neg, eq_false hg] | simp (maxSteps := 8000000) (implicitDefEqProofs := false) (disch := omega) only [↓reduceIte, go_sem, if_pos, if_neg, eq_true hg])))
      | (refine gdKT_split (fun hg => ?_) (fun hg => ?_) <;> (try simp (maxSteps := 8000000) (implicitDefEqProofs := false) (disch := omega) only [↓reduceIte, go_sem, if_pos, if_neg, hg]))
      | (refine condKT_split (fun hg => ?_) (fun hg => ?_) <;> (try simp (maxSteps := 8000000) (implicitDefEqProofs := false) (disch := omega) only [↓reduceIte, go_sem, if_pos, if_neg, hg]))
      | (refine endT_p (.inr rfl) (by simp (maxSteps := 8000000) (implicitDefEqProofs := false) (disch := omega) only [↓reduceIte, go_sem, if_pos, if_neg]; rfl) ?_; (first | exact vb_true (by omega) | exact vb_false (by omega) | exact vb_dec (by omega) | exact vi_eq (by omega) | rfl | (refine vi_eq ?_; simp_all; done) | (refine vi_eq ?_; simp_all; omega) | (refine vi_eq ?_; simp_all; intros; omega)))
      | exact endT_v (.inr rfl) (by simp (maxSteps := 8000000) (implicitDefEqProofs := false) (disch := omega) only [↓reduceIte, go_sem, if_pos, if_neg]; try rfl) (fun _ => rfl)
-- laws.szByteS
def c99 : AF := ⟨12,
  (.seq (.reg [⟨(some 4), none, .mv (.v (.int .i64 0))⟩])
  (.seq (.reg [⟨(some 5), none, .mv (.t 1)⟩,
   ⟨(some 6), none, .mv (.t 0)⟩,
   ⟨(some 7), none, .len (.t 6)⟩,
   ⟨(some 8), none, .bin .sub (.t 5) (.t 7)⟩,
   ⟨(some 1), none, .mv (.t 8)⟩])
  (.seq (.seq (.reg [⟨(some 9), none, .mv (.t 1)⟩,
   ⟨(some 10), none, .bin .lss (.t 9) (.v (.int .i64 0))⟩])
  (.cond (.t 10) (.seq (.reg [⟨(some 4), none, .mv (.v (.int .i64 (-1)))⟩])
  .ret)
  .skip))
  (.seq (.reg [⟨(some 11), none, .mv (.t 1)⟩,
   ⟨(some 4), none, .mv (.t 11)⟩])
  .ret)))),
  [.t 4]⟩
theorem k99 : cFn Try.prog Try.f99 = some c99 := by kernel_rfl
theorem szByteS_ok : OkT Try.prog 99 (pureSp (szC_S sh_ByteS)) := by
  refine okT_szC (OkΓT.nil _) Try.func99 (by kernel_rfl) k99 ?_
  intro c k hc h1 h2 hz
  simp only [sh_ByteS, HasC] at hc
  obtain ⟨rows, rfl, hr⟩ := hc
  generalize hN : szC _ = N at *
  simp only [szC] at hN
  simp only [lnC, Bool.and_eq_true, decide_eq_true_eq] at hz
  obtain ⟨hz, hzr⟩ := hz
  simp only [fzC]
  have hz0 : szRs rows = 0 := szRs_zero fun r hx => by
    have hrr := hr r hx
    obtain ⟨_, _, rfl, ⟨a0, rfl, _⟩, hrr⟩ := hrr; simp only [HasR] at hrr; subst hrr
    rfl
  by_cases q : (rows.length : Int) ≤ k
  · rw [if_pos (by omega), show (N : Int) = rows.length by omega]
    (dsimp only [c99]; simp (maxSteps := 8000000) (implicitDefEqProofs := false) (disch := omega) only [↓reduceIte, go_sem, if_pos, if_neg])
    repeat' first
      | (refine gdKT_dec (fun hg => ?_) (fun hg => ?_) <;> (try (first | simp (maxSteps := 8000000) (implicitDefEqProofs := false) (disch := omega) only [↓reduceIte, go_sem, if_pos, if_neg, eq_false hg] | simp (maxSteps := 8000000) (implicitDefEqProofs := false) (disch := omega) only [↓reduceIte, go_sem, if_pos, if_neg, eq_true hg])))
      | (refine condKT_dec (fun hg => ?_) (fun hg => ?_) <;> (try (first | simp (maxSteps := 8000000) (implicitDefEqProofs := false) (disch := omega) only [↓reduceIte, go_sem, if_pos, if_neg, eq_false hg] | simp (maxSteps := 8000000) (implicitDefEqProofs := false) (disch := omega) only [↓reduceIte, go_sem, if_pos, if_neg, eq_true hg])))
      | (refine gdKT_split (fun hg => ?_) (fun hg => ?_) <;> (try simp (maxSteps := 8000000) (implicitDefEqProofs := false) (disch := omega) only [↓reduceIte, go_sem, if_pos, if_neg, hg]))
      | (refine condKT_split (fun hg => ?_) (fun hg => ?_) <;> (try simp (maxSteps := 8000000) (implicitDefEqProofs := false) (disch := omega) only [↓reduceIte, go_sem, if_pos, if_neg, hg]))
      | (refine endT_p (.inr rfl) (by simp (maxSteps := 8000000) (implicitDefEqProofs := false) (disch := omega) only [↓reduceIte, go_sem, if_pos, if_neg]; rfl) ?_; (first | exact vb_true (by omega) | exact vb_false (by omega) | exact vb_dec (by omega) | exact vi_eq (by omega) | rfl | (refine vi_eq ?_; simp_all; done) | (refine vi_eq ?_; simp_all; omega) | (refine vi_eq ?_; simp_all; intros; omega)))
      | exact endT_v (.inr rfl) (by simp (maxSteps := 8000000) (implicitDefEqProofs := false) (disch := omega) only [↓reduceIte, go_sem, if_pos, if_neg]; try rfl) (fun _ => rfl)
  · rw [if_neg (by omega)]
    (dsimp only [c99]; simp (maxSteps := 8000000) (implicitDefEqProofs := false) (disch := omega) only [↓reduceIte, go_sem, if_pos, if_neg])
    repeat' first
      | (refine gdKT_dec (fun hg => ?_) (fun hg => ?_) <;> (try (first | simp (maxSteps := 8000000) (implicitDefEqProofs := false) (disch := omega) only [↓reduceIte, go_sem, if_pos, if_neg, eq_false hg] | simp (maxSteps := 8000000) (implicitDefEqProofs := false) (disch := omega) only [↓reduceIte, go_sem, if_pos, if_neg, eq_true hg])))
      | (refine condKT_dec (fun hg => ?_) (fun hg => ?_) <;> (try (first | simp (maxSteps := 8000000) (implicitDefEqProofs := false) (disch := omega) only [↓reduceIte, go_sem, if_pos, if_neg, eq_false hg] | simp (maxSteps := 8000000) (implicitDefEqProofs := false) (disch := omega) only [↓reduceIte, go_sem, if_pos, if_neg, eq_true hg])))
      | (refine gdKT_split (fun hg => ?_) (fun hg => ?_) <;> (try simp (maxSteps := 8000000) (implicitDefEqProofs := false) (disch := omega) only [↓reduceIte, go_sem, if_pos, if_neg, hg]))
      | (refine condKT_split (fun hg => ?_) (fun hg => ?_) <;> (try simp (maxSteps := 8000000) (implicitDefEqProofs := false) (disch := omega) only [↓reduceIte, go_sem, if_pos, if_neg, hg]))
      | (refine endT_p (.inr rfl) (by simp (maxSteps := 8000000) (implicitDefEqProofs := false) (disch := omega) only [↓reduceIte, go_sem, if_pos, if_neg]; rfl) ?_; (first | exact vb_true (by omega) | exact vb_false (by omega) | exact vb_dec (by omega) | exact vi_eq (by omega) | rfl | (refine vi_eq ?_; simp_all; done) | (refine vi_eq ?_; simp_all; omega) | (refine vi_eq ?_; simp_all; intros; omega)))
      | exact endT_v (.inr rfl) (by simp (maxSteps := 8000000) (implicitDefEqProofs := false) (disch := omega) only [↓reduceIte, go_sem, if_pos, if_neg]; try rfl) (fun _ => rfl)
-- laws.heldByteS
def c106 : AF := ⟨22,
  (.seq (.reg [⟨(some 4), none, .mv (.v (.int .i64 0))⟩])
  (.seq (.seq (.reg [⟨(some 5), none, .mv (.v (.int .i64 0))⟩])
  (.block 0 (.loop (.seq (.seq (.reg [⟨(some 6), none, .mv (.t 5)⟩,
   ⟨(some 7), none, .mv (.t 0)⟩,
   ⟨(some 8), none, .len (.t 7)⟩,
   ⟨(some 9), none, .bin .lss (.t 6) (.t 8)⟩])
  (.cond (.t 9) .skip
  (.exit 0)))
  (.seq (.block 1 (.seq (.seq (.reg [⟨(some 12), none, .mv (.t 0)⟩,
   ⟨(some 13), none, .mv (.t 5)⟩,
   ⟨(some 14), none, .ia 1 (.t 12) (.t 13)⟩,
   ⟨(some 15), none, .ld (.t 14)⟩,
   ⟨(some 16), none, .mv (.t 1)⟩,
   ⟨(some 17), none, .cvI .u8 (.t 16)⟩,
   ⟨(some 18), none, .bin .neq (.t 15) (.t 17)⟩])
  (.cond (.t 18) (.seq (.reg [⟨(some 4), none, .mv (.v (.int .i64 (-1)))⟩])
  .ret)
  .skip))
  (.reg [⟨(some 19), none, .mv (.t 1)⟩,
   ⟨(some 20), none, .bin .add (.t 19) (.v (.int .i64 1))⟩,
   ⟨(some 1), none, .mv (.t 20)⟩])))
  (.reg [⟨(some 10), none, .mv (.t 5)⟩,
   ⟨(some 11), none, .bin .add (.t 10) (.v (.int .i64 1))⟩,
   ⟨(some 5), none, .mv (.t 11)⟩]))))))
  (.seq (.reg [⟨(some 21), none, .mv (.t 1)⟩,
   ⟨(some 4), none, .mv (.t 21)⟩])
  .ret))),
  [.t 4]⟩
theorem k106 : cFn Try.prog Try.f106 = some c106 := by kernel_rfl
theorem heldByteS_ok : OkT Try.prog 106 (pureSp (hdC_S sh_ByteS)) := by
  refine okT_hdC (OkΓT.nil _) Try.func106 (by kernel_rfl) k106 ?_
  intro c k hc h1 hz
  obtain ⟨rows, _, hr, _, hwt, hf⟩ := FitC.rows hc
  rw [hwt] at hz ⊢; rw [hf]
  have hlw : rows.length ≤ wtRs rows := wtRs_rows fun r hx => by
    have hrr := hr r hx
    obtain ⟨_, _, rfl, ⟨a0, rfl⟩, hrr⟩ := hrr; simp only [FitR] at hrr; subst hrr
    simp only [wtIs, wtI]; omega
  (dsimp only [c106]; simp (maxSteps := 8000000) (implicitDefEqProofs := false) (disch := omega) only [↓reduceIte, go_sem, if_pos, if_neg])
  refine awpT_loop (α := Nat) (fun i => ⟨slots [(0, .s (fzRs (mkRs rows k))), (1, .p (.int .i64 (k + (wtRs (rows.take i) : Int)))), (5, .p (.int .i64 i))], []⟩) (fun i => i ≤ rows.length) (fun i => rows.length - i) 0 (Nat.zero_le _) (by simp only [List.take_zero, wtRs, nat0T, Int.add_zero]; exact (le_of [] (by simp (maxSteps := 8000000) (implicitDefEqProofs := false) (disch := omega) only [↓reduceIte, go_sem, if_pos, if_neg]) (by simp (maxSteps := 8000000) (implicitDefEqProofs := false) (disch := omega) only [↓reduceIte, go_sem, if_pos, if_neg]) (by decide) (by simp))) ?_
  intro i hi
  simp (maxSteps := 8000000) (implicitDefEqProofs := false) (disch := omega) only [↓reduceIte, go_sem, if_pos, if_neg]
  refine condKT_dec (fun hlt => ?_) (fun hge => ?_)
  · obtain ⟨r, hx⟩ := get_ex (l := rows) (i := i) (by omega)
    have hrr := hr r (List.mem_of_getElem? hx)
    have hwr := wtRs_mem hx; have hsn := wtRs_snoc hx
    have hg := fzRs_get (mkRs_get (k := k) hx)
    generalize hm : k + (wtRs (rows.take i) : Int) = m at *
    obtain ⟨_, _, rfl, ⟨a0, rfl⟩, hrr⟩ := hrr; simp only [FitR] at hrr; subst hrr
    simp only [wtIs, wtI, Nat.add_zero] at hwr hsn
    simp only [mkIs, mkI, mkV, wtI, nat1T, fzCs, fzC, el_one, el_two] at hg
    simp (maxSteps := 8000000) (implicitDefEqProofs := false) (disch := omega) only [↓reduceIte, go_sem, if_pos, if_neg, eq_true hlt, hg, dec_self, Bool.not_true, not_true, decide_false]
    refine loopKT_next (i + 1) (by omega) (by omega) ?_
    have hs2 : k + (wtRs (rows.take (i + 1)) : Int) = m + 1 := by rw [hsn]; omega
    exact (le_of [] (by simp (maxSteps := 8000000) (implicitDefEqProofs := false) (disch := omega) only [↓reduceIte, go_sem, if_pos, if_neg, hs2]) (by simp (maxSteps := 8000000) (implicitDefEqProofs := false) (disch := omega) only [↓reduceIte, go_sem, if_pos, if_neg, hs2]) (by decide) (by simp))
  · have hb : rows.take i = rows := List.take_of_length_le (by omega)
    simp (maxSteps := 8000000) (implicitDefEqProofs := false) (disch := omega) only [↓reduceIte, go_sem, if_pos, if_neg, eq_false hge, hb]
    refine joinK_here ?_
    simp (maxSteps := 8000000) (implicitDefEqProofs := false) (disch := omega) only [↓reduceIte, go_sem, if_pos, if_neg]
    repeat' first
      | (refine gdKT_dec (fun hg => ?_) (fun hg => ?_) <;> (try (first | simp (maxSteps := 8000000) (implicitDefEqProofs := false) (disch := omega) only [↓reduceIte, go_sem, if_pos, if_neg, eq_false hg] | simp (maxSteps := 8000000) (implicitDefEqProofs := false) (disch := omega) only [↓reduceIte, go_sem, if_pos, if_neg, eq_true hg])))
      | (refine condKT_dec (fun hg => ?_) (fun hg => ?_) <;> (try (first | simp (maxSteps := 8000000) (implicitDefEqProofs := false) (disch := omega) only [↓reduceIte, go_sem, if_pos, if_neg, eq_false hg] | simp (maxSteps := 8000000) (implicitDefEqProofs := false) (disch := omega) only [↓reduceIte, go_sem, if_pos, if_neg, eq_true hg])))
      | (refine gdKT_split (fun hg => ?_) (fun hg => ?_) <;> (try simp (maxSteps := 8000000) (implicitDefEqProofs := false) (disch := omega) only [↓reduceIte, go_sem, if_pos, if_neg, hg]))
      | (refine condKT_split (fun hg => ?_) (fun hg => ?_) <;> (try simp (maxSteps := 8000000) (implicitDefEqProofs := false) (disch := omega) only [↓reduceIte, go_sem, if_pos, if_neg, hg]))
      | (refine endT_p (.inr rfl) (by simp (maxSteps := 8000000) (implicitDefEqProofs := false) (disch := omega) only [↓reduceIte, go_sem, if_pos, if_neg]; rfl) ?_; (first | exact vb_true (by omega) | exact vb_false (by omega) | exact vb_dec (by omega) | exact vi_eq (by omega) | rfl | (refine vi_eq ?_; simp_all; done) | (refine vi_eq ?_; simp_all; omega) | (refine vi_eq ?_; simp_all; intros; omega)))
      | exact endT_v (.inr rfl) (by simp (maxSteps := 8000000) (implicitDefEqProofs := false) (disch := omega) only [↓reduceIte, go_sem, if_pos, if_neg]; try rfl) (fun _ => rfl)
-- laws.markByteS
def c68 : AF := ⟨20,
  (.seq (.reg [⟨(some 4), none, .mv (.v (.int .i64 0))⟩])
  (.seq (.seq (.reg [⟨(some 5), none, .mv (.v (.int .i64 0))⟩])
  (.block 0 (.loop (.seq (.seq (.reg [⟨(some 6), none, .mv (.t 5)⟩,
   ⟨(some 7), none, .mv (.t 0)⟩,
   ⟨(some 8), none, .len (.t 7)⟩,
   ⟨(some 9), none, .bin .lss (.t 6) (.t 8)⟩])
  (.cond (.t 9) .skip
  (.exit 0)))
  (.seq (.block 1 (.seq (.reg [⟨(some 12), none, .mv (.t 0)⟩,
   ⟨(some 13), none, .mv (.t 5)⟩,
   ⟨(some 14), none, .mv (.t 1)⟩,
   ⟨(some 15), none, .cvI .u8 (.t 14)⟩,
   ⟨(some 16), none, .ia 1 (.t 12) (.t 13)⟩,
   ⟨none, none, .st 1 (.t 16) (.t 15)⟩])
  (.reg [⟨(some 17), none, .mv (.t 1)⟩,
   ⟨(some 18), none, .bin .add (.t 17) (.v (.int .i64 1))⟩,
   ⟨(some 1), none, .mv (.t 18)⟩])))
  (.reg [⟨(some 10), none, .mv (.t 5)⟩,
   ⟨(some 11), none, .bin .add (.t 10) (.v (.int .i64 1))⟩,
   ⟨(some 5), none, .mv (.t 11)⟩]))))))
  (.seq (.reg [⟨(some 19), none, .mv (.t 1)⟩,
   ⟨(some 4), none, .mv (.t 19)⟩])
  .ret))),
  [.t 4]⟩
theorem k68 : cFn Try.prog Try.f68 = some c68 := by kernel_rfl
theorem markByteS_ok : OkT Try.prog 68 (mkC_Sp sh_ByteS) := by
  refine okT_mkC (OkΓT.nil _) Try.func68 (by kernel_rfl) k68 ?_
  intro c k hc h1 hz
  simp only [sh_ByteS, FitC] at hc
  rcases hc with rfl | ⟨z, rows, rfl, hz0, hr⟩
  · simp only [wtC, mkC, nbC, tvC_v, tvC_nl, tvC_sl, bkC, nat0T, Int.add_zero] at *
    (dsimp only [c68]; simp (maxSteps := 8000000) (implicitDefEqProofs := false) (disch := omega) only [↓reduceIte, go_sem, if_pos, if_neg])
    refine awpT_loop (α := Unit) (fun _ => ⟨slots [(0, .nl), (1, .p (.int .i64 k)), (5, .p (.int .i64 0))], []⟩) (fun _ => True) (fun _ => 0) () trivial (le_keep (Nat.zero_le _) (by simp (maxSteps := 8000000) (implicitDefEqProofs := false) (disch := omega) only [↓reduceIte, go_sem, if_pos, if_neg, slotsIn])) ?_
    intro _ _
    simp (maxSteps := 8000000) (implicitDefEqProofs := false) (disch := omega) only [↓reduceIte, go_sem, if_pos, if_neg]
    refine joinK_at _ (le_same _ _ (Nat.zero_le _)) ?_
    simp (maxSteps := 8000000) (implicitDefEqProofs := false) (disch := omega) only [↓reduceIte, go_sem, if_pos, if_neg]
    exact endK_same (.inr rfl) (Nat.zero_le _) (by simp (maxSteps := 8000000) (implicitDefEqProofs := false) (disch := omega) only [↓reduceIte, go_sem, if_pos, if_neg]) rfl
  · simp only [wtC] at hz ⊢
    have hlw : rows.length ≤ wtRs rows := wtRs_rows fun r hx => by
      have hrr := hr r hx
      obtain ⟨_, _, rfl, ⟨a0, rfl⟩, hrr⟩ := hrr; simp only [FitR] at hrr; subst hrr
      simp only [wtIs, wtI]; omega
    simp only [tvC_v, tvC_nl, tvC_sl, bkC, mkC, Nat.zero_add]
    generalize hnb : nbC _ = nb
    simp only [nbC] at hnb
    have hnb2 : ∀ i, nb = (bkRs 1 (mkAt rows k i)).length + 1 := fun i => by
      have := mkRs_nb (rows.take i) k; have h2 := nbRs_app (rows.take i) (rows.drop i)
      rw [List.take_append_drop] at h2; rw [bkRs_len, mkAt, nbRs_app]; omega
    (dsimp only [c68]; simp (maxSteps := 8000000) (implicitDefEqProofs := false) (disch := omega) only [↓reduceIte, go_sem, if_pos, if_neg])
    refine awpT_loop (α := Nat) (fun i => ⟨slots [(0, .os 0 0 rows.length), (1, .p (.int .i64 (k + (wtRs (rows.take i) : Int)))), (5, .p (.int .i64 i))], .cells 5 z (tvRs 1 (mkAt rows k i)) :: bkRs 1 (mkAt rows k i)⟩)
      (fun i => i ≤ rows.length) (fun i => rows.length - i) 0 (Nat.zero_le _) (by simp only [mkAt_zero, List.take_zero, wtRs, nat0T, Int.add_zero]; exact le_keep (by have := hnb2 0; rw [mkAt_zero] at this; rw [List.length_cons]; omega) (by simp (maxSteps := 8000000) (implicitDefEqProofs := false) (disch := omega) only [↓reduceIte, go_sem, if_pos, if_neg, slotsIn])) ?_
    intro i hi
    have hl1 : (tvRs 1 (mkAt rows k i)).length = rows.length := by rw [tvRs_len, mkAt_len]
    simp (maxSteps := 8000000) (implicitDefEqProofs := false) (disch := omega) only [↓reduceIte, go_sem, if_pos, if_neg, hl1]
    refine condKT_dec (fun hlt => ?_) (fun hge => ?_)
    · obtain ⟨r, hx⟩ := get_ex (l := rows) (i := i) (by omega)
      obtain rfl : z = 1 := by rcases hz0 with h | h; (rw [h] at hx; simp at hx); exact h
      have hrr := hr r (List.mem_of_getElem? hx)
      have hwr := wtRs_mem hx; have hsn := wtRs_snoc hx
      have hg := mkAt_get 1 (k := k) hx; have hs := mkAt_set 1 (k := k) hx
      generalize hm : k + (wtRs (rows.take i) : Int) = m at *
      obtain ⟨_, _, rfl, ⟨a0, rfl⟩, hrr⟩ := hrr; simp only [FitR] at hrr; subst hrr
      simp only [wtIs, wtI, Nat.add_zero] at hwr hsn
      simp only [mkIs, mkI, mkV, wtI, nat1T, tvCs, tvC_v, tvC_nl, tvC_sl, nbC, Nat.add_zero, mkC_tv, el_one, el_two] at hg hs
      have hb2 : bkRs 1 (mkAt rows k (i + 1)) = bkRs 1 (mkAt rows k i) := by rw [mkAt_bkn 1 hx, mkAt_bk 1 hx]; rfl
      simp (maxSteps := 8000000) (implicitDefEqProofs := false) (disch := omega) only [↓reduceIte, go_sem, if_pos, if_neg, hl1, hg, List.getElem?_set_self, List.set_set]
      refine loopKT_next (i + 1) (by omega) (by omega) ?_
      have hs2 : k + (wtRs (rows.take (i + 1)) : Int) = m + 1 := by rw [hsn]; omega
      rw [hs2, ← hs, hb2]
      exact le_keep (by have := hnb2 i; rw [List.length_cons]; omega) (by simp (maxSteps := 8000000) (implicitDefEqProofs := false) (disch := omega) only [↓reduceIte, go_sem, if_pos, if_neg, slotsIn])
    · have hb : rows.take i = rows := List.take_of_length_le (by omega)
      have hmf := mkAt_full (k := k) (show rows.length ≤ i by omega)
      have hnb3 := hnb2 i; rw [hmf] at hnb3
      simp (maxSteps := 8000000) (implicitDefEqProofs := false) (disch := omega) only [↓reduceIte, go_sem, if_pos, if_neg, eq_false hge, hb, hmf]
      refine joinK_at _ (le_same _ _ (by show nb ≤ List.length (_ :: _); rw [List.length_cons]; omega)) ?_
      simp (maxSteps := 8000000) (implicitDefEqProofs := false) (disch := omega) only [↓reduceIte, go_sem, if_pos, if_neg]
      exact endK_same (.inr rfl) (by rw [List.length_cons]; omega) (by simp (maxSteps := 8000000) (implicitDefEqProofs := false) (disch := omega) only [↓reduceIte, go_sem, if_pos, if_neg]) rfl
/-! BytesResult -/
def sh_BytesResult : List Shp := [.i .i64, sh_ByteS]
theorem sh_BytesResult_Has {cs : List Cell} (h : HasR sh_BytesResult cs) : ∃ (a0 : Int) (c1 : Cell), cs = [.v (.int .i64 a0), c1] ∧ HasC sh_ByteS c1 := by
  obtain ⟨_, _, rfl, ⟨a0, rfl, _⟩, c1, _, rfl, hc1, h⟩ := h
  simp only [HasR] at h; subst h
  exact ⟨a0, c1, rfl, hc1⟩
theorem sh_BytesResult_mkHas {c1 : Cell} (hc1 : HasC sh_ByteS c1) (a0 : Int) : HasR sh_BytesResult [.v (.int .i64 a0), c1] := by
  exact ⟨_, _, rfl, ⟨_, rfl, fun h => by cases h⟩, _, _, rfl, hc1, rfl⟩
theorem sh_BytesResult_Fit {cs : List Cell} (h : FitR sh_BytesResult cs) : ∃ (a0 : Int) (c1 : Cell), cs = [.v (.int .i64 a0), c1] ∧ FitC sh_ByteS c1 := by
  obtain ⟨_, _, rfl, ⟨a0, rfl⟩, c1, _, rfl, hc1, h⟩ := h
  simp only [FitR] at h; subst h
  exact ⟨a0, c1, rfl, hc1⟩
theorem sh_BytesResult_mkFit {c1 : Cell} (hc1 : FitC sh_ByteS c1) (a0 : Int) : FitR sh_BytesResult [.v (.int .i64 a0), c1] := by
  exact ⟨_, _, rfl, ⟨_, rfl⟩, _, _, rfl, hc1, rfl⟩
theorem eq_BytesResult_at {c1 : Cell} (hc1 : FitC sh_ByteS c1) (hz : szC c1 ≤ 1099511627776) (a0 : Int) : eqR_S sh_BytesResult [.agg [.p (.int .i64 a0), fzC c1], .agg [.p (.int .i64 a0), fzC c1]] = some (.p (.bool true), []) := by
  exact eqR_at (sh_BytesResult_mkFit hc1 a0) (by simp only [szCs, szC]; omega)
-- laws.eqBytesResult
def c42 : AF := ⟨16,
  (.seq (.reg [⟨(some 2), none, .box 66 (.t 0)⟩,
   ⟨(some 3), none, .box 66 (.t 1)⟩,
   ⟨(some 4), none, .mv (.v (.bool false))⟩])
  (.seq (.seq (.reg [⟨(some 5), none, .fa (.t 2) 0⟩,
   ⟨(some 6), none, .ld (.t 5)⟩,
   ⟨(some 7), none, .fa (.t 3) 0⟩,
   ⟨(some 8), none, .ld (.t 7)⟩,
   ⟨(some 9), none, .bin .neq (.t 6) (.t 8)⟩])
  (.cond (.t 9) (.seq (.reg [⟨(some 4), none, .mv (.v (.bool false))⟩])
  .ret)
  .skip))
  (.seq (.seq (.reg [⟨(some 10), none, .fa (.t 2) 1⟩,
   ⟨(some 11), none, .ld (.t 10)⟩,
   ⟨(some 12), none, .fa (.t 3) 1⟩,
   ⟨(some 13), none, .ld (.t 12)⟩,
   ⟨(some 14), none, .call 67 [(.t 11), (.t 13)]⟩,
   ⟨(some 15), none, .un .not (.t 14)⟩])
  (.cond (.t 15) (.seq (.reg [⟨(some 4), none, .mv (.v (.bool false))⟩])
  .ret)
  .skip))
  (.seq (.reg [⟨(some 4), none, .mv (.v (.bool true))⟩])
  .ret)))),
  [.t 4]⟩
theorem k42 : cFn Try.prog Try.f42 = some c42 := by kernel_rfl
theorem eqBytesResult_ok : OkT Try.prog 42 (pureSp (eqR_S sh_BytesResult)) := by
  refine okT_eqR (OkΓT.cons eqByteS_ok (OkΓT.nil _)) Try.func42 (by kernel_rfl) k42 ?_
  intro c hc hz
  obtain ⟨a0, c1, rfl, hc1⟩ := sh_BytesResult_Fit hc
  simp only [szCs, szC] at hz
  simp only [fzCs, fzC]
  (dsimp only [c42]; simp (maxSteps := 8000000) (implicitDefEqProofs := false) (disch := omega) only [↓reduceIte, go_sem, if_pos, if_neg, eqC_at hc1 (by omega)])
  repeat' first
    | (refine gdKT_dec (fun hg => ?_) (fun hg => ?_) <;> (try (first | simp (maxSteps := 8000000) (implicitDefEqProofs := false) (disch := omega) only [↓reduceIte, go_sem, if_pos, if_neg, eq_false hg, eqC_at hc1 (by omega)] | simp (maxSteps := 8000000) (implicitDefEqProofs := false) (disch := omega) only [↓reduceIte, go_sem, if_pos, if_neg, eq_true hg, eqC_at hc1 (by omega)])))
    | (refine condKT_dec (fun hg => ?_) (fun hg => ?_) <;> (try (first | simp (maxSteps := 8000000) (implicitDefEqProofs := false) (disch := omega) only [↓reduceIte, go_sem, if_pos, if_neg, eq_false hg, eqC_at hc1 (by omega)] | simp (maxSteps := 8000000) (implicitDefEqProofs := false) (disch := omega) only [↓reduceIte, go_sem, if_pos, if_neg, eq_true hg, eqC_at hc1 (by omega)])))
    | (refine gdKT_split (fun hg => ?_) (fun hg => ?_) <;> (try simp (maxSteps := 8000000) (implicitDefEqProofs := false) (disch := omega) only [↓reduceIte, go_sem, if_pos, if_neg, hg, eqC_at hc1 (by omega)]))
    | (refine condKT_split (fun hg => ?_) (fun hg => ?_) <;> (try simp (maxSteps := 8000000) (implicitDefEqProofs := false) (disch := omega) only [↓reduceIte, go_sem, if_pos, if_neg, hg, eqC_at hc1 (by omega)]))
    | (refine endT_p (.inr rfl) (by simp (maxSteps := 8000000) (implicitDefEqProofs := false) (disch := omega) only [↓reduceIte, go_sem, if_pos, if_neg, eqC_at hc1 (by omega)]; rfl) ?_; (first | exact vb_true (by omega) | exact vb_false (by omega) | exact vb_dec (by omega) | exact vi_eq (by omega) | rfl | (refine vi_eq ?_; simp_all; done) | (refine vi_eq ?_; simp_all; omega) | (refine vi_eq ?_; simp_all; intros; omega)))
    | exact endT_v (.inr rfl) (by simp (maxSteps := 8000000) (implicitDefEqProofs := false) (disch := omega) only [↓reduceIte, go_sem, if_pos, if_neg, eqC_at hc1 (by omega)]; try rfl) (fun _ => rfl)
theorem hd_BytesResult_at {c1 : Cell} (hc1 : FitC sh_ByteS c1) {k : Int} (hk : 0 ≤ k) (hz : k + (wtC c1 : Int) ≤ 1099511627776) (a0 : Int) : hdR_S sh_BytesResult [.agg [.p (.int .i64 a0), fzC (mkC c1 (k))], .p (.int .i64 k)] = some (.p (.int .i64 (k + (wtC c1 : Int))), []) := by
  have := hdR_at (k := k) (sh_BytesResult_mkFit hc1 a0) hk (by simp only [wtCs, wtC_v]; omega)
  simp only [mkCs, mkC_v, wtC_v, nat0T, Int.add_zero, fzCs, fzC, wtCs, Nat.zero_add, Nat.add_zero] at this
  exact this
-- laws.heldBytesResult
def c46 : AF := ⟨12,
  (.seq (.reg [⟨(some 2), none, .box 66 (.t 0)⟩,
   ⟨(some 4), none, .mv (.v (.int .i64 0))⟩])
  (.seq (.reg [⟨(some 5), none, .fa (.t 2) 1⟩,
   ⟨(some 6), none, .ld (.t 5)⟩,
   ⟨(some 7), none, .mv (.t 1)⟩,
   ⟨(some 8), none, .call 106 [(.t 6), (.t 7)]⟩,
   ⟨(some 1), none, .mv (.t 8)⟩])
  (.seq (.seq (.reg [⟨(some 9), none, .mv (.t 1)⟩,
   ⟨(some 10), none, .bin .lss (.t 9) (.v (.int .i64 0))⟩])
  (.cond (.t 10) (.seq (.reg [⟨(some 4), none, .mv (.v (.int .i64 (-1)))⟩])
  .ret)
  .skip))
  (.seq (.reg [⟨(some 11), none, .mv (.t 1)⟩,
   ⟨(some 4), none, .mv (.t 11)⟩])
  .ret)))),
  [.t 4]⟩
theorem k46 : cFn Try.prog Try.f46 = some c46 := by kernel_rfl
theorem heldBytesResult_ok : OkT Try.prog 46 (pureSp (hdR_S sh_BytesResult)) := by
  refine okT_hdR (OkΓT.cons heldByteS_ok (OkΓT.nil _)) Try.func46 (by kernel_rfl) k46 ?_
  intro c k hc h1 hz
  obtain ⟨a0, c1, rfl, hc1⟩ := sh_BytesResult_Fit hc
  simp only [wtCs, wtC_v, Nat.zero_add, Nat.add_zero] at hz ⊢
  simp only [mkCs, mkC_v, wtC_v, nat0T, Int.add_zero, fzCs, fzC]
  (dsimp only [c46]; simp (maxSteps := 8000000) (implicitDefEqProofs := false) (disch := omega) only [↓reduceIte, go_sem, if_pos, if_neg, hdC_at hc1 (show 0 ≤ k by omega) (by omega)])
  repeat' first
    | (refine gdKT_dec (fun hg => ?_) (fun hg => ?_) <;> (try (first | simp (maxSteps := 8000000) (implicitDefEqProofs := false) (disch := omega) only [↓reduceIte, go_sem, if_pos, if_neg, eq_false hg, hdC_at hc1 (show 0 ≤ k by omega) (by omega)] | simp (maxSteps := 8000000) (implicitDefEqProofs := false) (disch := omega) only [↓reduceIte, go_sem, if_pos, if_neg, eq_true hg, hdC_at hc1 (show 0 ≤ k by omega) (by omega)])))
    | (refine condKT_dec (fun hg => ?_) (fun hg => ?_) <;> (try (first | simp (maxSteps := 8000000) (implicitDefEqProofs := false) (disch := omega) only [↓reduceIte, go_sem, if_pos, if_neg, eq_false hg, hdC_at hc1 (show 0 ≤ k by omega) (by omega)] | simp (maxSteps := 8000000) (implicitDefEqProofs := false) (disch := omega) only [↓reduceIte, go_sem, if_pos, if_neg, eq_true hg, hdC_at hc1 (show 0 ≤ k by omega) (by omega)])))
    | (refine gdKT_split (fun hg => ?_) (fun hg => ?_) <;> (try simp (maxSteps := 8000000) (implicitDefEqProofs := false) (disch := omega) only [↓reduceIte, go_sem, if_pos, if_neg, hg, hdC_at hc1 (show 0 ≤ k by omega) (by omega)]))
    | (refine condKT_split (fun hg => ?_) (fun hg => ?_) <;> (try simp (maxSteps := 8000000) (implicitDefEqProofs := false) (disch := omega) only [↓reduceIte, go_sem, if_pos, if_neg, hg, hdC_at hc1 (show 0 ≤ k by omega) (by omega)]))
    | (refine endT_p (.inr rfl) (by simp (maxSteps := 8000000) (implicitDefEqProofs := false) (disch := omega) only [↓reduceIte, go_sem, if_pos, if_neg, hdC_at hc1 (show 0 ≤ k by omega) (by omega)]; rfl) ?_; (first | exact vb_true (by omega) | exact vb_false (by omega) | exact vb_dec (by omega) | exact vi_eq (by omega) | rfl | (refine vi_eq ?_; simp_all; done) | (refine vi_eq ?_; simp_all; omega) | (refine vi_eq ?_; simp_all; intros; omega)))
    | exact endT_v (.inr rfl) (by simp (maxSteps := 8000000) (implicitDefEqProofs := false) (disch := omega) only [↓reduceIte, go_sem, if_pos, if_neg, hdC_at hc1 (show 0 ≤ k by omega) (by omega)]; try rfl) (fun _ => rfl)
-- laws.markBytesResult
def c45 : AF := ⟨10,
  (.seq (.reg [⟨(some 2), none, .box 66 (.t 0)⟩,
   ⟨(some 4), none, .mv (.v (.int .i64 0))⟩])
  (.seq (.reg [⟨(some 5), none, .fa (.t 2) 1⟩,
   ⟨(some 6), none, .ld (.t 5)⟩,
   ⟨(some 7), none, .mv (.t 1)⟩,
   ⟨(some 8), none, .call 68 [(.t 6), (.t 7)]⟩,
   ⟨(some 1), none, .mv (.t 8)⟩])
  (.seq (.reg [⟨(some 9), none, .mv (.t 1)⟩,
   ⟨(some 4), none, .mv (.t 9)⟩])
  .ret))),
  [.t 4]⟩
theorem k45 : cFn Try.prog Try.f45 = some c45 := by kernel_rfl
theorem markBytesResult_ok : OkT Try.prog 45 (mkR_Sp sh_BytesResult) := by
  refine okT_mkR (OkΓT.cons markByteS_ok (OkΓT.nil _)) Try.func45 (by kernel_rfl) k45 ?_
  intro c k hc h1 hz
  obtain ⟨a0, c1, rfl, hc1⟩ := sh_BytesResult_Fit hc
  simp only [wtCs, wtC_v, Nat.zero_add, Nat.add_zero] at hz ⊢
  simp only [mkCs, mkC_v, wtC_v, nat0T, Int.add_zero]
  simp only [tvCs, tvC_v, tvC_nl, tvC_sl, nbC, Nat.add_zero, Nat.zero_add]
  generalize hN : nbCs _ = N
  have l0 : (bkCs 0 [.v (.int .i64 a0), c1]).length = N := by rw [bkCs_len]; exact hN
  (dsimp only [c45]; simp (maxSteps := 8000000) (implicitDefEqProofs := false) (disch := omega) only [↓reduceIte, go_sem, if_pos, if_neg, l0, get_last l0])
  have m0 := fun X => mk_cell (A := [.v (.int .i64 a0)]) (B := []) (G := [X]) (n := 0) (k := k) (by simp only [nbCs, nbC, mkC_nb] <;> omega) hc1 (by omega) (by omega)
  simp only [List.cons_append, List.nil_append, mkCs, mkC_v, wtCs, wtC_v, nat0T, Int.add_zero, Nat.add_zero, Nat.zero_add, tvCs, tvC_v, tvC_nl, tvC_sl, nbC, natAT, ← Int.add_assoc, mkC_tv, mkC_nb] at m0
  have l1 : (bkCs 0 [.v (.int .i64 a0), (mkC c1 (k))]).length = N := by rw [bkCs_len, ← hN]; simp only [nbCs, mkC_nb]
  refine mutQ_call (by simp (maxSteps := 8000000) (implicitDefEqProofs := false) (disch := omega) only [↓reduceIte, go_sem, if_pos, if_neg]; rfl) (by simp (maxSteps := 8000000) (implicitDefEqProofs := false) (disch := omega) only [↓reduceIte, go_sem, if_pos, if_neg]) (m0 _) ?_
  simp (maxSteps := 8000000) (implicitDefEqProofs := false) (disch := omega) only [↓reduceIte, go_sem, if_pos, if_neg, l1, get_last l1]
  exact endK_cells (.inr rfl) (by rw [← hN]; simp only [nbCs, mkC_nb]; omega) (by (simp (maxSteps := 8000000) (implicitDefEqProofs := false) (disch := omega) only [↓reduceIte, go_sem, if_pos, if_neg, natAT, ← Int.add_assoc]) <;> rfl) rfl
/-! Packet -/
def sh_Packet : List Shp := [.i .i64, .i .i64, .i .i64, .i .i64, .i .i64, .i .i64, sh_ByteS]
theorem sh_Packet_Has {cs : List Cell} (h : HasR sh_Packet cs) : ∃ (a0 : Int) (a1 : Int) (a2 : Int) (a3 : Int) (a4 : Int) (a5 : Int) (c6 : Cell), cs = [.v (.int .i64 a0), .v (.int .i64 a1), .v (.int .i64 a2), .v (.int .i64 a3), .v (.int .i64 a4), .v (.int .i64 a5), c6] ∧ HasC sh_ByteS c6 := by
  obtain ⟨_, _, rfl, ⟨a0, rfl, _⟩, _, _, rfl, ⟨a1, rfl, _⟩, _, _, rfl, ⟨a2, rfl, _⟩, _, _, rfl, ⟨a3, rfl, _⟩, _, _, rfl, ⟨a4, rfl, _⟩, _, _, rfl, ⟨a5, rfl, _⟩, c6, _, rfl, hc6, h⟩ := h
  simp only [HasR] at h; subst h
  exact ⟨a0, a1, a2, a3, a4, a5, c6, rfl, hc6⟩
theorem sh_Packet_mkHas {c6 : Cell} (hc6 : HasC sh_ByteS c6) (a0 : Int) (a1 : Int) (a2 : Int) (a3 : Int) (a4 : Int) (a5 : Int) : HasR sh_Packet [.v (.int .i64 a0), .v (.int .i64 a1), .v (.int .i64 a2), .v (.int .i64 a3), .v (.int .i64 a4), .v (.int .i64 a5), c6] := by
  exact ⟨_, _, rfl, ⟨_, rfl, fun h => by cases h⟩, _, _, rfl, ⟨_, rfl, fun h => by cases h⟩, _, _, rfl, ⟨_, rfl, fun h => by cases h⟩, _, _, rfl, ⟨_, rfl, fun h => by cases h⟩, _, _, rfl, ⟨_, rfl, fun h => by cases h⟩, _, _, rfl, ⟨_, rfl, fun h => by cases h⟩, _, _, rfl, hc6, rfl⟩
theorem sh_Packet_Fit {cs : List Cell} (h : FitR sh_Packet cs) : ∃ (a0 : Int) (a1 : Int) (a2 : Int) (a3 : Int) (a4 : Int) (a5 : Int) (c6 : Cell), cs = [.v (.int .i64 a0), .v (.int .i64 a1), .v (.int .i64 a2), .v (.int .i64 a3), .v (.int .i64 a4), .v (.int .i64 a5), c6] ∧ FitC sh_ByteS c6 := by
  obtain ⟨_, _, rfl, ⟨a0, rfl⟩, _, _, rfl, ⟨a1, rfl⟩, _, _, rfl, ⟨a2, rfl⟩, _, _, rfl, ⟨a3, rfl⟩, _, _, rfl, ⟨a4, rfl⟩, _, _, rfl, ⟨a5, rfl⟩, c6, _, rfl, hc6, h⟩ := h
  simp only [FitR] at h; subst h
  exact ⟨a0, a1, a2, a3, a4, a5, c6, rfl, hc6⟩
theorem sh_Packet_mkFit {c6 : Cell} (hc6 : FitC sh_ByteS c6) (a0 : Int) (a1 : Int) (a2 : Int) (a3 : Int) (a4 : Int) (a5 : Int) : FitR sh_Packet [.v (.int .i64 a0), .v (.int .i64 a1), .v (.int .i64 a2), .v (.int .i64 a3), .v (.int .i64 a4), .v (.int .i64 a5), c6] := by
  exact ⟨_, _, rfl, ⟨_, rfl⟩, _, _, rfl, ⟨_, rfl⟩, _, _, rfl, ⟨_, rfl⟩, _, _, rfl, ⟨_, rfl⟩, _, _, rfl, ⟨_, rfl⟩, _, _, rfl, ⟨_, rfl⟩, _, _, rfl, hc6, rfl⟩
theorem to_Packet_at {c6 : Cell} (hc6 : HasC sh_ByteS c6) (hz : szC c6 ≤ 1048576) (a0 : Int) (a1 : Int) (a2 : Int) (a3 : Int) (a4 : Int) (a5 : Int) : toR_S sh_Packet [.agg [.p (.int .i64 a0), .p (.int .i64 a1), .p (.int .i64 a2), .p (.int .i64 a3), .p (.int .i64 a4), .p (.int .i64 a5), fzC c6]] = some (.agg [.p (.int .i64 a0), .p (.int .i64 a1), .p (.int .i64 a2), .p (.int .i64 a3), .p (.int .i64 a4), .p (.int .i64 a5), tvC (0) c6], (bkC (0) c6)) := by
  have := toR_at (sh_Packet_mkHas hc6 a0 a1 a2 a3 a4 a5) (by simp only [szCs, szC]; omega)
  simpa only [fzCs, fzC, tvCs, tvC_v, tvC_nl, tvC_sl, bkCs, bkC, nbC, nbCs, Nat.add_zero, List.append_nil, List.nil_append, Nat.zero_add] using this
-- laws.toPacket
def c40 : AF := ⟨27,
  (.seq (.reg [⟨(some 1), none, .box 63 (.t 0)⟩,
   ⟨(some 2), none, .alloc 68 [(.int .i64 0), (.int .i64 0), (.int .i64 0), (.int .i64 0), (.int .i64 0), (.int .i64 0), (.slice none 0 0)]⟩])
  (.seq (.reg [⟨(some 3), none, .alloc 68 [(.int .i64 0), (.int .i64 0), (.int .i64 0), (.int .i64 0), (.int .i64 0), (.int .i64 0), (.slice none 0 0)]⟩])
  (.seq (.reg [⟨(some 4), none, .fa (.t 1) 0⟩,
   ⟨(some 5), none, .ld (.t 4)⟩,
   ⟨(some 6), none, .fa (.t 3) 0⟩,
   ⟨none, none, .st 1 (.t 6) (.t 5)⟩])
  (.seq (.reg [⟨(some 7), none, .fa (.t 1) 1⟩,
   ⟨(some 8), none, .ld (.t 7)⟩,
   ⟨(some 9), none, .fa (.t 3) 1⟩,
   ⟨none, none, .st 1 (.t 9) (.t 8)⟩])
  (.seq (.reg [⟨(some 10), none, .fa (.t 1) 2⟩,
   ⟨(some 11), none, .ld (.t 10)⟩,
   ⟨(some 12), none, .fa (.t 3) 2⟩,
   ⟨none, none, .st 1 (.t 12) (.t 11)⟩])
  (.seq (.reg [⟨(some 13), none, .fa (.t 1) 3⟩,
   ⟨(some 14), none, .ld (.t 13)⟩,
   ⟨(some 15), none, .fa (.t 3) 3⟩,
   ⟨none, none, .st 1 (.t 15) (.t 14)⟩])
  (.seq (.reg [⟨(some 16), none, .fa (.t 1) 4⟩,
   ⟨(some 17), none, .ld (.t 16)⟩,
   ⟨(some 18), none, .fa (.t 3) 4⟩,
   ⟨none, none, .st 1 (.t 18) (.t 17)⟩])
  (.seq (.reg [⟨(some 19), none, .fa (.t 1) 5⟩,
   ⟨(some 20), none, .ld (.t 19)⟩,
   ⟨(some 21), none, .fa (.t 3) 5⟩,
   ⟨none, none, .st 1 (.t 21) (.t 20)⟩])
  (.seq (.reg [⟨(some 22), none, .fa (.t 1) 6⟩,
   ⟨(some 23), none, .ld (.t 22)⟩,
   ⟨(some 24), none, .call 64 [(.t 23)]⟩,
   ⟨(some 25), none, .fa (.t 3) 6⟩,
   ⟨none, none, .st 1 (.t 25) (.t 24)⟩])
  (.seq (.reg [⟨(some 26), none, .ldn 7 (.t 3)⟩,
   ⟨none, none, .st 7 (.t 2) (.t 26)⟩])
  .ret)))))))))),
  [.cell 2 (some 7)]⟩
theorem k40 : cFn Try.prog Try.f40 = some c40 := by kernel_rfl
theorem toPacket_ok : OkT Try.prog 40 (pureSp (toR_S sh_Packet)) := by
  refine okT_toR (OkΓT.cons toByteS_ok (OkΓT.nil _)) Try.func40 (by kernel_rfl) k40 ?_
  intro c hc hz
  obtain ⟨a0, a1, a2, a3, a4, a5, c6, rfl, hc6⟩ := sh_Packet_Has hc
  simp only [szCs, szC] at hz
  simp only [fzCs, fzC]
  (dsimp only [c40]; simp (maxSteps := 8000000) (implicitDefEqProofs := false) (disch := omega) only [↓reduceIte, go_sem, if_pos, if_neg, toC_at hc6 (by omega)])
  refine endT_cells' 3 (.inr rfl) (by (simp (maxSteps := 8000000) (implicitDefEqProofs := false) (disch := omega) only [↓reduceIte, go_sem, if_pos, if_neg, fzCs, fzC, tvCs, tvC_v, tvC_nl, tvC_sl, bkCs, bkC, nbC, nbCs, Nat.add_zero, List.append_nil, List.nil_append]) <;> rfl) ?_ (by simp only [List.length_cons]; omega)
  simp only [List.drop_succ_cons, List.drop_zero, bkCs, bkC, nbC, Nat.add_zero, List.append_nil, List.nil_append, List.cons_append, Nat.add_assoc]
theorem eq_Packet_at {c6 : Cell} (hc6 : FitC sh_ByteS c6) (hz : szC c6 ≤ 1099511627776) (a0 : Int) (a1 : Int) (a2 : Int) (a3 : Int) (a4 : Int) (a5 : Int) : eqR_S sh_Packet [.agg [.p (.int .i64 a0), .p (.int .i64 a1), .p (.int .i64 a2), .p (.int .i64 a3), .p (.int .i64 a4), .p (.int .i64 a5), fzC c6], .agg [.p (.int .i64 a0), .p (.int .i64 a1), .p (.int .i64 a2), .p (.int .i64 a3), .p (.int .i64 a4), .p (.int .i64 a5), fzC c6]] = some (.p (.bool true), []) := by
  exact eqR_at (sh_Packet_mkFit hc6 a0 a1 a2 a3 a4 a5) (by simp only [szCs, szC]; omega)
-- laws.eqPacket
def c43 : AF := ⟨41,
  (.seq (.reg [⟨(some 2), none, .box 68 (.t 0)⟩,
   ⟨(some 3), none, .box 68 (.t 1)⟩,
   ⟨(some 4), none, .mv (.v (.bool false))⟩])
  (.seq (.seq (.reg [⟨(some 5), none, .fa (.t 2) 0⟩,
   ⟨(some 6), none, .ld (.t 5)⟩,
   ⟨(some 7), none, .fa (.t 3) 0⟩,
   ⟨(some 8), none, .ld (.t 7)⟩,
   ⟨(some 9), none, .bin .neq (.t 6) (.t 8)⟩])
  (.cond (.t 9) (.seq (.reg [⟨(some 4), none, .mv (.v (.bool false))⟩])
  .ret)
  .skip))
  (.seq (.seq (.reg [⟨(some 10), none, .fa (.t 2) 1⟩,
   ⟨(some 11), none, .ld (.t 10)⟩,
   ⟨(some 12), none, .fa (.t 3) 1⟩,
   ⟨(some 13), none, .ld (.t 12)⟩,
   ⟨(some 14), none, .bin .neq (.t 11) (.t 13)⟩])
  (.cond (.t 14) (.seq (.reg [⟨(some 4), none, .mv (.v (.bool false))⟩])
  .ret)
  .skip))
  (.seq (.seq (.reg [⟨(some 15), none, .fa (.t 2) 2⟩,
   ⟨(some 16), none, .ld (.t 15)⟩,
   ⟨(some 17), none, .fa (.t 3) 2⟩,
   ⟨(some 18), none, .ld (.t 17)⟩,
   ⟨(some 19), none, .bin .neq (.t 16) (.t 18)⟩])
  (.cond (.t 19) (.seq (.reg [⟨(some 4), none, .mv (.v (.bool false))⟩])
  .ret)
  .skip))
  (.seq (.seq (.reg [⟨(some 20), none, .fa (.t 2) 3⟩,
   ⟨(some 21), none, .ld (.t 20)⟩,
   ⟨(some 22), none, .fa (.t 3) 3⟩,
   ⟨(some 23), none, .ld (.t 22)⟩,
   ⟨(some 24), none, .bin .neq (.t 21) (.t 23)⟩])
  (.cond (.t 24) (.seq (.reg [⟨(some 4), none, .mv (.v (.bool false))⟩])
  .ret)
  .skip))
  (.seq (.seq (.reg [⟨(some 25), none, .fa (.t 2) 4⟩,
   ⟨(some 26), none, .ld (.t 25)⟩,
   ⟨(some 27), none, .fa (.t 3) 4⟩,
   ⟨(some 28), none, .ld (.t 27)⟩,
   ⟨(some 29), none, .bin .neq (.t 26) (.t 28)⟩])
  (.cond (.t 29) (.seq (.reg [⟨(some 4), none, .mv (.v (.bool false))⟩])
  .ret)
  .skip))
  (.seq (.seq (.reg [⟨(some 30), none, .fa (.t 2) 5⟩,
   ⟨(some 31), none, .ld (.t 30)⟩,
   ⟨(some 32), none, .fa (.t 3) 5⟩,
   ⟨(some 33), none, .ld (.t 32)⟩,
   ⟨(some 34), none, .bin .neq (.t 31) (.t 33)⟩])
  (.cond (.t 34) (.seq (.reg [⟨(some 4), none, .mv (.v (.bool false))⟩])
  .ret)
  .skip))
  (.seq (.seq (.reg [⟨(some 35), none, .fa (.t 2) 6⟩,
   ⟨(some 36), none, .ld (.t 35)⟩,
   ⟨(some 37), none, .fa (.t 3) 6⟩,
   ⟨(some 38), none, .ld (.t 37)⟩,
   ⟨(some 39), none, .call 67 [(.t 36), (.t 38)]⟩,
   ⟨(some 40), none, .un .not (.t 39)⟩])
  (.cond (.t 40) (.seq (.reg [⟨(some 4), none, .mv (.v (.bool false))⟩])
  .ret)
  .skip))
  (.seq (.reg [⟨(some 4), none, .mv (.v (.bool true))⟩])
  .ret))))))))),
  [.t 4]⟩
theorem k43 : cFn Try.prog Try.f43 = some c43 := by kernel_rfl
theorem eqPacket_ok : OkT Try.prog 43 (pureSp (eqR_S sh_Packet)) := by
  refine okT_eqR (OkΓT.cons eqByteS_ok (OkΓT.nil _)) Try.func43 (by kernel_rfl) k43 ?_
  intro c hc hz
  obtain ⟨a0, a1, a2, a3, a4, a5, c6, rfl, hc6⟩ := sh_Packet_Fit hc
  simp only [szCs, szC] at hz
  simp only [fzCs, fzC]
  (dsimp only [c43]; simp (maxSteps := 8000000) (implicitDefEqProofs := false) (disch := omega) only [↓reduceIte, go_sem, if_pos, if_neg, eqC_at hc6 (by omega)])
  repeat' first
    | (refine gdKT_dec (fun hg => ?_) (fun hg => ?_) <;> (try (first | simp (maxSteps := 8000000) (implicitDefEqProofs := false) (disch := omega) only [↓reduceIte, go_sem, if_pos, if_neg, eq_false hg, eqC_at hc6 (by omega)] | simp (maxSteps := 8000000) (implicitDefEqProofs := false) (disch := omega) only [↓reduceIte, go_sem, if_pos, if_neg, eq_true hg, eqC_at hc6 (by omega)])))
    | (refine condKT_dec (fun hg => ?_) (fun hg => ?_) <;> (try (first | simp (maxSteps := 8000000) (implicitDefEqProofs := false) (disch := omega) only [↓reduceIte, go_sem, if_pos, if_neg, eq_false hg, eqC_at hc6 (by omega)] | simp (maxSteps := 8000000) (implicitDefEqProofs := false) (disch := omega) only [↓reduceIte, go_sem, if_pos, if_neg, eq_true hg, eqC_at hc6 (by omega)])))
    | (refine gdKT_split (fun hg => ?_) (fun hg => ?_) <;> (try simp (maxSteps := 8000000) (implicitDefEqProofs := false) (disch := omega) only [↓reduceIte, go_sem, if_pos, if_neg, hg, eqC_at hc6 (by omega)]))
    | (refine condKT_split (fun hg => ?_) (fun hg => ?_) <;> (try simp (maxSteps := 8000000) (implicitDefEqProofs := false) (disch := omega) only [↓reduceIte, go_sem, if_pos, if_neg, hg, eqC_at hc6 (by omega)]))
    | (refine endT_p (.inr rfl) (by simp (maxSteps := 8000000) (implicitDefEqProofs := false) (disch := omega) only [↓reduceIte, go_sem, if_pos, if_neg, eqC_at hc6 (by omega)]; rfl) ?_; (first | exact vb_true (by omega) | exact vb_false (by omega) | exact vb_dec (by omega) | exact vi_eq (by omega) | rfl | (refine vi_eq ?_; simp_all; done) | (refine vi_eq ?_; simp_all; omega) | (refine vi_eq ?_; simp_all; intros; omega)))
    | exact endT_v (.inr rfl) (by simp (maxSteps := 8000000) (implicitDefEqProofs := false) (disch := omega) only [↓reduceIte, go_sem, if_pos, if_neg, eqC_at hc6 (by omega)]; try rfl) (fun _ => rfl)
theorem sz_Packet_at {c6 : Cell} (hc6 : HasC sh_ByteS c6) {k : Int} (hk : 0 ≤ k ∧ k ≤ 1048576) (hz : lnC c6 = true) (a0 : Int) (a1 : Int) (a2 : Int) (a3 : Int) (a4 : Int) (a5 : Int) : szR_S sh_Packet [.agg [.p (.int .i64 a0), .p (.int .i64 a1), .p (.int .i64 a2), .p (.int .i64 a3), .p (.int .i64 a4), .p (.int .i64 a5), fzC c6], .p (.int .i64 k)] = some (.p (.int .i64 (if ((szC c6 : Nat) : Int) ≤ k then k - (szC c6 : Nat) else -1)), []) := by
  have := szR_at (sh_Packet_mkHas hc6 a0 a1 a2 a3 a4 a5) hk (by simp only [lnCs, lnC, Bool.true_and, Bool.and_true, Bool.and_eq_true]; exact hz)
  simpa only [fzCs, fzC, szCs, szC, Nat.add_zero, Nat.zero_add, Nat.add_assoc] using this
-- laws.szPacket
def c38 : AF := ⟨12,
  (.seq (.reg [⟨(some 2), none, .box 63 (.t 0)⟩,
   ⟨(some 4), none, .mv (.v (.int .i64 0))⟩])
  (.seq (.reg [⟨(some 5), none, .fa (.t 2) 6⟩,
   ⟨(some 6), none, .ld (.t 5)⟩,
   ⟨(some 7), none, .mv (.t 1)⟩,
   ⟨(some 8), none, .call 99 [(.t 6), (.t 7)]⟩,
   ⟨(some 1), none, .mv (.t 8)⟩])
  (.seq (.seq (.reg [⟨(some 9), none, .mv (.t 1)⟩,
   ⟨(some 10), none, .bin .lss (.t 9) (.v (.int .i64 0))⟩])
  (.cond (.t 10) (.seq (.reg [⟨(some 4), none, .mv (.v (.int .i64 (-1)))⟩])
  .ret)
  .skip))
  (.seq (.reg [⟨(some 11), none, .mv (.t 1)⟩,
   ⟨(some 4), none, .mv (.t 11)⟩])
  .ret)))),
  [.t 4]⟩
theorem k38 : cFn Try.prog Try.f38 = some c38 := by kernel_rfl
theorem szPacket_ok : OkT Try.prog 38 (pureSp (szR_S sh_Packet)) := by
  refine okT_szR (OkΓT.cons szByteS_ok (OkΓT.nil _)) Try.func38 (by kernel_rfl) k38 ?_
  intro c k hc h1 h2 hz
  obtain ⟨a0, a1, a2, a3, a4, a5, c6, rfl, hc6⟩ := sh_Packet_Has hc
  generalize hN : szCs _ = N at *
  simp only [szCs, szC, Nat.add_zero, Nat.zero_add] at hN
  simp only [lnCs, lnC, Bool.true_and, Bool.and_true, Bool.and_eq_true] at hz
  have wc6 := hz
  simp only [fzCs, fzC]
  have zc6 := szC_at (k := k) hc6 (by omega) wc6
  by_cases qc6 : (szC c6 : Int) ≤ k
  case neg =>
    rw [if_neg qc6] at zc6
    rw [if_neg (show ¬ _ by omega)]
    (dsimp only [c38]; simp (maxSteps := 8000000) (implicitDefEqProofs := false) (disch := omega) only [↓reduceIte, go_sem, if_pos, if_neg, zc6])
    repeat' first
      | (refine gdKT_dec (fun hg => ?_) (fun hg => ?_) <;> (try (first | simp (maxSteps := 8000000) (implicitDefEqProofs := false) (disch := omega) only [↓reduceIte, go_sem, if_pos, if_neg, eq_false hg, zc6] | simp (maxSteps := 8000000) (implicitDefEqProofs := false) (disch := omega) only [↓reduceIte, go_sem, if_pos, if_neg, eq_true hg, zc6])))
      | (refine condKT_dec (fun hg => ?_) (fun hg => ?_) <;> (try (first | simp (maxSteps := 8000000) (implicitDefEqProofs := false) (disch := omega) only [↓reduceIte, go_sem, if_pos, if_neg, eq_false hg, zc6] | simp (maxSteps := 8000000) (implicitDefEqProofs := false) (disch := omega) only [↓reduceIte, go_sem, if_pos, if_neg, eq_true hg, zc6])))
      | (refine gdKT_split (fun hg => ?_) (fun hg => ?_) <;> (try simp (maxSteps := 8000000) (implicitDefEqProofs := false) (disch := omega) only [↓reduceIte, go_sem, if_pos, if_neg, hg, zc6]))
      | (refine condKT_split (fun hg => ?_) (fun hg => ?_) <;> (try simp (maxSteps := 8000000) (implicitDefEqProofs := false) (disch := omega) only [↓reduceIte, go_sem, if_pos, if_neg, hg, zc6]))
      | (refine endT_p (.inr rfl) (by simp (maxSteps := 8000000) (implicitDefEqProofs := false) (disch := omega) only [↓reduceIte, go_sem, if_pos, if_neg, zc6]; rfl) ?_; (first | exact vb_true (by omega) | exact vb_false (by omega) | exact vb_dec (by omega) | exact vi_eq (by omega) | rfl | (refine vi_eq ?_; simp_all; done) | (refine vi_eq ?_; simp_all; omega) | (refine vi_eq ?_; simp_all; intros; omega)))
      | exact endT_v (.inr rfl) (by simp (maxSteps := 8000000) (implicitDefEqProofs := false) (disch := omega) only [↓reduceIte, go_sem, if_pos, if_neg, zc6]; try rfl) (fun _ => rfl)
  rw [if_pos qc6] at zc6
  rw [if_pos (show _ by omega), show k - (N : Int) = k - (szC c6 : Int) by omega]
  (dsimp only [c38]; simp (maxSteps := 8000000) (implicitDefEqProofs := false) (disch := omega) only [↓reduceIte, go_sem, if_pos, if_neg, zc6])
  repeat' first
    | (refine gdKT_dec (fun hg => ?_) (fun hg => ?_) <;> (try (first | simp (maxSteps := 8000000) (implicitDefEqProofs := false) (disch := omega) only [↓reduceIte, go_sem, if_pos, if_neg, eq_false hg, zc6] | simp (maxSteps := 8000000) (implicitDefEqProofs := false) (disch := omega) only [↓reduceIte, go_sem, if_pos, if_neg, eq_true hg, zc6])))
    | (refine condKT_dec (fun hg => ?_) (fun hg => ?_) <;> (try (first | simp (maxSteps := 8000000) (implicitDefEqProofs := false) (disch := omega) only [↓reduceIte, go_sem, if_pos, if_neg, eq_false hg, zc6] | simp (maxSteps := 8000000) (implicitDefEqProofs := false) (disch := omega) only [↓reduceIte, go_sem, if_pos, if_neg, eq_true hg, zc6])))
    | (refine gdKT_split (fun hg => ?_) (fun hg => ?_) <;> (try simp (maxSteps := 8000000) (implicitDefEqProofs := false) (disch := omega) only [↓reduceIte, go_sem, if_pos, if_neg, hg, zc6]))
    | (refine condKT_split (fun hg => ?_) (fun hg => ?_) <;> (try simp (maxSteps := 8000000) (implicitDefEqProofs := false) (disch := omega) only [↓reduceIte, go_sem, if_pos, if_neg, hg, zc6]))
    | (refine endT_p (.inr rfl) (by simp (maxSteps := 8000000) (implicitDefEqProofs := false) (disch := omega) only [↓reduceIte, go_sem, if_pos, if_neg, zc6]; rfl) ?_; (first | exact vb_true (by omega) | exact vb_false (by omega) | exact vb_dec (by omega) | exact vi_eq (by omega) | rfl | (refine vi_eq ?_; simp_all; done) | (refine vi_eq ?_; simp_all; omega) | (refine vi_eq ?_; simp_all; intros; omega)))
    | exact endT_v (.inr rfl) (by simp (maxSteps := 8000000) (implicitDefEqProofs := false) (disch := omega) only [↓reduceIte, go_sem, if_pos, if_neg, zc6]; try rfl) (fun _ => rfl)
-- laws.markPacket
def c44 : AF := ⟨10,
  (.seq (.reg [⟨(some 2), none, .box 68 (.t 0)⟩,
   ⟨(some 4), none, .mv (.v (.int .i64 0))⟩])
  (.seq (.reg [⟨(some 5), none, .fa (.t 2) 6⟩,
   ⟨(some 6), none, .ld (.t 5)⟩,
   ⟨(some 7), none, .mv (.t 1)⟩,
   ⟨(some 8), none, .call 68 [(.t 6), (.t 7)]⟩,
   ⟨(some 1), none, .mv (.t 8)⟩])
  (.seq (.reg [⟨(some 9), none, .mv (.t 1)⟩,
   ⟨(some 4), none, .mv (.t 9)⟩])
  .ret))),
  [.t 4]⟩
theorem k44 : cFn Try.prog Try.f44 = some c44 := by kernel_rfl
theorem markPacket_ok : OkT Try.prog 44 (mkR_Sp sh_Packet) := by
  refine okT_mkR (OkΓT.cons markByteS_ok (OkΓT.nil _)) Try.func44 (by kernel_rfl) k44 ?_
  intro c k hc h1 hz
  obtain ⟨a0, a1, a2, a3, a4, a5, c6, rfl, hc6⟩ := sh_Packet_Fit hc
  simp only [wtCs, wtC_v, Nat.zero_add, Nat.add_zero] at hz ⊢
  simp only [mkCs, mkC_v, wtC_v, nat0T, Int.add_zero]
  simp only [tvCs, tvC_v, tvC_nl, tvC_sl, nbC, Nat.add_zero, Nat.zero_add]
  generalize hN : nbCs _ = N
  have l0 : (bkCs 0 [.v (.int .i64 a0), .v (.int .i64 a1), .v (.int .i64 a2), .v (.int .i64 a3), .v (.int .i64 a4), .v (.int .i64 a5), c6]).length = N := by rw [bkCs_len]; exact hN
  (dsimp only [c44]; simp (maxSteps := 8000000) (implicitDefEqProofs := false) (disch := omega) only [↓reduceIte, go_sem, if_pos, if_neg, l0, get_last l0])
  have m0 := fun X => mk_cell (A := [.v (.int .i64 a0), .v (.int .i64 a1), .v (.int .i64 a2), .v (.int .i64 a3), .v (.int .i64 a4), .v (.int .i64 a5)]) (B := []) (G := [X]) (n := 0) (k := k) (by simp only [nbCs, nbC, mkC_nb] <;> omega) hc6 (by omega) (by omega)
  simp only [List.cons_append, List.nil_append, mkCs, mkC_v, wtCs, wtC_v, nat0T, Int.add_zero, Nat.add_zero, Nat.zero_add, tvCs, tvC_v, tvC_nl, tvC_sl, nbC, natAT, ← Int.add_assoc, mkC_tv, mkC_nb] at m0
  have l1 : (bkCs 0 [.v (.int .i64 a0), .v (.int .i64 a1), .v (.int .i64 a2), .v (.int .i64 a3), .v (.int .i64 a4), .v (.int .i64 a5), (mkC c6 (k))]).length = N := by rw [bkCs_len, ← hN]; simp only [nbCs, mkC_nb]
  refine mutQ_call (by simp (maxSteps := 8000000) (implicitDefEqProofs := false) (disch := omega) only [↓reduceIte, go_sem, if_pos, if_neg]; rfl) (by simp (maxSteps := 8000000) (implicitDefEqProofs := false) (disch := omega) only [↓reduceIte, go_sem, if_pos, if_neg]) (m0 _) ?_
  simp (maxSteps := 8000000) (implicitDefEqProofs := false) (disch := omega) only [↓reduceIte, go_sem, if_pos, if_neg, l1, get_last l1]
  exact endK_cells (.inr rfl) (by rw [← hN]; simp only [nbCs, mkC_nb]; omega) (by (simp (maxSteps := 8000000) (implicitDefEqProofs := false) (disch := omega) only [↓reduceIte, go_sem, if_pos, if_neg, natAT, ← Int.add_assoc]) <;> rfl) rfl
end Go.Proofs.Ytngebdcbcliobaa
