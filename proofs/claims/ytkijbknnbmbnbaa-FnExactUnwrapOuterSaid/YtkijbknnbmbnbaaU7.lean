import Derived.Test.YtkijbknnbmbnbaaLU
import Derived.Test.YtkijbknnbmbnbaaProg
set_option linter.unusedSimpArgs false
set_option linter.unusedVariables false
set_option maxRecDepth 100000
set_option maxHeartbeats 4000000
namespace Go.Proofs.Ytkijbknnbmbnbaa
open Go Go.AH
attribute [local irreducible] awpT ropsT qopsT stepT condKT gdKT EndT joinK loopKT seqKT blkKT kont kontR
def sh_ByteS : Shp := .sl 5 [.i .u8]
-- laws.toByteS
def c25 : AF := ⟨22,
  (.seq (.reg [⟨(some 2), none, .mv (.v (.slice none 0 0))⟩])
  (.seq (.reg [⟨(some 5), none, .mv (.t 0)⟩,
   ⟨(some 6), none, .len (.t 5)⟩,
   ⟨(some 7), none, .mkSl 5 1 1 [(.int .u8 0)] (.t 6) (.t 6)⟩,
   ⟨(some 3), none, .mv (.t 7)⟩])
  (.seq (.seq (.reg [⟨(some 4), none, .mv (.v (.int .i64 0))⟩])
  (.block 0 (.loop (.seq (.seq (.reg [⟨(some 8), none, .mv (.t 4)⟩,
   ⟨(some 9), none, .mv (.t 0)⟩,
   ⟨(some 10), none, .len (.t 9)⟩,
   ⟨(some 11), none, .bin .lss (.t 8) (.t 10)⟩])
  (.cond (.t 11) .skip
  (.exit 0)))
  (.seq (.block 1 (.reg [⟨(some 14), none, .mv (.t 3)⟩,
   ⟨(some 15), none, .mv (.t 4)⟩,
   ⟨(some 16), none, .mv (.t 0)⟩,
   ⟨(some 17), none, .mv (.t 4)⟩,
   ⟨(some 18), none, .ia 1 (.t 16) (.t 17)⟩,
   ⟨(some 19), none, .ld (.t 18)⟩,
   ⟨(some 20), none, .ia 1 (.t 14) (.t 15)⟩,
   ⟨none, none, .st 1 (.t 20) (.t 19)⟩]))
  (.reg [⟨(some 12), none, .mv (.t 4)⟩,
   ⟨(some 13), none, .bin .add (.t 12) (.v (.int .i64 1))⟩,
   ⟨(some 4), none, .mv (.t 13)⟩]))))))
  (.seq (.reg [⟨(some 21), none, .mv (.t 3)⟩,
   ⟨(some 2), none, .mv (.t 21)⟩])
  .ret)))),
  [.t 2]⟩
theorem k25 : cFn Try.prog Try.f25 = some c25 := by kernel_rfl
theorem toByteS_ok : OkT Try.prog 25 (pureSp (toC_S sh_ByteS)) := by
  refine okT_toC (OkΓT.nil _) Try.func25 (by kernel_rfl) k25 ?_
  intro c hc hz
  simp only [sh_ByteS, HasC] at hc
  obtain ⟨rows, rfl, hr⟩ := hc
  simp only [szC] at hz
  have hlen : ∀ r ∈ rows, r.length = 1 := fun r hx => (hr r hx).len
  generalize hzz : (el [.p (.int .u8 0)] : TV) = z0
  have hz1 : cellsT z0 = [.p (.int .u8 0)] := by rw [← hzz]; rfl
  simp only [fzC, tvC_v, tvC_nl, tvC_sl, bkC]
  (dsimp only [c25]; simp (maxSteps := 8000000) (implicitDefEqProofs := false) (disch := omega) only [↓reduceIte, go_sem, if_pos, if_neg, hzz, mixR_zero 1 rows z0])
  refine awpT_loop (α := Nat) (fun i => ⟨slots [(0, .s (fzRs rows)), (3, .os 0 0 rows.length), (4, .p (.int .i64 i))], .cells 5 1 (mixR 1 rows z0 i) :: bkRs 1 (rows.take i)⟩)
    (fun i => i ≤ rows.length) (fun i => rows.length - i) 0 (Nat.zero_le _) (by simp only [List.take_zero, bkRs]; exact le_keep (Nat.zero_le _) (by simp (maxSteps := 8000000) (implicitDefEqProofs := false) (disch := omega) only [↓reduceIte, go_sem, if_pos, if_neg, slotsIn])) ?_
  intro i hi
  simp (maxSteps := 8000000) (implicitDefEqProofs := false) (disch := omega) only [↓reduceIte, go_sem, if_pos, if_neg, mixR_len 1 rows z0 hi]
  refine condKT_dec (fun hlt => ?_) (fun hge => ?_)
  · obtain ⟨r, hx⟩ := get_ex (l := rows) (i := i) (by omega)
    have hrr := hr r (List.mem_of_getElem? hx)
    have hzr := szRs_mem hx
    have hg := fzRs_get hx; have hm := mixR_get 1 (rows := rows) z0 (i := i) (by omega)
    have hs := mixR_set 1 z0 hx; have hb := bkRs_snoc 1 hx; have hn := bkRs_len 1 (rows.take i)
    obtain ⟨_, _, rfl, ⟨a0, rfl, _⟩, hrr⟩ := hrr; simp only [HasR] at hrr; subst hrr
    simp only [fzCs, fzC, tvCs, tvC_v, tvC_nl, tvC_sl, bkCs, bkC, nbC, nbCs, Nat.add_zero, List.append_nil, List.nil_append, el_one, el_two, Nat.add_comm 1 (nbRs _)] at hg hs hb
    simp (maxSteps := 8000000) (implicitDefEqProofs := false) (disch := omega) only [↓reduceIte, go_sem, if_pos, if_neg, eq_true hlt, hg, hm, hs, hn, hz1, el_two]
    refine loopKT_next (i + 1) (by omega) (by omega) ?_
    rw [hb]; refine (le_keep (Nat.zero_le _) ?_) <;> simp (maxSteps := 8000000) (implicitDefEqProofs := false) (disch := omega) only [↓reduceIte, go_sem, if_pos, if_neg, slotsIn]
  · have hb : rows.take i = rows := List.take_of_length_le (by omega)
    have hm := mixR_full 1 (rows := rows) z0 (i := i) (by omega)
    simp (maxSteps := 8000000) (implicitDefEqProofs := false) (disch := omega) only [↓reduceIte, go_sem, if_pos, if_neg, eq_false hge, hb, hm]
    refine joinK_here ?_
    simp (maxSteps := 8000000) (implicitDefEqProofs := false) (disch := omega) only [↓reduceIte, go_sem, if_pos, if_neg]
    exact endT_same (.inr rfl) (by (simp (maxSteps := 8000000) (implicitDefEqProofs := false) (disch := omega) only [↓reduceIte, go_sem, if_pos, if_neg]) <;> rfl) rfl
-- laws.eqByteS
def c28 : AF := ⟨26,
  (.seq (.reg [⟨(some 4), none, .mv (.v (.bool false))⟩])
  (.seq (.seq (.reg [⟨(some 6), none, .mv (.t 0)⟩,
   ⟨(some 7), none, .len (.t 6)⟩,
   ⟨(some 8), none, .mv (.t 1)⟩,
   ⟨(some 9), none, .len (.t 8)⟩,
   ⟨(some 10), none, .bin .neq (.t 7) (.t 9)⟩])
  (.cond (.t 10) (.seq (.reg [⟨(some 4), none, .mv (.v (.bool false))⟩])
  .ret)
  .skip))
  (.seq (.seq (.reg [⟨(some 5), none, .mv (.v (.int .i64 0))⟩])
  (.block 0 (.loop (.seq (.seq (.reg [⟨(some 11), none, .mv (.t 5)⟩,
   ⟨(some 12), none, .mv (.t 0)⟩,
   ⟨(some 13), none, .len (.t 12)⟩,
   ⟨(some 14), none, .bin .lss (.t 11) (.t 13)⟩])
  (.cond (.t 14) .skip
  (.exit 0)))
  (.seq (.block 1 (.seq (.drw [⟨(some 17), none, .mv (.t 0)⟩,
   ⟨(some 18), none, .mv (.t 5)⟩,
   ⟨(some 19), none, .ia 1 (.t 17) (.t 18)⟩,
   ⟨(some 20), none, .ld (.t 19)⟩,
   ⟨(some 21), none, .mv (.t 1)⟩,
   ⟨(some 22), none, .mv (.t 5)⟩,
   ⟨(some 23), none, .ia 1 (.t 21) (.t 22)⟩,
   ⟨(some 24), none, .ld (.t 23)⟩] [⟨(some 25), none, .bin .neq (.t 20) (.t 24)⟩])
  (.cond (.t 25) (.seq (.reg [⟨(some 4), none, .mv (.v (.bool false))⟩])
  .ret)
  .skip)))
  (.reg [⟨(some 15), none, .mv (.t 5)⟩,
   ⟨(some 16), none, .bin .add (.t 15) (.v (.int .i64 1))⟩,
   ⟨(some 5), none, .mv (.t 16)⟩]))))))
  (.seq (.reg [⟨(some 4), none, .mv (.v (.bool true))⟩])
  .ret)))),
  [.t 4]⟩
theorem k28 : cFn Try.prog Try.f28 = some c28 := by kernel_rfl
theorem eqByteS_ok : OkT Try.prog 28 (pureSp (eqC_S sh_ByteS)) := by
  refine okT_eqC (OkΓT.nil _) Try.func28 (by kernel_rfl) k28 ?_
  intro c hc hz
  obtain ⟨rows, hf, hr, hsz, _⟩ := FitC.rows hc
  rw [hf]
  (dsimp only [c28]; simp (maxSteps := 8000000) (implicitDefEqProofs := false) (disch := omega) only [↓reduceIte, go_sem, if_pos, if_neg])
  refine awpT_loop (α := Nat) (fun i => ⟨slots [(0, .s (fzRs rows)), (1, .s (fzRs rows)), (5, .p (.int .i64 i))], []⟩) (fun i => i ≤ rows.length) (fun i => rows.length - i) 0 (Nat.zero_le _) (le_of [] (by simp (maxSteps := 8000000) (implicitDefEqProofs := false) (disch := omega) only [↓reduceIte, go_sem, if_pos, if_neg]) (by simp (maxSteps := 8000000) (implicitDefEqProofs := false) (disch := omega) only [↓reduceIte, go_sem, if_pos, if_neg]) (by decide) (by simp)) ?_
  intro i hi
  simp (maxSteps := 8000000) (implicitDefEqProofs := false) (disch := omega) only [↓reduceIte, go_sem, if_pos, if_neg]
  refine condKT_dec (fun hlt => ?_) (fun hge => ?_)
  · obtain ⟨r, hx⟩ := get_ex (l := rows) (i := i) (by omega)
    have hrr := hr r (List.mem_of_getElem? hx)
    have hzr := szRs_mem hx
    have hg := fzRs_get hx
    obtain ⟨_, _, rfl, ⟨a0, rfl⟩, hrr⟩ := hrr; simp only [FitR] at hrr; subst hrr
    simp only [szCs, szC] at hzr
    simp only [fzCs, fzC, el_one, el_two] at hg
    simp (maxSteps := 8000000) (implicitDefEqProofs := false) (disch := omega) only [↓reduceIte, go_sem, if_pos, if_neg, eq_true hlt, hg, not_true, decide_false]
    refine loopKT_next (i + 1) (by omega) (by omega) ?_
    exact (le_of [] (by simp (maxSteps := 8000000) (implicitDefEqProofs := false) (disch := omega) only [↓reduceIte, go_sem, if_pos, if_neg]) (by simp (maxSteps := 8000000) (implicitDefEqProofs := false) (disch := omega) only [↓reduceIte, go_sem, if_pos, if_neg]) (by decide) (by simp))
  · simp (maxSteps := 8000000) (implicitDefEqProofs := false) (disch := omega) only [↓reduceIte, go_sem, if_pos, if_neg, eq_false hge]
    refine joinK_here ?_
    simp (maxSteps := 8000000) (implicitDefEqProofs := false) (disch := omega) only [↓reduceIte, go_sem, if_pos, if_neg]
    repeat' first
      | (refine gdKT_dec (fun hg => ?_) (fun hg => ?_) <;> (try (first | simp (maxSteps := 8000000) (implicitDefEqProofs := false) (disch := omega) only [↓reduceIte, go_sem, if_pos, if_neg, eq_false hg] | simp (maxSteps := 8000000) (implicitDefEqProofs := false) (disch := omega) only [↓reduceIte, go_sem, if_pos, if_neg, eq_true hg])))
      | (refine condKT_dec (fun hg => ?_) (fun hg => ?_) <;> (try (first | simp (maxSteps := 8000000) (implicitDefEqProofs := false) (disch := omega) only [↓reduceIte, go_sem, if_pos, if_neg, eq_false hg] | simp (maxSteps := 8000000) (implicitDefEqProofs := false) (disch := omega) only [↓reduceIte, go_sem, if_pos, if_neg, eq_true hg])))
      | (refine gdKT_split (fun hg => ?_) (fun hg => ?_) <;> (try simp (maxSteps := 8000000) (implicitDefEqProofs := false) (disch := omega) only [↓reduceIte, go_sem, if_pos, if_neg, hg]))
      | (refine condKT_split (fun hg => ?_) (fun hg => ?_) <;> (try simp (maxSteps := 8000000) (implicitDefEqProofs := false) (disch := omega) only [↓reduceIte, go_sem, if_pos, if_neg, hg]))
      | (refine endT_p (.inr rfl) (by simp (maxSteps := 8000000) (implicitDefEqProofs := false) (disch := omega) only [↓reduceIte, go_sem, if_pos, if_neg]; rfl) ?_; (first | exact vb_true (by omega) | exact vb_false (by omega) | exact vb_dec (by omega) | exact vi_eq (by omega) | rfl | (refine vi_eq ?_; simp_all; done) | (refine vi_eq ?_; simp_all; omega) | (refine vi_eq ?_; simp_all; intros; omega)))
      | exact endT_v (.inr rfl) (by simp (maxSteps := 8000000) (implicitDefEqProofs := false) (disch := omega) only [↓reduceIte, go_sem, if_pos, if_neg]; try rfl) (fun _ => rfl)
-- laws.heldByteS
def c117 : AF := ⟨22,
  (.seq (.reg [⟨(some 4), none, .mv (.v (.int .i64 0))⟩])
  (.seq (.seq (.reg [⟨(some 5), none, .mv (.v (.int .i64 0))⟩])
  (.block 0 (.loop (.seq (.seq (.reg [⟨(some 6), none, .mv (.t 5)⟩,
   ⟨(some 7), none, .mv (.t 0)⟩,
   ⟨(some 8), none, .len (.t 7)⟩,
   ⟨(some 9), none, .bin .lss (.t 6) (.t 8)⟩])
  (.cond (.t 9) .skip
  (.exit 0)))
  (.seq (.block 1 (.seq (.seq (.reg [⟨(some 12), none, .mv (.t 0)⟩,
   ⟨(some 13), none, .mv (.t 5)⟩,
   ⟨(some 14), none, .ia 1 (.t 12) (.t 13)⟩,
   ⟨(some 15), none, .ld (.t 14)⟩,
   ⟨(some 16), none, .mv (.t 1)⟩,
   ⟨(some 17), none, .cvI .u8 (.t 16)⟩,
   ⟨(some 18), none, .bin .neq (.t 15) (.t 17)⟩])
  (.cond (.t 18) (.seq (.reg [⟨(some 4), none, .mv (.v (.int .i64 (-1)))⟩])
  .ret)
  .skip))
  (.reg [⟨(some 19), none, .mv (.t 1)⟩,
   ⟨(some 20), none, .bin .add (.t 19) (.v (.int .i64 1))⟩,
   ⟨(some 1), none, .mv (.t 20)⟩])))
  (.reg [⟨(some 10), none, .mv (.t 5)⟩,
   ⟨(some 11), none, .bin .add (.t 10) (.v (.int .i64 1))⟩,
   ⟨(some 5), none, .mv (.t 11)⟩]))))))
  (.seq (.reg [⟨(some 21), none, .mv (.t 1)⟩,
   ⟨(some 4), none, .mv (.t 21)⟩])
  .ret))),
  [.t 4]⟩
theorem k117 : cFn Try.prog Try.f117 = some c117 := by kernel_rfl
theorem heldByteS_ok : OkT Try.prog 117 (pureSp (hdC_S sh_ByteS)) := by
  refine okT_hdC (OkΓT.nil _) Try.func117 (by kernel_rfl) k117 ?_
  intro c k hc h1 hz
  obtain ⟨rows, _, hr, _, hwt, hf⟩ := FitC.rows hc
  rw [hwt] at hz ⊢; rw [hf]
  have hlw : rows.length ≤ wtRs rows := wtRs_rows fun r hx => by
    have hrr := hr r hx
    obtain ⟨_, _, rfl, ⟨a0, rfl⟩, hrr⟩ := hrr; simp only [FitR] at hrr; subst hrr
    simp only [wtIs, wtI]; omega
  (dsimp only [c117]; simp (maxSteps := 8000000) (implicitDefEqProofs := false) (disch := omega) only [↓reduceIte, go_sem, if_pos, if_neg])
  refine awpT_loop (α := Nat) (fun i => ⟨slots [(0, .s (fzRs (mkRs rows k))), (1, .p (.int .i64 (k + (wtRs (rows.take i) : Int)))), (5, .p (.int .i64 i))], []⟩) (fun i => i ≤ rows.length) (fun i => rows.length - i) 0 (Nat.zero_le _) (by simp only [List.take_zero, wtRs, nat0T, Int.add_zero]; exact (le_of [] (by simp (maxSteps := 8000000) (implicitDefEqProofs := false) (disch := omega) only [↓reduceIte, go_sem, if_pos, if_neg]) (by simp (maxSteps := 8000000) (implicitDefEqProofs := false) (disch := omega) only [↓reduceIte, go_sem, if_pos, if_neg]) (by decide) (by simp))) ?_
  intro i hi
  simp (maxSteps := 8000000) (implicitDefEqProofs := false) (disch := omega) only [↓reduceIte, go_sem, if_pos, if_neg]
  refine condKT_dec (fun hlt => ?_) (fun hge => ?_)
  · obtain ⟨r, hx⟩ := get_ex (l := rows) (i := i) (by omega)
    have hrr := hr r (List.mem_of_getElem? hx)
    have hwr := wtRs_mem hx; have hsn := wtRs_snoc hx
    have hg := fzRs_get (mkRs_get (k := k) hx)
    generalize hm : k + (wtRs (rows.take i) : Int) = m at *
    obtain ⟨_, _, rfl, ⟨a0, rfl⟩, hrr⟩ := hrr; simp only [FitR] at hrr; subst hrr
    simp only [wtIs, wtI, Nat.add_zero] at hwr hsn
    simp only [mkIs, mkI, mkV, wtI, nat1T, fzCs, fzC, el_one, el_two] at hg
    simp (maxSteps := 8000000) (implicitDefEqProofs := false) (disch := omega) only [↓reduceIte, go_sem, if_pos, if_neg, eq_true hlt, hg, dec_self, Bool.not_true, not_true, decide_false]
    refine loopKT_next (i + 1) (by omega) (by omega) ?_
    have hs2 : k + (wtRs (rows.take (i + 1)) : Int) = m + 1 := by rw [hsn]; omega
    exact (le_of [] (by simp (maxSteps := 8000000) (implicitDefEqProofs := false) (disch := omega) only [↓reduceIte, go_sem, if_pos, if_neg, hs2]) (by simp (maxSteps := 8000000) (implicitDefEqProofs := false) (disch := omega) only [↓reduceIte, go_sem, if_pos, if_neg, hs2]) (by decide) (by simp))
  · have hb : rows.take i = rows := List.take_of_length_le (by omega)
    simp (maxSteps := 8000000) (implicitDefEqProofs := false) (disch := omega) only [↓reduceIte, go_sem, if_pos, if_neg, eq_false hge, hb]
    refine joinK_here ?_
    simp (maxSteps := 8000000) (implicitDefEqProofs := false) (disch := omega) only [↓reduceIte, go_sem, if_pos, if_neg]
    repeat' first
      | (refine gdKT_dec (fun hg => ?_) (fun hg => ?_) <;> (try (first | simp (maxSteps := 8000000) (implicitDefEqProofs := false) (disch := omega) only [↓reduceIte, go_sem, if_pos, if_neg, eq_false hg] | simp (maxSteps := 8000000) (implicitDefEqProofs := false) (disch := omega) only [↓reduceIte, go_sem, if_pos, if_neg, eq_true hg])))
      | (refine condKT_dec (fun hg => ?_) (fun hg => ?_) <;> (try (first | simp (maxSteps := 8000000) (implicitDefEqProofs := false) (disch := omega) only [↓reduceIte, go_sem, if_pos, if_neg, eq_false hg] | simp (maxSteps := 8000000) (implicitDefEqProofs := false) (disch := omega) only [↓reduceIte, go_sem, if_pos, if_neg, eq_true hg])))
      | (refine gdKT_split (fun hg => ?_) (fun hg => ?_) <;> (try simp (maxSteps := 8000000) (implicitDefEqProofs := false) (disch := omega) only [↓reduceIte, go_sem, if_pos, if_neg, hg]))
      | (refine condKT_split (fun hg => ?_) (fun hg => ?_) <;> (try simp (maxSteps := 8000000) (implicitDefEqProofs := false) (disch := omega) only [↓reduceIte, go_sem, if_pos, if_neg, hg]))
      | (refine endT_p (.inr rfl) (by simp (maxSteps := 8000000) (implicitDefEqProofs := false) (disch := omega) only [↓reduceIte, go_sem, if_pos, if_neg]; rfl) ?_; (first | exact vb_true (by omega) | exact vb_false (by omega) | exact vb_dec (by omega) | exact vi_eq (by omega) | rfl | (refine vi_eq ?_; simp_all; done) | (refine vi_eq ?_; simp_all; omega) | (refine vi_eq ?_; simp_all; intros; omega)))
      | exact endT_v (.inr rfl) (by simp (maxSteps := 8000000) (implicitDefEqProofs := false) (disch := omega) only [↓reduceIte, go_sem, if_pos, if_neg]; try rfl) (fun _ => rfl)
-- laws.markByteS
def c29 : AF := ⟨20,
  (.seq (.reg [⟨(some 4), none, .mv (.v (.int .i64 0))⟩])
  (.seq (.seq (.reg [⟨(some 5), none, .mv (.v (.int .i64 0))⟩])
  (.block 0 (.loop (.seq (.seq (.reg [⟨(some 6), none, .mv (.t 5)⟩,
   ⟨(some 7), none, .mv (.t 0)⟩,
   ⟨(some 8), none, .len (.t 7)⟩,
   ⟨(some 9), none, .bin .lss (.t 6) (.t 8)⟩])
  (.cond (.t 9) .skip
  (.exit 0)))
  (.seq (.block 1 (.seq (.reg [⟨(some 12), none, .mv (.t 0)⟩,
   ⟨(some 13), none, .mv (.t 5)⟩,
   ⟨(some 14), none, .mv (.t 1)⟩,
   ⟨(some 15), none, .cvI .u8 (.t 14)⟩,
   ⟨(some 16), none, .ia 1 (.t 12) (.t 13)⟩,
   ⟨none, none, .st 1 (.t 16) (.t 15)⟩])
  (.reg [⟨(some 17), none, .mv (.t 1)⟩,
   ⟨(some 18), none, .bin .add (.t 17) (.v (.int .i64 1))⟩,
   ⟨(some 1), none, .mv (.t 18)⟩])))
  (.reg [⟨(some 10), none, .mv (.t 5)⟩,
   ⟨(some 11), none, .bin .add (.t 10) (.v (.int .i64 1))⟩,
   ⟨(some 5), none, .mv (.t 11)⟩]))))))
  (.seq (.reg [⟨(some 19), none, .mv (.t 1)⟩,
   ⟨(some 4), none, .mv (.t 19)⟩])
  .ret))),
  [.t 4]⟩
theorem k29 : cFn Try.prog Try.f29 = some c29 := by kernel_rfl
theorem markByteS_ok : OkT Try.prog 29 (mkC_Sp sh_ByteS) := by
  refine okT_mkC (OkΓT.nil _) Try.func29 (by kernel_rfl) k29 ?_
  intro c k hc h1 hz
  simp only [sh_ByteS, FitC] at hc
  rcases hc with rfl | ⟨z, rows, rfl, hz0, hr⟩
  · simp only [wtC, mkC, nbC, tvC_v, tvC_nl, tvC_sl, bkC, nat0T, Int.add_zero] at *
    (dsimp only [c29]; simp (maxSteps := 8000000) (implicitDefEqProofs := false) (disch := omega) only [↓reduceIte, go_sem, if_pos, if_neg])
    refine awpT_loop (α := Unit) (fun _ => ⟨slots [(0, .nl), (1, .p (.int .i64 k)), (5, .p (.int .i64 0))], []⟩) (fun _ => True) (fun _ => 0) () trivial (le_keep (Nat.zero_le _) (by simp (maxSteps := 8000000) (implicitDefEqProofs := false) (disch := omega) only [↓reduceIte, go_sem, if_pos, if_neg, slotsIn])) ?_
    intro _ _
    simp (maxSteps := 8000000) (implicitDefEqProofs := false) (disch := omega) only [↓reduceIte, go_sem, if_pos, if_neg]
    refine joinK_at _ (le_same _ _ (Nat.zero_le _)) ?_
    simp (maxSteps := 8000000) (implicitDefEqProofs := false) (disch := omega) only [↓reduceIte, go_sem, if_pos, if_neg]
    exact endK_same (.inr rfl) (Nat.zero_le _) (by simp (maxSteps := 8000000) (implicitDefEqProofs := false) (disch := omega) only [↓reduceIte, go_sem, if_pos, if_neg]) rfl
  · simp only [wtC] at hz ⊢
    have hlw : rows.length ≤ wtRs rows := wtRs_rows fun r hx => by
      have hrr := hr r hx
      obtain ⟨_, _, rfl, ⟨a0, rfl⟩, hrr⟩ := hrr; simp only [FitR] at hrr; subst hrr
      simp only [wtIs, wtI]; omega
    simp only [tvC_v, tvC_nl, tvC_sl, bkC, mkC, Nat.zero_add]
    generalize hnb : nbC _ = nb
    simp only [nbC] at hnb
    have hnb2 : ∀ i, nb = (bkRs 1 (mkAt rows k i)).length + 1 := fun i => by
      have := mkRs_nb (rows.take i) k; have h2 := nbRs_app (rows.take i) (rows.drop i)
      rw [List.take_append_drop] at h2; rw [bkRs_len, mkAt, nbRs_app]; omega
    (dsimp only [c29]; simp (maxSteps := 8000000) (implicitDefEqProofs := false) (disch := omega) only [↓reduceIte, go_sem, if_pos, if_neg])
    refine awpT_loop (α := Nat) (fun i => ⟨slots [(0, .os 0 0 rows.length), (1, .p (.int .i64 (k + (wtRs (rows.take i) : Int)))), (5, .p (.int .i64 i))], .cells 5 z (tvRs 1 (mkAt rows k i)) :: bkRs 1 (mkAt rows k i)⟩)
      (fun i => i ≤ rows.length) (fun i => rows.length - i) 0 (Nat.zero_le _) (by simp only [mkAt_zero, List.take_zero, wtRs, nat0T, Int.add_zero]; exact le_keep (by have := hnb2 0; rw [mkAt_zero] at this; rw [List.length_cons]; omega) (by simp (maxSteps := 8000000) (implicitDefEqProofs := false) (disch := omega) only [↓reduceIte, go_sem, if_pos, if_neg, slotsIn])) ?_
    intro i hi
    have hl1 : (tvRs 1 (mkAt rows k i)).length = rows.length := by rw [tvRs_len, mkAt_len]
    simp (maxSteps := 8000000) (implicitDefEqProofs := false) (disch := omega) only [↓reduceIte, go_sem, if_pos, if_neg, hl1]
    refine condKT_dec (fun hlt => ?_) (fun hge => ?_)
    · obtain ⟨r, hx⟩ := get_ex (l := rows) (i := i) (by omega)
      obtain rfl : z = 1 := by rcases hz0 with h | h; (rw [h] at hx; simp at hx); exact h
      have hrr := hr r (List.mem_of_getElem? hx)
      have hwr := wtRs_mem hx; have hsn := wtRs_snoc hx
      have hg := mkAt_get 1 (k := k) hx; have hs := mkAt_set 1 (k := k) hx
      generalize hm : k + (wtRs (rows.take i) : Int) = m at *
      obtain ⟨_, _, rfl, ⟨a0, rfl⟩, hrr⟩ := hrr; simp only [FitR] at hrr; subst hrr
      simp only [wtIs, wtI, Nat.add_zero] at hwr hsn
      simp only [mkIs, mkI, mkV, wtI, nat1T, tvCs, tvC_v, tvC_nl, tvC_sl, nbC, Nat.add_zero, mkC_tv, el_one, el_two] at hg hs
      have hb2 : bkRs 1 (mkAt rows k (i + 1)) = bkRs 1 (mkAt rows k i) := by rw [mkAt_bkn 1 hx, mkAt_bk 1 hx]; rfl
      simp (maxSteps := 8000000) (implicitDefEqProofs := false) (disch := omega) only [↓reduceIte, go_sem, if_pos, if_neg, hl1, hg, List.getElem?_set_self, List.set_set]
      refine loopKT_next (i + 1) (by omega) (by omega) ?_
      have hs2 : k + (wtRs (rows.take (i + 1)) : Int) = m + 1 := by rw [hsn]; omega
      rw [hs2, ← hs, hb2]
      exact le_keep (by have := hnb2 i; rw [List.length_cons]; omega) (by simp (maxSteps := 8000000) (implicitDefEqProofs := false) (disch := omega) only [↓reduceIte, go_sem, if_pos, if_neg, slotsIn])
    · have hb : rows.take i = rows := List.take_of_length_le (by omega)
      have hmf := mkAt_full (k := k) (show rows.length ≤ i by omega)
      have hnb3 := hnb2 i; rw [hmf] at hnb3
      simp (maxSteps := 8000000) (implicitDefEqProofs := false) (disch := omega) only [↓reduceIte, go_sem, if_pos, if_neg, eq_false hge, hb, hmf]
      refine joinK_at _ (le_same _ _ (by show nb ≤ List.length (_ :: _); rw [List.length_cons]; omega)) ?_
      simp (maxSteps := 8000000) (implicitDefEqProofs := false) (disch := omega) only [↓reduceIte, go_sem, if_pos, if_neg]
      exact endK_same (.inr rfl) (by rw [List.length_cons]; omega) (by simp (maxSteps := 8000000) (implicitDefEqProofs := false) (disch := omega) only [↓reduceIte, go_sem, if_pos, if_neg]) rfl
/-! BytesResult -/
def sh_BytesResult : List Shp := [.i .i64, sh_ByteS]
theorem sh_BytesResult_Has {cs : List Cell} (h : HasR sh_BytesResult cs) : ∃ (a0 : Int) (c1 : Cell), cs = [.v (.int .i64 a0), c1] ∧ HasC sh_ByteS c1 := by
  obtain ⟨_, _, rfl, ⟨a0, rfl, _⟩, c1, _, rfl, hc1, h⟩ := h
  simp only [HasR] at h; subst h
  exact ⟨a0, c1, rfl, hc1⟩
theorem sh_BytesResult_mkHas {c1 : Cell} (hc1 : HasC sh_ByteS c1) (a0 : Int) : HasR sh_BytesResult [.v (.int .i64 a0), c1] := by
  exact ⟨_, _, rfl, ⟨_, rfl, fun h => by cases h⟩, _, _, rfl, hc1, rfl⟩
theorem sh_BytesResult_Fit {cs : List Cell} (h : FitR sh_BytesResult cs) : ∃ (a0 : Int) (c1 : Cell), cs = [.v (.int .i64 a0), c1] ∧ FitC sh_ByteS c1 := by
  obtain ⟨_, _, rfl, ⟨a0, rfl⟩, c1, _, rfl, hc1, h⟩ := h
  simp only [FitR] at h; subst h
  exact ⟨a0, c1, rfl, hc1⟩
theorem sh_BytesResult_mkFit {c1 : Cell} (hc1 : FitC sh_ByteS c1) (a0 : Int) : FitR sh_BytesResult [.v (.int .i64 a0), c1] := by
  exact ⟨_, _, rfl, ⟨_, rfl⟩, _, _, rfl, hc1, rfl⟩
theorem eq_BytesResult_at {c1 : Cell} (hc1 : FitC sh_ByteS c1) (hz : szC c1 ≤ 1099511627776) (a0 : Int) : eqR_S sh_BytesResult [.agg [.p (.int .i64 a0), fzC c1], .agg [.p (.int .i64 a0), fzC c1]] = some (.p (.bool true), []) := by
  exact eqR_at (sh_BytesResult_mkFit hc1 a0) (by simp only [szCs, szC]; omega)
-- laws.eqBytesResult
def c27 : AF := ⟨16,
  (.seq (.reg [⟨(some 2), none, .box 27 (.t 0)⟩,
   ⟨(some 3), none, .box 27 (.t 1)⟩,
   ⟨(some 4), none, .mv (.v (.bool false))⟩])
  (.seq (.seq (.reg [⟨(some 5), none, .fa (.t 2) 0⟩,
   ⟨(some 6), none, .ld (.t 5)⟩,
   ⟨(some 7), none, .fa (.t 3) 0⟩,
   ⟨(some 8), none, .ld (.t 7)⟩,
   ⟨(some 9), none, .bin .neq (.t 6) (.t 8)⟩])
  (.cond (.t 9) (.seq (.reg [⟨(some 4), none, .mv (.v (.bool false))⟩])
  .ret)
  .skip))
  (.seq (.seq (.reg [⟨(some 10), none, .fa (.t 2) 1⟩,
   ⟨(some 11), none, .ld (.t 10)⟩,
   ⟨(some 12), none, .fa (.t 3) 1⟩,
   ⟨(some 13), none, .ld (.t 12)⟩,
   ⟨(some 14), none, .call 28 [(.t 11), (.t 13)]⟩,
   ⟨(some 15), none, .un .not (.t 14)⟩])
  (.cond (.t 15) (.seq (.reg [⟨(some 4), none, .mv (.v (.bool false))⟩])
  .ret)
  .skip))
  (.seq (.reg [⟨(some 4), none, .mv (.v (.bool true))⟩])
  .ret)))),
  [.t 4]⟩
theorem k27 : cFn Try.prog Try.f27 = some c27 := by kernel_rfl
theorem eqBytesResult_ok : OkT Try.prog 27 (pureSp (eqR_S sh_BytesResult)) := by
  refine okT_eqR (OkΓT.cons eqByteS_ok (OkΓT.nil _)) Try.func27 (by kernel_rfl) k27 ?_
  intro c hc hz
  obtain ⟨a0, c1, rfl, hc1⟩ := sh_BytesResult_Fit hc
  simp only [szCs, szC] at hz
  simp only [fzCs, fzC]
  (dsimp only [c27]; simp (maxSteps := 8000000) (implicitDefEqProofs := false) (disch := omega) only [↓reduceIte, go_sem, if_pos, if_neg, eqC_at hc1 (by omega)])
  repeat' first
    | (refine gdKT_dec (fun hg => ?_) (fun hg => ?_) <;> (try (first | simp (maxSteps := 8000000) (implicitDefEqProofs := false) (disch := omega) only [↓reduceIte, go_sem, if_pos, if_neg, eq_false hg, eqC_at hc1 (by omega)] | simp (maxSteps := 8000000) (implicitDefEqProofs := false) (disch := omega) only [↓reduceIte, go_sem, if_pos, if_neg, eq_true hg, eqC_at hc1 (by omega)])))
    | (refine condKT_dec (fun hg => ?_) (fun hg => ?_) <;> (try (first | simp (maxSteps := 8000000) (implicitDefEqProofs := false) (disch := omega) only [↓reduceIte, go_sem, if_pos, if_neg, eq_false hg, eqC_at hc1 (by omega)] | simp (maxSteps := 8000000) (implicitDefEqProofs := false) (disch := omega) only [↓reduceIte, go_sem, if_pos, if_neg, eq_true hg, eqC_at hc1 (by omega)])))
    | (refine gdKT_split (fun hg => ?_) (fun hg => ?_) <;> (try simp (maxSteps := 8000000) (implicitDefEqProofs := false) (disch := omega) only [↓reduceIte, go_sem, if_pos, if_neg, hg, eqC_at hc1 (by omega)]))
    | (refine condKT_split (fun hg => ?_) (fun hg => ?_) <;> (try simp (maxSteps := 8000000) (implicitDefEqProofs := false) (disch := omega) only [↓reduceIte, go_sem, if_pos, if_neg, hg, eqC_at hc1 (by omega)]))
    | (refine endT_p (.inr rfl) (by simp (maxSteps := 8000000) (implicitDefEqProofs := false) (disch := omega) only [↓reduceIte, go_sem, if_pos, if_neg, eqC_at hc1 (by omega)]; rfl) ?_; (first | exact vb_true (by omega) | exact vb_false (by omega) | exact vb_dec (by omega) | exact vi_eq (by omega) | rfl | (refine vi_eq ?_; simp_all; done) | (refine vi_eq ?_; simp_all; omega) | (refine vi_eq ?_; simp_all; intros; omega)))
    | exact endT_v (.inr rfl) (by simp (maxSteps := 8000000) (implicitDefEqProofs := false) (disch := omega) only [↓reduceIte, go_sem, if_pos, if_neg, eqC_at hc1 (by omega)]; try rfl) (fun _ => rfl)
theorem hd_BytesResult_at {c1 : Cell} (hc1 : FitC sh_ByteS c1) {k : Int} (hk : 0 ≤ k) (hz : k + (wtC c1 : Int) ≤ 1099511627776) (a0 : Int) : hdR_S sh_BytesResult [.agg [.p (.int .i64 a0), fzC (mkC c1 (k))], .p (.int .i64 k)] = some (.p (.int .i64 (k + (wtC c1 : Int))), []) := by
  have := hdR_at (k := k) (sh_BytesResult_mkFit hc1 a0) hk (by simp only [wtCs, wtC_v]; omega)
  simp only [mkCs, mkC_v, wtC_v, nat0T, Int.add_zero, fzCs, fzC, wtCs, Nat.zero_add, Nat.add_zero] at this
  exact this
-- laws.heldBytesResult
def c31 : AF := ⟨12,
  (.seq (.reg [⟨(some 2), none, .box 27 (.t 0)⟩,
   ⟨(some 4), none, .mv (.v (.int .i64 0))⟩])
  (.seq (.reg [⟨(some 5), none, .fa (.t 2) 1⟩,
   ⟨(some 6), none, .ld (.t 5)⟩,
   ⟨(some 7), none, .mv (.t 1)⟩,
   ⟨(some 8), none, .call 117 [(.t 6), (.t 7)]⟩,
   ⟨(some 1), none, .mv (.t 8)⟩])
  (.seq (.seq (.reg [⟨(some 9), none, .mv (.t 1)⟩,
   ⟨(some 10), none, .bin .lss (.t 9) (.v (.int .i64 0))⟩])
  (.cond (.t 10) (.seq (.reg [⟨(some 4), none, .mv (.v (.int .i64 (-1)))⟩])
  .ret)
  .skip))
  (.seq (.reg [⟨(some 11), none, .mv (.t 1)⟩,
   ⟨(some 4), none, .mv (.t 11)⟩])
  .ret)))),
  [.t 4]⟩
theorem k31 : cFn Try.prog Try.f31 = some c31 := by kernel_rfl
theorem heldBytesResult_ok : OkT Try.prog 31 (pureSp (hdR_S sh_BytesResult)) := by
  refine okT_hdR (OkΓT.cons heldByteS_ok (OkΓT.nil _)) Try.func31 (by kernel_rfl) k31 ?_
  intro c k hc h1 hz
  obtain ⟨a0, c1, rfl, hc1⟩ := sh_BytesResult_Fit hc
  simp only [wtCs, wtC_v, Nat.zero_add, Nat.add_zero] at hz ⊢
  simp only [mkCs, mkC_v, wtC_v, nat0T, Int.add_zero, fzCs, fzC]
  (dsimp only [c31]; simp (maxSteps := 8000000) (implicitDefEqProofs := false) (disch := omega) only [↓reduceIte, go_sem, if_pos, if_neg, hdC_at hc1 (show 0 ≤ k by omega) (by omega)])
  repeat' first
    | (refine gdKT_dec (fun hg => ?_) (fun hg => ?_) <;> (try (first | simp (maxSteps := 8000000) (implicitDefEqProofs := false) (disch := omega) only [↓reduceIte, go_sem, if_pos, if_neg, eq_false hg, hdC_at hc1 (show 0 ≤ k by omega) (by omega)] | simp (maxSteps := 8000000) (implicitDefEqProofs := false) (disch := omega) only [↓reduceIte, go_sem, if_pos, if_neg, eq_true hg, hdC_at hc1 (show 0 ≤ k by omega) (by omega)])))
    | (refine condKT_dec (fun hg => ?_) (fun hg => ?_) <;> (try (first | simp (maxSteps := 8000000) (implicitDefEqProofs := false) (disch := omega) only [↓reduceIte, go_sem, if_pos, if_neg, eq_false hg, hdC_at hc1 (show 0 ≤ k by omega) (by omega)] | simp (maxSteps := 8000000) (implicitDefEqProofs := false) (disch := omega) only [↓reduceIte, go_sem, if_pos, if_neg, eq_true hg, hdC_at hc1 (show 0 ≤ k by omega) (by omega)])))
    | (refine gdKT_split (fun hg => ?_) (fun hg => ?_) <;> (try simp (maxSteps := 8000000) (implicitDefEqProofs := false) (disch := omega) only [↓reduceIte, go_sem, if_pos, if_neg, hg, hdC_at hc1 (show 0 ≤ k by omega) (by omega)]))
    | (refine condKT_split (fun hg => ?_) (fun hg => ?_) <;> (try simp (maxSteps := 8000000) (implicitDefEqProofs := false) (disch := omega) only [↓reduceIte, go_sem, if_pos, if_neg, hg, hdC_at hc1 (show 0 ≤ k by omega) (by omega)]))
    | (refine endT_p (.inr rfl) (by simp (maxSteps := 8000000) (implicitDefEqProofs := false) (disch := omega) only [↓reduceIte, go_sem, if_pos, if_neg, hdC_at hc1 (show 0 ≤ k by omega) (by omega)]; rfl) ?_; (first | exact vb_true (by omega) | exact vb_false (by omega) | exact vb_dec (by omega) | exact vi_eq (by omega) | rfl | (refine vi_eq ?_; simp_all; done) | (refine vi_eq ?_; simp_all; omega) | (refine vi_eq ?_; simp_all; intros; omega)))
    | exact endT_v (.inr rfl) (by simp (maxSteps := 8000000) (implicitDefEqProofs := false) (disch := omega) only [↓reduceIte, go_sem, if_pos, if_neg, hdC_at hc1 (show 0 ≤ k by omega) (by omega)]; try rfl) (fun _ => rfl)
-- laws.markBytesResult
def c30 : AF := ⟨10,
  (.seq (.reg [⟨(some 2), none, .box 27 (.t 0)⟩,
   ⟨(some 4), none, .mv (.v (.int .i64 0))⟩])
  (.seq (.reg [⟨(some 5), none, .fa (.t 2) 1⟩,
   ⟨(some 6), none, .ld (.t 5)⟩,
   ⟨(some 7), none, .mv (.t 1)⟩,
   ⟨(some 8), none, .call 29 [(.t 6), (.t 7)]⟩,
   ⟨(some 1), none, .mv (.t 8)⟩])
  (.seq (.reg [⟨(some 9), none, .mv (.t 1)⟩,
   ⟨(some 4), none, .mv (.t 9)⟩])
  .ret))),
  [.t 4]⟩
theorem k30 : cFn Try.prog Try.f30 = some c30 := by kernel_rfl
theorem markBytesResult_ok : OkT Try.prog 30 (mkR_Sp sh_BytesResult) := by
  refine okT_mkR (OkΓT.cons markByteS_ok (OkΓT.nil _)) Try.func30 (by kernel_rfl) k30 ?_
  intro c k hc h1 hz
  obtain ⟨a0, c1, rfl, hc1⟩ := sh_BytesResult_Fit hc
  simp only [wtCs, wtC_v, Nat.zero_add, Nat.add_zero] at hz ⊢
  simp only [mkCs, mkC_v, wtC_v, nat0T, Int.add_zero]
  simp only [tvCs, tvC_v, tvC_nl, tvC_sl, nbC, Nat.add_zero, Nat.zero_add]
  generalize hN : nbCs _ = N
  have l0 : (bkCs 0 [.v (.int .i64 a0), c1]).length = N := by rw [bkCs_len]; exact hN
  (dsimp only [c30]; simp (maxSteps := 8000000) (implicitDefEqProofs := false) (disch := omega) only [↓reduceIte, go_sem, if_pos, if_neg, l0, get_last l0])
  have m0 := fun X => mk_cell (A := [.v (.int .i64 a0)]) (B := []) (G := [X]) (n := 0) (k := k) (by simp only [nbCs, nbC, mkC_nb] <;> omega) hc1 (by omega) (by omega)
  simp only [List.cons_append, List.nil_append, mkCs, mkC_v, wtCs, wtC_v, nat0T, Int.add_zero, Nat.add_zero, Nat.zero_add, tvCs, tvC_v, tvC_nl, tvC_sl, nbC, natAT, ← Int.add_assoc, mkC_tv, mkC_nb] at m0
  have l1 : (bkCs 0 [.v (.int .i64 a0), (mkC c1 (k))]).length = N := by rw [bkCs_len, ← hN]; simp only [nbCs, mkC_nb]
  refine mutQ_call (by simp (maxSteps := 8000000) (implicitDefEqProofs := false) (disch := omega) only [↓reduceIte, go_sem, if_pos, if_neg]; rfl) (by simp (maxSteps := 8000000) (implicitDefEqProofs := false) (disch := omega) only [↓reduceIte, go_sem, if_pos, if_neg]) (m0 _) ?_
  simp (maxSteps := 8000000) (implicitDefEqProofs := false) (disch := omega) only [↓reduceIte, go_sem, if_pos, if_neg, l1, get_last l1]
  exact endK_cells (.inr rfl) (by rw [← hN]; simp only [nbCs, mkC_nb]; omega) (by (simp (maxSteps := 8000000) (implicitDefEqProofs := false) (disch := omega) only [↓reduceIte, go_sem, if_pos, if_neg, natAT, ← Int.add_assoc]) <;> rfl) rfl
/-! Inner -/
def sh_Inner : List Shp := [.i .i64, .i .i64, sh_ByteS]
theorem sh_Inner_Has {cs : List Cell} (h : HasR sh_Inner cs) : ∃ (a0 : Int) (a1 : Int) (c2 : Cell), cs = [.v (.int .i64 a0), .v (.int .i64 a1), c2] ∧ HasC sh_ByteS c2 := by
  obtain ⟨_, _, rfl, ⟨a0, rfl, _⟩, _, _, rfl, ⟨a1, rfl, _⟩, c2, _, rfl, hc2, h⟩ := h
  simp only [HasR] at h; subst h
  exact ⟨a0, a1, c2, rfl, hc2⟩
theorem sh_Inner_mkHas {c2 : Cell} (hc2 : HasC sh_ByteS c2) (a0 : Int) (a1 : Int) : HasR sh_Inner [.v (.int .i64 a0), .v (.int .i64 a1), c2] := by
  exact ⟨_, _, rfl, ⟨_, rfl, fun h => by cases h⟩, _, _, rfl, ⟨_, rfl, fun h => by cases h⟩, _, _, rfl, hc2, rfl⟩
theorem sh_Inner_Fit {cs : List Cell} (h : FitR sh_Inner cs) : ∃ (a0 : Int) (a1 : Int) (c2 : Cell), cs = [.v (.int .i64 a0), .v (.int .i64 a1), c2] ∧ FitC sh_ByteS c2 := by
  obtain ⟨_, _, rfl, ⟨a0, rfl⟩, _, _, rfl, ⟨a1, rfl⟩, c2, _, rfl, hc2, h⟩ := h
  simp only [FitR] at h; subst h
  exact ⟨a0, a1, c2, rfl, hc2⟩
theorem sh_Inner_mkFit {c2 : Cell} (hc2 : FitC sh_ByteS c2) (a0 : Int) (a1 : Int) : FitR sh_Inner [.v (.int .i64 a0), .v (.int .i64 a1), c2] := by
  exact ⟨_, _, rfl, ⟨_, rfl⟩, _, _, rfl, ⟨_, rfl⟩, _, _, rfl, hc2, rfl⟩
theorem eq_Inner_at {c2 : Cell} (hc2 : FitC sh_ByteS c2) (hz : szC c2 ≤ 1099511627776) (a0 : Int) (a1 : Int) : eqR_S sh_Inner [.agg [.p (.int .i64 a0), .p (.int .i64 a1), fzC c2], .agg [.p (.int .i64 a0), .p (.int .i64 a1), fzC c2]] = some (.p (.bool true), []) := by
  exact eqR_at (sh_Inner_mkFit hc2 a0 a1) (by simp only [szCs, szC]; omega)
-- laws.eqInner
def c34 : AF := ⟨21,
  (.seq (.reg [⟨(some 2), none, .box 44 (.t 0)⟩,
   ⟨(some 3), none, .box 44 (.t 1)⟩,
   ⟨(some 4), none, .mv (.v (.bool false))⟩])
  (.seq (.seq (.reg [⟨(some 5), none, .fa (.t 2) 0⟩,
   ⟨(some 6), none, .ld (.t 5)⟩,
   ⟨(some 7), none, .fa (.t 3) 0⟩,
   ⟨(some 8), none, .ld (.t 7)⟩,
   ⟨(some 9), none, .bin .neq (.t 6) (.t 8)⟩])
  (.cond (.t 9) (.seq (.reg [⟨(some 4), none, .mv (.v (.bool false))⟩])
  .ret)
  .skip))
  (.seq (.seq (.reg [⟨(some 10), none, .fa (.t 2) 1⟩,
   ⟨(some 11), none, .ld (.t 10)⟩,
   ⟨(some 12), none, .fa (.t 3) 1⟩,
   ⟨(some 13), none, .ld (.t 12)⟩,
   ⟨(some 14), none, .bin .neq (.t 11) (.t 13)⟩])
  (.cond (.t 14) (.seq (.reg [⟨(some 4), none, .mv (.v (.bool false))⟩])
  .ret)
  .skip))
  (.seq (.seq (.reg [⟨(some 15), none, .fa (.t 2) 2⟩,
   ⟨(some 16), none, .ld (.t 15)⟩,
   ⟨(some 17), none, .fa (.t 3) 2⟩,
   ⟨(some 18), none, .ld (.t 17)⟩,
   ⟨(some 19), none, .call 28 [(.t 16), (.t 18)]⟩,
   ⟨(some 20), none, .un .not (.t 19)⟩])
  (.cond (.t 20) (.seq (.reg [⟨(some 4), none, .mv (.v (.bool false))⟩])
  .ret)
  .skip))
  (.seq (.reg [⟨(some 4), none, .mv (.v (.bool true))⟩])
  .ret))))),
  [.t 4]⟩
theorem k34 : cFn Try.prog Try.f34 = some c34 := by kernel_rfl
theorem eqInner_ok : OkT Try.prog 34 (pureSp (eqR_S sh_Inner)) := by
  refine okT_eqR (OkΓT.cons eqByteS_ok (OkΓT.nil _)) Try.func34 (by kernel_rfl) k34 ?_
  intro c hc hz
  obtain ⟨a0, a1, c2, rfl, hc2⟩ := sh_Inner_Fit hc
  simp only [szCs, szC] at hz
  simp only [fzCs, fzC]
  (dsimp only [c34]; simp (maxSteps := 8000000) (implicitDefEqProofs := false) (disch := omega) only [↓reduceIte, go_sem, if_pos, if_neg, eqC_at hc2 (by omega)])
  repeat' first
    | (refine gdKT_dec (fun hg => ?_) (fun hg => ?_) <;> (try (first | simp (maxSteps := 8000000) (implicitDefEqProofs := false) (disch := omega) only [↓reduceIte, go_sem, if_pos, if_neg, eq_false hg, eqC_at hc2 (by omega)] | simp (maxSteps := 8000000) (implicitDefEqProofs := false) (disch := omega) only [↓reduceIte, go_sem, if_pos, if_neg, eq_true hg, eqC_at hc2 (by omega)])))
    | (refine condKT_dec (fun hg => ?_) (fun hg => ?_) <;> (try (first | simp (maxSteps := 8000000) (implicitDefEqProofs := false) (disch := omega) only [↓reduceIte, go_sem, if_pos, if_neg, eq_false hg, eqC_at hc2 (by omega)] | simp (maxSteps := 8000000) (implicitDefEqProofs := false) (disch := omega) only [↓reduceIte, go_sem, if_pos, if_neg, eq_true hg, eqC_at hc2 (by omega)])))
    | (refine gdKT_split (fun hg => ?_) (fun hg => ?_) <;> (try simp (maxSteps := 8000000) (implicitDefEqProofs := false) (disch := omega) only [↓reduceIte, go_sem, if_pos, if_neg, hg, eqC_at hc2 (by omega)]))
    | (refine condKT_split (fun hg => ?_) (fun hg => ?_) <;> (try simp (maxSteps := 8000000) (implicitDefEqProofs := false) (disch := omega) only [↓reduceIte, go_sem, if_pos, if_neg, hg, eqC_at hc2 (by omega)]))
    | (refine endT_p (.inr rfl) (by simp (maxSteps := 8000000) (implicitDefEqProofs := false) (disch := omega) only [↓reduceIte, go_sem, if_pos, if_neg, eqC_at hc2 (by omega)]; rfl) ?_; (first | exact vb_true (by omega) | exact vb_false (by omega) | exact vb_dec (by omega) | exact vi_eq (by omega) | rfl | (refine vi_eq ?_; simp_all; done) | (refine vi_eq ?_; simp_all; omega) | (refine vi_eq ?_; simp_all; intros; omega)))
    | exact endT_v (.inr rfl) (by simp (maxSteps := 8000000) (implicitDefEqProofs := false) (disch := omega) only [↓reduceIte, go_sem, if_pos, if_neg, eqC_at hc2 (by omega)]; try rfl) (fun _ => rfl)
theorem hd_Inner_at {c2 : Cell} (hc2 : FitC sh_ByteS c2) {k : Int} (hk : 0 ≤ k) (hz : k + (wtC c2 : Int) ≤ 1099511627776) (a0 : Int) (a1 : Int) : hdR_S sh_Inner [.agg [.p (.int .i64 a0), .p (.int .i64 a1), fzC (mkC c2 (k))], .p (.int .i64 k)] = some (.p (.int .i64 (k + (wtC c2 : Int))), []) := by
  have := hdR_at (k := k) (sh_Inner_mkFit hc2 a0 a1) hk (by simp only [wtCs, wtC_v]; omega)
  simp only [mkCs, mkC_v, wtC_v, nat0T, Int.add_zero, fzCs, fzC, wtCs, Nat.zero_add, Nat.add_zero] at this
  exact this
-- laws.heldInner
def c36 : AF := ⟨12,
  (.seq (.reg [⟨(some 2), none, .box 44 (.t 0)⟩,
   ⟨(some 4), none, .mv (.v (.int .i64 0))⟩])
  (.seq (.reg [⟨(some 5), none, .fa (.t 2) 2⟩,
   ⟨(some 6), none, .ld (.t 5)⟩,
   ⟨(some 7), none, .mv (.t 1)⟩,
   ⟨(some 8), none, .call 117 [(.t 6), (.t 7)]⟩,
   ⟨(some 1), none, .mv (.t 8)⟩])
  (.seq (.seq (.reg [⟨(some 9), none, .mv (.t 1)⟩,
   ⟨(some 10), none, .bin .lss (.t 9) (.v (.int .i64 0))⟩])
  (.cond (.t 10) (.seq (.reg [⟨(some 4), none, .mv (.v (.int .i64 (-1)))⟩])
  .ret)
  .skip))
  (.seq (.reg [⟨(some 11), none, .mv (.t 1)⟩,
   ⟨(some 4), none, .mv (.t 11)⟩])
  .ret)))),
  [.t 4]⟩
theorem k36 : cFn Try.prog Try.f36 = some c36 := by kernel_rfl
theorem heldInner_ok : OkT Try.prog 36 (pureSp (hdR_S sh_Inner)) := by
  refine okT_hdR (OkΓT.cons heldByteS_ok (OkΓT.nil _)) Try.func36 (by kernel_rfl) k36 ?_
  intro c k hc h1 hz
  obtain ⟨a0, a1, c2, rfl, hc2⟩ := sh_Inner_Fit hc
  simp only [wtCs, wtC_v, Nat.zero_add, Nat.add_zero] at hz ⊢
  simp only [mkCs, mkC_v, wtC_v, nat0T, Int.add_zero, fzCs, fzC]
  (dsimp only [c36]; simp (maxSteps := 8000000) (implicitDefEqProofs := false) (disch := omega) only [↓reduceIte, go_sem, if_pos, if_neg, hdC_at hc2 (show 0 ≤ k by omega) (by omega)])
  repeat' first
    | (refine gdKT_dec (fun hg => ?_) (fun hg => ?_) <;> (try (first | simp (maxSteps := 8000000) (implicitDefEqProofs := false) (disch := omega) only [↓reduceIte, go_sem, if_pos, if_neg, eq_false hg, hdC_at hc2 (show 0 ≤ k by omega) (by omega)] | simp (maxSteps := 8000000) (implicitDefEqProofs := false) (disch := omega) only [↓reduceIte, go_sem, if_pos, if_neg, eq_true hg, hdC_at hc2 (show 0 ≤ k by omega) (by omega)])))
    | (refine condKT_dec (fun hg => ?_) (fun hg => ?_) <;> (try (first | simp (maxSteps := 8000000) (implicitDefEqProofs := false) (disch := omega) only [↓reduceIte, go_sem, if_pos, if_neg, eq_false hg, hdC_at hc2 (show 0 ≤ k by omega) (by omega)] | simp (maxSteps := 8000000) (implicitDefEqProofs := false) (disch := omega) only [↓reduceIte, go_sem, if_pos, if_neg, eq_true hg, hdC_at hc2 (show 0 ≤ k by omega) (by omega)])))
    | (refine gdKT_split (fun hg => ?_) (fun hg => ?_) <;> (try simp (maxSteps := 8000000) (implicitDefEqProofs := false) (disch := omega) only [↓reduceIte, go_sem, if_pos, if_neg, hg, hdC_at hc2 (show 0 ≤ k by omega) (by omega)]))
    | (refine condKT_split (fun hg => ?_) (fun hg => ?_) <;> (try simp (maxSteps := 8000000) (implicitDefEqProofs := false) (disch := omega) only [↓reduceIte, go_sem, if_pos, if_neg, hg, hdC_at hc2 (show 0 ≤ k by omega) (by omega)]))
    | (refine endT_p (.inr rfl) (by simp (maxSteps := 8000000) (implicitDefEqProofs := false) (disch := omega) only [↓reduceIte, go_sem, if_pos, if_neg, hdC_at hc2 (show 0 ≤ k by omega) (by omega)]; rfl) ?_; (first | exact vb_true (by omega) | exact vb_false (by omega) | exact vb_dec (by omega) | exact vi_eq (by omega) | rfl | (refine vi_eq ?_; simp_all; done) | (refine vi_eq ?_; simp_all; omega) | (refine vi_eq ?_; simp_all; intros; omega)))
    | exact endT_v (.inr rfl) (by simp (maxSteps := 8000000) (implicitDefEqProofs := false) (disch := omega) only [↓reduceIte, go_sem, if_pos, if_neg, hdC_at hc2 (show 0 ≤ k by omega) (by omega)]; try rfl) (fun _ => rfl)
-- laws.markInner
def c35 : AF := ⟨10,
  (.seq (.reg [⟨(some 2), none, .box 44 (.t 0)⟩,
   ⟨(some 4), none, .mv (.v (.int .i64 0))⟩])
  (.seq (.reg [⟨(some 5), none, .fa (.t 2) 2⟩,
   ⟨(some 6), none, .ld (.t 5)⟩,
   ⟨(some 7), none, .mv (.t 1)⟩,
   ⟨(some 8), none, .call 29 [(.t 6), (.t 7)]⟩,
   ⟨(some 1), none, .mv (.t 8)⟩])
  (.seq (.reg [⟨(some 9), none, .mv (.t 1)⟩,
   ⟨(some 4), none, .mv (.t 9)⟩])
  .ret))),
  [.t 4]⟩
theorem k35 : cFn Try.prog Try.f35 = some c35 := by kernel_rfl
theorem markInner_ok : OkT Try.prog 35 (mkR_Sp sh_Inner) := by
  refine okT_mkR (OkΓT.cons markByteS_ok (OkΓT.nil _)) Try.func35 (by kernel_rfl) k35 ?_
  intro c k hc h1 hz
  obtain ⟨a0, a1, c2, rfl, hc2⟩ := sh_Inner_Fit hc
  simp only [wtCs, wtC_v, Nat.zero_add, Nat.add_zero] at hz ⊢
  simp only [mkCs, mkC_v, wtC_v, nat0T, Int.add_zero]
  simp only [tvCs, tvC_v, tvC_nl, tvC_sl, nbC, Nat.add_zero, Nat.zero_add]
  generalize hN : nbCs _ = N
  have l0 : (bkCs 0 [.v (.int .i64 a0), .v (.int .i64 a1), c2]).length = N := by rw [bkCs_len]; exact hN
  (dsimp only [c35]; simp (maxSteps := 8000000) (implicitDefEqProofs := false) (disch := omega) only [↓reduceIte, go_sem, if_pos, if_neg, l0, get_last l0])
  have m0 := fun X => mk_cell (A := [.v (.int .i64 a0), .v (.int .i64 a1)]) (B := []) (G := [X]) (n := 0) (k := k) (by simp only [nbCs, nbC, mkC_nb] <;> omega) hc2 (by omega) (by omega)
  simp only [List.cons_append, List.nil_append, mkCs, mkC_v, wtCs, wtC_v, nat0T, Int.add_zero, Nat.add_zero, Nat.zero_add, tvCs, tvC_v, tvC_nl, tvC_sl, nbC, natAT, ← Int.add_assoc, mkC_tv, mkC_nb] at m0
  have l1 : (bkCs 0 [.v (.int .i64 a0), .v (.int .i64 a1), (mkC c2 (k))]).length = N := by rw [bkCs_len, ← hN]; simp only [nbCs, mkC_nb]
  refine mutQ_call (by simp (maxSteps := 8000000) (implicitDefEqProofs := false) (disch := omega) only [↓reduceIte, go_sem, if_pos, if_neg]; rfl) (by simp (maxSteps := 8000000) (implicitDefEqProofs := false) (disch := omega) only [↓reduceIte, go_sem, if_pos, if_neg]) (m0 _) ?_
  simp (maxSteps := 8000000) (implicitDefEqProofs := false) (disch := omega) only [↓reduceIte, go_sem, if_pos, if_neg, l1, get_last l1]
  exact endK_cells (.inr rfl) (by rw [← hN]; simp only [nbCs, mkC_nb]; omega) (by (simp (maxSteps := 8000000) (implicitDefEqProofs := false) (disch := omega) only [↓reduceIte, go_sem, if_pos, if_neg, natAT, ← Int.add_assoc]) <;> rfl) rfl
end Go.Proofs.Ytkijbknnbmbnbaa
