import Derived.Test.YtngebdcbcliobaaC7
import Derived.Test.YtngebdcbcliobaaC14
set_option linter.unusedSimpArgs false
set_option linter.unusedVariables false
set_option maxRecDepth 100000
set_option maxHeartbeats 4000000
namespace Go.Proofs.Ytngebdcbcliobaa
open Go Go.AH
attribute [local irreducible] awpT ropsT qopsT stepT condKT gdKT EndT joinK loopKT seqKT blkKT kont kontR
theorem markL_take (m : Int) (n : Nat) : (markL m n).take n = markL m n := List.take_of_length_le (by rw [markL_len]; omega)
def chX (x : SaR) (a : Int) : SaR := ⟨x.spi, x.peer, x.key, x.inn, (if x.inn = true then x.sent else x.sent + 1), x.top, x.bits, (x.byt + a), x.hard, x.til, x.sels⟩
noncomputable def chaL_S := specP (fun x : SaR × Int => [saT x.1, .p (.int .i64 x.2)]) (fun x => x.1.sels.length ≤ 140737488351232) (fun x => (.p (.bool true), []))
theorem chaL_at (x : SaR) (a : Int) (h : x.sels.length ≤ 140737488351232) : chaL_S [saT x, .p (.int .i64 a)] = some (.p (.bool true), []) :=
  specP_at (enc := fun x : SaR × Int => [saT x.1, .p (.int .i64 x.2)]) sa2_inj (x, a) h
-- laws.FnExactChargeSa
def c6 : AF := ⟨74,
  (.seq (.reg [⟨(some 2), none, .box 26 (.t 0)⟩,
   ⟨(some 4), none, .mv (.v (.bool false))⟩])
  (.seq (.reg [⟨(some 5), none, .mv (.v (.int .i64 1048576))⟩])
  (.seq (.reg [⟨(some 13), none, .ldn 11 (.t 2)⟩,
   ⟨(some 14), none, .mv (.t 5)⟩,
   ⟨(some 15), none, .call 15 [(.t 13), (.t 14)]⟩,
   ⟨(some 5), none, .mv (.t 15)⟩])
  (.seq (.seq (.reg [⟨(some 16), none, .mv (.t 5)⟩,
   ⟨(some 17), none, .bin .lss (.t 16) (.v (.int .i64 0))⟩])
  (.cond (.t 17) (.seq (.reg [⟨(some 4), none, .mv (.v (.bool true))⟩])
  .ret)
  .skip))
  (.seq (.reg [⟨(some 18), none, .ldn 11 (.t 2)⟩,
   ⟨(some 19), none, .call 17 [(.t 18)]⟩,
   ⟨(some 20), none, .mv (.t 1)⟩,
   ⟨(some 21), none, .call 32 [(.t 19), (.t 20)]⟩,
   ⟨(some 6), none, .alloc 56 [(.int .i64 0), (.int .i64 0), (.int .i64 0), (.int .i64 0), (.int .i64 0), (.bool false), (.int .i64 0), (.int .i64 0), (.int .i64 0), (.int .i64 0), (.int .i64 0), (.int .i64 0), (.slice none 0 0)]⟩,
   ⟨none, none, .st 13 (.t 6) (.t 21)⟩])
  (.seq (.reg [⟨(some 22), none, .ldn 11 (.t 2)⟩,
   ⟨(some 23), none, .call 17 [(.t 22)]⟩,
   ⟨(some 7), none, .alloc 32 [(.int .i64 0), (.int .i64 0), (.int .i64 0), (.bool false), (.int .i64 0), (.int .i64 0), (.int .i64 0), (.int .i64 0), (.int .i64 0), (.int .i64 0), (.slice none 0 0)]⟩,
   ⟨none, none, .st 11 (.t 7) (.t 23)⟩])
  (.seq (.reg [⟨(some 24), none, .ldn 11 (.t 7)⟩,
   ⟨(some 25), none, .mv (.t 1)⟩,
   ⟨(some 26), none, .call 33 [(.t 24), (.t 25)]⟩,
   ⟨(some 8), none, .alloc 56 [(.int .i64 0), (.int .i64 0), (.int .i64 0), (.int .i64 0), (.int .i64 0), (.bool false), (.int .i64 0), (.int .i64 0), (.int .i64 0), (.int .i64 0), (.int .i64 0), (.int .i64 0), (.slice none 0 0)]⟩,
   ⟨none, none, .st 13 (.t 8) (.t 26)⟩])
  (.seq (.seq (.reg [⟨(some 27), none, .ldn 13 (.t 8)⟩,
   ⟨(some 28), none, .ldn 13 (.t 6)⟩,
   ⟨(some 29), none, .call 34 [(.t 27), (.t 28)]⟩,
   ⟨(some 30), none, .un .not (.t 29)⟩])
  (.cond (.t 30) (.seq (.reg [⟨(some 4), none, .mv (.v (.bool false))⟩])
  .ret)
  .skip))
  (.seq (.seq (.drw [⟨(some 31), none, .ldn 11 (.t 7)⟩,
   ⟨(some 32), none, .ldn 11 (.t 2)⟩,
   ⟨(some 33), none, .call 17 [(.t 32)]⟩,
   ⟨(some 34), none, .call 19 [(.t 31), (.t 33)]⟩,
   ⟨(some 35), none, .un .not (.t 34)⟩] [])
  (.cond (.t 35) (.seq (.reg [⟨(some 4), none, .mv (.v (.bool false))⟩])
  .ret)
  .skip))
  (.seq (.reg [⟨(some 9), none, .mv (.v (.int .i64 1))⟩])
  (.seq (.reg [⟨(some 36), none, .ldn 11 (.t 7)⟩,
   ⟨(some 37), none, .mv (.t 9)⟩,
   ⟨(some 38), none, .call 35 [(.t 36), (.t 37)]⟩,
   ⟨(some 9), none, .mv (.t 38)⟩])
  (.seq (.seq (.reg [⟨(some 39), none, .mv (.t 9)⟩,
   ⟨(some 40), none, .bin .lss (.t 39) (.v (.int .i64 0))⟩,
   ⟨(some 41), none, .mv (.t 40)⟩,
   ⟨(some 42), (some (41, false)), .ldn 13 (.t 8)⟩,
   ⟨(some 43), (some (41, false)), .ldn 13 (.t 6)⟩,
   ⟨(some 44), (some (41, false)), .call 34 [(.t 42), (.t 43)]⟩,
   ⟨(some 45), (some (41, false)), .un .not (.t 44)⟩,
   ⟨(some 46), none, .pick (.t 41) (.v (.bool true)) (.t 45)⟩])
  (.cond (.t 46) (.seq (.reg [⟨(some 4), none, .mv (.v (.bool false))⟩])
  .ret)
  .skip))
  (.seq (.reg [⟨(some 10), none, .mv (.v (.int .i64 1))⟩])
  (.seq (.reg [⟨(some 47), none, .ldn 13 (.t 8)⟩,
   ⟨(some 48), none, .mv (.t 10)⟩,
   ⟨(some 49), none, .call 36 [(.t 47), (.t 48)]⟩,
   ⟨(some 10), none, .mv (.t 49)⟩])
  (.seq (.reg [⟨(some 11), none, .mv (.v (.int .i64 1))⟩])
  (.seq (.reg [⟨(some 50), none, .ldn 13 (.t 8)⟩,
   ⟨(some 51), none, .mv (.t 11)⟩,
   ⟨(some 52), none, .call 37 [(.t 50), (.t 51)]⟩,
   ⟨(some 11), none, .mv (.t 52)⟩])
  (.seq (.seq (.reg [⟨(some 53), none, .mv (.t 11)⟩,
   ⟨(some 54), none, .bin .lss (.t 53) (.v (.int .i64 0))⟩])
  (.cond (.t 54) (.seq (.reg [⟨(some 4), none, .mv (.v (.bool false))⟩])
  .ret)
  .skip))
  (.seq (.seq (.reg [⟨(some 55), none, .mv (.t 11)⟩,
   ⟨(some 56), none, .mv (.t 10)⟩,
   ⟨(some 57), none, .bin .neq (.t 55) (.t 56)⟩])
  (.cond (.t 57) (.seq (.reg [⟨(some 4), none, .mv (.v (.bool false))⟩])
  .ret)
  .skip))
  (.seq (.reg [⟨(some 58), none, .ldn 11 (.t 2)⟩,
   ⟨(some 59), none, .call 17 [(.t 58)]⟩,
   ⟨(some 60), none, .mv (.t 1)⟩,
   ⟨(some 61), none, .call 33 [(.t 59), (.t 60)]⟩,
   ⟨(some 12), none, .alloc 56 [(.int .i64 0), (.int .i64 0), (.int .i64 0), (.int .i64 0), (.int .i64 0), (.bool false), (.int .i64 0), (.int .i64 0), (.int .i64 0), (.int .i64 0), (.int .i64 0), (.int .i64 0), (.slice none 0 0)]⟩,
   ⟨none, none, .st 13 (.t 12) (.t 61)⟩])
  (.seq (.seq (.reg [⟨(some 62), none, .ldn 13 (.t 12)⟩,
   ⟨(some 63), none, .ldn 13 (.t 6)⟩,
   ⟨(some 64), none, .call 34 [(.t 62), (.t 63)]⟩,
   ⟨(some 65), none, .un .not (.t 64)⟩])
  (.cond (.t 65) (.seq (.reg [⟨(some 4), none, .mv (.v (.bool false))⟩])
  .ret)
  .skip))
  (.seq (.reg [⟨(some 11), none, .mv (.v (.int .i64 1))⟩])
  (.seq (.reg [⟨(some 66), none, .ldn 13 (.t 8)⟩,
   ⟨(some 67), none, .mv (.t 11)⟩,
   ⟨(some 68), none, .call 37 [(.t 66), (.t 67)]⟩,
   ⟨(some 11), none, .mv (.t 68)⟩])
  (.seq (.seq (.reg [⟨(some 69), none, .mv (.t 11)⟩,
   ⟨(some 70), none, .bin .lss (.t 69) (.v (.int .i64 0))⟩])
  (.cond (.t 70) (.seq (.reg [⟨(some 4), none, .mv (.v (.bool false))⟩])
  .ret)
  .skip))
  (.seq (.seq (.reg [⟨(some 71), none, .mv (.t 11)⟩,
   ⟨(some 72), none, .mv (.t 10)⟩,
   ⟨(some 73), none, .bin .neq (.t 71) (.t 72)⟩])
  (.cond (.t 73) (.seq (.reg [⟨(some 4), none, .mv (.v (.bool false))⟩])
  .ret)
  .skip))
  (.seq (.reg [⟨(some 4), none, .mv (.v (.bool true))⟩])
  .ret))))))))))))))))))))))))),
  [.t 4]⟩
theorem k6 : cFn Try.prog Try.f6 = some c6 := by kernel_rfl
theorem chaL_ok : OkT Try.prog 6 (pureSp chaL_S) := by
  refine okT_fn (OkΓT.cons szSa_ok (OkΓT.cons toSa_ok (OkΓT.cons chaS_ok (OkΓT.cons chaI_ok (OkΓT.cons eqRes_ok (OkΓT.cons eqSa_ok (OkΓT.cons markSa_ok (OkΓT.cons markRes_ok (OkΓT.cons heldRes_ok (OkΓT.nil _)))))))))) Try.func6 (by kernel_rfl) k6 (fun x _ => ⟨rfl, rfl⟩) ?_
  rintro ⟨x, a⟩ hx
  dsimp only [saT] at *
  by_cases hl : x.sels.length ≤ 1048576
  case neg =>
    (dsimp only [c6]; simp (maxSteps := 8000000) (implicitDefEqProofs := false) (disch := omega) only [go_sem, if_pos, if_neg, tw64, twu8, ↓condKT_pos, ↓condKT_neg, ↓gdKT_pt, ↓gdKT_nt, ↓gdKT_pf, ↓gdKT_nf, szSa_at])
    repeat' first
      | (refine gdKT_dec (fun hg => ?_) (fun hg => ?_) <;> (try (first | simp (maxSteps := 8000000) (implicitDefEqProofs := false) (disch := omega) only [go_sem, if_pos, if_neg, tw64, twu8, ↓condKT_pos, ↓condKT_neg, ↓gdKT_pt, ↓gdKT_nt, ↓gdKT_pf, ↓gdKT_nf, eq_false hg, szSa_at] | simp (maxSteps := 8000000) (implicitDefEqProofs := false) (disch := omega) only [go_sem, if_pos, if_neg, tw64, twu8, ↓condKT_pos, ↓condKT_neg, ↓gdKT_pt, ↓gdKT_nt, ↓gdKT_pf, ↓gdKT_nf, eq_true hg, szSa_at])))
      | (refine condKT_dec (fun hg => ?_) (fun hg => ?_) <;> (try (first | simp (maxSteps := 8000000) (implicitDefEqProofs := false) (disch := omega) only [go_sem, if_pos, if_neg, tw64, twu8, ↓condKT_pos, ↓condKT_neg, ↓gdKT_pt, ↓gdKT_nt, ↓gdKT_pf, ↓gdKT_nf, eq_false hg, szSa_at] | simp (maxSteps := 8000000) (implicitDefEqProofs := false) (disch := omega) only [go_sem, if_pos, if_neg, tw64, twu8, ↓condKT_pos, ↓condKT_neg, ↓gdKT_pt, ↓gdKT_nt, ↓gdKT_pf, ↓gdKT_nf, eq_true hg, szSa_at])))
      | (refine gdKT_split (fun hg => ?_) (fun hg => ?_) <;> (try simp (maxSteps := 8000000) (implicitDefEqProofs := false) (disch := omega) only [go_sem, if_pos, if_neg, tw64, twu8, ↓condKT_pos, ↓condKT_neg, ↓gdKT_pt, ↓gdKT_nt, ↓gdKT_pf, ↓gdKT_nf, hg, szSa_at]))
      | (refine condKT_split (fun hg => ?_) (fun hg => ?_) <;> (try simp (maxSteps := 8000000) (implicitDefEqProofs := false) (disch := omega) only [go_sem, if_pos, if_neg, tw64, twu8, ↓condKT_pos, ↓condKT_neg, ↓gdKT_pt, ↓gdKT_nt, ↓gdKT_pf, ↓gdKT_nf, hg, szSa_at]))
      | (refine endT_p (.inr rfl) (by simp (maxSteps := 8000000) (implicitDefEqProofs := false) (disch := omega) only [go_sem, if_pos, if_neg, tw64, twu8, ↓condKT_pos, ↓condKT_neg, ↓gdKT_pt, ↓gdKT_nt, ↓gdKT_pf, ↓gdKT_nf, szSa_at]; rfl) ?_; (first | exact vb_true (by omega) | exact vb_false (by omega) | exact vb_dec (by omega) | exact vi_eq (by omega) | rfl | (refine vi_eq ?_; simp_all; done) | (refine vi_eq ?_; simp_all; omega) | (refine vi_eq ?_; simp_all; intros; omega)))
      | exact endT_v (.inr rfl) (by simp (maxSteps := 8000000) (implicitDefEqProofs := false) (disch := omega) only [go_sem, if_pos, if_neg, tw64, twu8, ↓condKT_pos, ↓condKT_neg, ↓gdKT_pt, ↓gdKT_nt, ↓gdKT_pf, ↓gdKT_nf, szSa_at]; try rfl) (fun _ => rfl)
  have hc := cha_at x a hl
  have hr8 : markRes_F [.agg [.p (.int .i64 0), .p (.int .i64 0), .p (.int .i64 x.spi), .p (.int .i64 x.peer), .p (.int .i64 x.key), .p (.bool x.inn), .p (.int .i64 (if x.inn = true then x.sent else x.sent + 1)), .p (.int .i64 x.top), .p (.int .i64 x.bits), .p (.int .i64 (x.byt + a)), .p (.int .i64 x.hard), .p (.int .i64 x.til), .os 0 0 x.sels.length], .p (.int .i64 1)] [selB x.sels] = some (.p (.int .i64 (1 + 9 * x.sels.length)), [selB (markL 1 x.sels.length)]) := markRes_run 0 0 (chX x a) 1 ⟨by omega, by omega, hl⟩
  by_cases hq : chR x a = 0
  · rw [if_pos hq] at hc
    simp only [chV] at hc
    (dsimp only [c6]; simp (maxSteps := 8000000) (implicitDefEqProofs := false) (disch := omega) only [go_sem, if_pos, if_neg, tw64, twu8, ↓condKT_pos, ↓condKT_neg, ↓gdKT_pt, ↓gdKT_nt, ↓gdKT_pf, ↓gdKT_nf, szSa_at, toSa_at, hc, eqRes_at, eqSa_at, List.take_length])
    refine mut_call (.p (.int .i64 (1 + 9 * x.sels.length))) _ [4] [.agg [.p (.int .i64 x.spi), .p (.int .i64 x.peer), .p (.int .i64 x.key), .p (.bool x.inn), .p (.int .i64 x.sent), .p (.int .i64 x.top), .p (.int .i64 x.bits), .p (.int .i64 x.byt), .p (.int .i64 x.hard), .p (.int .i64 x.til), .os 0 0 x.sels.length], .p (.int .i64 1)] [selB x.sels] _ _ (by simp (maxSteps := 8000000) (implicitDefEqProofs := false) (disch := omega) only [go_sem, if_pos, if_neg, tw64, twu8, ↓condKT_pos, ↓condKT_neg, ↓gdKT_pt, ↓gdKT_nt, ↓gdKT_pf, ↓gdKT_nf]) (mut1 rfl (fun ρ => sls_ren ρ _) (fun ρ => sls_ren ρ _) (fun _ => rfl) (by simp (maxSteps := 8000000) (implicitDefEqProofs := false) (disch := omega) only [go_sem, if_pos, if_neg, tw64, twu8, ↓condKT_pos, ↓condKT_neg, ↓gdKT_pt, ↓gdKT_nt, ↓gdKT_pf, ↓gdKT_nf]) (markSa_run x 1 ⟨by omega, by omega, hl⟩)) ?_
    simp (maxSteps := 8000000) (implicitDefEqProofs := false) (disch := omega) only [go_sem, if_pos, if_neg, tw64, twu8, ↓condKT_pos, ↓condKT_neg, ↓gdKT_pt, ↓gdKT_nt, ↓gdKT_pf, ↓gdKT_nf, eqRes_at, List.take_length]
    refine mut_call (.p (.int .i64 (1 + 9 * x.sels.length))) _ [6] [.agg [.p (.int .i64 0), .p (.int .i64 0), .p (.int .i64 x.spi), .p (.int .i64 x.peer), .p (.int .i64 x.key), .p (.bool x.inn), .p (.int .i64 (if x.inn = true then x.sent else x.sent + 1)), .p (.int .i64 x.top), .p (.int .i64 x.bits), .p (.int .i64 (x.byt + a)), .p (.int .i64 x.hard), .p (.int .i64 x.til), .os 0 0 x.sels.length], .p (.int .i64 1)] [selB x.sels] _ _ (by simp (maxSteps := 8000000) (implicitDefEqProofs := false) (disch := omega) only [go_sem, if_pos, if_neg, tw64, twu8, ↓condKT_pos, ↓condKT_neg, ↓gdKT_pt, ↓gdKT_nt, ↓gdKT_pf, ↓gdKT_nf]) (mut1 rfl (fun ρ => sls_ren ρ _) (fun ρ => sls_ren ρ _) (fun _ => rfl) (by simp (maxSteps := 8000000) (implicitDefEqProofs := false) (disch := omega) only [go_sem, if_pos, if_neg, tw64, twu8, ↓condKT_pos, ↓condKT_neg, ↓gdKT_pt, ↓gdKT_nt, ↓gdKT_pf, ↓gdKT_nf]) hr8) ?_
    simp (maxSteps := 8000000) (implicitDefEqProofs := false) (disch := omega) only [go_sem, if_pos, if_neg, tw64, twu8, ↓condKT_pos, ↓condKT_neg, ↓gdKT_pt, ↓gdKT_nt, ↓gdKT_pf, ↓gdKT_nf, heldRes_at, toSa_at, hc, eqRes_at, markL_len, markL_take, List.take_length]
    repeat' first
      | (refine gdKT_dec (fun hg => ?_) (fun hg => ?_) <;> (try (first | simp (maxSteps := 8000000) (implicitDefEqProofs := false) (disch := omega) only [go_sem, if_pos, if_neg, tw64, twu8, ↓condKT_pos, ↓condKT_neg, ↓gdKT_pt, ↓gdKT_nt, ↓gdKT_pf, ↓gdKT_nf, eq_false hg, heldRes_at, toSa_at, hc, eqRes_at, markL_len, markL_take, List.take_length] | simp (maxSteps := 8000000) (implicitDefEqProofs := false) (disch := omega) only [go_sem, if_pos, if_neg, tw64, twu8, ↓condKT_pos, ↓condKT_neg, ↓gdKT_pt, ↓gdKT_nt, ↓gdKT_pf, ↓gdKT_nf, eq_true hg, heldRes_at, toSa_at, hc, eqRes_at, markL_len, markL_take, List.take_length])))
      | (refine condKT_dec (fun hg => ?_) (fun hg => ?_) <;> (try (first | simp (maxSteps := 8000000) (implicitDefEqProofs := false) (disch := omega) only [go_sem, if_pos, if_neg, tw64, twu8, ↓condKT_pos, ↓condKT_neg, ↓gdKT_pt, ↓gdKT_nt, ↓gdKT_pf, ↓gdKT_nf, eq_false hg, heldRes_at, toSa_at, hc, eqRes_at, markL_len, markL_take, List.take_length] | simp (maxSteps := 8000000) (implicitDefEqProofs := false) (disch := omega) only [go_sem, if_pos, if_neg, tw64, twu8, ↓condKT_pos, ↓condKT_neg, ↓gdKT_pt, ↓gdKT_nt, ↓gdKT_pf, ↓gdKT_nf, eq_true hg, heldRes_at, toSa_at, hc, eqRes_at, markL_len, markL_take, List.take_length])))
      | (refine gdKT_split (fun hg => ?_) (fun hg => ?_) <;> (try simp (maxSteps := 8000000) (implicitDefEqProofs := false) (disch := omega) only [go_sem, if_pos, if_neg, tw64, twu8, ↓condKT_pos, ↓condKT_neg, ↓gdKT_pt, ↓gdKT_nt, ↓gdKT_pf, ↓gdKT_nf, hg, heldRes_at, toSa_at, hc, eqRes_at, markL_len, markL_take, List.take_length]))
      | (refine condKT_split (fun hg => ?_) (fun hg => ?_) <;> (try simp (maxSteps := 8000000) (implicitDefEqProofs := false) (disch := omega) only [go_sem, if_pos, if_neg, tw64, twu8, ↓condKT_pos, ↓condKT_neg, ↓gdKT_pt, ↓gdKT_nt, ↓gdKT_pf, ↓gdKT_nf, hg, heldRes_at, toSa_at, hc, eqRes_at, markL_len, markL_take, List.take_length]))
      | (refine endT_p (.inr rfl) (by simp (maxSteps := 8000000) (implicitDefEqProofs := false) (disch := omega) only [go_sem, if_pos, if_neg, tw64, twu8, ↓condKT_pos, ↓condKT_neg, ↓gdKT_pt, ↓gdKT_nt, ↓gdKT_pf, ↓gdKT_nf, heldRes_at, toSa_at, hc, eqRes_at, markL_len, markL_take, List.take_length]; rfl) ?_; (first | exact vb_true (by omega) | exact vb_false (by omega) | exact vb_dec (by omega) | exact vi_eq (by omega) | rfl | (refine vi_eq ?_; simp_all; done) | (refine vi_eq ?_; simp_all; omega) | (refine vi_eq ?_; simp_all; intros; omega)))
      | exact endT_v (.inr rfl) (by simp (maxSteps := 8000000) (implicitDefEqProofs := false) (disch := omega) only [go_sem, if_pos, if_neg, tw64, twu8, ↓condKT_pos, ↓condKT_neg, ↓gdKT_pt, ↓gdKT_nt, ↓gdKT_pf, ↓gdKT_nf, heldRes_at, toSa_at, hc, eqRes_at, markL_len, markL_take, List.take_length]; try rfl) (fun _ => rfl)
  · rw [if_neg hq] at hc
    (dsimp only [c6]; simp (maxSteps := 8000000) (implicitDefEqProofs := false) (disch := omega) only [go_sem, if_pos, if_neg, tw64, twu8, ↓condKT_pos, ↓condKT_neg, ↓gdKT_pt, ↓gdKT_nt, ↓gdKT_pf, ↓gdKT_nf, szSa_at, toSa_at, hc, eqRes_at0, eqSa_at, List.take_length])
    refine mut_call (.p (.int .i64 (1 + 9 * x.sels.length))) _ [3] [.agg [.p (.int .i64 x.spi), .p (.int .i64 x.peer), .p (.int .i64 x.key), .p (.bool x.inn), .p (.int .i64 x.sent), .p (.int .i64 x.top), .p (.int .i64 x.bits), .p (.int .i64 x.byt), .p (.int .i64 x.hard), .p (.int .i64 x.til), .os 0 0 x.sels.length], .p (.int .i64 1)] [selB x.sels] _ _ (by simp (maxSteps := 8000000) (implicitDefEqProofs := false) (disch := omega) only [go_sem, if_pos, if_neg, tw64, twu8, ↓condKT_pos, ↓condKT_neg, ↓gdKT_pt, ↓gdKT_nt, ↓gdKT_pf, ↓gdKT_nf]) (mut1 rfl (fun ρ => sls_ren ρ _) (fun ρ => sls_ren ρ _) (fun _ => rfl) (by simp (maxSteps := 8000000) (implicitDefEqProofs := false) (disch := omega) only [go_sem, if_pos, if_neg, tw64, twu8, ↓condKT_pos, ↓condKT_neg, ↓gdKT_pt, ↓gdKT_nt, ↓gdKT_pf, ↓gdKT_nf]) (markSa_run x 1 ⟨by omega, by omega, hl⟩)) ?_
    simp (maxSteps := 8000000) (implicitDefEqProofs := false) (disch := omega) only [go_sem, if_pos, if_neg, tw64, twu8, ↓condKT_pos, ↓condKT_neg, ↓gdKT_pt, ↓gdKT_nt, ↓gdKT_pf, ↓gdKT_nf, eqRes_at0, List.take_length]
    refine mut_call (.p (.int .i64 1)) _ [] [.agg [.p (.int .i64 (chR x a)), .p (.int .i64 0), .p (.int .i64 0), .p (.int .i64 0), .p (.int .i64 0), .p (.bool false), .p (.int .i64 0), .p (.int .i64 0), .p (.int .i64 0), .p (.int .i64 0), .p (.int .i64 0), .p (.int .i64 0), .nl], .p (.int .i64 1)] [] _ _ (by simp (maxSteps := 8000000) (implicitDefEqProofs := false) (disch := omega) only [go_sem, if_pos, if_neg, tw64, twu8, ↓condKT_pos, ↓condKT_neg, ↓gdKT_pt, ↓gdKT_nt, ↓gdKT_pf, ↓gdKT_nf]) (mut0 (fun _ => rfl) (by simp (maxSteps := 8000000) (implicitDefEqProofs := false) (disch := omega) only [go_sem, if_pos, if_neg, tw64, twu8, ↓condKT_pos, ↓condKT_neg, ↓gdKT_pt, ↓gdKT_nt, ↓gdKT_pf, ↓gdKT_nf]) (markRes_run0 (chR x a) 0 ⟨0, 0, 0, false, 0, 0, 0, 0, 0, 0, []⟩ 1 ⟨by omega, by omega, by simp⟩)) ?_
    simp (maxSteps := 8000000) (implicitDefEqProofs := false) (disch := omega) only [go_sem, if_pos, if_neg, tw64, twu8, ↓condKT_pos, ↓condKT_neg, ↓gdKT_pt, ↓gdKT_nt, ↓gdKT_pf, ↓gdKT_nf, heldRes_at0, toSa_at, hc, eqRes_at0, List.take_length]
    repeat' first
      | (refine gdKT_dec (fun hg => ?_) (fun hg => ?_) <;> (try (first | simp (maxSteps := 8000000) (implicitDefEqProofs := false) (disch := omega) only [go_sem, if_pos, if_neg, tw64, twu8, ↓condKT_pos, ↓condKT_neg, ↓gdKT_pt, ↓gdKT_nt, ↓gdKT_pf, ↓gdKT_nf, eq_false hg, heldRes_at0, toSa_at, hc, eqRes_at0, List.take_length] | simp (maxSteps := 8000000) (implicitDefEqProofs := false) (disch := omega) only [go_sem, if_pos, if_neg, tw64, twu8, ↓condKT_pos, ↓condKT_neg, ↓gdKT_pt, ↓gdKT_nt, ↓gdKT_pf, ↓gdKT_nf, eq_true hg, heldRes_at0, toSa_at, hc, eqRes_at0, List.take_length])))
      | (refine condKT_dec (fun hg => ?_) (fun hg => ?_) <;> (try (first | simp (maxSteps := 8000000) (implicitDefEqProofs := false) (disch := omega) only [go_sem, if_pos, if_neg, tw64, twu8, ↓condKT_pos, ↓condKT_neg, ↓gdKT_pt, ↓gdKT_nt, ↓gdKT_pf, ↓gdKT_nf, eq_false hg, heldRes_at0, toSa_at, hc, eqRes_at0, List.take_length] | simp (maxSteps := 8000000) (implicitDefEqProofs := false) (disch := omega) only [go_sem, if_pos, if_neg, tw64, twu8, ↓condKT_pos, ↓condKT_neg, ↓gdKT_pt, ↓gdKT_nt, ↓gdKT_pf, ↓gdKT_nf, eq_true hg, heldRes_at0, toSa_at, hc, eqRes_at0, List.take_length])))
      | (refine gdKT_split (fun hg => ?_) (fun hg => ?_) <;> (try simp (maxSteps := 8000000) (implicitDefEqProofs := false) (disch := omega) only [go_sem, if_pos, if_neg, tw64, twu8, ↓condKT_pos, ↓condKT_neg, ↓gdKT_pt, ↓gdKT_nt, ↓gdKT_pf, ↓gdKT_nf, hg, heldRes_at0, toSa_at, hc, eqRes_at0, List.take_length]))
      | (refine condKT_split (fun hg => ?_) (fun hg => ?_) <;> (try simp (maxSteps := 8000000) (implicitDefEqProofs := false) (disch := omega) only [go_sem, if_pos, if_neg, tw64, twu8, ↓condKT_pos, ↓condKT_neg, ↓gdKT_pt, ↓gdKT_nt, ↓gdKT_pf, ↓gdKT_nf, hg, heldRes_at0, toSa_at, hc, eqRes_at0, List.take_length]))
      | (refine endT_p (.inr rfl) (by simp (maxSteps := 8000000) (implicitDefEqProofs := false) (disch := omega) only [go_sem, if_pos, if_neg, tw64, twu8, ↓condKT_pos, ↓condKT_neg, ↓gdKT_pt, ↓gdKT_nt, ↓gdKT_pf, ↓gdKT_nf, heldRes_at0, toSa_at, hc, eqRes_at0, List.take_length]; rfl) ?_; (first | exact vb_true (by omega) | exact vb_false (by omega) | exact vb_dec (by omega) | exact vi_eq (by omega) | rfl | (refine vi_eq ?_; simp_all; done) | (refine vi_eq ?_; simp_all; omega) | (refine vi_eq ?_; simp_all; intros; omega)))
      | exact endT_v (.inr rfl) (by simp (maxSteps := 8000000) (implicitDefEqProofs := false) (disch := omega) only [go_sem, if_pos, if_neg, tw64, twu8, ↓condKT_pos, ↓condKT_neg, ↓gdKT_pt, ↓gdKT_nt, ↓gdKT_pf, ↓gdKT_nf, heldRes_at0, toSa_at, hc, eqRes_at0, List.take_length]; try rfl) (fun _ => rfl)
theorem fnExactChargeSa_calls {W : World} {h : Heap} {ι : Inj} {avs cargs : List Value} {tvs : List TV} (hr : HR Try.prog ι h h.length W.heap.size W) (hv : VRs ι avs cargs) (hf : VFs (conts h) tvs avs)
    (sh : ShArgs Try.prog #[26, 2].toList tvs) : Calls Try.prog 6 ⟨cargs⟩ W (fun e W' => e = .returned (.bool true) ∧ Go.RowKit.Below W.heap.size W W') := by
  obtain ⟨cs, _, rfl, hs, cs2, _, rfl, hs2, rfl⟩ := sh
  obtain ⟨x, hx, hl⟩ := sa_shape hs
  simp only [ShT, Try.underlying2] at hs2
  obtain ⟨a, rfl, _⟩ := hs2
  have e : valT Try.prog 2 [.p (.int .i64 a)] = .p (.int .i64 a) := by simp [valT, aggT, Try.underlying2, el]
  rw [hx, e] at hf
  exact law_T chaL_ok hr hv hf (by
    have : [saT x, .p (.int .i64 a)].map (frzT [] 9) = [saT x, .p (.int .i64 a)] := by simp only [List.map_cons, List.map_nil, saT, frz_agg, frz_p, frz_s]
    rw [this]; exact chaL_at x a hl)
end Go.Proofs.Ytngebdcbcliobaa
