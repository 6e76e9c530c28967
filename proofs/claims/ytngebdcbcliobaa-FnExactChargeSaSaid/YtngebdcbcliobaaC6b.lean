import Derived.Test.YtngebdcbcliobaaC6
set_option linter.unusedSimpArgs false
set_option linter.unusedVariables false
set_option maxRecDepth 100000
set_option maxHeartbeats 4000000
namespace Go.Proofs.Ytngebdcbcliobaa
open Go Go.AH
attribute [local irreducible] awpT ropsT qopsT stepT condKT gdKT EndT joinK loopKT seqKT blkKT kont kontR
noncomputable def saF_S := specP (fun x : SaR => [saT x]) (fun x => x.sels.length ≤ 140737488355328) (fun x => (.p (.int .i64 (saF x)), []))
theorem saF_at (spi peer key : Int) (inn : Bool) (sent top bits byt hard til : Int) (sels : List SlR) (h : sels.length ≤ 140737488355328) : saF_S [.agg [.p (.int .i64 spi), .p (.int .i64 peer), .p (.int .i64 key), .p (.bool inn), .p (.int .i64 sent), .p (.int .i64 top), .p (.int .i64 bits), .p (.int .i64 byt), .p (.int .i64 hard), .p (.int .i64 til), .s (rowsT slT sels)]] = some (.p (.int .i64 (saF ⟨spi, peer, key, inn, sent, top, bits, byt, hard, til, sels⟩)), []) :=
  specP_at (enc := fun x : SaR => [saT x]) (by intro x y h; exact saT_inj x y (by simpa using h)) ⟨spi, peer, key, inn, sent, top, bits, byt, hard, til, sels⟩ h
-- spec.SaFault
def c16 : AF := ⟨80,
  (.seq (.reg [⟨(some 1), none, .box 32 (.t 0)⟩,
   ⟨(some 2), none, .mv (.v (.int .i64 0))⟩])
  (.seq (.seq (.reg [⟨(some 5), none, .fa (.t 1) 0⟩,
   ⟨(some 6), none, .ld (.t 5)⟩,
   ⟨(some 7), none, .call 74 [(.t 6), (.v (.int .i64 1)), (.v (.int .i64 4294967295))]⟩,
   ⟨(some 8), none, .un .not (.t 7)⟩,
   ⟨(some 9), none, .mv (.t 8)⟩,
   ⟨(some 10), (some (9, false)), .fa (.t 1) 1⟩,
   ⟨(some 11), (some (9, false)), .ld (.t 10)⟩,
   ⟨(some 12), (some (9, false)), .call 74 [(.t 11), (.v (.int .i64 1)), (.v (.int .i64 9))]⟩,
   ⟨(some 13), (some (9, false)), .un .not (.t 12)⟩,
   ⟨(some 14), none, .pick (.t 9) (.v (.bool true)) (.t 13)⟩,
   ⟨(some 15), none, .mv (.t 14)⟩,
   ⟨(some 16), (some (15, false)), .fa (.t 1) 2⟩,
   ⟨(some 17), (some (15, false)), .ld (.t 16)⟩,
   ⟨(some 18), (some (15, false)), .call 74 [(.t 17), (.v (.int .i64 0)), (.v (.int .i64 4294967295))]⟩,
   ⟨(some 19), (some (15, false)), .un .not (.t 18)⟩,
   ⟨(some 20), none, .pick (.t 15) (.v (.bool true)) (.t 19)⟩,
   ⟨(some 21), none, .mv (.t 20)⟩,
   ⟨(some 22), (some (21, false)), .fa (.t 1) 4⟩,
   ⟨(some 23), (some (21, false)), .ld (.t 22)⟩,
   ⟨(some 24), (some (21, false)), .call 74 [(.t 23), (.v (.int .i64 0)), (.v (.int .i64 1099511627776))]⟩,
   ⟨(some 25), (some (21, false)), .un .not (.t 24)⟩,
   ⟨(some 26), none, .pick (.t 21) (.v (.bool true)) (.t 25)⟩,
   ⟨(some 27), none, .mv (.t 26)⟩,
   ⟨(some 28), (some (27, false)), .fa (.t 1) 7⟩,
   ⟨(some 29), (some (27, false)), .ld (.t 28)⟩,
   ⟨(some 30), (some (27, false)), .call 75 [(.t 29)]⟩,
   ⟨(some 31), (some (27, false)), .un .not (.t 30)⟩,
   ⟨(some 32), none, .pick (.t 27) (.v (.bool true)) (.t 31)⟩,
   ⟨(some 33), none, .mv (.t 32)⟩,
   ⟨(some 34), (some (33, false)), .fa (.t 1) 8⟩,
   ⟨(some 35), (some (33, false)), .ld (.t 34)⟩,
   ⟨(some 36), (some (33, false)), .call 75 [(.t 35)]⟩,
   ⟨(some 37), (some (33, false)), .un .not (.t 36)⟩,
   ⟨(some 38), none, .pick (.t 33) (.v (.bool true)) (.t 37)⟩,
   ⟨(some 39), none, .mv (.t 38)⟩,
   ⟨(some 40), (some (39, false)), .fa (.t 1) 9⟩,
   ⟨(some 41), (some (39, false)), .ld (.t 40)⟩,
   ⟨(some 42), (some (39, false)), .call 75 [(.t 41)]⟩,
   ⟨(some 43), (some (39, false)), .un .not (.t 42)⟩,
   ⟨(some 44), none, .pick (.t 39) (.v (.bool true)) (.t 43)⟩])
  (.cond (.t 44) (.seq (.reg [⟨(some 2), none, .mv (.v (.int .i64 3))⟩])
  .ret)
  .skip))
  (.seq (.seq (.reg [⟨(some 45), none, .fa (.t 1) 5⟩,
   ⟨(some 46), none, .ldn 2 (.t 45)⟩,
   ⟨(some 47), none, .call 76 [(.t 46)]⟩,
   ⟨(some 3), none, .mv (.t 47)⟩])
  (.seq (.reg [⟨(some 48), none, .mv (.t 3)⟩,
   ⟨(some 49), none, .bin .neq (.t 48) (.v (.int .i64 0))⟩])
  (.cond (.t 49) (.seq (.reg [⟨(some 50), none, .mv (.t 3)⟩,
   ⟨(some 2), none, .mv (.t 50)⟩])
  .ret)
  .skip)))
  (.seq (.reg [⟨(some 51), none, .build [(.int .i64 0), (.int .i64 0)] []⟩,
   ⟨(some 4), none, .alloc 29 [(.int .i64 0), (.int .i64 0)]⟩,
   ⟨none, none, .st 2 (.t 4) (.t 51)⟩])
  (.seq (.seq (.reg [⟨(some 52), none, .fa (.t 1) 3⟩,
   ⟨(some 53), none, .ld (.t 52)⟩,
   ⟨(some 54), none, .mv (.t 53)⟩,
   ⟨(some 55), (some (54, true)), .fa (.t 1) 4⟩,
   ⟨(some 56), (some (54, true)), .ld (.t 55)⟩,
   ⟨(some 57), (some (54, true)), .bin .neq (.t 56) (.v (.int .i64 0))⟩,
   ⟨(some 58), none, .pick (.t 54) (.t 57) (.v (.bool false))⟩,
   ⟨(some 59), none, .mv (.t 58)⟩,
   ⟨(some 60), (some (59, false)), .fa (.t 1) 3⟩,
   ⟨(some 61), (some (59, false)), .ld (.t 60)⟩,
   ⟨(some 62), (some (59, false)), .un .not (.t 61)⟩,
   ⟨(some 63), (some (59, false)), .mv (.t 62)⟩,
   ⟨(some 64), (some (63, true)), .fa (.t 1) 5⟩,
   ⟨(some 65), (some (63, true)), .ldn 2 (.t 64)⟩,
   ⟨(some 66), (some (63, true)), .ldn 2 (.t 4)⟩,
   ⟨(some 67), (some (63, true)), .eqS true [.i, .i] (.t 65) (.t 66)⟩,
   ⟨(some 68), (some (59, false)), .pick (.t 63) (.t 67) (.v (.bool false))⟩,
   ⟨(some 69), none, .pick (.t 59) (.v (.bool true)) (.t 68)⟩,
   ⟨(some 70), none, .mv (.t 69)⟩,
   ⟨(some 71), (some (70, false)), .fa (.t 1) 7⟩,
   ⟨(some 72), (some (70, false)), .ld (.t 71)⟩,
   ⟨(some 73), (some (70, false)), .fa (.t 1) 8⟩,
   ⟨(some 74), (some (70, false)), .ld (.t 73)⟩,
   ⟨(some 75), (some (70, false)), .bin .gtr (.t 72) (.t 74)⟩,
   ⟨(some 76), none, .pick (.t 70) (.v (.bool true)) (.t 75)⟩])
  (.cond (.t 76) (.seq (.reg [⟨(some 2), none, .mv (.v (.int .i64 1))⟩])
  .ret)
  .skip))
  (.seq (.reg [⟨(some 77), none, .fa (.t 1) 10⟩,
   ⟨(some 78), none, .ld (.t 77)⟩,
   ⟨(some 79), none, .call 77 [(.t 78)]⟩,
   ⟨(some 2), none, .mv (.t 79)⟩])
  .ret)))))),
  [.t 2]⟩
theorem k16 : cFn Try.prog Try.f16 = some c16 := by kernel_rfl
theorem saFS_ok : OkT Try.prog 16 (pureSp saF_S) := by
  refine okT_fn (OkΓT.cons l1In_ok (OkΓT.cons l16Long_ok (OkΓT.cons winFS_ok (OkΓT.cons selsFS_ok (OkΓT.nil _))))) Try.func16 (by kernel_rfl) k16 (fun x _ => ⟨rfl, rfl⟩) ?_
  rintro x hx
  dsimp only [saT, saF] at *
  (dsimp only [c16]; simp (maxSteps := 1000000) (implicitDefEqProofs := false) (disch := omega) only [go_sem, if_pos, if_neg, tw64, twu8, ↓condKT_pos, ↓condKT_neg, ↓gdKT_pt, ↓gdKT_nt, ↓gdKT_pf, ↓gdKT_nf, in_at, tick_at, winF_at, selsF_at])
  repeat' first
    | (refine gdKT_dec (fun hg => ?_) (fun hg => ?_) <;> (try (first | simp (maxSteps := 1000000) (implicitDefEqProofs := false) (disch := omega) only [go_sem, if_pos, if_neg, tw64, twu8, ↓condKT_pos, ↓condKT_neg, ↓gdKT_pt, ↓gdKT_nt, ↓gdKT_pf, ↓gdKT_nf, eq_false hg, in_at, tick_at, winF_at, selsF_at] | simp (maxSteps := 1000000) (implicitDefEqProofs := false) (disch := omega) only [go_sem, if_pos, if_neg, tw64, twu8, ↓condKT_pos, ↓condKT_neg, ↓gdKT_pt, ↓gdKT_nt, ↓gdKT_pf, ↓gdKT_nf, eq_true hg, in_at, tick_at, winF_at, selsF_at])))
    | (refine condKT_dec (fun hg => ?_) (fun hg => ?_) <;> (try (first | simp (maxSteps := 1000000) (implicitDefEqProofs := false) (disch := omega) only [go_sem, if_pos, if_neg, tw64, twu8, ↓condKT_pos, ↓condKT_neg, ↓gdKT_pt, ↓gdKT_nt, ↓gdKT_pf, ↓gdKT_nf, eq_false hg, in_at, tick_at, winF_at, selsF_at] | simp (maxSteps := 1000000) (implicitDefEqProofs := false) (disch := omega) only [go_sem, if_pos, if_neg, tw64, twu8, ↓condKT_pos, ↓condKT_neg, ↓gdKT_pt, ↓gdKT_nt, ↓gdKT_pf, ↓gdKT_nf, eq_true hg, in_at, tick_at, winF_at, selsF_at])))
    | (refine gdKT_split (fun hg => ?_) (fun hg => ?_) <;> (try simp (maxSteps := 1000000) (implicitDefEqProofs := false) (disch := omega) only [go_sem, if_pos, if_neg, tw64, twu8, ↓condKT_pos, ↓condKT_neg, ↓gdKT_pt, ↓gdKT_nt, ↓gdKT_pf, ↓gdKT_nf, hg, in_at, tick_at, winF_at, selsF_at]))
    | (refine condKT_split (fun hg => ?_) (fun hg => ?_) <;> (try simp (maxSteps := 1000000) (implicitDefEqProofs := false) (disch := omega) only [go_sem, if_pos, if_neg, tw64, twu8, ↓condKT_pos, ↓condKT_neg, ↓gdKT_pt, ↓gdKT_nt, ↓gdKT_pf, ↓gdKT_nf, hg, in_at, tick_at, winF_at, selsF_at]))
    | (refine endT_p (.inr rfl) (by simp (maxSteps := 1000000) (implicitDefEqProofs := false) (disch := omega) only [go_sem, if_pos, if_neg, tw64, twu8, ↓condKT_pos, ↓condKT_neg, ↓gdKT_pt, ↓gdKT_nt, ↓gdKT_pf, ↓gdKT_nf, in_at, tick_at, winF_at, selsF_at]; rfl) ?_; (first | exact vb_true (by omega) | exact vb_false (by omega) | exact vb_dec (by omega) | exact vi_eq (by omega) | rfl | (refine vi_eq ?_; simp_all; done) | (refine vi_eq ?_; simp_all; omega) | (refine vi_eq ?_; simp_all; intros; omega)))
    | exact endT_v (.inr rfl) (by simp (maxSteps := 1000000) (implicitDefEqProofs := false) (disch := omega) only [go_sem, if_pos, if_neg, tw64, twu8, ↓condKT_pos, ↓condKT_neg, ↓gdKT_pt, ↓gdKT_nt, ↓gdKT_pf, ↓gdKT_nf, in_at, tick_at, winF_at, selsF_at]; try rfl) (fun _ => rfl)
-- impl.SaFault
def c18 : AF := ⟨78,
  (.seq (.reg [⟨(some 1), none, .box 32 (.t 0)⟩,
   ⟨(some 2), none, .mv (.v (.int .i64 0))⟩])
  (.seq (.seq (.reg [⟨(some 4), none, .fa (.t 1) 0⟩,
   ⟨(some 5), none, .ld (.t 4)⟩,
   ⟨(some 6), none, .call 79 [(.t 5)]⟩,
   ⟨(some 7), none, .un .not (.t 6)⟩,
   ⟨(some 8), none, .mv (.t 7)⟩,
   ⟨(some 9), (some (8, false)), .fa (.t 1) 1⟩,
   ⟨(some 10), (some (8, false)), .ld (.t 9)⟩,
   ⟨(some 11), (some (8, false)), .call 80 [(.t 10)]⟩,
   ⟨(some 12), (some (8, false)), .un .not (.t 11)⟩,
   ⟨(some 13), none, .pick (.t 8) (.v (.bool true)) (.t 12)⟩,
   ⟨(some 14), none, .mv (.t 13)⟩,
   ⟨(some 15), (some (14, false)), .fa (.t 1) 2⟩,
   ⟨(some 16), (some (14, false)), .ld (.t 15)⟩,
   ⟨(some 17), (some (14, false)), .call 81 [(.t 16)]⟩,
   ⟨(some 18), (some (14, false)), .un .not (.t 17)⟩,
   ⟨(some 19), none, .pick (.t 14) (.v (.bool true)) (.t 18)⟩,
   ⟨(some 20), none, .mv (.t 19)⟩,
   ⟨(some 21), (some (20, false)), .fa (.t 1) 4⟩,
   ⟨(some 22), (some (20, false)), .ld (.t 21)⟩,
   ⟨(some 23), (some (20, false)), .call 82 [(.t 22), (.v (.int .i64 0)), (.v (.int .i64 1099511627776))]⟩,
   ⟨(some 24), (some (20, false)), .un .not (.t 23)⟩,
   ⟨(some 25), none, .pick (.t 20) (.v (.bool true)) (.t 24)⟩,
   ⟨(some 26), none, .mv (.t 25)⟩,
   ⟨(some 27), (some (26, false)), .fa (.t 1) 7⟩,
   ⟨(some 28), (some (26, false)), .ld (.t 27)⟩,
   ⟨(some 29), (some (26, false)), .call 83 [(.t 28)]⟩,
   ⟨(some 30), (some (26, false)), .un .not (.t 29)⟩,
   ⟨(some 31), none, .pick (.t 26) (.v (.bool true)) (.t 30)⟩,
   ⟨(some 32), none, .mv (.t 31)⟩,
   ⟨(some 33), (some (32, false)), .fa (.t 1) 8⟩,
   ⟨(some 34), (some (32, false)), .ld (.t 33)⟩,
   ⟨(some 35), (some (32, false)), .call 83 [(.t 34)]⟩,
   ⟨(some 36), (some (32, false)), .un .not (.t 35)⟩,
   ⟨(some 37), none, .pick (.t 32) (.v (.bool true)) (.t 36)⟩,
   ⟨(some 38), none, .mv (.t 37)⟩,
   ⟨(some 39), (some (38, false)), .fa (.t 1) 9⟩,
   ⟨(some 40), (some (38, false)), .ld (.t 39)⟩,
   ⟨(some 41), (some (38, false)), .call 83 [(.t 40)]⟩,
   ⟨(some 42), (some (38, false)), .un .not (.t 41)⟩,
   ⟨(some 43), none, .pick (.t 38) (.v (.bool true)) (.t 42)⟩])
  (.cond (.t 43) (.seq (.reg [⟨(some 2), none, .mv (.v (.int .i64 3))⟩])
  .ret)
  .skip))
  (.seq (.seq (.reg [⟨(some 44), none, .fa (.t 1) 5⟩,
   ⟨(some 45), none, .ldn 2 (.t 44)⟩,
   ⟨(some 46), none, .call 84 [(.t 45)]⟩,
   ⟨(some 3), none, .mv (.t 46)⟩])
  (.seq (.reg [⟨(some 47), none, .mv (.t 3)⟩,
   ⟨(some 48), none, .bin .neq (.t 47) (.v (.int .i64 0))⟩])
  (.cond (.t 48) (.seq (.reg [⟨(some 49), none, .mv (.t 3)⟩,
   ⟨(some 2), none, .mv (.t 49)⟩])
  .ret)
  .skip)))
  (.seq (.seq (.reg [⟨(some 50), none, .fa (.t 1) 3⟩,
   ⟨(some 51), none, .ld (.t 50)⟩,
   ⟨(some 52), none, .mv (.t 51)⟩,
   ⟨(some 53), (some (52, true)), .fa (.t 1) 4⟩,
   ⟨(some 54), (some (52, true)), .ld (.t 53)⟩,
   ⟨(some 55), (some (52, true)), .bin .neq (.t 54) (.v (.int .i64 0))⟩,
   ⟨(some 56), none, .pick (.t 52) (.t 55) (.v (.bool false))⟩,
   ⟨(some 57), none, .mv (.t 56)⟩,
   ⟨(some 58), (some (57, false)), .fa (.t 1) 3⟩,
   ⟨(some 59), (some (57, false)), .ld (.t 58)⟩,
   ⟨(some 60), (some (57, false)), .un .not (.t 59)⟩,
   ⟨(some 61), (some (57, false)), .mv (.t 60)⟩,
   ⟨(some 62), (some (61, true)), .fa (.t 1) 5⟩,
   ⟨(some 63), (some (61, true)), .ldn 2 (.t 62)⟩,
   ⟨(some 64), (some (61, true)), .build [(.int .i64 0), (.int .i64 0)] []⟩,
   ⟨(some 65), (some (61, true)), .eqS true [.i, .i] (.t 63) (.t 64)⟩,
   ⟨(some 66), (some (57, false)), .pick (.t 61) (.t 65) (.v (.bool false))⟩,
   ⟨(some 67), none, .pick (.t 57) (.v (.bool true)) (.t 66)⟩,
   ⟨(some 68), none, .mv (.t 67)⟩,
   ⟨(some 69), (some (68, false)), .fa (.t 1) 7⟩,
   ⟨(some 70), (some (68, false)), .ld (.t 69)⟩,
   ⟨(some 71), (some (68, false)), .fa (.t 1) 8⟩,
   ⟨(some 72), (some (68, false)), .ld (.t 71)⟩,
   ⟨(some 73), (some (68, false)), .bin .gtr (.t 70) (.t 72)⟩,
   ⟨(some 74), none, .pick (.t 68) (.v (.bool true)) (.t 73)⟩])
  (.cond (.t 74) (.seq (.reg [⟨(some 2), none, .mv (.v (.int .i64 1))⟩])
  .ret)
  .skip))
  (.seq (.reg [⟨(some 75), none, .fa (.t 1) 10⟩,
   ⟨(some 76), none, .ld (.t 75)⟩,
   ⟨(some 77), none, .call 85 [(.t 76)]⟩,
   ⟨(some 2), none, .mv (.t 77)⟩])
  .ret))))),
  [.t 2]⟩
theorem k18 : cFn Try.prog Try.f18 = some c18 := by kernel_rfl
theorem saFI_ok : OkT Try.prog 18 (pureSp saF_S) := by
  refine okT_fn (OkΓT.cons isSpi_ok (OkΓT.cons isPeer_ok (OkΓT.cons isKey_ok (OkΓT.cons in_ok (OkΓT.cons isTick_ok (OkΓT.cons winFI_ok (OkΓT.cons selsFI_ok (OkΓT.nil _)))))))) Try.func18 (by kernel_rfl) k18 (fun x _ => ⟨rfl, rfl⟩) ?_
  rintro x hx
  dsimp only [saT, saF] at *
  (dsimp only [c18]; simp (maxSteps := 1000000) (implicitDefEqProofs := false) (disch := omega) only [go_sem, if_pos, if_neg, tw64, twu8, ↓condKT_pos, ↓condKT_neg, ↓gdKT_pt, ↓gdKT_nt, ↓gdKT_pf, ↓gdKT_nf, spi_at, peer_at, key_at, in_at, tick_at, winF_at, selsF_at])
  repeat' first
    | (refine gdKT_dec (fun hg => ?_) (fun hg => ?_) <;> (try (first | simp (maxSteps := 1000000) (implicitDefEqProofs := false) (disch := omega) only [go_sem, if_pos, if_neg, tw64, twu8, ↓condKT_pos, ↓condKT_neg, ↓gdKT_pt, ↓gdKT_nt, ↓gdKT_pf, ↓gdKT_nf, eq_false hg, spi_at, peer_at, key_at, in_at, tick_at, winF_at, selsF_at] | simp (maxSteps := 1000000) (implicitDefEqProofs := false) (disch := omega) only [go_sem, if_pos, if_neg, tw64, twu8, ↓condKT_pos, ↓condKT_neg, ↓gdKT_pt, ↓gdKT_nt, ↓gdKT_pf, ↓gdKT_nf, eq_true hg, spi_at, peer_at, key_at, in_at, tick_at, winF_at, selsF_at])))
    | (refine condKT_dec (fun hg => ?_) (fun hg => ?_) <;> (try (first | simp (maxSteps := 1000000) (implicitDefEqProofs := false) (disch := omega) only [go_sem, if_pos, if_neg, tw64, twu8, ↓condKT_pos, ↓condKT_neg, ↓gdKT_pt, ↓gdKT_nt, ↓gdKT_pf, ↓gdKT_nf, eq_false hg, spi_at, peer_at, key_at, in_at, tick_at, winF_at, selsF_at] | simp (maxSteps := 1000000) (implicitDefEqProofs := false) (disch := omega) only [go_sem, if_pos, if_neg, tw64, twu8, ↓condKT_pos, ↓condKT_neg, ↓gdKT_pt, ↓gdKT_nt, ↓gdKT_pf, ↓gdKT_nf, eq_true hg, spi_at, peer_at, key_at, in_at, tick_at, winF_at, selsF_at])))
    | (refine gdKT_split (fun hg => ?_) (fun hg => ?_) <;> (try simp (maxSteps := 1000000) (implicitDefEqProofs := false) (disch := omega) only [go_sem, if_pos, if_neg, tw64, twu8, ↓condKT_pos, ↓condKT_neg, ↓gdKT_pt, ↓gdKT_nt, ↓gdKT_pf, ↓gdKT_nf, hg, spi_at, peer_at, key_at, in_at, tick_at, winF_at, selsF_at]))
    | (refine condKT_split (fun hg => ?_) (fun hg => ?_) <;> (try simp (maxSteps := 1000000) (implicitDefEqProofs := false) (disch := omega) only [go_sem, if_pos, if_neg, tw64, twu8, ↓condKT_pos, ↓condKT_neg, ↓gdKT_pt, ↓gdKT_nt, ↓gdKT_pf, ↓gdKT_nf, hg, spi_at, peer_at, key_at, in_at, tick_at, winF_at, selsF_at]))
    | (refine endT_p (.inr rfl) (by simp (maxSteps := 1000000) (implicitDefEqProofs := false) (disch := omega) only [go_sem, if_pos, if_neg, tw64, twu8, ↓condKT_pos, ↓condKT_neg, ↓gdKT_pt, ↓gdKT_nt, ↓gdKT_pf, ↓gdKT_nf, spi_at, peer_at, key_at, in_at, tick_at, winF_at, selsF_at]; rfl) ?_; (first | exact vb_true (by omega) | exact vb_false (by omega) | exact vb_dec (by omega) | exact vi_eq (by omega) | rfl | (refine vi_eq ?_; simp_all; done) | (refine vi_eq ?_; simp_all; omega) | (refine vi_eq ?_; simp_all; intros; omega)))
    | exact endT_v (.inr rfl) (by simp (maxSteps := 1000000) (implicitDefEqProofs := false) (disch := omega) only [go_sem, if_pos, if_neg, tw64, twu8, ↓condKT_pos, ↓condKT_neg, ↓gdKT_pt, ↓gdKT_nt, ↓gdKT_pf, ↓gdKT_nf, spi_at, peer_at, key_at, in_at, tick_at, winF_at, selsF_at]; try rfl) (fun _ => rfl)
end Go.Proofs.Ytngebdcbcliobaa
