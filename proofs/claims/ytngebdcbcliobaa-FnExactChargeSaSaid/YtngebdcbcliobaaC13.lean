import Derived.Test.YtngebdcbcliobaaC12
import Derived.Test.YtngebdcbcliobaaC6b
set_option linter.unusedSimpArgs false
set_option linter.unusedVariables false
set_option maxRecDepth 100000
set_option maxHeartbeats 4000000
namespace Go.Proofs.Ytngebdcbcliobaa
open Go Go.AH
attribute [local irreducible] awpT ropsT qopsT stepT condKT gdKT EndT joinK loopKT seqKT blkKT kont kontR
theorem saF_ax (x : SaR) (h : x.sels.length ≤ 140737488355328) : saF_S [.agg [.p (.int .i64 x.spi), .p (.int .i64 x.peer), .p (.int .i64 x.key), .p (.bool x.inn), .p (.int .i64 x.sent), .p (.int .i64 x.top), .p (.int .i64 x.bits), .p (.int .i64 x.byt), .p (.int .i64 x.hard), .p (.int .i64 x.til), .s (rowsT slT x.sels)]] = some (.p (.int .i64 (saF x)), []) := saF_at x.spi x.peer x.key x.inn x.sent x.top x.bits x.byt x.hard x.til x.sels h
def chR (x : SaR) (a : Int) : Int := if saF x = 0 then (if 0 ≤ a ∧ a ≤ 100000 then chF x a else 3) else saF x
noncomputable def cha_S := specP (fun x : SaR × Int => [saT x.1, .p (.int .i64 x.2)]) (fun x => x.1.sels.length ≤ 1048576) (fun x => if chR x.1 x.2 = 0 then (.agg (.p (.int .i64 0) :: .p (.int .i64 0) :: chV x.1 x.2 (.os 0 0 x.1.sels.length)), [selB x.1.sels]) else (.agg [.p (.int .i64 (chR x.1 x.2)), .p (.int .i64 0), .p (.int .i64 0), .p (.int .i64 0), .p (.int .i64 0), .p (.bool false), .p (.int .i64 0), .p (.int .i64 0), .p (.int .i64 0), .p (.int .i64 0), .p (.int .i64 0), .p (.int .i64 0), .nl], []))
theorem cha_at (x : SaR) (a : Int) (h : x.sels.length ≤ 1048576) : cha_S [.agg [.p (.int .i64 x.spi), .p (.int .i64 x.peer), .p (.int .i64 x.key), .p (.bool x.inn), .p (.int .i64 x.sent), .p (.int .i64 x.top), .p (.int .i64 x.bits), .p (.int .i64 x.byt), .p (.int .i64 x.hard), .p (.int .i64 x.til), .s (rowsT slT x.sels)], .p (.int .i64 a)] = some (if chR x a = 0 then (.agg (.p (.int .i64 0) :: .p (.int .i64 0) :: chV x a (.os 0 0 x.sels.length)), [selB x.sels]) else (.agg [.p (.int .i64 (chR x a)), .p (.int .i64 0), .p (.int .i64 0), .p (.int .i64 0), .p (.int .i64 0), .p (.bool false), .p (.int .i64 0), .p (.int .i64 0), .p (.int .i64 0), .p (.int .i64 0), .p (.int .i64 0), .p (.int .i64 0), .nl], [])) :=
  specP_at (enc := fun x : SaR × Int => [saT x.1, .p (.int .i64 x.2)]) sa2_inj (x, a) h
theorem cha_own : ∀ x : SaR × Int, x.1.sels.length ≤ 1048576 → ownT (if chR x.1 x.2 = 0 then ((.agg (.p (.int .i64 0) :: .p (.int .i64 0) :: chV x.1 x.2 (.os 0 0 x.1.sels.length)), [selB x.1.sels]) : TV × THeap) else (.agg [.p (.int .i64 (chR x.1 x.2)), .p (.int .i64 0), .p (.int .i64 0), .p (.int .i64 0), .p (.int .i64 0), .p (.bool false), .p (.int .i64 0), .p (.int .i64 0), .p (.int .i64 0), .p (.int .i64 0), .p (.int .i64 0), .p (.int .i64 0), .nl], [])).1 = true ∧ (if chR x.1 x.2 = 0 then ((.agg (.p (.int .i64 0) :: .p (.int .i64 0) :: chV x.1 x.2 (.os 0 0 x.1.sels.length)), [selB x.1.sels]) : TV × THeap) else (.agg [.p (.int .i64 (chR x.1 x.2)), .p (.int .i64 0), .p (.int .i64 0), .p (.int .i64 0), .p (.int .i64 0), .p (.bool false), .p (.int .i64 0), .p (.int .i64 0), .p (.int .i64 0), .p (.int .i64 0), .p (.int .i64 0), .p (.int .i64 0), .nl], [])).2.all ownB = true := by
  intro x _
  split
  · exact ⟨by simp [ownT, ownTs, chV], by simp [ownB, sls_own]⟩
  · exact ⟨by simp [ownT, ownTs], rfl⟩
-- spec.ChargeSa
def c32 : AF := ⟨30,
  (.seq (.reg [⟨(some 2), none, .box 32 (.t 0)⟩,
   ⟨(some 4), none, .alloc 56 [(.int .i64 0), (.int .i64 0), (.int .i64 0), (.int .i64 0), (.int .i64 0), (.bool false), (.int .i64 0), (.int .i64 0), (.int .i64 0), (.int .i64 0), (.int .i64 0), (.int .i64 0), (.slice none 0 0)]⟩])
  (.seq (.seq (.reg [⟨(some 8), none, .ldn 11 (.t 2)⟩,
   ⟨(some 9), none, .call 16 [(.t 8)]⟩,
   ⟨(some 5), none, .mv (.t 9)⟩])
  (.seq (.reg [⟨(some 10), none, .mv (.t 5)⟩,
   ⟨(some 11), none, .bin .neq (.t 10) (.v (.int .i64 0))⟩])
  (.cond (.t 11) (.seq (.reg [⟨(some 12), none, .mv (.t 5)⟩,
   ⟨(some 13), none, .build [(.int .i64 0), (.int .i64 0), (.int .i64 0), (.int .i64 0), (.int .i64 0), (.bool false), (.int .i64 0), (.int .i64 0), (.int .i64 0), (.int .i64 0), (.int .i64 0), (.int .i64 0), (.slice none 0 0)] [(0, 1, (.t 12))]⟩,
   ⟨none, none, .st 13 (.t 4) (.t 13)⟩])
  .ret)
  .skip)))
  (.seq (.seq (.reg [⟨(some 14), none, .mv (.t 1)⟩,
   ⟨(some 15), none, .call 74 [(.t 14), (.v (.int .i64 0)), (.v (.int .i64 100000))]⟩,
   ⟨(some 16), none, .un .not (.t 15)⟩])
  (.cond (.t 16) (.seq (.reg [⟨(some 17), none, .build [(.int .i64 0), (.int .i64 0), (.int .i64 0), (.int .i64 0), (.int .i64 0), (.bool false), (.int .i64 0), (.int .i64 0), (.int .i64 0), (.int .i64 0), (.int .i64 0), (.int .i64 0), (.slice none 0 0)] [(0, 1, (.v (.int .i64 3)))]⟩,
   ⟨none, none, .st 13 (.t 4) (.t 17)⟩])
  .ret)
  .skip))
  (.seq (.reg [⟨(some 19), none, .ldn 11 (.t 2)⟩,
   ⟨(some 20), none, .mv (.t 1)⟩,
   ⟨(some 21), none, .call 95 [(.t 19), (.t 20)]⟩,
   ⟨(some 18), none, .mv (.t 21)⟩,
   ⟨(some 22), none, .ext (.t 18) 0⟩,
   ⟨(some 23), none, .ext (.t 18) 1⟩,
   ⟨(some 6), none, .alloc 32 [(.int .i64 0), (.int .i64 0), (.int .i64 0), (.bool false), (.int .i64 0), (.int .i64 0), (.int .i64 0), (.int .i64 0), (.int .i64 0), (.int .i64 0), (.slice none 0 0)]⟩,
   ⟨none, none, .st 11 (.t 6) (.t 22)⟩,
   ⟨(some 7), none, .mv (.t 23)⟩])
  (.seq (.seq (.reg [⟨(some 24), none, .mv (.t 7)⟩,
   ⟨(some 25), none, .bin .neq (.t 24) (.v (.int .i64 0))⟩])
  (.cond (.t 25) (.seq (.reg [⟨(some 26), none, .mv (.t 7)⟩,
   ⟨(some 27), none, .build [(.int .i64 0), (.int .i64 0), (.int .i64 0), (.int .i64 0), (.int .i64 0), (.bool false), (.int .i64 0), (.int .i64 0), (.int .i64 0), (.int .i64 0), (.int .i64 0), (.int .i64 0), (.slice none 0 0)] [(0, 1, (.t 26))]⟩,
   ⟨none, none, .st 13 (.t 4) (.t 27)⟩])
  .ret)
  .skip))
  (.seq (.reg [⟨(some 28), none, .ldn 11 (.t 6)⟩,
   ⟨(some 29), none, .build [(.int .i64 0), (.int .i64 0), (.int .i64 0), (.int .i64 0), (.int .i64 0), (.bool false), (.int .i64 0), (.int .i64 0), (.int .i64 0), (.int .i64 0), (.int .i64 0), (.int .i64 0), (.slice none 0 0)] [(2, 11, (.t 28))]⟩,
   ⟨none, none, .st 13 (.t 4) (.t 29)⟩])
  .ret)))))),
  [.cell 4 (some 13)]⟩
theorem k32 : cFn Try.prog Try.f32 = some c32 := by kernel_rfl
theorem chaS_ok : OkT Try.prog 32 (pureSp cha_S) := by
  refine okT_fn (OkΓT.cons saFS_ok (OkΓT.cons l1In_ok (OkΓT.cons l16Charge_ok (OkΓT.nil _)))) Try.func32 (by kernel_rfl) k32 cha_own ?_
  rintro ⟨x, a⟩ hl
  dsimp only [saT] at *
  have hf := saF_ax x (by omega)
  by_cases hz : saF x = 0
  case neg =>
    have e : chR x a = saF x := by simp only [chR]; rw [if_neg hz]
    rw [e, if_neg hz]
    (dsimp only [c32]; simp (maxSteps := 1000000) (implicitDefEqProofs := false) (disch := omega) only [go_sem, if_pos, if_neg, tw64, twu8, ↓condKT_pos, ↓condKT_neg, ↓gdKT_pt, ↓gdKT_nt, ↓gdKT_pf, ↓gdKT_nf, hf, eq_false hz])
    exact endT_of [] (.inr rfl) (by simp (maxSteps := 1000000) (implicitDefEqProofs := false) (disch := omega) only [go_sem, if_pos, if_neg, tw64, twu8, ↓condKT_pos, ↓condKT_neg, ↓gdKT_pt, ↓gdKT_nt, ↓gdKT_pf, ↓gdKT_nf]; rfl) (by simp (maxSteps := 1000000) (implicitDefEqProofs := false) (disch := omega) only [go_sem, if_pos, if_neg, tw64, twu8, ↓condKT_pos, ↓condKT_neg, ↓gdKT_pt, ↓gdKT_nt, ↓gdKT_pf, ↓gdKT_nf]) (by simp (maxSteps := 1000000) (implicitDefEqProofs := false) (disch := omega) only [go_sem, if_pos, if_neg, tw64, twu8, ↓condKT_pos, ↓condKT_neg, ↓gdKT_pt, ↓gdKT_nt, ↓gdKT_pf, ↓gdKT_nf]) (by decide) (by simp)
  obtain ⟨b1, b2, b3, b4⟩ := saF_zero hz
  by_cases ha : 0 ≤ a ∧ a ≤ 100000
  case neg =>
    have e : chR x a = 3 := by simp only [chR]; rw [if_pos hz, if_neg ha]
    rw [e, if_neg (by decide)]
    (dsimp only [c32]; simp (maxSteps := 1000000) (implicitDefEqProofs := false) (disch := omega) only [go_sem, if_pos, if_neg, tw64, twu8, ↓condKT_pos, ↓condKT_neg, ↓gdKT_pt, ↓gdKT_nt, ↓gdKT_pf, ↓gdKT_nf, hf, hz, in_at, eq_false ha])
    exact endT_of [] (.inr rfl) (by simp (maxSteps := 1000000) (implicitDefEqProofs := false) (disch := omega) only [go_sem, if_pos, if_neg, tw64, twu8, ↓condKT_pos, ↓condKT_neg, ↓gdKT_pt, ↓gdKT_nt, ↓gdKT_pf, ↓gdKT_nf]; rfl) (by simp (maxSteps := 1000000) (implicitDefEqProofs := false) (disch := omega) only [go_sem, if_pos, if_neg, tw64, twu8, ↓condKT_pos, ↓condKT_neg, ↓gdKT_pt, ↓gdKT_nt, ↓gdKT_pf, ↓gdKT_nf]) (by simp (maxSteps := 1000000) (implicitDefEqProofs := false) (disch := omega) only [go_sem, if_pos, if_neg, tw64, twu8, ↓condKT_pos, ↓condKT_neg, ↓gdKT_pt, ↓gdKT_nt, ↓gdKT_pf, ↓gdKT_nf]) (by decide) (by simp)
  have hc := ch_at x a ⟨ha, b1, b2, b3, b4⟩
  have e : chR x a = chF x a := by simp only [chR]; rw [if_pos hz, if_pos ha]
  rw [e]
  by_cases hq : chF x a = 0
  · rw [if_pos hq] at hc
    rw [if_pos hq]
    (dsimp only [c32]; simp (maxSteps := 1000000) (implicitDefEqProofs := false) (disch := omega) only [go_sem, if_pos, if_neg, tw64, twu8, ↓condKT_pos, ↓condKT_neg, ↓gdKT_pt, ↓gdKT_nt, ↓gdKT_pf, ↓gdKT_nf, hf, hz, in_at, eq_true ha, hc, chV])
    exact endT_of [2] (.inr rfl) (by simp (maxSteps := 1000000) (implicitDefEqProofs := false) (disch := omega) only [go_sem, if_pos, if_neg, tw64, twu8, ↓condKT_pos, ↓condKT_neg, ↓gdKT_pt, ↓gdKT_nt, ↓gdKT_pf, ↓gdKT_nf, chV]; rfl) (by simp (maxSteps := 1000000) (implicitDefEqProofs := false) (disch := omega) only [go_sem, if_pos, if_neg, tw64, twu8, ↓condKT_pos, ↓condKT_neg, ↓gdKT_pt, ↓gdKT_nt, ↓gdKT_pf, ↓gdKT_nf, chV]) (by simp (maxSteps := 1000000) (implicitDefEqProofs := false) (disch := omega) only [go_sem, if_pos, if_neg, tw64, twu8, ↓condKT_pos, ↓condKT_neg, ↓gdKT_pt, ↓gdKT_nt, ↓gdKT_pf, ↓gdKT_nf, chV]) (by decide) (by simp)
  · rw [if_neg hq] at hc
    rw [if_neg hq]
    (dsimp only [c32]; simp (maxSteps := 1000000) (implicitDefEqProofs := false) (disch := omega) only [go_sem, if_pos, if_neg, tw64, twu8, ↓condKT_pos, ↓condKT_neg, ↓gdKT_pt, ↓gdKT_nt, ↓gdKT_pf, ↓gdKT_nf, hf, hz, in_at, eq_true ha, hc, saT, eq_false hq])
    exact endT_of [] (.inr rfl) (by simp (maxSteps := 1000000) (implicitDefEqProofs := false) (disch := omega) only [go_sem, if_pos, if_neg, tw64, twu8, ↓condKT_pos, ↓condKT_neg, ↓gdKT_pt, ↓gdKT_nt, ↓gdKT_pf, ↓gdKT_nf]; rfl) (by simp (maxSteps := 1000000) (implicitDefEqProofs := false) (disch := omega) only [go_sem, if_pos, if_neg, tw64, twu8, ↓condKT_pos, ↓condKT_neg, ↓gdKT_pt, ↓gdKT_nt, ↓gdKT_pf, ↓gdKT_nf]) (by simp (maxSteps := 1000000) (implicitDefEqProofs := false) (disch := omega) only [go_sem, if_pos, if_neg, tw64, twu8, ↓condKT_pos, ↓condKT_neg, ↓gdKT_pt, ↓gdKT_nt, ↓gdKT_pf, ↓gdKT_nf]) (by decide) (by simp)
-- impl.ChargeSa
def c33 : AF := ⟨53,
  (.seq (.reg [⟨(some 2), none, .box 32 (.t 0)⟩,
   ⟨(some 4), none, .alloc 56 [(.int .i64 0), (.int .i64 0), (.int .i64 0), (.int .i64 0), (.int .i64 0), (.bool false), (.int .i64 0), (.int .i64 0), (.int .i64 0), (.int .i64 0), (.int .i64 0), (.int .i64 0), (.slice none 0 0)]⟩])
  (.seq (.seq (.reg [⟨(some 7), none, .ldn 11 (.t 2)⟩,
   ⟨(some 8), none, .call 18 [(.t 7)]⟩,
   ⟨(some 5), none, .mv (.t 8)⟩])
  (.seq (.reg [⟨(some 9), none, .mv (.t 5)⟩,
   ⟨(some 10), none, .bin .neq (.t 9) (.v (.int .i64 0))⟩])
  (.cond (.t 10) (.seq (.reg [⟨(some 11), none, .mv (.t 5)⟩,
   ⟨(some 12), none, .build [(.int .i64 0), (.int .i64 0), (.int .i64 0), (.int .i64 0), (.int .i64 0), (.bool false), (.int .i64 0), (.int .i64 0), (.int .i64 0), (.int .i64 0), (.int .i64 0), (.int .i64 0), (.slice none 0 0)] [(0, 1, (.t 11))]⟩,
   ⟨none, none, .st 13 (.t 4) (.t 12)⟩])
  .ret)
  .skip)))
  (.seq (.block 0 (.seq (.reg [⟨(some 14), none, .mv (.t 1)⟩,
   ⟨(some 15), none, .call 82 [(.t 14), (.v (.int .i64 0)), (.v (.int .i64 100000))]⟩,
   ⟨(some 16), none, .un .not (.t 15)⟩,
   ⟨(some 13), none, .mv (.t 16)⟩])
  (.cond (.t 13) (.seq (.reg [⟨(some 17), none, .build [(.int .i64 0), (.int .i64 0), (.int .i64 0), (.int .i64 0), (.int .i64 0), (.bool false), (.int .i64 0), (.int .i64 0), (.int .i64 0), (.int .i64 0), (.int .i64 0), (.int .i64 0), (.slice none 0 0)] [(0, 1, (.v (.int .i64 3)))]⟩,
   ⟨none, none, .st 13 (.t 4) (.t 17)⟩])
  .ret)
  (.seq (.reg [⟨(some 19), none, .fa (.t 2) 7⟩,
   ⟨(some 20), none, .ld (.t 19)⟩,
   ⟨(some 21), none, .mv (.t 1)⟩,
   ⟨(some 22), none, .bin .add (.t 20) (.t 21)⟩,
   ⟨(some 23), none, .fa (.t 2) 8⟩,
   ⟨(some 24), none, .ld (.t 23)⟩,
   ⟨(some 25), none, .bin .gtr (.t 22) (.t 24)⟩,
   ⟨(some 18), none, .mv (.t 25)⟩])
  (.cond (.t 18) (.seq (.reg [⟨(some 26), none, .build [(.int .i64 0), (.int .i64 0), (.int .i64 0), (.int .i64 0), (.int .i64 0), (.bool false), (.int .i64 0), (.int .i64 0), (.int .i64 0), (.int .i64 0), (.int .i64 0), (.int .i64 0), (.slice none 0 0)] [(0, 1, (.v (.int .i64 10)))]⟩,
   ⟨none, none, .st 13 (.t 4) (.t 26)⟩])
  .ret)
  (.seq (.reg [⟨(some 28), none, .fa (.t 2) 3⟩,
   ⟨(some 29), none, .ld (.t 28)⟩,
   ⟨(some 30), none, .un .not (.t 29)⟩,
   ⟨(some 31), none, .mv (.t 30)⟩,
   ⟨(some 32), (some (31, true)), .fa (.t 2) 4⟩,
   ⟨(some 33), (some (31, true)), .ld (.t 32)⟩,
   ⟨(some 34), (some (31, true)), .bin .eql (.t 33) (.v (.int .i64 1099511627776))⟩,
   ⟨(some 35), none, .pick (.t 31) (.t 34) (.v (.bool false))⟩,
   ⟨(some 27), none, .mv (.t 35)⟩])
  (.cond (.t 27) (.seq (.reg [⟨(some 36), none, .build [(.int .i64 0), (.int .i64 0), (.int .i64 0), (.int .i64 0), (.int .i64 0), (.bool false), (.int .i64 0), (.int .i64 0), (.int .i64 0), (.int .i64 0), (.int .i64 0), (.int .i64 0), (.slice none 0 0)] [(0, 1, (.v (.int .i64 2)))]⟩,
   ⟨none, none, .st 13 (.t 4) (.t 36)⟩])
  .ret)
  .skip)))))))
  (.seq (.reg [⟨(some 37), none, .ldn 11 (.t 2)⟩,
   ⟨(some 38), none, .call 96 [(.t 37)]⟩,
   ⟨(some 6), none, .alloc 32 [(.int .i64 0), (.int .i64 0), (.int .i64 0), (.bool false), (.int .i64 0), (.int .i64 0), (.int .i64 0), (.int .i64 0), (.int .i64 0), (.int .i64 0), (.slice none 0 0)]⟩,
   ⟨none, none, .st 11 (.t 6) (.t 38)⟩])
  (.seq (.reg [⟨(some 39), none, .fa (.t 6) 7⟩,
   ⟨(some 40), none, .ld (.t 39)⟩,
   ⟨(some 41), none, .mv (.t 1)⟩,
   ⟨(some 42), none, .bin .add (.t 40) (.t 41)⟩,
   ⟨(some 43), none, .fa (.t 6) 7⟩,
   ⟨none, none, .st 1 (.t 43) (.t 42)⟩])
  (.seq (.seq (.reg [⟨(some 44), none, .fa (.t 6) 3⟩,
   ⟨(some 45), none, .ld (.t 44)⟩,
   ⟨(some 46), none, .un .not (.t 45)⟩])
  (.cond (.t 46) (.reg [⟨(some 47), none, .fa (.t 6) 4⟩,
   ⟨(some 48), none, .ld (.t 47)⟩,
   ⟨(some 49), none, .bin .add (.t 48) (.v (.int .i64 1))⟩,
   ⟨(some 50), none, .fa (.t 6) 4⟩,
   ⟨none, none, .st 1 (.t 50) (.t 49)⟩])
  .skip))
  (.seq (.reg [⟨(some 51), none, .ldn 11 (.t 6)⟩,
   ⟨(some 52), none, .build [(.int .i64 0), (.int .i64 0), (.int .i64 0), (.int .i64 0), (.int .i64 0), (.bool false), (.int .i64 0), (.int .i64 0), (.int .i64 0), (.int .i64 0), (.int .i64 0), (.int .i64 0), (.slice none 0 0)] [(2, 11, (.t 51))]⟩,
   ⟨none, none, .st 13 (.t 4) (.t 52)⟩])
  .ret))))))),
  [.cell 4 (some 13)]⟩
theorem k33 : cFn Try.prog Try.f33 = some c33 := by kernel_rfl
theorem chaI_ok : OkT Try.prog 33 (pureSp cha_S) := by
  refine okT_fn (OkΓT.cons saFI_ok (OkΓT.cons in_ok (OkΓT.cons cloneSa_ok (OkΓT.nil _)))) Try.func33 (by kernel_rfl) k33 cha_own ?_
  rintro ⟨x, a⟩ hl
  dsimp only [saT] at *
  have hf := saF_ax x (by omega)
  by_cases hz : saF x = 0
  case neg =>
    have e : chR x a = saF x := by simp only [chR]; rw [if_neg hz]
    rw [e, if_neg hz]
    (dsimp only [c33]; simp (maxSteps := 1000000) (implicitDefEqProofs := false) (disch := omega) only [go_sem, if_pos, if_neg, tw64, twu8, ↓condKT_pos, ↓condKT_neg, ↓gdKT_pt, ↓gdKT_nt, ↓gdKT_pf, ↓gdKT_nf, hf, eq_false hz])
    exact endT_of [] (.inr rfl) (by simp (maxSteps := 1000000) (implicitDefEqProofs := false) (disch := omega) only [go_sem, if_pos, if_neg, tw64, twu8, ↓condKT_pos, ↓condKT_neg, ↓gdKT_pt, ↓gdKT_nt, ↓gdKT_pf, ↓gdKT_nf]; rfl) (by simp (maxSteps := 1000000) (implicitDefEqProofs := false) (disch := omega) only [go_sem, if_pos, if_neg, tw64, twu8, ↓condKT_pos, ↓condKT_neg, ↓gdKT_pt, ↓gdKT_nt, ↓gdKT_pf, ↓gdKT_nf]) (by simp (maxSteps := 1000000) (implicitDefEqProofs := false) (disch := omega) only [go_sem, if_pos, if_neg, tw64, twu8, ↓condKT_pos, ↓condKT_neg, ↓gdKT_pt, ↓gdKT_nt, ↓gdKT_pf, ↓gdKT_nf]) (by decide) (by simp)
  obtain ⟨b1, b2, b3, b4, b5⟩ := saF_zero hz
  by_cases ha : 0 ≤ a ∧ a ≤ 100000
  case neg =>
    have e : chR x a = 3 := by simp only [chR]; rw [if_pos hz, if_neg ha]
    rw [e, if_neg (by decide)]
    (dsimp only [c33]; simp (maxSteps := 1000000) (implicitDefEqProofs := false) (disch := omega) only [go_sem, if_pos, if_neg, tw64, twu8, ↓condKT_pos, ↓condKT_neg, ↓gdKT_pt, ↓gdKT_nt, ↓gdKT_pf, ↓gdKT_nf, hf, hz, in_at, eq_false ha])
    exact endT_of [] (.inr rfl) (by simp (maxSteps := 1000000) (implicitDefEqProofs := false) (disch := omega) only [go_sem, if_pos, if_neg, tw64, twu8, ↓condKT_pos, ↓condKT_neg, ↓gdKT_pt, ↓gdKT_nt, ↓gdKT_pf, ↓gdKT_nf]; rfl) (by simp (maxSteps := 1000000) (implicitDefEqProofs := false) (disch := omega) only [go_sem, if_pos, if_neg, tw64, twu8, ↓condKT_pos, ↓condKT_neg, ↓gdKT_pt, ↓gdKT_nt, ↓gdKT_pf, ↓gdKT_nf]) (by simp (maxSteps := 1000000) (implicitDefEqProofs := false) (disch := omega) only [go_sem, if_pos, if_neg, tw64, twu8, ↓condKT_pos, ↓condKT_neg, ↓gdKT_pt, ↓gdKT_nt, ↓gdKT_pf, ↓gdKT_nf]) (by decide) (by simp)
  have e : chR x a = chF x a := by simp only [chR]; rw [if_pos hz, if_pos ha]
  rw [e]
  by_cases c1 : x.byt + a > x.hard
  · rw [show chF x a = 10 by simp only [chF]; rw [if_pos c1], if_neg (by decide)]
    (dsimp only [c33]; simp (maxSteps := 1000000) (implicitDefEqProofs := false) (disch := omega) only [go_sem, if_pos, if_neg, tw64, twu8, ↓condKT_pos, ↓condKT_neg, ↓gdKT_pt, ↓gdKT_nt, ↓gdKT_pf, ↓gdKT_nf, hf, hz, in_at, eq_true ha, eq_true c1])
    exact endT_of [] (.inr rfl) (by simp (maxSteps := 1000000) (implicitDefEqProofs := false) (disch := omega) only [go_sem, if_pos, if_neg, tw64, twu8, ↓condKT_pos, ↓condKT_neg, ↓gdKT_pt, ↓gdKT_nt, ↓gdKT_pf, ↓gdKT_nf]; rfl) (by simp (maxSteps := 1000000) (implicitDefEqProofs := false) (disch := omega) only [go_sem, if_pos, if_neg, tw64, twu8, ↓condKT_pos, ↓condKT_neg, ↓gdKT_pt, ↓gdKT_nt, ↓gdKT_pf, ↓gdKT_nf]) (by simp (maxSteps := 1000000) (implicitDefEqProofs := false) (disch := omega) only [go_sem, if_pos, if_neg, tw64, twu8, ↓condKT_pos, ↓condKT_neg, ↓gdKT_pt, ↓gdKT_nt, ↓gdKT_pf, ↓gdKT_nf]) (by decide) (by simp)
  by_cases c2 : x.inn = false ∧ 1099511627776 ≤ x.sent
  · rw [show chF x a = 2 by simp only [chF]; rw [if_neg c1, if_pos c2], if_neg (by decide)]
    obtain ⟨d1, d2⟩ := c2
    have d3 : x.sent = 1099511627776 := by omega
    rw [d1, d3] at hf
    (dsimp only [c33]; simp (maxSteps := 1000000) (implicitDefEqProofs := false) (disch := omega) only [go_sem, if_pos, if_neg, tw64, twu8, ↓condKT_pos, ↓condKT_neg, ↓gdKT_pt, ↓gdKT_nt, ↓gdKT_pf, ↓gdKT_nf, hf, hz, in_at, eq_true ha, eq_false c1, d1, d3])
    exact endT_of [] (.inr rfl) (by simp (maxSteps := 1000000) (implicitDefEqProofs := false) (disch := omega) only [go_sem, if_pos, if_neg, tw64, twu8, ↓condKT_pos, ↓condKT_neg, ↓gdKT_pt, ↓gdKT_nt, ↓gdKT_pf, ↓gdKT_nf]; rfl) (by simp (maxSteps := 1000000) (implicitDefEqProofs := false) (disch := omega) only [go_sem, if_pos, if_neg, tw64, twu8, ↓condKT_pos, ↓condKT_neg, ↓gdKT_pt, ↓gdKT_nt, ↓gdKT_pf, ↓gdKT_nf]) (by simp (maxSteps := 1000000) (implicitDefEqProofs := false) (disch := omega) only [go_sem, if_pos, if_neg, tw64, twu8, ↓condKT_pos, ↓condKT_neg, ↓gdKT_pt, ↓gdKT_nt, ↓gdKT_pf, ↓gdKT_nf]) (by decide) (by simp)
  rw [show chF x a = 0 by simp only [chF]; rw [if_neg c1, if_neg c2], if_pos rfl]
  cases hi : x.inn with
  | true =>
    rw [hi] at hf
    (dsimp only [c33]; simp (maxSteps := 1000000) (implicitDefEqProofs := false) (disch := omega) only [go_sem, if_pos, if_neg, tw64, twu8, ↓condKT_pos, ↓condKT_neg, ↓gdKT_pt, ↓gdKT_nt, ↓gdKT_pf, ↓gdKT_nf, hf, hz, in_at, eq_true ha, eq_false c1, hi, copy_at, chV])
    exact endT_of [2] (.inr rfl) (by simp (maxSteps := 1000000) (implicitDefEqProofs := false) (disch := omega) only [go_sem, if_pos, if_neg, tw64, twu8, ↓condKT_pos, ↓condKT_neg, ↓gdKT_pt, ↓gdKT_nt, ↓gdKT_pf, ↓gdKT_nf, chV, hi]; rfl) (by simp (maxSteps := 1000000) (implicitDefEqProofs := false) (disch := omega) only [go_sem, if_pos, if_neg, tw64, twu8, ↓condKT_pos, ↓condKT_neg, ↓gdKT_pt, ↓gdKT_nt, ↓gdKT_pf, ↓gdKT_nf, chV, hi]) (by simp (maxSteps := 1000000) (implicitDefEqProofs := false) (disch := omega) only [go_sem, if_pos, if_neg, tw64, twu8, ↓condKT_pos, ↓condKT_neg, ↓gdKT_pt, ↓gdKT_nt, ↓gdKT_pf, ↓gdKT_nf, chV, hi]) (by decide) (by simp)
  | false =>
    rw [hi] at hf
    have d2 : ¬ x.sent = 1099511627776 := fun h => c2 ⟨hi, by omega⟩
    (dsimp only [c33]; simp (maxSteps := 1000000) (implicitDefEqProofs := false) (disch := omega) only [go_sem, if_pos, if_neg, tw64, twu8, ↓condKT_pos, ↓condKT_neg, ↓gdKT_pt, ↓gdKT_nt, ↓gdKT_pf, ↓gdKT_nf, hf, hz, in_at, eq_true ha, eq_false c1, hi, eq_false d2, copy_at, chV])
    exact endT_of [2] (.inr rfl) (by simp (maxSteps := 1000000) (implicitDefEqProofs := false) (disch := omega) only [go_sem, if_pos, if_neg, tw64, twu8, ↓condKT_pos, ↓condKT_neg, ↓gdKT_pt, ↓gdKT_nt, ↓gdKT_pf, ↓gdKT_nf, chV, hi]; rfl) (by simp (maxSteps := 1000000) (implicitDefEqProofs := false) (disch := omega) only [go_sem, if_pos, if_neg, tw64, twu8, ↓condKT_pos, ↓condKT_neg, ↓gdKT_pt, ↓gdKT_nt, ↓gdKT_pf, ↓gdKT_nf, chV, hi]) (by simp (maxSteps := 1000000) (implicitDefEqProofs := false) (disch := omega) only [go_sem, if_pos, if_neg, tw64, twu8, ↓condKT_pos, ↓condKT_neg, ↓gdKT_pt, ↓gdKT_nt, ↓gdKT_pf, ↓gdKT_nf, chV, hi]) (by decide) (by simp)
/-! Alike -/
def resT (f g : Int) (x : SaR) : TV := .agg [.p (.int .i64 f), .p (.int .i64 g), .p (.int .i64 x.spi), .p (.int .i64 x.peer), .p (.int .i64 x.key), .p (.bool x.inn), .p (.int .i64 x.sent), .p (.int .i64 x.top), .p (.int .i64 x.bits), .p (.int .i64 x.byt), .p (.int .i64 x.hard), .p (.int .i64 x.til), .s (rowsT slT x.sels)]
theorem resT_inj {f g f' g' : Int} {x x' : SaR} (h : resT f g x = resT f' g' x') : f = f' ∧ g = g' ∧ x = x' := by
  cases x; cases x'; simp [resT] at h
  obtain ⟨h1, h2, h3, h4, h5, h6, h7, h8, h9, h10, h11, h12, h13⟩ := h
  simp_all [sls_inj h13]
noncomputable def eqRes_S := specP (fun x : Int × Int × SaR => [resT x.1 x.2.1 x.2.2, resT x.1 x.2.1 x.2.2]) (fun x => x.2.2.sels.length ≤ 1048576) (fun x => (.p (.bool true), []))
theorem eqRes_at (f g : Int) (spi peer key : Int) (inn : Bool) (sent top bits byt hard til : Int) (sels : List SlR) (h : sels.length ≤ 1048576) : eqRes_S [.agg [.p (.int .i64 f), .p (.int .i64 g), .p (.int .i64 spi), .p (.int .i64 peer), .p (.int .i64 key), .p (.bool inn), .p (.int .i64 sent), .p (.int .i64 top), .p (.int .i64 bits), .p (.int .i64 byt), .p (.int .i64 hard), .p (.int .i64 til), .s (rowsT slT sels)], .agg [.p (.int .i64 f), .p (.int .i64 g), .p (.int .i64 spi), .p (.int .i64 peer), .p (.int .i64 key), .p (.bool inn), .p (.int .i64 sent), .p (.int .i64 top), .p (.int .i64 bits), .p (.int .i64 byt), .p (.int .i64 hard), .p (.int .i64 til), .s (rowsT slT sels)]] = some (.p (.bool true), []) :=
  specP_at (enc := fun x : Int × Int × SaR => [resT x.1 x.2.1 x.2.2, resT x.1 x.2.1 x.2.2]) (by rintro ⟨a, b, c⟩ ⟨a', b', c'⟩ h; obtain ⟨h1, h2, h3⟩ := resT_inj (List.cons.inj h).1; simp only at h1 h2 h3; rw [h1, h2, h3]) (f, g, ⟨spi, peer, key, inn, sent, top, bits, byt, hard, til, sels⟩) h
theorem eqRes_at0 (f g : Int) (spi peer key : Int) (inn : Bool) (sent top bits byt hard til : Int) : eqRes_S [.agg [.p (.int .i64 f), .p (.int .i64 g), .p (.int .i64 spi), .p (.int .i64 peer), .p (.int .i64 key), .p (.bool inn), .p (.int .i64 sent), .p (.int .i64 top), .p (.int .i64 bits), .p (.int .i64 byt), .p (.int .i64 hard), .p (.int .i64 til), .s []], .agg [.p (.int .i64 f), .p (.int .i64 g), .p (.int .i64 spi), .p (.int .i64 peer), .p (.int .i64 key), .p (.bool inn), .p (.int .i64 sent), .p (.int .i64 top), .p (.int .i64 bits), .p (.int .i64 byt), .p (.int .i64 hard), .p (.int .i64 til), .s []]] = some (.p (.bool true), []) := eqRes_at f g spi peer key inn sent top bits byt hard til [] (by simp)
-- laws.eqSaResult
def c34 : AF := ⟨21,
  (.seq (.reg [⟨(some 2), none, .box 56 (.t 0)⟩,
   ⟨(some 3), none, .box 56 (.t 1)⟩,
   ⟨(some 4), none, .mv (.v (.bool false))⟩])
  (.seq (.seq (.reg [⟨(some 5), none, .fa (.t 2) 0⟩,
   ⟨(some 6), none, .ld (.t 5)⟩,
   ⟨(some 7), none, .fa (.t 3) 0⟩,
   ⟨(some 8), none, .ld (.t 7)⟩,
   ⟨(some 9), none, .bin .neq (.t 6) (.t 8)⟩])
  (.cond (.t 9) (.seq (.reg [⟨(some 4), none, .mv (.v (.bool false))⟩])
  .ret)
  .skip))
  (.seq (.seq (.reg [⟨(some 10), none, .fa (.t 2) 1⟩,
   ⟨(some 11), none, .ld (.t 10)⟩,
   ⟨(some 12), none, .fa (.t 3) 1⟩,
   ⟨(some 13), none, .ld (.t 12)⟩,
   ⟨(some 14), none, .bin .neq (.t 11) (.t 13)⟩])
  (.cond (.t 14) (.seq (.reg [⟨(some 4), none, .mv (.v (.bool false))⟩])
  .ret)
  .skip))
  (.seq (.seq (.reg [⟨(some 15), none, .fa (.t 2) 2⟩,
   ⟨(some 16), none, .ldn 11 (.t 15)⟩,
   ⟨(some 17), none, .fa (.t 3) 2⟩,
   ⟨(some 18), none, .ldn 11 (.t 17)⟩,
   ⟨(some 19), none, .call 19 [(.t 16), (.t 18)]⟩,
   ⟨(some 20), none, .un .not (.t 19)⟩])
  (.cond (.t 20) (.seq (.reg [⟨(some 4), none, .mv (.v (.bool false))⟩])
  .ret)
  .skip))
  (.seq (.reg [⟨(some 4), none, .mv (.v (.bool true))⟩])
  .ret))))),
  [.t 4]⟩
theorem k34 : cFn Try.prog Try.f34 = some c34 := by kernel_rfl
theorem eqRes_ok : OkT Try.prog 34 (pureSp eqRes_S) := by
  refine okT_fn (OkΓT.cons eqSa_ok (OkΓT.nil _)) Try.func34 (by kernel_rfl) k34 (fun x _ => ⟨rfl, rfl⟩) ?_
  rintro ⟨f, g, x⟩ hx
  dsimp only [resT] at *
  (dsimp only [c34]; simp (maxSteps := 1000000) (implicitDefEqProofs := false) (disch := omega) only [go_sem, if_pos, if_neg, tw64, twu8, ↓condKT_pos, ↓condKT_neg, ↓gdKT_pt, ↓gdKT_nt, ↓gdKT_pf, ↓gdKT_nf, eqSa_at])
  repeat' first
    | (refine gdKT_dec (fun hg => ?_) (fun hg => ?_) <;> (try (first | simp (maxSteps := 1000000) (implicitDefEqProofs := false) (disch := omega) only [go_sem, if_pos, if_neg, tw64, twu8, ↓condKT_pos, ↓condKT_neg, ↓gdKT_pt, ↓gdKT_nt, ↓gdKT_pf, ↓gdKT_nf, eq_false hg, eqSa_at] | simp (maxSteps := 1000000) (implicitDefEqProofs := false) (disch := omega) only [go_sem, if_pos, if_neg, tw64, twu8, ↓condKT_pos, ↓condKT_neg, ↓gdKT_pt, ↓gdKT_nt, ↓gdKT_pf, ↓gdKT_nf, eq_true hg, eqSa_at])))
    | (refine condKT_dec (fun hg => ?_) (fun hg => ?_) <;> (try (first | simp (maxSteps := 1000000) (implicitDefEqProofs := false) (disch := omega) only [go_sem, if_pos, if_neg, tw64, twu8, ↓condKT_pos, ↓condKT_neg, ↓gdKT_pt, ↓gdKT_nt, ↓gdKT_pf, ↓gdKT_nf, eq_false hg, eqSa_at] | simp (maxSteps := 1000000) (implicitDefEqProofs := false) (disch := omega) only [go_sem, if_pos, if_neg, tw64, twu8, ↓condKT_pos, ↓condKT_neg, ↓gdKT_pt, ↓gdKT_nt, ↓gdKT_pf, ↓gdKT_nf, eq_true hg, eqSa_at])))
    | (refine gdKT_split (fun hg => ?_) (fun hg => ?_) <;> (try simp (maxSteps := 1000000) (implicitDefEqProofs := false) (disch := omega) only [go_sem, if_pos, if_neg, tw64, twu8, ↓condKT_pos, ↓condKT_neg, ↓gdKT_pt, ↓gdKT_nt, ↓gdKT_pf, ↓gdKT_nf, hg, eqSa_at]))
    | (refine condKT_split (fun hg => ?_) (fun hg => ?_) <;> (try simp (maxSteps := 1000000) (implicitDefEqProofs := false) (disch := omega) only [go_sem, if_pos, if_neg, tw64, twu8, ↓condKT_pos, ↓condKT_neg, ↓gdKT_pt, ↓gdKT_nt, ↓gdKT_pf, ↓gdKT_nf, hg, eqSa_at]))
    | (refine endT_p (.inr rfl) (by simp (maxSteps := 1000000) (implicitDefEqProofs := false) (disch := omega) only [go_sem, if_pos, if_neg, tw64, twu8, ↓condKT_pos, ↓condKT_neg, ↓gdKT_pt, ↓gdKT_nt, ↓gdKT_pf, ↓gdKT_nf, eqSa_at]; rfl) ?_; (first | exact vb_true (by omega) | exact vb_false (by omega) | exact vb_dec (by omega) | exact vi_eq (by omega) | rfl | (refine vi_eq ?_; simp_all; done) | (refine vi_eq ?_; simp_all; omega) | (refine vi_eq ?_; simp_all; intros; omega)))
    | exact endT_v (.inr rfl) (by simp (maxSteps := 1000000) (implicitDefEqProofs := false) (disch := omega) only [go_sem, if_pos, if_neg, tw64, twu8, ↓condKT_pos, ↓condKT_neg, ↓gdKT_pt, ↓gdKT_nt, ↓gdKT_pf, ↓gdKT_nf, eqSa_at]; try rfl) (fun _ => rfl)
end Go.Proofs.Ytngebdcbcliobaa
