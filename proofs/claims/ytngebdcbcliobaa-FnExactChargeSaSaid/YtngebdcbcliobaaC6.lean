import Derived.Test.YtngebdcbcliobaaC5
import Derived.Test.YtngebdcbcliobaaT14
set_option linter.unusedSimpArgs false
set_option linter.unusedVariables false
set_option maxRecDepth 100000
set_option maxHeartbeats 4000000
namespace Go.Proofs.Ytngebdcbcliobaa
open Go Go.AH
attribute [local irreducible] awpT ropsT qopsT stepT condKT gdKT EndT joinK loopKT seqKT blkKT kont kontR
/-! Agreements -/
structure SaR where
  (spi peer key : Int)
  (inn : Bool)
  (sent top bits byt hard til : Int)
  (sels : List SlR)
def saT (x : SaR) : TV := .agg [.p (.int .i64 x.spi), .p (.int .i64 x.peer), .p (.int .i64 x.key), .p (.bool x.inn), .p (.int .i64 x.sent), .p (.int .i64 x.top), .p (.int .i64 x.bits), .p (.int .i64 x.byt), .p (.int .i64 x.hard), .p (.int .i64 x.til), .s (rowsT slT x.sels)]
theorem saT_inj (x y : SaR) (h : saT x = saT y) : x = y := by cases x; cases y; simp [saT] at h; obtain ⟨h1, h2, h3, h4, h5, h6, h7, h8, h9, h10, h11⟩ := h; simp_all [sls_inj h11]
def saF (x : SaR) : Int := if (1 ≤ x.spi ∧ x.spi ≤ 4294967295) ∧ (1 ≤ x.peer ∧ x.peer ≤ 9) ∧ (0 ≤ x.key ∧ x.key ≤ 4294967295) ∧ (0 ≤ x.sent ∧ x.sent ≤ 1099511627776) ∧ (0 ≤ x.byt ∧ x.byt ≤ 1000000000) ∧ (0 ≤ x.hard ∧ x.hard ≤ 1000000000) ∧ (0 ≤ x.til ∧ x.til ≤ 1000000000) then
  (if winF x.top x.bits = 0 then (if (x.inn = true ∧ x.sent ≠ 0) ∨ (x.inn = false ∧ ¬ (x.top = 0 ∧ x.bits = 0)) ∨ x.byt > x.hard then 1 else selsF x.sels) else winF x.top x.bits) else 3
noncomputable def szSa_S := specP (fun x : SaR × Int => [saT x.1, .p (.int .i64 x.2)]) (fun x => 0 ≤ x.2 ∧ x.2 ≤ 1048576 ∧ x.1.sels.length ≤ 140737488355328) (fun x => (.p (.int .i64 (if x.1.sels.length ≤ x.2 then x.2 - x.1.sels.length else -1)), []))
theorem szSa_at (spi peer key : Int) (inn : Bool) (sent top bits byt hard til : Int) (sels : List SlR) (n : Int) (h : 0 ≤ n ∧ n ≤ 1048576 ∧ sels.length ≤ 140737488355328) : szSa_S [.agg [.p (.int .i64 spi), .p (.int .i64 peer), .p (.int .i64 key), .p (.bool inn), .p (.int .i64 sent), .p (.int .i64 top), .p (.int .i64 bits), .p (.int .i64 byt), .p (.int .i64 hard), .p (.int .i64 til), .s (rowsT slT sels)], .p (.int .i64 n)] = some (.p (.int .i64 (if sels.length ≤ n then n - sels.length else -1)), []) :=
  specP_at (enc := fun x : SaR × Int => [saT x.1, .p (.int .i64 x.2)]) (by rintro ⟨a, b⟩ ⟨a', b'⟩ h; simp at h; simp [saT_inj _ _ h.1, h.2]) (⟨spi, peer, key, inn, sent, top, bits, byt, hard, til, sels⟩, n) h
-- laws.szSa
def c15 : AF := ⟨12,
  (.seq (.reg [⟨(some 2), none, .box 26 (.t 0)⟩,
   ⟨(some 4), none, .mv (.v (.int .i64 0))⟩])
  (.seq (.reg [⟨(some 5), none, .fa (.t 2) 10⟩,
   ⟨(some 6), none, .ld (.t 5)⟩,
   ⟨(some 7), none, .mv (.t 1)⟩,
   ⟨(some 8), none, .call 73 [(.t 6), (.t 7)]⟩,
   ⟨(some 1), none, .mv (.t 8)⟩])
  (.seq (.seq (.reg [⟨(some 9), none, .mv (.t 1)⟩,
   ⟨(some 10), none, .bin .lss (.t 9) (.v (.int .i64 0))⟩])
  (.cond (.t 10) (.seq (.reg [⟨(some 4), none, .mv (.v (.int .i64 (-1)))⟩])
  .ret)
  .skip))
  (.seq (.reg [⟨(some 11), none, .mv (.t 1)⟩,
   ⟨(some 4), none, .mv (.t 11)⟩])
  .ret)))),
  [.t 4]⟩
theorem k15 : cFn Try.prog Try.f15 = some c15 := by kernel_rfl
theorem szSa_ok : OkT Try.prog 15 (pureSp szSa_S) := by
  refine okT_fn (OkΓT.cons szSelS_ok (OkΓT.nil _)) Try.func15 (by kernel_rfl) k15 (fun x _ => ⟨rfl, rfl⟩) ?_
  rintro ⟨x, n⟩ ⟨h1, h2, h3⟩
  dsimp only [saT] at *
  (dsimp only [c15]; simp (maxSteps := 1000000) (implicitDefEqProofs := false) (disch := omega) only [go_sem, if_pos, if_neg, tw64, twu8, ↓condKT_pos, ↓condKT_neg, ↓gdKT_pt, ↓gdKT_nt, ↓gdKT_pf, ↓gdKT_nf, szSelS_at])
  repeat' first
    | (refine gdKT_dec (fun hg => ?_) (fun hg => ?_) <;> (try (first | simp (maxSteps := 1000000) (implicitDefEqProofs := false) (disch := omega) only [go_sem, if_pos, if_neg, tw64, twu8, ↓condKT_pos, ↓condKT_neg, ↓gdKT_pt, ↓gdKT_nt, ↓gdKT_pf, ↓gdKT_nf, eq_false hg, szSelS_at] | simp (maxSteps := 1000000) (implicitDefEqProofs := false) (disch := omega) only [go_sem, if_pos, if_neg, tw64, twu8, ↓condKT_pos, ↓condKT_neg, ↓gdKT_pt, ↓gdKT_nt, ↓gdKT_pf, ↓gdKT_nf, eq_true hg, szSelS_at])))
    | (refine condKT_dec (fun hg => ?_) (fun hg => ?_) <;> (try (first | simp (maxSteps := 1000000) (implicitDefEqProofs := false) (disch := omega) only [go_sem, if_pos, if_neg, tw64, twu8, ↓condKT_pos, ↓condKT_neg, ↓gdKT_pt, ↓gdKT_nt, ↓gdKT_pf, ↓gdKT_nf, eq_false hg, szSelS_at] | simp (maxSteps := 1000000) (implicitDefEqProofs := false) (disch := omega) only [go_sem, if_pos, if_neg, tw64, twu8, ↓condKT_pos, ↓condKT_neg, ↓gdKT_pt, ↓gdKT_nt, ↓gdKT_pf, ↓gdKT_nf, eq_true hg, szSelS_at])))
    | (refine gdKT_split (fun hg => ?_) (fun hg => ?_) <;> (try simp (maxSteps := 1000000) (implicitDefEqProofs := false) (disch := omega) only [go_sem, if_pos, if_neg, tw64, twu8, ↓condKT_pos, ↓condKT_neg, ↓gdKT_pt, ↓gdKT_nt, ↓gdKT_pf, ↓gdKT_nf, hg, szSelS_at]))
    | (refine condKT_split (fun hg => ?_) (fun hg => ?_) <;> (try simp (maxSteps := 1000000) (implicitDefEqProofs := false) (disch := omega) only [go_sem, if_pos, if_neg, tw64, twu8, ↓condKT_pos, ↓condKT_neg, ↓gdKT_pt, ↓gdKT_nt, ↓gdKT_pf, ↓gdKT_nf, hg, szSelS_at]))
    | (refine endT_p (.inr rfl) (by simp (maxSteps := 1000000) (implicitDefEqProofs := false) (disch := omega) only [go_sem, if_pos, if_neg, tw64, twu8, ↓condKT_pos, ↓condKT_neg, ↓gdKT_pt, ↓gdKT_nt, ↓gdKT_pf, ↓gdKT_nf, szSelS_at]; rfl) ?_; (first | exact vb_true (by omega) | exact vb_false (by omega) | exact vb_dec (by omega) | exact vi_eq (by omega) | rfl | (refine vi_eq ?_; simp_all; done) | (refine vi_eq ?_; simp_all; omega) | (refine vi_eq ?_; simp_all; intros; omega)))
    | exact endT_v (.inr rfl) (by simp (maxSteps := 1000000) (implicitDefEqProofs := false) (disch := omega) only [go_sem, if_pos, if_neg, tw64, twu8, ↓condKT_pos, ↓condKT_neg, ↓gdKT_pt, ↓gdKT_nt, ↓gdKT_pf, ↓gdKT_nf, szSelS_at]; try rfl) (fun _ => rfl)
noncomputable def toSa_S := specP (fun x : SaR => [saT x]) (fun x => x.sels.length ≤ 1048576) (fun x => (.agg [.p (.int .i64 x.spi), .p (.int .i64 x.peer), .p (.int .i64 x.key), .p (.bool x.inn), .p (.int .i64 x.sent), .p (.int .i64 x.top), .p (.int .i64 x.bits), .p (.int .i64 x.byt), .p (.int .i64 x.hard), .p (.int .i64 x.til), .os 0 0 x.sels.length], [.cells 155 9 (rowsT slT x.sels)]))
theorem toSa_at (spi peer key : Int) (inn : Bool) (sent top bits byt hard til : Int) (sels : List SlR) (h : sels.length ≤ 1048576) : toSa_S [.agg [.p (.int .i64 spi), .p (.int .i64 peer), .p (.int .i64 key), .p (.bool inn), .p (.int .i64 sent), .p (.int .i64 top), .p (.int .i64 bits), .p (.int .i64 byt), .p (.int .i64 hard), .p (.int .i64 til), .s (rowsT slT sels)]] = some (.agg [.p (.int .i64 spi), .p (.int .i64 peer), .p (.int .i64 key), .p (.bool inn), .p (.int .i64 sent), .p (.int .i64 top), .p (.int .i64 bits), .p (.int .i64 byt), .p (.int .i64 hard), .p (.int .i64 til), .os 0 0 sels.length], [.cells 155 9 (rowsT slT sels)]) :=
  specP_at (enc := fun x : SaR => [saT x]) (by intro x y h; exact saT_inj x y (by simpa using h)) ⟨spi, peer, key, inn, sent, top, bits, byt, hard, til, sels⟩ h
-- laws.toSa
def c17 : AF := ⟨37,
  (.seq (.reg [⟨(some 1), none, .box 26 (.t 0)⟩,
   ⟨(some 2), none, .alloc 32 [(.int .i64 0), (.int .i64 0), (.int .i64 0), (.bool false), (.int .i64 0), (.int .i64 0), (.int .i64 0), (.int .i64 0), (.int .i64 0), (.int .i64 0), (.slice none 0 0)]⟩])
  (.seq (.reg [⟨(some 3), none, .alloc 32 [(.int .i64 0), (.int .i64 0), (.int .i64 0), (.bool false), (.int .i64 0), (.int .i64 0), (.int .i64 0), (.int .i64 0), (.int .i64 0), (.int .i64 0), (.slice none 0 0)]⟩])
  (.seq (.reg [⟨(some 4), none, .fa (.t 1) 0⟩,
   ⟨(some 5), none, .ld (.t 4)⟩,
   ⟨(some 6), none, .fa (.t 3) 0⟩,
   ⟨none, none, .st 1 (.t 6) (.t 5)⟩])
  (.seq (.reg [⟨(some 7), none, .fa (.t 1) 1⟩,
   ⟨(some 8), none, .ld (.t 7)⟩,
   ⟨(some 9), none, .fa (.t 3) 1⟩,
   ⟨none, none, .st 1 (.t 9) (.t 8)⟩])
  (.seq (.reg [⟨(some 10), none, .fa (.t 1) 2⟩,
   ⟨(some 11), none, .ld (.t 10)⟩,
   ⟨(some 12), none, .fa (.t 3) 2⟩,
   ⟨none, none, .st 1 (.t 12) (.t 11)⟩])
  (.seq (.reg [⟨(some 13), none, .fa (.t 1) 3⟩,
   ⟨(some 14), none, .ld (.t 13)⟩,
   ⟨(some 15), none, .fa (.t 3) 3⟩,
   ⟨none, none, .st 1 (.t 15) (.t 14)⟩])
  (.seq (.reg [⟨(some 16), none, .fa (.t 1) 4⟩,
   ⟨(some 17), none, .ld (.t 16)⟩,
   ⟨(some 18), none, .fa (.t 3) 4⟩,
   ⟨none, none, .st 1 (.t 18) (.t 17)⟩])
  (.seq (.reg [⟨(some 19), none, .fa (.t 1) 5⟩,
   ⟨(some 20), none, .ldn 2 (.t 19)⟩,
   ⟨(some 21), none, .call 65 [(.t 20)]⟩,
   ⟨(some 22), none, .fa (.t 3) 5⟩,
   ⟨none, none, .st 2 (.t 22) (.t 21)⟩])
  (.seq (.reg [⟨(some 23), none, .fa (.t 1) 7⟩,
   ⟨(some 24), none, .ld (.t 23)⟩,
   ⟨(some 25), none, .fa (.t 3) 7⟩,
   ⟨none, none, .st 1 (.t 25) (.t 24)⟩])
  (.seq (.reg [⟨(some 26), none, .fa (.t 1) 8⟩,
   ⟨(some 27), none, .ld (.t 26)⟩,
   ⟨(some 28), none, .fa (.t 3) 8⟩,
   ⟨none, none, .st 1 (.t 28) (.t 27)⟩])
  (.seq (.reg [⟨(some 29), none, .fa (.t 1) 9⟩,
   ⟨(some 30), none, .ld (.t 29)⟩,
   ⟨(some 31), none, .fa (.t 3) 9⟩,
   ⟨none, none, .st 1 (.t 31) (.t 30)⟩])
  (.seq (.reg [⟨(some 32), none, .fa (.t 1) 10⟩,
   ⟨(some 33), none, .ld (.t 32)⟩,
   ⟨(some 34), none, .call 78 [(.t 33)]⟩,
   ⟨(some 35), none, .fa (.t 3) 10⟩,
   ⟨none, none, .st 1 (.t 35) (.t 34)⟩])
  (.seq (.reg [⟨(some 36), none, .ldn 11 (.t 3)⟩,
   ⟨none, none, .st 11 (.t 2) (.t 36)⟩])
  .ret))))))))))))),
  [.cell 2 (some 11)]⟩
theorem k17 : cFn Try.prog Try.f17 = some c17 := by kernel_rfl
theorem toSa_ok : OkT Try.prog 17 (pureSp toSa_S) := by
  refine okT_fn (OkΓT.cons toWindow_ok (OkΓT.cons toSelS_ok (OkΓT.nil _))) Try.func17 (by kernel_rfl) k17 (fun x _ => ⟨rfl, by simp only [go_sem]⟩) ?_
  rintro x hx
  dsimp only [saT] at *
  (dsimp only [c17]; simp (maxSteps := 1000000) (implicitDefEqProofs := false) (disch := omega) only [go_sem, if_pos, if_neg, tw64, twu8, ↓condKT_pos, ↓condKT_neg, ↓gdKT_pt, ↓gdKT_nt, ↓gdKT_pf, ↓gdKT_nf, wn_at, toSelS_at])
  exact endT_of [3] (.inr rfl) (by simp (maxSteps := 1000000) (implicitDefEqProofs := false) (disch := omega) only [go_sem, if_pos, if_neg, tw64, twu8, ↓condKT_pos, ↓condKT_neg, ↓gdKT_pt, ↓gdKT_nt, ↓gdKT_pf, ↓gdKT_nf]; rfl) (by simp (maxSteps := 1000000) (implicitDefEqProofs := false) (disch := omega) only [go_sem, if_pos, if_neg, tw64, twu8, ↓condKT_pos, ↓condKT_neg, ↓gdKT_pt, ↓gdKT_nt, ↓gdKT_pf, ↓gdKT_nf]) (by simp (maxSteps := 1000000) (implicitDefEqProofs := false) (disch := omega) only [go_sem, if_pos, if_neg, tw64, twu8, ↓condKT_pos, ↓condKT_neg, ↓gdKT_pt, ↓gdKT_nt, ↓gdKT_pf, ↓gdKT_nf]) (by decide) (by simp)
noncomputable def eqSa_S := specP (fun x : SaR => [saT x, saT x]) (fun x => x.sels.length ≤ 1048576) (fun x => (.p (.bool true), []))
theorem eqSa_at (spi peer key : Int) (inn : Bool) (sent top bits byt hard til : Int) (sels : List SlR) (h : sels.length ≤ 1048576) : eqSa_S [.agg [.p (.int .i64 spi), .p (.int .i64 peer), .p (.int .i64 key), .p (.bool inn), .p (.int .i64 sent), .p (.int .i64 top), .p (.int .i64 bits), .p (.int .i64 byt), .p (.int .i64 hard), .p (.int .i64 til), .s (rowsT slT sels)], .agg [.p (.int .i64 spi), .p (.int .i64 peer), .p (.int .i64 key), .p (.bool inn), .p (.int .i64 sent), .p (.int .i64 top), .p (.int .i64 bits), .p (.int .i64 byt), .p (.int .i64 hard), .p (.int .i64 til), .s (rowsT slT sels)]] = some (.p (.bool true), []) :=
  specP_at (enc := fun x : SaR => [saT x, saT x]) (by intro x y h; simp at h; exact saT_inj x y h) ⟨spi, peer, key, inn, sent, top, bits, byt, hard, til, sels⟩ h
-- laws.eqSa
def c19 : AF := ⟨57,
  (.seq (.reg [⟨(some 2), none, .box 32 (.t 0)⟩,
   ⟨(some 3), none, .box 32 (.t 1)⟩,
   ⟨(some 4), none, .mv (.v (.bool false))⟩])
  (.seq (.seq (.reg [⟨(some 5), none, .fa (.t 2) 0⟩,
   ⟨(some 6), none, .ld (.t 5)⟩,
   ⟨(some 7), none, .fa (.t 3) 0⟩,
   ⟨(some 8), none, .ld (.t 7)⟩,
   ⟨(some 9), none, .bin .neq (.t 6) (.t 8)⟩])
  (.cond (.t 9) (.seq (.reg [⟨(some 4), none, .mv (.v (.bool false))⟩])
  .ret)
  .skip))
  (.seq (.seq (.reg [⟨(some 10), none, .fa (.t 2) 1⟩,
   ⟨(some 11), none, .ld (.t 10)⟩,
   ⟨(some 12), none, .fa (.t 3) 1⟩,
   ⟨(some 13), none, .ld (.t 12)⟩,
   ⟨(some 14), none, .bin .neq (.t 11) (.t 13)⟩])
  (.cond (.t 14) (.seq (.reg [⟨(some 4), none, .mv (.v (.bool false))⟩])
  .ret)
  .skip))
  (.seq (.seq (.reg [⟨(some 15), none, .fa (.t 2) 2⟩,
   ⟨(some 16), none, .ld (.t 15)⟩,
   ⟨(some 17), none, .fa (.t 3) 2⟩,
   ⟨(some 18), none, .ld (.t 17)⟩,
   ⟨(some 19), none, .bin .neq (.t 16) (.t 18)⟩])
  (.cond (.t 19) (.seq (.reg [⟨(some 4), none, .mv (.v (.bool false))⟩])
  .ret)
  .skip))
  (.seq (.seq (.reg [⟨(some 20), none, .fa (.t 2) 3⟩,
   ⟨(some 21), none, .ld (.t 20)⟩,
   ⟨(some 22), none, .fa (.t 3) 3⟩,
   ⟨(some 23), none, .ld (.t 22)⟩,
   ⟨(some 24), none, .eqB true (.t 21) (.t 23)⟩])
  (.cond (.t 24) (.seq (.reg [⟨(some 4), none, .mv (.v (.bool false))⟩])
  .ret)
  .skip))
  (.seq (.seq (.reg [⟨(some 25), none, .fa (.t 2) 4⟩,
   ⟨(some 26), none, .ld (.t 25)⟩,
   ⟨(some 27), none, .fa (.t 3) 4⟩,
   ⟨(some 28), none, .ld (.t 27)⟩,
   ⟨(some 29), none, .bin .neq (.t 26) (.t 28)⟩])
  (.cond (.t 29) (.seq (.reg [⟨(some 4), none, .mv (.v (.bool false))⟩])
  .ret)
  .skip))
  (.seq (.seq (.reg [⟨(some 30), none, .fa (.t 2) 5⟩,
   ⟨(some 31), none, .ldn 2 (.t 30)⟩,
   ⟨(some 32), none, .fa (.t 3) 5⟩,
   ⟨(some 33), none, .ldn 2 (.t 32)⟩,
   ⟨(some 34), none, .call 86 [(.t 31), (.t 33)]⟩,
   ⟨(some 35), none, .un .not (.t 34)⟩])
  (.cond (.t 35) (.seq (.reg [⟨(some 4), none, .mv (.v (.bool false))⟩])
  .ret)
  .skip))
  (.seq (.seq (.reg [⟨(some 36), none, .fa (.t 2) 7⟩,
   ⟨(some 37), none, .ld (.t 36)⟩,
   ⟨(some 38), none, .fa (.t 3) 7⟩,
   ⟨(some 39), none, .ld (.t 38)⟩,
   ⟨(some 40), none, .bin .neq (.t 37) (.t 39)⟩])
  (.cond (.t 40) (.seq (.reg [⟨(some 4), none, .mv (.v (.bool false))⟩])
  .ret)
  .skip))
  (.seq (.seq (.reg [⟨(some 41), none, .fa (.t 2) 8⟩,
   ⟨(some 42), none, .ld (.t 41)⟩,
   ⟨(some 43), none, .fa (.t 3) 8⟩,
   ⟨(some 44), none, .ld (.t 43)⟩,
   ⟨(some 45), none, .bin .neq (.t 42) (.t 44)⟩])
  (.cond (.t 45) (.seq (.reg [⟨(some 4), none, .mv (.v (.bool false))⟩])
  .ret)
  .skip))
  (.seq (.seq (.reg [⟨(some 46), none, .fa (.t 2) 9⟩,
   ⟨(some 47), none, .ld (.t 46)⟩,
   ⟨(some 48), none, .fa (.t 3) 9⟩,
   ⟨(some 49), none, .ld (.t 48)⟩,
   ⟨(some 50), none, .bin .neq (.t 47) (.t 49)⟩])
  (.cond (.t 50) (.seq (.reg [⟨(some 4), none, .mv (.v (.bool false))⟩])
  .ret)
  .skip))
  (.seq (.seq (.reg [⟨(some 51), none, .fa (.t 2) 10⟩,
   ⟨(some 52), none, .ld (.t 51)⟩,
   ⟨(some 53), none, .fa (.t 3) 10⟩,
   ⟨(some 54), none, .ld (.t 53)⟩,
   ⟨(some 55), none, .call 87 [(.t 52), (.t 54)]⟩,
   ⟨(some 56), none, .un .not (.t 55)⟩])
  (.cond (.t 56) (.seq (.reg [⟨(some 4), none, .mv (.v (.bool false))⟩])
  .ret)
  .skip))
  (.seq (.reg [⟨(some 4), none, .mv (.v (.bool true))⟩])
  .ret)))))))))))),
  [.t 4]⟩
theorem k19 : cFn Try.prog Try.f19 = some c19 := by kernel_rfl
theorem eqSa_ok : OkT Try.prog 19 (pureSp eqSa_S) := by
  refine okT_fn (OkΓT.cons eqWindow_ok (OkΓT.cons eqSelS_ok (OkΓT.nil _))) Try.func19 (by kernel_rfl) k19 (fun x _ => ⟨rfl, rfl⟩) ?_
  rintro x hx
  dsimp only [saT] at *
  (dsimp only [c19]; simp (maxSteps := 1000000) (implicitDefEqProofs := false) (disch := omega) only [go_sem, if_pos, if_neg, tw64, twu8, ↓condKT_pos, ↓condKT_neg, ↓gdKT_pt, ↓gdKT_nt, ↓gdKT_pf, ↓gdKT_nf, eqWn_at, eqSelS_at])
  repeat' first
    | (refine gdKT_dec (fun hg => ?_) (fun hg => ?_) <;> (try (first | simp (maxSteps := 1000000) (implicitDefEqProofs := false) (disch := omega) only [go_sem, if_pos, if_neg, tw64, twu8, ↓condKT_pos, ↓condKT_neg, ↓gdKT_pt, ↓gdKT_nt, ↓gdKT_pf, ↓gdKT_nf, eq_false hg, eqWn_at, eqSelS_at] | simp (maxSteps := 1000000) (implicitDefEqProofs := false) (disch := omega) only [go_sem, if_pos, if_neg, tw64, twu8, ↓condKT_pos, ↓condKT_neg, ↓gdKT_pt, ↓gdKT_nt, ↓gdKT_pf, ↓gdKT_nf, eq_true hg, eqWn_at, eqSelS_at])))
    | (refine condKT_dec (fun hg => ?_) (fun hg => ?_) <;> (try (first | simp (maxSteps := 1000000) (implicitDefEqProofs := false) (disch := omega) only [go_sem, if_pos, if_neg, tw64, twu8, ↓condKT_pos, ↓condKT_neg, ↓gdKT_pt, ↓gdKT_nt, ↓gdKT_pf, ↓gdKT_nf, eq_false hg, eqWn_at, eqSelS_at] | simp (maxSteps := 1000000) (implicitDefEqProofs := false) (disch := omega) only [go_sem, if_pos, if_neg, tw64, twu8, ↓condKT_pos, ↓condKT_neg, ↓gdKT_pt, ↓gdKT_nt, ↓gdKT_pf, ↓gdKT_nf, eq_true hg, eqWn_at, eqSelS_at])))
    | (refine gdKT_split (fun hg => ?_) (fun hg => ?_) <;> (try simp (maxSteps := 1000000) (implicitDefEqProofs := false) (disch := omega) only [go_sem, if_pos, if_neg, tw64, twu8, ↓condKT_pos, ↓condKT_neg, ↓gdKT_pt, ↓gdKT_nt, ↓gdKT_pf, ↓gdKT_nf, hg, eqWn_at, eqSelS_at]))
    | (refine condKT_split (fun hg => ?_) (fun hg => ?_) <;> (try simp (maxSteps := 1000000) (implicitDefEqProofs := false) (disch := omega) only [go_sem, if_pos, if_neg, tw64, twu8, ↓condKT_pos, ↓condKT_neg, ↓gdKT_pt, ↓gdKT_nt, ↓gdKT_pf, ↓gdKT_nf, hg, eqWn_at, eqSelS_at]))
    | (refine endT_p (.inr rfl) (by simp (maxSteps := 1000000) (implicitDefEqProofs := false) (disch := omega) only [go_sem, if_pos, if_neg, tw64, twu8, ↓condKT_pos, ↓condKT_neg, ↓gdKT_pt, ↓gdKT_nt, ↓gdKT_pf, ↓gdKT_nf, eqWn_at, eqSelS_at]; rfl) ?_; (first | exact vb_true (by omega) | exact vb_false (by omega) | exact vb_dec (by omega) | exact vi_eq (by omega) | rfl | (refine vi_eq ?_; simp_all; done) | (refine vi_eq ?_; simp_all; omega) | (refine vi_eq ?_; simp_all; intros; omega)))
    | exact endT_v (.inr rfl) (by simp (maxSteps := 1000000) (implicitDefEqProofs := false) (disch := omega) only [go_sem, if_pos, if_neg, tw64, twu8, ↓condKT_pos, ↓condKT_neg, ↓gdKT_pt, ↓gdKT_nt, ↓gdKT_pf, ↓gdKT_nf, eqWn_at, eqSelS_at]; try rfl) (fun _ => rfl)
end Go.Proofs.Ytngebdcbcliobaa
