import Derived.Test.YtngebdcbcliobaaC11
set_option linter.unusedSimpArgs false
set_option linter.unusedVariables false
set_option maxRecDepth 100000
set_option maxHeartbeats 4000000
namespace Go.Proofs.Ytngebdcbcliobaa
open Go Go.AH
attribute [local irreducible] awpT ropsT qopsT stepT condKT gdKT EndT joinK loopKT seqKT blkKT kont kontR
theorem saF_zero {x : SaR} (h : saF x = 0) : (0 ≤ x.sent ∧ x.sent ≤ 1099511627776) ∧ (0 ≤ x.byt ∧ x.byt ≤ 1000000000) ∧ (0 ≤ x.hard ∧ x.hard ≤ 1000000000) ∧ 1 ≤ x.sels.length ∧ x.sels.length ≤ 12 := by
  simp only [saF] at h
  split at h
  · rename_i hb
    split at h
    · split at h
      · cases h
      · simp only [selsF] at h
        split at h
        · rename_i hs; exact ⟨hb.2.2.2.1, hb.2.2.2.2.1, hb.2.2.2.2.2.1, hs⟩
        · cases h
    · contradiction
  · cases h
/-! Copies -/
noncomputable def clone_S := specP (fun x : List SlR => [.s (rowsT slT x)]) (fun x => 1 ≤ x.length ∧ x.length ≤ 12) (fun x => (.os 0 0 x.length, [selB x]))
theorem clone_at (l : List SlR) (h : 1 ≤ l.length ∧ l.length ≤ 12) : clone_S [.s (rowsT slT l)] = some (.os 0 0 l.length, [selB l]) :=
  specP_at (enc := fun x : List SlR => [.s (rowsT slT x)]) (fun x y h => by simp at h; exact sls_inj h) l h
-- slices.Clone[[]impl.Sel,impl.Sel]
def c151 : AF := ⟨8,
  (.seq (.reg [⟨(some 2), none, .mv (.v (.slice none 0 0))⟩])
  (.seq (.seq (.reg [⟨(some 3), none, .mv (.t 0)⟩,
   ⟨(some 4), none, .eqN false (.t 3)⟩])
  (.cond (.t 4) (.seq (.reg [⟨(some 2), none, .mv (.v (.slice none 0 0))⟩])
  .ret)
  .skip))
  (.seq (.reg [⟨(some 5), none, .mkS 155 0 [] []⟩,
   ⟨(some 6), none, .mv (.t 0)⟩,
   ⟨(some 7), none, .app 155 9 72 (.t 5) (.t 6)⟩,
   ⟨(some 2), none, .mv (.t 7)⟩])
  .ret))),
  [.t 2]⟩
theorem k151 : cFn Try.prog Try.f151 = some c151 := by kernel_rfl
theorem clone_ok : OkT Try.prog 151 (pureSp clone_S) := by
  refine okT_fn (OkΓT.nil _) Try.func151 (by kernel_rfl) k151 (fun x _ => ⟨rfl, by simp only [go_sem]⟩) ?_
  rintro l ⟨h1, h2⟩
  dsimp only at *
  (dsimp only [c151]; simp (maxSteps := 1000000) (implicitDefEqProofs := false) (disch := omega) only [go_sem, if_pos, if_neg, tw64, twu8, ↓condKT_pos, ↓condKT_neg, ↓gdKT_pt, ↓gdKT_nt, ↓gdKT_pf, ↓gdKT_nf])
  exact endT_of [1] (.inr rfl) (by simp (maxSteps := 1000000) (implicitDefEqProofs := false) (disch := omega) only [go_sem, if_pos, if_neg, tw64, twu8, ↓condKT_pos, ↓condKT_neg, ↓gdKT_pt, ↓gdKT_nt, ↓gdKT_pf, ↓gdKT_nf]; rfl) (by simp (maxSteps := 1000000) (implicitDefEqProofs := false) (disch := omega) only [go_sem, if_pos, if_neg, tw64, twu8, ↓condKT_pos, ↓condKT_neg, ↓gdKT_pt, ↓gdKT_nt, ↓gdKT_pf, ↓gdKT_nf]) (by simp (maxSteps := 1000000) (implicitDefEqProofs := false) (disch := omega) only [go_sem, if_pos, if_neg, tw64, twu8, ↓condKT_pos, ↓condKT_neg, ↓gdKT_pt, ↓gdKT_nt, ↓gdKT_pf, ↓gdKT_nf]) (by decide) (by simp)
noncomputable def copy_S := specP (fun x : SaR => [saT x]) (fun x => 1 ≤ x.sels.length ∧ x.sels.length ≤ 12) (fun x => (.agg [.p (.int .i64 x.spi), .p (.int .i64 x.peer), .p (.int .i64 x.key), .p (.bool x.inn), .p (.int .i64 x.sent), .p (.int .i64 x.top), .p (.int .i64 x.bits), .p (.int .i64 x.byt), .p (.int .i64 x.hard), .p (.int .i64 x.til), .os 0 0 x.sels.length], [selB x.sels]))
theorem copy_at (spi peer key : Int) (inn : Bool) (sent top bits byt hard til : Int) (sels : List SlR) (h : 1 ≤ sels.length ∧ sels.length ≤ 12) : copy_S [.agg [.p (.int .i64 spi), .p (.int .i64 peer), .p (.int .i64 key), .p (.bool inn), .p (.int .i64 sent), .p (.int .i64 top), .p (.int .i64 bits), .p (.int .i64 byt), .p (.int .i64 hard), .p (.int .i64 til), .s (rowsT slT sels)]] = some (.agg [.p (.int .i64 spi), .p (.int .i64 peer), .p (.int .i64 key), .p (.bool inn), .p (.int .i64 sent), .p (.int .i64 top), .p (.int .i64 bits), .p (.int .i64 byt), .p (.int .i64 hard), .p (.int .i64 til), .os 0 0 sels.length], [selB sels]) :=
  specP_at (enc := fun x : SaR => [saT x]) (by intro x y h; exact saT_inj x y (by simpa using h)) ⟨spi, peer, key, inn, sent, top, bits, byt, hard, til, sels⟩ h
-- spec.l16Copy
def c111 : AF := ⟨9,
  (.seq (.reg [⟨(some 1), none, .box 32 (.t 0)⟩,
   ⟨(some 2), none, .alloc 32 [(.int .i64 0), (.int .i64 0), (.int .i64 0), (.bool false), (.int .i64 0), (.int .i64 0), (.int .i64 0), (.int .i64 0), (.int .i64 0), (.int .i64 0), (.slice none 0 0)]⟩])
  (.seq (.reg [⟨(some 3), none, .mkS 155 0 [] []⟩,
   ⟨(some 4), none, .fa (.t 1) 10⟩,
   ⟨(some 5), none, .ld (.t 4)⟩,
   ⟨(some 6), none, .app 155 9 72 (.t 3) (.t 5)⟩,
   ⟨(some 7), none, .fa (.t 1) 10⟩,
   ⟨none, none, .st 1 (.t 7) (.t 6)⟩])
  (.seq (.reg [⟨(some 8), none, .ldn 11 (.t 1)⟩,
   ⟨none, none, .st 11 (.t 2) (.t 8)⟩])
  .ret))),
  [.cell 2 (some 11)]⟩
theorem k111 : cFn Try.prog Try.f111 = some c111 := by kernel_rfl
theorem l16Copy_ok : OkT Try.prog 111 (pureSp copy_S) := by
  refine okT_fn (OkΓT.nil _) Try.func111 (by kernel_rfl) k111 (fun x _ => ⟨rfl, by simp only [go_sem]⟩) ?_
  rintro x ⟨h1, h2⟩
  dsimp only [saT] at *
  (dsimp only [c111]; simp (maxSteps := 1000000) (implicitDefEqProofs := false) (disch := omega) only [go_sem, if_pos, if_neg, tw64, twu8, ↓condKT_pos, ↓condKT_neg, ↓gdKT_pt, ↓gdKT_nt, ↓gdKT_pf, ↓gdKT_nf])
  exact endT_of [3] (.inr rfl) (by simp (maxSteps := 1000000) (implicitDefEqProofs := false) (disch := omega) only [go_sem, if_pos, if_neg, tw64, twu8, ↓condKT_pos, ↓condKT_neg, ↓gdKT_pt, ↓gdKT_nt, ↓gdKT_pf, ↓gdKT_nf]; rfl) (by simp (maxSteps := 1000000) (implicitDefEqProofs := false) (disch := omega) only [go_sem, if_pos, if_neg, tw64, twu8, ↓condKT_pos, ↓condKT_neg, ↓gdKT_pt, ↓gdKT_nt, ↓gdKT_pf, ↓gdKT_nf]) (by simp (maxSteps := 1000000) (implicitDefEqProofs := false) (disch := omega) only [go_sem, if_pos, if_neg, tw64, twu8, ↓condKT_pos, ↓condKT_neg, ↓gdKT_pt, ↓gdKT_nt, ↓gdKT_pf, ↓gdKT_nf]) (by decide) (by simp)
-- impl.cloneSa
def c96 : AF := ⟨8,
  (.seq (.reg [⟨(some 1), none, .box 32 (.t 0)⟩,
   ⟨(some 2), none, .alloc 32 [(.int .i64 0), (.int .i64 0), (.int .i64 0), (.bool false), (.int .i64 0), (.int .i64 0), (.int .i64 0), (.int .i64 0), (.int .i64 0), (.int .i64 0), (.slice none 0 0)]⟩])
  (.seq (.reg [⟨(some 3), none, .fa (.t 1) 10⟩,
   ⟨(some 4), none, .ld (.t 3)⟩,
   ⟨(some 5), none, .call 151 [(.t 4)]⟩,
   ⟨(some 6), none, .fa (.t 1) 10⟩,
   ⟨none, none, .st 1 (.t 6) (.t 5)⟩])
  (.seq (.reg [⟨(some 7), none, .ldn 11 (.t 1)⟩,
   ⟨none, none, .st 11 (.t 2) (.t 7)⟩])
  .ret))),
  [.cell 2 (some 11)]⟩
theorem k96 : cFn Try.prog Try.f96 = some c96 := by kernel_rfl
theorem cloneSa_ok : OkT Try.prog 96 (pureSp copy_S) := by
  refine okT_fn (OkΓT.cons clone_ok (OkΓT.nil _)) Try.func96 (by kernel_rfl) k96 (fun x _ => ⟨rfl, by simp only [go_sem]⟩) ?_
  rintro x ⟨h1, h2⟩
  dsimp only [saT] at *
  (dsimp only [c96]; simp (maxSteps := 1000000) (implicitDefEqProofs := false) (disch := omega) only [go_sem, if_pos, if_neg, tw64, twu8, ↓condKT_pos, ↓condKT_neg, ↓gdKT_pt, ↓gdKT_nt, ↓gdKT_pf, ↓gdKT_nf, clone_at])
  exact endT_of [2] (.inr rfl) (by simp (maxSteps := 1000000) (implicitDefEqProofs := false) (disch := omega) only [go_sem, if_pos, if_neg, tw64, twu8, ↓condKT_pos, ↓condKT_neg, ↓gdKT_pt, ↓gdKT_nt, ↓gdKT_pf, ↓gdKT_nf]; rfl) (by simp (maxSteps := 1000000) (implicitDefEqProofs := false) (disch := omega) only [go_sem, if_pos, if_neg, tw64, twu8, ↓condKT_pos, ↓condKT_neg, ↓gdKT_pt, ↓gdKT_nt, ↓gdKT_pf, ↓gdKT_nf]) (by simp (maxSteps := 1000000) (implicitDefEqProofs := false) (disch := omega) only [go_sem, if_pos, if_neg, tw64, twu8, ↓condKT_pos, ↓condKT_neg, ↓gdKT_pt, ↓gdKT_nt, ↓gdKT_pf, ↓gdKT_nf]) (by decide) (by simp)
/-! Charging -/
def chF (x : SaR) (a : Int) : Int := if x.byt + a > x.hard then 10 else if x.inn = false ∧ 1099511627776 ≤ x.sent then 2 else 0
def chV (x : SaR) (a : Int) (v : TV) : List TV := [.p (.int .i64 x.spi), .p (.int .i64 x.peer), .p (.int .i64 x.key), .p (.bool x.inn), .p (.int .i64 (if x.inn = true then x.sent else x.sent + 1)), .p (.int .i64 x.top), .p (.int .i64 x.bits), .p (.int .i64 (x.byt + a)), .p (.int .i64 x.hard), .p (.int .i64 x.til), v]
abbrev chB (x : SaR) (a : Int) : Prop := (0 ≤ a ∧ a ≤ 100000) ∧ (0 ≤ x.sent ∧ x.sent ≤ 1099511627776) ∧ (0 ≤ x.byt ∧ x.byt ≤ 1000000000) ∧ (0 ≤ x.hard ∧ x.hard ≤ 1000000000) ∧ 1 ≤ x.sels.length ∧ x.sels.length ≤ 12
noncomputable def ch_S := specP (fun x : SaR × Int => [saT x.1, .p (.int .i64 x.2)]) (fun x => chB x.1 x.2) (fun x => if chF x.1 x.2 = 0 then (.tup [.agg (chV x.1 x.2 (.os 0 0 x.1.sels.length)), .p (.int .i64 0)], [selB x.1.sels]) else (.tup [saT x.1, .p (.int .i64 (chF x.1 x.2))], []))
theorem sa2_inj : ∀ x y : SaR × Int, ([saT x.1, .p (.int .i64 x.2)] : List TV) = [saT y.1, .p (.int .i64 y.2)] → x = y := by
  rintro ⟨a, b⟩ ⟨a', b'⟩ h; simp at h; simp [saT_inj _ _ h.1, h.2]
theorem ch_at (x : SaR) (a : Int) (h : chB x a) : ch_S [.agg [.p (.int .i64 x.spi), .p (.int .i64 x.peer), .p (.int .i64 x.key), .p (.bool x.inn), .p (.int .i64 x.sent), .p (.int .i64 x.top), .p (.int .i64 x.bits), .p (.int .i64 x.byt), .p (.int .i64 x.hard), .p (.int .i64 x.til), .s (rowsT slT x.sels)], .p (.int .i64 a)] = some (if chF x a = 0 then (.tup [.agg (chV x a (.os 0 0 x.sels.length)), .p (.int .i64 0)], [selB x.sels]) else (.tup [saT x, .p (.int .i64 (chF x a))], [])) :=
  specP_at (enc := fun x : SaR × Int => [saT x.1, .p (.int .i64 x.2)]) sa2_inj (x, a) h
-- spec.l16Charge
def c95 : AF := ⟨39,
  (.seq (.reg [⟨(some 2), none, .box 32 (.t 0)⟩,
   ⟨(some 4), none, .alloc 32 [(.int .i64 0), (.int .i64 0), (.int .i64 0), (.bool false), (.int .i64 0), (.int .i64 0), (.int .i64 0), (.int .i64 0), (.int .i64 0), (.int .i64 0), (.slice none 0 0)]⟩,
   ⟨(some 5), none, .mv (.v (.int .i64 0))⟩])
  (.seq (.seq (.reg [⟨(some 7), none, .fa (.t 2) 7⟩,
   ⟨(some 8), none, .ld (.t 7)⟩,
   ⟨(some 9), none, .mv (.t 1)⟩,
   ⟨(some 10), none, .bin .add (.t 8) (.t 9)⟩,
   ⟨(some 11), none, .fa (.t 2) 8⟩,
   ⟨(some 12), none, .ld (.t 11)⟩,
   ⟨(some 13), none, .bin .gtr (.t 10) (.t 12)⟩])
  (.cond (.t 13) (.seq (.reg [⟨(some 14), none, .ldn 11 (.t 2)⟩,
   ⟨none, none, .st 11 (.t 4) (.t 14)⟩,
   ⟨(some 5), none, .mv (.v (.int .i64 10))⟩])
  .ret)
  .skip))
  (.seq (.seq (.reg [⟨(some 15), none, .fa (.t 2) 3⟩,
   ⟨(some 16), none, .ld (.t 15)⟩,
   ⟨(some 17), none, .un .not (.t 16)⟩,
   ⟨(some 18), none, .mv (.t 17)⟩,
   ⟨(some 19), (some (18, true)), .fa (.t 2) 4⟩,
   ⟨(some 20), (some (18, true)), .ld (.t 19)⟩,
   ⟨(some 21), (some (18, true)), .bin .geq (.t 20) (.v (.int .i64 1099511627776))⟩,
   ⟨(some 22), none, .pick (.t 18) (.t 21) (.v (.bool false))⟩])
  (.cond (.t 22) (.seq (.reg [⟨(some 23), none, .ldn 11 (.t 2)⟩,
   ⟨none, none, .st 11 (.t 4) (.t 23)⟩,
   ⟨(some 5), none, .mv (.v (.int .i64 2))⟩])
  .ret)
  .skip))
  (.seq (.reg [⟨(some 24), none, .ldn 11 (.t 2)⟩,
   ⟨(some 25), none, .call 111 [(.t 24)]⟩,
   ⟨(some 6), none, .alloc 32 [(.int .i64 0), (.int .i64 0), (.int .i64 0), (.bool false), (.int .i64 0), (.int .i64 0), (.int .i64 0), (.int .i64 0), (.int .i64 0), (.int .i64 0), (.slice none 0 0)]⟩,
   ⟨none, none, .st 11 (.t 6) (.t 25)⟩])
  (.seq (.reg [⟨(some 26), none, .fa (.t 2) 7⟩,
   ⟨(some 27), none, .ld (.t 26)⟩,
   ⟨(some 28), none, .mv (.t 1)⟩,
   ⟨(some 29), none, .bin .add (.t 27) (.t 28)⟩,
   ⟨(some 30), none, .fa (.t 6) 7⟩,
   ⟨none, none, .st 1 (.t 30) (.t 29)⟩])
  (.seq (.seq (.reg [⟨(some 31), none, .fa (.t 2) 3⟩,
   ⟨(some 32), none, .ld (.t 31)⟩,
   ⟨(some 33), none, .un .not (.t 32)⟩])
  (.cond (.t 33) (.reg [⟨(some 34), none, .fa (.t 2) 4⟩,
   ⟨(some 35), none, .ld (.t 34)⟩,
   ⟨(some 36), none, .bin .add (.t 35) (.v (.int .i64 1))⟩,
   ⟨(some 37), none, .fa (.t 6) 4⟩,
   ⟨none, none, .st 1 (.t 37) (.t 36)⟩])
  .skip))
  (.seq (.reg [⟨(some 38), none, .ldn 11 (.t 6)⟩,
   ⟨none, none, .st 11 (.t 4) (.t 38)⟩,
   ⟨(some 5), none, .mv (.v (.int .i64 0))⟩])
  .ret))))))),
  [.cell 4 (some 11), .t 5]⟩
theorem k95 : cFn Try.prog Try.f95 = some c95 := by kernel_rfl
theorem l16Charge_ok : OkT Try.prog 95 (shareSp ch_S) := by
  refine okT_sh (OkΓT.cons l16Copy_ok (OkΓT.nil _)) Try.func95 (by kernel_rfl) k95 ?_
  rintro ⟨x, a⟩ ⟨h1, h2, h3, h4, h5, h6⟩
  dsimp only [saT] at *
  by_cases c1 : x.byt + a > x.hard
  · rw [show chF x a = 10 by simp only [chF]; rw [if_pos c1], if_neg (by decide)]
    (dsimp only [c95]; simp (maxSteps := 1000000) (implicitDefEqProofs := false) (disch := omega) only [go_sem, if_pos, if_neg, tw64, twu8, ↓condKT_pos, ↓condKT_neg, ↓gdKT_pt, ↓gdKT_nt, ↓gdKT_pf, ↓gdKT_nf, eq_true c1])
    exact endT_of [] (.inr rfl) (by simp (maxSteps := 1000000) (implicitDefEqProofs := false) (disch := omega) only [go_sem, if_pos, if_neg, tw64, twu8, ↓condKT_pos, ↓condKT_neg, ↓gdKT_pt, ↓gdKT_nt, ↓gdKT_pf, ↓gdKT_nf]; rfl) (by simp (maxSteps := 1000000) (implicitDefEqProofs := false) (disch := omega) only [go_sem, if_pos, if_neg, tw64, twu8, ↓condKT_pos, ↓condKT_neg, ↓gdKT_pt, ↓gdKT_nt, ↓gdKT_pf, ↓gdKT_nf]) (by simp (maxSteps := 1000000) (implicitDefEqProofs := false) (disch := omega) only [go_sem, if_pos, if_neg, tw64, twu8, ↓condKT_pos, ↓condKT_neg, ↓gdKT_pt, ↓gdKT_nt, ↓gdKT_pf, ↓gdKT_nf]) (by decide) (by simp)
  by_cases c2 : x.inn = false ∧ 1099511627776 ≤ x.sent
  · rw [show chF x a = 2 by simp only [chF]; rw [if_neg c1, if_pos c2], if_neg (by decide)]
    obtain ⟨d1, d2⟩ := c2
    (dsimp only [c95]; simp (maxSteps := 1000000) (implicitDefEqProofs := false) (disch := omega) only [go_sem, if_pos, if_neg, tw64, twu8, ↓condKT_pos, ↓condKT_neg, ↓gdKT_pt, ↓gdKT_nt, ↓gdKT_pf, ↓gdKT_nf, eq_false c1, d1, eq_true d2, ge_iff_le, gt_iff_lt])
    exact endT_of [] (.inr rfl) (by simp (maxSteps := 1000000) (implicitDefEqProofs := false) (disch := omega) only [go_sem, if_pos, if_neg, tw64, twu8, ↓condKT_pos, ↓condKT_neg, ↓gdKT_pt, ↓gdKT_nt, ↓gdKT_pf, ↓gdKT_nf, d1]; rfl) (by simp (maxSteps := 1000000) (implicitDefEqProofs := false) (disch := omega) only [go_sem, if_pos, if_neg, tw64, twu8, ↓condKT_pos, ↓condKT_neg, ↓gdKT_pt, ↓gdKT_nt, ↓gdKT_pf, ↓gdKT_nf, d1]) (by simp (maxSteps := 1000000) (implicitDefEqProofs := false) (disch := omega) only [go_sem, if_pos, if_neg, tw64, twu8, ↓condKT_pos, ↓condKT_neg, ↓gdKT_pt, ↓gdKT_nt, ↓gdKT_pf, ↓gdKT_nf, d1]) (by decide) (by simp)
  rw [show chF x a = 0 by simp only [chF]; rw [if_neg c1, if_neg c2], if_pos rfl]
  cases hi : x.inn with
  | true =>
    (dsimp only [c95]; simp (maxSteps := 1000000) (implicitDefEqProofs := false) (disch := omega) only [go_sem, if_pos, if_neg, tw64, twu8, ↓condKT_pos, ↓condKT_neg, ↓gdKT_pt, ↓gdKT_nt, ↓gdKT_pf, ↓gdKT_nf, eq_false c1, hi, copy_at, chV])
    exact endT_of [2] (.inr rfl) (by simp (maxSteps := 1000000) (implicitDefEqProofs := false) (disch := omega) only [go_sem, if_pos, if_neg, tw64, twu8, ↓condKT_pos, ↓condKT_neg, ↓gdKT_pt, ↓gdKT_nt, ↓gdKT_pf, ↓gdKT_nf, chV, hi]; rfl) (by simp (maxSteps := 1000000) (implicitDefEqProofs := false) (disch := omega) only [go_sem, if_pos, if_neg, tw64, twu8, ↓condKT_pos, ↓condKT_neg, ↓gdKT_pt, ↓gdKT_nt, ↓gdKT_pf, ↓gdKT_nf, chV, hi]) (by simp (maxSteps := 1000000) (implicitDefEqProofs := false) (disch := omega) only [go_sem, if_pos, if_neg, tw64, twu8, ↓condKT_pos, ↓condKT_neg, ↓gdKT_pt, ↓gdKT_nt, ↓gdKT_pf, ↓gdKT_nf, chV, hi]) (by decide) (by simp)
  | false =>
    have d2 : ¬ 1099511627776 ≤ x.sent := fun h => c2 ⟨hi, h⟩
    (dsimp only [c95]; simp (maxSteps := 1000000) (implicitDefEqProofs := false) (disch := omega) only [go_sem, if_pos, if_neg, tw64, twu8, ↓condKT_pos, ↓condKT_neg, ↓gdKT_pt, ↓gdKT_nt, ↓gdKT_pf, ↓gdKT_nf, eq_false c1, hi, eq_false d2, ge_iff_le, gt_iff_lt, copy_at, chV])
    exact endT_of [2] (.inr rfl) (by simp (maxSteps := 1000000) (implicitDefEqProofs := false) (disch := omega) only [go_sem, if_pos, if_neg, tw64, twu8, ↓condKT_pos, ↓condKT_neg, ↓gdKT_pt, ↓gdKT_nt, ↓gdKT_pf, ↓gdKT_nf, chV, hi]; rfl) (by simp (maxSteps := 1000000) (implicitDefEqProofs := false) (disch := omega) only [go_sem, if_pos, if_neg, tw64, twu8, ↓condKT_pos, ↓condKT_neg, ↓gdKT_pt, ↓gdKT_nt, ↓gdKT_pf, ↓gdKT_nf, chV, hi]) (by simp (maxSteps := 1000000) (implicitDefEqProofs := false) (disch := omega) only [go_sem, if_pos, if_neg, tw64, twu8, ↓condKT_pos, ↓condKT_neg, ↓gdKT_pt, ↓gdKT_nt, ↓gdKT_pf, ↓gdKT_nf, chV, hi]) (by decide) (by simp)
end Go.Proofs.Ytngebdcbcliobaa
