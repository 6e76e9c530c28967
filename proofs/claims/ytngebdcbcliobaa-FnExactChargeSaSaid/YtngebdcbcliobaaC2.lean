import Derived.Test.YtngebdcbcliobaaC1
set_option linter.unusedSimpArgs false
set_option linter.unusedVariables false
set_option maxRecDepth 100000
set_option maxHeartbeats 4000000
namespace Go.Proofs.Ytngebdcbcliobaa
open Go Go.AH
attribute [local irreducible] awpT ropsT qopsT stepT condKT gdKT EndT joinK loopKT seqKT blkKT kont kontR
-- laws.toSel
def c144 : AF := ⟨24,
  (.seq (.reg [⟨(some 1), none, .box 159 (.t 0)⟩,
   ⟨(some 2), none, .alloc 155 [(.int .i64 0), (.int .i64 0), (.int .i64 0), (.int .i64 0), (.int .i64 0), (.int .i64 0), (.int .i64 0), (.int .i64 0), (.int .i64 0)]⟩])
  (.seq (.reg [⟨(some 3), none, .alloc 155 [(.int .i64 0), (.int .i64 0), (.int .i64 0), (.int .i64 0), (.int .i64 0), (.int .i64 0), (.int .i64 0), (.int .i64 0), (.int .i64 0)]⟩])
  (.seq (.reg [⟨(some 4), none, .fa (.t 1) 0⟩,
   ⟨(some 5), none, .ldn 2 (.t 4)⟩,
   ⟨(some 6), none, .call 188 [(.t 5)]⟩,
   ⟨(some 7), none, .fa (.t 3) 0⟩,
   ⟨none, none, .st 2 (.t 7) (.t 6)⟩])
  (.seq (.reg [⟨(some 8), none, .fa (.t 1) 2⟩,
   ⟨(some 9), none, .ldn 2 (.t 8)⟩,
   ⟨(some 10), none, .call 188 [(.t 9)]⟩,
   ⟨(some 11), none, .fa (.t 3) 2⟩,
   ⟨none, none, .st 2 (.t 11) (.t 10)⟩])
  (.seq (.reg [⟨(some 12), none, .fa (.t 1) 4⟩,
   ⟨(some 13), none, .ldn 2 (.t 12)⟩,
   ⟨(some 14), none, .call 188 [(.t 13)]⟩,
   ⟨(some 15), none, .fa (.t 3) 4⟩,
   ⟨none, none, .st 2 (.t 15) (.t 14)⟩])
  (.seq (.reg [⟨(some 16), none, .fa (.t 1) 6⟩,
   ⟨(some 17), none, .ldn 2 (.t 16)⟩,
   ⟨(some 18), none, .call 188 [(.t 17)]⟩,
   ⟨(some 19), none, .fa (.t 3) 6⟩,
   ⟨none, none, .st 2 (.t 19) (.t 18)⟩])
  (.seq (.reg [⟨(some 20), none, .fa (.t 1) 8⟩,
   ⟨(some 21), none, .ld (.t 20)⟩,
   ⟨(some 22), none, .fa (.t 3) 8⟩,
   ⟨none, none, .st 1 (.t 22) (.t 21)⟩])
  (.seq (.reg [⟨(some 23), none, .ldn 9 (.t 3)⟩,
   ⟨none, none, .st 9 (.t 2) (.t 23)⟩])
  .ret)))))))),
  [.cell 2 (some 9)]⟩
theorem k144 : cFn Try.prog Try.f144 = some c144 := by kernel_rfl
-- laws.eqSel
def c147 : AF := ⟨34,
  (.seq (.reg [⟨(some 2), none, .box 155 (.t 0)⟩,
   ⟨(some 3), none, .box 155 (.t 1)⟩,
   ⟨(some 4), none, .mv (.v (.bool false))⟩])
  (.seq (.seq (.reg [⟨(some 5), none, .fa (.t 2) 0⟩,
   ⟨(some 6), none, .ldn 2 (.t 5)⟩,
   ⟨(some 7), none, .fa (.t 3) 0⟩,
   ⟨(some 8), none, .ldn 2 (.t 7)⟩,
   ⟨(some 9), none, .call 191 [(.t 6), (.t 8)]⟩,
   ⟨(some 10), none, .un .not (.t 9)⟩])
  (.cond (.t 10) (.seq (.reg [⟨(some 4), none, .mv (.v (.bool false))⟩])
  .ret)
  .skip))
  (.seq (.seq (.reg [⟨(some 11), none, .fa (.t 2) 2⟩,
   ⟨(some 12), none, .ldn 2 (.t 11)⟩,
   ⟨(some 13), none, .fa (.t 3) 2⟩,
   ⟨(some 14), none, .ldn 2 (.t 13)⟩,
   ⟨(some 15), none, .call 191 [(.t 12), (.t 14)]⟩,
   ⟨(some 16), none, .un .not (.t 15)⟩])
  (.cond (.t 16) (.seq (.reg [⟨(some 4), none, .mv (.v (.bool false))⟩])
  .ret)
  .skip))
  (.seq (.seq (.reg [⟨(some 17), none, .fa (.t 2) 4⟩,
   ⟨(some 18), none, .ldn 2 (.t 17)⟩,
   ⟨(some 19), none, .fa (.t 3) 4⟩,
   ⟨(some 20), none, .ldn 2 (.t 19)⟩,
   ⟨(some 21), none, .call 191 [(.t 18), (.t 20)]⟩,
   ⟨(some 22), none, .un .not (.t 21)⟩])
  (.cond (.t 22) (.seq (.reg [⟨(some 4), none, .mv (.v (.bool false))⟩])
  .ret)
  .skip))
  (.seq (.seq (.reg [⟨(some 23), none, .fa (.t 2) 6⟩,
   ⟨(some 24), none, .ldn 2 (.t 23)⟩,
   ⟨(some 25), none, .fa (.t 3) 6⟩,
   ⟨(some 26), none, .ldn 2 (.t 25)⟩,
   ⟨(some 27), none, .call 191 [(.t 24), (.t 26)]⟩,
   ⟨(some 28), none, .un .not (.t 27)⟩])
  (.cond (.t 28) (.seq (.reg [⟨(some 4), none, .mv (.v (.bool false))⟩])
  .ret)
  .skip))
  (.seq (.seq (.reg [⟨(some 29), none, .fa (.t 2) 8⟩,
   ⟨(some 30), none, .ld (.t 29)⟩,
   ⟨(some 31), none, .fa (.t 3) 8⟩,
   ⟨(some 32), none, .ld (.t 31)⟩,
   ⟨(some 33), none, .bin .neq (.t 30) (.t 32)⟩])
  (.cond (.t 33) (.seq (.reg [⟨(some 4), none, .mv (.v (.bool false))⟩])
  .ret)
  .skip))
  (.seq (.reg [⟨(some 4), none, .mv (.v (.bool true))⟩])
  .ret))))))),
  [.t 4]⟩
theorem k147 : cFn Try.prog Try.f147 = some c147 := by kernel_rfl
-- laws.toSelS
def c78 : AF := ⟨23,
  (.seq (.reg [⟨(some 2), none, .mv (.v (.slice none 0 0))⟩])
  (.seq (.reg [⟨(some 5), none, .mv (.t 0)⟩,
   ⟨(some 6), none, .len (.t 5)⟩,
   ⟨(some 7), none, .mkSl 155 9 72 [(.int .i64 0), (.int .i64 0), (.int .i64 0), (.int .i64 0), (.int .i64 0), (.int .i64 0), (.int .i64 0), (.int .i64 0), (.int .i64 0)] (.t 6) (.t 6)⟩,
   ⟨(some 3), none, .mv (.t 7)⟩])
  (.seq (.seq (.reg [⟨(some 4), none, .mv (.v (.int .i64 0))⟩])
  (.block 0 (.loop (.seq (.seq (.reg [⟨(some 8), none, .mv (.t 4)⟩,
   ⟨(some 9), none, .mv (.t 0)⟩,
   ⟨(some 10), none, .len (.t 9)⟩,
   ⟨(some 11), none, .bin .lss (.t 8) (.t 10)⟩])
  (.cond (.t 11) .skip
  (.exit 0)))
  (.seq (.block 1 (.reg [⟨(some 14), none, .mv (.t 3)⟩,
   ⟨(some 15), none, .mv (.t 4)⟩,
   ⟨(some 16), none, .mv (.t 0)⟩,
   ⟨(some 17), none, .mv (.t 4)⟩,
   ⟨(some 18), none, .ia 9 (.t 16) (.t 17)⟩,
   ⟨(some 19), none, .ldn 9 (.t 18)⟩,
   ⟨(some 20), none, .call 144 [(.t 19)]⟩,
   ⟨(some 21), none, .ia 9 (.t 14) (.t 15)⟩,
   ⟨none, none, .st 9 (.t 21) (.t 20)⟩]))
  (.reg [⟨(some 12), none, .mv (.t 4)⟩,
   ⟨(some 13), none, .bin .add (.t 12) (.v (.int .i64 1))⟩,
   ⟨(some 4), none, .mv (.t 13)⟩]))))))
  (.seq (.reg [⟨(some 22), none, .mv (.t 3)⟩,
   ⟨(some 2), none, .mv (.t 22)⟩])
  .ret)))),
  [.t 2]⟩
theorem k78 : cFn Try.prog Try.f78 = some c78 := by kernel_rfl
-- laws.eqSelS
def c87 : AF := ⟨27,
  (.seq (.reg [⟨(some 4), none, .mv (.v (.bool false))⟩])
  (.seq (.seq (.reg [⟨(some 6), none, .mv (.t 0)⟩,
   ⟨(some 7), none, .len (.t 6)⟩,
   ⟨(some 8), none, .mv (.t 1)⟩,
   ⟨(some 9), none, .len (.t 8)⟩,
   ⟨(some 10), none, .bin .neq (.t 7) (.t 9)⟩])
  (.cond (.t 10) (.seq (.reg [⟨(some 4), none, .mv (.v (.bool false))⟩])
  .ret)
  .skip))
  (.seq (.seq (.reg [⟨(some 5), none, .mv (.v (.int .i64 0))⟩])
  (.block 0 (.loop (.seq (.seq (.reg [⟨(some 11), none, .mv (.t 5)⟩,
   ⟨(some 12), none, .mv (.t 0)⟩,
   ⟨(some 13), none, .len (.t 12)⟩,
   ⟨(some 14), none, .bin .lss (.t 11) (.t 13)⟩])
  (.cond (.t 14) .skip
  (.exit 0)))
  (.seq (.block 1 (.seq (.drw [⟨(some 17), none, .mv (.t 0)⟩,
   ⟨(some 18), none, .mv (.t 5)⟩,
   ⟨(some 19), none, .ia 9 (.t 17) (.t 18)⟩,
   ⟨(some 20), none, .ldn 9 (.t 19)⟩,
   ⟨(some 21), none, .mv (.t 1)⟩,
   ⟨(some 22), none, .mv (.t 5)⟩,
   ⟨(some 23), none, .ia 9 (.t 21) (.t 22)⟩,
   ⟨(some 24), none, .ldn 9 (.t 23)⟩,
   ⟨(some 25), none, .call 147 [(.t 20), (.t 24)]⟩,
   ⟨(some 26), none, .un .not (.t 25)⟩] [])
  (.cond (.t 26) (.seq (.reg [⟨(some 4), none, .mv (.v (.bool false))⟩])
  .ret)
  .skip)))
  (.reg [⟨(some 15), none, .mv (.t 5)⟩,
   ⟨(some 16), none, .bin .add (.t 15) (.v (.int .i64 1))⟩,
   ⟨(some 5), none, .mv (.t 16)⟩]))))))
  (.seq (.reg [⟨(some 4), none, .mv (.v (.bool true))⟩])
  .ret)))),
  [.t 4]⟩
theorem k87 : cFn Try.prog Try.f87 = some c87 := by kernel_rfl
-- laws.szSelS
def c73 : AF := ⟨12,
  (.seq (.reg [⟨(some 4), none, .mv (.v (.int .i64 0))⟩])
  (.seq (.reg [⟨(some 5), none, .mv (.t 1)⟩,
   ⟨(some 6), none, .mv (.t 0)⟩,
   ⟨(some 7), none, .len (.t 6)⟩,
   ⟨(some 8), none, .bin .sub (.t 5) (.t 7)⟩,
   ⟨(some 1), none, .mv (.t 8)⟩])
  (.seq (.seq (.reg [⟨(some 9), none, .mv (.t 1)⟩,
   ⟨(some 10), none, .bin .lss (.t 9) (.v (.int .i64 0))⟩])
  (.cond (.t 10) (.seq (.reg [⟨(some 4), none, .mv (.v (.int .i64 (-1)))⟩])
  .ret)
  .skip))
  (.seq (.reg [⟨(some 11), none, .mv (.t 1)⟩,
   ⟨(some 4), none, .mv (.t 11)⟩])
  .ret)))),
  [.t 4]⟩
theorem k73 : cFn Try.prog Try.f73 = some c73 := by kernel_rfl
/-! Selectors -/
structure SlR where
  (f1 f2 t1 t2 p1 p2 q1 q2 pr : Int)
def slT (x : SlR) : TV := .agg [.p (.int .i64 x.f1), .p (.int .i64 x.f2), .p (.int .i64 x.t1), .p (.int .i64 x.t2), .p (.int .i64 x.p1), .p (.int .i64 x.p2), .p (.int .i64 x.q1), .p (.int .i64 x.q2), .p (.int .i64 x.pr)]
theorem slT_inj (x y : SlR) (h : slT x = slT y) : x = y := by cases x; cases y; simp [slT] at h; simp [h]
theorem slT_flat : Flat slT 9 := ⟨fun _ => rfl, fun h n x => by simp only [slT, frz_agg, frz_p, List.map_cons, List.map_nil], fun _ _ => rfl⟩
theorem sls_sized (l : List SlR) : sizedT 9 (rowsT slT l) = true := rowsT_sized slT_flat l
theorem sls_frz (h : THeap) (n : Nat) (l : List SlR) : (rowsT slT l).map (frzT h n) = rowsT slT l := rowsT_frz slT_flat h n l
theorem sls_ren (ρ : Nat → Nat) (l : List SlR) : renTs ρ (rowsT slT l) = rowsT slT l := rowsT_ren slT_flat ρ l
theorem sls_own (l : List SlR) : ownTs (rowsT slT l) = true := rowsT_own (fun _ => rfl) l
theorem sls_inj {l l' : List SlR} (h : rowsT slT l = rowsT slT l') : l = l' := rowsT_inj slT_inj h
theorem sls_snoc (l : List SlR) (x : SlR) : rowsT slT l ++ [.agg [.p (.int .i64 x.f1), .p (.int .i64 x.f2), .p (.int .i64 x.t1), .p (.int .i64 x.t2), .p (.int .i64 x.p1), .p (.int .i64 x.p2), .p (.int .i64 x.q1), .p (.int .i64 x.q2), .p (.int .i64 x.pr)]] = rowsT slT (l ++ [x]) := rowsT_snoc l x
attribute [go_sem] sls_sized sls_frz sls_ren sls_own sls_snoc
noncomputable def toSel_S := specP (fun x : SlR => [slT x]) (fun _ => True) (fun x => (slT x, []))
theorem toSel_at (a b c d e f g h i : Int) : toSel_S [.agg [.p (.int .i64 a), .p (.int .i64 b), .p (.int .i64 c), .p (.int .i64 d), .p (.int .i64 e), .p (.int .i64 f), .p (.int .i64 g), .p (.int .i64 h), .p (.int .i64 i)]] = some (.agg [.p (.int .i64 a), .p (.int .i64 b), .p (.int .i64 c), .p (.int .i64 d), .p (.int .i64 e), .p (.int .i64 f), .p (.int .i64 g), .p (.int .i64 h), .p (.int .i64 i)], []) :=
  specP_at (enc := fun x : SlR => [slT x]) (fun x y h => slT_inj x y (by simpa using h)) ⟨a, b, c, d, e, f, g, h, i⟩ trivial
theorem toSel_ok : OkT Try.prog 144 (pureSp toSel_S) := by
  refine okT_fn (OkΓT.cons toRange_ok (OkΓT.nil _)) Try.func144 (by kernel_rfl) k144 (fun x _ => ⟨rfl, rfl⟩) ?_
  rintro x _
  dsimp only [slT]
  (dsimp only [c144]; simp (maxSteps := 1000000) (implicitDefEqProofs := false) (disch := omega) only [go_sem, if_pos, if_neg, tw64, twu8, ↓condKT_pos, ↓condKT_neg, ↓gdKT_pt, ↓gdKT_nt, ↓gdKT_pf, ↓gdKT_nf, toRange_at])
  repeat' first
    | (refine gdKT_dec (fun hg => ?_) (fun hg => ?_) <;> (try (first | simp (maxSteps := 1000000) (implicitDefEqProofs := false) (disch := omega) only [go_sem, if_pos, if_neg, tw64, twu8, ↓condKT_pos, ↓condKT_neg, ↓gdKT_pt, ↓gdKT_nt, ↓gdKT_pf, ↓gdKT_nf, eq_false hg, toRange_at] | simp (maxSteps := 1000000) (implicitDefEqProofs := false) (disch := omega) only [go_sem, if_pos, if_neg, tw64, twu8, ↓condKT_pos, ↓condKT_neg, ↓gdKT_pt, ↓gdKT_nt, ↓gdKT_pf, ↓gdKT_nf, eq_true hg, toRange_at])))
    | (refine condKT_dec (fun hg => ?_) (fun hg => ?_) <;> (try (first | simp (maxSteps := 1000000) (implicitDefEqProofs := false) (disch := omega) only [go_sem, if_pos, if_neg, tw64, twu8, ↓condKT_pos, ↓condKT_neg, ↓gdKT_pt, ↓gdKT_nt, ↓gdKT_pf, ↓gdKT_nf, eq_false hg, toRange_at] | simp (maxSteps := 1000000) (implicitDefEqProofs := false) (disch := omega) only [go_sem, if_pos, if_neg, tw64, twu8, ↓condKT_pos, ↓condKT_neg, ↓gdKT_pt, ↓gdKT_nt, ↓gdKT_pf, ↓gdKT_nf, eq_true hg, toRange_at])))
    | (refine gdKT_split (fun hg => ?_) (fun hg => ?_) <;> (try simp (maxSteps := 1000000) (implicitDefEqProofs := false) (disch := omega) only [go_sem, if_pos, if_neg, tw64, twu8, ↓condKT_pos, ↓condKT_neg, ↓gdKT_pt, ↓gdKT_nt, ↓gdKT_pf, ↓gdKT_nf, hg, toRange_at]))
    | (refine condKT_split (fun hg => ?_) (fun hg => ?_) <;> (try simp (maxSteps := 1000000) (implicitDefEqProofs := false) (disch := omega) only [go_sem, if_pos, if_neg, tw64, twu8, ↓condKT_pos, ↓condKT_neg, ↓gdKT_pt, ↓gdKT_nt, ↓gdKT_pf, ↓gdKT_nf, hg, toRange_at]))
    | (refine endT_p (.inr rfl) (by simp (maxSteps := 1000000) (implicitDefEqProofs := false) (disch := omega) only [go_sem, if_pos, if_neg, tw64, twu8, ↓condKT_pos, ↓condKT_neg, ↓gdKT_pt, ↓gdKT_nt, ↓gdKT_pf, ↓gdKT_nf, toRange_at]; rfl) ?_; (first | exact vb_true (by omega) | exact vb_false (by omega) | exact vb_dec (by omega) | exact vi_eq (by omega) | rfl | (refine vi_eq ?_; simp_all; done) | (refine vi_eq ?_; simp_all; omega) | (refine vi_eq ?_; simp_all; intros; omega)))
    | exact endT_v (.inr rfl) (by simp (maxSteps := 1000000) (implicitDefEqProofs := false) (disch := omega) only [go_sem, if_pos, if_neg, tw64, twu8, ↓condKT_pos, ↓condKT_neg, ↓gdKT_pt, ↓gdKT_nt, ↓gdKT_pf, ↓gdKT_nf, toRange_at]; try rfl) (fun _ => rfl)
noncomputable def eqSel_S := specP (fun x : SlR => [slT x, slT x]) (fun _ => True) (fun x => (.p (.bool true), []))
theorem eqSel_at (a b c d e f g h i : Int) : eqSel_S [.agg [.p (.int .i64 a), .p (.int .i64 b), .p (.int .i64 c), .p (.int .i64 d), .p (.int .i64 e), .p (.int .i64 f), .p (.int .i64 g), .p (.int .i64 h), .p (.int .i64 i)], .agg [.p (.int .i64 a), .p (.int .i64 b), .p (.int .i64 c), .p (.int .i64 d), .p (.int .i64 e), .p (.int .i64 f), .p (.int .i64 g), .p (.int .i64 h), .p (.int .i64 i)]] = some (.p (.bool true), []) :=
  specP_at (enc := fun x : SlR => [slT x, slT x]) (fun x y h => slT_inj x y (by simp at h; exact h)) ⟨a, b, c, d, e, f, g, h, i⟩ trivial
theorem eqSel_ok : OkT Try.prog 147 (pureSp eqSel_S) := by
  refine okT_fn (OkΓT.cons eqRange_ok (OkΓT.nil _)) Try.func147 (by kernel_rfl) k147 (fun x _ => ⟨rfl, rfl⟩) ?_
  rintro x _
  dsimp only [slT]
  (dsimp only [c147]; simp (maxSteps := 1000000) (implicitDefEqProofs := false) (disch := omega) only [go_sem, if_pos, if_neg, tw64, twu8, ↓condKT_pos, ↓condKT_neg, ↓gdKT_pt, ↓gdKT_nt, ↓gdKT_pf, ↓gdKT_nf, eqRange_at])
  repeat' first
    | (refine gdKT_dec (fun hg => ?_) (fun hg => ?_) <;> (try (first | simp (maxSteps := 1000000) (implicitDefEqProofs := false) (disch := omega) only [go_sem, if_pos, if_neg, tw64, twu8, ↓condKT_pos, ↓condKT_neg, ↓gdKT_pt, ↓gdKT_nt, ↓gdKT_pf, ↓gdKT_nf, eq_false hg, eqRange_at] | simp (maxSteps := 1000000) (implicitDefEqProofs := false) (disch := omega) only [go_sem, if_pos, if_neg, tw64, twu8, ↓condKT_pos, ↓condKT_neg, ↓gdKT_pt, ↓gdKT_nt, ↓gdKT_pf, ↓gdKT_nf, eq_true hg, eqRange_at])))
    | (refine condKT_dec (fun hg => ?_) (fun hg => ?_) <;> (try (first | simp (maxSteps := 1000000) (implicitDefEqProofs := false) (disch := omega) only [go_sem, if_pos, if_neg, tw64, twu8, ↓condKT_pos, ↓condKT_neg, ↓gdKT_pt, ↓gdKT_nt, ↓gdKT_pf, ↓gdKT_nf, eq_false hg, eqRange_at] | simp (maxSteps := 1000000) (implicitDefEqProofs := false) (disch := omega) only [go_sem, if_pos, if_neg, tw64, twu8, ↓condKT_pos, ↓condKT_neg, ↓gdKT_pt, ↓gdKT_nt, ↓gdKT_pf, ↓gdKT_nf, eq_true hg, eqRange_at])))
    | (refine gdKT_split (fun hg => ?_) (fun hg => ?_) <;> (try simp (maxSteps := 1000000) (implicitDefEqProofs := false) (disch := omega) only [go_sem, if_pos, if_neg, tw64, twu8, ↓condKT_pos, ↓condKT_neg, ↓gdKT_pt, ↓gdKT_nt, ↓gdKT_pf, ↓gdKT_nf, hg, eqRange_at]))
    | (refine condKT_split (fun hg => ?_) (fun hg => ?_) <;> (try simp (maxSteps := 1000000) (implicitDefEqProofs := false) (disch := omega) only [go_sem, if_pos, if_neg, tw64, twu8, ↓condKT_pos, ↓condKT_neg, ↓gdKT_pt, ↓gdKT_nt, ↓gdKT_pf, ↓gdKT_nf, hg, eqRange_at]))
    | (refine endT_p (.inr rfl) (by simp (maxSteps := 1000000) (implicitDefEqProofs := false) (disch := omega) only [go_sem, if_pos, if_neg, tw64, twu8, ↓condKT_pos, ↓condKT_neg, ↓gdKT_pt, ↓gdKT_nt, ↓gdKT_pf, ↓gdKT_nf, eqRange_at]; rfl) ?_; (first | exact vb_true (by omega) | exact vb_false (by omega) | exact vb_dec (by omega) | exact vi_eq (by omega) | rfl | (refine vi_eq ?_; simp_all; done) | (refine vi_eq ?_; simp_all; omega) | (refine vi_eq ?_; simp_all; intros; omega)))
    | exact endT_v (.inr rfl) (by simp (maxSteps := 1000000) (implicitDefEqProofs := false) (disch := omega) only [go_sem, if_pos, if_neg, tw64, twu8, ↓condKT_pos, ↓condKT_neg, ↓gdKT_pt, ↓gdKT_nt, ↓gdKT_pf, ↓gdKT_nf, eqRange_at]; try rfl) (fun _ => rfl)
/-! Rows of selectors -/
noncomputable def szSelS_S := specP (fun x : List SlR × Int => [.s (rowsT slT x.1), .p (.int .i64 x.2)]) (fun x => 0 ≤ x.2 ∧ x.2 ≤ 1048576 ∧ x.1.length ≤ 140737488355328) (fun x => (.p (.int .i64 (if x.1.length ≤ x.2 then x.2 - x.1.length else -1)), []))
theorem szSelS_at (l : List SlR) (n : Int) (h : 0 ≤ n ∧ n ≤ 1048576 ∧ l.length ≤ 140737488355328) : szSelS_S [.s (rowsT slT l), .p (.int .i64 n)] = some (.p (.int .i64 (if l.length ≤ n then n - l.length else -1)), []) :=
  specP_at (enc := fun x : List SlR × Int => [.s (rowsT slT x.1), .p (.int .i64 x.2)]) (by rintro ⟨a, b⟩ ⟨a', b'⟩ h; simp at h; simp [sls_inj h.1, h.2]) (l, n) h
theorem szSelS_ok : OkT Try.prog 73 (pureSp szSelS_S) := by
  refine okT_fn (OkΓT.nil _) Try.func73 (by kernel_rfl) k73 (fun x _ => ⟨rfl, rfl⟩) ?_
  rintro ⟨l, n⟩ ⟨h1, h2, h3⟩
  dsimp only at *
  (dsimp only [c73]; simp (maxSteps := 1000000) (implicitDefEqProofs := false) (disch := omega) only [go_sem, if_pos, if_neg, tw64, twu8, ↓condKT_pos, ↓condKT_neg, ↓gdKT_pt, ↓gdKT_nt, ↓gdKT_pf, ↓gdKT_nf])
  repeat' first
    | (refine gdKT_dec (fun hg => ?_) (fun hg => ?_) <;> (try (first | simp (maxSteps := 1000000) (implicitDefEqProofs := false) (disch := omega) only [go_sem, if_pos, if_neg, tw64, twu8, ↓condKT_pos, ↓condKT_neg, ↓gdKT_pt, ↓gdKT_nt, ↓gdKT_pf, ↓gdKT_nf, eq_false hg] | simp (maxSteps := 1000000) (implicitDefEqProofs := false) (disch := omega) only [go_sem, if_pos, if_neg, tw64, twu8, ↓condKT_pos, ↓condKT_neg, ↓gdKT_pt, ↓gdKT_nt, ↓gdKT_pf, ↓gdKT_nf, eq_true hg])))
    | (refine condKT_dec (fun hg => ?_) (fun hg => ?_) <;> (try (first | simp (maxSteps := 1000000) (implicitDefEqProofs := false) (disch := omega) only [go_sem, if_pos, if_neg, tw64, twu8, ↓condKT_pos, ↓condKT_neg, ↓gdKT_pt, ↓gdKT_nt, ↓gdKT_pf, ↓gdKT_nf, eq_false hg] | simp (maxSteps := 1000000) (implicitDefEqProofs := false) (disch := omega) only [go_sem, if_pos, if_neg, tw64, twu8, ↓condKT_pos, ↓condKT_neg, ↓gdKT_pt, ↓gdKT_nt, ↓gdKT_pf, ↓gdKT_nf, eq_true hg])))
    | (refine gdKT_split (fun hg => ?_) (fun hg => ?_) <;> (try simp (maxSteps := 1000000) (implicitDefEqProofs := false) (disch := omega) only [go_sem, if_pos, if_neg, tw64, twu8, ↓condKT_pos, ↓condKT_neg, ↓gdKT_pt, ↓gdKT_nt, ↓gdKT_pf, ↓gdKT_nf, hg]))
    | (refine condKT_split (fun hg => ?_) (fun hg => ?_) <;> (try simp (maxSteps := 1000000) (implicitDefEqProofs := false) (disch := omega) only [go_sem, if_pos, if_neg, tw64, twu8, ↓condKT_pos, ↓condKT_neg, ↓gdKT_pt, ↓gdKT_nt, ↓gdKT_pf, ↓gdKT_nf, hg]))
    | (refine endT_p (.inr rfl) (by simp (maxSteps := 1000000) (implicitDefEqProofs := false) (disch := omega) only [go_sem, if_pos, if_neg, tw64, twu8, ↓condKT_pos, ↓condKT_neg, ↓gdKT_pt, ↓gdKT_nt, ↓gdKT_pf, ↓gdKT_nf]; rfl) ?_; (first | exact vb_true (by omega) | exact vb_false (by omega) | exact vb_dec (by omega) | exact vi_eq (by omega) | rfl | (refine vi_eq ?_; simp_all; done) | (refine vi_eq ?_; simp_all; omega) | (refine vi_eq ?_; simp_all; intros; omega)))
    | exact endT_v (.inr rfl) (by simp (maxSteps := 1000000) (implicitDefEqProofs := false) (disch := omega) only [go_sem, if_pos, if_neg, tw64, twu8, ↓condKT_pos, ↓condKT_neg, ↓gdKT_pt, ↓gdKT_nt, ↓gdKT_pf, ↓gdKT_nf]; try rfl) (fun _ => rfl)
def slZ : TV := slT ⟨0, 0, 0, 0, 0, 0, 0, 0, 0⟩
theorem slZ_el : el [.p (.int .i64 0), .p (.int .i64 0), .p (.int .i64 0), .p (.int .i64 0), .p (.int .i64 0), .p (.int .i64 0), .p (.int .i64 0), .p (.int .i64 0), .p (.int .i64 0)] = slZ := rfl
theorem slZ_cells : cellsT slZ = [.p (.int .i64 0), .p (.int .i64 0), .p (.int .i64 0), .p (.int .i64 0), .p (.int .i64 0), .p (.int .i64 0), .p (.int .i64 0), .p (.int .i64 0), .p (.int .i64 0)] := rfl
theorem slmix_ren (ρ : Nat → Nat) (l : List SlR) (i : Nat) : renTs ρ (mixT slT slZ l i) = mixT slT slZ l i := mix_ren slT_flat (fun _ => rfl) ρ l i
theorem slmix_zero (l : List SlR) : List.replicate l.length slZ = mixT slT slZ l 0 := mixT_zero slZ l
theorem slmix_set {l : List SlR} {i : Nat} {x : SlR} (h : l[i]? = some x) : (mixT slT slZ l i).set i (.agg [.p (.int .i64 x.f1), .p (.int .i64 x.f2), .p (.int .i64 x.t1), .p (.int .i64 x.t2), .p (.int .i64 x.p1), .p (.int .i64 x.p2), .p (.int .i64 x.q1), .p (.int .i64 x.q2), .p (.int .i64 x.pr)]) = mixT slT slZ l (i + 1) := mixT_set slZ h
noncomputable def toSelS_S := specP (fun x : List SlR => [.s (rowsT slT x)]) (fun x => x.length ≤ 1048576) (fun x => (.os 0 0 x.length, [.cells 155 9 (rowsT slT x)]))
theorem toSelS_at (l : List SlR) (h : l.length ≤ 1048576) : toSelS_S [.s (rowsT slT l)] = some (.os 0 0 l.length, [.cells 155 9 (rowsT slT l)]) :=
  specP_at (enc := fun x : List SlR => [.s (rowsT slT x)]) (fun x y h => by simp at h; exact sls_inj h) l h
theorem toSelS_ok : OkT Try.prog 78 (pureSp toSelS_S) := by
  refine okT_fn (OkΓT.cons toSel_ok (OkΓT.nil _)) Try.func78 (by kernel_rfl) k78 (fun x _ => ⟨rfl, by simp only [go_sem]⟩) ?_
  rintro l hl
  dsimp only at hl ⊢
  (dsimp only [c78]; simp (maxSteps := 1000000) (implicitDefEqProofs := false) (disch := omega) only [go_sem, if_pos, if_neg, tw64, twu8, ↓condKT_pos, ↓condKT_neg, ↓gdKT_pt, ↓gdKT_nt, ↓gdKT_pf, ↓gdKT_nf, slZ_el, slmix_zero])
  refine awpT_loop (α := Nat) (fun i => ⟨slots [(0, .s (rowsT slT l)), (3, .os 0 0 l.length), (4, .p (.int .i64 i))], [.cells 155 9 (mixT slT slZ l i)]⟩)
    (fun i => i ≤ l.length) (fun i => l.length - i) 0 (by omega) (le_of [0] (by simp (maxSteps := 1000000) (implicitDefEqProofs := false) (disch := omega) only [go_sem, if_pos, if_neg, tw64, twu8, ↓condKT_pos, ↓condKT_neg, ↓gdKT_pt, ↓gdKT_nt, ↓gdKT_pf, ↓gdKT_nf, slmix_ren]) (by simp (maxSteps := 1000000) (implicitDefEqProofs := false) (disch := omega) only [go_sem, if_pos, if_neg, tw64, twu8, ↓condKT_pos, ↓condKT_neg, ↓gdKT_pt, ↓gdKT_nt, ↓gdKT_pf, ↓gdKT_nf, slmix_ren]) (by decide) (by simp)) ?_
  intro i hi
  simp (maxSteps := 1000000) (implicitDefEqProofs := false) (disch := omega) only [go_sem, if_pos, if_neg, tw64, twu8, ↓condKT_pos, ↓condKT_neg, ↓gdKT_pt, ↓gdKT_nt, ↓gdKT_pf, ↓gdKT_nf]
  refine condKT_dec (fun hlt => ?_) (fun hge => ?_)
  · obtain ⟨x, hx⟩ := get_ex (l := l) (i := i) (by omega)
    simp (maxSteps := 1000000) (implicitDefEqProofs := false) (disch := omega) only [go_sem, if_pos, if_neg, tw64, twu8, ↓condKT_pos, ↓condKT_neg, ↓gdKT_pt, ↓gdKT_nt, ↓gdKT_pf, ↓gdKT_nf, hx, slT, slZ_cells, mixT_get, toSel_at, slmix_set hx]
    (refine loopKT_next (i + 1) (by omega) (by omega) ?_; refine (le_of [0] (by simp (maxSteps := 1000000) (implicitDefEqProofs := false) (disch := omega) only [go_sem, if_pos, if_neg, tw64, twu8, ↓condKT_pos, ↓condKT_neg, ↓gdKT_pt, ↓gdKT_nt, ↓gdKT_pf, ↓gdKT_nf, slmix_ren]) (by simp (maxSteps := 1000000) (implicitDefEqProofs := false) (disch := omega) only [go_sem, if_pos, if_neg, tw64, twu8, ↓condKT_pos, ↓condKT_neg, ↓gdKT_pt, ↓gdKT_nt, ↓gdKT_pf, ↓gdKT_nf, slmix_ren]) (by decide) (by simp)))
  · simp (maxSteps := 1000000) (implicitDefEqProofs := false) (disch := omega) only [go_sem, if_pos, if_neg, tw64, twu8, ↓condKT_pos, ↓condKT_neg, ↓gdKT_pt, ↓gdKT_nt, ↓gdKT_pf, ↓gdKT_nf, mixT_full (f := slT) slZ l (show l.length ≤ i by omega)]
    refine joinK_here ?_
    simp (maxSteps := 1000000) (implicitDefEqProofs := false) (disch := omega) only [go_sem, if_pos, if_neg, tw64, twu8, ↓condKT_pos, ↓condKT_neg, ↓gdKT_pt, ↓gdKT_nt, ↓gdKT_pf, ↓gdKT_nf]
    exact endT_of [0] (.inr rfl) (by simp (maxSteps := 1000000) (implicitDefEqProofs := false) (disch := omega) only [go_sem, if_pos, if_neg, tw64, twu8, ↓condKT_pos, ↓condKT_neg, ↓gdKT_pt, ↓gdKT_nt, ↓gdKT_pf, ↓gdKT_nf]; rfl) (by simp (maxSteps := 1000000) (implicitDefEqProofs := false) (disch := omega) only [go_sem, if_pos, if_neg, tw64, twu8, ↓condKT_pos, ↓condKT_neg, ↓gdKT_pt, ↓gdKT_nt, ↓gdKT_pf, ↓gdKT_nf]) (by simp (maxSteps := 1000000) (implicitDefEqProofs := false) (disch := omega) only [go_sem, if_pos, if_neg, tw64, twu8, ↓condKT_pos, ↓condKT_neg, ↓gdKT_pt, ↓gdKT_nt, ↓gdKT_pf, ↓gdKT_nf]) (by decide) (by simp)
noncomputable def eqSelS_S := specP (fun x : List SlR => [.s (rowsT slT x), .s (rowsT slT x)]) (fun x => x.length ≤ 1048576) (fun x => (.p (.bool true), []))
theorem eqSelS_at (l : List SlR) (h : l.length ≤ 1048576) : eqSelS_S [.s (rowsT slT l), .s (rowsT slT l)] = some (.p (.bool true), []) :=
  specP_at (enc := fun x : List SlR => [.s (rowsT slT x), .s (rowsT slT x)]) (fun x y h => by simp at h; exact sls_inj h) l h
theorem eqSelS_ok : OkT Try.prog 87 (pureSp eqSelS_S) := by
  refine okT_fn (OkΓT.cons eqSel_ok (OkΓT.nil _)) Try.func87 (by kernel_rfl) k87 (fun x _ => ⟨rfl, rfl⟩) ?_
  rintro l hl
  dsimp only at hl ⊢
  (dsimp only [c87]; simp (maxSteps := 1000000) (implicitDefEqProofs := false) (disch := omega) only [go_sem, if_pos, if_neg, tw64, twu8, ↓condKT_pos, ↓condKT_neg, ↓gdKT_pt, ↓gdKT_nt, ↓gdKT_pf, ↓gdKT_nf])
  refine awpT_loop (α := Nat) (fun i => ⟨slots [(0, .s (rowsT slT l)), (1, .s (rowsT slT l)), (5, .p (.int .i64 i))], []⟩) (fun i => i ≤ l.length) (fun i => l.length - i) 0 (by omega) (le_of [] (by simp (maxSteps := 1000000) (implicitDefEqProofs := false) (disch := omega) only [go_sem, if_pos, if_neg, tw64, twu8, ↓condKT_pos, ↓condKT_neg, ↓gdKT_pt, ↓gdKT_nt, ↓gdKT_pf, ↓gdKT_nf]) (by simp (maxSteps := 1000000) (implicitDefEqProofs := false) (disch := omega) only [go_sem, if_pos, if_neg, tw64, twu8, ↓condKT_pos, ↓condKT_neg, ↓gdKT_pt, ↓gdKT_nt, ↓gdKT_pf, ↓gdKT_nf]) (by decide) (by simp)) ?_
  intro i hi
  simp (maxSteps := 1000000) (implicitDefEqProofs := false) (disch := omega) only [go_sem, if_pos, if_neg, tw64, twu8, ↓condKT_pos, ↓condKT_neg, ↓gdKT_pt, ↓gdKT_nt, ↓gdKT_pf, ↓gdKT_nf]
  refine condKT_dec (fun hlt => ?_) (fun hge => ?_)
  · obtain ⟨x, hx⟩ := get_ex (l := l) (i := i) (by omega)
    simp (maxSteps := 1000000) (implicitDefEqProofs := false) (disch := omega) only [go_sem, if_pos, if_neg, tw64, twu8, ↓condKT_pos, ↓condKT_neg, ↓gdKT_pt, ↓gdKT_nt, ↓gdKT_pf, ↓gdKT_nf, hx, slT, eqSel_at]
    (refine loopKT_next (i + 1) (by omega) (by omega) ?_; refine (le_of [] (by simp (maxSteps := 1000000) (implicitDefEqProofs := false) (disch := omega) only [go_sem, if_pos, if_neg, tw64, twu8, ↓condKT_pos, ↓condKT_neg, ↓gdKT_pt, ↓gdKT_nt, ↓gdKT_pf, ↓gdKT_nf]) (by simp (maxSteps := 1000000) (implicitDefEqProofs := false) (disch := omega) only [go_sem, if_pos, if_neg, tw64, twu8, ↓condKT_pos, ↓condKT_neg, ↓gdKT_pt, ↓gdKT_nt, ↓gdKT_pf, ↓gdKT_nf]) (by decide) (by simp)))
  · simp (maxSteps := 1000000) (implicitDefEqProofs := false) (disch := omega) only [go_sem, if_pos, if_neg, tw64, twu8, ↓condKT_pos, ↓condKT_neg, ↓gdKT_pt, ↓gdKT_nt, ↓gdKT_pf, ↓gdKT_nf]
    refine joinK_here ?_
    simp (maxSteps := 1000000) (implicitDefEqProofs := false) (disch := omega) only [go_sem, if_pos, if_neg, tw64, twu8, ↓condKT_pos, ↓condKT_neg, ↓gdKT_pt, ↓gdKT_nt, ↓gdKT_pf, ↓gdKT_nf]
    repeat' first
      | (refine gdKT_dec (fun hg => ?_) (fun hg => ?_) <;> (try (first | simp (maxSteps := 1000000) (implicitDefEqProofs := false) (disch := omega) only [go_sem, if_pos, if_neg, tw64, twu8, ↓condKT_pos, ↓condKT_neg, ↓gdKT_pt, ↓gdKT_nt, ↓gdKT_pf, ↓gdKT_nf, eq_false hg] | simp (maxSteps := 1000000) (implicitDefEqProofs := false) (disch := omega) only [go_sem, if_pos, if_neg, tw64, twu8, ↓condKT_pos, ↓condKT_neg, ↓gdKT_pt, ↓gdKT_nt, ↓gdKT_pf, ↓gdKT_nf, eq_true hg])))
      | (refine condKT_dec (fun hg => ?_) (fun hg => ?_) <;> (try (first | simp (maxSteps := 1000000) (implicitDefEqProofs := false) (disch := omega) only [go_sem, if_pos, if_neg, tw64, twu8, ↓condKT_pos, ↓condKT_neg, ↓gdKT_pt, ↓gdKT_nt, ↓gdKT_pf, ↓gdKT_nf, eq_false hg] | simp (maxSteps := 1000000) (implicitDefEqProofs := false) (disch := omega) only [go_sem, if_pos, if_neg, tw64, twu8, ↓condKT_pos, ↓condKT_neg, ↓gdKT_pt, ↓gdKT_nt, ↓gdKT_pf, ↓gdKT_nf, eq_true hg])))
      | (refine gdKT_split (fun hg => ?_) (fun hg => ?_) <;> (try simp (maxSteps := 1000000) (implicitDefEqProofs := false) (disch := omega) only [go_sem, if_pos, if_neg, tw64, twu8, ↓condKT_pos, ↓condKT_neg, ↓gdKT_pt, ↓gdKT_nt, ↓gdKT_pf, ↓gdKT_nf, hg]))
      | (refine condKT_split (fun hg => ?_) (fun hg => ?_) <;> (try simp (maxSteps := 1000000) (implicitDefEqProofs := false) (disch := omega) only [go_sem, if_pos, if_neg, tw64, twu8, ↓condKT_pos, ↓condKT_neg, ↓gdKT_pt, ↓gdKT_nt, ↓gdKT_pf, ↓gdKT_nf, hg]))
      | (refine endT_p (.inr rfl) (by simp (maxSteps := 1000000) (implicitDefEqProofs := false) (disch := omega) only [go_sem, if_pos, if_neg, tw64, twu8, ↓condKT_pos, ↓condKT_neg, ↓gdKT_pt, ↓gdKT_nt, ↓gdKT_pf, ↓gdKT_nf]; rfl) ?_; (first | exact vb_true (by omega) | exact vb_false (by omega) | exact vb_dec (by omega) | exact vi_eq (by omega) | rfl | (refine vi_eq ?_; simp_all; done) | (refine vi_eq ?_; simp_all; omega) | (refine vi_eq ?_; simp_all; intros; omega)))
      | exact endT_v (.inr rfl) (by simp (maxSteps := 1000000) (implicitDefEqProofs := false) (disch := omega) only [go_sem, if_pos, if_neg, tw64, twu8, ↓condKT_pos, ↓condKT_neg, ↓gdKT_pt, ↓gdKT_nt, ↓gdKT_pf, ↓gdKT_nf]; try rfl) (fun _ => rfl)
end Go.Proofs.Ytngebdcbcliobaa
