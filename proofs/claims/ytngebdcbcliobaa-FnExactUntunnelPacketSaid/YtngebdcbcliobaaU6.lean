import Derived.Test.YtngebdcbcliobaaU5
set_option linter.unusedSimpArgs false
set_option linter.unusedVariables false
set_option maxRecDepth 100000
set_option maxHeartbeats 4000000
namespace Go.Proofs.Ytngebdcbcliobaa
open Go Go.AH
attribute [local irreducible] awpT ropsT qopsT stepT condKT gdKT EndT joinK loopKT seqKT blkKT kont kontR
theorem hd_Packet_at {c6 : Cell} (hc6 : FitC sh_ByteS c6) {k : Int} (hk : 0 ≤ k) (hz : k + (wtC c6 : Int) ≤ 1099511627776) (a0 : Int) (a1 : Int) (a2 : Int) (a3 : Int) (a4 : Int) (a5 : Int) : hdR_S sh_Packet [.agg [.p (.int .i64 a0), .p (.int .i64 a1), .p (.int .i64 a2), .p (.int .i64 a3), .p (.int .i64 a4), .p (.int .i64 a5), fzC (mkC c6 (k))], .p (.int .i64 k)] = some (.p (.int .i64 (k + (wtC c6 : Int))), []) := by
  have := hdR_at (k := k) (sh_Packet_mkFit hc6 a0 a1 a2 a3 a4 a5) hk (by simp only [wtCs, wtC_v]; omega)
  simp only [mkCs, mkC_v, wtC_v, nat0T, Int.add_zero, fzCs, fzC, wtCs, Nat.zero_add, Nat.add_zero] at this
  exact this
-- laws.heldPacket
def c137 : AF := ⟨12,
  (.seq (.reg [⟨(some 2), none, .box 68 (.t 0)⟩,
   ⟨(some 4), none, .mv (.v (.int .i64 0))⟩])
  (.seq (.reg [⟨(some 5), none, .fa (.t 2) 6⟩,
   ⟨(some 6), none, .ld (.t 5)⟩,
   ⟨(some 7), none, .mv (.t 1)⟩,
   ⟨(some 8), none, .call 106 [(.t 6), (.t 7)]⟩,
   ⟨(some 1), none, .mv (.t 8)⟩])
  (.seq (.seq (.reg [⟨(some 9), none, .mv (.t 1)⟩,
   ⟨(some 10), none, .bin .lss (.t 9) (.v (.int .i64 0))⟩])
  (.cond (.t 10) (.seq (.reg [⟨(some 4), none, .mv (.v (.int .i64 (-1)))⟩])
  .ret)
  .skip))
  (.seq (.reg [⟨(some 11), none, .mv (.t 1)⟩,
   ⟨(some 4), none, .mv (.t 11)⟩])
  .ret)))),
  [.t 4]⟩
theorem k137 : cFn Try.prog Try.f137 = some c137 := by kernel_rfl
theorem heldPacket_ok : OkT Try.prog 137 (pureSp (hdR_S sh_Packet)) := by
  refine okT_hdR (OkΓT.cons heldByteS_ok (OkΓT.nil _)) Try.func137 (by kernel_rfl) k137 ?_
  intro c k hc h1 hz
  obtain ⟨a0, a1, a2, a3, a4, a5, c6, rfl, hc6⟩ := sh_Packet_Fit hc
  simp only [wtCs, wtC_v, Nat.zero_add, Nat.add_zero] at hz ⊢
  simp only [mkCs, mkC_v, wtC_v, nat0T, Int.add_zero, fzCs, fzC]
  (dsimp only [c137]; simp (maxSteps := 8000000) (implicitDefEqProofs := false) (disch := omega) only [↓reduceIte, go_sem, if_pos, if_neg, hdC_at hc6 (show 0 ≤ k by omega) (by omega)])
  repeat' first
    | (refine gdKT_dec (fun hg => ?_) (fun hg => ?_) <;> (try (first | simp (maxSteps := 8000000) (implicitDefEqProofs := false) (disch := omega) only [↓reduceIte, go_sem, if_pos, if_neg, eq_false hg, hdC_at hc6 (show 0 ≤ k by omega) (by omega)] | simp (maxSteps := 8000000) (implicitDefEqProofs := false) (disch := omega) only [↓reduceIte, go_sem, if_pos, if_neg, eq_true hg, hdC_at hc6 (show 0 ≤ k by omega) (by omega)])))
    | (refine condKT_dec (fun hg => ?_) (fun hg => ?_) <;> (try (first | simp (maxSteps := 8000000) (implicitDefEqProofs := false) (disch := omega) only [↓reduceIte, go_sem, if_pos, if_neg, eq_false hg, hdC_at hc6 (show 0 ≤ k by omega) (by omega)] | simp (maxSteps := 8000000) (implicitDefEqProofs := false) (disch := omega) only [↓reduceIte, go_sem, if_pos, if_neg, eq_true hg, hdC_at hc6 (show 0 ≤ k by omega) (by omega)])))
    | (refine gdKT_split (fun hg => ?_) (fun hg => ?_) <;> (try simp (maxSteps := 8000000) (implicitDefEqProofs := false) (disch := omega) only [↓reduceIte, go_sem, if_pos, if_neg, hg, hdC_at hc6 (show 0 ≤ k by omega) (by omega)]))
    | (refine condKT_split (fun hg => ?_) (fun hg => ?_) <;> (try simp (maxSteps := 8000000) (implicitDefEqProofs := false) (disch := omega) only [↓reduceIte, go_sem, if_pos, if_neg, hg, hdC_at hc6 (show 0 ≤ k by omega) (by omega)]))
    | (refine endT_p (.inr rfl) (by simp (maxSteps := 8000000) (implicitDefEqProofs := false) (disch := omega) only [↓reduceIte, go_sem, if_pos, if_neg, hdC_at hc6 (show 0 ≤ k by omega) (by omega)]; rfl) ?_; (first | exact vb_true (by omega) | exact vb_false (by omega) | exact vb_dec (by omega) | exact vi_eq (by omega) | rfl | (refine vi_eq ?_; simp_all; done) | (refine vi_eq ?_; simp_all; omega) | (refine vi_eq ?_; simp_all; intros; omega)))
    | exact endT_v (.inr rfl) (by simp (maxSteps := 8000000) (implicitDefEqProofs := false) (disch := omega) only [↓reduceIte, go_sem, if_pos, if_neg, hdC_at hc6 (show 0 ≤ k by omega) (by omega)]; try rfl) (fun _ => rfl)
/-! Window -/
def sh_Window : List Shp := [.i .i64, .i .i64]
theorem sh_Window_Has {cs : List Cell} (h : HasR sh_Window cs) : ∃ (a0 : Int) (a1 : Int), cs = [.v (.int .i64 a0), .v (.int .i64 a1)] := by
  obtain ⟨_, _, rfl, ⟨a0, rfl, _⟩, _, _, rfl, ⟨a1, rfl, _⟩, h⟩ := h
  simp only [HasR] at h; subst h
  exact ⟨a0, a1, rfl⟩
theorem sh_Window_mkHas  (a0 : Int) (a1 : Int) : HasR sh_Window [.v (.int .i64 a0), .v (.int .i64 a1)] := by
  exact ⟨_, _, rfl, ⟨_, rfl, fun h => by cases h⟩, _, _, rfl, ⟨_, rfl, fun h => by cases h⟩, rfl⟩
theorem sh_Window_Fit {cs : List Cell} (h : FitR sh_Window cs) : ∃ (a0 : Int) (a1 : Int), cs = [.v (.int .i64 a0), .v (.int .i64 a1)] := by
  obtain ⟨_, _, rfl, ⟨a0, rfl⟩, _, _, rfl, ⟨a1, rfl⟩, h⟩ := h
  simp only [FitR] at h; subst h
  exact ⟨a0, a1, rfl⟩
theorem sh_Window_mkFit  (a0 : Int) (a1 : Int) : FitR sh_Window [.v (.int .i64 a0), .v (.int .i64 a1)] := by
  exact ⟨_, _, rfl, ⟨_, rfl⟩, _, _, rfl, ⟨_, rfl⟩, rfl⟩
theorem flat_sz_Window {cs : List Cell} (h : HasR sh_Window cs) : szCs cs = 0 := by
  obtain ⟨a0, a1, rfl⟩ := sh_Window_Has h
  rfl
theorem to_Window_at  (a0 : Int) (a1 : Int) : toR_S sh_Window [.agg [.p (.int .i64 a0), .p (.int .i64 a1)]] = some (.agg [.p (.int .i64 a0), .p (.int .i64 a1)], []) := by
  have := toR_at (sh_Window_mkHas  a0 a1) (by simp only [szCs, szC]; omega)
  simpa only [fzCs, fzC, tvCs, tvC_v, tvC_nl, tvC_sl, bkCs, bkC, nbC, nbCs, Nat.add_zero, List.append_nil, List.nil_append, Nat.zero_add] using this
-- laws.toWindow
def c65 : AF := ⟨11,
  (.seq (.reg [⟨(some 1), none, .box 23 (.t 0)⟩,
   ⟨(some 2), none, .alloc 29 [(.int .i64 0), (.int .i64 0)]⟩])
  (.seq (.reg [⟨(some 3), none, .alloc 29 [(.int .i64 0), (.int .i64 0)]⟩])
  (.seq (.reg [⟨(some 4), none, .fa (.t 1) 0⟩,
   ⟨(some 5), none, .ld (.t 4)⟩,
   ⟨(some 6), none, .fa (.t 3) 0⟩,
   ⟨none, none, .st 1 (.t 6) (.t 5)⟩])
  (.seq (.reg [⟨(some 7), none, .fa (.t 1) 1⟩,
   ⟨(some 8), none, .ld (.t 7)⟩,
   ⟨(some 9), none, .fa (.t 3) 1⟩,
   ⟨none, none, .st 1 (.t 9) (.t 8)⟩])
  (.seq (.reg [⟨(some 10), none, .ldn 2 (.t 3)⟩,
   ⟨none, none, .st 2 (.t 2) (.t 10)⟩])
  .ret))))),
  [.cell 2 (some 2)]⟩
theorem k65 : cFn Try.prog Try.f65 = some c65 := by kernel_rfl
theorem toWindow_ok : OkT Try.prog 65 (pureSp (toR_S sh_Window)) := by
  refine okT_toR (OkΓT.nil _) Try.func65 (by kernel_rfl) k65 ?_
  intro c hc hz
  obtain ⟨a0, a1, rfl⟩ := sh_Window_Has hc
  simp only [szCs, szC] at hz
  simp only [fzCs, fzC]
  (dsimp only [c65]; simp (maxSteps := 8000000) (implicitDefEqProofs := false) (disch := omega) only [↓reduceIte, go_sem, if_pos, if_neg])
  refine endT_cells' 3 (.inr rfl) (by (simp (maxSteps := 8000000) (implicitDefEqProofs := false) (disch := omega) only [↓reduceIte, go_sem, if_pos, if_neg, fzCs, fzC, tvCs, tvC_v, tvC_nl, tvC_sl, bkCs, bkC, nbC, nbCs, Nat.add_zero, List.append_nil, List.nil_append]) <;> rfl) ?_ (by simp only [List.length_cons]; omega)
  simp only [List.drop_succ_cons, List.drop_zero, bkCs, bkC, nbC, Nat.add_zero, List.append_nil, List.nil_append, List.cons_append, Nat.add_assoc]
theorem eq_Window_at  (a0 : Int) (a1 : Int) : eqR_S sh_Window [.agg [.p (.int .i64 a0), .p (.int .i64 a1)], .agg [.p (.int .i64 a0), .p (.int .i64 a1)]] = some (.p (.bool true), []) := by
  exact eqR_at (sh_Window_mkFit  a0 a1) (by simp only [szCs, szC]; omega)
-- laws.eqWindow
def c86 : AF := ⟨15,
  (.seq (.reg [⟨(some 2), none, .box 29 (.t 0)⟩,
   ⟨(some 3), none, .box 29 (.t 1)⟩,
   ⟨(some 4), none, .mv (.v (.bool false))⟩])
  (.seq (.seq (.reg [⟨(some 5), none, .fa (.t 2) 0⟩,
   ⟨(some 6), none, .ld (.t 5)⟩,
   ⟨(some 7), none, .fa (.t 3) 0⟩,
   ⟨(some 8), none, .ld (.t 7)⟩,
   ⟨(some 9), none, .bin .neq (.t 6) (.t 8)⟩])
  (.cond (.t 9) (.seq (.reg [⟨(some 4), none, .mv (.v (.bool false))⟩])
  .ret)
  .skip))
  (.seq (.seq (.reg [⟨(some 10), none, .fa (.t 2) 1⟩,
   ⟨(some 11), none, .ld (.t 10)⟩,
   ⟨(some 12), none, .fa (.t 3) 1⟩,
   ⟨(some 13), none, .ld (.t 12)⟩,
   ⟨(some 14), none, .bin .neq (.t 11) (.t 13)⟩])
  (.cond (.t 14) (.seq (.reg [⟨(some 4), none, .mv (.v (.bool false))⟩])
  .ret)
  .skip))
  (.seq (.reg [⟨(some 4), none, .mv (.v (.bool true))⟩])
  .ret)))),
  [.t 4]⟩
theorem k86 : cFn Try.prog Try.f86 = some c86 := by kernel_rfl
theorem eqWindow_ok : OkT Try.prog 86 (pureSp (eqR_S sh_Window)) := by
  refine okT_eqR (OkΓT.nil _) Try.func86 (by kernel_rfl) k86 ?_
  intro c hc hz
  obtain ⟨a0, a1, rfl⟩ := sh_Window_Fit hc
  simp only [szCs, szC] at hz
  simp only [fzCs, fzC]
  (dsimp only [c86]; simp (maxSteps := 8000000) (implicitDefEqProofs := false) (disch := omega) only [↓reduceIte, go_sem, if_pos, if_neg])
  repeat' first
    | (refine gdKT_dec (fun hg => ?_) (fun hg => ?_) <;> (try (first | simp (maxSteps := 8000000) (implicitDefEqProofs := false) (disch := omega) only [↓reduceIte, go_sem, if_pos, if_neg, eq_false hg] | simp (maxSteps := 8000000) (implicitDefEqProofs := false) (disch := omega) only [↓reduceIte, go_sem, if_pos, if_neg, eq_true hg])))
    | (refine condKT_dec (fun hg => ?_) (fun hg => ?_) <;> (try (first | simp (maxSteps := 8000000) (implicitDefEqProofs := false) (disch := omega) only [↓reduceIte, go_sem, if_pos, if_neg, eq_false hg] | simp (maxSteps := 8000000) (implicitDefEqProofs := false) (disch := omega) only [↓reduceIte, go_sem, if_pos, if_neg, eq_true hg])))
    | (refine gdKT_split (fun hg => ?_) (fun hg => ?_) <;> (try simp (maxSteps := 8000000) (implicitDefEqProofs := false) (disch := omega) only [↓reduceIte, go_sem, if_pos, if_neg, hg]))
    | (refine condKT_split (fun hg => ?_) (fun hg => ?_) <;> (try simp (maxSteps := 8000000) (implicitDefEqProofs := false) (disch := omega) only [↓reduceIte, go_sem, if_pos, if_neg, hg]))
    | (refine endT_p (.inr rfl) (by simp (maxSteps := 8000000) (implicitDefEqProofs := false) (disch := omega) only [↓reduceIte, go_sem, if_pos, if_neg]; rfl) ?_; (first | exact vb_true (by omega) | exact vb_false (by omega) | exact vb_dec (by omega) | exact vi_eq (by omega) | rfl | (refine vi_eq ?_; simp_all; done) | (refine vi_eq ?_; simp_all; omega) | (refine vi_eq ?_; simp_all; intros; omega)))
    | exact endT_v (.inr rfl) (by simp (maxSteps := 8000000) (implicitDefEqProofs := false) (disch := omega) only [↓reduceIte, go_sem, if_pos, if_neg]; try rfl) (fun _ => rfl)
/-! UntunnelResult -/
def sh_UntunnelResult : List Shp := [.i .i64, .i .i64, .i .i64, .i .i64, .i .i64, .i .i64, .i .i64, .i .i64, sh_ByteS, .i .i64, .i .i64]
theorem sh_UntunnelResult_Has {cs : List Cell} (h : HasR sh_UntunnelResult cs) : ∃ (a0 : Int) (a1 : Int) (a2 : Int) (a3 : Int) (a4 : Int) (a5 : Int) (a6 : Int) (a7 : Int) (a9 : Int) (a10 : Int) (c8 : Cell), cs = [.v (.int .i64 a0), .v (.int .i64 a1), .v (.int .i64 a2), .v (.int .i64 a3), .v (.int .i64 a4), .v (.int .i64 a5), .v (.int .i64 a6), .v (.int .i64 a7), c8, .v (.int .i64 a9), .v (.int .i64 a10)] ∧ HasC sh_ByteS c8 := by
  obtain ⟨_, _, rfl, ⟨a0, rfl, _⟩, _, _, rfl, ⟨a1, rfl, _⟩, _, _, rfl, ⟨a2, rfl, _⟩, _, _, rfl, ⟨a3, rfl, _⟩, _, _, rfl, ⟨a4, rfl, _⟩, _, _, rfl, ⟨a5, rfl, _⟩, _, _, rfl, ⟨a6, rfl, _⟩, _, _, rfl, ⟨a7, rfl, _⟩, c8, _, rfl, hc8, _, _, rfl, ⟨a9, rfl, _⟩, _, _, rfl, ⟨a10, rfl, _⟩, h⟩ := h
  simp only [HasR] at h; subst h
  exact ⟨a0, a1, a2, a3, a4, a5, a6, a7, a9, a10, c8, rfl, hc8⟩
theorem sh_UntunnelResult_mkHas {c8 : Cell} (hc8 : HasC sh_ByteS c8) (a0 : Int) (a1 : Int) (a2 : Int) (a3 : Int) (a4 : Int) (a5 : Int) (a6 : Int) (a7 : Int) (a9 : Int) (a10 : Int) : HasR sh_UntunnelResult [.v (.int .i64 a0), .v (.int .i64 a1), .v (.int .i64 a2), .v (.int .i64 a3), .v (.int .i64 a4), .v (.int .i64 a5), .v (.int .i64 a6), .v (.int .i64 a7), c8, .v (.int .i64 a9), .v (.int .i64 a10)] := by
  exact ⟨_, _, rfl, ⟨_, rfl, fun h => by cases h⟩, _, _, rfl, ⟨_, rfl, fun h => by cases h⟩, _, _, rfl, ⟨_, rfl, fun h => by cases h⟩, _, _, rfl, ⟨_, rfl, fun h => by cases h⟩, _, _, rfl, ⟨_, rfl, fun h => by cases h⟩, _, _, rfl, ⟨_, rfl, fun h => by cases h⟩, _, _, rfl, ⟨_, rfl, fun h => by cases h⟩, _, _, rfl, ⟨_, rfl, fun h => by cases h⟩, _, _, rfl, hc8, _, _, rfl, ⟨_, rfl, fun h => by cases h⟩, _, _, rfl, ⟨_, rfl, fun h => by cases h⟩, rfl⟩
theorem sh_UntunnelResult_Fit {cs : List Cell} (h : FitR sh_UntunnelResult cs) : ∃ (a0 : Int) (a1 : Int) (a2 : Int) (a3 : Int) (a4 : Int) (a5 : Int) (a6 : Int) (a7 : Int) (a9 : Int) (a10 : Int) (c8 : Cell), cs = [.v (.int .i64 a0), .v (.int .i64 a1), .v (.int .i64 a2), .v (.int .i64 a3), .v (.int .i64 a4), .v (.int .i64 a5), .v (.int .i64 a6), .v (.int .i64 a7), c8, .v (.int .i64 a9), .v (.int .i64 a10)] ∧ FitC sh_ByteS c8 := by
  obtain ⟨_, _, rfl, ⟨a0, rfl⟩, _, _, rfl, ⟨a1, rfl⟩, _, _, rfl, ⟨a2, rfl⟩, _, _, rfl, ⟨a3, rfl⟩, _, _, rfl, ⟨a4, rfl⟩, _, _, rfl, ⟨a5, rfl⟩, _, _, rfl, ⟨a6, rfl⟩, _, _, rfl, ⟨a7, rfl⟩, c8, _, rfl, hc8, _, _, rfl, ⟨a9, rfl⟩, _, _, rfl, ⟨a10, rfl⟩, h⟩ := h
  simp only [FitR] at h; subst h
  exact ⟨a0, a1, a2, a3, a4, a5, a6, a7, a9, a10, c8, rfl, hc8⟩
theorem sh_UntunnelResult_mkFit {c8 : Cell} (hc8 : FitC sh_ByteS c8) (a0 : Int) (a1 : Int) (a2 : Int) (a3 : Int) (a4 : Int) (a5 : Int) (a6 : Int) (a7 : Int) (a9 : Int) (a10 : Int) : FitR sh_UntunnelResult [.v (.int .i64 a0), .v (.int .i64 a1), .v (.int .i64 a2), .v (.int .i64 a3), .v (.int .i64 a4), .v (.int .i64 a5), .v (.int .i64 a6), .v (.int .i64 a7), c8, .v (.int .i64 a9), .v (.int .i64 a10)] := by
  exact ⟨_, _, rfl, ⟨_, rfl⟩, _, _, rfl, ⟨_, rfl⟩, _, _, rfl, ⟨_, rfl⟩, _, _, rfl, ⟨_, rfl⟩, _, _, rfl, ⟨_, rfl⟩, _, _, rfl, ⟨_, rfl⟩, _, _, rfl, ⟨_, rfl⟩, _, _, rfl, ⟨_, rfl⟩, _, _, rfl, hc8, _, _, rfl, ⟨_, rfl⟩, _, _, rfl, ⟨_, rfl⟩, rfl⟩
theorem eq_UntunnelResult_at {c8 : Cell} (hc8 : FitC sh_ByteS c8) (hz : szC c8 ≤ 1099511627776) (a0 : Int) (a1 : Int) (a2 : Int) (a3 : Int) (a4 : Int) (a5 : Int) (a6 : Int) (a7 : Int) (a9 : Int) (a10 : Int) : eqR_S sh_UntunnelResult [.agg [.p (.int .i64 a0), .p (.int .i64 a1), .p (.int .i64 a2), .p (.int .i64 a3), .p (.int .i64 a4), .p (.int .i64 a5), .p (.int .i64 a6), .p (.int .i64 a7), fzC c8, .p (.int .i64 a9), .p (.int .i64 a10)], .agg [.p (.int .i64 a0), .p (.int .i64 a1), .p (.int .i64 a2), .p (.int .i64 a3), .p (.int .i64 a4), .p (.int .i64 a5), .p (.int .i64 a6), .p (.int .i64 a7), fzC c8, .p (.int .i64 a9), .p (.int .i64 a10)]] = some (.p (.bool true), []) := by
  exact eqR_at (sh_UntunnelResult_mkFit hc8 a0 a1 a2 a3 a4 a5 a6 a7 a9 a10) (by simp only [szCs, szC]; omega)
-- laws.eqUntunnelResult
def c66 : AF := ⟨27,
  (.seq (.reg [⟨(some 2), none, .box 86 (.t 0)⟩,
   ⟨(some 3), none, .box 86 (.t 1)⟩,
   ⟨(some 4), none, .mv (.v (.bool false))⟩])
  (.seq (.seq (.reg [⟨(some 5), none, .fa (.t 2) 0⟩,
   ⟨(some 6), none, .ld (.t 5)⟩,
   ⟨(some 7), none, .fa (.t 3) 0⟩,
   ⟨(some 8), none, .ld (.t 7)⟩,
   ⟨(some 9), none, .bin .neq (.t 6) (.t 8)⟩])
  (.cond (.t 9) (.seq (.reg [⟨(some 4), none, .mv (.v (.bool false))⟩])
  .ret)
  .skip))
  (.seq (.seq (.reg [⟨(some 10), none, .fa (.t 2) 1⟩,
   ⟨(some 11), none, .ld (.t 10)⟩,
   ⟨(some 12), none, .fa (.t 3) 1⟩,
   ⟨(some 13), none, .ld (.t 12)⟩,
   ⟨(some 14), none, .bin .neq (.t 11) (.t 13)⟩])
  (.cond (.t 14) (.seq (.reg [⟨(some 4), none, .mv (.v (.bool false))⟩])
  .ret)
  .skip))
  (.seq (.seq (.reg [⟨(some 15), none, .fa (.t 2) 2⟩,
   ⟨(some 16), none, .ldn 7 (.t 15)⟩,
   ⟨(some 17), none, .fa (.t 3) 2⟩,
   ⟨(some 18), none, .ldn 7 (.t 17)⟩,
   ⟨(some 19), none, .call 43 [(.t 16), (.t 18)]⟩,
   ⟨(some 20), none, .un .not (.t 19)⟩])
  (.cond (.t 20) (.seq (.reg [⟨(some 4), none, .mv (.v (.bool false))⟩])
  .ret)
  .skip))
  (.seq (.seq (.reg [⟨(some 21), none, .fa (.t 2) 9⟩,
   ⟨(some 22), none, .ldn 2 (.t 21)⟩,
   ⟨(some 23), none, .fa (.t 3) 9⟩,
   ⟨(some 24), none, .ldn 2 (.t 23)⟩,
   ⟨(some 25), none, .call 86 [(.t 22), (.t 24)]⟩,
   ⟨(some 26), none, .un .not (.t 25)⟩])
  (.cond (.t 26) (.seq (.reg [⟨(some 4), none, .mv (.v (.bool false))⟩])
  .ret)
  .skip))
  (.seq (.reg [⟨(some 4), none, .mv (.v (.bool true))⟩])
  .ret)))))),
  [.t 4]⟩
theorem k66 : cFn Try.prog Try.f66 = some c66 := by kernel_rfl
theorem eqUntunnelResult_ok : OkT Try.prog 66 (pureSp (eqR_S sh_UntunnelResult)) := by
  refine okT_eqR (OkΓT.cons eqPacket_ok (OkΓT.cons eqWindow_ok (OkΓT.nil _))) Try.func66 (by kernel_rfl) k66 ?_
  intro c hc hz
  obtain ⟨a0, a1, a2, a3, a4, a5, a6, a7, a9, a10, c8, rfl, hc8⟩ := sh_UntunnelResult_Fit hc
  simp only [szCs, szC] at hz
  simp only [fzCs, fzC]
  (dsimp only [c66]; simp (maxSteps := 8000000) (implicitDefEqProofs := false) (disch := omega) only [↓reduceIte, go_sem, if_pos, if_neg, eq_Packet_at hc8 (by omega), eq_Window_at])
  repeat' first
    | (refine gdKT_dec (fun hg => ?_) (fun hg => ?_) <;> (try (first | simp (maxSteps := 8000000) (implicitDefEqProofs := false) (disch := omega) only [↓reduceIte, go_sem, if_pos, if_neg, eq_false hg, eq_Packet_at hc8 (by omega), eq_Window_at] | simp (maxSteps := 8000000) (implicitDefEqProofs := false) (disch := omega) only [↓reduceIte, go_sem, if_pos, if_neg, eq_true hg, eq_Packet_at hc8 (by omega), eq_Window_at])))
    | (refine condKT_dec (fun hg => ?_) (fun hg => ?_) <;> (try (first | simp (maxSteps := 8000000) (implicitDefEqProofs := false) (disch := omega) only [↓reduceIte, go_sem, if_pos, if_neg, eq_false hg, eq_Packet_at hc8 (by omega), eq_Window_at] | simp (maxSteps := 8000000) (implicitDefEqProofs := false) (disch := omega) only [↓reduceIte, go_sem, if_pos, if_neg, eq_true hg, eq_Packet_at hc8 (by omega), eq_Window_at])))
    | (refine gdKT_split (fun hg => ?_) (fun hg => ?_) <;> (try simp (maxSteps := 8000000) (implicitDefEqProofs := false) (disch := omega) only [↓reduceIte, go_sem, if_pos, if_neg, hg, eq_Packet_at hc8 (by omega), eq_Window_at]))
    | (refine condKT_split (fun hg => ?_) (fun hg => ?_) <;> (try simp (maxSteps := 8000000) (implicitDefEqProofs := false) (disch := omega) only [↓reduceIte, go_sem, if_pos, if_neg, hg, eq_Packet_at hc8 (by omega), eq_Window_at]))
    | (refine endT_p (.inr rfl) (by simp (maxSteps := 8000000) (implicitDefEqProofs := false) (disch := omega) only [↓reduceIte, go_sem, if_pos, if_neg, eq_Packet_at hc8 (by omega), eq_Window_at]; rfl) ?_; (first | exact vb_true (by omega) | exact vb_false (by omega) | exact vb_dec (by omega) | exact vi_eq (by omega) | rfl | (refine vi_eq ?_; simp_all; done) | (refine vi_eq ?_; simp_all; omega) | (refine vi_eq ?_; simp_all; intros; omega)))
    | exact endT_v (.inr rfl) (by simp (maxSteps := 8000000) (implicitDefEqProofs := false) (disch := omega) only [↓reduceIte, go_sem, if_pos, if_neg, eq_Packet_at hc8 (by omega), eq_Window_at]; try rfl) (fun _ => rfl)
theorem hd_UntunnelResult_at {c8 : Cell} (hc8 : FitC sh_ByteS c8) {k : Int} (hk : 0 ≤ k) (hz : k + (wtC c8 : Int) ≤ 1099511627776) (a0 : Int) (a1 : Int) (a2 : Int) (a3 : Int) (a4 : Int) (a5 : Int) (a6 : Int) (a7 : Int) (a9 : Int) (a10 : Int) : hdR_S sh_UntunnelResult [.agg [.p (.int .i64 a0), .p (.int .i64 a1), .p (.int .i64 a2), .p (.int .i64 a3), .p (.int .i64 a4), .p (.int .i64 a5), .p (.int .i64 a6), .p (.int .i64 a7), fzC (mkC c8 (k)), .p (.int .i64 a9), .p (.int .i64 a10)], .p (.int .i64 k)] = some (.p (.int .i64 (k + (wtC c8 : Int))), []) := by
  have := hdR_at (k := k) (sh_UntunnelResult_mkFit hc8 a0 a1 a2 a3 a4 a5 a6 a7 a9 a10) hk (by simp only [wtCs, wtC_v]; omega)
  simp only [mkCs, mkC_v, wtC_v, nat0T, Int.add_zero, fzCs, fzC, wtCs, Nat.zero_add, Nat.add_zero] at this
  exact this
-- laws.heldUntunnelResult
def c70 : AF := ⟨12,
  (.seq (.reg [⟨(some 2), none, .box 86 (.t 0)⟩,
   ⟨(some 4), none, .mv (.v (.int .i64 0))⟩])
  (.seq (.reg [⟨(some 5), none, .fa (.t 2) 2⟩,
   ⟨(some 6), none, .ldn 7 (.t 5)⟩,
   ⟨(some 7), none, .mv (.t 1)⟩,
   ⟨(some 8), none, .call 137 [(.t 6), (.t 7)]⟩,
   ⟨(some 1), none, .mv (.t 8)⟩])
  (.seq (.seq (.reg [⟨(some 9), none, .mv (.t 1)⟩,
   ⟨(some 10), none, .bin .lss (.t 9) (.v (.int .i64 0))⟩])
  (.cond (.t 10) (.seq (.reg [⟨(some 4), none, .mv (.v (.int .i64 (-1)))⟩])
  .ret)
  .skip))
  (.seq (.reg [⟨(some 11), none, .mv (.t 1)⟩,
   ⟨(some 4), none, .mv (.t 11)⟩])
  .ret)))),
  [.t 4]⟩
theorem k70 : cFn Try.prog Try.f70 = some c70 := by kernel_rfl
theorem heldUntunnelResult_ok : OkT Try.prog 70 (pureSp (hdR_S sh_UntunnelResult)) := by
  refine okT_hdR (OkΓT.cons heldPacket_ok (OkΓT.nil _)) Try.func70 (by kernel_rfl) k70 ?_
  intro c k hc h1 hz
  obtain ⟨a0, a1, a2, a3, a4, a5, a6, a7, a9, a10, c8, rfl, hc8⟩ := sh_UntunnelResult_Fit hc
  simp only [wtCs, wtC_v, Nat.zero_add, Nat.add_zero] at hz ⊢
  simp only [mkCs, mkC_v, wtC_v, nat0T, Int.add_zero, fzCs, fzC]
  (dsimp only [c70]; simp (maxSteps := 8000000) (implicitDefEqProofs := false) (disch := omega) only [↓reduceIte, go_sem, if_pos, if_neg, hd_Packet_at hc8 (show 0 ≤ k by omega) (by omega)])
  repeat' first
    | (refine gdKT_dec (fun hg => ?_) (fun hg => ?_) <;> (try (first | simp (maxSteps := 8000000) (implicitDefEqProofs := false) (disch := omega) only [↓reduceIte, go_sem, if_pos, if_neg, eq_false hg, hd_Packet_at hc8 (show 0 ≤ k by omega) (by omega)] | simp (maxSteps := 8000000) (implicitDefEqProofs := false) (disch := omega) only [↓reduceIte, go_sem, if_pos, if_neg, eq_true hg, hd_Packet_at hc8 (show 0 ≤ k by omega) (by omega)])))
    | (refine condKT_dec (fun hg => ?_) (fun hg => ?_) <;> (try (first | simp (maxSteps := 8000000) (implicitDefEqProofs := false) (disch := omega) only [↓reduceIte, go_sem, if_pos, if_neg, eq_false hg, hd_Packet_at hc8 (show 0 ≤ k by omega) (by omega)] | simp (maxSteps := 8000000) (implicitDefEqProofs := false) (disch := omega) only [↓reduceIte, go_sem, if_pos, if_neg, eq_true hg, hd_Packet_at hc8 (show 0 ≤ k by omega) (by omega)])))
    | (refine gdKT_split (fun hg => ?_) (fun hg => ?_) <;> (try simp (maxSteps := 8000000) (implicitDefEqProofs := false) (disch := omega) only [↓reduceIte, go_sem, if_pos, if_neg, hg, hd_Packet_at hc8 (show 0 ≤ k by omega) (by omega)]))
    | (refine condKT_split (fun hg => ?_) (fun hg => ?_) <;> (try simp (maxSteps := 8000000) (implicitDefEqProofs := false) (disch := omega) only [↓reduceIte, go_sem, if_pos, if_neg, hg, hd_Packet_at hc8 (show 0 ≤ k by omega) (by omega)]))
    | (refine endT_p (.inr rfl) (by simp (maxSteps := 8000000) (implicitDefEqProofs := false) (disch := omega) only [↓reduceIte, go_sem, if_pos, if_neg, hd_Packet_at hc8 (show 0 ≤ k by omega) (by omega)]; rfl) ?_; (first | exact vb_true (by omega) | exact vb_false (by omega) | exact vb_dec (by omega) | exact vi_eq (by omega) | rfl | (refine vi_eq ?_; simp_all; done) | (refine vi_eq ?_; simp_all; omega) | (refine vi_eq ?_; simp_all; intros; omega)))
    | exact endT_v (.inr rfl) (by simp (maxSteps := 8000000) (implicitDefEqProofs := false) (disch := omega) only [↓reduceIte, go_sem, if_pos, if_neg, hd_Packet_at hc8 (show 0 ≤ k by omega) (by omega)]; try rfl) (fun _ => rfl)
-- laws.markUntunnelResult
def c69 : AF := ⟨10,
  (.seq (.reg [⟨(some 2), none, .box 86 (.t 0)⟩,
   ⟨(some 4), none, .mv (.v (.int .i64 0))⟩])
  (.seq (.reg [⟨(some 5), none, .fa (.t 2) 2⟩,
   ⟨(some 6), none, .ldn 7 (.t 5)⟩,
   ⟨(some 7), none, .mv (.t 1)⟩,
   ⟨(some 8), none, .call 44 [(.t 6), (.t 7)]⟩,
   ⟨(some 1), none, .mv (.t 8)⟩])
  (.seq (.reg [⟨(some 9), none, .mv (.t 1)⟩,
   ⟨(some 4), none, .mv (.t 9)⟩])
  .ret))),
  [.t 4]⟩
theorem k69 : cFn Try.prog Try.f69 = some c69 := by kernel_rfl
theorem markUntunnelResult_ok : OkT Try.prog 69 (mkR_Sp sh_UntunnelResult) := by
  refine okT_mkR (OkΓT.cons markPacket_ok (OkΓT.nil _)) Try.func69 (by kernel_rfl) k69 ?_
  intro c k hc h1 hz
  obtain ⟨a0, a1, a2, a3, a4, a5, a6, a7, a9, a10, c8, rfl, hc8⟩ := sh_UntunnelResult_Fit hc
  simp only [wtCs, wtC_v, Nat.zero_add, Nat.add_zero] at hz ⊢
  simp only [mkCs, mkC_v, wtC_v, nat0T, Int.add_zero]
  simp only [tvCs, tvC_v, tvC_nl, tvC_sl, nbC, Nat.add_zero, Nat.zero_add]
  generalize hN : nbCs _ = N
  have l0 : (bkCs 0 [.v (.int .i64 a0), .v (.int .i64 a1), .v (.int .i64 a2), .v (.int .i64 a3), .v (.int .i64 a4), .v (.int .i64 a5), .v (.int .i64 a6), .v (.int .i64 a7), c8, .v (.int .i64 a9), .v (.int .i64 a10)]).length = N := by rw [bkCs_len]; exact hN
  (dsimp only [c69]; simp (maxSteps := 8000000) (implicitDefEqProofs := false) (disch := omega) only [↓reduceIte, go_sem, if_pos, if_neg, l0, get_last l0])
  have m0 := fun X => mk_cells (A := [.v (.int .i64 a0), .v (.int .i64 a1)]) (c := [.v (.int .i64 a2), .v (.int .i64 a3), .v (.int .i64 a4), .v (.int .i64 a5), .v (.int .i64 a6), .v (.int .i64 a7), c8]) (B := [.v (.int .i64 a9), .v (.int .i64 a10)]) (G := [X]) (n := 0) (k := k) (by simp only [nbCs, nbC, mkC_nb] <;> omega) (sh_Packet_mkFit hc8 a2 a3 a4 a5 a6 a7) (by omega) (by simp only [wtCs, wtC_v]; omega)
  simp only [List.cons_append, List.nil_append, mkCs, mkC_v, wtCs, wtC_v, nat0T, Int.add_zero, Nat.add_zero, Nat.zero_add, tvCs, tvC_v, tvC_nl, tvC_sl, nbC, natAT, ← Int.add_assoc, mkC_tv, mkC_nb] at m0
  have l1 : (bkCs 0 [.v (.int .i64 a0), .v (.int .i64 a1), .v (.int .i64 a2), .v (.int .i64 a3), .v (.int .i64 a4), .v (.int .i64 a5), .v (.int .i64 a6), .v (.int .i64 a7), (mkC c8 (k)), .v (.int .i64 a9), .v (.int .i64 a10)]).length = N := by rw [bkCs_len, ← hN]; simp only [nbCs, mkC_nb]
  refine mutQ_call (by simp (maxSteps := 8000000) (implicitDefEqProofs := false) (disch := omega) only [↓reduceIte, go_sem, if_pos, if_neg]; rfl) (by simp (maxSteps := 8000000) (implicitDefEqProofs := false) (disch := omega) only [↓reduceIte, go_sem, if_pos, if_neg]) (m0 _) ?_
  simp (maxSteps := 8000000) (implicitDefEqProofs := false) (disch := omega) only [↓reduceIte, go_sem, if_pos, if_neg, l1, get_last l1]
  exact endK_cells (.inr rfl) (by rw [← hN]; simp only [nbCs, mkC_nb]; omega) (by (simp (maxSteps := 8000000) (implicitDefEqProofs := false) (disch := omega) only [↓reduceIte, go_sem, if_pos, if_neg, natAT, ← Int.add_assoc]) <;> rfl) rfl
end Go.Proofs.Ytngebdcbcliobaa
