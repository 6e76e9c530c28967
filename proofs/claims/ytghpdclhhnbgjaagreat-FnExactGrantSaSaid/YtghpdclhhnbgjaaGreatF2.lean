import Derived.Test.YtghpdclhhnbgjaaGreatF1
set_option linter.unusedSimpArgs false
set_option linter.unusedVariables false
set_option maxRecDepth 100000
set_option maxHeartbeats 4000000
namespace Go.Proofs.YtghpdclhhnbgjaaGreat
open Go Go.AH
attribute [local irreducible] awpT ropsT qopsT stepT condKT gdKT EndT joinK loopKT seqKT blkKT kont kontR
/-! Boxes -/

structure BxR where
  (ad : Int)
  (rules : List RuR)
  (peers : List PrR)
  (sas : List SaR)
  (now : Int)
  (drops : List Int)
def bxT (x : BxR) : TV := .agg [.p (.int .i64 x.ad), .s (rowsT ruT x.rules), .s (rowsT prT x.peers), .s (rowsT saT x.sas), .p (.int .i64 x.now), .s (isT x.drops)]
theorem bxT_inj (x y : BxR) (h : bxT x = bxT y) : x = y := by
  cases x; cases y
  simp only [bxT, TV.agg.injEq, List.cons.injEq, TV.s.injEq, and_true] at h
  obtain ⟨h1, h2, h3, h4, h5, h6⟩ := h
  obtain rfl := p64_inj h1; obtain rfl := rus_inj1 h2; obtain rfl := prs_inj1 h3; obtain rfl := sas_inj h4; obtain rfl := p64_inj h5; obtain rfl := is_inj h6
  rfl
abbrev smallB (x : BxR) : Prop := x.rules.length ≤ 1048576 ∧ x.peers.length ≤ 1048576 ∧ (x.sas.length ≤ 1048576 ∧ ∀ y ∈ x.sas, y.sels.length ≤ 1048576) ∧ x.drops.length ≤ 1048576
def baseF (ad now : Int) (ru : List RuR) (pe : List PrR) : Int := if (0 ≤ ad ∧ ad ≤ 4294967295) ∧ (0 ≤ now ∧ now ≤ 1000000000) then (if polF ru = 0 then peeF pe else polF ru) else 3
def boxF (x : BxR) : Int := if (0 ≤ x.ad ∧ x.ad ≤ 4294967295) ∧ (0 ≤ x.now ∧ x.now ≤ 1000000000) then (if polF x.rules = 0 then (if peeF x.peers = 0 then (if sasF x.sas = 0 then (if (x.drops.length : Int) = 11 ∧ tickL x.drops = true then 0 else 1) else sasF x.sas) else peeF x.peers) else polF x.rules) else 3
noncomputable def base_S := specP (fun x : Int × Int × List RuR × List PrR => [.p (.int .i64 x.1), .p (.int .i64 x.2.1), .s (rowsT ruT x.2.2.1), .s (rowsT prT x.2.2.2)]) (fun x => (x.2.2.1.length ≤ 1048576) ∧ (x.2.2.2.length ≤ 1048576)) (fun x => (.p (.int .i64 (baseF x.1 x.2.1 x.2.2.1 x.2.2.2)), []))
theorem base_at (a : Int) (n : Int) (ru : List RuR) (pe : List PrR) (h : (ru.length ≤ 1048576) ∧ (pe.length ≤ 1048576)) : base_S [.p (.int .i64 a), .p (.int .i64 n), .s (rowsT ruT ru), .s (rowsT prT pe)] = some ((.p (.int .i64 (baseF a n ru pe)), [])) := specP_at (enc := fun x : Int × Int × List RuR × List PrR => [.p (.int .i64 x.1), .p (.int .i64 x.2.1), .s (rowsT ruT x.2.2.1), .s (rowsT prT x.2.2.2)]) (by rintro ⟨a0, a1, a2, a3⟩ ⟨b0, b1, b2, b3⟩ h; simp only [List.cons.injEq, and_true] at h; obtain ⟨h0, h1, h2, h3⟩ := h; obtain rfl := p64_inj h0; obtain rfl := p64_inj h1; obtain rfl := rus_inj h2; obtain rfl := prs_inj h3; rfl) (a, n, ru, pe) h
-- spec.l17Base
def c83 : AF := ⟨25,
 (.seq (.reg [rO 8 (.mv (.v (.int .i64 0)))])
 (.seq (.seq (.reg [rO 10 (.mv (.t 0)),
 rO 11 (.call 156 [(.t 10)]),
 rO 12 (.un .not (.t 11)),
 rO 13 (.mv (.t 12)),
 ⟨(some 14), (some (13, false)), .mv (.t 1)⟩,
 ⟨(some 15), (some (13, false)), .call 85 [(.t 14)]⟩,
 ⟨(some 16), (some (13, false)), .un .not (.t 15)⟩,
 rO 17 (.pick (.t 13) (.v (.bool true)) (.t 16))])
 (.cond (.t 17) (.seq (.reg [rO 8 (.mv (.v (.int .i64 3)))])
 .ret)
 .skip))
 (.seq (.seq (.reg [rO 18 (.mv (.t 2)),
 rO 19 (.call 157 [(.t 18)]),
 rO 9 (.mv (.t 19))])
 (.seq (.reg [rO 20 (.mv (.t 9)),
 rO 21 (.bin .neq (.t 20) (.v (.int .i64 0)))])
 (.cond (.t 21) (.seq (.reg [rO 22 (.mv (.t 9)),
 rO 8 (.mv (.t 22))])
 .ret)
 .skip)))
 (.seq (.reg [rO 23 (.mv (.t 3)),
 rO 24 (.call 158 [(.t 23)]),
 rO 8 (.mv (.t 24))])
 .ret)))),
 [.t 8]⟩
theorem k83 : cFn Tryz.prog Tryz.f83 = some c83 := by kernel_rfl
theorem base_ok : OkT Tryz.prog 83 (pureSp base_S) := by
  refine okT_fn (OkΓT.cons l2Address_ok (OkΓT.cons l16Long_ok (OkΓT.cons polS_ok (OkΓT.cons peeS_ok (OkΓT.nil _))))) Tryz.func83 (by kernel_rfl) k83 (fun x _ => ⟨by first | rfl | simp only [go_sem], by first | rfl | simp only [go_sem]⟩) ?_
  rintro ⟨a, n, ru, pe⟩ ⟨h1, h2⟩
  try dsimp only at *
  have qp := polF_at ru (by omega)
  have qe := peeF_at pe (by omega)
  have hB : baseF a n ru pe = if (0 ≤ a ∧ a ≤ 4294967295) ∧ (0 ≤ n ∧ n ≤ 1000000000) then (if polF ru = 0 then peeF pe else polF ru) else 3 := rfl
  generalize polF ru = P at *
  generalize peeF pe = E at *
  by_cases c0 : 0 ≤ a ∧ a ≤ 4294967295
  case neg =>
    rw [hB, if_neg (fun h => c0 h.1)]
    (dsimp only [c83, rO]; simp (maxSteps := 8000000) -implicitDefEqProofs (disch := omega) only [↓reduceIte, go_sem, adr_at, tick_at, eq_false c0])
    exact endT_v (.inr rfl) (by (simp (maxSteps := 8000000) -implicitDefEqProofs (disch := omega) only [↓reduceIte, go_sem]) <;> rfl) (fun _ => rfl)
  by_cases c1 : 0 ≤ n ∧ n ≤ 1000000000
  case neg =>
    rw [hB, if_neg (fun h => c1 h.2)]
    (dsimp only [c83, rO]; simp (maxSteps := 8000000) -implicitDefEqProofs (disch := omega) only [↓reduceIte, go_sem, adr_at, tick_at, eq_true c0, eq_false c1])
    exact endT_v (.inr rfl) (by (simp (maxSteps := 8000000) -implicitDefEqProofs (disch := omega) only [↓reduceIte, go_sem]) <;> rfl) (fun _ => rfl)
  rw [if_pos ⟨c0, c1⟩] at hB
  by_cases c2 : P = 0
  case neg =>
    rw [hB, if_neg c2]
    (dsimp only [c83, rO]; simp (maxSteps := 8000000) -implicitDefEqProofs (disch := omega) only [↓reduceIte, go_sem, adr_at, tick_at, eq_true c0, eq_true c1, qp, eq_false c2])
    exact endT_v (.inr rfl) (by (simp (maxSteps := 8000000) -implicitDefEqProofs (disch := omega) only [↓reduceIte, go_sem]) <;> rfl) (fun _ => rfl)
  rw [hB, if_pos c2]
  (dsimp only [c83, rO]; simp (maxSteps := 8000000) -implicitDefEqProofs (disch := omega) only [↓reduceIte, go_sem, adr_at, tick_at, eq_true c0, eq_true c1, qp, qe, eq_true c2])
  exact endT_v (.inr rfl) (by (simp (maxSteps := 8000000) -implicitDefEqProofs (disch := omega) only [↓reduceIte, go_sem]) <;> rfl) (fun _ => rfl)
noncomputable def boxF_S := specP (fun x : BxR => [bxT x]) (fun x => smallB x) (fun x => (.p (.int .i64 (boxF x)), []))
theorem boxF_at (x : BxR) (h : smallB x) : boxF_S [bxT x] = some ((.p (.int .i64 (boxF x)), [])) := specP_at (enc := fun x : BxR => [bxT x]) (by rintro a0 b0 h; simp only [List.cons.injEq, and_true] at h; have h0 := h; obtain rfl := bxT_inj _ _ h0; rfl) x h
-- impl.BoxFault
def c42 : AF := ⟨37,
 (.seq (.reg [rO 1 (.box 34 (.t 0)),
 rO 2 (.mv (.v (.int .i64 0)))])
 (.seq (.seq (.reg [rO 4 (.fa (.t 1) 0),
 rO 5 (.ld (.t 4)),
 rO 6 (.call 90 [(.t 5)]),
 rO 7 (.un .not (.t 6)),
 rO 8 (.mv (.t 7)),
 ⟨(some 9), (some (8, false)), .fa (.t 1) 4⟩,
 ⟨(some 10), (some (8, false)), .ld (.t 9)⟩,
 ⟨(some 11), (some (8, false)), .call 91 [(.t 10)]⟩,
 ⟨(some 12), (some (8, false)), .un .not (.t 11)⟩,
 rO 13 (.pick (.t 8) (.v (.bool true)) (.t 12))])
 (.cond (.t 13) (.seq (.reg [rO 2 (.mv (.v (.int .i64 3)))])
 .ret)
 .skip))
 (.seq (.seq (.drw [rO 14 (.fa (.t 1) 1),
 rO 15 (.ld (.t 14)),
 rO 16 (.call 93 [(.t 15)]),
 rO 17 (.fa (.t 1) 2),
 rO 18 (.ld (.t 17)),
 rO 19 (.call 94 [(.t 18)]),
 rO 20 (.fa (.t 1) 3),
 rO 21 (.ld (.t 20))] [rO 22 (.call 95 [(.t 21)]),
 rO 23 (.mkS 2 3 [(.int .i64 0), (.int .i64 0), (.int .i64 0)] [(0, 1, (.t 16)), (1, 1, (.t 19)), (2, 1, (.t 22))]),
 rO 24 (.call 92 [(.t 23)]),
 rO 3 (.mv (.t 24))])
 (.seq (.reg [rO 25 (.mv (.t 3)),
 rO 26 (.bin .neq (.t 25) (.v (.int .i64 0)))])
 (.cond (.t 26) (.seq (.reg [rO 27 (.mv (.t 3)),
 rO 2 (.mv (.t 27))])
 .ret)
 .skip)))
 (.seq (.seq (.reg [rO 28 (.fa (.t 1) 5),
 rO 29 (.ld (.t 28)),
 rO 30 (.len (.t 29)),
 rO 31 (.bin .neq (.t 30) (.v (.int .i64 11))),
 rO 32 (.mv (.t 31)),
 ⟨(some 33), (some (32, false)), .fa (.t 1) 5⟩,
 ⟨(some 34), (some (32, false)), .ld (.t 33)⟩,
 ⟨(some 35), (some (32, false)), .call 96 [(.t 34), (.v (.func (.func 97) ⟨[]⟩ ⟨[]⟩))]⟩,
 rO 36 (.pick (.t 32) (.v (.bool true)) (.t 35))])
 (.cond (.t 36) (.seq (.reg [rO 2 (.mv (.v (.int .i64 1)))])
 .ret)
 .skip))
 (.seq (.reg [rO 2 (.mv (.v (.int .i64 0)))])
 .ret))))),
 [.t 2]⟩
theorem k42 : cFn Tryz.prog Tryz.f42 = some c42 := by kernel_rfl
theorem boxI_ok : OkT Tryz.prog 42 (pureSp boxF_S) := by
  refine okT_fn (OkΓT.cons isAddress_ok (OkΓT.cons isTick_ok (OkΓT.cons polI_ok (OkΓT.cons peeI_ok (OkΓT.cons sasFI_ok (OkΓT.cons ffz_ok (OkΓT.cons ctT_ok (OkΓT.nil _)))))))) Tryz.func42 (by kernel_rfl) k42 (fun x _ => ⟨by first | rfl | simp only [go_sem], by first | rfl | simp only [go_sem]⟩) ?_
  rintro ⟨ad, ru, pe, sa, now, dr⟩ ⟨h1, h2, ⟨h3, h4⟩, h5⟩
  try dsimp only [bxT] at *
  have qp := polF_at ru (by omega)
  have qe := peeF_at pe (by omega)
  have qs := sasF_at sa ⟨by omega, fun y hy => by have := h4 y hy; omega⟩
  have qt := ctT_at dr (by omega)
  have hlen := is_len dr
  have hB : boxF ⟨ad, ru, pe, sa, now, dr⟩ = if (0 ≤ ad ∧ ad ≤ 4294967295) ∧ (0 ≤ now ∧ now ≤ 1000000000) then (if polF ru = 0 then (if peeF pe = 0 then (if sasF sa = 0 then (if (dr.length : Int) = 11 ∧ tickL dr = true then 0 else 1) else sasF sa) else peeF pe) else polF ru) else 3 := rfl

  generalize polF ru = P at *
  generalize peeF pe = E at *
  generalize sasF sa = S at *
  have qf : ffz_S [.s [.p (.int .i64 P), .p (.int .i64 E), .p (.int .i64 S)]] = some (.p (.int .i64 (ffz [P, E, S])), []) := ffz_at [P, E, S] (by show 3 ≤ _; decide)
  by_cases c0 : 0 ≤ ad ∧ ad ≤ 4294967295
  case neg =>
    rw [hB, if_neg (fun h => c0 h.1)]
    (dsimp only [c42, rO]; simp (maxSteps := 8000000) -implicitDefEqProofs (disch := omega) only [↓reduceIte, go_sem, adr_at, tick_at, hlen, eq_false c0])
    exact endT_v (.inr rfl) (by (simp (maxSteps := 8000000) -implicitDefEqProofs (disch := omega) only [↓reduceIte, go_sem]) <;> rfl) (fun _ => rfl)
  by_cases c1 : 0 ≤ now ∧ now ≤ 1000000000
  case neg =>
    rw [hB, if_neg (fun h => c1 h.2)]
    (dsimp only [c42, rO]; simp (maxSteps := 8000000) -implicitDefEqProofs (disch := omega) only [↓reduceIte, go_sem, adr_at, tick_at, hlen, eq_true c0, eq_false c1])
    exact endT_v (.inr rfl) (by (simp (maxSteps := 8000000) -implicitDefEqProofs (disch := omega) only [↓reduceIte, go_sem]) <;> rfl) (fun _ => rfl)
  rw [if_pos ⟨c0, c1⟩] at hB
  by_cases c2 : P = 0
  case neg =>
    rw [show ffz [P, E, S] = P by simp only [ffz, if_neg c2]] at qf
    rw [hB, if_neg c2]
    (dsimp only [c42, rO]; simp (maxSteps := 8000000) -implicitDefEqProofs (disch := omega) only [↓reduceIte, go_sem, adr_at, tick_at, hlen, eq_true c0, eq_true c1, qp, qe, qs, qf, eq_false c2])
    exact endT_v (.inr rfl) (by (simp (maxSteps := 8000000) -implicitDefEqProofs (disch := omega) only [↓reduceIte, go_sem]) <;> rfl) (fun _ => rfl)
  rw [if_pos c2] at hB
  by_cases c3 : E = 0
  case neg =>
    rw [show ffz [P, E, S] = E by simp only [ffz, if_pos c2, if_neg c3]] at qf
    rw [hB, if_neg c3]
    (dsimp only [c42, rO]; simp (maxSteps := 8000000) -implicitDefEqProofs (disch := omega) only [↓reduceIte, go_sem, adr_at, tick_at, hlen, eq_true c0, eq_true c1, qp, qe, qs, qf, eq_false c3])
    exact endT_v (.inr rfl) (by (simp (maxSteps := 8000000) -implicitDefEqProofs (disch := omega) only [↓reduceIte, go_sem]) <;> rfl) (fun _ => rfl)
  rw [if_pos c3] at hB
  by_cases c4 : S = 0
  case neg =>
    rw [show ffz [P, E, S] = S by simp only [ffz, if_pos c2, if_pos c3, if_neg c4]] at qf
    rw [hB, if_neg c4]
    (dsimp only [c42, rO]; simp (maxSteps := 8000000) -implicitDefEqProofs (disch := omega) only [↓reduceIte, go_sem, adr_at, tick_at, hlen, eq_true c0, eq_true c1, qp, qe, qs, qf, eq_false c4])
    exact endT_v (.inr rfl) (by (simp (maxSteps := 8000000) -implicitDefEqProofs (disch := omega) only [↓reduceIte, go_sem]) <;> rfl) (fun _ => rfl)
  rw [show ffz [P, E, S] = 0 by simp only [ffz, if_pos c2, if_pos c3, if_pos c4]] at qf
  rw [if_pos c4] at hB
  by_cases c5 : (dr.length : Int) = 11
  case neg =>
    rw [hB, if_neg (fun h => c5 h.1)]
    (dsimp only [c42, rO]; simp (maxSteps := 8000000) -implicitDefEqProofs (disch := omega) only [↓reduceIte, go_sem, adr_at, tick_at, hlen, eq_true c0, eq_true c1, qp, qe, qs, qf, eq_false c5])
    exact endT_v (.inr rfl) (by (simp (maxSteps := 8000000) -implicitDefEqProofs (disch := omega) only [↓reduceIte, go_sem]) <;> rfl) (fun _ => rfl)
  by_cases c6 : tickL dr = true
  case neg =>
    rw [hB, if_neg (fun h => c6 h.2)]
    have c6 : tickL dr = false := by simpa using c6
    rw [c6] at qt
    (dsimp only [c42, rO]; simp (maxSteps := 8000000) -implicitDefEqProofs (disch := omega) only [↓reduceIte, go_sem, adr_at, tick_at, hlen, eq_true c0, eq_true c1, qp, qe, qs, qf, eq_true c5, qt])
    exact endT_v (.inr rfl) (by (simp (maxSteps := 8000000) -implicitDefEqProofs (disch := omega) only [↓reduceIte, go_sem]) <;> rfl) (fun _ => rfl)
  rw [hB, if_pos ⟨c5, c6⟩]
  rw [c6] at qt
  (dsimp only [c42, rO]; simp (maxSteps := 8000000) -implicitDefEqProofs (disch := omega) only [↓reduceIte, go_sem, adr_at, tick_at, hlen, eq_true c0, eq_true c1, qp, qe, qs, qf, eq_true c5, qt])
  exact endT_v (.inr rfl) (by (simp (maxSteps := 8000000) -implicitDefEqProofs (disch := omega) only [↓reduceIte, go_sem]) <;> rfl) (fun _ => rfl)
-- spec.BoxFault
def c33 : AF := ⟨39,
 (.seq (.reg [rO 1 (.box 34 (.t 0)),
 rO 2 (.mv (.v (.int .i64 0)))])
 (.seq (.seq (.reg [rO 6 (.fa (.t 1) 0),
 rO 7 (.ld (.t 6)),
 rO 8 (.fa (.t 1) 4),
 rO 9 (.ld (.t 8)),
 rO 10 (.fa (.t 1) 1),
 rO 11 (.ld (.t 10)),
 rO 12 (.fa (.t 1) 2),
 rO 13 (.ld (.t 12)),
 rO 14 (.call 83 [(.t 7), (.t 9), (.t 11), (.t 13)]),
 rO 3 (.mv (.t 14))])
 (.seq (.reg [rO 15 (.mv (.t 3)),
 rO 16 (.bin .neq (.t 15) (.v (.int .i64 0)))])
 (.cond (.t 16) (.seq (.reg [rO 17 (.mv (.t 3)),
 rO 2 (.mv (.t 17))])
 .ret)
 .skip)))
 (.seq (.seq (.reg [rO 18 (.fa (.t 1) 3),
 rO 19 (.ld (.t 18)),
 rO 20 (.call 84 [(.t 19)]),
 rO 4 (.mv (.t 20))])
 (.seq (.reg [rO 21 (.mv (.t 4)),
 rO 22 (.bin .neq (.t 21) (.v (.int .i64 0)))])
 (.cond (.t 22) (.seq (.reg [rO 23 (.mv (.t 4)),
 rO 2 (.mv (.t 23))])
 .ret)
 .skip)))
 (.seq (.seq (.reg [rO 24 (.fa (.t 1) 5),
 rO 25 (.ld (.t 24)),
 rO 26 (.len (.t 25)),
 rO 27 (.bin .neq (.t 26) (.v (.int .i64 11)))])
 (.cond (.t 27) (.seq (.reg [rO 2 (.mv (.v (.int .i64 1)))])
 .ret)
 .skip))
 (.seq (.seq (.reg [rO 5 (.mv (.v (.int .i64 0)))])
 (.block 0 (.loop (.seq (.seq (.reg [rO 28 (.mv (.t 5)),
 rO 29 (.bin .lss (.t 28) (.v (.int .i64 11)))])
 (.cond (.t 29) .skip
 (.exit 0)))
 (.seq (.block 1 (.seq (.reg [rO 32 (.fa (.t 1) 5),
 rO 33 (.ld (.t 32)),
 rO 34 (.mv (.t 5)),
 rO 35 (.ia 1 (.t 33) (.t 34)),
 rO 36 (.ld (.t 35)),
 rO 37 (.call 85 [(.t 36)]),
 rO 38 (.un .not (.t 37))])
 (.cond (.t 38) (.seq (.reg [rO 2 (.mv (.v (.int .i64 1)))])
 .ret)
 .skip)))
 (.reg [rO 30 (.mv (.t 5)),
 rO 31 (.bin .add (.t 30) (.v (.int .i64 1))),
 rO 5 (.mv (.t 31))]))))))
 (.seq (.reg [rO 2 (.mv (.v (.int .i64 0)))])
 .ret)))))),
 [.t 2]⟩
theorem k33 : cFn Tryz.prog Tryz.f33 = some c33 := by kernel_rfl
theorem boxS_ok : OkT Tryz.prog 33 (pureSp boxF_S) := by
  refine okT_fn (OkΓT.cons base_ok (OkΓT.cons sasFS_ok (OkΓT.cons l16Long_ok (OkΓT.nil _)))) Tryz.func33 (by kernel_rfl) k33 (fun x _ => ⟨by first | rfl | simp only [go_sem], by first | rfl | simp only [go_sem]⟩) ?_
  rintro ⟨ad, ru, pe, sa, now, dr⟩ ⟨h1, h2, ⟨h3, h4⟩, h5⟩
  try dsimp only [bxT] at *
  have qp := polF_at ru (by omega)
  have qe := peeF_at pe (by omega)
  have qs := sasF_at sa ⟨by omega, fun y hy => by have := h4 y hy; omega⟩
  have qt := ctT_at dr (by omega)
  have hlen := is_len dr
  have hB : boxF ⟨ad, ru, pe, sa, now, dr⟩ = if (0 ≤ ad ∧ ad ≤ 4294967295) ∧ (0 ≤ now ∧ now ≤ 1000000000) then (if polF ru = 0 then (if peeF pe = 0 then (if sasF sa = 0 then (if (dr.length : Int) = 11 ∧ tickL dr = true then 0 else 1) else sasF sa) else peeF pe) else polF ru) else 3 := rfl

  have qb := base_at ad now ru pe ⟨by omega, by omega⟩
  have hC : baseF ad now ru pe = if (0 ≤ ad ∧ ad ≤ 4294967295) ∧ (0 ≤ now ∧ now ≤ 1000000000) then (if polF ru = 0 then peeF pe else polF ru) else 3 := rfl
  generalize polF ru = P at *
  generalize peeF pe = E at *
  generalize sasF sa = S at *
  by_cases c0 : (0 ≤ ad ∧ ad ≤ 4294967295) ∧ (0 ≤ now ∧ now ≤ 1000000000)
  case neg =>
    rw [hC, if_neg c0] at qb
    rw [hB, if_neg c0]
    (dsimp only [c33, rO]; simp (maxSteps := 8000000) -implicitDefEqProofs (disch := omega) only [↓reduceIte, go_sem, adr_at, tick_at, hlen, qb])
    exact endT_v (.inr rfl) (by (simp (maxSteps := 8000000) -implicitDefEqProofs (disch := omega) only [↓reduceIte, go_sem]) <;> rfl) (fun _ => rfl)
  rw [if_pos c0] at hB hC
  by_cases c2 : P = 0
  case neg =>
    rw [hC, if_neg c2] at qb
    rw [hB, if_neg c2]
    (dsimp only [c33, rO]; simp (maxSteps := 8000000) -implicitDefEqProofs (disch := omega) only [↓reduceIte, go_sem, adr_at, tick_at, hlen, qb, eq_false c2])
    exact endT_v (.inr rfl) (by (simp (maxSteps := 8000000) -implicitDefEqProofs (disch := omega) only [↓reduceIte, go_sem]) <;> rfl) (fun _ => rfl)
  rw [if_pos c2] at hB hC
  rw [hC] at qb
  by_cases c3 : E = 0
  case neg =>
    rw [hB, if_neg c3]
    (dsimp only [c33, rO]; simp (maxSteps := 8000000) -implicitDefEqProofs (disch := omega) only [↓reduceIte, go_sem, adr_at, tick_at, hlen, qb, eq_false c3])
    exact endT_v (.inr rfl) (by (simp (maxSteps := 8000000) -implicitDefEqProofs (disch := omega) only [↓reduceIte, go_sem]) <;> rfl) (fun _ => rfl)
  rw [if_pos c3] at hB
  by_cases c4 : S = 0
  case neg =>
    rw [hB, if_neg c4]
    (dsimp only [c33, rO]; simp (maxSteps := 8000000) -implicitDefEqProofs (disch := omega) only [↓reduceIte, go_sem, adr_at, tick_at, hlen, qb, eq_true c3, qs, eq_false c4])
    exact endT_v (.inr rfl) (by (simp (maxSteps := 8000000) -implicitDefEqProofs (disch := omega) only [↓reduceIte, go_sem]) <;> rfl) (fun _ => rfl)
  rw [if_pos c4] at hB
  by_cases c5 : (dr.length : Int) = 11
  case neg =>
    rw [hB, if_neg (fun h => c5 h.1)]
    (dsimp only [c33, rO]; simp (maxSteps := 8000000) -implicitDefEqProofs (disch := omega) only [↓reduceIte, go_sem, adr_at, tick_at, hlen, qb, eq_true c3, qs, eq_true c4, eq_false c5])
    exact endT_v (.inr rfl) (by (simp (maxSteps := 8000000) -implicitDefEqProofs (disch := omega) only [↓reduceIte, go_sem]) <;> rfl) (fun _ => rfl)
  (dsimp only [c33, rO]; simp (maxSteps := 8000000) -implicitDefEqProofs (disch := omega) only [↓reduceIte, go_sem, adr_at, tick_at, hlen, qb, eq_true c3, qs, eq_true c4, eq_true c5])
  refine awpT_loop (α := Nat) (fun i => ⟨slots [(1, .op 0 0 0), (5, .p (.int .i64 i))], [.cells 34 6 [.agg [.p (.int .i64 ad), .s (rowsT ruT ru), .s (rowsT prT pe), .s (rowsT saT sa), .p (.int .i64 now), .s (isT dr)]]]⟩) (fun i => i ≤ 11 ∧ ∀ j y, j < i → dr[j]? = some y → noTick y = false) (fun i => 11 - i) 0 ⟨by omega, fun j y hj => absurd hj (by omega)⟩ (by simp only [nat0T]; exact (le_of [0] (by simp (maxSteps := 8000000) -implicitDefEqProofs (disch := omega) only [↓reduceIte, go_sem]) (by simp (maxSteps := 8000000) -implicitDefEqProofs (disch := omega) only [↓reduceIte, go_sem]) (by decide) (by simp))) ?_
  intro i ⟨hi, hn⟩
  simp (maxSteps := 8000000) -implicitDefEqProofs (disch := omega) only [↓reduceIte, go_sem]
  refine condKT_dec (fun hlt => ?_) (fun hge => ?_)
  · obtain ⟨x, hx⟩ := get_ex (l := dr) (i := i) (by omega)
    have g := is_get (l := dr) (i := i) (by omega)
    rw [show dr.getD i 0 = x by simp [List.getD_eq_getElem?_getD, hx]] at g
    by_cases hs : 0 ≤ x ∧ x ≤ 1000000000
    · have hs' : noTick x = false := by unfold noTick; rw [decide_eq_true hs]; rfl
      simp (maxSteps := 8000000) -implicitDefEqProofs (disch := omega) only [↓reduceIte, go_sem, eq_true hlt, Int.toNat_natCast, g, hlen, tick_at, eq_true hs]
      refine loopKT_next (i + 1) ⟨by omega, none_snoc hx hs' hn⟩ (by omega) ?_
      exact (le_of [0] (by simp (maxSteps := 8000000) -implicitDefEqProofs (disch := omega) only [↓reduceIte, go_sem]) (by simp (maxSteps := 8000000) -implicitDefEqProofs (disch := omega) only [↓reduceIte, go_sem]) (by decide) (by simp))
    · have hs' : noTick x = true := by unfold noTick; rw [decide_eq_false hs]; rfl
      rw [hB, if_neg (fun h => by rw [tickL_some hx hs' hn] at h; exact absurd h.2 (by decide))]
      simp (maxSteps := 8000000) -implicitDefEqProofs (disch := omega) only [↓reduceIte, go_sem, eq_true hlt, Int.toNat_natCast, g, hlen, tick_at, eq_false hs]
      exact endT_v (.inr rfl) (by (simp (maxSteps := 8000000) -implicitDefEqProofs (disch := omega) only [↓reduceIte, go_sem]) <;> rfl) (fun _ => rfl)
  · rw [hB, if_pos ⟨c5, tickL_none fun j y hj => hn j y (by omega)⟩]
    simp (maxSteps := 8000000) -implicitDefEqProofs (disch := omega) only [↓reduceIte, go_sem, eq_false hge]
    refine joinK_here ?_
    simp (maxSteps := 8000000) -implicitDefEqProofs (disch := omega) only [↓reduceIte, go_sem]
    exact endT_v (.inr rfl) (by (simp (maxSteps := 8000000) -implicitDefEqProofs (disch := omega) only [↓reduceIte, go_sem]) <;> rfl) (fun _ => rfl)

/-! The address of a peer -/
end Go.Proofs.YtghpdclhhnbgjaaGreat
