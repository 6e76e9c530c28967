import Derived.Test.YtghpdclhhnbgjaaGreatF12
import Derived.Test.YtghpdclhhnbgjaaGreatF7
set_option linter.unusedSimpArgs false
set_option linter.unusedVariables false
set_option maxRecDepth 100000
set_option maxHeartbeats 4000000
namespace Go.Proofs.YtghpdclhhnbgjaaGreat
open Go Go.AH
attribute [local irreducible] awpT ropsT qopsT stepT condKT gdKT EndT joinK loopKT seqKT blkKT kont kontR
/-! Agreements granted to boxes -/

theorem seg_atS {S R : List TB} {k : Nat} : (S ++ R)[S.length + k]? = R[k]? := seg_at rfl k
theorem seg_setS {S R : List TB} {k : Nat} {c : TB} : (S ++ R).set (S.length + k) c = S ++ R.set k c := by rw [List.set_append_right _ _ (by omega), Nat.add_sub_cancel_left]
theorem seg_dropS {S R : List TB} {k : Nat} : (S ++ R).drop (S.length + k) = R.drop k := drop_seg rfl
theorem seg_set0 {S R : List TB} {a c : TB} : (S ++ (a :: R)).set S.length c = S ++ (c :: R) := by rw [List.set_append_right _ _ (by omega), Nat.sub_self]; rfl
def addF (l : List SaR) (y : SaR) : Int := if sasF l = 0 then (if saF y = 0 then (match l.findIdx? (fun z => decide (z.spi = y.spi)) with
  | some _ => 7
  | none => if l.length ≥ 12 then 2 else 0) else saF y) else sasF l
theorem addR_eq (l : List SaR) (y : SaR) : addR l y = if addF l y = 0 then goodC (sasC (putS l y (pA l y.spi))) else badC (addF l y) := by
  unfold addR addF
  by_cases h1 : sasF l = 0
  · simp only [if_pos h1]
    by_cases h2 : saF y = 0
    · simp only [if_pos h2]
      cases l.findIdx? (fun z => decide (z.spi = y.spi)) with
      | some k => rfl
      | none =>
        dsimp only
        by_cases h3 : l.length ≥ 12
        · simp only [if_pos h3]; rfl
        · simp only [if_neg h3]; rfl
    · simp only [if_neg h2]
  · simp only [if_neg h1]
theorem sasC_tv (n : Nat) (l : List SaR) : tvC n (sasC l) = .os n 0 l.length := by simp only [sasC, tvC, List.length_map]
theorem sasC_bk (n : Nat) (l : List SaR) : bkC n (sasC l) = .cells 54 11 (tvRs (n + 1) (l.map saC)) :: bkRs (n + 1) (l.map saC) := by simp only [sasC, bkC]
theorem sasC_nb (l : List SaR) : nbC (sasC l) = l.length + 1 := by simp only [sasC, nbC, saC_nbs]; omega
theorem goodC_ans (l : List SaR) : ansR (goodC (sasC l)) = (.agg [.p (.int .i64 0), .os 0 0 l.length], .cells 54 11 (tvRs 1 (l.map saC)) :: bkRs 1 (l.map saC)) := by
  simp only [ansR, goodC, tvCs, tvC_v, sasC_tv, bkCs, bkC, sasC_bk, nbC, Nat.add_zero, Nat.zero_add, List.append_nil, List.nil_append]
def grantV (x : BxR) (y : SaR) : List Cell := if boxF x = 0 then (if addF x.sas y = 0 then boxK x.ad x.rules x.peers (sasC (putS x.sas y (pA x.sas y.spi))) x.now x.drops else badB (addF x.sas y)) else badB (boxF x)
noncomputable def grant_S := specP (fun x : BxR × SaR => [bxT x.1, saT x.2]) (fun x => (smallB x.1) ∧ (x.2.sels.length ≤ 1048576)) (fun x => ansR (grantV x.1 x.2))
theorem grant_at (x : BxR) (y : SaR) (h : (smallB x) ∧ (y.sels.length ≤ 1048576)) : grant_S [bxT x, saT y] = some (ansR (grantV x y)) := specP_at (enc := fun x : BxR × SaR => [bxT x.1, saT x.2]) (by rintro ⟨a0, a1⟩ ⟨b0, b1⟩ h; simp only [List.cons.injEq, and_true] at h; obtain ⟨h0, h1⟩ := h; obtain rfl := bxT_inj _ _ h0; obtain rfl := saT_inj _ _ h1; rfl) (x, y) h
-- spec.GrantSa
def c17 : AF := ⟨31,
 (.seq (.reg [rO 2 (.box 34 (.t 0)),
 rO 3 (.box 54 (.t 1)),
 rO 4 (.alloc 36 [(.int .i64 0), (.int .i64 0), (.int .i64 0), (.slice none 0 0), (.int .i64 0), (.slice none 0 0), (.slice none 0 0), (.slice none 0 0), (.int .i64 0), (.slice none 0 0)])])
 (.seq (.seq (.reg [rO 8 (.ldn 6 (.t 2)),
 rO 9 (.call 33 [(.t 8)]),
 rO 5 (.mv (.t 9))])
 (.seq (.reg [rO 10 (.mv (.t 5)),
 rO 11 (.bin .neq (.t 10) (.v (.int .i64 0)))])
 (.cond (.t 11) (.seq (.reg [rO 12 (.mv (.t 5)),
 rO 13 (.call 34 [(.t 12)]),
 ⟨none, none, .st 10 (.t 4) (.t 13)⟩])
 .ret)
 .skip)))
 (.seq (.reg [rO 14 (.fa (.t 2) 3),
 rO 15 (.ld (.t 14)),
 rO 16 (.ldn 11 (.t 3)),
 rO 17 (.call 57 [(.t 15), (.t 16)]),
 rO 6 (.alloc 78 [(.int .i64 0), (.slice none 0 0)]),
 ⟨none, none, .st 2 (.t 6) (.t 17)⟩])
 (.seq (.seq (.reg [rO 18 (.fa (.t 6) 0),
 rO 19 (.ld (.t 18)),
 rO 20 (.bin .neq (.t 19) (.v (.int .i64 0)))])
 (.cond (.t 20) (.seq (.reg [rO 21 (.fa (.t 6) 0),
 rO 22 (.ld (.t 21)),
 rO 23 (.call 34 [(.t 22)]),
 ⟨none, none, .st 10 (.t 4) (.t 23)⟩])
 .ret)
 .skip))
 (.seq (.reg [rO 24 (.ldn 6 (.t 2)),
 rO 25 (.call 36 [(.t 24)]),
 rO 7 (.alloc 34 [(.int .i64 0), (.slice none 0 0), (.slice none 0 0), (.slice none 0 0), (.int .i64 0), (.slice none 0 0)]),
 ⟨none, none, .st 6 (.t 7) (.t 25)⟩])
 (.seq (.reg [rO 26 (.fa (.t 6) 1),
 rO 27 (.ld (.t 26)),
 rO 28 (.fa (.t 7) 3),
 ⟨none, none, .st 1 (.t 28) (.t 27)⟩])
 (.seq (.reg [rO 29 (.ldn 6 (.t 7)),
 rO 30 (.build [(.int .i64 0), (.int .i64 0), (.int .i64 0), (.slice none 0 0), (.int .i64 0), (.slice none 0 0), (.slice none 0 0), (.slice none 0 0), (.int .i64 0), (.slice none 0 0)] [(4, 6, (.t 29))]),
 ⟨none, none, .st 10 (.t 4) (.t 30)⟩])
 .ret))))))),
 [.cell 4 (some 10)]⟩
theorem k17 : cFn Tryz.prog Tryz.f17 = some c17 := by kernel_rfl
theorem grantS_ok : OkT Tryz.prog 17 (pureSp grant_S) := by
  refine okT_fn (OkΓT.cons boxS_ok (OkΓT.cons bad17_ok (OkΓT.cons addS_ok (OkΓT.cons cpS_ok (OkΓT.nil _))))) Tryz.func17 (by kernel_rfl) k17 (fun x _ => ansR_own _) ?_
  rintro ⟨⟨ad, ru, pe, sa, now, dr⟩, y⟩ ⟨h, hy⟩
  have hs : smallB ⟨ad, ru, pe, sa, now, dr⟩ := h
  have qb := boxF_at ⟨ad, ru, pe, sa, now, dr⟩ hs
  have hV : grantV ⟨ad, ru, pe, sa, now, dr⟩ y = if boxF ⟨ad, ru, pe, sa, now, dr⟩ = 0 then (if addF sa y = 0 then boxK ad ru pe (sasC (putS sa y (pA sa y.spi))) now dr else badB (addF sa y)) else badB (boxF ⟨ad, ru, pe, sa, now, dr⟩) := rfl
  have hg := fun hz : boxF ⟨ad, ru, pe, sa, now, dr⟩ = 0 => goodB_of hz hs
  have qc := fun k => cp_at ⟨ad, ru, pe, sa, now, dr⟩ k
  rw [cp_ex] at qc
  have qa := add_at sa y ⟨hs.2.2.1, hy⟩
  rw [addR_eq] at qa
  dsimp only [bxT, saT] at *
  generalize boxF ⟨ad, ru, pe, sa, now, dr⟩ = B at *
  by_cases c0 : B = 0
  case neg =>
    rw [hV, if_neg c0, badB_ans]
    (dsimp only [c17, rO]; simp (maxSteps := 8000000) -implicitDefEqProofs (disch := omega) only [↓reduceIte, go_sem, qb, eq_false c0, bad17_at])
    exact endT_v (.inr rfl) (by (simp (maxSteps := 8000000) -implicitDefEqProofs (disch := omega) only [↓reduceIte, go_sem]) <;> rfl) (fun _ => rfl)
  rw [if_pos c0] at hV
  by_cases c1 : addF sa y = 0
  case neg =>
    rw [if_neg c1, badC_ans] at qa
    rw [hV, if_neg c1, badB_ans]
    generalize addF sa y = G at *
    (dsimp only [c17, rO]; simp (maxSteps := 8000000) -implicitDefEqProofs (disch := omega) only [↓reduceIte, go_sem, qb, eq_true c0, qa, eq_false c1, bad17_at])
    exact endT_v (.inr rfl) (by (simp (maxSteps := 8000000) -implicitDefEqProofs (disch := omega) only [↓reduceIte, go_sem]) <;> rfl) (fun _ => rfl)
  rw [if_pos c1, goodC_ans] at qa
  rw [hV, if_pos c1]
  dsimp only [boxK]
  obtain ⟨g1, g2, g3, g4⟩ := hg c0
  have qc := qc ⟨g1, g2, g3, g4⟩
  generalize putS sa y (pA sa y.spi) = L at *
  obtain ⟨S, eS, hS⟩ := sas_S 4 L
  obtain ⟨S2, eS2, hS2⟩ := sas_S (3 + (S.length + 1 + 1 + 1 + 1 + 1)) sa
  (dsimp only [c17, rO]; simp (maxSteps := 8000000) -implicitDefEqProofs (disch := omega) only [↓reduceIte, go_sem, qb, eq_true c0, qa, qc, eS, eS2, seg_get, seg_set0, seg_atS, seg_setS, List.set_cons_succ, ren_g_tvRs 3, ren_g_bkRs 3, ren_m_tvRs, ren_m_bkRs])
  refine endT_segs [0, 0, 0, 0, 0, S.length + 1 + 1 + 1 + 1 + 1, 1 + (S.length + 1 + 1 + 1 + 1 + 1), 3, 0, sa.length + 3 + (S.length + 1 + 1 + 1 + 1 + 1)] (.inr rfl) (by (simp (maxSteps := 8000000) -implicitDefEqProofs (disch := omega) only [↓reduceIte, go_sem, tvP, tvC_v, tvC_nl, rusC_tv, prsC_tv, sasC_tv, icsC_tv]) <;> rfl) ?_ ⟨at_none, at_none, at_none, at_none, at_none, at_cell (by simp only [List.drop_succ_cons, seg_drop1, rusC_bk]; rfl), at_cell (by rw [show 1 + (S.length + 1 + 1 + 1 + 1 + 1) = S.length + 2 + 1 + 1 + 1 + 1 by omega]; simp only [List.drop_succ_cons, seg_drop2, prsC_bk]; rfl), at_cell (by simp only [List.drop_succ_cons, List.drop_zero, sasC_bk, Nat.reduceAdd, eS]; rfl), at_none, at_cell (by rw [show sa.length + 3 + (S.length + 1 + 1 + 1 + 1 + 1) = S.length + (S2.length + 1 + 1 + 1 + 1) + 1 + 1 + 1 + 1 by omega]; simp only [List.drop_succ_cons, seg_dropS, seg_drop0, icsC_bk]; rfl), trivial⟩
  simp only [segsC, segOk, segApart, nbC, rusC_nb, prsC_nb, sasC_nb, icsC_nb, List.length_cons, List.length_append, List.length_nil, bkRs_len, saC_nbs]
  repeat' first | exact True.intro | omega | apply And.intro
-- impl.GrantSa
def c19 : AF := ⟨31,
 (.seq (.reg [rO 2 (.box 34 (.t 0)),
 rO 3 (.box 54 (.t 1)),
 rO 4 (.alloc 36 [(.int .i64 0), (.int .i64 0), (.int .i64 0), (.slice none 0 0), (.int .i64 0), (.slice none 0 0), (.slice none 0 0), (.slice none 0 0), (.int .i64 0), (.slice none 0 0)])])
 (.seq (.seq (.reg [rO 8 (.ldn 6 (.t 2)),
 rO 9 (.call 42 [(.t 8)]),
 rO 5 (.mv (.t 9))])
 (.seq (.reg [rO 10 (.mv (.t 5)),
 rO 11 (.bin .neq (.t 10) (.v (.int .i64 0)))])
 (.cond (.t 11) (.seq (.reg [rO 12 (.mv (.t 5)),
 rO 13 (.build [(.int .i64 0), (.int .i64 0), (.int .i64 0), (.slice none 0 0), (.int .i64 0), (.slice none 0 0), (.slice none 0 0), (.slice none 0 0), (.int .i64 0), (.slice none 0 0)] [(0, 1, (.t 12))]),
 ⟨none, none, .st 10 (.t 4) (.t 13)⟩])
 .ret)
 .skip)))
 (.seq (.reg [rO 14 (.fa (.t 2) 3),
 rO 15 (.ld (.t 14)),
 rO 16 (.ldn 11 (.t 3)),
 rO 17 (.call 60 [(.t 15), (.t 16)]),
 rO 6 (.alloc 78 [(.int .i64 0), (.slice none 0 0)]),
 ⟨none, none, .st 2 (.t 6) (.t 17)⟩])
 (.seq (.seq (.reg [rO 18 (.fa (.t 6) 0),
 rO 19 (.ld (.t 18)),
 rO 20 (.bin .neq (.t 19) (.v (.int .i64 0)))])
 (.cond (.t 20) (.seq (.reg [rO 21 (.fa (.t 6) 0),
 rO 22 (.ld (.t 21)),
 rO 23 (.build [(.int .i64 0), (.int .i64 0), (.int .i64 0), (.slice none 0 0), (.int .i64 0), (.slice none 0 0), (.slice none 0 0), (.slice none 0 0), (.int .i64 0), (.slice none 0 0)] [(0, 1, (.t 22))]),
 ⟨none, none, .st 10 (.t 4) (.t 23)⟩])
 .ret)
 .skip))
 (.seq (.reg [rO 24 (.ldn 6 (.t 2)),
 rO 25 (.call 44 [(.t 24)]),
 rO 7 (.alloc 34 [(.int .i64 0), (.slice none 0 0), (.slice none 0 0), (.slice none 0 0), (.int .i64 0), (.slice none 0 0)]),
 ⟨none, none, .st 6 (.t 7) (.t 25)⟩])
 (.seq (.reg [rO 26 (.fa (.t 6) 1),
 rO 27 (.ld (.t 26)),
 rO 28 (.fa (.t 7) 3),
 ⟨none, none, .st 1 (.t 28) (.t 27)⟩])
 (.seq (.reg [rO 29 (.ldn 6 (.t 7)),
 rO 30 (.build [(.int .i64 0), (.int .i64 0), (.int .i64 0), (.slice none 0 0), (.int .i64 0), (.slice none 0 0), (.slice none 0 0), (.slice none 0 0), (.int .i64 0), (.slice none 0 0)] [(4, 6, (.t 29))]),
 ⟨none, none, .st 10 (.t 4) (.t 30)⟩])
 .ret))))))),
 [.cell 4 (some 10)]⟩
theorem k19 : cFn Tryz.prog Tryz.f19 = some c19 := by kernel_rfl
theorem grantI_ok : OkT Tryz.prog 19 (pureSp grant_S) := by
  refine okT_fn (OkΓT.cons boxI_ok (OkΓT.cons addI_ok (OkΓT.cons cpI_ok (OkΓT.nil _)))) Tryz.func19 (by kernel_rfl) k19 (fun x _ => ansR_own _) ?_
  rintro ⟨⟨ad, ru, pe, sa, now, dr⟩, y⟩ ⟨h, hy⟩
  have hs : smallB ⟨ad, ru, pe, sa, now, dr⟩ := h
  have qb := boxF_at ⟨ad, ru, pe, sa, now, dr⟩ hs
  have hV : grantV ⟨ad, ru, pe, sa, now, dr⟩ y = if boxF ⟨ad, ru, pe, sa, now, dr⟩ = 0 then (if addF sa y = 0 then boxK ad ru pe (sasC (putS sa y (pA sa y.spi))) now dr else badB (addF sa y)) else badB (boxF ⟨ad, ru, pe, sa, now, dr⟩) := rfl
  have hg := fun hz : boxF ⟨ad, ru, pe, sa, now, dr⟩ = 0 => goodB_of hz hs
  have qc := fun k => cp_at ⟨ad, ru, pe, sa, now, dr⟩ k
  rw [cp_ex] at qc
  have qa := add_at sa y ⟨hs.2.2.1, hy⟩
  rw [addR_eq] at qa
  dsimp only [bxT, saT] at *
  generalize boxF ⟨ad, ru, pe, sa, now, dr⟩ = B at *
  by_cases c0 : B = 0
  case neg =>
    rw [hV, if_neg c0, badB_ans]
    (dsimp only [c19, rO]; simp (maxSteps := 8000000) -implicitDefEqProofs (disch := omega) only [↓reduceIte, go_sem, qb, eq_false c0])
    exact endT_v (.inr rfl) (by (simp (maxSteps := 8000000) -implicitDefEqProofs (disch := omega) only [↓reduceIte, go_sem]) <;> rfl) (fun _ => rfl)
  rw [if_pos c0] at hV
  by_cases c1 : addF sa y = 0
  case neg =>
    rw [if_neg c1, badC_ans] at qa
    rw [hV, if_neg c1, badB_ans]
    generalize addF sa y = G at *
    (dsimp only [c19, rO]; simp (maxSteps := 8000000) -implicitDefEqProofs (disch := omega) only [↓reduceIte, go_sem, qb, eq_true c0, qa, eq_false c1])
    exact endT_v (.inr rfl) (by (simp (maxSteps := 8000000) -implicitDefEqProofs (disch := omega) only [↓reduceIte, go_sem]) <;> rfl) (fun _ => rfl)
  rw [if_pos c1, goodC_ans] at qa
  rw [hV, if_pos c1]
  dsimp only [boxK]
  obtain ⟨g1, g2, g3, g4⟩ := hg c0
  have qc := qc ⟨g1, g2, g3, g4⟩
  generalize putS sa y (pA sa y.spi) = L at *
  obtain ⟨S, eS, hS⟩ := sas_S 4 L
  obtain ⟨S2, eS2, hS2⟩ := sas_S (3 + (S.length + 1 + 1 + 1 + 1 + 1)) sa
  (dsimp only [c19, rO]; simp (maxSteps := 8000000) -implicitDefEqProofs (disch := omega) only [↓reduceIte, go_sem, qb, eq_true c0, qa, qc, eS, eS2, seg_get, seg_set0, seg_atS, seg_setS, List.set_cons_succ, ren_g_tvRs 3, ren_g_bkRs 3, ren_m_tvRs, ren_m_bkRs])
  refine endT_segs [0, 0, 0, 0, 0, S.length + 1 + 1 + 1 + 1 + 1, 1 + (S.length + 1 + 1 + 1 + 1 + 1), 3, 0, sa.length + 3 + (S.length + 1 + 1 + 1 + 1 + 1)] (.inr rfl) (by (simp (maxSteps := 8000000) -implicitDefEqProofs (disch := omega) only [↓reduceIte, go_sem, tvP, tvC_v, tvC_nl, rusC_tv, prsC_tv, sasC_tv, icsC_tv]) <;> rfl) ?_ ⟨at_none, at_none, at_none, at_none, at_none, at_cell (by simp only [List.drop_succ_cons, seg_drop1, rusC_bk]; rfl), at_cell (by rw [show 1 + (S.length + 1 + 1 + 1 + 1 + 1) = S.length + 2 + 1 + 1 + 1 + 1 by omega]; simp only [List.drop_succ_cons, seg_drop2, prsC_bk]; rfl), at_cell (by simp only [List.drop_succ_cons, List.drop_zero, sasC_bk, Nat.reduceAdd, eS]; rfl), at_none, at_cell (by rw [show sa.length + 3 + (S.length + 1 + 1 + 1 + 1 + 1) = S.length + (S2.length + 1 + 1 + 1 + 1) + 1 + 1 + 1 + 1 by omega]; simp only [List.drop_succ_cons, seg_dropS, seg_drop0, icsC_bk]; rfl), trivial⟩
  simp only [segsC, segOk, segApart, nbC, rusC_nb, prsC_nb, sasC_nb, icsC_nb, List.length_cons, List.length_append, List.length_nil, bkRs_len, saC_nbs]
  repeat' first | exact True.intro | omega | apply And.intro
end Go.Proofs.YtghpdclhhnbgjaaGreat
