import Derived.Test.YtghpdclhhnbgjaaGreatF6
set_option linter.unusedSimpArgs false
set_option linter.unusedVariables false
set_option maxRecDepth 100000
set_option maxHeartbeats 4000000
namespace Go.Proofs.YtghpdclhhnbgjaaGreat
open Go Go.AH
attribute [local irreducible] awpT ropsT qopsT stepT condKT gdKT EndT joinK loopKT seqKT blkKT kont kontR
/-! Boxes ticked -/

theorem seg_get {S R : List TB} {a : TB} : (S ++ (a :: R))[S.length]? = some a := by rw [List.getElem?_append_right (by omega), Nat.sub_self]; rfl
theorem seg_get1 {S R : List TB} {a b : TB} : (S ++ (a :: b :: R))[S.length + 1]? = some b := by rw [List.getElem?_append_right (by omega), Nat.add_sub_cancel_left]; rfl
theorem seg_set1 {S R : List TB} {a b c : TB} : (S ++ (a :: b :: R)).set (S.length + 1) c = S ++ (a :: c :: R) := by rw [List.set_append_right _ _ (by omega), Nat.add_sub_cancel_left]; rfl
theorem seg_drop1 {S R : List TB} {a : TB} : (S ++ (a :: R)).drop (S.length + 1) = R := drop_seg rfl
theorem seg_drop2 {S R : List TB} {a b : TB} : (S ++ (a :: b :: R)).drop (S.length + 2) = R := drop_seg rfl
theorem seg_drop0 {S R : List TB} : (S ++ R).drop S.length = R := List.drop_left
theorem ren_g_tvRs (m n : Nat) (rs : List (List Cell)) : renTs (fun b => b + n) (tvRs m rs) = tvRs (m + n) rs := ren_tvRs rs m (m + n) fun i _ => by omega
theorem ren_g_bkRs (m n : Nat) (rs : List (List Cell)) : (bkRs m rs).map (renB fun b => b + n) = bkRs (m + n) rs := ren_bkRs rs m (m + n) fun i _ => by omega
def boxK (ad : Int) (ru : List RuR) (pe : List PrR) (sa : Cell) (now : Int) (dr : List Int) : List Cell := [.v (.int .i64 0), .v (.int .i64 0), .v (.int .i64 0), .nl, .v (.int .i64 ad), rusC ru, prsC pe, sa, .v (.int .i64 now), icsC dr]
def badB (f : Int) : List Cell := [.v (.int .i64 f), .v (.int .i64 0), .v (.int .i64 0), .nl, .v (.int .i64 0), .nl, .nl, .nl, .v (.int .i64 0), .nl]
theorem badB_ans (f : Int) : ansR (badB f) = (.agg [.p (.int .i64 f), .p (.int .i64 0), .p (.int .i64 0), .nl, .p (.int .i64 0), .nl, .nl, .nl, .p (.int .i64 0), .nl], []) := rfl
theorem boxF_zero {x : BxR} (h : boxF x = 0) : (0 ≤ x.now ∧ x.now ≤ 1000000000) ∧ sasF x.sas = 0 ∧ x.drops.length = 11 ∧ tickL x.drops = true ∧ polF x.rules = 0 ∧ peeF x.peers = 0 ∧ (0 ≤ x.ad ∧ x.ad ≤ 4294967295) := by
  unfold boxF at h
  split at h
  · rename_i k
    split at h
    · rename_i k1
      split at h
      · rename_i k2
        split at h
        · rename_i k3
          split at h
          · rename_i k4; exact ⟨k.2, k3, by omega, k4.2, k1, k2, k.1⟩
          · cases h
        · rename_i k3; exact absurd h k3
      · rename_i k2; exact absurd h k2
    · rename_i k1; exact absurd h k1
  · cases h
theorem goodB_of {x : BxR} (h : boxF x = 0) (hs : smallB x) : goodB x := ⟨hs.1, hs.2.1, goodL_of (boxF_zero h).2.1, hs.2.2.2⟩
theorem cp_ex (ad : Int) (ru : List RuR) (pe : List PrR) (sa : List SaR) (now : Int) (dr : List Int) : ansR (cpV ⟨ad, ru, pe, sa, now, dr⟩) = (.agg [.p (.int .i64 ad), .os 0 0 ru.length, .os 1 0 pe.length, .os 2 0 sa.length, .p (.int .i64 now), .os (sa.length + 3) 0 dr.length], .cells 105 11 (rowsT ruT ru) :: .cells 131 2 (rowsT prT pe) :: .cells 54 (zOf sa.length 11) (tvRs 3 (sa.map saC)) :: (bkRs 3 (sa.map saC) ++ [.cells 2 1 (isT dr)])) := by
  have e : 0 + 0 + 1 + 1 + (sa.length + 1) + 0 = sa.length + 3 := by omega
  simp only [ansR, cpV, tvCs, tvC_v, rusC_tv, prsC_tv, sasK_tv, icsC_tv, nbC, rusC_nb, prsC_nb, sasK_nb, icsC_nb, bkCs, bkC, rusC_bk, prsC_bk, sasK_bk, icsC_bk, List.nil_append, List.append_nil, List.cons_append, e, Nat.add_zero, Nat.zero_add, Nat.reduceAdd]
theorem goodK_ans (l : List SaR) : ansR (goodC (sasK l)) = (.agg [.p (.int .i64 0), .os 0 0 l.length], .cells 54 (zOf l.length 11) (tvRs 1 (l.map saC)) :: bkRs 1 (l.map saC)) := by
  simp only [ansR, goodC, tvCs, tvC_v, sasK_tv, bkCs, bkC, sasK_bk, nbC, Nat.add_zero, Nat.zero_add, List.append_nil, List.nil_append]
theorem expire_at (l : List SaR) (n : Int) (h : smallL l) : expire_S [.s (rowsT saT l), .p (.int .i64 n)] = some (ansR (expR l n)) := specP_at (enc := fun x : List SaR × Int => [.s (rowsT saT x.1), .p (.int .i64 x.2)]) las_inj (l, n) h
def tickV (x : BxR) (n : Int) : List Cell := if boxF x = 0 then (if 0 ≤ n ∧ n ≤ 1000000 then (if x.now + n > 1000000000 then badB 3 else boxK x.ad x.rules x.peers (sasK (x.sas.filter (lateU (x.now + n)))) (x.now + n) x.drops) else badB 3) else badB (boxF x)
noncomputable def tickB_S := specP (fun x : BxR × Int => [bxT x.1, .p (.int .i64 x.2)]) (fun x => smallB x.1) (fun x => ansR (tickV x.1 x.2))
theorem tickB_at (x : BxR) (n : Int) (h : smallB x) : tickB_S [bxT x, .p (.int .i64 n)] = some (ansR (tickV x n)) := specP_at (enc := fun x : BxR × Int => [bxT x.1, .p (.int .i64 x.2)]) (by rintro ⟨a0, a1⟩ ⟨b0, b1⟩ h; simp only [List.cons.injEq, and_true] at h; obtain ⟨h0, h1⟩ := h; obtain rfl := bxT_inj _ _ h0; obtain rfl := p64_inj h1; rfl) (x, n) h
-- spec.TickBox
def c8 : AF := ⟨39,
 (.seq (.reg [rO 2 (.box 34 (.t 0)),
 rO 4 (.alloc 36 [(.int .i64 0), (.int .i64 0), (.int .i64 0), (.slice none 0 0), (.int .i64 0), (.slice none 0 0), (.slice none 0 0), (.slice none 0 0), (.int .i64 0), (.slice none 0 0)])])
 (.seq (.seq (.reg [rO 7 (.ldn 6 (.t 2)),
 rO 8 (.call 33 [(.t 7)]),
 rO 5 (.mv (.t 8))])
 (.seq (.reg [rO 9 (.mv (.t 5)),
 rO 10 (.bin .neq (.t 9) (.v (.int .i64 0)))])
 (.cond (.t 10) (.seq (.reg [rO 11 (.mv (.t 5)),
 rO 12 (.call 34 [(.t 11)]),
 ⟨none, none, .st 10 (.t 4) (.t 12)⟩])
 .ret)
 .skip)))
 (.seq (.seq (.reg [rO 13 (.mv (.t 1)),
 rO 14 (.call 35 [(.t 13), (.v (.int .i64 0)), (.v (.int .i64 1000000))]),
 rO 15 (.un .not (.t 14)),
 rO 16 (.mv (.t 15)),
 ⟨(some 17), (some (16, false)), .fa (.t 2) 4⟩,
 ⟨(some 18), (some (16, false)), .ld (.t 17)⟩,
 ⟨(some 19), (some (16, false)), .mv (.t 1)⟩,
 ⟨(some 20), (some (16, false)), .bin .add (.t 18) (.t 19)⟩,
 ⟨(some 21), (some (16, false)), .bin .gtr (.t 20) (.v (.int .i64 1000000000))⟩,
 rO 22 (.pick (.t 16) (.v (.bool true)) (.t 21))])
 (.cond (.t 22) (.seq (.reg [rO 23 (.call 34 [(.v (.int .i64 3))]),
 ⟨none, none, .st 10 (.t 4) (.t 23)⟩])
 .ret)
 .skip))
 (.seq (.reg [rO 24 (.ldn 6 (.t 2)),
 rO 25 (.call 36 [(.t 24)]),
 rO 6 (.alloc 34 [(.int .i64 0), (.slice none 0 0), (.slice none 0 0), (.slice none 0 0), (.int .i64 0), (.slice none 0 0)]),
 ⟨none, none, .st 6 (.t 6) (.t 25)⟩])
 (.seq (.reg [rO 26 (.fa (.t 2) 4),
 rO 27 (.ld (.t 26)),
 rO 28 (.mv (.t 1)),
 rO 29 (.bin .add (.t 27) (.t 28)),
 rO 30 (.fa (.t 6) 4),
 ⟨none, none, .st 1 (.t 30) (.t 29)⟩])
 (.seq (.reg [rO 31 (.fa (.t 2) 3),
 rO 32 (.ld (.t 31)),
 rO 33 (.fa (.t 6) 4),
 rO 34 (.ld (.t 33)),
 rO 35 (.call 37 [(.t 32), (.t 34)]),
 rO 36 (.fa (.t 6) 3),
 ⟨none, none, .st 1 (.t 36) (.t 35)⟩])
 (.seq (.reg [rO 37 (.ldn 6 (.t 6)),
 rO 38 (.build [(.int .i64 0), (.int .i64 0), (.int .i64 0), (.slice none 0 0), (.int .i64 0), (.slice none 0 0), (.slice none 0 0), (.slice none 0 0), (.int .i64 0), (.slice none 0 0)] [(4, 6, (.t 37))]),
 ⟨none, none, .st 10 (.t 4) (.t 38)⟩])
 .ret))))))),
 [.cell 4 (some 10)]⟩
theorem k8 : cFn Tryz.prog Tryz.f8 = some c8 := by kernel_rfl
theorem tickS_ok : OkT Tryz.prog 8 (pureSp tickB_S) := by
  refine okT_fn (OkΓT.cons boxS_ok (OkΓT.cons bad17_ok (OkΓT.cons l1In_ok (OkΓT.cons cpS_ok (OkΓT.cons l16Expire_ok (OkΓT.nil _)))))) Tryz.func8 (by kernel_rfl) k8 (fun x _ => ansR_own _) ?_
  rintro ⟨⟨ad, ru, pe, sa, now, dr⟩, n⟩ h
  have hs : smallB ⟨ad, ru, pe, sa, now, dr⟩ := h
  have qb := boxF_at ⟨ad, ru, pe, sa, now, dr⟩ hs
  have hV : tickV ⟨ad, ru, pe, sa, now, dr⟩ n = if boxF ⟨ad, ru, pe, sa, now, dr⟩ = 0 then (if 0 ≤ n ∧ n ≤ 1000000 then (if now + n > 1000000000 then badB 3 else boxK ad ru pe (sasK (sa.filter (lateU (now + n)))) (now + n) dr) else badB 3) else badB (boxF ⟨ad, ru, pe, sa, now, dr⟩) := rfl
  have hg := fun hz : boxF ⟨ad, ru, pe, sa, now, dr⟩ = 0 => goodB_of hz hs
  have hz := fun hz : boxF ⟨ad, ru, pe, sa, now, dr⟩ = 0 => boxF_zero hz
  have qc := fun k => cp_at ⟨ad, ru, pe, sa, now, dr⟩ k
  rw [cp_ex] at qc
  dsimp only [bxT] at *
  generalize boxF ⟨ad, ru, pe, sa, now, dr⟩ = B at *
  by_cases c0 : B = 0
  case neg =>
    rw [hV, if_neg c0, badB_ans]
    (dsimp only [c8, rO]; simp (maxSteps := 8000000) -implicitDefEqProofs (disch := omega) only [↓reduceIte, go_sem, qb, eq_false c0, bad17_at])
    exact endT_v (.inr rfl) (by (simp (maxSteps := 8000000) -implicitDefEqProofs (disch := omega) only [↓reduceIte, go_sem]) <;> rfl) (fun _ => rfl)
  rw [if_pos c0] at hV
  by_cases c1 : 0 ≤ n ∧ n ≤ 1000000
  case neg =>
    rw [hV, if_neg c1, badB_ans]
    (dsimp only [c8, rO]; simp (maxSteps := 8000000) -implicitDefEqProofs (disch := omega) only [↓reduceIte, go_sem, qb, eq_true c0, in_at, eq_false c1, bad17_at])
    exact endT_v (.inr rfl) (by (simp (maxSteps := 8000000) -implicitDefEqProofs (disch := omega) only [↓reduceIte, go_sem]) <;> rfl) (fun _ => rfl)
  rw [if_pos c1] at hV
  by_cases c2 : now + n > 1000000000
  case pos =>
    rw [hV, if_pos c2, badB_ans]
    (dsimp only [c8, rO]; simp (maxSteps := 8000000) -implicitDefEqProofs (disch := omega) only [↓reduceIte, go_sem, qb, eq_true c0, in_at, eq_true c1, eq_true c2, bad17_at])
    exact endT_v (.inr rfl) (by (simp (maxSteps := 8000000) -implicitDefEqProofs (disch := omega) only [↓reduceIte, go_sem]) <;> rfl) (fun _ => rfl)
  rw [hV, if_neg c2]
  dsimp only [boxK]
  obtain ⟨g1, g2, g3, g4⟩ := hg c0
  obtain ⟨z1, z2, _⟩ := hz c0
  have qc := qc ⟨g1, g2, g3, g4⟩
  obtain ⟨S, eS, hS⟩ := sas_S 5 sa
  have qe := exp_at sa (now + n) g3
  rw [keepK] at qe
  (dsimp only [c8, rO]; simp (maxSteps := 8000000) -implicitDefEqProofs (disch := omega) only [↓reduceIte, go_sem, qb, eq_true c0, in_at, eq_true c1, eq_false c2, qc, qe, seg_get, seg_get1, seg_set1, ren_g_tvRs 3, ren_g_bkRs 3, ren_m_tvRs, ren_m_bkRs, eS])
  refine endT_segs [0, 0, 0, 0, 0, 2, 3, S.length + 2 + 1 + 1 + 1 + 1 + 1, 0, sa.length + 3 + 2] (.inr rfl) (by (simp (maxSteps := 8000000) -implicitDefEqProofs (disch := omega) only [↓reduceIte, go_sem, tvP, tvC_v, tvC_nl, rusC_tv, prsC_tv, sasK_tv, icsC_tv]) <;> rfl) ?_ ⟨at_none, at_none, at_none, at_none, at_none, at_cell (by simp only [List.drop_succ_cons, List.drop_zero, rusC_bk]; rfl), at_cell (by simp only [List.drop_succ_cons, List.drop_zero, prsC_bk]; rfl), at_cell (C := []) (by simp only [List.drop_succ_cons, List.drop_zero, seg_drop2, sasK_bk, List.append_nil]), at_none, at_cell (by rw [show sa.length + 3 + 2 = S.length + 1 + 1 + 1 + 1 + 1 by omega]; simp only [List.drop_succ_cons, seg_drop0, icsC_bk]; rfl), trivial⟩
  simp only [segsC, segOk, segApart, nbC, rusC_nb, prsC_nb, sasK_nb, icsC_nb, List.length_cons, List.length_append, List.length_nil, bkRs_len, saC_nbs]
  repeat' first | exact True.intro | omega | apply And.intro
-- impl.TickBox
def c10 : AF := ⟨40,
 (.seq (.reg [rO 2 (.box 34 (.t 0)),
 rO 4 (.alloc 36 [(.int .i64 0), (.int .i64 0), (.int .i64 0), (.slice none 0 0), (.int .i64 0), (.slice none 0 0), (.slice none 0 0), (.slice none 0 0), (.int .i64 0), (.slice none 0 0)])])
 (.seq (.seq (.reg [rO 7 (.ldn 6 (.t 2)),
 rO 8 (.call 42 [(.t 7)]),
 rO 5 (.mv (.t 8))])
 (.seq (.reg [rO 9 (.mv (.t 5)),
 rO 10 (.bin .neq (.t 9) (.v (.int .i64 0)))])
 (.cond (.t 10) (.seq (.reg [rO 11 (.mv (.t 5)),
 rO 12 (.build [(.int .i64 0), (.int .i64 0), (.int .i64 0), (.slice none 0 0), (.int .i64 0), (.slice none 0 0), (.slice none 0 0), (.slice none 0 0), (.int .i64 0), (.slice none 0 0)] [(0, 1, (.t 11))]),
 ⟨none, none, .st 10 (.t 4) (.t 12)⟩])
 .ret)
 .skip)))
 (.seq (.seq (.reg [rO 13 (.mv (.t 1)),
 rO 14 (.call 43 [(.t 13), (.v (.int .i64 0)), (.v (.int .i64 1000000))]),
 rO 15 (.un .not (.t 14)),
 rO 16 (.mv (.t 15)),
 ⟨(some 17), (some (16, false)), .fa (.t 2) 4⟩,
 ⟨(some 18), (some (16, false)), .ld (.t 17)⟩,
 ⟨(some 19), (some (16, false)), .mv (.t 1)⟩,
 ⟨(some 20), (some (16, false)), .bin .add (.t 18) (.t 19)⟩,
 ⟨(some 21), (some (16, false)), .bin .gtr (.t 20) (.v (.int .i64 1000000000))⟩,
 rO 22 (.pick (.t 16) (.v (.bool true)) (.t 21))])
 (.cond (.t 22) (.seq (.reg [rO 23 (.build [(.int .i64 0), (.int .i64 0), (.int .i64 0), (.slice none 0 0), (.int .i64 0), (.slice none 0 0), (.slice none 0 0), (.slice none 0 0), (.int .i64 0), (.slice none 0 0)] [(0, 1, (.v (.int .i64 3)))]),
 ⟨none, none, .st 10 (.t 4) (.t 23)⟩])
 .ret)
 .skip))
 (.seq (.reg [rO 24 (.ldn 6 (.t 2)),
 rO 25 (.call 44 [(.t 24)]),
 rO 6 (.alloc 34 [(.int .i64 0), (.slice none 0 0), (.slice none 0 0), (.slice none 0 0), (.int .i64 0), (.slice none 0 0)]),
 ⟨none, none, .st 6 (.t 6) (.t 25)⟩])
 (.seq (.reg [rO 26 (.fa (.t 6) 4),
 rO 27 (.ld (.t 26)),
 rO 28 (.mv (.t 1)),
 rO 29 (.bin .add (.t 27) (.t 28)),
 rO 30 (.fa (.t 6) 4),
 ⟨none, none, .st 1 (.t 30) (.t 29)⟩])
 (.seq (.reg [rO 31 (.fa (.t 2) 3),
 rO 32 (.ld (.t 31)),
 rO 33 (.fa (.t 6) 4),
 rO 34 (.ld (.t 33)),
 rO 35 (.call 45 [(.t 32), (.t 34)]),
 rO 36 (.fld (.t 35) 1),
 rO 37 (.fa (.t 6) 3),
 ⟨none, none, .st 1 (.t 37) (.t 36)⟩])
 (.seq (.reg [rO 38 (.ldn 6 (.t 6)),
 rO 39 (.build [(.int .i64 0), (.int .i64 0), (.int .i64 0), (.slice none 0 0), (.int .i64 0), (.slice none 0 0), (.slice none 0 0), (.slice none 0 0), (.int .i64 0), (.slice none 0 0)] [(4, 6, (.t 38))]),
 ⟨none, none, .st 10 (.t 4) (.t 39)⟩])
 .ret))))))),
 [.cell 4 (some 10)]⟩
theorem k10 : cFn Tryz.prog Tryz.f10 = some c10 := by kernel_rfl
theorem tickI_ok : OkT Tryz.prog 10 (pureSp tickB_S) := by
  refine okT_fn (OkΓT.cons boxI_ok (OkΓT.cons in_ok (OkΓT.cons cpI_ok (OkΓT.cons expI_ok (OkΓT.nil _))))) Tryz.func10 (by kernel_rfl) k10 (fun x _ => ansR_own _) ?_
  rintro ⟨⟨ad, ru, pe, sa, now, dr⟩, n⟩ h
  have hs : smallB ⟨ad, ru, pe, sa, now, dr⟩ := h
  have qb := boxF_at ⟨ad, ru, pe, sa, now, dr⟩ hs
  have hV : tickV ⟨ad, ru, pe, sa, now, dr⟩ n = if boxF ⟨ad, ru, pe, sa, now, dr⟩ = 0 then (if 0 ≤ n ∧ n ≤ 1000000 then (if now + n > 1000000000 then badB 3 else boxK ad ru pe (sasK (sa.filter (lateU (now + n)))) (now + n) dr) else badB 3) else badB (boxF ⟨ad, ru, pe, sa, now, dr⟩) := rfl
  have hg := fun hz : boxF ⟨ad, ru, pe, sa, now, dr⟩ = 0 => goodB_of hz hs
  have hz := fun hz : boxF ⟨ad, ru, pe, sa, now, dr⟩ = 0 => boxF_zero hz
  have qc := fun k => cp_at ⟨ad, ru, pe, sa, now, dr⟩ k
  rw [cp_ex] at qc
  dsimp only [bxT] at *
  generalize boxF ⟨ad, ru, pe, sa, now, dr⟩ = B at *
  by_cases c0 : B = 0
  case neg =>
    rw [hV, if_neg c0, badB_ans]
    (dsimp only [c10, rO]; simp (maxSteps := 8000000) -implicitDefEqProofs (disch := omega) only [↓reduceIte, go_sem, qb, eq_false c0])
    exact endT_v (.inr rfl) (by (simp (maxSteps := 8000000) -implicitDefEqProofs (disch := omega) only [↓reduceIte, go_sem]) <;> rfl) (fun _ => rfl)
  rw [if_pos c0] at hV
  by_cases c1 : 0 ≤ n ∧ n ≤ 1000000
  case neg =>
    rw [hV, if_neg c1, badB_ans]
    (dsimp only [c10, rO]; simp (maxSteps := 8000000) -implicitDefEqProofs (disch := omega) only [↓reduceIte, go_sem, qb, eq_true c0, in_at, eq_false c1])
    exact endT_v (.inr rfl) (by (simp (maxSteps := 8000000) -implicitDefEqProofs (disch := omega) only [↓reduceIte, go_sem]) <;> rfl) (fun _ => rfl)
  rw [if_pos c1] at hV
  by_cases c2 : now + n > 1000000000
  case pos =>
    rw [hV, if_pos c2, badB_ans]
    (dsimp only [c10, rO]; simp (maxSteps := 8000000) -implicitDefEqProofs (disch := omega) only [↓reduceIte, go_sem, qb, eq_true c0, in_at, eq_true c1, eq_true c2])
    exact endT_v (.inr rfl) (by (simp (maxSteps := 8000000) -implicitDefEqProofs (disch := omega) only [↓reduceIte, go_sem]) <;> rfl) (fun _ => rfl)
  rw [hV, if_neg c2]
  dsimp only [boxK]
  obtain ⟨g1, g2, g3, g4⟩ := hg c0
  obtain ⟨z1, z2, _⟩ := hz c0
  have qc := qc ⟨g1, g2, g3, g4⟩
  obtain ⟨S, eS, hS⟩ := sas_S 5 sa
  have qe := expire_at sa (now + n) hs.2.2.1
  rw [expR, if_pos z2, if_pos ⟨by omega, by omega⟩, goodK_ans] at qe
  (dsimp only [c10, rO]; simp (maxSteps := 8000000) -implicitDefEqProofs (disch := omega) only [↓reduceIte, go_sem, qb, eq_true c0, in_at, eq_true c1, eq_false c2, qc, qe, seg_get, seg_get1, seg_set1, ren_g_tvRs 3, ren_g_bkRs 3, ren_m_tvRs, ren_m_bkRs, eS])
  refine endT_segs [0, 0, 0, 0, 0, 2, 3, S.length + 2 + 1 + 1 + 1 + 1 + 1, 0, sa.length + 3 + 2] (.inr rfl) (by (simp (maxSteps := 8000000) -implicitDefEqProofs (disch := omega) only [↓reduceIte, go_sem, tvP, tvC_v, tvC_nl, rusC_tv, prsC_tv, sasK_tv, icsC_tv]) <;> rfl) ?_ ⟨at_none, at_none, at_none, at_none, at_none, at_cell (by simp only [List.drop_succ_cons, List.drop_zero, rusC_bk]; rfl), at_cell (by simp only [List.drop_succ_cons, List.drop_zero, prsC_bk]; rfl), at_cell (C := []) (by simp only [List.drop_succ_cons, List.drop_zero, seg_drop2, sasK_bk, List.append_nil]), at_none, at_cell (by rw [show sa.length + 3 + 2 = S.length + 1 + 1 + 1 + 1 + 1 by omega]; simp only [List.drop_succ_cons, seg_drop0, icsC_bk]; rfl), trivial⟩
  simp only [segsC, segOk, segApart, nbC, rusC_nb, prsC_nb, sasK_nb, icsC_nb, List.length_cons, List.length_append, List.length_nil, bkRs_len, saC_nbs]
  repeat' first | exact True.intro | omega | apply And.intro
end Go.Proofs.YtghpdclhhnbgjaaGreat
