import Derived.Test.YtghpdclhhnbgjaaGreatF6
set_option linter.unusedSimpArgs false
set_option linter.unusedVariables false
set_option maxRecDepth 100000
set_option maxHeartbeats 4000000
namespace Go.Proofs.YtghpdclhhnbgjaaGreat
open Go Go.AH
attribute [local irreducible] awpT ropsT qopsT stepT condKT gdKT EndT joinK loopKT seqKT blkKT kont kontR
/-! Boxes ticked -/

theorem seg_get {S R : List TB} {a : TB} : (S ++ (a :: R))[S.length]? = some a := by rw [List.getElem?_append_right (by omega), Nat.sub_self]; rfl
theorem seg_drop1 {S R : List TB} {a : TB} : (S ++ (a :: R)).drop (S.length + 1) = R := drop_seg rfl
theorem seg_drop2 {S R : List TB} {a b : TB} : (S ++ (a :: b :: R)).drop (S.length + 2) = R := drop_seg rfl
theorem seg_drop0 {S R : List TB} : (S ++ R).drop S.length = R := List.drop_left
theorem ren_g_tvRs (m n : Nat) (rs : List (List Cell)) : renTs (fun b => b + n) (tvRs m rs) = tvRs (m + n) rs := ren_tvRs rs m (m + n) fun i _ => by omega
theorem ren_g_bkRs (m n : Nat) (rs : List (List Cell)) : (bkRs m rs).map (renB fun b => b + n) = bkRs (m + n) rs := ren_bkRs rs m (m + n) fun i _ => by omega
def boxK (ad : Int) (ru : List RuR) (pe : List PrR) (sa : Cell) (now : Int) (dr : List Int) : List Cell := [.v (.int .i64 0), .v (.int .i64 0), .v (.int .i64 0), .nl, .v (.int .i64 ad), rusC ru, prsC pe, sa, .v (.int .i64 now), icsC dr]
def badB (f : Int) : List Cell := [.v (.int .i64 f), .v (.int .i64 0), .v (.int .i64 0), .nl, .v (.int .i64 0), .nl, .nl, .nl, .v (.int .i64 0), .nl]
theorem badB_ans (f : Int) : ansR (badB f) = (.agg [.p (.int .i64 f), .p (.int .i64 0), .p (.int .i64 0), .nl, .p (.int .i64 0), .nl, .nl, .nl, .p (.int .i64 0), .nl], []) := rfl
theorem boxF_zero {x : BxR} (h : boxF x = 0) : (0 ≤ x.now ∧ x.now ≤ 1000000000) ∧ sasF x.sas = 0 ∧ x.drops.length = 11 ∧ tickL x.drops = true ∧ polF x.rules = 0 ∧ peeF x.peers = 0 ∧ (0 ≤ x.ad ∧ x.ad ≤ 4294967295) := by
  unfold boxF at h
  split at h
  · rename_i k
    split at h
    · rename_i k1
      split at h
      · rename_i k2
        split at h
        · rename_i k3
          split at h
          · rename_i k4; exact ⟨k.2, k3, by omega, k4.2, k1, k2, k.1⟩
          · cases h
        · rename_i k3; exact absurd h k3
      · rename_i k2; exact absurd h k2
    · rename_i k1; exact absurd h k1
  · cases h
theorem goodB_of {x : BxR} (h : boxF x = 0) (hs : smallB x) : goodB x := ⟨hs.1, hs.2.1, goodL_of (boxF_zero h).2.1, hs.2.2.2⟩
theorem cp_ex (ad : Int) (ru : List RuR) (pe : List PrR) (sa : List SaR) (now : Int) (dr : List Int) : ansR (cpV ⟨ad, ru, pe, sa, now, dr⟩) = (.agg [.p (.int .i64 ad), .os 0 0 ru.length, .os 1 0 pe.length, .os 2 0 sa.length, .p (.int .i64 now), .os (sa.length + 3) 0 dr.length], .cells 105 11 (rowsT ruT ru) :: .cells 131 2 (rowsT prT pe) :: .cells 54 (zOf sa.length 11) (tvRs 3 (sa.map saC)) :: (bkRs 3 (sa.map saC) ++ [.cells 2 1 (isT dr)])) := by
  have e : 0 + 0 + 1 + 1 + (sa.length + 1) + 0 = sa.length + 3 := by omega
  simp only [ansR, cpV, tvCs, tvC_v, rusC_tv, prsC_tv, sasK_tv, icsC_tv, nbC, rusC_nb, prsC_nb, sasK_nb, icsC_nb, bkCs, bkC, rusC_bk, prsC_bk, sasK_bk, icsC_bk, List.nil_append, List.append_nil, List.cons_append, e, Nat.add_zero, Nat.zero_add, Nat.reduceAdd]
-- impl.TickBox
def c10 : AF := ⟨40,
 (.seq (.reg [rO 2 (.box 34 (.t 0)),
 rO 4 (.alloc 36 [(.int .i64 0), (.int .i64 0), (.int .i64 0), (.slice none 0 0), (.int .i64 0), (.slice none 0 0), (.slice none 0 0), (.slice none 0 0), (.int .i64 0), (.slice none 0 0)])])
 (.seq (.seq (.reg [rO 7 (.ldn 6 (.t 2)),
 rO 8 (.call 42 [(.t 7)]),
 rO 5 (.mv (.t 8))])
 (.seq (.reg [rO 9 (.mv (.t 5)),
 rO 10 (.bin .neq (.t 9) (.v (.int .i64 0)))])
 (.cond (.t 10) (.seq (.reg [rO 11 (.mv (.t 5)),
 rO 12 (.build [(.int .i64 0), (.int .i64 0), (.int .i64 0), (.slice none 0 0), (.int .i64 0), (.slice none 0 0), (.slice none 0 0), (.slice none 0 0), (.int .i64 0), (.slice none 0 0)] [(0, 1, (.t 11))]),
 ⟨none, none, .st 10 (.t 4) (.t 12)⟩])
 .ret)
 .skip)))
 (.seq (.seq (.reg [rO 13 (.mv (.t 1)),
 rO 14 (.call 43 [(.t 13), (.v (.int .i64 0)), (.v (.int .i64 1000000))]),
 rO 15 (.un .not (.t 14)),
 rO 16 (.mv (.t 15)),
 ⟨(some 17), (some (16, false)), .fa (.t 2) 4⟩,
 ⟨(some 18), (some (16, false)), .ld (.t 17)⟩,
 ⟨(some 19), (some (16, false)), .mv (.t 1)⟩,
 ⟨(some 20), (some (16, false)), .bin .add (.t 18) (.t 19)⟩,
 ⟨(some 21), (some (16, false)), .bin .gtr (.t 20) (.v (.int .i64 1000000000))⟩,
 rO 22 (.pick (.t 16) (.v (.bool true)) (.t 21))])
 (.cond (.t 22) (.seq (.reg [rO 23 (.build [(.int .i64 0), (.int .i64 0), (.int .i64 0), (.slice none 0 0), (.int .i64 0), (.slice none 0 0), (.slice none 0 0), (.slice none 0 0), (.int .i64 0), (.slice none 0 0)] [(0, 1, (.v (.int .i64 3)))]),
 ⟨none, none, .st 10 (.t 4) (.t 23)⟩])
 .ret)
 .skip))
 (.seq (.reg [rO 24 (.ldn 6 (.t 2)),
 rO 25 (.call 44 [(.t 24)]),
 rO 6 (.alloc 34 [(.int .i64 0), (.slice none 0 0), (.slice none 0 0), (.slice none 0 0), (.int .i64 0), (.slice none 0 0)]),
 ⟨none, none, .st 6 (.t 6) (.t 25)⟩])
 (.seq (.reg [rO 26 (.fa (.t 6) 4),
 rO 27 (.ld (.t 26)),
 rO 28 (.mv (.t 1)),
 rO 29 (.bin .add (.t 27) (.t 28)),
 rO 30 (.fa (.t 6) 4),
 ⟨none, none, .st 1 (.t 30) (.t 29)⟩])
 (.seq (.reg [rO 31 (.fa (.t 2) 3),
 rO 32 (.ld (.t 31)),
 rO 33 (.fa (.t 6) 4),
 rO 34 (.ld (.t 33)),
 rO 35 (.call 45 [(.t 32), (.t 34)]),
 rO 36 (.fld (.t 35) 1),
 rO 37 (.fa (.t 6) 3),
 ⟨none, none, .st 1 (.t 37) (.t 36)⟩])
 (.seq (.reg [rO 38 (.ldn 6 (.t 6)),
 rO 39 (.build [(.int .i64 0), (.int .i64 0), (.int .i64 0), (.slice none 0 0), (.int .i64 0), (.slice none 0 0), (.slice none 0 0), (.slice none 0 0), (.int .i64 0), (.slice none 0 0)] [(4, 6, (.t 38))]),
 ⟨none, none, .st 10 (.t 4) (.t 39)⟩])
 .ret))))))),
 [.cell 4 (some 10)]⟩
end Go.Proofs.YtghpdclhhnbgjaaGreat
