import Derived.Test.YtbddhlhpakbcdaaM3
set_option linter.unusedSimpArgs false
set_option linter.unusedVariables false
set_option maxRecDepth 100000
set_option maxHeartbeats 4000000
namespace Go.Proofs.Ytbddhlhpakbcdaa
open Go Go.AH
attribute [local irreducible] awpT ropsT qopsT stepT condKT gdKT EndT joinK loopKT seqKT blkKT kont kontR ropsTF frKT
/-! Faults of talks -/

def mustF (x : TkR) : List Int × List Int := if x.stage = 1 then (one3 x, two7 x ++ thr2 x) else if x.stage = 2 then (one3 x ++ two7 x, thr2 x) else (one3 x ++ (two7 x ++ thr2 x), [])
theorem mustF1 {x : TkR} (h : x.stage = 1) : mustF x = (one3 x, two7 x ++ thr2 x) := if_pos h
theorem mustF2 {x : TkR} (h : x.stage = 2) : mustF x = (one3 x ++ two7 x, thr2 x) := by unfold mustF; rw [if_neg (by omega), if_pos h]
theorem mustF3 {x : TkR} (h : ¬ x.stage = 1) (h' : ¬ x.stage = 2) : mustF x = (one3 x ++ (two7 x ++ thr2 x), []) := by unfold mustF; rw [if_neg h, if_neg h']
theorem sizedT_nil (z : Nat) : sizedT z [] = true := rfl
theorem sizedT_cons (z : Nat) (e : TV) (es : List TV) : sizedT z (e :: es) = (decide ((cellsT e).length = z) && sizedT z es) := by simp [sizedT, Bool.beq_eq_decide_eq]
attribute [go_sem] sizedT_nil sizedT_cons Bool.and_self
noncomputable def must_S := spE (α := TkR) (fun x => True) (fun x => (.tup [.os 0 0 (mustF x).1.length, .os 1 0 (mustF x).2.length], [.cells 2 1 (isT (mustF x).1), .cells 2 1 (isT (mustF x).2)]))
theorem must_at (x1 x2 x3 x4 x5 x6 x7 x8 x9 x10 x11 x12 x13 x14 x15 x16 x17 x18 x19 x20 : Int) : must_S [.agg [.p (.int .i64 x1), .p (.int .i64 x2), .p (.int .i64 x3), .p (.int .i64 x4), .p (.int .i64 x5), .p (.int .i64 x6), .p (.int .i64 x7), .p (.int .i64 x8), .p (.int .i64 x9), .p (.int .i64 x10), .p (.int .i64 x11), .p (.int .i64 x12), .p (.int .i64 x13), .p (.int .i64 x14), .p (.int .i64 x15), .p (.int .i64 x16), .p (.int .i64 x17), .p (.int .i64 x18), .p (.int .i64 x19), .p (.int .i64 x20)]] = some ((.tup [.os 0 0 (mustF (⟨x1, x2, x3, x4, x5, x6, x7, x8, x9, x10, x11, x12, x13, x14, x15, x16, x17, x18, x19, x20⟩ : TkR)).1.length, .os 1 0 (mustF (⟨x1, x2, x3, x4, x5, x6, x7, x8, x9, x10, x11, x12, x13, x14, x15, x16, x17, x18, x19, x20⟩ : TkR)).2.length], [.cells 2 1 (isT (mustF (⟨x1, x2, x3, x4, x5, x6, x7, x8, x9, x10, x11, x12, x13, x14, x15, x16, x17, x18, x19, x20⟩ : TkR)).1), .cells 2 1 (isT (mustF (⟨x1, x2, x3, x4, x5, x6, x7, x8, x9, x10, x11, x12, x13, x14, x15, x16, x17, x18, x19, x20⟩ : TkR)).2)])) := spE_at (α := TkR) (⟨x1, x2, x3, x4, x5, x6, x7, x8, x9, x10, x11, x12, x13, x14, x15, x16, x17, x18, x19, x20⟩ : TkR) trivial
attribute [go_sem] must_at
-- spec.l11Must
def c171 : AF := ⟨57,
 (.seq (.reg [rO 1 (.box 38 (.t 0)),
 rO 2 (.mv (.v (.slice none 0 0))),
 rO 3 (.mv (.v (.slice none 0 0)))])
 (.seq (.reg [rO 7 (.fa (.t 1) 5),
 rO 8 (.ld (.t 7)),
 rO 9 (.fa (.t 1) 7),
 rO 10 (.ld (.t 9)),
 rO 11 (.fa (.t 1) 9),
 rO 12 (.ld (.t 11)),
 rO 13 (.mkS 2 3 [(.int .i64 0), (.int .i64 0), (.int .i64 0)] [(0, 1, (.t 8)), (1, 1, (.t 10)), (2, 1, (.t 12))]),
 rO 4 (.mv (.t 13))])
 (.seq (.reg [rO 14 (.fa (.t 1) 6),
 rO 15 (.ld (.t 14)),
 rO 16 (.fa (.t 1) 8),
 rO 17 (.ld (.t 16)),
 rO 18 (.fa (.t 1) 10),
 rO 19 (.ld (.t 18)),
 rO 20 (.fa (.t 1) 11),
 rO 21 (.fa (.t 20) 0),
 rO 22 (.ld (.t 21)),
 rO 23 (.fa (.t 1) 11),
 rO 24 (.fa (.t 23) 1),
 rO 25 (.ld (.t 24)),
 rO 26 (.fa (.t 1) 11),
 rO 27 (.fa (.t 26) 2),
 rO 28 (.ld (.t 27)),
 rO 29 (.fa (.t 1) 11),
 rO 30 (.fa (.t 29) 3),
 rO 31 (.ld (.t 30)),
 rO 32 (.mkS 2 7 [(.int .i64 0), (.int .i64 0), (.int .i64 0), (.int .i64 0), (.int .i64 0), (.int .i64 0), (.int .i64 0)] [(0, 1, (.t 15)), (1, 1, (.t 17)), (2, 1, (.t 19)), (3, 1, (.t 22)), (4, 1, (.t 25)), (5, 1, (.t 28)), (6, 1, (.t 31))]),
 rO 5 (.mv (.t 32))])
 (.seq (.reg [rO 33 (.fa (.t 1) 15),
 rO 34 (.ld (.t 33)),
 rO 35 (.fa (.t 1) 16),
 rO 36 (.ld (.t 35)),
 rO 37 (.mkS 2 2 [(.int .i64 0), (.int .i64 0)] [(0, 1, (.t 34)), (1, 1, (.t 36))]),
 rO 6 (.mv (.t 37))])
 (.seq (.seq (.reg [rO 38 (.fa (.t 1) 2),
 rO 39 (.ld (.t 38))])
 (.block 0 (.seq (.reg [rO 41 (.bin .eql (.t 39) (.v (.int .i64 1))),
 rO 40 (.mv (.t 41))])
 (.cond (.t 40) (.seq (.reg [rO 42 (.mv (.t 4)),
 rO 43 (.mv (.t 5)),
 rO 44 (.mv (.t 6)),
 rO 45 (.app 2 1 8 (.t 43) (.t 44)),
 rO 2 (.mv (.t 42)),
 rO 3 (.mv (.t 45))])
 .ret)
 (.seq (.reg [rO 47 (.bin .eql (.t 39) (.v (.int .i64 2))),
 rO 46 (.mv (.t 47))])
 (.cond (.t 46) (.seq (.reg [rO 48 (.mv (.t 4)),
 rO 49 (.mv (.t 5)),
 rO 50 (.app 2 1 8 (.t 48) (.t 49)),
 rO 51 (.mv (.t 6)),
 rO 2 (.mv (.t 50)),
 rO 3 (.mv (.t 51))])
 .ret)
 .skip))))))
 (.seq (.reg [rO 52 (.mv (.t 4)),
 rO 53 (.mv (.t 5)),
 rO 54 (.app 2 1 8 (.t 52) (.t 53)),
 rO 55 (.mv (.t 6)),
 rO 56 (.app 2 1 8 (.t 54) (.t 55)),
 rO 2 (.mv (.t 56)),
 rO 3 (.mv (.v (.slice none 0 0)))])
 .ret)))))),
 [.t 2, .t 3]⟩
theorem k171 : cFn Try.prog Try.f171 = some c171 := by kernel_rfl
theorem must_ok : OkT Try.prog 171 (pureSp must_S) := by
  refine okT_fA n0 Try.func171 k171 ?_ (hown := fun _ _ => ⟨rfl, by simp only [List.all_cons, List.all_nil, ownB, is_own, Bool.and_true]⟩)
  rintro x _
  dsimp only [EncL.e, Enc.e, tkT, c171, rO] at *
  by_cases h1 : x.stage = 1
  · rw [mustF1 h1]
    simp only [one3, two7, thr2, List.cons_append, List.nil_append, isT, List.map_cons, List.map_nil, List.length_cons, List.length_nil, iT]
    refine tS ?_
    exact eO [1, 4]
  by_cases h2 : x.stage = 2
  · rw [mustF2 h2]
    simp only [one3, two7, thr2, List.cons_append, List.nil_append, isT, List.map_cons, List.map_nil, List.length_cons, List.length_nil, iT]
    refine tS ?_
    exact eO [4, 3]
  rw [mustF3 h1 h2]
  simp only [one3, two7, thr2, List.cons_append, List.nil_append, isT, List.map_cons, List.map_nil, List.length_cons, List.length_nil, iT]
  refine tS ?_
  refine eN [.cells 2 1 []] [5, 6] ?_
  exact .tup (.cons (.rfl _) (.cons (.nl _ _) .nil))
end Go.Proofs.Ytbddhlhpakbcdaa
