import Derived.Test.YtbddhlhpakbcdaaN1
import Derived.Test.YtbddhlhpakbcdaaZ2
set_option linter.unusedSimpArgs false
set_option linter.unusedVariables false
set_option maxRecDepth 100000
set_option maxHeartbeats 4000000
namespace Go.Proofs.Ytbddhlhpakbcdaa
open Go Go.AH
attribute [local irreducible] awpT ropsT qopsT stepT condKT gdKT EndT joinK loopKT seqKT blkKT kont kontR ropsTF frKT
/-! Faults of terms and of tables -/

theorem one_at (a : Int) : isT [a] = [.p (.int .i64 a)] := rfl
theorem two_at (a b : Int) : isT [a, b] = [.p (.int .i64 a), .p (.int .i64 b)] := rfl
noncomputable def cf_S := orF (cfI_S 163 capT q1 p1) (cfI_S 164 capT q2 p2)
theorem cf_ok : OkT Try.prog 134 (pureSp cf_S) := by
  refine okT_two 1 163 164 (by decide) ?_ ?_ cf1_ok cf2_ok
  · intro args r h; obtain ⟨x, rfl, _⟩ := specP_some h; exact ⟨_, rfl⟩
  · intro args r h; obtain ⟨x, rfl, _⟩ := specP_some h; exact ⟨_, rfl⟩
theorem cf1_at (c : List Int) (l : List TmR) (h : c.length ≤ 1048576 ∧ l.length ≤ 1048576) : cf_S [.s (isT c), .fn 163 [.fe (.s (rowsT tmT l)) 0]] = some (.p (.bool (c.any (p1 l))), []) := by
  unfold cf_S orF
  rw [show [TV.s (isT c), .fn 163 [.fe (.s (rowsT tmT l)) 0]] = [.s (isT c), .fn 163 (capT l)] from rfl, cfI_at capT_inj c l ⟨h.1, fun _ _ => h.2⟩]
theorem cf2_at (c : List Int) (l : List TmR) (h : c.length ≤ 1048576 ∧ ∀ v ∈ c, q2 l v) : cf_S [.s (isT c), .fn 164 [.fe (.s (rowsT tmT l)) 0]] = some (.p (.bool (c.any (p2 l))), []) := by
  have hn : cfI_S 163 capT q1 p1 [.s (isT c), .fn 164 (capT l)] = none := by
    cases e : cfI_S 163 capT q1 p1 [.s (isT c), .fn 164 (capT l)] with
    | none => rfl
    | some r => obtain ⟨x, hx, _⟩ := specP_some e; simp at hx
  unfold cf_S orF
  rw [show [TV.s (isT c), .fn 164 [.fe (.s (rowsT tmT l)) 0]] = [.s (isT c), .fn 164 (capT l)] from rfl, hn]
  exact cfI_at capT_inj c l h
theorem cf1_0 (l : List TmR) (h : l.length ≤ 1048576) : cf_S [.s [], .fn 163 [.fe (.s (rowsT tmT l)) 0]] = some (.p (.bool false), []) := cf1_at [] l ⟨by simp, h⟩
theorem cf1_1 (a : Int) (l : List TmR) (h : l.length ≤ 1048576) : cf_S [.s [.p (.int .i64 a)], .fn 163 [.fe (.s (rowsT tmT l)) 0]] = some (.p (.bool (!plc l.length a)), []) := by
  have := cf1_at [a] l ⟨by simp, h⟩; simpa [p1, one_at] using this
theorem cf1_2 (a b : Int) (l : List TmR) (h : l.length ≤ 1048576) : cf_S [.s [.p (.int .i64 a), .p (.int .i64 b)], .fn 163 [.fe (.s (rowsT tmT l)) 0]] = some (.p (.bool (!plc l.length a || !plc l.length b)), []) := by
  have := cf1_at [a, b] l ⟨by simp, h⟩; simpa [p1, two_at] using this
theorem cf2_1 (a : Int) (l : List TmR) (h : q2 l a) : cf_S [.s [.p (.int .i64 a)], .fn 164 [.fe (.s (rowsT tmT l)) 0]] = some (.p (.bool (!decide (opAt l a = 2))), []) := by
  have := cf2_at [a] l ⟨by simp, by simpa using h⟩; simpa [p2, one_at] using this
theorem cf2_2 (a b : Int) (l : List TmR) (h : q2 l a ∧ q2 l b) : cf_S [.s [.p (.int .i64 a), .p (.int .i64 b)], .fn 164 [.fe (.s (rowsT tmT l)) 0]] = some (.p (.bool (!decide (opAt l a = 2) || !decide (opAt l b = 2))), []) := by
  have := cf2_at [a, b] l ⟨by simp, by simpa using h⟩; simpa [p2, two_at] using this
/-! The places that a term names -/
def ptR (o a b : Int) : TV × List TB := if o = 1 ∨ o = 2 then (.nl, []) else if o = 6 then (.os 0 0 1, [.cells 2 1 [.p (.int .i64 a)]]) else (.os 0 0 2, [.cells 2 1 [.p (.int .i64 a), .p (.int .i64 b)]])
theorem ptR_own (o a b : Int) : ownT (ptR o a b).1 = true ∧ (ptR o a b).2.all ownB = true := by unfold ptR; split; exact ⟨rfl, rfl⟩; split <;> exact ⟨rfl, rfl⟩
theorem nmF_1 (o : Int) (h : o = 1 ∨ o = 2) : nmF o = .agg [.p (.bool false), .p (.bool false), .p (.bool true)] := by unfold nmF; rw [if_pos h]; rfl
theorem nmF_6 : nmF 6 = .agg [.p (.bool true), .p (.bool false), .p (.bool false)] := rfl
theorem nmF_2 (o : Int) (h : ¬ (o = 1 ∨ o = 2)) (h6 : ¬ o = 6) : nmF o = .agg [.p (.bool true), .p (.bool true), .p (.bool false)] := by unfold nmF; rw [if_neg h, if_neg h6]; rfl
noncomputable def pt_S := specP (fun x : TmR => [tmT x]) (fun x => True) (fun x => ptR x.o x.a x.b)
theorem pt_at (x : TmR) : pt_S [tmT x] = some (ptR x.o x.a x.b) := specP_at (enc := fun x : TmR => [tmT x]) (by rintro a0 b0 h; simp only [List.cons.injEq, and_true] at h; have h0 := h; obtain rfl := tmT_inj _ _ h0; rfl) x trivial
-- (impl.Term).parts
def c162 : AF := ⟨22,
 (.seq (.reg [rO 1 (.box 94 (.t 0)),
 rO 2 (.mv (.v (.slice none 0 0)))])
 (.seq (.seq (.reg [rO 4 (.fa (.t 1) 0),
 rO 5 (.ld (.t 4)),
 rO 6 (.call 161 [(.t 5)]),
 rO 3 (.alloc 202 [(.bool false), (.bool false), (.bool false)]),
 ⟨none, none, .st 3 (.t 3) (.t 6)⟩])
 (.block 0 (.seq (.reg [rO 8 (.fa (.t 3) 2),
 rO 9 (.ld (.t 8)),
 rO 7 (.mv (.t 9))])
 (.cond (.t 7) (.seq (.reg [rO 2 (.mv (.v (.slice none 0 0)))])
 .ret)
 (.seq (.reg [rO 11 (.fa (.t 3) 1),
 rO 12 (.ld (.t 11)),
 rO 13 (.un .not (.t 12)),
 rO 10 (.mv (.t 13))])
 (.cond (.t 10) (.seq (.reg [rO 14 (.fa (.t 1) 1),
 rO 15 (.ld (.t 14)),
 rO 16 (.mkS 2 1 [(.int .i64 0)] [(0, 1, (.t 15))]),
 rO 2 (.mv (.t 16))])
 .ret)
 .skip))))))
 (.seq (.reg [rO 17 (.fa (.t 1) 1),
 rO 18 (.ld (.t 17)),
 rO 19 (.fa (.t 1) 2),
 rO 20 (.ld (.t 19)),
 rO 21 (.mkS 2 2 [(.int .i64 0), (.int .i64 0)] [(0, 1, (.t 18)), (1, 1, (.t 20))]),
 rO 2 (.mv (.t 21))])
 .ret))),
 [.t 2]⟩
theorem k162 : cFn Try.prog Try.f162 = some c162 := by kernel_rfl
theorem pt_ok : OkT Try.prog 162 (pureSp pt_S) := by
  refine okT_fn (OkΓT.cons nm_ok (OkΓT.nil _)) Try.func162 (by kernel_rfl) k162 (fun x _ => ptR_own _ _ _) ?_
  rintro ⟨o, a, b, n⟩ _
  try dsimp only [tmT] at *
  have hq := nm_at o
  by_cases h1 : o = 1 ∨ o = 2
  · rw [nmF_1 o h1] at hq
    rw [show ptR o a b = (.nl, []) by unfold ptR; rw [if_pos h1]]
    (dsimp only [c162, rO]; simp (maxSteps := 8000000) -implicitDefEqProofs (disch := omega) only [↓reduceIte, go_sem, hq])
    repeat' first
      | ((first | refine gdKT_deq (fun hg hG => ?_) (fun hg hG => ?_) | refine condKT_deq (fun hg hG => ?_) (fun hg hG => ?_)) <;> (try simp (maxSteps := 8000000) -implicitDefEqProofs (disch := omega) only [↓reduceIte, go_sem, hG, hq]) <;> clear hG)
      | ((first | refine gdKT_split (fun hg => ?_) (fun hg => ?_) | refine condKT_split (fun hg => ?_) (fun hg => ?_)) <;> (try simp (maxSteps := 8000000) -implicitDefEqProofs (disch := omega) only [↓reduceIte, go_sem, hg, hq]))
      | (refine endT_p (.inr rfl) (by simp (maxSteps := 8000000) -implicitDefEqProofs (disch := omega) only [↓reduceIte, go_sem, hq]; rfl) ?_; (first | exact vb_true (by omega) | exact vb_false (by omega) | exact vb_dec (by omega) | exact vi_eq (by omega) | rfl | (refine vi_eq ?_; simp_all; first | done | (intros; omega))))
      | exact endT_v (.inr rfl) (by simp (maxSteps := 8000000) -implicitDefEqProofs (disch := omega) only [↓reduceIte, go_sem, hq]; try rfl) (fun _ => rfl)
  by_cases h6 : o = 6
  · subst h6
    rw [nmF_6] at hq
    rw [show ptR 6 a b = (.os 0 0 1, [.cells 2 1 [.p (.int .i64 a)]]) from rfl]
    (dsimp only [c162, rO]; simp (maxSteps := 8000000) -implicitDefEqProofs (disch := omega) only [↓reduceIte, go_sem, hq])
    exact endT_of [2] (.inr rfl) (by simp (maxSteps := 8000000) -implicitDefEqProofs (disch := omega) only [↓reduceIte, go_sem]; rfl) (by simp (maxSteps := 8000000) -implicitDefEqProofs (disch := omega) only [↓reduceIte, go_sem]) (by simp (maxSteps := 8000000) -implicitDefEqProofs (disch := omega) only [↓reduceIte, go_sem]) (by decide) (by simp)
  rw [nmF_2 o h1 h6] at hq
  rw [show ptR o a b = (.os 0 0 2, [.cells 2 1 [.p (.int .i64 a), .p (.int .i64 b)]]) by unfold ptR; rw [if_neg h1, if_neg h6]]
  (dsimp only [c162, rO]; simp (maxSteps := 8000000) -implicitDefEqProofs (disch := omega) only [↓reduceIte, go_sem, hq])
  exact endT_of [2] (.inr rfl) (by simp (maxSteps := 8000000) -implicitDefEqProofs (disch := omega) only [↓reduceIte, go_sem]; rfl) (by simp (maxSteps := 8000000) -implicitDefEqProofs (disch := omega) only [↓reduceIte, go_sem]) (by simp (maxSteps := 8000000) -implicitDefEqProofs (disch := omega) only [↓reduceIte, go_sem]) (by decide) (by simp)

/-! The fault of a term behind a table -/
def termF (l : List TmR) (x : TmR) : Int :=
  if x.o = 1 ∨ x.o = 2 then (if x.a = 0 ∧ x.b = 0 then (if 0 ≤ x.n ∧ x.n ≤ 9999 then 0 else 3) else 1)
  else if x.o = 3 ∨ x.o = 4 ∨ x.o = 5 then (if x.n = 0 then (if plc l.length x.a = true ∧ plc l.length x.b = true then 0 else 3) else 1)
  else if x.o = 6 then (if x.n = 0 ∧ x.b = 0 then (if plc l.length x.a = true then (if opAt l x.a = 2 then 0 else 1) else 3) else 1)
  else if x.o = 7 then (if x.n = 0 then (if plc l.length x.a = true ∧ plc l.length x.b = true then (if opAt l x.a = 2 ∧ opAt l x.b = 2 ∧ x.a ≤ x.b then 0 else 1) else 3) else 1)
  else 5
theorem plc_t {n : Nat} {a : Int} (h : 0 ≤ a ∧ a ≤ (n : Int) - 1) : plc n a = true := decide_eq_true h
theorem plc_f {n : Nat} {a : Int} (h : ¬ (0 ≤ a ∧ a ≤ (n : Int) - 1)) : plc n a = false := decide_eq_false h
theorem kids_1 (o : Int) (h : o = 1 ∨ o = 2) : kidsF o = 0 := by unfold kidsF; rw [if_neg (by omega), if_neg (by omega)]
theorem kids_3 (o : Int) (h : o = 3 ∨ o = 4 ∨ o = 5) : kidsF o = 2 := by unfold kidsF; rw [if_pos (by omega)]
noncomputable def termS_S := specP (fun x : List TmR × TmR => [.s (rowsT tmT x.1), tmT x.2]) (fun x => x.1.length ≤ 1048576) (fun x => (.p (.int .i64 (termF x.1 x.2)), []))
theorem termS_at (l : List TmR) (x : TmR) (h : l.length ≤ 1048576) : termS_S [.s (rowsT tmT l), tmT x] = some ((.p (.int .i64 (termF l x)), [])) := specP_at (enc := fun x : List TmR × TmR => [.s (rowsT tmT x.1), tmT x.2]) (by rintro ⟨a0, a1⟩ ⟨b0, b1⟩ h; simp only [List.cons.injEq, and_true] at h; obtain ⟨h0, h1⟩ := h; obtain rfl := tms_inj h0; obtain rfl := tmT_inj _ _ h1; rfl) (l, x) h
noncomputable def termI_S := specP (fun x : TmR × List TmR => [tmT x.1, .s (rowsT tmT x.2)]) (fun x => x.2.length ≤ 1048576) (fun x => (.p (.int .i64 (termF x.2 x.1)), []))
theorem termI_at (x : TmR) (l : List TmR) (h : l.length ≤ 1048576) : termI_S [tmT x, .s (rowsT tmT l)] = some ((.p (.int .i64 (termF l x)), [])) := specP_at (enc := fun x : TmR × List TmR => [tmT x.1, .s (rowsT tmT x.2)]) (by rintro ⟨a0, a1⟩ ⟨b0, b1⟩ h; simp only [List.cons.injEq, and_true] at h; obtain ⟨h0, h1⟩ := h; obtain rfl := tmT_inj _ _ h0; obtain rfl := tms_inj h1; rfl) (x, l) h
-- spec.l5Term
def c147 : AF := ⟨104,
 (.seq (.reg [rO 3 (.box 94 (.t 1)),
 rO 4 (.mv (.v (.int .i64 0)))])
 (.seq (.seq (.reg [rO 7 (.fa (.t 3) 0),
 rO 8 (.ld (.t 7)),
 rO 9 (.call 54 [(.t 8), (.v (.int .i64 1)), (.v (.int .i64 7))]),
 rO 10 (.un .not (.t 9))])
 (.cond (.t 10) (.seq (.reg [rO 4 (.mv (.v (.int .i64 5)))])
 .ret)
 .skip))
 (.seq (.reg [rO 11 (.fa (.t 3) 0),
 rO 12 (.ld (.t 11)),
 rO 13 (.call 167 [(.t 12)]),
 rO 5 (.mv (.t 13))])
 (.seq (.seq (.reg [rO 14 (.mv (.t 5)),
 rO 15 (.bin .gtr (.t 14) (.v (.int .i64 0))),
 rO 16 (.mv (.t 15)),
 ⟨(some 17), (some (16, true)), .fa (.t 3) 3⟩,
 ⟨(some 18), (some (16, true)), .ld (.t 17)⟩,
 ⟨(some 19), (some (16, true)), .bin .neq (.t 18) (.v (.int .i64 0))⟩,
 rO 20 (.pick (.t 16) (.t 19) (.v (.bool false))),
 rO 21 (.mv (.t 20)),
 ⟨(some 22), (some (21, false)), .mv (.t 5)⟩,
 ⟨(some 23), (some (21, false)), .bin .lss (.t 22) (.v (.int .i64 1))⟩,
 ⟨(some 24), (some (21, false)), .mv (.t 23)⟩,
 ⟨(some 25), (some (24, true)), .fa (.t 3) 1⟩,
 ⟨(some 26), (some (24, true)), .ld (.t 25)⟩,
 ⟨(some 27), (some (24, true)), .bin .neq (.t 26) (.v (.int .i64 0))⟩,
 ⟨(some 28), (some (21, false)), .pick (.t 24) (.t 27) (.v (.bool false))⟩,
 rO 29 (.pick (.t 21) (.v (.bool true)) (.t 28)),
 rO 30 (.mv (.t 29)),
 ⟨(some 31), (some (30, false)), .mv (.t 5)⟩,
 ⟨(some 32), (some (30, false)), .bin .lss (.t 31) (.v (.int .i64 2))⟩,
 ⟨(some 33), (some (30, false)), .mv (.t 32)⟩,
 ⟨(some 34), (some (33, true)), .fa (.t 3) 2⟩,
 ⟨(some 35), (some (33, true)), .ld (.t 34)⟩,
 ⟨(some 36), (some (33, true)), .bin .neq (.t 35) (.v (.int .i64 0))⟩,
 ⟨(some 37), (some (30, false)), .pick (.t 33) (.t 36) (.v (.bool false))⟩,
 rO 38 (.pick (.t 30) (.v (.bool true)) (.t 37))])
 (.cond (.t 38) (.seq (.reg [rO 4 (.mv (.v (.int .i64 1)))])
 .ret)
 .skip))
 (.seq (.reg [rO 39 (.mv (.t 0)),
 rO 40 (.len (.t 39)),
 rO 6 (.mv (.t 40))])
 (.seq (.seq (.reg [rO 41 (.fa (.t 3) 3),
 rO 42 (.ld (.t 41)),
 rO 43 (.call 54 [(.t 42), (.v (.int .i64 0)), (.v (.int .i64 9999))]),
 rO 44 (.un .not (.t 43)),
 rO 45 (.mv (.t 44)),
 ⟨(some 46), (some (45, false)), .mv (.t 5)⟩,
 ⟨(some 47), (some (45, false)), .bin .gtr (.t 46) (.v (.int .i64 0))⟩,
 ⟨(some 48), (some (45, false)), .mv (.t 47)⟩,
 ⟨(some 49), (some (48, true)), .fa (.t 3) 1⟩,
 ⟨(some 50), (some (48, true)), .ld (.t 49)⟩,
 ⟨(some 51), (some (48, true)), .mv (.t 6)⟩,
 ⟨(some 52), (some (48, true)), .bin .sub (.t 51) (.v (.int .i64 1))⟩,
 ⟨(some 53), (some (48, true)), .call 54 [(.t 50), (.v (.int .i64 0)), (.t 52)]⟩,
 ⟨(some 54), (some (48, true)), .un .not (.t 53)⟩,
 ⟨(some 55), (some (45, false)), .pick (.t 48) (.t 54) (.v (.bool false))⟩,
 rO 56 (.pick (.t 45) (.v (.bool true)) (.t 55)),
 rO 57 (.mv (.t 56)),
 ⟨(some 58), (some (57, false)), .mv (.t 5)⟩,
 ⟨(some 59), (some (57, false)), .bin .gtr (.t 58) (.v (.int .i64 1))⟩,
 ⟨(some 60), (some (57, false)), .mv (.t 59)⟩,
 ⟨(some 61), (some (60, true)), .fa (.t 3) 2⟩,
 ⟨(some 62), (some (60, true)), .ld (.t 61)⟩,
 ⟨(some 63), (some (60, true)), .mv (.t 6)⟩,
 ⟨(some 64), (some (60, true)), .bin .sub (.t 63) (.v (.int .i64 1))⟩,
 ⟨(some 65), (some (60, true)), .call 54 [(.t 62), (.v (.int .i64 0)), (.t 64)]⟩,
 ⟨(some 66), (some (60, true)), .un .not (.t 65)⟩,
 ⟨(some 67), (some (57, false)), .pick (.t 60) (.t 66) (.v (.bool false))⟩,
 rO 68 (.pick (.t 57) (.v (.bool true)) (.t 67))])
 (.cond (.t 68) (.seq (.reg [rO 4 (.mv (.v (.int .i64 3)))])
 .ret)
 .skip))
 (.seq (.seq (.reg [rO 69 (.fa (.t 3) 0),
 rO 70 (.ld (.t 69)),
 rO 71 (.bin .eql (.t 70) (.v (.int .i64 6))),
 rO 72 (.mv (.t 71)),
 ⟨(some 73), (some (72, false)), .fa (.t 3) 0⟩,
 ⟨(some 74), (some (72, false)), .ld (.t 73)⟩,
 ⟨(some 75), (some (72, false)), .bin .eql (.t 74) (.v (.int .i64 7))⟩,
 rO 76 (.pick (.t 72) (.v (.bool true)) (.t 75))])
 (.cond (.t 76) (.seq (.reg [rO 77 (.mv (.t 0)),
 rO 78 (.fa (.t 3) 1),
 rO 79 (.ld (.t 78)),
 rO 80 (.ia 4 (.t 77) (.t 79)),
 rO 81 (.fa (.t 80) 0),
 rO 82 (.ld (.t 81)),
 rO 83 (.bin .neq (.t 82) (.v (.int .i64 2))),
 rO 84 (.mv (.t 83)),
 ⟨(some 85), (some (84, false)), .mv (.t 5)⟩,
 ⟨(some 86), (some (84, false)), .bin .gtr (.t 85) (.v (.int .i64 1))⟩,
 ⟨(some 87), (some (84, false)), .mv (.t 86)⟩,
 ⟨(some 88), (some (87, true)), .mv (.t 0)⟩,
 ⟨(some 89), (some (87, true)), .fa (.t 3) 2⟩,
 ⟨(some 90), (some (87, true)), .ld (.t 89)⟩,
 ⟨(some 91), (some (87, true)), .ia 4 (.t 88) (.t 90)⟩,
 ⟨(some 92), (some (87, true)), .fa (.t 91) 0⟩,
 ⟨(some 93), (some (87, true)), .ld (.t 92)⟩,
 ⟨(some 94), (some (87, true)), .bin .neq (.t 93) (.v (.int .i64 2))⟩,
 ⟨(some 95), (some (87, true)), .mv (.t 94)⟩,
 ⟨(some 96), (some (95, false)), .fa (.t 3) 1⟩,
 ⟨(some 97), (some (95, false)), .ld (.t 96)⟩,
 ⟨(some 98), (some (95, false)), .fa (.t 3) 2⟩,
 ⟨(some 99), (some (95, false)), .ld (.t 98)⟩,
 ⟨(some 100), (some (95, false)), .bin .gtr (.t 97) (.t 99)⟩,
 ⟨(some 101), (some (87, true)), .pick (.t 95) (.v (.bool true)) (.t 100)⟩,
 ⟨(some 102), (some (84, false)), .pick (.t 87) (.t 101) (.v (.bool false))⟩,
 rO 103 (.pick (.t 84) (.v (.bool true)) (.t 102))])
 (.cond (.t 103) (.seq (.reg [rO 4 (.mv (.v (.int .i64 1)))])
 .ret)
 .skip))
 .skip))
 (.seq (.reg [rO 4 (.mv (.v (.int .i64 0)))])
 .ret)))))))),
 [.t 4]⟩
theorem k147 : cFn Try.prog Try.f147 = some c147 := by kernel_rfl
theorem termS_ok : OkT Try.prog 147 (pureSp termS_S) := by
  refine okT_fn (OkΓT.cons l1In_ok (OkΓT.cons kids_ok (OkΓT.nil _))) Try.func147 (by kernel_rfl) k147 (fun x _ => ⟨by first | rfl | simp only [go_sem], by first | rfl | simp only [go_sem]⟩) ?_
  rintro ⟨l, ⟨o, a, b, n⟩⟩ hl
  try dsimp only [tmT] at *
  by_cases h1 : o = 1 ∨ o = 2
  · rw [show termF l ⟨o, a, b, n⟩ = if a = 0 ∧ b = 0 then (if 0 ≤ n ∧ n ≤ 9999 then 0 else 3) else 1 by unfold termF; rw [if_pos h1]]
    have hq := kids_at o
    rw [kids_1 o h1] at hq
    by_cases ha : a = 0
    · by_cases hb : b = 0
      · rw [if_pos ⟨ha, hb⟩]
        by_cases hn : 0 ≤ n ∧ n ≤ 9999
        · rw [if_pos hn]
          (dsimp only [c147, rO]; simp (maxSteps := 8000000) -implicitDefEqProofs (disch := omega) only [↓reduceIte, go_sem, in_at, Bool.or_false, Bool.or_true, Bool.or_self, Bool.false_or, Bool.true_or, eq_true (show 1 ≤ o ∧ o ≤ 7 by omega), eq_false (show ¬ o = 6 by omega), eq_false (show ¬ o = 7 by omega), hq, eq_true ha, eq_true hb, eq_true hn])
          exact endT_v (.inr rfl) (by (simp (maxSteps := 8000000) -implicitDefEqProofs (disch := omega) only [↓reduceIte, go_sem]) <;> rfl) (fun _ => rfl)
        · rw [if_neg hn]
          (dsimp only [c147, rO]; simp (maxSteps := 8000000) -implicitDefEqProofs (disch := omega) only [↓reduceIte, go_sem, in_at, Bool.or_false, Bool.or_true, Bool.or_self, Bool.false_or, Bool.true_or, eq_true (show 1 ≤ o ∧ o ≤ 7 by omega), hq, eq_true ha, eq_true hb, eq_false hn])
          exact endT_v (.inr rfl) (by (simp (maxSteps := 8000000) -implicitDefEqProofs (disch := omega) only [↓reduceIte, go_sem]) <;> rfl) (fun _ => rfl)
      · rw [if_neg (fun h => hb h.2)]
        (dsimp only [c147, rO]; simp (maxSteps := 8000000) -implicitDefEqProofs (disch := omega) only [↓reduceIte, go_sem, in_at, Bool.or_false, Bool.or_true, Bool.or_self, Bool.false_or, Bool.true_or, eq_true (show 1 ≤ o ∧ o ≤ 7 by omega), hq, eq_true ha, eq_false hb])
        exact endT_v (.inr rfl) (by (simp (maxSteps := 8000000) -implicitDefEqProofs (disch := omega) only [↓reduceIte, go_sem]) <;> rfl) (fun _ => rfl)
    · rw [if_neg (fun h => ha h.1)]
      (dsimp only [c147, rO]; simp (maxSteps := 8000000) -implicitDefEqProofs (disch := omega) only [↓reduceIte, go_sem, in_at, Bool.or_false, Bool.or_true, Bool.or_self, Bool.false_or, Bool.true_or, eq_true (show 1 ≤ o ∧ o ≤ 7 by omega), hq, eq_false ha])
      exact endT_v (.inr rfl) (by (simp (maxSteps := 8000000) -implicitDefEqProofs (disch := omega) only [↓reduceIte, go_sem]) <;> rfl) (fun _ => rfl)
  by_cases h3 : o = 3 ∨ o = 4 ∨ o = 5
  · rw [show termF l ⟨o, a, b, n⟩ = if n = 0 then (if plc l.length a = true ∧ plc l.length b = true then 0 else 3) else 1 by unfold termF; rw [if_neg h1, if_pos h3]]
    have hq := kids_at o
    rw [kids_3 o h3] at hq
    by_cases hn : n = 0
    · subst hn
      rw [if_pos rfl]
      by_cases ha : 0 ≤ a ∧ a ≤ (l.length : Int) - 1
      · by_cases hb : 0 ≤ b ∧ b ≤ (l.length : Int) - 1
        · rw [if_pos ⟨plc_t ha, plc_t hb⟩]
          (dsimp only [c147, rO]; simp (maxSteps := 8000000) -implicitDefEqProofs (disch := omega) only [↓reduceIte, go_sem, in_at, Bool.or_false, Bool.or_true, Bool.or_self, Bool.false_or, Bool.true_or, eq_true (show 1 ≤ o ∧ o ≤ 7 by omega), eq_false (show ¬ o = 6 by omega), eq_false (show ¬ o = 7 by omega), hq, eq_true ha, eq_true hb, plc_t ha, plc_t hb])
          exact endT_v (.inr rfl) (by (simp (maxSteps := 8000000) -implicitDefEqProofs (disch := omega) only [↓reduceIte, go_sem]) <;> rfl) (fun _ => rfl)
        · rw [if_neg (fun h => by rw [plc_f hb] at h; exact absurd h.2 (by decide))]
          (dsimp only [c147, rO]; simp (maxSteps := 8000000) -implicitDefEqProofs (disch := omega) only [↓reduceIte, go_sem, in_at, Bool.or_false, Bool.or_true, Bool.or_self, Bool.false_or, Bool.true_or, eq_true (show 1 ≤ o ∧ o ≤ 7 by omega), hq, eq_true ha, eq_false hb, plc_t ha, plc_f hb])
          exact endT_v (.inr rfl) (by (simp (maxSteps := 8000000) -implicitDefEqProofs (disch := omega) only [↓reduceIte, go_sem]) <;> rfl) (fun _ => rfl)
      · rw [if_neg (fun h => by rw [plc_f ha] at h; exact absurd h.1 (by decide))]
        (dsimp only [c147, rO]; simp (maxSteps := 8000000) -implicitDefEqProofs (disch := omega) only [↓reduceIte, go_sem, in_at, Bool.or_false, Bool.or_true, Bool.or_self, Bool.false_or, Bool.true_or, eq_true (show 1 ≤ o ∧ o ≤ 7 by omega), hq, eq_false ha, plc_f ha])
        exact endT_v (.inr rfl) (by (simp (maxSteps := 8000000) -implicitDefEqProofs (disch := omega) only [↓reduceIte, go_sem]) <;> rfl) (fun _ => rfl)
    · rw [if_neg hn]
      (dsimp only [c147, rO]; simp (maxSteps := 8000000) -implicitDefEqProofs (disch := omega) only [↓reduceIte, go_sem, in_at, Bool.or_false, Bool.or_true, Bool.or_self, Bool.false_or, Bool.true_or, eq_true (show 1 ≤ o ∧ o ≤ 7 by omega), hq, eq_false hn])
      exact endT_v (.inr rfl) (by (simp (maxSteps := 8000000) -implicitDefEqProofs (disch := omega) only [↓reduceIte, go_sem]) <;> rfl) (fun _ => rfl)
  by_cases h6 : o = 6
  · subst h6
    rw [show termF l ⟨6, a, b, n⟩ = if n = 0 ∧ b = 0 then (if plc l.length a = true then (if opAt l a = 2 then 0 else 1) else 3) else 1 from rfl]
    have hq : kids_S [.p (.int .i64 6)] = some (.p (.int .i64 1), []) := kids_at 6
    by_cases hn : n = 0
    case neg =>
      rw [if_neg (fun h => hn h.1)]
      by_cases hb : b = 0
      · (dsimp only [c147, rO]; simp (maxSteps := 8000000) -implicitDefEqProofs (disch := omega) only [↓reduceIte, go_sem, in_at, Bool.or_false, Bool.or_true, Bool.or_self, Bool.false_or, Bool.true_or, hq, eq_true hb, eq_false hn])
        exact endT_v (.inr rfl) (by (simp (maxSteps := 8000000) -implicitDefEqProofs (disch := omega) only [↓reduceIte, go_sem]) <;> rfl) (fun _ => rfl)
      · (dsimp only [c147, rO]; simp (maxSteps := 8000000) -implicitDefEqProofs (disch := omega) only [↓reduceIte, go_sem, in_at, Bool.or_false, Bool.or_true, Bool.or_self, Bool.false_or, Bool.true_or, hq, eq_false hb, eq_false hn])
        exact endT_v (.inr rfl) (by (simp (maxSteps := 8000000) -implicitDefEqProofs (disch := omega) only [↓reduceIte, go_sem]) <;> rfl) (fun _ => rfl)
    subst hn
    by_cases hb : b = 0
    case neg =>
      rw [if_neg (fun h => hb h.2)]
      (dsimp only [c147, rO]; simp (maxSteps := 8000000) -implicitDefEqProofs (disch := omega) only [↓reduceIte, go_sem, in_at, Bool.or_false, Bool.or_true, Bool.or_self, Bool.false_or, Bool.true_or, hq, eq_false hb])
      exact endT_v (.inr rfl) (by (simp (maxSteps := 8000000) -implicitDefEqProofs (disch := omega) only [↓reduceIte, go_sem]) <;> rfl) (fun _ => rfl)
    subst hb
    rw [if_pos ⟨rfl, rfl⟩]
    by_cases ha : 0 ≤ a ∧ a ≤ (l.length : Int) - 1
    case neg =>
      rw [if_neg (by rw [plc_f ha]; decide)]
      (dsimp only [c147, rO]; simp (maxSteps := 8000000) -implicitDefEqProofs (disch := omega) only [↓reduceIte, go_sem, in_at, Bool.or_false, Bool.or_true, Bool.or_self, Bool.false_or, Bool.true_or, hq, eq_false ha, plc_f ha])
      exact endT_v (.inr rfl) (by (simp (maxSteps := 8000000) -implicitDefEqProofs (disch := omega) only [↓reduceIte, go_sem]) <;> rfl) (fun _ => rfl)
    rw [if_pos (plc_t ha)]
    obtain ⟨x, hx⟩ := plc_get ha
    have hc := cf2_1 a l ha
    rw [opAt_some hx] at hc ⊢
    by_cases h2 : x.o = 2
    · rw [if_pos h2]
      (dsimp only [c147, rO]; simp (maxSteps := 8000000) -implicitDefEqProofs (disch := omega) only [↓reduceIte, go_sem, in_at, Bool.or_false, Bool.or_true, Bool.or_self, Bool.false_or, Bool.true_or, hq, eq_true ha, plc_t ha, ha.1, rowsT_get hx, tmT, eq_true h2, hc])
      exact endT_v (.inr rfl) (by (simp (maxSteps := 8000000) -implicitDefEqProofs (disch := omega) only [↓reduceIte, go_sem]) <;> rfl) (fun _ => rfl)
    · rw [if_neg h2]
      (dsimp only [c147, rO]; simp (maxSteps := 8000000) -implicitDefEqProofs (disch := omega) only [↓reduceIte, go_sem, in_at, Bool.or_false, Bool.or_true, Bool.or_self, Bool.false_or, Bool.true_or, hq, eq_true ha, plc_t ha, ha.1, rowsT_get hx, tmT, eq_false h2, hc])
      exact endT_v (.inr rfl) (by (simp (maxSteps := 8000000) -implicitDefEqProofs (disch := omega) only [↓reduceIte, go_sem]) <;> rfl) (fun _ => rfl)
  by_cases h7 : o = 7
  · subst h7
    rw [show termF l ⟨7, a, b, n⟩ = if n = 0 then (if plc l.length a = true ∧ plc l.length b = true then (if opAt l a = 2 ∧ opAt l b = 2 ∧ a ≤ b then 0 else 1) else 3) else 1 from rfl]
    have hq : kids_S [.p (.int .i64 7)] = some (.p (.int .i64 2), []) := kids_at 7
    by_cases hn : n = 0
    case neg =>
      rw [if_neg hn]
      (dsimp only [c147, rO]; simp (maxSteps := 8000000) -implicitDefEqProofs (disch := omega) only [↓reduceIte, go_sem, in_at, Bool.or_false, Bool.or_true, Bool.or_self, Bool.false_or, Bool.true_or, hq, eq_false hn])
      exact endT_v (.inr rfl) (by (simp (maxSteps := 8000000) -implicitDefEqProofs (disch := omega) only [↓reduceIte, go_sem]) <;> rfl) (fun _ => rfl)
    subst hn
    rw [if_pos rfl]
    by_cases ha : 0 ≤ a ∧ a ≤ (l.length : Int) - 1
    case neg =>
      rw [if_neg (fun h => by rw [plc_f ha] at h; exact absurd h.1 (by decide))]
      (dsimp only [c147, rO]; simp (maxSteps := 8000000) -implicitDefEqProofs (disch := omega) only [↓reduceIte, go_sem, in_at, Bool.or_false, Bool.or_true, Bool.or_self, Bool.false_or, Bool.true_or, hq, eq_false ha, plc_f ha])
      exact endT_v (.inr rfl) (by (simp (maxSteps := 8000000) -implicitDefEqProofs (disch := omega) only [↓reduceIte, go_sem]) <;> rfl) (fun _ => rfl)
    by_cases hb : 0 ≤ b ∧ b ≤ (l.length : Int) - 1
    case neg =>
      rw [if_neg (fun h => by rw [plc_f hb] at h; exact absurd h.2 (by decide))]
      (dsimp only [c147, rO]; simp (maxSteps := 8000000) -implicitDefEqProofs (disch := omega) only [↓reduceIte, go_sem, in_at, Bool.or_false, Bool.or_true, Bool.or_self, Bool.false_or, Bool.true_or, hq, eq_true ha, eq_false hb, plc_t ha, plc_f hb])
      exact endT_v (.inr rfl) (by (simp (maxSteps := 8000000) -implicitDefEqProofs (disch := omega) only [↓reduceIte, go_sem]) <;> rfl) (fun _ => rfl)
    rw [if_pos ⟨plc_t ha, plc_t hb⟩]
    obtain ⟨x, hx⟩ := plc_get ha
    obtain ⟨y, hy⟩ := plc_get hb
    have hc := cf2_2 a b l ⟨ha, hb⟩
    rw [opAt_some hx, opAt_some hy] at hc ⊢
    by_cases h2 : x.o = 2
    case neg =>
      rw [if_neg (fun h => h2 h.1)]
      (dsimp only [c147, rO]; simp (maxSteps := 8000000) -implicitDefEqProofs (disch := omega) only [↓reduceIte, go_sem, in_at, Bool.or_false, Bool.or_true, Bool.or_self, Bool.false_or, Bool.true_or, hq, eq_true ha, eq_true hb, plc_t ha, plc_t hb, ha.1, hb.1, rowsT_get hx, rowsT_get hy, tmT, eq_false h2, hc])
      exact endT_v (.inr rfl) (by (simp (maxSteps := 8000000) -implicitDefEqProofs (disch := omega) only [↓reduceIte, go_sem]) <;> rfl) (fun _ => rfl)
    by_cases h4 : y.o = 2
    case neg =>
      rw [if_neg (fun h => h4 h.2.1)]
      (dsimp only [c147, rO]; simp (maxSteps := 8000000) -implicitDefEqProofs (disch := omega) only [↓reduceIte, go_sem, in_at, Bool.or_false, Bool.or_true, Bool.or_self, Bool.false_or, Bool.true_or, hq, eq_true ha, eq_true hb, plc_t ha, plc_t hb, ha.1, hb.1, rowsT_get hx, rowsT_get hy, tmT, eq_true h2, eq_false h4, hc])
      exact endT_v (.inr rfl) (by (simp (maxSteps := 8000000) -implicitDefEqProofs (disch := omega) only [↓reduceIte, go_sem]) <;> rfl) (fun _ => rfl)
    by_cases h5 : a ≤ b
    · rw [if_pos ⟨h2, h4, h5⟩]
      (dsimp only [c147, rO]; simp (maxSteps := 8000000) -implicitDefEqProofs (disch := omega) only [↓reduceIte, go_sem, in_at, Bool.or_false, Bool.or_true, Bool.or_self, Bool.false_or, Bool.true_or, hq, eq_true ha, eq_true hb, plc_t ha, plc_t hb, ha.1, hb.1, rowsT_get hx, rowsT_get hy, tmT, eq_true h2, eq_true h4, eq_false (show ¬ a > b by omega), hc])
      exact endT_v (.inr rfl) (by (simp (maxSteps := 8000000) -implicitDefEqProofs (disch := omega) only [↓reduceIte, go_sem]) <;> rfl) (fun _ => rfl)
    · rw [if_neg (fun h => h5 h.2.2)]
      (dsimp only [c147, rO]; simp (maxSteps := 8000000) -implicitDefEqProofs (disch := omega) only [↓reduceIte, go_sem, in_at, Bool.or_false, Bool.or_true, Bool.or_self, Bool.false_or, Bool.true_or, hq, eq_true ha, eq_true hb, plc_t ha, plc_t hb, ha.1, hb.1, rowsT_get hx, rowsT_get hy, tmT, eq_true h2, eq_true h4, eq_true (show a > b by omega), hc])
      exact endT_v (.inr rfl) (by (simp (maxSteps := 8000000) -implicitDefEqProofs (disch := omega) only [↓reduceIte, go_sem]) <;> rfl) (fun _ => rfl)
  rw [show termF l ⟨o, a, b, n⟩ = 5 by unfold termF; rw [if_neg h1, if_neg h3, if_neg h6, if_neg h7]]
  (dsimp only [c147, rO]; simp (maxSteps := 8000000) -implicitDefEqProofs (disch := omega) only [↓reduceIte, go_sem, in_at, Bool.or_false, Bool.or_true, Bool.or_self, Bool.false_or, Bool.true_or, eq_false (show ¬ (1 ≤ o ∧ o ≤ 7) by omega)])
  exact endT_v (.inr rfl) (by (simp (maxSteps := 8000000) -implicitDefEqProofs (disch := omega) only [↓reduceIte, go_sem]) <;> rfl) (fun _ => rfl)
-- (impl.Term).fault
def c129 : AF := ⟨75,
 (.seq (.reg [rO 2 (.box 94 (.t 0)),
 rO 3 (.box 27 (.t 1)),
 rO 4 (.mv (.v (.int .i64 0)))])
 (.seq (.seq (.reg [rO 6 (.fa (.t 2) 0),
 rO 7 (.ld (.t 6)),
 rO 8 (.call 48 [(.t 7), (.v (.int .i64 1)), (.v (.int .i64 7))]),
 rO 9 (.un .not (.t 8))])
 (.cond (.t 9) (.seq (.reg [rO 4 (.mv (.v (.int .i64 5)))])
 .ret)
 .skip))
 (.seq (.reg [rO 10 (.fa (.t 2) 0),
 rO 11 (.ld (.t 10)),
 rO 12 (.call 161 [(.t 11)]),
 rO 5 (.alloc 202 [(.bool false), (.bool false), (.bool false)]),
 ⟨none, none, .st 3 (.t 5) (.t 12)⟩])
 (.seq (.seq (.reg [rO 13 (.fa (.t 5) 0),
 rO 14 (.ld (.t 13)),
 rO 15 (.un .not (.t 14)),
 rO 16 (.mv (.t 15)),
 ⟨(some 17), (some (16, true)), .fa (.t 2) 1⟩,
 ⟨(some 18), (some (16, true)), .ld (.t 17)⟩,
 ⟨(some 19), (some (16, true)), .bin .neq (.t 18) (.v (.int .i64 0))⟩,
 rO 20 (.pick (.t 16) (.t 19) (.v (.bool false))),
 rO 21 (.mv (.t 20)),
 ⟨(some 22), (some (21, false)), .fa (.t 5) 1⟩,
 ⟨(some 23), (some (21, false)), .ld (.t 22)⟩,
 ⟨(some 24), (some (21, false)), .un .not (.t 23)⟩,
 ⟨(some 25), (some (21, false)), .mv (.t 24)⟩,
 ⟨(some 26), (some (25, true)), .fa (.t 2) 2⟩,
 ⟨(some 27), (some (25, true)), .ld (.t 26)⟩,
 ⟨(some 28), (some (25, true)), .bin .neq (.t 27) (.v (.int .i64 0))⟩,
 ⟨(some 29), (some (21, false)), .pick (.t 25) (.t 28) (.v (.bool false))⟩,
 rO 30 (.pick (.t 21) (.v (.bool true)) (.t 29)),
 rO 31 (.mv (.t 30)),
 ⟨(some 32), (some (31, false)), .fa (.t 5) 2⟩,
 ⟨(some 33), (some (31, false)), .ld (.t 32)⟩,
 ⟨(some 34), (some (31, false)), .un .not (.t 33)⟩,
 ⟨(some 35), (some (31, false)), .mv (.t 34)⟩,
 ⟨(some 36), (some (35, true)), .fa (.t 2) 3⟩,
 ⟨(some 37), (some (35, true)), .ld (.t 36)⟩,
 ⟨(some 38), (some (35, true)), .bin .neq (.t 37) (.v (.int .i64 0))⟩,
 ⟨(some 39), (some (31, false)), .pick (.t 35) (.t 38) (.v (.bool false))⟩,
 rO 40 (.pick (.t 31) (.v (.bool true)) (.t 39))])
 (.cond (.t 40) (.seq (.reg [rO 4 (.mv (.v (.int .i64 1)))])
 .ret)
 .skip))
 (.seq (.seq (.reg [rO 41 (.fa (.t 2) 3),
 rO 42 (.ld (.t 41)),
 rO 43 (.call 48 [(.t 42), (.v (.int .i64 0)), (.v (.int .i64 9999))]),
 rO 44 (.un .not (.t 43)),
 rO 45 (.mv (.t 44)),
 ⟨(some 46), (some (45, false)), .ldn 4 (.t 2)⟩,
 ⟨(some 47), (some (45, false)), .call 162 [(.t 46)]⟩,
 ⟨(some 48), (some (45, false)), .fn 163 [(.t 3)]⟩,
 ⟨(some 49), (some (45, false)), .call 134 [(.t 47), (.t 48)]⟩,
 rO 50 (.pick (.t 45) (.v (.bool true)) (.t 49))])
 (.cond (.t 50) (.seq (.reg [rO 4 (.mv (.v (.int .i64 3)))])
 .ret)
 .skip))
 (.seq (.seq (.reg [rO 51 (.fa (.t 2) 0),
 rO 52 (.ld (.t 51)),
 rO 53 (.bin .neq (.t 52) (.v (.int .i64 6))),
 rO 54 (.mv (.t 53)),
 ⟨(some 55), (some (54, true)), .fa (.t 2) 0⟩,
 ⟨(some 56), (some (54, true)), .ld (.t 55)⟩,
 ⟨(some 57), (some (54, true)), .bin .neq (.t 56) (.v (.int .i64 7))⟩,
 rO 58 (.pick (.t 54) (.t 57) (.v (.bool false)))])
 (.cond (.t 58) (.seq (.reg [rO 4 (.mv (.v (.int .i64 0)))])
 .ret)
 .skip))
 (.seq (.seq (.reg [rO 59 (.ldn 4 (.t 2)),
 rO 60 (.call 162 [(.t 59)]),
 rO 61 (.fn 164 [(.t 3)]),
 rO 62 (.call 134 [(.t 60), (.t 61)]),
 rO 63 (.mv (.t 62)),
 ⟨(some 64), (some (63, false)), .fa (.t 2) 0⟩,
 ⟨(some 65), (some (63, false)), .ld (.t 64)⟩,
 ⟨(some 66), (some (63, false)), .bin .eql (.t 65) (.v (.int .i64 7))⟩,
 ⟨(some 67), (some (63, false)), .mv (.t 66)⟩,
 ⟨(some 68), (some (67, true)), .fa (.t 2) 1⟩,
 ⟨(some 69), (some (67, true)), .ld (.t 68)⟩,
 ⟨(some 70), (some (67, true)), .fa (.t 2) 2⟩,
 ⟨(some 71), (some (67, true)), .ld (.t 70)⟩,
 ⟨(some 72), (some (67, true)), .bin .gtr (.t 69) (.t 71)⟩,
 ⟨(some 73), (some (63, false)), .pick (.t 67) (.t 72) (.v (.bool false))⟩,
 rO 74 (.pick (.t 63) (.v (.bool true)) (.t 73))])
 (.cond (.t 74) (.seq (.reg [rO 4 (.mv (.v (.int .i64 1)))])
 .ret)
 .skip))
 (.seq (.reg [rO 4 (.mv (.v (.int .i64 0)))])
 .ret)))))))),
 [.t 4]⟩
theorem k129 : cFn Try.prog Try.f129 = some c129 := by kernel_rfl
theorem termI_ok : OkT Try.prog 129 (pureSp termI_S) := by
  refine okT_fn (OkΓT.cons in_ok (OkΓT.cons nm_ok (OkΓT.cons pt_ok (OkΓT.cons cf_ok (OkΓT.cons f1_ok (OkΓT.cons f2_ok (OkΓT.nil _))))))) Try.func129 (by kernel_rfl) k129 (fun x _ => ⟨by first | rfl | simp only [go_sem], by first | rfl | simp only [go_sem]⟩) ?_
  rintro ⟨⟨o, a, b, n⟩, l⟩ hl
  try dsimp only [tmT] at *
  by_cases h1 : o = 1 ∨ o = 2
  · rw [show termF l ⟨o, a, b, n⟩ = if a = 0 ∧ b = 0 then (if 0 ≤ n ∧ n ≤ 9999 then 0 else 3) else 1 by unfold termF; rw [if_pos h1]]
    have hq := nm_at o
    rw [nmF_1 o h1] at hq
    have hp := pt_at ⟨o, a, b, n⟩
    rw [show ptR o a b = (.nl, []) by unfold ptR; rw [if_pos h1]] at hp
    dsimp only [tmT] at hp
    by_cases ha : a = 0
    · by_cases hb : b = 0
      · rw [if_pos ⟨ha, hb⟩]
        by_cases hn : 0 ≤ n ∧ n ≤ 9999
        · rw [if_pos hn]
          (dsimp only [c129, rO]; simp (maxSteps := 8000000) -implicitDefEqProofs (disch := omega) only [↓reduceIte, go_sem, in_at, Bool.or_false, Bool.or_true, Bool.or_self, Bool.false_or, Bool.true_or, eq_true (show 1 ≤ o ∧ o ≤ 7 by omega), eq_false (show ¬ o = 6 by omega), eq_false (show ¬ o = 7 by omega), hq, hp, cf1_0, eq_true ha, eq_true hb, eq_true hn])
          exact endT_v (.inr rfl) (by (simp (maxSteps := 8000000) -implicitDefEqProofs (disch := omega) only [↓reduceIte, go_sem]) <;> rfl) (fun _ => rfl)
        · rw [if_neg hn]
          (dsimp only [c129, rO]; simp (maxSteps := 8000000) -implicitDefEqProofs (disch := omega) only [↓reduceIte, go_sem, in_at, Bool.or_false, Bool.or_true, Bool.or_self, Bool.false_or, Bool.true_or, eq_true (show 1 ≤ o ∧ o ≤ 7 by omega), hq, hp, cf1_0, eq_true ha, eq_true hb, eq_false hn])
          exact endT_v (.inr rfl) (by (simp (maxSteps := 8000000) -implicitDefEqProofs (disch := omega) only [↓reduceIte, go_sem]) <;> rfl) (fun _ => rfl)
      · rw [if_neg (fun h => hb h.2)]
        (dsimp only [c129, rO]; simp (maxSteps := 8000000) -implicitDefEqProofs (disch := omega) only [↓reduceIte, go_sem, in_at, Bool.or_false, Bool.or_true, Bool.or_self, Bool.false_or, Bool.true_or, eq_true (show 1 ≤ o ∧ o ≤ 7 by omega), hq, hp, cf1_0, eq_true ha, eq_false hb])
        exact endT_v (.inr rfl) (by (simp (maxSteps := 8000000) -implicitDefEqProofs (disch := omega) only [↓reduceIte, go_sem]) <;> rfl) (fun _ => rfl)
    · rw [if_neg (fun h => ha h.1)]
      (dsimp only [c129, rO]; simp (maxSteps := 8000000) -implicitDefEqProofs (disch := omega) only [↓reduceIte, go_sem, in_at, Bool.or_false, Bool.or_true, Bool.or_self, Bool.false_or, Bool.true_or, eq_true (show 1 ≤ o ∧ o ≤ 7 by omega), hq, hp, cf1_0, eq_false ha])
      exact endT_v (.inr rfl) (by (simp (maxSteps := 8000000) -implicitDefEqProofs (disch := omega) only [↓reduceIte, go_sem]) <;> rfl) (fun _ => rfl)
  by_cases h3 : o = 3 ∨ o = 4 ∨ o = 5
  · rw [show termF l ⟨o, a, b, n⟩ = if n = 0 then (if plc l.length a = true ∧ plc l.length b = true then 0 else 3) else 1 by unfold termF; rw [if_neg h1, if_pos h3]]
    have hq := nm_at o
    rw [nmF_2 o h1 (by omega)] at hq
    have hp := pt_at ⟨o, a, b, n⟩
    rw [show ptR o a b = (.os 0 0 2, [.cells 2 1 [.p (.int .i64 a), .p (.int .i64 b)]]) by unfold ptR; rw [if_neg h1, if_neg (by omega)]] at hp
    dsimp only [tmT] at hp
    by_cases hn : n = 0
    · subst hn
      rw [if_pos rfl]
      by_cases ha : 0 ≤ a ∧ a ≤ (l.length : Int) - 1
      · by_cases hb : 0 ≤ b ∧ b ≤ (l.length : Int) - 1
        · rw [if_pos ⟨plc_t ha, plc_t hb⟩]
          (dsimp only [c129, rO]; simp (maxSteps := 8000000) -implicitDefEqProofs (disch := omega) only [↓reduceIte, go_sem, in_at, Bool.or_false, Bool.or_true, Bool.or_self, Bool.false_or, Bool.true_or, eq_true (show 1 ≤ o ∧ o ≤ 7 by omega), eq_false (show ¬ o = 6 by omega), eq_false (show ¬ o = 7 by omega), hq, hp, cf1_2, eq_true ha, eq_true hb, plc_t ha, plc_t hb])
          exact endT_v (.inr rfl) (by (simp (maxSteps := 8000000) -implicitDefEqProofs (disch := omega) only [↓reduceIte, go_sem]) <;> rfl) (fun _ => rfl)
        · rw [if_neg (fun h => by rw [plc_f hb] at h; exact absurd h.2 (by decide))]
          (dsimp only [c129, rO]; simp (maxSteps := 8000000) -implicitDefEqProofs (disch := omega) only [↓reduceIte, go_sem, in_at, Bool.or_false, Bool.or_true, Bool.or_self, Bool.false_or, Bool.true_or, eq_true (show 1 ≤ o ∧ o ≤ 7 by omega), hq, hp, cf1_2, eq_true ha, eq_false hb, plc_t ha, plc_f hb])
          exact endT_v (.inr rfl) (by (simp (maxSteps := 8000000) -implicitDefEqProofs (disch := omega) only [↓reduceIte, go_sem]) <;> rfl) (fun _ => rfl)
      · rw [if_neg (fun h => by rw [plc_f ha] at h; exact absurd h.1 (by decide))]
        (dsimp only [c129, rO]; simp (maxSteps := 8000000) -implicitDefEqProofs (disch := omega) only [↓reduceIte, go_sem, in_at, Bool.or_false, Bool.or_true, Bool.or_self, Bool.false_or, Bool.true_or, eq_true (show 1 ≤ o ∧ o ≤ 7 by omega), hq, hp, cf1_2, eq_false ha, plc_f ha])
        exact endT_v (.inr rfl) (by (simp (maxSteps := 8000000) -implicitDefEqProofs (disch := omega) only [↓reduceIte, go_sem]) <;> rfl) (fun _ => rfl)
    · rw [if_neg hn]
      (dsimp only [c129, rO]; simp (maxSteps := 8000000) -implicitDefEqProofs (disch := omega) only [↓reduceIte, go_sem, in_at, Bool.or_false, Bool.or_true, Bool.or_self, Bool.false_or, Bool.true_or, eq_true (show 1 ≤ o ∧ o ≤ 7 by omega), hq, hp, cf1_2, eq_false hn])
      exact endT_v (.inr rfl) (by (simp (maxSteps := 8000000) -implicitDefEqProofs (disch := omega) only [↓reduceIte, go_sem]) <;> rfl) (fun _ => rfl)
  by_cases h6 : o = 6
  · subst h6
    rw [show termF l ⟨6, a, b, n⟩ = if n = 0 ∧ b = 0 then (if plc l.length a = true then (if opAt l a = 2 then 0 else 1) else 3) else 1 from rfl]
    have hq := nm_at 6
    rw [nmF_6] at hq
    have hp := pt_at ⟨6, a, b, n⟩
    rw [show ptR 6 a b = (.os 0 0 1, [.cells 2 1 [.p (.int .i64 a)]]) from rfl] at hp
    dsimp only [tmT] at hp
    by_cases hn : n = 0
    case neg =>
      rw [if_neg (fun h => hn h.1)]
      by_cases hb : b = 0
      · (dsimp only [c129, rO]; simp (maxSteps := 8000000) -implicitDefEqProofs (disch := omega) only [↓reduceIte, go_sem, in_at, Bool.or_false, Bool.or_true, Bool.or_self, Bool.false_or, Bool.true_or, hq, hp, cf1_1, eq_true hb, eq_false hn])
        exact endT_v (.inr rfl) (by (simp (maxSteps := 8000000) -implicitDefEqProofs (disch := omega) only [↓reduceIte, go_sem]) <;> rfl) (fun _ => rfl)
      · (dsimp only [c129, rO]; simp (maxSteps := 8000000) -implicitDefEqProofs (disch := omega) only [↓reduceIte, go_sem, in_at, Bool.or_false, Bool.or_true, Bool.or_self, Bool.false_or, Bool.true_or, hq, hp, cf1_1, eq_false hb, eq_false hn])
        exact endT_v (.inr rfl) (by (simp (maxSteps := 8000000) -implicitDefEqProofs (disch := omega) only [↓reduceIte, go_sem]) <;> rfl) (fun _ => rfl)
    subst hn
    by_cases hb : b = 0
    case neg =>
      rw [if_neg (fun h => hb h.2)]
      (dsimp only [c129, rO]; simp (maxSteps := 8000000) -implicitDefEqProofs (disch := omega) only [↓reduceIte, go_sem, in_at, Bool.or_false, Bool.or_true, Bool.or_self, Bool.false_or, Bool.true_or, hq, hp, cf1_1, eq_false hb])
      exact endT_v (.inr rfl) (by (simp (maxSteps := 8000000) -implicitDefEqProofs (disch := omega) only [↓reduceIte, go_sem]) <;> rfl) (fun _ => rfl)
    subst hb
    rw [if_pos ⟨rfl, rfl⟩]
    by_cases ha : 0 ≤ a ∧ a ≤ (l.length : Int) - 1
    case neg =>
      rw [if_neg (by rw [plc_f ha]; decide)]
      (dsimp only [c129, rO]; simp (maxSteps := 8000000) -implicitDefEqProofs (disch := omega) only [↓reduceIte, go_sem, in_at, Bool.or_false, Bool.or_true, Bool.or_self, Bool.false_or, Bool.true_or, hq, hp, cf1_1, eq_false ha, plc_f ha])
      exact endT_v (.inr rfl) (by (simp (maxSteps := 8000000) -implicitDefEqProofs (disch := omega) only [↓reduceIte, go_sem]) <;> rfl) (fun _ => rfl)
    rw [if_pos (plc_t ha)]
    obtain ⟨x, hx⟩ := plc_get ha
    have hc := cf2_1 a l ha
    rw [opAt_some hx] at hc ⊢
    by_cases h2 : x.o = 2
    · rw [if_pos h2]
      (dsimp only [c129, rO]; simp (maxSteps := 8000000) -implicitDefEqProofs (disch := omega) only [↓reduceIte, go_sem, in_at, Bool.or_false, Bool.or_true, Bool.or_self, Bool.false_or, Bool.true_or, hq, hp, cf1_1, eq_true ha, plc_t ha, ha.1, rowsT_get hx, tmT, eq_true h2, hc])
      exact endT_v (.inr rfl) (by (simp (maxSteps := 8000000) -implicitDefEqProofs (disch := omega) only [↓reduceIte, go_sem]) <;> rfl) (fun _ => rfl)
    · rw [if_neg h2]
      (dsimp only [c129, rO]; simp (maxSteps := 8000000) -implicitDefEqProofs (disch := omega) only [↓reduceIte, go_sem, in_at, Bool.or_false, Bool.or_true, Bool.or_self, Bool.false_or, Bool.true_or, hq, hp, cf1_1, eq_true ha, plc_t ha, ha.1, rowsT_get hx, tmT, eq_false h2, hc])
      exact endT_v (.inr rfl) (by (simp (maxSteps := 8000000) -implicitDefEqProofs (disch := omega) only [↓reduceIte, go_sem]) <;> rfl) (fun _ => rfl)
  by_cases h7 : o = 7
  · subst h7
    rw [show termF l ⟨7, a, b, n⟩ = if n = 0 then (if plc l.length a = true ∧ plc l.length b = true then (if opAt l a = 2 ∧ opAt l b = 2 ∧ a ≤ b then 0 else 1) else 3) else 1 from rfl]
    have hq := nm_at 7
    rw [nmF_2 7 (by omega) (by omega)] at hq
    have hp := pt_at ⟨7, a, b, n⟩
    rw [show ptR 7 a b = (.os 0 0 2, [.cells 2 1 [.p (.int .i64 a), .p (.int .i64 b)]]) from rfl] at hp
    dsimp only [tmT] at hp
    by_cases hn : n = 0
    case neg =>
      rw [if_neg hn]
      (dsimp only [c129, rO]; simp (maxSteps := 8000000) -implicitDefEqProofs (disch := omega) only [↓reduceIte, go_sem, in_at, Bool.or_false, Bool.or_true, Bool.or_self, Bool.false_or, Bool.true_or, hq, hp, cf1_2, eq_false hn])
      exact endT_v (.inr rfl) (by (simp (maxSteps := 8000000) -implicitDefEqProofs (disch := omega) only [↓reduceIte, go_sem]) <;> rfl) (fun _ => rfl)
    subst hn
    rw [if_pos rfl]
    by_cases ha : 0 ≤ a ∧ a ≤ (l.length : Int) - 1
    case neg =>
      rw [if_neg (fun h => by rw [plc_f ha] at h; exact absurd h.1 (by decide))]
      (dsimp only [c129, rO]; simp (maxSteps := 8000000) -implicitDefEqProofs (disch := omega) only [↓reduceIte, go_sem, in_at, Bool.or_false, Bool.or_true, Bool.or_self, Bool.false_or, Bool.true_or, hq, hp, cf1_2, eq_false ha, plc_f ha])
      exact endT_v (.inr rfl) (by (simp (maxSteps := 8000000) -implicitDefEqProofs (disch := omega) only [↓reduceIte, go_sem]) <;> rfl) (fun _ => rfl)
    by_cases hb : 0 ≤ b ∧ b ≤ (l.length : Int) - 1
    case neg =>
      rw [if_neg (fun h => by rw [plc_f hb] at h; exact absurd h.2 (by decide))]
      (dsimp only [c129, rO]; simp (maxSteps := 8000000) -implicitDefEqProofs (disch := omega) only [↓reduceIte, go_sem, in_at, Bool.or_false, Bool.or_true, Bool.or_self, Bool.false_or, Bool.true_or, hq, hp, cf1_2, eq_true ha, eq_false hb, plc_t ha, plc_f hb])
      exact endT_v (.inr rfl) (by (simp (maxSteps := 8000000) -implicitDefEqProofs (disch := omega) only [↓reduceIte, go_sem]) <;> rfl) (fun _ => rfl)
    rw [if_pos ⟨plc_t ha, plc_t hb⟩]
    obtain ⟨x, hx⟩ := plc_get ha
    obtain ⟨y, hy⟩ := plc_get hb
    have hc := cf2_2 a b l ⟨ha, hb⟩
    rw [opAt_some hx, opAt_some hy] at hc ⊢
    by_cases h2 : x.o = 2
    case neg =>
      rw [if_neg (fun h => h2 h.1)]
      (dsimp only [c129, rO]; simp (maxSteps := 8000000) -implicitDefEqProofs (disch := omega) only [↓reduceIte, go_sem, in_at, Bool.or_false, Bool.or_true, Bool.or_self, Bool.false_or, Bool.true_or, hq, hp, cf1_2, eq_true ha, eq_true hb, plc_t ha, plc_t hb, ha.1, hb.1, rowsT_get hx, rowsT_get hy, tmT, eq_false h2, hc])
      exact endT_v (.inr rfl) (by (simp (maxSteps := 8000000) -implicitDefEqProofs (disch := omega) only [↓reduceIte, go_sem]) <;> rfl) (fun _ => rfl)
    by_cases h4 : y.o = 2
    case neg =>
      rw [if_neg (fun h => h4 h.2.1)]
      (dsimp only [c129, rO]; simp (maxSteps := 8000000) -implicitDefEqProofs (disch := omega) only [↓reduceIte, go_sem, in_at, Bool.or_false, Bool.or_true, Bool.or_self, Bool.false_or, Bool.true_or, hq, hp, cf1_2, eq_true ha, eq_true hb, plc_t ha, plc_t hb, ha.1, hb.1, rowsT_get hx, rowsT_get hy, tmT, eq_true h2, eq_false h4, hc])
      exact endT_v (.inr rfl) (by (simp (maxSteps := 8000000) -implicitDefEqProofs (disch := omega) only [↓reduceIte, go_sem]) <;> rfl) (fun _ => rfl)
    by_cases h5 : a ≤ b
    · rw [if_pos ⟨h2, h4, h5⟩]
      (dsimp only [c129, rO]; simp (maxSteps := 8000000) -implicitDefEqProofs (disch := omega) only [↓reduceIte, go_sem, in_at, Bool.or_false, Bool.or_true, Bool.or_self, Bool.false_or, Bool.true_or, hq, hp, cf1_2, eq_true ha, eq_true hb, plc_t ha, plc_t hb, ha.1, hb.1, rowsT_get hx, rowsT_get hy, tmT, eq_true h2, eq_true h4, eq_false (show ¬ a > b by omega), hc])
      exact endT_v (.inr rfl) (by (simp (maxSteps := 8000000) -implicitDefEqProofs (disch := omega) only [↓reduceIte, go_sem]) <;> rfl) (fun _ => rfl)
    · rw [if_neg (fun h => h5 h.2.2)]
      (dsimp only [c129, rO]; simp (maxSteps := 8000000) -implicitDefEqProofs (disch := omega) only [↓reduceIte, go_sem, in_at, Bool.or_false, Bool.or_true, Bool.or_self, Bool.false_or, Bool.true_or, hq, hp, cf1_2, eq_true ha, eq_true hb, plc_t ha, plc_t hb, ha.1, hb.1, rowsT_get hx, rowsT_get hy, tmT, eq_true h2, eq_true h4, eq_true (show a > b by omega), hc])
      exact endT_v (.inr rfl) (by (simp (maxSteps := 8000000) -implicitDefEqProofs (disch := omega) only [↓reduceIte, go_sem]) <;> rfl) (fun _ => rfl)
  rw [show termF l ⟨o, a, b, n⟩ = 5 by unfold termF; rw [if_neg h1, if_neg h3, if_neg h6, if_neg h7]]
  (dsimp only [c129, rO]; simp (maxSteps := 8000000) -implicitDefEqProofs (disch := omega) only [↓reduceIte, go_sem, in_at, Bool.or_false, Bool.or_true, Bool.or_self, Bool.false_or, Bool.true_or, eq_false (show ¬ (1 ≤ o ∧ o ≤ 7) by omega)])
  exact endT_v (.inr rfl) (by (simp (maxSteps := 8000000) -implicitDefEqProofs (disch := omega) only [↓reduceIte, go_sem]) <;> rfl) (fun _ => rfl)
end Go.Proofs.Ytbddhlhpakbcdaa
