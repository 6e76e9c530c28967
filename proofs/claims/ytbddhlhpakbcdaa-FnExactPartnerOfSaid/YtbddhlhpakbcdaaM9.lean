import Derived.Test.YtbddhlhpakbcdaaM8
set_option linter.unusedSimpArgs false
set_option linter.unusedVariables false
set_option maxRecDepth 100000
set_option maxHeartbeats 4000000
namespace Go.Proofs.Ytbddhlhpakbcdaa
open Go Go.AH
attribute [local irreducible] awpT ropsT qopsT stepT condKT gdKT EndT joinK loopKT seqKT blkKT kont kontR ropsTF frKT
/-! The fault of a net -/

instance : Enc Unit := ⟨fun _ => .nl, fun _ _ _ => rfl⟩
structure TwG where
  (a b : List GvR)
def twT (x : TwG) : TV := .s [.s (rowsT gvT x.a), .s (rowsT gvT x.b)]
instance : Enc TwG := ⟨twT, fun x y h => by
  cases x; cases y; simp only [twT, TV.s.injEq, List.cons.injEq, and_true] at h
  rw [rowsT_inj gvT_inj h.1, rowsT_inj gvT_inj h.2]⟩
theorem repZ_ren (ρ : Nat → Nat) (n : Nat) : renTs ρ (List.replicate n (gvT ⟨0, 0, 0, 0⟩)) = List.replicate n (gvT ⟨0, 0, 0, 0⟩) := by
  induction n with
  | zero => rfl
  | succ n ih => rw [List.replicate_succ, rens_cons, ih]; rfl
def growR (n : Nat) : TV × THeap := if n = 0 then (.nl, []) else (.os 0 0 0, [.cells 166 4 (List.replicate n (gvT ⟨0, 0, 0, 0⟩))])
noncomputable def grow_S := specP (fun n : Nat => [.nl, .p (.int .i64 n)]) (fun n => n ≤ 4096) growR
theorem grow_at (n : Nat) (h : n ≤ 4096) : grow_S [.nl, .p (.int .i64 n)] = some (growR n) := specP_at (enc := fun n : Nat => [.nl, .p (.int .i64 n)]) (by intro x y h; simp at h; omega) n h
-- slices.Grow[[]impl.Given,impl.Given]
def c160 : AF := ⟨27,
 (.seq (.reg [rO 4 (.mv (.v (.slice none 0 0)))])
 (.seq (.seq (.reg [rO 5 (.mv (.t 1)),
 rO 6 (.bin .lss (.t 5) (.v (.int .i64 0)))])
 (.cond (.t 6) (.reg [rO 7 (.fail),
 ⟨none, none, .fail⟩])
 .skip))
 (.seq (.seq (.reg [rO 8 (.mv (.t 1)),
 rO 9 (.mv (.t 0)),
 rO 10 (.capZ (.t 9)),
 rO 11 (.mv (.t 0)),
 rO 12 (.len (.t 11)),
 rO 13 (.bin .sub (.t 10) (.t 12)),
 rO 14 (.bin .sub (.t 8) (.t 13)),
 rO 1 (.mv (.t 14))])
 (.seq (.reg [rO 15 (.mv (.t 1)),
 rO 16 (.bin .gtr (.t 15) (.v (.int .i64 0)))])
 (.cond (.t 16) (.reg [rO 17 (.mv (.t 0)),
 rO 18 (.mv (.t 0)),
 rO 19 (.capZ (.t 18)),
 rO 20 (.sl 4 (.t 17) none (some (.t 19))),
 rO 21 (.mv (.t 1)),
 rO 22 (.apz 166 4 32 [(.int .i64 0), (.int .i64 0), (.int .i64 0), (.int .i64 0)] (.t 20) (.t 21)),
 rO 23 (.mv (.t 0)),
 rO 24 (.len (.t 23)),
 rO 25 (.sl 4 (.t 22) none (some (.t 24))),
 rO 0 (.mv (.t 25))])
 .skip)))
 (.seq (.reg [rO 26 (.mv (.t 0)),
 rO 4 (.mv (.t 26))])
 .ret)))),
 [.t 4]⟩
theorem k160 : cFn Try.prog Try.f160 = some c160 := by kernel_rfl
theorem grow_ok : OkT Try.prog 160 (keepSp grow_S) := by
  refine okT_kp n0 Try.func160 (by kernel_rfl) k160 ?_
  intro n hn
  dsimp only [c160, rO] at *
  unfold growR
  by_cases h0 : n = 0
  · subst h0
    rw [if_pos rfl]
    try refine tS ?_
    repeat' first | exact eV | exact eP | ((first | apply cD | apply cB | apply gD | apply gB) <;> intro _ <;> try refine tS ?_)
  · rw [if_neg h0]
    have e : (TV.agg [.p (.int .i64 0), .p (.int .i64 0), .p (.int .i64 0), .p (.int .i64 0)]) = gvT ⟨0, 0, 0, 0⟩ := rfl
    generalize hz : gvT ⟨0, 0, 0, 0⟩ = z at *
    have hr := fun ρ => repZ_ren ρ n
    rw [hz] at hr
    refine tS ?_
    exact eO [0]
noncomputable def ccat_S := spE (α := TwG) (fun x => x.a.length ≤ 1024 ∧ x.b.length ≤ 1024) (fun x => (.os 0 0 (x.a ++ x.b).length, [.cells 166 4 (rowsT gvT (x.a ++ x.b))]))
theorem ccat_at (x : TwG) (h : x.a.length ≤ 1024 ∧ x.b.length ≤ 1024) : ccat_S [twT x] = some ((.os 0 0 (x.a ++ x.b).length, [.cells 166 4 (rowsT gvT (x.a ++ x.b))])) := spE_at (α := TwG) x h

theorem ccat_a (a b : List GvR) (h : a.length ≤ 1024 ∧ b.length ≤ 1024) : ccat_S [.s [.s (rowsT gvT a), .s (rowsT gvT b)]] = some (.os 0 0 (a.length + b.length), [.cells 166 4 (rowsT gvT (a ++ b))]) := by
  have := ccat_at ⟨a, b⟩ h; rwa [List.length_append] at this
attribute [go_sem] ccat_a Int.zero_add
-- slices.Concat[[]impl.Given,impl.Given]
def c121 : AF := ⟨36,
 (.seq (.reg [rO 2 (.mv (.v (.slice none 0 0)))])
 (.seq (.reg [rO 3 (.mv (.v (.int .i64 0)))])
 (.seq (.seq (.reg [rO 9 (.mv (.t 0)),
 rO 10 (.len (.t 9)),
 rO 11 (.mv (.v (.int .i64 0)))])
 (.block 0 (.loop (.seq (.reg [rO 12 (.bin .lss (.t 11) (.t 10))])
 (.seq (.cond (.t 12) .skip
 (.exit 0))
 (.seq (.block 1 (.seq (.reg [rO 13 (.ia 1 (.t 9) (.t 11)),
 rO 14 (.ld (.t 13)),
 rO 5 (.mv (.t 14))])
 (.seq (.reg [rO 15 (.mv (.t 3)),
 rO 16 (.mv (.t 5)),
 rO 17 (.len (.t 16)),
 rO 18 (.bin .add (.t 15) (.t 17)),
 rO 3 (.mv (.t 18))])
 (.seq (.reg [rO 19 (.mv (.t 3)),
 rO 20 (.bin .lss (.t 19) (.v (.int .i64 0)))])
 (.cond (.t 20) (.reg [rO 21 (.fail),
 ⟨none, none, .fail⟩])
 .skip)))))
 (.reg [rO 22 (.bin .add (.t 11) (.v (.int .i64 1))),
 rO 11 (.mv (.t 22))])))))))
 (.seq (.reg [rO 23 (.mv (.t 3)),
 rO 24 (.call 160 [(.v (.slice none 0 0)), (.t 23)]),
 rO 6 (.mv (.t 24))])
 (.seq (.seq (.reg [rO 25 (.mv (.t 0)),
 rO 26 (.len (.t 25)),
 rO 27 (.mv (.v (.int .i64 0)))])
 (.block 2 (.loop (.seq (.reg [rO 28 (.bin .lss (.t 27) (.t 26))])
 (.seq (.cond (.t 28) .skip
 (.exit 2))
 (.seq (.block 3 (.seq (.reg [rO 29 (.ia 1 (.t 25) (.t 27)),
 rO 30 (.ld (.t 29)),
 rO 8 (.mv (.t 30))])
 (.reg [rO 31 (.mv (.t 6)),
 rO 32 (.mv (.t 8)),
 rO 33 (.app 166 4 32 (.t 31) (.t 32)),
 rO 6 (.mv (.t 33))])))
 (.reg [rO 34 (.bin .add (.t 27) (.v (.int .i64 1))),
 rO 27 (.mv (.t 34))])))))))
 (.seq (.reg [rO 35 (.mv (.t 6)),
 rO 2 (.mv (.t 35))])
 .ret)))))),
 [.t 2]⟩
theorem k121 : cFn Try.prog Try.f121 = some c121 := by kernel_rfl
theorem ccat_ok : OkT Try.prog 121 (pureSp ccat_S) := by
  refine okT_fA (cs grow_ok n0) Try.func121 k121 ?_ (hown := fun _ _ => ⟨rfl, by simp only [List.all_cons, List.all_nil, ownB, gvs_own, Bool.and_true]⟩)
  rintro ⟨a, b⟩ ⟨ha, hb⟩
  dsimp only [EncL.e, Enc.e, twT, c121, rO] at *
  refine tS ?_
  refine awpT_loop (α := Nat) (fun i => match i with | 0 => ⟨slots [(0, .s [.s (rowsT gvT a), .s (rowsT gvT b)]), (3, .p (.int .i64 0)), (9, .s [.s (rowsT gvT a), .s (rowsT gvT b)]), (10, .p (.int .i64 2)), (11, .p (.int .i64 0))], []⟩ | 1 => ⟨slots [(0, .s [.s (rowsT gvT a), .s (rowsT gvT b)]), (3, .p (.int .i64 a.length)), (9, .s [.s (rowsT gvT a), .s (rowsT gvT b)]), (10, .p (.int .i64 2)), (11, .p (.int .i64 1))], []⟩ | _ => ⟨slots [(0, .s [.s (rowsT gvT a), .s (rowsT gvT b)]), (3, .p (.int .i64 (a.length + b.length))), (9, .s [.s (rowsT gvT a), .s (rowsT gvT b)]), (10, .p (.int .i64 2)), (11, .p (.int .i64 2))], []⟩) (fun i => i ≤ 2) (fun i => 2 - i) 0 (by omega) (leA []) ?_
  intro i hi
  have hc : i = 0 ∨ i = 1 ∨ i = 2 := by omega
  have z2 : ((2 : Nat) : Int) = 2 := rfl
  rcases hc with rfl | rfl | rfl
  · refine tS ?_
    exact lN 1 (leA [])
  · refine tS ?_
    exact lN 2 (leA [])
  have hg := grow_at (a.length + b.length) (by omega)
  rw [Int.natCast_add] at hg
  refine tS ?_
  refine joinK_here ?_
  rw [List.length_append]
  by_cases h0 : a.length + b.length = 0
  · obtain rfl : a = [] := List.eq_nil_of_length_eq_zero (by omega)
    obtain rfl : b = [] := List.eq_nil_of_length_eq_zero (by omega)
    have hg : grow_S [.nl, .p (.int .i64 0)] = some (.nl, []) := grow_at 0 (by omega)
    refine tS ?_
    refine awpT_loop (α := Nat) (fun i => match i with | 0 => ⟨slots [(6, .nl), (25, .s [.s (rowsT gvT []), .s (rowsT gvT [])]), (26, .p (.int .i64 2)), (27, .p (.int .i64 0))], []⟩ | 1 => ⟨slots [(6, .os 0 0 0), (25, .s [.s (rowsT gvT []), .s (rowsT gvT [])]), (26, .p (.int .i64 2)), (27, .p (.int .i64 1))], [.cells 166 4 []]⟩ | _ => ⟨slots [(6, .os 0 0 0), (25, .s [.s (rowsT gvT []), .s (rowsT gvT [])]), (26, .p (.int .i64 2)), (27, .p (.int .i64 2))], [.cells 166 4 []]⟩) (fun i => i ≤ 2) (fun i => 2 - i) 0 (by omega) (leA []) ?_
    intro i hi
    have hc : i = 0 ∨ i = 1 ∨ i = 2 := by omega
    rcases hc with rfl | rfl | rfl
    · refine tS ?_
      exact lN 1 (leA [0])
    · refine tS ?_
      exact lN 2 (leA [1])
    refine tS ?_
    refine joinK_here ?_
    refine tS ?_
    exact eO [0]
  unfold growR at hg
  rw [if_neg h0] at hg
  have ht : a.take a.length = a := List.take_length
  have hR : a.length + b.length ≤ (List.replicate (a.length + b.length) (gvT ⟨0, 0, 0, 0⟩)).length := by rw [List.length_replicate]; exact Nat.le_refl _
  have hr := fun ρ => repZ_ren ρ (a.length + b.length)
  generalize List.replicate (a.length + b.length) (gvT ⟨0, 0, 0, 0⟩) = R at *
  refine tS ?_
  refine awpT_loop (α := Nat) (fun i => match i with | 0 => ⟨slots [(6, .os 0 0 0), (25, .s [.s (rowsT gvT a), .s (rowsT gvT b)]), (26, .p (.int .i64 2)), (27, .p (.int .i64 0))], [.cells 166 4 R]⟩ | 1 => ⟨slots [(6, .os 0 0 a.length), (25, .s [.s (rowsT gvT a), .s (rowsT gvT b)]), (26, .p (.int .i64 2)), (27, .p (.int .i64 1))], [.cells 166 4 (rowsT gvT a)]⟩ | _ => ⟨slots [(6, .os 0 0 (a.length + b.length)), (25, .s [.s (rowsT gvT a), .s (rowsT gvT b)]), (26, .p (.int .i64 2)), (27, .p (.int .i64 2))], [.cells 166 4 (rowsT gvT (a ++ b))]⟩) (fun i => i ≤ 2) (fun i => 2 - i) 0 (by omega) (leA [0]) ?_
  intro i hi
  have hc : i = 0 ∨ i = 1 ∨ i = 2 := by omega
  rcases hc with rfl | rfl | rfl
  · refine tS ?_
    exact lN 1 (leA [1])
  · refine tS ?_
    exact lN 2 (leA [1])
  refine tS ?_
  refine joinK_here ?_
  refine tS ?_
  exact eO [0]
end Go.Proofs.Ytbddhlhpakbcdaa
