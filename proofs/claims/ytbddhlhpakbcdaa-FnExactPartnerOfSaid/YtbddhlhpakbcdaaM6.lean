import Derived.Test.YtbddhlhpakbcdaaM5
set_option linter.unusedSimpArgs false
set_option linter.unusedVariables false
set_option maxRecDepth 100000
set_option maxHeartbeats 4000000
namespace Go.Proofs.Ytbddhlhpakbcdaa
open Go Go.AH
attribute [local irreducible] awpT ropsT qopsT stepT condKT gdKT EndT joinK loopKT seqKT blkKT kont kontR ropsTF frKT
/-! Faults of gates -/

structure GaR where
  (id count : Int)
  talks : List TkR
def gaT (x : GaR) : TV := .agg [.p (.int .i64 x.id), .p (.int .i64 x.count), .s (rowsT tkT x.talks)]
theorem gaT_inj (x y : GaR) (h : gaT x = gaT y) : x = y := by
  cases x; cases y; simp [gaT] at h; simp [h.1, h.2.1, rowsT_inj tkT_inj h.2.2]
theorem gaT_flat : Flat gaT 3 := ⟨fun _ => rfl, fun h n x => by simp only [gaT, frz_agg, frz_p, frz_s, List.map_cons, List.map_nil], fun _ _ => rfl⟩
theorem gas_sized (l : List GaR) : sizedT 3 (rowsT gaT l) = true := rowsT_sized gaT_flat l
theorem gas_frz (h : THeap) (n : Nat) (l : List GaR) : (rowsT gaT l).map (frzT h n) = rowsT gaT l := rowsT_frz gaT_flat h n l
theorem gas_ren (ρ : Nat → Nat) (l : List GaR) : renTs ρ (rowsT gaT l) = rowsT gaT l := rowsT_ren gaT_flat ρ l
theorem gas_eta (x : GaR) : (⟨x.id, x.count, x.talks⟩ : GaR) = x := rfl
attribute [go_sem] gaT gas_sized gas_frz gas_ren gas_eta
instance : Enc GaR := ⟨gaT, gaT_inj⟩
instance : Enc (List GaR) := ⟨fun l => .s (rowsT gaT l), fun x y h => rowsT_inj gaT_inj (TV.s.inj h)⟩
def gateF (l : List TmR) (g : GaR) : Int := if (1 ≤ g.id ∧ g.id ≤ 9) ∧ (0 ≤ g.count ∧ g.count ≤ 90) then (if g.talks.length > 12 then 2 else fst0 (fun _ x => talkF l x) 0 g.talks) else 3
def gateG (l : List TmR) (g : GaR) : Int := if tabF l = 0 then gateF l g else tabF l
noncomputable def gate_S := spE (α := List TmR × GaR) (fun x => (x.1.length ≤ 1048576) ∧ (x.2.talks.length ≤ 1048576)) (fun x => (.p (.int .i64 (gateF x.1 x.2)), []))
theorem gate_at (l : List TmR) (g1 g2 : Int) (g3 : List TkR) (h0 : l.length ≤ 1048576) (h1 : g3.length ≤ 1048576) : gate_S [.s (rowsT tmT l), .agg [.p (.int .i64 g1), .p (.int .i64 g2), .s (rowsT tkT g3)]] = some ((.p (.int .i64 (gateF l (⟨g1, g2, g3⟩ : GaR))), [])) := spE_at (α := List TmR × GaR) (l, (⟨g1, g2, g3⟩ : GaR)) ⟨h0, h1⟩
attribute [go_sem] gate_at
noncomputable def gateg_S := spE (α := List TmR × GaR) (fun x => (x.1.length ≤ 1048576) ∧ (x.2.talks.length ≤ 1048576)) (fun x => (.p (.int .i64 (gateG x.1 x.2)), []))
theorem gateg_at (l : List TmR) (g1 g2 : Int) (g3 : List TkR) (h0 : l.length ≤ 1048576) (h1 : g3.length ≤ 1048576) : gateg_S [.s (rowsT tmT l), .agg [.p (.int .i64 g1), .p (.int .i64 g2), .s (rowsT tkT g3)]] = some ((.p (.int .i64 (gateG l (⟨g1, g2, g3⟩ : GaR))), [])) := spE_at (α := List TmR × GaR) (l, (⟨g1, g2, g3⟩ : GaR)) ⟨h0, h1⟩
attribute [go_sem] gateg_at
-- spec.l11Gate
def c102 : AF := ⟨38,
 (.seq (.reg [rO 3 (.box 26 (.t 1)),
 rO 4 (.mv (.v (.int .i64 0)))])
 (.seq (.seq (.reg [rO 7 (.fa (.t 3) 0),
 rO 8 (.ld (.t 7)),
 rO 9 (.call 54 [(.t 8), (.v (.int .i64 1)), (.v (.int .i64 9))]),
 rO 10 (.un .not (.t 9)),
 rO 11 (.mv (.t 10)),
 ⟨(some 12), (some (11, false)), .fa (.t 3) 1⟩,
 ⟨(some 13), (some (11, false)), .ld (.t 12)⟩,
 ⟨(some 14), (some (11, false)), .call 54 [(.t 13), (.v (.int .i64 0)), (.v (.int .i64 90))]⟩,
 ⟨(some 15), (some (11, false)), .un .not (.t 14)⟩,
 rO 16 (.pick (.t 11) (.v (.bool true)) (.t 15))])
 (.cond (.t 16) (.seq (.reg [rO 4 (.mv (.v (.int .i64 3)))])
 .ret)
 .skip))
 (.seq (.seq (.reg [rO 17 (.fa (.t 3) 2),
 rO 18 (.ld (.t 17)),
 rO 19 (.len (.t 18)),
 rO 20 (.bin .gtr (.t 19) (.v (.int .i64 12)))])
 (.cond (.t 20) (.seq (.reg [rO 4 (.mv (.v (.int .i64 2)))])
 .ret)
 .skip))
 (.seq (.seq (.reg [rO 5 (.mv (.v (.int .i64 0)))])
 (.block 0 (.loop (.seq (.seq (.reg [rO 21 (.mv (.t 5)),
 rO 22 (.fa (.t 3) 2),
 rO 23 (.ld (.t 22)),
 rO 24 (.len (.t 23)),
 rO 25 (.bin .lss (.t 21) (.t 24))])
 (.cond (.t 25) .skip
 (.exit 0)))
 (.seq (.block 1 (.seq (.reg [rO 28 (.mv (.t 0)),
 rO 29 (.fa (.t 3) 2),
 rO 30 (.ld (.t 29)),
 rO 31 (.mv (.t 5)),
 rO 32 (.ia 20 (.t 30) (.t 31)),
 rO 33 (.ldn 20 (.t 32)),
 rO 34 (.call 149 [(.t 28), (.t 33)]),
 rO 6 (.mv (.t 34))])
 (.seq (.reg [rO 35 (.mv (.t 6)),
 rO 36 (.bin .neq (.t 35) (.v (.int .i64 0)))])
 (.cond (.t 36) (.seq (.reg [rO 37 (.mv (.t 6)),
 rO 4 (.mv (.t 37))])
 .ret)
 .skip))))
 (.reg [rO 26 (.mv (.t 5)),
 rO 27 (.bin .add (.t 26) (.v (.int .i64 1))),
 rO 5 (.mv (.t 27))]))))))
 (.seq (.reg [rO 4 (.mv (.v (.int .i64 0)))])
 .ret))))),
 [.t 4]⟩
theorem k102 : cFn Try.prog Try.f102 = some c102 := by kernel_rfl
theorem gateS_ok : OkT Try.prog 102 (pureSp gate_S) := by
  refine okT_fA (cs l1In_ok (cs talkS_ok n0)) Try.func102 k102 ?_
  rintro ⟨l, g⟩ ⟨h, h2⟩
  dsimp only [EncL.e, Enc.e, gaT, c102, rO] at *
  unfold gateF
  by_cases hr : (1 ≤ g.id ∧ g.id ≤ 9) ∧ (0 ≤ g.count ∧ g.count ≤ 90)
  case neg =>
    rw [if_neg hr]
    try refine tS ?_
    repeat' first | exact eV | exact eP | (exfalso; omega) | ((first | apply cD | apply cB | apply gD | apply gB) <;> intro _ <;> try refine tS ?_)
  rw [if_pos hr]
  obtain ⟨r1, r2⟩ := hr
  by_cases hm : (g.talks.length : Int) > 12
  · rw [if_pos (by omega)]
    try refine tS ?_
    repeat' first | exact eV | exact eP | ((first | apply cD | apply cB | apply gD | apply gB) <;> intro _ <;> try refine tS ?_)
  rw [if_neg (by omega)]
  refine tS ?_
  refine awpT_loop (α := Nat) (fun i => ⟨slots [(0, .s (rowsT tmT l)), (3, .op 0 0 0), (5, .p (.int .i64 i))], [.cells 26 3 [gaT g]]⟩) (fun i => i ≤ g.talks.length ∧ fst0 (fun _ x => talkF l x) 0 g.talks = fst0 (fun _ x => talkF l x) i (g.talks.drop i)) (fun i => g.talks.length - i) 0 ⟨by omega, rfl⟩ (leA [0]) ?_
  intro i ⟨hi, hn⟩
  rw [hn]; clear hn
  refine tS ?_
  refine cD (fun hlt => ?_) (fun hge => ?_)
  · obtain ⟨x, hx⟩ := get_ex (l := g.talks) (i := i) (by omega)
    rw [fst_at hx]
    by_cases h1 : talkF l x = 0
    · rw [if_pos h1]
      refine tS ?_
      exact lN (i + 1) (leA [0])
    · rw [if_neg h1]
      try refine tS ?_
      repeat' first | exact eV | exact eP | ((first | apply cD | apply cB | apply gD | apply gB) <;> intro _ <;> try refine tS ?_)
  · rw [fst_end (by omega)]
    refine tS ?_
    refine joinK_here ?_
    try refine tS ?_
    repeat' first | exact eV | exact eP | ((first | apply cD | apply cB | apply gD | apply gB) <;> intro _ <;> try refine tS ?_)
-- impl.GateFault
def c31 : AF := ⟨44,
 (.seq (.reg [rO 3 (.box 26 (.t 1)),
 rO 4 (.mv (.v (.int .i64 0)))])
 (.seq (.seq (.reg [rO 9 (.mv (.t 0)),
 rO 10 (.call 78 [(.t 9)]),
 rO 5 (.mv (.t 10))])
 (.seq (.reg [rO 11 (.mv (.t 5)),
 rO 12 (.bin .neq (.t 11) (.v (.int .i64 0)))])
 (.cond (.t 12) (.seq (.reg [rO 13 (.mv (.t 5)),
 rO 4 (.mv (.t 13))])
 .ret)
 .skip)))
 (.seq (.block 0 (.seq (.reg [rO 15 (.fa (.t 3) 0),
 rO 16 (.ld (.t 15)),
 rO 17 (.call 30 [(.t 16)]),
 rO 18 (.un .not (.t 17)),
 rO 19 (.mv (.t 18)),
 ⟨(some 20), (some (19, false)), .fa (.t 3) 1⟩,
 ⟨(some 21), (some (19, false)), .ld (.t 20)⟩,
 ⟨(some 22), (some (19, false)), .call 48 [(.t 21), (.v (.int .i64 0)), (.v (.int .i64 90))]⟩,
 ⟨(some 23), (some (19, false)), .un .not (.t 22)⟩,
 rO 24 (.pick (.t 19) (.v (.bool true)) (.t 23)),
 rO 14 (.mv (.t 24))])
 (.cond (.t 14) (.seq (.reg [rO 4 (.mv (.v (.int .i64 3)))])
 .ret)
 (.seq (.reg [rO 26 (.fa (.t 3) 2),
 rO 27 (.ld (.t 26)),
 rO 28 (.len (.t 27)),
 rO 29 (.bin .gtr (.t 28) (.v (.int .i64 12))),
 rO 25 (.mv (.t 29))])
 (.cond (.t 25) (.seq (.reg [rO 4 (.mv (.v (.int .i64 2)))])
 .ret)
 .skip)))))
 (.seq (.seq (.reg [rO 30 (.fa (.t 3) 2),
 rO 31 (.ld (.t 30)),
 rO 32 (.len (.t 31)),
 rO 33 (.mv (.v (.int .i64 0)))])
 (.block 1 (.loop (.seq (.reg [rO 34 (.bin .lss (.t 33) (.t 32))])
 (.seq (.cond (.t 34) .skip
 (.exit 1))
 (.seq (.block 2 (.seq (.reg [rO 35 (.ia 20 (.t 31) (.t 33)),
 rO 36 (.ldn 20 (.t 35)),
 rO 7 (.alloc 38 [(.int .i64 0), (.int .i64 0), (.int .i64 0), (.int .i64 0), (.int .i64 0), (.int .i64 0), (.int .i64 0), (.int .i64 0), (.int .i64 0), (.int .i64 0), (.int .i64 0), (.int .i64 0), (.int .i64 0), (.int .i64 0), (.int .i64 0), (.int .i64 0), (.int .i64 0), (.int .i64 0), (.int .i64 0), (.int .i64 0)]),
 ⟨none, none, .st 20 (.t 7) (.t 36)⟩])
 (.seq (.reg [rO 37 (.mv (.t 0)),
 rO 38 (.ldn 20 (.t 7)),
 rO 39 (.call 79 [(.t 37), (.t 38)]),
 rO 8 (.mv (.t 39))])
 (.seq (.reg [rO 40 (.mv (.t 8)),
 rO 41 (.bin .neq (.t 40) (.v (.int .i64 0)))])
 (.cond (.t 41) (.seq (.reg [rO 42 (.mv (.t 8)),
 rO 4 (.mv (.t 42))])
 .ret)
 .skip)))))
 (.reg [rO 43 (.bin .add (.t 33) (.v (.int .i64 1))),
 rO 33 (.mv (.t 43))])))))))
 (.seq (.reg [rO 4 (.mv (.v (.int .i64 0)))])
 .ret))))),
 [.t 4]⟩
theorem k31 : cFn Try.prog Try.f31 = some c31 := by kernel_rfl
theorem gateI_ok : OkT Try.prog 31 (pureSp gateg_S) := by
  refine okT_fA (cs tabI_ok (cs idn_ok (cs in_ok (cs talkI_ok n0)))) Try.func31 k31 ?_
  rintro ⟨l, g⟩ ⟨h, h2⟩
  dsimp only [EncL.e, Enc.e, gaT, c31, rO] at *
  unfold gateG
  by_cases h0 : tabF l = 0
  case neg =>
    rw [if_neg h0]
    try refine tS ?_
    repeat' first | exact eV | exact eP | ((first | apply cD | apply cB | apply gD | apply gB) <;> intro _ <;> try refine tS ?_)
  rw [if_pos h0]; unfold gateF
  by_cases hr : (1 ≤ g.id ∧ g.id ≤ 9) ∧ (0 ≤ g.count ∧ g.count ≤ 90)
  case neg =>
    rw [if_neg hr]
    try refine tS ?_
    repeat' first | exact eV | exact eP | (exfalso; omega) | ((first | apply cD | apply cB | apply gD | apply gB) <;> intro _ <;> try refine tS ?_)
  rw [if_pos hr]
  obtain ⟨r1, r2⟩ := hr
  by_cases hm : (g.talks.length : Int) > 12
  · rw [if_pos (by omega)]
    try refine tS ?_
    repeat' first | exact eV | exact eP | ((first | apply cD | apply cB | apply gD | apply gB) <;> intro _ <;> try refine tS ?_)
  rw [if_neg (by omega)]
  refine tS ?_
  refine awpT_loop (α := Nat) (fun i => ⟨slots [(0, .s (rowsT tmT l)), (31, .s (rowsT tkT g.talks)), (32, .p (.int .i64 g.talks.length)), (33, .p (.int .i64 i))], [.cells 26 3 [gaT g]]⟩) (fun i => i ≤ g.talks.length ∧ fst0 (fun _ x => talkF l x) 0 g.talks = fst0 (fun _ x => talkF l x) i (g.talks.drop i)) (fun i => g.talks.length - i) 0 ⟨by omega, rfl⟩ (leA [0]) ?_
  intro i ⟨hi, hn⟩
  rw [hn]; clear hn
  refine tS ?_
  refine cD (fun hlt => ?_) (fun hge => ?_)
  · obtain ⟨x, hx⟩ := get_ex (l := g.talks) (i := i) (by omega)
    rw [fst_at hx]
    by_cases h1 : talkF l x = 0
    · rw [if_pos h1]
      refine tS ?_
      exact lN (i + 1) (leA [0])
    · rw [if_neg h1]
      try refine tS ?_
      repeat' first | exact eV | exact eP | ((first | apply cD | apply cB | apply gD | apply gB) <;> intro _ <;> try refine tS ?_)
  · rw [fst_end (by omega)]
    refine tS ?_
    refine joinK_here ?_
    try refine tS ?_
    repeat' first | exact eV | exact eP | ((first | apply cD | apply cB | apply gD | apply gB) <;> intro _ <;> try refine tS ?_)
end Go.Proofs.Ytbddhlhpakbcdaa
