import Derived.Test.YtbddhlhpakbcdaaM9
set_option linter.unusedSimpArgs false
set_option linter.unusedVariables false
set_option maxRecDepth 100000
set_option maxHeartbeats 4000000
namespace Go.Proofs.Ytbddhlhpakbcdaa
open Go Go.AH
attribute [local irreducible] awpT ropsT qopsT stepT condKT gdKT EndT joinK loopKT seqKT blkKT kont kontR ropsTF frKT
/-! The fault of a net -/

def ffo (l : List Int) : Int := fst0 (fun _ x => x) 0 l
noncomputable def ffo_S := spE (α := List Int) (fun x => x.length ≤ 1048576) (fun x => (.p (.int .i64 (ffo x)), []))
theorem ffo_at (l : List Int) (h : l.length ≤ 1048576) : ffo_S [.s (isT l)] = some ((.p (.int .i64 (ffo l)), [])) := spE_at (α := List Int) l h
-- impl.faultOf
def c116 : AF := ⟨15,
 (.seq (.reg [rO 2 (.mv (.v (.int .i64 0)))])
 (.seq (.seq (.reg [rO 5 (.mv (.t 0)),
 rO 6 (.len (.t 5)),
 rO 7 (.mv (.v (.int .i64 0)))])
 (.block 0 (.loop (.seq (.reg [rO 8 (.bin .lss (.t 7) (.t 6))])
 (.seq (.cond (.t 8) .skip
 (.exit 0))
 (.seq (.block 1 (.seq (.reg [rO 9 (.ia 1 (.t 5) (.t 7)),
 rO 10 (.ld (.t 9)),
 rO 4 (.mv (.t 10))])
 (.seq (.reg [rO 11 (.mv (.t 4)),
 rO 12 (.bin .neq (.t 11) (.v (.int .i64 0)))])
 (.cond (.t 12) (.seq (.reg [rO 13 (.mv (.t 4)),
 rO 2 (.mv (.t 13))])
 .ret)
 .skip))))
 (.reg [rO 14 (.bin .add (.t 7) (.v (.int .i64 1))),
 rO 7 (.mv (.t 14))])))))))
 (.seq (.reg [rO 2 (.mv (.v (.int .i64 0)))])
 .ret))),
 [.t 2]⟩
theorem k116 : cFn Try.prog Try.f116 = some c116 := by kernel_rfl
theorem ffo_ok : OkT Try.prog 116 (pureSp ffo_S) := by
  refine okT_fA n0 Try.func116 k116 ?_
  rintro l h
  dsimp only [EncL.e, Enc.e, c116, rO] at *
  refine tS ?_
  refine awpT_loop (α := Nat) (fun i => ⟨slots [(5, .s (isT l)), (6, .p (.int .i64 l.length)), (7, .p (.int .i64 i))], []⟩) (fun i => i ≤ l.length ∧ ffo l = fst0 (fun _ x => x) i (l.drop i)) (fun i => l.length - i) 0 ⟨by omega, rfl⟩ (leA []) ?_
  intro i ⟨hi, hn⟩
  rw [hn]; clear hn
  refine tS ?_
  refine cD (fun hlt => ?_) (fun hge => ?_)
  · obtain ⟨x, hx⟩ := get_ex (l := l) (i := i) (by omega)
    rw [fst_at hx]
    by_cases h1 : x = 0
    · rw [if_pos h1]
      refine tS ?_
      exact lN (i + 1) (leA [])
    · rw [if_neg h1]
      try refine tS ?_
      repeat' first | exact eV | exact eP | ((first | apply cD | apply cB | apply gD | apply gB) <;> intro _ <;> try refine tS ?_)
  · rw [fst_end (by omega)]
    refine tS ?_
    refine joinK_here ?_
    try refine tS ?_
    repeat' first | exact eV | exact eP | ((first | apply cD | apply cB | apply gD | apply gB) <;> intro _ <;> try refine tS ?_)

theorem ffo_1 (a : Int) : ffo_S [.s [.p (.int .i64 a)]] = some (.p (.int .i64 a), []) := by
  have := ffo_at [a] (by simp)
  rw [show ffo [a] = a by unfold ffo fst0; split <;> simp_all [fst0]] at this; exact this
theorem ffo_2 (a b : Int) : ffo_S [.s [.p (.int .i64 a), .p (.int .i64 b)]] = some (.p (.int .i64 (if a = 0 then b else a)), []) := by
  have := ffo_at [a, b] (by simp)
  rw [show ffo [a, b] = if a = 0 then b else a by unfold ffo fst0; split <;> (simp_all [fst0]; try (intro h; exact h.symm))] at this; exact this
attribute [go_sem] ffo_1 ffo_2
def gats1 (l : List TmR) (i : Nat) (g : GaR) : Int := if gateF l g = 0 then (if g.id = (i : Int) + 1 then 0 else 1) else gateF l g
def gatsF (n : NtR) : Int := if (2 ≤ n.gates.length ∧ n.gates.length ≤ 4) ∧ n.gave.length ≤ 60 ∧ n.got.length ≤ 60 then fst0 (gats1 n.table) 0 n.gates else 2
def restF (n : NtR) : Int := if brokF n.broken = 0 then (if knownF n.table n.heard = 0 then (if n.gave.any (badG n) = true ∨ n.got.any (badG n) = true then 3 else 0) else knownF n.table n.heard) else brokF n.broken
def netF (n : NtR) : Int := if tabF n.table = 0 then (if gatsF n = 0 then restF n else gatsF n) else tabF n.table
theorem gateG_0 {l : List TmR} {g : GaR} (h : tabF l = 0) : gateG l g = gateF l g := if_pos h
noncomputable def gok_S := spE (α := Int) (fun x => True) (fun x => (.p (.bool (decide (2 ≤ x ∧ x ≤ 4))), []))
theorem gok_at (a : Int) : gok_S [.p (.int .i64 a)] = some ((.p (.bool (decide (2 ≤ a ∧ a ≤ 4))), [])) := spE_at (α := Int) a trivial
attribute [go_sem] gok_at
-- impl.gatesOk
def c158 : AF := ⟨5,
 (.seq (.reg [rO 2 (.mv (.v (.bool false)))])
 (.seq (.reg [rO 3 (.mv (.t 0)),
 rO 4 (.call 48 [(.t 3), (.v (.int .i64 2)), (.v (.int .i64 4))]),
 rO 2 (.mv (.t 4))])
 .ret)),
 [.t 2]⟩
theorem k158 : cFn Try.prog Try.f158 = some c158 := by kernel_rfl
theorem gok_ok : OkT Try.prog 158 (pureSp gok_S) := by
  refine okT_fA (cs in_ok n0) Try.func158 k158 ?_
  rintro a _
  dsimp only [EncL.e, Enc.e, c158, rO] at *
  try refine tS ?_
  repeat' first | exact eV | exact eP | ((first | apply cD | apply cB | apply gD | apply gB) <;> intro _ <;> try refine tS ?_)
noncomputable def gats_S := spE (α := FeN) (fun x => (NtOk x.x) ∧ (tabF x.x.table = 0)) (fun x => (.p (.int .i64 (gatsF x.x)), []))
theorem gats_at (n1 : List TmR) (n2 : List GaR) (n3 n4 : List Int) (n5 n6 : List GvR) (h0 : NtOk (⟨n1, n2, n3, n4, n5, n6⟩ : NtR)) (h1 : tabF (⟨n1, n2, n3, n4, n5, n6⟩ : NtR).table = 0) : gats_S [.fe (.agg [.s (rowsT tmT n1), .s (rowsT gaT n2), .s (isT n3), .s (isT n4), .s (rowsT gvT n5), .s (rowsT gvT n6)]) 0] = some ((.p (.int .i64 (gatsF (⟨n1, n2, n3, n4, n5, n6⟩ : NtR))), [])) := spE_at (α := FeN) ⟨(⟨n1, n2, n3, n4, n5, n6⟩ : NtR)⟩ ⟨h0, h1⟩
attribute [go_sem] gats_at
-- (*impl.Net).gatesFault
def c117 : AF := ⟨54,
 (.seq (.reg [rO 2 (.mv (.v (.int .i64 0)))])
 (.seq (.seq (.reg [rO 6 (.mv (.t 0)),
 rO 7 (.nilc (.t 6)),
 rO 8 (.fa (.t 7) 1),
 rO 9 (.ld (.t 8)),
 rO 10 (.len (.t 9)),
 rO 11 (.call 158 [(.t 10)]),
 rO 12 (.un .not (.t 11)),
 rO 13 (.mv (.t 12)),
 ⟨(some 14), (some (13, false)), .mv (.t 0)⟩,
 ⟨(some 15), (some (13, false)), .nilc (.t 14)⟩,
 ⟨(some 16), (some (13, false)), .fa (.t 15) 4⟩,
 ⟨(some 17), (some (13, false)), .ld (.t 16)⟩,
 ⟨(some 18), (some (13, false)), .len (.t 17)⟩,
 ⟨(some 19), (some (13, false)), .bin .gtr (.t 18) (.v (.int .i64 60))⟩,
 rO 20 (.pick (.t 13) (.v (.bool true)) (.t 19)),
 rO 21 (.mv (.t 20)),
 ⟨(some 22), (some (21, false)), .mv (.t 0)⟩,
 ⟨(some 23), (some (21, false)), .nilc (.t 22)⟩,
 ⟨(some 24), (some (21, false)), .fa (.t 23) 5⟩,
 ⟨(some 25), (some (21, false)), .ld (.t 24)⟩,
 ⟨(some 26), (some (21, false)), .len (.t 25)⟩,
 ⟨(some 27), (some (21, false)), .bin .gtr (.t 26) (.v (.int .i64 60))⟩,
 rO 28 (.pick (.t 21) (.v (.bool true)) (.t 27))])
 (.cond (.t 28) (.seq (.reg [rO 2 (.mv (.v (.int .i64 2)))])
 .ret)
 .skip))
 (.seq (.seq (.reg [rO 29 (.mv (.t 0)),
 rO 30 (.nilc (.t 29)),
 rO 31 (.fa (.t 30) 1),
 rO 32 (.ld (.t 31)),
 rO 33 (.len (.t 32)),
 rO 34 (.mv (.v (.int .i64 0)))])
 (.block 0 (.loop (.seq (.reg [rO 35 (.bin .lss (.t 34) (.t 33))])
 (.seq (.cond (.t 35) .skip
 (.exit 0))
 (.seq (.block 1 (.seq (.reg [rO 36 (.mv (.t 34)),
 rO 37 (.ia 3 (.t 32) (.t 34)),
 rO 38 (.ldn 3 (.t 37)),
 rO 4 (.alloc 26 [(.int .i64 0), (.int .i64 0), (.slice none 0 0)]),
 rO 3 (.mv (.t 36)),
 ⟨none, none, .st 3 (.t 4) (.t 38)⟩])
 (.seq (.seq (.drw [rO 39 (.mv (.t 0)),
 rO 40 (.nilc (.t 39)),
 rO 41 (.fa (.t 40) 0),
 rO 42 (.ld (.t 41)),
 rO 43 (.ldn 3 (.t 4))] [rO 44 (.call 31 [(.t 42), (.t 43)]),
 rO 5 (.mv (.t 44))])
 (.seq (.reg [rO 45 (.mv (.t 5)),
 rO 46 (.bin .neq (.t 45) (.v (.int .i64 0)))])
 (.cond (.t 46) (.seq (.reg [rO 47 (.mv (.t 5)),
 rO 2 (.mv (.t 47))])
 .ret)
 .skip)))
 (.seq (.reg [rO 48 (.fa (.t 4) 0),
 rO 49 (.ld (.t 48)),
 rO 50 (.mv (.t 3)),
 rO 51 (.bin .add (.t 50) (.v (.int .i64 1))),
 rO 52 (.bin .neq (.t 49) (.t 51))])
 (.cond (.t 52) (.seq (.reg [rO 2 (.mv (.v (.int .i64 1)))])
 .ret)
 .skip)))))
 (.reg [rO 53 (.bin .add (.t 34) (.v (.int .i64 1))),
 rO 34 (.mv (.t 53))])))))))
 (.seq (.reg [rO 2 (.mv (.v (.int .i64 0)))])
 .ret)))),
 [.t 2]⟩
theorem k117 : cFn Try.prog Try.f117 = some c117 := by kernel_rfl
theorem gats_ok : OkT Try.prog 117 (pureSp gats_S) := by
  refine okT_fA (cs gok_ok (cs gateI_ok n0)) Try.func117 k117 ?_
  rintro ⟨n⟩ ⟨hk, ht⟩
  dsimp only [EncL.e, Enc.e, ntT, c117, rO] at *
  have ha := hk.a
  have hb := hk.b

  unfold gatsF
  by_cases hr : (2 ≤ n.gates.length ∧ n.gates.length ≤ 4) ∧ n.gave.length ≤ 60 ∧ n.got.length ≤ 60
  case neg =>
    rw [if_neg hr]
    try refine tS ?_
    repeat' first | exact eV | exact eP | (exfalso; omega) | ((first | apply cD | apply cB | apply gD | apply gB) <;> intro _ <;> try refine tS ?_)
  rw [if_pos hr]

  obtain ⟨r1, r2, r3⟩ := hr
  refine tS ?_

  refine awpT_loop (α := Nat) (fun i => ⟨slots [(0, .fe (ntT n) 0), (32, .s (rowsT gaT n.gates)), (33, .p (.int .i64 n.gates.length)), (34, .p (.int .i64 i))], []⟩) (fun i => i ≤ n.gates.length ∧ fst0 (gats1 n.table) 0 n.gates = fst0 (gats1 n.table) i (n.gates.drop i)) (fun i => n.gates.length - i) 0 ⟨by omega, rfl⟩ (leA []) ?_
  intro i ⟨hi, hn⟩
  rw [hn]; clear hn
  refine tS ?_
  refine cD (fun hlt => ?_) (fun hge => ?_)
  · obtain ⟨g, hg⟩ := get_ex (l := n.gates) (i := i) (by omega)
    have h3 := hk.t g (List.mem_of_getElem? hg)
    rw [fst_at hg, gats1]
    have h4 : gateG n.table g = gateF n.table g := gateG_0 ht
    by_cases h1 : gateF n.table g = 0
    case neg =>
      rw [if_neg h1, if_neg h1]
      try refine tS ?_
      repeat' first | exact eV | exact eP | ((first | apply cD | apply cB | apply gD | apply gB) <;> intro _ <;> try refine tS ?_)
    rw [if_pos h1]
    by_cases h2 : g.id = (i : Int) + 1
    · rw [if_pos h2, if_pos rfl]
      replace h2 := eq_true h2
      refine tS ?_
      exact lN (i + 1) (leA [])
    · rw [if_neg h2, if_neg (by decide)]
      try refine tS ?_
      repeat' first | exact eV | exact eP | ((first | apply cD | apply cB | apply gD | apply gB) <;> intro _ <;> try refine tS ?_)

  · rw [fst_end (by omega)]
    refine tS ?_
    refine joinK_here ?_
    try refine tS ?_
    repeat' first | exact eV | exact eP | ((first | apply cD | apply cB | apply gD | apply gB) <;> intro _ <;> try refine tS ?_)
noncomputable def net_S := spE (α := NtR) (fun x => NtOk x) (fun x => (.p (.int .i64 (netF x)), []))
theorem net_at (n1 : List TmR) (n2 : List GaR) (n3 n4 : List Int) (n5 n6 : List GvR) (h : NtOk (⟨n1, n2, n3, n4, n5, n6⟩ : NtR)) : net_S [.agg [.s (rowsT tmT n1), .s (rowsT gaT n2), .s (isT n3), .s (isT n4), .s (rowsT gvT n5), .s (rowsT gvT n6)]] = some ((.p (.int .i64 (netF (⟨n1, n2, n3, n4, n5, n6⟩ : NtR))), [])) := spE_at (α := NtR) (⟨n1, n2, n3, n4, n5, n6⟩ : NtR) h
attribute [go_sem] net_at
-- impl.NetFault
def c73 : AF := ⟨39,
 (.seq (.reg [rO 1 (.box 67 (.t 0)),
 rO 2 (.mv (.v (.int .i64 0)))])
 (.seq (.seq (.reg [rO 6 (.fa (.t 1) 0),
 rO 7 (.ld (.t 6)),
 rO 8 (.call 78 [(.t 7)]),
 rO 9 (.mkS 2 1 [(.int .i64 0)] [(0, 1, (.t 8))]),
 rO 10 (.call 116 [(.t 9)]),
 rO 3 (.mv (.t 10))])
 (.seq (.reg [rO 11 (.mv (.t 3)),
 rO 12 (.bin .neq (.t 11) (.v (.int .i64 0)))])
 (.cond (.t 12) (.seq (.reg [rO 13 (.mv (.t 3)),
 rO 2 (.mv (.t 13))])
 .ret)
 .skip)))
 (.seq (.seq (.reg [rO 14 (.call 117 [(.t 1)]),
 rO 4 (.mv (.t 14))])
 (.seq (.reg [rO 15 (.mv (.t 4)),
 rO 16 (.bin .neq (.t 15) (.v (.int .i64 0)))])
 (.cond (.t 16) (.seq (.reg [rO 17 (.mv (.t 4)),
 rO 2 (.mv (.t 17))])
 .ret)
 .skip)))
 (.seq (.seq (.drw [rO 18 (.fa (.t 1) 2),
 rO 19 (.ld (.t 18)),
 rO 20 (.call 118 [(.t 19)]),
 rO 21 (.fa (.t 1) 0),
 rO 22 (.ld (.t 21)),
 rO 23 (.fa (.t 1) 3),
 rO 24 (.ld (.t 23))] [rO 25 (.call 119 [(.t 22), (.t 24)]),
 rO 26 (.mkS 2 2 [(.int .i64 0), (.int .i64 0)] [(0, 1, (.t 20)), (1, 1, (.t 25))]),
 rO 27 (.call 116 [(.t 26)]),
 rO 5 (.mv (.t 27))])
 (.seq (.reg [rO 28 (.mv (.t 5)),
 rO 29 (.bin .neq (.t 28) (.v (.int .i64 0)))])
 (.cond (.t 29) (.seq (.reg [rO 30 (.mv (.t 5)),
 rO 2 (.mv (.t 30))])
 .ret)
 .skip)))
 (.seq (.seq (.reg [rO 31 (.fa (.t 1) 4),
 rO 32 (.ld (.t 31)),
 rO 33 (.fa (.t 1) 5),
 rO 34 (.ld (.t 33)),
 rO 35 (.mkS 65 2 [(.slice none 0 0), (.slice none 0 0)] [(0, 1, (.t 32)), (1, 1, (.t 34))]),
 rO 36 (.call 121 [(.t 35)]),
 rO 37 (.fn 122 [(.t 1)]),
 rO 38 (.call 120 [(.t 36), (.t 37)])])
 (.cond (.t 38) (.seq (.reg [rO 2 (.mv (.v (.int .i64 3)))])
 .ret)
 .skip))
 (.seq (.reg [rO 2 (.mv (.v (.int .i64 0)))])
 .ret)))))),
 [.t 2]⟩
theorem k73 : cFn Try.prog Try.f73 = some c73 := by kernel_rfl
theorem netI_ok : OkT Try.prog 73 (pureSp net_S) := by
  refine okT_fA (cs tabI_ok (cs ffo_ok (cs gats_ok (cs brokI_ok (cs knownI_ok (cs ccat_ok (cs cfN_ok (cs nf1_ok n0)))))))) Try.func73 k73 ?_
  rintro n hk
  dsimp only [EncL.e, Enc.e, ntT, c73, rO] at *
  have ha := hk.a
  have hb := hk.b
  have hc := hk.c
  have hd := hk.d
  have he := hk.e
  have hf := hk.f
  unfold netF
  by_cases h0 : tabF n.table = 0
  case neg =>
    rw [if_neg h0]
    try refine tS ?_
    repeat' first | exact eV | exact eP | ((first | apply cD | apply cB | apply gD | apply gB) <;> intro _ <;> try refine tS ?_)
  rw [if_pos h0]

  have hcf := fun l h => cfN_at l n h hk
  simp only [ntT] at hcf
  by_cases h1 : gatsF n = 0
  case neg =>
    rw [if_neg h1]
    try refine tS ?_
    repeat' first | exact eV | exact eP | ((first | apply cD | apply cB | apply gD | apply gB) <;> intro _ <;> try refine tS ?_)
  rw [if_pos h1]
  have hr : (2 ≤ n.gates.length ∧ n.gates.length ≤ 4) ∧ n.gave.length ≤ 60 ∧ n.got.length ≤ 60 := by
    unfold gatsF at h1; split at h1
    · assumption
    · cases h1
  obtain ⟨_, r2, r3⟩ := hr
  have hab : (n.gave ++ n.got).length ≤ 1048576 := by rw [List.length_append]; omega
  have hany : (n.gave ++ n.got).any (badG n) = (n.gave.any (badG n) || n.got.any (badG n)) := List.any_append
  replace hcf := hcf _ hab
  rw [hany] at hcf
  unfold restF
  by_cases h2 : brokF n.broken = 0
  case neg =>
    rw [if_neg h2]
    try refine tS ?_
    repeat' first | exact eV | exact eP | ((first | apply cD | apply cB | apply gD | apply gB) <;> intro _ <;> try refine tS ?_)
  rw [if_pos h2]
  by_cases h3 : knownF n.table n.heard = 0
  case neg =>
    rw [if_neg h3]
    try refine tS ?_
    repeat' first | exact eV | exact eP | ((first | apply cD | apply cB | apply gD | apply gB) <;> intro _ <;> try refine tS ?_)
  rw [if_pos h3]
  have ht : (n.gave ++ n.got).take (n.gave.length + n.got.length) = n.gave ++ n.got := List.take_of_length_le (by rw [List.length_append]; exact Nat.le_refl _)
  cases b1 : n.gave.any (badG n) <;> cases b2 : n.got.any (badG n) <;> (rw [b1, b2] at hcf; simp only [Bool.or_false, Bool.or_true, Bool.false_or] at hcf; clear hany)
  · rw [if_neg (by simp)]
    try refine tS ?_
    repeat' first | exact eV | exact eP | ((first | apply cD | apply cB | apply gD | apply gB) <;> intro _ <;> try refine tS ?_)
  · rw [if_pos (by simp)]
    try refine tS ?_
    repeat' first | exact eV | exact eP | ((first | apply cD | apply cB | apply gD | apply gB) <;> intro _ <;> try refine tS ?_)
  · rw [if_pos (by simp)]
    try refine tS ?_
    repeat' first | exact eV | exact eP | ((first | apply cD | apply cB | apply gD | apply gB) <;> intro _ <;> try refine tS ?_)
  · rw [if_pos (by simp)]
    try refine tS ?_
    repeat' first | exact eV | exact eP | ((first | apply cD | apply cB | apply gD | apply gB) <;> intro _ <;> try refine tS ?_)
-- spec.NetFault
def c67 : AF := ⟨87,
 (.seq (.reg [rO 1 (.box 67 (.t 0)),
 rO 2 (.mv (.v (.int .i64 0)))])
 (.seq (.seq (.reg [rO 9 (.fa (.t 1) 0),
 rO 10 (.ld (.t 9)),
 rO 11 (.call 101 [(.t 10)]),
 rO 3 (.mv (.t 11))])
 (.seq (.reg [rO 12 (.mv (.t 3)),
 rO 13 (.bin .neq (.t 12) (.v (.int .i64 0)))])
 (.cond (.t 13) (.seq (.reg [rO 14 (.mv (.t 3)),
 rO 2 (.mv (.t 14))])
 .ret)
 .skip)))
 (.seq (.seq (.reg [rO 15 (.fa (.t 1) 1),
 rO 16 (.ld (.t 15)),
 rO 17 (.len (.t 16)),
 rO 18 (.bin .lss (.t 17) (.v (.int .i64 2))),
 rO 19 (.mv (.t 18)),
 ⟨(some 20), (some (19, false)), .fa (.t 1) 1⟩,
 ⟨(some 21), (some (19, false)), .ld (.t 20)⟩,
 ⟨(some 22), (some (19, false)), .len (.t 21)⟩,
 ⟨(some 23), (some (19, false)), .bin .gtr (.t 22) (.v (.int .i64 4))⟩,
 rO 24 (.pick (.t 19) (.v (.bool true)) (.t 23)),
 rO 25 (.mv (.t 24)),
 ⟨(some 26), (some (25, false)), .fa (.t 1) 4⟩,
 ⟨(some 27), (some (25, false)), .ld (.t 26)⟩,
 ⟨(some 28), (some (25, false)), .len (.t 27)⟩,
 ⟨(some 29), (some (25, false)), .bin .gtr (.t 28) (.v (.int .i64 60))⟩,
 rO 30 (.pick (.t 25) (.v (.bool true)) (.t 29)),
 rO 31 (.mv (.t 30)),
 ⟨(some 32), (some (31, false)), .fa (.t 1) 5⟩,
 ⟨(some 33), (some (31, false)), .ld (.t 32)⟩,
 ⟨(some 34), (some (31, false)), .len (.t 33)⟩,
 ⟨(some 35), (some (31, false)), .bin .gtr (.t 34) (.v (.int .i64 60))⟩,
 rO 36 (.pick (.t 31) (.v (.bool true)) (.t 35))])
 (.cond (.t 36) (.seq (.reg [rO 2 (.mv (.v (.int .i64 2)))])
 .ret)
 .skip))
 (.seq (.seq (.reg [rO 4 (.mv (.v (.int .i64 0)))])
 (.block 0 (.loop (.seq (.seq (.reg [rO 37 (.mv (.t 4)),
 rO 38 (.fa (.t 1) 1),
 rO 39 (.ld (.t 38)),
 rO 40 (.len (.t 39)),
 rO 41 (.bin .lss (.t 37) (.t 40))])
 (.cond (.t 41) .skip
 (.exit 0)))
 (.seq (.block 1 (.seq (.seq (.drw [rO 44 (.fa (.t 1) 0),
 rO 45 (.ld (.t 44)),
 rO 46 (.fa (.t 1) 1),
 rO 47 (.ld (.t 46)),
 rO 48 (.mv (.t 4)),
 rO 49 (.ia 3 (.t 47) (.t 48)),
 rO 50 (.ldn 3 (.t 49))] [rO 51 (.call 102 [(.t 45), (.t 50)]),
 rO 5 (.mv (.t 51))])
 (.seq (.reg [rO 52 (.mv (.t 5)),
 rO 53 (.bin .neq (.t 52) (.v (.int .i64 0)))])
 (.cond (.t 53) (.seq (.reg [rO 54 (.mv (.t 5)),
 rO 2 (.mv (.t 54))])
 .ret)
 .skip)))
 (.seq (.reg [rO 55 (.fa (.t 1) 1),
 rO 56 (.ld (.t 55)),
 rO 57 (.mv (.t 4)),
 rO 58 (.ia 3 (.t 56) (.t 57)),
 rO 59 (.fa (.t 58) 0),
 rO 60 (.ld (.t 59)),
 rO 61 (.mv (.t 4)),
 rO 62 (.bin .add (.t 61) (.v (.int .i64 1))),
 rO 63 (.bin .neq (.t 60) (.t 62))])
 (.cond (.t 63) (.seq (.reg [rO 2 (.mv (.v (.int .i64 1)))])
 .ret)
 .skip))))
 (.reg [rO 42 (.mv (.t 4)),
 rO 43 (.bin .add (.t 42) (.v (.int .i64 1))),
 rO 4 (.mv (.t 43))]))))))
 (.seq (.seq (.reg [rO 64 (.fa (.t 1) 2),
 rO 65 (.ld (.t 64)),
 rO 66 (.call 111 [(.t 65)]),
 rO 6 (.mv (.t 66))])
 (.seq (.reg [rO 67 (.mv (.t 6)),
 rO 68 (.bin .neq (.t 67) (.v (.int .i64 0)))])
 (.cond (.t 68) (.seq (.reg [rO 69 (.mv (.t 6)),
 rO 2 (.mv (.t 69))])
 .ret)
 .skip)))
 (.seq (.seq (.reg [rO 70 (.fa (.t 1) 0),
 rO 71 (.ld (.t 70)),
 rO 72 (.fa (.t 1) 3),
 rO 73 (.ld (.t 72)),
 rO 74 (.call 112 [(.t 71), (.t 73)]),
 rO 7 (.mv (.t 74))])
 (.seq (.reg [rO 75 (.mv (.t 7)),
 rO 76 (.bin .neq (.t 75) (.v (.int .i64 0)))])
 (.cond (.t 76) (.seq (.reg [rO 77 (.mv (.t 7)),
 rO 2 (.mv (.t 77))])
 .ret)
 .skip)))
 (.seq (.seq (.reg [rO 78 (.fa (.t 1) 4),
 rO 79 (.ld (.t 78)),
 rO 80 (.call 113 [(.t 1), (.t 79)]),
 rO 8 (.mv (.t 80))])
 (.seq (.reg [rO 81 (.mv (.t 8)),
 rO 82 (.bin .neq (.t 81) (.v (.int .i64 0)))])
 (.cond (.t 82) (.seq (.reg [rO 83 (.mv (.t 8)),
 rO 2 (.mv (.t 83))])
 .ret)
 .skip)))
 (.seq (.reg [rO 84 (.fa (.t 1) 5),
 rO 85 (.ld (.t 84)),
 rO 86 (.call 113 [(.t 1), (.t 85)]),
 rO 2 (.mv (.t 86))])
 .ret)))))))),
 [.t 2]⟩
theorem k67 : cFn Try.prog Try.f67 = some c67 := by kernel_rfl
theorem netS_ok : OkT Try.prog 67 (pureSp net_S) := by
  refine okT_fA (cs tabS_ok (cs gateS_ok (cs brokS_ok (cs knownS_ok (cs giv_ok n0))))) Try.func67 k67 ?_
  rintro n hk
  dsimp only [EncL.e, Enc.e, ntT, c67, rO] at *
  have ha := hk.a
  have hb := hk.b
  have hc := hk.c
  have hd := hk.d
  have he := hk.e
  have hf := hk.f
  unfold netF
  by_cases h0 : tabF n.table = 0
  case neg =>
    rw [if_neg h0]
    try refine tS ?_
    repeat' first | exact eV | exact eP | ((first | apply cD | apply cB | apply gD | apply gB) <;> intro _ <;> try refine tS ?_)
  rw [if_pos h0]

  unfold gatsF restF
  by_cases hr : (2 ≤ n.gates.length ∧ n.gates.length ≤ 4) ∧ n.gave.length ≤ 60 ∧ n.got.length ≤ 60
  case neg =>
    rw [if_neg hr]
    try refine tS ?_
    repeat' first | exact eV | exact eP | (exfalso; omega) | ((first | apply cD | apply cB | apply gD | apply gB) <;> intro _ <;> try refine tS ?_)
  rw [if_pos hr]

  obtain ⟨⟨r0, r1⟩, r2, r3⟩ := hr
  have r0' : ¬ (n.gates.length : Int) < 2 := by omega
  refine tS ?_

  refine awpT_loop (α := Nat) (fun i => ⟨slots [(1, .op 0 0 0), (4, .p (.int .i64 i))], [.cells 67 6 [ntT n]]⟩) (fun i => i ≤ n.gates.length ∧ fst0 (gats1 n.table) 0 n.gates = fst0 (gats1 n.table) i (n.gates.drop i)) (fun i => n.gates.length - i) 0 ⟨by omega, rfl⟩ (leA [0]) ?_
  intro i ⟨hi, hn⟩
  rw [hn]; clear hn
  refine tS ?_
  refine cD (fun hlt => ?_) (fun hge => ?_)
  · obtain ⟨g, hg⟩ := get_ex (l := n.gates) (i := i) (by omega)
    have h3 := hk.t g (List.mem_of_getElem? hg)
    rw [fst_at hg, gats1]
    by_cases h1 : gateF n.table g = 0
    case neg =>
      rw [if_neg h1, if_neg h1]
      try refine tS ?_
      repeat' first | exact eV | exact eP | ((first | apply cD | apply cB | apply gD | apply gB) <;> intro _ <;> try refine tS ?_)
    rw [if_pos h1]
    by_cases h2 : g.id = (i : Int) + 1
    · rw [if_pos h2, if_pos rfl]
      replace h2 := eq_true h2
      refine tS ?_
      exact lN (i + 1) (leA [0])
    · rw [if_neg h2, if_neg (by decide)]
      try refine tS ?_
      repeat' first | exact eV | exact eP | ((first | apply cD | apply cB | apply gD | apply gB) <;> intro _ <;> try refine tS ?_)

  · rw [fst_end (by omega), if_pos rfl]
    refine tS ?_
    refine joinK_here ?_
    by_cases h2 : brokF n.broken = 0
    case neg =>
      rw [if_neg h2]
      try refine tS ?_
      repeat' first | exact eV | exact eP | ((first | apply cD | apply cB | apply gD | apply gB) <;> intro _ <;> try refine tS ?_)
    rw [if_pos h2]
    by_cases h3 : knownF n.table n.heard = 0
    case neg =>
      rw [if_neg h3]
      try refine tS ?_
      repeat' first | exact eV | exact eP | ((first | apply cD | apply cB | apply gD | apply gB) <;> intro _ <;> try refine tS ?_)
    rw [if_pos h3]
    cases b1 : n.gave.any (badG n) <;> cases b2 : n.got.any (badG n)
    · rw [if_neg (by simp)]
      try refine tS ?_
      repeat' first | exact eV | exact eP | ((first | apply cD | apply cB | apply gD | apply gB) <;> intro _ <;> try refine tS ?_)
    · rw [if_pos (by simp)]
      try refine tS ?_
      repeat' first | exact eV | exact eP | ((first | apply cD | apply cB | apply gD | apply gB) <;> intro _ <;> try refine tS ?_)
    · rw [if_pos (by simp)]
      try refine tS ?_
      repeat' first | exact eV | exact eP | ((first | apply cD | apply cB | apply gD | apply gB) <;> intro _ <;> try refine tS ?_)
    · rw [if_pos (by simp)]
      try refine tS ?_
      repeat' first | exact eV | exact eP | ((first | apply cD | apply cB | apply gD | apply gB) <;> intro _ <;> try refine tS ?_)
end Go.Proofs.Ytbddhlhpakbcdaa
