import Derived.Test.YtbddhlhpakbcdaaM1
set_option linter.unusedSimpArgs false
set_option linter.unusedVariables false
set_option maxRecDepth 100000
set_option maxHeartbeats 4000000
namespace Go.Proofs.Ytbddhlhpakbcdaa
open Go Go.AH
attribute [local irreducible] awpT ropsT qopsT stepT condKT gdKT EndT joinK loopKT seqKT blkKT kont kontR ropsTF frKT
/-! Numbers and what is known -/
attribute [go_sem] isT_getE iT in_at plc_at
noncomputable def nam_S := spE (α := Int) (fun x => True) (fun x => (.p (.bool (decide (0 ≤ x ∧ x ≤ 9999))), []))
theorem nam_at (a : Int) : nam_S [.p (.int .i64 a)] = some ((.p (.bool (decide (0 ≤ a ∧ a ≤ 9999))), [])) := spE_at (α := Int) a trivial
attribute [go_sem] nam_at
-- spec.l9Word
def c168 : AF := ⟨5,
 (.seq (.reg [rO 2 (.mv (.v (.bool false)))])
 (.seq (.reg [rO 3 (.mv (.t 0)),
 rO 4 (.call 54 [(.t 3), (.v (.int .i64 0)), (.v (.int .i64 9999))]),
 rO 2 (.mv (.t 4))])
 .ret)),
 [.t 2]⟩
theorem k168 : cFn Try.prog Try.f168 = some c168 := by kernel_rfl
theorem namS_ok : OkT Try.prog 168 (pureSp nam_S) := by
  refine okT_fA (cs l1In_ok n0) Try.func168 k168 ?_
  rintro a _
  dsimp only [EncL.e, Enc.e, c168, rO] at *
  try refine tS ?_
  repeat' first | exact eV | exact eP | ((first | apply cD | apply cB | apply gD | apply gB) <;> intro _ <;> try refine tS ?_)
-- impl.isName
def c130 : AF := ⟨5,
 (.seq (.reg [rO 2 (.mv (.v (.bool false)))])
 (.seq (.reg [rO 3 (.mv (.t 0)),
 rO 4 (.call 48 [(.t 3), (.v (.int .i64 0)), (.v (.int .i64 9999))]),
 rO 2 (.mv (.t 4))])
 .ret)),
 [.t 2]⟩
theorem k130 : cFn Try.prog Try.f130 = some c130 := by kernel_rfl
theorem namI_ok : OkT Try.prog 130 (pureSp nam_S) := by
  refine okT_fA (cs in_ok n0) Try.func130 k130 ?_
  rintro a _
  dsimp only [EncL.e, Enc.e, c130, rO] at *
  try refine tS ?_
  repeat' first | exact eV | exact eP | ((first | apply cD | apply cB | apply gD | apply gB) <;> intro _ <;> try refine tS ?_)
noncomputable def idn_S := spE (α := Int) (fun x => True) (fun x => (.p (.bool (decide (1 ≤ x ∧ x ≤ 9))), []))
theorem idn_at (a : Int) : idn_S [.p (.int .i64 a)] = some ((.p (.bool (decide (1 ≤ a ∧ a ≤ 9))), [])) := spE_at (α := Int) a trivial
attribute [go_sem] idn_at
-- impl.isId
def c30 : AF := ⟨5,
 (.seq (.reg [rO 2 (.mv (.v (.bool false)))])
 (.seq (.reg [rO 3 (.mv (.t 0)),
 rO 4 (.call 48 [(.t 3), (.v (.int .i64 1)), (.v (.int .i64 9))]),
 rO 2 (.mv (.t 4))])
 .ret)),
 [.t 2]⟩
theorem k30 : cFn Try.prog Try.f30 = some c30 := by kernel_rfl
theorem idn_ok : OkT Try.prog 30 (pureSp idn_S) := by
  refine okT_fA (cs in_ok n0) Try.func30 k30 ?_
  rintro a _
  dsimp only [EncL.e, Enc.e, c30, rO] at *
  try refine tS ?_
  repeat' first | exact eV | exact eP | ((first | apply cD | apply cB | apply gD | apply gB) <;> intro _ <;> try refine tS ?_)

def rise1 (ok : Int → Bool) (l : List Int) (i : Nat) (x : Int) : Int := if ok x = true then (if 0 < i ∧ x ≤ l.getD ((i : Int) - 1).toNat 0 then 1 else 0) else 3
def brokF (l : List Int) : Int := if l.length > 10 then 2 else fst0 (rise1 (fun x => decide (9011 ≤ x ∧ x ≤ 9099)) l) 0 l
def knownF (t : List TmR) (l : List Int) : Int := if tabF t = 0 then (if l.length > 400 then 2 else fst0 (rise1 (plc t.length) l) 0 l) else tabF t
noncomputable def brok_S := spE (α := List Int) (fun x => x.length ≤ 1048576) (fun x => (.p (.int .i64 (brokF x)), []))
theorem brok_at (l : List Int) (h : l.length ≤ 1048576) : brok_S [.s (isT l)] = some ((.p (.int .i64 (brokF l)), [])) := spE_at (α := List Int) l h
attribute [go_sem] brok_at
noncomputable def known_S := spE (α := List TmR × List Int) (fun x => (x.1.length ≤ 1048576) ∧ (x.2.length ≤ 1048576)) (fun x => (.p (.int .i64 (knownF x.1 x.2)), []))
theorem known_at (t : List TmR) (l : List Int) (h0 : t.length ≤ 1048576) (h1 : l.length ≤ 1048576) : known_S [.s (rowsT tmT t), .s (isT l)] = some ((.p (.int .i64 (knownF t l)), [])) := spE_at (α := List TmR × List Int) (t, l) ⟨h0, h1⟩
attribute [go_sem] known_at
-- spec.l12Broken
def c111 : AF := ⟨33,
 (.seq (.reg [rO 2 (.mv (.v (.int .i64 0)))])
 (.seq (.seq (.reg [rO 4 (.mv (.t 0)),
 rO 5 (.len (.t 4)),
 rO 6 (.bin .gtr (.t 5) (.v (.int .i64 10)))])
 (.cond (.t 6) (.seq (.reg [rO 2 (.mv (.v (.int .i64 2)))])
 .ret)
 .skip))
 (.seq (.seq (.reg [rO 3 (.mv (.v (.int .i64 0)))])
 (.block 0 (.loop (.seq (.seq (.reg [rO 7 (.mv (.t 3)),
 rO 8 (.mv (.t 0)),
 rO 9 (.len (.t 8)),
 rO 10 (.bin .lss (.t 7) (.t 9))])
 (.cond (.t 10) .skip
 (.exit 0)))
 (.seq (.block 1 (.seq (.seq (.reg [rO 13 (.mv (.t 0)),
 rO 14 (.mv (.t 3)),
 rO 15 (.ia 1 (.t 13) (.t 14)),
 rO 16 (.ld (.t 15)),
 rO 17 (.call 54 [(.t 16), (.v (.int .i64 9011)), (.v (.int .i64 9099))]),
 rO 18 (.un .not (.t 17))])
 (.cond (.t 18) (.seq (.reg [rO 2 (.mv (.v (.int .i64 3)))])
 .ret)
 .skip))
 (.seq (.drw [rO 19 (.mv (.t 3)),
 rO 20 (.bin .gtr (.t 19) (.v (.int .i64 0))),
 rO 21 (.mv (.t 20)),
 ⟨(some 22), (some (21, true)), .mv (.t 0)⟩,
 ⟨(some 23), (some (21, true)), .mv (.t 3)⟩,
 ⟨(some 24), (some (21, true)), .ia 1 (.t 22) (.t 23)⟩,
 ⟨(some 25), (some (21, true)), .ld (.t 24)⟩,
 ⟨(some 26), (some (21, true)), .mv (.t 0)⟩,
 ⟨(some 27), (some (21, true)), .mv (.t 3)⟩,
 ⟨(some 28), (some (21, true)), .bin .sub (.t 27) (.v (.int .i64 1))⟩,
 ⟨(some 29), (some (21, true)), .ia 1 (.t 26) (.t 28)⟩,
 ⟨(some 30), (some (21, true)), .ld (.t 29)⟩] [⟨(some 31), (some (21, true)), .bin .leq (.t 25) (.t 30)⟩,
 rO 32 (.pick (.t 21) (.t 31) (.v (.bool false)))])
 (.cond (.t 32) (.seq (.reg [rO 2 (.mv (.v (.int .i64 1)))])
 .ret)
 .skip))))
 (.reg [rO 11 (.mv (.t 3)),
 rO 12 (.bin .add (.t 11) (.v (.int .i64 1))),
 rO 3 (.mv (.t 12))]))))))
 (.seq (.reg [rO 2 (.mv (.v (.int .i64 0)))])
 .ret)))),
 [.t 2]⟩
theorem k111 : cFn Try.prog Try.f111 = some c111 := by kernel_rfl
theorem brokS_ok : OkT Try.prog 111 (pureSp brok_S) := by
  refine okT_fA (cs l1In_ok n0) Try.func111 k111 ?_
  rintro l h
  dsimp only [EncL.e, Enc.e, c111, rO] at *
  unfold brokF
  refine tS ?_
  refine cD (fun h4 => ?_) (fun h4 => ?_)
  · rw [if_pos (by omega)]
    try refine tS ?_
    repeat' first | exact eV | exact eP | ((first | apply cD | apply cB | apply gD | apply gB) <;> intro _ <;> try refine tS ?_)
  rw [if_neg (by omega)]
  refine tS ?_
  generalize hOK : (fun x : Int => decide (9011 ≤ x ∧ x ≤ 9099)) = ok
  refine awpT_loop (α := Nat) (fun i => ⟨slots [(0, .s (isT l)), (3, .p (.int .i64 i))], []⟩) (fun i => i ≤ l.length ∧ fst0 (rise1 ok l) 0 l = fst0 (rise1 ok l) i (l.drop i)) (fun i => l.length - i) 0 ⟨by omega, rfl⟩ (leA []) ?_
  intro i ⟨hi, hn⟩
  rw [hn]; clear hn
  refine tS ?_
  refine cD (fun hlt => ?_) (fun hge => ?_)
  · obtain ⟨x, hx⟩ := get_ex (l := l) (i := i) (by omega)
    have hy := fun h : 0 < i => get_ex (l := l) (i := ((i : Int) - 1).toNat) (by omega)
    rw [fst_at hx, rise1]
    have hc : decide (9011 ≤ x ∧ x ≤ 9099) = ok x := by rw [← hOK]
    clear hOK
    by_cases h1 : ok x = true
    case neg =>
      rw [if_neg h1, if_neg (by decide)]
      rw [Bool.not_eq_true] at h1
      try refine tS ?_
      repeat' first | exact eV | exact eP | ((first | apply cD | apply cB | apply gD | apply gB) <;> intro _ <;> try refine tS ?_)
    rw [if_pos h1]
    by_cases h0 : (i : Int) > 0
    · obtain ⟨y, hy⟩ := hy (by omega)
      rw [getD_some hy]
      by_cases h2 : x ≤ y
      · have h3 : y ≥ x := h2
        rw [if_pos (show 0 < i ∧ x ≤ y from ⟨by omega, h2⟩), if_neg (by decide)]
        try refine tS ?_
        repeat' first | exact eV | exact eP | ((first | apply cD | apply cB | apply gD | apply gB) <;> intro _ <;> try refine tS ?_)
      · have h3 : ¬ y ≥ x := h2
        rw [if_neg (show ¬ (0 < i ∧ x ≤ y) from fun h => h2 h.2), if_pos rfl]
        refine tS ?_
        exact lN (i + 1) (leA [])
    · rw [if_neg (show ¬ (0 < i ∧ _) from fun h => h0 (by omega)), if_pos rfl]
      clear hy
      refine tS ?_
      exact lN (i + 1) (leA [])
  · rw [fst_end (by omega)]
    refine tS ?_
    refine joinK_here ?_
    try refine tS ?_
    repeat' first | exact eV | exact eP | ((first | apply cD | apply cB | apply gD | apply gB) <;> intro _ <;> try refine tS ?_)
-- impl.brokenFault
def c118 : AF := ⟨32,
 (.seq (.reg [rO 2 (.mv (.v (.int .i64 0)))])
 (.seq (.seq (.reg [rO 5 (.mv (.t 0)),
 rO 6 (.len (.t 5)),
 rO 7 (.bin .gtr (.t 6) (.v (.int .i64 10)))])
 (.cond (.t 7) (.seq (.reg [rO 2 (.mv (.v (.int .i64 2)))])
 .ret)
 .skip))
 (.seq (.seq (.reg [rO 8 (.mv (.t 0)),
 rO 9 (.len (.t 8)),
 rO 10 (.mv (.v (.int .i64 0)))])
 (.block 0 (.loop (.seq (.reg [rO 11 (.bin .lss (.t 10) (.t 9))])
 (.seq (.cond (.t 11) .skip
 (.exit 0))
 (.seq (.block 1 (.seq (.reg [rO 12 (.mv (.t 10)),
 rO 13 (.ia 1 (.t 8) (.t 10)),
 rO 14 (.ld (.t 13)),
 rO 3 (.mv (.t 12)),
 rO 4 (.mv (.t 14))])
 (.block 2 (.seq (.reg [rO 16 (.mv (.t 4)),
 rO 17 (.call 48 [(.t 16), (.v (.int .i64 9011)), (.v (.int .i64 9099))]),
 rO 18 (.un .not (.t 17)),
 rO 15 (.mv (.t 18))])
 (.cond (.t 15) (.seq (.reg [rO 2 (.mv (.v (.int .i64 3)))])
 .ret)
 (.seq (.reg [rO 20 (.mv (.t 3)),
 rO 21 (.bin .gtr (.t 20) (.v (.int .i64 0))),
 rO 22 (.mv (.t 21)),
 ⟨(some 23), (some (22, true)), .mv (.t 0)⟩,
 ⟨(some 24), (some (22, true)), .mv (.t 3)⟩,
 ⟨(some 25), (some (22, true)), .bin .sub (.t 24) (.v (.int .i64 1))⟩,
 ⟨(some 26), (some (22, true)), .ia 1 (.t 23) (.t 25)⟩,
 ⟨(some 27), (some (22, true)), .ld (.t 26)⟩,
 ⟨(some 28), (some (22, true)), .mv (.t 4)⟩,
 ⟨(some 29), (some (22, true)), .bin .geq (.t 27) (.t 28)⟩,
 rO 30 (.pick (.t 22) (.t 29) (.v (.bool false))),
 rO 19 (.mv (.t 30))])
 (.cond (.t 19) (.seq (.reg [rO 2 (.mv (.v (.int .i64 1)))])
 .ret)
 .skip)))))))
 (.reg [rO 31 (.bin .add (.t 10) (.v (.int .i64 1))),
 rO 10 (.mv (.t 31))])))))))
 (.seq (.reg [rO 2 (.mv (.v (.int .i64 0)))])
 .ret)))),
 [.t 2]⟩
theorem k118 : cFn Try.prog Try.f118 = some c118 := by kernel_rfl
theorem brokI_ok : OkT Try.prog 118 (pureSp brok_S) := by
  refine okT_fA (cs in_ok n0) Try.func118 k118 ?_
  rintro l h
  dsimp only [EncL.e, Enc.e, c118, rO] at *
  unfold brokF
  refine tS ?_
  refine cD (fun h4 => ?_) (fun h4 => ?_)
  · rw [if_pos (by omega)]
    try refine tS ?_
    repeat' first | exact eV | exact eP | ((first | apply cD | apply cB | apply gD | apply gB) <;> intro _ <;> try refine tS ?_)
  rw [if_neg (by omega)]
  refine tS ?_
  generalize hOK : (fun x : Int => decide (9011 ≤ x ∧ x ≤ 9099)) = ok
  refine awpT_loop (α := Nat) (fun i => ⟨slots [(0, .s (isT l)), (8, .s (isT l)), (9, .p (.int .i64 l.length)), (10, .p (.int .i64 i))], []⟩) (fun i => i ≤ l.length ∧ fst0 (rise1 ok l) 0 l = fst0 (rise1 ok l) i (l.drop i)) (fun i => l.length - i) 0 ⟨by omega, rfl⟩ (leA []) ?_
  intro i ⟨hi, hn⟩
  rw [hn]; clear hn
  refine tS ?_
  refine cD (fun hlt => ?_) (fun hge => ?_)
  · obtain ⟨x, hx⟩ := get_ex (l := l) (i := i) (by omega)
    have hy := fun h : 0 < i => get_ex (l := l) (i := ((i : Int) - 1).toNat) (by omega)
    rw [fst_at hx, rise1]
    have hc : decide (9011 ≤ x ∧ x ≤ 9099) = ok x := by rw [← hOK]
    clear hOK
    by_cases h1 : ok x = true
    case neg =>
      rw [if_neg h1, if_neg (by decide)]
      rw [Bool.not_eq_true] at h1
      try refine tS ?_
      repeat' first | exact eV | exact eP | ((first | apply cD | apply cB | apply gD | apply gB) <;> intro _ <;> try refine tS ?_)
    rw [if_pos h1]
    by_cases h0 : (i : Int) > 0
    · obtain ⟨y, hy⟩ := hy (by omega)
      rw [getD_some hy]
      by_cases h2 : x ≤ y
      · have h3 : y ≥ x := h2
        rw [if_pos (show 0 < i ∧ x ≤ y from ⟨by omega, h2⟩), if_neg (by decide)]
        try refine tS ?_
        repeat' first | exact eV | exact eP | ((first | apply cD | apply cB | apply gD | apply gB) <;> intro _ <;> try refine tS ?_)
      · have h3 : ¬ y ≥ x := h2
        rw [if_neg (show ¬ (0 < i ∧ x ≤ y) from fun h => h2 h.2), if_pos rfl]
        refine tS ?_
        exact lN (i + 1) (leA [])
    · rw [if_neg (show ¬ (0 < i ∧ _) from fun h => h0 (by omega)), if_pos rfl]
      clear hy
      refine tS ?_
      exact lN (i + 1) (leA [])
  · rw [fst_end (by omega)]
    refine tS ?_
    refine joinK_here ?_
    try refine tS ?_
    repeat' first | exact eV | exact eP | ((first | apply cD | apply cB | apply gD | apply gB) <;> intro _ <;> try refine tS ?_)
-- spec.KnownFault
def c112 : AF := ⟨42,
 (.seq (.reg [rO 4 (.mv (.v (.int .i64 0)))])
 (.seq (.seq (.reg [rO 7 (.mv (.t 0)),
 rO 8 (.call 101 [(.t 7)]),
 rO 5 (.mv (.t 8))])
 (.seq (.reg [rO 9 (.mv (.t 5)),
 rO 10 (.bin .neq (.t 9) (.v (.int .i64 0)))])
 (.cond (.t 10) (.seq (.reg [rO 11 (.mv (.t 5)),
 rO 4 (.mv (.t 11))])
 .ret)
 .skip)))
 (.seq (.seq (.reg [rO 12 (.mv (.t 1)),
 rO 13 (.len (.t 12)),
 rO 14 (.bin .gtr (.t 13) (.v (.int .i64 400)))])
 (.cond (.t 14) (.seq (.reg [rO 4 (.mv (.v (.int .i64 2)))])
 .ret)
 .skip))
 (.seq (.seq (.reg [rO 6 (.mv (.v (.int .i64 0)))])
 (.block 0 (.loop (.seq (.seq (.reg [rO 15 (.mv (.t 6)),
 rO 16 (.mv (.t 1)),
 rO 17 (.len (.t 16)),
 rO 18 (.bin .lss (.t 15) (.t 17))])
 (.cond (.t 18) .skip
 (.exit 0)))
 (.seq (.block 1 (.seq (.seq (.reg [rO 21 (.mv (.t 0)),
 rO 22 (.mv (.t 1)),
 rO 23 (.mv (.t 6)),
 rO 24 (.ia 1 (.t 22) (.t 23)),
 rO 25 (.ld (.t 24)),
 rO 26 (.call 55 [(.t 21), (.t 25)]),
 rO 27 (.un .not (.t 26))])
 (.cond (.t 27) (.seq (.reg [rO 4 (.mv (.v (.int .i64 3)))])
 .ret)
 .skip))
 (.seq (.drw [rO 28 (.mv (.t 6)),
 rO 29 (.bin .gtr (.t 28) (.v (.int .i64 0))),
 rO 30 (.mv (.t 29)),
 ⟨(some 31), (some (30, true)), .mv (.t 1)⟩,
 ⟨(some 32), (some (30, true)), .mv (.t 6)⟩,
 ⟨(some 33), (some (30, true)), .ia 1 (.t 31) (.t 32)⟩,
 ⟨(some 34), (some (30, true)), .ld (.t 33)⟩,
 ⟨(some 35), (some (30, true)), .mv (.t 1)⟩,
 ⟨(some 36), (some (30, true)), .mv (.t 6)⟩,
 ⟨(some 37), (some (30, true)), .bin .sub (.t 36) (.v (.int .i64 1))⟩,
 ⟨(some 38), (some (30, true)), .ia 1 (.t 35) (.t 37)⟩,
 ⟨(some 39), (some (30, true)), .ld (.t 38)⟩] [⟨(some 40), (some (30, true)), .bin .leq (.t 34) (.t 39)⟩,
 rO 41 (.pick (.t 30) (.t 40) (.v (.bool false)))])
 (.cond (.t 41) (.seq (.reg [rO 4 (.mv (.v (.int .i64 1)))])
 .ret)
 .skip))))
 (.reg [rO 19 (.mv (.t 6)),
 rO 20 (.bin .add (.t 19) (.v (.int .i64 1))),
 rO 6 (.mv (.t 20))]))))))
 (.seq (.reg [rO 4 (.mv (.v (.int .i64 0)))])
 .ret))))),
 [.t 4]⟩
theorem k112 : cFn Try.prog Try.f112 = some c112 := by kernel_rfl
theorem knownS_ok : OkT Try.prog 112 (pureSp known_S) := by
  refine okT_fA (cs tabS_ok (cs plcS_ok n0)) Try.func112 k112 ?_
  rintro ⟨t, l⟩ ⟨ht, h⟩
  dsimp only [EncL.e, Enc.e, c112, rO] at *
  unfold knownF
  by_cases ht0 : tabF t = 0
  case neg =>
    rw [if_neg ht0]
    try refine tS ?_
    repeat' first | exact eV | exact eP | ((first | apply cD | apply cB | apply gD | apply gB) <;> intro _ <;> try refine tS ?_)
  rw [if_pos ht0]
  refine tS ?_
  refine cD (fun h4 => ?_) (fun h4 => ?_)
  · rw [if_pos (by omega)]
    try refine tS ?_
    repeat' first | exact eV | exact eP | ((first | apply cD | apply cB | apply gD | apply gB) <;> intro _ <;> try refine tS ?_)
  rw [if_neg (by omega)]
  refine tS ?_
  generalize hOK : plc t.length = ok
  refine awpT_loop (α := Nat) (fun i => ⟨slots [(0, .s (rowsT tmT t)), (1, .s (isT l)), (6, .p (.int .i64 i))], []⟩) (fun i => i ≤ l.length ∧ fst0 (rise1 ok l) 0 l = fst0 (rise1 ok l) i (l.drop i)) (fun i => l.length - i) 0 ⟨by omega, rfl⟩ (leA []) ?_
  intro i ⟨hi, hn⟩
  rw [hn]; clear hn
  refine tS ?_
  refine cD (fun hlt => ?_) (fun hge => ?_)
  · obtain ⟨x, hx⟩ := get_ex (l := l) (i := i) (by omega)
    have hy := fun h : 0 < i => get_ex (l := l) (i := ((i : Int) - 1).toNat) (by omega)
    rw [fst_at hx, rise1]
    have hc : plc t.length x = ok x := by rw [← hOK]
    clear hOK
    by_cases h1 : ok x = true
    case neg =>
      rw [if_neg h1, if_neg (by decide)]
      rw [Bool.not_eq_true] at h1
      try refine tS ?_
      repeat' first | exact eV | exact eP | ((first | apply cD | apply cB | apply gD | apply gB) <;> intro _ <;> try refine tS ?_)
    rw [if_pos h1]
    by_cases h0 : (i : Int) > 0
    · obtain ⟨y, hy⟩ := hy (by omega)
      rw [getD_some hy]
      by_cases h2 : x ≤ y
      · have h3 : y ≥ x := h2
        rw [if_pos (show 0 < i ∧ x ≤ y from ⟨by omega, h2⟩), if_neg (by decide)]
        try refine tS ?_
        repeat' first | exact eV | exact eP | ((first | apply cD | apply cB | apply gD | apply gB) <;> intro _ <;> try refine tS ?_)
      · have h3 : ¬ y ≥ x := h2
        rw [if_neg (show ¬ (0 < i ∧ x ≤ y) from fun h => h2 h.2), if_pos rfl]
        refine tS ?_
        exact lN (i + 1) (leA [])
    · rw [if_neg (show ¬ (0 < i ∧ _) from fun h => h0 (by omega)), if_pos rfl]
      clear hy
      refine tS ?_
      exact lN (i + 1) (leA [])
  · rw [fst_end (by omega)]
    refine tS ?_
    refine joinK_here ?_
    try refine tS ?_
    repeat' first | exact eV | exact eP | ((first | apply cD | apply cB | apply gD | apply gB) <;> intro _ <;> try refine tS ?_)
-- impl.KnownFault
def c119 : AF := ⟨41,
 (.seq (.reg [rO 4 (.mv (.v (.int .i64 0)))])
 (.seq (.seq (.reg [rO 8 (.mv (.t 0)),
 rO 9 (.call 78 [(.t 8)]),
 rO 5 (.mv (.t 9))])
 (.seq (.reg [rO 10 (.mv (.t 5)),
 rO 11 (.bin .neq (.t 10) (.v (.int .i64 0)))])
 (.cond (.t 11) (.seq (.reg [rO 12 (.mv (.t 5)),
 rO 4 (.mv (.t 12))])
 .ret)
 .skip)))
 (.seq (.seq (.reg [rO 13 (.mv (.t 1)),
 rO 14 (.len (.t 13)),
 rO 15 (.bin .gtr (.t 14) (.v (.int .i64 400)))])
 (.cond (.t 15) (.seq (.reg [rO 4 (.mv (.v (.int .i64 2)))])
 .ret)
 .skip))
 (.seq (.seq (.reg [rO 16 (.mv (.t 1)),
 rO 17 (.len (.t 16)),
 rO 18 (.mv (.v (.int .i64 0)))])
 (.block 0 (.loop (.seq (.reg [rO 19 (.bin .lss (.t 18) (.t 17))])
 (.seq (.cond (.t 19) .skip
 (.exit 0))
 (.seq (.block 1 (.seq (.reg [rO 20 (.mv (.t 18)),
 rO 21 (.ia 1 (.t 16) (.t 18)),
 rO 22 (.ld (.t 21)),
 rO 6 (.mv (.t 20)),
 rO 7 (.mv (.t 22))])
 (.block 2 (.seq (.reg [rO 24 (.mv (.t 0)),
 rO 25 (.mv (.t 7)),
 rO 26 (.call 49 [(.t 24), (.t 25)]),
 rO 27 (.un .not (.t 26)),
 rO 23 (.mv (.t 27))])
 (.cond (.t 23) (.seq (.reg [rO 4 (.mv (.v (.int .i64 3)))])
 .ret)
 (.seq (.reg [rO 29 (.mv (.t 6)),
 rO 30 (.bin .gtr (.t 29) (.v (.int .i64 0))),
 rO 31 (.mv (.t 30)),
 ⟨(some 32), (some (31, true)), .mv (.t 1)⟩,
 ⟨(some 33), (some (31, true)), .mv (.t 6)⟩,
 ⟨(some 34), (some (31, true)), .bin .sub (.t 33) (.v (.int .i64 1))⟩,
 ⟨(some 35), (some (31, true)), .ia 1 (.t 32) (.t 34)⟩,
 ⟨(some 36), (some (31, true)), .ld (.t 35)⟩,
 ⟨(some 37), (some (31, true)), .mv (.t 7)⟩,
 ⟨(some 38), (some (31, true)), .bin .geq (.t 36) (.t 37)⟩,
 rO 39 (.pick (.t 31) (.t 38) (.v (.bool false))),
 rO 28 (.mv (.t 39))])
 (.cond (.t 28) (.seq (.reg [rO 4 (.mv (.v (.int .i64 1)))])
 .ret)
 .skip)))))))
 (.reg [rO 40 (.bin .add (.t 18) (.v (.int .i64 1))),
 rO 18 (.mv (.t 40))])))))))
 (.seq (.reg [rO 4 (.mv (.v (.int .i64 0)))])
 .ret))))),
 [.t 4]⟩
theorem k119 : cFn Try.prog Try.f119 = some c119 := by kernel_rfl
theorem knownI_ok : OkT Try.prog 119 (pureSp known_S) := by
  refine okT_fA (cs tabI_ok (cs plcI_ok n0)) Try.func119 k119 ?_
  rintro ⟨t, l⟩ ⟨ht, h⟩
  dsimp only [EncL.e, Enc.e, c119, rO] at *
  unfold knownF
  by_cases ht0 : tabF t = 0
  case neg =>
    rw [if_neg ht0]
    try refine tS ?_
    repeat' first | exact eV | exact eP | ((first | apply cD | apply cB | apply gD | apply gB) <;> intro _ <;> try refine tS ?_)
  rw [if_pos ht0]
  refine tS ?_
  refine cD (fun h4 => ?_) (fun h4 => ?_)
  · rw [if_pos (by omega)]
    try refine tS ?_
    repeat' first | exact eV | exact eP | ((first | apply cD | apply cB | apply gD | apply gB) <;> intro _ <;> try refine tS ?_)
  rw [if_neg (by omega)]
  refine tS ?_
  generalize hOK : plc t.length = ok
  refine awpT_loop (α := Nat) (fun i => ⟨slots [(0, .s (rowsT tmT t)), (1, .s (isT l)), (16, .s (isT l)), (17, .p (.int .i64 l.length)), (18, .p (.int .i64 i))], []⟩) (fun i => i ≤ l.length ∧ fst0 (rise1 ok l) 0 l = fst0 (rise1 ok l) i (l.drop i)) (fun i => l.length - i) 0 ⟨by omega, rfl⟩ (leA []) ?_
  intro i ⟨hi, hn⟩
  rw [hn]; clear hn
  refine tS ?_
  refine cD (fun hlt => ?_) (fun hge => ?_)
  · obtain ⟨x, hx⟩ := get_ex (l := l) (i := i) (by omega)
    have hy := fun h : 0 < i => get_ex (l := l) (i := ((i : Int) - 1).toNat) (by omega)
    rw [fst_at hx, rise1]
    have hc : plc t.length x = ok x := by rw [← hOK]
    clear hOK
    by_cases h1 : ok x = true
    case neg =>
      rw [if_neg h1, if_neg (by decide)]
      rw [Bool.not_eq_true] at h1
      try refine tS ?_
      repeat' first | exact eV | exact eP | ((first | apply cD | apply cB | apply gD | apply gB) <;> intro _ <;> try refine tS ?_)
    rw [if_pos h1]
    by_cases h0 : (i : Int) > 0
    · obtain ⟨y, hy⟩ := hy (by omega)
      rw [getD_some hy]
      by_cases h2 : x ≤ y
      · have h3 : y ≥ x := h2
        rw [if_pos (show 0 < i ∧ x ≤ y from ⟨by omega, h2⟩), if_neg (by decide)]
        try refine tS ?_
        repeat' first | exact eV | exact eP | ((first | apply cD | apply cB | apply gD | apply gB) <;> intro _ <;> try refine tS ?_)
      · have h3 : ¬ y ≥ x := h2
        rw [if_neg (show ¬ (0 < i ∧ x ≤ y) from fun h => h2 h.2), if_pos rfl]
        refine tS ?_
        exact lN (i + 1) (leA [])
    · rw [if_neg (show ¬ (0 < i ∧ _) from fun h => h0 (by omega)), if_pos rfl]
      clear hy
      refine tS ?_
      exact lN (i + 1) (leA [])
  · rw [fst_end (by omega)]
    refine tS ?_
    refine joinK_here ?_
    try refine tS ?_
    repeat' first | exact eV | exact eP | ((first | apply cD | apply cB | apply gD | apply gB) <;> intro _ <;> try refine tS ?_)
end Go.Proofs.Ytbddhlhpakbcdaa
