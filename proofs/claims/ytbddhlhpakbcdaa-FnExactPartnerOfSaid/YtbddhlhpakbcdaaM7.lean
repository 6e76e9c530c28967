import Derived.Test.YtbddhlhpakbcdaaM6
set_option linter.unusedSimpArgs false
set_option linter.unusedVariables false
set_option maxRecDepth 100000
set_option maxHeartbeats 4000000
namespace Go.Proofs.Ytbddhlhpakbcdaa
open Go Go.AH
attribute [local irreducible] awpT ropsT qopsT stepT condKT gdKT EndT joinK loopKT seqKT blkKT kont kontR ropsTF frKT
/-! Nets -/
structure GvR where
  (gate talk seq load : Int)
def gvT (x : GvR) : TV := .agg [.p (.int .i64 x.gate), .p (.int .i64 x.talk), .p (.int .i64 x.seq), .p (.int .i64 x.load)]
theorem gvT_inj (x y : GvR) (h : gvT x = gvT y) : x = y := by cases x; cases y; simp [gvT] at h; simp [h]
theorem gvT_flat : Flat gvT 4 := ⟨fun _ => rfl, fun h n x => by simp only [gvT, frz_agg, frz_p, List.map_cons, List.map_nil], fun _ _ => rfl⟩
theorem gvs_sized (l : List GvR) : sizedT 4 (rowsT gvT l) = true := rowsT_sized gvT_flat l
theorem gvs_frz (h : THeap) (n : Nat) (l : List GvR) : (rowsT gvT l).map (frzT h n) = rowsT gvT l := rowsT_frz gvT_flat h n l
theorem gvs_ren (ρ : Nat → Nat) (l : List GvR) : renTs ρ (rowsT gvT l) = rowsT gvT l := rowsT_ren gvT_flat ρ l
theorem gvs_own (l : List GvR) : ownTs (rowsT gvT l) = true := rowsT_own (fun _ => rfl) l
theorem gvs_eta (x : GvR) : (⟨x.gate, x.talk, x.seq, x.load⟩ : GvR) = x := rfl
attribute [go_sem] gvT gvs_sized gvs_frz gvs_ren gvs_own gvs_eta
instance : Enc GvR := ⟨gvT, gvT_inj⟩
instance : Enc (List GvR) := ⟨fun l => .s (rowsT gvT l), fun x y h => rowsT_inj gvT_inj (TV.s.inj h)⟩

structure NtR where
  table : List TmR
  gates : List GaR
  (broken heard : List Int)
  (gave got : List GvR)
def ntT (x : NtR) : TV := .agg [.s (rowsT tmT x.table), .s (rowsT gaT x.gates), .s (isT x.broken), .s (isT x.heard), .s (rowsT gvT x.gave), .s (rowsT gvT x.got)]
theorem ntT_inj (x y : NtR) (h : ntT x = ntT y) : x = y := by
  cases x; cases y; simp only [ntT, TV.agg.injEq, List.cons.injEq, TV.s.injEq, and_true] at h
  obtain ⟨h1, h2, h3, h4, h5, h6⟩ := h
  rw [tms_inj1 h1, rowsT_inj gaT_inj h2, is_inj h3, is_inj h4, rowsT_inj gvT_inj h5, rowsT_inj gvT_inj h6]
/-- A net to which a pointer points. -/
structure FeN where
  x : NtR
theorem nt_eta (x : NtR) : (⟨x.table, x.gates, x.broken, x.heard, x.gave, x.got⟩ : NtR) = x := rfl
instance : Enc NtR := ⟨ntT, ntT_inj⟩
instance : Enc FeN := ⟨fun y => .fe (ntT y.x) 0, fun ⟨x⟩ ⟨y⟩ h => by simp only [TV.fe.injEq, and_true] at h; rw [ntT_inj _ _ h]⟩
attribute [go_sem] ntT nt_eta
/-- How long its lists may be. -/
structure NtOk (x : NtR) : Prop where
  a : x.table.length ≤ 1048576
  b : x.gates.length ≤ 1048576
  t : ∀ g ∈ x.gates, g.talks.length ≤ 1048576
  c : x.broken.length ≤ 1048576
  d : x.heard.length ≤ 1048576
  e : x.gave.length ≤ 1048576
  f : x.got.length ≤ 1048576
def gateAt (n : NtR) (id : Int) : Option GaR := if 1 ≤ id then n.gates[(id - 1).toNat]? else none
def talkAt (n : NtR) (id k : Int) : Option TkR := (gateAt n id).bind fun g => if 0 ≤ k then g.talks[k.toNat]? else none
theorem gateAt_lt {n : NtR} {id : Int} : (∃ g, gateAt n id = some g) ↔ 1 ≤ id ∧ id ≤ (n.gates.length : Int) := by
  unfold gateAt
  constructor
  · rintro ⟨g, h⟩; split at h
    · have := (List.getElem?_eq_some_iff.1 h).1; omega
    · cases h
  · intro h; rw [if_pos h.1]; exact get_ex (by omega)
theorem gateAt_mem {n : NtR} {id : Int} {g : GaR} (h : gateAt n id = some g) : g ∈ n.gates := by
  unfold gateAt at h; split at h
  · exact List.mem_of_getElem? h
  · cases h
theorem gateAt_get {n : NtR} {id : Int} {g : GaR} (h : gateAt n id = some g) : n.gates[(id - 1).toNat]? = some g := by
  unfold gateAt at h; split at h
  · exact h
  · cases h
theorem talkAt_ex {n : NtR} {id k : Int} : (∃ t, talkAt n id k = some t) ↔ ∃ g, gateAt n id = some g ∧ 0 ≤ k ∧ k ≤ (g.talks.length : Int) - 1 := by
  unfold talkAt
  constructor
  · rintro ⟨t, h⟩
    obtain ⟨g, h1, h2⟩ := Option.bind_eq_some_iff.1 h
    split at h2
    · have := (List.getElem?_eq_some_iff.1 h2).1; exact ⟨g, h1, by omega, by omega⟩
    · cases h2
  · rintro ⟨g, h1, h2, h3⟩; rw [h1, Option.bind_some, if_pos h2]; exact get_ex (by omega)
theorem talkAt_get {n : NtR} {id k : Int} {t : TkR} (h : talkAt n id k = some t) : ∃ g, gateAt n id = some g ∧ 0 ≤ k ∧ g.talks[k.toNat]? = some t := by
  obtain ⟨g, h1, h2⟩ := Option.bind_eq_some_iff.1 h
  split at h2
  · exact ⟨g, h1, by assumption, h2⟩
  · cases h2
def gateP (n : NtR) (id : Int) : TV := match gateAt n id with
  | some g => .fe (gaT g) 0
  | none => .p (.pointer none)
def talkP (n : NtR) (id k : Int) : TV := match talkAt n id k with
  | some t => .fe (tkT t) 0
  | none => .p (.pointer none)
theorem gateP_some {n : NtR} {id : Int} {g : GaR} (h : gateAt n id = some g) : gateP n id = .fe (gaT g) 0 := by unfold gateP; rw [h]
theorem gateP_none {n : NtR} {id : Int} (h : gateAt n id = none) : gateP n id = .p (.pointer none) := by unfold gateP; rw [h]
theorem talkP_some {n : NtR} {id k : Int} {g : TkR} (h : talkAt n id k = some g) : talkP n id k = .fe (tkT g) 0 := by unfold talkP; rw [h]
theorem talkP_none {n : NtR} {id k : Int} (h : talkAt n id k = none) : talkP n id k = .p (.pointer none) := by unfold talkP; rw [h]
noncomputable def gat_S := spE (α := FeN × Int) (fun x => NtOk x.1.x) (fun x => (gateP x.1.x x.2, []))
theorem gat_at (n1 : List TmR) (n2 : List GaR) (n3 n4 : List Int) (n5 n6 : List GvR) (id : Int) (h : NtOk (⟨n1, n2, n3, n4, n5, n6⟩ : NtR)) : gat_S [.fe (.agg [.s (rowsT tmT n1), .s (rowsT gaT n2), .s (isT n3), .s (isT n4), .s (rowsT gvT n5), .s (rowsT gvT n6)]) 0, .p (.int .i64 id)] = some ((gateP (⟨n1, n2, n3, n4, n5, n6⟩ : NtR) id, [])) := spE_at (α := FeN × Int) (⟨(⟨n1, n2, n3, n4, n5, n6⟩ : NtR)⟩, id) h
attribute [go_sem] gat_at
-- (*impl.Net).gate
def c124 : AF := ⟨20,
 (.seq (.reg [rO 4 (.mv (.v (.pointer none)))])
 (.seq (.seq (.reg [rO 5 (.mv (.t 1)),
 rO 6 (.mv (.t 0)),
 rO 7 (.nilc (.t 6)),
 rO 8 (.fa (.t 7) 1),
 rO 9 (.ld (.t 8)),
 rO 10 (.len (.t 9)),
 rO 11 (.call 48 [(.t 5), (.v (.int .i64 1)), (.t 10)]),
 rO 12 (.un .not (.t 11))])
 (.cond (.t 12) (.seq (.reg [rO 4 (.mv (.v (.pointer none)))])
 .ret)
 .skip))
 (.seq (.reg [rO 13 (.mv (.t 0)),
 rO 14 (.nilc (.t 13)),
 rO 15 (.fa (.t 14) 1),
 rO 16 (.ld (.t 15)),
 rO 17 (.mv (.t 1)),
 rO 18 (.bin .sub (.t 17) (.v (.int .i64 1))),
 rO 19 (.ia 3 (.t 16) (.t 18)),
 rO 4 (.mv (.t 19))])
 .ret))),
 [.t 4]⟩
theorem k124 : cFn Try.prog Try.f124 = some c124 := by kernel_rfl
theorem gat_ok : OkT Try.prog 124 (shareSp gat_S) := by
  refine okT_hE (cs in_ok n0) Try.func124 k124 ?_
  rintro ⟨⟨n⟩, id⟩ hk
  dsimp only [EncL.e, Enc.e, ntT, c124, rO] at *
  have hb := hk.b
  cases hg : gateAt n id with
  | some g =>
    have h1 := gateAt_lt.1 ⟨g, hg⟩
    have h2 := gateAt_get hg
    rw [gateP_some hg]
    try refine tS ?_
    repeat' first | exact eV | exact eP | ((first | apply cD | apply cB | apply gD | apply gB) <;> intro _ <;> try refine tS ?_)
  | none =>
    have h1 : ¬ (1 ≤ id ∧ id ≤ (n.gates.length : Int)) := fun h => by obtain ⟨g, h⟩ := gateAt_lt.2 h; rw [h] at hg; cases hg
    rw [gateP_none hg]
    try refine tS ?_
    repeat' first | exact eV | exact eP | ((first | apply cD | apply cB | apply gD | apply gB) <;> intro _ <;> try refine tS ?_)
noncomputable def tlk_S := spE (α := FeN × Int × Int) (fun x => NtOk x.1.x) (fun x => (talkP x.1.x x.2.1 x.2.2, []))
theorem tlk_at (n1 : List TmR) (n2 : List GaR) (n3 n4 : List Int) (n5 n6 : List GvR) (id : Int) (k : Int) (h : NtOk (⟨n1, n2, n3, n4, n5, n6⟩ : NtR)) : tlk_S [.fe (.agg [.s (rowsT tmT n1), .s (rowsT gaT n2), .s (isT n3), .s (isT n4), .s (rowsT gvT n5), .s (rowsT gvT n6)]) 0, .p (.int .i64 id), .p (.int .i64 k)] = some ((talkP (⟨n1, n2, n3, n4, n5, n6⟩ : NtR) id k, [])) := spE_at (α := FeN × Int × Int) (⟨(⟨n1, n2, n3, n4, n5, n6⟩ : NtR)⟩, id, k) h
attribute [go_sem] tlk_at
-- (*impl.Net).talk
def c123 : AF := ⟨30,
 (.seq (.reg [rO 6 (.mv (.v (.pointer none)))])
 (.seq (.reg [rO 8 (.mv (.t 0)),
 rO 9 (.mv (.t 1)),
 rO 10 (.call 124 [(.t 8), (.t 9)]),
 rO 7 (.mv (.t 10))])
 (.seq (.seq (.reg [rO 11 (.mv (.t 7)),
 rO 12 (.eqP false (.t 11)),
 rO 13 (.mv (.t 12)),
 ⟨(some 14), (some (13, false)), .mv (.t 2)⟩,
 ⟨(some 15), (some (13, false)), .mv (.t 7)⟩,
 ⟨(some 16), (some (13, false)), .nilc (.t 15)⟩,
 ⟨(some 17), (some (13, false)), .fa (.t 16) 2⟩,
 ⟨(some 18), (some (13, false)), .ld (.t 17)⟩,
 ⟨(some 19), (some (13, false)), .len (.t 18)⟩,
 ⟨(some 20), (some (13, false)), .bin .sub (.t 19) (.v (.int .i64 1))⟩,
 ⟨(some 21), (some (13, false)), .call 48 [(.t 14), (.v (.int .i64 0)), (.t 20)]⟩,
 ⟨(some 22), (some (13, false)), .un .not (.t 21)⟩,
 rO 23 (.pick (.t 13) (.v (.bool true)) (.t 22))])
 (.cond (.t 23) (.seq (.reg [rO 6 (.mv (.v (.pointer none)))])
 .ret)
 .skip))
 (.seq (.reg [rO 24 (.mv (.t 7)),
 rO 25 (.nilc (.t 24)),
 rO 26 (.fa (.t 25) 2),
 rO 27 (.ld (.t 26)),
 rO 28 (.mv (.t 2)),
 rO 29 (.ia 20 (.t 27) (.t 28)),
 rO 6 (.mv (.t 29))])
 .ret)))),
 [.t 6]⟩
theorem k123 : cFn Try.prog Try.f123 = some c123 := by kernel_rfl
theorem tlk_ok : OkT Try.prog 123 (shareSp tlk_S) := by
  refine okT_hE (cs gat_ok (cs in_ok n0)) Try.func123 k123 ?_
  rintro ⟨⟨n⟩, id, k⟩ hk
  dsimp only [EncL.e, Enc.e, ntT, c123, rO] at *
  cases hg : gateAt n id with
  | none =>
    have h1 := gateP_none hg
    rw [talkP_none (by unfold talkAt; rw [hg]; rfl)]
    try refine tS ?_
    repeat' first | exact eV | exact eP | ((first | apply cD | apply cB | apply gD | apply gB) <;> intro _ <;> try refine tS ?_)
  | some g =>
    have h1 := gateP_some hg
    have h2 := hk.t g (gateAt_mem hg)
    cases ht : talkAt n id k with
    | none =>
      have h3 : ¬ (0 ≤ k ∧ k ≤ (g.talks.length : Int) - 1) := fun h => by obtain ⟨x, h⟩ := talkAt_ex.2 ⟨g, hg, h⟩; rw [h] at ht; cases ht
      rw [talkP_none ht]
      try refine tS ?_
      repeat' first | exact eV | exact eP | ((first | apply cD | apply cB | apply gD | apply gB) <;> intro _ <;> try refine tS ?_)
    | some x =>
      obtain ⟨g', h3, h4, h5⟩ := talkAt_get ht
      rw [hg] at h3; cases h3
      have h6 := (List.getElem?_eq_some_iff.1 h5).1
      have h7 : k ≤ (g.talks.length : Int) - 1 := by omega
      rw [talkP_some ht]
      try refine tS ?_
      repeat' first | exact eV | exact eP | ((first | apply cD | apply cB | apply gD | apply gB) <;> intro _ <;> try refine tS ?_)
end Go.Proofs.Ytbddhlhpakbcdaa
