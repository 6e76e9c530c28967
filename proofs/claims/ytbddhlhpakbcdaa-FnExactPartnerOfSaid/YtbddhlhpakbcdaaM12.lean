import Derived.Test.YtbddhlhpakbcdaaM11
set_option linter.unusedSimpArgs false
set_option linter.unusedVariables false
set_option maxRecDepth 100000
set_option maxHeartbeats 4000000
namespace Go.Proofs.Ytbddhlhpakbcdaa
open Go Go.AH
attribute [local irreducible] awpT ropsT qopsT stepT condKT gdKT EndT joinK loopKT seqKT blkKT kont kontR ropsTF frKT
/-! Partners -/

def capF (x : TkR × Int × Int) : List TV := [.fe (.fe (tkT x.1) 0) 0, .fe (.agg [.p (.int .i64 x.2.1), .p (.int .i64 x.2.2)]) 0]
theorem capF_inj (x y : TkR × Int × Int) (h : capF x = capF y) : x = y := by
  obtain ⟨a, b, c⟩ := x; obtain ⟨a', b', c'⟩ := y; simp [capF] at h; rw [tkT_inj _ _ h.1, h.2.1, h.2.2]
theorem capF_frz (h : THeap) (n : Nat) (x : TkR × Int × Int) : (capF x).map (frzT h n) = capF x := by simp only [capF, List.map_cons, List.map_nil, frz_fe]
def pF (x : TkR × Int × Int) (u : TkR) : Bool := fitB x.2.1 x.1 u
-- (*impl.Net).partner$1
def c126 : AF := ⟨9,
 (.seq (.reg [rO 3 (.box 38 (.t 0)),
 rO 4 (.mv (.v (.bool false)))])
 (.seq (.reg [rO 5 (.ld (.t 1)),
 rO 6 (.fa (.t 2) 0),
 rO 7 (.ld (.t 6)),
 rO 8 (.call 127 [(.t 5), (.t 3), (.t 7)]),
 rO 4 (.mv (.t 8))])
 .ret)),
 [.t 4]⟩
theorem k126 : cFn Try.prog Try.f126 = some c126 := by kernel_rfl
theorem pf1_ok : OkT Try.prog 126 (pureSp (askK_S capF (fun _ _ => True) pF)) := by
  refine okT_fn (cs fitI_ok n0) Try.func126 (by kernel_rfl) k126 (fun x _ => ⟨rfl, rfl⟩) ?_
  rintro ⟨u, a, g, k⟩ _
  dsimp only [pF, capF, tkT, c126, rO] at *
  try refine tS ?_
  repeat' first | exact eV | exact eP | ((first | apply cD | apply cB | apply gD | apply gB) <;> intro _ <;> try refine tS ?_)
theorem findF_ok : OkT Try.prog 125 (pureSp (findK_S 126 capF (fun _ _ => True) pF)) := findK_ok capF_inj capF_frz pf1_ok
theorem findF_at (l : List TkR) (a : TkR) (g k : Int) (h : l.length ≤ 1048576) : findK_S 126 capF (fun _ _ => True) pF [.s (rowsT tkT l), .fn 126 [.fe (.fe (tkT a) 0) 0, .fe (.agg [.p (.int .i64 g), .p (.int .i64 k)]) 0]] = some (.p (.int .i64 (nix (l.findIdx? (fitB g a)))), []) := findK_at capF_inj l (a, g, k) ⟨h, fun _ _ => trivial⟩
def partA (n : NtR) (g k : Int) : (Int × Int) × Bool := match talkAt n g k with
  | none => ((0, 0), false)
  | some t => if t.stage = 3 then (match gateAt n t.peer with
    | none => ((0, 0), false)
    | some q => ((t.peer, nix (q.talks.findIdx? (fitB g t))), decide (0 ≤ nix (q.talks.findIdx? (fitB g t))))) else ((0, 0), false)
structure PlR where
  (gate talk : Int)
def plT (x : PlR) : TV := .agg [.p (.int .i64 x.gate), .p (.int .i64 x.talk)]
theorem plT_inj (x y : PlR) (h : plT x = plT y) : x = y := by cases x; cases y; simp [plT] at h; simp [h]
instance : Enc PlR := ⟨plT, plT_inj⟩
attribute [go_sem] plT
noncomputable def part_S := spE (α := FeN × PlR) (fun x => NtOk x.1.x) (fun x => (.tup [.agg [.p (.int .i64 (partA x.1.x x.2.gate x.2.talk).1.1), .p (.int .i64 (partA x.1.x x.2.gate x.2.talk).1.2)], .p (.bool (partA x.1.x x.2.gate x.2.talk).2)], []))
theorem part_at (n1 : List TmR) (n2 : List GaR) (n3 n4 : List Int) (n5 n6 : List GvR) (x1 x2 : Int) (h : NtOk (⟨n1, n2, n3, n4, n5, n6⟩ : NtR)) : part_S [.fe (.agg [.s (rowsT tmT n1), .s (rowsT gaT n2), .s (isT n3), .s (isT n4), .s (rowsT gvT n5), .s (rowsT gvT n6)]) 0, .agg [.p (.int .i64 x1), .p (.int .i64 x2)]] = some ((.tup [.agg [.p (.int .i64 (partA (⟨n1, n2, n3, n4, n5, n6⟩ : NtR) (⟨x1, x2⟩ : PlR).gate (⟨x1, x2⟩ : PlR).talk).1.1), .p (.int .i64 (partA (⟨n1, n2, n3, n4, n5, n6⟩ : NtR) (⟨x1, x2⟩ : PlR).gate (⟨x1, x2⟩ : PlR).talk).1.2)], .p (.bool (partA (⟨n1, n2, n3, n4, n5, n6⟩ : NtR) (⟨x1, x2⟩ : PlR).gate (⟨x1, x2⟩ : PlR).talk).2)], [])) := spE_at (α := FeN × PlR) (⟨(⟨n1, n2, n3, n4, n5, n6⟩ : NtR)⟩, (⟨x1, x2⟩ : PlR)) h
attribute [go_sem] part_at
-- (*impl.Net).partner
def c74 : AF := ⟨48,
 (.seq (.reg [rO 3 (.box 112 (.t 1)),
 rO 4 (.alloc 112 [(.int .i64 0), (.int .i64 0)]),
 rO 5 (.mv (.v (.bool false)))])
 (.seq (.reg [rO 9 (.mv (.t 0)),
 rO 10 (.fa (.t 3) 0),
 rO 11 (.ld (.t 10)),
 rO 12 (.fa (.t 3) 1),
 rO 13 (.ld (.t 12)),
 rO 14 (.call 123 [(.t 9), (.t 11), (.t 13)]),
 rO 6 (.alloc 84 [(.pointer none)]),
 ⟨none, none, .st 1 (.t 6) (.t 14)⟩])
 (.seq (.seq (.reg [rO 15 (.ld (.t 6)),
 rO 16 (.eqP false (.t 15)),
 rO 17 (.mv (.t 16)),
 ⟨(some 18), (some (17, false)), .ld (.t 6)⟩,
 ⟨(some 19), (some (17, false)), .nilc (.t 18)⟩,
 ⟨(some 20), (some (17, false)), .fa (.t 19) 2⟩,
 ⟨(some 21), (some (17, false)), .ld (.t 20)⟩,
 ⟨(some 22), (some (17, false)), .bin .neq (.t 21) (.v (.int .i64 3))⟩,
 rO 23 (.pick (.t 17) (.v (.bool true)) (.t 22))])
 (.cond (.t 23) (.seq (.reg [rO 24 (.build [(.int .i64 0), (.int .i64 0)] []),
 ⟨none, none, .st 2 (.t 4) (.t 24)⟩,
 rO 5 (.mv (.v (.bool false)))])
 .ret)
 .skip))
 (.seq (.reg [rO 25 (.mv (.t 0)),
 rO 26 (.ld (.t 6)),
 rO 27 (.nilc (.t 26)),
 rO 28 (.fa (.t 27) 0),
 rO 29 (.ld (.t 28)),
 rO 30 (.call 124 [(.t 25), (.t 29)]),
 rO 7 (.mv (.t 30))])
 (.seq (.seq (.reg [rO 31 (.mv (.t 7)),
 rO 32 (.eqP false (.t 31))])
 (.cond (.t 32) (.seq (.reg [rO 33 (.build [(.int .i64 0), (.int .i64 0)] []),
 ⟨none, none, .st 2 (.t 4) (.t 33)⟩,
 rO 5 (.mv (.v (.bool false)))])
 .ret)
 .skip))
 (.seq (.reg [rO 34 (.mv (.t 7)),
 rO 35 (.nilc (.t 34)),
 rO 36 (.fa (.t 35) 2),
 rO 37 (.ld (.t 36)),
 rO 38 (.fn 126 [(.t 6), (.t 3)]),
 rO 39 (.call 125 [(.t 37), (.t 38)]),
 rO 8 (.mv (.t 39))])
 (.seq (.reg [rO 40 (.ld (.t 6)),
 rO 41 (.nilc (.t 40)),
 rO 42 (.fa (.t 41) 0),
 rO 43 (.ld (.t 42)),
 rO 44 (.mv (.t 8)),
 rO 45 (.build [(.int .i64 0), (.int .i64 0)] [(0, 1, (.t 43)), (1, 1, (.t 44))]),
 rO 46 (.mv (.t 8)),
 rO 47 (.bin .geq (.t 46) (.v (.int .i64 0))),
 ⟨none, none, .st 2 (.t 4) (.t 45)⟩,
 rO 5 (.mv (.t 47))])
 .ret))))))),
 [.cell 4 (some 2), .t 5]⟩
theorem k74 : cFn Try.prog Try.f74 = some c74 := by kernel_rfl
theorem part_ok : OkT Try.prog 74 (pureSp part_S) := by
  refine okT_fA (cs tlk_ok (cs gat_ok (cs findF_ok (cs pf1_ok n0)))) Try.func74 k74 ?_
  rintro ⟨⟨n⟩, ⟨g, k⟩⟩ hk
  dsimp only [EncL.e, Enc.e, ntT, c74, rO] at *
  unfold partA
  cases ht : talkAt n g k with
  | none =>
    have h1 := talkP_none ht
    try refine tS ?_
    repeat' first | exact eV | exact eP | ((first | apply cD | apply cB | apply gD | apply gB) <;> intro _ <;> try refine tS ?_)
  | some t =>
    have h1 := talkP_some ht
    dsimp only
    by_cases h3 : t.stage = 3
    case neg =>
      rw [if_neg h3]
      try refine tS ?_
      repeat' first | exact eV | exact eP | ((first | apply cD | apply cB | apply gD | apply gB) <;> intro _ <;> try refine tS ?_)
    rw [if_pos h3]
    replace h3 := eq_true h3
    cases hg : gateAt n t.peer with
    | none =>
      have h2 := gateP_none hg
      try refine tS ?_
      repeat' first | exact eV | exact eP | ((first | apply cD | apply cB | apply gD | apply gB) <;> intro _ <;> try refine tS ?_)
    | some q =>
      have h2 := gateP_some hg
      have hf := findF_at q.talks t g k (hk.t q (gateAt_mem hg))
      simp only [tkT] at hf
      dsimp only
      generalize nix (q.talks.findIdx? (fitB g t)) = v at *
      try refine tS ?_
      repeat' first | exact eV | exact eP | ((first | apply cD | apply cB | apply gD | apply gB) <;> intro _ <;> try refine tS ?_)

def matchR (n : NtR) (g k : Int) : List Int := if netF n = 0 then (if (partA n g k).2 = true then [0, (partA n g k).1.1, (partA n g k).1.2] else [4, 0, 0]) else [netF n, 0, 0]
theorem matchR_len (n : NtR) (g k : Int) : ∃ a b c, matchR n g k = [a, b, c] := by unfold matchR; split; split; exact ⟨_, _, _, rfl⟩; exact ⟨_, _, _, rfl⟩; exact ⟨_, _, _, rfl⟩
noncomputable def mat_S := spE (α := NtR × Int × Int) (fun x => NtOk x.1) (fun x => (.agg (isT (matchR x.1 x.2.1 x.2.2)), []))
theorem mat_at (n1 : List TmR) (n2 : List GaR) (n3 n4 : List Int) (n5 n6 : List GvR) (g : Int) (k : Int) (h : NtOk (⟨n1, n2, n3, n4, n5, n6⟩ : NtR)) : mat_S [.agg [.s (rowsT tmT n1), .s (rowsT gaT n2), .s (isT n3), .s (isT n4), .s (rowsT gvT n5), .s (rowsT gvT n6)], .p (.int .i64 g), .p (.int .i64 k)] = some ((.agg (isT (matchR (⟨n1, n2, n3, n4, n5, n6⟩ : NtR) g k)), [])) := spE_at (α := NtR × Int × Int) ((⟨n1, n2, n3, n4, n5, n6⟩ : NtR), g, k) h
attribute [go_sem] mat_at
-- impl.PartnerOf
def c27 : AF := ⟨31,
 (.seq (.reg [rO 3 (.box 67 (.t 0)),
 rO 6 (.alloc 62 [(.int .i64 0), (.int .i64 0), (.int .i64 0)])])
 (.seq (.seq (.reg [rO 10 (.ldn 6 (.t 3)),
 rO 11 (.call 73 [(.t 10)]),
 rO 7 (.mv (.t 11))])
 (.seq (.reg [rO 12 (.mv (.t 7)),
 rO 13 (.bin .neq (.t 12) (.v (.int .i64 0)))])
 (.cond (.t 13) (.seq (.reg [rO 14 (.mv (.t 7)),
 rO 15 (.build [(.int .i64 0), (.int .i64 0), (.int .i64 0)] [(0, 1, (.t 14))]),
 ⟨none, none, .st 3 (.t 6) (.t 15)⟩])
 .ret)
 .skip)))
 (.seq (.reg [rO 17 (.mv (.t 1)),
 rO 18 (.mv (.t 2)),
 rO 19 (.build [(.int .i64 0), (.int .i64 0)] [(0, 1, (.t 17)), (1, 1, (.t 18))]),
 rO 20 (.call 74 [(.t 3), (.t 19)]),
 rO 16 (.mv (.t 20)),
 rO 21 (.ext (.t 16) 0),
 rO 22 (.ext (.t 16) 1),
 rO 8 (.alloc 112 [(.int .i64 0), (.int .i64 0)]),
 ⟨none, none, .st 2 (.t 8) (.t 21)⟩,
 rO 9 (.mv (.t 22))])
 (.seq (.seq (.reg [rO 23 (.mv (.t 9)),
 rO 24 (.un .not (.t 23))])
 (.cond (.t 24) (.seq (.reg [rO 25 (.build [(.int .i64 0), (.int .i64 0), (.int .i64 0)] [(0, 1, (.v (.int .i64 4)))]),
 ⟨none, none, .st 3 (.t 6) (.t 25)⟩])
 .ret)
 .skip))
 (.seq (.reg [rO 26 (.fa (.t 8) 0),
 rO 27 (.ld (.t 26)),
 rO 28 (.fa (.t 8) 1),
 rO 29 (.ld (.t 28)),
 rO 30 (.build [(.int .i64 0), (.int .i64 0), (.int .i64 0)] [(0, 1, (.v (.int .i64 0))), (1, 1, (.t 27)), (2, 1, (.t 29))]),
 ⟨none, none, .st 3 (.t 6) (.t 30)⟩])
 .ret))))),
 [.cell 6 (some 3)]⟩
theorem k27 : cFn Try.prog Try.f27 = some c27 := by kernel_rfl
theorem matI_ok : OkT Try.prog 27 (pureSp mat_S) := by
  refine okT_fA (cs netI_ok (cs part_ok n0)) Try.func27 k27 ?_ (hown := fun _ _ => ⟨is_own _, rfl⟩)
  rintro ⟨n, g, k⟩ hk
  dsimp only [EncL.e, Enc.e, ntT, c27, rO] at *
  have hpa := part_at n.table n.gates n.broken n.heard n.gave n.got g k
  rw [nt_eta] at hpa
  replace hpa := hpa hk
  unfold matchR
  by_cases h0 : netF n = 0
  case neg =>
    rw [if_neg h0]
    try refine tS ?_
    repeat' first | exact eV | exact eP | ((first | apply cD | apply cB | apply gD | apply gB) <;> intro _ <;> try refine tS ?_)
  rw [if_pos h0]
  generalize partA n g k = r at *
  obtain ⟨⟨p, i⟩, b⟩ := r
  cases b
  · rw [if_neg (by simp)]
    try refine tS ?_
    repeat' first | exact eV | exact eP | ((first | apply cD | apply cB | apply gD | apply gB) <;> intro _ <;> try refine tS ?_)
  · rw [if_pos rfl]
    try refine tS ?_
    repeat' first | exact eV | exact eP | ((first | apply cD | apply cB | apply gD | apply gB) <;> intro _ <;> try refine tS ?_)
noncomputable def has_S := spE (α := FeN × Int × Int) (fun x => NtOk x.1.x) (fun x => (.p (.bool (talkAt x.1.x x.2.1 x.2.2).isSome), []))
theorem has_at (n1 : List TmR) (n2 : List GaR) (n3 n4 : List Int) (n5 n6 : List GvR) (g : Int) (k : Int) (h : NtOk (⟨n1, n2, n3, n4, n5, n6⟩ : NtR)) : has_S [.fe (.agg [.s (rowsT tmT n1), .s (rowsT gaT n2), .s (isT n3), .s (isT n4), .s (rowsT gvT n5), .s (rowsT gvT n6)]) 0, .p (.int .i64 g), .p (.int .i64 k)] = some ((.p (.bool (talkAt (⟨n1, n2, n3, n4, n5, n6⟩ : NtR) g k).isSome), [])) := spE_at (α := FeN × Int × Int) (⟨(⟨n1, n2, n3, n4, n5, n6⟩ : NtR)⟩, g, k) h
attribute [go_sem] has_at
-- spec.l13Has
def c68 : AF := ⟨29,
 (.seq (.reg [rO 6 (.mv (.v (.bool false)))])
 (.seq (.reg [rO 7 (.mv (.t 1)),
 rO 8 (.mv (.t 0)),
 rO 9 (.nilc (.t 8)),
 rO 10 (.fa (.t 9) 1),
 rO 11 (.ld (.t 10)),
 rO 12 (.len (.t 11)),
 rO 13 (.call 54 [(.t 7), (.v (.int .i64 1)), (.t 12)]),
 rO 14 (.mv (.t 13)),
 ⟨(some 15), (some (14, true)), .mv (.t 2)⟩,
 ⟨(some 16), (some (14, true)), .mv (.t 0)⟩,
 ⟨(some 17), (some (14, true)), .nilc (.t 16)⟩,
 ⟨(some 18), (some (14, true)), .fa (.t 17) 1⟩,
 ⟨(some 19), (some (14, true)), .ld (.t 18)⟩,
 ⟨(some 20), (some (14, true)), .mv (.t 1)⟩,
 ⟨(some 21), (some (14, true)), .bin .sub (.t 20) (.v (.int .i64 1))⟩,
 ⟨(some 22), (some (14, true)), .ia 3 (.t 19) (.t 21)⟩,
 ⟨(some 23), (some (14, true)), .fa (.t 22) 2⟩,
 ⟨(some 24), (some (14, true)), .ld (.t 23)⟩,
 ⟨(some 25), (some (14, true)), .len (.t 24)⟩,
 ⟨(some 26), (some (14, true)), .bin .sub (.t 25) (.v (.int .i64 1))⟩,
 ⟨(some 27), (some (14, true)), .call 54 [(.t 15), (.v (.int .i64 0)), (.t 26)]⟩,
 rO 28 (.pick (.t 14) (.t 27) (.v (.bool false))),
 rO 6 (.mv (.t 28))])
 .ret)),
 [.t 6]⟩
theorem k68 : cFn Try.prog Try.f68 = some c68 := by kernel_rfl
theorem has_ok : OkT Try.prog 68 (pureSp has_S) := by
  refine okT_fA (cs l1In_ok n0) Try.func68 k68 ?_
  rintro ⟨⟨n⟩, g, k⟩ hk
  dsimp only [EncL.e, Enc.e, ntT, c68, rO] at *
  have hb := hk.b
  cases hg : gateAt n g with
  | none =>
    have h1 : ¬ (1 ≤ g ∧ g ≤ (n.gates.length : Int)) := fun h => by obtain ⟨x, h⟩ := gateAt_lt.2 h; rw [h] at hg; cases hg
    rw [show (talkAt n g k).isSome = false by unfold talkAt; rw [hg]; rfl]
    try refine tS ?_
    repeat' first | exact eV | exact eP | ((first | apply cD | apply cB | apply gD | apply gB) <;> intro _ <;> try refine tS ?_)
  | some q =>
    have h1 := gateAt_lt.1 ⟨q, hg⟩
    have h2 := gateAt_get hg
    have h3 := hk.t q (gateAt_mem hg)
    rw [show (talkAt n g k).isSome = decide (0 ≤ k ∧ k ≤ (q.talks.length : Int) - 1) by
      cases ht : talkAt n g k with
      | none => rw [decide_eq_false (fun h => by obtain ⟨x, h⟩ := talkAt_ex.2 ⟨q, hg, h⟩; rw [h] at ht; cases ht)]; rfl
      | some t => obtain ⟨q', h4, h5⟩ := talkAt_ex.1 ⟨t, ht⟩; rw [hg] at h4; cases h4; rw [decide_eq_true h5]; rfl]
    try refine tS ?_
    repeat' first | exact eV | exact eP | ((first | apply cD | apply cB | apply gD | apply gB) <;> intro _ <;> try refine tS ?_)

def prtV (n : NtR) (g k : Int) : Int := if (partA n g k).2 = true then (partA n g k).1.2 else -1
theorem partA_st {n : NtR} {g k : Int} {t : TkR} (ht : talkAt n g k = some t) (h : ¬ t.stage = 3) : partA n g k = ((0, 0), false) := by unfold partA; rw [ht]; dsimp only; rw [if_neg h]
theorem partA_no {n : NtR} {g k : Int} {t : TkR} (ht : talkAt n g k = some t) (hg : gateAt n t.peer = none) : partA n g k = ((0, 0), false) := by unfold partA; rw [ht]; dsimp only; rw [hg]; split <;> rfl
theorem partA_so {n : NtR} {g k : Int} {t : TkR} {p : GaR} (ht : talkAt n g k = some t) (h : t.stage = 3) (hg : gateAt n t.peer = some p) : partA n g k = ((t.peer, nix (p.talks.findIdx? (fitB g t))), decide (0 ≤ nix (p.talks.findIdx? (fitB g t)))) := by unfold partA; rw [ht]; dsimp only; rw [if_pos h, hg]
theorem prtV_st {n : NtR} {g k : Int} {t : TkR} (ht : talkAt n g k = some t) (h : ¬ t.stage = 3) : prtV n g k = -1 := by unfold prtV; rw [partA_st ht h]; rfl
theorem prtV_no {n : NtR} {g k : Int} {t : TkR} (ht : talkAt n g k = some t) (hg : gateAt n t.peer = none) : prtV n g k = -1 := by unfold prtV; rw [partA_no ht hg]; rfl
theorem prtV_so {n : NtR} {g k : Int} {t : TkR} {p : GaR} (ht : talkAt n g k = some t) (h : t.stage = 3) (hg : gateAt n t.peer = some p) : prtV n g k = nix (p.talks.findIdx? (fitB g t)) := by
  unfold prtV; rw [partA_so ht h hg]; cases p.talks.findIdx? (fitB g t) <;> simp [nix]
noncomputable def prt_S := spE (α := FeN × Int × Int) (fun x => (NtOk x.1.x) ∧ ((talkAt x.1.x x.2.1 x.2.2).isSome = true)) (fun x => (.p (.int .i64 (prtV x.1.x x.2.1 x.2.2)), []))
theorem prt_at (n1 : List TmR) (n2 : List GaR) (n3 n4 : List Int) (n5 n6 : List GvR) (g : Int) (k : Int) (h0 : NtOk (⟨n1, n2, n3, n4, n5, n6⟩ : NtR)) (h1 : (talkAt (⟨n1, n2, n3, n4, n5, n6⟩ : NtR) g k).isSome = true) : prt_S [.fe (.agg [.s (rowsT tmT n1), .s (rowsT gaT n2), .s (isT n3), .s (isT n4), .s (rowsT gvT n5), .s (rowsT gvT n6)]) 0, .p (.int .i64 g), .p (.int .i64 k)] = some ((.p (.int .i64 (prtV (⟨n1, n2, n3, n4, n5, n6⟩ : NtR) g k)), [])) := spE_at (α := FeN × Int × Int) (⟨(⟨n1, n2, n3, n4, n5, n6⟩ : NtR)⟩, g, k) ⟨h0, h1⟩
attribute [go_sem] prt_at
-- spec.l13Partner
def c69 : AF := ⟨60,
 (.seq (.reg [rO 6 (.mv (.v (.int .i64 0)))])
 (.seq (.reg [rO 10 (.mv (.t 0)),
 rO 11 (.nilc (.t 10)),
 rO 12 (.fa (.t 11) 1),
 rO 13 (.ld (.t 12)),
 rO 14 (.mv (.t 1)),
 rO 15 (.bin .sub (.t 14) (.v (.int .i64 1))),
 rO 16 (.ia 3 (.t 13) (.t 15)),
 rO 17 (.fa (.t 16) 2),
 rO 18 (.ld (.t 17)),
 rO 19 (.mv (.t 2)),
 rO 20 (.ia 20 (.t 18) (.t 19)),
 rO 21 (.ldn 20 (.t 20)),
 rO 7 (.alloc 38 [(.int .i64 0), (.int .i64 0), (.int .i64 0), (.int .i64 0), (.int .i64 0), (.int .i64 0), (.int .i64 0), (.int .i64 0), (.int .i64 0), (.int .i64 0), (.int .i64 0), (.int .i64 0), (.int .i64 0), (.int .i64 0), (.int .i64 0), (.int .i64 0), (.int .i64 0), (.int .i64 0), (.int .i64 0), (.int .i64 0)]),
 ⟨none, none, .st 20 (.t 7) (.t 21)⟩])
 (.seq (.seq (.drw [rO 22 (.fa (.t 7) 2),
 rO 23 (.ld (.t 22)),
 rO 24 (.bin .neq (.t 23) (.v (.int .i64 3))),
 rO 25 (.mv (.t 24)),
 ⟨(some 26), (some (25, false)), .fa (.t 7) 0⟩,
 ⟨(some 27), (some (25, false)), .ld (.t 26)⟩,
 ⟨(some 28), (some (25, false)), .mv (.t 0)⟩,
 ⟨(some 29), (some (25, false)), .nilc (.t 28)⟩,
 ⟨(some 30), (some (25, false)), .fa (.t 29) 1⟩,
 ⟨(some 31), (some (25, false)), .ld (.t 30)⟩,
 ⟨(some 32), (some (25, false)), .len (.t 31)⟩] [⟨(some 33), (some (25, false)), .call 54 [(.t 27), (.v (.int .i64 1)), (.t 32)]⟩,
 ⟨(some 34), (some (25, false)), .un .not (.t 33)⟩,
 rO 35 (.pick (.t 25) (.v (.bool true)) (.t 34))])
 (.cond (.t 35) (.seq (.reg [rO 6 (.mv (.v (.int .i64 (-1))))])
 .ret)
 .skip))
 (.seq (.drw [rO 36 (.mv (.t 0)),
 rO 37 (.nilc (.t 36)),
 rO 38 (.fa (.t 37) 1),
 rO 39 (.ld (.t 38)),
 rO 40 (.fa (.t 7) 0),
 rO 41 (.ld (.t 40)),
 rO 42 (.bin .sub (.t 41) (.v (.int .i64 1)))] [rO 43 (.ia 3 (.t 39) (.t 42)),
 rO 44 (.fa (.t 43) 2),
 rO 45 (.ld (.t 44)),
 rO 8 (.mv (.t 45))])
 (.seq (.seq (.reg [rO 9 (.mv (.v (.int .i64 0)))])
 (.block 0 (.loop (.seq (.seq (.reg [rO 46 (.mv (.t 9)),
 rO 47 (.mv (.t 8)),
 rO 48 (.len (.t 47)),
 rO 49 (.bin .lss (.t 46) (.t 48))])
 (.cond (.t 49) .skip
 (.exit 0)))
 (.seq (.block 1 (.seq (.drw [rO 52 (.ldn 20 (.t 7)),
 rO 53 (.mv (.t 8)),
 rO 54 (.mv (.t 9)),
 rO 55 (.ia 20 (.t 53) (.t 54)),
 rO 56 (.ldn 20 (.t 55)),
 rO 57 (.mv (.t 1))] [rO 58 (.call 114 [(.t 52), (.t 56), (.t 57)])])
 (.cond (.t 58) (.seq (.reg [rO 59 (.mv (.t 9)),
 rO 6 (.mv (.t 59))])
 .ret)
 .skip)))
 (.reg [rO 50 (.mv (.t 9)),
 rO 51 (.bin .add (.t 50) (.v (.int .i64 1))),
 rO 9 (.mv (.t 51))]))))))
 (.seq (.reg [rO 6 (.mv (.v (.int .i64 (-1))))])
 .ret)))))),
 [.t 6]⟩
theorem k69 : cFn Try.prog Try.f69 = some c69 := by kernel_rfl
theorem prt_ok : OkT Try.prog 69 (pureSp prt_S) := by
  refine okT_fA (cs l1In_ok (cs fitS_ok n0)) Try.func69 k69 ?_
  rintro ⟨⟨n⟩, g, k⟩ ⟨hk, hs⟩
  dsimp only [EncL.e, Enc.e, ntT, c69, rO] at *
  have hb := hk.b
  obtain ⟨t, ht⟩ := Option.isSome_iff_exists.1 hs
  obtain ⟨q, hg, h4, h5⟩ := talkAt_get ht
  have h1 := gateAt_lt.1 ⟨q, hg⟩
  have h2 := gateAt_get hg
  have h3 := hk.t q (gateAt_mem hg)
  have h6 := (List.getElem?_eq_some_iff.1 h5).1
  have h7 : k ≤ (q.talks.length : Int) - 1 := by omega
  clear hs
  by_cases hst : t.stage = 3
  case neg =>
    rw [prtV_st ht hst]
    clear ht
    try refine tS ?_
    repeat' first | exact eV | exact eP | ((first | apply cD | apply cB | apply gD | apply gB) <;> intro _ <;> try refine tS ?_)
  cases hp : gateAt n t.peer with
  | none =>
    rw [prtV_no ht hp]
    replace hst := eq_true hst
    clear ht
    have h8 : ¬ (1 ≤ t.peer ∧ t.peer ≤ (n.gates.length : Int)) := fun h => by obtain ⟨x, h⟩ := gateAt_lt.2 h; rw [h] at hp; cases hp
    try refine tS ?_
    repeat' first | exact eV | exact eP | ((first | apply cD | apply cB | apply gD | apply gB) <;> intro _ <;> try refine tS ?_)
  | some p =>
    rw [prtV_so ht hst hp]
    replace hst := eq_true hst
    have h8 := gateAt_lt.1 ⟨p, hp⟩
    have h9 := gateAt_get hp
    have h10 := hk.t p (gateAt_mem hp)
    clear ht
    clear hg
    refine tS ?_
    refine awpT_loop (α := Nat) (fun i => ⟨slots [(1, .p (.int .i64 g)), (7, .op 0 0 0), (8, .s (rowsT tkT p.talks)), (9, .p (.int .i64 i))], [.cells 38 20 [tkT t]]⟩) (fun i => i ≤ p.talks.length ∧ ∀ j y, j < i → p.talks[j]? = some y → fitB g t y = false) (fun i => p.talks.length - i) 0 ⟨by omega, fun j y hj => absurd hj (by omega)⟩ (leA [0]) ?_
    intro i ⟨hi, hn⟩
    refine tS ?_
    refine cD (fun hlt => ?_) (fun hge => ?_)
    · obtain ⟨x, hx⟩ := get_ex (l := p.talks) (i := i) (by omega)
      cases hf : fitB g t x
      · have e := nsn hx hf hn
        clear hn
        refine tS ?_
        exact lN (i + 1) (leA [0]) ⟨by omega, e⟩
      · rw [nfs hx hf hn]
        clear hn
        dsimp only [nix]
        try refine tS ?_
        repeat' first | exact eV | exact eP | ((first | apply cD | apply cB | apply gD | apply gB) <;> intro _ <;> try refine tS ?_)
    · rw [nfn (fun j y hj => hn j y (by omega))]
      clear hn
      dsimp only [nix]
      refine tS ?_
      refine joinK_here ?_
      try refine tS ?_
      repeat' first | exact eV | exact eP | ((first | apply cD | apply cB | apply gD | apply gB) <;> intro _ <;> try refine tS ?_)
-- spec.PartnerOf
def c25 : AF := ⟨39,
 (.seq (.reg [rO 3 (.box 67 (.t 0)),
 rO 6 (.alloc 62 [(.int .i64 0), (.int .i64 0), (.int .i64 0)])])
 (.seq (.seq (.reg [rO 9 (.ldn 6 (.t 3)),
 rO 10 (.call 67 [(.t 9)]),
 rO 7 (.mv (.t 10))])
 (.seq (.reg [rO 11 (.mv (.t 7)),
 rO 12 (.bin .neq (.t 11) (.v (.int .i64 0)))])
 (.cond (.t 12) (.seq (.reg [rO 13 (.mv (.t 7)),
 rO 14 (.build [(.int .i64 0), (.int .i64 0), (.int .i64 0)] [(0, 1, (.t 13))]),
 ⟨none, none, .st 3 (.t 6) (.t 14)⟩])
 .ret)
 .skip)))
 (.seq (.seq (.reg [rO 15 (.mv (.t 1)),
 rO 16 (.mv (.t 2)),
 rO 17 (.call 68 [(.t 3), (.t 15), (.t 16)]),
 rO 18 (.un .not (.t 17))])
 (.cond (.t 18) (.seq (.reg [rO 19 (.build [(.int .i64 0), (.int .i64 0), (.int .i64 0)] [(0, 1, (.v (.int .i64 4)))]),
 ⟨none, none, .st 3 (.t 6) (.t 19)⟩])
 .ret)
 .skip))
 (.seq (.reg [rO 20 (.mv (.t 1)),
 rO 21 (.mv (.t 2)),
 rO 22 (.call 69 [(.t 3), (.t 20), (.t 21)]),
 rO 8 (.mv (.t 22))])
 (.seq (.seq (.reg [rO 23 (.mv (.t 8)),
 rO 24 (.bin .lss (.t 23) (.v (.int .i64 0)))])
 (.cond (.t 24) (.seq (.reg [rO 25 (.build [(.int .i64 0), (.int .i64 0), (.int .i64 0)] [(0, 1, (.v (.int .i64 4)))]),
 ⟨none, none, .st 3 (.t 6) (.t 25)⟩])
 .ret)
 .skip))
 (.seq (.reg [rO 26 (.fa (.t 3) 1),
 rO 27 (.ld (.t 26)),
 rO 28 (.mv (.t 1)),
 rO 29 (.bin .sub (.t 28) (.v (.int .i64 1))),
 rO 30 (.ia 3 (.t 27) (.t 29)),
 rO 31 (.fa (.t 30) 2),
 rO 32 (.ld (.t 31)),
 rO 33 (.mv (.t 2)),
 rO 34 (.ia 20 (.t 32) (.t 33)),
 rO 35 (.fa (.t 34) 0),
 rO 36 (.ld (.t 35)),
 rO 37 (.mv (.t 8)),
 rO 38 (.build [(.int .i64 0), (.int .i64 0), (.int .i64 0)] [(1, 1, (.t 36)), (2, 1, (.t 37))]),
 ⟨none, none, .st 3 (.t 6) (.t 38)⟩])
 .ret)))))),
 [.cell 6 (some 3)]⟩
theorem k25 : cFn Try.prog Try.f25 = some c25 := by kernel_rfl
theorem matS_ok : OkT Try.prog 25 (pureSp mat_S) := by
  refine okT_fA (cs netS_ok (cs has_ok (cs prt_ok n0))) Try.func25 k25 ?_ (hown := fun _ _ => ⟨is_own _, rfl⟩)
  rintro ⟨n, g, k⟩ hk
  dsimp only [EncL.e, Enc.e, ntT, c25, rO] at *
  have hb := hk.b
  unfold matchR
  by_cases h0 : netF n = 0
  case neg =>
    rw [if_neg h0]
    try refine tS ?_
    repeat' first | exact eV | exact eP | ((first | apply cD | apply cB | apply gD | apply gB) <;> intro _ <;> try refine tS ?_)
  rw [if_pos h0]
  have hha := has_at n.table n.gates n.broken n.heard n.gave n.got g k
  rw [nt_eta] at hha
  replace hha := hha hk
  have hpr := prt_at n.table n.gates n.broken n.heard n.gave n.got g k
  rw [nt_eta] at hpr
  replace hpr := hpr hk
  unfold prtV at hpr
  cases ht : talkAt n g k with
  | none =>
    rw [ht] at hha; dsimp only [Option.isSome_none] at hha
    rw [if_neg (show ¬ (partA n g k).2 = true by unfold partA; rw [ht]; exact Bool.false_ne_true)]
    clear hpr
    try refine tS ?_
    repeat' first | exact eV | exact eP | ((first | apply cD | apply cB | apply gD | apply gB) <;> intro _ <;> try refine tS ?_)
  | some t =>
    replace hpr := hpr (by rw [ht]; rfl)
    rw [ht] at hha; dsimp only [Option.isSome_some] at hha
    cases hb2 : (partA n g k).2
    · rw [hb2, if_neg (by decide)] at hpr
      rw [if_neg (by decide)]
      try refine tS ?_
      repeat' first | exact eV | exact eP | ((first | apply cD | apply cB | apply gD | apply gB) <;> intro _ <;> try refine tS ?_)
    · rw [hb2, if_pos rfl] at hpr
      rw [if_pos rfl]
      have hpp : (partA n g k).1.1 = t.peer ∧ 0 ≤ (partA n g k).1.2 := by
        by_cases hst : t.stage = 3
        case neg => rw [partA_st ht hst] at hb2; cases hb2
        cases hp : gateAt n t.peer with
        | none => rw [partA_no ht hp] at hb2; cases hb2
        | some p => rw [partA_so ht hst hp] at hb2 ⊢; exact ⟨rfl, of_decide_eq_true hb2⟩
      obtain ⟨hp1, hp2⟩ := hpp
      rw [hp1]
      generalize (partA n g k).1.2 = v at *
      obtain ⟨q, hg, h4, h5⟩ := talkAt_get ht
      have h1 := gateAt_lt.1 ⟨q, hg⟩
      have h2 := gateAt_get hg
      have h3 := hk.t q (gateAt_mem hg)
      have h6 := (List.getElem?_eq_some_iff.1 h5).1
      have h7 : k ≤ (q.talks.length : Int) - 1 := by omega
      clear hp1 hb2
      try refine tS ?_
      repeat' first | exact eV | exact eP | ((first | apply cD | apply cB | apply gD | apply gB) <;> intro _ <;> try refine tS ?_)
end Go.Proofs.Ytbddhlhpakbcdaa
