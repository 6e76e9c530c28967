import Derived.Test.YtghpdclhhnbgjaaGreatF5
set_option linter.unusedSimpArgs false
set_option linter.unusedVariables false
set_option maxRecDepth 100000
set_option maxHeartbeats 4000000
namespace Go.Proofs.YtghpdclhhnbgjaaGreat
open Go Go.AH
attribute [local irreducible] awpT ropsT qopsT stepT condKT gdKT EndT joinK loopKT seqKT blkKT kont kontR
/-! Copies of boxes, boxes ticked -/
theorem sized11_nil : sizedT 11 ([] : List TV) = true := rfl
theorem sized2_nil : sizedT 2 ([] : List TV) = true := rfl
noncomputable def cloneU_S := specP (fun x : List RuR => [.s (rowsT ruT x)]) (fun x => x.length ≤ 1073741824) (fun x => (.os 0 0 x.length, [.cells 105 11 (rowsT ruT x)]))
theorem cloneU_at (l : List RuR) (h : l.length ≤ 1073741824) : cloneU_S [.s (rowsT ruT l)] = some ((.os 0 0 l.length, [.cells 105 11 (rowsT ruT l)])) := specP_at (enc := fun x : List RuR => [.s (rowsT ruT x)]) (by rintro a0 b0 h; simp only [List.cons.injEq, and_true] at h; have h0 := h; obtain rfl := rus_inj h0; rfl) l h
-- slices.Clone[[]impl.Rule,impl.Rule]
def c98 : AF := ⟨8,
 (.seq (.reg [rO 2 (.mv (.v (.slice none 0 0)))])
 (.seq (.seq (.reg [rO 3 (.mv (.t 0)),
 rO 4 (.eqN false (.t 3))])
 (.cond (.t 4) (.seq (.reg [rO 2 (.mv (.v (.slice none 0 0)))])
 .ret)
 .skip))
 (.seq (.reg [rO 5 (.mkS 105 0 [] []),
 rO 6 (.mv (.t 0)),
 rO 7 (.app 105 11 88 (.t 5) (.t 6)),
 rO 2 (.mv (.t 7))])
 .ret))),
 [.t 2]⟩
theorem k98 : cFn Tryz.prog Tryz.f98 = some c98 := by kernel_rfl
theorem cloneU_ok : OkT Tryz.prog 98 (pureSp cloneU_S) := by
  refine okT_fn (OkΓT.nil _) Tryz.func98 (by kernel_rfl) k98 (fun x _ => ⟨by first | rfl | simp only [go_sem], by first | rfl | simp only [go_sem]⟩) ?_
  rintro l hl
  try dsimp only at *
  by_cases h0 : l = []
  · subst h0
    simp only [rowsT_nil, List.length_nil]
    (dsimp only [c98, rO]; simp (maxSteps := 8000000) -implicitDefEqProofs (disch := omega) only [↓reduceIte, go_sem, sized11_nil])
    refine ⟨endT_nl (.inr rfl) (by (simp (maxSteps := 8000000) -implicitDefEqProofs (disch := omega) only [↓reduceIte, go_sem]) <;> rfl), ?_⟩
    exact endT_of [1] (.inr rfl) (by simp (maxSteps := 8000000) -implicitDefEqProofs (disch := omega) only [↓reduceIte, go_sem]; rfl) (by simp (maxSteps := 8000000) -implicitDefEqProofs (disch := omega) only [↓reduceIte, go_sem]) (by simp (maxSteps := 8000000) -implicitDefEqProofs (disch := omega) only [↓reduceIte, go_sem]) (by decide) (by simp)
  · have hp : 0 < l.length := Nat.pos_of_ne_zero fun e => h0 (List.eq_nil_of_length_eq_zero e)
    (dsimp only [c98, rO]; simp (maxSteps := 8000000) -implicitDefEqProofs (disch := omega) only [↓reduceIte, go_sem])
    exact endT_of [1] (.inr rfl) (by simp (maxSteps := 8000000) -implicitDefEqProofs (disch := omega) only [↓reduceIte, go_sem]; rfl) (by simp (maxSteps := 8000000) -implicitDefEqProofs (disch := omega) only [↓reduceIte, go_sem]) (by simp (maxSteps := 8000000) -implicitDefEqProofs (disch := omega) only [↓reduceIte, go_sem]) (by decide) (by simp)
noncomputable def cloneE_S := specP (fun x : List PrR => [.s (rowsT prT x)]) (fun x => x.length ≤ 1073741824) (fun x => (.os 0 0 x.length, [.cells 131 2 (rowsT prT x)]))
theorem cloneE_at (l : List PrR) (h : l.length ≤ 1073741824) : cloneE_S [.s (rowsT prT l)] = some ((.os 0 0 l.length, [.cells 131 2 (rowsT prT l)])) := specP_at (enc := fun x : List PrR => [.s (rowsT prT x)]) (by rintro a0 b0 h; simp only [List.cons.injEq, and_true] at h; have h0 := h; obtain rfl := prs_inj h0; rfl) l h
-- slices.Clone[[]impl.Peer,impl.Peer]
def c99 : AF := ⟨8,
 (.seq (.reg [rO 2 (.mv (.v (.slice none 0 0)))])
 (.seq (.seq (.reg [rO 3 (.mv (.t 0)),
 rO 4 (.eqN false (.t 3))])
 (.cond (.t 4) (.seq (.reg [rO 2 (.mv (.v (.slice none 0 0)))])
 .ret)
 .skip))
 (.seq (.reg [rO 5 (.mkS 131 0 [] []),
 rO 6 (.mv (.t 0)),
 rO 7 (.app 131 2 16 (.t 5) (.t 6)),
 rO 2 (.mv (.t 7))])
 .ret))),
 [.t 2]⟩
theorem k99 : cFn Tryz.prog Tryz.f99 = some c99 := by kernel_rfl
theorem cloneE_ok : OkT Tryz.prog 99 (pureSp cloneE_S) := by
  refine okT_fn (OkΓT.nil _) Tryz.func99 (by kernel_rfl) k99 (fun x _ => ⟨by first | rfl | simp only [go_sem], by first | rfl | simp only [go_sem]⟩) ?_
  rintro l hl
  try dsimp only at *
  by_cases h0 : l = []
  · subst h0
    simp only [rowsT_nil, List.length_nil]
    (dsimp only [c99, rO]; simp (maxSteps := 8000000) -implicitDefEqProofs (disch := omega) only [↓reduceIte, go_sem, sized2_nil])
    refine ⟨endT_nl (.inr rfl) (by (simp (maxSteps := 8000000) -implicitDefEqProofs (disch := omega) only [↓reduceIte, go_sem]) <;> rfl), ?_⟩
    exact endT_of [1] (.inr rfl) (by simp (maxSteps := 8000000) -implicitDefEqProofs (disch := omega) only [↓reduceIte, go_sem]; rfl) (by simp (maxSteps := 8000000) -implicitDefEqProofs (disch := omega) only [↓reduceIte, go_sem]) (by simp (maxSteps := 8000000) -implicitDefEqProofs (disch := omega) only [↓reduceIte, go_sem]) (by decide) (by simp)
  · have hp : 0 < l.length := Nat.pos_of_ne_zero fun e => h0 (List.eq_nil_of_length_eq_zero e)
    (dsimp only [c99, rO]; simp (maxSteps := 8000000) -implicitDefEqProofs (disch := omega) only [↓reduceIte, go_sem])
    exact endT_of [1] (.inr rfl) (by simp (maxSteps := 8000000) -implicitDefEqProofs (disch := omega) only [↓reduceIte, go_sem]; rfl) (by simp (maxSteps := 8000000) -implicitDefEqProofs (disch := omega) only [↓reduceIte, go_sem]) (by simp (maxSteps := 8000000) -implicitDefEqProofs (disch := omega) only [↓reduceIte, go_sem]) (by decide) (by simp)
theorem sized1_nil : sizedT 1 ([] : List TV) = true := rfl
noncomputable def cloneI_S := specP (fun x : List Int => [.s (isT x)]) (fun x => x.length ≤ 1073741824) (fun x => (.os 0 0 x.length, [.cells 2 1 (isT x)]))
theorem cloneI_at (l : List Int) (h : l.length ≤ 1073741824) : cloneI_S [.s (isT l)] = some ((.os 0 0 l.length, [.cells 2 1 (isT l)])) := specP_at (enc := fun x : List Int => [.s (isT x)]) (by rintro a0 b0 h; simp only [List.cons.injEq, and_true] at h; have h0 := h; obtain rfl := sis_inj h0; rfl) l h
-- slices.Clone[[]int64,int64]
def c102 : AF := ⟨8,
 (.seq (.reg [rO 2 (.mv (.v (.slice none 0 0)))])
 (.seq (.seq (.reg [rO 3 (.mv (.t 0)),
 rO 4 (.eqN false (.t 3))])
 (.cond (.t 4) (.seq (.reg [rO 2 (.mv (.v (.slice none 0 0)))])
 .ret)
 .skip))
 (.seq (.reg [rO 5 (.mkS 2 0 [] []),
 rO 6 (.mv (.t 0)),
 rO 7 (.app 2 1 8 (.t 5) (.t 6)),
 rO 2 (.mv (.t 7))])
 .ret))),
 [.t 2]⟩
theorem k102 : cFn Tryz.prog Tryz.f102 = some c102 := by kernel_rfl
theorem cloneI_ok : OkT Tryz.prog 102 (pureSp cloneI_S) := by
  refine okT_fn (OkΓT.nil _) Tryz.func102 (by kernel_rfl) k102 (fun x _ => ⟨by first | rfl | simp only [go_sem], by first | rfl | simp only [go_sem]⟩) ?_
  rintro l hl
  try dsimp only at *
  have hlen := is_len l
  by_cases h0 : l = []
  · subst h0
    simp only [isT, List.map_nil, List.length_nil]
    (dsimp only [c102, rO]; simp (maxSteps := 8000000) -implicitDefEqProofs (disch := omega) only [↓reduceIte, go_sem, sized1_nil])
    refine ⟨endT_nl (.inr rfl) (by (simp (maxSteps := 8000000) -implicitDefEqProofs (disch := omega) only [↓reduceIte, go_sem]) <;> rfl), ?_⟩
    exact endT_of [1] (.inr rfl) (by simp (maxSteps := 8000000) -implicitDefEqProofs (disch := omega) only [↓reduceIte, go_sem]; rfl) (by simp (maxSteps := 8000000) -implicitDefEqProofs (disch := omega) only [↓reduceIte, go_sem]) (by simp (maxSteps := 8000000) -implicitDefEqProofs (disch := omega) only [↓reduceIte, go_sem]) (by decide) (by simp)
  · have hp : 0 < l.length := Nat.pos_of_ne_zero fun e => h0 (List.eq_nil_of_length_eq_zero e)
    (dsimp only [c102, rO]; simp (maxSteps := 8000000) -implicitDefEqProofs (disch := omega) only [↓reduceIte, go_sem, hlen])
    exact endT_of [1] (.inr rfl) (by simp (maxSteps := 8000000) -implicitDefEqProofs (disch := omega) only [↓reduceIte, go_sem, hlen]; rfl) (by simp (maxSteps := 8000000) -implicitDefEqProofs (disch := omega) only [↓reduceIte, go_sem, hlen]) (by simp (maxSteps := 8000000) -implicitDefEqProofs (disch := omega) only [↓reduceIte, go_sem, hlen]) (by decide) (by simp)
noncomputable def bad17_S := specP (fun x : Int => [.p (.int .i64 x)]) (fun x => True) (fun x => (.agg [.p (.int .i64 x), .p (.int .i64 0), .p (.int .i64 0), .nl, .p (.int .i64 0), .nl, .nl, .nl, .p (.int .i64 0), .nl], []))
theorem bad17_at (c : Int) : bad17_S [.p (.int .i64 c)] = some ((.agg [.p (.int .i64 c), .p (.int .i64 0), .p (.int .i64 0), .nl, .p (.int .i64 0), .nl, .nl, .nl, .p (.int .i64 0), .nl], [])) := specP_at (enc := fun x : Int => [.p (.int .i64 x)]) (by rintro a0 b0 h; simp only [List.cons.injEq, and_true] at h; have h0 := h; obtain rfl := p64_inj h0; rfl) c trivial
-- spec.l17Bad
def c34 : AF := ⟨5,
 (.seq (.reg [rO 2 (.alloc 36 [(.int .i64 0), (.int .i64 0), (.int .i64 0), (.slice none 0 0), (.int .i64 0), (.slice none 0 0), (.slice none 0 0), (.slice none 0 0), (.int .i64 0), (.slice none 0 0)])])
 (.seq (.reg [rO 3 (.mv (.t 0)),
 rO 4 (.build [(.int .i64 0), (.int .i64 0), (.int .i64 0), (.slice none 0 0), (.int .i64 0), (.slice none 0 0), (.slice none 0 0), (.slice none 0 0), (.int .i64 0), (.slice none 0 0)] [(0, 1, (.t 3))]),
 ⟨none, none, .st 10 (.t 2) (.t 4)⟩])
 .ret)),
 [.cell 2 (some 10)]⟩
theorem k34 : cFn Tryz.prog Tryz.f34 = some c34 := by kernel_rfl
theorem bad17_ok : OkT Tryz.prog 34 (pureSp bad17_S) := by
  refine okT_fn (OkΓT.nil _) Tryz.func34 (by kernel_rfl) k34 (fun x _ => ⟨by first | rfl | simp only [go_sem], by first | rfl | simp only [go_sem]⟩) ?_
  rintro c _
  try dsimp only at *
  (dsimp only [c34, rO]; simp (maxSteps := 8000000) -implicitDefEqProofs (disch := omega) only [↓reduceIte, go_sem])
  exact endT_v (.inr rfl) (by (simp (maxSteps := 8000000) -implicitDefEqProofs (disch := omega) only [↓reduceIte, go_sem]) <;> rfl) (fun _ => rfl)

-- impl.all
def c101 : AF := ⟨3,
 (.seq (.reg [rO 1 (.box 54 (.t 0)),
 rO 2 (.mv (.v (.bool false)))])
 (.seq (.reg [rO 2 (.mv (.v (.bool true)))])
 .ret)),
 [.t 2]⟩
theorem k101 : cFn Tryz.prog Tryz.f101 = some c101 := by kernel_rfl
theorem all_ok : OkT Tryz.prog 101 (pureSp (asks_S (fun _ : Unit => []) (fun _ _ => true))) := by
  refine okT_fn (OkΓT.nil _) Tryz.func101 (by kernel_rfl) k101 (fun x _ => ⟨rfl, rfl⟩) ?_
  rintro ⟨x, s⟩ _
  dsimp only [saT] at *
  (dsimp only [c101, rO]; simp (maxSteps := 8000000) -implicitDefEqProofs (disch := omega) only [↓reduceIte, go_sem])
  repeat' first
    | ((first | refine gdKT_deq (fun hg hG => ?_) (fun hg hG => ?_) | refine condKT_deq (fun hg hG => ?_) (fun hg hG => ?_)) <;> (try simp (maxSteps := 8000000) -implicitDefEqProofs (disch := omega) only [↓reduceIte, go_sem, hG]) <;> clear hG)
    | ((first | refine gdKT_split (fun hg => ?_) (fun hg => ?_) | refine condKT_split (fun hg => ?_) (fun hg => ?_)) <;> (try simp (maxSteps := 8000000) -implicitDefEqProofs (disch := omega) only [↓reduceIte, go_sem, hg]))
    | (refine endT_p (.inr rfl) (by simp (maxSteps := 8000000) -implicitDefEqProofs (disch := omega) only [↓reduceIte, go_sem]; rfl) ?_; (first | exact vb_true (by omega) | exact vb_false (by omega) | exact vb_dec (by omega) | exact vi_eq (by omega) | rfl | (refine vi_eq ?_; simp_all; first | done | (intros; omega))))
    | exact endT_v (.inr rfl) (by simp (maxSteps := 8000000) -implicitDefEqProofs (disch := omega) only [↓reduceIte, go_sem]; try rfl) (fun _ => rfl)
theorem keepE_ok : OkT Tryz.prog 100 (pureSp (keep_S (fun _ : Unit => [.fn 101 []]) (fun _ _ => true))) := cloneSas_ok (cap := fun _ : Unit => []) (fun _ _ _ => rfl) (fun _ _ _ => rfl) (fun _ _ => rfl) (fun _ _ => rfl) (by decide) all_ok
theorem keepE_at (l : List SaR) (h : goodL l) : keep_S (fun _ : Unit => [.fn 101 []]) (fun _ _ => true) [.s (rowsT saT l), .fn 101 []] = some (ansC (sasK l)) := by
  have := keep_at (cap := fun _ : Unit => [.fn 101 []]) (p := fun _ _ => true) (fun _ _ _ => rfl) l () h
  rw [filter_all] at this; exact this
theorem sized_ru (l : List RuR) : sizedT 11 (rowsT ruT l) = true := sized_iff.2 fun e he => by obtain ⟨x, _, rfl⟩ := List.mem_map.1 he; rfl
theorem sized_pr (l : List PrR) : sizedT 2 (rowsT prT l) = true := sized_iff.2 fun e he => by obtain ⟨x, _, rfl⟩ := List.mem_map.1 he; rfl
theorem sized_is (l : List Int) : sizedT 1 (isT l) = true := sized_iff.2 fun e he => by obtain ⟨x, _, rfl⟩ := List.mem_map.1 he; rfl
def cpV (x : BxR) : List Cell := [.v (.int .i64 x.ad), rusC x.rules, prsC x.peers, sasK x.sas, .v (.int .i64 x.now), icsC x.drops]
abbrev goodB (x : BxR) : Prop := x.rules.length ≤ 1048576 ∧ x.peers.length ≤ 1048576 ∧ goodL x.sas ∧ x.drops.length ≤ 1048576
theorem sasK_nb (l : List SaR) : nbC (sasK l) = l.length + 1 := by simp only [sasK, nbC, saC_nbs]; omega
theorem rusC_nb (l : List RuR) : nbC (rusC l) = 1 := by simp only [rusC, nbC, (ruC_rows 0 l).2.2]
theorem prsC_nb (l : List PrR) : nbC (prsC l) = 1 := by simp only [prsC, nbC, (prC_rows 0 l).2.2]
theorem icsC_nb (l : List Int) : nbC (icsC l) = 1 := by simp only [icsC, nbC, (icC_rows 0 l).2.2]
theorem sas_S (m : Nat) (l : List SaR) : ∃ S, bkRs m (l.map saC) = S ∧ S.length = l.length := ⟨_, rfl, by rw [bkRs_len, saC_nbs]⟩
theorem sas_E (m : Nat) (l : List SaR) : ∃ E, tvRs m (l.map saC) = E ∧ E.length = l.length := ⟨_, rfl, by rw [tvRs_len, List.length_map]⟩
theorem at_cell {h C : List TB} {p : Nat} {c : Cell} (e : h.drop p = bkC p c ++ C) : ∀ i, i < nbC c → h[p + i]? = (bkC p c)[i]? := at_drop e (bkC_len p c)
theorem keepK (l : List SaR) : (ansC (sasK l) : TV × THeap) = (.os 0 0 l.length, .cells 54 (zOf l.length 11) (tvRs 1 (l.map saC)) :: bkRs 1 (l.map saC)) := by rw [ansC, sasK_tv, sasK_bk]
theorem ren_m_tvRs (n : Nat) (rs : List (List Cell)) : renTs (fun b => b + n) (tvRs 1 rs) = tvRs (n + 1) rs := ren_tvRs rs 1 (n + 1) fun i _ => by omega
theorem ren_m_bkRs (n : Nat) (rs : List (List Cell)) : (bkRs 1 rs).map (renB fun b => b + n) = bkRs (n + 1) rs := ren_bkRs rs 1 (n + 1) fun i _ => by omega
noncomputable def cp_S := specP (fun x : BxR => [bxT x]) (fun x => goodB x) (fun x => ansR (cpV x))
theorem cp_at (x : BxR) (h : goodB x) : cp_S [bxT x] = some (ansR (cpV x)) := specP_at (enc := fun x : BxR => [bxT x]) (by rintro a0 b0 h; simp only [List.cons.injEq, and_true] at h; have h0 := h; obtain rfl := bxT_inj _ _ h0; rfl) x h
-- spec.l17Copy
def c36 : AF := ⟨23,
 (.seq (.reg [rO 1 (.box 34 (.t 0)),
 rO 2 (.alloc 34 [(.int .i64 0), (.slice none 0 0), (.slice none 0 0), (.slice none 0 0), (.int .i64 0), (.slice none 0 0)])])
 (.seq (.drw [rO 3 (.fa (.t 1) 0),
 rO 4 (.ld (.t 3)),
 rO 5 (.mkE),
 rO 6 (.fa (.t 1) 1),
 rO 7 (.ld (.t 6)),
 rO 8 (.app 105 11 88 (.t 5) (.t 7)),
 rO 9 (.mkE),
 rO 10 (.fa (.t 1) 2),
 rO 11 (.ld (.t 10)),
 rO 12 (.app 131 2 16 (.t 9) (.t 11)),
 rO 13 (.fa (.t 1) 3),
 rO 14 (.ld (.t 13)),
 rO 15 (.call 86 [(.t 14)]),
 rO 16 (.fa (.t 1) 4),
 rO 17 (.ld (.t 16)),
 rO 18 (.mkE),
 rO 19 (.fa (.t 1) 5),
 rO 20 (.ld (.t 19)),
 rO 21 (.app 2 1 8 (.t 18) (.t 20))] [rO 22 (.build [(.int .i64 0), (.slice none 0 0), (.slice none 0 0), (.slice none 0 0), (.int .i64 0), (.slice none 0 0)] [(0, 1, (.t 4)), (1, 1, (.t 8)), (2, 1, (.t 12)), (3, 1, (.t 15)), (4, 1, (.t 17)), (5, 1, (.t 21))]),
 ⟨none, none, .st 6 (.t 2) (.t 22)⟩])
 .ret)),
 [.cell 2 (some 6)]⟩
theorem k36 : cFn Tryz.prog Tryz.f36 = some c36 := by kernel_rfl
theorem cpS_ok : OkT Tryz.prog 36 (pureSp cp_S) := by
  refine okT_fn (OkΓT.cons l16All_ok (OkΓT.nil _)) Tryz.func36 (by kernel_rfl) k36 (fun x _ => ansR_own _) ?_
  rintro ⟨ad, ru, pe, sa, now, dr⟩ ⟨h1, h2, h3, h4⟩
  try dsimp only [bxT, cpV] at *
  have hk := keepAll_at sa h3
  rw [keepK] at hk
  have hlen := is_len dr
  have s1 := sized_ru ru; have s2 := sized_pr pe; have s3 := sized_is dr
  obtain ⟨S, eS, hS⟩ := sas_S 5 sa
  (dsimp only [c36, rO]; simp (maxSteps := 8000000) -implicitDefEqProofs (disch := omega) only [↓reduceIte, go_sem, hk, hlen, s1, s2, s3, ren_m_tvRs, ren_m_bkRs, eS])
  refine endT_segs [0, 2, 3, 4, 0, S.length + 1 + 1 + 1 + 1 + 1] (.inr rfl) (by (simp (maxSteps := 8000000) -implicitDefEqProofs (disch := omega) only [↓reduceIte, go_sem, tvP, tvC_v, tvC_nl, rusC_tv, prsC_tv, sasK_tv, icsC_tv]) <;> rfl) ?_ ⟨at_none, at_cell (by simp only [List.drop_succ_cons, List.drop_zero, List.drop_left, rusC_bk, prsC_bk, sasK_bk, icsC_bk, Nat.reduceAdd, eS]; rfl), at_cell (by simp only [List.drop_succ_cons, List.drop_zero, List.drop_left, rusC_bk, prsC_bk, sasK_bk, icsC_bk, Nat.reduceAdd, eS]; rfl), at_cell (by simp only [List.drop_succ_cons, List.drop_zero, List.drop_left, rusC_bk, prsC_bk, sasK_bk, icsC_bk, Nat.reduceAdd, eS]; rfl), at_none, at_cell (by simp only [List.drop_succ_cons, List.drop_zero, List.drop_left, rusC_bk, prsC_bk, sasK_bk, icsC_bk, Nat.reduceAdd, eS]; rfl), trivial⟩
  simp only [segsC, segOk, segApart, nbC, rusC_nb, prsC_nb, sasK_nb, icsC_nb, List.length_cons, List.length_append, List.length_nil]
  repeat' first | exact True.intro | omega | apply And.intro
-- impl.cloneBox
def c44 : AF := ⟨20,
 (.seq (.reg [rO 1 (.box 34 (.t 0)),
 rO 2 (.alloc 34 [(.int .i64 0), (.slice none 0 0), (.slice none 0 0), (.slice none 0 0), (.int .i64 0), (.slice none 0 0)])])
 (.seq (.drw [rO 3 (.fa (.t 1) 0),
 rO 4 (.ld (.t 3)),
 rO 5 (.fa (.t 1) 1),
 rO 6 (.ld (.t 5)),
 rO 7 (.call 98 [(.t 6)]),
 rO 8 (.fa (.t 1) 2),
 rO 9 (.ld (.t 8)),
 rO 10 (.call 99 [(.t 9)]),
 rO 11 (.fa (.t 1) 3),
 rO 12 (.ld (.t 11)),
 ⟨(some 13), none, .call 100 [(.t 12), (.v (.func (.func 101) ⟨[]⟩ ⟨[]⟩))]⟩,
 rO 14 (.fa (.t 1) 4),
 rO 15 (.ld (.t 14)),
 rO 16 (.fa (.t 1) 5),
 rO 17 (.ld (.t 16)),
 rO 18 (.call 102 [(.t 17)])] [rO 19 (.build [(.int .i64 0), (.slice none 0 0), (.slice none 0 0), (.slice none 0 0), (.int .i64 0), (.slice none 0 0)] [(0, 1, (.t 4)), (1, 1, (.t 7)), (2, 1, (.t 10)), (3, 1, (.t 13)), (4, 1, (.t 15)), (5, 1, (.t 18))]),
 ⟨none, none, .st 6 (.t 2) (.t 19)⟩])
 .ret)),
 [.cell 2 (some 6)]⟩
theorem k44 : cFn Tryz.prog Tryz.f44 = some c44 := by kernel_rfl
theorem cpI_ok : OkT Tryz.prog 44 (pureSp cp_S) := by
  refine okT_fn (OkΓT.cons cloneU_ok (OkΓT.cons cloneE_ok (OkΓT.cons keepE_ok (OkΓT.cons cloneI_ok (OkΓT.nil _))))) Tryz.func44 (by kernel_rfl) k44 (fun x _ => ansR_own _) ?_
  rintro ⟨ad, ru, pe, sa, now, dr⟩ ⟨h1, h2, h3, h4⟩
  try dsimp only [bxT, cpV] at *
  have hk := keepE_at sa h3
  rw [keepK] at hk
  have hlen := is_len dr
  have q1 := cloneU_at ru (by omega); have q2 := cloneE_at pe (by omega); have q3 := cloneI_at dr (by omega)
  obtain ⟨S, eS, hS⟩ := sas_S 5 sa
  (dsimp only [c44, rO]; simp (maxSteps := 8000000) -implicitDefEqProofs (disch := omega) only [↓reduceIte, go_sem, hk, hlen, q1, q2, q3, ren_m_tvRs, ren_m_bkRs, eS])
  refine endT_segs [0, 2, 3, 4, 0, S.length + 1 + 1 + 1 + 1 + 1] (.inr rfl) (by (simp (maxSteps := 8000000) -implicitDefEqProofs (disch := omega) only [↓reduceIte, go_sem, tvP, tvC_v, tvC_nl, rusC_tv, prsC_tv, sasK_tv, icsC_tv]) <;> rfl) ?_ ⟨at_none, at_cell (by simp only [List.drop_succ_cons, List.drop_zero, List.drop_left, rusC_bk, prsC_bk, sasK_bk, icsC_bk, Nat.reduceAdd, eS]; rfl), at_cell (by simp only [List.drop_succ_cons, List.drop_zero, List.drop_left, rusC_bk, prsC_bk, sasK_bk, icsC_bk, Nat.reduceAdd, eS]; rfl), at_cell (by simp only [List.drop_succ_cons, List.drop_zero, List.drop_left, rusC_bk, prsC_bk, sasK_bk, icsC_bk, Nat.reduceAdd, eS]; rfl), at_none, at_cell (by simp only [List.drop_succ_cons, List.drop_zero, List.drop_left, rusC_bk, prsC_bk, sasK_bk, icsC_bk, Nat.reduceAdd, eS]; rfl), trivial⟩
  simp only [segsC, segOk, segApart, nbC, rusC_nb, prsC_nb, sasK_nb, icsC_nb, List.length_cons, List.length_append, List.length_nil]
  repeat' first | exact True.intro | omega | apply And.intro
end Go.Proofs.YtghpdclhhnbgjaaGreat
