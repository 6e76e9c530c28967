import Derived.Test.YtkijbknnbmbnbaaF2
set_option linter.unusedSimpArgs false
set_option linter.unusedVariables false
set_option maxRecDepth 100000
set_option maxHeartbeats 4000000
namespace Go.Proofs.Ytkijbknnbmbnbaa
open Go Go.AH
attribute [local irreducible] awpT ropsT qopsT stepT condKT gdKT EndT joinK loopKT seqKT blkKT kont kontR
/-! New boxes -/

theorem endT_nlr {res : List AR} {r tv : TV} {hL : THeap} {e : Exit} {s : TSt} (E : THeap) (ks : List Nat) (he : e = .normal ∨ e = .ret) (hr : rresT s res = some tv) (hn : NlTo tv (renT (rho ks (s.h ++ E).length) r)) (hE : ∀ x ∈ E, ∃ ty z, x = TB.cells ty z []) (hb : blksOk (s.h ++ E) (rho ks (s.h ++ E).length) ks hL) (hnd : ks.Nodup) (hlt : ∀ x ∈ ks, x < (s.h ++ E).length) : EndT res r hL e s := endT_nls E ks he hr rfl hn hE hb hnd hlt
theorem sized11_nil : sizedT 11 ([] : List TV) = true := rfl
theorem sized2_nil : sizedT 2 ([] : List TV) = true := rfl
noncomputable def cloneU_S := specP (fun x : List RuR => [.s (rowsT ruT x)]) (fun x => x.length ≤ 1073741824) (fun x => (.os 0 0 x.length, [.cells 186 11 (rowsT ruT x)]))
theorem cloneU_at (l : List RuR) (h : l.length ≤ 1073741824) : cloneU_S [.s (rowsT ruT l)] = some ((.os 0 0 l.length, [.cells 186 11 (rowsT ruT l)])) := specP_at (enc := fun x : List RuR => [.s (rowsT ruT x)]) (by rintro a0 b0 h; simp only [List.cons.injEq, and_true] at h; have h0 := h; obtain rfl := rus_inj h0; rfl) l h
-- slices.Clone[[]impl.Rule,impl.Rule]
def c157 : AF := ⟨8,
  (.seq (.reg [⟨(some 2), none, .mv (.v (.slice none 0 0))⟩])
  (.seq (.seq (.reg [⟨(some 3), none, .mv (.t 0)⟩,
   ⟨(some 4), none, .eqN false (.t 3)⟩])
  (.cond (.t 4) (.seq (.reg [⟨(some 2), none, .mv (.v (.slice none 0 0))⟩])
  .ret)
  .skip))
  (.seq (.reg [⟨(some 5), none, .mkS 186 0 [] []⟩,
   ⟨(some 6), none, .mv (.t 0)⟩,
   ⟨(some 7), none, .app 186 11 88 (.t 5) (.t 6)⟩,
   ⟨(some 2), none, .mv (.t 7)⟩])
  .ret))),
  [.t 2]⟩
theorem k157 : cFn Try.prog Try.f157 = some c157 := by kernel_rfl
theorem cloneU_ok : OkT Try.prog 157 (pureSp cloneU_S) := by
  refine okT_fn (OkΓT.nil _) Try.func157 (by kernel_rfl) k157 (fun x _ => ⟨by first | rfl | simp only [go_sem], by first | rfl | simp only [go_sem]⟩) ?_
  rintro l hl
  try dsimp only at *
  by_cases h0 : l = []
  · subst h0
    simp only [rowsT_nil, List.length_nil]
    (dsimp only [c157]; simp (maxSteps := 8000000) (implicitDefEqProofs := false) (disch := omega) only [↓reduceIte, go_sem, if_pos, if_neg, sized11_nil])
    refine ⟨endT_nl (.inr rfl) (by (simp (maxSteps := 8000000) (implicitDefEqProofs := false) (disch := omega) only [↓reduceIte, go_sem, if_pos, if_neg]) <;> rfl), ?_⟩
    exact endT_of [1] (.inr rfl) (by simp (maxSteps := 8000000) (implicitDefEqProofs := false) (disch := omega) only [↓reduceIte, go_sem, if_pos, if_neg]; rfl) (by simp (maxSteps := 8000000) (implicitDefEqProofs := false) (disch := omega) only [↓reduceIte, go_sem, if_pos, if_neg]) (by simp (maxSteps := 8000000) (implicitDefEqProofs := false) (disch := omega) only [↓reduceIte, go_sem, if_pos, if_neg]) (by decide) (by simp)
  · have hp : 0 < l.length := Nat.pos_of_ne_zero fun e => h0 (List.eq_nil_of_length_eq_zero e)
    (dsimp only [c157]; simp (maxSteps := 8000000) (implicitDefEqProofs := false) (disch := omega) only [↓reduceIte, go_sem, if_pos, if_neg])
    exact endT_of [1] (.inr rfl) (by simp (maxSteps := 8000000) (implicitDefEqProofs := false) (disch := omega) only [↓reduceIte, go_sem, if_pos, if_neg]; rfl) (by simp (maxSteps := 8000000) (implicitDefEqProofs := false) (disch := omega) only [↓reduceIte, go_sem, if_pos, if_neg]) (by simp (maxSteps := 8000000) (implicitDefEqProofs := false) (disch := omega) only [↓reduceIte, go_sem, if_pos, if_neg]) (by decide) (by simp)
noncomputable def cloneE_S := specP (fun x : List PrR => [.s (rowsT prT x)]) (fun x => x.length ≤ 1073741824) (fun x => (.os 0 0 x.length, [.cells 194 2 (rowsT prT x)]))
theorem cloneE_at (l : List PrR) (h : l.length ≤ 1073741824) : cloneE_S [.s (rowsT prT l)] = some ((.os 0 0 l.length, [.cells 194 2 (rowsT prT l)])) := specP_at (enc := fun x : List PrR => [.s (rowsT prT x)]) (by rintro a0 b0 h; simp only [List.cons.injEq, and_true] at h; have h0 := h; obtain rfl := prs_inj h0; rfl) l h
-- slices.Clone[[]impl.Peer,impl.Peer]
def c158 : AF := ⟨8,
  (.seq (.reg [⟨(some 2), none, .mv (.v (.slice none 0 0))⟩])
  (.seq (.seq (.reg [⟨(some 3), none, .mv (.t 0)⟩,
   ⟨(some 4), none, .eqN false (.t 3)⟩])
  (.cond (.t 4) (.seq (.reg [⟨(some 2), none, .mv (.v (.slice none 0 0))⟩])
  .ret)
  .skip))
  (.seq (.reg [⟨(some 5), none, .mkS 194 0 [] []⟩,
   ⟨(some 6), none, .mv (.t 0)⟩,
   ⟨(some 7), none, .app 194 2 16 (.t 5) (.t 6)⟩,
   ⟨(some 2), none, .mv (.t 7)⟩])
  .ret))),
  [.t 2]⟩
theorem k158 : cFn Try.prog Try.f158 = some c158 := by kernel_rfl
theorem cloneE_ok : OkT Try.prog 158 (pureSp cloneE_S) := by
  refine okT_fn (OkΓT.nil _) Try.func158 (by kernel_rfl) k158 (fun x _ => ⟨by first | rfl | simp only [go_sem], by first | rfl | simp only [go_sem]⟩) ?_
  rintro l hl
  try dsimp only at *
  by_cases h0 : l = []
  · subst h0
    simp only [rowsT_nil, List.length_nil]
    (dsimp only [c158]; simp (maxSteps := 8000000) (implicitDefEqProofs := false) (disch := omega) only [↓reduceIte, go_sem, if_pos, if_neg, sized2_nil])
    refine ⟨endT_nl (.inr rfl) (by (simp (maxSteps := 8000000) (implicitDefEqProofs := false) (disch := omega) only [↓reduceIte, go_sem, if_pos, if_neg]) <;> rfl), ?_⟩
    exact endT_of [1] (.inr rfl) (by simp (maxSteps := 8000000) (implicitDefEqProofs := false) (disch := omega) only [↓reduceIte, go_sem, if_pos, if_neg]; rfl) (by simp (maxSteps := 8000000) (implicitDefEqProofs := false) (disch := omega) only [↓reduceIte, go_sem, if_pos, if_neg]) (by simp (maxSteps := 8000000) (implicitDefEqProofs := false) (disch := omega) only [↓reduceIte, go_sem, if_pos, if_neg]) (by decide) (by simp)
  · have hp : 0 < l.length := Nat.pos_of_ne_zero fun e => h0 (List.eq_nil_of_length_eq_zero e)
    (dsimp only [c158]; simp (maxSteps := 8000000) (implicitDefEqProofs := false) (disch := omega) only [↓reduceIte, go_sem, if_pos, if_neg])
    exact endT_of [1] (.inr rfl) (by simp (maxSteps := 8000000) (implicitDefEqProofs := false) (disch := omega) only [↓reduceIte, go_sem, if_pos, if_neg]; rfl) (by simp (maxSteps := 8000000) (implicitDefEqProofs := false) (disch := omega) only [↓reduceIte, go_sem, if_pos, if_neg]) (by simp (maxSteps := 8000000) (implicitDefEqProofs := false) (disch := omega) only [↓reduceIte, go_sem, if_pos, if_neg]) (by decide) (by simp)

theorem is_rep (n : Nat) : isT (List.replicate n 0) = List.replicate n (.p (.int .i64 0)) := by simp [isT, iT]
def z11 : List Int := List.replicate 11 0
theorem z11_len : z11.length = 11 := List.length_replicate
theorem z11_tick : tickL z11 = true := by decide
theorem boxF_new (a : Int) (ru : List RuR) (pe : List PrR) : boxF ⟨a, ru, pe, [], 0, z11⟩ = baseF a 0 ru pe := by
  unfold boxF baseF
  have h1 : sasF [] = 0 := rfl
  have h2 : ((z11.length : Int) = 11 ∧ tickL z11 = true) := ⟨by rw [z11_len]; rfl, z11_tick⟩
  have h3 : (if peeF pe = 0 then 0 else peeF pe) = peeF pe := by split <;> simp_all
  simp only [h1, if_pos h2, ↓reduceIte, h3]

def nbV (a : Int) (ru : List RuR) (pe : List PrR) : TV × THeap := if baseF a 0 ru pe = 0 then
  (.agg [.p (.int .i64 0), .p (.int .i64 0), .p (.int .i64 0), .nl, .p (.int .i64 a), .os 0 0 ru.length, .os 1 0 pe.length, .nl, .p (.int .i64 0), .os 2 0 11], [.cells 186 11 (rowsT ruT ru), .cells 194 2 (rowsT prT pe), .cells 2 1 (isT z11)])
  else (.agg [.p (.int .i64 (baseF a 0 ru pe)), .p (.int .i64 0), .p (.int .i64 0), .nl, .p (.int .i64 0), .nl, .nl, .nl, .p (.int .i64 0), .nl], [])
theorem nbV_own (a : Int) (ru : List RuR) (pe : List PrR) : ownT (nbV a ru pe).1 = true ∧ (nbV a ru pe).2.all ownB = true := by
  unfold nbV; split
  · exact ⟨rfl, by simp only [go_sem, List.all_cons, List.all_nil]⟩
  · exact ⟨rfl, rfl⟩
noncomputable def nb_S := specP (fun x : Int × List RuR × List PrR => [.p (.int .i64 x.1), .s (rowsT ruT x.2.1), .s (rowsT prT x.2.2)]) (fun x => (x.2.1.length ≤ 1048576) ∧ (x.2.2.length ≤ 1048576)) (fun x => nbV x.1 x.2.1 x.2.2)
theorem nb_at (a : Int) (ru : List RuR) (pe : List PrR) (h : (ru.length ≤ 1048576) ∧ (pe.length ≤ 1048576)) : nb_S [.p (.int .i64 a), .s (rowsT ruT ru), .s (rowsT prT pe)] = some (nbV a ru pe) := specP_at (enc := fun x : Int × List RuR × List PrR => [.p (.int .i64 x.1), .s (rowsT ruT x.2.1), .s (rowsT prT x.2.2)]) (by rintro ⟨a0, a1, a2⟩ ⟨b0, b1, b2⟩ h; simp only [List.cons.injEq, and_true] at h; obtain ⟨h0, h1, h2⟩ := h; obtain rfl := p64_inj h0; obtain rfl := rus_inj h1; obtain rfl := prs_inj h2; rfl) (a, ru, pe) h
noncomputable def bad17_S := specP (fun x : Int => [.p (.int .i64 x)]) (fun x => True) (fun x => (.agg [.p (.int .i64 x), .p (.int .i64 0), .p (.int .i64 0), .nl, .p (.int .i64 0), .nl, .nl, .nl, .p (.int .i64 0), .nl], []))
theorem bad17_at (c : Int) : bad17_S [.p (.int .i64 c)] = some ((.agg [.p (.int .i64 c), .p (.int .i64 0), .p (.int .i64 0), .nl, .p (.int .i64 0), .nl, .nl, .nl, .p (.int .i64 0), .nl], [])) := specP_at (enc := fun x : Int => [.p (.int .i64 x)]) (by rintro a0 b0 h; simp only [List.cons.injEq, and_true] at h; have h0 := h; obtain rfl := p64_inj h0; rfl) c trivial
-- spec.l17Bad
def c154 : AF := ⟨5,
  (.seq (.reg [⟨(some 2), none, .alloc 103 [(.int .i64 0), (.int .i64 0), (.int .i64 0), (.slice none 0 0), (.int .i64 0), (.slice none 0 0), (.slice none 0 0), (.slice none 0 0), (.int .i64 0), (.slice none 0 0)]⟩])
  (.seq (.reg [⟨(some 3), none, .mv (.t 0)⟩,
   ⟨(some 4), none, .build [(.int .i64 0), (.int .i64 0), (.int .i64 0), (.slice none 0 0), (.int .i64 0), (.slice none 0 0), (.slice none 0 0), (.slice none 0 0), (.int .i64 0), (.slice none 0 0)] [(0, 1, (.t 3))]⟩,
   ⟨none, none, .st 10 (.t 2) (.t 4)⟩])
  .ret)),
  [.cell 2 (some 10)]⟩
theorem k154 : cFn Try.prog Try.f154 = some c154 := by kernel_rfl
theorem bad17_ok : OkT Try.prog 154 (pureSp bad17_S) := by
  refine okT_fn (OkΓT.nil _) Try.func154 (by kernel_rfl) k154 (fun x _ => ⟨by first | rfl | simp only [go_sem], by first | rfl | simp only [go_sem]⟩) ?_
  rintro c _
  try dsimp only at *
  (dsimp only [c154]; simp (maxSteps := 8000000) (implicitDefEqProofs := false) (disch := omega) only [↓reduceIte, go_sem, if_pos, if_neg])
  exact endT_v (.inr rfl) (by (simp (maxSteps := 8000000) (implicitDefEqProofs := false) (disch := omega) only [↓reduceIte, go_sem, if_pos, if_neg]) <;> rfl) (fun _ => rfl)
-- impl.NewBox
def c64 : AF := ⟨24,
  (.seq (.reg [⟨(some 6), none, .alloc 103 [(.int .i64 0), (.int .i64 0), (.int .i64 0), (.slice none 0 0), (.int .i64 0), (.slice none 0 0), (.slice none 0 0), (.slice none 0 0), (.int .i64 0), (.slice none 0 0)]⟩])
  (.seq (.drw [⟨(some 9), none, .mv (.t 0)⟩,
   ⟨(some 10), none, .mv (.t 1)⟩,
   ⟨(some 11), none, .call 157 [(.t 10)]⟩,
   ⟨(some 12), none, .mv (.t 2)⟩,
   ⟨(some 13), none, .call 158 [(.t 12)]⟩,
   ⟨(some 14), none, .mkSl 2 1 8 [(.int .i64 0)] (.v (.int .i64 11)) (.v (.int .i64 11))⟩,
   ⟨(some 15), none, .build [(.int .i64 0), (.slice none 0 0), (.slice none 0 0), (.slice none 0 0), (.int .i64 0), (.slice none 0 0)] [(0, 1, (.t 9)), (1, 1, (.t 11)), (2, 1, (.t 13)), (5, 1, (.t 14))]⟩,
   ⟨(some 7), none, .alloc 91 [(.int .i64 0), (.slice none 0 0), (.slice none 0 0), (.slice none 0 0), (.int .i64 0), (.slice none 0 0)]⟩] [⟨none, none, .st 6 (.t 7) (.t 15)⟩])
  (.seq (.seq (.reg [⟨(some 16), none, .ldn 6 (.t 7)⟩,
   ⟨(some 17), none, .call 54 [(.t 16)]⟩,
   ⟨(some 8), none, .mv (.t 17)⟩])
  (.seq (.reg [⟨(some 18), none, .mv (.t 8)⟩,
   ⟨(some 19), none, .bin .neq (.t 18) (.v (.int .i64 0))⟩])
  (.cond (.t 19) (.seq (.reg [⟨(some 20), none, .mv (.t 8)⟩,
   ⟨(some 21), none, .build [(.int .i64 0), (.int .i64 0), (.int .i64 0), (.slice none 0 0), (.int .i64 0), (.slice none 0 0), (.slice none 0 0), (.slice none 0 0), (.int .i64 0), (.slice none 0 0)] [(0, 1, (.t 20))]⟩,
   ⟨none, none, .st 10 (.t 6) (.t 21)⟩])
  .ret)
  .skip)))
  (.seq (.reg [⟨(some 22), none, .ldn 6 (.t 7)⟩,
   ⟨(some 23), none, .build [(.int .i64 0), (.int .i64 0), (.int .i64 0), (.slice none 0 0), (.int .i64 0), (.slice none 0 0), (.slice none 0 0), (.slice none 0 0), (.int .i64 0), (.slice none 0 0)] [(4, 6, (.t 22))]⟩,
   ⟨none, none, .st 10 (.t 6) (.t 23)⟩])
  .ret)))),
  [.cell 6 (some 10)]⟩
theorem k64 : cFn Try.prog Try.f64 = some c64 := by kernel_rfl
theorem nbI_ok : OkT Try.prog 64 (pureSp nb_S) := by
  refine okT_fn (OkΓT.cons cloneU_ok (OkΓT.cons cloneE_ok (OkΓT.cons boxI_ok (OkΓT.nil _)))) Try.func64 (by kernel_rfl) k64 (fun x _ => nbV_own _ _ _) ?_
  rintro ⟨a, ru, pe⟩ ⟨h1, h2⟩
  try dsimp only at *
  have qu := cloneU_at ru (by omega)
  have qv := cloneE_at pe (by omega)
  have qb : boxF_S [.agg [.p (.int .i64 a), .s (rowsT ruT ru), .s (rowsT prT pe), .s [], .p (.int .i64 0), .s (isT z11)]] = some (.p (.int .i64 (boxF ⟨a, ru, pe, [], 0, z11⟩)), []) := boxF_at ⟨a, ru, pe, [], 0, z11⟩ ⟨h1, h2, ⟨Nat.zero_le _, fun y hy => by cases hy⟩, by rw [z11_len]; decide⟩
  rw [boxF_new] at qb
  have hV : nbV a ru pe = if baseF a 0 ru pe = 0 then _ else _ := rfl
  have e := is_rep 11
  have ez : List.replicate 11 (0 : Int) = z11 := rfl
  have hzl := z11_len
  have hlen : (isT z11).length = 11 := by rw [is_len, z11_len]
  have hu : (rowsT ruT ru).take ru.length = rowsT ruT ru := List.take_of_length_le (by rw [rowsT_len]; omega)
  have hv : (rowsT prT pe).take pe.length = rowsT prT pe := List.take_of_length_le (by rw [rowsT_len]; omega)
  have hz : (isT z11).take 11 = isT z11 := List.take_of_length_le (by omega)
  rw [ez] at e
  clear ez
  rw [hV]
  clear hV
  generalize baseF a 0 ru pe = B at *
  generalize z11 = Z at *
  by_cases c0 : B = 0
  · rw [if_pos c0]
    (dsimp only [c64]; simp (maxSteps := 8000000) (implicitDefEqProofs := false) (disch := omega) only [↓reduceIte, go_sem, if_pos, if_neg, qu, qv, ← e, hlen, hu, hv, hz, qb, eq_true c0])
    exact endT_of [1, 2, 3] (.inr rfl) (by simp (maxSteps := 8000000) (implicitDefEqProofs := false) (disch := omega) only [↓reduceIte, go_sem, if_pos, if_neg]; rfl) (by simp (maxSteps := 8000000) (implicitDefEqProofs := false) (disch := omega) only [↓reduceIte, go_sem, if_pos, if_neg]) (by simp (maxSteps := 8000000) (implicitDefEqProofs := false) (disch := omega) only [↓reduceIte, go_sem, if_pos, if_neg]) (by decide) (by simp)
  · rw [if_neg c0]
    (dsimp only [c64]; simp (maxSteps := 8000000) (implicitDefEqProofs := false) (disch := omega) only [↓reduceIte, go_sem, if_pos, if_neg, qu, qv, ← e, hlen, hu, hv, hz, qb, eq_false c0])
    exact endT_v (.inr rfl) (by (simp (maxSteps := 8000000) (implicitDefEqProofs := false) (disch := omega) only [↓reduceIte, go_sem, if_pos, if_neg]) <;> rfl) (fun _ => rfl)
-- spec.NewBox
def c61 : AF := ⟨28,
  (.seq (.reg [⟨(some 6), none, .alloc 103 [(.int .i64 0), (.int .i64 0), (.int .i64 0), (.slice none 0 0), (.int .i64 0), (.slice none 0 0), (.slice none 0 0), (.slice none 0 0), (.int .i64 0), (.slice none 0 0)]⟩])
  (.seq (.seq (.reg [⟨(some 9), none, .mv (.t 0)⟩,
   ⟨(some 10), none, .mv (.t 1)⟩,
   ⟨(some 11), none, .mv (.t 2)⟩,
   ⟨(some 12), none, .call 143 [(.t 9), (.v (.int .i64 0)), (.t 10), (.t 11)]⟩,
   ⟨(some 7), none, .mv (.t 12)⟩])
  (.seq (.reg [⟨(some 13), none, .mv (.t 7)⟩,
   ⟨(some 14), none, .bin .neq (.t 13) (.v (.int .i64 0))⟩])
  (.cond (.t 14) (.seq (.reg [⟨(some 15), none, .mv (.t 7)⟩,
   ⟨(some 16), none, .call 154 [(.t 15)]⟩,
   ⟨none, none, .st 10 (.t 6) (.t 16)⟩])
  .ret)
  .skip)))
  (.seq (.drw [⟨(some 17), none, .mv (.t 0)⟩,
   ⟨(some 18), none, .mkE⟩,
   ⟨(some 19), none, .mv (.t 1)⟩,
   ⟨(some 20), none, .app 186 11 88 (.t 18) (.t 19)⟩,
   ⟨(some 21), none, .mkE⟩,
   ⟨(some 22), none, .mv (.t 2)⟩,
   ⟨(some 23), none, .app 194 2 16 (.t 21) (.t 22)⟩,
   ⟨(some 24), none, .mkSl 2 1 8 [(.int .i64 0)] (.v (.int .i64 11)) (.v (.int .i64 11))⟩,
   ⟨(some 25), none, .build [(.int .i64 0), (.slice none 0 0), (.slice none 0 0), (.slice none 0 0), (.int .i64 0), (.slice none 0 0)] [(0, 1, (.t 17)), (1, 1, (.t 20)), (2, 1, (.t 23)), (5, 1, (.t 24))]⟩,
   ⟨(some 8), none, .alloc 91 [(.int .i64 0), (.slice none 0 0), (.slice none 0 0), (.slice none 0 0), (.int .i64 0), (.slice none 0 0)]⟩] [⟨none, none, .st 6 (.t 8) (.t 25)⟩])
  (.seq (.reg [⟨(some 26), none, .ldn 6 (.t 8)⟩,
   ⟨(some 27), none, .build [(.int .i64 0), (.int .i64 0), (.int .i64 0), (.slice none 0 0), (.int .i64 0), (.slice none 0 0), (.slice none 0 0), (.slice none 0 0), (.int .i64 0), (.slice none 0 0)] [(4, 6, (.t 26))]⟩,
   ⟨none, none, .st 10 (.t 6) (.t 27)⟩])
  .ret)))),
  [.cell 6 (some 10)]⟩
theorem k61 : cFn Try.prog Try.f61 = some c61 := by kernel_rfl
theorem nbS_ok : OkT Try.prog 61 (pureSp nb_S) := by
  refine okT_fn (OkΓT.cons base_ok (OkΓT.cons bad17_ok (OkΓT.nil _))) Try.func61 (by kernel_rfl) k61 (fun x _ => nbV_own _ _ _) ?_
  rintro ⟨a, ru, pe⟩ ⟨h1, h2⟩
  try dsimp only at *
  have qb := base_at a 0 ru pe ⟨h1, h2⟩
  have qx := bad17_at
  have hV : nbV a ru pe = if baseF a 0 ru pe = 0 then _ else _ := rfl
  have e := is_rep 11
  have ez : List.replicate 11 (0 : Int) = z11 := rfl
  have hlen : (isT z11).length = 11 := by rw [is_len, z11_len]
  rw [ez] at e
  clear ez
  rw [hV]
  clear hV
  generalize hBB : baseF a 0 ru pe = B at *
  clear hBB
  generalize z11 = Z at *
  by_cases c0 : B = 0
  · rw [if_pos c0]
    (dsimp only [c61]; simp (maxSteps := 8000000) (implicitDefEqProofs := false) (disch := omega) only [↓reduceIte, go_sem, if_pos, if_neg, qb, eq_true c0, ← e, hlen])
    exact endT_of [1, 2, 3] (.inr rfl) (by simp (maxSteps := 8000000) (implicitDefEqProofs := false) (disch := omega) only [↓reduceIte, go_sem, if_pos, if_neg]; rfl) (by simp (maxSteps := 8000000) (implicitDefEqProofs := false) (disch := omega) only [↓reduceIte, go_sem, if_pos, if_neg]) (by simp (maxSteps := 8000000) (implicitDefEqProofs := false) (disch := omega) only [↓reduceIte, go_sem, if_pos, if_neg]) (by decide) (by simp)
  · rw [if_neg c0]
    (dsimp only [c61]; simp (maxSteps := 8000000) (implicitDefEqProofs := false) (disch := omega) only [↓reduceIte, go_sem, if_pos, if_neg, qb, eq_false c0, qx])
    exact endT_v (.inr rfl) (by (simp (maxSteps := 8000000) (implicitDefEqProofs := false) (disch := omega) only [↓reduceIte, go_sem, if_pos, if_neg]) <;> rfl) (fun _ => rfl)
end Go.Proofs.Ytkijbknnbmbnbaa
