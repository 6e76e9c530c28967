import Derived.Test.YtghpdclhhnbgjaaG0
set_option linter.unusedSimpArgs false
set_option linter.unusedVariables false
set_option maxRecDepth 100000
set_option maxHeartbeats 4000000
namespace Go.Proofs.Ytghpdclhhnbgjaa
open Go Go.AH
attribute [local irreducible] awpT ropsT qopsT stepT condKT gdKT EndT joinK loopKT seqKT blkKT kont kontR
theorem saC_bk (n : Nat) (x : SaR) : bkCs n (saC x) = [selB x.sels] := by simp only [saC, bkCs, bkC, slsC_bk, nbC, Nat.add_zero, List.nil_append, List.append_nil]
theorem saC_tv (n : Nat) (x : SaR) : el (tvCs n (saC x)) = .agg [.p (.int .i64 x.spi), .p (.int .i64 x.peer), .p (.int .i64 x.key), .p (.bool x.inn), .p (.int .i64 x.sent), .p (.int .i64 x.top), .p (.int .i64 x.bits), .p (.int .i64 x.byt), .p (.int .i64 x.hard), .p (.int .i64 x.til), .os n 0 x.sels.length] := by simp only [saC, tvCs, tvC_v, slsC_tv, nbC, Nat.add_zero, el_two]
def sasK (l : List SaR) : Cell := .sl 45 (zOf l.length 11) (l.map saC)
theorem sasK_fit (l : List SaR) : FitC sh_SaS (sasK l) := .inr ⟨_, _, rfl, by cases l with | nil => exact .inl rfl | cons a l => exact .inr (zOf_succ _ _), fun r hr => by obtain ⟨x, _, rfl⟩ := List.mem_map.1 hr; exact HasR.fit _ _ (saC_has x)⟩
theorem sasK_sz (l : List SaR) : szC (sasK l) = l.length + szRs (l.map saC) := by simp only [sasK, szC, List.length_map]
/-! Copies of those of which something is so -/
noncomputable def keep_S {β : Type} (cap : β → List TV) (p : β → SaR → Bool) := specP (fun x : List SaR × β => .s (rowsT saT x.1) :: cap x.2) (fun x => goodL x.1) (fun x => ansC (sasK (x.1.filter (p x.2))))
theorem keep_at {β : Type} {cap : β → List TV} {p : β → SaR → Bool} (hcap : ∀ x y, cap x = cap y → x = y) (l : List SaR) (b : β) (h : goodL l) : keep_S cap p (.s (rowsT saT l) :: cap b) = some (ansC (sasK (l.filter (p b)))) :=
  specP_at (enc := fun x : List SaR × β => .s (rowsT saT x.1) :: cap x.2) (by rintro ⟨a, b⟩ ⟨a', b'⟩ h; simp at h; simp [sas_inj h.1, hcap _ _ h.2]) (l, b) h
theorem take_filter {α : Type} {l : List α} {p : α → Bool} {i : Nat} {x : α} (hx : l[i]? = some x) : (l.take (i + 1)).filter p = if p x = true then (l.take i).filter p ++ [x] else (l.take i).filter p := by
  rw [take_snoc hx, List.filter_append]
  by_cases h : p x = true <;> simp [h]
theorem push_get {S : List TB} {n : Nat} (h : S.length = n) (X a b : TB) : (X :: (S ++ [a, b]))[n + 1 + 1]? = some b := by
  rw [List.getElem?_cons_succ, List.getElem?_append_right (by omega), h, Nat.add_sub_cancel_left]; rfl
theorem push_get3 {S : List TB} {n : Nat} (h : S.length = n) (X a b c : TB) : (X :: (S ++ [a, b, c]))[n + 1 + 1 + 1]? = some c := by
  rw [List.getElem?_cons_succ, List.getElem?_append_right (by omega), h, show n + 1 + 1 - n = 2 by omega]; rfl
theorem push_get1 {S : List TB} {n : Nat} (h : S.length = n) (X a : TB) : (X :: (S ++ [a]))[n + 1]? = some a := by
  rw [List.getElem?_cons_succ, List.getElem?_append_right (by omega), h, Nat.sub_self]; rfl
theorem push_set1 {S : List TB} {n : Nat} (h : S.length = n) (X a b : TB) : (X :: (S ++ [a])).set (n + 1) b = X :: (S ++ [b]) := by
  rw [List.set_cons_succ, List.set_append_right _ _ (by omega), h, Nat.sub_self]; rfl
theorem sized_sa (a b c d e f g h i j k : TV) : sizedT 11 [.agg [a, b, c, d, e, f, g, h, i, j, k]] = true := rfl
theorem keep_state (l : List SaR) (p : SaR → Bool) (i : Nat) : ∃ S E n, bkRs 1 (((l.take i).filter p).map saC) = S ∧ tvRs 1 (((l.take i).filter p).map saC) = E ∧ ((l.take i).filter p).length = n ∧ S.length = n ∧ E.length = n ∧ n ≤ l.length :=
  ⟨_, _, _, rfl, rfl, rfl, by rw [bkRs_len, saC_nbs], by rw [tvRs_len, List.length_map], Nat.le_trans (List.length_filter_le _ _) (by rw [List.length_take]; omega)⟩
-- spec.l16All
def c98 : AF := ⟨21,
 (.seq (.reg [rO 2 (.mv (.v (.slice none 0 0)))])
 (.seq (.reg [rO 5 (.mkS 45 0 [] []),
 rO 3 (.mv (.t 5))])
 (.seq (.seq (.reg [rO 4 (.mv (.v (.int .i64 0)))])
 (.block 0 (.loop (.seq (.seq (.reg [rO 6 (.mv (.t 4)),
 rO 7 (.mv (.t 0)),
 rO 8 (.len (.t 7)),
 rO 9 (.bin .lss (.t 6) (.t 8))])
 (.cond (.t 9) .skip
 (.exit 0)))
 (.seq (.block 1 (.reg [rO 12 (.mv (.t 3)),
 rO 13 (.mv (.t 0)),
 rO 14 (.mv (.t 4)),
 rO 15 (.ia 11 (.t 13) (.t 14)),
 rO 16 (.ldn 11 (.t 15)),
 rO 17 (.call 99 [(.t 16)]),
 rO 18 (.mkS 45 1 [(.int .i64 0), (.int .i64 0), (.int .i64 0), (.bool false), (.int .i64 0), (.int .i64 0), (.int .i64 0), (.int .i64 0), (.int .i64 0), (.int .i64 0), (.slice none 0 0)] [(0, 11, (.t 17))]),
 rO 19 (.app 45 11 104 (.t 12) (.t 18)),
 rO 3 (.mv (.t 19))]))
 (.reg [rO 10 (.mv (.t 4)),
 rO 11 (.bin .add (.t 10) (.v (.int .i64 1))),
 rO 4 (.mv (.t 11))]))))))
 (.seq (.reg [rO 20 (.mv (.t 3)),
 rO 2 (.mv (.t 20))])
 .ret)))),
 [.t 2]⟩
theorem k98 : cFn Try.prog Try.f98 = some c98 := by kernel_rfl
theorem l16All_ok : OkT Try.prog 98 (pureSp (keep_S (fun _ : Unit => []) fun _ _ => true)) := by
  refine okT_fn (OkΓT.cons l16Copy_ok (OkΓT.nil _)) Try.func98 (by kernel_rfl) k98 (fun x _ => ansC_own _) ?_
  rintro ⟨l, b⟩ ⟨h1, h2⟩
  dsimp only at *
  (dsimp only [c98, rO]; simp (maxSteps := 8000000) -implicitDefEqProofs (disch := omega) only [↓reduceIte, go_sem])
  refine awpT_loop (α := Nat) (fun i => ⟨slots [(0, .s (rowsT saT l)), (3, .os 0 0 ((l.take i).filter fun _ => true).length), (4, .p (.int .i64 i))], .cells 45 (zOf ((l.take i).filter fun _ => true).length 11) (tvRs 1 (((l.take i).filter fun _ => true).map saC)) :: bkRs 1 (((l.take i).filter fun _ => true).map saC)⟩)
    (fun i => i ≤ l.length) (fun i => l.length - i) 0 (Nat.zero_le _) (le_keep (Nat.zero_le _) (by simp (maxSteps := 8000000) -implicitDefEqProofs (disch := omega) only [↓reduceIte, go_sem, slotsIn, List.take_zero, List.filter_nil, List.length_nil])) ?_
  intro i hi
  simp (maxSteps := 8000000) -implicitDefEqProofs (disch := omega) only [↓reduceIte, go_sem]
  refine condKT_dec (fun hlt => ?_) (fun hge => ?_)
  · obtain ⟨x, hx⟩ := get_ex (l := l) (i := i) (by omega)
    have hxs := h2 x (List.mem_of_getElem? hx)
    have hfil := take_filter (p := fun _ => true) hx
    rw [if_pos rfl] at hfil
    obtain ⟨S, E, n, eS, eE, en, hS, hE, hn⟩ := keep_state l (fun _ => true) i
    have hEt : E.take n = E := List.take_of_length_le (by omega)
    have hg := push_get hS
    rw [eS, eE, en]
    simp (maxSteps := 8000000) -implicitDefEqProofs (disch := omega) only [↓reduceIte, go_sem, hx, saT, eq_true hlt, copy_at, hS, hg, hE, hEt, zOf_or, sized_sa, List.set_cons_zero]
    refine loopKT_next (i + 1) (by omega) (by omega) ?_
    rw [hfil, List.map_append, List.map_cons, List.map_nil, List.length_append, List.length_singleton, zOf_succ]
    refine le_push (J1 := []) (J2 := [_]) (r := saC x) (by rw [saC_bk, eS]; rfl) (by rw [saC_tv, eE, saC_nbs, en, List.length_nil, Nat.add_zero, Nat.add_comm 1 n]) ?_
    have hp : pushR (nbRs (((l.take i).filter fun _ => true).map saC)) 0 (nbCs (saC x)) 1 0 = n + 2 + 1 := by rw [pushR_zero, saC_nbs, saC_nb, en]; omega
    simp (maxSteps := 8000000) -implicitDefEqProofs (disch := omega) only [↓reduceIte, go_sem, List.length_nil, List.length_cons, hp, en]
  · have hb : l.take i = l := List.take_of_length_le (by omega)
    simp (maxSteps := 8000000) -implicitDefEqProofs (disch := omega) only [↓reduceIte, go_sem, eq_false hge, hb]
    refine joinK_here ?_
    simp (maxSteps := 8000000) -implicitDefEqProofs (disch := omega) only [↓reduceIte, go_sem]
    exact endT_same (.inr rfl) (by (simp (maxSteps := 8000000) -implicitDefEqProofs (disch := omega) only [↓reduceIte, go_sem]) <;> simp only [ansC, sasK, tvC_sl, List.length_map]) (by simp only [ansC, sasK, bkC, Nat.zero_add])
theorem filter_all (l : List SaR) : l.filter (fun _ => true) = l := by simp
-- impl.cloneSas
def c58 : AF := ⟨25,
 (.seq (.reg [rO 4 (.mv (.v (.slice none 0 0)))])
 (.seq (.reg [rO 8 (.mkS 45 0 [] []),
 rO 5 (.mv (.t 8))])
 (.seq (.seq (.reg [rO 9 (.mv (.t 0)),
 rO 10 (.len (.t 9)),
 rO 11 (.mv (.v (.int .i64 0)))])
 (.block 0 (.loop (.seq (.reg [rO 12 (.bin .lss (.t 11) (.t 10))])
 (.seq (.cond (.t 12) .skip
 (.exit 0))
 (.seq (.block 1 (.seq (.reg [rO 13 (.ia 11 (.t 9) (.t 11)),
 rO 14 (.ldn 11 (.t 13)),
 rO 7 (.alloc 45 [(.int .i64 0), (.int .i64 0), (.int .i64 0), (.bool false), (.int .i64 0), (.int .i64 0), (.int .i64 0), (.int .i64 0), (.int .i64 0), (.int .i64 0), (.slice none 0 0)]),
 ⟨none, none, .st 11 (.t 7) (.t 14)⟩])
 (.seq (.reg [rO 15 (.mv (.t 1)),
 rO 16 (.ldn 11 (.t 7)),
 rO 17 (.callv (.t 15) [(.t 16)])])
 (.cond (.t 17) (.reg [rO 18 (.mv (.t 5)),
 rO 19 (.ldn 11 (.t 7)),
 rO 20 (.call 85 [(.t 19)]),
 rO 21 (.mkS 45 1 [(.int .i64 0), (.int .i64 0), (.int .i64 0), (.bool false), (.int .i64 0), (.int .i64 0), (.int .i64 0), (.int .i64 0), (.int .i64 0), (.int .i64 0), (.slice none 0 0)] [(0, 11, (.t 20))]),
 rO 22 (.app 45 11 104 (.t 18) (.t 21)),
 rO 5 (.mv (.t 22))])
 .skip))))
 (.reg [rO 23 (.bin .add (.t 11) (.v (.int .i64 1))),
 rO 11 (.mv (.t 23))])))))))
 (.seq (.reg [rO 24 (.mv (.t 5)),
 rO 4 (.mv (.t 24))])
 .ret)))),
 [.t 4]⟩
theorem k58 : cFn Try.prog Try.f58 = some c58 := by kernel_rfl
theorem cloneSas_ok {β : Type} {f : Nat} {cap : β → List TV} {p : β → SaR → Bool} (hcap : ∀ x y, cap x = cap y → x = y) (hfr : ∀ h n x, (cap x).map (frzT h n) = cap x) (hren : ∀ ρ x, renTs ρ (cap x) = cap x) (hbel : ∀ m x, belows m (cap x) = true) (hne : f ≠ 85) (ok : OkT Try.prog f (pureSp (asks_S cap p))) : OkT Try.prog 58 (pureSp (keep_S (fun b => [.fn f (cap b)]) p)) := by
  have hat : ∀ (x : SaR) (b : β), asks_S cap p (saT x :: cap b) = some (.p (.bool (p b x)), []) := fun x b =>
    specP_at (enc := fun x : SaR × β => saT x.1 :: cap x.2) (by rintro ⟨a, b⟩ ⟨a', b'⟩ h; simp at h; simp [saT_inj _ _ h.1, hcap _ _ h.2]) (x, b) trivial
  refine okT_fn (OkΓT.cons ok (OkΓT.cons cloneSa_ok (OkΓT.nil _))) Try.func58 (by kernel_rfl) k58 (fun x _ => ansC_own _) ?_
  rintro ⟨l, b⟩ ⟨h1, h2⟩
  dsimp only at *
  (dsimp only [c58, rO]; simp (maxSteps := 8000000) -implicitDefEqProofs (disch := omega) only [↓reduceIte, go_sem])
  refine awpT_loop (α := Nat) (fun i => ⟨slots [(1, .fn f (cap b)), (5, .os 0 0 ((l.take i).filter (p b)).length), (9, .s (rowsT saT l)), (10, .p (.int .i64 l.length)), (11, .p (.int .i64 i))], .cells 45 (zOf ((l.take i).filter (p b)).length 11) (tvRs 1 (((l.take i).filter (p b)).map saC)) :: bkRs 1 (((l.take i).filter (p b)).map saC)⟩)
    (fun i => i ≤ l.length) (fun i => l.length - i) 0 (Nat.zero_le _) (le_keep (Nat.zero_le _) (by simp (maxSteps := 8000000) -implicitDefEqProofs (disch := omega) only [↓reduceIte, go_sem, slotsIn, List.take_zero, List.filter_nil, List.length_nil])) ?_
  intro i hi
  simp (maxSteps := 8000000) -implicitDefEqProofs (disch := omega) only [↓reduceIte, go_sem]
  refine condKT_dec (fun hlt => ?_) (fun hge => ?_)
  · obtain ⟨x, hx⟩ := get_ex (l := l) (i := i) (by omega)
    have hxs := h2 x (List.mem_of_getElem? hx)
    have hfil := take_filter (p := p b) hx
    have hx2 := hat x b
    simp only [saT] at hx2
    have hne' := eq_false (Ne.symm hne)
    obtain ⟨S, E, n, eS, eE, en, hS, hE, hn⟩ := keep_state l (p b) i
    have hEt : E.take n = E := List.take_of_length_le (by omega)
    have g1 := push_get1 hS; have g2 := push_set1 hS; have g3 := push_get3 hS; have g4 := push_get hS
    rw [eS, eE, en]
    by_cases hp : p b x = true
    · rw [if_pos hp] at hfil
      simp (maxSteps := 8000000) -implicitDefEqProofs (disch := omega) only [↓reduceIte, go_sem, hx, saT, eq_true hlt, copy_at, hS, g1, g2, g3, g4, hE, hEt, zOf_or, sized_sa, List.set_cons_zero, hfr, hx2, hp, hne']
      refine loopKT_next (i + 1) (by omega) (by omega) ?_
      rw [hfil, List.map_append, List.map_cons, List.map_nil, List.length_append, List.length_singleton, zOf_succ]
      refine le_push (J1 := [_]) (J2 := [_]) (r := saC x) (by rw [saC_bk, eS]; rfl) (by rw [saC_tv, eE, saC_nbs, en, List.length_singleton, Nat.add_comm 1 n]) ?_
      have hp : pushR (nbRs (((l.take i).filter (p b)).map saC)) 1 (nbCs (saC x)) 1 0 = n + 3 + 1 := by rw [pushR_zero, saC_nbs, saC_nb, en]; omega
      simp (maxSteps := 8000000) -implicitDefEqProofs (disch := omega) only [↓reduceIte, go_sem, List.length_nil, List.length_cons, hp, en, hren]
    · have hp' : p b x = false := by simpa using hp
      rw [if_neg hp] at hfil
      simp (maxSteps := 8000000) -implicitDefEqProofs (disch := omega) only [↓reduceIte, go_sem, hx, saT, eq_true hlt, hS, g1, g2, hE, hfr, hx2, hp']
      refine loopKT_next (i + 1) (by omega) (by omega) ?_
      rw [hfil]
      refine le_skip (J := [_]) (by rw [eS, eE, en]) (by simp (maxSteps := 8000000) -implicitDefEqProofs (disch := omega) only [↓reduceIte, go_sem, slotsIn, en]) (below_slots _ ?_)
      intro q hq
      simp only [List.mem_cons, List.not_mem_nil, or_false] at hq
      rcases hq with rfl | rfl | rfl | rfl | rfl <;> first | rfl | (simp only [below, hbel]; done) | (simp only [below, decide_eq_true_eq]; omega)
  · have hb : l.take i = l := List.take_of_length_le (by omega)
    simp (maxSteps := 8000000) -implicitDefEqProofs (disch := omega) only [↓reduceIte, go_sem, eq_false hge, hb]
    refine joinK_here ?_
    simp (maxSteps := 8000000) -implicitDefEqProofs (disch := omega) only [↓reduceIte, go_sem]
    exact endT_same (.inr rfl) (by (simp (maxSteps := 8000000) -implicitDefEqProofs (disch := omega) only [↓reduceIte, go_sem]) <;> simp only [ansC, sasK, tvC_sl, List.length_map]) (by simp only [ansC, sasK, bkC, Nat.zero_add])
theorem keepAll_at (l : List SaR) (h : goodL l) : keep_S (fun _ : Unit => []) (fun _ _ => true) [.s (rowsT saT l)] = some (ansC (sasK l)) := by
  have := keep_at (cap := fun _ : Unit => []) (p := fun _ _ => true) (fun _ _ _ => rfl) l () h
  rw [filter_all] at this; exact this
/-! What expires -/
def capU (n : Int) : List TV := [.fe (.p (.int .i64 n)) 0]
theorem capU_inj : ∀ x y, capU x = capU y → x = y := by intro x y h; simpa [capU] using h
theorem capU_frz (h : THeap) (n : Nat) (x : Int) : (capU x).map (frzT h n) = capU x := by simp only [capU, List.map_cons, List.map_nil, frz_fe]
def lateU (n : Int) (x : SaR) : Bool := decide (x.til ≥ n)
def otherU (s : Int) (x : SaR) : Bool := decide (¬ x.spi = s)
-- impl.ExpireSas$1
def c59 : AF := ⟨8,
 (.seq (.reg [rO 2 (.box 45 (.t 0)),
 rO 3 (.mv (.v (.bool false)))])
 (.seq (.reg [rO 4 (.fa (.t 2) 9),
 rO 5 (.ld (.t 4)),
 rO 6 (.ld (.t 1)),
 rO 7 (.bin .geq (.t 5) (.t 6)),
 rO 3 (.mv (.t 7))])
 .ret)),
 [.t 3]⟩
theorem k59 : cFn Try.prog Try.f59 = some c59 := by kernel_rfl
theorem late_ok : OkT Try.prog 59 (pureSp (asks_S capU lateU)) := by
  refine okT_fn (OkΓT.nil _) Try.func59 (by kernel_rfl) k59 (fun x _ => ⟨rfl, rfl⟩) ?_
  rintro ⟨x, s⟩ _
  dsimp only [saT, capU, lateU] at *
  (dsimp only [c59, rO]; simp (maxSteps := 8000000) -implicitDefEqProofs (disch := omega) only [↓reduceIte, go_sem])
  repeat' first
    | ((first | refine gdKT_deq (fun hg hG => ?_) (fun hg hG => ?_) | refine condKT_deq (fun hg hG => ?_) (fun hg hG => ?_)) <;> (try simp (maxSteps := 8000000) -implicitDefEqProofs (disch := omega) only [↓reduceIte, go_sem, hG]) <;> clear hG)
    | ((first | refine gdKT_split (fun hg => ?_) (fun hg => ?_) | refine condKT_split (fun hg => ?_) (fun hg => ?_)) <;> (try simp (maxSteps := 8000000) -implicitDefEqProofs (disch := omega) only [↓reduceIte, go_sem, hg]))
    | (refine endT_p (.inr rfl) (by simp (maxSteps := 8000000) -implicitDefEqProofs (disch := omega) only [↓reduceIte, go_sem]; rfl) ?_; (first | exact vb_true (by omega) | exact vb_false (by omega) | exact vb_dec (by omega) | exact vi_eq (by omega) | rfl | (refine vi_eq ?_; simp_all; first | done | (intros; omega))))
    | exact endT_v (.inr rfl) (by simp (maxSteps := 8000000) -implicitDefEqProofs (disch := omega) only [↓reduceIte, go_sem]; try rfl) (fun _ => rfl)
noncomputable def exp_S := specP (fun x : List SaR × Int => [.s (rowsT saT x.1), .p (.int .i64 x.2)]) (fun x => goodL x.1) (fun x => ansC (sasK (x.1.filter (lateU x.2))))
theorem las_inj : ∀ x y : List SaR × Int, ([.s (rowsT saT x.1), .p (.int .i64 x.2)] : List TV) = [.s (rowsT saT y.1), .p (.int .i64 y.2)] → x = y := by
  rintro ⟨a, b⟩ ⟨a', b'⟩ h; simp at h; simp [sas_inj h.1, h.2]
theorem exp_at (l : List SaR) (b : Int) (h : goodL l) : exp_S [.s (rowsT saT l), .p (.int .i64 b)] = some (ansC (sasK (l.filter (lateU b)))) := specP_at (enc := fun x : List SaR × Int => [.s (rowsT saT x.1), .p (.int .i64 x.2)]) las_inj (l, b) h
-- spec.l16Expire
def c62 : AF := ⟨30,
 (.seq (.reg [rO 4 (.mv (.v (.slice none 0 0)))])
 (.seq (.reg [rO 7 (.mkS 45 0 [] []),
 rO 5 (.mv (.t 7))])
 (.seq (.seq (.reg [rO 6 (.mv (.v (.int .i64 0)))])
 (.block 0 (.loop (.seq (.seq (.reg [rO 8 (.mv (.t 6)),
 rO 9 (.mv (.t 0)),
 rO 10 (.len (.t 9)),
 rO 11 (.bin .lss (.t 8) (.t 10))])
 (.cond (.t 11) .skip
 (.exit 0)))
 (.seq (.block 1 (.seq (.reg [rO 14 (.mv (.t 0)),
 rO 15 (.mv (.t 6)),
 rO 16 (.ia 11 (.t 14) (.t 15)),
 rO 17 (.fa (.t 16) 9),
 rO 18 (.ld (.t 17)),
 rO 19 (.mv (.t 1)),
 rO 20 (.bin .geq (.t 18) (.t 19))])
 (.cond (.t 20) (.reg [rO 21 (.mv (.t 5)),
 rO 22 (.mv (.t 0)),
 rO 23 (.mv (.t 6)),
 rO 24 (.ia 11 (.t 22) (.t 23)),
 rO 25 (.ldn 11 (.t 24)),
 rO 26 (.call 99 [(.t 25)]),
 rO 27 (.mkS 45 1 [(.int .i64 0), (.int .i64 0), (.int .i64 0), (.bool false), (.int .i64 0), (.int .i64 0), (.int .i64 0), (.int .i64 0), (.int .i64 0), (.int .i64 0), (.slice none 0 0)] [(0, 11, (.t 26))]),
 rO 28 (.app 45 11 104 (.t 21) (.t 27)),
 rO 5 (.mv (.t 28))])
 .skip)))
 (.reg [rO 12 (.mv (.t 6)),
 rO 13 (.bin .add (.t 12) (.v (.int .i64 1))),
 rO 6 (.mv (.t 13))]))))))
 (.seq (.reg [rO 29 (.mv (.t 5)),
 rO 4 (.mv (.t 29))])
 .ret)))),
 [.t 4]⟩
theorem k62 : cFn Try.prog Try.f62 = some c62 := by kernel_rfl
theorem l16Expire_ok : OkT Try.prog 62 (pureSp exp_S) := by
  refine okT_fn (OkΓT.cons l16Copy_ok (OkΓT.nil _)) Try.func62 (by kernel_rfl) k62 (fun x _ => ansC_own _) ?_
  rintro ⟨l, b⟩ ⟨h1, h2⟩
  dsimp only at *
  (dsimp only [c62, rO]; simp (maxSteps := 8000000) -implicitDefEqProofs (disch := omega) only [↓reduceIte, go_sem])
  refine awpT_loop (α := Nat) (fun i => ⟨slots [(0, .s (rowsT saT l)), (1, .p (.int .i64 b)), (5, .os 0 0 ((l.take i).filter (lateU b)).length), (6, .p (.int .i64 i))], .cells 45 (zOf ((l.take i).filter (lateU b)).length 11) (tvRs 1 (((l.take i).filter (lateU b)).map saC)) :: bkRs 1 (((l.take i).filter (lateU b)).map saC)⟩)
    (fun i => i ≤ l.length) (fun i => l.length - i) 0 (Nat.zero_le _) (le_keep (Nat.zero_le _) (by simp (maxSteps := 8000000) -implicitDefEqProofs (disch := omega) only [↓reduceIte, go_sem, slotsIn, List.take_zero, List.filter_nil, List.length_nil])) ?_
  intro i hi
  simp (maxSteps := 8000000) -implicitDefEqProofs (disch := omega) only [↓reduceIte, go_sem]
  refine condKT_dec (fun hlt => ?_) (fun hge => ?_)
  · obtain ⟨x, hx⟩ := get_ex (l := l) (i := i) (by omega)
    have hxs := h2 x (List.mem_of_getElem? hx)
    have hfil := take_filter (p := lateU b) hx
    obtain ⟨S, E, n, eS, eE, en, hS, hE, hn⟩ := keep_state l (lateU b) i
    have hEt : E.take n = E := List.take_of_length_le (by omega)
    have hg := push_get hS
    rw [eS, eE, en]
    by_cases hp : x.til ≥ b
    · rw [if_pos (by simpa [lateU] using hp)] at hfil
      simp (maxSteps := 8000000) -implicitDefEqProofs (disch := omega) only [↓reduceIte, go_sem, hx, saT, eq_true hlt, eq_true hp, copy_at, hS, hg, hE, hEt, zOf_or, sized_sa, List.set_cons_zero]
      refine loopKT_next (i + 1) (by omega) (by omega) ?_
      rw [hfil, List.map_append, List.map_cons, List.map_nil, List.length_append, List.length_singleton, zOf_succ]
      refine le_push (J1 := []) (J2 := [_]) (r := saC x) (by rw [saC_bk, eS]; rfl) (by rw [saC_tv, eE, saC_nbs, en, List.length_nil, Nat.add_zero, Nat.add_comm 1 n]) ?_
      have hp : pushR (nbRs (((l.take i).filter (lateU b)).map saC)) 0 (nbCs (saC x)) 1 0 = n + 2 + 1 := by rw [pushR_zero, saC_nbs, saC_nb, en]; omega
      simp (maxSteps := 8000000) -implicitDefEqProofs (disch := omega) only [↓reduceIte, go_sem, List.length_nil, List.length_cons, hp, en]
    · rw [if_neg (by simpa [lateU] using hp)] at hfil
      simp (maxSteps := 8000000) -implicitDefEqProofs (disch := omega) only [↓reduceIte, go_sem, hx, saT, eq_true hlt, eq_false hp]
      refine loopKT_next (i + 1) (by omega) (by omega) ?_
      rw [hfil]
      refine le_skip (J := []) (by rw [eS, eE, en, List.append_nil]) (by simp (maxSteps := 8000000) -implicitDefEqProofs (disch := omega) only [↓reduceIte, go_sem, slotsIn, en]) (below_slots _ ?_)
      intro q hq
      simp only [List.mem_cons, List.not_mem_nil, or_false] at hq
      rcases hq with rfl | rfl | rfl | rfl <;> first | rfl | (simp only [below, decide_eq_true_eq]; omega)
  · have hb : l.take i = l := List.take_of_length_le (by omega)
    simp (maxSteps := 8000000) -implicitDefEqProofs (disch := omega) only [↓reduceIte, go_sem, eq_false hge, hb]
    refine joinK_here ?_
    simp (maxSteps := 8000000) -implicitDefEqProofs (disch := omega) only [↓reduceIte, go_sem]
    exact endT_same (.inr rfl) (by (simp (maxSteps := 8000000) -implicitDefEqProofs (disch := omega) only [↓reduceIte, go_sem]) <;> simp only [ansC, sasK, tvC_sl, List.length_map]) (by simp only [ansC, sasK, bkC, Nat.zero_add])
theorem keepL_ok : OkT Try.prog 58 (pureSp (keep_S (fun b => [.fn 59 (capU b)]) lateU)) := cloneSas_ok capU_inj capU_frz (fun _ _ => rfl) (fun _ _ => rfl) (by decide) late_ok
end Go.Proofs.Ytghpdclhhnbgjaa
