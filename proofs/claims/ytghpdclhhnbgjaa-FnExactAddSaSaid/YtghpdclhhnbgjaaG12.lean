import Derived.Test.YtghpdclhhnbgjaaG11
set_option linter.unusedSimpArgs false
set_option linter.unusedVariables false
set_option maxRecDepth 100000
set_option maxHeartbeats 4000000
namespace Go.Proofs.Ytghpdclhhnbgjaa
open Go Go.AH
attribute [local irreducible] awpT ropsT qopsT stepT condKT gdKT EndT joinK loopKT seqKT blkKT kont kontR
/-! AddSa of the program -/
def isU (s : Int) (x : SaR) : Bool := decide (x.spi = s)
-- impl.spiAt$1
def c137 : AF := ⟨8,
 (.seq (.reg [rO 2 (.box 45 (.t 0)),
 rO 3 (.mv (.v (.bool false)))])
 (.seq (.reg [rO 4 (.fa (.t 2) 0),
 rO 5 (.ld (.t 4)),
 rO 6 (.ld (.t 1)),
 rO 7 (.bin .eql (.t 5) (.t 6)),
 rO 3 (.mv (.t 7))])
 .ret)),
 [.t 3]⟩
theorem k137 : cFn Try.prog Try.f137 = some c137 := by kernel_rfl
theorem is_ok : OkT Try.prog 137 (pureSp (asks_S capU isU)) := by
  refine okT_fn (OkΓT.nil _) Try.func137 (by kernel_rfl) k137 (fun x _ => ⟨rfl, rfl⟩) ?_
  rintro ⟨x, s⟩ _
  dsimp only [saT, capU, isU] at *
  (dsimp only [c137, rO]; simp (maxSteps := 8000000) -implicitDefEqProofs (disch := omega) only [↓reduceIte, go_sem])
  repeat' first
    | ((first | refine gdKT_deq (fun hg hG => ?_) (fun hg hG => ?_) | refine condKT_deq (fun hg hG => ?_) (fun hg hG => ?_)) <;> (try simp (maxSteps := 8000000) -implicitDefEqProofs (disch := omega) only [↓reduceIte, go_sem, hG]) <;> clear hG)
    | ((first | refine gdKT_split (fun hg => ?_) (fun hg => ?_) | refine condKT_split (fun hg => ?_) (fun hg => ?_)) <;> (try simp (maxSteps := 8000000) -implicitDefEqProofs (disch := omega) only [↓reduceIte, go_sem, hg]))
    | (refine endT_p (.inr rfl) (by simp (maxSteps := 8000000) -implicitDefEqProofs (disch := omega) only [↓reduceIte, go_sem]; rfl) ?_; (first | exact vb_true (by omega) | exact vb_false (by omega) | exact vb_dec (by omega) | exact vi_eq (by omega) | rfl | (refine vi_eq ?_; simp_all; first | done | (intros; omega))))
    | exact endT_v (.inr rfl) (by simp (maxSteps := 8000000) -implicitDefEqProofs (disch := omega) only [↓reduceIte, go_sem]; try rfl) (fun _ => rfl)
-- impl.spiAt
def c93 : AF := ⟨8,
 (.seq (.reg [rO 3 (.box 2 (.t 1)),
 rO 4 (.mv (.v (.int .i64 0)))])
 (.seq (.reg [rO 5 (.mv (.t 0)),
 rO 6 (.fn 137 [(.t 3)]),
 rO 7 (.call 136 [(.t 5), (.t 6)]),
 rO 4 (.mv (.t 7))])
 .ret)),
 [.t 4]⟩
theorem k93 : cFn Try.prog Try.f93 = some c93 := by kernel_rfl
theorem spiAt_ok : OkT Try.prog 93 (pureSp spiI_S) := by
  refine okT_fn (OkΓT.cons (find_ok capU_inj capU_frz is_ok) (OkΓT.nil _)) Try.func93 (by kernel_rfl) k93 (fun x _ => ⟨rfl, rfl⟩) ?_
  rintro ⟨l, s⟩ hl
  dsimp only at *
  have hf := find_at (f := 137) (p := isU) capU_inj l s hl
  simp only [capU] at hf
  have e : (fun y : SaR => decide (y.spi = s)) = isU s := rfl
  rw [e]
  (dsimp only [c93, rO]; simp (maxSteps := 8000000) -implicitDefEqProofs (disch := omega) only [↓reduceIte, go_sem, hf])
  repeat' first
    | ((first | refine gdKT_deq (fun hg hG => ?_) (fun hg hG => ?_) | refine condKT_deq (fun hg hG => ?_) (fun hg hG => ?_)) <;> (try simp (maxSteps := 8000000) -implicitDefEqProofs (disch := omega) only [↓reduceIte, go_sem, hG, hf]) <;> clear hG)
    | ((first | refine gdKT_split (fun hg => ?_) (fun hg => ?_) | refine condKT_split (fun hg => ?_) (fun hg => ?_)) <;> (try simp (maxSteps := 8000000) -implicitDefEqProofs (disch := omega) only [↓reduceIte, go_sem, hg, hf]))
    | (refine endT_p (.inr rfl) (by simp (maxSteps := 8000000) -implicitDefEqProofs (disch := omega) only [↓reduceIte, go_sem, hf]; rfl) ?_; (first | exact vb_true (by omega) | exact vb_false (by omega) | exact vb_dec (by omega) | exact vi_eq (by omega) | rfl | (refine vi_eq ?_; simp_all; first | done | (intros; omega))))
    | exact endT_v (.inr rfl) (by simp (maxSteps := 8000000) -implicitDefEqProofs (disch := omega) only [↓reduceIte, go_sem, hf]; try rfl) (fun _ => rfl)

def tagR : Nat → List SaR → List Rw
  | _, [] => []
  | n, x :: l => (x, n) :: tagR (n + 1) l
theorem tagR_len : ∀ n l, (tagR n l).length = l.length
  | _, [] => rfl
  | n, x :: l => by simp only [tagR, List.length_cons, tagR_len (n + 1) l]
theorem rwT_el (n : Nat) (x : SaR) : rwT (x, n) = el (tvCs n (saC x)) := by rw [saC_tv]; rfl
theorem tagR_rows : ∀ n l, rowsT rwT (tagR n l) = tvRs n (l.map saC)
  | _, [] => rfl
  | n, x :: l => by
    have e : rowsT rwT (tagR n (x :: l)) = rwT (x, n) :: rowsT rwT (tagR (n + 1) l) := rfl
    rw [e, tagR_rows (n + 1) l, rwT_el, List.map_cons]; simp only [tvRs, saC_nb]
theorem tagR_get : ∀ {n : Nat} {l : List SaR} {i : Nat} {r : Rw}, (tagR n l)[i]? = some r → l[i]? = some r.1 ∧ r.2 = n + i
  | n, [], i, r, h => by simp [tagR] at h
  | n, x :: l, 0, r, h => by simp only [tagR, List.getElem?_cons_zero, Option.some.injEq] at h; subst h; exact ⟨rfl, rfl⟩
  | n, x :: l, i + 1, r, h => by
    simp only [tagR, List.getElem?_cons_succ] at h
    obtain ⟨h1, h2⟩ := tagR_get h
    exact ⟨h1, by omega⟩
theorem tagR_split (n : Nat) (l : List SaR) : ∀ p, p ≤ l.length → rowsT rwT ((tagR n l).take p) = tvRs n ((l.take p).map saC) ∧ rowsT rwT ((tagR n l).drop p) = tvRs (n + p) ((l.drop p).map saC) := by
  induction l generalizing n with
  | nil => intro p hp; obtain rfl : p = 0 := by simpa using hp
           exact ⟨rfl, rfl⟩
  | cons x l ih =>
    intro p hp
    cases p with
    | zero => exact ⟨rfl, tagR_rows n (x :: l)⟩
    | succ p =>
      obtain ⟨h1, h2⟩ := ih (n + 1) p (by simpa using hp)
      refine ⟨?_, ?_⟩
      · have e : rowsT rwT ((tagR n (x :: l)).take (p + 1)) = rwT (x, n) :: rowsT rwT ((tagR (n + 1) l).take p) := rfl
        rw [e, h1, rwT_el, List.take_succ_cons, List.map_cons]; simp only [tvRs, saC_nb]
      · have e : rowsT rwT ((tagR n (x :: l)).drop (p + 1)) = rowsT rwT ((tagR (n + 1) l).drop p) := rfl
        rw [e, h2, List.drop_succ_cons, show n + (p + 1) = n + 1 + p by omega]
theorem bk_get : ∀ {n : Nat} {l : List SaR} {i : Nat} {x : SaR}, l[i]? = some x → (bkRs n (l.map saC))[i]? = some (selB x.sels)
  | n, [], i, x, h => by simp at h
  | n, y :: l, 0, x, h => by
    simp only [List.getElem?_cons_zero, Option.some.injEq] at h; subst h
    simp only [List.map_cons, bkRs, saC_bk, List.cons_append, List.nil_append, List.getElem?_cons_zero]
  | n, y :: l, i + 1, x, h => by
    simp only [List.getElem?_cons_succ] at h
    simp only [List.map_cons, bkRs, saC_bk, List.cons_append, List.nil_append, List.getElem?_cons_succ]
    exact bk_get h
theorem insA_rows (n m : Nat) (l : List SaR) (x : SaR) (p : Nat) (hp : p ≤ l.length) : rowsT rwT (insA (tagR n l) (x, m) p) = tvRs n ((l.take p).map saC) ++ el (tvCs m (saC x)) :: tvRs (n + p) ((l.drop p).map saC) := by
  obtain ⟨h1, h2⟩ := tagR_split n l p hp
  have e : rowsT rwT (insA (tagR n l) (x, m) p) = rowsT rwT ((tagR n l).take p) ++ rwT (x, m) :: rowsT rwT ((tagR n l).drop p) := by simp only [insA, rowsT, List.map_append, List.map_cons]
  rw [e, h1, h2, rwT_el]
theorem bk_split (n : Nat) (l : List SaR) (p : Nat) (hp : p ≤ l.length) : bkRs n (l.map saC) = bkRs n ((l.take p).map saC) ++ bkRs (n + p) ((l.drop p).map saC) := by
  have e : (l.take p).length = p := by rw [List.length_take]; omega
  conv => lhs; rw [← List.take_append_drop p l]
  rw [List.map_append, bkRs_app, saC_nbs, e]
theorem drop_ex {h S A B R : List TB} {k : Nat} (e : h.drop k = S ++ R) (hs : S = A ++ B) : ∃ C, h.drop k = A ++ C := ⟨B ++ R, by rw [e, hs, List.append_assoc]⟩
theorem drop_ex2 {S A B R : List TB} {k n : Nat} (hs : S = A ++ B) (hA : A.length = n) {X0 X1 X2 X3 : TB} : ∃ C, (X0 :: X1 :: X2 :: X3 :: (S ++ R)).drop (4 + n) = B ++ C := ⟨R, by
  rw [show 4 + n = n + 1 + 1 + 1 + 1 by omega]
  simp only [List.drop_succ_cons]
  rw [hs, List.append_assoc]; exact List.drop_left' hA⟩
theorem sortP_add (l : List SaR) (x : SaR) (p : Nat) (X0 X1 X2 X3 M : TB) (g1 : l.length < 12) (hp : p ≤ l.length) (hlo : ∀ i (y : SaR), l[i]? = some y → i < p → y.spi < x.spi) (hat : ∀ y : SaR, l[p]? = some y → x.spi ≤ y.spi) (g3 : l.Pairwise (fun x y => x.spi < y.spi)) (ho : l.findIdx? (fun y => decide (y.spi = x.spi)) = none)
    (b0 : belowB (l.length + 7) X0 = true) (b1 : belowB (l.length + 7) X1 = true) (b2 : belowB (l.length + 7) X2 = true) (b3 : belowB (l.length + 7) X3 = true) (b4 : belowB (l.length + 7) M = true) :
    SortP (l.length + 2 + 1 + 1 + 1 + 1) (X0 :: X1 :: X2 :: X3 :: (bkRs 4 (l.map saC) ++ [selB x.sels, M, .cells 45 11 (tvRs 4 (l.map saC) ++ [rwT (x, l.length + 1 + 1 + 1 + 1)])])) (tagR 4 l) (x, l.length + 1 + 1 + 1 + 1) p := by
  have hS : (bkRs 4 (l.map saC)).length = l.length := by rw [bkRs_len, saC_nbs]
  have hne : ∀ y ∈ l, ¬ y.spi = x.spi := fun y hy => by have := List.findIdx?_eq_none_iff.1 ho y hy; simpa using this
  refine ⟨?_, by rw [tagR_len]; omega, ?_, ?_, by rw [tagR_len]; exact hp, ?_, ?_, ?_, ?_⟩
  · simp only [List.getElem?_cons_succ, seg_at hS]
    have e : rowsT rwT (tagR 4 l ++ [(x, l.length + 1 + 1 + 1 + 1)]) = tvRs 4 (l.map saC) ++ [rwT (x, l.length + 1 + 1 + 1 + 1)] := by rw [← tagR_rows]; simp only [rowsT, List.map_append, List.map_cons, List.map_nil]
    rw [saB, e]; rfl
  · intro r hr
    obtain ⟨i, hi⟩ := List.getElem?_of_mem hr
    obtain ⟨h1, h2⟩ := tagR_get hi
    have hil := (List.getElem?_eq_some_iff.1 h1).1
    refine ⟨?_, by rw [h2]; omega⟩
    rw [h2, show 4 + i = i + 1 + 1 + 1 + 1 by omega]
    simp only [List.getElem?_cons_succ]
    rw [List.getElem?_append_left (by rw [hS]; exact hil)]
    exact bk_get h1
  · refine ⟨?_, by show l.length + 1 + 1 + 1 + 1 ≠ _; omega⟩
    simp only [List.getElem?_cons_succ, seg_at0 hS]; rfl
  · intro i y hy hi
    exact hlo i _ (tagR_get hy).1 hi
  · intro i y hy hi
    have h1 := (tagR_get hy).1
    have hil := (List.getElem?_eq_some_iff.1 h1).1
    obtain ⟨z, hz⟩ := get_ex (l := l) (i := p) (by omega)
    have h2 := hat z hz
    have h3 := hne _ (List.mem_of_getElem? h1)
    rcases Nat.lt_or_ge p i with h | h
    · have := asc_get g3 hz h1 h; show x.spi < _; omega
    · obtain rfl : i = p := by omega
      rw [h1] at hz; cases hz
      show x.spi < _; omega
  · intro i y z hy hz
    exact asc_get g3 (tagR_get hy).1 (tagR_get hz).1 (Nat.lt_succ_self i)
  · have hl : (X0 :: X1 :: X2 :: X3 :: (bkRs 4 (l.map saC) ++ [selB x.sels, M, .cells 45 11 (tvRs 4 (l.map saC) ++ [rwT (x, l.length + 1 + 1 + 1 + 1)])])).length = l.length + 7 := by simp only [List.length_cons, List.length_append, hS, List.length_nil]
    rw [hl]
    have c1 : (bkRs 4 (l.map saC)).all (belowB (l.length + 7)) = true := bkRs_below (by rw [saC_nbs]; omega)
    have c2 : belowB (l.length + 7) (selB x.sels) = true := belowB_at (bkRs_below (m := l.length + 7) (n := 0) (cs := [saC x]) (by simp only [nbRs, saC_nb]; omega)) 0 _ _ _ (by simp only [bkRs, saC_bk]; rfl)
    have c3 : belowB (l.length + 7) (.cells 45 11 (tvRs 4 (l.map saC) ++ [rwT (x, l.length + 1 + 1 + 1 + 1)])) = true := by
      have e : tvRs 4 (l.map saC) ++ [rwT (x, l.length + 1 + 1 + 1 + 1)] = rowsT rwT (tagR 4 l ++ [(x, l.length + 1 + 1 + 1 + 1)]) := by rw [← tagR_rows]; simp only [rowsT, List.map_append, List.map_cons, List.map_nil]
      show belows _ _ = true
      rw [e, below_row]
      intro r hr
      rcases List.mem_append.1 hr with hr | hr
      · obtain ⟨i, hi⟩ := List.getElem?_of_mem hr
        obtain ⟨h1, h2⟩ := tagR_get hi
        have hil := (List.getElem?_eq_some_iff.1 h1).1
        omega
      · simp only [List.mem_singleton] at hr; subst hr; show l.length + 1 + 1 + 1 + 1 < _; omega
    simp only [List.all_cons, List.all_append, List.all_nil, b0, b1, b2, b3, b4, c1, c2, c3, Bool.and_true]
-- impl.AddSa
def c33 : AF := ⟨39,
 (.seq (.reg [rO 3 (.box 45 (.t 1)),
 rO 4 (.alloc 35 [(.int .i64 0), (.slice none 0 0)])])
 (.seq (.seq (.drw [rO 7 (.mv (.t 0)),
 rO 8 (.call 19 [(.t 7)]),
 rO 9 (.ldn 11 (.t 3))] [rO 10 (.call 32 [(.t 9)]),
 rO 11 (.mkS 2 2 [(.int .i64 0), (.int .i64 0)] [(0, 1, (.t 8)), (1, 1, (.t 10))]),
 rO 12 (.call 92 [(.t 11)]),
 rO 5 (.mv (.t 12))])
 (.seq (.reg [rO 13 (.mv (.t 5)),
 rO 14 (.bin .neq (.t 13) (.v (.int .i64 0)))])
 (.cond (.t 14) (.seq (.reg [rO 15 (.mv (.t 5)),
 rO 16 (.build [(.int .i64 0), (.slice none 0 0)] [(0, 1, (.t 15))]),
 ⟨none, none, .st 2 (.t 4) (.t 16)⟩])
 .ret)
 .skip)))
 (.seq (.block 0 (.seq (.reg [rO 18 (.mv (.t 0)),
 rO 19 (.fa (.t 3) 0),
 rO 20 (.ld (.t 19)),
 rO 21 (.call 93 [(.t 18), (.t 20)]),
 rO 22 (.bin .geq (.t 21) (.v (.int .i64 0))),
 rO 17 (.mv (.t 22))])
 (.cond (.t 17) (.seq (.reg [rO 23 (.build [(.int .i64 0), (.slice none 0 0)] [(0, 1, (.v (.int .i64 7)))]),
 ⟨none, none, .st 2 (.t 4) (.t 23)⟩])
 .ret)
 (.seq (.reg [rO 25 (.mv (.t 0)),
 rO 26 (.len (.t 25)),
 rO 27 (.bin .geq (.t 26) (.v (.int .i64 12))),
 rO 24 (.mv (.t 27))])
 (.cond (.t 24) (.seq (.reg [rO 28 (.build [(.int .i64 0), (.slice none 0 0)] [(0, 1, (.v (.int .i64 2)))]),
 ⟨none, none, .st 2 (.t 4) (.t 28)⟩])
 .ret)
 .skip)))))
 (.seq (.drw [rO 29 (.mv (.t 0)),
 ⟨(some 30), none, .call 58 [(.t 29), (.v (.func (.func 94) ⟨[]⟩ ⟨[]⟩))]⟩,
 rO 31 (.ldn 11 (.t 3))] [rO 32 (.call 85 [(.t 31)]),
 rO 33 (.mkS 45 1 [(.int .i64 0), (.int .i64 0), (.int .i64 0), (.bool false), (.int .i64 0), (.int .i64 0), (.int .i64 0), (.int .i64 0), (.int .i64 0), (.int .i64 0), (.slice none 0 0)] [(0, 11, (.t 32))]),
 rO 34 (.app 45 11 104 (.t 30) (.t 33)),
 rO 6 (.mv (.t 34))])
 (.seq (.reg [rO 35 (.mv (.t 6)),
 ⟨(some 36), none, .call 95 [(.t 35), (.v (.func (.func 96) ⟨[]⟩ ⟨[]⟩))]⟩])
 (.seq (.reg [rO 37 (.mv (.t 6)),
 rO 38 (.build [(.int .i64 0), (.slice none 0 0)] [(0, 1, (.v (.int .i64 0))), (1, 1, (.t 37))]),
 ⟨none, none, .st 2 (.t 4) (.t 38)⟩])
 .ret)))))),
 [.cell 4 (some 2)]⟩
theorem k33 : cFn Try.prog Try.f33 = some c33 := by kernel_rfl
theorem addI_ok : OkT Try.prog 33 (pureSp add_S) := by
  refine okT_fn (OkΓT.cons sasFI_ok (OkΓT.cons saFI_ok (OkΓT.cons ffz_ok (OkΓT.cons spiAt_ok (OkΓT.cons keepE_ok (OkΓT.cons cloneSa_ok (OkΓT.cons sort_ok (OkΓT.nil _)))))))) Try.func33 (by kernel_rfl) k33 (fun x _ => ansR_own _) ?_
  rintro ⟨l, x⟩ ⟨⟨h1, h2⟩, h3⟩
  try dsimp only at *
  have hf := sasF_at l ⟨by omega, fun y hy => by have := h2 y hy; omega⟩
  have hx := saF_atx x (by omega)
  have hi := spiI_at l x.spi (by omega)
  have qf : ffz_S [.s [.p (.int .i64 (sasF l)), .p (.int .i64 (saF x))]] = some (.p (.int .i64 (ffz [sasF l, saF x])), []) := ffz_at [sasF l, saF x] (by show 2 ≤ _; decide)
  by_cases hz : sasF l = 0
  case neg =>
    rw [show ffz [sasF l, saF x] = sasF l by simp only [ffz, if_neg hz]] at qf
    rw [addR, if_neg hz, badC_ans]
    (dsimp only [c33, rO]; simp (maxSteps := 8000000) -implicitDefEqProofs (disch := omega) only [↓reduceIte, go_sem, saT, hf, hx, qf, eq_false hz])
    exact endT_v (.inr rfl) (by (simp (maxSteps := 8000000) -implicitDefEqProofs (disch := omega) only [↓reduceIte, go_sem]) <;> rfl) (fun _ => rfl)
  rw [addR, if_pos hz]
  by_cases hy : saF x = 0
  case neg =>
    rw [show ffz [sasF l, saF x] = saF x by simp only [ffz, if_pos hz, if_neg hy]] at qf
    rw [if_neg hy, badC_ans]
    (dsimp only [c33, rO]; simp (maxSteps := 8000000) -implicitDefEqProofs (disch := omega) only [↓reduceIte, go_sem, saT, hf, hx, qf, eq_false hy])
    exact endT_v (.inr rfl) (by (simp (maxSteps := 8000000) -implicitDefEqProofs (disch := omega) only [↓reduceIte, go_sem]) <;> rfl) (fun _ => rfl)
  rw [if_pos hy]
  rw [show ffz [sasF l, saF x] = 0 by simp only [ffz, if_pos hz, if_pos hy]] at qf
  obtain ⟨g1, g2, g3⟩ := sasF_zero hz
  have hp := pA_le l x.spi
  have hlo := fun i y => pA_lo (l := l) (s := x.spi) (i := i) (y := y)
  have hat := fun y => pA_at (l := l) (s := x.spi) (y := y)
  generalize hP : pA l x.spi = p at *
  cases ho : l.findIdx? (fun y => decide (y.spi = x.spi)) with
  | some k =>
    rw [ho] at hi; simp only [idxV] at hi
    dsimp only
    rw [badC_ans]
    (dsimp only [c33, rO]; simp (maxSteps := 8000000) -implicitDefEqProofs (disch := omega) only [↓reduceIte, go_sem, saT, hf, hx, qf, hi, eq_true (show (k : Int) ≥ 0 by omega)])
    exact endT_v (.inr rfl) (by (simp (maxSteps := 8000000) -implicitDefEqProofs (disch := omega) only [↓reduceIte, go_sem]) <;> rfl) (fun _ => rfl)
  | none =>
    rw [ho] at hi; simp only [idxV] at hi
    dsimp only
    by_cases c12 : l.length ≥ 12
    · rw [if_pos c12, badC_ans]
      (dsimp only [c33, rO]; simp (maxSteps := 8000000) -implicitDefEqProofs (disch := omega) only [↓reduceIte, go_sem, saT, hf, hx, qf, hi, eq_true (show (l.length : Int) ≥ 12 by omega)])
      exact endT_v (.inr rfl) (by (simp (maxSteps := 8000000) -implicitDefEqProofs (disch := omega) only [↓reduceIte, go_sem]) <;> rfl) (fun _ => rfl)
    rw [if_neg c12]
    have hk := keepE_at l ⟨g1, fun y hy => (saF_zero (g2 y hy)).2.2.2⟩
    rw [keepK] at hk
    have hc := (saF_zero hy).2.2.2
    obtain ⟨S, eS, hS⟩ := sas_S 4 l
    obtain ⟨E, eE, hE⟩ := sas_E 4 l
    have hEt : E.take l.length = E := List.take_of_length_le (by omega)
    (dsimp only [c33, rO]; simp (maxSteps := 8000000) -implicitDefEqProofs (disch := omega) only [↓reduceIte, go_sem, saT, hf, hx, qf, hi, hk, copy_at, sized_sa, zOf_or, ren_m_tvRs, ren_m_bkRs, eS, eE, hS, hE, hEt, fun R k => seg_at (R := R) hS k, fun R => seg_at0 (R := R) hS, eq_false (show ¬ (l.length : Int) ≥ 12 by omega)])
    have hP2 := fun X0 X1 X2 X3 M => sortP_add l x p X0 X1 X2 X3 M (by omega) hp hlo hat g3 ho
    rw [eS, eE] at hP2
    simp only [rwT] at hP2
    have hM : belowB (l.length + 7) (TB.cells 45 11 [.agg [.p (.int .i64 x.spi), .p (.int .i64 x.peer), .p (.int .i64 x.key), .p (.bool x.inn), .p (.int .i64 x.sent), .p (.int .i64 x.top), .p (.int .i64 x.bits), .p (.int .i64 x.byt), .p (.int .i64 x.hard), .p (.int .i64 x.til), .os (l.length + 1 + 1 + 1 + 1) 0 x.sels.length]]) = true := by
      simp only [belowB, belows, below, Bool.and_true, Bool.true_and, decide_eq_true_eq]; omega
    have hset : ∀ (a b c d : TB), (S ++ [a, b, c]).set (l.length + 2) d = S ++ [a, b, d] := fun a b c d => by rw [List.set_append_right _ _ (by omega), hS, show l.length + 2 - l.length = 2 by omega]; rfl
    refine mutQ_call (by simp (maxSteps := 8000000) -implicitDefEqProofs (disch := omega) only [↓reduceIte, go_sem]) (by simp (maxSteps := 8000000) -implicitDefEqProofs (disch := omega) only [↓reduceIte, go_sem, tagR_len]) ((hP2 _ _ _ _ _ rfl rfl rfl rfl hM).mut (F := sortQ) ?_ ⟨_, _, _, _, rfl, hP2 _ _ _ _ _ rfl rfl rfl rfl hM, rfl, rfl⟩) ?_
    · simp only [belows, below, Bool.and_true, decide_eq_true_eq, List.length_cons, List.length_append, List.length_nil, hS]; omega
    simp (maxSteps := 8000000) -implicitDefEqProofs (disch := omega) only [↓reduceIte, go_sem, List.set_cons_succ, hset]
    refine endT_mk (.inr rfl) (by (simp (maxSteps := 8000000) -implicitDefEqProofs (disch := omega) only [↓reduceIte, go_sem]) <;> rfl) (le_ins (l.length + 2 + 1 + 1 + 1 + 1) (l.length + 1 + 1 + 1 + 1) 4 (4 + p) hp ?_ ?_ ?_ ?_ ?_ (fun _ => rfl))
    · simp only [List.getElem?_cons_succ, seg_at hS]
      rw [← insA_rows 4 (l.length + 1 + 1 + 1 + 1) l x p hp]; rfl
    · exact drop_ex (S := S) (R := [_, _, _]) rfl (eS.symm.trans (bk_split 4 l p hp))
    · simp only [List.getElem?_cons_succ, seg_at0 hS, List.getElem?_cons_zero]
    · exact drop_ex2 (k := 0) (eS.symm.trans (bk_split 4 l p hp)) (by rw [bkRs_len, saC_nbs, List.length_take]; omega)
    · simp only [segOk, segApart, List.length_cons, List.length_append, hS, List.length_nil]
      repeat' first | exact True.intro | omega | apply And.intro
end Go.Proofs.Ytghpdclhhnbgjaa
