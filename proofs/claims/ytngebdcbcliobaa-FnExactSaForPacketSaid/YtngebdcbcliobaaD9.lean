import Derived.Test.YtngebdcbcliobaaD8
set_option linter.unusedSimpArgs false
set_option linter.unusedVariables false
set_option maxRecDepth 100000
set_option maxHeartbeats 4000000
namespace Go.Proofs.Ytngebdcbcliobaa
open Go Go.AH
attribute [local irreducible] awpT ropsT qopsT stepT condKT gdKT EndT joinK loopKT seqKT blkKT kont kontR
noncomputable def findQ_Sa {β : Type} (f : Nat) (cap : β → List TV) (p : β → SaR → Bool) (Pre : SaR → β → Prop) := specP (fun x : List SaR × β => [.s (rowsT saT x.1), .fn f (cap x.2)]) (fun x => x.1.length ≤ 140737488355328 ∧ ∀ y ∈ x.1, Pre y x.2) (fun x => (.p (.int .i64 (idxV (x.1.findIdx? (p x.2)))), []))
noncomputable def asksQ_Sa {β : Type} (cap : β → List TV) (p : β → SaR → Bool) (Pre : SaR → β → Prop) := specP (fun x : SaR × β => saT x.1 :: cap x.2) (fun x => Pre x.1 x.2) (fun x => (.p (.bool (p x.2 x.1)), []))
theorem findQ_Sa_at {β : Type} {f : Nat} {cap : β → List TV} {p : β → SaR → Bool} {Pre : SaR → β → Prop} (hcap : ∀ x y, cap x = cap y → x = y) (l : List SaR) (b : β) (h : l.length ≤ 140737488355328) (hp : ∀ y ∈ l, Pre y b) : findQ_Sa f cap p Pre [.s (rowsT saT l), .fn f (cap b)] = some (.p (.int .i64 (idxV (l.findIdx? (p b)))), []) :=
  specP_at (enc := fun x : List SaR × β => [.s (rowsT saT x.1), .fn f (cap x.2)]) (by rintro ⟨a, b⟩ ⟨a', b'⟩ h; simp at h; simp [sas_inj h.1, hcap _ _ h.2]) (l, b) ⟨h, hp⟩
theorem findQ_Sa_ok {β : Type} {f : Nat} {cap : β → List TV} {p : β → SaR → Bool} {Pre : SaR → β → Prop} (hcap : ∀ x y, cap x = cap y → x = y) (hfr : ∀ h n x, (cap x).map (frzT h n) = cap x) (ok : OkT Try.prog f (pureSp (asksQ_Sa cap p Pre))) : OkT Try.prog 166 (pureSp (findQ_Sa f cap p Pre)) := by
  have hat : ∀ (x : SaR) (b : β), Pre x b → asksQ_Sa cap p Pre (saT x :: cap b) = some (.p (.bool (p b x)), []) := fun x b h =>
    specP_at (enc := fun x : SaR × β => saT x.1 :: cap x.2) (by rintro ⟨a, b⟩ ⟨a', b'⟩ h; simp at h; simp [saT_inj _ _ h.1, hcap _ _ h.2]) (x, b) h
  refine okT_fn (OkΓT.cons ok (OkΓT.nil _)) Try.func166 (by kernel_rfl) k166 (fun x _ => ⟨rfl, rfl⟩) ?_
  rintro ⟨l, b⟩ ⟨hl, hpre⟩
  dsimp only at *
  (dsimp only [c166]; simp (maxSteps := 8000000) (implicitDefEqProofs := false) (disch := omega) only [↓reduceIte, go_sem, if_pos, if_neg])
  refine awpT_loop (α := Nat) (fun i => ⟨slots [(0, .s (rowsT saT l)), (1, .fn f (cap b)), (7, .p (.int .i64 l.length)), (8, .p (.int .i64 i))], []⟩) (fun i => i ≤ l.length ∧ ∀ j y, j < i → l[j]? = some y → p b y = false) (fun i => l.length - i) 0 ⟨by omega, fun j y hj => absurd hj (by omega)⟩ (le_keep (Nat.zero_le _) (by simp (maxSteps := 8000000) (implicitDefEqProofs := false) (disch := omega) only [↓reduceIte, go_sem, if_pos, if_neg, slotsIn])) ?_
  intro i ⟨hi, hn⟩
  simp (maxSteps := 8000000) (implicitDefEqProofs := false) (disch := omega) only [↓reduceIte, go_sem, if_pos, if_neg]
  refine condKT_dec (fun hlt => ?_) (fun hge => ?_)
  · obtain ⟨x, hx⟩ := get_ex (l := l) (i := i) (by omega)
    have hx2 := hat x b (hpre x (List.mem_of_getElem? hx))
    simp only [saT] at hx2
    by_cases hs : p b x = true
    · rw [find_some hx hs hn]
      dsimp only [idxV]
      simp (maxSteps := 8000000) (implicitDefEqProofs := false) (disch := omega) only [↓reduceIte, go_sem, if_pos, if_neg, hx, saT, eq_true hlt, hfr, hx2, hs]
      repeat' first
        | (refine gdKT_dec (fun hg => ?_) (fun hg => ?_) <;> (try (first | simp (maxSteps := 8000000) (implicitDefEqProofs := false) (disch := omega) only [↓reduceIte, go_sem, if_pos, if_neg, eq_false hg, hx, saT, eq_true hlt, hfr, hx2, hs] | simp (maxSteps := 8000000) (implicitDefEqProofs := false) (disch := omega) only [↓reduceIte, go_sem, if_pos, if_neg, eq_true hg, hx, saT, eq_true hlt, hfr, hx2, hs])))
        | (refine condKT_dec (fun hg => ?_) (fun hg => ?_) <;> (try (first | simp (maxSteps := 8000000) (implicitDefEqProofs := false) (disch := omega) only [↓reduceIte, go_sem, if_pos, if_neg, eq_false hg, hx, saT, eq_true hlt, hfr, hx2, hs] | simp (maxSteps := 8000000) (implicitDefEqProofs := false) (disch := omega) only [↓reduceIte, go_sem, if_pos, if_neg, eq_true hg, hx, saT, eq_true hlt, hfr, hx2, hs])))
        | (refine gdKT_split (fun hg => ?_) (fun hg => ?_) <;> (try simp (maxSteps := 8000000) (implicitDefEqProofs := false) (disch := omega) only [↓reduceIte, go_sem, if_pos, if_neg, hg, hx, saT, eq_true hlt, hfr, hx2, hs]))
        | (refine condKT_split (fun hg => ?_) (fun hg => ?_) <;> (try simp (maxSteps := 8000000) (implicitDefEqProofs := false) (disch := omega) only [↓reduceIte, go_sem, if_pos, if_neg, hg, hx, saT, eq_true hlt, hfr, hx2, hs]))
        | (refine endT_p (.inr rfl) (by simp (maxSteps := 8000000) (implicitDefEqProofs := false) (disch := omega) only [↓reduceIte, go_sem, if_pos, if_neg, hx, saT, eq_true hlt, hfr, hx2, hs]; rfl) ?_; (first | exact vb_true (by omega) | exact vb_false (by omega) | exact vb_dec (by omega) | exact vi_eq (by omega) | rfl | (refine vi_eq ?_; simp_all; done) | (refine vi_eq ?_; simp_all; omega) | (refine vi_eq ?_; simp_all; intros; omega)))
        | exact endT_v (.inr rfl) (by simp (maxSteps := 8000000) (implicitDefEqProofs := false) (disch := omega) only [↓reduceIte, go_sem, if_pos, if_neg, hx, saT, eq_true hlt, hfr, hx2, hs]; try rfl) (fun _ => rfl)
    · have hs' : p b x = false := by simpa using hs
      simp (maxSteps := 8000000) (implicitDefEqProofs := false) (disch := omega) only [↓reduceIte, go_sem, if_pos, if_neg, hx, saT, eq_true hlt, hfr, hx2, hs']
      refine loopKT_next (i + 1) ⟨by omega, none_snoc hx hs' hn⟩ (by omega) ?_
      exact le_keep (Nat.zero_le _) (by simp (maxSteps := 8000000) (implicitDefEqProofs := false) (disch := omega) only [↓reduceIte, go_sem, if_pos, if_neg, slotsIn])
  · rw [find_none (fun j y hj => hn j y (by omega))]
    dsimp only [idxV]
    simp (maxSteps := 8000000) (implicitDefEqProofs := false) (disch := omega) only [↓reduceIte, go_sem, if_pos, if_neg, eq_false hge]
    refine joinK_here ?_
    simp (maxSteps := 8000000) (implicitDefEqProofs := false) (disch := omega) only [↓reduceIte, go_sem, if_pos, if_neg]
    repeat' first
      | (refine gdKT_dec (fun hg => ?_) (fun hg => ?_) <;> (try (first | simp (maxSteps := 8000000) (implicitDefEqProofs := false) (disch := omega) only [↓reduceIte, go_sem, if_pos, if_neg, eq_false hg] | simp (maxSteps := 8000000) (implicitDefEqProofs := false) (disch := omega) only [↓reduceIte, go_sem, if_pos, if_neg, eq_true hg])))
      | (refine condKT_dec (fun hg => ?_) (fun hg => ?_) <;> (try (first | simp (maxSteps := 8000000) (implicitDefEqProofs := false) (disch := omega) only [↓reduceIte, go_sem, if_pos, if_neg, eq_false hg] | simp (maxSteps := 8000000) (implicitDefEqProofs := false) (disch := omega) only [↓reduceIte, go_sem, if_pos, if_neg, eq_true hg])))
      | (refine gdKT_split (fun hg => ?_) (fun hg => ?_) <;> (try simp (maxSteps := 8000000) (implicitDefEqProofs := false) (disch := omega) only [↓reduceIte, go_sem, if_pos, if_neg, hg]))
      | (refine condKT_split (fun hg => ?_) (fun hg => ?_) <;> (try simp (maxSteps := 8000000) (implicitDefEqProofs := false) (disch := omega) only [↓reduceIte, go_sem, if_pos, if_neg, hg]))
      | (refine endT_p (.inr rfl) (by simp (maxSteps := 8000000) (implicitDefEqProofs := false) (disch := omega) only [↓reduceIte, go_sem, if_pos, if_neg]; rfl) ?_; (first | exact vb_true (by omega) | exact vb_false (by omega) | exact vb_dec (by omega) | exact vi_eq (by omega) | rfl | (refine vi_eq ?_; simp_all; done) | (refine vi_eq ?_; simp_all; omega) | (refine vi_eq ?_; simp_all; intros; omega)))
      | exact endT_v (.inr rfl) (by simp (maxSteps := 8000000) (implicitDefEqProofs := false) (disch := omega) only [↓reduceIte, go_sem, if_pos, if_neg]; try rfl) (fun _ => rfl)
noncomputable def findQ_Sel {β : Type} (f : Nat) (cap : β → List TV) (p : β → SlR → Bool) (Pre : SlR → β → Prop) := specP (fun x : List SlR × β => [.s (rowsT slT x.1), .fn f (cap x.2)]) (fun x => x.1.length ≤ 140737488355328 ∧ ∀ y ∈ x.1, Pre y x.2) (fun x => (.p (.int .i64 (idxV (x.1.findIdx? (p x.2)))), []))
noncomputable def asksQ_Sel {β : Type} (cap : β → List TV) (p : β → SlR → Bool) (Pre : SlR → β → Prop) := specP (fun x : SlR × β => slT x.1 :: cap x.2) (fun x => Pre x.1 x.2) (fun x => (.p (.bool (p x.2 x.1)), []))
theorem findQ_Sel_at {β : Type} {f : Nat} {cap : β → List TV} {p : β → SlR → Bool} {Pre : SlR → β → Prop} (hcap : ∀ x y, cap x = cap y → x = y) (l : List SlR) (b : β) (h : l.length ≤ 140737488355328) (hp : ∀ y ∈ l, Pre y b) : findQ_Sel f cap p Pre [.s (rowsT slT l), .fn f (cap b)] = some (.p (.int .i64 (idxV (l.findIdx? (p b)))), []) :=
  specP_at (enc := fun x : List SlR × β => [.s (rowsT slT x.1), .fn f (cap x.2)]) (by rintro ⟨a, b⟩ ⟨a', b'⟩ h; simp at h; simp [sls_inj h.1, hcap _ _ h.2]) (l, b) ⟨h, hp⟩
-- slices.IndexFunc[[]impl.Sel,impl.Sel]
def c209 : AF := ⟨19,
  (.seq (.reg [⟨(some 4), none, .mv (.v (.int .i64 0))⟩])
  (.seq (.seq (.reg [⟨(some 6), none, .mv (.t 0)⟩,
   ⟨(some 7), none, .len (.t 6)⟩,
   ⟨(some 8), none, .mv (.v (.int .i64 0))⟩])
  (.block 0 (.loop (.seq (.reg [⟨(some 9), none, .bin .lss (.t 8) (.t 7)⟩])
  (.seq (.cond (.t 9) .skip
  (.exit 0))
  (.seq (.block 1 (.seq (.reg [⟨(some 10), none, .mv (.t 8)⟩,
   ⟨(some 5), none, .mv (.t 10)⟩])
  (.seq (.reg [⟨(some 11), none, .mv (.t 1)⟩,
   ⟨(some 12), none, .mv (.t 0)⟩,
   ⟨(some 13), none, .mv (.t 5)⟩,
   ⟨(some 14), none, .ia 9 (.t 12) (.t 13)⟩,
   ⟨(some 15), none, .ldn 9 (.t 14)⟩,
   ⟨(some 16), none, .callv (.t 11) [(.t 15)]⟩])
  (.cond (.t 16) (.seq (.reg [⟨(some 17), none, .mv (.t 5)⟩,
   ⟨(some 4), none, .mv (.t 17)⟩])
  .ret)
  .skip))))
  (.reg [⟨(some 18), none, .bin .add (.t 8) (.v (.int .i64 1))⟩,
   ⟨(some 8), none, .mv (.t 18)⟩])))))))
  (.seq (.reg [⟨(some 4), none, .mv (.v (.int .i64 (-1)))⟩])
  .ret))),
  [.t 4]⟩
theorem k209 : cFn Try.prog Try.f209 = some c209 := by kernel_rfl
theorem findQ_Sel_ok {β : Type} {f : Nat} {cap : β → List TV} {p : β → SlR → Bool} {Pre : SlR → β → Prop} (hcap : ∀ x y, cap x = cap y → x = y) (hfr : ∀ h n x, (cap x).map (frzT h n) = cap x) (ok : OkT Try.prog f (pureSp (asksQ_Sel cap p Pre))) : OkT Try.prog 209 (pureSp (findQ_Sel f cap p Pre)) := by
  have hat : ∀ (x : SlR) (b : β), Pre x b → asksQ_Sel cap p Pre (slT x :: cap b) = some (.p (.bool (p b x)), []) := fun x b h =>
    specP_at (enc := fun x : SlR × β => slT x.1 :: cap x.2) (by rintro ⟨a, b⟩ ⟨a', b'⟩ h; simp at h; simp [slT_inj _ _ h.1, hcap _ _ h.2]) (x, b) h
  refine okT_fn (OkΓT.cons ok (OkΓT.nil _)) Try.func209 (by kernel_rfl) k209 (fun x _ => ⟨rfl, rfl⟩) ?_
  rintro ⟨l, b⟩ ⟨hl, hpre⟩
  dsimp only at *
  (dsimp only [c209]; simp (maxSteps := 8000000) (implicitDefEqProofs := false) (disch := omega) only [↓reduceIte, go_sem, if_pos, if_neg])
  refine awpT_loop (α := Nat) (fun i => ⟨slots [(0, .s (rowsT slT l)), (1, .fn f (cap b)), (7, .p (.int .i64 l.length)), (8, .p (.int .i64 i))], []⟩) (fun i => i ≤ l.length ∧ ∀ j y, j < i → l[j]? = some y → p b y = false) (fun i => l.length - i) 0 ⟨by omega, fun j y hj => absurd hj (by omega)⟩ (le_keep (Nat.zero_le _) (by simp (maxSteps := 8000000) (implicitDefEqProofs := false) (disch := omega) only [↓reduceIte, go_sem, if_pos, if_neg, slotsIn])) ?_
  intro i ⟨hi, hn⟩
  simp (maxSteps := 8000000) (implicitDefEqProofs := false) (disch := omega) only [↓reduceIte, go_sem, if_pos, if_neg]
  refine condKT_dec (fun hlt => ?_) (fun hge => ?_)
  · obtain ⟨x, hx⟩ := get_ex (l := l) (i := i) (by omega)
    have hx2 := hat x b (hpre x (List.mem_of_getElem? hx))
    simp only [slT] at hx2
    by_cases hs : p b x = true
    · rw [find_some hx hs hn]
      dsimp only [idxV]
      simp (maxSteps := 8000000) (implicitDefEqProofs := false) (disch := omega) only [↓reduceIte, go_sem, if_pos, if_neg, hx, slT, eq_true hlt, hfr, hx2, hs]
      repeat' first
        | (refine gdKT_dec (fun hg => ?_) (fun hg => ?_) <;> (try (first | simp (maxSteps := 8000000) (implicitDefEqProofs := false) (disch := omega) only [↓reduceIte, go_sem, if_pos, if_neg, eq_false hg, hx, slT, eq_true hlt, hfr, hx2, hs] | simp (maxSteps := 8000000) (implicitDefEqProofs := false) (disch := omega) only [↓reduceIte, go_sem, if_pos, if_neg, eq_true hg, hx, slT, eq_true hlt, hfr, hx2, hs])))
        | (refine condKT_dec (fun hg => ?_) (fun hg => ?_) <;> (try (first | simp (maxSteps := 8000000) (implicitDefEqProofs := false) (disch := omega) only [↓reduceIte, go_sem, if_pos, if_neg, eq_false hg, hx, slT, eq_true hlt, hfr, hx2, hs] | simp (maxSteps := 8000000) (implicitDefEqProofs := false) (disch := omega) only [↓reduceIte, go_sem, if_pos, if_neg, eq_true hg, hx, slT, eq_true hlt, hfr, hx2, hs])))
        | (refine gdKT_split (fun hg => ?_) (fun hg => ?_) <;> (try simp (maxSteps := 8000000) (implicitDefEqProofs := false) (disch := omega) only [↓reduceIte, go_sem, if_pos, if_neg, hg, hx, slT, eq_true hlt, hfr, hx2, hs]))
        | (refine condKT_split (fun hg => ?_) (fun hg => ?_) <;> (try simp (maxSteps := 8000000) (implicitDefEqProofs := false) (disch := omega) only [↓reduceIte, go_sem, if_pos, if_neg, hg, hx, slT, eq_true hlt, hfr, hx2, hs]))
        | (refine endT_p (.inr rfl) (by simp (maxSteps := 8000000) (implicitDefEqProofs := false) (disch := omega) only [↓reduceIte, go_sem, if_pos, if_neg, hx, slT, eq_true hlt, hfr, hx2, hs]; rfl) ?_; (first | exact vb_true (by omega) | exact vb_false (by omega) | exact vb_dec (by omega) | exact vi_eq (by omega) | rfl | (refine vi_eq ?_; simp_all; done) | (refine vi_eq ?_; simp_all; omega) | (refine vi_eq ?_; simp_all; intros; omega)))
        | exact endT_v (.inr rfl) (by simp (maxSteps := 8000000) (implicitDefEqProofs := false) (disch := omega) only [↓reduceIte, go_sem, if_pos, if_neg, hx, slT, eq_true hlt, hfr, hx2, hs]; try rfl) (fun _ => rfl)
    · have hs' : p b x = false := by simpa using hs
      simp (maxSteps := 8000000) (implicitDefEqProofs := false) (disch := omega) only [↓reduceIte, go_sem, if_pos, if_neg, hx, slT, eq_true hlt, hfr, hx2, hs']
      refine loopKT_next (i + 1) ⟨by omega, none_snoc hx hs' hn⟩ (by omega) ?_
      exact le_keep (Nat.zero_le _) (by simp (maxSteps := 8000000) (implicitDefEqProofs := false) (disch := omega) only [↓reduceIte, go_sem, if_pos, if_neg, slotsIn])
  · rw [find_none (fun j y hj => hn j y (by omega))]
    dsimp only [idxV]
    simp (maxSteps := 8000000) (implicitDefEqProofs := false) (disch := omega) only [↓reduceIte, go_sem, if_pos, if_neg, eq_false hge]
    refine joinK_here ?_
    simp (maxSteps := 8000000) (implicitDefEqProofs := false) (disch := omega) only [↓reduceIte, go_sem, if_pos, if_neg]
    repeat' first
      | (refine gdKT_dec (fun hg => ?_) (fun hg => ?_) <;> (try (first | simp (maxSteps := 8000000) (implicitDefEqProofs := false) (disch := omega) only [↓reduceIte, go_sem, if_pos, if_neg, eq_false hg] | simp (maxSteps := 8000000) (implicitDefEqProofs := false) (disch := omega) only [↓reduceIte, go_sem, if_pos, if_neg, eq_true hg])))
      | (refine condKT_dec (fun hg => ?_) (fun hg => ?_) <;> (try (first | simp (maxSteps := 8000000) (implicitDefEqProofs := false) (disch := omega) only [↓reduceIte, go_sem, if_pos, if_neg, eq_false hg] | simp (maxSteps := 8000000) (implicitDefEqProofs := false) (disch := omega) only [↓reduceIte, go_sem, if_pos, if_neg, eq_true hg])))
      | (refine gdKT_split (fun hg => ?_) (fun hg => ?_) <;> (try simp (maxSteps := 8000000) (implicitDefEqProofs := false) (disch := omega) only [↓reduceIte, go_sem, if_pos, if_neg, hg]))
      | (refine condKT_split (fun hg => ?_) (fun hg => ?_) <;> (try simp (maxSteps := 8000000) (implicitDefEqProofs := false) (disch := omega) only [↓reduceIte, go_sem, if_pos, if_neg, hg]))
      | (refine endT_p (.inr rfl) (by simp (maxSteps := 8000000) (implicitDefEqProofs := false) (disch := omega) only [↓reduceIte, go_sem, if_pos, if_neg]; rfl) ?_; (first | exact vb_true (by omega) | exact vb_false (by omega) | exact vb_dec (by omega) | exact vi_eq (by omega) | rfl | (refine vi_eq ?_; simp_all; done) | (refine vi_eq ?_; simp_all; omega) | (refine vi_eq ?_; simp_all; intros; omega)))
      | exact endT_v (.inr rfl) (by simp (maxSteps := 8000000) (implicitDefEqProofs := false) (disch := omega) only [↓reduceIte, go_sem, if_pos, if_neg]; try rfl) (fun _ => rfl)
/-! Whether one of them holds -/
def capP (p : PkR) : List TV := [.fe (pkT p) 0]
theorem capP_inj : ∀ x y, capP x = capP y → x = y := by intro x y h; simp [capP] at h; exact pkT_inj _ _ h
theorem capP_frz (h : THeap) (n : Nat) (x : PkR) : (capP x).map (frzT h n) = capP x := by simp only [capP, List.map_cons, List.map_nil, frz_fe]
def hold1 (p : PkR) (x : SlR) : Bool := decide (holdsP x p)
abbrev hold1P (x : SlR) (p : PkR) : Prop := selF x = 0 ∧ pkF p = 0
noncomputable def hold_S := specP (fun x : SlR × PkR => [slT x.1, pkT x.2]) (fun x => hold1P x.1 x.2) (fun x => (.p (.bool (decide (holdsP x.1 x.2))), []))
-- impl.Holds
def c185 : AF := ⟨18,
  (.seq (.reg [⟨(some 2), none, .box 155 (.t 0)⟩,
   ⟨(some 3), none, .box 68 (.t 1)⟩,
   ⟨(some 4), none, .mv (.v (.bool false))⟩])
  (.seq (.reg [⟨(some 5), none, .ldn 9 (.t 2)⟩,
   ⟨(some 6), none, .call 146 [(.t 5)]⟩,
   ⟨(some 7), none, .bin .eql (.t 6) (.v (.int .i64 0))⟩,
   ⟨(some 8), none, .mv (.t 7)⟩,
   ⟨(some 9), (some (8, true)), .ldn 7 (.t 3)⟩,
   ⟨(some 10), (some (8, true)), .call 102 [(.t 9)]⟩,
   ⟨(some 11), (some (8, true)), .bin .eql (.t 10) (.v (.int .i64 0))⟩,
   ⟨(some 12), none, .pick (.t 8) (.t 11) (.v (.bool false))⟩,
   ⟨(some 13), none, .mv (.t 12)⟩,
   ⟨(some 14), (some (13, true)), .ldn 9 (.t 2)⟩,
   ⟨(some 15), (some (13, true)), .ldn 7 (.t 3)⟩,
   ⟨(some 16), (some (13, true)), .call 210 [(.t 14), (.t 15)]⟩,
   ⟨(some 17), none, .pick (.t 13) (.t 16) (.v (.bool false))⟩,
   ⟨(some 4), none, .mv (.t 17)⟩])
  .ret)),
  [.t 4]⟩
theorem k185 : cFn Try.prog Try.f185 = some c185 := by kernel_rfl
theorem Holds_ok : OkT Try.prog 185 (pureSp hold_S) := by
  refine okT_fn (OkΓT.cons selFI_ok (OkΓT.cons pkFI_ok (OkΓT.cons holdsI_ok (OkΓT.nil _)))) Try.func185 (by kernel_rfl) k185 (fun x _ => ⟨rfl, rfl⟩) ?_
  rintro ⟨x, p⟩ ⟨h1, h2⟩
  dsimp only at *
  have e1 := selF_atx x; have e2 := pkF_at p; have e3 := holds_at x p
  rw [h1] at e1; rw [h2] at e2
  dsimp only [slT, pkT] at *
  (dsimp only [c185]; simp (maxSteps := 8000000) (implicitDefEqProofs := false) (disch := omega) only [↓reduceIte, go_sem, if_pos, if_neg, e1, e2, e3])
  repeat' first
    | (refine gdKT_dec (fun hg => ?_) (fun hg => ?_) <;> (try (first | simp (maxSteps := 8000000) (implicitDefEqProofs := false) (disch := omega) only [↓reduceIte, go_sem, if_pos, if_neg, eq_false hg, e1, e2, e3] | simp (maxSteps := 8000000) (implicitDefEqProofs := false) (disch := omega) only [↓reduceIte, go_sem, if_pos, if_neg, eq_true hg, e1, e2, e3])))
    | (refine condKT_dec (fun hg => ?_) (fun hg => ?_) <;> (try (first | simp (maxSteps := 8000000) (implicitDefEqProofs := false) (disch := omega) only [↓reduceIte, go_sem, if_pos, if_neg, eq_false hg, e1, e2, e3] | simp (maxSteps := 8000000) (implicitDefEqProofs := false) (disch := omega) only [↓reduceIte, go_sem, if_pos, if_neg, eq_true hg, e1, e2, e3])))
    | (refine gdKT_split (fun hg => ?_) (fun hg => ?_) <;> (try simp (maxSteps := 8000000) (implicitDefEqProofs := false) (disch := omega) only [↓reduceIte, go_sem, if_pos, if_neg, hg, e1, e2, e3]))
    | (refine condKT_split (fun hg => ?_) (fun hg => ?_) <;> (try simp (maxSteps := 8000000) (implicitDefEqProofs := false) (disch := omega) only [↓reduceIte, go_sem, if_pos, if_neg, hg, e1, e2, e3]))
    | (refine endT_p (.inr rfl) (by simp (maxSteps := 8000000) (implicitDefEqProofs := false) (disch := omega) only [↓reduceIte, go_sem, if_pos, if_neg, e1, e2, e3]; rfl) ?_; (first | exact vb_true (by omega) | exact vb_false (by omega) | exact vb_dec (by omega) | exact vi_eq (by omega) | rfl | (refine vi_eq ?_; simp_all; done) | (refine vi_eq ?_; simp_all; omega) | (refine vi_eq ?_; simp_all; intros; omega)))
    | exact endT_v (.inr rfl) (by simp (maxSteps := 8000000) (implicitDefEqProofs := false) (disch := omega) only [↓reduceIte, go_sem, if_pos, if_neg, e1, e2, e3]; try rfl) (fun _ => rfl)
-- impl.HoldsAny$1
def c184 : AF := ⟨7,
  (.seq (.reg [⟨(some 2), none, .box 155 (.t 0)⟩,
   ⟨(some 3), none, .mv (.v (.bool false))⟩])
  (.seq (.reg [⟨(some 4), none, .ldn 9 (.t 2)⟩,
   ⟨(some 5), none, .ldn 7 (.t 1)⟩,
   ⟨(some 6), none, .call 185 [(.t 4), (.t 5)]⟩,
   ⟨(some 3), none, .mv (.t 6)⟩])
  .ret)),
  [.t 3]⟩
theorem k184 : cFn Try.prog Try.f184 = some c184 := by kernel_rfl
theorem Holds1_ok : OkT Try.prog 184 (pureSp (asksQ_Sel capP hold1 hold1P)) := by
  refine okT_fn (OkΓT.cons Holds_ok (OkΓT.nil _)) Try.func184 (by kernel_rfl) k184 (fun x _ => ⟨rfl, rfl⟩) ?_
  rintro ⟨x, p⟩ h
  dsimp only at *
  have e3 : hold_S [slT x, pkT p] = some (.p (.bool (decide (holdsP x p))), []) := specP_at (enc := fun x : SlR × PkR => [slT x.1, pkT x.2]) slpk_inj (x, p) h
  dsimp only [slT, pkT, capP, hold1] at *
  (dsimp only [c184]; simp (maxSteps := 8000000) (implicitDefEqProofs := false) (disch := omega) only [↓reduceIte, go_sem, if_pos, if_neg, e3])
  repeat' first
    | (refine gdKT_dec (fun hg => ?_) (fun hg => ?_) <;> (try (first | simp (maxSteps := 8000000) (implicitDefEqProofs := false) (disch := omega) only [↓reduceIte, go_sem, if_pos, if_neg, eq_false hg, e3] | simp (maxSteps := 8000000) (implicitDefEqProofs := false) (disch := omega) only [↓reduceIte, go_sem, if_pos, if_neg, eq_true hg, e3])))
    | (refine condKT_dec (fun hg => ?_) (fun hg => ?_) <;> (try (first | simp (maxSteps := 8000000) (implicitDefEqProofs := false) (disch := omega) only [↓reduceIte, go_sem, if_pos, if_neg, eq_false hg, e3] | simp (maxSteps := 8000000) (implicitDefEqProofs := false) (disch := omega) only [↓reduceIte, go_sem, if_pos, if_neg, eq_true hg, e3])))
    | (refine gdKT_split (fun hg => ?_) (fun hg => ?_) <;> (try simp (maxSteps := 8000000) (implicitDefEqProofs := false) (disch := omega) only [↓reduceIte, go_sem, if_pos, if_neg, hg, e3]))
    | (refine condKT_split (fun hg => ?_) (fun hg => ?_) <;> (try simp (maxSteps := 8000000) (implicitDefEqProofs := false) (disch := omega) only [↓reduceIte, go_sem, if_pos, if_neg, hg, e3]))
    | (refine endT_p (.inr rfl) (by simp (maxSteps := 8000000) (implicitDefEqProofs := false) (disch := omega) only [↓reduceIte, go_sem, if_pos, if_neg, e3]; rfl) ?_; (first | exact vb_true (by omega) | exact vb_false (by omega) | exact vb_dec (by omega) | exact vi_eq (by omega) | rfl | (refine vi_eq ?_; simp_all; done) | (refine vi_eq ?_; simp_all; omega) | (refine vi_eq ?_; simp_all; intros; omega)))
    | exact endT_v (.inr rfl) (by simp (maxSteps := 8000000) (implicitDefEqProofs := false) (disch := omega) only [↓reduceIte, go_sem, if_pos, if_neg, e3]; try rfl) (fun _ => rfl)
noncomputable def cont_S := specP (fun x : List SlR × PkR => [.s (rowsT slT x.1), .fn 184 (capP x.2)]) (fun x => x.1.length ≤ 12 ∧ ∀ y ∈ x.1, hold1P y x.2) (fun x => (.p (.bool (x.1.any (hold1 x.2))), []))
theorem idxV_any (l : List SlR) (p : SlR → Bool) : decide (idxV (l.findIdx? p) ≥ 0) = l.any p := by
  cases h : l.findIdx? p with
  | none =>
    rw [List.findIdx?_eq_none_iff] at h
    have : l.any p = false := by rw [List.any_eq_false]; intro x hx; simp [h x hx]
    rw [this]; simp [idxV]
  | some i =>
    obtain ⟨hi, h1, _⟩ := List.findIdx?_eq_some_iff_getElem.1 h
    have : l.any p = true := List.any_eq_true.2 ⟨_, List.getElem_mem hi, h1⟩
    rw [this]; simp [idxV] <;> omega
-- slices.ContainsFunc[[]impl.Sel,impl.Sel]
def c183 : AF := ⟨9,
  (.seq (.reg [⟨(some 4), none, .mv (.v (.bool false))⟩])
  (.seq (.reg [⟨(some 5), none, .mv (.t 0)⟩,
   ⟨(some 6), none, .mv (.t 1)⟩,
   ⟨(some 7), none, .call 209 [(.t 5), (.t 6)]⟩,
   ⟨(some 8), none, .bin .geq (.t 7) (.v (.int .i64 0))⟩,
   ⟨(some 4), none, .mv (.t 8)⟩])
  .ret)),
  [.t 4]⟩
theorem k183 : cFn Try.prog Try.f183 = some c183 := by kernel_rfl
theorem cont_ok : OkT Try.prog 183 (pureSp cont_S) := by
  refine okT_fn (OkΓT.cons (findQ_Sel_ok capP_inj capP_frz Holds1_ok) (OkΓT.nil _)) Try.func183 (by kernel_rfl) k183 (fun x _ => ⟨rfl, rfl⟩) ?_
  rintro ⟨l, p⟩ ⟨h1, h2⟩
  dsimp only at *
  have hf : findQ_Sel 184 capP hold1 hold1P [.s (rowsT slT l), .fn 184 [.fe (pkT p) 0]] = _ := findQ_Sel_at (f := 184) (p := hold1) (Pre := hold1P) capP_inj l p (by omega) h2
  rw [← idxV_any]
  dsimp only [capP]
  (dsimp only [c183]; simp (maxSteps := 8000000) (implicitDefEqProofs := false) (disch := omega) only [↓reduceIte, go_sem, if_pos, if_neg, hf, frz_fe])
  exact endT_v (.inr rfl) (by (simp (maxSteps := 8000000) (implicitDefEqProofs := false) (disch := omega) only [↓reduceIte, go_sem, if_pos, if_neg]) <;> rfl) (fun _ => rfl)
theorem firstF_all : ∀ {l : List SlR}, firstF l = 0 → ∀ x ∈ l, selF x = 0
  | [], _, x, hx => by cases hx
  | y :: l, h, x, hx => by
    simp only [firstF] at h
    split at h
    · rcases List.mem_cons.1 hx with rfl | hx
      · assumption
      · exact firstF_all h x hx
    · contradiction
theorem selsF_all {l : List SlR} (h : selsF l = 0) : l.length ≤ 12 ∧ ∀ x ∈ l, selF x = 0 := by
  simp only [selsF] at h
  split at h
  · exact ⟨by omega, firstF_all h⟩
  · cases h
noncomputable def any_S := specP (fun x : List SlR × PkR => [.s (rowsT slT x.1), pkT x.2]) (fun x => selsF x.1 = 0 ∧ pkF x.2 = 0) (fun x => (.p (.bool (x.1.any (hold1 x.2))), []))
theorem any_at (l : List SlR) (p : PkR) (h1 : selsF l = 0) (h2 : pkF p = 0) : any_S [.s (rowsT slT l), pkT p] = some (.p (.bool (l.any (hold1 p))), []) := specP_at (enc := fun x : List SlR × PkR => [.s (rowsT slT x.1), pkT x.2]) (by rintro ⟨a, b⟩ ⟨a', b'⟩ h; simp at h; simp [sls_inj h.1, pkT_inj _ _ h.2]) (l, p) ⟨h1, h2⟩
-- impl.HoldsAny
def c142 : AF := ⟨13,
  (.seq (.reg [⟨(some 3), none, .box 68 (.t 1)⟩,
   ⟨(some 4), none, .mv (.v (.bool false))⟩])
  (.seq (.reg [⟨(some 5), none, .mv (.t 0)⟩,
   ⟨(some 6), none, .call 85 [(.t 5)]⟩,
   ⟨(some 7), none, .bin .eql (.t 6) (.v (.int .i64 0))⟩,
   ⟨(some 8), none, .mv (.t 7)⟩,
   ⟨(some 9), (some (8, true)), .mv (.t 0)⟩,
   ⟨(some 10), (some (8, true)), .fn 184 [(.t 3)]⟩,
   ⟨(some 11), (some (8, true)), .call 183 [(.t 9), (.t 10)]⟩,
   ⟨(some 12), none, .pick (.t 8) (.t 11) (.v (.bool false))⟩,
   ⟨(some 4), none, .mv (.t 12)⟩])
  .ret)),
  [.t 4]⟩
theorem k142 : cFn Try.prog Try.f142 = some c142 := by kernel_rfl
theorem HoldsAny_ok : OkT Try.prog 142 (pureSp any_S) := by
  refine okT_fn (OkΓT.cons selsFI_ok (OkΓT.cons cont_ok (OkΓT.nil _))) Try.func142 (by kernel_rfl) k142 (fun x _ => ⟨rfl, rfl⟩) ?_
  rintro ⟨l, p⟩ ⟨h1, h2⟩
  dsimp only at *
  obtain ⟨g1, g2⟩ := selsF_all h1
  have e1 := selsF_at l (by omega)
  rw [h1] at e1
  have e2 : cont_S [.s (rowsT slT l), .fn 184 [.fe (pkT p) 0]] = _ := specP_at (enc := fun x : List SlR × PkR => [.s (rowsT slT x.1), .fn 184 (capP x.2)]) (by rintro ⟨a, b⟩ ⟨a', b'⟩ h; simp at h; simp [sls_inj h.1, capP_inj _ _ h.2]) (l, p) ⟨g1, fun y hy => ⟨g2 y hy, h2⟩⟩
  dsimp only [pkT] at *
  (dsimp only [c142]; simp (maxSteps := 8000000) (implicitDefEqProofs := false) (disch := omega) only [↓reduceIte, go_sem, if_pos, if_neg, e1, e2])
  repeat' first
    | (refine gdKT_dec (fun hg => ?_) (fun hg => ?_) <;> (try (first | simp (maxSteps := 8000000) (implicitDefEqProofs := false) (disch := omega) only [↓reduceIte, go_sem, if_pos, if_neg, eq_false hg, e1, e2] | simp (maxSteps := 8000000) (implicitDefEqProofs := false) (disch := omega) only [↓reduceIte, go_sem, if_pos, if_neg, eq_true hg, e1, e2])))
    | (refine condKT_dec (fun hg => ?_) (fun hg => ?_) <;> (try (first | simp (maxSteps := 8000000) (implicitDefEqProofs := false) (disch := omega) only [↓reduceIte, go_sem, if_pos, if_neg, eq_false hg, e1, e2] | simp (maxSteps := 8000000) (implicitDefEqProofs := false) (disch := omega) only [↓reduceIte, go_sem, if_pos, if_neg, eq_true hg, e1, e2])))
    | (refine gdKT_split (fun hg => ?_) (fun hg => ?_) <;> (try simp (maxSteps := 8000000) (implicitDefEqProofs := false) (disch := omega) only [↓reduceIte, go_sem, if_pos, if_neg, hg, e1, e2]))
    | (refine condKT_split (fun hg => ?_) (fun hg => ?_) <;> (try simp (maxSteps := 8000000) (implicitDefEqProofs := false) (disch := omega) only [↓reduceIte, go_sem, if_pos, if_neg, hg, e1, e2]))
    | (refine endT_p (.inr rfl) (by simp (maxSteps := 8000000) (implicitDefEqProofs := false) (disch := omega) only [↓reduceIte, go_sem, if_pos, if_neg, e1, e2]; rfl) ?_; (first | exact vb_true (by omega) | exact vb_false (by omega) | exact vb_dec (by omega) | exact vi_eq (by omega) | rfl | (refine vi_eq ?_; simp_all; done) | (refine vi_eq ?_; simp_all; omega) | (refine vi_eq ?_; simp_all; intros; omega)))
    | exact endT_v (.inr rfl) (by simp (maxSteps := 8000000) (implicitDefEqProofs := false) (disch := omega) only [↓reduceIte, go_sem, if_pos, if_neg, e1, e2]; try rfl) (fun _ => rfl)
-- spec.l3Any
def c182 : AF := ⟨18,
  (.seq (.reg [⟨(some 3), none, .box 68 (.t 1)⟩,
   ⟨(some 4), none, .mv (.v (.bool false))⟩])
  (.seq (.seq (.reg [⟨(some 5), none, .mv (.v (.int .i64 0))⟩])
  (.block 0 (.loop (.seq (.seq (.reg [⟨(some 6), none, .mv (.t 5)⟩,
   ⟨(some 7), none, .mv (.t 0)⟩,
   ⟨(some 8), none, .len (.t 7)⟩,
   ⟨(some 9), none, .bin .lss (.t 6) (.t 8)⟩])
  (.cond (.t 9) .skip
  (.exit 0)))
  (.seq (.block 1 (.seq (.drw [⟨(some 12), none, .mv (.t 0)⟩,
   ⟨(some 13), none, .mv (.t 5)⟩,
   ⟨(some 14), none, .ia 9 (.t 12) (.t 13)⟩,
   ⟨(some 15), none, .ldn 9 (.t 14)⟩,
   ⟨(some 16), none, .ldn 7 (.t 3)⟩] [⟨(some 17), none, .call 208 [(.t 15), (.t 16)]⟩])
  (.cond (.t 17) (.seq (.reg [⟨(some 4), none, .mv (.v (.bool true))⟩])
  .ret)
  .skip)))
  (.reg [⟨(some 10), none, .mv (.t 5)⟩,
   ⟨(some 11), none, .bin .add (.t 10) (.v (.int .i64 1))⟩,
   ⟨(some 5), none, .mv (.t 11)⟩]))))))
  (.seq (.reg [⟨(some 4), none, .mv (.v (.bool false))⟩])
  .ret))),
  [.t 4]⟩
theorem k182 : cFn Try.prog Try.f182 = some c182 := by kernel_rfl
theorem l3Any_ok : OkT Try.prog 182 (pureSp any_S) := by
  refine okT_fn (OkΓT.cons l3Holds_ok (OkΓT.nil _)) Try.func182 (by kernel_rfl) k182 (fun x _ => ⟨rfl, rfl⟩) ?_
  rintro ⟨l, p⟩ ⟨h1, h2⟩
  dsimp only at *
  obtain ⟨g1, g2⟩ := selsF_all h1
  dsimp only [pkT]
  (dsimp only [c182]; simp (maxSteps := 8000000) (implicitDefEqProofs := false) (disch := omega) only [↓reduceIte, go_sem, if_pos, if_neg])
  refine awpT_loop (α := Nat) (fun i => ⟨slots [(0, .s (rowsT slT l)), (3, .op 0 0 0), (5, .p (.int .i64 i))], [.cells 68 7 [pkT p]]⟩) (fun i => i ≤ l.length ∧ l.any (hold1 p) = (l.drop i).any (hold1 p)) (fun i => l.length - i) 0 ⟨by omega, rfl⟩ (by (try dsimp only [pkT]); exact (le_of [0] (by simp (maxSteps := 8000000) (implicitDefEqProofs := false) (disch := omega) only [↓reduceIte, go_sem, if_pos, if_neg]) (by simp (maxSteps := 8000000) (implicitDefEqProofs := false) (disch := omega) only [↓reduceIte, go_sem, if_pos, if_neg]) (by decide) (by simp))) ?_
  intro i ⟨hi, hn⟩
  dsimp only [pkT]
  simp (maxSteps := 8000000) (implicitDefEqProofs := false) (disch := omega) only [↓reduceIte, go_sem, if_pos, if_neg]
  refine condKT_dec (fun hlt => ?_) (fun hge => ?_)
  · obtain ⟨x, hx⟩ := get_ex (l := l) (i := i) (by omega)
    have e3 := holds_at x p
    dsimp only [slT, pkT] at e3
    rw [drop_cons hx, List.any_cons] at hn
    by_cases hs : holdsP x p
    · rw [hn, show hold1 p x = true by simp [hold1, hs], Bool.true_or]
      simp (maxSteps := 8000000) (implicitDefEqProofs := false) (disch := omega) only [↓reduceIte, go_sem, if_pos, if_neg, hx, slT, eq_true hlt, e3, eq_true hs]
      repeat' first
        | (refine gdKT_dec (fun hg => ?_) (fun hg => ?_) <;> (try (first | simp (maxSteps := 8000000) (implicitDefEqProofs := false) (disch := omega) only [↓reduceIte, go_sem, if_pos, if_neg, eq_false hg, hx, slT, eq_true hlt, e3, eq_true hs] | simp (maxSteps := 8000000) (implicitDefEqProofs := false) (disch := omega) only [↓reduceIte, go_sem, if_pos, if_neg, eq_true hg, hx, slT, eq_true hlt, e3, eq_true hs])))
        | (refine condKT_dec (fun hg => ?_) (fun hg => ?_) <;> (try (first | simp (maxSteps := 8000000) (implicitDefEqProofs := false) (disch := omega) only [↓reduceIte, go_sem, if_pos, if_neg, eq_false hg, hx, slT, eq_true hlt, e3, eq_true hs] | simp (maxSteps := 8000000) (implicitDefEqProofs := false) (disch := omega) only [↓reduceIte, go_sem, if_pos, if_neg, eq_true hg, hx, slT, eq_true hlt, e3, eq_true hs])))
        | (refine gdKT_split (fun hg => ?_) (fun hg => ?_) <;> (try simp (maxSteps := 8000000) (implicitDefEqProofs := false) (disch := omega) only [↓reduceIte, go_sem, if_pos, if_neg, hg, hx, slT, eq_true hlt, e3, eq_true hs]))
        | (refine condKT_split (fun hg => ?_) (fun hg => ?_) <;> (try simp (maxSteps := 8000000) (implicitDefEqProofs := false) (disch := omega) only [↓reduceIte, go_sem, if_pos, if_neg, hg, hx, slT, eq_true hlt, e3, eq_true hs]))
        | (refine endT_p (.inr rfl) (by simp (maxSteps := 8000000) (implicitDefEqProofs := false) (disch := omega) only [↓reduceIte, go_sem, if_pos, if_neg, hx, slT, eq_true hlt, e3, eq_true hs]; rfl) ?_; (first | exact vb_true (by omega) | exact vb_false (by omega) | exact vb_dec (by omega) | exact vi_eq (by omega) | rfl | (refine vi_eq ?_; simp_all; done) | (refine vi_eq ?_; simp_all; omega) | (refine vi_eq ?_; simp_all; intros; omega)))
        | exact endT_v (.inr rfl) (by simp (maxSteps := 8000000) (implicitDefEqProofs := false) (disch := omega) only [↓reduceIte, go_sem, if_pos, if_neg, hx, slT, eq_true hlt, e3, eq_true hs]; try rfl) (fun _ => rfl)
    · rw [show hold1 p x = false by simp [hold1, hs], Bool.false_or] at hn
      simp (maxSteps := 8000000) (implicitDefEqProofs := false) (disch := omega) only [↓reduceIte, go_sem, if_pos, if_neg, hx, slT, eq_true hlt, e3, eq_false hs]
      refine loopKT_next (i + 1) ⟨by omega, hn⟩ (by omega) ?_
      (try dsimp only [pkT]); exact (le_of [0] (by simp (maxSteps := 8000000) (implicitDefEqProofs := false) (disch := omega) only [↓reduceIte, go_sem, if_pos, if_neg]) (by simp (maxSteps := 8000000) (implicitDefEqProofs := false) (disch := omega) only [↓reduceIte, go_sem, if_pos, if_neg]) (by decide) (by simp))
  · rw [hn, show l.drop i = [] from List.drop_eq_nil_of_le (by omega)]
    simp (maxSteps := 8000000) (implicitDefEqProofs := false) (disch := omega) only [↓reduceIte, go_sem, if_pos, if_neg, eq_false hge]
    refine joinK_here ?_
    simp (maxSteps := 8000000) (implicitDefEqProofs := false) (disch := omega) only [↓reduceIte, go_sem, if_pos, if_neg, List.any_nil]
    repeat' first
      | (refine gdKT_dec (fun hg => ?_) (fun hg => ?_) <;> (try (first | simp (maxSteps := 8000000) (implicitDefEqProofs := false) (disch := omega) only [↓reduceIte, go_sem, if_pos, if_neg, eq_false hg, List.any_nil] | simp (maxSteps := 8000000) (implicitDefEqProofs := false) (disch := omega) only [↓reduceIte, go_sem, if_pos, if_neg, eq_true hg, List.any_nil])))
      | (refine condKT_dec (fun hg => ?_) (fun hg => ?_) <;> (try (first | simp (maxSteps := 8000000) (implicitDefEqProofs := false) (disch := omega) only [↓reduceIte, go_sem, if_pos, if_neg, eq_false hg, List.any_nil] | simp (maxSteps := 8000000) (implicitDefEqProofs := false) (disch := omega) only [↓reduceIte, go_sem, if_pos, if_neg, eq_true hg, List.any_nil])))
      | (refine gdKT_split (fun hg => ?_) (fun hg => ?_) <;> (try simp (maxSteps := 8000000) (implicitDefEqProofs := false) (disch := omega) only [↓reduceIte, go_sem, if_pos, if_neg, hg, List.any_nil]))
      | (refine condKT_split (fun hg => ?_) (fun hg => ?_) <;> (try simp (maxSteps := 8000000) (implicitDefEqProofs := false) (disch := omega) only [↓reduceIte, go_sem, if_pos, if_neg, hg, List.any_nil]))
      | (refine endT_p (.inr rfl) (by simp (maxSteps := 8000000) (implicitDefEqProofs := false) (disch := omega) only [↓reduceIte, go_sem, if_pos, if_neg, List.any_nil]; rfl) ?_; (first | exact vb_true (by omega) | exact vb_false (by omega) | exact vb_dec (by omega) | exact vi_eq (by omega) | rfl | (refine vi_eq ?_; simp_all; done) | (refine vi_eq ?_; simp_all; omega) | (refine vi_eq ?_; simp_all; intros; omega)))
      | exact endT_v (.inr rfl) (by simp (maxSteps := 8000000) (implicitDefEqProofs := false) (disch := omega) only [↓reduceIte, go_sem, if_pos, if_neg, List.any_nil]; try rfl) (fun _ => rfl)
end Go.Proofs.Ytngebdcbcliobaa
