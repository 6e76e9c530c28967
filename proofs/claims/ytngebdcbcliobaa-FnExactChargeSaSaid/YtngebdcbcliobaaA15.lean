import Derived.Test.YtngebdcbcliobaaA10
namespace Go.AH
open Go.RowKit (Below)

/-! What an operation does to the heap leaves what is below lo. -/
theorem aop_fr {P : Program} {Γ : Ctx} (hΓ : OkΓ P Γ) {lo : Nat} {ρ : Opd → Value} {h h' : Heap} {v : Value} (p : AOp) (ha : aop Γ lo ρ h p = some (v, h')) (hlo : lo ≤ h.length) : Fr lo h h' := by
  cases p <;> simp only [aop] at ha
  case call f as =>
    obtain ⟨sp, hs, ha⟩ := Option.bind_eq_some_iff.1 ha
    exact (hΓ f sp hs).fr _ _ _ _ _ ha hlo
  case callv x as =>
    split at ha
    · obtain ⟨sp, hs, ha⟩ := Option.bind_eq_some_iff.1 ha
      exact (hΓ _ sp hs).fr _ _ _ _ _ ha hlo
    · cases ha
  case cpy z x y =>
    split at ha
    · split at ha
      · split at ha
        · rename_i hc; cases ha; exact Fr.set hc.1 _
        · cases ha
      · cases ha
    · cases ha
  case st n x y =>
    split at ha
    · split at ha
      · split at ha
        · rename_i hc; cases ha; exact Fr.set hc.1 _
        · cases ha
      · cases ha
    · cases ha
  case app e z b x y =>
    split at ha
    · split at ha
      · split at ha
        · split at ha
          · split at ha
            · cases ha; exact Fr.refl _ _
            · cases ha; exact Fr.push hlo _
          · split at ha
            · cases ha; exact Fr.refl _ _
            · cases ha; exact Fr.push hlo _
          · split at ha
            · split at ha
              · rename_i hc; cases ha; exact (Fr.set hc.1 _).trans (Fr.push (by simpa using hlo) _)
              · cases ha
            · cases ha
          · cases ha
        · cases ha
      · cases ha
    · cases ha
  all_goals
    first
    | (cases ha; first | exact Fr.refl _ _ | exact Fr.push hlo _)
    | (obtain ⟨_, _, ha⟩ := Option.map_eq_some_iff.1 ha; cases ha; exact Fr.refl _ _)
    | (obtain ⟨_, _, ha⟩ := Option.bind_eq_some_iff.1 ha; obtain ⟨_, _, ha⟩ := Option.map_eq_some_iff.1 ha; cases ha; exact Fr.refl _ _)
    | (obtain ⟨_, _, ha⟩ := Option.bind_eq_some_iff.1 ha; split at ha <;> first | (cases ha; exact Fr.push hlo _) | cases ha)
    | (split at ha <;> first | (cases ha; done) | (cases ha; first | exact Fr.refl _ _ | exact Fr.push hlo _))
    | (repeat' split at ha
       all_goals first | (cases ha; done) | (cases ha; first | exact Fr.refl _ _ | exact Fr.push hlo _) | (obtain ⟨_, _, ha⟩ := Option.map_eq_some_iff.1 ha; cases ha; exact Fr.refl _ _))

theorem qops_trace {Γ : Ctx} {K : St → Prop} : ∀ (l : List AO) (s : St), qops Γ l K s → ∃ f : Nat → St, f 0 = s ∧ (∀ (i : Nat) (x : AO), l[i]? = some x → stepO Γ (f i).h.length x (f i) = some (f (i + 1))) ∧ K (f l.length)
  | [], s, h => ⟨fun _ => s, rfl, by simp, h⟩
  | o :: r, s, h => by
    simp only [qops] at h
    split at h
    · rename_i s' hs
      obtain ⟨g, h0, h1, h2⟩ := qops_trace r s' h
      refine ⟨fun | 0 => s | i + 1 => g i, rfl, fun i x hx => ?_, h2⟩
      cases i with
      | zero => simp at hx; subst hx; simpa [h0] using hs
      | succ i => exact h1 i x (by simpa using hx)
    · exact h.elim

/-! Counting what is not listed. -/
def unl (l : Array Bool) (m : Nat) : Nat := ((List.range m).filter fun i => !l.getD i false).length
theorem unl_succ (l : Array Bool) (m : Nat) : unl l (m + 1) = unl l m + if l.getD m false then 0 else 1 := by
  simp only [unl, List.range_succ, List.filter_append, List.length_append]
  cases h : l.getD m false <;> simp only [List.filter_cons, List.filter_nil, h] <;> rfl
theorem getD_set (l : Array Bool) (i j : Nat) (hi : i < l.size) : (l.setIfInBounds i true).getD j false = if j = i then true else l.getD j false := by
  by_cases h : j = i
  · subst h; simp [hi]
  · have h' : i ≠ j := fun x => h x.symm
    simp [h, h']
theorem unl_same (l : Array Bool) (i : Nat) (hi : i < l.size) : ∀ m, m ≤ i → unl (l.setIfInBounds i true) m = unl l m
  | 0, _ => rfl
  | m + 1, h => by
    rw [unl_succ, unl_succ, unl_same l i hi m (by omega), getD_set l i m hi]
    simp only [show ¬ m = i by omega, if_false]
theorem unl_set (l : Array Bool) (i : Nat) (hi : i < l.size) (hu : l.getD i false = false) : ∀ m, i < m → unl (l.setIfInBounds i true) m + 1 = unl l m
  | 0, h => by omega
  | m + 1, h => by
    rw [unl_succ, unl_succ, getD_set l i m hi]
    by_cases e : m = i
    · subst e; rw [unl_same l m hi m (Nat.le_refl _)]; simp [hu]
    · simp only [e, if_false]; have := unl_set l i hi hu m (by omega); omega
theorem unl_zero (l : Array Bool) : ∀ m, unl l m = 0 → ∀ i, i < m → l.getD i false = true
  | 0, _, i, hi => by omega
  | m + 1, h, i, hi => by
    rw [unl_succ] at h
    by_cases e : i = m
    · subst e; cases hx : l.getD i false
      · simp [hx] at h
      · rfl
    · exact unl_zero l m (by omega) i (by omega)
theorem least_unl (l : Array Bool) : ∀ m, 0 < unl l m → ∃ i, i < m ∧ l.getD i false = false ∧ ∀ k, k < i → l.getD k false = true
  | 0, h => by simp [unl] at h
  | m + 1, h => by
    by_cases hm : 0 < unl l m
    · obtain ⟨i, h1, h2, h3⟩ := least_unl l m hm
      exact ⟨i, by omega, h2, h3⟩
    · refine ⟨m, by omega, ?_, unl_zero l m (by omega)⟩
      rw [unl_succ] at h
      cases hx : l.getD m false
      · rfl
      · simp [hx] at h; omega

section
variable {ops : Array Oper}
def Closed (ops : Array Oper) (l : Array Bool) : Prop := ∀ (j : Nat) (o : Oper), ops[j]? = some o → l.getD j false = true → ∀ k ∈ edgesOf o, l.getD k false = true
theorem waits_listed {l : Array Bool} (hc : Closed ops l) : ∀ (n j i : Nat), waits ops n j i = true → (∀ o, ops[j]? = some o → ∀ k ∈ edgesOf o, l.getD k false = true) → l.getD i false = true
  | 0, j, i, h, _ => by simp [waits] at h
  | n + 1, j, i, h, he => by
    simp only [waits] at h
    split at h
    · rename_i o ho
      obtain ⟨k, hk, h⟩ := List.any_eq_true.1 h
      have hlk := he o ho k hk
      simp only [Bool.or_eq_true, beq_iff_eq] at h
      rcases h with rfl | h
      · exact hlk
      · exact waits_listed hc n k i h (fun o ho => hc k o ho hlk)
    · cases h
theorem mem_ready {l : Array Bool} (hl : l.size = ops.size) (i : Nat) : i ∈ Region.ready .any ops l ↔ ∃ o, ops[i]? = some o ∧ l.getD i false = false ∧ ∀ k ∈ edgesOf o, l.getD k false = true := by
  simp only [Region.ready, List.mem_filter, List.mem_range, Bool.and_eq_true, Bool.not_eq_true']
  constructor
  · rintro ⟨hi, h1, h2⟩
    have hget : ops[i]? = some ops[i] := by simp [hi]
    refine ⟨ops[i], hget, ?_, ?_⟩
    · have hil : i < l.size := by omega
      simp [hil] at h1 ⊢; exact h1
    · intro k hk
      rw [hget] at h2
      simp only [Option.map_some, Option.getD_some] at h2
      simp only [edgesOf, List.mem_map, List.mem_filter] at hk
      obtain ⟨e, ⟨he, hb⟩, rfl⟩ := hk
      have := (Array.all_eq_true_iff_forall_mem.1 h2) e (Array.mem_toList_iff.1 he)
      simpa [hb] using this
  · rintro ⟨o, ho, h1, h2⟩
    have hi : i < ops.size := (Array.getElem?_eq_some_iff.1 ho).1
    refine ⟨hi, ?_, ?_⟩
    · have hil : i < l.size := by omega
      simp [hil] at h1 ⊢; exact h1
    · rw [ho]
      simp only [Option.map_some, Option.getD_some]
      rw [Array.all_eq_true_iff_forall_mem]
      intro e he
      by_cases hb : Region.binds .any e = true
      · have := h2 e.on (by simp only [edgesOf, List.mem_map, List.mem_filter]; exact ⟨e, ⟨Array.mem_toList_iff.2 he, hb⟩, rfl⟩)
        simp [this]
      · simp [hb]
theorem closed_set {l : Array Bool} (hl : l.size = ops.size) (hc : Closed ops l) {i : Nat} (hi : i ∈ Region.ready .any ops l) : Closed ops (l.setIfInBounds i true) := by
  obtain ⟨o, ho, h1, h2⟩ := (mem_ready hl i).1 hi
  have hil : i < l.size := by have := (Array.getElem?_eq_some_iff.1 ho).1; omega
  intro j o' ho' hj k hk
  rw [getD_set l i k hil]
  split
  · rfl
  · rw [getD_set l i j hil] at hj
    split at hj
    · rename_i e; subst e; rw [ho] at ho'; cases ho'; exact h2 k hk
    · exact hc j o' ho' hj k hk
end
end Go.AH
