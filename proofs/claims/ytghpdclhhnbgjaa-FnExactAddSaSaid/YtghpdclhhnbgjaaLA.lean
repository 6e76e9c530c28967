import Derived.Test.YtghpdclhhnbgjaaLA0
import Derived.SizedLaws
import Derived.ChangeSlices
import Derived.OpenShut
set_option linter.unusedVariables false
set_option linter.unusedSimpArgs false
namespace Go.AH
open Go.RowKit (Below)

/-! What an operation does to the heap leaves what is below lo. -/
theorem aop_fr {P : Program} {Γ : Ctx} (hΓ : OkΓ P Γ) {lo : Nat} {ρ : Opd → Value} {h h' : Heap} {v : Value} (p : AOp) (ha : aop Γ lo ρ h p = some (v, h')) (hlo : lo ≤ h.length) : Fr lo h h' := by
  cases p <;> simp only [aop] at ha
  case call f as =>
    obtain ⟨sp, hs, ha⟩ := Option.bind_eq_some_iff.1 ha
    exact (hΓ f sp hs).fr _ _ _ _ _ ha hlo
  case callv x as =>
    split at ha
    · obtain ⟨sp, hs, ha⟩ := Option.bind_eq_some_iff.1 ha
      exact (hΓ _ sp hs).fr _ _ _ _ _ ha hlo
    · cases ha
  case apz e z b zc x y =>
    split at ha
    · split at ha
      · cases ha; exact Fr.push hlo _
      · cases ha
    · cases ha
  case cpy z x y =>
    split at ha
    · split at ha
      · split at ha
        · rename_i hc; cases ha; exact Fr.set hc.1 _
        · cases ha
      · cases ha
    · cases ha
  case st n x y =>
    split at ha
    · split at ha
      · split at ha
        · rename_i hc; cases ha; exact Fr.set hc.1 _
        · cases ha
      · cases ha
    · cases ha
  case app e z b x y =>
    split at ha
    · split at ha
      · split at ha
        · split at ha
          · split at ha
            · cases ha; exact Fr.refl _ _
            · cases ha; exact Fr.push hlo _
          · split at ha
            · cases ha; exact Fr.refl _ _
            · cases ha; exact Fr.push hlo _
          · split at ha
            · split at ha
              · rename_i hc; cases ha; exact (Fr.set hc.1 _).trans (Fr.push (by simpa using hlo) _)
              · cases ha
            · cases ha
          · cases ha
        · cases ha
      · cases ha
    · cases ha
  all_goals
    first
    | (cases ha; first | exact Fr.refl _ _ | exact Fr.push hlo _)
    | (obtain ⟨_, _, ha⟩ := Option.map_eq_some_iff.1 ha; cases ha; exact Fr.refl _ _)
    | (obtain ⟨_, _, ha⟩ := Option.bind_eq_some_iff.1 ha; obtain ⟨_, _, ha⟩ := Option.map_eq_some_iff.1 ha; cases ha; exact Fr.refl _ _)
    | (obtain ⟨_, _, ha⟩ := Option.bind_eq_some_iff.1 ha; split at ha <;> first | (cases ha; exact Fr.push hlo _) | cases ha)
    | (split at ha <;> first | (cases ha; done) | (cases ha; first | exact Fr.refl _ _ | exact Fr.push hlo _))
    | (repeat' split at ha
       all_goals first | (cases ha; done) | (cases ha; first | exact Fr.refl _ _ | exact Fr.push hlo _) | (obtain ⟨_, _, ha⟩ := Option.map_eq_some_iff.1 ha; cases ha; exact Fr.refl _ _))

theorem qops_trace {Γ : Ctx} {K : St → Prop} : ∀ (l : List AO) (s : St), qops Γ l K s → ∃ f : Nat → St, f 0 = s ∧ (∀ (i : Nat) (x : AO), l[i]? = some x → stepO Γ (f i).h.length x (f i) = some (f (i + 1))) ∧ K (f l.length)
  | [], s, h => ⟨fun _ => s, rfl, by simp, h⟩
  | o :: r, s, h => by
    simp only [qops] at h
    split at h
    · rename_i s' hs
      obtain ⟨g, h0, h1, h2⟩ := qops_trace r s' h
      refine ⟨fun | 0 => s | i + 1 => g i, rfl, fun i x hx => ?_, h2⟩
      cases i with
      | zero => simp at hx; subst hx; simpa [h0] using hs
      | succ i => exact h1 i x (by simpa using hx)
    · exact h.elim

/-! Counting what is not listed. -/
def unl (l : Array Bool) (m : Nat) : Nat := ((List.range m).filter fun i => !l.getD i false).length
theorem unl_succ (l : Array Bool) (m : Nat) : unl l (m + 1) = unl l m + if l.getD m false then 0 else 1 := by
  simp only [unl, List.range_succ, List.filter_append, List.length_append]
  cases h : l.getD m false <;> simp only [List.filter_cons, List.filter_nil, h] <;> rfl
theorem getD_set (l : Array Bool) (i j : Nat) (hi : i < l.size) : (l.setIfInBounds i true).getD j false = if j = i then true else l.getD j false := by
  by_cases h : j = i
  · subst h; simp [hi]
  · have h' : i ≠ j := fun x => h x.symm
    simp [h, h']
theorem unl_same (l : Array Bool) (i : Nat) (hi : i < l.size) : ∀ m, m ≤ i → unl (l.setIfInBounds i true) m = unl l m
  | 0, _ => rfl
  | m + 1, h => by
    rw [unl_succ, unl_succ, unl_same l i hi m (by omega), getD_set l i m hi]
    simp only [show ¬ m = i by omega, if_false]
theorem unl_set (l : Array Bool) (i : Nat) (hi : i < l.size) (hu : l.getD i false = false) : ∀ m, i < m → unl (l.setIfInBounds i true) m + 1 = unl l m
  | 0, h => by omega
  | m + 1, h => by
    rw [unl_succ, unl_succ, getD_set l i m hi]
    by_cases e : m = i
    · subst e; rw [unl_same l m hi m (Nat.le_refl _)]; simp [hu]
    · simp only [e, if_false]; have := unl_set l i hi hu m (by omega); omega
theorem unl_zero (l : Array Bool) : ∀ m, unl l m = 0 → ∀ i, i < m → l.getD i false = true
  | 0, _, i, hi => by omega
  | m + 1, h, i, hi => by
    rw [unl_succ] at h
    by_cases e : i = m
    · subst e; cases hx : l.getD i false
      · simp [hx] at h
      · rfl
    · exact unl_zero l m (by omega) i (by omega)
theorem least_unl (l : Array Bool) : ∀ m, 0 < unl l m → ∃ i, i < m ∧ l.getD i false = false ∧ ∀ k, k < i → l.getD k false = true
  | 0, h => by simp [unl] at h
  | m + 1, h => by
    by_cases hm : 0 < unl l m
    · obtain ⟨i, h1, h2, h3⟩ := least_unl l m hm
      exact ⟨i, by omega, h2, h3⟩
    · refine ⟨m, by omega, ?_, unl_zero l m (by omega)⟩
      rw [unl_succ] at h
      cases hx : l.getD m false
      · rfl
      · simp [hx] at h; omega

section
variable {ops : Array Oper}
def Closed (ops : Array Oper) (l : Array Bool) : Prop := ∀ (j : Nat) (o : Oper), ops[j]? = some o → l.getD j false = true → ∀ k ∈ edgesOf o, l.getD k false = true
theorem waits_listed {l : Array Bool} (hc : Closed ops l) : ∀ (n j i : Nat), waits ops n j i = true → (∀ o, ops[j]? = some o → ∀ k ∈ edgesOf o, l.getD k false = true) → l.getD i false = true
  | 0, j, i, h, _ => by simp [waits] at h
  | n + 1, j, i, h, he => by
    simp only [waits] at h
    split at h
    · rename_i o ho
      obtain ⟨k, hk, h⟩ := List.any_eq_true.1 h
      have hlk := he o ho k hk
      simp only [Bool.or_eq_true, beq_iff_eq] at h
      rcases h with rfl | h
      · exact hlk
      · exact waits_listed hc n k i h (fun o ho => hc k o ho hlk)
    · cases h
theorem mem_ready {l : Array Bool} (hl : l.size = ops.size) (i : Nat) : i ∈ Region.ready .any ops l ↔ ∃ o, ops[i]? = some o ∧ l.getD i false = false ∧ ∀ k ∈ edgesOf o, l.getD k false = true := by
  simp only [Region.ready, List.mem_filter, List.mem_range, Bool.and_eq_true, Bool.not_eq_true']
  constructor
  · rintro ⟨hi, h1, h2⟩
    have hget : ops[i]? = some ops[i] := by simp [hi]
    refine ⟨ops[i], hget, ?_, ?_⟩
    · have hil : i < l.size := by omega
      simp [hil] at h1 ⊢; exact h1
    · intro k hk
      rw [hget] at h2
      simp only [Option.map_some, Option.getD_some] at h2
      simp only [edgesOf, List.mem_map, List.mem_filter] at hk
      obtain ⟨e, ⟨he, hb⟩, rfl⟩ := hk
      have := (Array.all_eq_true_iff_forall_mem.1 h2) e (Array.mem_toList_iff.1 he)
      simpa [hb] using this
  · rintro ⟨o, ho, h1, h2⟩
    have hi : i < ops.size := (Array.getElem?_eq_some_iff.1 ho).1
    refine ⟨hi, ?_, ?_⟩
    · have hil : i < l.size := by omega
      simp [hil] at h1 ⊢; exact h1
    · rw [ho]
      simp only [Option.map_some, Option.getD_some]
      rw [Array.all_eq_true_iff_forall_mem]
      intro e he
      by_cases hb : Region.binds .any e = true
      · have := h2 e.on (by simp only [edgesOf, List.mem_map, List.mem_filter]; exact ⟨e, ⟨Array.mem_toList_iff.2 he, hb⟩, rfl⟩)
        simp [this]
      · simp [hb]
theorem closed_set {l : Array Bool} (hl : l.size = ops.size) (hc : Closed ops l) {i : Nat} (hi : i ∈ Region.ready .any ops l) : Closed ops (l.setIfInBounds i true) := by
  obtain ⟨o, ho, h1, h2⟩ := (mem_ready hl i).1 hi
  have hil : i < l.size := by have := (Array.getElem?_eq_some_iff.1 ho).1; omega
  intro j o' ho' hj k hk
  rw [getD_set l i k hil]
  split
  · rfl
  · rw [getD_set l i j hil] at hj
    split at hj
    · rename_i e; subst e; rw [ho] at ho'; cases ho'; exact h2 k hk
    · exact hc j o' ho' hj k hk
end
end Go.AH
namespace Go.AH
open Go.RowKit (Below)

theorem aop_congr {Γ : Ctx} {lo : Nat} {ρ ρ' : Opd → Value} {h : Heap} (p : AOp) (H : ∀ y ∈ p.os, ρ y = ρ' y) : aop Γ lo ρ h p = aop Γ lo ρ' h p := by
  cases p
  case build z ps =>
    have e : (ps.map fun p => (p.1, p.2.1, ρ p.2.2)) = ps.map fun p => (p.1, p.2.1, ρ' p.2.2) := List.map_congr_left fun q hq => by rw [H q.2.2 (by simp only [AOp.os, List.mem_map]; exact ⟨q, hq, rfl⟩)]
    simp only [aop, e]
  case mkS e n z ps =>
    have e : (ps.map fun p => (p.1, p.2.1, ρ p.2.2)) = ps.map fun p => (p.1, p.2.1, ρ' p.2.2) := List.map_congr_left fun q hq => by rw [H q.2.2 (by simp only [AOp.os, List.mem_map]; exact ⟨q, hq, rfl⟩)]
    simp only [aop, e]
  case sl z x lo hi =>
    have hx := H x (by simp [AOp.os])
    have e1 : ∀ d, optI ρ d lo = optI ρ' d lo := by intro d; cases lo with | none => rfl | some y => simp only [optI]; rw [H y (by simp [AOp.os])]
    have e2 : ∀ d, optI ρ d hi = optI ρ' d hi := by intro d; cases hi with | none => rfl | some y => simp only [optI]; rw [H y (by simp [AOp.os])]
    simp only [aop, hx, e1, e2]
  case slT x lo hi =>
    have hx := H x (by simp [AOp.os])
    have e1 : ∀ d, optI ρ d lo = optI ρ' d lo := by intro d; cases lo with | none => rfl | some y => simp only [optI]; rw [H y (by simp [AOp.os])]
    have e2 : ∀ d, optI ρ d hi = optI ρ' d hi := by intro d; cases hi with | none => rfl | some y => simp only [optI]; rw [H y (by simp [AOp.os])]
    simp only [aop, hx, e1, e2]
  case fn f cs =>
    have e : cs.map ρ = cs.map ρ' := List.map_congr_left fun q hq => H q (by simpa [AOp.os] using hq)
    simp only [aop, e]
  case call f cs =>
    have e : cs.map ρ = cs.map ρ' := List.map_congr_left fun q hq => H q (by simpa [AOp.os] using hq)
    simp only [aop, e]
  case callv x cs =>
    have hx := H x (by simp [AOp.os])
    have e : cs.map ρ = cs.map ρ' := List.map_congr_left fun q hq => H q (by simp [AOp.os, hq])
    simp only [aop, hx, e]
  case alloc => rfl
  case mkE => rfl
  case fail => rfl
  case pick c a b => simp only [aop, H c (by simp [AOp.os]), H a (by simp [AOp.os]), H b (by simp [AOp.os])]
  all_goals
    first
    | (rename_i x y; simp only [aop, H x (by simp [AOp.os]), H y (by simp [AOp.os])]; done)
    | (rename_i x; simp only [aop, H x (by simp [AOp.os])]; done)
    | (rename_i x _; simp only [aop, H x (by simp [AOp.os])]; done)

def res (ι : Inj) (m : Nat) : Inj := fun b => if b < m then ι b else none
theorem res_ext (ι : Inj) (m : Nat) : Ext (res ι m) ι := fun b g h => by
  simp only [res] at h; split at h
  · exact h
  · cases h
theorem res_mono {ι ι' : Inj} {m m' : Nat} (hm : m ≤ m') (h : ∀ b g, b < m → ι b = some g → ι' b = some g) : Ext (res ι m) (res ι' m') := fun b g hb => by
  simp only [res] at hb ⊢; split at hb
  · rename_i hlt; rw [if_pos (by omega)]; exact h b g hlt hb
  · cases hb

def wr (ops : Array Oper) (i t : Nat) : Prop := ∃ o, ops[i]? = some o ∧ o.dst = some t
def cutAt (ops : Array Oper) (n : Nat) (l : Array Bool) (t j : Nat) : Prop :=
  j ≤ n ∧ (∀ i, i < j → wr ops i t → l.getD i false = true) ∧ ∀ i, j ≤ i → i < n → wr ops i t → l.getD i false = false

section
variable (P : Program) (N : Nat) (ops : Array Oper) (n : Nat) (f : Nat → St) (ι0 : Inj) (lo B : Nat) (w0 : World)
structure DI (l : Array Bool) (a : Act) (w : World) (ι : Inj) : Prop where
  size : l.size = ops.size
  closed : Closed ops l
  tail : ∀ t, n ≤ t → l.getD t false = false
  sz : N ≤ a.tmps.size
  tm : ∀ t, t < N → ∀ j, cutAt ops n l t j → VR (res ι (f j).h.length) ((f j).σ t) (a.tmps.getD t undef)
  dom : ∀ b g, ι b = some g → b < (f n).h.length ∧ g.c < w.heap.size
  cell : ∀ j, j ≤ n → ∀ (b : Nat) (e : TypeId) (cs : List Value) (g : Img), (f j).h[b]? = some (.cells e cs) → ι b = some g → g.z = P.cellsOf e ∧
    ∀ (i : Nat) (v : Value), cs[i]? = some v → one v = true ∧ ∃ v', w.cell? ⟨g.c, g.o + i, none⟩ = some v' ∧ VR (res ι (f j).h.length) v v'
  own : ∀ (b : Nat) (e : TypeId) (cs : List Value) (g : Img), lo ≤ b → (f n).h[b]? = some (.cells e cs) → ι b = some g → B ≤ g.c ∧ g.o = 0 ∧ cs.length ≤ g.n ∧ ∃ cur, w.heap[g.c]? = some (.cells cur e (0, 0)) ∧ cur.size = g.n
  apart : ∀ (b b' : Nat) (e : TypeId) (cs : List Value) (e' : TypeId) (cs' : List Value) (g g' : Img), b ≠ b' → lo ≤ b → (f n).h[b]? = some (.cells e cs) → (f n).h[b']? = some (.cells e' cs') → ι b = some g → ι b' = some g' → g.c ≠ g'.c
  dom2 : ∀ b g, ι b = some g → b < (f 0).h.length ∨ ∃ i, i < n ∧ l.getD i false = true ∧ (f i).h.length ≤ b ∧ b < (f (i + 1)).h.length
  ag : Ag (f 0).h.length ι0 ι
  bel : Below B w0 w
  base : B ≤ w.heap.size
  defers : a.defers = []
end

theorem cOpers_get {P : Program} {N : Nat} {d : Bool} {ops : Array Oper} : ∀ {l : List Oper} {os : List AO}, cOpers P N d ops l = some os → os.length = l.length ∧ ∀ (j : Nat) (o : Oper), l[j]? = some o → ∃ x, os[j]? = some x ∧ cOper P N d ops o = some x
  | [], os, h => by cases h; simp
  | o :: r, os, h => by
    simp only [cOpers] at h
    obtain ⟨x, hx, h⟩ := Option.bind_eq_some_iff.1 h
    obtain ⟨os', hos, rfl⟩ := Option.map_eq_some_iff.1 h
    obtain ⟨h1, h2⟩ := cOpers_get hos
    refine ⟨by simp [h1], fun j o' hj => ?_⟩
    cases j with
    | zero => simp at hj; subst hj; exact ⟨x, rfl, hx⟩
    | succ j => simpa using h2 j o' (by simpa using hj)
end Go.AH
namespace Go.AH
open Go.RowKit (Below)
/-! Another numbering of the operations of a statement of open order -/
theorem edges_re (q : Nat → Nat) (o : Oper) : edgesOf (reOper q o) = (edgesOf o).map q := by
  simp only [edgesOf, reOper, Array.toList_map, List.filter_map, List.map_map]
  congr 1
structure Renum (ops ops' : Array Oper) (q p : Nat → Nat) : Prop where
  size : ops'.size = ops.size
  qlt : ∀ i, i < ops.size → q i < ops.size
  plt : ∀ k, k < ops.size → p k < ops.size
  pq : ∀ i, i < ops.size → p (q i) = i
  qp : ∀ k, k < ops.size → q (p k) = k
  at_ : ∀ (i : Nat) (o : Oper), ops[i]? = some o → ops'[q i]? = some (reOper q o)
  edge : ∀ (i : Nat) (o : Oper), ops[i]? = some o → ∀ k ∈ edgesOf o, k < ops.size
  guard : ∀ (i : Nat) (o : Oper), ops[i]? = some o → ∀ g, o.guard = some g → g.1 < ops.size
section
variable {P : Program} {ops ops' : Array Oper} {q p : Nat → Nat} {Q : Exit → Act → World → Prop}
theorem Renum.wanted (R : Renum ops ops' q p) {i : Nat} {o : Oper} (ho : ops[i]? = some o) (tmps : Array Value) : Region.wanted (reOper q o) (yielded ops' tmps) = Region.wanted o (yielded ops tmps) := by
  unfold Region.wanted
  simp only [reOper]
  cases hg : o.guard with
  | none => rfl
  | some g =>
    obtain ⟨j, b⟩ := g
    have hj := R.guard i o ho _ hg
    simp only [Option.map_some]
    have hget : ops[j]? = some ops[j] := by simp [hj]
    have e : yielded ops' tmps (q j) = yielded ops tmps j := by
      simp only [yielded]
      rw [R.at_ j _ hget, hget]
      rfl
    rw [e]
theorem Renum.any (R : Renum ops ops' q p) : ∀ (m : Nat) (l l' : Array Bool) (a : Act) (w : World), l.size = ops.size → l'.size = ops.size → (∀ i, i < ops.size → l.getD i false = l'.getD (q i) false) →
    wpAny P .any ops' Q m l' a w → wpAny P .any ops Q m l a w := by
  have rdy : ∀ (l l' : Array Bool), l.size = ops.size → l'.size = ops.size → (∀ i, i < ops.size → l.getD i false = l'.getD (q i) false) → ∀ i, i ∈ Region.ready .any ops l → q i ∈ Region.ready .any ops' l' := by
    intro l l' hl hl' hc i hi
    obtain ⟨o, ho, h1, h2⟩ := (mem_ready hl i).1 hi
    have hil := (Array.getElem?_eq_some_iff.1 ho).1
    refine (mem_ready (hl'.trans R.size.symm) (q i)).2 ⟨_, R.at_ i o ho, by rw [← hc i hil]; exact h1, ?_⟩
    intro k hk
    rw [edges_re] at hk
    obtain ⟨k0, hk0, rfl⟩ := List.mem_map.1 hk
    rw [← hc k0 (R.edge i o ho k0 hk0)]
    exact h2 k0 hk0
  have rdy' : ∀ (l l' : Array Bool), l.size = ops.size → l'.size = ops.size → (∀ i, i < ops.size → l.getD i false = l'.getD (q i) false) → ∀ k, k ∈ Region.ready .any ops' l' → p k ∈ Region.ready .any ops l := by
    intro l l' hl hl' hc k hk
    obtain ⟨o', ho', h1, h2⟩ := (mem_ready (hl'.trans R.size.symm) k).1 hk
    have hkl := (Array.getElem?_eq_some_iff.1 ho').1
    rw [R.size] at hkl
    have hpk := R.plt k hkl
    have hget : ops[p k]? = some ops[p k] := by simp [hpk]
    have e := R.at_ (p k) _ hget
    rw [R.qp k hkl, ho'] at e
    cases e
    refine (mem_ready hl (p k)).2 ⟨_, hget, by rw [hc _ hpk, R.qp k hkl]; exact h1, ?_⟩
    intro j hj
    rw [hc j (R.edge _ _ hget j hj)]
    exact h2 (q j) (by rw [edges_re]; exact List.mem_map.2 ⟨j, hj, rfl⟩)
  intro m
  induction m with
  | zero =>
    intro l l' a w hl hl' hc h
    refine ⟨?_, h.2⟩
    apply List.eq_nil_iff_forall_not_mem.2
    intro i hi
    have := rdy l l' hl hl' hc i hi
    rw [h.1] at this; cases this
  | succ m ih =>
    intro l l' a w hl hl' hc h
    refine ⟨fun hr => h.1 ?_, fun i hi => ?_⟩
    · apply List.eq_nil_iff_forall_not_mem.2
      intro k hk
      have := rdy' l l' hl hl' hc k hk
      rw [hr] at this; cases this
    · have hq := h.2 _ (rdy l l' hl hl' hc i hi)
      obtain ⟨o, ho, h1, h2⟩ := (mem_ready hl i).1 hi
      have hil := (Array.getElem?_eq_some_iff.1 ho).1
      have hqi := R.qlt i hil
      have next : ∀ a w, wpAny P .any ops' Q m (l'.setIfInBounds (q i) true) a w → wpAny P .any ops Q m (l.setIfInBounds i true) a w := by
        intro a w
        refine ih _ _ a w (by simpa using hl) (by simpa using hl') ?_
        intro j hj
        rw [getD_set l i j (by omega), getD_set l' (q i) (q j) (by omega)]
        by_cases e : j = i
        · subst e; simp
        · have : q j ≠ q i := fun x => e (by rw [← R.pq j hj, x, R.pq i hil])
          simp only [e, this, if_false]
          exact hc j hj
      unfold wpOp at hq ⊢
      rw [R.at_ i o ho] at hq
      rw [ho]
      simp only [] at hq ⊢
      rw [R.wanted ho] at hq
      split
      · rename_i hw
        rw [if_pos hw] at hq
        rcases hq with hq | hq
        · exact .inl (Oper.wp_mono next (show o.wp P a w _ Q from hq))
        · exact .inr hq
      · rename_i hw
        rw [if_neg hw] at hq
        exact next _ _ hq
end
end Go.AH
namespace Go.AH
open Go.RowKit (Below)
theorem aop_pure {p : AOp} (hp : pureOp p = true) (Γ Γ' : Ctx) (lo lo' : Nat) (ρ : Opd → Value) (h h' : Heap) : aop Γ lo ρ h p = (aop Γ' lo' ρ h' p).map fun r => (r.1, h) := by
  cases p <;> simp only [pureOp] at hp <;> (try cases hp) <;> simp only [aop]
  all_goals (try rfl)
  all_goals (first | (simp only [Option.map_map]; rfl) | (split <;> simp; done) | (repeat' split) <;> simp [Option.map_map, Function.comp_def])
section
variable {P : Program} {N : Nat} {Γ : Ctx} {ops : Array Oper} {lo B : Nat} {ι : Inj} {σ : Nat → Value} {h h' : Heap} {w : World} {a : Act} {v : Value}
/-- An operation on a frame of which only what it looks at is told. -/
theorem masked (hΓ : OkΓ P Γ) (hr : HR P ι h lo B w) (hB : B ≤ w.heap.size) (hlo : lo ≤ h.length) (hsz : N ≤ a.tmps.size) {o : Oper} {x : AO}
    (hlook : ∀ t, t < N → t ∈ looks ops o → VR ι (σ t) (a.tmps.getD t undef)) (hc : cOper P N true ops o = some x) (hsee : ∀ t ∈ x.op.os.flatMap opdA, t ∈ looks ops o) :
    Region.wanted o (yielded ops a.tmps) = wants σ x.g ∧ (aop Γ lo (ev σ) h x.op = some (v, h') → Fr lo h h' ∧ Good P ι h lo B w v h' ((execOp a.eval o).run P w)) := by
  obtain ⟨hd, hxd, hop, hg⟩ := cOper_spec hc
  let L := looks ops o
  let a2 : Act := { tmps := ⟨(List.range a.tmps.size).map fun t => if t ∈ L then a.tmps.getD t undef else undef⟩, defers := [] }
  let σ2 : Nat → Value := fun t => if t ∈ L then σ t else undef
  have ha2 : ∀ t, a2.tmps.getD t undef = if t ∈ L then a.tmps.getD t undef else undef := by
    intro t
    simp only [a2, Array.getD_eq_getD_getElem?, List.getElem?_toArray, List.getElem?_map]
    by_cases ht : t < a.tmps.size
    · simp [ht]
    · simp [ht]
  have hTR : TR N ι σ2 a2.tmps := by
    refine ⟨by simp [a2]; exact hsz, fun t ht => ?_⟩
    rw [ha2]
    by_cases hL : t ∈ L
    · simp only [σ2, hL, if_true]; exact hlook t ht hL
    · simp only [σ2, hL, if_false]; exact VR.undef
  have heval : ∀ y ∈ o.op.operands, a2.eval y = a.eval y := by
    intro y hy
    cases y with
    | tmp t =>
      have hL : t ∈ L := by
        simp only [L, looks, List.mem_append, List.mem_flatMap]
        exact .inl ⟨_, Array.mem_toList_iff.2 hy, by simp [opdT]⟩
      simp only [Act.eval]; rw [ha2, if_pos hL]
    | _ => rfl
  have hnosel : ∀ cs b, o.op ≠ .select cs b := by intro cs b e; rw [e] at hop; simp [cOp, cOpX, isSel] at hop
  have hexec : execOp a2.eval o = execOp a.eval o := execOp_congr o hnosel heval
  constructor
  · have h1 := wants_eq (o := o) (a := a2) hTR hg
    have h2 : Region.wanted o (yielded ops a2.tmps) = Region.wanted o (yielded ops a.tmps) := by
      unfold Region.wanted
      cases hgd : o.guard with
      | none => rfl
      | some jb =>
        obtain ⟨k, b⟩ := jb
        simp only [yielded]
        cases hk : ((ops[k]?).bind (·.dst) : Option Tmp) with
        | none => rfl
        | some d =>
          have hL : d ∈ L := by simp only [L, looks, List.mem_append, hgd, hk]; exact .inr (by simp)
          have hdN : d < N := by
            rw [hgd] at hg
            simp only [cGuard, hk] at hg
            split at hg
            · assumption
            · cases hg
          have hs : d < a.tmps.size := Nat.lt_of_lt_of_le hdN hsz
          have e1 : a2.tmps[d]? = a.tmps[d]? := by
            simp only [a2, List.getElem?_toArray, List.getElem?_map]
            simp [hs, hL]
          simp only [Option.bind_some, e1]
    have h3 : wants σ2 x.g = wants σ x.g := by
      cases hgd : o.guard with
      | none => rw [hgd] at hg; simp only [cGuard] at hg; have hg := Option.some.inj hg; rw [← hg]; rfl
      | some jb =>
        obtain ⟨k, b⟩ := jb
        rw [hgd] at hg
        simp only [cGuard] at hg
        split at hg
        · rename_i d hk
          split at hg
          · have hg := Option.some.inj hg
            rw [← hg]
            have hL : d ∈ L := by simp only [L, looks, List.mem_append, hgd, hk]; exact .inr (by simp)
            simp only [wants, σ2, hL, if_true]
          · cases hg
        · cases hg
    rw [← h2, h1, h3]
  · intro ha
    have ha2' : aop Γ lo (ev σ2) h x.op = some (v, h') := by
      rw [← ha]
      refine aop_congr x.op fun y hy => ?_
      cases y with
      | v c => rfl
      | t t =>
        have hL : t ∈ L := hsee t (List.mem_flatMap.2 ⟨_, hy, by simp [opdA]⟩)
        simp only [ev, σ2, hL, if_true]
    have hgood := op_good (a := a2) hΓ hr hB hlo hTR hop ha2'
    rwa [hexec] at hgood
end
end Go.AH
namespace Go.AH
open Go.RowKit (Below)
section
variable (P : Program) (N : Nat) (Γ : Ctx) (ops : Array Oper) (os : List AO) (n : Nat) (free : Nat → Bool)
structure FOK : Prop where
  ctx : OkΓ P Γ
  comp : cOpers P N true ops ops.toList = some os
  le : n ≤ ops.size
  back : ∀ (j : Nat) (o : Oper), ops[j]? = some o → ∀ k ∈ edgesOf o, k < j
  ord : ∀ t, ∀ i, i < t → ∀ x y, ops[i]? = some x → ops[t]? = some y → (touch ops x y = true ∨ touch ops y x = true) → waits ops ops.size t i = true
  last : ∀ t, n ≤ t → t < ops.size → ∀ i, i < t → (i < n → free i = false) → waits ops ops.size t i = true
  see : ∀ (j : Nat) (o : Oper) (x : AO), ops[j]? = some o → os[j]? = some x → ∀ t ∈ x.op.os.flatMap opdA, t ∈ looks ops o
  frees : ∀ k, k < n → free k = true → ∀ (o : Oper) (x : AO), ops[k]? = some o → os[k]? = some x → x.g = none ∧ pureOp x.op = true ∧ ∃ d, o.dst = some d ∧ d ∉ looks ops o ∧ ∀ i, i < n → i ≠ k → ¬ wr ops i d
  frees2 : ∀ k, k < n → free k = true → ∀ (o : Oper), ops[k]? = some o → ∀ i, k < i → i < n → free i = true → ∀ t ∈ looks ops o, ¬ wr ops i t
structure FI (lo B : Nat) (l : Array Bool) (ι : Inj) (s : St) (a : Act) (w : World) : Prop where
  sz : N ≤ a.tmps.size
  tm : ∀ t, t < N → (∀ k, k < n → wr ops k t → l.getD k false = true) → VR ι (s.σ t) (a.tmps.getD t undef)
  heap : HR P ι s.h lo B w
  base : B ≤ w.heap.size
  low : lo ≤ s.h.length
  defers : a.defers = []
  left_ : ∀ k, k < n → l.getD k false = false → free k = true ∧ ∀ (x : AO) (d : Nat), os[k]? = some x → x.d = some d → aop Γ lo (ev s.σ) s.h x.op = some (s.σ d, s.h)
end
section
variable {P : Program} {N : Nat} {Γ : Ctx} {ops : Array Oper} {os : List AO} {n : Nat} {free : Nat → Bool} {lo B : Nat}
theorem tail2 (D : FOK P N Γ ops os n free) {Q : Exit → Act → World → Prop} {K : St → Prop} : ∀ (m t : Nat) (l : Array Bool) (ι : Inj) (s : St) (a : Act) (w : World),
    m = unl l n + (ops.size - t) → n ≤ t → t ≤ ops.size → l.size = ops.size → Closed ops l → (∀ i, n ≤ i → i < t → l.getD i false = true) → (∀ i, t ≤ i → l.getD i false = false) →
    FI P N Γ ops os n free lo B l ι s a w → rops Γ lo (os.drop t) K s →
    (∀ s' a' w' ι', Ag s.h.length ι ι' → Fr lo s.h s'.h → SR P N ι' lo B s' a' w' → Below B w w' → K s' → Q .normal a' w') → wpAny P .any ops Q m l a w
  | 0, t, l, ι, s, a, w, hm, hn, ht, hl, hc, h1, h2, I, hr, hq => by
    have e : t = ops.size := by omega
    have hu : unl l n = 0 := by omega
    have hall := unl_zero l n hu
    have hos : os.length = ops.size := by have := (cOpers_get D.comp).1; simpa using this
    rw [List.drop_eq_nil_of_le (by omega)] at hr
    refine ⟨?_, hq s a w ι (Ag.refl _ _) (Fr.refl _ _) ⟨⟨I.sz, fun t ht => I.tm t ht fun k hk _ => hall k hk⟩, I.heap, I.base, I.low, I.defers⟩ (Below.refl _ _) hr⟩
    apply List.eq_nil_iff_forall_not_mem.2
    intro i hi
    obtain ⟨o, ho, hx, _⟩ := (mem_ready hl i).1 hi
    have hlt := (Array.getElem?_eq_some_iff.1 ho).1
    by_cases hin : i < n
    · rw [hall i hin] at hx; cases hx
    · rw [h1 i (by omega) (by omega)] at hx; cases hx
  | m + 1, t, l, ι, s, a, w, hm, hn, ht, hl, hc, h1, h2, I, hr, hq => by
    refine ⟨fun hre => ?_, fun i hi => ?_⟩
    · exfalso
      by_cases hu : unl l n = 0
      · have hall := unl_zero l n hu
        have hlt : t < ops.size := by omega
        have hget : ops[t]? = some ops[t] := by simp [hlt]
        have : t ∈ Region.ready .any ops l := (mem_ready hl t).2 ⟨_, hget, h2 t (Nat.le_refl _), fun k hk => by
          have := D.back t _ hget k hk
          by_cases hkn : k < n
          · exact hall k hkn
          · exact h1 k (by omega) this⟩
        rw [hre] at this; cases this
      · obtain ⟨k, e1, e2, e3⟩ := least_unl l n (by omega)
        have hlt : k < ops.size := by have := D.le; omega
        have hget : ops[k]? = some ops[k] := by simp [hlt]
        have : k ∈ Region.ready .any ops l := (mem_ready hl k).2 ⟨_, hget, e2, fun j hj => e3 j (D.back k _ hget j hj)⟩
        rw [hre] at this; cases this
    · obtain ⟨o, ho, hx0, hedges⟩ := (mem_ready hl i).1 hi
      have hil := (Array.getElem?_eq_some_iff.1 ho).1
      have hls : i < l.size := by omega
      obtain ⟨x, hx, hcx⟩ := (cOpers_get D.comp).2 i o (by simpa using ho)
      obtain ⟨hd, hxd, hop, hg⟩ := cOper_spec hcx
      have hwait : ∀ j, waits ops ops.size i j = true → l.getD j false = true := fun j h => waits_listed hc _ i j h (fun o' ho' => by rw [ho] at ho'; cases ho'; exact hedges)
      have hsee := D.see i o x ho hx
      by_cases hin : i < n
      · -- a free one
        obtain ⟨hfr, hval⟩ := I.left_ i hin hx0
        obtain ⟨f1, f2, d, f3, f4, f5⟩ := D.frees i hin hfr o x ho hx
        have ha := hval x d hx (hxd.trans f3)
        have hlook : ∀ t, t < N → t ∈ looks ops o → VR ι (s.σ t) (a.tmps.getD t undef) := by
          intro t ht hlk
          refine I.tm t ht fun k hk hw => ?_
          cases hlk' : l.getD k false
          · have hfk := (I.left_ k hk hlk').1
            rcases Nat.lt_trichotomy k i with hki | hki | hki
            · obtain ⟨y, hy, hyd⟩ := hw
              have := hwait k (D.ord i k hki y o hy ho (.inl (by simp [touch, hyd, hlk])))
              rw [hlk'] at this; cases this
            · subst hki
              obtain ⟨y, hy, hyd⟩ := hw
              rw [ho] at hy; cases hy
              rw [f3] at hyd; cases hyd
              exact absurd hlk f4
            · exact absurd hw (D.frees2 i hin hfr o ho k hki hk hfk t hlk)
          · rfl
        have hmk := masked (v := s.σ d) (h' := s.h) D.ctx I.heap I.base I.low I.sz hlook hcx hsee
        unfold wpOp
        rw [ho]
        simp only []
        rw [hmk.1, f1]
        rw [if_pos (show wants s.σ none = true from rfl)]
        left
        refine (hmk.2 ha).2.upon ?_
        intro v' w' ι' k1 k2 k3 k4
        have hext : Ext ι ι' := I.heap.ext k1
        refine tail2 D m t _ ι' s _ w' ?_ hn ht (by simpa using hl) (closed_set hl hc hi) ?_ ?_ ⟨?_, ?_, k3, ?_, I.low, ?_, ?_⟩ hr ?_
        · have := unl_set l i hls hx0 n hin; omega
        · intro j hj hjt; rw [getD_set l i j hls, if_neg (by omega)]; exact h1 j hj hjt
        · intro j hj; rw [getD_set l i j hls, if_neg (by omega)]; exact h2 j hj
        · rw [f3]; simpa [Act.put] using I.sz
        · intro t' ht' hall
          rw [f3]
          by_cases e : t' = d
          · subst e
            have hts : t' < a.tmps.size := Nat.lt_of_lt_of_le ht' I.sz
            have e2 : (a.put (some t') v').tmps.getD t' undef = v' := by simp [Act.put, hts]
            rw [e2]; exact k2
          · have hne : d ≠ t' := fun x => e x.symm
            have e2 : (a.put (some d) v').tmps.getD t' undef = a.tmps.getD t' undef := by simp [Act.put, hne]
            rw [e2]
            refine (I.tm t' ht' fun k hk hw => ?_).mono hext
            have := hall k hk hw
            rw [getD_set l i k hls] at this
            split at this
            · rename_i hki; subst hki
              obtain ⟨y, hy, hyd⟩ := hw
              rw [ho] at hy; cases hy
              rw [f3] at hyd; cases hyd; exact absurd rfl e
            · exact this
        · have := I.base; have := k4.size; omega
        · rw [f3]; simpa [Act.put] using I.defers
        · intro k hk hlk
          rw [getD_set l i k hls] at hlk
          split at hlk
          · cases hlk
          · exact I.left_ k hk hlk
        · intro s' a' w'' ι'' q1 q2 q3 q4 q5
          exact hq s' a' w'' ι'' (k1.trans (Nat.le_refl _) q1) q2 q3 (k4.trans q4) q5
      · -- the next of the chain
        have hit : i = t := by
          rcases Nat.lt_trichotomy i t with h | h | h
          · rw [h1 i (by omega) h] at hx0; cases hx0
          · exact h
          · exfalso
            have := hwait t (D.last i (by omega) hil t h (fun x => by omega))
            rw [h2 t (Nat.le_refl _)] at this; cases this
        subst hit
        have hlist : ∀ k, k < n → ∀ y, ops[k]? = some y → (touch ops y o = true ∨ touch ops o y = true) → l.getD k false = true := fun k hk y hy ht' => hwait k (D.ord i k (by omega) y o hy ho ht')
        have hlook : ∀ t', t' < N → t' ∈ looks ops o → VR ι (s.σ t') (a.tmps.getD t' undef) := by
          intro t' ht' hlk
          refine I.tm t' ht' fun k hk ⟨y, hy, hyd⟩ => hlist k hk y hy (.inl (by simp [touch, hyd, hlk]))
        have hdrop : os.drop i = x :: os.drop (i + 1) := by
          have hlen : i < os.length := (List.getElem?_eq_some_iff.1 hx).1
          rw [List.drop_eq_getElem_cons hlen]; congr 1
          exact (List.getElem?_eq_some_iff.1 hx).2
        rw [hdrop] at hr
        have hul : unl (l.setIfInBounds i true) n = unl l n := unl_same l i hls n (by omega)
        have hkeep : ∀ (v : Value) (h' : Heap) (k : Nat), k < n → (l.setIfInBounds i true).getD k false = false → free k = true ∧ ∀ (xk : AO) (d : Nat), os[k]? = some xk → xk.d = some d → aop Γ lo (ev (putO s.σ x.d v)) h' xk.op = some (putO s.σ x.d v d, h') := by
          intro v h' k hk hlk
          rw [getD_set l i k hls, if_neg (by omega)] at hlk
          obtain ⟨hfr, hval⟩ := I.left_ k hk hlk
          refine ⟨hfr, fun xk d hxk hdk => ?_⟩
          have hks : k < ops.size := by have := D.le; omega
          have hget : ops[k]? = some ops[k] := by simp [hks]
          obtain ⟨xk', hxk', hck⟩ := (cOpers_get D.comp).2 k ops[k] (by simp)
          rw [hxk] at hxk'; cases hxk'
          have hdd := (cOper_spec hck).2.1
          obtain ⟨f1, f2, d0, f3, f4, f5⟩ := D.frees k hk hfr _ xk hget hxk
          have hno : ∀ t', o.dst = some t' → t' ∉ looks ops ops[k] ∧ ops[k].dst ≠ some t' := by
            intro t' ht'
            constructor
            · intro hm
              have := hlist k hk _ hget (.inr (by simp [touch, ht', hm]))
              rw [hlk] at this; cases this
            · intro hm
              have := hlist k hk _ hget (.inr (by simp [touch, ht', hm]))
              rw [hlk] at this; cases this
          have hput : ∀ t', (∀ t'', o.dst = some t'' → t' ≠ t'') → putO s.σ x.d v t' = s.σ t' := by
            intro t' hne
            rw [hxd]
            cases hod : o.dst with
            | none => rfl
            | some t'' => have := hne t'' hod; simp [putO, put, this]
          have e1 : aop Γ lo (ev (putO s.σ x.d v)) s.h xk.op = aop Γ lo (ev s.σ) s.h xk.op := by
            refine aop_congr xk.op fun y hy => ?_
            cases y with
            | v c => rfl
            | t t' =>
              have hL : t' ∈ looks ops ops[k] := D.see k _ xk hget hxk t' (List.mem_flatMap.2 ⟨_, hy, by simp [opdA]⟩)
              simp only [ev]
              exact hput t' fun t'' h e => (hno t'' h).1 (e ▸ hL)
          rw [aop_pure f2 Γ Γ lo lo _ h' s.h, e1, hval xk d hxk hdk, hput d fun t'' h e => (hno t'' h).2 (by rw [← hdd, hdk, e])]
          rfl
        have hnext : ∀ (v v' : Value) (h' : Heap) (w' : World) (ι' : Inj), Ag s.h.length ι ι' → Fr lo s.h h' → VR ι' v v' → HR P ι' h' lo B w' → Below B w w' → rops Γ lo (os.drop (i + 1)) K ⟨putO s.σ x.d v, h'⟩ → wpAny P .any ops Q m (l.setIfInBounds i true) (a.put o.dst v') w' := by
          intro v v' h' w' ι' k1 kf k2 k3 k4 hr'
          have hext : Ext ι ι' := I.heap.ext k1
          refine tail2 D m (i + 1) _ ι' ⟨putO s.σ x.d v, h'⟩ _ w' (by omega) (by omega) (by omega) (by simpa using hl) (closed_set hl hc hi) ?_ ?_ ⟨?_, ?_, k3, ?_, Nat.le_trans I.low kf.1, ?_, hkeep v h'⟩ hr' ?_
          · intro j hj hjt; rw [getD_set l i j hls]; split
            · rfl
            · exact h1 j hj (by omega)
          · intro j hj; rw [getD_set l i j hls, if_neg (by omega)]; exact h2 j (by omega)
          · cases o.dst <;> simpa [Act.put] using I.sz
          · intro t' ht' hall
            have hold : VR ι' (s.σ t') (a.tmps.getD t' undef) ∨ o.dst = some t' := by
              by_cases e : o.dst = some t'
              · exact .inr e
              · refine .inl ((I.tm t' ht' fun k hk hw => ?_).mono hext)
                have := hall k hk hw
                rwa [getD_set l i k hls, if_neg (by omega)] at this
            simp only []
            rw [hxd]
            cases hod : o.dst with
            | none =>
              rcases hold with h | h
              · exact h
              · rw [hod] at h; cases h
            | some d =>
              by_cases e : t' = d
              · subst e
                have hts : t' < a.tmps.size := Nat.lt_of_lt_of_le ht' I.sz
                have e1 : putO s.σ (some t') v t' = v := by simp [putO, put]
                have e2 : (a.put (some t') v').tmps.getD t' undef = v' := by simp [Act.put, hts]
                rw [e1, e2]; exact k2
              · have hne : d ≠ t' := fun x => e x.symm
                have e1 : putO s.σ (some d) v t' = s.σ t' := by simp [putO, put, e]
                have e2 : (a.put (some d) v').tmps.getD t' undef = a.tmps.getD t' undef := by simp [Act.put, hne]
                rw [e1, e2]
                rcases hold with h | h
                · exact h
                · rw [hod] at h; cases h; exact absurd rfl e
          · have := I.base; have := k4.size; omega
          · cases o.dst <;> simpa [Act.put] using I.defers
          · intro s' a' w'' ι'' q1 q2 q3 q4 q5
            exact hq s' a' w'' ι'' (k1.trans kf.1 q1) (kf.trans q2) q3 (k4.trans q4) q5
        simp only [rops] at hr
        split at hr
        · rename_i s' hst
          unfold stepO at hst
          unfold wpOp
          rw [ho]
          simp only []
          rw [(masked (v := undef) (h' := s.h) D.ctx I.heap I.base I.low I.sz hlook hcx hsee).1]
          by_cases hw : wants s.σ x.g = true
          · rw [if_pos hw] at hst
            rw [if_pos hw]
            obtain ⟨⟨v, h'⟩, ha, hst⟩ := Option.map_eq_some_iff.1 hst
            simp only [] at hst
            subst hst
            have hfr := (masked D.ctx I.heap I.base I.low I.sz hlook hcx hsee).2 ha
            left
            refine hfr.2.upon ?_
            intro v' w' ι' k1 k2 k3 k4
            exact hnext v v' h' w' ι' k1 hfr.1 k2 k3 k4 hr
          · rw [if_neg hw] at hst
            rw [if_neg hw]
            have hst := Option.some.inj hst
            subst hst
            exact hnext undef undef s.h w ι (Ag.refl _ _) (Fr.refl _ _) VR.undef I.heap (Below.refl _ _) hr
        · exact hr.elim
end
end Go.AH
namespace Go.AH
open Go.RowKit (Below)
theorem renum_of {ops : Array Oper} {ord : List Nat} (h : renumOk ops (reOps ops ord) ord = true) (hall : ∀ i ∈ ord, i < ops.size) : Renum ops (reOps ops ord) (fun j => ord.idxOf j) (fun k => ord.getD k 0) := by
  simp only [renumOk, Bool.and_eq_true, beq_iff_eq, decide_eq_true_eq, List.all_eq_true, List.mem_range] at h
  obtain ⟨⟨⟨h1, h2⟩, h3⟩, h4⟩ := h
  refine ⟨h1, fun i hi => (h3 i hi).1.1.1, fun k hk => (h3 k hk).1.1.2, fun i hi => (h3 i hi).1.2, fun k hk => (h3 k hk).2, ?_, ?_, ?_⟩
  · intro i o ho
    have hi := (Array.getElem?_eq_some_iff.1 ho).1
    have hq := (h3 i hi).1.1.1
    have hp := (h3 i hi).1.2
    have hfm : ∀ (l : List Nat), (∀ j ∈ l, j < ops.size) → (l.filterMap fun i => (ops[i]?).map (reOper fun j => ord.idxOf j)) = l.map fun i => (reOper (fun j => ord.idxOf j) (ops[i]?.getD o)) := by
      intro l hl
      induction l with
      | nil => rfl
      | cons a r ih =>
        have ha : a < ops.size := hl a (by simp)
        simp only [List.filterMap_cons, Array.getElem?_eq_getElem ha, Option.map_some, List.map_cons, Option.getD_some]
        rw [ih fun j hj => hl j (by simp [hj])]
    simp only [reOps, List.getElem?_toArray]
    rw [hfm ord hall, List.getElem?_map]
    have hlt : ord.idxOf i < ord.length := by omega
    have e : ord[ord.idxOf i]? = some i := by
      rw [List.getD_eq_getElem?_getD, List.getElem?_eq_getElem hlt] at hp
      rw [List.getElem?_eq_getElem hlt]; simp
    rw [e]
    simp [ho]
  · intro i o ho k hk
    have hi := (Array.getElem?_eq_some_iff.1 ho).1
    have := h4 i hi
    rw [ho] at this
    simp only [Bool.and_eq_true, List.all_eq_true, decide_eq_true_eq] at this
    exact this.1 k hk
  · intro i o ho g hg
    have hi := (Array.getElem?_eq_some_iff.1 ho).1
    have := h4 i hi
    rw [ho] at this
    simp only [Bool.and_eq_true, List.all_eq_true, decide_eq_true_eq, hg] at this
    exact this.2
end Go.AH
namespace Go.AH
open Go.RowKit (Below)
theorem fok_of {P : Program} {N : Nat} {Γ : Ctx} (hΓ : OkΓ P Γ) {ops : Array Oper} {os : List AO} {n : Nat} {free : Nat → Bool} (hos : cOpers P N true ops ops.toList = some os) (h : fokOk ops os n free = true) :
    FOK P N Γ ops os n free ∧ ∀ j, j < ops.size → ∀ i, i < j → ∀ x y, ops[i]? = some x → ops[j]? = some y → (touch ops x y = true ∨ touch ops y x = true) → waits ops ops.size j i = true := by
  simp only [fokOk, Bool.and_eq_true, decide_eq_true_eq, List.all_eq_true, List.mem_range] at h
  obtain ⟨⟨⟨⟨⟨h1, h2⟩, h3⟩, h4⟩, h5⟩, h6⟩ := h
  have hord : ∀ j, j < ops.size → ∀ i, i < j → ∀ x y, ops[i]? = some x → ops[j]? = some y → (touch ops x y = true ∨ touch ops y x = true) → waits ops ops.size j i = true := by
    intro j hj i hi x y hx hy ht
    have := h3 j hj i hi
    rw [hx, hy] at this
    simp only [] at this
    rw [if_pos (by simpa using ht)] at this
    exact this
  refine ⟨⟨hΓ, hos, h1, ?_, ?_, ?_, ?_, ?_, ?_⟩, hord⟩
  · intro j o ho k hk
    have := h2 j (Array.getElem?_eq_some_iff.1 ho).1
    rw [ho] at this
    simpa using (List.all_eq_true.1 this) k hk
  · intro t i hi x y hx hy htt
    exact hord t (Array.getElem?_eq_some_iff.1 hy).1 i hi x y hx hy htt
  · intro t ht hts i hi hf
    have := h4 t hts
    simp only [Bool.or_eq_true, decide_eq_true_eq, List.all_eq_true, List.mem_range, Bool.and_eq_true] at this
    rcases this with h | h
    · omega
    · rcases h i hi with ⟨h7, h8⟩ | h7
      · rw [hf h7] at h8; cases h8
      · exact h7
  · intro j o x ho hx t ht
    have hmem : (o, x) ∈ ops.toList.zip os := by
      refine List.mem_of_getElem? (i := j) ?_
      rw [List.getElem?_zip_eq_some]
      exact ⟨by simpa using ho, hx⟩
    have := h5 (o, x) hmem t ht
    simpa using this
  · intro k hk hfk o x ho hx
    have := h6 k hk
    rw [hfk, ho, hx] at this
    simp only [Bool.not_true, Bool.false_or, Bool.and_eq_true] at this
    obtain ⟨⟨⟨g1, g2⟩, g3⟩, g4⟩ := this
    refine ⟨by simpa using g1, g2, ?_⟩
    cases hd : o.dst with
    | none => rw [hd] at g3; cases g3
    | some d =>
      rw [hd] at g3
      simp only [Bool.and_eq_true, List.all_eq_true, List.mem_range] at g3
      refine ⟨d, rfl, by simpa using g3.1, ?_⟩
      rintro i hi hne ⟨y, hy, hyd⟩
      have := g3.2 i hi
      rw [hy] at this
      simp [hne, hyd] at this
  · intro k hk hfk o ho i hki hi hfi t ht ⟨y, hy, hyd⟩
    have hks : k < ops.size := by omega
    obtain ⟨x, hx, _⟩ := (cOpers_get hos).2 k o (by simpa using ho)
    have := h6 k hk
    rw [hfk, ho, hx] at this
    simp only [Bool.not_true, Bool.false_or, Bool.and_eq_true, List.all_eq_true, List.mem_range] at this
    have := this.2 i hi
    rw [hfi, hy] at this
    have hki2 : ¬ i ≤ k := by omega
    simp [hyd, ht, hki2] at this
end Go.AH
namespace Go.AH
open Go.RowKit (Below)

section
variable {P : Program} {N : Nat} {Γ : Ctx} {ops : Array Oper} {os : List AO} {n : Nat} {f : Nat → St} {ι0 : Inj} {lo B : Nat} {w0 : World}

structure DOK2 (P : Program) (N : Nat) (Γ : Ctx) (ops : Array Oper) (os : List AO) (n : Nat) (f : Nat → St) : Prop where
  ctx : OkΓ P Γ
  comp : cOpers P N true ops ops.toList = some os
  le : n ≤ ops.size
  back : ∀ (j : Nat) (o : Oper), ops[j]? = some o → ∀ k ∈ edgesOf o, k < j
  ord : ∀ j, j < n → ∀ i, i < j → ∀ x y, ops[i]? = some x → ops[j]? = some y → (touch ops x y = true ∨ touch ops y x = true) → waits ops ops.size j i = true
  see : ∀ (j : Nat) (o : Oper) (x : AO), ops[j]? = some o → os[j]? = some x → ∀ t ∈ x.op.os.flatMap opdA, t ∈ looks ops o
  step : ∀ i, i < n → ∀ x, os[i]? = some x → stepO Γ (f i).h.length x (f i) = some (f (i + 1))

variable (D : DOK2 P N Γ ops os n f)
include D

theorem DOK2.get {j : Nat} {o : Oper} (hj : ops[j]? = some o) : ∃ x, os[j]? = some x ∧ cOper P N true ops o = some x :=
  (cOpers_get D.comp).2 j o (by simpa using hj)
theorem DOK2.fr1 {i : Nat} (hi : i < n) : Fr (f i).h.length (f i).h (f (i + 1)).h := by
  have hlt : i < ops.size := Nat.lt_of_lt_of_le hi D.le
  obtain ⟨x, hx, _⟩ := D.get (j := i) (o := ops[i]) (by simp [hlt])
  have hs := D.step i hi x hx
  unfold stepO at hs
  split at hs
  · obtain ⟨⟨v, h'⟩, ha, hs⟩ := Option.map_eq_some_iff.1 hs
    have := aop_fr D.ctx x.op ha (Nat.le_refl _)
    rw [← hs]; exact this
  · have hs := Option.some.inj hs
    rw [← hs]; exact Fr.refl _ _
theorem DOK2.mono : ∀ (j i : Nat), i ≤ j → j ≤ n → (f i).h.length ≤ (f j).h.length ∧ ∀ b, b < (f i).h.length → (f j).h[b]? = (f i).h[b]?
  | 0, i, h, _ => by have : i = 0 := by omega
                     subst this; exact ⟨Nat.le_refl _, fun _ _ => rfl⟩
  | j + 1, i, h, hj => by
    by_cases e : i = j + 1
    · subst e; exact ⟨Nat.le_refl _, fun _ _ => rfl⟩
    · obtain ⟨h1, h2⟩ := DOK2.mono j i (by omega) (by omega)
      obtain ⟨h3, h4⟩ := D.fr1 (i := j) (by omega)
      exact ⟨by omega, fun b hb => (h4 b (by omega)).trans (h2 b hb)⟩
theorem DOK2.same {t : Nat} : ∀ (j i : Nat), i ≤ j → j ≤ n → (∀ k, i ≤ k → k < j → ¬ wr ops k t) → (f j).σ t = (f i).σ t
  | 0, i, h, _, _ => by have : i = 0 := by omega
                        subst this; rfl
  | j + 1, i, h, hj, hw => by
    by_cases e : i = j + 1
    · subst e; rfl
    · have ih := DOK2.same j i (by omega) (by omega) (fun k h1 h2 => hw k h1 (by omega))
      have hlt : j < ops.size := by have := D.le; omega
      have hget : ops[j]? = some ops[j] := by simp [hlt]
      obtain ⟨x, hx, hc⟩ := D.get hget
      have hd := (cOper_spec hc).2.1
      have hs := D.step j (by omega) x hx
      have hput : ∀ v, putO (f j).σ x.d v t = (f j).σ t := by
        intro v
        have hne : x.d ≠ some t := fun hxt => hw j (by omega) (by omega) ⟨ops[j], hget, by rw [← hd]; exact hxt⟩
        cases hxd : x.d with
        | none => rfl
        | some d =>
          rw [hxd] at hne
          have : t ≠ d := fun e => hne (by rw [e])
          simp [putO, put, this]
      unfold stepO at hs
      split at hs
      · obtain ⟨⟨v, h'⟩, ha, hs⟩ := Option.map_eq_some_iff.1 hs
        rw [← hs, ← ih]; exact hput v
      · have hs := Option.some.inj hs
        rw [← hs, ← ih]; exact hput undef

/-- One operation of the head, whenever its turn comes. -/
theorem draw_step2 {l : Array Bool} {a : Act} {w : World} {ι : Inj} (I : DI P N ops n f ι0 lo B w0 l a w ι) {j : Nat} (hj : j ∈ Region.ready .any ops l) (hjn : j < n) {Q : Exit → Act → World → Prop} :
    wpOp P ops Q j (fun a' w' => ∃ ι', DI P N ops n f ι0 lo B w0 (l.setIfInBounds j true) a' w' ι') a w := by
  obtain ⟨o, ho, hjl, hedges⟩ := (mem_ready I.size j).1 hj
  have hjs : j < ops.size := (Array.getElem?_eq_some_iff.1 ho).1
  have hjsz : j < l.size := by rw [I.size]; exact hjs
  obtain ⟨x, hx, hc⟩ := D.get ho
  obtain ⟨hd, hxd, hop, hg⟩ := cOper_spec hc
  have hst := D.step j hjn x hx
  have hwait : ∀ i, waits ops ops.size j i = true → l.getD i false = true := fun i h => waits_listed I.closed _ j i h (fun o' ho' => by rw [ho] at ho'; cases ho'; exact hedges)
  -- every slot that is looked at holds what it holds in the text's order
  have hcutL : ∀ t, t ∈ looks ops o → cutAt ops n l t j := by
    intro t ht
    refine ⟨Nat.le_of_lt hjn, fun i hi ⟨y, hy, hyd⟩ => ?_, fun i hi hin ⟨y, hy, hyd⟩ => ?_⟩
    · exact hwait i (D.ord j hjn i hi y o hy ho (.inl (by simp [touch, hyd, ht])))
    · by_cases e : i = j
      · subst e; exact hjl
      · cases hli : l.getD i false
        · rfl
        · exfalso
          have hw := D.ord i hin j (by omega) o y ho hy (.inr (by simp [touch, hyd, ht]))
          have := waits_listed I.closed _ i j hw (fun o' ho' => I.closed i o' ho' hli)
          rw [hjl] at this; cases this
  have hcutD : ∀ t, o.dst = some t → ∀ j', cutAt ops n (l.setIfInBounds j true) t j' → j + 1 ≤ j' ∧ (f j').σ t = (f (j + 1)).σ t := by
    intro t hdt j' ⟨h1, h2, h3⟩
    have hlt : j + 1 ≤ j' := by
      rcases Nat.lt_or_ge j j' with x | x
      · exact x
      · have := h3 j x hjn ⟨o, ho, hdt⟩
        rw [getD_set l j j hjsz] at this; simp at this
    refine ⟨hlt, D.same j' (j + 1) hlt h1 fun k hk1 hk2 ⟨y, hy, hyd⟩ => ?_⟩
    have hlk := h2 k hk2 ⟨y, hy, hyd⟩
    rw [getD_set l j k hjsz, if_neg (by omega)] at hlk
    have hw := D.ord k (by omega) j (by omega) o y ho hy (.inl (by simp [touch, hdt, hyd]))
    have := waits_listed I.closed _ k j hw (fun o' ho' => I.closed k o' ho' hlk)
    rw [hjl] at this; cases this
  have hcutO : ∀ t, o.dst ≠ some t → ∀ j', cutAt ops n (l.setIfInBounds j true) t j' → cutAt ops n l t j' := by
    intro t hdt j' ⟨h1, h2, h3⟩
    have hne : ∀ i, wr ops i t → i ≠ j := fun i ⟨y, hy, hyd⟩ e => by subst e; rw [ho] at hy; cases hy; exact hdt hyd
    refine ⟨h1, fun i hi hw => ?_, fun i hi hin hw => ?_⟩
    · have := h2 i hi hw; rwa [getD_set l j i hjsz, if_neg (hne i hw)] at this
    · have := h3 i hi hin hw; rwa [getD_set l j i hjsz, if_neg (hne i hw)] at this
  have hclosed := closed_set I.size I.closed hj
  have htail : ∀ t, n ≤ t → (l.setIfInBounds j true).getD t false = false := fun t ht => by rw [getD_set l j t hjsz, if_neg (by omega)]; exact I.tail t ht
  have hdom2 : ∀ {ι' : Inj}, (∀ b g, ι' b = some g → (∃ g', ι b = some g') ∨ ((f j).h.length ≤ b ∧ b < (f (j + 1)).h.length)) →
      ∀ b g, ι' b = some g → b < (f 0).h.length ∨ ∃ i, i < n ∧ (l.setIfInBounds j true).getD i false = true ∧ (f i).h.length ≤ b ∧ b < (f (i + 1)).h.length := by
    intro ι' h b g hb
    rcases h b g hb with ⟨g', hg'⟩ | ⟨h1, h2⟩
    · rcases I.dom2 b g' hg' with h1 | ⟨i, h1, h2, h3, h4⟩
      · exact .inl h1
      · exact .inr ⟨i, h1, by rw [getD_set l j i hjsz]; split <;> simp_all, h3, h4⟩
    · exact .inr ⟨j, hjn, by rw [getD_set l j j hjsz]; simp, h1, h2⟩
  unfold wpOp
  rw [ho]
  simp only []
  -- the frame in which only what is looked at is left
  let L := looks ops o
  let a2 : Act := { tmps := ⟨(List.range a.tmps.size).map fun t => if t ∈ L then a.tmps.getD t undef else undef⟩, defers := [] }
  let σ2 : Nat → Value := fun t => if t ∈ L then (f j).σ t else undef
  have ha2 : ∀ t, a2.tmps.getD t undef = if t ∈ L then a.tmps.getD t undef else undef := by
    intro t
    simp only [a2, Array.getD_eq_getD_getElem?, List.getElem?_toArray, List.getElem?_map]
    by_cases ht : t < a.tmps.size
    · simp [ht]
    · simp [ht]
  have hTR : TR N (res ι (f j).h.length) σ2 a2.tmps := by
    refine ⟨by simp [a2]; exact I.sz, fun t ht => ?_⟩
    rw [ha2]
    by_cases hL : t ∈ L
    · simp only [σ2, hL, if_true]; exact I.tm t ht j (hcutL t hL)
    · simp only [σ2, hL, if_false]; exact VR.undef
  have heval : ∀ y ∈ o.op.operands, a2.eval y = a.eval y := by
    intro y hy
    cases y with
    | tmp t =>
      have hL : t ∈ L := by
        simp only [L, looks, List.mem_append, List.mem_flatMap]
        exact .inl ⟨_, Array.mem_toList_iff.2 hy, by simp [opdT]⟩
      simp only [Act.eval]; rw [ha2, if_pos hL]
    | _ => rfl
  have hres : ∀ b g, (res ι (f j).h.length) b = some g → ι b = some g ∧ b < (f j).h.length := by
    intro b g hb; simp only [res] at hb; split at hb
    · exact ⟨hb, ‹_›⟩
    · cases hb
  -- the heap as far as the text's order has come
  have hHR : HR P (res ι (f j).h.length) (f j).h (f j).h.length w.heap.size w := by
    refine ⟨?_, ?_, ?_, ?_⟩
    · intro b g hb; obtain ⟨h1, h2⟩ := hres b g hb; exact ⟨h2, (I.dom b g h1).2⟩
    · intro b e cs g hb hg
      obtain ⟨h1, h2⟩ := hres b g hg
      exact I.cell j (Nat.le_of_lt hjn) b e cs g hb h1
    · intro b e cs g hlb hb hg; have := (hres b g hg).2; omega
    · intro b b' e cs e' cs' g g' _ hlb _ _ hg _; have := (hres b g hg).2; omega
  have hnosel : ∀ cs b, o.op ≠ .select cs b := by intro cs b e; rw [e] at hop; simp [cOp, cOpX, isSel] at hop
  have hexec : execOp a2.eval o = execOp a.eval o := execOp_congr o hnosel heval
  have hwants : Region.wanted o (yielded ops a.tmps) = wants (f j).σ x.g := by
    have h1 := wants_eq (o := o) (a := a2) hTR hg
    have h2 : Region.wanted o (yielded ops a2.tmps) = Region.wanted o (yielded ops a.tmps) := by
      unfold Region.wanted
      cases hgd : o.guard with
      | none => rfl
      | some jb =>
        obtain ⟨k, b⟩ := jb
        simp only [yielded]
        cases hk : ((ops[k]?).bind (·.dst) : Option Tmp) with
        | none => rfl
        | some d =>
          have hL : d ∈ L := by simp only [L, looks, List.mem_append, hgd, hk]; exact .inr (by simp)
          have hdN : d < N := by
            rw [hgd] at hg
            simp only [cGuard, hk] at hg
            split at hg
            · assumption
            · cases hg
          have hsz : d < a.tmps.size := Nat.lt_of_lt_of_le hdN I.sz
          have e1 : a2.tmps[d]? = a.tmps[d]? := by
            simp only [a2, List.getElem?_toArray, List.getElem?_map]
            simp [hsz, hL]
          simp only [Option.bind_some, e1]
    have h3 : wants σ2 x.g = wants (f j).σ x.g := by
      cases hgd : o.guard with
      | none => rw [hgd] at hg; simp only [cGuard] at hg; have hg := Option.some.inj hg; rw [← hg]; rfl
      | some jb =>
        obtain ⟨k, b⟩ := jb
        rw [hgd] at hg
        simp only [cGuard] at hg
        split at hg
        · rename_i d hk
          split at hg
          · have hg := Option.some.inj hg
            rw [← hg]
            have hL : d ∈ L := by simp only [L, looks, List.mem_append, hgd, hk]; exact .inr (by simp)
            simp only [wants, σ2, hL, if_true]
          · cases hg
        · cases hg
    rw [← h2, h1, h3]
  rw [hwants]
  have hsee := D.see j o x ho hx
  unfold stepO at hst
  by_cases hw : wants (f j).σ x.g = true
  · rw [if_pos hw] at hst
    rw [if_pos hw]
    obtain ⟨⟨v, h'⟩, ha, hst⟩ := Option.map_eq_some_iff.1 hst
    have ha2' : aop Γ (f j).h.length (ev σ2) (f j).h x.op = some (v, h') := by
      rw [← ha]
      refine aop_congr x.op fun y hy => ?_
      cases y with
      | v c => rfl
      | t t =>
        have hL : t ∈ L := hsee t (List.mem_flatMap.2 ⟨_, hy, by simp [opdA]⟩)
        simp only [ev, σ2, hL, if_true]
    have hj1h : (f (j + 1)).h = h' := by rw [← hst]
    have hj1σ : (f (j + 1)).σ = putO (f j).σ o.dst v := by rw [← hst, hxd]
    left
    have hgood := (op_good (a := a2) D.ctx hHR (Nat.le_refl _) (Nat.le_refl _) hTR hop ha2').2
    rw [hexec] at hgood
    refine hgood.upon ?_
    intro v' w' ι2 hag hvr hhr hbel
    have hm1 := D.mono (j + 1) j (by omega) (by omega)
    have hmn := D.mono n (j + 1) (by omega) (Nat.le_refl _)
    rw [← hj1h] at hhr
    -- the places, old and new
    let ι3 : Inj := fun b => if b < (f j).h.length then ι b else if b < (f (j + 1)).h.length then ι2 b else ι b
    have hfresh : ∀ b, (f j).h.length ≤ b → b < (f (j + 1)).h.length → ι b = none := by
      intro b h1 h2
      cases hb : ι b with
      | none => rfl
      | some g =>
        exfalso
        rcases I.dom2 b g hb with h3 | ⟨i, h3, h4, h5, h6⟩
        · have := (D.mono j 0 (by omega) (Nat.le_of_lt hjn)).1; omega
        · have hij : i ≠ j := fun e => by subst e; rw [hjl] at h4; cases h4
          rcases Nat.lt_or_gt_of_ne hij with h7 | h7
          · have := (D.mono j (i + 1) (by omega) (Nat.le_of_lt hjn)).1; omega
          · have := (D.mono i (j + 1) (by omega) (Nat.le_of_lt h3)).1; omega
    have hold : ∀ b g, ι b = some g → ι3 b = some g := by
      intro b g hb
      simp only [ι3]
      by_cases h1 : b < (f j).h.length
      · rw [if_pos h1]; exact hb
      · rw [if_neg h1]
        by_cases h2 : b < (f (j + 1)).h.length
        · rw [hfresh b (by omega) h2] at hb; cases hb
        · rw [if_neg h2]; exact hb
    have h23 : ∀ b g, ι2 b = some g → ι3 b = some g ∧ b < (f (j + 1)).h.length := by
      intro b g hb
      have hlt := (hhr.dom b g hb).1
      refine ⟨?_, hlt⟩
      simp only [ι3]
      by_cases h1 : b < (f j).h.length
      · rw [if_pos h1]
        have := hag b h1
        rw [hb] at this
        exact (hres b g this.symm).1
      · rw [if_neg h1, if_pos hlt]; exact hb
    have h3cases : ∀ b g, ι3 b = some g → ι b = some g ∨ ((f j).h.length ≤ b ∧ b < (f (j + 1)).h.length ∧ ι2 b = some g) := by
      intro b g hb
      simp only [ι3] at hb
      split at hb
      · exact .inl hb
      · split at hb
        · exact .inr ⟨by omega, ‹_›, hb⟩
        · exact .inl hb
    have hcellw : ∀ b g i, ι b = some g → w'.cell? ⟨g.c, g.o + i, none⟩ = w.cell? ⟨g.c, g.o + i, none⟩ := fun b g i hb => cell?_same (hbel.block _ (I.dom b g hb).2)
    refine ⟨ι3, ?_⟩
    constructor
    · simpa using I.size
    · exact hclosed
    · exact htail
    · cases o.dst <;> simpa [Act.put] using I.sz
    · intro t ht j' hcut
      by_cases hdt : o.dst = some t
      · obtain ⟨h1, h2⟩ := hcutD t hdt j' hcut
        have hts : t < a.tmps.size := Nat.lt_of_lt_of_le ht I.sz
        rw [h2, hj1σ, hdt]
        have e1 : putO (f j).σ (some t) v t = v := by simp [putO, put]
        have e2 : (a.put (some t) v').tmps.getD t undef = v' := by simp [Act.put, hts]
        rw [e1, e2]
        have hle := (D.mono j' (j + 1) h1 hcut.1).1
        refine hvr.mono fun b g hb => ?_
        obtain ⟨h3, h4⟩ := h23 b g hb
        simp only [res]; rw [if_pos (by omega)]; exact h3
      · have h1 := I.tm t ht j' (hcutO t hdt j' hcut)
        have e2 : (a.put o.dst v').tmps.getD t undef = a.tmps.getD t undef := by
          cases hdd : o.dst with
          | none => rfl
          | some d =>
            rw [hdd] at hdt
            have : d ≠ t := fun e => hdt (by rw [e])
            simp [Act.put, this]
        rw [e2]
        exact h1.mono (res_mono (Nat.le_refl _) fun b g _ hb => hold b g hb)
    · intro b g hb
      rcases h3cases b g hb with h1 | ⟨h1, h2, h3⟩
      · have := I.dom b g h1; exact ⟨this.1, by have := hbel.size; omega⟩
      · exact ⟨by omega, (hhr.dom b g h3).2⟩
    · intro j' hj' b e cs g hb hg
      rcases h3cases b g hg with h1 | ⟨h1, h2, h3⟩
      · obtain ⟨hz, hcell⟩ := I.cell j' hj' b e cs g hb h1
        refine ⟨hz, fun i u hu => ?_⟩
        obtain ⟨k1, u', k2, k3⟩ := hcell i u hu
        exact ⟨k1, u', by rw [hcellw b g i h1]; exact k2, k3.mono (res_mono (Nat.le_refl _) fun b g _ hb => hold b g hb)⟩
      · have hlt : b < (f j').h.length := by
          rcases Nat.lt_or_ge b (f j').h.length with x | x
          · exact x
          · rw [List.getElem?_eq_none x] at hb; cases hb
        have hjj : j + 1 ≤ j' := by
          rcases Nat.lt_or_ge j j' with x | x
          · exact x
          · have := (D.mono j j' x (Nat.le_of_lt hjn)).1; omega
        have hb1 : (f (j + 1)).h[b]? = some (.cells e cs) := by rw [← (D.mono j' (j + 1) hjj hj').2 b h2]; exact hb
        obtain ⟨hz, hcell⟩ := hhr.cell b e cs g hb1 h3
        refine ⟨hz, fun i u hu => ?_⟩
        obtain ⟨k1, u', k2, k3⟩ := hcell i u hu
        have hle := (D.mono j' (j + 1) hjj hj').1
        refine ⟨k1, u', k2, k3.mono fun b g hb => ?_⟩
        obtain ⟨h5, h6⟩ := h23 b g hb
        simp only [res]; rw [if_pos (by omega)]; exact h5
    · intro b e cs g hlb hb hg
      rcases h3cases b g hg with h1 | ⟨h1, h2, h3⟩
      · obtain ⟨k1, k2, k3, cur, k4, k5⟩ := I.own b e cs g hlb hb h1
        exact ⟨k1, k2, k3, cur, by rw [hbel.block _ (I.dom b g h1).2]; exact k4, k5⟩
      · have hb1 : (f (j + 1)).h[b]? = some (.cells e cs) := by rw [← hmn.2 b h2]; exact hb
        obtain ⟨k1, k2, k3, k4⟩ := hhr.own b e cs g h1 hb1 h3
        exact ⟨by have := I.base; omega, k2, k3, k4⟩
    · intro b b' e cs e' cs' g g' hne hlb hb hb' hg hg'
      rcases h3cases b g hg with h1 | ⟨h1, h2, h3⟩
      · rcases h3cases b' g' hg' with h1' | ⟨h1', h2', h3'⟩
        · exact I.apart b b' e cs e' cs' g g' hne hlb hb hb' h1 h1'
        · have hb1 : (f (j + 1)).h[b']? = some (.cells e' cs') := by rw [← hmn.2 b' h2']; exact hb'
          have k1 := (hhr.own b' e' cs' g' h1' hb1 h3').1
          have k2 := (I.dom b g h1).2
          omega
      · have hb1 : (f (j + 1)).h[b]? = some (.cells e cs) := by rw [← hmn.2 b h2]; exact hb
        rcases h3cases b' g' hg' with h1' | ⟨h1', h2', h3'⟩
        · have k1 := (hhr.own b e cs g h1 hb1 h3).1
          have k2 := (I.dom b' g' h1').2
          omega
        · have hb1' : (f (j + 1)).h[b']? = some (.cells e' cs') := by rw [← hmn.2 b' h2']; exact hb'
          exact hhr.apart b b' e cs e' cs' g g' hne h1 hb1 hb1' h3 h3'
    · exact hdom2 (fun b g hb => by
        rcases h3cases b g hb with h1 | ⟨h1, h2, h3⟩
        · exact .inl ⟨g, h1⟩
        · exact .inr ⟨h1, h2⟩)
    · intro b hb
      have h0 := (D.mono j 0 (by omega) (Nat.le_of_lt hjn)).1
      simp only [ι3]; rw [if_pos (by omega)]; exact I.ag b hb
    · exact I.bel.trans (hbel.mono I.base)
    · have := I.base; have := hbel.size; omega
    · cases o.dst <;> simpa [Act.put] using I.defers
  · rw [if_neg hw] at hst
    rw [if_neg hw]
    have hst := Option.some.inj hst
    have hj1h : (f (j + 1)).h = (f j).h := by rw [← hst]
    have hj1σ : (f (j + 1)).σ = putO (f j).σ o.dst undef := by rw [← hst, hxd]
    refine ⟨ι, ?_⟩
    constructor
    · simpa using I.size
    · exact hclosed
    · exact htail
    · cases o.dst <;> simpa [Act.put] using I.sz
    · intro t ht j' hcut
      by_cases hdt : o.dst = some t
      · obtain ⟨h1, h2⟩ := hcutD t hdt j' hcut
        have hts : t < a.tmps.size := Nat.lt_of_lt_of_le ht I.sz
        rw [h2, hj1σ, hdt]
        have e1 : putO (f j).σ (some t) undef t = undef := by simp [putO, put]
        have e2 : (a.put (some t) undef).tmps.getD t undef = undef := by simp [Act.put, hts]
        rw [e1, e2]
        exact VR.undef
      · have h1 := I.tm t ht j' (hcutO t hdt j' hcut)
        have e2 : (a.put o.dst undef).tmps.getD t undef = a.tmps.getD t undef := by
          cases hdd : o.dst with
          | none => rfl
          | some d =>
            rw [hdd] at hdt
            have : d ≠ t := fun e => hdt (by rw [e])
            simp [Act.put, this]
        rw [e2]; exact h1
    · exact I.dom
    · exact I.cell
    · exact I.own
    · exact I.apart
    · exact hdom2 (fun b g hb => .inl ⟨g, hb⟩)
    · exact I.ag
    · exact I.bel
    · exact I.base
    · cases o.dst <;> simpa [Act.put] using I.defers
end
end Go.AH
namespace Go.AH
open Go.RowKit (Below)
section
variable {P : Program} {N : Nat} {Γ : Ctx} {lo B : Nat}
theorem draw_any (hΓ : OkΓ P Γ) {ops : Array Oper} {os : List AO} {n : Nat} {free : Nat → Bool} (hos : cOpers P N true ops ops.toList = some os) (hok : fokOk ops os n free = true)
    {ι : Inj} {s : St} {a : Act} {w : World} (hs : SR P N ι lo B s a w) {Q : Exit → Act → World → Prop} {K : St → Prop} (h : qops Γ (os.take n) (rops Γ lo (os.drop n) K) s)
    (hq : ∀ s' a' w' ι', Ag s.h.length ι ι' → Fr lo s.h s'.h → SR P N ι' lo B s' a' w' → Below B w w' → K s' → Q .normal a' w') : wpAny P .any ops Q ops.size (Array.replicate ops.size false) a w.drew := by
  obtain ⟨f, hf0, hf1, hf2⟩ := qops_trace _ _ h
  obtain ⟨F, hord⟩ := fok_of hΓ hos hok
  have hosl : os.length = ops.size := by have := (cOpers_get hos).1; simpa using this
  have hnle : n ≤ ops.size := F.le
  have hlen : (os.take n).length = n := by simp; omega
  rw [hlen] at hf2
  have D : DOK2 P N Γ ops os n f := ⟨hΓ, hos, hnle, F.back, fun j hj i hi x y => hord j (by omega) i hi x y, F.see, fun i hi x hx => hf1 i x (by rw [List.getElem?_take_of_lt hi]; exact hx)⟩
  have mono0 := fun j (hj : j ≤ n) => D.mono j 0 (Nat.zero_le _) hj
  have start : DI P N ops n f ι lo B w (Array.replicate ops.size false) a w.drew ι := by
    have hfalse : ∀ i, (Array.replicate ops.size false).getD i false = false := by intro i; simp [Array.getElem?_replicate]; split <;> rfl
    have hres : ∀ j, j ≤ n → Ext ι (res ι (f j).h.length) := by
      intro j hj b g hb
      have h1 := (hs.heap.dom b g hb).1
      have h2 := (mono0 j hj).1
      rw [hf0] at h2
      simp only [res]; rw [if_pos (by omega)]; exact hb
    have hlook : ∀ j, j ≤ n → ∀ b g x, ι b = some g → (f j).h[b]? = some x → s.h[b]? = some x := by
      intro j hj b g x hb hx
      have h1 := (hs.heap.dom b g hb).1
      rw [← hf0, ← (mono0 j hj).2 b (by rw [hf0]; exact h1)]; exact hx
    constructor
    · simp
    · intro j o ho hj; rw [hfalse] at hj; cases hj
    · intro t ht; exact hfalse t
    · exact hs.tmps.1
    · intro t ht j ⟨c1, c2, c3⟩
      have e : (f j).σ t = s.σ t := by
        rw [← hf0]
        refine D.same j 0 (Nat.zero_le _) c1 fun k _ hk hw => ?_
        have := c2 k hk hw; rw [hfalse] at this; cases this
      rw [e]
      exact (hs.tmps.2 t ht).mono (hres j c1)
    · intro b g hb
      have h1 := hs.heap.dom b g hb
      have h2 := (mono0 n (Nat.le_refl _)).1
      rw [hf0] at h2
      exact ⟨by omega, h1.2⟩
    · intro j hj b e cs g hb hg
      obtain ⟨hz, hc⟩ := hs.heap.cell b e cs g (hlook j hj b g _ hg hb) hg
      refine ⟨hz, fun i v hv => ?_⟩
      obtain ⟨k1, v', k2, k3⟩ := hc i v hv
      exact ⟨k1, v', k2, k3.mono (hres j hj)⟩
    · intro b e cs g hlb hb hg
      exact hs.heap.own b e cs g hlb (hlook n (Nat.le_refl _) b g _ hg hb) hg
    · intro b b' e cs e' cs' g g' hne hlb hb hb' hg hg'
      exact hs.heap.apart b b' e cs e' cs' g g' hne hlb (hlook n (Nat.le_refl _) b g _ hg hb) (hlook n (Nat.le_refl _) b' g' _ hg' hb') hg hg'
    · intro b g hb; left; rw [hf0]; exact (hs.heap.dom b g hb).1
    · rw [hf0]; exact Ag.refl _ _
    · exact (Below.refl _ _).drew
    · exact hs.base
    · exact hs.defers
  have toTail : ∀ (fuel : Nat) (l : Array Bool) (a1 : Act) (w1 : World) (ι1 : Inj), DI P N ops n f ι lo B w l a1 w1 ι1 → fuel = unl l n + (ops.size - n) → (∀ k, k < n → free k = false → l.getD k false = true) → wpAny P .any ops Q fuel l a1 w1 := by
    intro fuel l a1 w1 ι1 I hfu hnf
    have hlow : lo ≤ (f n).h.length := by have := (mono0 n (Nat.le_refl _)).1; rw [hf0] at this; have := hs.low; omega
    have hHR : HR P ι1 (f n).h lo B w1 := by
      refine ⟨I.dom, ?_, I.own, I.apart⟩
      intro b e cs g hb hg
      obtain ⟨hz, hc⟩ := I.cell n (Nat.le_refl _) b e cs g hb hg
      refine ⟨hz, fun i v hv => ?_⟩
      obtain ⟨k1, v', k2, k3⟩ := hc i v hv
      exact ⟨k1, v', k2, k3.mono (res_ext _ _)⟩
    have stay : ∀ k, k < n → l.getD k false = false → free k = true ∧ ∀ (x : AO) (d : Nat), os[k]? = some x → x.d = some d → aop Γ lo (ev (f n).σ) (f n).h x.op = some ((f n).σ d, (f n).h) := by
      intro k hk hlk
      have hfk : free k = true := by
        cases hf : free k
        · have := hnf k hk hf; rw [hlk] at this; cases this
        · rfl
      refine ⟨hfk, fun x d hx hxd => ?_⟩
      have hks : k < ops.size := by omega
      have hget : ops[k]? = some ops[k] := by simp [hks]
      obtain ⟨x', hx', hck⟩ := D.get hget
      rw [hx] at hx'; cases hx'
      have hdd := (cOper_spec hck).2.1
      obtain ⟨f1, f2, d0, f3, f4, f5⟩ := F.frees k hk hfk _ x hget hx
      have hd0 : d0 = d := by rw [hdd, f3] at hxd; exact Option.some.inj hxd
      subst hd0
      have hst := D.step k hk x hx
      unfold stepO at hst
      rw [f1, if_pos (show wants (f k).σ none = true from rfl)] at hst
      obtain ⟨⟨v, h'⟩, ha, hst⟩ := Option.map_eq_some_iff.1 hst
      have hv : (f (k + 1)).σ d0 = v := by rw [← hst, hxd]; simp [putO, put]
      have hdn : (f n).σ d0 = v := by
        rw [← hv]
        exact D.same n (k + 1) (by omega) (Nat.le_refl _) fun i h1 h2 hw => f5 i h2 (by omega) hw
      have hsame : ∀ t, t ∈ looks ops ops[k] → (f n).σ t = (f k).σ t := by
        intro t ht
        refine D.same n k (by omega) (Nat.le_refl _) fun i h1 h2 hw => ?_
        obtain ⟨y, hy, hyd⟩ := hw
        by_cases e : i = k
        · subst e; rw [hget] at hy; cases hy; rw [f3] at hyd; cases hyd; exact f4 ht
        · have hwt := hord i (by omega) k (by omega) _ y hget hy (.inr (by simp [touch, hyd, ht]))
          cases hli : l.getD i false
          · cases hfi : free i
            · have := hnf i h2 hfi; rw [hli] at this; cases this
            · exact F.frees2 k hk hfk _ hget i (by omega) h2 hfi t ht ⟨y, hy, hyd⟩
          · have := waits_listed I.closed _ i k hwt (fun o' ho' => I.closed i o' ho' hli)
            rw [hlk] at this; cases this
      have e1 : aop Γ lo (ev (f n).σ) (f k).h x.op = aop Γ lo (ev (f k).σ) (f k).h x.op := by
        refine aop_congr x.op fun y hy => ?_
        cases y with
        | v c => rfl
        | t t' => exact hsame t' (F.see k _ x hget hx t' (List.mem_flatMap.2 ⟨_, hy, by simp [opdA]⟩))
      rw [aop_pure f2 Γ Γ lo lo _ (f n).h (f k).h, e1, aop_pure f2 Γ Γ lo (f k).h.length _ (f k).h (f k).h, ha, hdn]
      rfl
    refine tail2 F fuel n l ι1 (f n) a1 w1 hfu (Nat.le_refl _) hnle I.size I.closed (fun i h1 h2 => by omega) I.tail ⟨I.sz, ?_, hHR, I.base, hlow, I.defers, stay⟩ hf2 ?_
    · intro t ht hall
      exact (I.tm t ht n ⟨Nat.le_refl _, fun i hi hw => hall i hi hw, fun i h1 h2 _ => by omega⟩).mono (res_ext _ _)
    · intro s' a' w' ι' k1 k2 k3 k4 k5
      have h0 := mono0 n (Nat.le_refl _)
      rw [hf0] at h0
      have hfr : Fr lo s.h (f n).h := ⟨h0.1, fun b hb => h0.2 b (by have := hs.low; omega)⟩
      have hag : Ag s.h.length ι ι1 := by have := I.ag; rwa [hf0] at this
      exact hq s' a' w' ι' (hag.trans hfr.1 k1) (hfr.trans k2) k3 (I.bel.trans k4) k5
  have head : ∀ (fuel : Nat) (l : Array Bool) (a1 : Act) (w1 : World) (ι1 : Inj), DI P N ops n f ι lo B w l a1 w1 ι1 → fuel = unl l n + (ops.size - n) → wpAny P .any ops Q fuel l a1 w1 := by
    intro fuel
    induction fuel with
    | zero =>
      intro l a1 w1 ι1 I hfu
      exact toTail _ l a1 w1 ι1 I hfu fun k hk _ => unl_zero l n (by omega) k hk
    | succ fuel ih =>
      intro l a1 w1 ι1 I hfu
      by_cases hnf : ∀ k, k < n → free k = false → l.getD k false = true
      · exact toTail _ l a1 w1 ι1 I hfu hnf
      · obtain ⟨k0, hk0⟩ := Classical.not_forall.1 hnf
        obtain ⟨hk1, hk0⟩ := Classical.not_imp.1 hk0
        obtain ⟨hk2, hk3⟩ := Classical.not_imp.1 hk0
        have hk3 : l.getD k0 false = false := by simpa using hk3
        refine ⟨fun hr => ?_, fun i hi => ?_⟩
        · exfalso
          have hu : 0 < unl l n := by
            rcases Nat.eq_zero_or_pos (unl l n) with h | h
            · have := unl_zero l n h k0 hk1; rw [hk3] at this; cases this
            · exact h
          obtain ⟨i, h1, h2, h3⟩ := least_unl l n hu
          have hlt : i < ops.size := by omega
          have hget : ops[i]? = some ops[i] := by simp [hlt]
          have : i ∈ Region.ready .any ops l := (mem_ready I.size i).2 ⟨ops[i], hget, h2, fun k hk => h3 k (D.back i _ hget k hk)⟩
          rw [hr] at this; cases this
        · obtain ⟨o, ho, hx, he⟩ := (mem_ready I.size i).1 hi
          have hil := (Array.getElem?_eq_some_iff.1 ho).1
          have hin : i < n := by
            rcases Nat.lt_or_ge i n with h | h
            · exact h
            · exfalso
              have := waits_listed I.closed _ i k0 (F.last i h hil k0 (by omega) (fun _ => hk2)) (fun o' ho' => by rw [ho] at ho'; cases ho'; exact he)
              rw [hk3] at this; cases this
          refine wpOp_mono (fun a2 w2 ⟨ι2, I2⟩ => ih _ a2 w2 ι2 I2 ?_) (draw_step2 D I hi hin)
          have := unl_set l i (by rw [I.size]; exact hil) hx n hin
          omega
  refine head _ _ _ _ _ start ?_
  have hu : ∀ m, unl (Array.replicate ops.size false) m = m := by
    intro m
    induction m with
    | zero => rfl
    | succ m ih =>
      rw [unl_succ, ih]
      have : (Array.replicate ops.size false).getD m false = false := by simp [Array.getElem?_replicate]; split <;> rfl
      rw [this]; rfl
  rw [hu]; omega
end
end Go.AH
namespace Go.AH
open Go.RowKit (Below)

section
variable {P : Program} {N : Nat} {Γ : Ctx} {lo B : Nat}

theorem HR.drew {ι : Inj} {h : Heap} {w : World} (hr : HR P ι h lo B w) : HR P ι h lo B w.drew := ⟨hr.dom, hr.cell, hr.own, hr.apart⟩

theorem draw_sound (hΓ : OkΓ P Γ) {id : Nat} {ops : Array Oper} {os : List AO} {n : Nat} {free : Nat → Bool} (hm : P.follows .mixedOrders = true) (hos : cOpers P N true ops ops.toList = some os) (hok : fokOk ops os n free = true)
    {ι : Inj} {s : St} {a : Act} {w : World} (hs : SR P N ι lo B s a w) {Q : Exit → Act → World → Prop} {K : St → Prop} (h : qops Γ (os.take n) (rops Γ lo (os.drop n) K) s)
    (hq : ∀ s' a' w' ι', Ag s.h.length ι ι' → Fr lo s.h s'.h → SR P N ι' lo B s' a' w' → Below B w w' → K s' → Q .normal a' w') : (Code.region id ops true).wp P Q a w := by
  refine wp_region_any hm ?_
  have hdrew : ({ w with drawn := w.drawn + 1 } : World) = w.drew := rfl
  rw [hdrew]
  exact draw_any hΓ hos hok hs h hq
theorem draw_sound2 (hΓ : OkΓ P Γ) {id : Nat} {ops : Array Oper} {ord : List Nat} {os : List AO} {n : Nat} {free : Nat → Bool} (hm : P.follows .mixedOrders = true) (hall : ∀ i ∈ ord, i < ops.size) (hrn : renumOk ops (reOps ops ord) ord = true)
    (hos : cOpers P N true (reOps ops ord) (reOps ops ord).toList = some os) (hok : fokOk (reOps ops ord) os n free = true)
    {ι : Inj} {s : St} {a : Act} {w : World} (hs : SR P N ι lo B s a w) {Q : Exit → Act → World → Prop} {K : St → Prop} (h : qops Γ (os.take n) (rops Γ lo (os.drop n) K) s)
    (hq : ∀ s' a' w' ι', Ag s.h.length ι ι' → Fr lo s.h s'.h → SR P N ι' lo B s' a' w' → Below B w w' → K s' → Q .normal a' w') : (Code.region id ops true).wp P Q a w := by
  refine wp_region_any hm ?_
  have hdrew : ({ w with drawn := w.drawn + 1 } : World) = w.drew := rfl
  rw [hdrew]
  have R := renum_of hrn hall
  have hfalse : ∀ (m i : Nat), (Array.replicate m false).getD i false = false := by intro m i; simp [Array.getElem?_replicate]; split <;> rfl
  have := draw_any hΓ hos hok hs h hq
  rw [R.size] at this
  exact R.any _ _ _ _ _ (by simp) (by simp) (fun i _ => by rw [hfalse, hfalse]) this

/-- Code. -/
theorem awp_sound (hΓ : OkΓ P Γ) : ∀ (c : Code) (x : AC), cCode P N c = some x → ∀ (Q : Exit → St → Prop) (Q' : Exit → Act → World → Prop) (ι : Inj) (s : St) (a : Act) (w : World), SR P N ι lo B s a w → awp Γ lo x Q s →
    (∀ e s' a' w' ι', Ag s.h.length ι ι' → Fr lo s.h s'.h → SR P N ι' lo B s' a' w' → Below B w w' → Q e s' → Q' e a' w') → c.wp P Q' a w
  | .skip, x, hc, Q, Q', ι, s, a, w, hs, h, hq => by
    cases hc; exact wp_skip (hq _ _ _ _ _ (Ag.refl _ _) (Fr.refl _ _) hs (Below.refl _ _) h)
  | .exit id, x, hc, Q, Q', ι, s, a, w, hs, h, hq => by
    cases hc; exact wp_exit (hq _ _ _ _ _ (Ag.refl _ _) (Fr.refl _ _) hs (Below.refl _ _) h)
  | .ret, x, hc, Q, Q', ι, s, a, w, hs, h, hq => by
    cases hc; exact wp_ret (hq _ _ _ _ _ (Ag.refl _ _) (Fr.refl _ _) hs (Below.refl _ _) h)
  | .region id ops false, x, hc, Q, Q', ι, s, a, w, hs, h, hq => by
    simp only [cCode] at hc
    obtain ⟨os, ho, rfl⟩ := Option.map_eq_some_iff.1 hc
    exact wp_region_list (rops_sound hΓ ops.toList os ι s a w ho hs h fun s' a' w' ι' h1 h0 h2 h3 h4 => hq _ _ _ _ _ h1 h0 h2 h3 h4)
  | .region id ops true, x, hc, Q, Q', ι, s, a, w, hs, h, hq => by
    simp only [cCode] at hc
    obtain ⟨os, ho, hc⟩ := Option.bind_eq_some_iff.1 hc
    split at hc
    · rename_i hcond
      obtain ⟨hm, _, hre⟩ := hcond
      obtain ⟨os', ho', hc⟩ := Option.map_eq_some_iff.1 hc
      subst hc
      simp only [reOk, ho', Bool.and_eq_true, List.all_eq_true, decide_eq_true_eq] at hre
      exact draw_sound2 hΓ hm hre.1.1 hre.1.2 ho' hre.2 hs h fun s' a' w' ι' h1 h0 h2 h3 h4 => hq _ _ _ _ _ h1 h0 h2 h3 h4
    split at hc
    · rename_i hcond
      have hc := Option.some.inj hc
      subst hc
      exact draw_sound hΓ hcond.1 ho hcond.2 hs h fun s' a' w' ι' h1 h0 h2 h3 h4 => hq _ _ _ _ _ h1 h0 h2 h3 h4
    · have hc := Option.some.inj hc
      subst hc
      exact h.elim
  | .seq c d, x, hc, Q, Q', ι, s, a, w, hs, h, hq => by
    simp only [cCode] at hc
    obtain ⟨y, hy, hc⟩ := Option.bind_eq_some_iff.1 hc
    obtain ⟨z, hz, rfl⟩ := Option.map_eq_some_iff.1 hc
    refine wp_seq (awp_sound hΓ c y hy _ _ ι s a w hs h ?_)
    intro e s' a' w' ι' h1 h0 h2 h3 h4
    cases e with
    | normal => exact awp_sound hΓ d z hz Q Q' ι' s' a' w' h2 h4 fun e s'' a'' w'' ι'' k1 k0 k2 k3 k4 => hq _ _ _ _ _ (h1.trans h0.1 k1) (h0.trans k0) k2 (h3.trans k3) k4
    | _ => exact hq _ _ _ _ _ h1 h0 h2 h3 h4
  | .cond o c d, x, hc, Q, Q', ι, s, a, w, hs, h, hq => by
    simp only [cCode] at hc
    obtain ⟨z, hz, hc⟩ := Option.bind_eq_some_iff.1 hc
    obtain ⟨y, hy, hc⟩ := Option.bind_eq_some_iff.1 hc
    obtain ⟨y', hy', rfl⟩ := Option.map_eq_some_iff.1 hc
    simp only [awp] at h
    have hv := cO_ev hs.tmps hz
    split at h
    · rename_i t ht
      rw [ht] at hv
      have he : a.eval o = .bool t := by generalize a.eval o = u at hv; cases hv; rfl
      cases t with
      | true => exact wp_cond_true he (awp_sound hΓ c y hy Q Q' ι s a w hs (by simpa using h) hq)
      | false => exact wp_cond_false he (awp_sound hΓ d y' hy' Q Q' ι s a w hs (by simpa using h) hq)
    · exact h.elim
  | .block id c, x, hc, Q, Q', ι, s, a, w, hs, h, hq => by
    simp only [cCode] at hc
    obtain ⟨y, hy, rfl⟩ := Option.map_eq_some_iff.1 hc
    refine wp_block (awp_sound hΓ c y hy _ _ ι s a w hs h ?_)
    intro e s' a' w' ι' h1 h0 h2 h3 h4
    cases e with
    | exit i =>
      simp only [Exit.inBlock]
      dsimp only at h4
      split at h4
      · rename_i hi; rw [if_pos hi]; exact hq _ _ _ _ _ h1 h0 h2 h3 h4
      · rename_i hi; rw [if_neg hi]; exact hq _ _ _ _ _ h1 h0 h2 h3 h4
    | _ => exact hq _ _ _ _ _ h1 h0 h2 h3 h4
  | .loop c, x, hc, Q, Q', ι, s, a, w, hs, h, hq => by
    simp only [cCode] at hc
    obtain ⟨y, hy, rfl⟩ := Option.map_eq_some_iff.1 hc
    simp only [awp] at h
    obtain ⟨R, ⟨n, hn⟩, hround⟩ := h
    refine wp_loop_nat (fun n a' w' => ∃ s' ι', Ag s.h.length ι ι' ∧ Fr lo s.h s'.h ∧ SR P N ι' lo B s' a' w' ∧ Below B w w' ∧ R n s') n ⟨s, ι, Ag.refl _ _, Fr.refl _ _, hs, Below.refl _ _, hn⟩ ?_
    intro n a1 w1 ⟨s1, ι1, e1, e0, hs1, hb1, hR1⟩
    refine awp_sound hΓ c y hy _ _ ι1 s1 a1 w1 hs1 (hround n s1 hR1) ?_
    intro e s' a' w' ι' h1 h0 h2 h3 h4
    cases e with
    | normal =>
      obtain ⟨m, hm, hRm⟩ := h4
      exact ⟨m, hm, s', ι', e1.trans e0.1 h1, e0.trans h0, h2, hb1.trans h3, hRm⟩
    | _ => exact hq _ _ _ _ _ (e1.trans e0.1 h1) (e0.trans h0) h2 (hb1.trans h3) h4
  | .rangeFunc .., x, hc, _, _, _, _, _, _, _, h, _ => by simp only [cCode] at hc; cases hc; exact h.elim
  | .scope .., x, hc, _, _, _, _, _, _, _, h, _ => by simp only [cCode] at hc; cases hc; exact h.elim
  | .label .., x, hc, _, _, _, _, _, _, _, h, _ => by simp only [cCode] at hc; cases hc; exact h.elim
  | .goto .., x, hc, _, _, _, _, _, _, _, h, _ => by simp only [cCode] at hc; cases hc; exact h.elim
  | .refuse .., x, hc, _, _, _, _, _, _, _, h, _ => by simp only [cCode] at hc; cases hc; exact h.elim
end
end Go.AH
namespace Go.AH
open Go.RowKit (Below)

/-! ### Blocks by other numbers -/
mutual
def mapV (u : Nat → Nat) : Value → Value
  | .pointer (some ⟨b, o, s⟩) => .pointer (some ⟨u b, o, s⟩)
  | .slice (some ⟨b, o, s⟩) n c => .slice (some ⟨u b, o, s⟩) n c
  | .func fn ⟨as⟩ ⟨bs⟩ => .func fn ⟨mapVs u as⟩ ⟨mapVs u bs⟩
  | .iface t v => .iface t (mapV u v)
  | .agg ⟨cs⟩ => .agg ⟨mapVs u cs⟩
  | .tuple ⟨cs⟩ => .tuple ⟨mapVs u cs⟩
  | v => v
def mapVs (u : Nat → Nat) : List Value → List Value
  | [] => []
  | v :: vs => mapV u v :: mapVs u vs
end
def mapB (u : Nat → Nat) : Blk → Blk
  | .cells e cs => .cells e (mapVs u cs)
  | .dead => .dead

theorem mapVs_get (u : Nat → Nat) : ∀ (l : List Value) (i : Nat), (mapVs u l)[i]? = (l[i]?).map (mapV u)
  | [], i => by simp [mapVs]
  | v :: l, 0 => by simp [mapVs]
  | v :: l, i + 1 => by simpa [mapVs] using mapVs_get u l i
theorem mapVs_eq (u : Nat → Nat) (l : List Value) : mapVs u l = l.map (mapV u) := by
  induction l with
  | nil => rfl
  | cons v l ih => simp [mapVs, ih]
theorem mapVs_len (u : Nat → Nat) (l : List Value) : (mapVs u l).length = l.length := by simp [mapVs_eq]
theorem one_mapV (u : Nat → Nat) (v : Value) : one (mapV u v) = one v := by
  cases v with
  | pointer a => cases a <;> rfl
  | slice a n c => cases a <;> rfl
  | _ => rfl

mutual
theorem VR.unmap {ι ι' : Inj} {u : Nat → Nat} (h : ∀ b, ι' b = ι (u b)) : ∀ (v : Value) {x : Value}, VR ι (mapV u v) x → VR ι' v x
  | .pointer none, x, r => by simp only [mapV] at r; cases r; exact .nilp
  | .pointer (some ⟨b, o, s⟩), x, r => by
    simp only [mapV] at r
    cases r with | ptr e => exact .ptr ((h b).trans e)
  | .slice none n c, x, r => by simp only [mapV] at r; cases r; exact .nils
  | .slice (some ⟨b, o, s⟩) n c, x, r => by
    simp only [mapV] at r
    cases r with | sl e p q s => exact .sl ((h b).trans e) p q s | sl0 x e => exact .sl0 x ((h b).trans e) | emp x => exact .emp x
  | .func fn ⟨as⟩ ⟨bs⟩, x, r => by
    simp only [mapV] at r
    cases r with | func _ p q => exact .func fn (VRs.unmap h as p) (VRs.unmap h bs q)
  | .iface t v, x, r => by
    simp only [mapV] at r
    cases r with | iface _ p => exact .iface t (VR.unmap h v p)
  | .agg ⟨cs⟩, x, r => by
    simp only [mapV] at r
    cases r with | agg p => exact .agg (VRs.unmap h cs p)
  | .tuple ⟨cs⟩, x, r => by
    simp only [mapV] at r
    cases r with | tuple p => exact .tuple (VRs.unmap h cs p)
  | .bool b, x, r => by simp only [mapV] at r; cases r; exact .bool _
  | .int k n, x, r => by simp only [mapV] at r; cases r; exact .int _ _
  | .float k n, x, r => by simp only [mapV] at r; cases r; exact .float _ _
  | .complex k n m, x, r => by simp only [mapV] at r; cases r
  | .string s, x, r => by simp only [mapV] at r; cases r; exact .string _
  | .map m, x, r => by simp only [mapV] at r; cases r
  | .chan c, x, r => by simp only [mapV] at r; cases r
  | .nilFunc, x, r => by simp only [mapV] at r; cases r; exact .nilf
  | .nilIface, x, r => by simp only [mapV] at r; cases r; exact .nili
theorem VRs.unmap {ι ι' : Inj} {u : Nat → Nat} (h : ∀ b, ι' b = ι (u b)) : ∀ (vs : List Value) {xs : List Value}, VRs ι (mapVs u vs) xs → VRs ι' vs xs
  | [], xs, r => by simp only [mapVs] at r; cases r; exact .nil
  | v :: vs, xs, r => by
    simp only [mapVs] at r
    cases r with | cons p q => exact .cons (VR.unmap h v p) (VRs.unmap h vs q)
end

mutual
/-- A value all of whose blocks are below n. -/
theorem VR.agree {n : Nat} {ι ι1 ι2 : Inj} (hd : ∀ b g, ι b = some g → b < n) (ha : Ag n ι1 ι2) {v x y : Value} (h : VR ι v x) (k : VR ι1 v y) : VR ι2 v y := by
  cases h with
  | bool b => cases k; exact .bool _
  | int => cases k; exact .int _ _
  | float => cases k; exact .float _ _
  | string => cases k; exact .string _
  | nilp => cases k; exact .nilp
  | ptr e => cases k with | ptr e' => exact .ptr ((ha _ (hd _ _ e)).trans e')
  | nils => cases k; exact .nils
  | sl e _ _ _ => cases k with | sl e' p q r => exact .sl ((ha _ (hd _ _ e)).trans e') p q r | sl0 x e' => exact .sl0 x ((ha _ (hd _ _ e)).trans e')
  | emp _ => cases k with | emp x => exact .emp x
  | sl0 _ e => cases k with | sl e' p q r => exact .sl ((ha _ (hd _ _ e)).trans e') p q r | sl0 x e' => exact .sl0 x ((ha _ (hd _ _ e)).trans e')
  | func fn p q => cases k with | func _ p' q' => exact .func fn (VRs.agree hd ha p p') (VRs.agree hd ha q q')
  | nilf => cases k; exact .nilf
  | iface t p => cases k with | iface _ p' => exact .iface t (VR.agree hd ha p p')
  | nili => cases k; exact .nili
  | agg p => cases k with | agg p' => exact .agg (VRs.agree hd ha p p')
  | tuple p => cases k with | tuple p' => exact .tuple (VRs.agree hd ha p p')
theorem VRs.agree {n : Nat} {ι ι1 ι2 : Inj} (hd : ∀ b g, ι b = some g → b < n) (ha : Ag n ι1 ι2) {v x y : List Value} (h : VRs ι v x) (k : VRs ι1 v y) : VRs ι2 v y := by
  cases h with
  | nil => cases k; exact .nil
  | cons p q => cases k with | cons p' q' => exact .cons (VR.agree hd ha p p') (VRs.agree hd ha q q')
end

/-- The numbers of blocks behind a clearing away: what was below n stays, the kept ones follow. -/
def unN (n m : Nat) (ks : List Nat) (b : Nat) : Nat := if b < n then b else (ks[b - n]?).getD m

section
variable {P : Program} {ι ι0 : Inj} {h h0 h' : Heap} {lo B : Nat} {w w' : World} {r r0 rc : Value}

/-- Clearing away: the blocks of the run that nobody holds any more go. -/
theorem gc (hr : HR P ι h lo B w) (ha : Ag h.length ι ι0) (hr0 : HR P ι0 h0 lo B w') (hv : VR ι0 r0 rc) (ks : List Nat)
    (hks : ∀ k ∈ ks, h.length ≤ k) (hnd : ks.Nodup) (hlen : h'.length = h.length + ks.length) (hlo : lo ≤ h.length)
    (hr' : r0 = mapV (unN h.length h0.length ks) r)
    (hnew : ∀ (i k : Nat), ks[i]? = some k → ∃ b, h'[h.length + i]? = some b ∧ h0[k]? = some (mapB (unN h.length h0.length ks) b))
    (hold : ∀ b, b < h.length → (h'[b]? = h[b]? ∧ h0[b]? = h[b]?) ∨ (∃ x, h'[b]? = some x ∧ h0[b]? = some (mapB (unN h.length h0.length ks) x))) :
    ∃ ι', Ag h.length ι ι' ∧ VR ι' r rc ∧ HR P ι' h' lo B w' := by
  let u := unN h.length h0.length ks
  let ι' : Inj := fun b => ι0 (u b)
  have hu0 : ∀ b, b < h.length → u b = b := fun b hb => by simp only [u, unN]; rw [if_pos hb]
  have ha' : Ag h.length ι0 ι' := fun b hb => by simp only [ι']; rw [hu0 b hb]
  have inv : ∀ (b : Nat) (g : Img), ι' b = some g → ι0 (u b) = some g := fun b g x => x
  have cases' : ∀ (b : Nat) (g : Img), ι' b = some g → b < h.length ∨ ∃ i k, b = h.length + i ∧ ks[i]? = some k ∧ u b = k := by
    intro b g hb
    by_cases hlt : b < h.length
    · exact .inl hlt
    · right
      cases hk : ks[b - h.length]? with
      | none =>
        exfalso
        have : u b = h0.length := by simp only [u, unN]; rw [if_neg hlt, hk]; rfl
        have := (hr0.dom _ _ (inv b g hb)).1
        omega
      | some k => exact ⟨b - h.length, k, by omega, hk, by simp only [u, unN]; rw [if_neg hlt, hk]; rfl⟩
  -- how a live block of h' stands in h0
  have live : ∀ (b : Nat) (e : TypeId) (cs : List Value) (g : Img), h'[b]? = some (.cells e cs) → ι' b = some g →
      ∃ cs0, h0[u b]? = some (.cells e cs0) ∧ cs0.length = cs.length ∧ ∀ (i : Nat) (v : Value), cs[i]? = some v → ∃ v0, cs0[i]? = some v0 ∧ one v0 = one v ∧ ∀ x, VR ι0 v0 x → VR ι' v x := by
    intro b e cs g hb hg
    have mapped : ∀ k, u b = k → h0[k]? = some (mapB u (.cells e cs)) → ∃ cs0, h0[u b]? = some (.cells e cs0) ∧ cs0.length = cs.length ∧ ∀ (i : Nat) (v : Value), cs[i]? = some v → ∃ v0, cs0[i]? = some v0 ∧ one v0 = one v ∧ ∀ x, VR ι0 v0 x → VR ι' v x := by
      intro k hk hx
      refine ⟨mapVs u cs, by rw [hk]; exact hx, mapVs_len u cs, fun i v hv => ⟨mapV u v, by rw [mapVs_get, hv]; rfl, one_mapV u v, fun x hx => VR.unmap (ι := ι0) (u := u) (fun _ => rfl) v hx⟩⟩
    rcases cases' b g hg with hlt | ⟨i, k, rfl, hk, huk⟩
    · rcases hold b hlt with ⟨h1, h2⟩ | ⟨x, h1, h2⟩
      · rw [h1] at hb
        refine ⟨cs, by rw [hu0 b hlt, h2]; exact hb, rfl, fun i v hv => ⟨v, hv, rfl, fun x hx => ?_⟩⟩
        have hg0 : ι b = some g := by rw [← ha b hlt]; have := inv b g hg; rwa [hu0 b hlt] at this
        obtain ⟨_, v', _, rv⟩ := (hr.cell b e cs g hb hg0).2 i v hv
        exact VR.agree (fun b g e => (hr.dom b g e).1) ha' rv hx
      · rw [hb] at h1; cases h1
        exact mapped b (hu0 b hlt) h2
    · obtain ⟨x, h1, h2⟩ := hnew i k hk
      rw [hb] at h1; cases h1
      exact mapped k huk h2
  have uinj : ∀ (b b' : Nat) (g g' : Img), ι' b = some g → ι' b' = some g' → u b = u b' → b = b' := by
    intro b b' g g' hb hb' he
    rcases cases' b g hb with h1 | ⟨i, k, rfl, hk, huk⟩
    · rcases cases' b' g' hb' with h2 | ⟨i', k', rfl, hk', huk'⟩
      · rw [hu0 b h1, hu0 b' h2] at he; exact he
      · rw [hu0 b h1, huk'] at he
        have := hks k' (List.mem_of_getElem? hk'); omega
    · rcases cases' b' g' hb' with h2 | ⟨i', k', rfl, hk', huk'⟩
      · rw [hu0 b' h2, huk] at he
        have := hks k (List.mem_of_getElem? hk); omega
      · rw [huk, huk'] at he; subst he
        have hi := (List.getElem?_eq_some_iff.1 hk).1
        have := (List.getElem?_inj hi hnd).1 (hk.trans hk'.symm)
        omega
  refine ⟨ι', fun b hb => by rw [ha' b hb, ha b hb], ?_, ?_, ?_, ?_, ?_⟩
  · rw [hr'] at hv; exact VR.unmap (ι := ι0) (u := u) (fun _ => rfl) r hv
  · intro b g hb
    refine ⟨?_, (hr0.dom _ _ (inv b g hb)).2⟩
    rcases cases' b g hb with h1 | ⟨i, k, rfl, hk, huk⟩
    · omega
    · have := (List.getElem?_eq_some_iff.1 hk).1; omega
  · intro b e cs g hb hg
    obtain ⟨cs0, h1, h2, h3⟩ := live b e cs g hb hg
    obtain ⟨hz, hc⟩ := hr0.cell _ _ _ _ h1 (inv b g hg)
    refine ⟨hz, fun i v hv => ?_⟩
    obtain ⟨v0, k1, k2, k3⟩ := h3 i v hv
    obtain ⟨x1, v', x2, x3⟩ := hc i v0 k1
    exact ⟨by rw [← k2]; exact x1, v', x2, k3 v' x3⟩
  · intro b e cs g hlb hb hg
    obtain ⟨cs0, h1, h2, h3⟩ := live b e cs g hb hg
    have hlu : lo ≤ u b := by
      rcases cases' b g hg with hlt | ⟨i, k, rfl, hk, huk⟩
      · rw [hu0 b hlt]; exact hlb
      · rw [huk]; have := hks k (List.mem_of_getElem? hk); omega
    obtain ⟨a1, a2, a3, a4⟩ := hr0.own _ _ _ _ hlu h1 (inv b g hg)
    exact ⟨a1, a2, by omega, a4⟩
  · intro b b' e cs e' cs' g g' hne hlb hb hb' hg hg'
    obtain ⟨cs0, h1, _, _⟩ := live b e cs g hb hg
    obtain ⟨cs0', h1', _, _⟩ := live b' e' cs' g' hb' hg'
    have hlu : lo ≤ u b := by
      rcases cases' b g hg with hlt | ⟨i, k, rfl, hk, huk⟩
      · rw [hu0 b hlt]; exact hlb
      · rw [huk]; have := hks k (List.mem_of_getElem? hk); omega
    exact hr0.apart _ _ _ _ _ _ _ _ (fun x => hne (uinj b b' g g' hg hg' x)) hlu h1 h1' (inv b g hg) (inv b' g' hg')

/-- What was shown while nothing old was written holds for a run that may write more. -/
theorem lift (hr : HR P ι h lo B w) (hB : B ≤ w.heap.size) (hlo : lo ≤ h.length) (hfr : Fr h.length h h') {ι' : Inj} (ha : Ag h.length ι ι') (hr' : HR P ι' h' h.length w.heap.size w') (hb : Below w.heap.size w w') :
    HR P ι' h' lo B w' ∧ Below B w w' := by
  refine ⟨⟨hr'.dom, hr'.cell, ?_, ?_⟩, hb.mono hB⟩
  · intro b e cs g hlb hbb hg
    by_cases hlt : b < h.length
    · rw [hfr.2 b hlt] at hbb
      have hg0 : ι b = some g := by rw [← ha b hlt]; exact hg
      obtain ⟨a1, a2, a3, cur, a4, a5⟩ := hr.own b e cs g hlb hbb hg0
      exact ⟨a1, a2, a3, cur, by rw [hb.block _ (hr.dom b g hg0).2]; exact a4, a5⟩
    · obtain ⟨a1, a2, a3, a4⟩ := hr'.own b e cs g (by omega) hbb hg
      exact ⟨by omega, a2, a3, a4⟩
  · intro b b' e cs e' cs' g g' hne hlb hbb hbb' hg hg'
    by_cases hlt : b < h.length
    · rw [hfr.2 b hlt] at hbb
      have hg0 : ι b = some g := by rw [← ha b hlt]; exact hg
      by_cases hlt' : b' < h.length
      · rw [hfr.2 b' hlt'] at hbb'
        have hg0' : ι b' = some g' := by rw [← ha b' hlt']; exact hg'
        exact hr.apart b b' e cs e' cs' g g' hne hlb hbb hbb' hg0 hg0'
      · have h1 := (hr'.own b' e' cs' g' (by omega) hbb' hg').1
        have h2 := (hr.dom b g hg0).2
        omega
    · exact hr'.apart b b' e cs e' cs' g g' hne (by omega) hbb hbb' hg hg'
end
end Go.AH
namespace Go.AH
open Go.RowKit (Below)

section
variable {P : Program} {N : Nat} {Γ : Ctx} {lo B : Nat}

def resOf (tmps : Array Value) : ResultVar → Sem Value
  | .tmp t => pure (tmps.getD t undef)
  | .cell a t => do loadVar t (← asAddr (tmps.getD a undef))
theorem results_eq (fn : Func) (tmps : Array Value) : results fn tmps = (do
    let vs ← fn.results.mapM (resOf tmps)
    pure (if h : vs.size = 1 then vs[0] else .tuple vs)) := rfl

theorem rres1_run {ι : Inj} {s : St} {a : Act} {w : World} (hs : SR P N ι lo B s a w) {x : ResultVar} {y : AR} {v : Value} (hc : cRes P N [x] = some [y]) (hv : rres1 s y = some v) :
    ∃ v', VR ι v v' ∧ (resOf a.tmps x).run P w = .ok v' w := by
  cases x with
  | tmp t =>
    simp only [cRes] at hc
    split at hc
    · rename_i hlt
      simp at hc; subst hc
      simp only [rres1] at hv; cases hv
      exact ⟨_, hs.tmps.2 t hlt, rfl⟩
    · cases hc
  | cell b t =>
    simp only [cRes] at hc
    split at hc
    · rename_i hcond
      obtain ⟨hlt, hk⟩ := hcond
      simp at hc; subst hc
      simp only [rres1] at hv
      split at hv
      · rename_i bb o hp
        obtain ⟨g, hg, hx⟩ := (hs.tmps.2 b hlt).getP hp
        split at hv
        · rename_i e cs hb
          by_cases hagg : aggT P t = true
          · simp only [hagg, if_true] at hv
            split at hv
            · rename_i hle; cases hv
              obtain ⟨cs', r, hl, hcell⟩ := hs.heap.cells hb hg o (P.cellsOf t) hle
              have hload := run_loadCells_list (P := P) w ⟨g.c, g.o + o, none⟩ cs' (fun j u hu => by rw [Addr.add_lit]; exact hcell j u hu)
              rw [hl] at hload
              refine ⟨.agg ⟨cs'⟩, .agg r, ?_⟩
              simp only [resOf, hx]
              simp [asAddr, loadVar, aggT_run hk, hagg, sizeOf_run (known_info hk), hload]
            · cases hv
          · simp only [hagg] at hv
            simp at hv
            obtain ⟨_, v', hv', rv⟩ := (hs.heap.cell bb e cs g hb hg).2 o v hv
            refine ⟨v', rv, ?_⟩
            simp only [resOf, hx]
            simp [asAddr, loadVar, aggT_run hk, hagg, hv']
        · cases hv
      · cases hv
    · cases hc

theorem cRes_cons {x : ResultVar} {xs : List ResultVar} {ys : List AR} (h : cRes P N (x :: xs) = some ys) : ∃ y zs, ys = y :: zs ∧ cRes P N [x] = some [y] ∧ cRes P N xs = some zs := by
  cases x with
  | tmp t =>
    simp only [cRes] at h ⊢
    split at h
    · rename_i hlt
      obtain ⟨l, hl, rfl⟩ := Option.map_eq_some_iff.1 h
      exact ⟨_, _, rfl, by simp [hlt], hl⟩
    · cases h
  | cell a t =>
    simp only [cRes] at h ⊢
    split at h
    · rename_i hlt
      obtain ⟨l, hl, rfl⟩ := Option.map_eq_some_iff.1 h
      exact ⟨_, _, rfl, by simp [hlt], hl⟩
    · cases h

theorem rresL_run {ι : Inj} {s : St} {a : Act} {w : World} (hs : SR P N ι lo B s a w) : ∀ (xs : List ResultVar) (ys : List AR) (vs : List Value), cRes P N xs = some ys → rresL s ys = some vs →
    ∃ vs', VRs ι vs vs' ∧ (xs.mapM (resOf a.tmps)).run P w = .ok vs' w
  | [], ys, vs, hc, hv => by cases hc; simp [rresL] at hv; subst hv; exact ⟨[], .nil, by simp⟩
  | x :: xs, ys, vs, hc, hv => by
    obtain ⟨y, zs, rfl, hy, hz⟩ := cRes_cons hc
    simp only [rresL] at hv
    obtain ⟨v, h1, hv⟩ := Option.bind_eq_some_iff.1 hv
    obtain ⟨us, h2, rfl⟩ := Option.map_eq_some_iff.1 hv
    obtain ⟨v', r1, e1⟩ := rres1_run hs hy h1
    obtain ⟨us', r2, e2⟩ := rresL_run hs xs zs us hz h2
    refine ⟨v' :: us', .cons r1 r2, ?_⟩
    simp only [List.mapM_cons, Sem.run_bind, e1, Result.andThen_ok, e2, Sem.run_pure]

theorem rres_run {ι : Inj} {s : St} {a : Act} {w : World} (hs : SR P N ι lo B s a w) {fn : Func} {ys : List AR} (hc : cRes P N fn.results.toList = some ys) {v : Value} (hv : rres s ys = some v) :
    ∃ v', VR ι v v' ∧ (results fn a.tmps).run P w = .ok v' w := by
  unfold rres at hv
  obtain ⟨vs, h1, hv⟩ := Option.map_eq_some_iff.1 hv
  obtain ⟨vs', r, e⟩ := rresL_run hs _ _ _ hc h1
  have e' : (fn.results.mapM (resOf a.tmps)).run P w = .ok ⟨vs'⟩ w := by
    rw [Array.mapM_eq_mapM_toList]
    simp only [Sem.run_map, e, Result.andThen_ok]
  have hrun : (results fn a.tmps).run P w = .ok (if h : (⟨vs'⟩ : Array Value).size = 1 then (⟨vs'⟩ : Array Value)[0] else .tuple ⟨vs'⟩) w := by
    rw [results_eq]
    simp only [Sem.run_bind, e', Result.andThen_ok, Sem.run_pure]
  cases r with
  | nil => simp at hv; subst hv; exact ⟨_, .tuple .nil, hrun⟩
  | cons r1 r2 =>
    cases r2 with
    | nil => simp at hv; subst hv; exact ⟨_, r1, by simpa using hrun⟩
    | cons r3 r4 => simp at hv; subst hv; exact ⟨_, .tuple (.cons r1 (.cons r3 r4)), by simpa using hrun⟩

/-- How a call leaves: the answer r and the heap h', out of the run's own last state. -/
def Done (h : Heap) (res : List AR) (r : Value) (h' : Heap) (s : St) : Prop := (rres s res = some r ∧ s.h = h') ∨
  ∃ (r0 : Value) (ks : List Nat), rres s res = some r0 ∧ (∀ k ∈ ks, h.length ≤ k) ∧ ks.Nodup ∧ h'.length = h.length + ks.length ∧ r0 = mapV (unN h.length s.h.length ks) r ∧
    (∀ (i k : Nat), ks[i]? = some k → ∃ b, h'[h.length + i]? = some b ∧ s.h[k]? = some (mapB (unN h.length s.h.length ks) b)) ∧
    (∀ b, b < h.length → (h'[b]? = h[b]? ∧ s.h[b]? = h[b]?) ∨ (∃ x, h'[b]? = some x ∧ s.h[b]? = some (mapB (unN h.length s.h.length ks) x)))

theorem start_SR {ι : Inj} {h : Heap} {w : World} (hr : HR P ι h lo B w) (hB : B ≤ w.heap.size) (hlo : lo ≤ h.length) {args cargs : List Value} (hv : VRs ι args cargs) (n : Nat) :
    SR P n ι lo B ⟨argσ args, h⟩ { tmps := ⟨cargs⟩ ++ Array.replicate (n - cargs.length) undef, defers := [] } w := by
  refine ⟨⟨by simp; omega, fun i hi => ?_⟩, hr, hB, hlo, rfl⟩
  simp only [argσ]
  by_cases hlt : i < cargs.length
  · have hla : i < args.length := by rw [hv.length]; exact hlt
    obtain ⟨v', h1, h2⟩ := hv.get i args[i] (by simp [hla])
    have e1 : (args[i]?).getD undef = args[i] := by simp [hla]
    rw [e1]
    have e2 : ((⟨cargs⟩ : Array Value) ++ Array.replicate (n - cargs.length) undef).getD i undef = v' := by
      simp only [Array.getD_eq_getD_getElem?]
      rw [Array.getElem?_append_left (by simpa using hlt)]
      simp at h1 ⊢; simp [h1]
    rw [e2]; exact h2
  · have hla : ¬ i < args.length := by rw [hv.length]; exact hlt
    have e1 : (args[i]?).getD undef = undef := by simp [List.getElem?_eq_none (Nat.le_of_not_lt hla)]
    rw [e1]
    have e2 : ((⟨cargs⟩ : Array Value) ++ Array.replicate (n - cargs.length) undef).getD i undef = undef := by
      simp only [Array.getD_eq_getD_getElem?]
      rw [Array.getElem?_append_right (by simpa using hlt)]
      simp [Array.getElem?_replicate]
      split <;> rfl
    rw [e2]; exact VR.undef

theorem calls_of_awp (hΓ : OkΓ P Γ) {f : Nat} {fn : Func} {af : AF} (hf : P.funcs[f]? = some fn) (hc : cFn P fn = some af) {ι : Inj} {h h' : Heap} {w : World} {r : Value}
    (hr : HR P ι h lo B w) (hB : B ≤ w.heap.size) (hlo : lo ≤ h.length) {args cargs : List Value} (hv : VRs ι args cargs)
    (H : awp Γ lo af.code (fun e s => (e = .normal ∨ e = .ret) ∧ Done h af.res r h' s) ⟨argσ args, h⟩) : Calls P f ⟨cargs⟩ w (Ends P ι h lo B w r h') := by
  unfold cFn at hc
  split at hc
  · rename_i c hb
    obtain ⟨x, hx, hc⟩ := Option.bind_eq_some_iff.1 hc
    obtain ⟨rs, hrs, rfl⟩ := Option.map_eq_some_iff.1 hc
    refine calls_of_wp hf hb ?_
    refine awp_sound hΓ c x hx _ _ ι _ _ w (start_SR hr hB hlo hv fn.ntmps) H ?_
    intro e s' a' w' ι' h1 h0 h2 h3 ⟨he, hd⟩
    have : a'.defers = [] ∧ ∃ v, (results fn a'.tmps).run P w' = .ok v w' ∧ Ends P ι h lo B w r h' (.returned v) w' := by
      rcases hd with ⟨k1, k2⟩ | ⟨r0, ks, k1, k2, k3, k4, k5, k6, k7⟩
      · obtain ⟨v', q1, q2⟩ := rres_run h2 hrs k1
        exact ⟨h2.defers, v', q2, v', ι', rfl, h1, q1, k2 ▸ h2.heap, h3⟩
      · obtain ⟨v', q1, q2⟩ := rres_run h2 hrs k1
        obtain ⟨ι'', g1, g2, g3⟩ := gc hr h1 h2.heap q1 ks k2 k3 k4 hlo k5 k6 k7
        exact ⟨h2.defers, v', q2, v', ι'', rfl, g1, g2, g3, h3⟩
    rcases he with rfl | rfl
    · exact this
    · exact this
  · cases hc

/-- A function that writes nothing that was there. -/
theorem ok_quiet (hΓ : OkΓ P Γ) {f : Nat} {fn : Func} {af : AF} (hf : P.funcs[f]? = some fn) (hcall : callable P f = true) (hc : cFn P fn = some af) {sp : Sp}
    (hfr : ∀ lo args h r h', sp lo args h = some (r, h') → Fr h.length h h')
    (H : ∀ lo args h r h', sp lo args h = some (r, h') → awp Γ h.length af.code (fun e s => (e = .normal ∨ e = .ret) ∧ Done h af.res r h' s) ⟨argσ args, h⟩) : Ok P f sp := by
  refine ⟨hcall, fun lo args h r h' hs hlo => (hfr lo args h r h' hs).mono hlo, ?_⟩
  intro lo B args h r h' ι w cargs hs hlo hr hB hv
  have hr' : HR P ι h h.length w.heap.size w := by
    refine ⟨hr.dom, hr.cell, ?_, ?_⟩
    · intro b e cs g hlb hb hg; have := (hr.dom b g hg).1; omega
    · intro b b' e cs e' cs' g g' _ hlb _ _ hg _; have := (hr.dom b g hg).1; omega
  refine (calls_of_awp hΓ hf hc hr' (Nat.le_refl _) (Nat.le_refl _) hv (H lo args h r h' hs)).mono ?_
  intro e w' ⟨r', ι', h1, h2, h3, h4, h5⟩
  obtain ⟨k1, k2⟩ := lift hr hB hlo (hfr lo args h r h' hs) h2 h4 h5
  exact ⟨r', ι', h1, h2, h3, k1, k2⟩

/-- A function that may write what was there from lo on. -/
theorem ok_writes (hΓ : OkΓ P Γ) {f : Nat} {fn : Func} {af : AF} (hf : P.funcs[f]? = some fn) (hcall : callable P f = true) (hc : cFn P fn = some af) {sp : Sp}
    (hfr : ∀ lo args h r h', sp lo args h = some (r, h') → lo ≤ h.length → Fr lo h h')
    (H : ∀ lo args h r h', sp lo args h = some (r, h') → lo ≤ h.length → awp Γ lo af.code (fun e s => (e = .normal ∨ e = .ret) ∧ Done h af.res r h' s) ⟨argσ args, h⟩) : Ok P f sp := by
  refine ⟨hcall, hfr, ?_⟩
  intro lo B args h r h' ι w cargs hs hlo hr hB hv
  exact calls_of_awp hΓ hf hc hr hB hlo hv (H lo args h r h' hs hlo)
end
end Go.AH
namespace Go.AH

/-! ### Going through code by rewriting -/
def kont {α : Type} (o : Option α) (f : α → Prop) : Prop := match o with | some a => f a | none => False
theorem kont_some {α : Type} (a : α) (f : α → Prop) : kont (some a) f = f a := rfl
theorem kont_congr {α : Type} {o o' : Option α} {f : α → Prop} (h : o = o') : kont o f = kont o' f := by rw [h]
theorem kont_of {α : Type} {o : Option α} {f : α → Prop} {a : α} (h : o = some a) (hf : f a) : kont o f := by rw [h]; exact hf
def condK (v : Value) (p q : Prop) : Prop := match v with | .bool t => if t then p else q | _ => False
theorem condK_true (p q : Prop) : condK (.bool true) p q = p := rfl
theorem condK_false (p q : Prop) : condK (.bool false) p q = q := rfl
theorem condK_congr {v v' : Value} {p q : Prop} (h : v = v') : condK v p q = condK v' p q := by rw [h]
theorem condK_split {b : Bool} {p q : Prop} (hp : b = true → p) (hq : b = false → q) : condK (.bool b) p q := by cases b; exact hq rfl; exact hp rfl
theorem condK_dec {c : Prop} [Decidable c] {p q : Prop} (hp : c → p) (hq : ¬ c → q) : condK (.bool (decide c)) p q := by
  by_cases h : c
  · simp only [h, decide_true]; exact hp h
  · simp only [h, decide_false]; exact hq h
theorem condK_ite {c : Prop} [Decidable c] {a b : Bool} {p q : Prop} (hp : c → condK (.bool a) p q) (hq : ¬ c → condK (.bool b) p q) : condK (.bool (if c then a else b)) p q := by
  by_cases h : c
  · rw [if_pos h]; exact hp h
  · rw [if_neg h]; exact hq h
def seqK (Γ : Ctx) (lo : Nat) (b : AC) (Q : Exit → St → Prop) (e : Exit) (s : St) : Prop := match e with | .normal => awp Γ lo b Q s | e => Q e s
def blkK (id : Nat) (Q : Exit → St → Prop) (e : Exit) (s : St) : Prop := match e with | .exit i => if i = id then Q .normal s else Q (.exit i) s | e => Q e s
def loopK (R : Nat → St → Prop) (n : Nat) (Q : Exit → St → Prop) (e : Exit) (s : St) : Prop := match e with | .normal => ∃ m, m < n ∧ R m s | e => Q e s
/-- A guard: its test first. -/
def gdK (v : Value) (b : Bool) (p q : Prop) : Prop := if (match v with | .bool c => c == b | _ => false) then p else q
section
variable {Γ : Ctx} {lo : Nat} {σ : Nat → Value} {h : Heap} {K : St → Prop} {Q : Exit → St → Prop} {r : List AO}

theorem put_at (σ : Nat → Value) (d : Nat) (v : Value) (i : Nat) : put σ d v i = if i = d then v else σ i := rfl
theorem argσ_nil (i : Nat) : argσ [] i = undef := by simp [argσ]
theorem argσ_cons (v : Value) (l : List Value) (i : Nat) : argσ (v :: l) i = if i = 0 then v else argσ l (i - 1) := by
  cases i <;> simp [argσ]
theorem ev_t (σ : Nat → Value) (i : Nat) : ev σ (.t i) = σ i := rfl
theorem ev_v (σ : Nat → Value) (x : Value) : ev σ (.v x) = x := rfl

theorem awp_congr {c : AC} {s s' : St} (e : s = s') : awp Γ lo c Q s = awp Γ lo c Q s' := by rw [e]
theorem rops_congr {ops : List AO} {s s' : St} (e : s = s') : rops Γ lo ops K s = rops Γ lo ops K s' := by rw [e]
theorem qops_congr {ops : List AO} {s s' : St} (e : s = s') : qops Γ ops K s = qops Γ ops K s' := by rw [e]
theorem seqK_congr {b : AC} {e e' : Exit} {s s' : St} (h1 : e = e') (h2 : s = s') : seqK Γ lo b Q e s = seqK Γ lo b Q e' s' := by rw [h1, h2]
theorem blkK_congr {id : Nat} {e e' : Exit} {s s' : St} (h1 : e = e') (h2 : s = s') : blkK id Q e s = blkK id Q e' s' := by rw [h1, h2]
theorem loopK_congr {R : Nat → St → Prop} {n : Nat} {e e' : Exit} {s s' : St} (h1 : e = e') (h2 : s = s') : loopK R n Q e s = loopK R n Q e' s' := by rw [h1, h2]

theorem awp_skip : awp Γ lo .skip Q ⟨σ, h⟩ = Q .normal ⟨σ, h⟩ := rfl
theorem awp_ret : awp Γ lo .ret Q ⟨σ, h⟩ = Q .ret ⟨σ, h⟩ := rfl
theorem awp_exit (id : Nat) : awp Γ lo (.exit id) Q ⟨σ, h⟩ = Q (.exit id) ⟨σ, h⟩ := rfl
theorem awp_seq (a b : AC) : awp Γ lo (.seq a b) Q ⟨σ, h⟩ = awp Γ lo a (seqK Γ lo b Q) ⟨σ, h⟩ := rfl
theorem awp_reg (ops : List AO) : awp Γ lo (.reg ops) Q ⟨σ, h⟩ = rops Γ lo ops (Q .normal) ⟨σ, h⟩ := rfl
theorem awp_drw (ops tail : List AO) : awp Γ lo (.drw ops tail) Q ⟨σ, h⟩ = qops Γ ops (rops Γ lo tail (Q .normal)) ⟨σ, h⟩ := rfl
theorem awp_cond (c : Opd) (a b : AC) : awp Γ lo (.cond c a b) Q ⟨σ, h⟩ = condK (ev σ c) (awp Γ lo a Q ⟨σ, h⟩) (awp Γ lo b Q ⟨σ, h⟩) := rfl
theorem awp_block (id : Nat) (a : AC) : awp Γ lo (.block id a) Q ⟨σ, h⟩ = awp Γ lo a (blkK id Q) ⟨σ, h⟩ := rfl
theorem awp_loop {a : AC} {s : St} (R : Nat → St → Prop) (n : Nat) (h0 : R n s) (round : ∀ n s', R n s' → awp Γ lo a (loopK R n Q) s') : awp Γ lo (.loop a) Q s := ⟨R, ⟨n, h0⟩, round⟩

theorem seqK_normal (b : AC) : seqK Γ lo b Q .normal ⟨σ, h⟩ = awp Γ lo b Q ⟨σ, h⟩ := rfl
theorem seqK_ret (b : AC) : seqK Γ lo b Q .ret ⟨σ, h⟩ = Q .ret ⟨σ, h⟩ := rfl
theorem seqK_exit (b : AC) (i : Nat) : seqK Γ lo b Q (.exit i) ⟨σ, h⟩ = Q (.exit i) ⟨σ, h⟩ := rfl
theorem blkK_normal (id : Nat) : blkK id Q .normal ⟨σ, h⟩ = Q .normal ⟨σ, h⟩ := rfl
theorem blkK_ret (id : Nat) : blkK id Q .ret ⟨σ, h⟩ = Q .ret ⟨σ, h⟩ := rfl
theorem blkK_exit (id i : Nat) : blkK id Q (.exit i) ⟨σ, h⟩ = if i = id then Q .normal ⟨σ, h⟩ else Q (.exit i) ⟨σ, h⟩ := rfl
theorem loopK_normal (R : Nat → St → Prop) (n : Nat) : loopK R n Q .normal ⟨σ, h⟩ = ∃ m, m < n ∧ R m ⟨σ, h⟩ := rfl
theorem loopK_ret (R : Nat → St → Prop) (n : Nat) : loopK R n Q .ret ⟨σ, h⟩ = Q .ret ⟨σ, h⟩ := rfl
theorem loopK_exit (R : Nat → St → Prop) (n i : Nat) : loopK R n Q (.exit i) ⟨σ, h⟩ = Q (.exit i) ⟨σ, h⟩ := rfl

theorem rops_nil : rops Γ lo [] K ⟨σ, h⟩ = K ⟨σ, h⟩ := rfl
theorem qops_nil : qops Γ [] K ⟨σ, h⟩ = K ⟨σ, h⟩ := rfl
theorem rops_op (d : Nat) (p : AOp) : rops Γ lo (⟨some d, none, p⟩ :: r) K ⟨σ, h⟩ = kont (aop Γ lo (ev σ) h p) (fun x => rops Γ lo r K ⟨put σ d x.1, x.2⟩) := by
  simp only [rops, stepO, wants, if_true, putO]; cases aop Γ lo (ev σ) h p <;> rfl
theorem rops_op0 (p : AOp) : rops Γ lo (⟨none, none, p⟩ :: r) K ⟨σ, h⟩ = kont (aop Γ lo (ev σ) h p) (fun x => rops Γ lo r K ⟨σ, x.2⟩) := by
  simp only [rops, stepO, wants, if_true, putO]; cases aop Γ lo (ev σ) h p <;> rfl
theorem rops_opg (d t : Nat) (b : Bool) (p : AOp) : rops Γ lo (⟨some d, some (t, b), p⟩ :: r) K ⟨σ, h⟩ =
    gdK (σ t) b (kont (aop Γ lo (ev σ) h p) (fun x => rops Γ lo r K ⟨put σ d x.1, x.2⟩)) (rops Γ lo r K ⟨put σ d undef, h⟩) := by
  have e : gdK (σ t) b (kont (aop Γ lo (ev σ) h p) (fun x => rops Γ lo r K ⟨put σ d x.1, x.2⟩)) (rops Γ lo r K ⟨put σ d undef, h⟩) = if wants σ (some (t, b)) then kont (aop Γ lo (ev σ) h p) (fun x => rops Γ lo r K ⟨put σ d x.1, x.2⟩) else rops Γ lo r K ⟨put σ d undef, h⟩ := rfl
  rw [e]
  by_cases hw : wants σ (some (t, b)) = true
  · simp only [rops, stepO, hw, if_true, putO]; cases aop Γ lo (ev σ) h p <;> rfl
  · simp only [rops, stepO, hw, putO]; rfl
theorem qops_op (d : Nat) (p : AOp) : qops Γ (⟨some d, none, p⟩ :: r) K ⟨σ, h⟩ = kont (aop Γ h.length (ev σ) h p) (fun x => qops Γ r K ⟨put σ d x.1, x.2⟩) := by
  simp only [qops, stepO, wants, if_true, putO]; cases aop Γ h.length (ev σ) h p <;> rfl
theorem qops_op0 (p : AOp) : qops Γ (⟨none, none, p⟩ :: r) K ⟨σ, h⟩ = kont (aop Γ h.length (ev σ) h p) (fun x => qops Γ r K ⟨σ, x.2⟩) := by
  simp only [qops, stepO, wants, if_true, putO]; cases aop Γ h.length (ev σ) h p <;> rfl
theorem qops_opg (d t : Nat) (b : Bool) (p : AOp) : qops Γ (⟨some d, some (t, b), p⟩ :: r) K ⟨σ, h⟩ =
    gdK (σ t) b (kont (aop Γ h.length (ev σ) h p) (fun x => qops Γ r K ⟨put σ d x.1, x.2⟩)) (qops Γ r K ⟨put σ d undef, h⟩) := by
  have e : gdK (σ t) b (kont (aop Γ h.length (ev σ) h p) (fun x => qops Γ r K ⟨put σ d x.1, x.2⟩)) (qops Γ r K ⟨put σ d undef, h⟩) = if wants σ (some (t, b)) then kont (aop Γ h.length (ev σ) h p) (fun x => qops Γ r K ⟨put σ d x.1, x.2⟩) else qops Γ r K ⟨put σ d undef, h⟩ := rfl
  rw [e]
  by_cases hw : wants σ (some (t, b)) = true
  · simp only [qops, stepO, hw, if_true, putO]; cases aop Γ h.length (ev σ) h p <;> rfl
  · simp only [qops, stepO, hw, putO]; rfl
theorem gdK_congr {v v' : Value} {b : Bool} {p q : Prop} (h : v = v') : gdK v b p q = gdK v' b p q := by rw [h]
theorem gdK_tt (p q : Prop) : gdK (.bool true) true p q = p := rfl
theorem gdK_ff (p q : Prop) : gdK (.bool false) false p q = p := rfl
theorem gdK_tf (p q : Prop) : gdK (.bool true) false p q = q := rfl
theorem gdK_ft (p q : Prop) : gdK (.bool false) true p q = q := rfl
theorem gdK_split {c b : Bool} {p q : Prop} (hp : c = b → p) (hq : c = !b → q) : gdK (.bool c) b p q := by cases c <;> cases b <;> simp_all [gdK]

end

/-! The operations one by one. -/
section
variable (Γ : Ctx) (lo : Nat) (ρ : Opd → Value) (h : Heap)
theorem aop_mv (x : Opd) : aop Γ lo ρ h (.mv x) = some (ρ x, h) := rfl
theorem aop_pick (c a b : Opd) : aop Γ lo ρ h (.pick c a b) = (getB (ρ c)).map fun t => (if t then ρ a else ρ b, h) := rfl
theorem aop_alloc (e : TypeId) (z : List Value) : aop Γ lo ρ h (.alloc e z) = some (ptr h.length 0, h ++ [.cells e z]) := rfl
theorem aop_bin (op : BinOp) (x y : Opd) : aop Γ lo ρ h (.bin op x y) = (abin op (ρ x) (ρ y)).map fun v => (v, h) := rfl
theorem aop_un (op : UnOp) (x : Opd) : aop Γ lo ρ h (.un op x) = (aun op (ρ x)).map fun v => (v, h) := rfl
theorem aop_cvI (k : IntKind) (x : Opd) : aop Γ lo ρ h (.cvI k x) = (getI (ρ x)).map fun n => (.int k (k.wrap n), h) := rfl
theorem aop_call (f : Nat) (as : List Opd) : aop Γ lo ρ h (.call f as) = (Γ.get f).bind fun s => s lo (as.map ρ) h := rfl
theorem aop_eqB (neg : Bool) (x y : Opd) : aop Γ lo ρ h (.eqB neg x y) = (getB (ρ x)).bind fun a => (getB (ρ y)).map fun b => (.bool (if neg then !(a == b) else a == b), h) := rfl
theorem aop_eqN (neg : Bool) (x : Opd) : aop Γ lo ρ h (.eqN neg x) = (isNil (ρ x)).map fun b => (.bool (if neg then !b else b), h) := rfl
end
theorem ctx_get (g : Nat) (s : Sp) (r : Ctx) (f : Nat) : Ctx.get ((g, s) :: r) f = if f = g then some s else Ctx.get r f := rfl
theorem getB_bool (b : Bool) : getB (.bool b) = some b := rfl
theorem getI_int (k : IntKind) (n : Int) : getI (.int k n) = some n := rfl
theorem getP_ptr (b o : Nat) : getP (ptr b o) = some (b, o) := rfl


theorem done_scalar {h : Heap} {res : List AR} {r : Value} {s : St} (hr : rres s res = some r) (hm : r = mapV (unN h.length s.h.length []) r) (hf : ∀ b, b < h.length → s.h[b]? = h[b]?) : Done h res r h s :=
  .inr ⟨r, [], hr, by simp, by simp, by simp, hm, by simp, fun b hb => .inl ⟨rfl, hf b hb⟩⟩
theorem done_as {h h' : Heap} {res : List AR} {r : Value} {s : St} (hr : rres s res = some r) (hh : s.h = h') : Done h res r h' s := .inl ⟨hr, hh⟩
/-- One new block is kept: the k-th. -/
theorem done_one {h : Heap} {res : List AR} {r0 r : Value} {s : St} (k : Nat) (x : Blk) (hr : rres s res = some r0) (hk : h.length ≤ k) (hm : r0 = mapV (unN h.length s.h.length [k]) r)
    (hx : s.h[k]? = some (mapB (unN h.length s.h.length [k]) x)) (hf : ∀ b, b < h.length → s.h[b]? = h[b]?) : Done h res r (h ++ [x]) s := by
  refine .inr ⟨r0, [k], hr, by simpa using hk, by simp, by simp, hm, ?_, fun b hb => .inl ⟨List.getElem?_append_left hb, hf b hb⟩⟩
  intro i k' hi
  cases i with
  | zero => simp at hi; subst hi; exact ⟨x, by simp, hx⟩
  | succ i => simp at hi
theorem un_kept (n m k : Nat) : unN n m [k] n = k := by simp [unN]
theorem mapV_slc (u : Nat → Nat) (b o n : Nat) : mapV u (slc b o n) = slc (u b) o n := rfl
theorem mapVs_ints (u : Nat → Nat) (k : IntKind) (l : List Int) : mapVs u (l.map (.int k)) = l.map (.int k) := by
  rw [mapVs_eq, List.map_map]; congr 1
end Go.AH
namespace Go.AH
/-! Congruence that looks at the head alone, and always -/
def tag {α : Type} (x : α) : α := x
theorem tag_eq {α : Type} (x : α) : tag x = x := by unfold tag; exact id rfl
theorem kont_cong {α : Type} {o : Option α} {o' : Unit → Option α} {f : α → Prop} (h : ∀ u, tag o = o' u) : kont o f = kont (o' ()) f := by rw [← h]; rfl
theorem condK_cong {v : Value} {v' : Unit → Value} {p q : Prop} (h : ∀ u, tag v = v' u) : condK v p q = condK (v' ()) p q := by rw [← h]; rfl
theorem gdK_cong {v : Value} {v' : Unit → Value} {b : Bool} {p q : Prop} (h : ∀ u, tag v = v' u) : gdK v b p q = gdK (v' ()) b p q := by rw [← h]; rfl
section
variable {Γ : Ctx} {lo : Nat} {K : St → Prop} {Q : Exit → St → Prop}
theorem awp_cong {c : AC} {s : St} {s' : Unit → St} (h : ∀ u, tag s = s' u) : awp Γ lo c Q s = awp Γ lo c Q (s' ()) := by rw [← h]; rfl
theorem rops_cong {ops : List AO} {s : St} {s' : Unit → St} (h : ∀ u, tag s = s' u) : rops Γ lo ops K s = rops Γ lo ops K (s' ()) := by rw [← h]; rfl
theorem qops_cong {ops : List AO} {s : St} {s' : Unit → St} (h : ∀ u, tag s = s' u) : qops Γ ops K s = qops Γ ops K (s' ()) := by rw [← h]; rfl
theorem put_eq (σ : Nat → Value) (d : Nat) (v : Value) : put σ d v d = v := by simp [put]
end
end Go.AH
namespace Go.AH
open Go.RowKit (Below)
open Go.ChangeShapes Go.WideShapes
/-! From a row's arguments to a heap of blocks -/
/-- A slice of whole numbers as a world holds it. -/
def IsRow (k : IntKind) (w : World) (a : Option Addr) (len cap : Nat) (zs : List Int) : Prop :=
  (a = none ∧ len = 0 ∧ cap = 0 ∧ zs = []) ∨
  ∃ x, a = some x ∧ x.block < w.heap.size ∧ len ≤ cap ∧ cap ≤ maxLen ∧ zs.length = cap ∧ (∀ i, i < zs.length → w.cell? (x.add i) = some (.int k (zs.getD i 0))) ∧ ∀ n ∈ zs, (Lit.int k n).wf = true
theorem IsRow.le {k : IntKind} {w : World} {a : Option Addr} {len cap : Nat} {zs : List Int} (h : IsRow k w a len cap zs) : len ≤ zs.length := by
  rcases h with ⟨_, rfl, _, rfl⟩ | ⟨x, _, _, hl, _, hz, _⟩
  · exact Nat.le_refl _
  · omega
theorem IsRow.wf {k : IntKind} {w : World} {a : Option Addr} {len cap : Nat} {zs : List Int} (h : IsRow k w a len cap zs) : ∀ n ∈ zs, (Lit.int k n).wf = true := by
  rcases h with ⟨_, _, _, rfl⟩ | ⟨x, _, _, _, _, _, _, hw⟩
  · intro n hn; cases hn
  · exact hw
/-- A slice of whole numbers is no longer than its weight allows. -/
theorem row_size {H : Type} {enc : TypeId × Value → H} {P : Program} {W : World} {base : Nat} {spare : Nat → Bool} {held : Bool} {t e : TypeId} {k : IntKind} {a : Option Addr} {len cap : Nat} {d : DataW H} {ps : List MemPlace} {ts : List TypeId} {ds : List (DataW H)} {j : Nat}
    (hsz : (DataW.weightsEach P ts ds).all (· ≤ reachBytes) = true) (ht : ts[j]? = some t) (hd : ds[j]? = some d) (hu : P.underlying t = some (.slice e)) (he : P.underlying e = some (.int k)) (hc : P.cellsOf e = 1) {B : Nat} (hB : P.bytesOf e = B)
    (h : DataW.Trod enc P W base spare held t (.slice a len cap) d ps) : len * B ≤ 140737488351232 := by
  obtain ⟨fuel, hf⟩ := h
  rcases open_ints hu he hc hf with ⟨hcs, _⟩ | ⟨x, l, c, zs, hcs, _, hl, _, hz, hx, _, _⟩
  · simp [Value.cells] at hcs
    obtain ⟨rfl, rfl, rfl⟩ := hcs
    simp
  · simp [Value.cells] at hcs
    obtain ⟨rfl, rfl, rfl⟩ := hcs
    obtain ⟨hx, _⟩ := Prod.mk.inj hx
    subst hx
    have z := sized_slice hsz ht hd hu
    rw [hB] at z
    have hl2 : len ≤ zs.length := by
      rw [hz]
      split
      · exact hl
      · exact Nat.le_refl _
    have h1 : (lits (H := H) k (zs.take len)).length + (lits (H := H) k (zs.drop len)).length = zs.length := by
      simp [lits]
      omega
    rw [h1] at z
    exact Nat.le_trans (Nat.mul_le_mul_right _ hl2) z
theorem slice_block {P : Program} {W : World} {r : Reach} {base : Nat} {t e : TypeId} {x : Addr} {len cap : Nat} (hu : P.underlying t = some (.slice e)) (h : Value.okWide P W r base t (.slice (some x) len cap)) : x.block < W.heap.size := by
  simp only [Value.okWide, hu, Cell.okWide, Cell.ok] at h
  obtain ⟨_, _, _, _, row, cells, hs, _⟩ := h
  unfold World.shape? at hs
  split at hs
  · rename_i hh; exact (Array.getElem?_eq_some_iff.1 hh).1
  · cases hs
theorem row_of {H : Type} {enc : TypeId × Value → H} {P : Program} {W : World} {base base' : Nat} {r : Reach} {t e : TypeId} {k : IntKind} {a : Option Addr} {len cap : Nat} {d : DataW H} {ps : List MemPlace}
    (hu : P.underlying t = some (.slice e)) (he : P.underlying e = some (.int k)) (hc : P.cellsOf e = 1) (hv : Value.okWide P W r base' t (.slice a len cap)) (h : DataW.Trod enc P W base (fun _ => true) true t (.slice a len cap) d ps) : ∃ zs, IsRow k W a len cap zs := by
  obtain ⟨fuel, hf⟩ := h
  rcases open_ints hu he hc hf with ⟨hcs, _⟩ | ⟨x, l, c, zs, hcs, _, hl, hm, hz, _, hcell, hwz⟩
  · simp [Value.cells] at hcs
    obtain ⟨rfl, rfl, rfl⟩ := hcs
    exact ⟨[], .inl ⟨rfl, rfl, rfl, rfl⟩⟩
  · simp [Value.cells] at hcs
    obtain ⟨rfl, rfl, rfl⟩ := hcs
    exact ⟨zs, .inr ⟨_, rfl, slice_block hu hv, hl, hm, by simpa using hz, hcell, hwz⟩⟩

section
variable {P : Program} {W : World} {ι : Inj} {h : Heap} {B : Nat}
theorem hr_start (P : Program) (W : World) (B : Nat) : HR P (fun _ => none) [] ([] : Heap).length B W :=
  ⟨fun b g hg => by simp at hg, fun b e cs g hb => by simp at hb, fun b e cs g _ hb => by simp at hb, fun b b' e cs e' cs' g g' _ _ hb => by simp at hb⟩
theorem ext_new (ι : Inj) (n : Nat) (g : Img) (hd : ∀ b g, ι b = some g → b < n) : Ext ι (fun b => if b = n then some g else ι b) := by
  intro b g' hb
  have := hd b g' hb
  show (if b = n then some g else ι b) = some g'
  rw [if_neg (by omega)]; exact hb
/-- One block more, for one slice more. -/
theorem add_row (hr : HR P ι h h.length B W) {k : IntKind} {a : Option Addr} {len cap : Nat} {zs : List Int} {e : TypeId} (hz : P.cellsOf e = 1) (hw : IsRow k W a len cap zs) :
    ∃ ι' v, Ext ι ι' ∧ HR P ι' (h ++ [Blk.cells e (zs.map (.int k))]) (h ++ [Blk.cells e (zs.map (.int k))]).length B W ∧ VR ι' v (.slice a len cap) ∧
      ∀ L, rdS (h ++ [Blk.cells e (zs.map (.int k))] ++ L) 1 v = some ((zs.take len).map (.int k)) := by
  have hd : ∀ b g, ι b = some g → b < h.length := fun b g hb => (hr.dom b g hb).1
  have hvac : ∀ (x : Blk) (b : Nat) (y : Blk), (h ++ [x]).length ≤ b → (h ++ [x])[b]? = some y → False := by
    intro x b y h1 h2
    have := (List.getElem?_eq_some_iff.1 h2).1
    omega
  rcases hw with ⟨rfl, rfl, rfl, rfl⟩ | ⟨x, rfl, hxb, hl, hm, hzl, hcell, hwf⟩
  · refine ⟨ι, .slice none 0 0, Ext.refl _, ⟨fun b g hb => ⟨?_, (hr.dom b g hb).2⟩, ?_, ?_, ?_⟩, .nils, fun L => by simp [rdS]⟩
    · have := hd b g hb; simp only [List.length_append, List.length_cons, List.length_nil]; omega
    · intro b e' cs g hb hg
      have := hd b g hg
      rw [List.getElem?_append_left this] at hb
      exact hr.cell b e' cs g hb hg
    · intro b e' cs g h1 hb; exact (hvac _ _ _ h1 hb).elim
    · intro b b' e' cs e2 cs' g g' _ h1 hb; exact (hvac _ _ _ h1 hb).elim
  · by_cases h0 : cap = 0
    · subst h0
      obtain rfl : len = 0 := by omega
      obtain rfl : zs = [] := List.eq_nil_of_length_eq_zero hzl
      refine ⟨fun b => if b = h.length then some ⟨x.block, 0, 0, 1⟩ else ι b, .slice (some ⟨h.length, 0, none⟩) 0 0, ext_new ι h.length _ hd, ⟨?_, ?_, ?_, ?_⟩, ?_, ?_⟩
      · intro b g hb
        skip
        split at hb
        · rename_i hbe; cases hb; subst hbe; exact ⟨by simp, hxb⟩
        · have := hr.dom b g hb; exact ⟨by simp; omega, this.2⟩
      · intro b e' cs g hb hg
        skip
        split at hg
        · rename_i hbe; cases hg; subst hbe
          simp at hb
          obtain ⟨rfl, rfl⟩ := hb
          exact ⟨hz.symm, fun i v hv => by simp at hv⟩
        · have h1 := hd b g hg
          rw [List.getElem?_append_left h1] at hb
          obtain ⟨k1, k2⟩ := hr.cell b e' cs g hb hg
          refine ⟨k1, fun i v hv => ?_⟩
          obtain ⟨k3, v', k4, k5⟩ := k2 i v hv
          exact ⟨k3, v', k4, k5.mono (ext_new ι h.length _ hd)⟩
      · intro b e' cs g h1 hb; exact (hvac _ _ _ h1 hb).elim
      · intro b b' e' cs e2 cs' g g' _ h1 hb; exact (hvac _ _ _ h1 hb).elim
      · exact .sl0 (g := ⟨x.block, 0, 0, 1⟩) x (by simp)
      · intro L
        simp [rdS]
    · obtain ⟨xb, xo, xs⟩ := x
      have hc0 := hcell 0 (by omega)
      have hxs : xs = none := by
        cases xs with
        | none => rfl
        | some s => simp [World.cell?, Addr.add] at hc0; split at hc0 <;> simp at hc0
      subst hxs
      have hlt : xb < W.heap.size := World.block_lt_of_cell? W _ hc0
      refine ⟨fun b => if b = h.length then some ⟨xb, xo, cap, 1⟩ else ι b, .slice (some ⟨h.length, 0, none⟩) len cap, ext_new ι h.length _ hd, ⟨?_, ?_, ?_, ?_⟩, ?_, ?_⟩
      · intro b g hb
        skip
        split at hb
        · rename_i hbe; cases hb; subst hbe; exact ⟨by simp, hlt⟩
        · have := hr.dom b g hb; exact ⟨by simp; omega, this.2⟩
      · intro b e' cs g hb hg
        skip
        split at hg
        · rename_i hbe; cases hg; subst hbe
          simp at hb
          obtain ⟨rfl, rfl⟩ := hb
          refine ⟨hz.symm, ?_⟩
          intro i v hv
          simp at hv
          obtain ⟨n, hn, rfl⟩ := hv
          have hi : i < zs.length := (List.getElem?_eq_some_iff.1 hn).1
          refine ⟨rfl, _, ?_, .int _ _⟩
          have := hcell i hi
          rw [Addr.add_lit] at this
          refine this.trans ?_
          simp [hn]
        · have h1 := hd b g hg
          rw [List.getElem?_append_left h1] at hb
          obtain ⟨k1, k2⟩ := hr.cell b e' cs g hb hg
          refine ⟨k1, fun i v hv => ?_⟩
          obtain ⟨k3, v', k4, k5⟩ := k2 i v hv
          exact ⟨k3, v', k4, k5.mono (ext_new ι h.length _ hd)⟩
      · intro b e' cs g h1 hb; exact (hvac _ _ _ h1 hb).elim
      · intro b b' e' cs e2 cs' g g' _ h1 hb; exact (hvac _ _ _ h1 hb).elim
      · refine VR.sl (g := ⟨xb, xo, cap, 1⟩) (by simp) hl hm (fun _ => by simp)
      · intro L
        simp only [rdS, List.append_assoc, List.cons_append, List.nil_append]
        rw [List.getElem?_append_right (by omega)]
        simp only [Nat.sub_self, List.getElem?_cons_zero, List.length_map, Nat.mul_one, Nat.zero_add, List.drop_zero, List.map_take]
        rw [if_pos (by omega)]
/-- What a law's run says to its row. -/
theorem law_calls {f : Nat} {sp : Sp} (ok : Ok P f sp) {args cargs : List Value} (hr : HR P ι h h.length W.heap.size W) (hv : VRs ι args cargs) (hs : sp h.length args h = some (.bool true, h)) :
    Calls P f ⟨cargs⟩ W (fun e W' => e = .returned (.bool true) ∧ Below W.heap.size W W') := by
  refine (ok.run h.length W.heap.size args h (.bool true) h ι W cargs hs (Nat.le_refl _) hr (Nat.le_refl _) hv).mono ?_
  intro e w' ⟨r', ι', h1, _, h3, _, h5⟩
  cases h3
  exact ⟨h1, h5⟩
end
end Go.AH
