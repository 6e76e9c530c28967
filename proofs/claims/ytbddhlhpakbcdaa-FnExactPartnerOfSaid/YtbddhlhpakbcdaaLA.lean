import Derived.Test.YtbddhlhpakbcdaaLA0
import Derived.SizedLaws
import Derived.ChangeSlices
import Derived.OpenShut
set_option linter.unusedVariables false
set_option linter.unusedSimpArgs false
namespace Go.AH
open Go.RowKit (Below)

/-! What an operation does to the heap leaves what is below lo. -/
theorem aop_fr {P : Program} {Γ : Ctx} (hΓ : OkΓ P Γ) {lo : Nat} {ρ : Opd → Value} {h h' : Heap} {v : Value} (p : AOp) (ha : aop Γ lo ρ h p = some (v, h')) (hlo : lo ≤ h.length) : Fr lo h h' := by
  cases p <;> simp only [aop] at ha
  case call f as =>
    obtain ⟨sp, hs, ha⟩ := Option.bind_eq_some_iff.1 ha
    exact (hΓ f sp hs).fr _ _ _ _ _ ha hlo
  case callv x as =>
    split at ha
    · obtain ⟨sp, hs, ha⟩ := Option.bind_eq_some_iff.1 ha
      exact (hΓ _ sp hs).fr _ _ _ _ _ ha hlo
    · cases ha
  case apz e z b zc x y =>
    split at ha
    · split at ha
      · cases ha; exact Fr.push hlo _
      · cases ha
    · cases ha
  case cpy z x y =>
    split at ha
    · split at ha
      · split at ha
        · rename_i hc; cases ha; exact Fr.set hc.1 _
        · cases ha
      · cases ha
    · cases ha
  case putM n x y =>
    split at ha
    · split at ha
      · split at ha
        · split at ha
          · rename_i hc; cases ha; exact Fr.set hc.1 _
          · cases ha
        · cases ha
      · cases ha
    · cases ha
  case st n x y =>
    split at ha
    · split at ha
      · split at ha
        · rename_i hc; cases ha; exact Fr.set hc.1 _
        · cases ha
      · cases ha
    · cases ha
  case app e z b x y =>
    split at ha
    · split at ha
      · split at ha
        · split at ha
          · split at ha
            · cases ha; exact Fr.refl _ _
            · cases ha; exact Fr.push hlo _
          · split at ha
            · cases ha; exact Fr.refl _ _
            · cases ha; exact Fr.push hlo _
          · split at ha
            · split at ha
              · rename_i hc; cases ha; exact (Fr.set hc.1 _).trans (Fr.push (by simpa using hlo) _)
              · cases ha
            · cases ha
          · cases ha
        · cases ha
      · cases ha
    · cases ha
  all_goals
    first
    | (cases ha; first | exact Fr.refl _ _ | exact Fr.push hlo _)
    | (obtain ⟨_, _, ha⟩ := Option.map_eq_some_iff.1 ha; cases ha; exact Fr.refl _ _)
    | (obtain ⟨_, _, ha⟩ := Option.bind_eq_some_iff.1 ha; obtain ⟨_, _, ha⟩ := Option.map_eq_some_iff.1 ha; cases ha; exact Fr.refl _ _)
    | (obtain ⟨_, _, ha⟩ := Option.bind_eq_some_iff.1 ha; split at ha <;> first | (cases ha; exact Fr.push hlo _) | cases ha)
    | (split at ha <;> first | (cases ha; done) | (cases ha; first | exact Fr.refl _ _ | exact Fr.push hlo _))
    | (repeat' split at ha
       all_goals first | (cases ha; done) | (cases ha; first | exact Fr.refl _ _ | exact Fr.push hlo _) | (obtain ⟨_, _, ha⟩ := Option.map_eq_some_iff.1 ha; cases ha; exact Fr.refl _ _))

theorem qops_trace {Γ : Ctx} {K : St → Prop} : ∀ (l : List AO) (s : St), qops Γ l K s → ∃ f : Nat → St, f 0 = s ∧ (∀ (i : Nat) (x : AO), l[i]? = some x → stepO Γ (f i).h.length x (f i) = some (f (i + 1))) ∧ K (f l.length)
  | [], s, h => ⟨fun _ => s, rfl, by simp, h⟩
  | o :: r, s, h => by
    simp only [qops] at h
    split at h
    · rename_i s' hs
      obtain ⟨g, h0, h1, h2⟩ := qops_trace r s' h
      refine ⟨fun | 0 => s | i + 1 => g i, rfl, fun i x hx => ?_, h2⟩
      cases i with
      | zero => simp at hx; subst hx; simpa [h0] using hs
      | succ i => exact h1 i x (by simpa using hx)
    · exact h.elim

/-! Counting what is not listed. -/
def unl (l : Array Bool) (m : Nat) : Nat := ((List.range m).filter fun i => !l.getD i false).length
theorem unl_succ (l : Array Bool) (m : Nat) : unl l (m + 1) = unl l m + if l.getD m false then 0 else 1 := by
  simp only [unl, List.range_succ, List.filter_append, List.length_append]
  cases h : l.getD m false <;> simp only [List.filter_cons, List.filter_nil, h] <;> rfl
theorem getD_set (l : Array Bool) (i j : Nat) (hi : i < l.size) : (l.setIfInBounds i true).getD j false = if j = i then true else l.getD j false := by
  by_cases h : j = i
  · subst h; simp [hi]
  · have h' : i ≠ j := fun x => h x.symm
    simp [h, h']
theorem unl_same (l : Array Bool) (i : Nat) (hi : i < l.size) : ∀ m, m ≤ i → unl (l.setIfInBounds i true) m = unl l m
  | 0, _ => rfl
  | m + 1, h => by
    rw [unl_succ, unl_succ, unl_same l i hi m (by omega), getD_set l i m hi]
    simp only [show ¬ m = i by omega, if_false]
theorem unl_set (l : Array Bool) (i : Nat) (hi : i < l.size) (hu : l.getD i false = false) : ∀ m, i < m → unl (l.setIfInBounds i true) m + 1 = unl l m
  | 0, h => by omega
  | m + 1, h => by
    rw [unl_succ, unl_succ, getD_set l i m hi]
    by_cases e : m = i
    · subst e; rw [unl_same l m hi m (Nat.le_refl _)]; simp [hu]
    · simp only [e, if_false]; have := unl_set l i hi hu m (by omega); omega
theorem unl_zero (l : Array Bool) : ∀ m, unl l m = 0 → ∀ i, i < m → l.getD i false = true
  | 0, _, i, hi => by omega
  | m + 1, h, i, hi => by
    rw [unl_succ] at h
    by_cases e : i = m
    · subst e; cases hx : l.getD i false
      · simp [hx] at h
      · rfl
    · exact unl_zero l m (by omega) i (by omega)
theorem least_unl (l : Array Bool) : ∀ m, 0 < unl l m → ∃ i, i < m ∧ l.getD i false = false ∧ ∀ k, k < i → l.getD k false = true
  | 0, h => by simp [unl] at h
  | m + 1, h => by
    by_cases hm : 0 < unl l m
    · obtain ⟨i, h1, h2, h3⟩ := least_unl l m hm
      exact ⟨i, by omega, h2, h3⟩
    · refine ⟨m, by omega, ?_, unl_zero l m (by omega)⟩
      rw [unl_succ] at h
      cases hx : l.getD m false
      · rfl
      · simp [hx] at h; omega

section
variable {ops : Array Oper}
def Closed (ops : Array Oper) (l : Array Bool) : Prop := ∀ (j : Nat) (o : Oper), ops[j]? = some o → l.getD j false = true → ∀ k ∈ edgesOf o, l.getD k false = true
theorem waits_listed {l : Array Bool} (hc : Closed ops l) : ∀ (n j i : Nat), waits ops n j i = true → (∀ o, ops[j]? = some o → ∀ k ∈ edgesOf o, l.getD k false = true) → l.getD i false = true
  | 0, j, i, h, _ => by simp [waits] at h
  | n + 1, j, i, h, he => by
    simp only [waits] at h
    split at h
    · rename_i o ho
      obtain ⟨k, hk, h⟩ := List.any_eq_true.1 h
      have hlk := he o ho k hk
      simp only [Bool.or_eq_true, beq_iff_eq] at h
      rcases h with rfl | h
      · exact hlk
      · exact waits_listed hc n k i h (fun o ho => hc k o ho hlk)
    · cases h
theorem mem_ready {l : Array Bool} (hl : l.size = ops.size) (i : Nat) : i ∈ Region.ready .any ops l ↔ ∃ o, ops[i]? = some o ∧ l.getD i false = false ∧ ∀ k ∈ edgesOf o, l.getD k false = true := by
  simp only [Region.ready, List.mem_filter, List.mem_range, Bool.and_eq_true, Bool.not_eq_true']
  constructor
  · rintro ⟨hi, h1, h2⟩
    have hget : ops[i]? = some ops[i] := by simp [hi]
    refine ⟨ops[i], hget, ?_, ?_⟩
    · have hil : i < l.size := by omega
      simp [hil] at h1 ⊢; exact h1
    · intro k hk
      rw [hget] at h2
      simp only [Option.map_some, Option.getD_some] at h2
      simp only [edgesOf, List.mem_map, List.mem_filter] at hk
      obtain ⟨e, ⟨he, hb⟩, rfl⟩ := hk
      have := (Array.all_eq_true_iff_forall_mem.1 h2) e (Array.mem_toList_iff.1 he)
      simpa [hb] using this
  · rintro ⟨o, ho, h1, h2⟩
    have hi : i < ops.size := (Array.getElem?_eq_some_iff.1 ho).1
    refine ⟨hi, ?_, ?_⟩
    · have hil : i < l.size := by omega
      simp [hil] at h1 ⊢; exact h1
    · rw [ho]
      simp only [Option.map_some, Option.getD_some]
      rw [Array.all_eq_true_iff_forall_mem]
      intro e he
      by_cases hb : Region.binds .any e = true
      · have := h2 e.on (by simp only [edgesOf, List.mem_map, List.mem_filter]; exact ⟨e, ⟨Array.mem_toList_iff.2 he, hb⟩, rfl⟩)
        simp [this]
      · simp [hb]
theorem closed_set {l : Array Bool} (hl : l.size = ops.size) (hc : Closed ops l) {i : Nat} (hi : i ∈ Region.ready .any ops l) : Closed ops (l.setIfInBounds i true) := by
  obtain ⟨o, ho, h1, h2⟩ := (mem_ready hl i).1 hi
  have hil : i < l.size := by have := (Array.getElem?_eq_some_iff.1 ho).1; omega
  intro j o' ho' hj k hk
  rw [getD_set l i k hil]
  split
  · rfl
  · rw [getD_set l i j hil] at hj
    split at hj
    · rename_i e; subst e; rw [ho] at ho'; cases ho'; exact h2 k hk
    · exact hc j o' ho' hj k hk
end
end Go.AH
namespace Go.AH
open Go.RowKit (Below)

theorem aop_congr {Γ : Ctx} {lo : Nat} {ρ ρ' : Opd → Value} {h : Heap} (p : AOp) (H : ∀ y ∈ p.os, ρ y = ρ' y) : aop Γ lo ρ h p = aop Γ lo ρ' h p := by
  cases p
  case build z ps =>
    have e : (ps.map fun p => (p.1, p.2.1, ρ p.2.2)) = ps.map fun p => (p.1, p.2.1, ρ' p.2.2) := List.map_congr_left fun q hq => by rw [H q.2.2 (by simp only [AOp.os, List.mem_map]; exact ⟨q, hq, rfl⟩)]
    simp only [aop, e]
  case mkS e n z ps =>
    have e : (ps.map fun p => (p.1, p.2.1, ρ p.2.2)) = ps.map fun p => (p.1, p.2.1, ρ' p.2.2) := List.map_congr_left fun q hq => by rw [H q.2.2 (by simp only [AOp.os, List.mem_map]; exact ⟨q, hq, rfl⟩)]
    simp only [aop, e]
  case sl z x lo hi =>
    have hx := H x (by simp [AOp.os])
    have e1 : ∀ d, optI ρ d lo = optI ρ' d lo := by intro d; cases lo with | none => rfl | some y => simp only [optI]; rw [H y (by simp [AOp.os])]
    have e2 : ∀ d, optI ρ d hi = optI ρ' d hi := by intro d; cases hi with | none => rfl | some y => simp only [optI]; rw [H y (by simp [AOp.os])]
    simp only [aop, hx, e1, e2]
  case slT x lo hi =>
    have hx := H x (by simp [AOp.os])
    have e1 : ∀ d, optI ρ d lo = optI ρ' d lo := by intro d; cases lo with | none => rfl | some y => simp only [optI]; rw [H y (by simp [AOp.os])]
    have e2 : ∀ d, optI ρ d hi = optI ρ' d hi := by intro d; cases hi with | none => rfl | some y => simp only [optI]; rw [H y (by simp [AOp.os])]
    simp only [aop, hx, e1, e2]
  case fn f cs =>
    have e : cs.map ρ = cs.map ρ' := List.map_congr_left fun q hq => H q (by simpa [AOp.os] using hq)
    simp only [aop, e]
  case call f cs =>
    have e : cs.map ρ = cs.map ρ' := List.map_congr_left fun q hq => H q (by simpa [AOp.os] using hq)
    simp only [aop, e]
  case callv x cs =>
    have hx := H x (by simp [AOp.os])
    have e : cs.map ρ = cs.map ρ' := List.map_congr_left fun q hq => H q (by simp [AOp.os, hq])
    simp only [aop, hx, e]
  case alloc => rfl
  case mkE => rfl
  case fail => rfl
  case mkM => rfl
  case pick c a b => simp only [aop, H c (by simp [AOp.os]), H a (by simp [AOp.os]), H b (by simp [AOp.os])]
  all_goals
    first
    | (rename_i x y; simp only [aop, H x (by simp [AOp.os]), H y (by simp [AOp.os])]; done)
    | (rename_i x; simp only [aop, H x (by simp [AOp.os])]; done)
    | (rename_i x _; simp only [aop, H x (by simp [AOp.os])]; done)

def res (ι : Inj) (m : Nat) : Inj := fun b => if b < m then ι b else none
theorem res_ext (ι : Inj) (m : Nat) : Ext (res ι m) ι := fun b g h => by
  simp only [res] at h; split at h
  · exact h
  · cases h
theorem res_mono {ι ι' : Inj} {m m' : Nat} (hm : m ≤ m') (h : ∀ b g, b < m → ι b = some g → ι' b = some g) : Ext (res ι m) (res ι' m') := fun b g hb => by
  simp only [res] at hb ⊢; split at hb
  · rename_i hlt; rw [if_pos (by omega)]; exact h b g hlt hb
  · cases hb

def wr (ops : Array Oper) (i t : Nat) : Prop := ∃ o, ops[i]? = some o ∧ o.dst = some t
def cutAt (ops : Array Oper) (n : Nat) (l : Array Bool) (t j : Nat) : Prop :=
  j ≤ n ∧ (∀ i, i < j → wr ops i t → l.getD i false = true) ∧ ∀ i, j ≤ i → i < n → wr ops i t → l.getD i false = false

section
variable (P : Program) (N : Nat) (ops : Array Oper) (n : Nat) (f : Nat → St) (ι0 : Inj) (lo B : Nat) (w0 : World)
structure DI (l : Array Bool) (a : Act) (w : World) (ι : Inj) : Prop where
  size : l.size = ops.size
  closed : Closed ops l
  tail : ∀ t, n ≤ t → l.getD t false = false
  sz : N ≤ a.tmps.size
  tm : ∀ t, t < N → ∀ j, cutAt ops n l t j → VR (res ι (f j).h.length) ((f j).σ t) (a.tmps.getD t undef)
  dom : ∀ b g, ι b = some g → b < (f n).h.length ∧ g.c < w.heap.size
  cell : ∀ j, j ≤ n → ∀ (b : Nat) (e : TypeId) (cs : List Value) (g : Img), (f j).h[b]? = some (.cells e cs) → ι b = some g → (g.m = false → g.z = P.cellsOf e) ∧
    ∀ (i : Nat) (v : Value), cs[i]? = some v → one v = true ∧ ∃ v', w.cell? ⟨g.c, g.o + i, none⟩ = some v' ∧ VR (res ι (f j).h.length) v v'
  own : ∀ (b : Nat) (e : TypeId) (cs : List Value) (g : Img), lo ≤ b → (f n).h[b]? = some (.cells e cs) → ι b = some g → B ≤ g.c ∧ g.o = 0 ∧ cs.length ≤ g.n ∧ (g.m = false → ∃ cur, w.heap[g.c]? = some (.cells cur e (0, 0)) ∧ cur.size = g.n)
  apart : ∀ (b b' : Nat) (e : TypeId) (cs : List Value) (e' : TypeId) (cs' : List Value) (g g' : Img), b ≠ b' → lo ≤ b → (f n).h[b]? = some (.cells e cs) → (f n).h[b']? = some (.cells e' cs') → ι b = some g → ι b' = some g' → g.c ≠ g'.c
  sets : ∀ j, j ≤ n → ∀ (b : Nat) (e : TypeId) (cs : List Value) (g : Img), (f j).h[b]? = some (.cells e cs) → ι b = some g → g.m = true → cs = [] ∧ ∃ K, e = setT K ∧ SetAt w g.c K
  dom2 : ∀ b g, ι b = some g → b < (f 0).h.length ∨ ∃ i, i < n ∧ l.getD i false = true ∧ (f i).h.length ≤ b ∧ b < (f (i + 1)).h.length
  ag : Ag (f 0).h.length ι0 ι
  bel : Below B w0 w
  base : B ≤ w.heap.size
  defers : a.defers = []
end

theorem cOpers_get {P : Program} {N : Nat} {d : Bool} {ops : Array Oper} : ∀ {l : List Oper} {os : List AO}, cOpers P N d ops l = some os → os.length = l.length ∧ ∀ (j : Nat) (o : Oper), l[j]? = some o → ∃ x, os[j]? = some x ∧ cOper P N d ops o = some x
  | [], os, h => by cases h; simp
  | o :: r, os, h => by
    simp only [cOpers] at h
    obtain ⟨x, hx, h⟩ := Option.bind_eq_some_iff.1 h
    obtain ⟨os', hos, rfl⟩ := Option.map_eq_some_iff.1 h
    obtain ⟨h1, h2⟩ := cOpers_get hos
    refine ⟨by simp [h1], fun j o' hj => ?_⟩
    cases j with
    | zero => simp at hj; subst hj; exact ⟨x, rfl, hx⟩
    | succ j => simpa using h2 j o' (by simpa using hj)
end Go.AH
namespace Go.AH
open Go.RowKit (Below)
/-! Another numbering of the operations of a statement of open order -/
theorem edges_re (q : Nat → Nat) (o : Oper) : edgesOf (reOper q o) = (edgesOf o).map q := by
  simp only [edgesOf, reOper, Array.toList_map, List.filter_map, List.map_map]
  congr 1
structure Renum (ops ops' : Array Oper) (q p : Nat → Nat) : Prop where
  size : ops'.size = ops.size
  qlt : ∀ i, i < ops.size → q i < ops.size
  plt : ∀ k, k < ops.size → p k < ops.size
  pq : ∀ i, i < ops.size → p (q i) = i
  qp : ∀ k, k < ops.size → q (p k) = k
  at_ : ∀ (i : Nat) (o : Oper), ops[i]? = some o → ops'[q i]? = some (reOper q o)
  edge : ∀ (i : Nat) (o : Oper), ops[i]? = some o → ∀ k ∈ edgesOf o, k < ops.size
  guard : ∀ (i : Nat) (o : Oper), ops[i]? = some o → ∀ g, o.guard = some g → g.1 < ops.size
section
variable {P : Program} {ops ops' : Array Oper} {q p : Nat → Nat} {Q : Exit → Act → World → Prop}
theorem Renum.wanted (R : Renum ops ops' q p) {i : Nat} {o : Oper} (ho : ops[i]? = some o) (tmps : Array Value) : Region.wanted (reOper q o) (yielded ops' tmps) = Region.wanted o (yielded ops tmps) := by
  unfold Region.wanted
  simp only [reOper]
  cases hg : o.guard with
  | none => rfl
  | some g =>
    obtain ⟨j, b⟩ := g
    have hj := R.guard i o ho _ hg
    simp only [Option.map_some]
    have hget : ops[j]? = some ops[j] := by simp [hj]
    have e : yielded ops' tmps (q j) = yielded ops tmps j := by
      simp only [yielded]
      rw [R.at_ j _ hget, hget]
      rfl
    rw [e]
theorem Renum.any (R : Renum ops ops' q p) : ∀ (m : Nat) (l l' : Array Bool) (a : Act) (w : World), l.size = ops.size → l'.size = ops.size → (∀ i, i < ops.size → l.getD i false = l'.getD (q i) false) →
    wpAny P .any ops' Q m l' a w → wpAny P .any ops Q m l a w := by
  have rdy : ∀ (l l' : Array Bool), l.size = ops.size → l'.size = ops.size → (∀ i, i < ops.size → l.getD i false = l'.getD (q i) false) → ∀ i, i ∈ Region.ready .any ops l → q i ∈ Region.ready .any ops' l' := by
    intro l l' hl hl' hc i hi
    obtain ⟨o, ho, h1, h2⟩ := (mem_ready hl i).1 hi
    have hil := (Array.getElem?_eq_some_iff.1 ho).1
    refine (mem_ready (hl'.trans R.size.symm) (q i)).2 ⟨_, R.at_ i o ho, by rw [← hc i hil]; exact h1, ?_⟩
    intro k hk
    rw [edges_re] at hk
    obtain ⟨k0, hk0, rfl⟩ := List.mem_map.1 hk
    rw [← hc k0 (R.edge i o ho k0 hk0)]
    exact h2 k0 hk0
  have rdy' : ∀ (l l' : Array Bool), l.size = ops.size → l'.size = ops.size → (∀ i, i < ops.size → l.getD i false = l'.getD (q i) false) → ∀ k, k ∈ Region.ready .any ops' l' → p k ∈ Region.ready .any ops l := by
    intro l l' hl hl' hc k hk
    obtain ⟨o', ho', h1, h2⟩ := (mem_ready (hl'.trans R.size.symm) k).1 hk
    have hkl := (Array.getElem?_eq_some_iff.1 ho').1
    rw [R.size] at hkl
    have hpk := R.plt k hkl
    have hget : ops[p k]? = some ops[p k] := by simp [hpk]
    have e := R.at_ (p k) _ hget
    rw [R.qp k hkl, ho'] at e
    cases e
    refine (mem_ready hl (p k)).2 ⟨_, hget, by rw [hc _ hpk, R.qp k hkl]; exact h1, ?_⟩
    intro j hj
    rw [hc j (R.edge _ _ hget j hj)]
    exact h2 (q j) (by rw [edges_re]; exact List.mem_map.2 ⟨j, hj, rfl⟩)
  intro m
  induction m with
  | zero =>
    intro l l' a w hl hl' hc h
    refine ⟨?_, h.2⟩
    apply List.eq_nil_iff_forall_not_mem.2
    intro i hi
    have := rdy l l' hl hl' hc i hi
    rw [h.1] at this; cases this
  | succ m ih =>
    intro l l' a w hl hl' hc h
    refine ⟨fun hr => h.1 ?_, fun i hi => ?_⟩
    · apply List.eq_nil_iff_forall_not_mem.2
      intro k hk
      have := rdy' l l' hl hl' hc k hk
      rw [hr] at this; cases this
    · have hq := h.2 _ (rdy l l' hl hl' hc i hi)
      obtain ⟨o, ho, h1, h2⟩ := (mem_ready hl i).1 hi
      have hil := (Array.getElem?_eq_some_iff.1 ho).1
      have hqi := R.qlt i hil
      have next : ∀ a w, wpAny P .any ops' Q m (l'.setIfInBounds (q i) true) a w → wpAny P .any ops Q m (l.setIfInBounds i true) a w := by
        intro a w
        refine ih _ _ a w (by simpa using hl) (by simpa using hl') ?_
        intro j hj
        rw [getD_set l i j (by omega), getD_set l' (q i) (q j) (by omega)]
        by_cases e : j = i
        · subst e; simp
        · have : q j ≠ q i := fun x => e (by rw [← R.pq j hj, x, R.pq i hil])
          simp only [e, this, if_false]
          exact hc j hj
      unfold wpOp at hq ⊢
      rw [R.at_ i o ho] at hq
      rw [ho]
      simp only [] at hq ⊢
      rw [R.wanted ho] at hq
      split
      · rename_i hw
        rw [if_pos hw] at hq
        rcases hq with hq | hq
        · exact .inl (Oper.wp_mono next (show o.wp P a w _ Q from hq))
        · exact .inr hq
      · rename_i hw
        rw [if_neg hw] at hq
        exact next _ _ hq
end
end Go.AH
namespace Go.AH
open Go.RowKit (Below)
theorem aop_pure {p : AOp} (hp : pureOp p = true) (Γ Γ' : Ctx) (lo lo' : Nat) (ρ : Opd → Value) (h h' : Heap) : aop Γ lo ρ h p = (aop Γ' lo' ρ h' p).map fun r => (r.1, h) := by
  cases p <;> simp only [pureOp] at hp <;> (try cases hp) <;> simp only [aop]
  all_goals (try rfl)
  all_goals (first | (simp only [Option.map_map]; rfl) | (split <;> simp; done) | (repeat' split) <;> simp [Option.map_map, Function.comp_def])
section
variable {P : Program} {N : Nat} {Γ : Ctx} {ops : Array Oper} {lo B : Nat} {ι : Inj} {σ : Nat → Value} {h h' : Heap} {w : World} {a : Act} {v : Value}
/-- An operation on a frame of which only what it looks at is told. -/
theorem masked (hΓ : OkΓ P Γ) (hr : HR P ι h lo B w) (hB : B ≤ w.heap.size) (hlo : lo ≤ h.length) (hsz : N ≤ a.tmps.size) {o : Oper} {x : AO}
    (hlook : ∀ t, t < N → t ∈ looks ops o → VR ι (σ t) (a.tmps.getD t undef)) (hc : cOper P N true ops o = some x) (hsee : ∀ t ∈ x.op.os.flatMap opdA, t ∈ looks ops o) :
    Region.wanted o (yielded ops a.tmps) = wants σ x.g ∧ (aop Γ lo (ev σ) h x.op = some (v, h') → Fr lo h h' ∧ Good P ι h lo B w v h' ((execOp a.eval o).run P w)) := by
  obtain ⟨hd, hxd, hop, hg⟩ := cOper_spec hc
  let L := looks ops o
  let a2 : Act := { tmps := ⟨(List.range a.tmps.size).map fun t => if t ∈ L then a.tmps.getD t undef else undef⟩, defers := [] }
  let σ2 : Nat → Value := fun t => if t ∈ L then σ t else undef
  have ha2 : ∀ t, a2.tmps.getD t undef = if t ∈ L then a.tmps.getD t undef else undef := by
    intro t
    simp only [a2, Array.getD_eq_getD_getElem?, List.getElem?_toArray, List.getElem?_map]
    by_cases ht : t < a.tmps.size
    · simp [ht]
    · simp [ht]
  have hTR : TR N ι σ2 a2.tmps := by
    refine ⟨by simp [a2]; exact hsz, fun t ht => ?_⟩
    rw [ha2]
    by_cases hL : t ∈ L
    · simp only [σ2, hL, if_true]; exact hlook t ht hL
    · simp only [σ2, hL, if_false]; exact VR.undef
  have heval : ∀ y ∈ o.op.operands, a2.eval y = a.eval y := by
    intro y hy
    cases y with
    | tmp t =>
      have hL : t ∈ L := by
        simp only [L, looks, List.mem_append, List.mem_flatMap]
        exact .inl ⟨_, Array.mem_toList_iff.2 hy, by simp [opdT]⟩
      simp only [Act.eval]; rw [ha2, if_pos hL]
    | _ => rfl
  have hnosel : ∀ cs b, o.op ≠ .select cs b := by intro cs b e; rw [e] at hop; simp [cOp, cOpX, cOpY, isSel] at hop
  have hexec : execOp a2.eval o = execOp a.eval o := execOp_congr o hnosel heval
  constructor
  · have h1 := wants_eq (o := o) (a := a2) hTR hg
    have h2 : Region.wanted o (yielded ops a2.tmps) = Region.wanted o (yielded ops a.tmps) := by
      unfold Region.wanted
      cases hgd : o.guard with
      | none => rfl
      | some jb =>
        obtain ⟨k, b⟩ := jb
        simp only [yielded]
        cases hk : ((ops[k]?).bind (·.dst) : Option Tmp) with
        | none => rfl
        | some d =>
          have hL : d ∈ L := by simp only [L, looks, List.mem_append, hgd, hk]; exact .inr (by simp)
          have hdN : d < N := by
            rw [hgd] at hg
            simp only [cGuard, hk] at hg
            split at hg
            · assumption
            · cases hg
          have hs : d < a.tmps.size := Nat.lt_of_lt_of_le hdN hsz
          have e1 : a2.tmps[d]? = a.tmps[d]? := by
            simp only [a2, List.getElem?_toArray, List.getElem?_map]
            simp [hs, hL]
          simp only [Option.bind_some, e1]
    have h3 : wants σ2 x.g = wants σ x.g := by
      cases hgd : o.guard with
      | none => rw [hgd] at hg; simp only [cGuard] at hg; have hg := Option.some.inj hg; rw [← hg]; rfl
      | some jb =>
        obtain ⟨k, b⟩ := jb
        rw [hgd] at hg
        simp only [cGuard] at hg
        split at hg
        · rename_i d hk
          split at hg
          · have hg := Option.some.inj hg
            rw [← hg]
            have hL : d ∈ L := by simp only [L, looks, List.mem_append, hgd, hk]; exact .inr (by simp)
            simp only [wants, σ2, hL, if_true]
          · cases hg
        · cases hg
    rw [← h2, h1, h3]
  · intro ha
    have ha2' : aop Γ lo (ev σ2) h x.op = some (v, h') := by
      rw [← ha]
      refine aop_congr x.op fun y hy => ?_
      cases y with
      | v c => rfl
      | t t =>
        have hL : t ∈ L := hsee t (List.mem_flatMap.2 ⟨_, hy, by simp [opdA]⟩)
        simp only [ev, σ2, hL, if_true]
    have hgood := op_good (a := a2) hΓ hr hB hlo hTR hop ha2'
    rwa [hexec] at hgood
end
end Go.AH
namespace Go.AH
open Go.RowKit (Below)
section
variable (P : Program) (N : Nat) (Γ : Ctx) (ops : Array Oper) (os : List AO) (n : Nat) (free : Nat → Bool) (al : AOp → Bool)
structure FOK : Prop where
  ctx : OkΓ P Γ
  comp : cOpers P N true ops ops.toList = some os
  le : n ≤ ops.size
  back : ∀ (j : Nat) (o : Oper), ops[j]? = some o → ∀ k ∈ edgesOf o, k < j
  ord : ∀ t, ∀ i, i < t → ∀ x y, ops[i]? = some x → ops[t]? = some y → (touch ops x y = true ∨ touch ops y x = true) → waits ops ops.size t i = true
  last : ∀ t, n ≤ t → t < ops.size → ∀ i, i < t → free i = false → waits ops ops.size t i = true
  see : ∀ (j : Nat) (o : Oper) (x : AO), ops[j]? = some o → os[j]? = some x → ∀ t ∈ x.op.os.flatMap opdA, t ∈ looks ops o
  frees : ∀ k, k < ops.size → free k = true → ∀ (o : Oper) (x : AO), ops[k]? = some o → os[k]? = some x → x.g = none ∧ al x.op = true ∧ (n ≤ k → pureOp x.op = true) ∧ ∃ d, o.dst = some d ∧ d ∉ looks ops o ∧ ∀ i, i < ops.size → (i < n ∨ free i = true) → i ≠ k → ¬ wr ops i d
  frees2 : ∀ k, k < ops.size → free k = true → ∀ (o : Oper), ops[k]? = some o → ∀ i, k < i → i < ops.size → free i = true → ∀ t ∈ looks ops o, ¬ wr ops i t
structure FI (lo B : Nat) (l : Array Bool) (ι : Inj) (s : St) (a : Act) (w : World) : Prop where
  sz : N ≤ a.tmps.size
  tm : ∀ t, t < N → (∀ k, k < n → wr ops k t → l.getD k false = true) → VR ι (s.σ t) (a.tmps.getD t undef)
  heap : HR P ι s.h lo B w
  base : B ≤ w.heap.size
  low : lo ≤ s.h.length
  defers : a.defers = []
  left_ : ∀ k, k < n → l.getD k false = false → free k = true ∧ ∀ (x : AO) (d : Nat), os[k]? = some x → x.d = some d → aop Γ lo (ev s.σ) s.h x.op = some (s.σ d, s.h)
end
section
variable {P : Program} {N : Nat} {Γ : Ctx} {ops : Array Oper} {os : List AO} {n : Nat} {free : Nat → Bool} {lo B : Nat}
theorem read_heap {Γ : Ctx} {lo : Nat} {ρ : Opd → Value} {h h' : Heap} {v : Value} {p : AOp} (hp : readOp p = true) (ha : aop Γ lo ρ h p = some (v, h')) : h' = h := by
  cases p <;> simp only [readOp] at hp <;> (try cases hp) <;> simp only [aop] at ha
  all_goals (repeat' split at ha)
  all_goals first
    | (cases ha; rfl)
    | cases ha
    | (obtain ⟨_, _, h2⟩ := Option.map_eq_some_iff.1 ha; cases h2; rfl)
theorem read_mono {Γ : Ctx} {lo lo2 : Nat} {ρ : Opd → Value} {h h2 h' : Heap} {v : Value} {p : AOp} (hp : readOp p = true) (hm : ∀ b, b < h.length → h2[b]? = h[b]?) (ha : aop Γ lo ρ h p = some (v, h')) : aop Γ lo2 ρ h2 p = some (v, h2) := by
  have hb : ∀ b x, h[b]? = some x → h2[b]? = some x := fun b x hx => by rw [hm b (List.getElem?_eq_some_iff.1 hx).1]; exact hx
  cases p <;> simp only [readOp] at hp <;> (try cases hp)
  case ld x =>
    simp only [aop] at ha ⊢
    split at ha
    · rename_i b o hg
      split at ha
      · rename_i e cs hx
        obtain ⟨w, hw, h2⟩ := Option.map_eq_some_iff.1 ha
        cases h2
        simp only [hb b _ hx, hw, Option.map_some]
      · cases ha
    · cases ha
  case ldn n x =>
    simp only [aop] at ha ⊢
    split at ha
    · rename_i b o hg
      split at ha
      · rename_i e cs hx
        split at ha
        · rename_i hle
          cases ha
          simp only [hb b _ hx, if_pos hle]
        · cases ha
      · cases ha
    · cases ha
/-- The free ones ahead are passed over. -/
theorem norm2 {al : AOp → Bool} (D : FOK P N Γ ops os n free al) {fr : List AO} (hfrs : ∀ k, k < ops.size → free k = true → ∀ x, os[k]? = some x → pureOp x.op = true ∨ (readOp x.op = true ∧ x ∈ fr)) {K : St → Prop} {l : Array Bool} (hl : l.size = ops.size) {ι : Inj} {a : Act} {w : World} {m : Nat} : ∀ (d t : Nat) (s : St),
    d = ops.size - t → n ≤ t → t ≤ ops.size → (∀ i, t ≤ i → l.getD i false = false) → FI P N Γ ops os t free lo B l ι s a w → ropsF Γ lo fr (os.drop t) K s → m + 1 = unl l t + (ops.size - t) →
    ∃ t' s', n ≤ t' ∧ t' ≤ ops.size ∧ (∀ i, t' ≤ i → l.getD i false = false) ∧ FI P N Γ ops os t' free lo B l ι s' a w ∧ ropsF Γ lo fr (os.drop t') K s' ∧ (t' < ops.size → free t' = false) ∧ m + 1 = unl l t' + (ops.size - t') ∧ s'.h = s.h
  | 0, t, s, hd, hn, ht, h2, I, hr, hm => ⟨t, s, hn, ht, h2, I, hr, fun h => by omega, hm, rfl⟩
  | d + 1, t, s, hd, hn, ht, h2, I, hr, hm => by
    cases hf : free t with
    | false => exact ⟨t, s, hn, ht, h2, I, hr, fun _ => hf, hm, rfl⟩
    | true =>
      have hts : t < ops.size := by omega
      have hget : ops[t]? = some ops[t] := by simp [hts]
      obtain ⟨x, hx, hcx⟩ := (cOpers_get D.comp).2 t ops[t] (by simp)
      obtain ⟨hdd, hxd, hop, hg⟩ := cOper_spec hcx
      obtain ⟨f1, f2, f6, e, f3, f4, f5⟩ := D.frees t hts hf _ x hget hx
      have f6 := f6 hn
      have hdrop : os.drop t = x :: os.drop (t + 1) := by
        have hlen : t < os.length := (List.getElem?_eq_some_iff.1 hx).1
        rw [List.drop_eq_getElem_cons hlen]; congr 1
        exact (List.getElem?_eq_some_iff.1 hx).2
      rw [hdrop] at hr
      simp only [ropsF] at hr
      split at hr
      · rename_i s' hst
        unfold stepO at hst
        rw [f1, if_pos (show wants s.σ none = true from rfl)] at hst
        obtain ⟨⟨v, h'⟩, ha, hst⟩ := Option.map_eq_some_iff.1 hst
        have hh : h' = s.h := by
          rw [aop_pure f6 Γ Γ lo lo _ s.h s.h] at ha
          obtain ⟨r, _, hr2⟩ := Option.map_eq_some_iff.1 ha
          cases hr2; rfl
        subst hh
        have hxe : x.d = some e := hxd.trans f3
        subst hst
        have hun : l.getD t false = false := h2 t (Nat.le_refl _)
        have hput : ∀ τ, τ ≠ e → putO s.σ x.d v τ = s.σ τ := fun τ hne => by rw [hxe]; simp [putO, put, hne]
        have I' : FI P N Γ ops os (t + 1) free lo B l ι ⟨putO s.σ x.d v, s.h⟩ a w := by
          refine ⟨I.sz, ?_, I.heap, I.base, I.low, I.defers, ?_⟩
          · intro τ hτ hall
            have hne : τ ≠ e := fun h => by
              have := hall t (by omega) ⟨_, hget, by rw [h]; exact f3⟩
              rw [hun] at this; cases this
            simp only [hput τ hne]
            exact I.tm τ hτ fun k hk hw => hall k (by omega) hw
          · intro k hk hlk
            by_cases hkt : k = t
            · subst hkt
              refine ⟨hf, fun y c hy hc => ?_⟩
              rw [hx] at hy; cases hy
              rw [hxe] at hc; cases hc
              have e1 : aop Γ lo (ev (putO s.σ x.d v)) s.h x.op = aop Γ lo (ev s.σ) s.h x.op := by
                refine aop_congr x.op fun y hy => ?_
                cases y with
                | v c => rfl
                | t τ =>
                  have hL : τ ∈ looks ops ops[k] := D.see k _ x hget hx τ (List.mem_flatMap.2 ⟨_, hy, by simp [opdA]⟩)
                  exact hput τ fun h => f4 (h ▸ hL)
              rw [e1, ha, hxe]; simp [putO, put]
            · have hk' : k < t := by omega
              obtain ⟨hfk, hval⟩ := I.left_ k hk' hlk
              refine ⟨hfk, fun y c hy hc => ?_⟩
              have hks : k < ops.size := by omega
              have hgk : ops[k]? = some ops[k] := by simp [hks]
              obtain ⟨y', hy', hck⟩ := (cOpers_get D.comp).2 k ops[k] (by simp)
              rw [hy] at hy'; cases hy'
              have hyd := (cOper_spec hck).2.1
              have e1 : aop Γ lo (ev (putO s.σ x.d v)) s.h y.op = aop Γ lo (ev s.σ) s.h y.op := by
                refine aop_congr y.op fun z hz => ?_
                cases z with
                | v c => rfl
                | t τ =>
                  have hL : τ ∈ looks ops ops[k] := D.see k _ y hgk hy τ (List.mem_flatMap.2 ⟨_, hz, by simp [opdA]⟩)
                  exact hput τ fun h => D.frees2 k hks hfk _ hgk t hk' hts hf τ hL ⟨_, hget, by rw [h]; exact f3⟩
              have hce : c ≠ e := fun h => f5 k hks (.inr hfk) (by omega) ⟨_, hgk, by rw [← hyd, hc, h]⟩
              rw [e1, hval y c hy hc]
              show some (s.σ c, s.h) = some (putO s.σ x.d v c, s.h)
              rw [hput c hce]
        obtain ⟨t', s2, g1, g2, g3, g4, g5, g6, g7, g8⟩ := norm2 (m := m) D hfrs hl d (t + 1) ⟨putO s.σ x.d v, s.h⟩ (by omega) (by omega) (by omega) (fun i hi => h2 i (by omega)) I' hr.2 (by have hu := unl_succ l t; rw [hun] at hu; simp only [Bool.false_eq_true, if_false] at hu; omega)
        exact ⟨t', s2, g1, g2, g3, g4, g5, g6, g7, g8⟩
      · exact hr.elim
theorem tail2 {al : AOp → Bool} (D : FOK P N Γ ops os n free al) {fr : List AO} (hfrs : ∀ k, k < ops.size → free k = true → ∀ x, os[k]? = some x → pureOp x.op = true ∨ (readOp x.op = true ∧ x ∈ fr)) {Q : Exit → Act → World → Prop} {K : St → Prop} : ∀ (m t : Nat) (l : Array Bool) (ι : Inj) (s : St) (a : Act) (w : World),
    m = unl l t + (ops.size - t) → n ≤ t → t ≤ ops.size → l.size = ops.size → Closed ops l → (∀ i, t ≤ i → l.getD i false = false) →
    FI P N Γ ops os t free lo B l ι s a w → ropsF Γ lo fr (os.drop t) K s →
    (∀ s' a' w' ι', Ag s.h.length ι ι' → Fr lo s.h s'.h → SR P N ι' lo B s' a' w' → Below B w w' → K s' → Q .normal a' w') → wpAny P .any ops Q m l a w
  | 0, t, l, ι, s, a, w, hm, hn, ht, hl, hc, h2, I, hr, hq => by
    have e : t = ops.size := by omega
    have hu : unl l t = 0 := by omega
    have hall := unl_zero l t hu
    have hos : os.length = ops.size := by have := (cOpers_get D.comp).1; simpa using this
    rw [List.drop_eq_nil_of_le (by omega)] at hr
    refine ⟨?_, hq s a w ι (Ag.refl _ _) (Fr.refl _ _) ⟨⟨I.sz, fun t ht => I.tm t ht fun k hk _ => hall k hk⟩, I.heap, I.base, I.low, I.defers⟩ (Below.refl _ _) hr⟩
    apply List.eq_nil_iff_forall_not_mem.2
    intro i hi
    obtain ⟨o, ho, hx, _⟩ := (mem_ready hl i).1 hi
    have hlt := (Array.getElem?_eq_some_iff.1 ho).1
    rw [hall i (by omega)] at hx; cases hx
  | m + 1, t, l, ι, s, a, w, hm, hn, ht, hl, hc, h2, I, hr, hq => by
    obtain ⟨t, s1, hn, ht, h2, I, hr, hnf, hm, hsh⟩ := norm2 D hfrs hl (ops.size - t) t s rfl hn ht h2 I hr hm
    have hq : ∀ s' a' w' ι', Ag s1.h.length ι ι' → Fr lo s1.h s'.h → SR P N ι' lo B s' a' w' → Below B w w' → K s' → Q .normal a' w' := fun s' a' w' ι' g1 g2 => hq s' a' w' ι' (by rw [← hsh]; exact g1) (by rw [← hsh]; exact g2)
    clear hsh
    generalize s1 = s at *
    refine ⟨fun hre => ?_, fun i hi => ?_⟩
    · exfalso
      by_cases hu : unl l t = 0
      · have hall := unl_zero l t hu
        have hlt : t < ops.size := by omega
        have hget : ops[t]? = some ops[t] := by simp [hlt]
        have : t ∈ Region.ready .any ops l := (mem_ready hl t).2 ⟨_, hget, h2 t (Nat.le_refl _), fun k hk => by
          exact hall k (D.back t _ hget k hk)⟩
        rw [hre] at this; cases this
      · obtain ⟨k, e1, e2, e3⟩ := least_unl l t (by omega)
        have hlt : k < ops.size := by omega
        have hget : ops[k]? = some ops[k] := by simp [hlt]
        have : k ∈ Region.ready .any ops l := (mem_ready hl k).2 ⟨_, hget, e2, fun j hj => e3 j (D.back k _ hget j hj)⟩
        rw [hre] at this; cases this
    · obtain ⟨o, ho, hx0, hedges⟩ := (mem_ready hl i).1 hi
      have hil := (Array.getElem?_eq_some_iff.1 ho).1
      have hls : i < l.size := by omega
      obtain ⟨x, hx, hcx⟩ := (cOpers_get D.comp).2 i o (by simpa using ho)
      obtain ⟨hd, hxd, hop, hg⟩ := cOper_spec hcx
      have hwait : ∀ j, waits ops ops.size i j = true → l.getD j false = true := fun j h => waits_listed hc _ i j h (fun o' ho' => by rw [ho] at ho'; cases ho'; exact hedges)
      have hsee := D.see i o x ho hx
      by_cases hin : i < t
      · -- a free one
        obtain ⟨hfr, hval⟩ := I.left_ i hin hx0
        obtain ⟨f1, f2, _, d, f3, f4, f5⟩ := D.frees i hil hfr o x ho hx
        have ha := hval x d hx (hxd.trans f3)
        have hlook : ∀ t, t < N → t ∈ looks ops o → VR ι (s.σ t) (a.tmps.getD t undef) := by
          intro t ht hlk
          refine I.tm t ht fun k hk hw => ?_
          cases hlk' : l.getD k false
          · have hfk := (I.left_ k hk hlk').1
            rcases Nat.lt_trichotomy k i with hki | hki | hki
            · obtain ⟨y, hy, hyd⟩ := hw
              have := hwait k (D.ord i k hki y o hy ho (.inl (by simp [touch, hyd, hlk])))
              rw [hlk'] at this; cases this
            · subst hki
              obtain ⟨y, hy, hyd⟩ := hw
              rw [ho] at hy; cases hy
              rw [f3] at hyd; cases hyd
              exact absurd hlk f4
            · exact absurd hw (D.frees2 i hil hfr o ho k hki (by omega) hfk _ hlk)
          · rfl
        have hmk := masked (v := s.σ d) (h' := s.h) D.ctx I.heap I.base I.low I.sz hlook hcx hsee
        unfold wpOp
        rw [ho]
        simp only []
        rw [hmk.1, f1]
        rw [if_pos (show wants s.σ none = true from rfl)]
        left
        refine (hmk.2 ha).2.upon ?_
        intro v' w' ι' k1 k2 k3 k4
        have hext : Ext ι ι' := I.heap.ext k1
        refine tail2 D hfrs m t _ ι' s _ w' ?_ hn ht (by simpa using hl) (closed_set hl hc hi) ?_ ⟨?_, ?_, k3, ?_, I.low, ?_, ?_⟩ hr ?_
        · have := unl_set l i hls hx0 t hin; omega
        · intro j hj; rw [getD_set l i j hls, if_neg (by omega)]; exact h2 j hj
        · rw [f3]; simpa [Act.put] using I.sz
        · intro t' ht' hall
          rw [f3]
          by_cases e : t' = d
          · subst e
            have hts : t' < a.tmps.size := Nat.lt_of_lt_of_le ht' I.sz
            have e2 : (a.put (some t') v').tmps.getD t' undef = v' := by simp [Act.put, hts]
            rw [e2]; exact k2
          · have hne : d ≠ t' := fun x => e x.symm
            have e2 : (a.put (some d) v').tmps.getD t' undef = a.tmps.getD t' undef := by simp [Act.put, hne]
            rw [e2]
            refine (I.tm t' ht' fun k hk hw => ?_).mono hext
            have := hall k hk hw
            rw [getD_set l i k hls] at this
            split at this
            · rename_i hki; subst hki
              obtain ⟨y, hy, hyd⟩ := hw
              rw [ho] at hy; cases hy
              rw [f3] at hyd; cases hyd; exact absurd rfl e
            · exact this
        · have := I.base; have := k4.size; omega
        · rw [f3]; simpa [Act.put] using I.defers
        · intro k hk hlk
          rw [getD_set l i k hls] at hlk
          split at hlk
          · cases hlk
          · exact I.left_ k hk hlk
        · intro s' a' w'' ι'' q1 q2 q3 q4 q5
          exact hq s' a' w'' ι'' (k1.trans (Nat.le_refl _) q1) q2 q3 (k4.trans q4) q5
      · -- the next of the chain
        have hit : i = t := by
          rcases Nat.lt_trichotomy i t with h | h | h
          · exact absurd h hin
          · exact h
          · exfalso
            have := hwait t (D.last i (by omega) hil t h (hnf (by omega)))
            rw [h2 t (Nat.le_refl _)] at this; cases this
        subst hit
        have hlist : ∀ k, k < i → ∀ y, ops[k]? = some y → (touch ops y o = true ∨ touch ops o y = true) → l.getD k false = true := fun k hk y hy ht' => hwait k (D.ord i k (by omega) y o hy ho ht')
        have hlook : ∀ t', t' < N → t' ∈ looks ops o → VR ι (s.σ t') (a.tmps.getD t' undef) := by
          intro t' ht' hlk
          refine I.tm t' ht' fun k hk ⟨y, hy, hyd⟩ => hlist k hk y hy (.inl (by simp [touch, hyd, hlk]))
        have hdrop : os.drop i = x :: os.drop (i + 1) := by
          have hlen : i < os.length := (List.getElem?_eq_some_iff.1 hx).1
          rw [List.drop_eq_getElem_cons hlen]; congr 1
          exact (List.getElem?_eq_some_iff.1 hx).2
        rw [hdrop] at hr
        have hul : unl (l.setIfInBounds i true) (i + 1) = unl l i := by rw [unl_succ, unl_same l i hls i (Nat.le_refl _), getD_set l i i hls, if_pos rfl]; simp
        have hkeep : ∀ (v : Value) (h' : Heap), (∀ y ∈ fr, (aop Γ lo (ev s.σ) h' y.op).map (·.1) = (aop Γ lo (ev s.σ) s.h y.op).map (·.1)) → ∀ (k : Nat), k < i + 1 → (l.setIfInBounds i true).getD k false = false → free k = true ∧ ∀ (xk : AO) (d : Nat), os[k]? = some xk → xk.d = some d → aop Γ lo (ev (putO s.σ x.d v)) h' xk.op = some (putO s.σ x.d v d, h') := by
          intro v h' hchk k hk hlk
          rw [getD_set l i k hls] at hlk
          have hki : ¬ k = i := fun e => by rw [if_pos e] at hlk; cases hlk
          rw [if_neg hki] at hlk
          have hk : k < i := by omega
          obtain ⟨hfr, hval⟩ := I.left_ k hk hlk
          refine ⟨hfr, fun xk d hxk hdk => ?_⟩
          have hks : k < ops.size := by omega
          have hget : ops[k]? = some ops[k] := by simp [hks]
          obtain ⟨xk', hxk', hck⟩ := (cOpers_get D.comp).2 k ops[k] (by simp)
          rw [hxk] at hxk'; cases hxk'
          have hdd := (cOper_spec hck).2.1
          obtain ⟨f1, f2, _, d0, f3, f4, f5⟩ := D.frees k hks hfr _ xk hget hxk
          have hno : ∀ t', o.dst = some t' → t' ∉ looks ops ops[k] ∧ ops[k].dst ≠ some t' := by
            intro t' ht'
            constructor
            · intro hm
              have := hlist k hk _ hget (.inr (by simp [touch, ht', hm]))
              rw [hlk] at this; cases this
            · intro hm
              have := hlist k hk _ hget (.inr (by simp [touch, ht', hm]))
              rw [hlk] at this; cases this
          have hput : ∀ t', (∀ t'', o.dst = some t'' → t' ≠ t'') → putO s.σ x.d v t' = s.σ t' := by
            intro t' hne
            rw [hxd]
            cases hod : o.dst with
            | none => rfl
            | some t'' => have := hne t'' hod; simp [putO, put, this]
          have e1 : ∀ hh, aop Γ lo (ev (putO s.σ x.d v)) hh xk.op = aop Γ lo (ev s.σ) hh xk.op := by
            intro hh
            refine aop_congr xk.op fun y hy => ?_
            cases y with
            | v c => rfl
            | t t' =>
              have hL : t' ∈ looks ops ops[k] := D.see k _ xk hget hxk t' (List.mem_flatMap.2 ⟨_, hy, by simp [opdA]⟩)
              simp only [ev]
              exact hput t' fun t'' h e => (hno t'' h).1 (e ▸ hL)
          rcases hfrs k hks hfr xk hxk with f2 | ⟨f2, hmem⟩
          · rw [aop_pure f2 Γ Γ lo lo _ h' s.h, e1, hval xk d hxk hdk, hput d fun t'' h e => (hno t'' h).2 (by rw [← hdd, hdk, e])]
            rfl
          · have e2 := hchk xk hmem
            rw [hval xk d hxk hdk] at e2
            obtain ⟨⟨r1, r2⟩, hr1, hr2⟩ := Option.map_eq_some_iff.1 e2
            have := read_heap f2 hr1
            subst this
            rw [e1, hr1, hput d fun t'' h e => (hno t'' h).2 (by rw [← hdd, hdk, e])]
            simp only at hr2; rw [hr2]
        have hnext : ∀ (v v' : Value) (h' : Heap) (w' : World) (ι' : Inj), Ag s.h.length ι ι' → Fr lo s.h h' → VR ι' v v' → HR P ι' h' lo B w' → Below B w w' → (∀ y ∈ fr, (aop Γ lo (ev s.σ) h' y.op).map (·.1) = (aop Γ lo (ev s.σ) s.h y.op).map (·.1)) → ropsF Γ lo fr (os.drop (i + 1)) K ⟨putO s.σ x.d v, h'⟩ → wpAny P .any ops Q m (l.setIfInBounds i true) (a.put o.dst v') w' := by
          intro v v' h' w' ι' k1 kf k2 k3 k4 hchk hr'
          have hext : Ext ι ι' := I.heap.ext k1
          refine tail2 D hfrs m (i + 1) _ ι' ⟨putO s.σ x.d v, h'⟩ _ w' (by omega) (by omega) (by omega) (by simpa using hl) (closed_set hl hc hi) ?_ ⟨?_, ?_, k3, ?_, Nat.le_trans I.low kf.1, ?_, hkeep v h' hchk⟩ hr' ?_
          · intro j hj; rw [getD_set l i j hls, if_neg (by omega)]; exact h2 j (by omega)
          · cases o.dst <;> simpa [Act.put] using I.sz
          · intro t' ht' hall
            have hold : VR ι' (s.σ t') (a.tmps.getD t' undef) ∨ o.dst = some t' := by
              by_cases e : o.dst = some t'
              · exact .inr e
              · refine .inl ((I.tm t' ht' fun k hk hw => ?_).mono hext)
                have := hall k (by omega) hw
                rwa [getD_set l i k hls, if_neg (by omega)] at this
            simp only []
            rw [hxd]
            cases hod : o.dst with
            | none =>
              rcases hold with h | h
              · exact h
              · rw [hod] at h; cases h
            | some d =>
              by_cases e : t' = d
              · subst e
                have hts : t' < a.tmps.size := Nat.lt_of_lt_of_le ht' I.sz
                have e1 : putO s.σ (some t') v t' = v := by simp [putO, put]
                have e2 : (a.put (some t') v').tmps.getD t' undef = v' := by simp [Act.put, hts]
                rw [e1, e2]; exact k2
              · have hne : d ≠ t' := fun x => e x.symm
                have e1 : putO s.σ (some d) v t' = s.σ t' := by simp [putO, put, e]
                have e2 : (a.put (some d) v').tmps.getD t' undef = a.tmps.getD t' undef := by simp [Act.put, hne]
                rw [e1, e2]
                rcases hold with h | h
                · exact h
                · rw [hod] at h; cases h; exact absurd rfl e
          · have := I.base; have := k4.size; omega
          · cases o.dst <;> simpa [Act.put] using I.defers
          · intro s' a' w'' ι'' q1 q2 q3 q4 q5
            exact hq s' a' w'' ι'' (k1.trans kf.1 q1) (kf.trans q2) q3 (k4.trans q4) q5
        simp only [ropsF] at hr
        split at hr
        · rename_i s' hst
          obtain ⟨hchk, hr⟩ := hr
          unfold stepO at hst
          unfold wpOp
          rw [ho]
          simp only []
          rw [(masked (v := undef) (h' := s.h) D.ctx I.heap I.base I.low I.sz hlook hcx hsee).1]
          by_cases hw : wants s.σ x.g = true
          · rw [if_pos hw] at hst
            rw [if_pos hw]
            obtain ⟨⟨v, h'⟩, ha, hst⟩ := Option.map_eq_some_iff.1 hst
            simp only [] at hst
            subst hst
            have hfr := (masked D.ctx I.heap I.base I.low I.sz hlook hcx hsee).2 ha
            left
            refine hfr.2.upon ?_
            intro v' w' ι' k1 k2 k3 k4
            exact hnext v v' h' w' ι' k1 hfr.1 k2 k3 k4 hchk hr
          · rw [if_neg hw] at hst
            rw [if_neg hw]
            have hst := Option.some.inj hst
            subst hst
            exact hnext undef undef s.h w ι (Ag.refl _ _) (Fr.refl _ _) VR.undef I.heap (Below.refl _ _) hchk hr
        · exact hr.elim
end
end Go.AH
namespace Go.AH
open Go.RowKit (Below)
theorem renum_of {ops : Array Oper} {ord : List Nat} (h : renumOk ops (reOps ops ord) ord = true) (hall : ∀ i ∈ ord, i < ops.size) : Renum ops (reOps ops ord) (fun j => ord.idxOf j) (fun k => ord.getD k 0) := by
  simp only [renumOk, Bool.and_eq_true, beq_iff_eq, decide_eq_true_eq, List.all_eq_true, List.mem_range] at h
  obtain ⟨⟨⟨h1, h2⟩, h3⟩, h4⟩ := h
  refine ⟨h1, fun i hi => (h3 i hi).1.1.1, fun k hk => (h3 k hk).1.1.2, fun i hi => (h3 i hi).1.2, fun k hk => (h3 k hk).2, ?_, ?_, ?_⟩
  · intro i o ho
    have hi := (Array.getElem?_eq_some_iff.1 ho).1
    have hq := (h3 i hi).1.1.1
    have hp := (h3 i hi).1.2
    have hfm : ∀ (l : List Nat), (∀ j ∈ l, j < ops.size) → (l.filterMap fun i => (ops[i]?).map (reOper fun j => ord.idxOf j)) = l.map fun i => (reOper (fun j => ord.idxOf j) (ops[i]?.getD o)) := by
      intro l hl
      induction l with
      | nil => rfl
      | cons a r ih =>
        have ha : a < ops.size := hl a (by simp)
        simp only [List.filterMap_cons, Array.getElem?_eq_getElem ha, Option.map_some, List.map_cons, Option.getD_some]
        rw [ih fun j hj => hl j (by simp [hj])]
    simp only [reOps, List.getElem?_toArray]
    rw [hfm ord hall, List.getElem?_map]
    have hlt : ord.idxOf i < ord.length := by omega
    have e : ord[ord.idxOf i]? = some i := by
      rw [List.getD_eq_getElem?_getD, List.getElem?_eq_getElem hlt] at hp
      rw [List.getElem?_eq_getElem hlt]; simp
    rw [e]
    simp [ho]
  · intro i o ho k hk
    have hi := (Array.getElem?_eq_some_iff.1 ho).1
    have := h4 i hi
    rw [ho] at this
    simp only [Bool.and_eq_true, List.all_eq_true, decide_eq_true_eq] at this
    exact this.1 k hk
  · intro i o ho g hg
    have hi := (Array.getElem?_eq_some_iff.1 ho).1
    have := h4 i hi
    rw [ho] at this
    simp only [Bool.and_eq_true, List.all_eq_true, decide_eq_true_eq, hg] at this
    exact this.2
end Go.AH
namespace Go.AH
open Go.RowKit (Below)
theorem fok_of {P : Program} {N : Nat} {Γ : Ctx} (hΓ : OkΓ P Γ) {ops : Array Oper} {os : List AO} {n : Nat} {free : Nat → Bool} {al : AOp → Bool} (hos : cOpers P N true ops ops.toList = some os) (h : fokOk al ops os n free = true) :
    FOK P N Γ ops os n free al ∧ ∀ j, j < ops.size → ∀ i, i < j → ∀ x y, ops[i]? = some x → ops[j]? = some y → (touch ops x y = true ∨ touch ops y x = true) → waits ops ops.size j i = true := by
  simp only [fokOk, Bool.and_eq_true, decide_eq_true_eq, List.all_eq_true, List.mem_range] at h
  obtain ⟨⟨⟨⟨⟨h1, h2⟩, h3⟩, h4⟩, h5⟩, h6⟩ := h
  have hord : ∀ j, j < ops.size → ∀ i, i < j → ∀ x y, ops[i]? = some x → ops[j]? = some y → (touch ops x y = true ∨ touch ops y x = true) → waits ops ops.size j i = true := by
    intro j hj i hi x y hx hy ht
    have := h3 j hj i hi
    rw [hx, hy] at this
    simp only [] at this
    rw [if_pos (by simpa using ht)] at this
    exact this
  refine ⟨⟨hΓ, hos, h1, ?_, ?_, ?_, ?_, ?_, ?_⟩, hord⟩
  · intro j o ho k hk
    have := h2 j (Array.getElem?_eq_some_iff.1 ho).1
    rw [ho] at this
    simpa using (List.all_eq_true.1 this) k hk
  · intro t i hi x y hx hy htt
    exact hord t (Array.getElem?_eq_some_iff.1 hy).1 i hi x y hx hy htt
  · intro t ht hts i hi hf
    have := h4 t hts
    simp only [Bool.or_eq_true, decide_eq_true_eq, List.all_eq_true, List.mem_range, Bool.and_eq_true] at this
    rcases this with h | h
    · omega
    · rcases h i hi with h8 | h7
      · rw [hf] at h8; cases h8
      · exact h7
  · intro j o x ho hx t ht
    have hmem : (o, x) ∈ ops.toList.zip os := by
      refine List.mem_of_getElem? (i := j) ?_
      rw [List.getElem?_zip_eq_some]
      exact ⟨by simpa using ho, hx⟩
    have := h5 (o, x) hmem t ht
    simpa using this
  · intro k hk hfk o x ho hx
    have := h6 k hk
    rw [hfk, ho, hx] at this
    simp only [Bool.not_true, Bool.false_or, Bool.and_eq_true] at this
    obtain ⟨⟨⟨⟨g1, g2⟩, g5⟩, g3⟩, g4⟩ := this
    refine ⟨by simpa using g1, g2, fun hn => ?_, ?_⟩
    · simp only [Bool.or_eq_true, decide_eq_true_eq] at g5
      rcases g5 with g5 | g5
      · omega
      · exact g5
    cases hd : o.dst with
    | none => rw [hd] at g3; cases g3
    | some d =>
      rw [hd] at g3
      simp only [Bool.and_eq_true, List.all_eq_true, List.mem_range] at g3
      refine ⟨d, rfl, by simpa using g3.1, ?_⟩
      rintro i hi hor hne ⟨y, hy, hyd⟩
      have := g3.2 i hi
      rw [hy] at this
      rcases hor with hor | hor <;> simp [hne, hyd, hor] at this
  · intro k hk hfk o ho i hki hi hfi t ht ⟨y, hy, hyd⟩
    have hks : k < ops.size := hk
    obtain ⟨x, hx, _⟩ := (cOpers_get hos).2 k o (by simpa using ho)
    have := h6 k hk
    rw [hfk, ho, hx] at this
    simp only [Bool.not_true, Bool.false_or, Bool.and_eq_true, List.all_eq_true, List.mem_range] at this
    have := this.2 i hi
    rw [hfi, hy] at this
    have hki2 : ¬ i ≤ k := by omega
    simp [hyd, ht, hki2] at this
end Go.AH
namespace Go.AH
open Go.RowKit (Below)

section
variable {P : Program} {N : Nat} {Γ : Ctx} {ops : Array Oper} {os : List AO} {n : Nat} {f : Nat → St} {ι0 : Inj} {lo B : Nat} {w0 : World}

structure DOK2 (P : Program) (N : Nat) (Γ : Ctx) (ops : Array Oper) (os : List AO) (n : Nat) (f : Nat → St) : Prop where
  ctx : OkΓ P Γ
  comp : cOpers P N true ops ops.toList = some os
  le : n ≤ ops.size
  back : ∀ (j : Nat) (o : Oper), ops[j]? = some o → ∀ k ∈ edgesOf o, k < j
  ord : ∀ j, j < n → ∀ i, i < j → ∀ x y, ops[i]? = some x → ops[j]? = some y → (touch ops x y = true ∨ touch ops y x = true) → waits ops ops.size j i = true
  see : ∀ (j : Nat) (o : Oper) (x : AO), ops[j]? = some o → os[j]? = some x → ∀ t ∈ x.op.os.flatMap opdA, t ∈ looks ops o
  step : ∀ i, i < n → ∀ x, os[i]? = some x → stepO Γ (f i).h.length x (f i) = some (f (i + 1))

variable (D : DOK2 P N Γ ops os n f)
include D

theorem DOK2.get {j : Nat} {o : Oper} (hj : ops[j]? = some o) : ∃ x, os[j]? = some x ∧ cOper P N true ops o = some x :=
  (cOpers_get D.comp).2 j o (by simpa using hj)
theorem DOK2.fr1 {i : Nat} (hi : i < n) : Fr (f i).h.length (f i).h (f (i + 1)).h := by
  have hlt : i < ops.size := Nat.lt_of_lt_of_le hi D.le
  obtain ⟨x, hx, _⟩ := D.get (j := i) (o := ops[i]) (by simp [hlt])
  have hs := D.step i hi x hx
  unfold stepO at hs
  split at hs
  · obtain ⟨⟨v, h'⟩, ha, hs⟩ := Option.map_eq_some_iff.1 hs
    have := aop_fr D.ctx x.op ha (Nat.le_refl _)
    rw [← hs]; exact this
  · have hs := Option.some.inj hs
    rw [← hs]; exact Fr.refl _ _
theorem DOK2.mono : ∀ (j i : Nat), i ≤ j → j ≤ n → (f i).h.length ≤ (f j).h.length ∧ ∀ b, b < (f i).h.length → (f j).h[b]? = (f i).h[b]?
  | 0, i, h, _ => by have : i = 0 := by omega
                     subst this; exact ⟨Nat.le_refl _, fun _ _ => rfl⟩
  | j + 1, i, h, hj => by
    by_cases e : i = j + 1
    · subst e; exact ⟨Nat.le_refl _, fun _ _ => rfl⟩
    · obtain ⟨h1, h2⟩ := DOK2.mono j i (by omega) (by omega)
      obtain ⟨h3, h4⟩ := D.fr1 (i := j) (by omega)
      exact ⟨by omega, fun b hb => (h4 b (by omega)).trans (h2 b hb)⟩
theorem DOK2.same {t : Nat} : ∀ (j i : Nat), i ≤ j → j ≤ n → (∀ k, i ≤ k → k < j → ¬ wr ops k t) → (f j).σ t = (f i).σ t
  | 0, i, h, _, _ => by have : i = 0 := by omega
                        subst this; rfl
  | j + 1, i, h, hj, hw => by
    by_cases e : i = j + 1
    · subst e; rfl
    · have ih := DOK2.same j i (by omega) (by omega) (fun k h1 h2 => hw k h1 (by omega))
      have hlt : j < ops.size := by have := D.le; omega
      have hget : ops[j]? = some ops[j] := by simp [hlt]
      obtain ⟨x, hx, hc⟩ := D.get hget
      have hd := (cOper_spec hc).2.1
      have hs := D.step j (by omega) x hx
      have hput : ∀ v, putO (f j).σ x.d v t = (f j).σ t := by
        intro v
        have hne : x.d ≠ some t := fun hxt => hw j (by omega) (by omega) ⟨ops[j], hget, by rw [← hd]; exact hxt⟩
        cases hxd : x.d with
        | none => rfl
        | some d =>
          rw [hxd] at hne
          have : t ≠ d := fun e => hne (by rw [e])
          simp [putO, put, this]
      unfold stepO at hs
      split at hs
      · obtain ⟨⟨v, h'⟩, ha, hs⟩ := Option.map_eq_some_iff.1 hs
        rw [← hs, ← ih]; exact hput v
      · have hs := Option.some.inj hs
        rw [← hs, ← ih]; exact hput undef

/-- One operation of the head, whenever its turn comes. -/
theorem draw_step2 {l : Array Bool} {a : Act} {w : World} {ι : Inj} (I : DI P N ops n f ι0 lo B w0 l a w ι) {j : Nat} (hj : j ∈ Region.ready .any ops l) (hjn : j < n) {Q : Exit → Act → World → Prop} :
    wpOp P ops Q j (fun a' w' => ∃ ι', DI P N ops n f ι0 lo B w0 (l.setIfInBounds j true) a' w' ι') a w := by
  obtain ⟨o, ho, hjl, hedges⟩ := (mem_ready I.size j).1 hj
  have hjs : j < ops.size := (Array.getElem?_eq_some_iff.1 ho).1
  have hjsz : j < l.size := by rw [I.size]; exact hjs
  obtain ⟨x, hx, hc⟩ := D.get ho
  obtain ⟨hd, hxd, hop, hg⟩ := cOper_spec hc
  have hst := D.step j hjn x hx
  have hwait : ∀ i, waits ops ops.size j i = true → l.getD i false = true := fun i h => waits_listed I.closed _ j i h (fun o' ho' => by rw [ho] at ho'; cases ho'; exact hedges)
  -- every slot that is looked at holds what it holds in the text's order
  have hcutL : ∀ t, t ∈ looks ops o → cutAt ops n l t j := by
    intro t ht
    refine ⟨Nat.le_of_lt hjn, fun i hi ⟨y, hy, hyd⟩ => ?_, fun i hi hin ⟨y, hy, hyd⟩ => ?_⟩
    · exact hwait i (D.ord j hjn i hi y o hy ho (.inl (by simp [touch, hyd, ht])))
    · by_cases e : i = j
      · subst e; exact hjl
      · cases hli : l.getD i false
        · rfl
        · exfalso
          have hw := D.ord i hin j (by omega) o y ho hy (.inr (by simp [touch, hyd, ht]))
          have := waits_listed I.closed _ i j hw (fun o' ho' => I.closed i o' ho' hli)
          rw [hjl] at this; cases this
  have hcutD : ∀ t, o.dst = some t → ∀ j', cutAt ops n (l.setIfInBounds j true) t j' → j + 1 ≤ j' ∧ (f j').σ t = (f (j + 1)).σ t := by
    intro t hdt j' ⟨h1, h2, h3⟩
    have hlt : j + 1 ≤ j' := by
      rcases Nat.lt_or_ge j j' with x | x
      · exact x
      · have := h3 j x hjn ⟨o, ho, hdt⟩
        rw [getD_set l j j hjsz] at this; simp at this
    refine ⟨hlt, D.same j' (j + 1) hlt h1 fun k hk1 hk2 ⟨y, hy, hyd⟩ => ?_⟩
    have hlk := h2 k hk2 ⟨y, hy, hyd⟩
    rw [getD_set l j k hjsz, if_neg (by omega)] at hlk
    have hw := D.ord k (by omega) j (by omega) o y ho hy (.inl (by simp [touch, hdt, hyd]))
    have := waits_listed I.closed _ k j hw (fun o' ho' => I.closed k o' ho' hlk)
    rw [hjl] at this; cases this
  have hcutO : ∀ t, o.dst ≠ some t → ∀ j', cutAt ops n (l.setIfInBounds j true) t j' → cutAt ops n l t j' := by
    intro t hdt j' ⟨h1, h2, h3⟩
    have hne : ∀ i, wr ops i t → i ≠ j := fun i ⟨y, hy, hyd⟩ e => by subst e; rw [ho] at hy; cases hy; exact hdt hyd
    refine ⟨h1, fun i hi hw => ?_, fun i hi hin hw => ?_⟩
    · have := h2 i hi hw; rwa [getD_set l j i hjsz, if_neg (hne i hw)] at this
    · have := h3 i hi hin hw; rwa [getD_set l j i hjsz, if_neg (hne i hw)] at this
  have hclosed := closed_set I.size I.closed hj
  have htail : ∀ t, n ≤ t → (l.setIfInBounds j true).getD t false = false := fun t ht => by rw [getD_set l j t hjsz, if_neg (by omega)]; exact I.tail t ht
  have hdom2 : ∀ {ι' : Inj}, (∀ b g, ι' b = some g → (∃ g', ι b = some g') ∨ ((f j).h.length ≤ b ∧ b < (f (j + 1)).h.length)) →
      ∀ b g, ι' b = some g → b < (f 0).h.length ∨ ∃ i, i < n ∧ (l.setIfInBounds j true).getD i false = true ∧ (f i).h.length ≤ b ∧ b < (f (i + 1)).h.length := by
    intro ι' h b g hb
    rcases h b g hb with ⟨g', hg'⟩ | ⟨h1, h2⟩
    · rcases I.dom2 b g' hg' with h1 | ⟨i, h1, h2, h3, h4⟩
      · exact .inl h1
      · exact .inr ⟨i, h1, by rw [getD_set l j i hjsz]; split <;> simp_all, h3, h4⟩
    · exact .inr ⟨j, hjn, by rw [getD_set l j j hjsz]; simp, h1, h2⟩
  unfold wpOp
  rw [ho]
  simp only []
  -- the frame in which only what is looked at is left
  let L := looks ops o
  let a2 : Act := { tmps := ⟨(List.range a.tmps.size).map fun t => if t ∈ L then a.tmps.getD t undef else undef⟩, defers := [] }
  let σ2 : Nat → Value := fun t => if t ∈ L then (f j).σ t else undef
  have ha2 : ∀ t, a2.tmps.getD t undef = if t ∈ L then a.tmps.getD t undef else undef := by
    intro t
    simp only [a2, Array.getD_eq_getD_getElem?, List.getElem?_toArray, List.getElem?_map]
    by_cases ht : t < a.tmps.size
    · simp [ht]
    · simp [ht]
  have hTR : TR N (res ι (f j).h.length) σ2 a2.tmps := by
    refine ⟨by simp [a2]; exact I.sz, fun t ht => ?_⟩
    rw [ha2]
    by_cases hL : t ∈ L
    · simp only [σ2, hL, if_true]; exact I.tm t ht j (hcutL t hL)
    · simp only [σ2, hL, if_false]; exact VR.undef
  have heval : ∀ y ∈ o.op.operands, a2.eval y = a.eval y := by
    intro y hy
    cases y with
    | tmp t =>
      have hL : t ∈ L := by
        simp only [L, looks, List.mem_append, List.mem_flatMap]
        exact .inl ⟨_, Array.mem_toList_iff.2 hy, by simp [opdT]⟩
      simp only [Act.eval]; rw [ha2, if_pos hL]
    | _ => rfl
  have hres : ∀ b g, (res ι (f j).h.length) b = some g → ι b = some g ∧ b < (f j).h.length := by
    intro b g hb; simp only [res] at hb; split at hb
    · exact ⟨hb, ‹_›⟩
    · cases hb
  -- the heap as far as the text's order has come
  have hHR : HR P (res ι (f j).h.length) (f j).h (f j).h.length w.heap.size w := by
    refine ⟨?_, ?_, ?_, ?_, ?_⟩
    · intro b g hb; obtain ⟨h1, h2⟩ := hres b g hb; exact ⟨h2, (I.dom b g h1).2⟩
    · intro b e cs g hb hg
      obtain ⟨h1, h2⟩ := hres b g hg
      exact I.cell j (Nat.le_of_lt hjn) b e cs g hb h1
    · intro b e cs g hlb hb hg; have := (hres b g hg).2; omega
    · intro b b' e cs e' cs' g g' _ hlb _ _ hg _; have := (hres b g hg).2; omega
    · intro b e cs g hb hg hm; exact I.sets j (Nat.le_of_lt hjn) b e cs g hb (hres b g hg).1 hm
  have hnosel : ∀ cs b, o.op ≠ .select cs b := by intro cs b e; rw [e] at hop; simp [cOp, cOpX, cOpY, isSel] at hop
  have hexec : execOp a2.eval o = execOp a.eval o := execOp_congr o hnosel heval
  have hwants : Region.wanted o (yielded ops a.tmps) = wants (f j).σ x.g := by
    have h1 := wants_eq (o := o) (a := a2) hTR hg
    have h2 : Region.wanted o (yielded ops a2.tmps) = Region.wanted o (yielded ops a.tmps) := by
      unfold Region.wanted
      cases hgd : o.guard with
      | none => rfl
      | some jb =>
        obtain ⟨k, b⟩ := jb
        simp only [yielded]
        cases hk : ((ops[k]?).bind (·.dst) : Option Tmp) with
        | none => rfl
        | some d =>
          have hL : d ∈ L := by simp only [L, looks, List.mem_append, hgd, hk]; exact .inr (by simp)
          have hdN : d < N := by
            rw [hgd] at hg
            simp only [cGuard, hk] at hg
            split at hg
            · assumption
            · cases hg
          have hsz : d < a.tmps.size := Nat.lt_of_lt_of_le hdN I.sz
          have e1 : a2.tmps[d]? = a.tmps[d]? := by
            simp only [a2, List.getElem?_toArray, List.getElem?_map]
            simp [hsz, hL]
          simp only [Option.bind_some, e1]
    have h3 : wants σ2 x.g = wants (f j).σ x.g := by
      cases hgd : o.guard with
      | none => rw [hgd] at hg; simp only [cGuard] at hg; have hg := Option.some.inj hg; rw [← hg]; rfl
      | some jb =>
        obtain ⟨k, b⟩ := jb
        rw [hgd] at hg
        simp only [cGuard] at hg
        split at hg
        · rename_i d hk
          split at hg
          · have hg := Option.some.inj hg
            rw [← hg]
            have hL : d ∈ L := by simp only [L, looks, List.mem_append, hgd, hk]; exact .inr (by simp)
            simp only [wants, σ2, hL, if_true]
          · cases hg
        · cases hg
    rw [← h2, h1, h3]
  rw [hwants]
  have hsee := D.see j o x ho hx
  unfold stepO at hst
  by_cases hw : wants (f j).σ x.g = true
  · rw [if_pos hw] at hst
    rw [if_pos hw]
    obtain ⟨⟨v, h'⟩, ha, hst⟩ := Option.map_eq_some_iff.1 hst
    have ha2' : aop Γ (f j).h.length (ev σ2) (f j).h x.op = some (v, h') := by
      rw [← ha]
      refine aop_congr x.op fun y hy => ?_
      cases y with
      | v c => rfl
      | t t =>
        have hL : t ∈ L := hsee t (List.mem_flatMap.2 ⟨_, hy, by simp [opdA]⟩)
        simp only [ev, σ2, hL, if_true]
    have hj1h : (f (j + 1)).h = h' := by rw [← hst]
    have hj1σ : (f (j + 1)).σ = putO (f j).σ o.dst v := by rw [← hst, hxd]
    left
    have hgood := (op_good (a := a2) D.ctx hHR (Nat.le_refl _) (Nat.le_refl _) hTR hop ha2').2
    rw [hexec] at hgood
    refine hgood.upon ?_
    intro v' w' ι2 hag hvr hhr hbel
    have hm1 := D.mono (j + 1) j (by omega) (by omega)
    have hmn := D.mono n (j + 1) (by omega) (Nat.le_refl _)
    rw [← hj1h] at hhr
    -- the places, old and new
    let ι3 : Inj := fun b => if b < (f j).h.length then ι b else if b < (f (j + 1)).h.length then ι2 b else ι b
    have hfresh : ∀ b, (f j).h.length ≤ b → b < (f (j + 1)).h.length → ι b = none := by
      intro b h1 h2
      cases hb : ι b with
      | none => rfl
      | some g =>
        exfalso
        rcases I.dom2 b g hb with h3 | ⟨i, h3, h4, h5, h6⟩
        · have := (D.mono j 0 (by omega) (Nat.le_of_lt hjn)).1; omega
        · have hij : i ≠ j := fun e => by subst e; rw [hjl] at h4; cases h4
          rcases Nat.lt_or_gt_of_ne hij with h7 | h7
          · have := (D.mono j (i + 1) (by omega) (Nat.le_of_lt hjn)).1; omega
          · have := (D.mono i (j + 1) (by omega) (Nat.le_of_lt h3)).1; omega
    have hold : ∀ b g, ι b = some g → ι3 b = some g := by
      intro b g hb
      simp only [ι3]
      by_cases h1 : b < (f j).h.length
      · rw [if_pos h1]; exact hb
      · rw [if_neg h1]
        by_cases h2 : b < (f (j + 1)).h.length
        · rw [hfresh b (by omega) h2] at hb; cases hb
        · rw [if_neg h2]; exact hb
    have h23 : ∀ b g, ι2 b = some g → ι3 b = some g ∧ b < (f (j + 1)).h.length := by
      intro b g hb
      have hlt := (hhr.dom b g hb).1
      refine ⟨?_, hlt⟩
      simp only [ι3]
      by_cases h1 : b < (f j).h.length
      · rw [if_pos h1]
        have := hag b h1
        rw [hb] at this
        exact (hres b g this.symm).1
      · rw [if_neg h1, if_pos hlt]; exact hb
    have h3cases : ∀ b g, ι3 b = some g → ι b = some g ∨ ((f j).h.length ≤ b ∧ b < (f (j + 1)).h.length ∧ ι2 b = some g) := by
      intro b g hb
      simp only [ι3] at hb
      split at hb
      · exact .inl hb
      · split at hb
        · exact .inr ⟨by omega, ‹_›, hb⟩
        · exact .inl hb
    have hcellw : ∀ b g i, ι b = some g → w'.cell? ⟨g.c, g.o + i, none⟩ = w.cell? ⟨g.c, g.o + i, none⟩ := fun b g i hb => cell?_same (hbel.block _ (I.dom b g hb).2)
    refine ⟨ι3, ?_⟩
    constructor
    · simpa using I.size
    · exact hclosed
    · exact htail
    · cases o.dst <;> simpa [Act.put] using I.sz
    · intro t ht j' hcut
      by_cases hdt : o.dst = some t
      · obtain ⟨h1, h2⟩ := hcutD t hdt j' hcut
        have hts : t < a.tmps.size := Nat.lt_of_lt_of_le ht I.sz
        rw [h2, hj1σ, hdt]
        have e1 : putO (f j).σ (some t) v t = v := by simp [putO, put]
        have e2 : (a.put (some t) v').tmps.getD t undef = v' := by simp [Act.put, hts]
        rw [e1, e2]
        have hle := (D.mono j' (j + 1) h1 hcut.1).1
        refine hvr.mono fun b g hb => ?_
        obtain ⟨h3, h4⟩ := h23 b g hb
        simp only [res]; rw [if_pos (by omega)]; exact h3
      · have h1 := I.tm t ht j' (hcutO t hdt j' hcut)
        have e2 : (a.put o.dst v').tmps.getD t undef = a.tmps.getD t undef := by
          cases hdd : o.dst with
          | none => rfl
          | some d =>
            rw [hdd] at hdt
            have : d ≠ t := fun e => hdt (by rw [e])
            simp [Act.put, this]
        rw [e2]
        exact h1.mono (res_mono (Nat.le_refl _) fun b g _ hb => hold b g hb)
    · intro b g hb
      rcases h3cases b g hb with h1 | ⟨h1, h2, h3⟩
      · have := I.dom b g h1; exact ⟨this.1, by have := hbel.size; omega⟩
      · exact ⟨by omega, (hhr.dom b g h3).2⟩
    · intro j' hj' b e cs g hb hg
      rcases h3cases b g hg with h1 | ⟨h1, h2, h3⟩
      · obtain ⟨hz, hcell⟩ := I.cell j' hj' b e cs g hb h1
        refine ⟨hz, fun i u hu => ?_⟩
        obtain ⟨k1, u', k2, k3⟩ := hcell i u hu
        exact ⟨k1, u', by rw [hcellw b g i h1]; exact k2, k3.mono (res_mono (Nat.le_refl _) fun b g _ hb => hold b g hb)⟩
      · have hlt : b < (f j').h.length := by
          rcases Nat.lt_or_ge b (f j').h.length with x | x
          · exact x
          · rw [List.getElem?_eq_none x] at hb; cases hb
        have hjj : j + 1 ≤ j' := by
          rcases Nat.lt_or_ge j j' with x | x
          · exact x
          · have := (D.mono j j' x (Nat.le_of_lt hjn)).1; omega
        have hb1 : (f (j + 1)).h[b]? = some (.cells e cs) := by rw [← (D.mono j' (j + 1) hjj hj').2 b h2]; exact hb
        obtain ⟨hz, hcell⟩ := hhr.cell b e cs g hb1 h3
        refine ⟨hz, fun i u hu => ?_⟩
        obtain ⟨k1, u', k2, k3⟩ := hcell i u hu
        have hle := (D.mono j' (j + 1) hjj hj').1
        refine ⟨k1, u', k2, k3.mono fun b g hb => ?_⟩
        obtain ⟨h5, h6⟩ := h23 b g hb
        simp only [res]; rw [if_pos (by omega)]; exact h5
    · intro b e cs g hlb hb hg
      rcases h3cases b g hg with h1 | ⟨h1, h2, h3⟩
      · obtain ⟨k1, k2, k3, k6⟩ := I.own b e cs g hlb hb h1
        refine ⟨k1, k2, k3, fun hm => ?_⟩
        obtain ⟨cur, k4, k5⟩ := k6 hm
        exact ⟨cur, by rw [hbel.block _ (I.dom b g h1).2]; exact k4, k5⟩
      · have hb1 : (f (j + 1)).h[b]? = some (.cells e cs) := by rw [← hmn.2 b h2]; exact hb
        obtain ⟨k1, k2, k3, k4⟩ := hhr.own b e cs g h1 hb1 h3
        exact ⟨by have := I.base; omega, k2, k3, k4⟩
    · intro b b' e cs e' cs' g g' hne hlb hb hb' hg hg'
      rcases h3cases b g hg with h1 | ⟨h1, h2, h3⟩
      · rcases h3cases b' g' hg' with h1' | ⟨h1', h2', h3'⟩
        · exact I.apart b b' e cs e' cs' g g' hne hlb hb hb' h1 h1'
        · have hb1 : (f (j + 1)).h[b']? = some (.cells e' cs') := by rw [← hmn.2 b' h2']; exact hb'
          have k1 := (hhr.own b' e' cs' g' h1' hb1 h3').1
          have k2 := (I.dom b g h1).2
          omega
      · have hb1 : (f (j + 1)).h[b]? = some (.cells e cs) := by rw [← hmn.2 b h2]; exact hb
        rcases h3cases b' g' hg' with h1' | ⟨h1', h2', h3'⟩
        · have k1 := (hhr.own b e cs g h1 hb1 h3).1
          have k2 := (I.dom b' g' h1').2
          omega
        · have hb1' : (f (j + 1)).h[b']? = some (.cells e' cs') := by rw [← hmn.2 b' h2']; exact hb'
          exact hhr.apart b b' e cs e' cs' g g' hne h1 hb1 hb1' h3 h3'
    · intro j' hj' b e cs g hb hg hm
      rcases h3cases b g hg with h1 | ⟨h1, h2, h3⟩
      · obtain ⟨k1, K, k2, k3⟩ := I.sets j' hj' b e cs g hb h1 hm
        exact ⟨k1, K, k2, k3.same (hbel.block _ (I.dom b g h1).2)⟩
      · have hlt : b < (f j').h.length := by
          rcases Nat.lt_or_ge b (f j').h.length with x | x
          · exact x
          · rw [List.getElem?_eq_none x] at hb; cases hb
        have hjj : j + 1 ≤ j' := by
          rcases Nat.lt_or_ge j j' with x | x
          · exact x
          · have := (D.mono j j' x (Nat.le_of_lt hjn)).1; omega
        have hb1 : (f (j + 1)).h[b]? = some (.cells e cs) := by rw [← (D.mono j' (j + 1) hjj hj').2 b h2]; exact hb
        exact hhr.sets b e cs g hb1 h3 hm
    · exact hdom2 (fun b g hb => by
        rcases h3cases b g hb with h1 | ⟨h1, h2, h3⟩
        · exact .inl ⟨g, h1⟩
        · exact .inr ⟨h1, h2⟩)
    · intro b hb
      have h0 := (D.mono j 0 (by omega) (Nat.le_of_lt hjn)).1
      simp only [ι3]; rw [if_pos (by omega)]; exact I.ag b hb
    · exact I.bel.trans (hbel.mono I.base)
    · have := I.base; have := hbel.size; omega
    · cases o.dst <;> simpa [Act.put] using I.defers
  · rw [if_neg hw] at hst
    rw [if_neg hw]
    have hst := Option.some.inj hst
    have hj1h : (f (j + 1)).h = (f j).h := by rw [← hst]
    have hj1σ : (f (j + 1)).σ = putO (f j).σ o.dst undef := by rw [← hst, hxd]
    refine ⟨ι, ?_⟩
    constructor
    · simpa using I.size
    · exact hclosed
    · exact htail
    · cases o.dst <;> simpa [Act.put] using I.sz
    · intro t ht j' hcut
      by_cases hdt : o.dst = some t
      · obtain ⟨h1, h2⟩ := hcutD t hdt j' hcut
        have hts : t < a.tmps.size := Nat.lt_of_lt_of_le ht I.sz
        rw [h2, hj1σ, hdt]
        have e1 : putO (f j).σ (some t) undef t = undef := by simp [putO, put]
        have e2 : (a.put (some t) undef).tmps.getD t undef = undef := by simp [Act.put, hts]
        rw [e1, e2]
        exact VR.undef
      · have h1 := I.tm t ht j' (hcutO t hdt j' hcut)
        have e2 : (a.put o.dst undef).tmps.getD t undef = a.tmps.getD t undef := by
          cases hdd : o.dst with
          | none => rfl
          | some d =>
            rw [hdd] at hdt
            have : d ≠ t := fun e => hdt (by rw [e])
            simp [Act.put, this]
        rw [e2]; exact h1
    · exact I.dom
    · exact I.cell
    · exact I.own
    · exact I.apart
    · exact I.sets
    · exact hdom2 (fun b g hb => .inl ⟨g, hb⟩)
    · exact I.ag
    · exact I.bel
    · exact I.base
    · cases o.dst <;> simpa [Act.put] using I.defers
end
end Go.AH
namespace Go.AH
open Go.RowKit (Below)
section
variable {P : Program} {N : Nat} {Γ : Ctx} {lo B : Nat}
theorem draw_any (hΓ : OkΓ P Γ) {ops : Array Oper} {os : List AO} {n : Nat} {free : Nat → Bool} {al : AOp → Bool} {fr : List AO} (hos : cOpers P N true ops ops.toList = some os) (hok : fokOk al ops os n free = true) (hfr : ∀ k, k < n → free k = true → ∀ x, os[k]? = some x → al x.op = true → pureOp x.op = true ∨ (readOp x.op = true ∧ x ∈ fr))
    {ι : Inj} {s : St} {a : Act} {w : World} (hs : SR P N ι lo B s a w) {Q : Exit → Act → World → Prop} {K : St → Prop} (h : qops Γ (os.take n) (ropsF Γ lo fr (os.drop n) K) s)
    (hq : ∀ s' a' w' ι', Ag s.h.length ι ι' → Fr lo s.h s'.h → SR P N ι' lo B s' a' w' → Below B w w' → K s' → Q .normal a' w') : wpAny P .any ops Q ops.size (Array.replicate ops.size false) a w.drew := by
  obtain ⟨f, hf0, hf1, hf2⟩ := qops_trace _ _ h
  obtain ⟨F, hord⟩ := fok_of hΓ hos hok
  have hosl : os.length = ops.size := by have := (cOpers_get hos).1; simpa using this
  have hfrs : ∀ k, k < ops.size → free k = true → ∀ x, os[k]? = some x → pureOp x.op = true ∨ (readOp x.op = true ∧ x ∈ fr) := by
    intro k hks hf x hx
    have g := F.frees k hks hf ops[k] x (by simp [hks]) hx
    by_cases hk : k < n
    · exact hfr k hk hf x hx g.2.1
    · exact .inl (g.2.2.1 (by omega))
  have hnle : n ≤ ops.size := F.le
  have hlen : (os.take n).length = n := by simp; omega
  rw [hlen] at hf2
  have D : DOK2 P N Γ ops os n f := ⟨hΓ, hos, hnle, F.back, fun j hj i hi x y => hord j (by omega) i hi x y, F.see, fun i hi x hx => hf1 i x (by rw [List.getElem?_take_of_lt hi]; exact hx)⟩
  have mono0 := fun j (hj : j ≤ n) => D.mono j 0 (Nat.zero_le _) hj
  have start : DI P N ops n f ι lo B w (Array.replicate ops.size false) a w.drew ι := by
    have hfalse : ∀ i, (Array.replicate ops.size false).getD i false = false := by intro i; simp [Array.getElem?_replicate]; split <;> rfl
    have hres : ∀ j, j ≤ n → Ext ι (res ι (f j).h.length) := by
      intro j hj b g hb
      have h1 := (hs.heap.dom b g hb).1
      have h2 := (mono0 j hj).1
      rw [hf0] at h2
      simp only [res]; rw [if_pos (by omega)]; exact hb
    have hlook : ∀ j, j ≤ n → ∀ b g x, ι b = some g → (f j).h[b]? = some x → s.h[b]? = some x := by
      intro j hj b g x hb hx
      have h1 := (hs.heap.dom b g hb).1
      rw [← hf0, ← (mono0 j hj).2 b (by rw [hf0]; exact h1)]; exact hx
    constructor
    · simp
    · intro j o ho hj; rw [hfalse] at hj; cases hj
    · intro t ht; exact hfalse t
    · exact hs.tmps.1
    · intro t ht j ⟨c1, c2, c3⟩
      have e : (f j).σ t = s.σ t := by
        rw [← hf0]
        refine D.same j 0 (Nat.zero_le _) c1 fun k _ hk hw => ?_
        have := c2 k hk hw; rw [hfalse] at this; cases this
      rw [e]
      exact (hs.tmps.2 t ht).mono (hres j c1)
    · intro b g hb
      have h1 := hs.heap.dom b g hb
      have h2 := (mono0 n (Nat.le_refl _)).1
      rw [hf0] at h2
      exact ⟨by omega, h1.2⟩
    · intro j hj b e cs g hb hg
      obtain ⟨hz, hc⟩ := hs.heap.cell b e cs g (hlook j hj b g _ hg hb) hg
      refine ⟨hz, fun i v hv => ?_⟩
      obtain ⟨k1, v', k2, k3⟩ := hc i v hv
      exact ⟨k1, v', k2, k3.mono (hres j hj)⟩
    · intro b e cs g hlb hb hg
      exact hs.heap.own b e cs g hlb (hlook n (Nat.le_refl _) b g _ hg hb) hg
    · intro b b' e cs e' cs' g g' hne hlb hb hb' hg hg'
      exact hs.heap.apart b b' e cs e' cs' g g' hne hlb (hlook n (Nat.le_refl _) b g _ hg hb) (hlook n (Nat.le_refl _) b' g' _ hg' hb') hg hg'
    · intro j hj b e cs g hb hg hm
      exact hs.heap.sets b e cs g (hlook j hj b g _ hg hb) hg hm
    · intro b g hb; left; rw [hf0]; exact (hs.heap.dom b g hb).1
    · rw [hf0]; exact Ag.refl _ _
    · exact (Below.refl _ _).drew
    · exact hs.base
    · exact hs.defers
  have toTail : ∀ (fuel : Nat) (l : Array Bool) (a1 : Act) (w1 : World) (ι1 : Inj), DI P N ops n f ι lo B w l a1 w1 ι1 → fuel = unl l n + (ops.size - n) → (∀ k, k < n → free k = false → l.getD k false = true) → wpAny P .any ops Q fuel l a1 w1 := by
    intro fuel l a1 w1 ι1 I hfu hnf
    have hlow : lo ≤ (f n).h.length := by have := (mono0 n (Nat.le_refl _)).1; rw [hf0] at this; have := hs.low; omega
    have hHR : HR P ι1 (f n).h lo B w1 := by
      refine ⟨I.dom, ?_, I.own, I.apart, I.sets n (Nat.le_refl _)⟩
      intro b e cs g hb hg
      obtain ⟨hz, hc⟩ := I.cell n (Nat.le_refl _) b e cs g hb hg
      refine ⟨hz, fun i v hv => ?_⟩
      obtain ⟨k1, v', k2, k3⟩ := hc i v hv
      exact ⟨k1, v', k2, k3.mono (res_ext _ _)⟩
    have stay : ∀ k, k < n → l.getD k false = false → free k = true ∧ ∀ (x : AO) (d : Nat), os[k]? = some x → x.d = some d → aop Γ lo (ev (f n).σ) (f n).h x.op = some ((f n).σ d, (f n).h) := by
      intro k hk hlk
      have hfk : free k = true := by
        cases hf : free k
        · have := hnf k hk hf; rw [hlk] at this; cases this
        · rfl
      refine ⟨hfk, fun x d hx hxd => ?_⟩
      have hks : k < ops.size := by omega
      have hget : ops[k]? = some ops[k] := by simp [hks]
      obtain ⟨x', hx', hck⟩ := D.get hget
      rw [hx] at hx'; cases hx'
      have hdd := (cOper_spec hck).2.1
      obtain ⟨f1, f2, _, d0, f3, f4, f5⟩ := F.frees k hks hfk _ x hget hx
      have hd0 : d0 = d := by rw [hdd, f3] at hxd; exact Option.some.inj hxd
      subst hd0
      have hst := D.step k hk x hx
      unfold stepO at hst
      rw [f1, if_pos (show wants (f k).σ none = true from rfl)] at hst
      obtain ⟨⟨v, h'⟩, ha, hst⟩ := Option.map_eq_some_iff.1 hst
      have hv : (f (k + 1)).σ d0 = v := by rw [← hst, hxd]; simp [putO, put]
      have hdn : (f n).σ d0 = v := by
        rw [← hv]
        exact D.same n (k + 1) (by omega) (Nat.le_refl _) fun i h1 h2 hw => f5 i (by omega) (.inl h2) (by omega) hw
      have hsame : ∀ t, t ∈ looks ops ops[k] → (f n).σ t = (f k).σ t := by
        intro t ht
        refine D.same n k (by omega) (Nat.le_refl _) fun i h1 h2 hw => ?_
        obtain ⟨y, hy, hyd⟩ := hw
        by_cases e : i = k
        · subst e; rw [hget] at hy; cases hy; rw [f3] at hyd; cases hyd; exact f4 ht
        · have hwt := hord i (by omega) k (by omega) _ y hget hy (.inr (by simp [touch, hyd, ht]))
          cases hli : l.getD i false
          · cases hfi : free i
            · have := hnf i h2 hfi; rw [hli] at this; cases this
            · exact F.frees2 k hks hfk _ hget i (by omega) (by omega) hfi t ht ⟨y, hy, hyd⟩
          · have := waits_listed I.closed _ i k hwt (fun o' ho' => I.closed i o' ho' hli)
            rw [hlk] at this; cases this
      have e1 : ∀ hh, aop Γ lo (ev (f n).σ) hh x.op = aop Γ lo (ev (f k).σ) hh x.op := by
        intro hh
        refine aop_congr x.op fun y hy => ?_
        cases y with
        | v c => rfl
        | t t' => exact hsame t' (F.see k _ x hget hx t' (List.mem_flatMap.2 ⟨_, hy, by simp [opdA]⟩))
      rcases hfrs k hks hfk x hx with f2 | ⟨f2, _⟩
      · rw [aop_pure f2 Γ Γ lo lo _ (f n).h (f k).h, e1, aop_pure f2 Γ Γ lo (f k).h.length _ (f k).h (f k).h, ha, hdn]
        rfl
      · rw [e1, hdn]
        exact read_mono f2 (fun b hb => (D.mono n k (by omega) (Nat.le_refl _)).2 b hb) ha
    refine tail2 F hfrs fuel n l ι1 (f n) a1 w1 hfu (Nat.le_refl _) hnle I.size I.closed I.tail ⟨I.sz, ?_, hHR, I.base, hlow, I.defers, stay⟩ hf2 ?_
    · intro t ht hall
      exact (I.tm t ht n ⟨Nat.le_refl _, fun i hi hw => hall i hi hw, fun i h1 h2 _ => by omega⟩).mono (res_ext _ _)
    · intro s' a' w' ι' k1 k2 k3 k4 k5
      have h0 := mono0 n (Nat.le_refl _)
      rw [hf0] at h0
      have hfr : Fr lo s.h (f n).h := ⟨h0.1, fun b hb => h0.2 b (by have := hs.low; omega)⟩
      have hag : Ag s.h.length ι ι1 := by have := I.ag; rwa [hf0] at this
      exact hq s' a' w' ι' (hag.trans hfr.1 k1) (hfr.trans k2) k3 (I.bel.trans k4) k5
  have head : ∀ (fuel : Nat) (l : Array Bool) (a1 : Act) (w1 : World) (ι1 : Inj), DI P N ops n f ι lo B w l a1 w1 ι1 → fuel = unl l n + (ops.size - n) → wpAny P .any ops Q fuel l a1 w1 := by
    intro fuel
    induction fuel with
    | zero =>
      intro l a1 w1 ι1 I hfu
      exact toTail _ l a1 w1 ι1 I hfu fun k hk _ => unl_zero l n (by omega) k hk
    | succ fuel ih =>
      intro l a1 w1 ι1 I hfu
      by_cases hnf : ∀ k, k < n → free k = false → l.getD k false = true
      · exact toTail _ l a1 w1 ι1 I hfu hnf
      · obtain ⟨k0, hk0⟩ := Classical.not_forall.1 hnf
        obtain ⟨hk1, hk0⟩ := Classical.not_imp.1 hk0
        obtain ⟨hk2, hk3⟩ := Classical.not_imp.1 hk0
        have hk3 : l.getD k0 false = false := by simpa using hk3
        refine ⟨fun hr => ?_, fun i hi => ?_⟩
        · exfalso
          have hu : 0 < unl l n := by
            rcases Nat.eq_zero_or_pos (unl l n) with h | h
            · have := unl_zero l n h k0 hk1; rw [hk3] at this; cases this
            · exact h
          obtain ⟨i, h1, h2, h3⟩ := least_unl l n hu
          have hlt : i < ops.size := by omega
          have hget : ops[i]? = some ops[i] := by simp [hlt]
          have : i ∈ Region.ready .any ops l := (mem_ready I.size i).2 ⟨ops[i], hget, h2, fun k hk => h3 k (D.back i _ hget k hk)⟩
          rw [hr] at this; cases this
        · obtain ⟨o, ho, hx, he⟩ := (mem_ready I.size i).1 hi
          have hil := (Array.getElem?_eq_some_iff.1 ho).1
          have hin : i < n := by
            rcases Nat.lt_or_ge i n with h | h
            · exact h
            · exfalso
              have := waits_listed I.closed _ i k0 (F.last i h hil k0 (by omega) hk2) (fun o' ho' => by rw [ho] at ho'; cases ho'; exact he)
              rw [hk3] at this; cases this
          refine wpOp_mono (fun a2 w2 ⟨ι2, I2⟩ => ih _ a2 w2 ι2 I2 ?_) (draw_step2 D I hi hin)
          have := unl_set l i (by rw [I.size]; exact hil) hx n hin
          omega
  refine head _ _ _ _ _ start ?_
  have hu : ∀ m, unl (Array.replicate ops.size false) m = m := by
    intro m
    induction m with
    | zero => rfl
    | succ m ih =>
      rw [unl_succ, ih]
      have : (Array.replicate ops.size false).getD m false = false := by simp [Array.getElem?_replicate]; split <;> rfl
      rw [this]; rfl
  rw [hu]; omega
end
end Go.AH
namespace Go.AH
open Go.RowKit (Below)

section
variable {P : Program} {N : Nat} {Γ : Ctx} {lo B : Nat}

theorem HR.drew {ι : Inj} {h : Heap} {w : World} (hr : HR P ι h lo B w) : HR P ι h lo B w.drew := ⟨hr.dom, hr.cell, hr.own, hr.apart, hr.sets⟩

theorem draw_sound (hΓ : OkΓ P Γ) {id : Nat} {ops : Array Oper} {os : List AO} {n : Nat} {free : Nat → Bool} {al : AOp → Bool} {fr : List AO} (hm : P.follows .mixedOrders = true) (hos : cOpers P N true ops ops.toList = some os) (hok : fokOk al ops os n free = true) (hfr : ∀ k, k < n → free k = true → ∀ x, os[k]? = some x → al x.op = true → pureOp x.op = true ∨ (readOp x.op = true ∧ x ∈ fr))
    {ι : Inj} {s : St} {a : Act} {w : World} (hs : SR P N ι lo B s a w) {Q : Exit → Act → World → Prop} {K : St → Prop} (h : qops Γ (os.take n) (ropsF Γ lo fr (os.drop n) K) s)
    (hq : ∀ s' a' w' ι', Ag s.h.length ι ι' → Fr lo s.h s'.h → SR P N ι' lo B s' a' w' → Below B w w' → K s' → Q .normal a' w') : (Code.region id ops true).wp P Q a w := by
  refine wp_region_any hm ?_
  have hdrew : ({ w with drawn := w.drawn + 1 } : World) = w.drew := rfl
  rw [hdrew]
  exact draw_any hΓ hos hok hfr hs h hq
theorem draw_sound2 (hΓ : OkΓ P Γ) {id : Nat} {ops : Array Oper} {ord : List Nat} {os : List AO} {n : Nat} {free : Nat → Bool} {al : AOp → Bool} {fr : List AO} (hm : P.follows .mixedOrders = true) (hall : ∀ i ∈ ord, i < ops.size) (hrn : renumOk ops (reOps ops ord) ord = true)
    (hos : cOpers P N true (reOps ops ord) (reOps ops ord).toList = some os) (hok : fokOk al (reOps ops ord) os n free = true) (hfr : ∀ k, k < n → free k = true → ∀ x, os[k]? = some x → al x.op = true → pureOp x.op = true ∨ (readOp x.op = true ∧ x ∈ fr))
    {ι : Inj} {s : St} {a : Act} {w : World} (hs : SR P N ι lo B s a w) {Q : Exit → Act → World → Prop} {K : St → Prop} (h : qops Γ (os.take n) (ropsF Γ lo fr (os.drop n) K) s)
    (hq : ∀ s' a' w' ι', Ag s.h.length ι ι' → Fr lo s.h s'.h → SR P N ι' lo B s' a' w' → Below B w w' → K s' → Q .normal a' w') : (Code.region id ops true).wp P Q a w := by
  refine wp_region_any hm ?_
  have hdrew : ({ w with drawn := w.drawn + 1 } : World) = w.drew := rfl
  rw [hdrew]
  have R := renum_of hrn hall
  have hfalse : ∀ (m i : Nat), (Array.replicate m false).getD i false = false := by intro m i; simp [Array.getElem?_replicate]; split <;> rfl
  have := draw_any hΓ hos hok hfr hs h hq
  rw [R.size] at this
  exact R.any _ _ _ _ _ (by simp) (by simp) (fun i _ => by rw [hfalse, hfalse]) this

theorem qops_mono2 {K K' : St → Prop} (h : ∀ s, K s → K' s) : ∀ (l : List AO) (s : St), qops Γ l K s → qops Γ l K' s
  | [], s, k => h s k
  | o :: r, s, k => by
    simp only [qops] at k ⊢
    split at k
    · rename_i s' hs; exact qops_mono2 h r s' k
    · exact k.elim
theorem mem_reads {os : List AO} {n : Nat} {free : Nat → Bool} {k : Nat} {x : AO} (hk : k < n) (hf : free k = true) (hx : os[k]? = some x) (hr : readOp x.op = true) : x ∈ readsOf os n free :=
  List.mem_filterMap.2 ⟨k, List.mem_range.2 hk, by rw [if_pos hf, hx]; simp [hr]⟩
/-- Code. -/
theorem awp_sound (hΓ : OkΓ P Γ) : ∀ (c : Code) (x : AC), cCode P N c = some x → ∀ (Q : Exit → St → Prop) (Q' : Exit → Act → World → Prop) (ι : Inj) (s : St) (a : Act) (w : World), SR P N ι lo B s a w → awp Γ lo x Q s →
    (∀ e s' a' w' ι', Ag s.h.length ι ι' → Fr lo s.h s'.h → SR P N ι' lo B s' a' w' → Below B w w' → Q e s' → Q' e a' w') → c.wp P Q' a w
  | .skip, x, hc, Q, Q', ι, s, a, w, hs, h, hq => by
    cases hc; exact wp_skip (hq _ _ _ _ _ (Ag.refl _ _) (Fr.refl _ _) hs (Below.refl _ _) h)
  | .exit id, x, hc, Q, Q', ι, s, a, w, hs, h, hq => by
    cases hc; exact wp_exit (hq _ _ _ _ _ (Ag.refl _ _) (Fr.refl _ _) hs (Below.refl _ _) h)
  | .ret, x, hc, Q, Q', ι, s, a, w, hs, h, hq => by
    cases hc; exact wp_ret (hq _ _ _ _ _ (Ag.refl _ _) (Fr.refl _ _) hs (Below.refl _ _) h)
  | .region id ops false, x, hc, Q, Q', ι, s, a, w, hs, h, hq => by
    simp only [cCode] at hc
    obtain ⟨os, ho, rfl⟩ := Option.map_eq_some_iff.1 hc
    exact wp_region_list (rops_sound hΓ ops.toList os ι s a w ho hs h fun s' a' w' ι' h1 h0 h2 h3 h4 => hq _ _ _ _ _ h1 h0 h2 h3 h4)
  | .region id ops true, x, hc, Q, Q', ι, s, a, w, hs, h, hq => by
    simp only [cCode] at hc
    obtain ⟨os, ho, hc⟩ := Option.bind_eq_some_iff.1 hc
    split at hc
    · rename_i hcond
      obtain ⟨hm, _, hre⟩ := hcond
      obtain ⟨os', ho', hc⟩ := Option.map_eq_some_iff.1 hc
      subst hc
      simp only [reOk, ho', Bool.and_eq_true, List.all_eq_true, decide_eq_true_eq] at hre
      exact draw_sound2 (fr := []) hΓ hm hre.1.1 hre.1.2 ho' hre.2 (fun _ _ _ _ _ h => .inl h) hs (qops_mono2 (fun s' h' => rops_F _ s' h') _ _ h) fun s' a' w' ι' h1 h0 h2 h3 h4 => hq _ _ _ _ _ h1 h0 h2 h3 h4
    split at hc
    · rename_i hcond
      have hc := Option.some.inj hc
      subst hc
      exact draw_sound (fr := []) hΓ hcond.1 ho hcond.2.2.2 (fun _ _ _ _ _ h => .inl h) hs (qops_mono2 (fun s' h' => rops_F _ s' h') _ _ h) fun s' a' w' ι' h1 h0 h2 h3 h4 => hq _ _ _ _ _ h1 h0 h2 h3 h4
    split at hc
    · rename_i hcond
      obtain ⟨hm, _, hre⟩ := hcond
      obtain ⟨os', ho', hc⟩ := Option.map_eq_some_iff.1 hc
      subst hc
      simp only [reOk, ho', Bool.and_eq_true, List.all_eq_true, decide_eq_true_eq] at hre
      refine draw_sound2 hΓ hm hre.1.1 hre.1.2 ho' hre.2 (fun k hk hf x hx ha => ?_) hs h fun s' a' w' ι' h1 h0 h2 h3 h4 => hq _ _ _ _ _ h1 h0 h2 h3 h4
      simp only [softOp, Bool.or_eq_true] at ha
      rcases ha with ha | ha
      · exact .inl ha
      · exact .inr ⟨ha, mem_reads hk hf hx ha⟩
    split at hc
    · rename_i hcond
      have hc := Option.some.inj hc
      subst hc
      exact draw_sound (fr := []) hΓ hcond.1 ho hcond.2 (fun _ _ _ _ _ h => .inl h) hs (qops_mono2 (fun s' h' => rops_F _ s' h') _ _ h) fun s' a' w' ι' h1 h0 h2 h3 h4 => hq _ _ _ _ _ h1 h0 h2 h3 h4
    · have hc := Option.some.inj hc
      subst hc
      exact h.elim
  | .seq c d, x, hc, Q, Q', ι, s, a, w, hs, h, hq => by
    simp only [cCode] at hc
    obtain ⟨y, hy, hc⟩ := Option.bind_eq_some_iff.1 hc
    obtain ⟨z, hz, rfl⟩ := Option.map_eq_some_iff.1 hc
    refine wp_seq (awp_sound hΓ c y hy _ _ ι s a w hs h ?_)
    intro e s' a' w' ι' h1 h0 h2 h3 h4
    cases e with
    | normal => exact awp_sound hΓ d z hz Q Q' ι' s' a' w' h2 h4 fun e s'' a'' w'' ι'' k1 k0 k2 k3 k4 => hq _ _ _ _ _ (h1.trans h0.1 k1) (h0.trans k0) k2 (h3.trans k3) k4
    | _ => exact hq _ _ _ _ _ h1 h0 h2 h3 h4
  | .cond o c d, x, hc, Q, Q', ι, s, a, w, hs, h, hq => by
    simp only [cCode] at hc
    obtain ⟨z, hz, hc⟩ := Option.bind_eq_some_iff.1 hc
    obtain ⟨y, hy, hc⟩ := Option.bind_eq_some_iff.1 hc
    obtain ⟨y', hy', rfl⟩ := Option.map_eq_some_iff.1 hc
    simp only [awp] at h
    have hv := cO_ev hs.tmps hz
    split at h
    · rename_i t ht
      rw [ht] at hv
      have he : a.eval o = .bool t := by generalize a.eval o = u at hv; cases hv; rfl
      cases t with
      | true => exact wp_cond_true he (awp_sound hΓ c y hy Q Q' ι s a w hs (by simpa using h) hq)
      | false => exact wp_cond_false he (awp_sound hΓ d y' hy' Q Q' ι s a w hs (by simpa using h) hq)
    · exact h.elim
  | .block id c, x, hc, Q, Q', ι, s, a, w, hs, h, hq => by
    simp only [cCode] at hc
    obtain ⟨y, hy, rfl⟩ := Option.map_eq_some_iff.1 hc
    refine wp_block (awp_sound hΓ c y hy _ _ ι s a w hs h ?_)
    intro e s' a' w' ι' h1 h0 h2 h3 h4
    cases e with
    | exit i =>
      simp only [Exit.inBlock]
      dsimp only at h4
      split at h4
      · rename_i hi; rw [if_pos hi]; exact hq _ _ _ _ _ h1 h0 h2 h3 h4
      · rename_i hi; rw [if_neg hi]; exact hq _ _ _ _ _ h1 h0 h2 h3 h4
    | _ => exact hq _ _ _ _ _ h1 h0 h2 h3 h4
  | .loop c, x, hc, Q, Q', ι, s, a, w, hs, h, hq => by
    simp only [cCode] at hc
    obtain ⟨y, hy, rfl⟩ := Option.map_eq_some_iff.1 hc
    simp only [awp] at h
    obtain ⟨R, ⟨n, hn⟩, hround⟩ := h
    refine wp_loop_nat (fun n a' w' => ∃ s' ι', Ag s.h.length ι ι' ∧ Fr lo s.h s'.h ∧ SR P N ι' lo B s' a' w' ∧ Below B w w' ∧ R n s') n ⟨s, ι, Ag.refl _ _, Fr.refl _ _, hs, Below.refl _ _, hn⟩ ?_
    intro n a1 w1 ⟨s1, ι1, e1, e0, hs1, hb1, hR1⟩
    refine awp_sound hΓ c y hy _ _ ι1 s1 a1 w1 hs1 (hround n s1 hR1) ?_
    intro e s' a' w' ι' h1 h0 h2 h3 h4
    cases e with
    | normal =>
      obtain ⟨m, hm, hRm⟩ := h4
      exact ⟨m, hm, s', ι', e1.trans e0.1 h1, e0.trans h0, h2, hb1.trans h3, hRm⟩
    | _ => exact hq _ _ _ _ _ (e1.trans e0.1 h1) (e0.trans h0) h2 (hb1.trans h3) h4
  | .rangeFunc .., x, hc, _, _, _, _, _, _, _, h, _ => by simp only [cCode] at hc; cases hc; exact h.elim
  | .scope .., x, hc, _, _, _, _, _, _, _, h, _ => by simp only [cCode] at hc; cases hc; exact h.elim
  | .label .., x, hc, _, _, _, _, _, _, _, h, _ => by simp only [cCode] at hc; cases hc; exact h.elim
  | .goto .., x, hc, _, _, _, _, _, _, _, h, _ => by simp only [cCode] at hc; cases hc; exact h.elim
  | .refuse .., x, hc, _, _, _, _, _, _, _, h, _ => by simp only [cCode] at hc; cases hc; exact h.elim
end
end Go.AH
namespace Go.AH
open Go.RowKit (Below)

/-! ### Blocks by other numbers -/
mutual
def mapV (u : Nat → Nat) : Value → Value
  | .pointer (some ⟨b, o, s⟩) => .pointer (some ⟨u b, o, s⟩)
  | .slice (some ⟨b, o, s⟩) n c => .slice (some ⟨u b, o, s⟩) n c
  | .func fn ⟨as⟩ ⟨bs⟩ => .func fn ⟨mapVs u as⟩ ⟨mapVs u bs⟩
  | .iface t v => .iface t (mapV u v)
  | .agg ⟨cs⟩ => .agg ⟨mapVs u cs⟩
  | .tuple ⟨cs⟩ => .tuple ⟨mapVs u cs⟩
  | v => v
def mapVs (u : Nat → Nat) : List Value → List Value
  | [] => []
  | v :: vs => mapV u v :: mapVs u vs
end
def mapB (u : Nat → Nat) : Blk → Blk
  | .cells e cs => .cells e (mapVs u cs)
  | .dead => .dead

theorem mapVs_get (u : Nat → Nat) : ∀ (l : List Value) (i : Nat), (mapVs u l)[i]? = (l[i]?).map (mapV u)
  | [], i => by simp [mapVs]
  | v :: l, 0 => by simp [mapVs]
  | v :: l, i + 1 => by simpa [mapVs] using mapVs_get u l i
theorem mapVs_eq (u : Nat → Nat) (l : List Value) : mapVs u l = l.map (mapV u) := by
  induction l with
  | nil => rfl
  | cons v l ih => simp [mapVs, ih]
theorem mapVs_len (u : Nat → Nat) (l : List Value) : (mapVs u l).length = l.length := by simp [mapVs_eq]
theorem one_mapV (u : Nat → Nat) (v : Value) : one (mapV u v) = one v := by
  cases v with
  | pointer a => cases a <;> rfl
  | slice a n c => cases a <;> rfl
  | _ => rfl

mutual
theorem VR.unmap {ι ι' : Inj} {u : Nat → Nat} (h : ∀ b, ι' b = ι (u b)) : ∀ (v : Value) {x : Value}, VR ι (mapV u v) x → VR ι' v x
  | .pointer none, x, r => by simp only [mapV] at r; cases r; exact .nilp
  | .pointer (some ⟨b, o, s⟩), x, r => by
    simp only [mapV] at r
    cases r with | ptr e => exact .ptr ((h b).trans e)
  | .slice none n c, x, r => by simp only [mapV] at r; cases r; exact .nils
  | .slice (some ⟨b, o, s⟩) n c, x, r => by
    simp only [mapV] at r
    cases r with | sl e p q s => exact .sl ((h b).trans e) p q s | sl0 x e => exact .sl0 x ((h b).trans e) | emp x => exact .emp x
  | .func fn ⟨as⟩ ⟨bs⟩, x, r => by
    simp only [mapV] at r
    generalize hv : Value.func fn ⟨mapVs u as⟩ ⟨mapVs u bs⟩ = v0 at r
    cases r with
    | func _ k p q =>
      cases hv
      exact .func fn (k.imp (fun k => List.map_eq_nil_iff.1 ((mapVs_eq u bs).symm.trans k)) id) (VRs.unmap h as p) (VRs.unmap h bs q)
    | @mp b2 g2 e k =>
      have hv' := Value.func.inj hv
      obtain ⟨rfl, h1, h2⟩ := hv'
      have h1' : mapVs u as = [] := congrArg Array.toList h1
      have h2' := congrArg Array.toList h2
      have h2' : mapVs u bs = [.pointer (some ⟨b2, 0, none⟩)] := h2'
      rw [mapVs_eq] at h1' h2'
      obtain rfl := List.map_eq_nil_iff.1 h1'
      obtain ⟨b0, rfl, h3⟩ := List.map_eq_singleton_iff.1 h2'
      have h4 : ∃ b, b0 = .pointer (some ⟨b, 0, none⟩) ∧ u b = b2 := by
        cases b0 with
        | pointer a =>
          cases a with
          | none => simp [mapV] at h3
          | some a =>
            obtain ⟨b, o, t⟩ := a
            simp only [mapV, Value.pointer.injEq, Option.some.injEq, Addr.mk.injEq] at h3
            obtain ⟨h6, rfl, rfl⟩ := h3
            exact ⟨b, rfl, h6⟩
        | slice a n c => cases a <;> simp [mapV] at h3
        | _ => simp [mapV] at h3
      obtain ⟨b1, rfl, h5⟩ := h4
      exact .mp ((h b1).trans (by rw [h5]; exact e)) k
    | _ => cases hv
  | .iface t v, x, r => by
    simp only [mapV] at r
    cases r with | iface _ p => exact .iface t (VR.unmap h v p)
  | .agg ⟨cs⟩, x, r => by
    simp only [mapV] at r
    cases r with | agg p => exact .agg (VRs.unmap h cs p)
  | .tuple ⟨cs⟩, x, r => by
    simp only [mapV] at r
    cases r with | tuple p => exact .tuple (VRs.unmap h cs p)
  | .bool b, x, r => by simp only [mapV] at r; cases r; exact .bool _
  | .int k n, x, r => by simp only [mapV] at r; cases r; exact .int _ _
  | .float k n, x, r => by simp only [mapV] at r; cases r; exact .float _ _
  | .complex k n m, x, r => by simp only [mapV] at r; cases r
  | .string s, x, r => by simp only [mapV] at r; cases r; exact .string _
  | .map m, x, r => by simp only [mapV] at r; cases r
  | .chan c, x, r => by simp only [mapV] at r; cases r
  | .nilFunc, x, r => by simp only [mapV] at r; cases r; exact .nilf
  | .nilIface, x, r => by simp only [mapV] at r; cases r; exact .nili
theorem VRs.unmap {ι ι' : Inj} {u : Nat → Nat} (h : ∀ b, ι' b = ι (u b)) : ∀ (vs : List Value) {xs : List Value}, VRs ι (mapVs u vs) xs → VRs ι' vs xs
  | [], xs, r => by simp only [mapVs] at r; cases r; exact .nil
  | v :: vs, xs, r => by
    simp only [mapVs] at r
    cases r with | cons p q => exact .cons (VR.unmap h v p) (VRs.unmap h vs q)
end

mutual
/-- A value all of whose blocks are below n. -/
theorem VR.agree {n : Nat} {ι ι1 ι2 : Inj} (hd : ∀ b g, ι b = some g → b < n) (ha : Ag n ι1 ι2) {v x y : Value} (h : VR ι v x) (k : VR ι1 v y) : VR ι2 v y := by
  cases h with
  | bool b => cases k; exact .bool _
  | int => cases k; exact .int _ _
  | float => cases k; exact .float _ _
  | string => cases k; exact .string _
  | nilp => cases k; exact .nilp
  | ptr e => cases k with | ptr e' => exact .ptr ((ha _ (hd _ _ e)).trans e')
  | nils => cases k; exact .nils
  | sl e _ _ _ => cases k with | sl e' p q r => exact .sl ((ha _ (hd _ _ e)).trans e') p q r | sl0 x e' => exact .sl0 x ((ha _ (hd _ _ e)).trans e')
  | emp _ => cases k with | emp x => exact .emp x
  | sl0 _ e => cases k with | sl e' p q r => exact .sl ((ha _ (hd _ _ e)).trans e') p q r | sl0 x e' => exact .sl0 x ((ha _ (hd _ _ e)).trans e')
  | func fn k0 p q =>
    cases k with
    | func _ k1 p' q' => exact .func fn k1 (VRs.agree hd ha p p') (VRs.agree hd ha q q')
    | mp e' m =>
      cases q with | cons q _ => cases q with | ptr e => exact .mp ((ha _ (hd _ _ e)).trans e') m
  | mp e _ =>
    cases k with
    | func _ k1 _ _ => rcases k1 with k1 | k1 <;> first | cases k1 | exact absurd rfl k1
    | mp e' m => exact .mp ((ha _ (hd _ _ e)).trans e') m
  | nilf => cases k; exact .nilf
  | iface t p => cases k with | iface _ p' => exact .iface t (VR.agree hd ha p p')
  | nili => cases k; exact .nili
  | agg p => cases k with | agg p' => exact .agg (VRs.agree hd ha p p')
  | tuple p => cases k with | tuple p' => exact .tuple (VRs.agree hd ha p p')
theorem VRs.agree {n : Nat} {ι ι1 ι2 : Inj} (hd : ∀ b g, ι b = some g → b < n) (ha : Ag n ι1 ι2) {v x y : List Value} (h : VRs ι v x) (k : VRs ι1 v y) : VRs ι2 v y := by
  cases h with
  | nil => cases k; exact .nil
  | cons p q => cases k with | cons p' q' => exact .cons (VR.agree hd ha p p') (VRs.agree hd ha q q')
end

/-- The numbers of blocks behind a clearing away: what was below n stays, the kept ones follow. -/
def unN (n m : Nat) (ks : List Nat) (b : Nat) : Nat := if b < n then b else (ks[b - n]?).getD m

section
variable {P : Program} {ι ι0 : Inj} {h h0 h' : Heap} {lo B : Nat} {w w' : World} {r r0 rc : Value}

/-- Clearing away: the blocks of the run that nobody holds any more go. -/
theorem gc (hr : HR P ι h lo B w) (ha : Ag h.length ι ι0) (hr0 : HR P ι0 h0 lo B w') (hv : VR ι0 r0 rc) (ks : List Nat)
    (hks : ∀ k ∈ ks, h.length ≤ k) (hnd : ks.Nodup) (hlen : h'.length = h.length + ks.length) (hlo : lo ≤ h.length)
    (hr' : r0 = mapV (unN h.length h0.length ks) r)
    (hnew : ∀ (i k : Nat), ks[i]? = some k → ∃ b, h'[h.length + i]? = some b ∧ h0[k]? = some (mapB (unN h.length h0.length ks) b))
    (hold : ∀ b, b < h.length → (h'[b]? = h[b]? ∧ h0[b]? = h[b]?) ∨ (∃ x, h'[b]? = some x ∧ h0[b]? = some (mapB (unN h.length h0.length ks) x))) :
    ∃ ι', Ag h.length ι ι' ∧ VR ι' r rc ∧ HR P ι' h' lo B w' := by
  let u := unN h.length h0.length ks
  let ι' : Inj := fun b => ι0 (u b)
  have hu0 : ∀ b, b < h.length → u b = b := fun b hb => by simp only [u, unN]; rw [if_pos hb]
  have ha' : Ag h.length ι0 ι' := fun b hb => by simp only [ι']; rw [hu0 b hb]
  have inv : ∀ (b : Nat) (g : Img), ι' b = some g → ι0 (u b) = some g := fun b g x => x
  have cases' : ∀ (b : Nat) (g : Img), ι' b = some g → b < h.length ∨ ∃ i k, b = h.length + i ∧ ks[i]? = some k ∧ u b = k := by
    intro b g hb
    by_cases hlt : b < h.length
    · exact .inl hlt
    · right
      cases hk : ks[b - h.length]? with
      | none =>
        exfalso
        have : u b = h0.length := by simp only [u, unN]; rw [if_neg hlt, hk]; rfl
        have := (hr0.dom _ _ (inv b g hb)).1
        omega
      | some k => exact ⟨b - h.length, k, by omega, hk, by simp only [u, unN]; rw [if_neg hlt, hk]; rfl⟩
  -- how a live block of h' stands in h0
  have live : ∀ (b : Nat) (e : TypeId) (cs : List Value) (g : Img), h'[b]? = some (.cells e cs) → ι' b = some g →
      ∃ cs0, h0[u b]? = some (.cells e cs0) ∧ cs0.length = cs.length ∧ ∀ (i : Nat) (v : Value), cs[i]? = some v → ∃ v0, cs0[i]? = some v0 ∧ one v0 = one v ∧ ∀ x, VR ι0 v0 x → VR ι' v x := by
    intro b e cs g hb hg
    have mapped : ∀ k, u b = k → h0[k]? = some (mapB u (.cells e cs)) → ∃ cs0, h0[u b]? = some (.cells e cs0) ∧ cs0.length = cs.length ∧ ∀ (i : Nat) (v : Value), cs[i]? = some v → ∃ v0, cs0[i]? = some v0 ∧ one v0 = one v ∧ ∀ x, VR ι0 v0 x → VR ι' v x := by
      intro k hk hx
      refine ⟨mapVs u cs, by rw [hk]; exact hx, mapVs_len u cs, fun i v hv => ⟨mapV u v, by rw [mapVs_get, hv]; rfl, one_mapV u v, fun x hx => VR.unmap (ι := ι0) (u := u) (fun _ => rfl) v hx⟩⟩
    rcases cases' b g hg with hlt | ⟨i, k, rfl, hk, huk⟩
    · rcases hold b hlt with ⟨h1, h2⟩ | ⟨x, h1, h2⟩
      · rw [h1] at hb
        refine ⟨cs, by rw [hu0 b hlt, h2]; exact hb, rfl, fun i v hv => ⟨v, hv, rfl, fun x hx => ?_⟩⟩
        have hg0 : ι b = some g := by rw [← ha b hlt]; have := inv b g hg; rwa [hu0 b hlt] at this
        obtain ⟨_, v', _, rv⟩ := (hr.cell b e cs g hb hg0).2 i v hv
        exact VR.agree (fun b g e => (hr.dom b g e).1) ha' rv hx
      · rw [hb] at h1; cases h1
        exact mapped b (hu0 b hlt) h2
    · obtain ⟨x, h1, h2⟩ := hnew i k hk
      rw [hb] at h1; cases h1
      exact mapped k huk h2
  have uinj : ∀ (b b' : Nat) (g g' : Img), ι' b = some g → ι' b' = some g' → u b = u b' → b = b' := by
    intro b b' g g' hb hb' he
    rcases cases' b g hb with h1 | ⟨i, k, rfl, hk, huk⟩
    · rcases cases' b' g' hb' with h2 | ⟨i', k', rfl, hk', huk'⟩
      · rw [hu0 b h1, hu0 b' h2] at he; exact he
      · rw [hu0 b h1, huk'] at he
        have := hks k' (List.mem_of_getElem? hk'); omega
    · rcases cases' b' g' hb' with h2 | ⟨i', k', rfl, hk', huk'⟩
      · rw [hu0 b' h2, huk] at he
        have := hks k (List.mem_of_getElem? hk); omega
      · rw [huk, huk'] at he; subst he
        have hi := (List.getElem?_eq_some_iff.1 hk).1
        have := (List.getElem?_inj hi hnd).1 (hk.trans hk'.symm)
        omega
  refine ⟨ι', fun b hb => by rw [ha' b hb, ha b hb], ?_, ?_, ?_, ?_, ?_, ?_⟩
  · rw [hr'] at hv; exact VR.unmap (ι := ι0) (u := u) (fun _ => rfl) r hv
  · intro b g hb
    refine ⟨?_, (hr0.dom _ _ (inv b g hb)).2⟩
    rcases cases' b g hb with h1 | ⟨i, k, rfl, hk, huk⟩
    · omega
    · have := (List.getElem?_eq_some_iff.1 hk).1; omega
  · intro b e cs g hb hg
    obtain ⟨cs0, h1, h2, h3⟩ := live b e cs g hb hg
    obtain ⟨hz, hc⟩ := hr0.cell _ _ _ _ h1 (inv b g hg)
    refine ⟨hz, fun i v hv => ?_⟩
    obtain ⟨v0, k1, k2, k3⟩ := h3 i v hv
    obtain ⟨x1, v', x2, x3⟩ := hc i v0 k1
    exact ⟨by rw [← k2]; exact x1, v', x2, k3 v' x3⟩
  · intro b e cs g hlb hb hg
    obtain ⟨cs0, h1, h2, h3⟩ := live b e cs g hb hg
    have hlu : lo ≤ u b := by
      rcases cases' b g hg with hlt | ⟨i, k, rfl, hk, huk⟩
      · rw [hu0 b hlt]; exact hlb
      · rw [huk]; have := hks k (List.mem_of_getElem? hk); omega
    obtain ⟨a1, a2, a3, a4⟩ := hr0.own _ _ _ _ hlu h1 (inv b g hg)
    exact ⟨a1, a2, by omega, a4⟩
  · intro b b' e cs e' cs' g g' hne hlb hb hb' hg hg'
    obtain ⟨cs0, h1, _, _⟩ := live b e cs g hb hg
    obtain ⟨cs0', h1', _, _⟩ := live b' e' cs' g' hb' hg'
    have hlu : lo ≤ u b := by
      rcases cases' b g hg with hlt | ⟨i, k, rfl, hk, huk⟩
      · rw [hu0 b hlt]; exact hlb
      · rw [huk]; have := hks k (List.mem_of_getElem? hk); omega
    exact hr0.apart _ _ _ _ _ _ _ _ (fun x => hne (uinj b b' g g' hg hg' x)) hlu h1 h1' (inv b g hg) (inv b' g' hg')
  · intro b e cs g hb hg hm
    obtain ⟨cs0, h1, h2, _⟩ := live b e cs g hb hg
    obtain ⟨k1, K, k2, k3⟩ := hr0.sets _ _ _ _ h1 (inv b g hg) hm
    subst k1
    exact ⟨List.eq_nil_of_length_eq_zero h2.symm, K, k2, k3⟩

end
end Go.AH
namespace Go.AH
open Go.RowKit (Below)

section
variable {P : Program} {N : Nat} {Γ : Ctx} {lo B : Nat}

def resOf (tmps : Array Value) : ResultVar → Sem Value
  | .tmp t => pure (tmps.getD t undef)
  | .cell a t => do loadVar t (← asAddr (tmps.getD a undef))
theorem results_eq (fn : Func) (tmps : Array Value) : results fn tmps = (do
    let vs ← fn.results.mapM (resOf tmps)
    pure (if h : vs.size = 1 then vs[0] else .tuple vs)) := rfl

theorem rres1_run {ι : Inj} {s : St} {a : Act} {w : World} (hs : SR P N ι lo B s a w) {x : ResultVar} {y : AR} {v : Value} (hc : cRes P N [x] = some [y]) (hv : rres1 s y = some v) :
    ∃ v', VR ι v v' ∧ (resOf a.tmps x).run P w = .ok v' w := by
  cases x with
  | tmp t =>
    simp only [cRes] at hc
    split at hc
    · rename_i hlt
      simp at hc; subst hc
      simp only [rres1] at hv; cases hv
      exact ⟨_, hs.tmps.2 t hlt, rfl⟩
    · cases hc
  | cell b t =>
    simp only [cRes] at hc
    split at hc
    · rename_i hcond
      obtain ⟨hlt, hk⟩ := hcond
      simp at hc; subst hc
      simp only [rres1] at hv
      split at hv
      · rename_i bb o hp
        obtain ⟨g, hg, hx⟩ := (hs.tmps.2 b hlt).getP hp
        split at hv
        · rename_i e cs hb
          by_cases hagg : aggT P t = true
          · simp only [hagg, if_true] at hv
            split at hv
            · rename_i hle; cases hv
              obtain ⟨cs', r, hl, hcell⟩ := hs.heap.cells hb hg o (P.cellsOf t) hle
              have hload := run_loadCells_list (P := P) w ⟨g.c, g.o + o, none⟩ cs' (fun j u hu => by rw [Addr.add_lit]; exact hcell j u hu)
              rw [hl] at hload
              refine ⟨.agg ⟨cs'⟩, .agg r, ?_⟩
              simp only [resOf, hx]
              simp [asAddr, loadVar, aggT_run hk, hagg, sizeOf_run (known_info hk), hload]
            · cases hv
          · simp only [hagg] at hv
            simp at hv
            obtain ⟨_, v', hv', rv⟩ := (hs.heap.cell bb e cs g hb hg).2 o v hv
            refine ⟨v', rv, ?_⟩
            simp only [resOf, hx]
            simp [asAddr, loadVar, aggT_run hk, hagg, hv']
        · cases hv
      · cases hv
    · cases hc

theorem cRes_cons {x : ResultVar} {xs : List ResultVar} {ys : List AR} (h : cRes P N (x :: xs) = some ys) : ∃ y zs, ys = y :: zs ∧ cRes P N [x] = some [y] ∧ cRes P N xs = some zs := by
  cases x with
  | tmp t =>
    simp only [cRes] at h ⊢
    split at h
    · rename_i hlt
      obtain ⟨l, hl, rfl⟩ := Option.map_eq_some_iff.1 h
      exact ⟨_, _, rfl, by simp [hlt], hl⟩
    · cases h
  | cell a t =>
    simp only [cRes] at h ⊢
    split at h
    · rename_i hlt
      obtain ⟨l, hl, rfl⟩ := Option.map_eq_some_iff.1 h
      exact ⟨_, _, rfl, by simp [hlt], hl⟩
    · cases h

theorem rresL_run {ι : Inj} {s : St} {a : Act} {w : World} (hs : SR P N ι lo B s a w) : ∀ (xs : List ResultVar) (ys : List AR) (vs : List Value), cRes P N xs = some ys → rresL s ys = some vs →
    ∃ vs', VRs ι vs vs' ∧ (xs.mapM (resOf a.tmps)).run P w = .ok vs' w
  | [], ys, vs, hc, hv => by cases hc; simp [rresL] at hv; subst hv; exact ⟨[], .nil, by simp⟩
  | x :: xs, ys, vs, hc, hv => by
    obtain ⟨y, zs, rfl, hy, hz⟩ := cRes_cons hc
    simp only [rresL] at hv
    obtain ⟨v, h1, hv⟩ := Option.bind_eq_some_iff.1 hv
    obtain ⟨us, h2, rfl⟩ := Option.map_eq_some_iff.1 hv
    obtain ⟨v', r1, e1⟩ := rres1_run hs hy h1
    obtain ⟨us', r2, e2⟩ := rresL_run hs xs zs us hz h2
    refine ⟨v' :: us', .cons r1 r2, ?_⟩
    simp only [List.mapM_cons, Sem.run_bind, e1, Result.andThen_ok, e2, Sem.run_pure]

theorem rres_run {ι : Inj} {s : St} {a : Act} {w : World} (hs : SR P N ι lo B s a w) {fn : Func} {ys : List AR} (hc : cRes P N fn.results.toList = some ys) {v : Value} (hv : rres s ys = some v) :
    ∃ v', VR ι v v' ∧ (results fn a.tmps).run P w = .ok v' w := by
  unfold rres at hv
  obtain ⟨vs, h1, hv⟩ := Option.map_eq_some_iff.1 hv
  obtain ⟨vs', r, e⟩ := rresL_run hs _ _ _ hc h1
  have e' : (fn.results.mapM (resOf a.tmps)).run P w = .ok ⟨vs'⟩ w := by
    rw [Array.mapM_eq_mapM_toList]
    simp only [Sem.run_map, e, Result.andThen_ok]
  have hrun : (results fn a.tmps).run P w = .ok (if h : (⟨vs'⟩ : Array Value).size = 1 then (⟨vs'⟩ : Array Value)[0] else .tuple ⟨vs'⟩) w := by
    rw [results_eq]
    simp only [Sem.run_bind, e', Result.andThen_ok, Sem.run_pure]
  cases r with
  | nil => simp at hv; subst hv; exact ⟨_, .tuple .nil, hrun⟩
  | cons r1 r2 =>
    cases r2 with
    | nil => simp at hv; subst hv; exact ⟨_, r1, by simpa using hrun⟩
    | cons r3 r4 => simp at hv; subst hv; exact ⟨_, .tuple (.cons r1 (.cons r3 r4)), by simpa using hrun⟩

/-- How a call leaves: the answer r and the heap h', out of the run's own last state. -/
def Done (h : Heap) (res : List AR) (r : Value) (h' : Heap) (s : St) : Prop := (rres s res = some r ∧ s.h = h') ∨
  ∃ (r0 : Value) (ks : List Nat), rres s res = some r0 ∧ (∀ k ∈ ks, h.length ≤ k) ∧ ks.Nodup ∧ h'.length = h.length + ks.length ∧ r0 = mapV (unN h.length s.h.length ks) r ∧
    (∀ (i k : Nat), ks[i]? = some k → ∃ b, h'[h.length + i]? = some b ∧ s.h[k]? = some (mapB (unN h.length s.h.length ks) b)) ∧
    (∀ b, b < h.length → (h'[b]? = h[b]? ∧ s.h[b]? = h[b]?) ∨ (∃ x, h'[b]? = some x ∧ s.h[b]? = some (mapB (unN h.length s.h.length ks) x)))

theorem start_SR {ι : Inj} {h : Heap} {w : World} (hr : HR P ι h lo B w) (hB : B ≤ w.heap.size) (hlo : lo ≤ h.length) {args cargs : List Value} (hv : VRs ι args cargs) (n : Nat) :
    SR P n ι lo B ⟨argσ args, h⟩ { tmps := ⟨cargs⟩ ++ Array.replicate (n - cargs.length) undef, defers := [] } w := by
  refine ⟨⟨by simp; omega, fun i hi => ?_⟩, hr, hB, hlo, rfl⟩
  simp only [argσ]
  by_cases hlt : i < cargs.length
  · have hla : i < args.length := by rw [hv.length]; exact hlt
    obtain ⟨v', h1, h2⟩ := hv.get i args[i] (by simp [hla])
    have e1 : (args[i]?).getD undef = args[i] := by simp [hla]
    rw [e1]
    have e2 : ((⟨cargs⟩ : Array Value) ++ Array.replicate (n - cargs.length) undef).getD i undef = v' := by
      simp only [Array.getD_eq_getD_getElem?]
      rw [Array.getElem?_append_left (by simpa using hlt)]
      simp at h1 ⊢; simp [h1]
    rw [e2]; exact h2
  · have hla : ¬ i < args.length := by rw [hv.length]; exact hlt
    have e1 : (args[i]?).getD undef = undef := by simp [List.getElem?_eq_none (Nat.le_of_not_lt hla)]
    rw [e1]
    have e2 : ((⟨cargs⟩ : Array Value) ++ Array.replicate (n - cargs.length) undef).getD i undef = undef := by
      simp only [Array.getD_eq_getD_getElem?]
      rw [Array.getElem?_append_right (by simpa using hlt)]
      simp [Array.getElem?_replicate]
      split <;> rfl
    rw [e2]; exact VR.undef

theorem calls_of_awp (hΓ : OkΓ P Γ) {f : Nat} {fn : Func} {af : AF} (hf : P.funcs[f]? = some fn) (hc : cFn P fn = some af) {ι : Inj} {h h' : Heap} {w : World} {r : Value}
    (hr : HR P ι h lo B w) (hB : B ≤ w.heap.size) (hlo : lo ≤ h.length) {args cargs : List Value} (hv : VRs ι args cargs)
    (H : awp Γ lo af.code (fun e s => (e = .normal ∨ e = .ret) ∧ Done h af.res r h' s) ⟨argσ args, h⟩) : Calls P f ⟨cargs⟩ w (Ends P ι h lo B w r h') := by
  unfold cFn at hc
  split at hc
  · rename_i c hb
    obtain ⟨x, hx, hc⟩ := Option.bind_eq_some_iff.1 hc
    obtain ⟨rs, hrs, rfl⟩ := Option.map_eq_some_iff.1 hc
    refine calls_of_wp hf hb ?_
    refine awp_sound hΓ c x hx _ _ ι _ _ w (start_SR hr hB hlo hv fn.ntmps) H ?_
    intro e s' a' w' ι' h1 h0 h2 h3 ⟨he, hd⟩
    have : a'.defers = [] ∧ ∃ v, (results fn a'.tmps).run P w' = .ok v w' ∧ Ends P ι h lo B w r h' (.returned v) w' := by
      rcases hd with ⟨k1, k2⟩ | ⟨r0, ks, k1, k2, k3, k4, k5, k6, k7⟩
      · obtain ⟨v', q1, q2⟩ := rres_run h2 hrs k1
        exact ⟨h2.defers, v', q2, v', ι', rfl, h1, q1, k2 ▸ h2.heap, h3⟩
      · obtain ⟨v', q1, q2⟩ := rres_run h2 hrs k1
        obtain ⟨ι'', g1, g2, g3⟩ := gc hr h1 h2.heap q1 ks k2 k3 k4 hlo k5 k6 k7
        exact ⟨h2.defers, v', q2, v', ι'', rfl, g1, g2, g3, h3⟩
    rcases he with rfl | rfl
    · exact this
    · exact this
  · cases hc

end
end Go.AH
namespace Go.AH

/-! ### Going through code by rewriting -/
def kont {α : Type} (o : Option α) (f : α → Prop) : Prop := match o with | some a => f a | none => False
theorem kont_some {α : Type} (a : α) (f : α → Prop) : kont (some a) f = f a := rfl
section
variable {Γ : Ctx} {lo : Nat} {σ : Nat → Value} {h : Heap} {K : St → Prop} {Q : Exit → St → Prop} {r : List AO}

end

/-! The operations one by one. -/
section
variable (Γ : Ctx) (lo : Nat) (ρ : Opd → Value) (h : Heap)
end
end Go.AH
namespace Go.AH
/-! Congruence that looks at the head alone, and always -/
def tag {α : Type} (x : α) : α := x
theorem tag_eq {α : Type} (x : α) : tag x = x := by unfold tag; exact id rfl
theorem kont_cong {α : Type} {o : Option α} {o' : Unit → Option α} {f : α → Prop} (h : ∀ u, tag o = o' u) : kont o f = kont (o' ()) f := by rw [← h]; rfl
section
variable {Γ : Ctx} {lo : Nat} {K : St → Prop} {Q : Exit → St → Prop}
end
end Go.AH
namespace Go.AH
open Go.RowKit (Below)
open Go.ChangeShapes Go.WideShapes
/-! From a row's arguments to a heap of blocks -/
/-- A slice of whole numbers as a world holds it. -/
def IsRow (k : IntKind) (w : World) (a : Option Addr) (len cap : Nat) (zs : List Int) : Prop :=
  (a = none ∧ len = 0 ∧ cap = 0 ∧ zs = []) ∨
  ∃ x, a = some x ∧ x.block < w.heap.size ∧ len ≤ cap ∧ cap ≤ maxLen ∧ zs.length = cap ∧ (∀ i, i < zs.length → w.cell? (x.add i) = some (.int k (zs.getD i 0))) ∧ ∀ n ∈ zs, (Lit.int k n).wf = true
theorem IsRow.le {k : IntKind} {w : World} {a : Option Addr} {len cap : Nat} {zs : List Int} (h : IsRow k w a len cap zs) : len ≤ zs.length := by
  rcases h with ⟨_, rfl, _, rfl⟩ | ⟨x, _, _, hl, _, hz, _⟩
  · exact Nat.le_refl _
  · omega
theorem IsRow.wf {k : IntKind} {w : World} {a : Option Addr} {len cap : Nat} {zs : List Int} (h : IsRow k w a len cap zs) : ∀ n ∈ zs, (Lit.int k n).wf = true := by
  rcases h with ⟨_, _, _, rfl⟩ | ⟨x, _, _, _, _, _, _, hw⟩
  · intro n hn; cases hn
  · exact hw
section
variable {P : Program} {W : World} {ι : Inj} {h : Heap} {B : Nat}
theorem hr_start (P : Program) (W : World) (B : Nat) : HR P (fun _ => none) [] ([] : Heap).length B W :=
  ⟨fun b g hg => by simp at hg, fun b e cs g hb => by simp at hb, fun b e cs g _ hb => by simp at hb, fun b b' e cs e' cs' g g' _ _ hb => by simp at hb, fun b e cs g hb => by simp at hb⟩
theorem ext_new (ι : Inj) (n : Nat) (g : Img) (hd : ∀ b g, ι b = some g → b < n) : Ext ι (fun b => if b = n then some g else ι b) := by
  intro b g' hb
  have := hd b g' hb
  show (if b = n then some g else ι b) = some g'
  rw [if_neg (by omega)]; exact hb
end
end Go.AH
