import Derived.Test.YtngebdcbcliobaaA15
namespace Go.AH
open Go.RowKit (Below)

theorem aop_congr {Γ : Ctx} {lo : Nat} {ρ ρ' : Opd → Value} {h : Heap} (p : AOp) (H : ∀ y ∈ p.os, ρ y = ρ' y) : aop Γ lo ρ h p = aop Γ lo ρ' h p := by
  cases p
  case build z ps =>
    have e : (ps.map fun p => (p.1, p.2.1, ρ p.2.2)) = ps.map fun p => (p.1, p.2.1, ρ' p.2.2) := List.map_congr_left fun q hq => by rw [H q.2.2 (by simp only [AOp.os, List.mem_map]; exact ⟨q, hq, rfl⟩)]
    simp only [aop, e]
  case mkS e n z ps =>
    have e : (ps.map fun p => (p.1, p.2.1, ρ p.2.2)) = ps.map fun p => (p.1, p.2.1, ρ' p.2.2) := List.map_congr_left fun q hq => by rw [H q.2.2 (by simp only [AOp.os, List.mem_map]; exact ⟨q, hq, rfl⟩)]
    simp only [aop, e]
  case sl z x lo hi =>
    have hx := H x (by simp [AOp.os])
    have e1 : ∀ d, optI ρ d lo = optI ρ' d lo := by intro d; cases lo with | none => rfl | some y => simp only [optI]; rw [H y (by simp [AOp.os])]
    have e2 : ∀ d, optI ρ d hi = optI ρ' d hi := by intro d; cases hi with | none => rfl | some y => simp only [optI]; rw [H y (by simp [AOp.os])]
    simp only [aop, hx, e1, e2]
  case slT x lo hi =>
    have hx := H x (by simp [AOp.os])
    have e1 : ∀ d, optI ρ d lo = optI ρ' d lo := by intro d; cases lo with | none => rfl | some y => simp only [optI]; rw [H y (by simp [AOp.os])]
    have e2 : ∀ d, optI ρ d hi = optI ρ' d hi := by intro d; cases hi with | none => rfl | some y => simp only [optI]; rw [H y (by simp [AOp.os])]
    simp only [aop, hx, e1, e2]
  case fn f cs =>
    have e : cs.map ρ = cs.map ρ' := List.map_congr_left fun q hq => H q (by simpa [AOp.os] using hq)
    simp only [aop, e]
  case call f cs =>
    have e : cs.map ρ = cs.map ρ' := List.map_congr_left fun q hq => H q (by simpa [AOp.os] using hq)
    simp only [aop, e]
  case callv x cs =>
    have hx := H x (by simp [AOp.os])
    have e : cs.map ρ = cs.map ρ' := List.map_congr_left fun q hq => H q (by simp [AOp.os, hq])
    simp only [aop, hx, e]
  case alloc => rfl
  case mkE => rfl
  case fail => rfl
  case pick c a b => simp only [aop, H c (by simp [AOp.os]), H a (by simp [AOp.os]), H b (by simp [AOp.os])]
  all_goals
    first
    | (rename_i x y; simp only [aop, H x (by simp [AOp.os]), H y (by simp [AOp.os])]; done)
    | (rename_i x; simp only [aop, H x (by simp [AOp.os])]; done)
    | (rename_i x _; simp only [aop, H x (by simp [AOp.os])]; done)

def res (ι : Inj) (m : Nat) : Inj := fun b => if b < m then ι b else none
theorem res_ext (ι : Inj) (m : Nat) : Ext (res ι m) ι := fun b g h => by
  simp only [res] at h; split at h
  · exact h
  · cases h
theorem res_mono {ι ι' : Inj} {m m' : Nat} (hm : m ≤ m') (h : ∀ b g, b < m → ι b = some g → ι' b = some g) : Ext (res ι m) (res ι' m') := fun b g hb => by
  simp only [res] at hb ⊢; split at hb
  · rename_i hlt; rw [if_pos (by omega)]; exact h b g hlt hb
  · cases hb

def wr (ops : Array Oper) (i t : Nat) : Prop := ∃ o, ops[i]? = some o ∧ o.dst = some t
def cutAt (ops : Array Oper) (n : Nat) (l : Array Bool) (t j : Nat) : Prop :=
  j ≤ n ∧ (∀ i, i < j → wr ops i t → l.getD i false = true) ∧ ∀ i, j ≤ i → i < n → wr ops i t → l.getD i false = false

section
variable (P : Program) (N : Nat) (ops : Array Oper) (n : Nat) (f : Nat → St) (ι0 : Inj) (lo B : Nat) (w0 : World)
structure DI (l : Array Bool) (a : Act) (w : World) (ι : Inj) : Prop where
  size : l.size = ops.size
  closed : Closed ops l
  tail : ∀ t, n ≤ t → l.getD t false = false
  sz : N ≤ a.tmps.size
  tm : ∀ t, t < N → ∀ j, cutAt ops n l t j → VR (res ι (f j).h.length) ((f j).σ t) (a.tmps.getD t undef)
  dom : ∀ b g, ι b = some g → b < (f n).h.length ∧ g.c < w.heap.size
  cell : ∀ j, j ≤ n → ∀ (b : Nat) (e : TypeId) (cs : List Value) (g : Img), (f j).h[b]? = some (.cells e cs) → ι b = some g → g.z = P.cellsOf e ∧
    ∀ (i : Nat) (v : Value), cs[i]? = some v → one v = true ∧ ∃ v', w.cell? ⟨g.c, g.o + i, none⟩ = some v' ∧ VR (res ι (f j).h.length) v v'
  own : ∀ (b : Nat) (e : TypeId) (cs : List Value) (g : Img), lo ≤ b → (f n).h[b]? = some (.cells e cs) → ι b = some g → B ≤ g.c ∧ g.o = 0 ∧ cs.length ≤ g.n ∧ ∃ cur, w.heap[g.c]? = some (.cells cur e (0, 0)) ∧ cur.size = g.n
  apart : ∀ (b b' : Nat) (e : TypeId) (cs : List Value) (e' : TypeId) (cs' : List Value) (g g' : Img), b ≠ b' → lo ≤ b → (f n).h[b]? = some (.cells e cs) → (f n).h[b']? = some (.cells e' cs') → ι b = some g → ι b' = some g' → g.c ≠ g'.c
  dom2 : ∀ b g, ι b = some g → b < (f 0).h.length ∨ ∃ i, i < n ∧ l.getD i false = true ∧ (f i).h.length ≤ b ∧ b < (f (i + 1)).h.length
  ag : Ag (f 0).h.length ι0 ι
  bel : Below B w0 w
  base : B ≤ w.heap.size
  defers : a.defers = []
end

theorem cOpers_get {P : Program} {N : Nat} {d : Bool} {ops : Array Oper} : ∀ {l : List Oper} {os : List AO}, cOpers P N d ops l = some os → os.length = l.length ∧ ∀ (j : Nat) (o : Oper), l[j]? = some o → ∃ x, os[j]? = some x ∧ cOper P N d ops o = some x
  | [], os, h => by cases h; simp
  | o :: r, os, h => by
    simp only [cOpers] at h
    obtain ⟨x, hx, h⟩ := Option.bind_eq_some_iff.1 h
    obtain ⟨os', hos, rfl⟩ := Option.map_eq_some_iff.1 h
    obtain ⟨h1, h2⟩ := cOpers_get hos
    refine ⟨by simp [h1], fun j o' hj => ?_⟩
    cases j with
    | zero => simp at hj; subst hj; exact ⟨x, rfl, hx⟩
    | succ j => simpa using h2 j o' (by simpa using hj)
end Go.AH
