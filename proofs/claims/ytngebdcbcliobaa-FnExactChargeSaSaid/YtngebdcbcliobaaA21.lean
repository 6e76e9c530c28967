import Derived.Test.YtngebdcbcliobaaA20
set_option linter.unusedVariables false
namespace Go.AH
open Go.RowKit (Below)
section
variable {P : Program} {N : Nat} {ι : Inj} {h h' : Heap} {lo B : Nat} {w : World} {σ : Nat → Value} {a : Act} {v : Value}

theorem VRs.take_cells {l l' : List Value} (hv : VRs ι l l') {w : World} {y : Addr} (hc : ∀ (j : Nat) (u : Value), l'[j]? = some u → w.cell? (y.add j) = some u) (k : Nat) : ∀ (j : Nat) (u : Value), (l'.take k)[j]? = some u → w.cell? (y.add j) = some u := by
  intro j u hj
  refine hc j u ?_
  by_cases hlt : j < k
  · rwa [List.getElem?_take_of_lt hlt] at hj
  · rw [List.getElem?_take_eq_none (by omega)] at hj; cases hj

theorem fine_cpy (hr : HR P ι h lo B w) {t t' e : TypeId} (hu : P.underlying t = some (.slice e)) (hk : known P e = true) {b o n c : Nat} {p' q q' : Value} (hp : VR ι (.slice (some ⟨b, o, none⟩) n c) p') (hq : VR ι q q')
    {ad : Option Addr} {m cq : Nat} (hqs : q = .slice ad m cq) {ys : List Value} (hys : rdS h (P.cellsOf e) q = some ys) {e' : TypeId} {cs : List Value} (hb : h[b]? = some (.cells e' cs)) (hlo : lo ≤ b) (hle : o + n * P.cellsOf e ≤ cs.length) (ty : TypeId) :
    Fine P ι h lo B w (.int .i64 (min m n : Nat)) (h.set b (.cells e' (setAt cs o (ys.take (min m n * P.cellsOf e))))) ((do pure (.value (← Builtin.copy_ #[t, t'] ty #[p', q'])) : Sem Next).run P w) := by
  have hki : (P.info? e).isSome = true := by simp only [known, Bool.and_eq_true] at hk; exact hk.1
  obtain ⟨i, hi⟩ := Option.isSome_iff_exists.1 hki
  have hsz : (sizeOf e).run P w = .ok (P.cellsOf e) w := sizeOf_run hki w
  -- what stands in the source, in the world
  obtain ⟨ys', hvy, hyl, hyone, hsrc⟩ : ∃ ys', VRs ι ys ys' ∧ ys.length = m * P.cellsOf e ∧ (∀ v ∈ ys, one v = true) ∧
      ((q' = .slice none 0 0 ∧ m = 0) ∨ ∃ y c2, q' = .slice (some y) m c2 ∧ ∀ (j : Nat) (u : Value), ys'[j]? = some u → w.cell? (y.add j) = some u) := by
    rcases rdS_world hr hq hys with ⟨hx, rfl, rfl⟩ | ⟨b2, o2, n2, c2, c2', yb, g2, e2, bs2, hx, rfl, hg2, hb2, _, _, _, hyl, _, _, hyone, ys', hvy, hyl', hycell⟩ | ⟨_, _, _, _, xe, hx, rfl, rfl⟩
    · rw [hqs] at hx; cases hx; exact ⟨[], .nil, by simp, by simp, .inl ⟨rfl, rfl⟩⟩
    · rw [hqs] at hx; cases hx
      exact ⟨ys', hvy, by rw [hyl], hyone, .inr ⟨_, _, rfl, hycell⟩⟩
    · rw [hqs] at hx; cases hx
      exact ⟨[], .nil, by simp, by simp, .inr ⟨xe, 0, rfl, by simp⟩⟩
  have hkm : min m n * P.cellsOf e ≤ m * P.cellsOf e := Nat.mul_le_mul_right _ (Nat.min_le_left _ _)
  have hkn : min m n * P.cellsOf e ≤ n * P.cellsOf e := Nat.mul_le_mul_right _ (Nat.min_le_right _ _)
  have htl : (ys.take (min m n * P.cellsOf e)).length = min m n * P.cellsOf e := by rw [List.length_take]; omega
  have htl' : (ys'.take (min m n * P.cellsOf e)).length = min m n * P.cellsOf e := by rw [List.length_take, ← hvy.length]; omega
  have hvt := hvy.take (min m n * P.cellsOf e)
  have hread : (Builtin.firstCells (P.cellsOf e) (min m n) q').run P w = .ok ⟨ys'.take (min m n * P.cellsOf e)⟩ w := by
    rcases hsrc with ⟨rfl, rfl⟩ | ⟨y, c2, rfl, hc⟩
    · have : ys'.take (min 0 n * P.cellsOf e) = [] := by simp
      rw [this]; simp [Builtin.firstCells]
    · have hload := run_loadCells_list (P := P) w y (ys'.take (min m n * P.cellsOf e)) (VRs.take_cells hvy hc _)
      rw [htl'] at hload
      simp [Builtin.firstCells, hload]
  have hlen : (Builtin.lenOf q').run P w = .ok m w := by
    rcases hsrc with ⟨rfl, rfl⟩ | ⟨y, c2, rfl, hc⟩ <;> simp [Builtin.lenOf]
  have hg : ∃ g, ι b = some g := by cases hp with | sl hg => exact ⟨_, hg⟩ | sl0 x hg => exact ⟨_, hg⟩
  obtain ⟨g, hg⟩ := hg
  obtain ⟨w', hst, hr', hbel⟩ := store_all (P := P) hlo hg (ys.take (min m n * P.cellsOf e)) (ys'.take (min m n * P.cellsOf e)) cs o 0 h w hr hb (by omega) (fun v hv => hyone v (List.mem_of_mem_take hv)) hvt
  simp only [Nat.add_zero] at hr'
  have fin : ∀ (x : Addr) (c1 : Nat), p' = .slice (some x) n c1 → (storeCells x (ys'.take (min m n * P.cellsOf e))).run P w = .ok () w' →
      Fine P ι h lo B w (.int .i64 (min m n : Nat)) (h.set b (.cells e' (setAt cs o (ys.take (min m n * P.cellsOf e))))) ((do pure (.value (← Builtin.copy_ #[t, t'] ty #[p', q'])) : Sem Next).run P w) := by
    intro x c1 hx hs
    subst hx
    refine ⟨.int .i64 (min m n : Nat), w', ι, .inl ?_, Ag.refl _ _, .int _ _, hr', hbel⟩
    have hmin : Nat.min m n = min m n := rfl
    simp [Builtin.copy_, run_underlying hu, hlen, hsz, hmin, hread, hs, goInt]
  cases hp with
  | sl hg' h1 h2 h3 =>
    rw [hg] at hg'; cases hg'
    exact fin _ _ rfl hst
  | sl0 x hg' =>
    rw [hg] at hg'; cases hg'
    have h0 : ys'.take (min m 0 * P.cellsOf e) = [] := by simp
    rw [h0] at hst
    refine fin x 0 rfl ?_
    rw [h0]
    simp only [storeCells] at hst ⊢
    exact hst

theorem fine_mm (hr : HR P ι h lo B w) {mx : Bool} {ts : Array TypeId} {ty : TypeId} {p p' q q' : Value} (hp : VR ι p p') (hq : VR ι q q') {k k' : IntKind} {x y : Int} (ex : p = .int k x) (ey : q = .int k' y) :
    Fine P ι h lo B w (.int k (if mx then (if y > x then y else x) else (if y < x then y else x))) h ((do pure (.value (← (if mx then Builtin.max_ ts ty #[p', q'] else Builtin.min_ ts ty #[p', q']))) : Sem Next).run P w) := by
  subst ex; subst ey
  cases hp; cases hq
  refine ⟨_, w, ι, .inl ?_, Ag.refl _ _, .int _ _, hr, Below.refl _ _⟩
  cases mx <;> simp [Builtin.max_, Builtin.min_, Builtin.max2, Builtin.min2]
end
end Go.AH
