import Derived.Test.YtngebdcbcliobaaT5
set_option linter.unusedVariables false
namespace Go.AH

structure TSt where
  σ : Nat → TV
  h : THeap
def putT (σ : Nat → TV) (d : Nat) (v : TV) : Nat → TV := fun i => if i = d then v else σ i
def putTO (σ : Nat → TV) (d : Option Nat) (v : TV) : Nat → TV := match d with
  | some d => putT σ d v
  | none => σ
def argσT (args : List TV) : Nat → TV := fun i => (args[i]?).getD .any

def stepT (Γ : TCtx) (tlo : Nat) (o : AO) (s : TSt) : Option TSt :=
  match o.g with
  | none => (top Γ tlo (evT s.σ) s.h o.op).map fun r => ⟨putTO s.σ o.d r.1, r.2⟩
  | some (t, b) => match s.σ t with
    | .p (.bool c) => if c == b then (top Γ tlo (evT s.σ) s.h o.op).map fun r => ⟨putTO s.σ o.d r.1, r.2⟩ else some ⟨putTO s.σ o.d (.tup []), s.h⟩
    | .tup [] => some ⟨putTO s.σ o.d (.tup []), s.h⟩
    | _ => none
/-- A call whose end is told by a relation. -/
def stepR (Γ : TCtx) (o : AO) (s s' : TSt) : Prop := o.g = none ∧ ∃ f as sp tv h', o.op = .call f as ∧ Γ.get f = some sp ∧ sp.rel (as.map (evT s.σ)) s.h tv h' ∧ s' = ⟨putTO s.σ o.d tv, h'⟩
def ropsT (Γ : TCtx) : List AO → (TSt → Prop) → TSt → Prop
  | [], K, s => K s
  | o :: r, K, s => match stepT Γ 0 o s with
    | some s' => ropsT Γ r K s'
    | none => ∃ s', stepR Γ o s s' ∧ ropsT Γ r K s'
def qopsT (Γ : TCtx) : List AO → (TSt → Prop) → TSt → Prop
  | [], K, s => K s
  | o :: r, K, s => match stepT Γ s.h.length o s with
    | some s' => qopsT Γ r K s'
    | none => False

mutual
def renT (ρ : Nat → Nat) : TV → TV
  | .os b o n => .os (ρ b) o n
  | .op b i o => .op (ρ b) i o
  | .agg cs => .agg (renTs ρ cs)
  | .tup cs => .tup (renTs ρ cs)
  | .fn f cs => .fn f (renTs ρ cs)
  | .p v => .p v
  | .nl => .nl
  | .s es => .s es
  | .fe e o => .fe e o
  | .any => .any
  | .ub => .ub
def renTs (ρ : Nat → Nat) : List TV → List TV
  | [] => []
  | t :: ts => renT ρ t :: renTs ρ ts
end
/-- The second state says less than the first, and may number its blocks otherwise; the first k blocks keep their numbers. -/
def Le (k : Nat) (s s0 : TSt) : Prop := ∃ ρ : Nat → Nat, (∀ i, i < k → ρ i = i) ∧ k ≤ s0.h.length ∧ (∀ b b', b < s0.h.length → b' < s0.h.length → ρ b = ρ b' → b = b') ∧ (∀ b, s0.h.length ≤ b → s.h.length ≤ ρ b) ∧
  (∀ t, s0.σ t = .any ∨ s.σ t = renT ρ (s0.σ t)) ∧ ∀ b e z es, s0.h[b]? = some (.cells e z es) → s.h[ρ b]? = some (.cells e z (renTs ρ es))

def isBlk : AC → Bool
  | .block _ (.loop _) => true
  | .seq _ b => isBlk b
  | _ => false
def awpT (k : Nat) (Γ : TCtx) : AC → (Exit → TSt → Prop) → TSt → Prop
  | .skip, Q, s => Q .normal s
  | .reg ops, Q, s => ropsT Γ ops (Q .normal) s
  | .drw ops tail, Q, s => qopsT Γ ops (ropsT Γ tail (Q .normal)) s
  | .seq a b, Q, s => awpT k Γ a (fun e s' => match e with
    | .normal => if isBlk a = true then ∃ s0, Le k s' s0 ∧ awpT k Γ b Q s0 else awpT k Γ b Q s'
    | e => Q e s') s
  | .cond c a b, Q, s => match evT s.σ c with
    | .p (.bool t) => if t then awpT k Γ a Q s else awpT k Γ b Q s
    | .ub => awpT k Γ a Q s ∧ awpT k Γ b Q s
    | _ => False
  | .block id a, Q, s => awpT k Γ a (fun e s' => match e with | .exit i => if i = id then Q .normal s' else Q (.exit i) s' | e => Q e s') s
  | .loop a, Q, s => ∃ R : Nat → TSt → Prop, (∃ n s0, Le k s s0 ∧ R n s0) ∧ ∀ n s', R n s' → awpT k Γ a (fun e s'' => match e with | .normal => ∃ m s0, m < n ∧ Le k s'' s0 ∧ R m s0 | e => Q e s'') s'
  | .exit id, Q, s => Q (.exit id) s
  | .ret, Q, s => Q .ret s
  | .bad, _, _ => False

/-! ### How a state of trees stands to a state -/
structure RelT (Φ : Frz) (k : Nat) (φe : Own) (hA0 : Heap) (lo : Nat) (sT : TSt) (sA : St) (φ : Own) : Prop where
  slots : ∀ t, VT φ Φ (sT.σ t) (sA.σ t)
  heap : HT φ Φ sT.h sA.h
  pin : ∀ i, i < k → φ i = φe i
  kle : k ≤ sT.h.length
  new : ∀ b c z, k ≤ b → φ b = some (c, z) → hA0.length ≤ c
  low : ∀ b c z, φ b = some (c, z) → lo ≤ c
  alen : hA0.length ≤ sA.h.length
  fr : ∀ c, c < hA0.length → (∀ i z, i < k → φe i ≠ some (c, z)) → sA.h[c]? = hA0[c]?

section
variable {Φ : Frz} {k lo : Nat} {φe φ : Own} {hA0 : Heap} {Γ : Ctx} {ΓT : TCtx}

theorem evT_ok {σT : Nat → TV} {σ : Nat → Value} (h : ∀ t, VT φ Φ (σT t) (σ t)) (x : Opd) : VT φ Φ (evT σT x) (ev σ x) := by
  cases x with
  | t i => exact h i
  | v v =>
    simp only [evT]
    split
    · exact .fz (ofV_vt ‹_›)
    · exact .fz (.any _)

mutual
theorem VT.unren {ρ : Nat → Nat} : ∀ (t : TV) {v : Value}, VT φ Φ (renT ρ t) v → VT (fun b => φ (ρ b)) Φ t v
  | .os b o n, v, h => by
    simp only [renT] at h
    cases h with
    | fz h => cases h
    | on0 => exact .on0 _ _
    | on1 => exact .on1 _ _ _ _ _ _
    | os h => exact .os h
  | .op b i o, v, h => by
    simp only [renT] at h
    cases h with
    | fz h => cases h
    | op h => exact .op h
  | .agg cs, v, h => by
    simp only [renT] at h
    cases h with
    | fz h => cases h with | agg h => exact .agg (VTs.unren cs (VTs.fz h))
    | agg h => exact .agg (VTs.unren cs h)
  | .tup cs, v, h => by
    simp only [renT] at h
    cases h with
    | fz h => cases h with | tup h => exact .tup (VTs.unren cs (VTs.fz h))
    | tup h => exact .tup (VTs.unren cs h)
  | .fn f cs, v, h => by
    simp only [renT] at h
    cases h with
    | fz h => cases h with | fn h => exact .fn (VTs.unren cs (VTs.fz h))
    | fn h => exact .fn (VTs.unren cs h)
  | .p x, v, h => by simp only [renT] at h; cases h with | fz h => exact .fz h
  | .nl, v, h => by simp only [renT] at h; cases h with | fz h => exact .fz h
  | .s es, v, h => by simp only [renT] at h; cases h with | fz h => exact .fz h
  | .fe e o, v, h => by simp only [renT] at h; cases h with | fz h => exact .fz h
  | .any, v, h => .fz (.any v)
  | .ub, v, h => by simp only [renT] at h; cases h with | fz h => exact .fz h
theorem VTs.unren {ρ : Nat → Nat} : ∀ (ts : List TV) {vs : List Value}, VTs φ Φ (renTs ρ ts) vs → VTs (fun b => φ (ρ b)) Φ ts vs
  | [], vs, h => by simp only [renTs] at h; cases h; exact .nil
  | t :: ts, vs, h => by
    simp only [renTs] at h
    cases h with | cons a b => exact .cons (VT.unren t a) (VTs.unren ts b)
end
theorem ren_cells (ρ : Nat → Nat) (t : TV) : cellsT (renT ρ t) = renTs ρ (cellsT t) := by cases t <;> rfl
theorem renTs_append (ρ : Nat → Nat) (a b : List TV) : renTs ρ (a ++ b) = renTs ρ a ++ renTs ρ b := by
  induction a with
  | nil => rfl
  | cons x a ih => simp [renTs, ih]
theorem renTs_map (ρ : Nat → Nat) (a : List TV) : renTs ρ a = a.map (renT ρ) := by
  induction a with
  | nil => rfl
  | cons x a ih => simp [renTs, ih]
theorem ren_flat (ρ : Nat → Nat) (es : List TV) : flatT (renTs ρ es) = renTs ρ (flatT es) := by
  induction es with
  | nil => rfl
  | cons e es ih => simp only [renTs, flat_cons, ren_cells, ih, renTs_append]
theorem ren_sized (ρ : Nat → Nat) (z : Nat) (es : List TV) : sizedT z (renTs ρ es) = sizedT z es := by
  simp only [sizedT, renTs_map, List.all_map]
  congr 1; funext e
  simp only [Function.comp, ren_cells, renTs_map, List.length_map]

/-- A heap whose blocks bear other numbers. -/
theorem HT.unren {hT hT0 : THeap} {hA : Heap} (H : HT φ Φ hT hA) {ρ : Nat → Nat} (inj : ∀ b b', b < hT0.length → b' < hT0.length → ρ b = ρ b' → b = b') (out : ∀ b, hT0.length ≤ b → hT.length ≤ ρ b)
    (bl : ∀ b e z es, hT0[b]? = some (.cells e z es) → hT[ρ b]? = some (.cells e z (renTs ρ es))) : HT (fun b => φ (ρ b)) Φ hT0 hA := by
  have dom : ∀ b c z, φ (ρ b) = some (c, z) → b < hT0.length := fun b c z h => by
    rcases Nat.lt_or_ge b hT0.length with x | x
    · exact x
    · have h1 := out b x; have h2 := (H.dom _ _ _ h).1; omega
  refine ⟨fun b c z h => ⟨dom b c z h, (H.dom _ _ _ h).2⟩, fun b b' c z z' h h' => inj b b' (dom _ _ _ h) (dom _ _ _ h') (H.inj _ _ _ _ _ h h'), ?_, H.frz, fun b c z cs h h' => H.disj _ c z cs h h'⟩
  intro b e z es h
  rcases H.live _ _ _ _ (bl b e z es h) with ⟨h1, h2⟩ | ⟨c, cs, h1, h2, h3, h4⟩
  · left; refine ⟨h1, ?_⟩
    cases es with
    | nil => rfl
    | cons a l => simp [renTs] at h2
  · right
    rw [ren_sized] at h3
    rw [ren_flat] at h4
    exact ⟨c, cs, h1, h2, h3, VTs.unren _ h4⟩
theorem RelT.le {s s0 : TSt} {sA : St} (R : RelT Φ k φe hA0 lo s sA φ) (L : Le k s s0) : ∃ φ', RelT Φ k φe hA0 lo s0 sA φ' := by
  obtain ⟨ρ, l1, l2, l3, l4, l5, l6⟩ := L
  refine ⟨fun b => φ (ρ b), ?_, R.heap.unren l3 l4 l6, fun i hi => by rw [l1 i hi]; exact R.pin i hi, l2, ?_, fun b c z h => R.low _ c z h, R.alen, R.fr⟩
  · intro t
    rcases l5 t with h | h
    · rw [h]; exact .fz (.any _)
    · have := R.slots t; rw [h] at this; exact VT.unren _ this
  · intro b c z hb h
    by_cases hk : ρ b < k
    · -- then b itself is below k
      exfalso
      have hlt : b < s0.h.length := by
        rcases Nat.lt_or_ge b s0.h.length with x | x
        · exact x
        · have h1 := l4 b x; have h2 := (R.heap.dom _ _ _ h).1; omega
      have := l3 b (ρ b) hlt (by omega) (l1 _ hk).symm
      omega
    · exact R.new _ c z (by omega) h
end
end Go.AH
