import Derived.Test.YtngebdcbcliobaaA19
/-! Values as trees: what a run reads and never writes stands as what it holds; what it makes stands in blocks of its own. -/
namespace Go.AH

inductive TV where
  | p (v : Value)
  | nl
  | s (es : List TV)
  | fe (e : TV) (o : Nat)
  | os (b o n : Nat)
  | op (b i o : Nat)
  | agg (cs : List TV)
  | tup (cs : List TV)
  | fn (f : Nat) (cs : List TV)
  | any
  | ub
inductive TB where
  | cells (e : TypeId) (z : Nat) (es : List TV)
  | dead
abbrev THeap := List TB

def cellsT : TV → List TV
  | .agg cs => cs
  | v => [v]
def flatT (es : List TV) : List TV := es.flatMap cellsT
def sizedT (z : Nat) (es : List TV) : Bool := es.all fun e => (cellsT e).length == z
def oneT : TV → Bool
  | .agg _ | .tup _ | .any => false
  | _ => true
def el : List TV → TV
  | [c] => c
  | cs => .agg cs
def ofV1 : Value → TV
  | .slice none 0 0 => .nl
  | .func (.func f) ⟨[]⟩ ⟨[]⟩ => .fn f []
  | v => .p v
def ofV : Value → TV
  | .agg ⟨cs⟩ => .agg (cs.map ofV1)
  | .tuple ⟨[]⟩ => .tup []
  | v => ofV1 v

abbrev Frz := Nat → Option (List Value)
abbrev Own := Nat → Option (Nat × Nat)

mutual
/-- A tree that holds what is never written. -/
inductive VF (Φ : Frz) : TV → Value → Prop
  | any (v) : VF Φ .any v
  | ub (b) : VF Φ .ub (.bool b)
  | p {v} : plainV v = true → VF Φ (.p v) v
  | nl0 : VF Φ .nl (.slice none 0 0)
  | nl1 (b o s c) : VF Φ .nl (.slice (some ⟨b, o, some s⟩) 0 c)
  | s0 : VF Φ (.s []) (.slice none 0 0)
  | s1 (b o s c) : VF Φ (.s []) (.slice (some ⟨b, o, some s⟩) 0 c)
  | s {es c off cs cap z} : Φ c = some cs → off + es.length * z ≤ cs.length → sizedT z es = true → VFs Φ (flatT es) ((cs.drop off).take (es.length * z)) →
      VF Φ (.s es) (.slice (some ⟨c, off, none⟩) es.length cap)
  | fe {e o c off cs} : Φ c = some cs → off + (cellsT e).length ≤ cs.length → VFs Φ (cellsT e) ((cs.drop off).take (cellsT e).length) → VF Φ (.fe e o) (.pointer (some ⟨c, off + o, none⟩))
  | agg {ts vs} : VFs Φ ts vs → VF Φ (.agg ts) (.agg ⟨vs⟩)
  | tup {ts vs} : VFs Φ ts vs → VF Φ (.tup ts) (.tuple ⟨vs⟩)
  | fn {f ts vs} : VFs Φ ts vs → VF Φ (.fn f ts) (.func (.func f) ⟨[]⟩ ⟨vs⟩)
inductive VFs (Φ : Frz) : List TV → List Value → Prop
  | nil : VFs Φ [] []
  | cons {t v ts vs} : VF Φ t v → VFs Φ ts vs → VFs Φ (t :: ts) (v :: vs)
end

mutual
inductive VT (φ : Own) (Φ : Frz) : TV → Value → Prop
  | fz {t v} : VF Φ t v → VT φ Φ t v
  | os {b o n c z cap} : φ b = some (c, z) → VT φ Φ (.os b o n) (.slice (some ⟨c, o * z, none⟩) n cap)
  | on0 (b o) : VT φ Φ (.os b o 0) (.slice none 0 0)
  | on1 (b o x y s c) : VT φ Φ (.os b o 0) (.slice (some ⟨x, y, some s⟩) 0 c)
  | op {b i o c z} : φ b = some (c, z) → VT φ Φ (.op b i o) (.pointer (some ⟨c, i * z + o, none⟩))
  | agg {ts vs} : VTs φ Φ ts vs → VT φ Φ (.agg ts) (.agg ⟨vs⟩)
  | tup {ts vs} : VTs φ Φ ts vs → VT φ Φ (.tup ts) (.tuple ⟨vs⟩)
  | fn {f ts vs} : VTs φ Φ ts vs → VT φ Φ (.fn f ts) (.func (.func f) ⟨[]⟩ ⟨vs⟩)
inductive VTs (φ : Own) (Φ : Frz) : List TV → List Value → Prop
  | nil : VTs φ Φ [] []
  | cons {t v ts vs} : VT φ Φ t v → VTs φ Φ ts vs → VTs φ Φ (t :: ts) (v :: vs)
end

section
variable {φ φ' : Own} {Φ Φ' : Frz}

theorem VTs.fz : ∀ {ts : List TV} {vs : List Value}, VFs Φ ts vs → VTs φ Φ ts vs
  | [], _, h => by cases h; exact .nil
  | _ :: _, _, h => by cases h with | cons a b => exact .cons (.fz a) (VTs.fz b)

theorem VF.mono (h : ∀ c cs, Φ c = some cs → Φ' c = some cs) {t : TV} {v : Value} (r : VF Φ t v) : VF Φ' t v :=
  VF.rec (motive_1 := fun t v _ => VF Φ' t v) (motive_2 := fun ts vs _ => VFs Φ' ts vs)
    .any .ub .p .nl0 .nl1 .s0 .s1 (fun a b c _ d => .s (h _ _ a) b c d) (fun a b _ c => .fe (h _ _ a) b c) (fun _ a => .agg a) (fun _ a => .tup a) (fun _ a => .fn a) .nil (fun _ _ a b => .cons a b) r
theorem VFs.mono (h : ∀ c cs, Φ c = some cs → Φ' c = some cs) : ∀ {t : List TV} {v : List Value}, VFs Φ t v → VFs Φ' t v
  | [], _, r => by cases r; exact .nil
  | _ :: _, _, r => by cases r with | cons a b => exact .cons (VF.mono h a) (VFs.mono h b)
theorem VT.mono (h : ∀ b x, φ b = some x → φ' b = some x) {t : TV} {v : Value} (r : VT φ Φ t v) : VT φ' Φ t v :=
  VT.rec (motive_1 := fun t v _ => VT φ' Φ t v) (motive_2 := fun ts vs _ => VTs φ' Φ ts vs)
    .fz (fun a => .os (h _ _ a)) .on0 .on1 (fun a => .op (h _ _ a)) (fun _ a => .agg a) (fun _ a => .tup a) (fun _ a => .fn a) .nil (fun _ _ a b => .cons a b) r
theorem VTs.mono (h : ∀ b x, φ b = some x → φ' b = some x) : ∀ {t : List TV} {v : List Value}, VTs φ Φ t v → VTs φ' Φ t v
  | [], _, r => by cases r; exact .nil
  | _ :: _, _, r => by cases r with | cons a b => exact .cons (VT.mono h a) (VTs.mono h b)

theorem VTs.length {ts : List TV} {vs : List Value} (h : VTs φ Φ ts vs) : ts.length = vs.length := by
  induction ts generalizing vs with
  | nil => cases h; rfl
  | cons a l ih => cases h with | cons _ t => simp [ih t]
theorem VTs.get {ts : List TV} {vs : List Value} (h : VTs φ Φ ts vs) (i : Nat) (t : TV) (ht : ts[i]? = some t) : ∃ v, vs[i]? = some v ∧ VT φ Φ t v := by
  induction ts generalizing vs i with
  | nil => simp at ht
  | cons a l ih =>
    cases h with
    | cons ha hl =>
      cases i with
      | zero => simp at ht; subst ht; exact ⟨_, rfl, ha⟩
      | succ i => simp at ht; simpa using ih hl i ht
theorem VTs.append {a b : List TV} {a' b' : List Value} (h : VTs φ Φ a a') (k : VTs φ Φ b b') : VTs φ Φ (a ++ b) (a' ++ b') := by
  induction a generalizing a' with
  | nil => cases h; exact k
  | cons x a ih => cases h with | cons p q => exact .cons p (ih q)
theorem VTs.drop {a : List TV} {a' : List Value} (h : VTs φ Φ a a') (n : Nat) : VTs φ Φ (a.drop n) (a'.drop n) := by
  induction n generalizing a a' with
  | zero => simpa
  | succ n ih => cases h with | nil => simpa using VTs.nil | cons p q => simpa using ih q
theorem VTs.take {a : List TV} {a' : List Value} (h : VTs φ Φ a a') (n : Nat) : VTs φ Φ (a.take n) (a'.take n) := by
  induction n generalizing a a' with
  | zero => simpa using VTs.nil
  | succ n ih => cases h with | nil => simpa using VTs.nil | cons p q => simpa using VTs.cons p (ih q)
theorem VTs.set {a : List TV} {a' : List Value} (h : VTs φ Φ a a') (i : Nat) {t : TV} {v : Value} (hv : VT φ Φ t v) : VTs φ Φ (a.set i t) (a'.set i v) := by
  induction a generalizing a' i with
  | nil => cases h; simpa using VTs.nil
  | cons x a ih => cases h with | cons p q => cases i with | zero => exact .cons hv q | succ i => exact .cons p (ih q i)
theorem VTs.map {α : Type} (l : List α) (f : α → TV) (g : α → Value) (h : ∀ x ∈ l, VT φ Φ (f x) (g x)) : VTs φ Φ (l.map f) (l.map g) := by
  induction l with
  | nil => exact .nil
  | cons a l ih => exact .cons (h _ (by simp)) (ih fun x hx => h x (by simp [hx]))

theorem ofV1_vt {v : Value} (h : plainV v = true) : VF Φ (ofV1 v) v := by
  unfold ofV1
  split
  · exact .nl0
  · exact .fn .nil
  · exact .p h
theorem plain_cells {v : Value} (h : plainV v = true) : cellsL v = [v] ∧ one v = true := by
  unfold plainV at h
  split at h <;> first | exact ⟨rfl, rfl⟩ | cases h
theorem ofV_vt {v : Value} (h : closedV v = true) : VF Φ (ofV v) v := by
  unfold closedV at h
  split at h
  · rename_i cs
    unfold ofV
    refine .agg ?_
    have h' : ∀ x ∈ cs, plainV x = true := by simpa using h
    clear h
    induction cs with
    | nil => exact .nil
    | cons a l ih => exact .cons (ofV1_vt (h' a (by simp))) (ih fun x hx => h' x (by simp [hx]))
  · exact .tup .nil
  · rename_i h1 h2
    have : ofV v = ofV1 v := by
      unfold ofV
      split
      · exact absurd rfl (h1 _)
      · exact absurd rfl h2
      · rfl
    rw [this]; exact ofV1_vt h

theorem VF.one {t : TV} {v : Value} (h : VF Φ t v) (k : oneT t = true) : AH.one v = true ∧ cellsL v = [v] := by
  cases h with
  | any => cases k
  | p h => exact (plain_cells h).symm
  | agg => cases k
  | tup => cases k
  | _ => exact ⟨rfl, rfl⟩
theorem VT.one {t : TV} {v : Value} (h : VT φ Φ t v) (k : oneT t = true) : AH.one v = true ∧ cellsL v = [v] := by
  cases h with
  | fz a => exact a.one k
  | agg => cases k
  | tup => cases k
  | _ => exact ⟨rfl, rfl⟩
theorem VTs.ones {ts : List TV} {vs : List Value} (h : VTs φ Φ ts vs) (k : ts.all oneT = true) : vs.all AH.one = true := by
  induction ts generalizing vs with
  | nil => cases h; rfl
  | cons a l ih =>
    cases h with
    | cons p q =>
      simp only [List.all_cons, Bool.and_eq_true] at k ⊢
      exact ⟨(p.one k.1).1, ih q k.2⟩
/-- A value whose cells are all of one cell. -/
theorem VT.cells {t : TV} {v : Value} (h : VT φ Φ t v) (k : (cellsT t).all oneT = true) : VTs φ Φ (cellsT t) (cellsL v) := by
  have key : oneT t = true → cellsT t = [t] → VTs φ Φ (cellsT t) (cellsL v) := fun k1 e => by
    rw [e, (h.one k1).2]; exact .cons h .nil
  cases t with
  | agg cs =>
    cases h with
    | fz a => cases a with | agg a => exact VTs.fz a
    | agg a => exact a
  | any => simp [cellsT, oneT] at k
  | tup => simp [cellsT, oneT] at k
  | _ => exact key rfl rfl
theorem el_cells {cs : List TV} (h : cs.all oneT = true) : cellsT (el cs) = cs := by
  unfold el
  split
  · rename_i c
    simp only [List.all_cons, List.all_nil, Bool.and_true] at h
    cases c <;> first | rfl | cases h
  · rfl
end
end Go.AH
