import Derived.Test.YtbddhlhpakbcdaaLA
import Derived.ChangeArms
set_option linter.unusedVariables false
set_option linter.unusedSimpArgs false
/-! Values as trees: what a run reads and never writes stands as what it holds; what it makes stands in blocks of its own. -/
namespace Go.AH

inductive TV where
  | p (v : Value)
  | nl
  | s (es : List TV)
  | fe (e : TV) (o : Nat)
  | os (b o n : Nat)
  | op (b i o : Nat)
  | agg (cs : List TV)
  | tup (cs : List TV)
  | fn (f : Nat) (cs : List TV)
  | any
  | ub
inductive TB where
  | cells (e : TypeId) (z : Nat) (es : List TV)
  | dead
abbrev THeap := List TB

def cellsT : TV → List TV
  | .agg cs => cs
  | v => [v]
def flatT (es : List TV) : List TV := es.flatMap cellsT
def sizedT (z : Nat) (es : List TV) : Bool := es.all fun e => (cellsT e).length == z
def oneT : TV → Bool
  | .agg _ | .tup _ | .any => false
  | _ => true
def el : List TV → TV
  | [c] => c
  | cs => .agg cs
def ofV1 : Value → TV
  | .slice none 0 0 => .nl
  | .func (.func f) ⟨[]⟩ ⟨[]⟩ => .fn f []
  | v => .p v
def ofV : Value → TV
  | .agg ⟨cs⟩ => .agg (cs.map ofV1)
  | .tuple ⟨[]⟩ => .tup []
  | v => ofV1 v

abbrev Frz := Nat → Option (List Value)
abbrev Own := Nat → Option (Nat × Nat)

mutual
/-- A tree that holds what is never written. -/
inductive VF (Φ : Frz) : TV → Value → Prop
  | any (v) : VF Φ .any v
  | ub (b) : VF Φ .ub (.bool b)
  | p {v} : plainV v = true → VF Φ (.p v) v
  | nl0 : VF Φ .nl (.slice none 0 0)
  | nl1 (b o s c) : VF Φ .nl (.slice (some ⟨b, o, some s⟩) 0 c)
  | s0 : VF Φ (.s []) (.slice none 0 0)
  | s1 (b o s c) : VF Φ (.s []) (.slice (some ⟨b, o, some s⟩) 0 c)
  | s {es c off cs cap z} : Φ c = some cs → off + es.length * z ≤ cs.length → sizedT z es = true → VFs Φ (flatT es) ((cs.drop off).take (es.length * z)) →
      VF Φ (.s es) (.slice (some ⟨c, off, none⟩) es.length cap)
  | fe {e o c off cs} : Φ c = some cs → off + (cellsT e).length ≤ cs.length → VFs Φ (cellsT e) ((cs.drop off).take (cellsT e).length) → VF Φ (.fe e o) (.pointer (some ⟨c, off + o, none⟩))
  | agg {ts vs} : VFs Φ ts vs → VF Φ (.agg ts) (.agg ⟨vs⟩)
  | tup {ts vs} : VFs Φ ts vs → VF Φ (.tup ts) (.tuple ⟨vs⟩)
  | fn {f ts vs} : VFs Φ ts vs → VF Φ (.fn f ts) (.func (.func f) ⟨[]⟩ ⟨vs⟩)
inductive VFs (Φ : Frz) : List TV → List Value → Prop
  | nil : VFs Φ [] []
  | cons {t v ts vs} : VF Φ t v → VFs Φ ts vs → VFs Φ (t :: ts) (v :: vs)
end

mutual
inductive VT (φ : Own) (Φ : Frz) : TV → Value → Prop
  | fz {t v} : VF Φ t v → VT φ Φ t v
  | os {b o n c z cap} : φ b = some (c, z) → VT φ Φ (.os b o n) (.slice (some ⟨c, o * z, none⟩) n cap)
  | on0 (b o) : VT φ Φ (.os b o 0) (.slice none 0 0)
  | on1 (b o x y s c) : VT φ Φ (.os b o 0) (.slice (some ⟨x, y, some s⟩) 0 c)
  | op {b i o c z} : φ b = some (c, z) → VT φ Φ (.op b i o) (.pointer (some ⟨c, i * z + o, none⟩))
  | agg {ts vs} : VTs φ Φ ts vs → VT φ Φ (.agg ts) (.agg ⟨vs⟩)
  | tup {ts vs} : VTs φ Φ ts vs → VT φ Φ (.tup ts) (.tuple ⟨vs⟩)
  | fn {f ts vs} : VTs φ Φ ts vs → VT φ Φ (.fn f ts) (.func (.func f) ⟨[]⟩ ⟨vs⟩)
inductive VTs (φ : Own) (Φ : Frz) : List TV → List Value → Prop
  | nil : VTs φ Φ [] []
  | cons {t v ts vs} : VT φ Φ t v → VTs φ Φ ts vs → VTs φ Φ (t :: ts) (v :: vs)
end

section
variable {φ φ' : Own} {Φ Φ' : Frz}

theorem VTs.fz : ∀ {ts : List TV} {vs : List Value}, VFs Φ ts vs → VTs φ Φ ts vs
  | [], _, h => by cases h; exact .nil
  | _ :: _, _, h => by cases h with | cons a b => exact .cons (.fz a) (VTs.fz b)

theorem VF.mono (h : ∀ c cs, Φ c = some cs → Φ' c = some cs) {t : TV} {v : Value} (r : VF Φ t v) : VF Φ' t v :=
  VF.rec (motive_1 := fun t v _ => VF Φ' t v) (motive_2 := fun ts vs _ => VFs Φ' ts vs)
    .any .ub .p .nl0 .nl1 .s0 .s1 (fun a b c _ d => .s (h _ _ a) b c d) (fun a b _ c => .fe (h _ _ a) b c) (fun _ a => .agg a) (fun _ a => .tup a) (fun _ a => .fn a) .nil (fun _ _ a b => .cons a b) r
theorem VFs.mono (h : ∀ c cs, Φ c = some cs → Φ' c = some cs) : ∀ {t : List TV} {v : List Value}, VFs Φ t v → VFs Φ' t v
  | [], _, r => by cases r; exact .nil
  | _ :: _, _, r => by cases r with | cons a b => exact .cons (VF.mono h a) (VFs.mono h b)
theorem VT.mono (h : ∀ b x, φ b = some x → φ' b = some x) {t : TV} {v : Value} (r : VT φ Φ t v) : VT φ' Φ t v :=
  VT.rec (motive_1 := fun t v _ => VT φ' Φ t v) (motive_2 := fun ts vs _ => VTs φ' Φ ts vs)
    .fz (fun a => .os (h _ _ a)) .on0 .on1 (fun a => .op (h _ _ a)) (fun _ a => .agg a) (fun _ a => .tup a) (fun _ a => .fn a) .nil (fun _ _ a b => .cons a b) r
theorem VTs.mono (h : ∀ b x, φ b = some x → φ' b = some x) : ∀ {t : List TV} {v : List Value}, VTs φ Φ t v → VTs φ' Φ t v
  | [], _, r => by cases r; exact .nil
  | _ :: _, _, r => by cases r with | cons a b => exact .cons (VT.mono h a) (VTs.mono h b)

theorem VTs.length {ts : List TV} {vs : List Value} (h : VTs φ Φ ts vs) : ts.length = vs.length := by
  induction ts generalizing vs with
  | nil => cases h; rfl
  | cons a l ih => cases h with | cons _ t => simp [ih t]
theorem VTs.get {ts : List TV} {vs : List Value} (h : VTs φ Φ ts vs) (i : Nat) (t : TV) (ht : ts[i]? = some t) : ∃ v, vs[i]? = some v ∧ VT φ Φ t v := by
  induction ts generalizing vs i with
  | nil => simp at ht
  | cons a l ih =>
    cases h with
    | cons ha hl =>
      cases i with
      | zero => simp at ht; subst ht; exact ⟨_, rfl, ha⟩
      | succ i => simp at ht; simpa using ih hl i ht
theorem VTs.append {a b : List TV} {a' b' : List Value} (h : VTs φ Φ a a') (k : VTs φ Φ b b') : VTs φ Φ (a ++ b) (a' ++ b') := by
  induction a generalizing a' with
  | nil => cases h; exact k
  | cons x a ih => cases h with | cons p q => exact .cons p (ih q)
theorem VTs.drop {a : List TV} {a' : List Value} (h : VTs φ Φ a a') (n : Nat) : VTs φ Φ (a.drop n) (a'.drop n) := by
  induction n generalizing a a' with
  | zero => simpa
  | succ n ih => cases h with | nil => simpa using VTs.nil | cons p q => simpa using ih q
theorem VTs.take {a : List TV} {a' : List Value} (h : VTs φ Φ a a') (n : Nat) : VTs φ Φ (a.take n) (a'.take n) := by
  induction n generalizing a a' with
  | zero => simpa using VTs.nil
  | succ n ih => cases h with | nil => simpa using VTs.nil | cons p q => simpa using VTs.cons p (ih q)
theorem VTs.set {a : List TV} {a' : List Value} (h : VTs φ Φ a a') (i : Nat) {t : TV} {v : Value} (hv : VT φ Φ t v) : VTs φ Φ (a.set i t) (a'.set i v) := by
  induction a generalizing a' i with
  | nil => cases h; simpa using VTs.nil
  | cons x a ih => cases h with | cons p q => cases i with | zero => exact .cons hv q | succ i => exact .cons p (ih q i)
theorem VTs.map {α : Type} (l : List α) (f : α → TV) (g : α → Value) (h : ∀ x ∈ l, VT φ Φ (f x) (g x)) : VTs φ Φ (l.map f) (l.map g) := by
  induction l with
  | nil => exact .nil
  | cons a l ih => exact .cons (h _ (by simp)) (ih fun x hx => h x (by simp [hx]))

theorem ofV1_vt {v : Value} (h : plainV v = true) : VF Φ (ofV1 v) v := by
  unfold ofV1
  split
  · exact .nl0
  · exact .fn .nil
  · exact .p h
theorem plain_cells {v : Value} (h : plainV v = true) : cellsL v = [v] ∧ one v = true := by
  unfold plainV at h
  split at h <;> first | exact ⟨rfl, rfl⟩ | cases h
theorem ofV_vt {v : Value} (h : closedV v = true) : VF Φ (ofV v) v := by
  unfold closedV at h
  split at h
  · rename_i cs
    unfold ofV
    refine .agg ?_
    have h' : ∀ x ∈ cs, plainV x = true := by simpa using h
    clear h
    induction cs with
    | nil => exact .nil
    | cons a l ih => exact .cons (ofV1_vt (h' a (by simp))) (ih fun x hx => h' x (by simp [hx]))
  · exact .tup .nil
  · rename_i h1 h2
    have : ofV v = ofV1 v := by
      unfold ofV
      split
      · exact absurd rfl (h1 _)
      · exact absurd rfl h2
      · rfl
    rw [this]; exact ofV1_vt h

theorem VF.one {t : TV} {v : Value} (h : VF Φ t v) (k : oneT t = true) : AH.one v = true ∧ cellsL v = [v] := by
  cases h with
  | any => cases k
  | p h => exact (plain_cells h).symm
  | agg => cases k
  | tup => cases k
  | _ => exact ⟨rfl, rfl⟩
theorem VT.one {t : TV} {v : Value} (h : VT φ Φ t v) (k : oneT t = true) : AH.one v = true ∧ cellsL v = [v] := by
  cases h with
  | fz a => exact a.one k
  | agg => cases k
  | tup => cases k
  | _ => exact ⟨rfl, rfl⟩
theorem VTs.ones {ts : List TV} {vs : List Value} (h : VTs φ Φ ts vs) (k : ts.all oneT = true) : vs.all AH.one = true := by
  induction ts generalizing vs with
  | nil => cases h; rfl
  | cons a l ih =>
    cases h with
    | cons p q =>
      simp only [List.all_cons, Bool.and_eq_true] at k ⊢
      exact ⟨(p.one k.1).1, ih q k.2⟩
/-- A value whose cells are all of one cell. -/
theorem VT.cells {t : TV} {v : Value} (h : VT φ Φ t v) (k : (cellsT t).all oneT = true) : VTs φ Φ (cellsT t) (cellsL v) := by
  have key : oneT t = true → cellsT t = [t] → VTs φ Φ (cellsT t) (cellsL v) := fun k1 e => by
    rw [e, (h.one k1).2]; exact .cons h .nil
  cases t with
  | agg cs =>
    cases h with
    | fz a => cases a with | agg a => exact VTs.fz a
    | agg a => exact a
  | any => simp [cellsT, oneT] at k
  | tup => simp [cellsT, oneT] at k
  | _ => exact key rfl rfl
theorem el_cells {cs : List TV} (h : cs.all oneT = true) : cellsT (el cs) = cs := by
  unfold el
  split
  · rename_i c
    simp only [List.all_cons, List.all_nil, Bool.and_true] at h
    cases c <;> first | rfl | cases h
  · rfl
end
end Go.AH
namespace Go.AH

/-! Lists of elements and their cells -/
theorem sized_iff {z : Nat} {es : List TV} : sizedT z es = true ↔ ∀ e ∈ es, (cellsT e).length = z := by simp [sizedT]
theorem flat_cons (e : TV) (es : List TV) : flatT (e :: es) = cellsT e ++ flatT es := by simp [flatT]
theorem flat_append (a b : List TV) : flatT (a ++ b) = flatT a ++ flatT b := by simp [flatT]
theorem flatT_len {z : Nat} : ∀ {es : List TV}, sizedT z es = true → (flatT es).length = es.length * z
  | [], _ => by simp [flatT]
  | e :: es, h => by
    have h' := sized_iff.1 h
    rw [flat_cons, List.length_append, h' e (by simp), flatT_len (z := z) (es := es) (sized_iff.2 fun x hx => h' x (by simp [hx])), List.length_cons, Nat.add_mul]; omega
theorem sized_sub {z : Nat} {es fs : List TV} (h : sizedT z es = true) (hs : ∀ x ∈ fs, x ∈ es) : sizedT z fs = true := sized_iff.2 fun x hx => sized_iff.1 h x (hs x hx)
theorem sized_drop {z : Nat} {es : List TV} (h : sizedT z es = true) (k : Nat) : sizedT z (es.drop k) = true := sized_sub h fun _ hx => List.mem_of_mem_drop hx
theorem sized_take {z : Nat} {es : List TV} (h : sizedT z es = true) (k : Nat) : sizedT z (es.take k) = true := sized_sub h fun _ hx => List.mem_of_mem_take hx
theorem sized_append {z : Nat} {a b : List TV} (h : sizedT z a = true) (k : sizedT z b = true) : sizedT z (a ++ b) = true := sized_iff.2 fun x hx => by
  rcases List.mem_append.1 hx with hx | hx
  · exact sized_iff.1 h x hx
  · exact sized_iff.1 k x hx
theorem flat_drop {z : Nat} {es : List TV} (h : sizedT z es = true) : ∀ k, flatT (es.drop k) = (flatT es).drop (k * z) := by
  induction es with
  | nil => intro k; simp [flatT]
  | cons e es ih =>
    intro k
    cases k with
    | zero => simp
    | succ k =>
      have h' := sized_iff.1 h
      have he := h' e (by simp)
      rw [List.drop_succ_cons, ih (sized_iff.2 fun x hx => h' x (by simp [hx])) k, flat_cons, List.drop_append, he]
      rw [List.drop_eq_nil_of_le (as := cellsT e) (by rw [he, Nat.add_mul]; omega), List.nil_append]
      congr 1; rw [Nat.add_mul]; omega
theorem flat_take {z : Nat} {es : List TV} (h : sizedT z es = true) : ∀ k, flatT (es.take k) = (flatT es).take (k * z) := by
  induction es with
  | nil => intro k; simp [flatT]
  | cons e es ih =>
    intro k
    cases k with
    | zero => simp [flatT]
    | succ k =>
      have h' := sized_iff.1 h
      have he := h' e (by simp)
      rw [List.take_succ_cons, flat_cons, ih (sized_iff.2 fun x hx => h' x (by simp [hx])) k, flat_cons, List.take_append, he]
      rw [List.take_of_length_le (l := cellsT e) (by rw [he, Nat.add_mul]; omega)]
      congr 2; rw [Nat.add_mul]; omega
theorem flat_cut {z : Nat} {es : List TV} (h : sizedT z es = true) {i : Nat} {e : TV} (he : es[i]? = some e) : ((flatT es).drop (i * z)).take z = cellsT e := by
  have hlt := (List.getElem?_eq_some_iff.1 he).1
  have hee := (List.getElem?_eq_some_iff.1 he).2
  have hl : (cellsT e).length = z := sized_iff.1 h e (List.mem_of_getElem? he)
  rw [← flat_drop h, List.drop_eq_getElem_cons hlt, flat_cons, hee, List.take_append, List.take_of_length_le (by omega), show z - (cellsT e).length = 0 by omega, List.take_zero, List.append_nil]
def setG {α : Type} (cs : List α) (off : Nat) : List α → List α
  | [] => cs
  | v :: vs => setG (cs.set off v) (off + 1) vs
theorem setAt_G (cs : List Value) (o : Nat) (vs : List Value) : setAt cs o vs = setG cs o vs := by
  induction vs generalizing cs o with
  | nil => rfl
  | cons v vs ih => simp [setAt, setG, ih]
theorem setG_eq {α : Type} (vs : List α) : ∀ (cs : List α) (o : Nat), o + vs.length ≤ cs.length → setG cs o vs = cs.take o ++ vs ++ cs.drop (o + vs.length) := by
  induction vs with
  | nil => intro cs o _; simp [setG]
  | cons v vs ih =>
    intro cs o h
    simp only [List.length_cons] at h
    have hlt : o < cs.length := by omega
    rw [setG, ih _ _ (by simp; omega), List.take_set, List.drop_set, if_pos (by omega)]
    rw [List.take_succ_eq_append_getElem hlt, List.set_append_right _ _ (by simp; omega)]
    have e1 : min o cs.length = o := by omega
    simp only [List.length_take, e1, Nat.sub_self, List.set_cons_zero, List.append_assoc, List.cons_append, List.nil_append, List.length_cons]
    rw [show o + (vs.length + 1) = o + 1 + vs.length by omega]
theorem setG_len {α : Type} (vs : List α) : ∀ (cs : List α) (o : Nat), (setG cs o vs).length = cs.length := by
  induction vs with
  | nil => intro cs o; rfl
  | cons v vs ih => intro cs o; simp [setG, ih]
def setE (e : TV) (o : Nat) (v : TV) : TV := if o = 0 ∧ (cellsT v).length = (cellsT e).length then v else el (setG (cellsT e) o (cellsT v))
theorem setG_all {α : Type} (p : α → Bool) (vs : List α) : ∀ (cs : List α) (o : Nat), cs.all p = true → vs.all p = true → (setG cs o vs).all p = true := by
  induction vs with
  | nil => intro cs o h _; exact h
  | cons v vs ih =>
    intro cs o h k
    simp only [List.all_cons, Bool.and_eq_true] at k
    refine ih _ _ ?_ k.2
    rw [List.all_eq_true] at h ⊢
    intro x hx
    rcases List.mem_or_eq_of_mem_set hx with hx | hx
    · exact h x hx
    · subst hx; exact k.1
theorem setE_cells {e v : TV} {o : Nat} (h1 : (cellsT e).all oneT = true) (h2 : (cellsT v).all oneT = true) (hle : o + (cellsT v).length ≤ (cellsT e).length) : cellsT (setE e o v) = setG (cellsT e) o (cellsT v) := by
  unfold setE
  split
  · rename_i hc
    obtain ⟨rfl, hc⟩ := hc
    rw [setG_eq _ _ _ hle]; simp [hc]
  · exact el_cells (setG_all _ _ _ _ h1 h2)
theorem flat_set {z : Nat} {es : List TV} (h : sizedT z es = true) {i o : Nat} {e e' : TV} {vs : List TV} (he : es[i]? = some e) (he' : cellsT e' = setG (cellsT e) o vs) (hle : o + vs.length ≤ z) :
    flatT (es.set i e') = setG (flatT es) (i * z + o) vs ∧ sizedT z (es.set i e') = true := by
  have hlt := (List.getElem?_eq_some_iff.1 he).1
  have hee := (List.getElem?_eq_some_iff.1 he).2
  have hl : (cellsT e).length = z := sized_iff.1 h e (List.mem_of_getElem? he)
  have hfl := flatT_len h
  have hiz : i * z + z ≤ es.length * z := by have := Nat.mul_le_mul_right z (show i + 1 ≤ es.length by omega); rw [Nat.add_mul] at this; omega
  constructor
  · rw [setG_eq _ _ _ (by rw [hfl]; omega), List.set_eq_take_append_cons_drop, if_pos hlt]
    have e2 : flatT es = flatT (es.take i) ++ (cellsT e ++ flatT (es.drop (i + 1))) := by
      rw [← hee, ← flat_cons, ← flat_append]
      congr 1
      rw [← List.drop_eq_getElem_cons hlt, List.take_append_drop]
    have hti : (flatT (es.take i)).length = i * z := by rw [flatT_len (sized_take h i), List.length_take, Nat.min_eq_left (by omega)]
    rw [flat_append, flat_cons, he', setG_eq _ _ _ (by omega), e2]
    rw [List.take_append, List.drop_append, hti]
    rw [List.take_of_length_le (l := flatT (es.take i)) (by omega), List.drop_eq_nil_of_le (as := flatT (es.take i)) (by omega)]
    rw [show i * z + o - i * z = o by omega, show i * z + o + vs.length - i * z = o + vs.length by omega]
    rw [List.take_append_of_le_length (by omega), List.drop_append_of_le_length (by omega)]
    simp [List.append_assoc]
  · refine sized_iff.2 fun x hx => ?_
    rcases List.mem_or_eq_of_mem_set hx with hx | hx
    · exact sized_iff.1 h x hx
    · subst hx; rw [he', setG_len]; exact hl

section
variable {φ : Own} {Φ : Frz}
theorem VTs.setG {a : List TV} {a' : List Value} (h : VTs φ Φ a a') : ∀ {vs : List TV} {vs' : List Value} (o : Nat), VTs φ Φ vs vs' → VTs φ Φ (AH.setG a o vs) (AH.setG a' o vs')
  | [], _, o, k => by cases k; exact h
  | _ :: _, _, o, k => by cases k with | cons p q => exact VTs.setG (h.set o p) (o + 1) q
end
end Go.AH
namespace Go.AH

/-- Any block may be written; blocks from n on. -/
def anyB : Nat → Bool := fun _ => true
def fromB (n : Nat) : Nat → Bool := fun b => decide (n ≤ b)
/-- What a callee answers: as a function, where it writes nothing of its caller's; told by a relation otherwise. -/
structure TSp where
  fn : (Nat → Bool) → List TV → THeap → Option (TV × THeap)
  rel : List TV → THeap → TV → THeap → Prop
  ex : List TV → THeap → (TV → THeap → Prop) → Prop
abbrev TCtx := List (Nat × TSp)
def TCtx.get : TCtx → Nat → Option TSp
  | [], _ => none
  | (g, s) :: r, f => if f = g then some s else TCtx.get r f
def evT (σ : Nat → TV) : Opd → TV
  | .t i => σ i
  | .v x => if closedV x = true then ofV x else .any
def getIT : TV → Option Int
  | .p (.int _ n) => some n
  | _ => none
def getBT : TV → Option Bool
  | .p (.bool b) => some b
  | _ => none
def rdT (h : THeap) : TV → Option (List TV)
  | .nl => some []
  | .s es => some es
  | .os b o n => match h[b]? with
    | some (.cells _ _ es) => if o + n ≤ es.length then some ((es.drop o).take n) else none
    | _ => none
  | _ => none
/-- The element at which a pointer points, and the cell in it. -/
def elT (h : THeap) : TV → Option (TV × Nat)
  | .op b i o => match h[b]? with
    | some (.cells _ _ es) => (es[i]?).map fun e => (e, o)
    | _ => none
  | .fe e o => some (e, o)
  | _ => none
def aggE : TV → TV
  | .agg cs => .agg cs
  | v => .agg [v]
def elAt (e : TV) (o n : Nat) : Option TV :=
  if o = 0 ∧ (cellsT e).length = n then some (aggE e) else if o + n ≤ (cellsT e).length then some (.agg (((cellsT e).drop o).take n)) else none
def fillT (z : List TV) : List (Nat × Nat × TV) → Option (List TV)
  | [] => some z
  | (off, n, v) :: r => if (cellsT v).length = n ∧ off + n ≤ z.length ∧ (cellsT v).all oneT = true then fillT (z.take off ++ cellsT v ++ z.drop (off + n)) r else none
def chunksT (k : Nat) : Nat → List TV → List TV
  | 0, _ => []
  | n + 1, cs => el (cs.take k) :: chunksT k n (cs.drop k)
def mkEls (ρ : Opd → TV) (n : Nat) (z : List Value) (ps : List (Nat × Nat × Opd)) : Option (List TV) :=
  match n, ps with
  | 1, [(0, k, x)] => if k = z.length ∧ (cellsT (ρ x)).length = k ∧ (cellsT (ρ x)).all oneT = true then some [ρ x] else none
  | n, ps => (fillT (z.map ofV1) (ps.map fun p => (p.1, p.2.1, ρ p.2.2))).bind fun cs => if z.all plainV = true ∧ cs.all oneT = true ∧ cs.length = n * (z.length / n) then some (chunksT (z.length / n) n cs) else none
def optIT (ρ : Opd → TV) (dft : Int) : Option Opd → Option Int
  | none => some dft
  | some x => getIT (ρ x)
def zAt (h : THeap) (b z : Nat) : Bool := match h[b]? with
  | some (.cells _ z' _) => z' == z
  | _ => false
def u8T : TV → Option UInt8
  | .p v => u8of v
  | _ => none
def pB (op : BinOp) : TV → TV → Option Value
  | .p a, .p b => abin op a b
  | _, _ => none
def pU (op : UnOp) : TV → Option Value
  | .p a => aun op a
  | _ => none
def pI (x i : TV) : Option Value := match x, getIT i with
  | .p (.string s), some i => if 0 ≤ i then (s[i.toNat]?).map fun b => .int .u8 b.toNat else none
  | _, _ => none

def eqTs : List EK → List TV → List TV → Option Bool
  | [], [], [] => some true
  | k :: ks, .p x :: xs, .p y :: ys => (eqC k x y).bind fun b => (eqTs ks xs ys).map fun c => b && c
  | _, _, _ => none
def mmT (mx : Bool) : TV → TV → Option Value
  | .p (.int k a), .p (.int _ b) => some (.int k (if mx then (if b > a then b else a) else (if b < a then b else a)))
  | _, _ => none
/-- The block of a map. -/
def getMT : TV → Option Nat
  | .fn f [.op b 0 0] => if f = setF then some b else none
  | _ => none
/-- The keys of a map. -/
def keysT (h : THeap) (b : Nat) : Option (List (List Int)) := match h[b]? with
  | some (.cells e 0 []) => setK e
  | _ => none
def i64T : TV → Option Int
  | .p (.int .i64 n) => some n
  | _ => none
def keyT : TV → Option (List Int)
  | .p (.int .i64 n) => some [n]
  | .agg cs => if 2 ≤ cs.length then cs.mapM i64T else none
  | _ => none
def top (Γ : TCtx) (tlo : Nat → Bool) (ρ : Opd → TV) (h : THeap) : AOp → Option (TV × THeap)
  | .mv x => some (ρ x, h)
  | .pick c a b => (getBT (ρ c)).map fun t => (if t then ρ a else ρ b, h)
  | .alloc e z => if z.all plainV = true ∧ z.all one = true then some (.op h.length 0 0, h ++ [.cells e z.length [el (z.map ofV1)]]) else none
  | .box e x => if (cellsT (ρ x)).all oneT = true then some (.op h.length 0 0, h ++ [.cells e (cellsT (ρ x)).length [ρ x]]) else none
  | .build z ps => if z.all plainV = true then (fillT (z.map ofV1) (ps.map fun p => (p.1, p.2.1, ρ p.2.2))).map fun cs => (.agg cs, h) else none
  | .mkS e n z ps => (mkEls ρ n z ps).map fun es => (.os h.length 0 n, h ++ [.cells e (z.length / n) es])
  | .mkE => some (.nl, h)
  | .ld x => (elT h (ρ x)).bind fun p => ((cellsT p.1)[p.2]?).map fun v => (v, h)
  | .ldn n x => (elT h (ρ x)).bind fun p => (elAt p.1 p.2 n).map fun v => (v, h)
  | .st n x v => match ρ x with
    | .op b i o => match h[b]? with
      | some (.cells e z es) => (es[i]?).bind fun e0 => if tlo b = true ∧ (cellsT (ρ v)).length = n ∧ o + n ≤ (cellsT e0).length ∧ (cellsT (ρ v)).all oneT = true ∧ (cellsT e0).all oneT = true
          then some (.tup [], h.set b (.cells e z (es.set i (setE e0 o (ρ v))))) else none
      | _ => none
    | _ => none
  | .bin op x y => (pB op (ρ x) (ρ y)).map fun v => (.p v, h)
  | .un op x => (pU op (ρ x)).map fun v => (.p v, h)
  | .eqB neg x y => (getBT (ρ x)).bind fun a => (getBT (ρ y)).map fun b => (.p (.bool (if neg then !(a == b) else a == b)), h)
  | .eqN neg x => match ρ x with
    | .s es => if 0 < es.length then some (.p (.bool neg), h) else some (.ub, h)
    | .os _ _ n => if 0 < n then some (.p (.bool neg), h) else some (.ub, h)
    | .nl => some (.ub, h)
    | _ => none
  | .cvI k x => (getIT (ρ x)).map fun n => (.p (.int k (k.wrap n)), h)
  | .cvBS x => (rdT h (ρ x)).bind fun es => (es.mapM u8T).map fun bs => (.p (.string ⟨⟨bs⟩⟩), h)
  | .sl z x lo hi => match ρ x with
    | .s es => (optIT ρ 0 lo).bind fun l => (optIT ρ es.length hi).bind fun r => if 0 ≤ l ∧ l ≤ r ∧ r ≤ es.length ∧ sizedT z es = true then some (.s ((es.drop l.toNat).take (r - l).toNat), h) else none
    | .os b o n => (optIT ρ 0 lo).bind fun l => (optIT ρ n hi).bind fun r => if 0 ≤ l ∧ l ≤ r ∧ r ≤ n ∧ (l = 0 ∨ zAt h b z = true) then some (.os b (o + l.toNat) (r - l).toNat, h) else none
    | .nl => (optIT ρ 0 lo).bind fun l => (optIT ρ 0 hi).bind fun r => if l = 0 ∧ r = 0 then some (.nl, h) else none
    | _ => none
  | .slT x lo hi => match ρ x with
    | .p (.string s) => (optIT ρ 0 lo).bind fun l => (optIT ρ s.size hi).bind fun r => if 0 ≤ l ∧ l ≤ r ∧ r ≤ s.size then some (.p (.string (s.extract l.toNat r.toNat)), h) else none
    | _ => none
  | .fa x off => match ρ x with
    | .op b i o => some (.op b i (o + off), h)
    | .fe e o => some (.fe e (o + off), h)
    | _ => none
  | .fld x off => match ρ x with
    | .agg cs => (cs[off]?).map fun v => (v, h)
    | _ => none
  | .fldn n x off => match ρ x with
    | .agg cs => if off + n ≤ cs.length then some (.agg ((cs.drop off).take n), h) else none
    | _ => none
  | .ia z x i => (getIT (ρ i)).bind fun i => match ρ x with
    | .s es => if 0 ≤ i then (es[i.toNat]?).bind fun e => if (cellsT e).length = z then some (.fe e 0, h) else none else none
    | .os b o n => if 0 ≤ i ∧ i < n ∧ zAt h b z = true then some (.op b (o + i.toNat) 0, h) else none
    | _ => none
  | .ix x i => (pI (ρ x) (ρ i)).map fun v => (.p v, h)
  | .fn f cs => some (.fn f (cs.map ρ), h)
  | .ext x i => match ρ x with
    | .tup vs => (vs[i]?).map fun v => (v, h)
    | _ => none
  | .nilc x => match ρ x with
    | .op b i o => some (.op b i o, h)
    | .fe e o => some (.fe e o, h)
    | _ => none
  | .len x => match ρ x with
    | .s es => some (.p (.int .i64 es.length), h)
    | .os _ _ n => some (.p (.int .i64 n), h)
    | .nl => some (.p (.int .i64 0), h)
    | _ => none
  | .lenT x => match ρ x with
    | .p (.string s) => some (.p (.int .i64 s.size), h)
    | _ => none
  | .app e z bts x y => (rdT h (ρ y)).bind fun ys => match ρ x with
    | .nl => if sizedT z ys = true ∧ ys.length * bts ≤ 140737488355328 ∧ ys.length ≤ maxLen then some (.os h.length 0 ys.length, h ++ [.cells e z ys]) else none
    | .os b o n => match h[b]? with
      | some (.cells e' z' es) => if o = 0 ∧ n ≤ es.length ∧ tlo b = true ∧ e' = e ∧ (z' = z ∨ n = 0) ∧ sizedT z ys = true ∧ (n + ys.length) * bts ≤ 140737488355328 ∧ n + ys.length ≤ maxLen
          then some (.os h.length 0 (n + ys.length), h.set b .dead ++ [.cells e z (es.take n ++ ys)]) else none
      | _ => none
    | _ => none
  | .mkSl e z bts zc l c => (getIT (ρ l)).bind fun l => (getIT (ρ c)).bind fun c => if 0 ≤ l ∧ l ≤ c ∧ bts * c ≤ 281474976710656 ∧ c ≤ maxLen ∧ zc.all plainV = true ∧ zc.all one = true then
      some (.os h.length 0 l.toNat, h ++ [.cells e zc.length (List.replicate c.toNat (el (zc.map ofV1)))]) else none
  | .apz e _ bts zc x l => (getIT (ρ l)).bind fun n => match ρ x with
    | .nl => if 0 < n ∧ n * bts ≤ 140737488355328 ∧ n ≤ maxLen ∧ zc.all plainV = true ∧ zc.all one = true then some (.os h.length 0 n.toNat, h ++ [.cells e zc.length (List.replicate n.toNat (el (zc.map ofV1)))]) else none
    | _ => none
  | .fail => none
  | .eqS neg ks x y => match ρ x, ρ y with
    | .agg xs, .agg ys => (eqTs ks xs ys).map fun b => (.p (.bool (if neg then !b else b)), h)
    | _, _ => none
  | .capZ x => match ρ x with
    | .nl => some (.p (.int .i64 0), h)
    | _ => none
  | .mm mx x y => (mmT mx (ρ x) (ρ y)).map fun v => (.p v, h)
  | .cpy z x y => (rdT h (ρ y)).bind fun ys => match ρ x with
    | .os b o n => match h[b]? with
      | some (.cells e z' es) => if tlo b = true ∧ z' = z ∧ sizedT z ys = true ∧ n ≠ 0 ∧ o + n ≤ es.length then
          some (.p (.int .i64 (min ys.length n : Nat)), h.set b (.cells e z' (es.take o ++ (ys.take (min ys.length n) ++ es.drop (o + min ys.length n))))) else none
      | _ => none
    | _ => none
  | .call f as => (Γ.get f).bind fun s => s.fn tlo (as.map ρ) h
  | .callv x as => match ρ x with
    | .fn f cs => (Γ.get f).bind fun s => s.fn tlo (as.map ρ ++ cs) h
    | _ => none
  | .mkM => some (.fn setF [.op h.length 0 0], h ++ [.cells (setT []) 0 []])
  | .getM n x k => (getMT (ρ x)).bind fun b => (keysT h b).bind fun K => (keyT (ρ k)).bind fun l => if l.length = n ∧ K.all (fun m => m.length == n) = true then some (.p (.bool (K.contains l)), h) else none
  | .putM n x k => (getMT (ρ x)).bind fun b => (keysT h b).bind fun K => (keyT (ρ k)).bind fun l => if tlo b = true ∧ l.length = n ∧ K.all (fun m => m.length == n) = true then some (.tup [], h.set b (.cells (setT (K ++ [l])) 0 [])) else none
  | .eqP neg x => match ρ x with
    | .op _ _ _ => some (.p (.bool neg), h)
    | .fe _ _ => some (.p (.bool neg), h)
    | .p (.pointer none) => some (.p (.bool !neg), h)
    | _ => none
  | .ixA n x i => (getIT (ρ i)).bind fun j => match ρ x with
    | .agg cs => if 0 ≤ j ∧ j < n then (cs[j.toNat]?).map fun v => (v, h) else none
    | _ => none

/-! ### How a heap of trees stands to a heap -/
structure HT (φ : Own) (Φ : Frz) (hT : THeap) (hA : Heap) : Prop where
  dom : ∀ b c z, φ b = some (c, z) → b < hT.length ∧ c < hA.length
  inj : ∀ b b' c z z', φ b = some (c, z) → φ b' = some (c, z') → b = b'
  live : ∀ b e z es, hT[b]? = some (.cells e z es) → (φ b = none ∧ es = []) ∨ ∃ c cs, φ b = some (c, z) ∧ hA[c]? = some (.cells e cs) ∧ sizedT z es = true ∧ VTs φ Φ (flatT es) cs
  frz : ∀ c cs, Φ c = some cs → ∃ e, hA[c]? = some (.cells e cs)
  disj : ∀ b c z cs, φ b = some (c, z) → Φ c = some cs → False
structure Adv (tlo : Nat → Bool) (φ φ' : Own) (hT hT' : THeap) (hA hA' : Heap) : Prop where
  tlen : hT.length ≤ hT'.length
  old : ∀ b, b < hT.length → φ' b = φ b
  new : ∀ b c z, hT.length ≤ b → φ' b = some (c, z) → hA.length ≤ c
  alen : hA.length ≤ hA'.length
  fr : ∀ c, c < hA.length → (∀ b z, tlo b = true → φ b ≠ some (c, z)) → hA'[c]? = hA[c]?
def Snd (Φ : Frz) (φ : Own) (tlo : Nat → Bool) (hT hT' : THeap) (hA : Heap) (tv : TV) (r : Option (Value × Heap)) : Prop :=
  ∃ v hA' φ', r = some (v, hA') ∧ VT φ' Φ tv v ∧ HT φ' Φ hT' hA' ∧ Adv tlo φ φ' hT hT' hA hA'

section
variable {φ φ' : Own} {Φ : Frz} {hT hT' : THeap} {hA hA' : Heap} {tlo : Nat → Bool}

theorem HT.fresh (H : HT φ Φ hT hA) (b : Nat) (hb : hT.length ≤ b) : φ b = none := by
  cases h : φ b with
  | none => rfl
  | some x => have := (H.dom b x.1 x.2 h).1; omega
theorem Adv.refl (H : HT φ Φ hT hA) : Adv tlo φ φ hT hT hA hA := ⟨Nat.le_refl _, fun _ _ => rfl, fun b c z hb h => (by rw [H.fresh b hb] at h; cases h), Nat.le_refl _, fun _ _ _ => rfl⟩
theorem Adv.ext (A : Adv tlo φ φ' hT hT' hA hA') (H : HT φ Φ hT hA) : ∀ b x, φ b = some x → φ' b = some x := fun b x h => by
  rw [A.old b (H.dom b x.1 x.2 h).1]; exact h
theorem Adv.trans {φ'' : Own} {hT'' : THeap} {hA'' : Heap} (H : HT φ Φ hT hA) (A : Adv tlo φ φ' hT hT' hA hA') (A' : Adv tlo φ' φ'' hT' hT'' hA' hA'') : Adv tlo φ φ'' hT hT'' hA hA'' := by
  refine ⟨Nat.le_trans A.tlen A'.tlen, fun b hb => (A'.old b (by have := A.tlen; omega)).trans (A.old b hb), ?_, Nat.le_trans A.alen A'.alen, ?_⟩
  · intro b c z hb h
    by_cases hlt : b < hT'.length
    · rw [A'.old b hlt] at h; exact A.new b c z hb h
    · exact Nat.le_trans A.alen (A'.new b c z (by omega) h)
  · intro c hc hn
    rw [← A.fr c hc hn]
    refine A'.fr c (by have := A.alen; omega) fun b z hb h => ?_
    by_cases hlt : b < hT.length
    · rw [A.old b hlt] at h; exact hn b z hb h
    · have := A.new b c z (by omega) h; omega
theorem Snd.same {tv : TV} {v : Value} (H : HT φ Φ hT hA) (hv : VT φ Φ tv v) : Snd Φ φ tlo hT hT hA tv (some (v, hA)) := ⟨v, hA, φ, rfl, hv, H, Adv.refl H⟩

/-- One block more; the block b may die. -/
theorem grow (H : HT φ Φ hT hA) (hT1 : THeap) (hA1 : Heap) (hl : hT1.length = hT.length) (hla : hA1.length = hA.length)
    (hliveT : ∀ b e z es, hT1[b]? = some (.cells e z es) → hT[b]? = some (.cells e z es) ∧ ∀ c z, φ b = some (c, z) → hA1[c]? = hA[c]?)
    (hfz : ∀ c cs, Φ c = some cs → hA1[c]? = hA[c]?)
    (hfr : ∀ c, (∀ b z, tlo b = true → φ b ≠ some (c, z)) → hA1[c]? = hA[c]?)
    {e : TypeId} {z : Nat} {es : List TV} {cs : List Value} (hs : sizedT z es = true) (hv : VTs φ Φ (flatT es) cs) :
    ∃ φ', HT φ' Φ (hT1 ++ [.cells e z es]) (hA1 ++ [.cells e cs]) ∧ Adv tlo φ φ' hT (hT1 ++ [.cells e z es]) hA (hA1 ++ [.cells e cs]) ∧ φ' hT.length = some (hA.length, z) := by
  let φ' : Own := fun b => if b = hT.length then some (hA.length, z) else φ b
  have ext : ∀ b x, φ b = some x → φ' b = some x := fun b x h => by
    have := (H.dom b x.1 x.2 h).1
    simp only [φ']; rw [if_neg (by omega)]; exact h
  have inv : ∀ b x, φ' b = some x → (b = hT.length ∧ x = (hA.length, z)) ∨ (b < hT.length ∧ φ b = some x) := fun b x h => by
    simp only [φ'] at h
    split at h
    · cases h; exact .inl ⟨‹_›, rfl⟩
    · exact .inr ⟨(H.dom b x.1 x.2 h).1, h⟩
  refine ⟨φ', ⟨?_, ?_, ?_, ?_, ?_⟩, ⟨by simp; omega, ?_, ?_, by simp; omega, ?_⟩, by simp [φ']⟩
  · intro b c z' h
    rcases inv b _ h with ⟨rfl, hx⟩ | ⟨h1, h2⟩
    · cases hx; simp; omega
    · have := H.dom b c z' h2; simp; omega
  · intro b b' c z1 z2 h h'
    rcases inv b _ h with ⟨rfl, hx⟩ | ⟨h1, h2⟩
    · cases hx
      rcases inv b' _ h' with ⟨rfl, hx'⟩ | ⟨h1', h2'⟩
      · rfl
      · have := (H.dom _ _ _ h2').2; omega
    · rcases inv b' _ h' with ⟨rfl, hx'⟩ | ⟨h1', h2'⟩
      · cases hx'; have := (H.dom _ _ _ h2).2; omega
      · exact H.inj b b' c z1 z2 h2 h2'
  · intro b e1 z1 es1 h
    by_cases hlt : b < hT1.length
    · rw [List.getElem?_append_left hlt] at h
      obtain ⟨h1, h2⟩ := hliveT b e1 z1 es1 h
      rcases H.live b e1 z1 es1 h1 with ⟨k1, k2⟩ | ⟨c, cs1, k1, k2, k3, k4⟩
      · left; refine ⟨?_, k2⟩; simp only [φ']; rw [if_neg (by omega)]; exact k1
      · right
        have := (H.dom _ _ _ k1).2
        exact ⟨c, cs1, ext _ _ k1, by rw [List.getElem?_append_left (by omega), h2 c z1 k1]; exact k2, k3, k4.mono ext⟩
    · by_cases hb : b = hT1.length
      · subst hb
        rw [List.getElem?_append_right (Nat.le_refl _)] at h
        simp at h
        obtain ⟨rfl, rfl, rfl⟩ := h
        right
        refine ⟨hA.length, cs, by simp [φ', hl], ?_, hs, hv.mono ext⟩
        rw [← hla, List.getElem?_append_right (Nat.le_refl _)]; simp
      · rw [List.getElem?_eq_none (by simp; omega)] at h; cases h
  · intro c cs1 h
    obtain ⟨e1, h1⟩ := H.frz c cs1 h
    have hlt := (List.getElem?_eq_some_iff.1 h1).1
    exact ⟨e1, by rw [List.getElem?_append_left (by omega), hfz c cs1 h]; exact h1⟩
  · intro b c z1 cs1 h h'
    rcases inv b _ h with ⟨rfl, hx⟩ | ⟨h1, h2⟩
    · cases hx
      obtain ⟨e1, k1⟩ := H.frz _ cs1 h'
      have := (List.getElem?_eq_some_iff.1 k1).1; omega
    · exact H.disj b c z1 cs1 h2 h'
  · intro b hb; simp only [φ']; rw [if_neg (by omega)]
  · intro b c z1 hb h
    rcases inv b _ h with ⟨rfl, hx⟩ | ⟨h1, h2⟩
    · cases hx; exact Nat.le_refl _
    · omega
  · intro c hc hn
    rw [List.getElem?_append_left (by omega)]; exact hfr c hn
theorem grow0 (H : HT φ Φ hT hA) {e : TypeId} {z : Nat} {es : List TV} {cs : List Value} (hs : sizedT z es = true) (hv : VTs φ Φ (flatT es) cs) :
    ∃ φ', HT φ' Φ (hT ++ [.cells e z es]) (hA ++ [.cells e cs]) ∧ Adv tlo φ φ' hT (hT ++ [.cells e z es]) hA (hA ++ [.cells e cs]) ∧ φ' hT.length = some (hA.length, z) :=
  grow H hT hA rfl rfl (fun _ _ _ _ h => ⟨h, fun _ _ _ => rfl⟩) (fun _ _ _ => rfl) (fun _ _ => rfl) hs hv
/-- A block of no cells that stands for no block. -/
theorem growN (H : HT φ Φ hT hA) (hT1 : THeap) (hl : hT1.length = hT.length) (hliveT : ∀ (b : Nat) (e : TypeId) (z : Nat) (es : List TV), hT1[b]? = some (TB.cells e z es) → hT[b]? = some (TB.cells e z es)) (e : TypeId) (z : Nat) :
    HT φ Φ (hT1 ++ [.cells e z []]) hA ∧ Adv tlo φ φ hT (hT1 ++ [.cells e z []]) hA hA := by
  refine ⟨⟨?_, H.inj, ?_, H.frz, H.disj⟩, ⟨(by simp; omega), fun _ _ => rfl, fun b c z hb h => (by rw [H.fresh b hb] at h; cases h), Nat.le_refl _, fun _ _ _ => rfl⟩⟩
  · intro b c z h; have := H.dom b c z h; simp; omega
  · intro b e1 z1 es1 h
    by_cases hlt : b < hT1.length
    · rw [List.getElem?_append_left hlt] at h
      exact H.live b e1 z1 es1 (hliveT b e1 z1 es1 h)
    · by_cases hb : b = hT1.length
      · subst hb
        rw [List.getElem?_append_right (Nat.le_refl _)] at h
        simp at h
        exact .inl ⟨H.fresh _ (by omega), h.2.2⟩
      · rw [List.getElem?_eq_none (by simp; omega)] at h; cases h
end
end Go.AH
namespace Go.AH

section
variable {φ φ' : Own} {Φ : Frz} {hT hT' : THeap} {hA hA' : Heap} {tlo : Nat → Bool} {lo : Nat}

theorem VT.p_inv {v x : Value} (h : VT φ Φ (.p v) x) : x = v ∧ plainV v = true := by
  cases h with | fz h => cases h with | p h => exact ⟨rfl, h⟩
theorem getIT_ok {t : TV} {v : Value} {n : Int} (h : VT φ Φ t v) (k : getIT t = some n) : getI v = some n := by
  unfold getIT at k; split at k
  · cases k; rw [h.p_inv.1]; rfl
  · cases k
theorem getBT_ok {t : TV} {v : Value} {n : Bool} (h : VT φ Φ t v) (k : getBT t = some n) : getB v = some n := by
  unfold getBT at k; split at k
  · cases k; rw [h.p_inv.1]; rfl
  · cases k
theorem optIT_ok {ρT : Opd → TV} {ρA : Opd → Value} (hρ : ∀ x, VT φ Φ (ρT x) (ρA x)) {d : Int} {x : Option Opd} {n : Int} (k : optIT ρT d x = some n) : optI ρA d x = some n := by
  cases x with
  | none => exact k
  | some x => exact getIT_ok (hρ x) k

/-- What a slice holds. -/
theorem rdT_ok (H : HT φ Φ hT hA) {t : TV} {v : Value} (hv : VT φ Φ t v) {es : List TV} (hr : rdT hT t = some es) {z : Nat} (hz : sizedT z es = true) :
    ∃ cs a c, v = .slice a es.length c ∧ rdS hA z v = some cs ∧ VTs φ Φ (flatT es) cs := by
  cases t with
  | nl =>
    simp only [rdT] at hr; cases hr
    cases hv with
    | fz h =>
      cases h with
      | nl0 => exact ⟨[], _, _, rfl, rfl, .nil⟩
      | nl1 b o s c => exact ⟨[], _, _, rfl, rfl, .nil⟩
  | s es' =>
    simp only [rdT] at hr; cases hr
    cases hv with
    | fz h =>
      cases h with
      | s0 => exact ⟨[], _, _, rfl, rfl, .nil⟩
      | s1 b o s c => exact ⟨[], _, _, rfl, rfl, .nil⟩
      | s h1 h2 h3 h4 =>
        rename_i c off cs cap z'
        obtain ⟨e, he⟩ := H.frz _ _ h1
        have hzz : es.length * z' = es.length * z := by
          cases es with
          | nil => simp
          | cons a l => rw [← sized_iff.1 hz a (by simp), sized_iff.1 h3 a (by simp)]
        rw [hzz] at h2 h4
        exact ⟨_, _, _, rfl, by simp only [rdS, he]; rw [if_pos h2], VTs.fz h4⟩
  | os b o n =>
    simp only [rdT] at hr
    split at hr
    · rename_i e z0 es0 hb
      split at hr
      · rename_i hle; cases hr
        have hn : ((es0.drop o).take n).length = n := by simp; omega
        cases hv with
        | fz h => cases h
        | on0 => rw [hn]; exact ⟨[], none, 0, rfl, rfl, by simpa [flatT] using VTs.nil⟩
        | on1 b o x y s c => rw [hn]; exact ⟨[], _, _, rfl, rfl, by simpa [flatT] using VTs.nil⟩
        | os h1 =>
          rename_i c z1 cap
          rcases H.live b e z0 es0 hb with ⟨k1, _⟩ | ⟨c', cs, k1, k2, k3, k4⟩
          · rw [h1] at k1; cases k1
          · rw [h1] at k1; cases k1
            have hl := k4.length
            rw [flatT_len k3] at hl
            have hzz : n * z0 = n * z := by
              cases n with
              | zero => simp
              | succ n =>
                have hm : es0[o] ∈ (es0.drop o).take (n + 1) := by
                  rw [List.drop_eq_getElem_cons (by omega), List.take_succ_cons]; exact List.mem_cons_self
                rw [← sized_iff.1 hz _ hm, sized_iff.1 k3 _ (by simp)]
            have hoz : o * z0 + n * z0 ≤ es0.length * z0 := by rw [← Nat.add_mul]; exact Nat.mul_le_mul_right _ hle
            rw [hn]
            refine ⟨(cs.drop (o * z0)).take (n * z), _, _, rfl, ?_, ?_⟩
            · simp only [rdS, k2]; rw [if_pos (by omega)]
            · rw [flat_take (sized_drop k3 o), flat_drop k3 o, hzz]
              exact (k4.drop _).take _
      · cases hr
    · cases hr
  | _ => simp [rdT] at hr

/-- What a pointer points at. -/
theorem elT_ok (H : HT φ Φ hT hA) {t : TV} {v : Value} (hv : VT φ Φ t v) {e : TV} {o : Nat} (hr : elT hT t = some (e, o)) :
    ∃ b base ty cs, getP v = some (b, base + o) ∧ hA[b]? = some (.cells ty cs) ∧ base + (cellsT e).length ≤ cs.length ∧ VTs φ Φ (cellsT e) ((cs.drop base).take (cellsT e).length) := by
  cases t with
  | op b i o' =>
    simp only [elT] at hr
    split at hr
    · rename_i ty z es hb
      obtain ⟨e', he, hr⟩ := Option.map_eq_some_iff.1 hr
      cases hr
      cases hv with
      | fz h => cases h
      | op h1 =>
        rename_i c z1
        rcases H.live b ty z es hb with ⟨k1, _⟩ | ⟨c', cs, k1, k2, k3, k4⟩
        · rw [h1] at k1; cases k1
        · rw [h1] at k1; cases k1
          have hl := k4.length
          rw [flatT_len k3] at hl
          have hcl : (cellsT e).length = z := sized_iff.1 k3 e (List.mem_of_getElem? he)
          have hlt := (List.getElem?_eq_some_iff.1 he).1
          have hiz : i * z + z ≤ es.length * z := by have := Nat.mul_le_mul_right z (show i + 1 ≤ es.length by omega); rw [Nat.add_mul] at this; omega
          refine ⟨c, i * z, ty, cs, rfl, k2, by omega, ?_⟩
          rw [hcl, ← flat_cut k3 he]
          exact (k4.drop _).take _
    · cases hr
  | fe e' o' =>
    simp only [elT] at hr; cases hr
    cases hv with
    | fz h =>
      cases h with
      | fe h1 h2 h3 =>
        rename_i c off cs
        obtain ⟨ty, hy⟩ := H.frz _ _ h1
        exact ⟨c, off, ty, cs, rfl, hy, h2, VTs.fz h3⟩
  | _ => simp [elT] at hr

theorem fillT_ok : ∀ (ps : List (Nat × Nat × Opd)) (ρT : Opd → TV) (ρA : Opd → Value) (z : List TV) (zA : List Value) (cs : List TV), (∀ x, VT φ Φ (ρT x) (ρA x)) → VTs φ Φ z zA →
    fillT z (ps.map fun p => (p.1, p.2.1, ρT p.2.2)) = some cs → ∃ csA, fillL zA (ps.map fun p => (p.1, p.2.1, ρA p.2.2)) = some csA ∧ VTs φ Φ cs csA
  | [], ρT, ρA, z, zA, cs, hρ, hz, h => by simp [fillT] at h; subst h; exact ⟨zA, rfl, hz⟩
  | (off, n, x) :: r, ρT, ρA, z, zA, cs, hρ, hz, h => by
    simp only [List.map_cons, fillT] at h
    split at h
    · rename_i hc
      have hx := (hρ x).cells hc.2.2
      have hxl := hx.length
      have hzl := hz.length
      obtain ⟨csA, h1, h2⟩ := fillT_ok r ρT ρA _ (zA.take off ++ cellsL (ρA x) ++ zA.drop (off + n)) cs hρ (((hz.take _).append hx).append (hz.drop _)) h
      refine ⟨csA, ?_, h2⟩
      simp only [List.map_cons, fillL]
      rw [if_pos ⟨by omega, by omega⟩]; exact h1
    · cases h
theorem ofV1s_ok {z : List Value} (h : z.all plainV = true) : VTs φ Φ (z.map ofV1) z := by
  induction z with
  | nil => exact .nil
  | cons a l ih => simp only [List.all_cons, Bool.and_eq_true] at h; exact .cons (.fz (ofV1_vt h.1)) (ih h.2)
theorem ofV1_one {v : Value} (h : one v = true) : oneT (ofV1 v) = true := by
  unfold ofV1; split <;> rfl
theorem ofV1s_one {z : List Value} (h : z.all one = true) : (z.map ofV1).all oneT = true := by
  simp only [List.all_map, List.all_eq_true] at h ⊢
  intro x hx; exact ofV1_one (h x hx)
theorem chunks_ok (k : Nat) : ∀ (n : Nat) (cs : List TV), cs.length = n * k → cs.all oneT = true → flatT (chunksT k n cs) = cs ∧ sizedT k (chunksT k n cs) = true ∧ (chunksT k n cs).length = n
  | 0, cs, h, _ => by
    have : cs = [] := List.eq_nil_of_length_eq_zero (by simpa using h)
    subst this; exact ⟨rfl, rfl, rfl⟩
  | n + 1, cs, h, ho => by
    have h1 : (cs.take k).all oneT = true := by rw [List.all_eq_true] at ho ⊢; intro x hx; exact ho x (List.mem_of_mem_take hx)
    have h2 : (cs.drop k).all oneT = true := by rw [List.all_eq_true] at ho ⊢; intro x hx; exact ho x (List.mem_of_mem_drop hx)
    have hl : (cs.drop k).length = n * k := by rw [List.length_drop, h, Nat.add_mul]; omega
    obtain ⟨e1, e2, e3⟩ := chunks_ok k n (cs.drop k) hl h2
    refine ⟨?_, ?_, by simp [chunksT, e3]⟩
    · rw [chunksT, flat_cons, el_cells h1, e1, List.take_append_drop]
    · rw [chunksT, sized_iff]
      intro x hx
      rcases List.mem_cons.1 hx with rfl | hx
      · rw [el_cells h1, List.length_take, h, Nat.add_mul]; omega
      · exact sized_iff.1 e2 x hx
theorem aggE_ok {e : TV} {vs : List Value} (h : VTs φ Φ (cellsT e) vs) : VT φ Φ (aggE e) (.agg ⟨vs⟩) := by
  cases e with
  | agg cs => exact .agg h
  | _ => exact .agg h
theorem elAt_ok {e : TV} {o n : Nat} {t : TV} {vs : List Value} (h : VTs φ Φ (cellsT e) vs) (k : elAt e o n = some t) : VT φ Φ t (.agg ⟨(vs.drop o).take n⟩) ∧ o + n ≤ (cellsT e).length := by
  unfold elAt at k
  split at k
  · rename_i hc
    obtain ⟨rfl, hn⟩ := hc
    cases k
    have hl := h.length
    rw [List.drop_zero, List.take_of_length_le (by omega)]
    exact ⟨aggE_ok h, by omega⟩
  · split at k
    · cases k; exact ⟨.agg ((h.drop o).take n), by assumption⟩
    · cases k
theorem u8s_ok : ∀ {es : List TV} {bs : List UInt8} {cs : List Value}, es.mapM u8T = some bs → sizedT 1 es = true ∧ (VTs φ Φ (flatT es) cs → cs.mapM u8of = some bs)
  | [], bs, cs, h => by
    simp at h; subst h
    exact ⟨rfl, fun k => by cases k; rfl⟩
  | e :: es, bs, cs, h => by
    simp only [List.mapM_cons] at h
    cases h1 : u8T e with
    | none => simp [h1] at h
    | some b =>
      cases h2 : es.mapM u8T with
      | none => simp [h1, h2] at h
      | some bs' =>
        simp [h1, h2] at h; subst h
        have hp : ∃ v, e = .p v ∧ u8of v = some b := by
          unfold u8T at h1; split at h1
          · exact ⟨_, rfl, h1⟩
          · cases h1
        obtain ⟨v, rfl, hv⟩ := hp
        refine ⟨?_, fun k => ?_⟩
        · have := (u8s_ok (cs := []) h2).1
          simp only [sizedT, List.all_cons, cellsT, List.length_cons, List.length_nil, Bool.and_eq_true, beq_self_eq_true, true_and] at this ⊢; exact this
        · rw [flat_cons] at k
          cases k with
          | cons a b =>
            obtain ⟨rfl, _⟩ := a.p_inv
            have := (u8s_ok h2).2 b
            simp [List.mapM_cons, hv, this]

/-- A store. -/
theorem HT.set (H : HT φ Φ hT hA) {b c z : Nat} {e e' : TypeId} {es es' : List TV} {cs cs' : List Value} (hb : hT[b]? = some (.cells e z es)) (hc : φ b = some (c, z)) (hcA : hA[c]? = some (.cells e cs))
    (hs : sizedT z es' = true) (hv : VTs φ Φ (flatT es') cs') (hlo : tlo b = true) :
    HT φ Φ (hT.set b (.cells e' z es')) (hA.set c (.cells e' cs')) ∧ Adv tlo φ φ hT (hT.set b (.cells e' z es')) hA (hA.set c (.cells e' cs')) := by
  have hbl := (List.getElem?_eq_some_iff.1 hb).1
  have hcl := (List.getElem?_eq_some_iff.1 hcA).1
  refine ⟨⟨?_, H.inj, ?_, ?_, H.disj⟩, ⟨by simp, fun _ _ => rfl, fun b c z hb h => (by rw [H.fresh b hb] at h; cases h), by simp, ?_⟩⟩
  · intro b' c' z' h; have := H.dom b' c' z' h; simpa using this
  · intro b' e1 z1 es1 h
    by_cases hbb : b' = b
    · subst hbb
      rw [List.getElem?_set_self hbl] at h
      cases h
      exact .inr ⟨c, cs', hc, List.getElem?_set_self hcl, hs, hv⟩
    · rw [List.getElem?_set_ne (fun x => hbb x.symm)] at h
      rcases H.live b' e1 z1 es1 h with k | ⟨c1, cs1, k1, k2, k3, k4⟩
      · exact .inl k
      · refine .inr ⟨c1, cs1, k1, ?_, k3, k4⟩
        rw [List.getElem?_set_ne (fun x => hbb (H.inj b' b c1 z1 z k1 (by rw [← x]; exact hc)))]
        exact k2
  · intro c1 cs1 h
    obtain ⟨e1, he⟩ := H.frz c1 cs1 h
    refine ⟨e1, ?_⟩
    rw [List.getElem?_set_ne (fun x => H.disj b c z cs1 hc (by rw [x]; exact h))]
    exact he
  · intro c1 _ hn
    exact List.getElem?_set_ne (fun x => hn b z hlo (by rw [hc, x]))
end

def CompatT (spA : Sp) (tsp : TSp) : Prop := (∀ (φ : Own) (Φ : Frz) (hT : THeap) (hA : Heap) (lo : Nat) (tlo : Nat → Bool) (targs : List TV) (args : List Value) (tv : TV) (hT' : THeap), HT φ Φ hT hA →
  (∀ b c z, tlo b = true → φ b = some (c, z) → lo ≤ c) → lo ≤ hA.length → VTs φ Φ targs args → tsp.fn tlo targs hT = some (tv, hT') → Snd Φ φ tlo hT hT' hA tv (spA lo args hA)) ∧
  (∀ (φ : Own) (Φ : Frz) (hT : THeap) (hA : Heap) (lo : Nat) (targs : List TV) (args : List Value) (tv : TV) (hT' : THeap), HT φ Φ hT hA →
  (∀ b c z, φ b = some (c, z) → lo ≤ c) → lo ≤ hA.length → VTs φ Φ targs args → tsp.rel targs hT tv hT' → Snd Φ φ anyB hT hT' hA tv (spA lo args hA)) ∧
  ∀ (φ : Own) (Φ : Frz) (hT : THeap) (hA : Heap) (lo : Nat) (targs : List TV) (args : List Value) (Q : TV → THeap → Prop), HT φ Φ hT hA →
  (∀ b c z, φ b = some (c, z) → lo ≤ c) → lo ≤ hA.length → VTs φ Φ targs args → tsp.ex targs hT Q → ∃ tv hT', Q tv hT' ∧ Snd Φ φ anyB hT hT' hA tv (spA lo args hA)
def OkG (Γ : Ctx) (ΓT : TCtx) : Prop := ∀ f tsp, ΓT.get f = some tsp → ∃ spA, Γ.get f = some spA ∧ CompatT spA tsp
end Go.AH
namespace Go.AH
section
variable {φ φ' : Own} {Φ : Frz} {hT hT' : THeap} {hA hA' : Heap} {tlo : Nat → Bool} {lo : Nat} {Γ : Ctx} {ΓT : TCtx} {ρT : Opd → TV} {ρA : Opd → Value} {tv : TV}

theorem app_ok (H : HT φ Φ hT hA) (hlo : ∀ b c z, tlo b = true → φ b = some (c, z) → lo ≤ c) (hρ : ∀ x, VT φ Φ (ρT x) (ρA x)) {e : TypeId} {z bts : Nat} {x y : Opd}
    (ha : top ΓT tlo ρT hT (.app e z bts x y) = some (tv, hT')) : Snd Φ φ tlo hT hT' hA tv (aop Γ lo ρA hA (.app e z bts x y)) := by
  simp only [top] at ha
  obtain ⟨ys, hys, ha⟩ := Option.bind_eq_some_iff.1 ha
  have key : ∀ (a : Option Addr) (xs : List TV) (n : Nat) (csx csy : List Value) (ay : Option Addr) (cy cx : Nat), ρA x = .slice a n cx → ρA y = .slice ay ys.length cy → rdS hA z (ρA x) = some csx → rdS hA z (ρA y) = some csy →
      VTs φ Φ (flatT xs) csx → VTs φ Φ (flatT ys) csy → sizedT z xs = true → sizedT z ys = true → xs.length = n → (n + ys.length) * bts ≤ 140737488355328 → n + ys.length ≤ maxLen →
      ∀ (hT1 : THeap), hT1.length = hT.length → (∀ (b : Nat) (e : TypeId) (z : Nat) (es : List TV), hT1[b]? = some (TB.cells e z es) → hT[b]? = some (TB.cells e z es)) →
      ((a = none ∨ ∃ p q s, a = some ⟨p, q, some s⟩) ∧ n = 0 ∨ ∃ (b c z1 : Nat) (bs : List Value), a = some ⟨c, 0, none⟩ ∧ φ b = some (c, z1) ∧ hA[c]? = some (Blk.cells e bs) ∧ tlo b = true ∧ (∀ (b' : Nat) (e : TypeId) (z : Nat) (es : List TV), hT1[b']? = some (TB.cells e z es) → b' ≠ b)) →
      Snd Φ φ tlo hT (hT1 ++ [.cells e z (xs ++ ys)]) hA (.os hT.length 0 (n + ys.length)) (aop Γ lo ρA hA (.app e z bts x y)) := by
    intro a xs n csx csy ay cy cx ex ey hrx hry hvx hvy hsx hsy hxl hb1 hb2 hT1 hl1 hlive hcase
    have hs := sized_append hsx hsy
    have hv : VTs φ Φ (flatT (xs ++ ys)) (csx ++ csy) := by rw [flat_append]; exact hvx.append hvy
    have hop : aop Γ lo ρA hA (.app e z bts x y) = (match (generalizing := false) a with
          | none => if ys.length = 0 then some (.slice none 0 0, hA) else some (slc hA.length 0 (n + ys.length), hA ++ [.cells e (csx ++ csy)])
          | some ⟨_, _, some _⟩ => if ys.length = 0 then some (ρA x, hA) else some (slc hA.length 0 (n + ys.length), hA ++ [.cells e (csx ++ csy)])
          | some ⟨b, 0, none⟩ => match hA[b]? with
            | some (.cells e' _) => if lo ≤ b ∧ e' = e then some (slc hA.length 0 (n + ys.length), hA.set b .dead ++ [.cells e (csx ++ csy)]) else none
            | _ => none
          | _ => none) := by
      rw [ex] at hrx ⊢
      rw [ey] at hry
      simp only [aop, ex, ey, hrx, hry]
      rw [if_pos ⟨hb1, hb2⟩]
      rcases a with _ | ⟨p, q, s⟩
      · rfl
      · rcases s with _ | s
        · cases q <;> rfl
        · rfl
    rw [hop]
    rcases hcase with ⟨ha0, hn0⟩ | ⟨b, c, z1, bs, rfl, hφ, hbs, htl, hdead⟩
    · subst hn0
      have hxs : xs = [] := List.eq_nil_of_length_eq_zero hxl
      subst hxs
      have hcsx : csx = [] := by cases hvx; rfl
      subst hcsx
      simp only [List.nil_append, Nat.zero_add] at hv hs ⊢
      by_cases hy0 : ys.length = 0
      · have hysn : ys = [] := List.eq_nil_of_length_eq_zero hy0
        subst hysn
        obtain ⟨g1, g2⟩ := growN (tlo := tlo) H hT1 hl1 hlive e z
        rcases ha0 with rfl | ⟨p, q, s, rfl⟩
        · exact ⟨_, hA, φ, by simp, .on0 _ _, g1, g2⟩
        · exact ⟨ρA x, hA, φ, by simp, by rw [ex]; exact .on1 _ _ _ _ _ _, g1, g2⟩
      · obtain ⟨φ', g1, g2, g3⟩ := grow (tlo := tlo) H hT1 hA hl1 rfl (fun b e z es h => ⟨hlive b e z es h, fun _ _ _ => rfl⟩) (fun _ _ _ => rfl) (fun _ _ => rfl) (e := e) hs hv
        have hvt : VT φ' Φ (.os hT.length 0 ys.length) (slc hA.length 0 ys.length) := by
          have := VT.os (Φ := Φ) (b := hT.length) (o := 0) (n := ys.length) (cap := ys.length) g3
          simpa [slc] using this
        rcases ha0 with rfl | ⟨p, q, s, rfl⟩
        · exact ⟨slc hA.length 0 ys.length, hA ++ [.cells e csy], φ', by simp [hy0], hvt, g1, g2⟩
        · exact ⟨slc hA.length 0 ys.length, hA ++ [.cells e csy], φ', by simp [hy0], hvt, g1, g2⟩
    · have hcl := (List.getElem?_eq_some_iff.1 hbs).1
      obtain ⟨φ', g1, g2, g3⟩ := grow (tlo := tlo) H hT1 (hA.set c .dead) hl1 (by simp)
        (fun b' e' z' es' h => ⟨hlive b' e' z' es' h, fun c' z2 h2 => List.getElem?_set_ne fun x => hdead b' e' z' es' h (H.inj b' b c' z2 z1 h2 (by rw [← x]; exact hφ))⟩)
        (fun c' cs' h => List.getElem?_set_ne fun x => H.disj b c z1 cs' hφ (by rw [x]; exact h))
        (fun c' hn => List.getElem?_set_ne fun x => hn b z1 htl (by rw [hφ, x])) (e := e) hs hv
      have hlc := hlo b c z1 htl hφ
      simp only [hbs]
      rw [if_pos ⟨hlc, trivial⟩]
      refine ⟨_, _, φ', rfl, ?_, g1, g2⟩
      have := VT.os (Φ := Φ) (b := hT.length) (o := 0) (n := n + ys.length) (cap := n + ys.length) g3
      simpa [slc] using this
  split at ha
  · rename_i hx
    split at ha
    · rename_i hc
      cases ha
      obtain ⟨csy, ay, cy, ey, hry, hvy⟩ := rdT_ok H (hρ y) hys hc.1
      have hvx := hρ x
      rw [hx] at hvx
      have := fun a cx ex hrx => key a [] 0 [] csy ay cy cx ex ey hrx hry (by simpa [flatT] using VTs.nil) hvy rfl hc.1 rfl (by simpa using hc.2.1) (by simpa using hc.2.2) hT rfl (fun _ _ _ _ h => h)
      simp only [List.nil_append, Nat.zero_add] at this
      cases hvx with
      | fz h =>
        generalize hvv : ρA x = vx at h
        cases h with
        | nl0 => exact this none 0 hvv (by rw [hvv]; rfl) (.inl ⟨.inl rfl, trivial⟩)
        | nl1 p q s c => exact this _ c hvv (by rw [hvv]; rfl) (.inl ⟨.inr ⟨_, _, _, rfl⟩, trivial⟩)
    · cases ha
  · rename_i b o n hx
    split at ha
    · rename_i e' z' es hb
      split at ha
      · rename_i hc
        obtain ⟨rfl, hn, htl, rfl, hzz, hsy, hb1, hb2⟩ := hc
        cases ha
        obtain ⟨csy, ay, cy, ey, hry, hvy⟩ := rdT_ok H (hρ y) hys hsy
        have hvx := hρ x
        rw [hx] at hvx
        have hr0 : rdT hT (.os b 0 n) = some (es.take n) := by simp only [rdT, hb]; rw [if_pos (by omega)]; simp
        have hbl := (List.getElem?_eq_some_iff.1 hb).1
        have hsx : sizedT z (es.take n) = true := by
          rcases hzz with rfl | rfl
          · rcases H.live b _ _ es hb with ⟨_, k2⟩ | ⟨_, _, _, _, k3, _⟩
            · subst k2; simp [sizedT]
            · exact sized_take k3 n
          · simp [sizedT]
        obtain ⟨csx, ax, cx, ex, hrx, hvxs⟩ := rdT_ok H hvx hr0 hsx
        have hxl : (es.take n).length = n := by simp; omega
        rw [hxl] at ex
        refine key ax (es.take n) n csx csy ay cy cx ex ey hrx hry hvxs hvy hsx hsy hxl hb1 hb2 (hT.set b .dead) (by simp) (fun b' e1 z1 es1 h => ?_) ?_
        · by_cases hbb : b' = b
          · subst hbb; rw [List.getElem?_set_self hbl] at h; cases h
          · rw [List.getElem?_set_ne (fun x => hbb x.symm)] at h; exact h
        · generalize hvv : ρA x = vx at hvx
          rw [hvv] at ex
          cases hvx with
          | fz h => cases h
          | on0 => cases ex; exact .inl ⟨.inl rfl, rfl⟩
          | on1 => cases ex; exact .inl ⟨.inr ⟨_, _, _, rfl⟩, rfl⟩
          | os h1 =>
            rename_i c z1 cap
            simp only [Nat.zero_mul, Value.slice.injEq] at ex
            obtain ⟨ex, _, _⟩ := ex
            rcases H.live b _ _ es hb with ⟨k1, _⟩ | ⟨c', cs, k1, k2, _, _⟩
            · rw [h1] at k1; cases k1
            · rw [h1] at k1; cases k1
              refine .inr ⟨b, c, _, cs, ex.symm, h1, k2, htl, fun b' e1 z1 es1 h hbb => ?_⟩
              subst hbb; rw [List.getElem?_set_self hbl] at h; cases h
      · cases ha
    · cases ha
  · cases ha

theorem sl_ok (H : HT φ Φ hT hA) (hρ : ∀ x, VT φ Φ (ρT x) (ρA x)) {z : Nat} {x : Opd} {l' r' : Option Opd}
    (ha : top ΓT tlo ρT hT (.sl z x l' r') = some (tv, hT')) : Snd Φ φ tlo hT hT' hA tv (aop Γ lo ρA hA (.sl z x l' r')) := by
  simp only [top] at ha
  have hvx := hρ x
  -- what the heap's own slicing does
  have run : ∀ (a : Option Addr) (n c : Nat) (l r : Int) (v : Value), ρA x = .slice a n c → optIT ρT 0 l' = some l → optIT ρT n r' = some r → 0 ≤ l → l ≤ r → r ≤ n → slOut z l.toNat (r - l).toNat a = some v →
      aop Γ lo ρA hA (.sl z x l' r') = some (v, hA) := by
    intro a n c l r v ex hl hr h0 h1 h2 hv
    simp only [aop, ex, optIT_ok hρ hl, optIT_ok hρ hr]
    rw [if_pos ⟨h0, h1, h2⟩, hv]; rfl
  split at ha
  · rename_i es hx
    rw [hx] at hvx
    obtain ⟨l, hl, ha⟩ := Option.bind_eq_some_iff.1 ha
    obtain ⟨r, hr, ha⟩ := Option.bind_eq_some_iff.1 ha
    split at ha
    · rename_i hc
      obtain ⟨h0, h1, h2, hz⟩ := hc
      cases ha
      cases hvx with
      | fz h =>
        generalize hvv : ρA x = vx at h
        cases h with
        | s0 =>
          rw [run none 0 0 l r _ hvv hl hr h0 h1 h2 rfl]
          exact Snd.same H (.fz (by simpa using VF.s0))
        | s1 b o s c =>
          have e1 : l.toNat = 0 := by simp at h2; omega
          have e2 : (r - l).toNat = 0 := by simp at h2; omega
          rw [run _ 0 c l r (.slice (some ⟨b, o, some s⟩) 0 0) hvv hl hr h0 h1 h2 (by simp [slOut, e1, e2])]
          exact Snd.same H (.fz (by simpa [e1, e2] using VF.s1 b o s 0))
        | s k1 k2 k3 k4 =>
          rename_i c off cs cap z'
          rw [run _ _ cap l r _ hvv hl hr h0 h1 h2 rfl]
          refine Snd.same H (.fz ?_)
          have hlen : ((es.drop l.toNat).take (r - l).toNat).length = (r - l).toNat := by simp; omega
          have hzz : es = [] ∨ z' = z := by
            cases es with
            | nil => exact .inl rfl
            | cons a t => right; rw [← sized_iff.1 k3 a (by simp), ← sized_iff.1 hz a (by simp)]
          have hle : l.toNat * z' + (r - l).toNat * z' ≤ es.length * z' := by rw [← Nat.add_mul]; exact Nat.mul_le_mul_right _ (by omega)
          have hnew := VF.s (Φ := Φ) (es := (es.drop l.toNat).take (r - l).toNat) (off := off + l.toNat * z') (cap := (r - l).toNat) (z := z') k1 (by rw [hlen]; omega) (sized_take (sized_drop k3 _) _)
            (by
              rw [hlen, flat_take (sized_drop k3 _), flat_drop k3]
              have e3 : (cs.drop (off + l.toNat * z')).take ((r - l).toNat * z') = (((cs.drop off).take (es.length * z')).drop (l.toNat * z')).take ((r - l).toNat * z') := by
                rw [List.drop_take, List.drop_drop, List.take_take]
                congr 1; omega
              rw [e3]
              have gen : ∀ (a : List TV) (b : List Value) (p q : Nat), VFs Φ a b → VFs Φ ((a.drop p).take q) ((b.drop p).take q) := by
                intro a
                induction a with
                | nil => intro b p q h; cases h; simpa using VFs.nil
                | cons t a ih =>
                  intro b p q h
                  cases h with
                  | cons h1 h2 =>
                    cases p with
                    | succ p => simpa using ih _ p q h2
                    | zero =>
                      cases q with
                      | zero => simpa using VFs.nil
                      | succ q => simpa using VFs.cons h1 (by simpa using ih _ 0 q h2)
              exact gen _ _ _ _ k4)
          rw [hlen] at hnew
          rcases hzz with rfl | rfl
          · have e1 : l.toNat = 0 := by simp at h2; omega
            simp only [slc]
            simpa [e1] using hnew
          · exact hnew
    · cases ha
  · rename_i b o n hx
    rw [hx] at hvx
    obtain ⟨l, hl, ha⟩ := Option.bind_eq_some_iff.1 ha
    obtain ⟨r, hr, ha⟩ := Option.bind_eq_some_iff.1 ha
    split at ha
    · rename_i hc
      obtain ⟨h0, h1, h2, hz⟩ := hc
      cases ha
      generalize hvv : ρA x = vx at hvx
      cases hvx with
      | fz h => cases h
      | on0 =>
        have e2 : (r - l).toNat = 0 := by simp at h2; omega
        rw [run none 0 0 l r _ hvv hl hr h0 h1 h2 rfl, e2]
        exact Snd.same H (.on0 _ _)
      | on1 b o p q s c =>
        have e1 : l.toNat = 0 := by simp at h2; omega
        have e2 : (r - l).toNat = 0 := by simp at h2; omega
        rw [run _ 0 c l r (.slice (some ⟨p, q, some s⟩) 0 0) hvv hl hr h0 h1 h2 (by simp [slOut, e1, e2]), e2]
        exact Snd.same H (.on1 _ _ _ _ _ _)
      | os h1' =>
        rename_i c z1 cap
        rw [run _ n cap l r _ hvv hl hr h0 h1 h2 rfl]
        refine Snd.same H ?_
        have := VT.os (Φ := Φ) (o := o + l.toNat) (n := (r - l).toNat) (cap := (r - l).toNat) h1'
        rcases hz with rfl | hz
        · simpa [slc] using this
        · simp only [zAt] at hz
          split at hz
          · rename_i e' z' es hb
            simp only [beq_iff_eq] at hz
            subst hz
            rcases H.live b _ _ es hb with ⟨k1, _⟩ | ⟨c', cs, k1, _, _, _⟩
            · rw [h1'] at k1; cases k1
            · rw [h1'] at k1; cases k1
              simpa [slc, Nat.add_mul] using this
          · cases hz
    · cases ha
  · rename_i hx
    rw [hx] at hvx
    obtain ⟨l, hl, ha⟩ := Option.bind_eq_some_iff.1 ha
    obtain ⟨r, hr, ha⟩ := Option.bind_eq_some_iff.1 ha
    split at ha
    · rename_i hc
      obtain ⟨h1, h2⟩ := hc
      cases ha
      subst h1; subst h2
      cases hvx with
      | fz h =>
        generalize hvv : ρA x = vx at h
        cases h with
        | nl0 =>
          rw [run none 0 0 0 0 _ hvv hl hr (by omega) (by omega) (by simp) rfl]
          exact Snd.same H (.fz .nl0)
        | nl1 b o s c =>
          rw [run _ 0 c 0 0 (.slice (some ⟨b, o, some s⟩) 0 0) hvv hl hr (by omega) (by omega) (by simp) (by simp [slOut])]
          exact Snd.same H (.fz (.nl1 _ _ _ _))
    · cases ha
  · cases ha
end
end Go.AH
namespace Go.AH
section
variable {φ φ' : Own} {Φ : Frz} {hT hT' : THeap} {hA hA' : Heap} {tlo : Nat → Bool} {lo : Nat} {Γ : Ctx} {ΓT : TCtx} {ρT : Opd → TV} {ρA : Opd → Value} {tv : TV}

theorem pB_ok {op : BinOp} {a b : TV} {x y v : Value} (ha : VT φ Φ a x) (hb : VT φ Φ b y) (h : pB op a b = some v) : abin op x y = some v := by
  unfold pB at h; split at h
  · rw [ha.p_inv.1, hb.p_inv.1]; exact h
  · cases h
theorem plain_bin {op : BinOp} {x y v : Value} (h : abin op x y = some v) : plainV v = true := by
  have hp : ∀ (op : BinOp) (k : IntKind) (a b : Int), intB op k a b = some v → plainV v = true := by
    intro op k a b h
    cases op <;> simp only [intB] at h <;> (try split at h) <;> first | (cases h; done) | (cases h; rfl)
  have hq : ∀ (op : BinOp) (a b : ByteArray), strB op a b = some v → plainV v = true := by
    intro op a b h
    cases op <;> simp only [strB] at h <;> (try split at h) <;> first | (cases h; done) | (cases h; rfl)
  unfold abin at h
  split at h
  · split at h
    · split at h <;> cases h; rfl
    · split at h <;> cases h; rfl
    · split at h
      · exact hp _ _ _ _ h
      · cases h
  · exact hq _ _ _ h
  · cases h
theorem plain_un {op : UnOp} {x v : Value} (h : aun op x = some v) : plainV v = true := by
  unfold aun at h
  split at h
  · split at h <;> cases h; rfl
  · split at h <;> cases h; rfl
  · cases h

theorem Snd.p (H : HT φ Φ hT hA) {v : Value} (h : plainV v = true) : Snd Φ φ tlo hT hT hA (.p v) (some (v, hA)) := Snd.same H (.fz (.p h))

theorem new_ok (H : HT φ Φ hT hA) {e : TypeId} {z n : Nat} {es : List TV} {cs : List Value} (hs : sizedT z es = true) (hv : VTs φ Φ (flatT es) cs) :
    Snd Φ φ tlo hT (hT ++ [.cells e z es]) hA (.os hT.length 0 n) (some (slc hA.length 0 n, hA ++ [.cells e cs])) ∧
    Snd Φ φ tlo hT (hT ++ [.cells e z es]) hA (.op hT.length 0 0) (some (ptr hA.length 0, hA ++ [.cells e cs])) := by
  obtain ⟨φ', g1, g2, g3⟩ := grow0 (tlo := tlo) H (e := e) hs hv
  refine ⟨⟨_, _, φ', rfl, ?_, g1, g2⟩, ⟨_, _, φ', rfl, ?_, g1, g2⟩⟩
  · have := VT.os (Φ := Φ) (b := hT.length) (o := 0) (n := n) (cap := n) g3
    simpa [slc] using this
  · have := VT.op (Φ := Φ) (b := hT.length) (i := 0) (o := 0) g3
    simpa [ptr] using this

theorem mkEls_ok (hρ : ∀ x, VT φ Φ (ρT x) (ρA x)) {n : Nat} {z : List Value} {ps : List (Nat × Nat × Opd)} {es : List TV} (h : mkEls ρT n z ps = some es) :
    ∃ cs, fillL z (ps.map fun p => (p.1, p.2.1, ρA p.2.2)) = some cs ∧ cs.all one = true ∧ VTs φ Φ (flatT es) cs ∧ sizedT (z.length / n) es = true := by
  unfold mkEls at h
  split at h
  · rename_i k x
    split at h
    · rename_i hc
      obtain ⟨rfl, hl, ho⟩ := hc
      cases h
      have hx := (hρ x).cells ho
      have hxl := hx.length
      refine ⟨cellsL (ρA x), ?_, hx.ones ho, by simpa [flatT] using hx, ?_⟩
      · simp only [List.map_cons, List.map_nil, fillL]
        rw [if_pos ⟨by omega, by omega⟩]
        simp
      · simp [sizedT, hl]
    · cases h
  · obtain ⟨cs, h1, h⟩ := Option.bind_eq_some_iff.1 h
    split at h
    · rename_i hc
      obtain ⟨hz, ho, hl⟩ := hc
      cases h
      obtain ⟨csA, k1, k2⟩ := fillT_ok ps ρT ρA _ _ cs hρ (ofV1s_ok hz) h1
      obtain ⟨e1, e2, e3⟩ := chunks_ok (z.length / n) n cs hl ho
      exact ⟨csA, k1, k2.ones ho, by rw [e1]; exact k2, e2⟩
    · cases h

theorem getMT_ok {t : TV} {v : Value} (hv : VT φ Φ t v) {b : Nat} (h : getMT t = some b) : ∃ c z, φ b = some (c, z) ∧ getM v = some c := by
  unfold getMT at h
  split at h
  · rename_i f b0
    split at h
    · rename_i hf; cases h; subst hf
      cases hv with
      | fz h => cases h with | fn h => cases h with | cons h _ => cases h
      | fn h =>
        cases h with
        | cons h1 h2 =>
          cases h2
          cases h1 with
          | fz h => cases h
          | op h1 => exact ⟨_, _, h1, by simp [getM]⟩
    · cases h
  · cases h
theorem keysT_ok (H : HT φ Φ hT hA) {b c z : Nat} {K : List (List Int)} (h : keysT hT b = some K) (hb : φ b = some (c, z)) :
    ∃ e cs, hA[c]? = some (.cells e cs) ∧ setK e = some K ∧ hT[b]? = some (.cells e 0 []) ∧ z = 0 := by
  unfold keysT at h
  split at h
  · rename_i e he
    rcases H.live b e 0 [] he with ⟨k, _⟩ | ⟨c', cs, k1, k2, _⟩
    · rw [hb] at k; cases k
    · rw [hb] at k1; cases k1
      exact ⟨e, cs, k2, h, he, rfl⟩
  · cases h
theorem i64s_ok : ∀ {ts : List TV} {vs : List Value}, VTs φ Φ ts vs → ∀ {l : List Int}, ts.mapM i64T = some l → vs.mapM i64of = some l
  | [], _, h, l, k => by cases h; simpa using k
  | t :: ts, _, h, l, k => by
    cases h with
    | cons h1 h2 =>
      rw [List.mapM_cons] at k
      obtain ⟨n, k1, k⟩ := Option.bind_eq_some_iff.1 k
      obtain ⟨l', k2, k⟩ := Option.bind_eq_some_iff.1 k
      cases k
      have hn : t = .p (.int .i64 n) := by unfold i64T at k1; split at k1 <;> cases k1; rfl
      subst hn
      obtain ⟨rfl, _⟩ := h1.p_inv
      simp [List.mapM_cons, i64of, i64s_ok h2 k2]
theorem keyT_ok {t : TV} {v : Value} (hv : VT φ Φ t v) {l : List Int} (h : keyT t = some l) : keyI v = some l := by
  unfold keyT at h
  split at h
  · cases h; obtain ⟨rfl, _⟩ := hv.p_inv; rfl
  · rename_i cs
    split at h
    · rename_i hc
      have : ∃ vs, v = .agg ⟨vs⟩ ∧ VTs φ Φ cs vs := by
        cases hv with
        | fz h => cases h with | agg h => exact ⟨_, rfl, VTs.fz h⟩
        | agg h => exact ⟨_, rfl, h⟩
      obtain ⟨vs, rfl, hvs⟩ := this
      simp only [keyI]
      rw [if_pos (by rw [← hvs.length]; exact hc)]
      exact i64s_ok hvs h
    · cases h
  · cases h

theorem top_ok (H : HT φ Φ hT hA) (hlo : ∀ b c z, tlo b = true → φ b = some (c, z) → lo ≤ c) (hla : lo ≤ hA.length) (hρ : ∀ x, VT φ Φ (ρT x) (ρA x)) (hΓ : OkG Γ ΓT) {p : AOp}
    (ha : top ΓT tlo ρT hT p = some (tv, hT')) : Snd Φ φ tlo hT hT' hA tv (aop Γ lo ρA hA p) := by
  cases p with
  | mv x => simp only [top] at ha; cases ha; exact Snd.same H (hρ x)
  | pick c a b =>
    simp only [top] at ha
    obtain ⟨t, ht, ha⟩ := Option.map_eq_some_iff.1 ha
    cases ha
    simp only [aop, getBT_ok (hρ c) ht, Option.map_some]
    refine Snd.same H ?_
    cases t
    · exact hρ b
    · exact hρ a
  | alloc e z =>
    simp only [top] at ha
    split at ha
    · rename_i hc; cases ha
      simp only [aop]
      have h1 := el_cells (ofV1s_one hc.2)
      exact (new_ok (n := 0) H (by simp [sizedT, h1]) (by simpa [flatT, h1] using ofV1s_ok hc.1)).2
    · cases ha
  | box e x =>
    simp only [top] at ha
    split at ha
    · rename_i hc; cases ha
      have hx := (hρ x).cells hc
      simp only [aop]
      rw [if_pos (hx.ones hc)]
      exact (new_ok (n := 0) H (by simp [sizedT]) (by simpa [flatT] using hx)).2
    · cases ha
  | build z ps =>
    simp only [top] at ha
    split at ha
    · rename_i hz
      obtain ⟨cs, h1, ha⟩ := Option.map_eq_some_iff.1 ha
      cases ha
      obtain ⟨csA, k1, k2⟩ := fillT_ok ps ρT ρA _ _ cs hρ (ofV1s_ok hz) h1
      simp only [aop, k1, Option.map_some]
      exact Snd.same H (.agg k2)
    · cases ha
  | mkS e n z ps =>
    simp only [top] at ha
    obtain ⟨es, h1, ha⟩ := Option.map_eq_some_iff.1 ha
    cases ha
    obtain ⟨cs, k1, k2, k3, k4⟩ := mkEls_ok hρ h1
    simp only [aop, k1, Option.bind_some]
    rw [if_pos k2]
    exact (new_ok H k4 k3).1
  | mkE =>
    simp only [top] at ha; cases ha
    exact Snd.same H (.fz (.nl1 _ _ _ _))
  | ld x =>
    simp only [top] at ha
    obtain ⟨⟨e, o⟩, h1, ha⟩ := Option.bind_eq_some_iff.1 ha
    obtain ⟨t, h2, ha⟩ := Option.map_eq_some_iff.1 ha
    cases ha
    obtain ⟨b, base, ty, cs, k1, k2, k3, k4⟩ := elT_ok H (hρ x) h1
    obtain ⟨v, hv, r⟩ := k4.get o _ h2
    have ho := (List.getElem?_eq_some_iff.1 h2).1
    simp only at ho
    rw [List.getElem?_take_of_lt ho, List.getElem?_drop] at hv
    simp only [aop, k1, k2, hv, Option.map_some]
    exact Snd.same H r
  | ldn n x =>
    simp only [top] at ha
    obtain ⟨⟨e, o⟩, h1, ha⟩ := Option.bind_eq_some_iff.1 ha
    obtain ⟨t, h2, ha⟩ := Option.map_eq_some_iff.1 ha
    cases ha
    obtain ⟨b, base, ty, cs, k1, k2, k3, k4⟩ := elT_ok H (hρ x) h1
    obtain ⟨h3, h4⟩ := elAt_ok k4 h2
    simp only at h4
    simp only [aop, k1, k2]
    rw [if_pos (by omega)]
    refine Snd.same H ?_
    have e1 : (((cs.drop base).take (cellsT e).length).drop o).take n = (cs.drop (base + o)).take n := by
      rw [List.drop_take, List.drop_drop, List.take_take]; congr 1; omega
    rw [e1] at h3; exact h3
  | st n x v =>
    simp only [top] at ha
    have hx := hρ x
    split at ha
    · rename_i b i o hxe
      split at ha
      · rename_i e z es hb
        obtain ⟨e0, he, ha⟩ := Option.bind_eq_some_iff.1 ha
        split at ha
        · rename_i hc
          obtain ⟨htl, hn, hle, ho1, ho2⟩ := hc
          cases ha
          rw [hxe] at hx
          generalize hvx : ρA x = vx at hx
          cases hx with
          | fz h => cases h
          | op h1 =>
            rename_i c z1
            rcases H.live b e z es hb with ⟨k1, _⟩ | ⟨c', cs, k1, k2, k3, k4⟩
            · rw [h1] at k1; cases k1
            · rw [h1] at k1; cases k1
              have hv := (hρ v).cells ho1
              have hvl := hv.length
              have hcl : (cellsT e0).length = z := sized_iff.1 k3 e0 (List.mem_of_getElem? he)
              have hlt := (List.getElem?_eq_some_iff.1 he).1
              have hl := k4.length
              rw [flatT_len k3] at hl
              have hiz : i * z + z ≤ es.length * z := by have := Nat.mul_le_mul_right z (show i + 1 ≤ es.length by omega); rw [Nat.add_mul] at this; omega
              obtain ⟨f1, f2⟩ := flat_set k3 he (setE_cells (o := o) ho2 ho1 (by rw [hn]; exact hle)) (by rw [hn, ← hcl]; exact hle)
              obtain ⟨g1, g2⟩ := HT.set (tlo := tlo) H hb h1 k2 f2 (cs' := setAt cs (i * z + o) (cellsL (ρA v))) (by rw [f1, setAt_G]; exact k4.setG _ hv) htl
              simp only [aop, hvx, getP, k2]
              rw [if_pos ⟨hlo b c z htl h1, by omega, by omega, hv.ones ho1⟩]
              exact ⟨_, _, φ, rfl, .tup .nil, g1, g2⟩
        · cases ha
      · cases ha
    · cases ha
  | bin op x y =>
    simp only [top] at ha
    obtain ⟨v, h1, ha⟩ := Option.map_eq_some_iff.1 ha
    cases ha
    have h2 := pB_ok (hρ x) (hρ y) h1
    simp only [aop, h2, Option.map_some]
    exact Snd.p H (plain_bin h2)
  | un op x =>
    simp only [top] at ha
    obtain ⟨v, h1, ha⟩ := Option.map_eq_some_iff.1 ha
    cases ha
    have h2 : aun op (ρA x) = some v := by
      unfold pU at h1
      split at h1
      · rename_i a ha; have hx := hρ x; rw [ha] at hx; rw [hx.p_inv.1]; exact h1
      · cases h1
    simp only [aop, h2, Option.map_some]
    exact Snd.p H (plain_un h2)
  | eqB neg x y =>
    simp only [top] at ha
    obtain ⟨a, h1, ha⟩ := Option.bind_eq_some_iff.1 ha
    obtain ⟨b, h2, ha⟩ := Option.map_eq_some_iff.1 ha
    cases ha
    simp only [aop, getBT_ok (hρ x) h1, getBT_ok (hρ y) h2, Option.bind_some, Option.map_some]
    exact Snd.p H rfl
  | eqN neg x =>
    simp only [top] at ha
    have hx := hρ x
    have fin : ∀ ad n c, ρA x = .slice ad n c → Snd Φ φ tlo hT hT hA .ub (aop Γ lo ρA hA (.eqN neg x)) := by
      intro ad n c hv
      have : ∃ b, isNil (ρA x) = some b := by rw [hv]; cases ad <;> exact ⟨_, rfl⟩
      obtain ⟨b, hb⟩ := this
      simp only [aop, hb, Option.map_some]
      exact Snd.same H (.fz (.ub _))
    have fin2 : ∀ ad n c, ρA x = .slice (some ad) n c → Snd Φ φ tlo hT hT hA (.p (.bool neg)) (aop Γ lo ρA hA (.eqN neg x)) := by
      intro ad n c hv
      have e : (if neg = true then !false else false) = neg := by cases neg <;> rfl
      simp only [aop, hv, isNil, Option.map_some, e]
      exact Snd.p H rfl
    split at ha
    · rename_i es hxe
      rw [hxe] at hx
      generalize hvx : ρA x = vx at hx
      split at ha
      · rename_i hp; cases ha
        cases hx with
        | fz h =>
          cases h with
          | s0 => simp at hp
          | s1 => simp at hp
          | s => exact fin2 _ _ _ hvx
      · cases ha
        cases hx with
        | fz h => cases h <;> exact fin _ _ _ hvx
    · rename_i hxe
      rw [hxe] at hx
      generalize hvx : ρA x = vx at hx
      split at ha
      · rename_i hp; cases ha
        cases hx with
        | fz h => cases h
        | on0 => simp at hp
        | on1 => simp at hp
        | os h1 => exact fin2 _ _ _ hvx
      · cases ha
        cases hx with
        | fz h => cases h
        | on0 => exact fin _ _ _ hvx
        | on1 => exact fin _ _ _ hvx
        | os h1 => exact fin _ _ _ hvx
    · rename_i hxe
      cases ha; rw [hxe] at hx
      generalize hvx : ρA x = vx at hx
      cases hx with
      | fz h => cases h <;> exact fin _ _ _ hvx
    · cases ha
  | apz e z bts zc x l =>
    simp only [top] at ha
    have hx := hρ x
    obtain ⟨n', hl, ha⟩ := Option.bind_eq_some_iff.1 ha
    split at ha
    · rename_i hxe
      split at ha
      · rename_i hh
        obtain ⟨h0, h2, h3, h4, h5⟩ := hh
        cases ha
        rw [hxe] at hx
        have hno : noRoom (ρA x) = true := by
          generalize hvx : ρA x = vx at hx
          cases hx with
          | fz h => cases h <;> rfl
        simp only [aop, getIT_ok (hρ l) hl]
        rw [if_pos ⟨hno, h0, h2, h3⟩]
        have he := el_cells (ofV1s_one h5)
        have hf : ∀ n, flatT (List.replicate n (el (zc.map ofV1))) = (List.replicate n (zc.map ofV1)).flatten := by
          intro n
          induction n with
          | zero => rfl
          | succ n ih => rw [List.replicate_succ, flat_cons, ih, he, List.replicate_succ, List.flatten_cons]
        have hv : ∀ n, VTs φ Φ ((List.replicate n (zc.map ofV1)).flatten) (List.replicate n zc).flatten := by
          intro n
          induction n with
          | zero => exact .nil
          | succ n ih => rw [List.replicate_succ, List.replicate_succ, List.flatten_cons, List.flatten_cons]; exact (ofV1s_ok h4).append ih
        exact (new_ok H (sized_iff.2 fun x hx => by rw [(List.mem_replicate.1 hx).2, he]; simp) (by rw [hf]; exact hv _)).1
      · cases ha
    · cases ha
  | fail => simp only [top] at ha; cases ha
  | eqS neg ks x y =>
    simp only [top] at ha
    have hx := hρ x
    have hy := hρ y
    split at ha
    · rename_i xs ys hxe hye
      obtain ⟨b, hb, ha⟩ := Option.map_eq_some_iff.1 ha
      cases ha
      rw [hxe] at hx; rw [hye] at hy
      generalize hvx : ρA x = vx at hx
      generalize hvy : ρA y = vy at hy
      have hagg : ∀ {cs : List TV} {v : Value}, VT φ Φ (.agg cs) v → ∃ vs, v = .agg ⟨vs⟩ ∧ VTs φ Φ cs vs := by
        intro cs v h
        cases h with
        | fz h => cases h with | agg h => exact ⟨_, rfl, VTs.fz h⟩
        | agg h => exact ⟨_, rfl, h⟩
      obtain ⟨vs, rfl, h1⟩ := hagg hx
      obtain ⟨us, rfl, h2⟩ := hagg hy
      have key : ∀ (ks : List EK) (xs ys : List TV) (vs us : List Value) (b : Bool), VTs φ Φ xs vs → VTs φ Φ ys us → eqTs ks xs ys = some b → eqCs ks vs us = some b := by
        intro ks
        induction ks with
        | nil =>
          intro xs ys vs us b h1 h2 h
          cases xs <;> cases ys <;> simp only [eqTs] at h <;> first | (cases h; done) | skip
          cases h; cases h1; cases h2; rfl
        | cons k ks ih =>
          intro xs ys vs us b h1 h2 h
          cases xs with
          | nil => simp [eqTs] at h
          | cons x xs =>
            cases ys with
            | nil => cases x <;> simp [eqTs] at h
            | cons y ys =>
              cases x <;> first | (simp [eqTs] at h; done) | skip
              cases y <;> first | (simp [eqTs] at h; done) | skip
              simp only [eqTs] at h
              cases h1 with
              | cons p1 q1 =>
                cases h2 with
                | cons p2 q2 =>
                  obtain ⟨c, hc, h⟩ := Option.bind_eq_some_iff.1 h
                  obtain ⟨d, hd, rfl⟩ := Option.map_eq_some_iff.1 h
                  rw [p1.p_inv.1, p2.p_inv.1]
                  simp only [eqCs, hc, ih _ _ _ _ _ q1 q2 hd, Option.bind_some, Option.map_some]
      have := key ks xs ys vs us b h1 h2 hb
      simp only [aop, hvx, hvy, this, Option.map_some]
      exact Snd.p H rfl
    · cases ha
  | capZ x =>
    simp only [top] at ha
    have hx := hρ x
    split at ha
    · rename_i hxe
      cases ha; rw [hxe] at hx
      generalize hvx : ρA x = vx at hx
      cases hx with
      | fz h =>
        cases h with
        | nl0 => simp only [aop, hvx]; exact Snd.p H rfl
        | nl1 => simp only [aop, hvx]; exact Snd.p H rfl
    · cases ha
  | mm mx x y =>
    simp only [top] at ha
    obtain ⟨v, hv, ha⟩ := Option.map_eq_some_iff.1 ha
    cases ha
    have hx := hρ x
    have hy := hρ y
    unfold mmT at hv
    split at hv
    · rename_i k a k' b hxe hye
      cases hv
      rw [hxe] at hx; rw [hye] at hy
      simp only [aop, hx.p_inv.1, hy.p_inv.1]
      exact Snd.p H rfl
    · cases hv
  | cpy z x y =>
    simp only [top] at ha
    obtain ⟨ys, hys, ha⟩ := Option.bind_eq_some_iff.1 ha
    have hx := hρ x
    split at ha
    · rename_i b o n hxe
      split at ha
      · rename_i e z' es hb
        split at ha
        · rename_i hc
          obtain ⟨htl, hzz, hsy, hn, hle⟩ := hc
          cases ha
          subst hzz
          obtain ⟨csy, ay, cy, ey, hry, hvy⟩ := rdT_ok H (hρ y) hys hsy
          rw [hxe] at hx
          generalize hvx : ρA x = vx at hx
          cases hx with
          | fz h => cases h
          | on0 => exact absurd rfl hn
          | on1 => exact absurd rfl hn
          | os h1 =>
            rename_i c z1 cap
            rcases H.live b _ _ es hb with ⟨k1, _⟩ | ⟨c', cs, k1, k2, k3, k4⟩
            · rw [h1] at k1; cases k1
            · rw [h1] at k1; cases k1
              have hl := k4.length
              rw [flatT_len k3] at hl
              have hyl := hvy.length
              rw [flatT_len hsy] at hyl
              have hoz : o * z' + n * z' ≤ es.length * z' := by rw [← Nat.add_mul]; exact Nat.mul_le_mul_right _ hle
              have hkl : (ys.take (min ys.length n)).length = min ys.length n := by rw [List.length_take]; omega
              have hkn : min ys.length n * z' ≤ n * z' := Nat.mul_le_mul_right _ (Nat.min_le_right _ _)
              have hky : min ys.length n * z' ≤ ys.length * z' := Nat.mul_le_mul_right _ (Nat.min_le_left _ _)
              obtain ⟨g1, g2⟩ := HT.set (tlo := tlo) H hb h1 k2 (es' := es.take o ++ (ys.take (min ys.length n) ++ es.drop (o + min ys.length n)))
                (cs' := setAt cs (o * z') (csy.take (min ys.length n * z'))) (sized_append (sized_take k3 _) (sized_append (sized_take hsy _) (sized_drop k3 _)))
                (by
                  rw [flat_append, flat_append, flat_take k3, flat_take hsy, flat_drop k3, setAt_G, setG_eq _ _ _ (by rw [List.length_take]; omega)]
                  rw [List.append_assoc]
                  refine (k4.take _).append ((hvy.take _).append ?_)
                  rw [List.length_take, show min (min ys.length n * z') csy.length = min ys.length n * z' by omega, ← Nat.add_mul]
                  exact k4.drop _) htl
              simp only [aop, hvx, ey]
              rw [ey] at hry
              simp only [hry, k2]
              rw [if_pos ⟨hlo b c z' htl h1, by omega⟩]
              exact ⟨_, _, φ, rfl, .fz (.p rfl), g1, g2⟩
        · cases ha
      · cases ha
    · cases ha
  | cvI k x =>
    simp only [top] at ha
    obtain ⟨n, h1, ha⟩ := Option.map_eq_some_iff.1 ha
    cases ha
    simp only [aop, getIT_ok (hρ x) h1, Option.map_some]
    exact Snd.p H rfl
  | cvBS x =>
    simp only [top] at ha
    obtain ⟨es, h1, ha⟩ := Option.bind_eq_some_iff.1 ha
    obtain ⟨bs, h2, ha⟩ := Option.map_eq_some_iff.1 ha
    cases ha
    obtain ⟨cs, a, c, k1, k2, k3⟩ := rdT_ok H (hρ x) h1 (u8s_ok (φ := φ) (Φ := Φ) (cs := []) h2).1
    simp only [aop, k2, Option.bind_some, (u8s_ok h2).2 k3, Option.map_some]
    exact Snd.p H rfl
  | sl z x l r => exact sl_ok H hρ ha
  | slT x l r =>
    simp only [top] at ha
    split at ha
    · rename_i s hx
      obtain ⟨l', hl, ha⟩ := Option.bind_eq_some_iff.1 ha
      obtain ⟨r', hr, ha⟩ := Option.bind_eq_some_iff.1 ha
      split at ha
      · rename_i hc; cases ha
        have hxx := hρ x
        rw [hx] at hxx
        simp only [aop, hxx.p_inv.1, optIT_ok hρ hl, optIT_ok hρ hr]
        rw [if_pos hc]
        exact Snd.p H rfl
      · cases ha
    · cases ha
  | fa x off =>
    simp only [top] at ha
    have hx := hρ x
    split at ha
    · rename_i b i o hxe
      cases ha
      rw [hxe] at hx
      generalize hvx : ρA x = vx at hx
      cases hx with
      | fz h => cases h
      | op h1 =>
        simp only [aop, hvx, getP, Option.map_some]
        refine Snd.same H ?_
        have := VT.op (Φ := Φ) (i := i) (o := o + off) h1
        simpa [ptr, Nat.add_assoc] using this
    · rename_i e o hxe
      cases ha
      rw [hxe] at hx
      generalize hvx : ρA x = vx at hx
      cases hx with
      | fz h =>
        cases h with
        | fe h1 h2 h3 =>
          simp only [aop, hvx, getP, Option.map_some]
          refine Snd.same H (.fz ?_)
          have := VF.fe (o := o + off) h1 h2 h3
          simpa [ptr, Nat.add_assoc] using this
    · cases ha
  | fld x off =>
    simp only [top] at ha
    have hx := hρ x
    split at ha
    · rename_i cs hxe
      obtain ⟨t, h1, ha⟩ := Option.map_eq_some_iff.1 ha
      cases ha
      rw [hxe] at hx
      generalize hvx : ρA x = vx at hx
      have : ∃ vs, vx = .agg ⟨vs⟩ ∧ VTs φ Φ cs vs := by
        cases hx with
        | fz h => cases h with | agg h => exact ⟨_, rfl, VTs.fz h⟩
        | agg h => exact ⟨_, rfl, h⟩
      obtain ⟨vs, rfl, hvs⟩ := this
      obtain ⟨v, hv, r⟩ := hvs.get off _ h1
      simp only [aop, hvx, hv, Option.map_some]
      exact Snd.same H r
    · cases ha
  | fldn n x off =>
    simp only [top] at ha
    have hx := hρ x
    split at ha
    · rename_i cs hxe
      split at ha
      · rename_i hle
        cases ha
        rw [hxe] at hx
        generalize hvx : ρA x = vx at hx
        have : ∃ vs, vx = .agg ⟨vs⟩ ∧ VTs φ Φ cs vs := by
          cases hx with
          | fz h => cases h with | agg h => exact ⟨_, rfl, VTs.fz h⟩
          | agg h => exact ⟨_, rfl, h⟩
        obtain ⟨vs, rfl, hvs⟩ := this
        have hl := hvs.length
        simp only [aop, hvx]
        rw [if_pos (by omega)]
        exact Snd.same H (.agg ((hvs.drop off).take n))
      · cases ha
    · cases ha
  | ia z x i =>
    simp only [top] at ha
    obtain ⟨n, hn, ha⟩ := Option.bind_eq_some_iff.1 ha
    have hi := getIT_ok (hρ i) hn
    have hx := hρ x
    split at ha
    · rename_i es hxe
      split at ha
      · rename_i h0
        obtain ⟨e, he, ha⟩ := Option.bind_eq_some_iff.1 ha
        split at ha
        · rename_i hz
          cases ha
          rw [hxe] at hx
          generalize hvx : ρA x = vx at hx
          have hlt := (List.getElem?_eq_some_iff.1 he).1
          cases hx with
          | fz h =>
            cases h with
            | s0 => simp at hlt
            | s1 => simp at hlt
            | s h1 h2 h3 h4 =>
              rename_i c off cs cap z'
              have hzz : z' = z := by rw [← hz]; exact (sized_iff.1 h3 e (List.mem_of_getElem? he)).symm
              subst hzz
              simp only [aop, hvx, hi]
              rw [if_pos (by omega)]
              refine Snd.same H (.fz ?_)
              have hiz : n.toNat * z' + z' ≤ es.length * z' := by have := Nat.mul_le_mul_right z' (show n.toNat + 1 ≤ es.length by omega); rw [Nat.add_mul] at this; omega
              have hcut : VFs Φ (cellsT e) ((cs.drop (off + n.toNat * z')).take (cellsT e).length) := by
                rw [hz, ← flat_cut h3 he]
                have gen : ∀ (a : List TV) (b : List Value) (p q : Nat), VFs Φ a b → VFs Φ ((a.drop p).take q) ((b.drop p).take q) := by
                  intro a
                  induction a with
                  | nil => intro b p q h; cases h; simpa using VFs.nil
                  | cons t a ih =>
                    intro b p q h
                    cases h with
                    | cons h1 h2 =>
                      cases p with
                      | succ p => simpa using ih _ p q h2
                      | zero =>
                        cases q with
                        | zero => simpa using VFs.nil
                        | succ q => simpa using VFs.cons h1 (by simpa using ih _ 0 q h2)
                have := gen _ _ (n.toNat * z') z' h4
                rw [List.drop_take, List.drop_drop, List.take_take] at this
                rw [show min z' (es.length * z' - n.toNat * z') = z' by omega] at this
                exact this
              have := VF.fe (o := 0) h1 (off := off + n.toNat * z') (by omega) hcut
              simpa [ptr] using this
        · cases ha
      · cases ha
    · rename_i b o m hxe
      split at ha
      · rename_i hc
        obtain ⟨h0, h1, hz⟩ := hc
        cases ha
        rw [hxe] at hx
        generalize hvx : ρA x = vx at hx
        cases hx with
        | fz h => cases h
        | on0 => omega
        | on1 => omega
        | os h1' =>
          rename_i c z1 cap
          simp only [aop, hvx, hi]
          rw [if_pos ⟨h0, h1⟩]
          refine Snd.same H ?_
          simp only [zAt] at hz
          split at hz
          · rename_i e' z' es hb
            simp only [beq_iff_eq] at hz
            subst hz
            rcases H.live b _ _ es hb with ⟨k1, _⟩ | ⟨c', cs, k1, _, _, _⟩
            · rw [h1'] at k1; cases k1
            · rw [h1'] at k1; cases k1
              have := VT.op (Φ := Φ) (i := o + n.toNat) (o := 0) h1'
              simpa [ptr, Nat.add_mul] using this
          · cases hz
      · cases ha
    · cases ha
  | ix x i =>
    simp only [top] at ha
    obtain ⟨v, h1, ha⟩ := Option.map_eq_some_iff.1 ha
    cases ha
    unfold pI at h1
    split at h1
    · rename_i s n hx hn
      split at h1
      · rename_i h0
        obtain ⟨b, hb, rfl⟩ := Option.map_eq_some_iff.1 h1
        have hxx := hρ x
        rw [hx] at hxx
        simp only [aop, hxx.p_inv.1, getIT_ok (hρ i) hn]
        rw [if_pos h0, hb]
        exact Snd.p H rfl
      · cases h1
    · cases h1
  | fn f cs =>
    simp only [top] at ha; cases ha
    simp only [aop]
    exact Snd.same H (.fn (VTs.map cs _ _ fun x _ => hρ x))
  | ext x i =>
    simp only [top] at ha
    have hx := hρ x
    split at ha
    · rename_i cs hxe
      obtain ⟨t, h1, ha⟩ := Option.map_eq_some_iff.1 ha
      cases ha
      rw [hxe] at hx
      generalize hvx : ρA x = vx at hx
      have : ∃ vs, vx = .tuple ⟨vs⟩ ∧ VTs φ Φ cs vs := by
        cases hx with
        | fz h => cases h with | tup h => exact ⟨_, rfl, VTs.fz h⟩
        | tup h => exact ⟨_, rfl, h⟩
      obtain ⟨vs, rfl, hvs⟩ := this
      obtain ⟨v, hv, r⟩ := hvs.get i _ h1
      simp only [aop, hvx, hv, Option.map_some]
      exact Snd.same H r
    · cases ha
  | nilc x =>
    simp only [top] at ha
    have hx := hρ x
    split at ha
    · rename_i b i o hxe
      cases ha
      rw [hxe] at hx
      have hx' := hx
      generalize hvx : ρA x = vx at hx
      cases hx with
      | fz h => cases h
      | op h1 =>
        simp only [aop, hvx, getP, Option.map_some]
        exact Snd.same H (.op h1)
    · rename_i e o hxe
      cases ha
      rw [hxe] at hx
      generalize hvx : ρA x = vx at hx
      cases hx with
      | fz h =>
        have h0 := h
        cases h with
        | fe h1 h2 h3 =>
          simp only [aop, hvx, getP, Option.map_some]
          exact Snd.same H (.fz h0)
    · cases ha
  | len x =>
    simp only [top] at ha
    have hx := hρ x
    split at ha
    · rename_i es hxe
      cases ha
      rw [hxe] at hx
      generalize hvx : ρA x = vx at hx
      cases hx with
      | fz h =>
        cases h with
        | s0 => simp only [aop, hvx]; exact Snd.p H rfl
        | s1 => simp only [aop, hvx]; exact Snd.p H rfl
        | s h1 h2 h3 h4 => simp only [aop, hvx]; exact Snd.p H rfl
    · rename_i b o n hxe
      cases ha
      rw [hxe] at hx
      generalize hvx : ρA x = vx at hx
      cases hx with
      | fz h => cases h
      | on0 => simp only [aop, hvx]; exact Snd.p H rfl
      | on1 => simp only [aop, hvx]; exact Snd.p H rfl
      | os h1 => simp only [aop, hvx]; exact Snd.p H rfl
    · rename_i hxe
      cases ha
      rw [hxe] at hx
      generalize hvx : ρA x = vx at hx
      cases hx with
      | fz h =>
        cases h with
        | nl0 => simp only [aop, hvx]; exact Snd.p H rfl
        | nl1 => simp only [aop, hvx]; exact Snd.p H rfl
    · cases ha
  | lenT x =>
    simp only [top] at ha
    have hx := hρ x
    split at ha
    · rename_i s hxe
      cases ha
      rw [hxe] at hx
      simp only [aop, hx.p_inv.1]
      exact Snd.p H rfl
    · cases ha
  | app e z bts x y => exact app_ok H hlo hρ ha
  | mkSl e z bts zc l c =>
    simp only [top] at ha
    obtain ⟨l', hl, ha⟩ := Option.bind_eq_some_iff.1 ha
    obtain ⟨c', hc, ha⟩ := Option.bind_eq_some_iff.1 ha
    split at ha
    · rename_i hh
      obtain ⟨h0, h1, h2, h3, h4, h5⟩ := hh
      cases ha
      simp only [aop, getIT_ok (hρ l) hl, getIT_ok (hρ c) hc]
      rw [if_pos ⟨h0, h1, h2, h3⟩]
      have he := el_cells (ofV1s_one h5)
      have hf : ∀ n, flatT (List.replicate n (el (zc.map ofV1))) = (List.replicate n (zc.map ofV1)).flatten := by
        intro n
        induction n with
        | zero => rfl
        | succ n ih => rw [List.replicate_succ, flat_cons, ih, he, List.replicate_succ, List.flatten_cons]
      have hv : ∀ n, VTs φ Φ ((List.replicate n (zc.map ofV1)).flatten) (List.replicate n zc).flatten := by
        intro n
        induction n with
        | zero => exact .nil
        | succ n ih => rw [List.replicate_succ, List.replicate_succ, List.flatten_cons, List.flatten_cons]; exact (ofV1s_ok h4).append ih
      exact (new_ok H (sized_iff.2 fun x hx => by rw [(List.mem_replicate.1 hx).2, he]; simp) (by rw [hf]; exact hv _)).1
    · cases ha
  | call f as =>
    simp only [top] at ha
    obtain ⟨sp, hs, ha⟩ := Option.bind_eq_some_iff.1 ha
    obtain ⟨spA, k1, k2⟩ := hΓ f sp hs
    simp only [aop, k1, Option.bind_some]
    exact k2.1 φ Φ hT hA lo tlo _ _ tv hT' H hlo hla (VTs.map as _ _ fun x _ => hρ x) ha
  | callv x as =>
    simp only [top] at ha
    have hx := hρ x
    split at ha
    · rename_i f cs hxe
      obtain ⟨sp, hs, ha⟩ := Option.bind_eq_some_iff.1 ha
      obtain ⟨spA, k1, k2⟩ := hΓ f sp hs
      rw [hxe] at hx
      generalize hvx : ρA x = vx at hx
      have : ∃ vs, vx = .func (.func f) ⟨[]⟩ ⟨vs⟩ ∧ VTs φ Φ cs vs := by
        cases hx with
        | fz h => cases h with | fn h => exact ⟨_, rfl, VTs.fz h⟩
        | fn h => exact ⟨_, rfl, h⟩
      obtain ⟨vs, rfl, hvs⟩ := this
      simp only [aop, hvx, k1, Option.bind_some]
      exact k2.1 φ Φ hT hA lo tlo _ _ tv hT' H hlo hla ((VTs.map as _ _ fun x _ => hρ x).append hvs) ha
    · cases ha
  | mkM =>
    simp only [top] at ha; cases ha
    simp only [aop]
    obtain ⟨φ', g1, g2, g3⟩ := grow0 (tlo := tlo) H (e := setT []) (z := 0) (es := []) (cs := []) rfl .nil
    refine ⟨_, _, φ', rfl, ?_, g1, g2⟩
    have := VT.op (Φ := Φ) (b := hT.length) (i := 0) (o := 0) g3
    exact .fn (.cons (by simpa using this) .nil)
  | getM n x k =>
    simp only [top] at ha
    obtain ⟨b, hb, ha⟩ := Option.bind_eq_some_iff.1 ha
    obtain ⟨K, hK, ha⟩ := Option.bind_eq_some_iff.1 ha
    obtain ⟨l, hl, ha⟩ := Option.bind_eq_some_iff.1 ha
    split at ha
    · rename_i hc
      cases ha
      obtain ⟨c, z, k1, k2⟩ := getMT_ok (hρ x) hb
      obtain ⟨e, cs, j1, j2, _⟩ := keysT_ok H hK k1
      simp only [aop, k2, j1, j2, keyT_ok (hρ k) hl]
      rw [if_pos hc]
      exact Snd.p H rfl
    · cases ha
  | putM n x k =>
    simp only [top] at ha
    obtain ⟨b, hb, ha⟩ := Option.bind_eq_some_iff.1 ha
    obtain ⟨K, hK, ha⟩ := Option.bind_eq_some_iff.1 ha
    obtain ⟨l, hl, ha⟩ := Option.bind_eq_some_iff.1 ha
    split at ha
    · rename_i hc
      cases ha
      obtain ⟨c, z, k1, k2⟩ := getMT_ok (hρ x) hb
      obtain ⟨e, cs, j1, j2, j3, rfl⟩ := keysT_ok H hK k1
      simp only [aop, k2, j1, j2, keyT_ok (hρ k) hl]
      rw [if_pos ⟨hlo b c _ hc.1 k1, hc.2⟩]
      obtain ⟨g1, g2⟩ := H.set (e' := setT (K ++ [l])) (es' := []) (cs' := []) (tlo := tlo) j3 k1 j1 rfl .nil hc.1
      exact ⟨_, _, φ, rfl, .tup .nil, g1, g2⟩
    · cases ha
  | eqP neg x =>
    simp only [top] at ha
    have hx := hρ x
    split at ha
    · rename_i b i o hxe
      cases ha
      rw [hxe] at hx
      generalize hvx : ρA x = vx at hx
      cases hx with
      | fz h => cases h
      | op h1 => simp only [aop, hvx, isNilP, Option.map_some]; cases neg <;> exact Snd.p H rfl
    · rename_i e o hxe
      cases ha
      rw [hxe] at hx
      generalize hvx : ρA x = vx at hx
      cases hx with
      | fz h => cases h with | fe h1 h2 h3 => simp only [aop, hvx, isNilP, Option.map_some]; cases neg <;> exact Snd.p H rfl
    · rename_i hxe
      cases ha
      rw [hxe] at hx
      simp only [aop, hx.p_inv.1, isNilP, Option.map_some]; cases neg <;> exact Snd.p H rfl
    · cases ha
  | ixA n x i =>
    simp only [top] at ha
    obtain ⟨j, hj, ha⟩ := Option.bind_eq_some_iff.1 ha
    have hx := hρ x
    split at ha
    · rename_i cs hxe
      split at ha
      · rename_i hc
        obtain ⟨v, hv, ha⟩ := Option.map_eq_some_iff.1 ha
        cases ha
        rw [hxe] at hx
        generalize hvx : ρA x = vx at hx
        have : ∃ vs, vx = .agg ⟨vs⟩ ∧ VTs φ Φ cs vs := by
          cases hx with
          | fz h => cases h with | agg h => exact ⟨_, rfl, VTs.fz h⟩
          | agg h => exact ⟨_, rfl, h⟩
        obtain ⟨vs, rfl, hvs⟩ := this
        obtain ⟨u, hu, ru⟩ := hvs.get _ _ hv
        simp only [aop, hvx, getIT_ok (hρ i) hj, hu, Option.map_some]
        rw [if_pos hc]
        exact Snd.same H ru
      · cases ha
    · cases ha
end
end Go.AH
namespace Go.AH

structure TSt where
  σ : Nat → TV
  h : THeap
def putT (σ : Nat → TV) (d : Nat) (v : TV) : Nat → TV := fun i => if i = d then v else σ i
def putTO (σ : Nat → TV) (d : Option Nat) (v : TV) : Nat → TV := match d with
  | some d => putT σ d v
  | none => σ
def argσT (args : List TV) : Nat → TV := fun i => (args[i]?).getD .any

def stepT (Γ : TCtx) (tlo : Nat → Bool) (o : AO) (s : TSt) : Option TSt :=
  match o.g with
  | none => (top Γ tlo (evT s.σ) s.h o.op).map fun r => ⟨putTO s.σ o.d r.1, r.2⟩
  | some (t, b) => match s.σ t with
    | .p (.bool c) => if c == b then (top Γ tlo (evT s.σ) s.h o.op).map fun r => ⟨putTO s.σ o.d r.1, r.2⟩ else some ⟨putTO s.σ o.d (.tup []), s.h⟩
    | .tup [] => some ⟨putTO s.σ o.d (.tup []), s.h⟩
    | _ => none
/-- A call whose end is told by a relation. -/
def stepR (Γ : TCtx) (o : AO) (s s' : TSt) : Prop := o.g = none ∧ ∃ f targs sp tv h', ((∃ as, o.op = .call f as ∧ targs = as.map (evT s.σ)) ∨ ∃ x as cs, o.op = .callv x as ∧ evT s.σ x = .fn f cs ∧ targs = as.map (evT s.σ) ++ cs) ∧ Γ.get f = some sp ∧ sp.rel targs s.h tv h' ∧ s' = ⟨putTO s.σ o.d tv, h'⟩
/-- A call whose end is told by what it has: whichever it is, one goes on. -/
def stepX (Γ : TCtx) (o : AO) (s : TSt) (Q : TSt → Prop) : Prop := (o.g = none ∨ ∃ t b, o.g = some (t, b) ∧ s.σ t = .p (.bool b)) ∧ ∃ f targs sp, ((∃ as, o.op = .call f as ∧ targs = as.map (evT s.σ)) ∨ ∃ x as cs, o.op = .callv x as ∧ evT s.σ x = .fn f cs ∧ targs = as.map (evT s.σ) ++ cs) ∧ Γ.get f = some sp ∧ sp.ex targs s.h fun tv h' => Q ⟨putTO s.σ o.d tv, h'⟩
def relQ (Γ : TCtx) (o : AO) (s : TSt) (Q : TSt → Prop) : Prop := (∃ s', stepR Γ o s s' ∧ Q s') ∨ stepX Γ o s Q
def ropsT (Γ : TCtx) : List AO → (TSt → Prop) → TSt → Prop
  | [], K, s => K s
  | o :: r, K, s => match stepT Γ anyB o s with
    | some s' => ropsT Γ r K s'
    | none => relQ Γ o s fun s' => ropsT Γ r K s'
/-- What an operation that reads looks at. -/
def rdX : AOp → Option Opd
  | .ld x => some x
  | .ldn _ x => some x
  | _ => none
/-- The block b is read by one of these. -/
def frB (σ : Nat → TV) (b : Nat) : List AO → Bool
  | [] => false
  | y :: fr => (match rdX y.op with
    | some x => match evT σ x with
      | .op c _ _ => c == b
      | _ => false
    | none => false) || frB σ b fr
def frOk (σ : Nat → TV) : List AO → Bool
  | [] => true
  | y :: fr => (match rdX y.op with
    | some x => match evT σ x with
      | .op _ _ _ => true
      | .fe _ _ => true
      | _ => false
    | none => false) && frOk σ fr
def prot (fr : List AO) (σ : Nat → TV) : Nat → Bool := fun b => !frB σ b fr
/-- The end of a statement of open order, where what is read stays. -/
def ropsTF (Γ : TCtx) (fr : List AO) : List AO → (TSt → Prop) → TSt → Prop
  | [], K, s => K s
  | o :: r, K, s => frOk s.σ fr = true ∧ match stepT Γ (prot fr s.σ) o s with
    | some s' => ropsTF Γ fr r K s'
    | none => False
def qopsT (Γ : TCtx) : List AO → (TSt → Prop) → TSt → Prop
  | [], K, s => K s
  | o :: r, K, s => match stepT Γ (fromB s.h.length) o s with
    | some s' => qopsT Γ r K s'
    | none => False

mutual
def renT (ρ : Nat → Nat) : TV → TV
  | .os b o n => .os (ρ b) o n
  | .op b i o => .op (ρ b) i o
  | .agg cs => .agg (renTs ρ cs)
  | .tup cs => .tup (renTs ρ cs)
  | .fn f cs => .fn f (renTs ρ cs)
  | .p v => .p v
  | .nl => .nl
  | .s es => .s es
  | .fe e o => .fe e o
  | .any => .any
  | .ub => .ub
def renTs (ρ : Nat → Nat) : List TV → List TV
  | [] => []
  | t :: ts => renT ρ t :: renTs ρ ts
end
/-- The second state says less than the first, and may number its blocks otherwise; the first k blocks keep their numbers. -/
def Le (k : Nat) (s s0 : TSt) : Prop := ∃ ρ : Nat → Nat, (∀ i, i < k → ρ i = i) ∧ k ≤ s0.h.length ∧ (∀ b b', b < s0.h.length → b' < s0.h.length → ρ b = ρ b' → b = b') ∧ (∀ b, s0.h.length ≤ b → s.h.length ≤ ρ b) ∧
  (∀ t, s0.σ t = .any ∨ s.σ t = renT ρ (s0.σ t)) ∧ ∀ b e z es, s0.h[b]? = some (.cells e z es) → s.h[ρ b]? = some (.cells e z (renTs ρ es))

def isBlk : AC → Bool
  | .block _ (.loop _) => true
  | .seq _ b => isBlk b
  | _ => false
def awpT (k : Nat) (Γ : TCtx) : AC → (Exit → TSt → Prop) → TSt → Prop
  | .skip, Q, s => Q .normal s
  | .reg ops, Q, s => ropsT Γ ops (Q .normal) s
  | .drw ops tail, Q, s => qopsT Γ ops (ropsT Γ tail (Q .normal)) s
  | .drf fr ops tail, Q, s => qopsT Γ ops (ropsTF Γ fr tail (Q .normal)) s
  | .seq a b, Q, s => awpT k Γ a (fun e s' => match e with
    | .normal => if isBlk a = true then ∃ s0, Le k s' s0 ∧ awpT k Γ b Q s0 else awpT k Γ b Q s'
    | e => Q e s') s
  | .cond c a b, Q, s => match evT s.σ c with
    | .p (.bool t) => if t then awpT k Γ a Q s else awpT k Γ b Q s
    | .ub => awpT k Γ a Q s ∧ awpT k Γ b Q s
    | _ => False
  | .block id a, Q, s => awpT k Γ a (fun e s' => match e with | .exit i => if i = id then Q .normal s' else Q (.exit i) s' | e => Q e s') s
  | .loop a, Q, s => ∃ R : Nat → TSt → Prop, (∃ n s0, Le k s s0 ∧ R n s0) ∧ ∀ n s', R n s' → awpT k Γ a (fun e s'' => match e with | .normal => ∃ m s0, m < n ∧ Le k s'' s0 ∧ R m s0 | e => Q e s'') s'
  | .exit id, Q, s => Q (.exit id) s
  | .ret, Q, s => Q .ret s
  | .bad, _, _ => False

/-! ### How a state of trees stands to a state -/
structure RelT (Φ : Frz) (k : Nat) (φe : Own) (hA0 : Heap) (lo : Nat) (sT : TSt) (sA : St) (φ : Own) : Prop where
  slots : ∀ t, VT φ Φ (sT.σ t) (sA.σ t)
  heap : HT φ Φ sT.h sA.h
  pin : ∀ i, i < k → φ i = φe i
  kle : k ≤ sT.h.length
  new : ∀ b c z, k ≤ b → φ b = some (c, z) → hA0.length ≤ c
  low : ∀ b c z, φ b = some (c, z) → lo ≤ c
  alen : hA0.length ≤ sA.h.length
  fr : ∀ c, c < hA0.length → (∀ i z, i < k → φe i ≠ some (c, z)) → sA.h[c]? = hA0[c]?

section
variable {Φ : Frz} {k lo : Nat} {φe φ : Own} {hA0 : Heap} {Γ : Ctx} {ΓT : TCtx}

theorem evT_ok {σT : Nat → TV} {σ : Nat → Value} (h : ∀ t, VT φ Φ (σT t) (σ t)) (x : Opd) : VT φ Φ (evT σT x) (ev σ x) := by
  cases x with
  | t i => exact h i
  | v v =>
    simp only [evT]
    split
    · exact .fz (ofV_vt ‹_›)
    · exact .fz (.any _)

mutual
theorem VT.unren {ρ : Nat → Nat} : ∀ (t : TV) {v : Value}, VT φ Φ (renT ρ t) v → VT (fun b => φ (ρ b)) Φ t v
  | .os b o n, v, h => by
    simp only [renT] at h
    cases h with
    | fz h => cases h
    | on0 => exact .on0 _ _
    | on1 => exact .on1 _ _ _ _ _ _
    | os h => exact .os h
  | .op b i o, v, h => by
    simp only [renT] at h
    cases h with
    | fz h => cases h
    | op h => exact .op h
  | .agg cs, v, h => by
    simp only [renT] at h
    cases h with
    | fz h => cases h with | agg h => exact .agg (VTs.unren cs (VTs.fz h))
    | agg h => exact .agg (VTs.unren cs h)
  | .tup cs, v, h => by
    simp only [renT] at h
    cases h with
    | fz h => cases h with | tup h => exact .tup (VTs.unren cs (VTs.fz h))
    | tup h => exact .tup (VTs.unren cs h)
  | .fn f cs, v, h => by
    simp only [renT] at h
    cases h with
    | fz h => cases h with | fn h => exact .fn (VTs.unren cs (VTs.fz h))
    | fn h => exact .fn (VTs.unren cs h)
  | .p x, v, h => by simp only [renT] at h; cases h with | fz h => exact .fz h
  | .nl, v, h => by simp only [renT] at h; cases h with | fz h => exact .fz h
  | .s es, v, h => by simp only [renT] at h; cases h with | fz h => exact .fz h
  | .fe e o, v, h => by simp only [renT] at h; cases h with | fz h => exact .fz h
  | .any, v, h => .fz (.any v)
  | .ub, v, h => by simp only [renT] at h; cases h with | fz h => exact .fz h
theorem VTs.unren {ρ : Nat → Nat} : ∀ (ts : List TV) {vs : List Value}, VTs φ Φ (renTs ρ ts) vs → VTs (fun b => φ (ρ b)) Φ ts vs
  | [], vs, h => by simp only [renTs] at h; cases h; exact .nil
  | t :: ts, vs, h => by
    simp only [renTs] at h
    cases h with | cons a b => exact .cons (VT.unren t a) (VTs.unren ts b)
end
theorem ren_cells (ρ : Nat → Nat) (t : TV) : cellsT (renT ρ t) = renTs ρ (cellsT t) := by cases t <;> rfl
theorem renTs_append (ρ : Nat → Nat) (a b : List TV) : renTs ρ (a ++ b) = renTs ρ a ++ renTs ρ b := by
  induction a with
  | nil => rfl
  | cons x a ih => simp [renTs, ih]
theorem renTs_map (ρ : Nat → Nat) (a : List TV) : renTs ρ a = a.map (renT ρ) := by
  induction a with
  | nil => rfl
  | cons x a ih => simp [renTs, ih]
theorem ren_flat (ρ : Nat → Nat) (es : List TV) : flatT (renTs ρ es) = renTs ρ (flatT es) := by
  induction es with
  | nil => rfl
  | cons e es ih => simp only [renTs, flat_cons, ren_cells, ih, renTs_append]
theorem ren_sized (ρ : Nat → Nat) (z : Nat) (es : List TV) : sizedT z (renTs ρ es) = sizedT z es := by
  simp only [sizedT, renTs_map, List.all_map]
  congr 1; funext e
  simp only [Function.comp, ren_cells, renTs_map, List.length_map]

/-- A heap whose blocks bear other numbers. -/
theorem HT.unren {hT hT0 : THeap} {hA : Heap} (H : HT φ Φ hT hA) {ρ : Nat → Nat} (inj : ∀ b b', b < hT0.length → b' < hT0.length → ρ b = ρ b' → b = b') (out : ∀ b, hT0.length ≤ b → hT.length ≤ ρ b)
    (bl : ∀ b e z es, hT0[b]? = some (.cells e z es) → hT[ρ b]? = some (.cells e z (renTs ρ es))) : HT (fun b => φ (ρ b)) Φ hT0 hA := by
  have dom : ∀ b c z, φ (ρ b) = some (c, z) → b < hT0.length := fun b c z h => by
    rcases Nat.lt_or_ge b hT0.length with x | x
    · exact x
    · have h1 := out b x; have h2 := (H.dom _ _ _ h).1; omega
  refine ⟨fun b c z h => ⟨dom b c z h, (H.dom _ _ _ h).2⟩, fun b b' c z z' h h' => inj b b' (dom _ _ _ h) (dom _ _ _ h') (H.inj _ _ _ _ _ h h'), ?_, H.frz, fun b c z cs h h' => H.disj _ c z cs h h'⟩
  intro b e z es h
  rcases H.live _ _ _ _ (bl b e z es h) with ⟨h1, h2⟩ | ⟨c, cs, h1, h2, h3, h4⟩
  · left; refine ⟨h1, ?_⟩
    cases es with
    | nil => rfl
    | cons a l => simp [renTs] at h2
  · right
    rw [ren_sized] at h3
    rw [ren_flat] at h4
    exact ⟨c, cs, h1, h2, h3, VTs.unren _ h4⟩
theorem RelT.le {s s0 : TSt} {sA : St} (R : RelT Φ k φe hA0 lo s sA φ) (L : Le k s s0) : ∃ φ', RelT Φ k φe hA0 lo s0 sA φ' := by
  obtain ⟨ρ, l1, l2, l3, l4, l5, l6⟩ := L
  refine ⟨fun b => φ (ρ b), ?_, R.heap.unren l3 l4 l6, fun i hi => by rw [l1 i hi]; exact R.pin i hi, l2, ?_, fun b c z h => R.low _ c z h, R.alen, R.fr⟩
  · intro t
    rcases l5 t with h | h
    · rw [h]; exact .fz (.any _)
    · have := R.slots t; rw [h] at this; exact VT.unren _ this
  · intro b c z hb h
    by_cases hk : ρ b < k
    · -- then b itself is below k
      exfalso
      have hlt : b < s0.h.length := by
        rcases Nat.lt_or_ge b s0.h.length with x | x
        · exact x
        · have h1 := l4 b x; have h2 := (R.heap.dom _ _ _ h).1; omega
      have := l3 b (ρ b) hlt (by omega) (l1 _ hk).symm
      omega
    · exact R.new _ c z (by omega) h
end
end Go.AH
namespace Go.AH

section
variable {Γ : Ctx} {lo : Nat}
theorem rops_mono {K K' : St → Prop} (h : ∀ s, K s → K' s) : ∀ (l : List AO) (s : St), rops Γ lo l K s → rops Γ lo l K' s
  | [], s, k => h s k
  | o :: r, s, k => by
    simp only [rops] at k ⊢
    split at k
    · rename_i s' hs; exact rops_mono h r s' k
    · exact k.elim
theorem ropsF_mono {fr : List AO} {K K' : St → Prop} (h : ∀ s, K s → K' s) : ∀ (l : List AO) (s : St), ropsF Γ lo fr l K s → ropsF Γ lo fr l K' s
  | [], s, k => h s k
  | o :: r, s, k => by
    simp only [ropsF] at k ⊢
    split at k
    · rename_i s' hs; exact ⟨k.1, ropsF_mono h r s' k.2⟩
    · exact k.elim
theorem qops_mono {K K' : St → Prop} (h : ∀ s, K s → K' s) : ∀ (l : List AO) (s : St), qops Γ l K s → qops Γ l K' s
  | [], s, k => h s k
  | o :: r, s, k => by
    simp only [qops] at k ⊢
    split at k
    · rename_i s' hs; exact qops_mono h r s' k
    · exact k.elim
theorem awp_mono : ∀ (c : AC) {Q Q' : Exit → St → Prop} (h : ∀ e s, Q e s → Q' e s) (s : St), awp Γ lo c Q s → awp Γ lo c Q' s
  | .skip, Q, Q', h, s, k => h _ _ k
  | .reg ops, Q, Q', h, s, k => rops_mono (h .normal) ops s k
  | .drw ops tl, Q, Q', h, s, k => qops_mono (fun s' => rops_mono (h .normal) tl s') ops s k
  | .drf fr ops tl, Q, Q', h, s, k => qops_mono (fun s' => ropsF_mono (h .normal) tl s') ops s k
  | .seq a b, Q, Q', h, s, k => by
    simp only [awp] at k ⊢
    refine awp_mono a (fun e s' hh => ?_) s k
    cases e with
    | normal => exact awp_mono b h s' hh
    | _ => exact h _ _ hh
  | .cond c a b, Q, Q', h, s, k => by
    simp only [awp] at k ⊢
    split at k
    · rename_i t ht
      split at k
      · rename_i h1; simp only [h1, if_true]; exact awp_mono a h s k
      · rename_i h1; simp only [h1]; exact awp_mono b h s k
    · exact k.elim
  | .block id a, Q, Q', h, s, k => by
    simp only [awp] at k ⊢
    refine awp_mono a (fun e s' hh => ?_) s k
    cases e with
    | exit i =>
      dsimp only at hh ⊢
      split at hh
      · rename_i h1; rw [if_pos h1]; exact h _ _ hh
      · rename_i h1; rw [if_neg h1]; exact h _ _ hh
    | _ => exact h _ _ hh
  | .loop a, Q, Q', h, s, k => by
    simp only [awp] at k ⊢
    obtain ⟨R, h0, h1⟩ := k
    refine ⟨R, h0, fun n s' hr => awp_mono a (fun e s'' hh => ?_) s' (h1 n s' hr)⟩
    cases e with
    | normal => exact hh
    | _ => exact h _ _ hh
  | .exit id, Q, Q', h, s, k => h _ _ k
  | .ret, Q, Q', h, s, k => h _ _ k
  | .bad, Q, Q', h, s, k => k.elim

/-- The run is one. -/
theorem rops_both {K K' : St → Prop} : ∀ (l : List AO) (s : St), rops Γ lo l K s → rops Γ lo l K' s → ∃ s', K s' ∧ K' s' ∧ rops Γ lo l (fun x => x = s') s
  | [], s, k, k' => ⟨s, k, k', rfl⟩
  | o :: r, s, k, k' => by
    simp only [rops] at k k' ⊢
    split at k
    · rename_i s' hs; simp only [hs] at k' ⊢; exact rops_both r s' k k'
    · exact k.elim
theorem ropsF_both {fr : List AO} {K K' : St → Prop} : ∀ (l : List AO) (s : St), ropsF Γ lo fr l K s → ropsF Γ lo fr l K' s → ∃ s', K s' ∧ K' s' ∧ ropsF Γ lo fr l (fun x => x = s') s
  | [], s, k, k' => ⟨s, k, k', rfl⟩
  | o :: r, s, k, k' => by
    simp only [ropsF] at k k' ⊢
    split at k
    · rename_i s' hs; simp only [hs] at k' ⊢; obtain ⟨s2, g1, g2, g3⟩ := ropsF_both r s' k.2 k'.2; exact ⟨s2, g1, g2, k.1, g3⟩
    · exact k.elim
theorem qops_both {K K' : St → Prop} : ∀ (l : List AO) (s : St), qops Γ l K s → qops Γ l K' s → ∃ s', K s' ∧ K' s' ∧ qops Γ l (fun x => x = s') s
  | [], s, k, k' => ⟨s, k, k', rfl⟩
  | o :: r, s, k, k' => by
    simp only [qops] at k k' ⊢
    split at k
    · rename_i s' hs; simp only [hs] at k' ⊢; exact qops_both r s' k k'
    · exact k.elim
theorem awp_both : ∀ (c : AC) {Q Q' : Exit → St → Prop} (s : St), awp Γ lo c Q s → awp Γ lo c Q' s → ∃ e0 s0, Q e0 s0 ∧ Q' e0 s0 ∧ awp Γ lo c (fun e s' => e = e0 ∧ s' = s0) s
  | .skip, Q, Q', s, k, k' => ⟨_, _, k, k', rfl, rfl⟩
  | .reg ops, Q, Q', s, k, k' => by
    obtain ⟨s', h1, h2, h3⟩ := rops_both ops s k k'
    exact ⟨_, _, h1, h2, rops_mono (fun x hx => ⟨rfl, hx⟩) ops s h3⟩
  | .drw ops tl, Q, Q', s, k, k' => by
    obtain ⟨s', h1, h2, h3⟩ := qops_both ops s k k'
    obtain ⟨s'', g1, g2, g3⟩ := rops_both tl s' h1 h2
    exact ⟨_, _, g1, g2, qops_mono (fun x hx => by subst hx; exact rops_mono (fun x hx => ⟨rfl, hx⟩) tl _ g3) ops s h3⟩
  | .drf fr ops tl, Q, Q', s, k, k' => by
    obtain ⟨s', h1, h2, h3⟩ := qops_both ops s k k'
    obtain ⟨s'', g1, g2, g3⟩ := ropsF_both tl s' h1 h2
    exact ⟨_, _, g1, g2, qops_mono (fun x hx => by subst hx; exact ropsF_mono (fun x hx => ⟨rfl, hx⟩) tl _ g3) ops s h3⟩
  | .seq a b, Q, Q', s, k, k' => by
    simp only [awp] at k k' ⊢
    obtain ⟨e1, s1, h1, h2, h3⟩ := awp_both a s k k'
    cases e1 with
    | normal =>
      obtain ⟨e2, s2, g1, g2, g3⟩ := awp_both b s1 h1 h2
      exact ⟨e2, s2, g1, g2, awp_mono a (fun e x hx => by obtain ⟨rfl, rfl⟩ := hx; exact g3) s h3⟩
    | _ => exact ⟨_, s1, h1, h2, awp_mono a (fun e x hx => by obtain ⟨rfl, rfl⟩ := hx; exact ⟨rfl, rfl⟩) s h3⟩
  | .cond c a b, Q, Q', s, k, k' => by
    simp only [awp] at k k' ⊢
    split at k
    · rename_i t ht
      simp only [ht] at k' ⊢
      cases t with
      | true => simp only [if_true] at k k' ⊢; exact awp_both a s k k'
      | false => exact awp_both b s k k'
    · exact k.elim
  | .block id a, Q, Q', s, k, k' => by
    simp only [awp] at k k' ⊢
    obtain ⟨e1, s1, h1, h2, h3⟩ := awp_both a s k k'
    cases e1 with
    | exit i =>
      dsimp only at h1 h2
      split at h1
      · rename_i hi
        rw [if_pos hi] at h2
        exact ⟨_, s1, h1, h2, awp_mono a (fun e x hx => by obtain ⟨rfl, rfl⟩ := hx; dsimp only; rw [if_pos hi]; exact ⟨rfl, rfl⟩) s h3⟩
      · rename_i hi
        rw [if_neg hi] at h2
        exact ⟨_, s1, h1, h2, awp_mono a (fun e x hx => by obtain ⟨rfl, rfl⟩ := hx; dsimp only; rw [if_neg hi]; exact ⟨rfl, rfl⟩) s h3⟩
    | _ => exact ⟨_, s1, h1, h2, awp_mono a (fun e x hx => by obtain ⟨rfl, rfl⟩ := hx; exact ⟨rfl, rfl⟩) s h3⟩
  | .loop a, Q, Q', s, k, k' => by
    simp only [awp] at k k' ⊢
    obtain ⟨R, ⟨n, hn⟩, hR⟩ := k
    obtain ⟨R', ⟨n', hn'⟩, hR'⟩ := k'
    have key : ∀ n s n', R n s → R' n' s → ∃ e0 s0, Q e0 s0 ∧ Q' e0 s0 ∧ ∃ T : Nat → St → Prop, T n s ∧ ∀ m x, T m x → awp Γ lo a (fun e s'' => match e with | .normal => ∃ m', m' < m ∧ T m' s'' | e => e = e0 ∧ s'' = s0) x := by
      intro n
      induction n using Nat.strongRecOn with
      | _ n ih =>
        intro s n' hn hn'
        obtain ⟨e1, s1, h1, h2, h3⟩ := awp_both a s (hR n s hn) (hR' n' s hn')
        have out : ∀ e1, e1 ≠ .normal → Q e1 s1 → Q' e1 s1 → awp Γ lo a (fun e s' => e = e1 ∧ s' = s1) s → ∃ e0 s0, Q e0 s0 ∧ Q' e0 s0 ∧ ∃ T : Nat → St → Prop, T n s ∧ ∀ m x, T m x → awp Γ lo a (fun e s'' => match e with | .normal => ∃ m', m' < m ∧ T m' s'' | e => e = e0 ∧ s'' = s0) x := by
          intro e1 hne q1 q2 q3
          refine ⟨e1, s1, q1, q2, fun m x => m = n ∧ x = s, ⟨rfl, rfl⟩, fun m x hx => ?_⟩
          obtain ⟨rfl, rfl⟩ := hx
          refine awp_mono a (fun e y hy => ?_) _ q3
          obtain ⟨rfl, rfl⟩ := hy
          cases e with
          | normal => exact absurd rfl hne
          | _ => exact ⟨rfl, rfl⟩
        cases e1 with
        | normal =>
          obtain ⟨m, hm, hmR⟩ := h1
          obtain ⟨m', _, hmR'⟩ := h2
          obtain ⟨e0, s0, q1, q2, T, t1, t2⟩ := ih m hm s1 m' hmR hmR'
          refine ⟨e0, s0, q1, q2, fun p x => (p = n ∧ x = s) ∨ (p ≤ m ∧ T p x), .inl ⟨rfl, rfl⟩, fun p x hx => ?_⟩
          rcases hx with ⟨rfl, rfl⟩ | ⟨hp, hx⟩
          · refine awp_mono a (fun e y hy => ?_) _ h3
            obtain ⟨rfl, rfl⟩ := hy
            exact ⟨m, hm, .inr ⟨Nat.le_refl _, t1⟩⟩
          · refine awp_mono a (fun e y hy => ?_) _ (t2 p x hx)
            cases e with
            | normal => obtain ⟨m', h1, h2⟩ := hy; exact ⟨m', h1, .inr ⟨by omega, h2⟩⟩
            | _ => exact hy
        | exit i => exact out _ (by simp) h1 h2 h3
        | goto i => exact out _ (by simp) h1 h2 h3
        | ret => exact out _ (by simp) h1 h2 h3
        | panic i => exact out _ (by simp) h1 h2 h3
        | outgrown => exact out _ (by simp) h1 h2 h3
    obtain ⟨e0, s0, q1, q2, T, t1, t2⟩ := key n s n' hn hn'
    exact ⟨e0, s0, q1, q2, T, ⟨n, t1⟩, t2⟩
  | .exit id, Q, Q', s, k, k' => ⟨_, _, k, k', rfl, rfl⟩
  | .ret, Q, Q', s, k, k' => ⟨_, _, k, k', rfl, rfl⟩
  | .bad, Q, Q', s, k, k' => k.elim

/-- What lies below lo stays. -/
theorem rops_fr {P : Program} (hΓ : OkΓ P Γ) {K : St → Prop} : ∀ (l : List AO) (s : St), lo ≤ s.h.length → rops Γ lo l K s → rops Γ lo l (fun s' => K s' ∧ Fr lo s.h s'.h) s
  | [], s, _, k => ⟨k, Fr.refl _ _⟩
  | o :: r, s, hl, k => by
    simp only [rops] at k ⊢
    split at k
    · rename_i s' hs
      have h1 : Fr lo s.h s'.h := by
        unfold stepO at hs
        split at hs
        · obtain ⟨⟨v, h'⟩, ha, rfl⟩ := Option.map_eq_some_iff.1 hs
          exact aop_fr hΓ _ ha hl
        · cases hs; exact Fr.refl _ _
      exact rops_mono (fun x hx => ⟨hx.1, h1.trans hx.2⟩) r s' (rops_fr hΓ r s' (Nat.le_trans hl h1.1) k)
    · exact k.elim
theorem ropsF_fr {P : Program} (hΓ : OkΓ P Γ) {fr : List AO} {K : St → Prop} : ∀ (l : List AO) (s : St), lo ≤ s.h.length → ropsF Γ lo fr l K s → ropsF Γ lo fr l (fun s' => K s' ∧ Fr lo s.h s'.h) s
  | [], s, _, k => ⟨k, Fr.refl _ _⟩
  | o :: r, s, hl, k => by
    simp only [ropsF] at k ⊢
    split at k
    · rename_i s' hs
      have h1 : Fr lo s.h s'.h := by
        unfold stepO at hs
        split at hs
        · obtain ⟨⟨v, h'⟩, ha, rfl⟩ := Option.map_eq_some_iff.1 hs
          exact aop_fr hΓ _ ha hl
        · cases hs; exact Fr.refl _ _
      exact ⟨k.1, ropsF_mono (fun x hx => ⟨hx.1, h1.trans hx.2⟩) r s' (ropsF_fr hΓ r s' (Nat.le_trans hl h1.1) k.2)⟩
    · exact k.elim
theorem qops_fr {P : Program} (hΓ : OkΓ P Γ) {K : St → Prop} : ∀ (l : List AO) (s : St), lo ≤ s.h.length → qops Γ l K s → qops Γ l (fun s' => K s' ∧ Fr lo s.h s'.h) s
  | [], s, _, k => ⟨k, Fr.refl _ _⟩
  | o :: r, s, hl, k => by
    simp only [qops] at k ⊢
    split at k
    · rename_i s' hs
      have h1 : Fr lo s.h s'.h := by
        unfold stepO at hs
        split at hs
        · obtain ⟨⟨v, h'⟩, ha, rfl⟩ := Option.map_eq_some_iff.1 hs
          exact (aop_fr hΓ _ ha (Nat.le_refl _)).mono hl
        · cases hs; exact Fr.refl _ _
      exact qops_mono (fun x hx => ⟨hx.1, h1.trans hx.2⟩) r s' (qops_fr hΓ r s' (Nat.le_trans hl h1.1) k)
    · exact k.elim
theorem awp_fr {P : Program} (hΓ : OkΓ P Γ) : ∀ (c : AC) {Q : Exit → St → Prop} (s : St), lo ≤ s.h.length → awp Γ lo c Q s → awp Γ lo c (fun e s' => Q e s' ∧ Fr lo s.h s'.h) s
  | .skip, Q, s, hl, k => ⟨k, Fr.refl _ _⟩
  | .reg ops, Q, s, hl, k => rops_fr hΓ ops s hl k
  | .drw ops tl, Q, s, hl, k => by
    refine qops_mono (fun s' hs => ?_) ops s (qops_fr hΓ ops s hl k)
    exact rops_mono (fun x hx => ⟨hx.1, hs.2.trans hx.2⟩) tl s' (rops_fr hΓ tl s' (Nat.le_trans hl hs.2.1) hs.1)
  | .drf fr ops tl, Q, s, hl, k => by
    refine qops_mono (fun s' hs => ?_) ops s (qops_fr hΓ ops s hl k)
    exact ropsF_mono (fun x hx => ⟨hx.1, hs.2.trans hx.2⟩) tl s' (ropsF_fr hΓ tl s' (Nat.le_trans hl hs.2.1) hs.1)
  | .seq a b, Q, s, hl, k => by
    simp only [awp] at k ⊢
    refine awp_mono a (fun e s' hh => ?_) s (awp_fr hΓ a s hl k)
    cases e with
    | normal => exact awp_mono b (fun e x hx => ⟨hx.1, hh.2.trans hx.2⟩) s' (awp_fr hΓ b s' (Nat.le_trans hl hh.2.1) hh.1)
    | _ => exact hh
  | .cond c a b, Q, s, hl, k => by
    simp only [awp] at k ⊢
    split at k
    · rename_i t ht
      cases t with
      | true => simp only [if_true] at k ⊢; exact awp_fr hΓ a s hl k
      | false => exact awp_fr hΓ b s hl k
    · exact k.elim
  | .block id a, Q, s, hl, k => by
    simp only [awp] at k ⊢
    refine awp_mono a (fun e s' hh => ?_) s (awp_fr hΓ a s hl k)
    cases e with
    | exit i =>
      obtain ⟨h1, h2⟩ := hh
      dsimp only at h1 ⊢
      split at h1
      · rename_i hi; rw [if_pos hi]; exact ⟨h1, h2⟩
      · rename_i hi; rw [if_neg hi]; exact ⟨h1, h2⟩
    | _ => exact hh
  | .loop a, Q, s, hl, k => by
    simp only [awp] at k ⊢
    obtain ⟨R, ⟨n, hn⟩, hR⟩ := k
    refine ⟨fun m x => R m x ∧ Fr lo s.h x.h, ⟨n, hn, Fr.refl _ _⟩, fun m x hx => ?_⟩
    refine awp_mono a (fun e s' hh => ?_) x (awp_fr hΓ a x (Nat.le_trans hl hx.2.1) (hR m x hx.1))
    cases e with
    | normal => obtain ⟨⟨m', h1, h2⟩, h3⟩ := hh; exact ⟨m', h1, h2, hx.2.trans h3⟩
    | _ => exact ⟨hh.1, hx.2.trans hh.2⟩
  | .exit id, Q, s, hl, k => ⟨k, Fr.refl _ _⟩
  | .ret, Q, s, hl, k => ⟨k, Fr.refl _ _⟩
  | .bad, Q, s, hl, k => k.elim
end

/-! ### A run over trees tells of the run -/
section
variable {Φ : Frz} {k lo : Nat} {φe φ : Own} {hA0 : Heap} {Γ : Ctx} {ΓT : TCtx}

theorem putT_ok {φ' : Own} {σT : Nat → TV} {σ : Nat → Value} (h : ∀ t, VT φ Φ (σT t) (σ t)) (he : ∀ b x, φ b = some x → φ' b = some x) (d : Option Nat) {tv : TV} {v : Value} (hv : VT φ' Φ tv v) : ∀ t, VT φ' Φ (putTO σT d tv t) (putO σ d v t) := by
  intro t
  cases d with
  | none => exact (h t).mono he
  | some d =>
    simp only [putTO, putT, putO, put]
    split
    · exact hv
    · exact (h t).mono he
theorem after {sT : TSt} {sA : St} {φ' : Own} {tlo : Nat → Bool} {d : Option Nat} {tv : TV} {v : Value} {hT' : THeap} {hA' : Heap} (R : RelT Φ k φe hA0 lo sT sA φ) (hl : lo ≤ hA0.length) (hv : VT φ' Φ tv v) (H : HT φ' Φ hT' hA') (A : Adv tlo φ φ' sT.h hT' sA.h hA') :
    RelT Φ k φe hA0 lo ⟨putTO sT.σ d tv, hT'⟩ ⟨putO sA.σ d v, hA'⟩ φ' := by
  refine ⟨putT_ok R.slots (A.ext R.heap) d hv, H, fun i hi => by rw [A.old i (by have := R.kle; omega)]; exact R.pin i hi, Nat.le_trans R.kle A.tlen, ?_, ?_, Nat.le_trans R.alen A.alen, ?_⟩
  · intro b c z hb h
    by_cases hlt : b < sT.h.length
    · rw [A.old b hlt] at h; exact R.new b c z hb h
    · exact Nat.le_trans R.alen (A.new b c z (by omega) h)
  · intro b c z h
    by_cases hlt : b < sT.h.length
    · rw [A.old b hlt] at h; exact R.low b c z h
    · exact Nat.le_trans hl (Nat.le_trans R.alen (A.new b c z (by omega) h))
  · intro c hc hn
    rw [← R.fr c hc hn]
    refine A.fr c (by have := R.alen; omega) fun b z _ h => ?_
    by_cases hk : b < k
    · rw [R.pin b hk] at h; exact hn b z hk h
    · have := R.new b c z (by omega) h; omega
theorem stepT_ok (hΓ : OkG Γ ΓT) (hl : lo ≤ hA0.length) {sT sT' : TSt} {sA : St} (R : RelT Φ k φe hA0 lo sT sA φ) {o : AO} {tlo : Nat → Bool} {lo' : Nat} (hlo : ∀ b c z, tlo b = true → φ b = some (c, z) → lo' ≤ c) (hl' : lo' ≤ sA.h.length)
    (h : stepT ΓT tlo o sT = some sT') : ∃ sA' φ', stepO Γ lo' o sA = some sA' ∧ RelT Φ k φe hA0 lo sT' sA' φ' ∧ ∀ c, c < sA.h.length → (∀ b z, tlo b = true → φ b ≠ some (c, z)) → sA'.h[c]? = sA.h[c]? := by
  have run : (top ΓT tlo (evT sT.σ) sT.h o.op).map (fun r => (⟨putTO sT.σ o.d r.1, r.2⟩ : TSt)) = some sT' → ∃ sA' φ', (aop Γ lo' (ev sA.σ) sA.h o.op).map (fun r => (⟨putO sA.σ o.d r.1, r.2⟩ : St)) = some sA' ∧ RelT Φ k φe hA0 lo sT' sA' φ' ∧ ∀ c, c < sA.h.length → (∀ b z, tlo b = true → φ b ≠ some (c, z)) → sA'.h[c]? = sA.h[c]? := by
    intro h
    obtain ⟨⟨tv, hT'⟩, ha, rfl⟩ := Option.map_eq_some_iff.1 h
    obtain ⟨v, hA', φ', e, hv, H, A⟩ := top_ok (Γ := Γ) R.heap hlo hl' (evT_ok R.slots) hΓ ha
    exact ⟨_, φ', by rw [e]; rfl, after R hl hv H A, A.fr⟩
  unfold stepT at h
  unfold stepO
  split at h
  · rename_i hg
    rw [hg]
    simp only [wants, if_true]
    exact run h
  · rename_i t b hg
    rw [hg]
    split at h
    · rename_i c hc
      have hs := R.slots t
      rw [hc] at hs
      have hw : wants sA.σ (some (t, b)) = (c == b) := by simp only [wants, hs.p_inv.1]
      rw [hw]
      split at h
      · rename_i hcb; rw [if_pos hcb]; exact run h
      · rename_i hcb
        rw [if_neg hcb]
        cases h
        exact ⟨_, φ, rfl, after (tlo := anyB) R hl (.tup .nil) R.heap (Adv.refl R.heap), fun _ _ _ => rfl⟩
    · rename_i hc
      have hs := R.slots t
      rw [hc] at hs
      have hw : wants sA.σ (some (t, b)) = false := by
        generalize hv : sA.σ t = v at hs
        have : v = undef := by
          cases hs with
          | fz h => cases h with | tup h => cases h; rfl
          | tup h => cases h; rfl
        simp only [wants, hv, this, undef]
      rw [hw]
      cases h
      exact ⟨_, φ, rfl, after (tlo := anyB) R hl (.tup .nil) R.heap (Adv.refl R.heap), fun _ _ _ => rfl⟩
    · cases h
theorem ropsT_ok (hΓ : OkG Γ ΓT) (hl : lo ≤ hA0.length) {K : TSt → Prop} : ∀ (l : List AO) (sT : TSt) (sA : St) (φ : Own), RelT Φ k φe hA0 lo sT sA φ → ropsT ΓT l K sT → rops Γ lo l (fun sA' => ∃ sT' φ', K sT' ∧ RelT Φ k φe hA0 lo sT' sA' φ') sA
  | [], sT, sA, φ, R, h => ⟨sT, φ, h, R⟩
  | o :: r, sT, sA, φ, R, h => by
    simp only [ropsT] at h
    split at h
    · rename_i sT' hs
      obtain ⟨sA', φ', e, R', _⟩ := stepT_ok hΓ hl R (fun b c z _ hh => R.low b c z hh) (Nat.le_trans hl R.alen) hs
      simp only [rops, e]
      exact ropsT_ok hΓ hl r sT' sA' φ' R' h
    · have fnv : ∀ (x : Opd) (f : Nat) (cs : List TV), evT sT.σ x = .fn f cs → ∃ vs, ev sA.σ x = .func (.func f) ⟨[]⟩ ⟨vs⟩ ∧ VTs φ Φ cs vs := by
        intro x f cs hx
        have hvx := evT_ok R.slots x
        rw [hx] at hvx
        generalize ev sA.σ x = vx at hvx
        cases hvx with
        | fz h => cases h with | fn h => exact ⟨_, rfl, VTs.fz h⟩
        | fn h => exact ⟨_, rfl, h⟩
      rcases h with ⟨sT', ⟨hg, f, targs, sp, tv, h', hop, hf, hrel, rfl⟩, hrest⟩ | ⟨hg, f, targs, sp, hop, hf, hx⟩
      · obtain ⟨spA, k1, k2⟩ := hΓ f sp hf
        rcases hop with ⟨as, hop, rfl⟩ | ⟨x, as, cs, hop, hx, rfl⟩
        · obtain ⟨v, hA', φ', e, hv, H, A⟩ := k2.2.1 φ Φ sT.h sA.h lo _ _ tv h' R.heap R.low (Nat.le_trans hl R.alen) (VTs.map as _ _ fun x _ => evT_ok R.slots x) hrel
          have hst : stepO Γ lo o sA = some ⟨putO sA.σ o.d v, hA'⟩ := by
            unfold stepO
            rw [hg, hop]
            simp only [wants, if_true, aop, k1, Option.bind_some, e]; rfl
          simp only [rops, hst]
          exact ropsT_ok hΓ hl r _ _ φ' (after R hl hv H A) hrest
        · obtain ⟨vs, hvy, hvs⟩ := fnv x f cs hx
          obtain ⟨v, hA', φ', e, hv, H, A⟩ := k2.2.1 φ Φ sT.h sA.h lo _ _ tv h' R.heap R.low (Nat.le_trans hl R.alen) ((VTs.map as _ _ fun x _ => evT_ok R.slots x).append hvs) hrel
          have hst : stepO Γ lo o sA = some ⟨putO sA.σ o.d v, hA'⟩ := by
            unfold stepO
            rw [hg, hop]
            simp only [wants, if_true, aop, hvy, k1, Option.bind_some, e]; rfl
          simp only [rops, hst]
          exact ropsT_ok hΓ hl r _ _ φ' (after R hl hv H A) hrest
      · obtain ⟨spA, k1, k2⟩ := hΓ f sp hf
        have hwt : wants sA.σ o.g = true := by
          rcases hg with hg | ⟨t, b, hg, hs⟩
          · rw [hg]; rfl
          · have hs' := R.slots t
            rw [hs] at hs'
            rw [hg]; simp only [wants, hs'.p_inv.1, beq_self_eq_true]
        rcases hop with ⟨as, hop, rfl⟩ | ⟨x, as, cs, hop, hxf, rfl⟩
        · obtain ⟨tv, h', hrest, v, hA', φ', e, hv, H, A⟩ := k2.2.2 φ Φ sT.h sA.h lo _ _ _ R.heap R.low (Nat.le_trans hl R.alen) (VTs.map as _ _ fun x _ => evT_ok R.slots x) hx
          have hst : stepO Γ lo o sA = some ⟨putO sA.σ o.d v, hA'⟩ := by
            unfold stepO
            rw [if_pos hwt, hop]
            simp only [aop, k1, Option.bind_some, e]; rfl
          simp only [rops, hst]
          exact ropsT_ok hΓ hl r _ _ φ' (after R hl hv H A) hrest
        · obtain ⟨vs, hvy, hvs⟩ := fnv x f cs hxf
          obtain ⟨tv, h', hrest, v, hA', φ', e, hv, H, A⟩ := k2.2.2 φ Φ sT.h sA.h lo _ _ _ R.heap R.low (Nat.le_trans hl R.alen) ((VTs.map as _ _ fun x _ => evT_ok R.slots x).append hvs) hx
          have hst : stepO Γ lo o sA = some ⟨putO sA.σ o.d v, hA'⟩ := by
            unfold stepO
            rw [if_pos hwt, hop]
            simp only [aop, hvy, k1, Option.bind_some, e]; rfl
          simp only [rops, hst]
          exact ropsT_ok hΓ hl r _ _ φ' (after R hl hv H A) hrest
theorem frB_mem {σ : Nat → TV} {c i o : Nat} {x : Opd} {y : AO} (h1 : rdX y.op = some x) (h2 : evT σ x = .op c i o) : ∀ {fr : List AO}, y ∈ fr → frB σ c fr = true
  | [], h => by cases h
  | z :: fr, h => by
    rcases List.mem_cons.1 h with rfl | h
    · simp only [frB, h1, h2, beq_self_eq_true, Bool.true_or]
    · simp only [frB, frB_mem h1 h2 h, Bool.or_true]
theorem frOk_mem {σ : Nat → TV} {y : AO} : ∀ {fr : List AO}, frOk σ fr = true → y ∈ fr → ∃ x, rdX y.op = some x ∧ ((∃ c i o, evT σ x = .op c i o) ∨ ∃ e o, evT σ x = .fe e o)
  | [], _, h => by cases h
  | z :: fr, k, h => by
    simp only [frOk, Bool.and_eq_true] at k
    rcases List.mem_cons.1 h with rfl | h
    · obtain ⟨k, _⟩ := k
      split at k
      · rename_i x hx
        refine ⟨x, hx, ?_⟩
        split at k
        · rename_i c i o e; exact .inl ⟨c, i, o, e⟩
        · rename_i e o e'; exact .inr ⟨e, o, e'⟩
        · cases k
      · cases k
    · exact frOk_mem k.2 h
theorem rd_same {sT sT' : TSt} {sA sA' : St} {φ' : Own} {fr : List AO} (R : RelT Φ k φe hA0 lo sT sA φ) (R' : RelT Φ k φe hA0 lo sT' sA' φ') (F : ∀ c, c < sA.h.length → (∀ b z, prot fr sT.σ b = true → φ b ≠ some (c, z)) → sA'.h[c]? = sA.h[c]?)
    (hok : frOk sT.σ fr = true) {y : AO} (hy : y ∈ fr) : (aop Γ lo (ev sA.σ) sA'.h y.op).map (·.1) = (aop Γ lo (ev sA.σ) sA.h y.op).map (·.1) := by
  obtain ⟨x, hx, hc⟩ := frOk_mem hok hy
  have hv := evT_ok R.slots x
  have key : ∃ c off, getP (ev sA.σ x) = some (c, off) ∧ ((∃ e cs, sA'.h[c]? = some (.cells e cs) ∧ ∃ e', sA.h[c]? = some (.cells e' cs)) ∨ sA'.h[c]? = sA.h[c]?) := by
    rcases hc with ⟨b, i, o, e⟩ | ⟨e, o, e'⟩
    · rw [e] at hv
      generalize ev sA.σ x = v at hv
      cases hv with
      | fz h => cases h
      | op hb =>
        refine ⟨_, _, rfl, .inr (F _ (R.heap.dom _ _ _ hb).2 fun b' z' hp hb' => ?_)⟩
        have := R.heap.inj _ _ _ _ _ hb hb'
        subst this
        simp only [prot, frB_mem hx e hy, Bool.not_true] at hp
        cases hp
    · rw [e'] at hv
      generalize ev sA.σ x = v at hv
      cases hv with
      | fz h =>
        cases h with
        | fe hΦ _ _ =>
          obtain ⟨e1, h1⟩ := R.heap.frz _ _ hΦ
          obtain ⟨e2, h2⟩ := R'.heap.frz _ _ hΦ
          exact ⟨_, _, rfl, .inl ⟨e2, _, h2, e1, h1⟩⟩
  obtain ⟨c, off, hg, hh⟩ := key
  cases hop : y.op <;> rw [hop] at hx <;> simp only [rdX] at hx <;> (try cases hx)
  all_goals
    simp only [aop, hg]
    rcases hh with ⟨e, cs, h1, e', h2⟩ | h1
    · rw [h1, h2]
      first
        | (simp only [Option.map_map, Function.comp_def]; done)
        | (dsimp only; split <;> rfl)
    · rw [h1]
      cases sA.h[c]? with
      | none => rfl
      | some b =>
        cases b with
        | dead => rfl
        | cells e cs =>
          first
            | (simp only [Option.map_map, Function.comp_def]; done)
            | (dsimp only; split <;> rfl)
theorem ropsTF_ok (hΓ : OkG Γ ΓT) (hl : lo ≤ hA0.length) {K : TSt → Prop} {fr : List AO} : ∀ (l : List AO) (sT : TSt) (sA : St) (φ : Own), RelT Φ k φe hA0 lo sT sA φ → ropsTF ΓT fr l K sT → ropsF Γ lo fr l (fun s' => ∃ sT' φ', K sT' ∧ RelT Φ k φe hA0 lo sT' s' φ') sA
  | [], sT, sA, φ, R, h => ⟨sT, φ, h, R⟩
  | o :: r, sT, sA, φ, R, h => by
    simp only [ropsTF] at h
    obtain ⟨hok, h⟩ := h
    split at h
    · rename_i sT' hs
      obtain ⟨sA', φ', e, R', F⟩ := stepT_ok hΓ hl R (fun b c z _ hh => R.low b c z hh) (Nat.le_trans hl R.alen) hs
      simp only [ropsF, e]
      exact ⟨fun y hy => rd_same R R' F hok hy, ropsTF_ok hΓ hl r sT' sA' φ' R' h⟩
    · exact h.elim
theorem qopsT_ok (hΓ : OkG Γ ΓT) (hl : lo ≤ hA0.length) {K : TSt → Prop} : ∀ (l : List AO) (sT : TSt) (sA : St) (φ : Own), RelT Φ k φe hA0 lo sT sA φ → qopsT ΓT l K sT → qops Γ l (fun sA' => ∃ sT' φ', K sT' ∧ RelT Φ k φe hA0 lo sT' sA' φ') sA
  | [], sT, sA, φ, R, h => ⟨sT, φ, h, R⟩
  | o :: r, sT, sA, φ, R, h => by
    simp only [qopsT] at h
    split at h
    · rename_i sT' hs
      obtain ⟨sA', φ', e, R', _⟩ := stepT_ok hΓ hl R (lo' := sA.h.length) (fun b c z hb hh => absurd (R.heap.dom b c z hh).1 (by simp only [fromB, decide_eq_true_eq] at hb; omega)) (Nat.le_refl _) hs
      simp only [qops, e]
      exact qopsT_ok hΓ hl r sT' sA' φ' R' h
    · exact h.elim
theorem awpT_ok (hΓ : OkG Γ ΓT) (hl : lo ≤ hA0.length) : ∀ (c : AC) {Q : Exit → TSt → Prop} (sT : TSt) (sA : St) (φ : Own), RelT Φ k φe hA0 lo sT sA φ → awpT k ΓT c Q sT → awp Γ lo c (fun e sA' => ∃ sT' φ', Q e sT' ∧ RelT Φ k φe hA0 lo sT' sA' φ') sA
  | .skip, Q, sT, sA, φ, R, h => ⟨sT, φ, h, R⟩
  | .reg ops, Q, sT, sA, φ, R, h => ropsT_ok hΓ hl ops sT sA φ R h
  | .drw ops tl, Q, sT, sA, φ, R, h => qops_mono (fun s' ⟨sT', φ', h', R'⟩ => ropsT_ok hΓ hl tl sT' s' φ' R' h') ops sA (qopsT_ok hΓ hl ops sT sA φ R h)
  | .drf fr ops tl, Q, sT, sA, φ, R, h => qops_mono (fun s' ⟨sT', φ', h', R'⟩ => ropsTF_ok hΓ hl tl sT' s' φ' R' h') ops sA (qopsT_ok hΓ hl ops sT sA φ R h)
  | .seq a b, Q, sT, sA, φ, R, h => by
    simp only [awpT] at h
    simp only [awp]
    refine awp_mono a (fun e s' ⟨sT', φ', h', R'⟩ => ?_) sA (awpT_ok hΓ hl a sT sA φ R h)
    cases e with
    | normal =>
      dsimp only at h'
      split at h'
      · obtain ⟨s0, hle, h'⟩ := h'
        obtain ⟨φ'', R''⟩ := R'.le hle
        exact awpT_ok hΓ hl b s0 s' φ'' R'' h'
      · exact awpT_ok hΓ hl b sT' s' φ' R' h'
    | _ => exact ⟨sT', φ', h', R'⟩
  | .cond c a b, Q, sT, sA, φ, R, h => by
    simp only [awpT] at h
    split at h
    · rename_i t ht
      have hv := evT_ok R.slots c
      rw [ht] at hv
      simp only [awp, hv.p_inv.1]
      cases t with
      | true => simp only [if_true] at h ⊢; exact awpT_ok hΓ hl a sT sA φ R h
      | false => exact awpT_ok hΓ hl b sT sA φ R h
    · rename_i ht
      have hv := evT_ok R.slots c
      rw [ht] at hv
      simp only [awp]
      generalize hvv : ev sA.σ c = vv at hv
      cases hv with
      | fz hv =>
        cases hv with
        | ub t =>
          cases t with
          | true => exact awpT_ok hΓ hl a sT sA φ R h.1
          | false => exact awpT_ok hΓ hl b sT sA φ R h.2
    · exact h.elim
  | .block id a, Q, sT, sA, φ, R, h => by
    simp only [awpT] at h
    simp only [awp]
    refine awp_mono a (fun e s' ⟨sT', φ', h', R'⟩ => ?_) sA (awpT_ok hΓ hl a sT sA φ R h)
    cases e with
    | exit i =>
      dsimp only at h' ⊢
      split at h'
      · rename_i hi; rw [if_pos hi]; exact ⟨sT', φ', h', R'⟩
      · rename_i hi; rw [if_neg hi]; exact ⟨sT', φ', h', R'⟩
    | _ => exact ⟨sT', φ', h', R'⟩
  | .loop a, Q, sT, sA, φ, R, h => by
    simp only [awpT] at h
    simp only [awp]
    obtain ⟨I, ⟨n, s0, hle, hn⟩, hI⟩ := h
    obtain ⟨φ0, R0⟩ := R.le hle
    refine ⟨fun m x => ∃ sT φ, I m sT ∧ RelT Φ k φe hA0 lo sT x φ, ⟨n, s0, φ0, hn, R0⟩, fun m x ⟨sT, φ, hm, R⟩ => ?_⟩
    refine awp_mono a (fun e s' ⟨sT', φ', h', R'⟩ => ?_) x (awpT_ok hΓ hl a sT x φ R (hI m sT hm))
    cases e with
    | normal =>
      obtain ⟨m', s1, h1, h2, h3⟩ := h'
      obtain ⟨φ1, R1⟩ := R'.le h2
      exact ⟨m', h1, s1, φ1, h3, R1⟩
    | _ => exact ⟨sT', φ', h', R'⟩
  | .exit id, Q, sT, sA, φ, R, h => ⟨sT, φ, h, R⟩
  | .ret, Q, sT, sA, φ, R, h => ⟨sT, φ, h, R⟩
  | .bad, Q, sT, sA, φ, R, h => h.elim
end
end Go.AH
namespace Go.AH

def rres1T (s : TSt) : AR → Option TV
  | .t i => some (s.σ i)
  | .cell a n => (elT s.h (s.σ a)).bind fun p => match n with
    | none => (cellsT p.1)[p.2]?
    | some n => elAt p.1 p.2 n
def rresLT (s : TSt) : List AR → Option (List TV)
  | [] => some []
  | a :: r => (rres1T s a).bind fun v => (rresLT s r).map fun vs => v :: vs
def rresT (s : TSt) (l : List AR) : Option TV :=
  (rresLT s l).map fun
    | [v] => v
    | vs => .tup vs

mutual
def frzW (hop : TV → TV) : TV → TV
  | .agg cs => .agg (frzWs hop cs)
  | .tup cs => .tup (frzWs hop cs)
  | .fn f cs => .fn f (frzWs hop cs)
  | .os b o m => hop (.os b o m)
  | .op b i o => hop (.op b i o)
  | .nl => .s []
  | .p v => .p v
  | .s es => .s es
  | .fe e o => .fe e o
  | .any => .any
  | .ub => .ub
def frzWs (hop : TV → TV) : List TV → List TV
  | [] => []
  | t :: ts => frzW hop t :: frzWs hop ts
end
def hopT (h : THeap) (f : TV → TV) : TV → TV
  | .os b o m => match h[b]? with
    | some (.cells _ _ es) => if o + m ≤ es.length then .s (((es.drop o).take m).map f) else .any
    | _ => .any
  | .op b i o => match h[b]? with
    | some (.cells _ _ es) => match es[i]? with
      | some e => .fe (f e) o
      | none => .any
    | _ => .any
  | _ => .any
/-- A value as what it holds, for a callee that only reads. -/
def frzT (h : THeap) : Nat → TV → TV
  | 0 => frzW fun _ => .any
  | n + 1 => frzW (hopT h (frzT h n))
mutual
/-- Without a part that is another's. -/
def ownT : TV → Bool
  | .agg cs => ownTs cs
  | .tup cs => ownTs cs
  | .fn _ cs => ownTs cs
  | .s _ => false
  | .fe _ _ => false
  | _ => true
def ownTs : List TV → Bool
  | [] => true
  | t :: ts => ownT t && ownTs ts
end
mutual
/-- Without a part in a block of the run's own. -/
def noOwn : TV → Bool
  | .agg cs => noOwns cs
  | .tup cs => noOwns cs
  | .fn _ cs => noOwns cs
  | .os _ _ _ => false
  | .op _ _ _ => false
  | _ => true
def noOwns : List TV → Bool
  | [] => true
  | t :: ts => noOwn t && noOwns ts
end
def ownB : TB → Bool
  | .cells _ _ es => ownTs es
  | .dead => true
def renB (ρ : Nat → Nat) : TB → TB
  | .cells e z es => .cells e z (renTs ρ es)
  | .dead => .dead
def shift (n : Nat) (r : TV × THeap) : TV × List TB := (renT (fun b => b + n) r.1, r.2.map (renB fun b => b + n))

section
variable {Φ Φ' : Frz} {φ φ' φL : Own} {hT hL : THeap} {hA hA' : Heap} {k lo : Nat} {tlo : Nat → Bool} {φe : Own} {hA0 : Heap}

theorem rres1T_ok {s : TSt} {sA : St} (R : RelT Φ k φe hA0 lo s sA φ) {a : AR} {t : TV} (h : rres1T s a = some t) : ∃ v, rres1 sA a = some v ∧ VT φ Φ t v := by
  cases a with
  | t i => simp only [rres1T] at h; cases h; exact ⟨_, rfl, R.slots i⟩
  | cell a n =>
    simp only [rres1T] at h
    obtain ⟨⟨e, o⟩, h1, h⟩ := Option.bind_eq_some_iff.1 h
    obtain ⟨b, base, ty, cs, k1, k2, k3, k4⟩ := elT_ok R.heap (R.slots a) h1
    cases n with
    | none =>
      dsimp only at h
      obtain ⟨v, hv, r⟩ := k4.get o _ h
      have ho := (List.getElem?_eq_some_iff.1 h).1
      rw [List.getElem?_take_of_lt ho, List.getElem?_drop] at hv
      exact ⟨v, by simp only [rres1, k1, k2, hv], r⟩
    | some n =>
      dsimp only at h
      obtain ⟨h3, h4⟩ := elAt_ok k4 h
      have e1 : (((cs.drop base).take (cellsT e).length).drop o).take n = (cs.drop (base + o)).take n := by
        rw [List.drop_take, List.drop_drop, List.take_take]; congr 1; omega
      rw [e1] at h3
      exact ⟨_, by simp only [rres1, k1, k2]; rw [if_pos (by omega)], h3⟩
theorem rresLT_ok {s : TSt} {sA : St} (R : RelT Φ k φe hA0 lo s sA φ) : ∀ {l : List AR} {ts : List TV}, rresLT s l = some ts → ∃ vs, rresL sA l = some vs ∧ VTs φ Φ ts vs
  | [], ts, h => by cases h; exact ⟨[], rfl, .nil⟩
  | a :: l, ts, h => by
    simp only [rresLT] at h
    obtain ⟨t, h1, h⟩ := Option.bind_eq_some_iff.1 h
    obtain ⟨ts', h2, rfl⟩ := Option.map_eq_some_iff.1 h
    obtain ⟨v, k1, k2⟩ := rres1T_ok R h1
    obtain ⟨vs, k3, k4⟩ := rresLT_ok R h2
    exact ⟨v :: vs, by simp only [rresL, k1, k3, Option.bind_some, Option.map_some], .cons k2 k4⟩
theorem rresT_ok {s : TSt} {sA : St} (R : RelT Φ k φe hA0 lo s sA φ) {l : List AR} {t : TV} (h : rresT s l = some t) : ∃ v, rres sA l = some v ∧ VT φ Φ t v := by
  unfold rresT at h
  obtain ⟨ts, h1, h2⟩ := Option.map_eq_some_iff.1 h
  obtain ⟨vs, k1, k2⟩ := rresLT_ok R h1
  simp only [rres, k1, Option.map_some]
  subst h2
  cases k2 with
  | nil => exact ⟨_, rfl, .tup .nil⟩
  | cons a b =>
    cases b with
    | nil => exact ⟨_, rfl, a⟩
    | cons c d => exact ⟨_, rfl, .tup (.cons a (.cons c d))⟩

theorem frz_list (f : TV → TV) (h : ∀ t v, VT φ Φ t v → VF Φ' (f t) v) : ∀ {ts : List TV} {vs : List Value}, VTs φ Φ ts vs → VFs Φ' (ts.map f) vs
  | [], _, k => by cases k; exact .nil
  | _ :: _, _, k => by cases k with | cons a b => exact .cons (h _ _ a) (frz_list f h b)
theorem frzWs_map (hop : TV → TV) (l : List TV) : frzWs hop l = l.map (frzW hop) := by
  induction l with
  | nil => rfl
  | cons x l ih => simp [frzWs, ih]
theorem hop_one (h : THeap) (f : TV → TV) (t : TV) : cellsT (hopT h f t) = [hopT h f t] := by
  unfold hopT
  split
  · split
    · split <;> rfl
    · rfl
  · split
    · split <;> rfl
    · rfl
  · rfl
theorem frzW_cells {hop : TV → TV} (hh : ∀ t, cellsT (hop t) = [hop t]) (e : TV) : cellsT (frzW hop e) = (cellsT e).map (frzW hop) := by
  cases e with
  | agg cs => simp only [frzW, cellsT, frzWs_map]
  | os b o m => simp only [frzW, hh]; rfl
  | op b i o => simp only [frzW, hh]; rfl
  | _ => rfl
theorem frzT_eq (h : THeap) (n : Nat) : ∃ hop, frzT h n = frzW hop ∧ ∀ t, cellsT (hop t) = [hop t] := by
  cases n with
  | zero => exact ⟨_, rfl, fun _ => rfl⟩
  | succ n => exact ⟨_, rfl, hop_one h _⟩
theorem frz_cells (h : THeap) (n : Nat) (e : TV) : cellsT (frzT h n e) = (cellsT e).map (frzT h n) := by
  obtain ⟨hop, h1, h2⟩ := frzT_eq h n
  rw [h1]; exact frzW_cells h2 e
theorem frz_flat (h : THeap) (n : Nat) (es : List TV) : flatT (es.map (frzT h n)) = (flatT es).map (frzT h n) := by
  induction es with
  | nil => rfl
  | cons e es ih => simp only [List.map_cons, flat_cons, ih, frz_cells, List.map_append]
theorem frz_sized (h : THeap) (n z : Nat) (es : List TV) : sizedT z (es.map (frzT h n)) = sizedT z es := by
  simp only [sizedT, List.all_map]
  congr 1; funext e
  simp only [Function.comp, frz_cells, List.length_map]
mutual
theorem frzW_ok (mono : ∀ c cs, Φ c = some cs → Φ' c = some cs) (hop : TV → TV) (hh : ∀ t v, VT φ Φ t v → VF Φ' (hop t) v) : ∀ (t : TV) {v : Value}, VT φ Φ t v → VF Φ' (frzW hop t) v
  | .nl, v, h => by simp only [frzW]; cases h with | fz h => cases h with | nl0 => exact .s0 | nl1 => exact .s1 _ _ _ _
  | .p x, v, h => by simp only [frzW]; cases h with | fz h => exact h.mono mono
  | .s es, v, h => by simp only [frzW]; cases h with | fz h => exact h.mono mono
  | .fe e o, v, h => by simp only [frzW]; cases h with | fz h => exact h.mono mono
  | .any, v, h => by simp only [frzW]; exact .any _
  | .ub, v, h => by simp only [frzW]; cases h with | fz h => exact h.mono mono
  | .agg cs, v, h => by
    simp only [frzW]
    cases h with
    | fz h => cases h with | agg h => exact .agg (frzWs_ok mono hop hh cs (VTs.fz h))
    | agg h => exact .agg (frzWs_ok mono hop hh cs h)
  | .tup cs, v, h => by
    simp only [frzW]
    cases h with
    | fz h => cases h with | tup h => exact .tup (frzWs_ok mono hop hh cs (VTs.fz h))
    | tup h => exact .tup (frzWs_ok mono hop hh cs h)
  | .fn f cs, v, h => by
    simp only [frzW]
    cases h with
    | fz h => cases h with | fn h => exact .fn (frzWs_ok mono hop hh cs (VTs.fz h))
    | fn h => exact .fn (frzWs_ok mono hop hh cs h)
  | .os b o m, v, h => by simp only [frzW]; exact hh _ _ h
  | .op b i o, v, h => by simp only [frzW]; exact hh _ _ h
theorem frzWs_ok (mono : ∀ c cs, Φ c = some cs → Φ' c = some cs) (hop : TV → TV) (hh : ∀ t v, VT φ Φ t v → VF Φ' (hop t) v) : ∀ (ts : List TV) {vs : List Value}, VTs φ Φ ts vs → VFs Φ' (frzWs hop ts) vs
  | [], _, h => by cases h; exact .nil
  | t :: ts, _, h => by cases h with | cons a b => exact .cons (frzW_ok mono hop hh t a) (frzWs_ok mono hop hh ts b)
end
theorem frz_ok (H : HT φ Φ hT hA) (hΦ : ∀ c e cs, hA[c]? = some (.cells e cs) → Φ' c = some cs) : ∀ (n : Nat) (t : TV) (v : Value), VT φ Φ t v → VF Φ' (frzT hT n t) v
  | 0, t, v, h => frzW_ok (fun c cs h => by obtain ⟨e, he⟩ := H.frz c cs h; exact hΦ c e cs he) _ (fun _ _ _ => .any _) t h
  | n + 1, t, v, h => by
    refine frzW_ok (fun c cs h => by obtain ⟨e, he⟩ := H.frz c cs h; exact hΦ c e cs he) _ ?_ t h
    intro t v h
    have ih := frz_ok H hΦ n
    unfold hopT
    split
    · rename_i b o m
      split
      · rename_i e z es hb
        split
        · rename_i hle
          cases h with
          | fz h => cases h
          | on0 => simpa using VF.s0
          | on1 b o x y s c => simpa using VF.s1 x y s c
          | os h1 =>
            rename_i c z1 cap
            rcases H.live b _ _ es hb with ⟨k1, _⟩ | ⟨c', cs, k1, k2, k3, k4⟩
            · rw [h1] at k1; cases k1
            · rw [h1] at k1; cases k1
              have hl := k4.length
              rw [flatT_len k3] at hl
              have hlen : (((es.drop o).take m).map (frzT hT n)).length = m := by simp; omega
              have hoz : o * z + m * z ≤ es.length * z := by rw [← Nat.add_mul]; exact Nat.mul_le_mul_right _ hle
              have hv : VTs φ Φ (flatT ((es.drop o).take m)) ((cs.drop (o * z)).take (m * z)) := by
                rw [flat_take (sized_drop k3 o), flat_drop k3 o]; exact (k4.drop _).take _
              have := VF.s (Φ := Φ') (es := ((es.drop o).take m).map (frzT hT n)) (off := o * z) (cap := cap) (z := z) (hΦ _ _ _ k2) (by rw [hlen]; omega)
                (by rw [frz_sized]; exact sized_take (sized_drop k3 _) _) (by rw [hlen, frz_flat]; exact frz_list _ ih hv)
              rw [hlen] at this; exact this
        · exact .any _
      · exact .any _
    · rename_i b i o
      split
      · rename_i ty z es hb
        split
        · rename_i e he
          cases h with
          | fz h => cases h
          | op h1 =>
            rename_i c z1
            rcases H.live b _ _ es hb with ⟨k1, _⟩ | ⟨c', cs, k1, k2, k3, k4⟩
            · rw [h1] at k1; cases k1
            · rw [h1] at k1; cases k1
              have hl := k4.length
              rw [flatT_len k3] at hl
              have hcl : (cellsT e).length = z := sized_iff.1 k3 e (List.mem_of_getElem? he)
              have hlt := (List.getElem?_eq_some_iff.1 he).1
              have hiz : i * z + z ≤ es.length * z := by have := Nat.mul_le_mul_right z (show i + 1 ≤ es.length by omega); rw [Nat.add_mul] at this; omega
              have hcut : VTs φ Φ (cellsT e) ((cs.drop (i * z)).take z) := by rw [← flat_cut k3 he]; exact (k4.drop _).take _
              exact VF.fe (e := frzT hT n e) (o := o) (off := i * z) (hΦ _ _ _ k2) (by rw [frz_cells, List.length_map]; omega)
                (by rw [frz_cells, List.length_map, hcl]; exact frz_list _ ih hcut)
        · exact .any _
      · exact .any _
    · exact .any _
end
end Go.AH
namespace Go.AH
open Go.RowKit (Below)

def RetT (res : List AR) (r : TV) (hL : THeap) (s : TSt) : Prop := ∃ tv, rresT s res = some tv ∧ Le 0 ⟨fun _ => tv, s.h⟩ ⟨fun _ => r, hL⟩
mutual
/-- The second says that what is nil in the first is a slice of nothing. -/
inductive NlTo : TV → TV → Prop
  | rfl (t : TV) : NlTo t t
  | nl (b o : Nat) : NlTo .nl (.os b o 0)
  | agg {cs ds : List TV} (h : NlTos cs ds) : NlTo (.agg cs) (.agg ds)
  | tup {cs ds : List TV} (h : NlTos cs ds) : NlTo (.tup cs) (.tup ds)
inductive NlTos : List TV → List TV → Prop
  | nil : NlTos [] []
  | cons {t u : TV} {ts us : List TV} (h : NlTo t u) (k : NlTos ts us) : NlTos (t :: ts) (u :: us)
end
section
variable {Φ : Frz} {φ : Own} {hT : THeap} {hA : Heap}
mutual
theorem nlTo_ok : ∀ (t : TV) {u : TV} {v : Value}, NlTo t u → VT φ Φ t v → VT φ Φ u v
  | .agg cs, u, v, h, hv => by
    cases h with
    | rfl => exact hv
    | agg h => cases hv with
      | fz h' => cases h' with | agg h'' => exact .agg (nlTos_ok cs h (VTs.fz h''))
      | agg h' => exact .agg (nlTos_ok cs h h')
  | .nl, u, v, h, hv => by
    cases h with
    | rfl => exact hv
    | nl => cases hv with | fz h => cases h with | nl0 => exact .on0 _ _ | nl1 => exact .on1 _ _ _ _ _ _
  | .p x, u, v, h, hv => by cases h; exact hv
  | .s es, u, v, h, hv => by cases h; exact hv
  | .fe e o, u, v, h, hv => by cases h; exact hv
  | .any, u, v, h, hv => by cases h; exact hv
  | .ub, u, v, h, hv => by cases h; exact hv
  | .os b o n, u, v, h, hv => by cases h; exact hv
  | .op b i o, u, v, h, hv => by cases h; exact hv
  | .tup cs, u, v, h, hv => by
    cases h with
    | rfl => exact hv
    | tup h => cases hv with
      | fz h' => cases h' with | tup h'' => exact .tup (nlTos_ok cs h (VTs.fz h''))
      | tup h' => exact .tup (nlTos_ok cs h h')
  | .fn f cs, u, v, h, hv => by cases h; exact hv
theorem nlTos_ok : ∀ (ts : List TV) {us : List TV} {vs : List Value}, NlTos ts us → VTs φ Φ ts vs → VTs φ Φ us vs
  | [], _, _, h, hv => by cases h; exact hv
  | t :: ts, _, _, h, hv => by
    cases h with | cons h k => cases hv with | cons a b => exact .cons (nlTo_ok t h a) (nlTos_ok ts k b)
end
theorem growE (H : HT φ Φ hT hA) {E : THeap} (hE : ∀ x ∈ E, ∃ ty z, x = TB.cells ty z []) : HT φ Φ (hT ++ E) hA := by
  refine ⟨?_, H.inj, ?_, H.frz, H.disj⟩
  · intro b c z h; have := H.dom b c z h; simp; omega
  · intro b e z es h
    by_cases hlt : b < hT.length
    · rw [List.getElem?_append_left hlt] at h; exact H.live b e z es h
    · rw [List.getElem?_append_right (by omega)] at h
      obtain ⟨ty, z', hx⟩ := hE _ (List.mem_of_getElem? h)
      cases hx
      exact .inl ⟨H.fresh b (by omega), rfl⟩
end
def EndT (res : List AR) (r : TV) (hL : THeap) (e : Exit) (s : TSt) : Prop := (e = .normal ∨ e = .ret) ∧ (RetT res r hL s ∨ (RetT res .nl [] s ∧ ∃ ty z, r = .os 0 0 0 ∧ hL = [.cells ty z []]) ∨ ∃ tv tv' E, rresT s res = some tv ∧ NlTo tv tv' ∧ (∀ x ∈ E, ∃ ty z, x = TB.cells ty z []) ∧ Le 0 ⟨fun _ => tv', s.h ++ E⟩ ⟨fun _ => r, hL⟩)

def pureSp (F : List TV → Option (TV × THeap)) : TSp := ⟨fun _ args h => (F (args.map (frzT h 9))).map fun r => (renT (fun b => b + h.length) r.1, h ++ r.2.map (renB fun b => b + h.length)), fun _ _ _ _ => False, fun _ _ _ => False⟩
/-- A callee whose answer may share what it was given: nothing of the caller's own may be handed in. -/
def shareSp (F : List TV → Option (TV × THeap)) : TSp := ⟨fun _ args h => if noOwns args = true then (F (args.map (frzT h 9))).map fun r => (renT (fun b => b + h.length) r.1, h ++ r.2.map (renB fun b => b + h.length)) else none, fun _ _ _ _ => False, fun _ _ _ => False⟩
def OkT (P : Program) (f : Nat) (tsp : TSp) : Prop := ∃ spA, Ok P f spA ∧ CompatT spA tsp
def OkΓT (P : Program) (ΓT : TCtx) : Prop := ∃ Γ, OkΓ P Γ ∧ OkG Γ ΓT
theorem OkΓT.nil (P : Program) : OkΓT P [] := ⟨[], OkΓ.nil P, fun _ _ h => by cases h⟩
theorem OkΓT.cons {P : Program} {ΓT : TCtx} {f : Nat} {tsp : TSp} (h : OkT P f tsp) (k : OkΓT P ΓT) : OkΓT P ((f, tsp) :: ΓT) := by
  obtain ⟨spA, h1, h2⟩ := h
  obtain ⟨Γ, k1, k2⟩ := k
  refine ⟨(f, spA) :: Γ, OkΓ.cons h1 k1, fun g s hg => ?_⟩
  simp only [TCtx.get] at hg
  simp only [Ctx.get]
  split at hg
  · rename_i e; cases hg; exact ⟨spA, by rw [if_pos e], h2⟩
  · rename_i e; rw [if_neg e]; exact k2 g s hg

section
variable {Φ Φ' : Frz} {φ φ' φL : Own} {hT hL : THeap} {hA hA' : Heap} {k lo : Nat} {tlo : Nat → Bool}
mutual
theorem vt_own : ∀ (t : TV) {v : Value}, VT φ Φ t v → ownT t = true → VT φ Φ' t v
  | .p x, v, h, _ => by cases h with | fz h => cases h with | p h => exact .fz (.p h)
  | .nl, v, h, _ => by cases h with | fz h => cases h with | nl0 => exact .fz .nl0 | nl1 => exact .fz (.nl1 _ _ _ _)
  | .s es, v, h, k => by simp [ownT] at k
  | .fe e o, v, h, k => by simp [ownT] at k
  | .any, v, h, _ => .fz (.any _)
  | .ub, v, h, _ => by cases h with | fz h => cases h with | ub b => exact .fz (.ub b)
  | .os b o n, v, h, _ => by
    cases h with
    | fz h => cases h
    | on0 => exact .on0 _ _
    | on1 => exact .on1 _ _ _ _ _ _
    | os h => exact .os h
  | .op b i o, v, h, _ => by
    cases h with
    | fz h => cases h
    | op h => exact .op h
  | .agg cs, v, h, k => by
    simp only [ownT] at k
    cases h with
    | fz h => cases h with | agg h => exact .agg (vts_own cs (VTs.fz h) k)
    | agg h => exact .agg (vts_own cs h k)
  | .tup cs, v, h, k => by
    simp only [ownT] at k
    cases h with
    | fz h => cases h with | tup h => exact .tup (vts_own cs (VTs.fz h) k)
    | tup h => exact .tup (vts_own cs h k)
  | .fn f cs, v, h, k => by
    simp only [ownT] at k
    cases h with
    | fz h => cases h with | fn h => exact .fn (vts_own cs (VTs.fz h) k)
    | fn h => exact .fn (vts_own cs h k)
theorem vts_own : ∀ (ts : List TV) {vs : List Value}, VTs φ Φ ts vs → ownTs ts = true → VTs φ Φ' ts vs
  | [], _, h, _ => by cases h; exact .nil
  | t :: ts, _, h, k => by
    simp only [ownTs, Bool.and_eq_true] at k
    cases h with | cons a b => exact .cons (vt_own t a k.1) (vts_own ts b k.2)
end
mutual
theorem VT.ren {ρ : Nat → Nat} (hr : ∀ b x, φ b = some x → φ' (ρ b) = some x) : ∀ (t : TV) {v : Value}, VT φ Φ t v → VT φ' Φ (renT ρ t) v
  | .p x, v, h => by cases h with | fz h => exact .fz h
  | .nl, v, h => by cases h with | fz h => exact .fz h
  | .s es, v, h => by cases h with | fz h => exact .fz h
  | .fe e o, v, h => by cases h with | fz h => exact .fz h
  | .any, v, h => .fz (.any _)
  | .ub, v, h => by cases h with | fz h => exact .fz h
  | .os b o n, v, h => by
    cases h with
    | fz h => cases h
    | on0 => exact .on0 _ _
    | on1 => exact .on1 _ _ _ _ _ _
    | os h => exact .os (hr _ _ h)
  | .op b i o, v, h => by
    cases h with
    | fz h => cases h
    | op h => exact .op (hr _ _ h)
  | .agg cs, v, h => by
    cases h with
    | fz h => cases h with | agg h => exact .agg (VTs.ren hr cs (VTs.fz h))
    | agg h => exact .agg (VTs.ren hr cs h)
  | .tup cs, v, h => by
    cases h with
    | fz h => cases h with | tup h => exact .tup (VTs.ren hr cs (VTs.fz h))
    | tup h => exact .tup (VTs.ren hr cs h)
  | .fn f cs, v, h => by
    cases h with
    | fz h => cases h with | fn h => exact .fn (VTs.ren hr cs (VTs.fz h))
    | fn h => exact .fn (VTs.ren hr cs h)
theorem VTs.ren {ρ : Nat → Nat} (hr : ∀ b x, φ b = some x → φ' (ρ b) = some x) : ∀ (ts : List TV) {vs : List Value}, VTs φ Φ ts vs → VTs φ' Φ (renTs ρ ts) vs
  | [], _, h => by cases h; exact .nil
  | t :: ts, _, h => by cases h with | cons a b => exact .cons (VT.ren hr t a) (VTs.ren hr ts b)
end
mutual
theorem frz_shared (hop : TV → TV) : ∀ (t : TV) {v : Value}, VT φ Φ t v → noOwn t = true → VF Φ (frzW hop t) v
  | .nl, v, h, _ => by simp only [frzW]; cases h with | fz h => cases h with | nl0 => exact .s0 | nl1 => exact .s1 _ _ _ _
  | .p x, v, h, _ => by simp only [frzW]; cases h with | fz h => exact h
  | .s es, v, h, _ => by simp only [frzW]; cases h with | fz h => exact h
  | .fe e o, v, h, _ => by simp only [frzW]; cases h with | fz h => exact h
  | .any, v, h, _ => by simp only [frzW]; exact .any _
  | .ub, v, h, _ => by simp only [frzW]; cases h with | fz h => exact h
  | .agg cs, v, h, k => by
    simp only [noOwn] at k
    simp only [frzW]
    cases h with
    | fz h => cases h with | agg h => exact .agg (frz_shareds hop cs (VTs.fz h) k)
    | agg h => exact .agg (frz_shareds hop cs h k)
  | .tup cs, v, h, k => by
    simp only [noOwn] at k
    simp only [frzW]
    cases h with
    | fz h => cases h with | tup h => exact .tup (frz_shareds hop cs (VTs.fz h) k)
    | tup h => exact .tup (frz_shareds hop cs h k)
  | .fn f cs, v, h, k => by
    simp only [noOwn] at k
    simp only [frzW]
    cases h with
    | fz h => cases h with | fn h => exact .fn (frz_shareds hop cs (VTs.fz h) k)
    | fn h => exact .fn (frz_shareds hop cs h k)
  | .os b o m, v, h, k => by simp [noOwn] at k
  | .op b i o, v, h, k => by simp [noOwn] at k
theorem frz_shareds (hop : TV → TV) : ∀ (ts : List TV) {vs : List Value}, VTs φ Φ ts vs → noOwns ts = true → VFs Φ (frzWs hop ts) vs
  | [], _, h, _ => by cases h; exact .nil
  | t :: ts, _, h, k => by
    simp only [noOwns, Bool.and_eq_true] at k
    cases h with | cons a b => exact .cons (frz_shared hop t a k.1) (frz_shareds hop ts b k.2)
end

/-- Beside the caller's blocks stand the callee's. -/
theorem join_ok (H : HT φ Φ hT hA) (HL : HT φL Φ hL hA') {r : TV} {v : Value} (hv : VT φL Φ r v) (hnew : ∀ b c z, φL b = some (c, z) → hA.length ≤ c) (hlen : hA.length ≤ hA'.length) (hfr : ∀ c, c < hA.length → hA'[c]? = hA[c]?) :
    Snd Φ φ tlo hT (hT ++ hL.map (renB fun b => b + hT.length)) hA (renT (fun b => b + hT.length) r) (some (v, hA')) := by
  let φ' : Own := fun b => if b < hT.length then φ b else φL (b - hT.length)
  have e1 : ∀ b x, φ b = some x → φ' b = some x := fun b x h => by
    have := (H.dom b x.1 x.2 h).1; simp only [φ']; rw [if_pos this]; exact h
  have e2 : ∀ b x, φL b = some x → φ' (b + hT.length) = some x := fun b x h => by
    simp only [φ']; rw [if_neg (by omega), Nat.add_sub_cancel]; exact h
  have inv : ∀ b x, φ' b = some x → (b < hT.length ∧ φ b = some x) ∨ (hT.length ≤ b ∧ φL (b - hT.length) = some x) := fun b x h => by
    simp only [φ'] at h; split at h
    · exact .inl ⟨‹_›, h⟩
    · exact .inr ⟨by omega, h⟩
  refine ⟨v, hA', φ', rfl, VT.ren e2 r hv, ⟨?_, ?_, ?_, ?_, ?_⟩, ⟨by simp, fun b hb => by simp only [φ']; rw [if_pos hb], ?_, hlen, fun c hc _ => hfr c hc⟩⟩
  · intro b c z h
    rcases inv b _ h with ⟨_, h⟩ | ⟨_, h⟩
    · have := H.dom b c z h; simp; omega
    · have := HL.dom _ c z h; simp; omega
  · intro b b' c z z' h h'
    rcases inv b _ h with ⟨h0, h⟩ | ⟨h0, h⟩ <;> rcases inv b' _ h' with ⟨h0', h'⟩ | ⟨h0', h'⟩
    · exact H.inj _ _ _ _ _ h h'
    · have := (H.dom _ _ _ h).2; have := hnew _ _ _ h'; omega
    · have := (H.dom _ _ _ h').2; have := hnew _ _ _ h; omega
    · have := HL.inj _ _ _ _ _ h h'; omega
  · intro b e z es h
    by_cases hlt : b < hT.length
    · rw [List.getElem?_append_left hlt] at h
      rcases H.live b e z es h with ⟨k1, k2⟩ | ⟨c, cs, k1, k2, k3, k4⟩
      · exact .inl ⟨by simp only [φ']; rw [if_pos hlt]; exact k1, k2⟩
      · exact .inr ⟨c, cs, e1 _ _ k1, by rw [hfr c (H.dom _ _ _ k1).2]; exact k2, k3, k4.mono e1⟩
    · rw [List.getElem?_append_right (by omega), List.getElem?_map] at h
      obtain ⟨x, hx, hxe⟩ := Option.map_eq_some_iff.1 h
      cases x with
      | dead => cases hxe
      | cells e' z' es' =>
        simp only [renB, TB.cells.injEq] at hxe
        obtain ⟨rfl, rfl, rfl⟩ := hxe
        rcases HL.live _ _ _ _ hx with ⟨k1, k2⟩ | ⟨c, cs, k1, k2, k3, k4⟩
        · left
          refine ⟨by simp only [φ']; rw [if_neg hlt]; exact k1, by rw [k2]; rfl⟩
        · right
          refine ⟨c, cs, by simp only [φ']; rw [if_neg hlt]; exact k1, k2, by rw [ren_sized]; exact k3, ?_⟩
          rw [ren_flat]; exact VTs.ren e2 _ k4
  · exact HL.frz
  · intro b c z cs h h'
    obtain ⟨e, he⟩ := H.frz c cs h'
    have hc := (List.getElem?_eq_some_iff.1 he).1
    rcases inv b _ h with ⟨_, h⟩ | ⟨_, h⟩
    · exact H.disj _ _ _ _ h h'
    · have := hnew _ _ _ h; omega
  · intro b c z hb h
    rcases inv b _ h with ⟨h0, h⟩ | ⟨_, h⟩
    · omega
    · exact hnew _ _ _ h
end

/-- A run of a body, as a function. -/
theorem exists_run {P : Program} {Γ : Ctx} (hΓ : OkΓ P Γ) {f : Nat} {fn : Func} {af : AF} (hf : P.funcs[f]? = some fn) (hcall : callable P f = true) (hc : cFn P fn = some af) :
    ∃ spA : Sp, Ok P f spA ∧ ∀ lo args h v e0 s0, (e0 = .normal ∨ e0 = .ret) → awp Γ lo af.code (fun e s => e = e0 ∧ s = s0) ⟨argσ args, h⟩ → rres s0 af.res = some v → spA lo args h = some (v, s0.h) := by
  let G : Nat → List Value → Heap → Value × Heap → Prop := fun lo args h x => ∃ e0 s0, (e0 = .normal ∨ e0 = .ret) ∧ awp Γ lo af.code (fun e s => e = e0 ∧ s = s0) ⟨argσ args, h⟩ ∧ rres s0 af.res = some x.1 ∧ s0.h = x.2
  have uniq : ∀ lo args h x y, G lo args h x → G lo args h y → x = y := by
    intro lo args h x y ⟨e0, s0, _, a1, a2, a3⟩ ⟨e1, s1, _, b1, b2, b3⟩
    obtain ⟨e, s, ⟨rfl, rfl⟩, ⟨rfl, rfl⟩, _⟩ := awp_both _ _ a1 b1
    rw [a2] at b2
    cases x; cases y
    simp only at a2 a3 b2 b3
    cases b2; subst a3; subst b3; rfl
  refine ⟨fun lo args h => @dite _ (∃ x, G lo args h x) (Classical.propDecidable _) (fun H => some (Classical.choose H)) (fun _ => none), ⟨hcall, ?_, ?_⟩, ?_⟩
  · intro lo args h r h' hs hlo
    split at hs
    · rename_i H
      have hx := Classical.choose_spec H
      cases hs' : Classical.choose H with | mk v h1 =>
      rw [hs'] at hs hx
      cases hs
      obtain ⟨e0, s0, he, hw, hr, hh⟩ := hx
      obtain ⟨e1, s1, _, ⟨⟨h1e, h2e⟩, h3⟩, _⟩ := awp_both (Γ := Γ) (lo := lo) af.code _ hw (awp_fr hΓ af.code ⟨argσ args, h⟩ hlo hw)
      rw [h2e] at h3
      have hh' : s0.h = h' := hh
      rw [← hh']; exact h3
    · cases hs
  · intro lo B args h r h' ι w cargs hs hlo hr hB hv
    split at hs
    · rename_i H
      have hx := Classical.choose_spec H
      cases hs' : Classical.choose H with | mk v h1 =>
      rw [hs'] at hs hx
      cases hs
      obtain ⟨e0, s0, he, hw, hrr, hh⟩ := hx
      refine calls_of_awp hΓ hf hc hr hB hlo hv (awp_mono _ (fun e s hes => ?_) _ hw)
      obtain ⟨rfl, rfl⟩ := hes
      exact ⟨he, .inl ⟨hrr, hh⟩⟩
    · cases hs
  · intro lo args h v e0 s0 he hw hr
    have hG : G lo args h (v, s0.h) := ⟨e0, s0, he, hw, hr, rfl⟩
    have H : ∃ x, G lo args h x := ⟨_, hG⟩
    simp only
    rw [dif_pos H]
    rw [uniq _ _ _ _ _ (Classical.choose_spec H) hG]

section
variable {P : Program} {ΓT : TCtx} {f : Nat} {fn : Func} {af : AF}
theorem args_ok {Φ : Frz} {φ : Own} {ts : List TV} {vs : List Value} (h : VTs φ Φ ts vs) (t : Nat) : VT φ Φ (argσT ts t) (argσ vs t) := by
  simp only [argσT, argσ]
  cases hts : ts[t]? with
  | none => exact .fz (.any _)
  | some x => obtain ⟨v, hv, r⟩ := h.get t x hts; rw [hv]; exact r

/-- A body that is shown to answer, over trees, out of nothing of its own. -/
theorem pure_run (hΓ : OkΓT P ΓT) (hf : P.funcs[f]? = some fn) (hcall : callable P f = true) (hc : cFn P fn = some af) {F : List TV → Option (TV × THeap)}
    (H : ∀ args r hL, F args = some (r, hL) → awpT 0 ΓT af.code (EndT af.res r hL) ⟨argσT args, []⟩) :
    ∃ spA, Ok P f spA ∧ ∀ (Φ1 : Frz) (hA : Heap) (lo : Nat) (targs : List TV) (args : List Value) (r : TV) (hL : THeap), (∀ c cs, Φ1 c = some cs → ∃ e, hA[c]? = some (.cells e cs)) → lo ≤ hA.length → VFs Φ1 targs args → F targs = some (r, hL) →
      ∃ v hA' φL, spA lo args hA = some (v, hA') ∧ VT φL Φ1 r v ∧ HT φL Φ1 hL hA' ∧ (∀ b c z, φL b = some (c, z) → hA.length ≤ c) ∧ hA.length ≤ hA'.length ∧ ∀ c, c < hA.length → hA'[c]? = hA[c]? := by
  obtain ⟨Γ, g1, g2⟩ := hΓ
  obtain ⟨spA, ok, run⟩ := exists_run g1 hf hcall hc
  refine ⟨spA, ok, fun Φ1 hA lo targs args r hL hΦ hlo hv hF => ?_⟩
  have R0 : RelT Φ1 0 (fun _ => none) hA lo ⟨argσT targs, []⟩ ⟨argσ args, hA⟩ (fun _ => none) := by
    refine ⟨args_ok (VTs.fz hv), ⟨?_, ?_, ?_, hΦ, ?_⟩, fun _ _ => rfl, Nat.zero_le _, ?_, ?_, Nat.le_refl _, fun _ _ _ => rfl⟩
    · intro b c z h; cases h
    · intro b b' c z z' h; cases h
    · intro b e z es h; cases h
    · intro b c z cs h; cases h
    · intro b c z _ h; cases h
    · intro b c z h; cases h
  have hw := awpT_ok g2 hlo af.code _ _ _ R0 (H _ _ _ hF)
  obtain ⟨e0, s0, ⟨sT', φ', ⟨he, hret⟩, R⟩, _, hw'⟩ := awp_both _ _ hw hw
  have key : ∀ (r : TV) (hL : THeap), RetT af.res r hL sT' → ∃ v φL, spA lo args hA = some (v, s0.h) ∧ VT φL Φ1 r v ∧ HT φL Φ1 hL s0.h ∧ (∀ b c z, φL b = some (c, z) → hA.length ≤ c) ∧ hA.length ≤ s0.h.length ∧ ∀ c, c < hA.length → s0.h[c]? = hA[c]? := by
    intro r hL ⟨tv, hr, hle⟩
    obtain ⟨v, k1, k2⟩ := rresT_ok R hr
    have R1 : RelT Φ1 0 (fun _ => none) hA lo ⟨fun _ => tv, sT'.h⟩ ⟨fun _ => v, s0.h⟩ φ' := ⟨fun _ => k2, R.heap, R.pin, R.kle, R.new, R.low, R.alen, R.fr⟩
    obtain ⟨φL, R2⟩ := R1.le hle
    exact ⟨v, φL, run lo args hA v e0 s0 he hw' k1, R2.slots 0, R2.heap, fun b c z h => R2.new b c z (Nat.zero_le _) h, R2.alen, fun c hc => R2.fr c hc (fun i z hi => absurd hi (by omega))⟩
  rcases hret with hret | ⟨hret, ty, z, rfl, rfl⟩ | ⟨tv, tv', E, k1, k2, k3, k4⟩
  · obtain ⟨v, φL, h1, h2, h3, h4, h5, h6⟩ := key r hL hret
    exact ⟨v, s0.h, φL, h1, h2, h3, h4, h5, h6⟩
  · obtain ⟨v, φL, h1, h2, h3, h4, h5, h6⟩ := key _ _ hret
    refine ⟨v, s0.h, φL, h1, ?_, (growN (tlo := anyB) h3 [] rfl (fun b e z es h => h) ty z).1, h4, h5, h6⟩
    cases h2 with
    | fz h => cases h with | nl0 => exact .on0 _ _ | nl1 => exact .on1 _ _ _ _ _ _
  · obtain ⟨v, j1, j2⟩ := rresT_ok R k1
    have R1 : RelT Φ1 0 (fun _ => none) hA lo ⟨fun _ => tv', sT'.h ++ E⟩ ⟨fun _ => v, s0.h⟩ φ' := ⟨fun _ => nlTo_ok tv k2 j2, growE R.heap k3, R.pin, Nat.zero_le _, R.new, R.low, R.alen, R.fr⟩
    obtain ⟨φL, R2⟩ := R1.le k4
    exact ⟨v, s0.h, φL, run lo args hA v e0 s0 he hw' j1, R2.slots 0, R2.heap, fun b c z h => R2.new b c z (Nat.zero_le _) h, R2.alen, fun c hc => R2.fr c hc (fun i z hi => absurd hi (by omega))⟩

theorem okT_pure (hΓ : OkΓT P ΓT) (hf : P.funcs[f]? = some fn) (hcall : callable P f = true) (hc : cFn P fn = some af) {F : List TV → Option (TV × THeap)}
    (hown : ∀ args r hL, F args = some (r, hL) → ownT r = true ∧ hL.all ownB = true)
    (H : ∀ args r hL, F args = some (r, hL) → awpT 0 ΓT af.code (EndT af.res r hL) ⟨argσT args, []⟩) : OkT P f (pureSp F) := by
  obtain ⟨spA, ok, run⟩ := pure_run hΓ hf hcall hc H
  refine ⟨spA, ok, ?_, fun _ _ _ _ _ _ _ _ _ _ _ _ _ h => h.elim, fun _ _ _ _ _ _ _ _ _ _ _ _ h => h.elim⟩
  intro φ Φ hT hA lo tlo targs args tv hT' HH hlow hlo hv hs
  simp only [pureSp] at hs
  obtain ⟨⟨r, hL⟩, hF, hs⟩ := Option.map_eq_some_iff.1 hs
  cases hs
  let Φ' : Frz := fun c => match hA[c]? with | some (.cells _ cs) => some cs | _ => none
  have hΦ' : ∀ c e cs, hA[c]? = some (.cells e cs) → Φ' c = some cs := fun c e cs h => by simp only [Φ', h]
  obtain ⟨v, hA', φL, h1, h2, h3, h4, h5, h6⟩ := run Φ' hA lo _ args r hL (fun c cs h => by
      simp only [Φ'] at h; split at h
      · rename_i e cs' he; cases h; exact ⟨e, he⟩
      · cases h) hlo (frz_list _ (frz_ok HH hΦ' 9) hv) hF
  obtain ⟨o1, o2⟩ := hown _ _ _ hF
  rw [h1]
  refine join_ok HH ⟨h3.dom, h3.inj, ?_, ?_, ?_⟩ (vt_own r h2 o1) h4 h5 h6
  · intro b e z es hb
    rcases h3.live b e z es hb with k | ⟨c, cs, k1, k2, k3, k4⟩
    · exact .inl k
    · refine .inr ⟨c, cs, k1, k2, k3, ?_⟩
      have ho : ownTs es = true := by
        have := (List.all_eq_true.1 o2) _ (List.mem_of_getElem? hb)
        simpa [ownB] using this
      have hf : ∀ (es : List TV), ownTs es = true → ownTs (flatT es) = true := by
        intro es
        induction es with
        | nil => intro _; rfl
        | cons e es ih =>
          intro h
          simp only [ownTs, Bool.and_eq_true] at h
          rw [flat_cons]
          have happ : ∀ (a b : List TV), ownTs a = true → ownTs b = true → ownTs (a ++ b) = true := by
            intro a b ha hb
            induction a with
            | nil => exact hb
            | cons x a ih => simp only [ownTs, Bool.and_eq_true, List.cons_append] at ha ⊢; exact ⟨ha.1, ih ha.2⟩
          refine happ _ _ ?_ (ih h.2)
          have h1 := h.1
          cases e with
          | agg cs => exact h1
          | _ => simp only [cellsT, ownTs, h1, Bool.and_true]
      exact vts_own _ k4 (hf es ho)
  · intro c cs h
    obtain ⟨e, he⟩ := HH.frz c cs h
    exact ⟨e, by rw [h6 c (List.getElem?_eq_some_iff.1 he).1]; exact he⟩
  · intro b c z cs h h'
    obtain ⟨e, he⟩ := HH.frz c cs h'
    have := h4 _ _ _ h
    have := (List.getElem?_eq_some_iff.1 he).1
    omega

theorem okT_share (hΓ : OkΓT P ΓT) (hf : P.funcs[f]? = some fn) (hcall : callable P f = true) (hc : cFn P fn = some af) {F : List TV → Option (TV × THeap)}
    (H : ∀ args r hL, F args = some (r, hL) → awpT 0 ΓT af.code (EndT af.res r hL) ⟨argσT args, []⟩) : OkT P f (shareSp F) := by
  obtain ⟨spA, ok, run⟩ := pure_run hΓ hf hcall hc H
  refine ⟨spA, ok, ?_, fun _ _ _ _ _ _ _ _ _ _ _ _ _ h => h.elim, fun _ _ _ _ _ _ _ _ _ _ _ _ h => h.elim⟩
  intro φ Φ hT hA lo tlo targs args tv hT' HH hlow hlo hv hs
  simp only [shareSp] at hs
  split at hs
  · rename_i hno
    obtain ⟨⟨r, hL⟩, hF, hs⟩ := Option.map_eq_some_iff.1 hs
    cases hs
    have hvf : VFs Φ (targs.map (frzT hT 9)) args := by
      rw [show frzT hT 9 = frzW (hopT hT (frzT hT 8)) from rfl, ← frzWs_map]
      exact frz_shareds _ _ hv hno
    obtain ⟨v, hA', φL, h1, h2, h3, h4, h5, h6⟩ := run Φ hA lo _ args r hL HH.frz hlo hvf hF
    rw [h1]
    exact join_ok HH h3 h2 h4 h5 h6
  · cases hs
end
end Go.AH
namespace Go.AH

/-! ### Going through code over trees, by rewriting -/
def condKT (v : TV) (p q : Prop) : Prop := match v with | .p (.bool t) => if t then p else q | .ub => p ∧ q | _ => False
def gdKT (v : TV) (b : Bool) (p q : Prop) : Prop := match v with | .p (.bool c) => if c == b then p else q | .tup [] => q | _ => False
def seqKT (k : Nat) (Γ : TCtx) (j : Bool) (b : AC) (Q : Exit → TSt → Prop) (e : Exit) (s : TSt) : Prop := match e with
  | .normal => if j = true then ∃ s0, Le k s s0 ∧ awpT k Γ b Q s0 else awpT k Γ b Q s
  | e => Q e s
def kontR {α : Type} (o : Option α) (f : α → Prop) (q : Prop) : Prop := match o with | some a => f a | none => q
/-- What follows a block: one may go on from a state that says less. -/
def joinK (k : Nat) (Γ : TCtx) (b : AC) (Q : Exit → TSt → Prop) (s : TSt) : Prop := ∃ s0, Le k s s0 ∧ awpT k Γ b Q s0
def blkKT (id : Nat) (Q : Exit → TSt → Prop) (e : Exit) (s : TSt) : Prop := match e with | .exit i => if i = id then Q .normal s else Q (.exit i) s | e => Q e s
def loopKT (k : Nat) (R : Nat → TSt → Prop) (n : Nat) (Q : Exit → TSt → Prop) (e : Exit) (s : TSt) : Prop := match e with | .normal => ∃ m s0, m < n ∧ Le k s s0 ∧ R m s0 | e => Q e s
section
variable {k : Nat} {Γ : TCtx} {σ : Nat → TV} {h : THeap} {K : TSt → Prop} {Q : Exit → TSt → Prop} {r : List AO}
theorem putT_at (σ : Nat → TV) (d : Nat) (v : TV) (i : Nat) : putT σ d v i = if i = d then v else σ i := rfl
theorem argσT_nil (i : Nat) : argσT [] i = .any := by simp [argσT]
theorem argσT_cons (v : TV) (l : List TV) (i : Nat) : argσT (v :: l) i = if i = 0 then v else argσT l (i - 1) := by cases i <;> simp [argσT]
theorem evT_t (σ : Nat → TV) (i : Nat) : evT σ (.t i) = σ i := rfl
theorem evT_int (σ : Nat → TV) (kd : IntKind) (n : Int) : evT σ (.v (.int kd n)) = .p (.int kd n) := rfl
theorem evT_bool (σ : Nat → TV) (b : Bool) : evT σ (.v (.bool b)) = .p (.bool b) := rfl
theorem evT_str (σ : Nat → TV) (b : ByteArray) : evT σ (.v (.string b)) = .p (.string b) := rfl
theorem evT_nil (σ : Nat → TV) : evT σ (.v (.slice none 0 0)) = .nl := rfl
theorem evT_undef (σ : Nat → TV) : evT σ (.v (.tuple ⟨[]⟩)) = .tup [] := rfl
theorem evT_nilp (σ : Nat → TV) : evT σ (.v (.pointer none)) = .p (.pointer none) := rfl
theorem evT_fn (σ : Nat → TV) (f : Nat) : evT σ (.v (.func (.func f) ⟨[]⟩ ⟨[]⟩)) = .fn f [] := rfl
theorem evT_agg (σ : Nat → TV) (cs : List Value) (h : cs.all plainV = true) : evT σ (.v (.agg ⟨cs⟩)) = .agg (cs.map ofV1) := by simp only [evT, closedV, h, if_true]; rfl
theorem ofV1_int (kd : IntKind) (n : Int) : ofV1 (.int kd n) = .p (.int kd n) := rfl
theorem ofV1_bool (b : Bool) : ofV1 (.bool b) = .p (.bool b) := rfl
theorem ofV1_str (b : ByteArray) : ofV1 (.string b) = .p (.string b) := rfl
theorem ofV1_nil : ofV1 (.slice none 0 0) = .nl := rfl
theorem ofV1_nilp : ofV1 (.pointer none) = .p (.pointer none) := rfl
theorem ofV1_nili : ofV1 .nilIface = .p .nilIface := rfl
theorem plainV_int (kd : IntKind) (n : Int) : plainV (.int kd n) = true := rfl
theorem plainV_bool (b : Bool) : plainV (.bool b) = true := rfl
theorem plainV_str (b : ByteArray) : plainV (.string b) = true := rfl
theorem plainV_nil : plainV (.slice none 0 0) = true := rfl
theorem plainV_nilp : plainV (.pointer none) = true := rfl
theorem plainV_nili : plainV .nilIface = true := rfl
theorem oneT_p (v : Value) : oneT (.p v) = true := rfl
theorem oneT_nl : oneT .nl = true := rfl
theorem oneT_s (es : List TV) : oneT (.s es) = true := rfl
theorem oneT_fe (e : TV) (o : Nat) : oneT (.fe e o) = true := rfl
theorem oneT_os (b o n : Nat) : oneT (.os b o n) = true := rfl
theorem oneT_op (b o n : Nat) : oneT (.op b o n) = true := rfl
theorem oneT_fn (f : Nat) (cs : List TV) : oneT (.fn f cs) = true := rfl
theorem cells_agg (cs : List TV) : cellsT (.agg cs) = cs := rfl
theorem cells_p (v : Value) : cellsT (.p v) = [.p v] := rfl
theorem cells_nl : cellsT .nl = [.nl] := rfl
theorem cells_s (es : List TV) : cellsT (.s es) = [.s es] := rfl
theorem cells_fe (e : TV) (o : Nat) : cellsT (.fe e o) = [.fe e o] := rfl
theorem cells_os (b o n : Nat) : cellsT (.os b o n) = [.os b o n] := rfl
theorem cells_op (b o n : Nat) : cellsT (.op b o n) = [.op b o n] := rfl
theorem cells_fn (f : Nat) (cs : List TV) : cellsT (.fn f cs) = [.fn f cs] := rfl
theorem aggE_agg (cs : List TV) : aggE (.agg cs) = .agg cs := rfl
theorem el_one (c : TV) : el [c] = c := rfl
theorem el_two (a b : TV) (l : List TV) : el (a :: b :: l) = .agg (a :: b :: l) := rfl
theorem getIT_int (kd : IntKind) (n : Int) : getIT (.p (.int kd n)) = some n := rfl
theorem getBT_bool (b : Bool) : getBT (.p (.bool b)) = some b := rfl
theorem pB_p (op : BinOp) (a b : Value) : pB op (.p a) (.p b) = abin op a b := rfl
theorem pU_p (op : UnOp) (a : Value) : pU op (.p a) = aun op a := rfl
theorem tctx_get (g : Nat) (s : TSp) (r : TCtx) (f : Nat) : TCtx.get ((g, s) :: r) f = if f = g then some s else TCtx.get r f := rfl

theorem awpT_skip : awpT k Γ .skip Q ⟨σ, h⟩ = Q .normal ⟨σ, h⟩ := rfl
theorem awpT_ret : awpT k Γ .ret Q ⟨σ, h⟩ = Q .ret ⟨σ, h⟩ := rfl
theorem awpT_exit (id : Nat) : awpT k Γ (.exit id) Q ⟨σ, h⟩ = Q (.exit id) ⟨σ, h⟩ := rfl
theorem awpT_seq (a b : AC) : awpT k Γ (.seq a b) Q ⟨σ, h⟩ = awpT k Γ a (seqKT k Γ (isBlk a) b Q) ⟨σ, h⟩ := rfl
theorem awpT_reg (ops : List AO) : awpT k Γ (.reg ops) Q ⟨σ, h⟩ = ropsT Γ ops (Q .normal) ⟨σ, h⟩ := rfl
theorem awpT_drw (ops tail : List AO) : awpT k Γ (.drw ops tail) Q ⟨σ, h⟩ = qopsT Γ ops (ropsT Γ tail (Q .normal)) ⟨σ, h⟩ := rfl
theorem awpT_cond (c : Opd) (a b : AC) : awpT k Γ (.cond c a b) Q ⟨σ, h⟩ = condKT (evT σ c) (awpT k Γ a Q ⟨σ, h⟩) (awpT k Γ b Q ⟨σ, h⟩) := rfl
theorem awpT_block (id : Nat) (a : AC) : awpT k Γ (.block id a) Q ⟨σ, h⟩ = awpT k Γ a (blkKT id Q) ⟨σ, h⟩ := rfl
theorem seqKT_join (id : Nat) (a b : AC) : seqKT k Γ (isBlk (.block id (.loop a))) b Q .normal ⟨σ, h⟩ = joinK k Γ b Q ⟨σ, h⟩ := by simp [seqKT, isBlk, joinK]
theorem seqKT_b1 (id : Nat) (l : List AO) (b : AC) : seqKT k Γ (isBlk (.block id (.reg l))) b Q .normal ⟨σ, h⟩ = awpT k Γ b Q ⟨σ, h⟩ := by simp [seqKT, isBlk]
theorem seqKT_b2 (id : Nat) (c d b : AC) : seqKT k Γ (isBlk (.block id (.seq c d))) b Q .normal ⟨σ, h⟩ = awpT k Γ b Q ⟨σ, h⟩ := by simp [seqKT, isBlk]
theorem seqKT_b3 (id : Nat) (x : Opd) (c d b : AC) : seqKT k Γ (isBlk (.block id (.cond x c d))) b Q .normal ⟨σ, h⟩ = awpT k Γ b Q ⟨σ, h⟩ := by simp [seqKT, isBlk]
theorem seqKT_b4 (id id' : Nat) (c b : AC) : seqKT k Γ (isBlk (.block id (.block id' c))) b Q .normal ⟨σ, h⟩ = awpT k Γ b Q ⟨σ, h⟩ := by simp [seqKT, isBlk]
theorem seqKT_b5 (id : Nat) (l m : List AO) (b : AC) : seqKT k Γ (isBlk (.block id (.drw l m))) b Q .normal ⟨σ, h⟩ = awpT k Γ b Q ⟨σ, h⟩ := by simp [seqKT, isBlk]
theorem seqKT_b6 (id : Nat) (b : AC) : seqKT k Γ (isBlk (.block id .skip)) b Q .normal ⟨σ, h⟩ = awpT k Γ b Q ⟨σ, h⟩ := by simp [seqKT, isBlk]
theorem seqKT_reg (l : List AO) (b : AC) : seqKT k Γ (isBlk (.reg l)) b Q .normal ⟨σ, h⟩ = awpT k Γ b Q ⟨σ, h⟩ := by simp [seqKT, isBlk]
theorem seqKT_drw (l m : List AO) (b : AC) : seqKT k Γ (isBlk (.drw l m)) b Q .normal ⟨σ, h⟩ = awpT k Γ b Q ⟨σ, h⟩ := by simp [seqKT, isBlk]
theorem seqKT_seq (l m b : AC) (e : Exit) (s : TSt) : seqKT k Γ (isBlk (.seq l m)) b Q e s = seqKT k Γ (isBlk m) b Q e s := rfl
theorem seqKT_cond (c : Opd) (l m b : AC) : seqKT k Γ (isBlk (.cond c l m)) b Q .normal ⟨σ, h⟩ = awpT k Γ b Q ⟨σ, h⟩ := by simp [seqKT, isBlk]
theorem seqKT_skip (b : AC) : seqKT k Γ (isBlk .skip) b Q .normal ⟨σ, h⟩ = awpT k Γ b Q ⟨σ, h⟩ := by simp [seqKT, isBlk]
theorem seqKT_ret (j : Bool) (b : AC) : seqKT k Γ j b Q .ret ⟨σ, h⟩ = Q .ret ⟨σ, h⟩ := rfl
theorem seqKT_exit (j : Bool) (b : AC) (i : Nat) : seqKT k Γ j b Q (.exit i) ⟨σ, h⟩ = Q (.exit i) ⟨σ, h⟩ := rfl
theorem blkKT_normal (id : Nat) : blkKT id Q .normal ⟨σ, h⟩ = Q .normal ⟨σ, h⟩ := rfl
theorem blkKT_ret (id : Nat) : blkKT id Q .ret ⟨σ, h⟩ = Q .ret ⟨σ, h⟩ := rfl
theorem blkKT_exit (id i : Nat) : blkKT id Q (.exit i) ⟨σ, h⟩ = if i = id then Q .normal ⟨σ, h⟩ else Q (.exit i) ⟨σ, h⟩ := rfl
theorem loopKT_ret (R : Nat → TSt → Prop) (n : Nat) : loopKT k R n Q .ret ⟨σ, h⟩ = Q .ret ⟨σ, h⟩ := rfl
theorem loopKT_exit (R : Nat → TSt → Prop) (n i : Nat) : loopKT k R n Q (.exit i) ⟨σ, h⟩ = Q (.exit i) ⟨σ, h⟩ := rfl
theorem kontR_some {α : Type} (a : α) (f : α → Prop) (q : Prop) : kontR (some a) f q = f a := rfl
theorem ropsT_nil : ropsT Γ [] K ⟨σ, h⟩ = K ⟨σ, h⟩ := rfl
theorem qopsT_nil : qopsT Γ [] K ⟨σ, h⟩ = K ⟨σ, h⟩ := rfl
theorem ropsT_op (d : Nat) (p : AOp) : ropsT Γ (⟨some d, none, p⟩ :: r) K ⟨σ, h⟩ = kontR (top Γ anyB (evT σ) h p) (fun x => ropsT Γ r K ⟨putT σ d x.1, x.2⟩) (relQ Γ ⟨some d, none, p⟩ ⟨σ, h⟩ fun s' => ropsT Γ r K s') := by
  simp only [ropsT, stepT, putTO]; cases top Γ anyB (evT σ) h p <;> rfl
theorem ropsT_op0 (p : AOp) : ropsT Γ (⟨none, none, p⟩ :: r) K ⟨σ, h⟩ = kontR (top Γ anyB (evT σ) h p) (fun x => ropsT Γ r K ⟨σ, x.2⟩) (relQ Γ ⟨none, none, p⟩ ⟨σ, h⟩ fun s' => ropsT Γ r K s') := by
  simp only [ropsT, stepT, putTO]; cases top Γ anyB (evT σ) h p <;> rfl
theorem ropsT_mv (d : Nat) (x : Opd) : ropsT Γ (⟨some d, none, .mv x⟩ :: r) K ⟨σ, h⟩ = ropsT Γ r K ⟨putT σ d (evT σ x), h⟩ := rfl
theorem gdKT_un (b : Bool) (p q : Prop) : gdKT (.tup []) b p q = q := rfl
theorem gd_none {v : TV} {b : Bool} {p q : Prop} (h : ¬ ∃ c, v = .p (.bool c)) (h' : v ≠ .tup []) : gdKT v b p q = False := by
  unfold gdKT; split
  · exact absurd ⟨_, rfl⟩ h
  · exact absurd rfl h'
  · rfl
theorem ropsT_opg (d t : Nat) (b : Bool) (p : AOp) : ropsT Γ (⟨some d, some (t, b), p⟩ :: r) K ⟨σ, h⟩ =
    gdKT (σ t) b (kontR (top Γ anyB (evT σ) h p) (fun x => ropsT Γ r K ⟨putT σ d x.1, x.2⟩) (relQ Γ ⟨some d, some (t, b), p⟩ ⟨σ, h⟩ fun s' => ropsT Γ r K s')) (ropsT Γ r K ⟨putT σ d (.tup []), h⟩) := by
  by_cases hc : ∃ c, σ t = .p (.bool c)
  · obtain ⟨c, hc⟩ := hc
    simp only [ropsT, stepT, putTO, gdKT, hc]
    cases hcb : c == b
    · rfl
    · cases top Γ anyB (evT σ) h p
      · rfl
      · rfl
  · by_cases hu : σ t = .tup []
    · simp only [ropsT, stepT, putTO, hu, gdKT_un]
    rw [gd_none hc hu]
    simp only [ropsT, stepT, putTO]
    split
    · rename_i s' hs
      split at hs
      · exact absurd ⟨_, by assumption⟩ hc
      · exact absurd (by assumption) hu
      · cases hs
    · refine eq_false fun h => ?_
      rcases h with ⟨_, ⟨h, _⟩, _⟩ | ⟨h | ⟨t', b', h, h'⟩, _⟩
      · cases h
      · cases h
      · cases h; exact hc ⟨_, h'⟩
theorem ropsT_opg0 (t : Nat) (b : Bool) (p : AOp) : ropsT Γ (⟨none, some (t, b), p⟩ :: r) K ⟨σ, h⟩ =
    gdKT (σ t) b (kontR (top Γ anyB (evT σ) h p) (fun x => ropsT Γ r K ⟨σ, x.2⟩) (relQ Γ ⟨none, some (t, b), p⟩ ⟨σ, h⟩ fun s' => ropsT Γ r K s')) (ropsT Γ r K ⟨σ, h⟩) := by
  by_cases hc : ∃ c, σ t = .p (.bool c)
  · obtain ⟨c, hc⟩ := hc
    simp only [ropsT, stepT, putTO, gdKT, hc]
    cases hcb : c == b
    · rfl
    · cases top Γ anyB (evT σ) h p
      · rfl
      · rfl
  · by_cases hu : σ t = .tup []
    · simp only [ropsT, stepT, putTO, hu, gdKT_un]
    rw [gd_none hc hu]
    simp only [ropsT, stepT, putTO]
    split
    · rename_i s' hs
      split at hs
      · exact absurd ⟨_, by assumption⟩ hc
      · exact absurd (by assumption) hu
      · cases hs
    · refine eq_false fun h => ?_
      rcases h with ⟨_, ⟨h, _⟩, _⟩ | ⟨h | ⟨t', b', h, h'⟩, _⟩
      · cases h
      · cases h
      · cases h; exact hc ⟨_, h'⟩
theorem qopsT_op (d : Nat) (p : AOp) : qopsT Γ (⟨some d, none, p⟩ :: r) K ⟨σ, h⟩ = kont (top Γ (fromB h.length) (evT σ) h p) (fun x => qopsT Γ r K ⟨putT σ d x.1, x.2⟩) := by
  simp only [qopsT, stepT, putTO]; cases top Γ (fromB h.length) (evT σ) h p <;> rfl
theorem qopsT_op0 (p : AOp) : qopsT Γ (⟨none, none, p⟩ :: r) K ⟨σ, h⟩ = kont (top Γ (fromB h.length) (evT σ) h p) (fun x => qopsT Γ r K ⟨σ, x.2⟩) := by
  simp only [qopsT, stepT, putTO]; cases top Γ (fromB h.length) (evT σ) h p <;> rfl
theorem qopsT_mv (d : Nat) (x : Opd) : qopsT Γ (⟨some d, none, .mv x⟩ :: r) K ⟨σ, h⟩ = qopsT Γ r K ⟨putT σ d (evT σ x), h⟩ := rfl
theorem qopsT_opg (d t : Nat) (b : Bool) (p : AOp) : qopsT Γ (⟨some d, some (t, b), p⟩ :: r) K ⟨σ, h⟩ =
    gdKT (σ t) b (kont (top Γ (fromB h.length) (evT σ) h p) (fun x => qopsT Γ r K ⟨putT σ d x.1, x.2⟩)) (qopsT Γ r K ⟨putT σ d (.tup []), h⟩) := by
  by_cases hc : ∃ c, σ t = .p (.bool c)
  · obtain ⟨c, hc⟩ := hc
    simp only [qopsT, stepT, putTO, gdKT, hc]
    cases hcb : c == b
    · rfl
    · cases top Γ (fromB h.length) (evT σ) h p <;> rfl
  · by_cases hu : σ t = .tup []
    · simp only [qopsT, stepT, putTO, hu, gdKT_un]
    rw [gd_none hc hu]
    simp only [qopsT, stepT, putTO]
    split
    · rename_i s' hs
      split at hs
      · exact absurd ⟨_, by assumption⟩ hc
      · exact absurd (by assumption) hu
      · cases hs
    · rfl
theorem condKT_ub (p q : Prop) : condKT .ub p q = (p ∧ q) := rfl
theorem condKT_true (p q : Prop) : condKT (.p (.bool true)) p q = p := rfl
theorem condKT_false (p q : Prop) : condKT (.p (.bool false)) p q = q := rfl
theorem gdKT_tt (p q : Prop) : gdKT (.p (.bool true)) true p q = p := rfl
theorem gdKT_ff (p q : Prop) : gdKT (.p (.bool false)) false p q = p := rfl
theorem gdKT_tf (p q : Prop) : gdKT (.p (.bool true)) false p q = q := rfl
theorem gdKT_ft (p q : Prop) : gdKT (.p (.bool false)) true p q = q := rfl
theorem condKT_split {b : Bool} {p q : Prop} (hp : b = true → p) (hq : b = false → q) : condKT (.p (.bool b)) p q := by cases b; exact hq rfl; exact hp rfl
theorem condKT_dec {c : Prop} [Decidable c] {p q : Prop} (hp : c → p) (hq : ¬ c → q) : condKT (.p (.bool (decide c))) p q := by
  by_cases h : c
  · simp only [h, decide_true]; exact hp h
  · simp only [h, decide_false]; exact hq h
theorem gdKT_dec {c : Prop} [Decidable c] {b : Bool} {p q : Prop} (hp : c → gdKT (.p (.bool true)) b p q) (hq : ¬ c → gdKT (.p (.bool false)) b p q) : gdKT (.p (.bool (decide c))) b p q := by
  by_cases h : c
  · simp only [h, decide_true]; exact hp h
  · simp only [h, decide_false]; exact hq h
theorem gdKT_split {c b : Bool} {p q : Prop} (hp : c = true → gdKT (.p (.bool true)) b p q) (hq : c = false → gdKT (.p (.bool false)) b p q) : gdKT (.p (.bool c)) b p q := by cases c; exact hq rfl; exact hp rfl
theorem kontR_cong {α : Type} {o : Option α} {o' : Unit → Option α} {f : α → Prop} {q : Prop} (h : ∀ u, tag o = o' u) : kontR o f q = kontR (o' ()) f q := by rw [← h]; rfl
theorem condKT_cong {v : TV} {v' : Unit → TV} {p q : Prop} (h : ∀ u, tag v = v' u) : condKT v p q = condKT (v' ()) p q := by rw [← h]; rfl
theorem gdKT_cong {v : TV} {v' : Unit → TV} {b : Bool} {p q : Prop} (h : ∀ u, tag v = v' u) : gdKT v b p q = gdKT (v' ()) b p q := by rw [← h]; rfl
theorem awpT_cong {c : AC} {s : TSt} {s' : Unit → TSt} (h : ∀ u, tag s = s' u) : awpT k Γ c Q s = awpT k Γ c Q (s' ()) := by rw [← h]; rfl
theorem ropsT_cong {ops : List AO} {s : TSt} {s' : Unit → TSt} (h : ∀ u, tag s = s' u) : ropsT Γ ops K s = ropsT Γ ops K (s' ()) := by rw [← h]; rfl
theorem qopsT_cong {ops : List AO} {s : TSt} {s' : Unit → TSt} (h : ∀ u, tag s = s' u) : qopsT Γ ops K s = qopsT Γ ops K (s' ()) := by rw [← h]; rfl
theorem joinK_cong {b : AC} {s : TSt} {s' : Unit → TSt} (h : ∀ u, tag s = s' u) : joinK k Γ b Q s = joinK k Γ b Q (s' ()) := by rw [← h]; rfl
theorem loopKT_cong {R : Nat → TSt → Prop} {n : Nat} {e : Exit} {s : TSt} {s' : Unit → TSt} (h : ∀ u, tag s = s' u) : loopKT k R n Q e s = loopKT k R n Q e (s' ()) := by rw [← h]; rfl
theorem EndT_cong {res : List AR} {t : TV} {hL : THeap} {e : Exit} {s : TSt} {s' : Unit → TSt} (h : ∀ u, tag s = s' u) : EndT res t hL e s = EndT res t hL e (s' ()) := by rw [← h]; rfl
end

/-! ### States that say less -/
def slots : List (Nat × TV) → Nat → TV
  | [] => fun _ => .any
  | (d, v) :: l => putT (slots l) d v
def rho (ks : List Nat) (m : Nat) (b : Nat) : Nat := match ks[b]? with
  | some x => x
  | none => m + b
def slotsOk (σ : Nat → TV) (ρ : Nat → Nat) : List (Nat × TV) → Prop
  | [] => True
  | (d, v) :: l => σ d = renT ρ v ∧ slotsOk σ ρ l
def blksOk (h : THeap) (ρ : Nat → Nat) : List Nat → THeap → Prop
  | k :: ks, .cells e z es :: h0 => h[k]? = some (.cells e z (renTs ρ es)) ∧ blksOk h ρ ks h0
  | _ :: ks, .dead :: h0 => blksOk h ρ ks h0
  | [], [] => True
  | _, _ => False
theorem blksOk_len {h : THeap} {ρ : Nat → Nat} : ∀ {ks : List Nat} {h0 : THeap}, blksOk h ρ ks h0 → ks.length = h0.length
  | k :: ks, .cells e z es :: h0, hh => by simp only [blksOk] at hh; simp [blksOk_len hh.2]
  | k :: ks, .dead :: h0, hh => by simp only [blksOk] at hh; simp [blksOk_len hh]
  | [], [], _ => rfl
  | [], _ :: _, hh => by simp [blksOk] at hh
  | _ :: _, [], hh => by simp [blksOk] at hh
theorem blksOk_get {h : THeap} {ρ : Nat → Nat} : ∀ {ks : List Nat} {h0 : THeap}, blksOk h ρ ks h0 → ∀ (b : Nat) (e : TypeId) (z : Nat) (es : List TV), h0[b]? = some (.cells e z es) → ∃ k, ks[b]? = some k ∧ h[k]? = some (.cells e z (renTs ρ es))
  | k :: ks, .cells e z es :: h0, hh, b, e', z', es', hb => by
    simp only [blksOk] at hh
    cases b with
    | zero => simp at hb; obtain ⟨rfl, rfl, rfl⟩ := hb; exact ⟨k, rfl, hh.1⟩
    | succ b => simpa using blksOk_get hh.2 b e' z' es' (by simpa using hb)
  | k :: ks, .dead :: h0, hh, b, e', z', es', hb => by
    simp only [blksOk] at hh
    cases b with
    | zero => simp at hb
    | succ b => simpa using blksOk_get hh b e' z' es' (by simpa using hb)
  | [], [], _, b, e', z', es', hb => by simp at hb
  | [], _ :: _, hh, _, _, _, _, _ => by simp [blksOk] at hh
  | _ :: _, [], hh, _, _, _, _, _ => by simp [blksOk] at hh
theorem slotsOk_at {σ : Nat → TV} {ρ : Nat → Nat} : ∀ {l : List (Nat × TV)}, slotsOk σ ρ l → ∀ t, slots l t = .any ∨ σ t = renT ρ (slots l t)
  | [], _, t => .inl rfl
  | (d, v) :: l, h, t => by
    simp only [slotsOk] at h
    simp only [slots, putT]
    by_cases e : t = d
    · subst e; rw [if_pos rfl]; exact .inr h.1
    · rw [if_neg e]; exact slotsOk_at h.2 t
theorem rho_ok {ks : List Nat} {m k : Nat} {s : TSt} {h0 : THeap} (hnd : ks.Nodup) (hlt : ∀ x ∈ ks, x < m) (hl : ks.length = h0.length) : (∀ b b', b < h0.length → b' < h0.length → rho ks m b = rho ks m b' → b = b') ∧ (∀ b, h0.length ≤ b → m ≤ rho ks m b) := by
  constructor
  · intro b b' hb hb' h
    have e1 : ks[b]? = some ks[b] := by simp [hl, hb]
    have e2 : ks[b']? = some ks[b'] := by simp [hl, hb']
    simp only [rho, e1, e2] at h
    exact (List.getElem_inj hnd).1 h
  · intro b hb
    have : ks[b]? = none := List.getElem?_eq_none (by omega)
    simp only [rho, this]; omega
/-- Less is said: the slots of the list, and the blocks ks. -/
theorem le_of {s : TSt} {l : List (Nat × TV)} {h0 : THeap} (ks : List Nat) (hs : slotsOk s.σ (rho ks s.h.length) l) (hb : blksOk s.h (rho ks s.h.length) ks h0) (hnd : ks.Nodup) (hlt : ∀ x ∈ ks, x < s.h.length) : Le 0 s ⟨slots l, h0⟩ := by
  obtain ⟨h1, h2⟩ := rho_ok (k := 0) (s := s) hnd hlt (blksOk_len hb)
  refine ⟨rho ks s.h.length, fun i hi => absurd hi (by omega), Nat.zero_le _, h1, h2, slotsOk_at hs, fun b e z es h => ?_⟩
  obtain ⟨x, hx, hx2⟩ := blksOk_get hb b e z es h
  simp only [rho, hx]; exact hx2
theorem le_same (k : Nat) (s : TSt) (hk : k ≤ s.h.length) : Le k s s := by
  have id1 : ∀ (t : TV), renT (fun b => b) t = t := by
    have : (∀ t : TV, renT (fun b => b) t = t) ∧ ∀ ts : List TV, renTs (fun b => b) ts = ts := by
      constructor
      · intro t
        induction t using TV.rec (motive_2 := fun ts => renTs (fun b => b) ts = ts) with
        | agg cs ih => simp only [renT, ih]
        | tup cs ih => simp only [renT, ih]
        | fn f cs ih => simp only [renT, ih]
        | nil => rfl
        | cons a b h1 h2 => simp only [renTs, h1, h2]
        | _ => rfl
      · intro ts
        induction ts using TV.rec_1 (motive_1 := fun t => renT (fun b => b) t = t) with
        | agg cs ih => simp only [renT, ih]
        | tup cs ih => simp only [renT, ih]
        | fn f cs ih => simp only [renT, ih]
        | nil => rfl
        | cons a b h1 h2 => simp only [renTs, h1, h2]
        | _ => rfl
    exact this.1
  have id2 : ∀ (ts : List TV), renTs (fun b => b) ts = ts := fun ts => by
    induction ts with
    | nil => rfl
    | cons a l ih => simp only [renTs, id1, ih]
  exact ⟨fun b => b, fun _ _ => rfl, hk, fun _ _ _ _ h => h, fun b hb => hb, fun t => .inr (id1 _).symm, fun b e z es h => by rw [id2]; exact h⟩
theorem joinK_here {Γ : TCtx} {b : AC} {Q : Exit → TSt → Prop} {s : TSt} (h : awpT 0 Γ b Q s) : joinK 0 Γ b Q s := ⟨s, le_same 0 s (Nat.zero_le _), h⟩
/-- The states that come round. -/
def roundR {α : Type} (I : α → TSt) (P : α → Prop) (m : α → Nat) (n : Nat) (s : TSt) : Prop := ∃ y, P y ∧ m y = n ∧ s = I y
/-- A loop: the states that come round, told by x. -/
theorem awpT_loop {α : Type} {k : Nat} {Γ : TCtx} {a : AC} {Q : Exit → TSt → Prop} {s : TSt} (I : α → TSt) (P : α → Prop) (m : α → Nat) (x0 : α) (hp : P x0) (h0 : Le k s (I x0))
    (round : ∀ x, P x → awpT k Γ a (loopKT k (roundR I P m) (m x) Q) (I x)) : awpT k Γ (.loop a) Q s := by
  refine ⟨roundR I P m, ⟨_, _, h0, x0, hp, rfl, rfl⟩, fun n s' ⟨y, hy, hn, hs⟩ => ?_⟩
  subst hn; subst hs
  exact round y hy
theorem loopKT_next {α : Type} {k : Nat} {Q : Exit → TSt → Prop} {s : TSt} {I : α → TSt} {P : α → Prop} {m : α → Nat} {n : Nat} (y : α) (hp : P y) (hm : m y < n) (hl : Le k s (I y)) :
    loopKT k (roundR I P m) n Q .normal s := ⟨m y, I y, hm, hl, y, hp, rfl, rfl⟩
/-- The end of a body. -/
theorem le_ret {r tv : TV} {h hL : THeap} (ks : List Nat) (hv : tv = renT (rho ks h.length) r) (hb : blksOk h (rho ks h.length) ks hL) (hnd : ks.Nodup) (hlt : ∀ x ∈ ks, x < h.length) : Le 0 ⟨fun _ => tv, h⟩ ⟨fun _ => r, hL⟩ := by
  obtain ⟨h1, h2⟩ := rho_ok (k := 0) (s := ⟨fun _ => tv, h⟩) hnd hlt (blksOk_len hb)
  refine ⟨rho ks h.length, fun i hi => absurd hi (by omega), Nat.zero_le _, h1, h2, fun _ => .inr hv, fun b e z es h' => ?_⟩
  obtain ⟨x, hx, hx2⟩ := blksOk_get hb b e z es h'
  simp only [rho, hx]; exact hx2
theorem endT_of {res : List AR} {r tv : TV} {hL : THeap} {e : Exit} {s : TSt} (ks : List Nat) (he : e = .normal ∨ e = .ret) (hr : rresT s res = some tv) (hv : tv = renT (rho ks s.h.length) r) (hb : blksOk s.h (rho ks s.h.length) ks hL) (hnd : ks.Nodup) (hlt : ∀ x ∈ ks, x < s.h.length) :
    EndT res r hL e s := ⟨he, .inl ⟨tv, hr, le_ret ks hv hb hnd hlt⟩⟩
/-- What is nil is told as slices of nothing, in blocks E of their own. -/
theorem endT_nls {res : List AR} {r tv tv' : TV} {hL : THeap} {e : Exit} {s : TSt} (E : THeap) (ks : List Nat) (he : e = .normal ∨ e = .ret) (hr : rresT s res = some tv) (hv : tv' = renT (rho ks (s.h ++ E).length) r) (hn : NlTo tv tv') (hE : ∀ x ∈ E, ∃ ty z, x = TB.cells ty z []) (hb : blksOk (s.h ++ E) (rho ks (s.h ++ E).length) ks hL) (hnd : ks.Nodup) (hlt : ∀ x ∈ ks, x < (s.h ++ E).length) :
    EndT res r hL e s := ⟨he, .inr (.inr ⟨tv, tv', E, hr, hn, hE, le_ret ks hv hb hnd hlt⟩)⟩
theorem endT_v {res : List AR} {r : TV} {e : Exit} {s : TSt} (he : e = .normal ∨ e = .ret) (hr : rresT s res = some r) (hv : ∀ ρ, renT ρ r = r) : EndT res r [] e s :=
  endT_of [] he hr (hv _).symm trivial List.nodup_nil (fun _ h => by cases h)

/-! ### What a function answers -/
open Classical in
noncomputable def specP {α : Type} (enc : α → List TV) (Pre : α → Prop) (R : α → TV × THeap) (args : List TV) : Option (TV × THeap) :=
  if h : ∃ x, args = enc x ∧ Pre x then some (R (Classical.choose h)) else none
theorem specP_at {α : Type} {enc : α → List TV} {Pre : α → Prop} {R : α → TV × THeap} (inj : ∀ x y, enc x = enc y → x = y) (x : α) (hx : Pre x) : specP enc Pre R (enc x) = some (R x) := by
  have h : ∃ y, enc x = enc y ∧ Pre y := ⟨x, rfl, hx⟩
  unfold specP
  rw [dif_pos h]
  rw [← inj _ _ (Classical.choose_spec h).1]
theorem specP_some {α : Type} {enc : α → List TV} {Pre : α → Prop} {R : α → TV × THeap} {args : List TV} {r : TV × THeap} (h : specP enc Pre R args = some r) : ∃ x, args = enc x ∧ Pre x ∧ r = R x := by
  unfold specP at h
  split at h
  · rename_i hx; cases h; exact ⟨_, (Classical.choose_spec hx).1, (Classical.choose_spec hx).2, rfl⟩
  · cases h
section
variable {P : Program} {ΓT : TCtx} {f : Nat} {fn : Func} {af : AF} {α : Type} {enc : α → List TV} {Pre : α → Prop} {R : α → TV × THeap}
theorem okT_fn (hΓ : OkΓT P ΓT) (hf : P.funcs[f]? = some fn) (hcall : callable P f = true) (hc : cFn P fn = some af)
    (hown : ∀ x, Pre x → ownT (R x).1 = true ∧ (R x).2.all ownB = true)
    (H : ∀ x, Pre x → awpT 0 ΓT af.code (EndT af.res (R x).1 (R x).2) ⟨argσT (enc x), []⟩) : OkT P f (pureSp (specP enc Pre R)) :=
  okT_pure hΓ hf hcall hc (fun args r hL h => by obtain ⟨x, _, hp, hr⟩ := specP_some h; have := hown x hp; rw [← hr] at this; exact this)
    (fun args r hL h => by obtain ⟨x, rfl, hp, hr⟩ := specP_some h; have := H x hp; rw [← hr] at this; exact this)
theorem okT_sh (hΓ : OkΓT P ΓT) (hf : P.funcs[f]? = some fn) (hcall : callable P f = true) (hc : cFn P fn = some af)
    (H : ∀ x, Pre x → awpT 0 ΓT af.code (EndT af.res (R x).1 (R x).2) ⟨argσT (enc x), []⟩) : OkT P f (shareSp (specP enc Pre R)) :=
  okT_share hΓ hf hcall hc (fun args r hL h => by obtain ⟨x, rfl, hp, hr⟩ := specP_some h; have := H x hp; rw [← hr] at this; exact this)
end
end Go.AH
namespace Go.AH

/-! ### Words for going through -/
theorem condKT_pos {c : Prop} [Decidable c] {p q : Prop} (h : c) : condKT (.p (.bool (decide c))) p q = p := by simp [condKT, h]
theorem condKT_neg {c : Prop} [Decidable c] {p q : Prop} (h : ¬ c) : condKT (.p (.bool (decide c))) p q = q := by simp [condKT, h]
theorem gdKT_pt {c : Prop} [Decidable c] {p q : Prop} (h : c) : gdKT (.p (.bool (decide c))) true p q = p := by simp [gdKT, h]
theorem gdKT_nt {c : Prop} [Decidable c] {p q : Prop} (h : ¬ c) : gdKT (.p (.bool (decide c))) true p q = q := by simp [gdKT, h]
theorem gdKT_pf {c : Prop} [Decidable c] {p q : Prop} (h : c) : gdKT (.p (.bool (decide c))) false p q = q := by simp [gdKT, h]
theorem gdKT_nf {c : Prop} [Decidable c] {p q : Prop} (h : ¬ c) : gdKT (.p (.bool (decide c))) false p q = p := by simp [gdKT, h]
theorem tw64 {n : Int} (h : -9223372036854775808 ≤ n ∧ n ≤ 9223372036854775807) : IntKind.i64.wrap n = n := by rw [IntKind.wrap_i64]; omega
theorem twu8 {n : Int} (h : 0 ≤ n ∧ n < 256) : IntKind.u8.wrap n = n := by
  simp [IntKind.wrap, IntKind.min, IntKind.max, IntKind.bits, IntKind.signed]; omega
theorem int_beq (a b : Int) : (a == b) = decide (a = b) := by by_cases h : a = b <;> simp [h]
theorem int_bne (a b : Int) : (a != b) = decide (¬ a = b) := by by_cases h : a = b <;> simp [h]
theorem not_dec (c : Prop) [Decidable c] : (!decide c) = decide (¬ c) := by by_cases h : c <;> simp [h]
theorem dec_and (c d : Prop) [Decidable c] [Decidable d] : (decide c && decide d) = decide (c ∧ d) := by by_cases h : c <;> by_cases k : d <;> simp [h, k]
theorem dec_or (c d : Prop) [Decidable c] [Decidable d] : (decide c || decide d) = decide (c ∨ d) := by by_cases h : c <;> by_cases k : d <;> simp [h, k]
theorem nat0T : ((0 : Nat) : Int) = 0 := rfl
theorem map_someT {α β : Type} (f : α → β) (a : α) : Option.map f (some a) = some (f a) := rfl

/-! aop over trees, one by one -/
section
variable (Γ : TCtx) (tlo : Nat → Bool) (ρ : Opd → TV) (h : THeap)
end
theorem mkEls_one (ρ : Opd → TV) (z : List Value) (k : Nat) (x : Opd) : mkEls ρ 1 z [(0, k, x)] = if k = z.length ∧ (cellsT (ρ x)).length = k ∧ (cellsT (ρ x)).all oneT = true then some [ρ x] else none := rfl
theorem mkEls_zero (ρ : Opd → TV) (z : List Value) (ps : List (Nat × Nat × Opd)) : mkEls ρ 0 z ps = (fillT (z.map ofV1) (ps.map fun p => (p.1, p.2.1, ρ p.2.2))).bind fun cs => if z.all plainV = true ∧ cs.all oneT = true ∧ cs.length = 0 * (z.length / 0) then some (chunksT (z.length / 0) 0 cs) else none := by
  unfold mkEls; rfl
theorem mkEls_two (ρ : Opd → TV) (n : Nat) (z : List Value) (ps : List (Nat × Nat × Opd)) : mkEls ρ (n + 2) z ps = (fillT (z.map ofV1) (ps.map fun p => (p.1, p.2.1, ρ p.2.2))).bind fun cs => if z.all plainV = true ∧ cs.all oneT = true ∧ cs.length = (n + 2) * (z.length / (n + 2)) then some (chunksT (z.length / (n + 2)) (n + 2) cs) else none := by
  unfold mkEls; rfl
theorem mkEls_1b (ρ : Opd → TV) (z : List Value) (a b : Nat × Nat × Opd) (r : List (Nat × Nat × Opd)) : mkEls ρ 1 z (a :: b :: r) = (fillT (z.map ofV1) ((a :: b :: r).map fun p => (p.1, p.2.1, ρ p.2.2))).bind fun cs => if z.all plainV = true ∧ cs.all oneT = true ∧ cs.length = 1 * (z.length / 1) then some (chunksT (z.length / 1) 1 cs) else none := by
  obtain ⟨o, k, x⟩ := a
  cases o <;> rfl
theorem mkEls_1n (ρ : Opd → TV) (z : List Value) : mkEls ρ 1 z [] = (fillT (z.map ofV1) []).bind fun cs => if z.all plainV = true ∧ cs.all oneT = true ∧ cs.length = 1 * (z.length / 1) then some (chunksT (z.length / 1) 1 cs) else none := by
  unfold mkEls; rfl

/-! Values handed to a callee -/
section
variable (h : THeap) (n : Nat)
theorem frz_p (v : Value) : frzT h n (.p v) = .p v := by cases n <;> rfl
theorem frz_nl : frzT h n .nl = .s [] := by cases n <;> rfl
theorem frz_s (es : List TV) : frzT h n (.s es) = .s es := by cases n <;> rfl
theorem frz_fe (e : TV) (o : Nat) : frzT h n (.fe e o) = .fe e o := by cases n <;> rfl
theorem frz_any : frzT h n .any = .any := by cases n <;> rfl
theorem frz_ub : frzT h n .ub = .ub := by cases n <;> rfl
theorem frz_agg (cs : List TV) : frzT h n (.agg cs) = .agg (cs.map (frzT h n)) := by cases n <;> simp only [frzT, frzW, frzWs_map]
theorem frz_tup (cs : List TV) : frzT h n (.tup cs) = .tup (cs.map (frzT h n)) := by cases n <;> simp only [frzT, frzW, frzWs_map]
theorem frz_fn (f : Nat) (cs : List TV) : frzT h n (.fn f cs) = .fn f (cs.map (frzT h n)) := by cases n <;> simp only [frzT, frzW, frzWs_map]
theorem frz_os (b o m : Nat) : frzT h (n + 1) (.os b o m) = match h[b]? with
    | some (.cells _ _ es) => if o + m ≤ es.length then .s (((es.drop o).take m).map (frzT h n)) else .any
    | _ => .any := rfl
theorem frz_op (b i o : Nat) : frzT h (n + 1) (.op b i o) = match h[b]? with
    | some (.cells _ _ es) => match es[i]? with
      | some e => .fe (frzT h n e) o
      | none => .any
    | _ => .any := rfl
end
theorem ren_p (ρ : Nat → Nat) (v : Value) : renT ρ (.p v) = .p v := rfl
theorem ren_nl (ρ : Nat → Nat) : renT ρ .nl = .nl := rfl
theorem ren_s (ρ : Nat → Nat) (es : List TV) : renT ρ (.s es) = .s es := rfl
theorem ren_fe (ρ : Nat → Nat) (e : TV) (o : Nat) : renT ρ (.fe e o) = .fe e o := rfl
theorem ren_any (ρ : Nat → Nat) : renT ρ .any = .any := rfl
theorem ren_os (ρ : Nat → Nat) (b o n : Nat) : renT ρ (.os b o n) = .os (ρ b) o n := rfl
theorem ren_op (ρ : Nat → Nat) (b o n : Nat) : renT ρ (.op b o n) = .op (ρ b) o n := rfl
theorem ren_agg (ρ : Nat → Nat) (cs : List TV) : renT ρ (.agg cs) = .agg (renTs ρ cs) := rfl
theorem ren_tup (ρ : Nat → Nat) (cs : List TV) : renT ρ (.tup cs) = .tup (renTs ρ cs) := rfl
theorem ren_fn (ρ : Nat → Nat) (f : Nat) (cs : List TV) : renT ρ (.fn f cs) = .fn f (renTs ρ cs) := rfl
theorem rens_nil (ρ : Nat → Nat) : renTs ρ [] = [] := rfl
theorem rens_cons (ρ : Nat → Nat) (t : TV) (ts : List TV) : renTs ρ (t :: ts) = renT ρ t :: renTs ρ ts := rfl
theorem renB_cells (ρ : Nat → Nat) (e : TypeId) (z : Nat) (es : List TV) : renB ρ (.cells e z es) = .cells e z (renTs ρ es) := rfl
theorem rho_zero (k m : Nat) (ks : List Nat) : rho (k :: ks) m 0 = k := rfl
theorem rho_one (k k' m : Nat) (ks : List Nat) : rho (k :: k' :: ks) m 1 = k' := rfl
theorem rho_two (k k' k'' m : Nat) (ks : List Nat) : rho (k :: k' :: k'' :: ks) m 2 = k'' := rfl

/-! Rows of plain values -/
/-- A row told by a list: f tells an element's tree. -/
structure Flat {α : Type} (f : α → TV) (z : Nat) : Prop where
  len : ∀ x, (cellsT (f x)).length = z
  frz : ∀ h n x, frzT h n (f x) = f x
  ren : ∀ ρ x, renT ρ (f x) = f x
section
variable {α : Type} {f : α → TV} {z : Nat}
theorem rows_sized (hf : Flat f z) (l : List α) : sizedT z (l.map f) = true := by simp [sizedT]; intro x _; exact hf.len x
theorem rows_frz (hf : Flat f z) (h : THeap) (n : Nat) (l : List α) : (l.map f).map (frzT h n) = l.map f := by
  rw [List.map_map]; congr 1; funext x; exact hf.frz h n x
theorem rows_ren (hf : Flat f z) (ρ : Nat → Nat) (l : List α) : renTs ρ (l.map f) = l.map f := by
  rw [renTs_map, List.map_map]; congr 1; funext x; exact hf.ren ρ x
theorem rows_own (ho : ∀ x, ownT (f x) = true) : ∀ l : List α, ownTs (l.map f) = true
  | [] => rfl
  | a :: l => by simp [ownTs, ho a, rows_own ho l]
theorem rows_inj (hi : ∀ x y, f x = f y → x = y) : ∀ (l l' : List α), l.map f = l'.map f → l = l'
  | [], [], _ => rfl
  | [], _ :: _, h => by simp at h
  | _ :: _, [], h => by simp at h
  | a :: l, b :: l', h => by simp at h; rw [hi _ _ h.1, rows_inj hi l l' h.2]
end
def bT (n : Int) : TV := .p (.int .u8 n)
def iT (n : Int) : TV := .p (.int .i64 n)
def bsT (l : List Int) : List TV := l.map bT
def isT (l : List Int) : List TV := l.map iT
theorem bT_flat : Flat bT 1 := ⟨fun _ => rfl, fun h n _ => frz_p h n _, fun _ _ => rfl⟩
theorem iT_flat : Flat iT 1 := ⟨fun _ => rfl, fun h n _ => frz_p h n _, fun _ _ => rfl⟩
theorem bs_sized (l : List Int) : sizedT 1 (bsT l) = true := rows_sized bT_flat l
theorem is_sized (l : List Int) : sizedT 1 (isT l) = true := rows_sized iT_flat l
theorem bs_frz (h : THeap) (n : Nat) (l : List Int) : (bsT l).map (frzT h n) = bsT l := rows_frz bT_flat h n l
theorem is_frz (h : THeap) (n : Nat) (l : List Int) : (isT l).map (frzT h n) = isT l := rows_frz iT_flat h n l
theorem bs_ren (ρ : Nat → Nat) (l : List Int) : renTs ρ (bsT l) = bsT l := rows_ren bT_flat ρ l
theorem is_ren (ρ : Nat → Nat) (l : List Int) : renTs ρ (isT l) = isT l := rows_ren iT_flat ρ l
theorem bs_own (l : List Int) : ownTs (bsT l) = true := rows_own (fun _ => rfl) l
theorem is_own (l : List Int) : ownTs (isT l) = true := rows_own (fun _ => rfl) l
theorem iT_inj (x y : Int) (h : iT x = iT y) : x = y := by simpa [iT] using h
theorem is_inj {l l' : List Int} (h : isT l = isT l') : l = l' := rows_inj iT_inj l l' h
theorem bs_len (l : List Int) : (bsT l).length = l.length := by simp [bsT]
theorem is_len (l : List Int) : (isT l).length = l.length := by simp [isT]
theorem is_get {l : List Int} {i : Nat} (h : i < l.length) : (isT l)[i]? = some (.p (.int .i64 (l.getD i 0))) := by simp [isT, iT, h]
theorem bs_take (l : List Int) (n : Nat) : (bsT l).take n = bsT (l.take n) := by simp [bsT]
theorem bs_drop (l : List Int) (n : Nat) : (bsT l).drop n = bsT (l.drop n) := by simp [bsT]
theorem is_take (l : List Int) (n : Nat) : (isT l).take n = isT (l.take n) := by simp [isT]
theorem is_drop (l : List Int) (n : Nat) : (isT l).drop n = isT (l.drop n) := by simp [isT]
theorem bs_append (l l' : List Int) : bsT l ++ bsT l' = bsT (l ++ l') := by simp [bsT]
theorem is_append (l l' : List Int) : isT l ++ isT l' = isT (l ++ l') := by simp [isT]
theorem bs_snoc (l : List Int) (x : Int) : bsT l ++ [.p (.int .u8 x)] = bsT (l ++ [x]) := by simp [bsT, bT]
theorem is_snoc (l : List Int) (x : Int) : isT l ++ [.p (.int .i64 x)] = isT (l ++ [x]) := by simp [isT, iT]
theorem bs_set (l : List Int) (i : Nat) (x : Int) : (bsT l).set i (.p (.int .u8 x)) = bsT (l.set i x) := by simp [bsT, bT, List.map_set]
theorem is_set (l : List Int) (i : Nat) (x : Int) : (isT l).set i (.p (.int .i64 x)) = isT (l.set i x) := by simp [isT, iT, List.map_set]
theorem endT_p {res : List AR} {v w : Value} {e : Exit} {s : TSt} (he : e = .normal ∨ e = .ret) (hr : rresT s res = some (.p v)) (hv : v = w) : EndT res (.p w) [] e s := by
  subst hv; exact endT_v he hr (fun _ => rfl)
theorem tone_int (k : IntKind) (n : Int) : one (.int k n) = true := rfl
theorem tone_bool (b : Bool) : one (.bool b) = true := rfl
theorem tone_str (b : ByteArray) : one (.string b) = true := rfl
theorem tone_sl (a : Option Addr) (n c : Nat) : one (.slice a n c) = true := rfl
theorem tone_ptr (a : Option Addr) : one (.pointer a) = true := rfl
theorem tone_nili : one .nilIface = true := rfl
theorem vb_true {c : Prop} [Decidable c] (h : c) : Value.bool true = Value.bool (decide c) := by simp [h]
theorem vb_false {c : Prop} [Decidable c] (h : ¬ c) : Value.bool false = Value.bool (decide c) := by simp [h]
theorem vb_dec {c d : Prop} [Decidable c] [Decidable d] (h : c ↔ d) : Value.bool (decide c) = Value.bool (decide d) := by simp [h]
theorem vi_eq {k : IntKind} {a b : Int} (h : a = b) : Value.int k a = Value.int k b := by rw [h]
end Go.AH
namespace Go.AH
/-! Rows told by a list -/
def rowsT {α : Type} (f : α → TV) (l : List α) : List TV := l.map f
section
variable {α : Type} {f : α → TV} {z : Nat}
theorem rowsT_len (l : List α) : (rowsT f l).length = l.length := by simp [rowsT]
theorem rowsT_get {l : List α} {i : Nat} {x : α} (h : l[i]? = some x) : (rowsT f l)[i]? = some (f x) := by simp [rowsT, h]
theorem rowsT_take (l : List α) (n : Nat) : (rowsT f l).take n = rowsT f (l.take n) := by simp [rowsT]
theorem rowsT_drop (l : List α) (n : Nat) : (rowsT f l).drop n = rowsT f (l.drop n) := by simp [rowsT]
theorem rowsT_append (l l' : List α) : rowsT f l ++ rowsT f l' = rowsT f (l ++ l') := by simp [rowsT]
theorem rowsT_snoc (l : List α) (x : α) : rowsT f l ++ [f x] = rowsT f (l ++ [x]) := by simp [rowsT]
theorem rowsT_nil : rowsT f [] = [] := rfl
theorem rowsT_sized (hf : Flat f z) (l : List α) : sizedT z (rowsT f l) = true := rows_sized hf l
theorem rowsT_frz (hf : Flat f z) (h : THeap) (n : Nat) (l : List α) : (rowsT f l).map (frzT h n) = rowsT f l := rows_frz hf h n l
theorem rowsT_ren (hf : Flat f z) (ρ : Nat → Nat) (l : List α) : renTs ρ (rowsT f l) = rowsT f l := rows_ren hf ρ l
theorem rowsT_own (ho : ∀ x, ownT (f x) = true) (l : List α) : ownTs (rowsT f l) = true := rows_own ho l
theorem rowsT_inj (hi : ∀ x y, f x = f y → x = y) {l l' : List α} (h : rowsT f l = rowsT f l') : l = l' := rows_inj hi l l' h
end
theorem slots_at (d : Nat) (v : TV) (l : List (Nat × TV)) (i : Nat) : slots ((d, v) :: l) i = if i = d then v else slots l i := rfl
theorem slots_nil (i : Nat) : slots [] i = .any := rfl
theorem natAT (m n : Nat) : ((m + n : Nat) : Int) = (m : Int) + (n : Int) := by simp
theorem nat1T : ((1 : Nat) : Int) = 1 := rfl
theorem nat2T : ((2 : Nat) : Int) = 2 := rfl
theorem nat4T : ((4 : Nat) : Int) = 4 := rfl
theorem get_ex {α : Type} {l : List α} {i : Nat} (h : i < l.length) : ∃ x, l[i]? = some x := ⟨l[i], List.getElem?_eq_getElem h⟩
attribute [go_sem ↓] awpT_skip awpT_ret awpT_exit awpT_seq awpT_reg awpT_drw awpT_cond awpT_block seqKT_join seqKT_reg seqKT_drw seqKT_seq seqKT_cond seqKT_skip seqKT_b1 seqKT_b2 seqKT_b3 seqKT_b4 seqKT_b5 seqKT_b6 seqKT_ret seqKT_exit blkKT_normal blkKT_ret blkKT_exit loopKT_ret loopKT_exit ropsT_nil qopsT_nil ropsT_mv qopsT_mv ropsT_op ropsT_op0 ropsT_opg ropsT_opg0 qopsT_op qopsT_op0 qopsT_opg gdKT_tt gdKT_ff gdKT_tf gdKT_ft gdKT_un kont_some kontR_some condKT_true condKT_false condKT_ub
attribute [go_sem] tag_eq putT_at argσT_nil argσT_cons evT_t evT_int evT_bool evT_str evT_nil evT_undef evT_nilp evT_fn evT_agg ofV1_int ofV1_bool ofV1_str ofV1_nil ofV1_nilp ofV1_nili plainV_int plainV_bool plainV_str plainV_nil plainV_nilp plainV_nili oneT_p oneT_nl oneT_s oneT_fe oneT_os oneT_op oneT_fn cells_agg cells_p cells_nl cells_s cells_fe cells_os cells_op cells_fn aggE_agg el_one el_two getIT_int getBT_bool pB_p pU_p tctx_get
attribute [go_sem] tone_int tone_bool tone_str tone_sl tone_ptr tone_nili int_beq int_bne not_dec dec_and dec_or nat0T map_someT mkEls_one mkEls_zero mkEls_two mkEls_1b mkEls_1n frz_p frz_nl frz_s frz_fe frz_any frz_ub frz_agg frz_tup frz_fn frz_os frz_op ren_p ren_nl ren_s ren_fe ren_any ren_os ren_op ren_agg ren_tup ren_fn rens_nil rens_cons renB_cells rho_zero rho_one rho_two bs_sized is_sized bs_frz is_frz bs_ren is_ren bs_own is_own bs_len is_len bs_take bs_drop is_take is_drop bs_append is_append bs_snoc is_snoc bs_set is_set
attribute [go_sem] top pureSp shareSp elT elAt rdT setE setG zAt fillT chunksT optIT eqTs eqC mmT abin aun intB pI noOwns noOwn ownT ownTs ownB rresT rresLT rres1T slotsOk blksOk
theorem t_anyB (b : Nat) : anyB b = true := rfl
attribute [go_sem] t_anyB reduceIte Bool.false_eq_true Bool.true_eq_false Nat.reduceEqDiff Nat.reduceSub ne_eq not_false_eq_true Option.map_some Option.bind_some Option.bind_none List.map_cons List.map_nil List.append_assoc List.cons_append List.nil_append List.append_nil List.length_append List.length_cons List.length_nil Nat.zero_add Nat.add_zero Nat.reduceAdd List.set_cons_zero List.set_cons_succ List.getElem?_cons_zero List.getElem?_cons_succ Nat.reduceLeDiff Nat.reduceLT maxLen Int.reduceSub Int.sub_zero Nat.zero_mul decide_true decide_false decide_eq_true_eq List.all_cons List.all_nil Bool.and_true Bool.true_and Bool.not_true Bool.not_false and_true true_and and_self false_and and_false Nat.le_refl List.take_succ_cons List.take_zero List.drop_succ_cons List.drop_zero Int.toNat_natCast Int.reduceToNat Nat.mul_one List.take_nil List.drop_nil Int.reduceLE Int.reduceAdd Int.reduceLT Int.reduceMul Nat.reduceMul Nat.reduceDiv Nat.zero_le true_or or_true false_or or_false if_true if_false not_true not_false_iff Int.reduceEq Int.reduceNeg Nat.reduceBEq Nat.reduceEqDiff beq_self_eq_true List.replicate_zero Int.ofNat_eq_natCast eq_self reduceCtorEq
attribute [congr] kont_cong kontR_cong condKT_cong gdKT_cong awpT_cong ropsT_cong qopsT_cong joinK_cong loopKT_cong EndT_cong
attribute [go_sem] slots_at slots_nil natAT nat1T nat2T nat4T rowsT_len rowsT_take rowsT_drop rowsT_append rowsT_nil rowsT_get
end Go.AH
namespace Go.AH
open Go.RowKit (Below)
/-! From what a row is handed to trees -/
def conts (h : Heap) : Frz := fun c => match h[c]? with
  | some (.cells _ cs) => some cs
  | _ => none
theorem conts_mono (h L : Heap) (c : Nat) (cs : List Value) (hc : conts h c = some cs) : conts (h ++ L) c = some cs := by
  unfold conts at hc ⊢
  split at hc
  · rename_i e cs' he
    rw [List.getElem?_append_left (List.getElem?_eq_some_iff.1 he).1, he]; exact hc
  · cases hc
def elOf (P : Program) (e : TypeId) (cs : List TV) : TV := if aggT P e = true then .agg cs else el cs
def ShF (f : TypeId → List TV → Prop) : List Field → List TV → Prop
  | [], ts => ts = []
  | x :: r, ts => ∃ a b, ts = a ++ b ∧ f x.type a ∧ ShF f r b
/-- The shape of a value's tree, by its type. -/
def ShT (P : Program) : Nat → TypeId → List TV → Prop
  | 0, _, _ => False
  | d + 1, t, ts => match P.underlying t with
    | some .bool => ∃ b, ts = [.p (.bool b)]
    | some (.int k) => ∃ n, ts = [.p (.int k n)] ∧ (Lit.int k n).wf = true
    | some .string => ∃ s, ts = [.p (.string s)] ∧ s.size ≤ maxLen
    | some (.slice e) => ∃ es, ts = [.s es] ∧ es.length * P.bytesOf e ≤ 140737488351232 ∧ es.length ≤ maxLen ∧ ∀ x ∈ es, ∃ cs, x = elOf P e cs ∧ ShT P d e cs
    | some (.struct fs) => ShF (ShT P d) fs.toList ts
    | _ => False
/-- Types of which trees are made. -/
def okTy (P : Program) : Nat → TypeId → Bool
  | 0, _ => false
  | d + 1, t => match P.underlying t with
    | some .bool | some (.int _) | some .string => P.cellsOf t == 1
    | some (.slice e) => P.cellsOf t == 1 && decide (0 < P.cellsOf e) && okTy P d e
    | some (.struct fs) => offsOk P (P.cellsOf t) 0 fs.toList && fs.toList.all fun f => okTy P d f.type
    | _ => false

section
variable {H : Type} {enc : TypeId × Value → H} {P : Program} {W : World} {B : Nat}
theorem VFs.append {Φ : Frz} {a b : List TV} {a' b' : List Value} (h : VFs Φ a a') (k : VFs Φ b b') : VFs Φ (a ++ b) (a' ++ b') := by
  induction a generalizing a' with
  | nil => cases h; exact k
  | cons x a ih => cases h with | cons p q => exact .cons p (ih q)
theorem VFs.length {Φ : Frz} {a : List TV} {a' : List Value} (h : VFs Φ a a') : a.length = a'.length := (VTs.fz (φ := fun _ => none) h).length
theorem VFs.take {Φ : Frz} {a : List TV} {a' : List Value} (h : VFs Φ a a') (n : Nat) : VFs Φ (a.take n) (a'.take n) := by
  induction n generalizing a a' with
  | zero => simpa using VFs.nil
  | succ n ih => cases h with | nil => simpa using VFs.nil | cons p q => simpa using VFs.cons p (ih q)

theorem push_row {ι : Inj} {h : Heap} (hr : HR P ι h h.length B W) {e : TypeId} {blk off n : Nat} {as cs : List Value} (hb : blk < W.heap.size) (ho : as.all one = true) (hv : VRs ι as cs)
    (hc : ∀ (i : Nat) (v : Value), cs[i]? = some v → W.cell? ⟨blk, off + i, none⟩ = some v) :
    ∃ ι', Ext ι ι' ∧ ι' h.length = some ⟨blk, off, n, P.cellsOf e, false⟩ ∧ HR P ι' (h ++ [Blk.cells e as]) (h ++ [Blk.cells e as]).length B W := by
  have hd : ∀ b g, ι b = some g → b < h.length := fun b g hb => (hr.dom b g hb).1
  have hext := ext_new ι h.length ⟨blk, off, n, P.cellsOf e, false⟩ hd
  have hvac : ∀ (x : Blk) (b : Nat) (y : Blk), (h ++ [x]).length ≤ b → (h ++ [x])[b]? = some y → False := by
    intro x b y h1 h2
    have := (List.getElem?_eq_some_iff.1 h2).1
    omega
  refine ⟨fun b => if b = h.length then some ⟨blk, off, n, P.cellsOf e, false⟩ else ι b, hext, by simp, ⟨?_, ?_, ?_, ?_, ?_⟩⟩
  · intro b g hbb
    split at hbb
    · rename_i hbe; cases hbb; subst hbe; exact ⟨by simp, hb⟩
    · have := hr.dom b g hbb; exact ⟨by simp; omega, this.2⟩
  · intro b e' cs' g hbb hg
    split at hg
    · rename_i hbe; cases hg; subst hbe
      simp at hbb
      obtain ⟨rfl, rfl⟩ := hbb
      refine ⟨fun _ => rfl, fun i v hi => ?_⟩
      obtain ⟨v', h1, h2⟩ := hv.get i v hi
      exact ⟨by rw [List.all_eq_true] at ho; exact ho v (List.mem_of_getElem? hi), v', hc i v' h1, h2.mono hext⟩
    · have h1 := hd b g hg
      rw [List.getElem?_append_left h1] at hbb
      obtain ⟨k1, k2⟩ := hr.cell b e' cs' g hbb hg
      refine ⟨k1, fun i v hi => ?_⟩
      obtain ⟨k3, v', k4, k5⟩ := k2 i v hi
      exact ⟨k3, v', k4, k5.mono hext⟩
  · intro b e' cs g h1 hb; exact (hvac _ _ _ h1 hb).elim
  · intro b b' e' cs e2 cs' g g' _ h1 hb; exact (hvac _ _ _ h1 hb).elim
  · intro b e' cs g hb hg hm
    split at hg
    · cases hg; cases hm
    · rw [List.getElem?_append_left (hd b g hg)] at hb
      exact hr.sets b e' cs g hb hg hm

/-- What the making of a tree for the cells of a value gives. -/
def Made (P : Program) (W : World) (B : Nat) (ι : Inj) (h : Heap) (cs : List Value) (Sh : List TV → Prop) : Prop :=
  ∃ (L : Heap) (ι' : Inj) (as : List Value) (ts : List TV), Ext ι ι' ∧ HR P ι' (h ++ L) (h ++ L).length B W ∧ VRs ι' as cs ∧ as.all one = true ∧ VFs (conts (h ++ L)) ts as ∧ Sh ts

theorem made_plain {ι : Inj} {h : Heap} (hr : HR P ι h h.length B W) {v : Value} {Sh : List TV → Prop} (hp : plainV v = true) (hs : Sh [.p v]) : Made P W B ι h [v] Sh :=
  ⟨[], ι, [v], [.p v], Ext.refl _, by simpa using hr, .cons (VR.plain hp) .nil, by simp [(plain_cells hp).2], .cons (.p hp) .nil, hs⟩

theorem weights_mem {e : TypeId} : ∀ {ds : List (DataW H)}, (DataW.weightsAll P e ds).all (· ≤ reachBytes) = true → ∀ d ∈ ds, (d.weights P e).all (· ≤ reachBytes) = true
  | [], _, d, hd => by cases hd
  | x :: r, h, d, hd => by
    simp only [DataW.weightsAll, List.all_append, Bool.and_eq_true] at h
    rcases List.mem_cons.1 hd with rfl | hd
    · exact h.1
    · exact weights_mem h.2 d hd

/-- One after the other. -/
theorem made_rows (e : TypeId) (d : Nat) (z : Nat) (ih : ∀ (fuel : Nat) (cs : List Value) (x : DataW H × List MemPlace) (ι : Inj) (h : Heap), DataW.trod enc P W 0 (fun _ => true) true fuel e cs = some x → (x.1.weights P e).all (· ≤ reachBytes) = true → HR P ι h h.length B W →
      Made P W B ι h cs (fun ts => ShT P d e ts ∧ ts.length = z ∧ (aggT P e = false → (ts.all oneT = true)))) :
    ∀ (ys : List (DataW H × List MemPlace)) (css : List (List Value)) (fuel : Nat) (ι : Inj) (h : Heap), css.length = ys.length → (∀ (i : Nat) (c : List Value) (y : DataW H × List MemPlace), css[i]? = some c → ys[i]? = some y → DataW.trod enc P W 0 (fun _ => true) true fuel e c = some y) →
      (∀ y ∈ ys, (y.1.weights P e).all (· ≤ reachBytes) = true) → HR P ι h h.length B W →
      ∃ (L : Heap) (ι' : Inj) (as : List Value) (tss : List (List TV)), Ext ι ι' ∧ HR P ι' (h ++ L) (h ++ L).length B W ∧ VRs ι' as css.flatten ∧ as.all one = true ∧ VFs (conts (h ++ L)) tss.flatten as ∧ tss.length = ys.length ∧ ∀ ts ∈ tss, ShT P d e ts ∧ ts.length = z ∧ (aggT P e = false → ts.all oneT = true)
  | [], css, fuel, ι, h, hl, _, _, hr => by
    have : css = [] := List.eq_nil_of_length_eq_zero hl
    subst this
    exact ⟨[], ι, [], [], Ext.refl _, by simpa using hr, .nil, rfl, .nil, rfl, by simp⟩
  | y :: ys, css, fuel, ι, h, hl, ht, hw, hr => by
    cases css with
    | nil => simp at hl
    | cons c css =>
      obtain ⟨L1, ι1, as1, ts1, e1, r1, v1, o1, f1, s1⟩ := ih fuel c y ι h (ht 0 c y rfl rfl) (hw y (by simp)) hr
      obtain ⟨L2, ι2, as2, tss2, e2, r2, v2, o2, f2, l2, s2⟩ := made_rows e d z ih ys css fuel ι1 (h ++ L1) (by simpa using hl) (fun i c' y' h1 h2 => ht (i + 1) c' y' (by simpa using h1) (by simpa using h2)) (fun y' hy => hw y' (by simp [hy])) r1
      refine ⟨L1 ++ L2, ι2, as1 ++ as2, ts1 :: tss2, e1.trans e2, by rw [← List.append_assoc]; exact r2, ?_, by simp [o1, o2], ?_, by simp [l2], ?_⟩
      · rw [List.flatten_cons]; exact (v1.mono e2).append v2
      · rw [List.flatten_cons, ← List.append_assoc]
        exact VFs.append (f1.mono (fun c' cs' hh => conts_mono _ _ _ _ hh)) f2
      · intro ts hts
        rcases List.mem_cons.1 hts with rfl | hts
        · exact s1
        · exact s2 ts hts

theorem flat_els {e : TypeId} {z : Nat} : ∀ {tss : List (List TV)}, (∀ ts ∈ tss, ts.length = z ∧ (aggT P e = false → ts.all oneT = true)) → flatT (tss.map (elOf P e)) = tss.flatten ∧ sizedT z (tss.map (elOf P e)) = true
  | [], _ => ⟨rfl, rfl⟩
  | ts :: tss, h => by
    obtain ⟨h1, h2⟩ := flat_els (fun x hx => h x (by simp [hx]) : ∀ ts ∈ tss, ts.length = z ∧ (aggT P e = false → ts.all oneT = true))
    have hc : cellsT (elOf P e ts) = ts := by
      unfold elOf
      split
      · rfl
      · rename_i ha; exact el_cells ((h ts (by simp)).2 (by simpa using ha))
    refine ⟨by rw [List.map_cons, flat_cons, hc, h1, List.flatten_cons], ?_⟩
    simp only [sizedT, List.map_cons, List.all_cons, hc, (h ts (by simp)).1, beq_self_eq_true, Bool.true_and] at h2 ⊢
    exact h2

theorem made_of : ∀ (d : Nat) (t : TypeId) (fuel : Nat) (cs : List Value) (x : DataW H × List MemPlace) (ι : Inj) (h : Heap), okTy P d t = true → DataW.trod enc P W 0 (fun _ => true) true fuel t cs = some x →
    (x.1.weights P t).all (· ≤ reachBytes) = true → HR P ι h h.length B W → Made P W B ι h cs (fun ts => ShT P d t ts ∧ ts.length = P.cellsOf t ∧ (aggT P t = false → ts.all oneT = true))
  | 0, _, _, _, _, _, _, hk, _, _, _ => by cases hk
  | d + 1, t, fuel, cs, x, ι, h, hk, ht, hw, hr => by
    simp only [okTy] at hk
    split at hk
    · rename_i hu
      obtain ⟨b, rfl, rfl⟩ := DataW.trod_bool hu ht
      simp only [beq_iff_eq] at hk
      exact made_plain hr rfl ⟨by simp only [ShT, hu]; exact ⟨b, rfl⟩, by simp [hk], fun _ => rfl⟩
    · rename_i k hu
      obtain ⟨n, rfl, rfl, hwf⟩ := DataW.trod_int hu ht
      simp only [beq_iff_eq] at hk
      exact made_plain hr rfl ⟨by simp only [ShT, hu]; exact ⟨n, rfl, hwf⟩, by simp [hk], fun _ => rfl⟩
    · rename_i hu
      obtain ⟨s, rfl, rfl, hs⟩ := DataW.trod_string hu ht
      simp only [beq_iff_eq] at hk
      exact made_plain hr rfl ⟨by simp only [ShT, hu]; exact ⟨s, rfl, hs⟩, by simp [hk], fun _ => rfl⟩
    · rename_i e hu
      simp only [Bool.and_eq_true, beq_iff_eq, decide_eq_true_eq] at hk
      obtain ⟨⟨hc1, hpos⟩, hke⟩ := hk
      rcases DataW.trod_slice hu ht with ⟨rfl, rfl⟩ | ⟨a, len, cap, elems, rest, n, _, rfl, rfl, hb, hl, hm, hlen, hel, hsp, _⟩
      · exact ⟨[], ι, [.slice none 0 0], [.s []], Ext.refl _, by simpa using hr, .cons .nils .nil, rfl, .cons .s0 .nil,
          by simp only [ShT, hu]; exact ⟨[], rfl, by simp, by simp, by simp⟩, by simp [hc1], fun _ => rfl⟩
      · obtain ⟨hrl, hrest⟩ := hsp rfl
        simp only [DataW.weights, hu, List.all_cons, Bool.and_eq_true, List.all_append, decide_eq_true_eq, List.length_map] at hw
        obtain ⟨hw1, hw2, hw3⟩ := hw
        have hbytes : len * P.bytesOf e ≤ 140737488351232 := by
          have : len * P.bytesOf e ≤ (elems.length + rest.length) * P.bytesOf e := Nat.mul_le_mul_right _ (by omega)
          have h2 : reachBytes = 140737488351232 := rfl
          omega
        by_cases hcap : cap = 0
        · obtain rfl : len = 0 := by omega
          subst hcap
          exact ⟨[], ι, [emptyV], [.s []], Ext.refl _, by simpa using hr, .cons (.emp a) .nil, rfl, .cons (.s1 _ _ _ _) .nil,
            by simp only [ShT, hu]; exact ⟨[], rfl, by simp, by simp, by simp⟩, by simp [hc1], fun _ => rfl⟩
        · -- all elements, the spare ones too
          let ys := elems ++ rest
          have hyl : ys.length = cap := by simp [ys]; omega
          have hat : ∀ i, i < cap → (W.cells? 0 (a.add (i * P.cellsOf e)) (P.cellsOf e)).bind (DataW.trod enc P W 0 (fun _ => true) true n e) = ys[i]? := by
            intro i hi
            by_cases hlt : i < len
            · rw [hel i hlt, List.getElem?_append_left (by omega)]
            · have := hrest (i - len) (by omega)
              rw [show len + (i - len) = i by omega] at this
              rw [this, List.getElem?_append_right (by omega), hlen]
          have hex : ∀ i, i < cap → ∃ c, W.cells? 0 (a.add (i * P.cellsOf e)) (P.cellsOf e) = some c ∧ ∃ y, ys[i]? = some y ∧ DataW.trod enc P W 0 (fun _ => true) true n e c = some y := by
            intro i hi
            have h1 := hat i hi
            have h2 : ys[i]? = some ys[i] := by simp [hyl, hi]
            rw [h2] at h1
            obtain ⟨c, hc, hy⟩ := Option.bind_eq_some_iff.1 h1
            exact ⟨c, hc, _, h2, hy⟩
          let cf : Nat → List Value := fun i => if hi : i < cap then (hex i hi).choose else []
          have hcf : ∀ i (hi : i < cap), W.cells? 0 (a.add (i * P.cellsOf e)) (P.cellsOf e) = some (cf i) ∧ ∃ y, ys[i]? = some y ∧ DataW.trod enc P W 0 (fun _ => true) true n e (cf i) = some y := by
            intro i hi
            simp only [cf, hi, dite_true]; exact (hex i hi).choose_spec
          let css := (List.range cap).map cf
          have hcss : ∀ i c, css[i]? = some c → i < cap ∧ c = cf i := by
            intro i c hc
            have hi : i < cap := by have := (List.getElem?_eq_some_iff.1 hc).1; simpa [css] using this
            simp only [css, List.getElem?_map, List.getElem?_range hi, Option.map_some, Option.some.injEq] at hc
            exact ⟨hi, hc.symm⟩
          have hwy : ∀ y ∈ ys, (y.1.weights P e).all (· ≤ reachBytes) = true := by
            intro y hy
            rcases List.mem_append.1 hy with hy | hy
            · exact weights_mem hw2 y.1 (List.mem_map_of_mem hy)
            · exact weights_mem hw3 y.1 (List.mem_map_of_mem hy)
          obtain ⟨L, ι', as, tss, e1, r1, v1, o1, f1, l1, s1⟩ := made_rows (enc := enc) e d (P.cellsOf e) (fun fuel cs x ι h a b c => made_of d e fuel cs x ι h hke a b c) ys css n ι h (by simp [css, hyl])
            (fun i c y hc hy => by
              obtain ⟨hi, rfl⟩ := hcss i c hc
              obtain ⟨_, y', hy', ht'⟩ := hcf i hi
              rw [hy] at hy'; cases hy'; exact ht') hwy hr
          -- where they lie
          have hclen : ∀ i, i < cap → (cf i).length = P.cellsOf e := fun i hi => (World.cells?_some (hcf i hi).1).2.1
          have hspot : a.spot = none := by
            have h0 := (World.cells?_some (hcf 0 (by omega)).1).2.2 0 hpos
            have h1 : (cf 0)[0]? = some ((cf 0)[0]'(by rw [hclen 0 (by omega)]; exact hpos)) := by simp
            rw [h1] at h0
            obtain ⟨ab, ao, asp⟩ := a
            cases asp with
            | none => rfl
            | some s => simp [World.cell?, Addr.add] at h0; split at h0 <;> simp at h0
          obtain ⟨ab, ao, asp⟩ := a
          simp only at hspot; subst hspot
          have hcell : ∀ (i : Nat) (v : Value), css.flatten[i]? = some v → W.cell? ⟨ab, ao + i, none⟩ = some v := by
            have key : ∀ (m : Nat), m ≤ cap → ∀ (i : Nat) (v : Value), (((List.range m).map cf).flatten)[i]? = some v → W.cell? ⟨ab, ao + i, none⟩ = some v := by
              intro m
              induction m with
              | zero => intro _ i v hv; simp at hv
              | succ m ih =>
                intro hm' i v hv
                have hfl : (((List.range m).map cf).flatten).length = m * P.cellsOf e := by
                  rw [List.length_flatten, List.map_map]
                  have : ∀ (l : List Nat), (∀ x ∈ l, x < cap) → (l.map (List.length ∘ cf)).sum = l.length * P.cellsOf e := by
                    intro l
                    induction l with
                    | nil => intro _; simp
                    | cons x l ihl => intro hx; simp only [List.map_cons, List.sum_cons, Function.comp, List.length_cons, Nat.add_mul]; rw [hclen x (hx x (by simp)), ← ihl (fun y hy => hx y (by simp [hy]))]; first | omega | (simp only [Function.comp_def]; omega)
                  rw [this _ (fun x hx => by have := List.mem_range.1 hx; omega)]; simp
                rw [List.range_succ, List.map_append, List.flatten_append] at hv
                by_cases hi : i < m * P.cellsOf e
                · rw [List.getElem?_append_left (by omega)] at hv; exact ih (by omega) i v hv
                · rw [List.getElem?_append_right (by omega), hfl] at hv
                  simp only [List.map_cons, List.map_nil, List.flatten_cons, List.flatten_nil, List.append_nil] at hv
                  have hj : i - m * P.cellsOf e < P.cellsOf e := by have := (List.getElem?_eq_some_iff.1 hv).1; rw [hclen m (by omega)] at this; exact this
                  have := (World.cells?_some (hcf m (by omega)).1).2.2 (i - m * P.cellsOf e) hj
                  rw [hv] at this
                  rw [← this]
                  simp only [Addr.add_lit]
                  congr 2; omega
            exact key cap (Nat.le_refl _)
          have hfull : css.flatten.length = cap * P.cellsOf e := by
            have h1 := f1.length
            have h2 := v1.length
            have h3 : tss.flatten.length = cap * P.cellsOf e := by
              have : ∀ (l : List (List TV)), (∀ ts ∈ l, ts.length = P.cellsOf e) → l.flatten.length = l.length * P.cellsOf e := by
                intro l
                induction l with
                | nil => intro _; simp
                | cons x l ihl => intro hx; rw [List.flatten_cons, List.length_append, hx x (by simp), ihl (fun y hy => hx y (by simp [hy])), List.length_cons, Nat.add_mul]; omega
              rw [this tss (fun ts hts => (s1 ts hts).2.1), l1, hyl]
            omega
          have hblk : ab < W.heap.size := by
            have hp : 0 < css.flatten.length := by rw [hfull]; exact Nat.mul_pos (by omega) hpos
            have := hcell 0 css.flatten[0] (by simp)
            exact World.block_lt_of_cell? W _ this
          obtain ⟨ι2, e2, k2, r2⟩ := push_row (n := cap * P.cellsOf e) r1 (e := e) hblk o1 v1 hcell
          obtain ⟨g1, g2⟩ := flat_els (P := P) (e := e) (z := P.cellsOf e) (fun ts hts => (s1 ts hts).2)
          have hcont : conts (h ++ (L ++ [Blk.cells e as])) (h ++ L).length = some as := by
            unfold conts; rw [← List.append_assoc, List.getElem?_append_right (Nat.le_refl _)]; simp
          refine ⟨L ++ [.cells e as], ι2, [.slice (some ⟨(h ++ L).length, 0, none⟩) len cap], [.s ((tss.map (elOf P e)).take len)], e1.trans e2, by rw [← List.append_assoc]; exact r2, ?_, rfl, ?_, ?_, by simp [hc1], fun _ => rfl⟩
          · refine .cons ?_ .nil
            have := VR.sl (ι := ι2) (off := 0) (len := len) (cap := cap) (cap' := cap) k2 hl hm (fun _ => rfl)
            simpa using this
          · refine .cons ?_ .nil
            have htl : ((tss.map (elOf P e)).take len).length = len := by simp; omega
            have hasl : as.length = cap * P.cellsOf e := by rw [v1.length]; exact hfull
            have hle : len * P.cellsOf e ≤ cap * P.cellsOf e := Nat.mul_le_mul_right _ hl
            have f2 := f1.mono (Φ' := conts (h ++ (L ++ [Blk.cells e as]))) (fun c' cs' hh => by rw [← List.append_assoc]; exact conts_mono _ _ _ _ hh)
            have := VF.s (Φ := conts (h ++ (L ++ [Blk.cells e as]))) (es := (tss.map (elOf P e)).take len) (off := 0) (cap := cap) (z := P.cellsOf e) hcont (by rw [htl]; omega) (sized_take g2 _)
              (by rw [htl, flat_take g2, g1, List.drop_zero]; exact f2.take _)
            rw [htl] at this; exact this
          · simp only [ShT, hu]
            refine ⟨_, rfl, by simp; rw [Nat.min_eq_left (by omega)]; exact hbytes, by simp; omega, fun x hx => ?_⟩
            obtain ⟨ts, hts, rfl⟩ := List.mem_map.1 (List.mem_of_mem_take hx)
            exact ⟨ts, rfl, (s1 ts hts).1⟩
    · rename_i fs hu
      simp only [Bool.and_eq_true] at hk
      obtain ⟨hoff, hks⟩ := hk
      obtain ⟨xs, n, _, rfl, hl, hlen, hf⟩ := DataW.trod_struct hu ht
      simp only [DataW.weights, hu] at hw
      have hagg : aggT P t = true := by simp [aggT, hu]
      -- field by field
      have key : ∀ (l : List Field) (xs : List (DataW H × List MemPlace)) (o : Nat) (ι : Inj) (h : Heap), offsOk P (P.cellsOf t) o l = true → l.all (fun f => okTy P d f.type) = true → xs.length = l.length →
          (∀ (i : Nat) (f : Field), l[i]? = some f → DataW.trod enc P W 0 (fun _ => true) true n f.type ((cs.drop f.offset).take (P.cellsOf f.type)) = xs[i]?) →
          (DataW.weightsEach P (l.map (·.type)) (xs.map (·.1))).all (· ≤ reachBytes) = true → HR P ι h h.length B W → o ≤ cs.length → Made P W B ι h (cs.drop o) (fun ts => ShF (ShT P d) l ts ∧ o + ts.length = P.cellsOf t) := by
        intro l
        induction l with
        | nil =>
          intro xs o ι h h0 _ hx _ _ hr ho
          simp only [offsOk, beq_iff_eq] at h0
          have : cs.drop o = [] := List.drop_eq_nil_of_le (by omega)
          rw [this]
          exact ⟨[], ι, [], [], Ext.refl _, by simpa using hr, .nil, rfl, .nil, rfl, by simp [h0]⟩
        | cons f l ihl =>
          intro xs o ι h h0 hks hx hf hw hr ho
          simp only [offsOk, Bool.and_eq_true, beq_iff_eq] at h0
          simp only [List.all_cons, Bool.and_eq_true] at hks
          cases xs with
          | nil => simp at hx
          | cons x xs =>
            obtain ⟨hfo, h0⟩ := h0
            have hx0 := hf 0 f rfl
            simp only [List.getElem?_cons_zero, hfo] at hx0
            simp only [List.map_cons, DataW.weightsEach, List.all_append, Bool.and_eq_true] at hw
            obtain ⟨L1, ι1, as1, ts1, e1, r1, v1, o1, f1, s1, s2, s3⟩ := made_of d f.type n _ x ι h hks.1 hx0 hw.1 hr
            have hcl : ((cs.drop o).take (P.cellsOf f.type)).length = P.cellsOf f.type := by rw [← v1.length, ← f1.length, s2]
            have hle : o + P.cellsOf f.type ≤ cs.length := by simp only [List.length_take, List.length_drop] at hcl; omega
            obtain ⟨L2, ι2, as2, ts2, e2, r2, v2, o2, f2, s4, s5⟩ := ihl xs (o + P.cellsOf f.type) ι1 (h ++ L1) h0 hks.2 (by simpa using hx) (fun i g hg => by have := hf (i + 1) g (by simpa using hg); simpa using this) hw.2 r1 hle
            refine ⟨L1 ++ L2, ι2, as1 ++ as2, ts1 ++ ts2, e1.trans e2, by rw [← List.append_assoc]; exact r2, ?_, by simp [o1, o2], ?_, ⟨ts1, ts2, rfl, s1, s4⟩, by rw [List.length_append]; omega⟩
            · have : cs.drop o = (cs.drop o).take (P.cellsOf f.type) ++ cs.drop (o + P.cellsOf f.type) := by
                rw [← List.drop_drop, List.take_append_drop]
              rw [this]; exact (v1.mono e2).append v2
            · rw [← List.append_assoc]
              exact VFs.append (f1.mono (fun c' cs' hh => conts_mono _ _ _ _ hh)) f2
      obtain ⟨L, ι', as, ts, e1, r1, v1, o1, f1, s1, s2⟩ := key fs.toList xs 0 ι h hoff hks (by simpa using hlen) (fun i f hfi => hf i f (by simpa using hfi)) hw hr (Nat.zero_le _)
      exact ⟨L, ι', as, ts, e1, r1, by simpa using v1, o1, f1, by simp only [ShT, hu]; exact s1, by omega, fun ha => by rw [hagg] at ha; cases ha⟩
    · cases hk
end
end Go.AH
namespace Go.AH
open Go.RowKit (Below)
/-- The tree of a value of a type, out of its cells' trees. -/
def valT (P : Program) (t : TypeId) (ts : List TV) : TV := if aggT P t = true then .agg ts else el ts
def ShArgs (P : Program) : List TypeId → List TV → Prop
  | [], tvs => tvs = []
  | t :: ts, tvs => ∃ cs r, tvs = valT P t cs :: r ∧ ShT P 9 t cs ∧ ShArgs P ts r
section
variable {H : Type} {enc : TypeId × Value → H} {P : Program} {W : World} {B : Nat}
theorem okWide_one {t : TypeId} {v : Value} {r : Reach} {base : Nat} (hk : okTy P 9 t = true) (hv : Value.okWide P W r base t v) : (aggT P t = true ∧ ∃ cs, v = .agg ⟨cs⟩) ∨ (aggT P t = false ∧ v.cells.toList = [v]) := by
  simp only [okTy] at hk
  simp only [Value.okWide] at hv
  split at hk
  · rename_i hu
    simp only [hu, Cell.okWide, Cell.ok] at hv
    right
    refine ⟨by simp [aggT, hu], ?_⟩
    cases v <;> first | rfl | exact hv.elim
  · rename_i k hu
    simp only [hu, Cell.okWide, Cell.ok] at hv
    right
    refine ⟨by simp [aggT, hu], ?_⟩
    cases v <;> first | rfl | exact hv.elim
  · rename_i hu
    simp only [hu, Cell.okWide, Cell.ok] at hv
    right
    refine ⟨by simp [aggT, hu], ?_⟩
    cases v <;> first | rfl | exact hv.elim
  · rename_i e hu
    simp only [hu, Cell.okWide, Cell.ok] at hv
    right
    refine ⟨by simp [aggT, hu], ?_⟩
    cases v <;> first | rfl | exact hv.elim
  · rename_i fs hu
    simp only [hu] at hv
    obtain ⟨cs, rfl, _⟩ := hv
    left
    exact ⟨by simp [aggT, hu], cs.toList, rfl⟩
  · cases hk
theorem made_args {r : Reach} {base : Nat} : ∀ (ts : List TypeId) (vs : List Value) (ds : List (DataW H)) (ps : List MemPlace) (ι : Inj) (h : Heap), DataW.TrodAll enc P W 0 (fun _ => true) true ts vs ds ps → (∀ t ∈ ts, okTy P 9 t = true) →
    (DataW.weightsEach P ts ds).all (· ≤ reachBytes) = true → (∀ (j : Nat) t v, ts[j]? = some t → vs[j]? = some v → Value.okWide P W r base t v) → HR P ι h h.length B W →
    ∃ (L : Heap) (ι' : Inj) (avs : List Value) (tvs : List TV), Ext ι ι' ∧ HR P ι' (h ++ L) (h ++ L).length B W ∧ VRs ι' avs vs ∧ VFs (conts (h ++ L)) tvs avs ∧ ShArgs P ts tvs
  | [], vs, ds, ps, ι, h, ht, _, _, _, hr => by
    cases vs with
    | nil => exact ⟨[], ι, [], [], Ext.refl _, by simpa using hr, .nil, .nil, rfl⟩
    | cons v vs => simp [DataW.TrodAll] at ht
  | t :: ts, vs, ds, ps, ι, h, ht, hk, hw, hv, hr => by
    cases vs with
    | nil => simp [DataW.TrodAll] at ht
    | cons v vs =>
      cases ds with
      | nil => simp [DataW.TrodAll] at ht
      | cons d ds =>
        obtain ⟨p, q, ⟨fuel, h1⟩, h2, _⟩ := ht
        simp only [DataW.weightsEach, List.all_append, Bool.and_eq_true] at hw
        have hkt := hk t (by simp)
        obtain ⟨L1, ι1, as1, ts1, e1, r1, v1, o1, f1, s1, s2, s3⟩ := made_of (enc := enc) 9 t fuel _ (d, p) ι h hkt h1 hw.1 hr
        obtain ⟨L2, ι2, avs, tvs, e2, r2, v2, f2, s4⟩ := made_args ts vs ds q ι1 (h ++ L1) h2 (fun t' ht' => hk t' (by simp [ht'])) hw.2 (fun j t' v' a b => hv (j + 1) t' v' (by simpa using a) (by simpa using b)) r1
        have f1' := f1.mono (Φ' := conts (h ++ L1 ++ L2)) (fun c' cs' hh => conts_mono _ _ _ _ hh)
        have hone : ∃ av, VR ι2 av v ∧ VF (conts (h ++ L1 ++ L2)) (valT P t ts1) av := by
          rcases okWide_one hkt (hv 0 t v rfl rfl) with ⟨ha, cs, rfl⟩ | ⟨ha, hc⟩
          · refine ⟨.agg ⟨as1⟩, .agg (v1.mono e2), ?_⟩
            simp only [valT, ha, if_true]; exact .agg f1'
          · rw [hc] at v1
            cases v1 with
            | cons a b =>
              cases b
              cases f1' with
              | cons a' b' =>
                cases b'
                refine ⟨_, a.mono e2, ?_⟩
                simp only [valT, ha, Bool.false_eq_true, if_false, el]; exact a'
        obtain ⟨av, k1, k2⟩ := hone
        exact ⟨L1 ++ L2, ι2, av :: avs, valT P t ts1 :: tvs, e1.trans e2, by rw [← List.append_assoc]; exact r2, .cons k1 v2, by rw [← List.append_assoc]; exact .cons k2 f2, ts1, tvs, rfl, s1, s4⟩
/-- A law over trees, at what a row hands it. -/
theorem law_T {f : Nat} {F : List TV → Option (TV × THeap)} (ok : OkT P f (pureSp F)) {h : Heap} {ι : Inj} {avs cargs : List Value} {tvs : List TV} (hr : HR P ι h h.length W.heap.size W) (hv : VRs ι avs cargs) (hf : VFs (conts h) tvs avs)
    {hL : THeap} (hF : F (tvs.map (frzT [] 9)) = some (.p (.bool true), hL)) : Calls P f ⟨cargs⟩ W (fun e W' => e = .returned (.bool true) ∧ Below W.heap.size W W') := by
  obtain ⟨spA, ok, comp⟩ := ok
  have H0 : HT (fun _ => none) (conts h) [] h := by
    refine ⟨?_, ?_, ?_, ?_, ?_⟩
    · intro b c z h; cases h
    · intro b b' c z z' h; cases h
    · intro b e z es h; cases h
    · intro c cs hc
      unfold conts at hc
      split at hc
      · rename_i e cs' he; cases hc; exact ⟨e, he⟩
      · cases hc
    · intro b c z cs h; cases h
  obtain ⟨v, hA', φ', hs, hvt, _, _⟩ := comp.1 (fun _ => none) (conts h) [] h h.length anyB tvs avs (.p (.bool true)) (hL.map (renB fun b => b + 0)) H0 (by intro b c z _ h; cases h) (Nat.le_refl _) (VTs.fz hf)
    (by simp only [pureSp, hF, Option.map_some, renT]; rfl)
  obtain ⟨rfl, _⟩ := hvt.p_inv
  refine (ok.run h.length W.heap.size avs h (.bool true) hA' ι W cargs hs (Nat.le_refl _) hr (Nat.le_refl _) hv).mono ?_
  intro e w' ⟨r', ι', h1, _, h3, _, h5⟩
  cases h3
  exact ⟨h1, h5⟩
end
end Go.AH
