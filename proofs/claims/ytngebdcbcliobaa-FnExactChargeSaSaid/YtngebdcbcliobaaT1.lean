import Derived.Test.YtngebdcbcliobaaT0
namespace Go.AH

/-! Lists of elements and their cells -/
theorem sized_iff {z : Nat} {es : List TV} : sizedT z es = true ↔ ∀ e ∈ es, (cellsT e).length = z := by simp [sizedT]
theorem flat_nil : flatT [] = [] := rfl
theorem flat_cons (e : TV) (es : List TV) : flatT (e :: es) = cellsT e ++ flatT es := by simp [flatT]
theorem flat_append (a b : List TV) : flatT (a ++ b) = flatT a ++ flatT b := by simp [flatT]
theorem flatT_len {z : Nat} : ∀ {es : List TV}, sizedT z es = true → (flatT es).length = es.length * z
  | [], _ => by simp [flatT]
  | e :: es, h => by
    have h' := sized_iff.1 h
    rw [flat_cons, List.length_append, h' e (by simp), flatT_len (z := z) (es := es) (sized_iff.2 fun x hx => h' x (by simp [hx])), List.length_cons, Nat.add_mul]; omega
theorem sized_sub {z : Nat} {es fs : List TV} (h : sizedT z es = true) (hs : ∀ x ∈ fs, x ∈ es) : sizedT z fs = true := sized_iff.2 fun x hx => sized_iff.1 h x (hs x hx)
theorem sized_drop {z : Nat} {es : List TV} (h : sizedT z es = true) (k : Nat) : sizedT z (es.drop k) = true := sized_sub h fun _ hx => List.mem_of_mem_drop hx
theorem sized_take {z : Nat} {es : List TV} (h : sizedT z es = true) (k : Nat) : sizedT z (es.take k) = true := sized_sub h fun _ hx => List.mem_of_mem_take hx
theorem sized_append {z : Nat} {a b : List TV} (h : sizedT z a = true) (k : sizedT z b = true) : sizedT z (a ++ b) = true := sized_iff.2 fun x hx => by
  rcases List.mem_append.1 hx with hx | hx
  · exact sized_iff.1 h x hx
  · exact sized_iff.1 k x hx
theorem flat_drop {z : Nat} {es : List TV} (h : sizedT z es = true) : ∀ k, flatT (es.drop k) = (flatT es).drop (k * z) := by
  induction es with
  | nil => intro k; simp [flatT]
  | cons e es ih =>
    intro k
    cases k with
    | zero => simp
    | succ k =>
      have h' := sized_iff.1 h
      have he := h' e (by simp)
      rw [List.drop_succ_cons, ih (sized_iff.2 fun x hx => h' x (by simp [hx])) k, flat_cons, List.drop_append, he]
      rw [List.drop_eq_nil_of_le (as := cellsT e) (by rw [he, Nat.add_mul]; omega), List.nil_append]
      congr 1; rw [Nat.add_mul]; omega
theorem flat_take {z : Nat} {es : List TV} (h : sizedT z es = true) : ∀ k, flatT (es.take k) = (flatT es).take (k * z) := by
  induction es with
  | nil => intro k; simp [flatT]
  | cons e es ih =>
    intro k
    cases k with
    | zero => simp [flatT]
    | succ k =>
      have h' := sized_iff.1 h
      have he := h' e (by simp)
      rw [List.take_succ_cons, flat_cons, ih (sized_iff.2 fun x hx => h' x (by simp [hx])) k, flat_cons, List.take_append, he]
      rw [List.take_of_length_le (l := cellsT e) (by rw [he, Nat.add_mul]; omega)]
      congr 2; rw [Nat.add_mul]; omega
theorem flat_cut {z : Nat} {es : List TV} (h : sizedT z es = true) {i : Nat} {e : TV} (he : es[i]? = some e) : ((flatT es).drop (i * z)).take z = cellsT e := by
  have hlt := (List.getElem?_eq_some_iff.1 he).1
  have hee := (List.getElem?_eq_some_iff.1 he).2
  have hl : (cellsT e).length = z := sized_iff.1 h e (List.mem_of_getElem? he)
  rw [← flat_drop h, List.drop_eq_getElem_cons hlt, flat_cons, hee, List.take_append, List.take_of_length_le (by omega), show z - (cellsT e).length = 0 by omega, List.take_zero, List.append_nil]
theorem cell_at {z : Nat} {es : List TV} (h : sizedT z es = true) {i o : Nat} {e t : TV} (he : es[i]? = some e) (ht : (cellsT e)[o]? = some t) : (flatT es)[i * z + o]? = some t := by
  have hl : (cellsT e).length = z := sized_iff.1 h e (List.mem_of_getElem? he)
  have ho := (List.getElem?_eq_some_iff.1 ht).1
  rw [← flat_cut h he] at ht
  rw [List.getElem?_take_of_lt (by omega), List.getElem?_drop] at ht
  exact ht

def setG {α : Type} (cs : List α) (off : Nat) : List α → List α
  | [] => cs
  | v :: vs => setG (cs.set off v) (off + 1) vs
theorem setAt_G (cs : List Value) (o : Nat) (vs : List Value) : setAt cs o vs = setG cs o vs := by
  induction vs generalizing cs o with
  | nil => rfl
  | cons v vs ih => simp [setAt, setG, ih]
theorem setG_eq {α : Type} (vs : List α) : ∀ (cs : List α) (o : Nat), o + vs.length ≤ cs.length → setG cs o vs = cs.take o ++ vs ++ cs.drop (o + vs.length) := by
  induction vs with
  | nil => intro cs o _; simp [setG]
  | cons v vs ih =>
    intro cs o h
    simp only [List.length_cons] at h
    have hlt : o < cs.length := by omega
    rw [setG, ih _ _ (by simp; omega), List.take_set, List.drop_set, if_pos (by omega)]
    rw [List.take_succ_eq_append_getElem hlt, List.set_append_right _ _ (by simp; omega)]
    have e1 : min o cs.length = o := by omega
    simp only [List.length_take, e1, Nat.sub_self, List.set_cons_zero, List.append_assoc, List.cons_append, List.nil_append, List.length_cons]
    rw [show o + (vs.length + 1) = o + 1 + vs.length by omega]
theorem setG_len {α : Type} (vs : List α) : ∀ (cs : List α) (o : Nat), (setG cs o vs).length = cs.length := by
  induction vs with
  | nil => intro cs o; rfl
  | cons v vs ih => intro cs o; simp [setG, ih]
def setE (e : TV) (o : Nat) (v : TV) : TV := if o = 0 ∧ (cellsT v).length = (cellsT e).length then v else el (setG (cellsT e) o (cellsT v))
theorem setG_all {α : Type} (p : α → Bool) (vs : List α) : ∀ (cs : List α) (o : Nat), cs.all p = true → vs.all p = true → (setG cs o vs).all p = true := by
  induction vs with
  | nil => intro cs o h _; exact h
  | cons v vs ih =>
    intro cs o h k
    simp only [List.all_cons, Bool.and_eq_true] at k
    refine ih _ _ ?_ k.2
    rw [List.all_eq_true] at h ⊢
    intro x hx
    rcases List.mem_or_eq_of_mem_set hx with hx | hx
    · exact h x hx
    · subst hx; exact k.1
theorem setE_cells {e v : TV} {o : Nat} (h1 : (cellsT e).all oneT = true) (h2 : (cellsT v).all oneT = true) (hle : o + (cellsT v).length ≤ (cellsT e).length) : cellsT (setE e o v) = setG (cellsT e) o (cellsT v) := by
  unfold setE
  split
  · rename_i hc
    obtain ⟨rfl, hc⟩ := hc
    rw [setG_eq _ _ _ hle]; simp [hc]
  · exact el_cells (setG_all _ _ _ _ h1 h2)
theorem flat_set {z : Nat} {es : List TV} (h : sizedT z es = true) {i o : Nat} {e e' : TV} {vs : List TV} (he : es[i]? = some e) (he' : cellsT e' = setG (cellsT e) o vs) (hle : o + vs.length ≤ z) :
    flatT (es.set i e') = setG (flatT es) (i * z + o) vs ∧ sizedT z (es.set i e') = true := by
  have hlt := (List.getElem?_eq_some_iff.1 he).1
  have hee := (List.getElem?_eq_some_iff.1 he).2
  have hl : (cellsT e).length = z := sized_iff.1 h e (List.mem_of_getElem? he)
  have hfl := flatT_len h
  have hiz : i * z + z ≤ es.length * z := by have := Nat.mul_le_mul_right z (show i + 1 ≤ es.length by omega); rw [Nat.add_mul] at this; omega
  constructor
  · rw [setG_eq _ _ _ (by rw [hfl]; omega), List.set_eq_take_append_cons_drop, if_pos hlt]
    have e2 : flatT es = flatT (es.take i) ++ (cellsT e ++ flatT (es.drop (i + 1))) := by
      rw [← hee, ← flat_cons, ← flat_append]
      congr 1
      rw [← List.drop_eq_getElem_cons hlt, List.take_append_drop]
    have hti : (flatT (es.take i)).length = i * z := by rw [flatT_len (sized_take h i), List.length_take, Nat.min_eq_left (by omega)]
    rw [flat_append, flat_cons, he', setG_eq _ _ _ (by omega), e2]
    rw [List.take_append, List.drop_append, hti]
    rw [List.take_of_length_le (l := flatT (es.take i)) (by omega), List.drop_eq_nil_of_le (as := flatT (es.take i)) (by omega)]
    rw [show i * z + o - i * z = o by omega, show i * z + o + vs.length - i * z = o + vs.length by omega]
    rw [List.take_append_of_le_length (by omega), List.drop_append_of_le_length (by omega)]
    simp [List.append_assoc]
  · refine sized_iff.2 fun x hx => ?_
    rcases List.mem_or_eq_of_mem_set hx with hx | hx
    · exact sized_iff.1 h x hx
    · subst hx; rw [he', setG_len]; exact hl

section
variable {φ : Own} {Φ : Frz}
theorem VTs.setG {a : List TV} {a' : List Value} (h : VTs φ Φ a a') : ∀ {vs : List TV} {vs' : List Value} (o : Nat), VTs φ Φ vs vs' → VTs φ Φ (AH.setG a o vs) (AH.setG a' o vs')
  | [], _, o, k => by cases k; exact h
  | _ :: _, _, o, k => by cases k with | cons p q => exact VTs.setG (h.set o p) (o + 1) q
end
end Go.AH
