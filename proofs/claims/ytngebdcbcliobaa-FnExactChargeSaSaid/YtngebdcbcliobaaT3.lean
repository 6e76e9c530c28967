import Derived.Test.YtngebdcbcliobaaT2
set_option linter.unusedVariables false
namespace Go.AH

section
variable {φ φ' : Own} {Φ : Frz} {hT hT' : THeap} {hA hA' : Heap} {tlo lo : Nat}

theorem VT.p_inv {v x : Value} (h : VT φ Φ (.p v) x) : x = v ∧ plainV v = true := by
  cases h with | fz h => cases h with | p h => exact ⟨rfl, h⟩
theorem getIT_ok {t : TV} {v : Value} {n : Int} (h : VT φ Φ t v) (k : getIT t = some n) : getI v = some n := by
  unfold getIT at k; split at k
  · cases k; rw [h.p_inv.1]; rfl
  · cases k
theorem getBT_ok {t : TV} {v : Value} {n : Bool} (h : VT φ Φ t v) (k : getBT t = some n) : getB v = some n := by
  unfold getBT at k; split at k
  · cases k; rw [h.p_inv.1]; rfl
  · cases k
theorem optIT_ok {ρT : Opd → TV} {ρA : Opd → Value} (hρ : ∀ x, VT φ Φ (ρT x) (ρA x)) {d : Int} {x : Option Opd} {n : Int} (k : optIT ρT d x = some n) : optI ρA d x = some n := by
  cases x with
  | none => exact k
  | some x => exact getIT_ok (hρ x) k

/-- What a slice holds. -/
theorem rdT_ok (H : HT φ Φ hT hA) {t : TV} {v : Value} (hv : VT φ Φ t v) {es : List TV} (hr : rdT hT t = some es) {z : Nat} (hz : sizedT z es = true) :
    ∃ cs a c, v = .slice a es.length c ∧ rdS hA z v = some cs ∧ VTs φ Φ (flatT es) cs := by
  cases t with
  | nl =>
    simp only [rdT] at hr; cases hr
    cases hv with
    | fz h =>
      cases h with
      | nl0 => exact ⟨[], _, _, rfl, rfl, .nil⟩
      | nl1 b o s c => exact ⟨[], _, _, rfl, rfl, .nil⟩
  | s es' =>
    simp only [rdT] at hr; cases hr
    cases hv with
    | fz h =>
      cases h with
      | s0 => exact ⟨[], _, _, rfl, rfl, .nil⟩
      | s1 b o s c => exact ⟨[], _, _, rfl, rfl, .nil⟩
      | s h1 h2 h3 h4 =>
        rename_i c off cs cap z'
        obtain ⟨e, he⟩ := H.frz _ _ h1
        have hzz : es.length * z' = es.length * z := by
          cases es with
          | nil => simp
          | cons a l => rw [← sized_iff.1 hz a (by simp), sized_iff.1 h3 a (by simp)]
        rw [hzz] at h2 h4
        exact ⟨_, _, _, rfl, by simp only [rdS, he]; rw [if_pos h2], VTs.fz h4⟩
  | os b o n =>
    simp only [rdT] at hr
    split at hr
    · rename_i e z0 es0 hb
      split at hr
      · rename_i hle; cases hr
        have hn : ((es0.drop o).take n).length = n := by simp; omega
        cases hv with
        | fz h => cases h
        | on0 => rw [hn]; exact ⟨[], none, 0, rfl, rfl, by simpa [flatT] using VTs.nil⟩
        | on1 b o x y s c => rw [hn]; exact ⟨[], _, _, rfl, rfl, by simpa [flatT] using VTs.nil⟩
        | os h1 =>
          rename_i c z1 cap
          rcases H.live b e z0 es0 hb with ⟨k1, _⟩ | ⟨c', cs, k1, k2, k3, k4⟩
          · rw [h1] at k1; cases k1
          · rw [h1] at k1; cases k1
            have hl := k4.length
            rw [flatT_len k3] at hl
            have hzz : n * z0 = n * z := by
              cases n with
              | zero => simp
              | succ n =>
                have hm : es0[o] ∈ (es0.drop o).take (n + 1) := by
                  rw [List.drop_eq_getElem_cons (by omega), List.take_succ_cons]; exact List.mem_cons_self
                rw [← sized_iff.1 hz _ hm, sized_iff.1 k3 _ (by simp)]
            have hoz : o * z0 + n * z0 ≤ es0.length * z0 := by rw [← Nat.add_mul]; exact Nat.mul_le_mul_right _ hle
            rw [hn]
            refine ⟨(cs.drop (o * z0)).take (n * z), _, _, rfl, ?_, ?_⟩
            · simp only [rdS, k2]; rw [if_pos (by omega)]
            · rw [flat_take (sized_drop k3 o), flat_drop k3 o, hzz]
              exact (k4.drop _).take _
      · cases hr
    · cases hr
  | _ => simp [rdT] at hr

/-- What a pointer points at. -/
theorem elT_ok (H : HT φ Φ hT hA) {t : TV} {v : Value} (hv : VT φ Φ t v) {e : TV} {o : Nat} (hr : elT hT t = some (e, o)) :
    ∃ b base ty cs, getP v = some (b, base + o) ∧ hA[b]? = some (.cells ty cs) ∧ base + (cellsT e).length ≤ cs.length ∧ VTs φ Φ (cellsT e) ((cs.drop base).take (cellsT e).length) := by
  cases t with
  | op b i o' =>
    simp only [elT] at hr
    split at hr
    · rename_i ty z es hb
      obtain ⟨e', he, hr⟩ := Option.map_eq_some_iff.1 hr
      cases hr
      cases hv with
      | fz h => cases h
      | op h1 =>
        rename_i c z1
        rcases H.live b ty z es hb with ⟨k1, _⟩ | ⟨c', cs, k1, k2, k3, k4⟩
        · rw [h1] at k1; cases k1
        · rw [h1] at k1; cases k1
          have hl := k4.length
          rw [flatT_len k3] at hl
          have hcl : (cellsT e).length = z := sized_iff.1 k3 e (List.mem_of_getElem? he)
          have hlt := (List.getElem?_eq_some_iff.1 he).1
          have hiz : i * z + z ≤ es.length * z := by have := Nat.mul_le_mul_right z (show i + 1 ≤ es.length by omega); rw [Nat.add_mul] at this; omega
          refine ⟨c, i * z, ty, cs, rfl, k2, by omega, ?_⟩
          rw [hcl, ← flat_cut k3 he]
          exact (k4.drop _).take _
    · cases hr
  | fe e' o' =>
    simp only [elT] at hr; cases hr
    cases hv with
    | fz h =>
      cases h with
      | fe h1 h2 h3 =>
        rename_i c off cs
        obtain ⟨ty, hy⟩ := H.frz _ _ h1
        exact ⟨c, off, ty, cs, rfl, hy, h2, VTs.fz h3⟩
  | _ => simp [elT] at hr

theorem fillT_ok : ∀ (ps : List (Nat × Nat × Opd)) (ρT : Opd → TV) (ρA : Opd → Value) (z : List TV) (zA : List Value) (cs : List TV), (∀ x, VT φ Φ (ρT x) (ρA x)) → VTs φ Φ z zA →
    fillT z (ps.map fun p => (p.1, p.2.1, ρT p.2.2)) = some cs → ∃ csA, fillL zA (ps.map fun p => (p.1, p.2.1, ρA p.2.2)) = some csA ∧ VTs φ Φ cs csA
  | [], ρT, ρA, z, zA, cs, hρ, hz, h => by simp [fillT] at h; subst h; exact ⟨zA, rfl, hz⟩
  | (off, n, x) :: r, ρT, ρA, z, zA, cs, hρ, hz, h => by
    simp only [List.map_cons, fillT] at h
    split at h
    · rename_i hc
      have hx := (hρ x).cells hc.2.2
      have hxl := hx.length
      have hzl := hz.length
      obtain ⟨csA, h1, h2⟩ := fillT_ok r ρT ρA _ (zA.take off ++ cellsL (ρA x) ++ zA.drop (off + n)) cs hρ (((hz.take _).append hx).append (hz.drop _)) h
      refine ⟨csA, ?_, h2⟩
      simp only [List.map_cons, fillL]
      rw [if_pos ⟨by omega, by omega⟩]; exact h1
    · cases h
theorem ofV1s_ok {z : List Value} (h : z.all plainV = true) : VTs φ Φ (z.map ofV1) z := by
  induction z with
  | nil => exact .nil
  | cons a l ih => simp only [List.all_cons, Bool.and_eq_true] at h; exact .cons (.fz (ofV1_vt h.1)) (ih h.2)
theorem ofV1_one {v : Value} (h : one v = true) : oneT (ofV1 v) = true := by
  unfold ofV1; split <;> rfl
theorem ofV1s_one {z : List Value} (h : z.all one = true) : (z.map ofV1).all oneT = true := by
  simp only [List.all_map, List.all_eq_true] at h ⊢
  intro x hx; exact ofV1_one (h x hx)
theorem chunks_ok (k : Nat) : ∀ (n : Nat) (cs : List TV), cs.length = n * k → cs.all oneT = true → flatT (chunksT k n cs) = cs ∧ sizedT k (chunksT k n cs) = true ∧ (chunksT k n cs).length = n
  | 0, cs, h, _ => by
    have : cs = [] := List.eq_nil_of_length_eq_zero (by simpa using h)
    subst this; exact ⟨rfl, rfl, rfl⟩
  | n + 1, cs, h, ho => by
    have h1 : (cs.take k).all oneT = true := by rw [List.all_eq_true] at ho ⊢; intro x hx; exact ho x (List.mem_of_mem_take hx)
    have h2 : (cs.drop k).all oneT = true := by rw [List.all_eq_true] at ho ⊢; intro x hx; exact ho x (List.mem_of_mem_drop hx)
    have hl : (cs.drop k).length = n * k := by rw [List.length_drop, h, Nat.add_mul]; omega
    obtain ⟨e1, e2, e3⟩ := chunks_ok k n (cs.drop k) hl h2
    refine ⟨?_, ?_, by simp [chunksT, e3]⟩
    · rw [chunksT, flat_cons, el_cells h1, e1, List.take_append_drop]
    · rw [chunksT, sized_iff]
      intro x hx
      rcases List.mem_cons.1 hx with rfl | hx
      · rw [el_cells h1, List.length_take, h, Nat.add_mul]; omega
      · exact sized_iff.1 e2 x hx
theorem aggE_ok {e : TV} {vs : List Value} (h : VTs φ Φ (cellsT e) vs) : VT φ Φ (aggE e) (.agg ⟨vs⟩) := by
  cases e with
  | agg cs => exact .agg h
  | _ => exact .agg h
theorem elAt_ok {e : TV} {o n : Nat} {t : TV} {vs : List Value} (h : VTs φ Φ (cellsT e) vs) (k : elAt e o n = some t) : VT φ Φ t (.agg ⟨(vs.drop o).take n⟩) ∧ o + n ≤ (cellsT e).length := by
  unfold elAt at k
  split at k
  · rename_i hc
    obtain ⟨rfl, hn⟩ := hc
    cases k
    have hl := h.length
    rw [List.drop_zero, List.take_of_length_le (by omega)]
    exact ⟨aggE_ok h, by omega⟩
  · split at k
    · cases k; exact ⟨.agg ((h.drop o).take n), by assumption⟩
    · cases k
theorem u8s_ok : ∀ {es : List TV} {bs : List UInt8} {cs : List Value}, es.mapM u8T = some bs → sizedT 1 es = true ∧ (VTs φ Φ (flatT es) cs → cs.mapM u8of = some bs)
  | [], bs, cs, h => by
    simp at h; subst h
    exact ⟨rfl, fun k => by cases k; rfl⟩
  | e :: es, bs, cs, h => by
    simp only [List.mapM_cons] at h
    cases h1 : u8T e with
    | none => simp [h1] at h
    | some b =>
      cases h2 : es.mapM u8T with
      | none => simp [h1, h2] at h
      | some bs' =>
        simp [h1, h2] at h; subst h
        have hp : ∃ v, e = .p v ∧ u8of v = some b := by
          unfold u8T at h1; split at h1
          · exact ⟨_, rfl, h1⟩
          · cases h1
        obtain ⟨v, rfl, hv⟩ := hp
        refine ⟨?_, fun k => ?_⟩
        · have := (u8s_ok (cs := []) h2).1
          simp only [sizedT, List.all_cons, cellsT, List.length_cons, List.length_nil, Bool.and_eq_true, beq_self_eq_true, true_and] at this ⊢; exact this
        · rw [flat_cons] at k
          cases k with
          | cons a b =>
            obtain ⟨rfl, _⟩ := a.p_inv
            have := (u8s_ok h2).2 b
            simp [List.mapM_cons, hv, this]

/-- A store. -/
theorem HT.set (H : HT φ Φ hT hA) {b c z : Nat} {e : TypeId} {es es' : List TV} {cs cs' : List Value} (hb : hT[b]? = some (.cells e z es)) (hc : φ b = some (c, z)) (hcA : hA[c]? = some (.cells e cs))
    (hs : sizedT z es' = true) (hv : VTs φ Φ (flatT es') cs') (hlo : tlo ≤ b) :
    HT φ Φ (hT.set b (.cells e z es')) (hA.set c (.cells e cs')) ∧ Adv tlo φ φ hT (hT.set b (.cells e z es')) hA (hA.set c (.cells e cs')) := by
  have hbl := (List.getElem?_eq_some_iff.1 hb).1
  have hcl := (List.getElem?_eq_some_iff.1 hcA).1
  refine ⟨⟨?_, H.inj, ?_, ?_, H.disj⟩, ⟨by simp, fun _ _ => rfl, fun b c z hb h => (by rw [H.fresh b hb] at h; cases h), by simp, ?_⟩⟩
  · intro b' c' z' h; have := H.dom b' c' z' h; simpa using this
  · intro b' e1 z1 es1 h
    by_cases hbb : b' = b
    · subst hbb
      rw [List.getElem?_set_self hbl] at h
      cases h
      exact .inr ⟨c, cs', hc, List.getElem?_set_self hcl, hs, hv⟩
    · rw [List.getElem?_set_ne (fun x => hbb x.symm)] at h
      rcases H.live b' e1 z1 es1 h with k | ⟨c1, cs1, k1, k2, k3, k4⟩
      · exact .inl k
      · refine .inr ⟨c1, cs1, k1, ?_, k3, k4⟩
        rw [List.getElem?_set_ne (fun x => hbb (H.inj b' b c1 z1 z k1 (by rw [← x]; exact hc)))]
        exact k2
  · intro c1 cs1 h
    obtain ⟨e1, he⟩ := H.frz c1 cs1 h
    refine ⟨e1, ?_⟩
    rw [List.getElem?_set_ne (fun x => H.disj b c z cs1 hc (by rw [x]; exact h))]
    exact he
  · intro c1 _ hn
    exact List.getElem?_set_ne (fun x => hn b z hlo (by rw [hc, x]))
end

def CompatT (spA : Sp) (tsp : TSp) : Prop := (∀ (φ : Own) (Φ : Frz) (hT : THeap) (hA : Heap) (lo tlo : Nat) (targs : List TV) (args : List Value) (tv : TV) (hT' : THeap), HT φ Φ hT hA →
  (∀ b c z, tlo ≤ b → φ b = some (c, z) → lo ≤ c) → lo ≤ hA.length → VTs φ Φ targs args → tsp.fn tlo targs hT = some (tv, hT') → Snd Φ φ tlo hT hT' hA tv (spA lo args hA)) ∧
  ∀ (φ : Own) (Φ : Frz) (hT : THeap) (hA : Heap) (lo : Nat) (targs : List TV) (args : List Value) (tv : TV) (hT' : THeap), HT φ Φ hT hA →
  (∀ b c z, φ b = some (c, z) → lo ≤ c) → lo ≤ hA.length → VTs φ Φ targs args → tsp.rel targs hT tv hT' → Snd Φ φ 0 hT hT' hA tv (spA lo args hA)
def OkG (Γ : Ctx) (ΓT : TCtx) : Prop := ∀ f tsp, ΓT.get f = some tsp → ∃ spA, Γ.get f = some spA ∧ CompatT spA tsp
end Go.AH
