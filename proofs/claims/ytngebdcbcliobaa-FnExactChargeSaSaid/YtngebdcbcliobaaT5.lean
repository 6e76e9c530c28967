import Derived.Test.YtngebdcbcliobaaT4
set_option linter.unusedVariables false
namespace Go.AH
section
variable {φ φ' : Own} {Φ : Frz} {hT hT' : THeap} {hA hA' : Heap} {tlo lo : Nat} {Γ : Ctx} {ΓT : TCtx} {ρT : Opd → TV} {ρA : Opd → Value} {tv : TV}

theorem pB_ok {op : BinOp} {a b : TV} {x y v : Value} (ha : VT φ Φ a x) (hb : VT φ Φ b y) (h : pB op a b = some v) : abin op x y = some v := by
  unfold pB at h; split at h
  · rw [ha.p_inv.1, hb.p_inv.1]; exact h
  · cases h
theorem plain_bin {op : BinOp} {x y v : Value} (h : abin op x y = some v) : plainV v = true := by
  have hp : ∀ (op : BinOp) (k : IntKind) (a b : Int), intB op k a b = some v → plainV v = true := by
    intro op k a b h
    cases op <;> simp only [intB] at h <;> (try split at h) <;> first | (cases h; done) | (cases h; rfl)
  have hq : ∀ (op : BinOp) (a b : ByteArray), strB op a b = some v → plainV v = true := by
    intro op a b h
    cases op <;> simp only [strB] at h <;> (try split at h) <;> first | (cases h; done) | (cases h; rfl)
  unfold abin at h
  split at h
  · split at h
    · split at h <;> cases h; rfl
    · split at h <;> cases h; rfl
    · split at h
      · exact hp _ _ _ _ h
      · cases h
  · exact hq _ _ _ h
  · cases h
theorem plain_un {op : UnOp} {x v : Value} (h : aun op x = some v) : plainV v = true := by
  unfold aun at h
  split at h
  · split at h <;> cases h; rfl
  · split at h <;> cases h; rfl
  · cases h

theorem Snd.p (H : HT φ Φ hT hA) {v : Value} (h : plainV v = true) : Snd Φ φ tlo hT hT hA (.p v) (some (v, hA)) := Snd.same H (.fz (.p h))

theorem new_ok (H : HT φ Φ hT hA) {e : TypeId} {z n : Nat} {es : List TV} {cs : List Value} (hs : sizedT z es = true) (hv : VTs φ Φ (flatT es) cs) :
    Snd Φ φ tlo hT (hT ++ [.cells e z es]) hA (.os hT.length 0 n) (some (slc hA.length 0 n, hA ++ [.cells e cs])) ∧
    Snd Φ φ tlo hT (hT ++ [.cells e z es]) hA (.op hT.length 0 0) (some (ptr hA.length 0, hA ++ [.cells e cs])) := by
  obtain ⟨φ', g1, g2, g3⟩ := grow0 (tlo := tlo) H (e := e) hs hv
  refine ⟨⟨_, _, φ', rfl, ?_, g1, g2⟩, ⟨_, _, φ', rfl, ?_, g1, g2⟩⟩
  · have := VT.os (Φ := Φ) (b := hT.length) (o := 0) (n := n) (cap := n) g3
    simpa [slc] using this
  · have := VT.op (Φ := Φ) (b := hT.length) (i := 0) (o := 0) g3
    simpa [ptr] using this

theorem mkEls_ok (hρ : ∀ x, VT φ Φ (ρT x) (ρA x)) {n : Nat} {z : List Value} {ps : List (Nat × Nat × Opd)} {es : List TV} (h : mkEls ρT n z ps = some es) :
    ∃ cs, fillL z (ps.map fun p => (p.1, p.2.1, ρA p.2.2)) = some cs ∧ cs.all one = true ∧ VTs φ Φ (flatT es) cs ∧ sizedT (z.length / n) es = true := by
  unfold mkEls at h
  split at h
  · rename_i k x
    split at h
    · rename_i hc
      obtain ⟨rfl, hl, ho⟩ := hc
      cases h
      have hx := (hρ x).cells ho
      have hxl := hx.length
      refine ⟨cellsL (ρA x), ?_, hx.ones ho, by simpa [flatT] using hx, ?_⟩
      · simp only [List.map_cons, List.map_nil, fillL]
        rw [if_pos ⟨by omega, by omega⟩]
        simp
      · simp [sizedT, hl]
    · cases h
  · obtain ⟨cs, h1, h⟩ := Option.bind_eq_some_iff.1 h
    split at h
    · rename_i hc
      obtain ⟨hz, ho, hl⟩ := hc
      cases h
      obtain ⟨csA, k1, k2⟩ := fillT_ok ps ρT ρA _ _ cs hρ (ofV1s_ok hz) h1
      obtain ⟨e1, e2, e3⟩ := chunks_ok (z.length / n) n cs hl ho
      exact ⟨csA, k1, k2.ones ho, by rw [e1]; exact k2, e2⟩
    · cases h

theorem top_ok (H : HT φ Φ hT hA) (hlo : ∀ b c z, tlo ≤ b → φ b = some (c, z) → lo ≤ c) (hla : lo ≤ hA.length) (hρ : ∀ x, VT φ Φ (ρT x) (ρA x)) (hΓ : OkG Γ ΓT) {p : AOp}
    (ha : top ΓT tlo ρT hT p = some (tv, hT')) : Snd Φ φ tlo hT hT' hA tv (aop Γ lo ρA hA p) := by
  cases p with
  | mv x => simp only [top] at ha; cases ha; exact Snd.same H (hρ x)
  | pick c a b =>
    simp only [top] at ha
    obtain ⟨t, ht, ha⟩ := Option.map_eq_some_iff.1 ha
    cases ha
    simp only [aop, getBT_ok (hρ c) ht, Option.map_some]
    refine Snd.same H ?_
    cases t
    · exact hρ b
    · exact hρ a
  | alloc e z =>
    simp only [top] at ha
    split at ha
    · rename_i hc; cases ha
      simp only [aop]
      have h1 := el_cells (ofV1s_one hc.2)
      exact (new_ok (n := 0) H (by simp [sizedT, h1]) (by simpa [flatT, h1] using ofV1s_ok hc.1)).2
    · cases ha
  | box e x =>
    simp only [top] at ha
    split at ha
    · rename_i hc; cases ha
      have hx := (hρ x).cells hc
      simp only [aop]
      rw [if_pos (hx.ones hc)]
      exact (new_ok (n := 0) H (by simp [sizedT]) (by simpa [flatT] using hx)).2
    · cases ha
  | build z ps =>
    simp only [top] at ha
    split at ha
    · rename_i hz
      obtain ⟨cs, h1, ha⟩ := Option.map_eq_some_iff.1 ha
      cases ha
      obtain ⟨csA, k1, k2⟩ := fillT_ok ps ρT ρA _ _ cs hρ (ofV1s_ok hz) h1
      simp only [aop, k1, Option.map_some]
      exact Snd.same H (.agg k2)
    · cases ha
  | mkS e n z ps =>
    simp only [top] at ha
    obtain ⟨es, h1, ha⟩ := Option.map_eq_some_iff.1 ha
    cases ha
    obtain ⟨cs, k1, k2, k3, k4⟩ := mkEls_ok hρ h1
    simp only [aop, k1, Option.bind_some]
    rw [if_pos k2]
    exact (new_ok H k4 k3).1
  | mkE =>
    simp only [top] at ha; cases ha
    exact Snd.same H (.fz (.nl1 _ _ _ _))
  | ld x =>
    simp only [top] at ha
    obtain ⟨⟨e, o⟩, h1, ha⟩ := Option.bind_eq_some_iff.1 ha
    obtain ⟨t, h2, ha⟩ := Option.map_eq_some_iff.1 ha
    cases ha
    obtain ⟨b, base, ty, cs, k1, k2, k3, k4⟩ := elT_ok H (hρ x) h1
    obtain ⟨v, hv, r⟩ := k4.get o _ h2
    have ho := (List.getElem?_eq_some_iff.1 h2).1
    simp only at ho
    rw [List.getElem?_take_of_lt ho, List.getElem?_drop] at hv
    simp only [aop, k1, k2, hv, Option.map_some]
    exact Snd.same H r
  | ldn n x =>
    simp only [top] at ha
    obtain ⟨⟨e, o⟩, h1, ha⟩ := Option.bind_eq_some_iff.1 ha
    obtain ⟨t, h2, ha⟩ := Option.map_eq_some_iff.1 ha
    cases ha
    obtain ⟨b, base, ty, cs, k1, k2, k3, k4⟩ := elT_ok H (hρ x) h1
    obtain ⟨h3, h4⟩ := elAt_ok k4 h2
    simp only at h4
    simp only [aop, k1, k2]
    rw [if_pos (by omega)]
    refine Snd.same H ?_
    have e1 : (((cs.drop base).take (cellsT e).length).drop o).take n = (cs.drop (base + o)).take n := by
      rw [List.drop_take, List.drop_drop, List.take_take]; congr 1; omega
    rw [e1] at h3; exact h3
  | st n x v =>
    simp only [top] at ha
    have hx := hρ x
    split at ha
    · rename_i b i o hxe
      split at ha
      · rename_i e z es hb
        obtain ⟨e0, he, ha⟩ := Option.bind_eq_some_iff.1 ha
        split at ha
        · rename_i hc
          obtain ⟨htl, hn, hle, ho1, ho2⟩ := hc
          cases ha
          rw [hxe] at hx
          generalize hvx : ρA x = vx at hx
          cases hx with
          | fz h => cases h
          | op h1 =>
            rename_i c z1
            rcases H.live b e z es hb with ⟨k1, _⟩ | ⟨c', cs, k1, k2, k3, k4⟩
            · rw [h1] at k1; cases k1
            · rw [h1] at k1; cases k1
              have hv := (hρ v).cells ho1
              have hvl := hv.length
              have hcl : (cellsT e0).length = z := sized_iff.1 k3 e0 (List.mem_of_getElem? he)
              have hlt := (List.getElem?_eq_some_iff.1 he).1
              have hl := k4.length
              rw [flatT_len k3] at hl
              have hiz : i * z + z ≤ es.length * z := by have := Nat.mul_le_mul_right z (show i + 1 ≤ es.length by omega); rw [Nat.add_mul] at this; omega
              obtain ⟨f1, f2⟩ := flat_set k3 he (setE_cells (o := o) ho2 ho1 (by rw [hn]; exact hle)) (by rw [hn, ← hcl]; exact hle)
              obtain ⟨g1, g2⟩ := HT.set (tlo := tlo) H hb h1 k2 f2 (cs' := setAt cs (i * z + o) (cellsL (ρA v))) (by rw [f1, setAt_G]; exact k4.setG _ hv) htl
              simp only [aop, hvx, getP, k2]
              rw [if_pos ⟨hlo b c z htl h1, by omega, by omega, hv.ones ho1⟩]
              exact ⟨_, _, φ, rfl, .tup .nil, g1, g2⟩
        · cases ha
      · cases ha
    · cases ha
  | bin op x y =>
    simp only [top] at ha
    obtain ⟨v, h1, ha⟩ := Option.map_eq_some_iff.1 ha
    cases ha
    have h2 := pB_ok (hρ x) (hρ y) h1
    simp only [aop, h2, Option.map_some]
    exact Snd.p H (plain_bin h2)
  | un op x =>
    simp only [top] at ha
    obtain ⟨v, h1, ha⟩ := Option.map_eq_some_iff.1 ha
    cases ha
    have h2 : aun op (ρA x) = some v := by
      unfold pU at h1
      split at h1
      · rename_i a ha; have hx := hρ x; rw [ha] at hx; rw [hx.p_inv.1]; exact h1
      · cases h1
    simp only [aop, h2, Option.map_some]
    exact Snd.p H (plain_un h2)
  | eqB neg x y =>
    simp only [top] at ha
    obtain ⟨a, h1, ha⟩ := Option.bind_eq_some_iff.1 ha
    obtain ⟨b, h2, ha⟩ := Option.map_eq_some_iff.1 ha
    cases ha
    simp only [aop, getBT_ok (hρ x) h1, getBT_ok (hρ y) h2, Option.bind_some, Option.map_some]
    exact Snd.p H rfl
  | eqN neg x =>
    simp only [top] at ha
    have hx := hρ x
    have fin : ∀ ad n c, ρA x = .slice ad n c → Snd Φ φ tlo hT hT hA .ub (aop Γ lo ρA hA (.eqN neg x)) := by
      intro ad n c hv
      have : ∃ b, isNil (ρA x) = some b := by rw [hv]; cases ad <;> exact ⟨_, rfl⟩
      obtain ⟨b, hb⟩ := this
      simp only [aop, hb, Option.map_some]
      exact Snd.same H (.fz (.ub _))
    have fin2 : ∀ ad n c, ρA x = .slice (some ad) n c → Snd Φ φ tlo hT hT hA (.p (.bool neg)) (aop Γ lo ρA hA (.eqN neg x)) := by
      intro ad n c hv
      have e : (if neg = true then !false else false) = neg := by cases neg <;> rfl
      simp only [aop, hv, isNil, Option.map_some, e]
      exact Snd.p H rfl
    split at ha
    · rename_i es hxe
      rw [hxe] at hx
      generalize hvx : ρA x = vx at hx
      split at ha
      · rename_i hp; cases ha
        cases hx with
        | fz h =>
          cases h with
          | s0 => simp at hp
          | s1 => simp at hp
          | s => exact fin2 _ _ _ hvx
      · cases ha
        cases hx with
        | fz h => cases h <;> exact fin _ _ _ hvx
    · rename_i hxe
      rw [hxe] at hx
      generalize hvx : ρA x = vx at hx
      split at ha
      · rename_i hp; cases ha
        cases hx with
        | fz h => cases h
        | on0 => simp at hp
        | on1 => simp at hp
        | os h1 => exact fin2 _ _ _ hvx
      · cases ha
        cases hx with
        | fz h => cases h
        | on0 => exact fin _ _ _ hvx
        | on1 => exact fin _ _ _ hvx
        | os h1 => exact fin _ _ _ hvx
    · rename_i hxe
      cases ha; rw [hxe] at hx
      generalize hvx : ρA x = vx at hx
      cases hx with
      | fz h => cases h <;> exact fin _ _ _ hvx
    · cases ha
  | fail => simp only [top] at ha; cases ha
  | eqS neg ks x y =>
    simp only [top] at ha
    have hx := hρ x
    have hy := hρ y
    split at ha
    · rename_i xs ys hxe hye
      obtain ⟨b, hb, ha⟩ := Option.map_eq_some_iff.1 ha
      cases ha
      rw [hxe] at hx; rw [hye] at hy
      generalize hvx : ρA x = vx at hx
      generalize hvy : ρA y = vy at hy
      have hagg : ∀ {cs : List TV} {v : Value}, VT φ Φ (.agg cs) v → ∃ vs, v = .agg ⟨vs⟩ ∧ VTs φ Φ cs vs := by
        intro cs v h
        cases h with
        | fz h => cases h with | agg h => exact ⟨_, rfl, VTs.fz h⟩
        | agg h => exact ⟨_, rfl, h⟩
      obtain ⟨vs, rfl, h1⟩ := hagg hx
      obtain ⟨us, rfl, h2⟩ := hagg hy
      have key : ∀ (ks : List EK) (xs ys : List TV) (vs us : List Value) (b : Bool), VTs φ Φ xs vs → VTs φ Φ ys us → eqTs ks xs ys = some b → eqCs ks vs us = some b := by
        intro ks
        induction ks with
        | nil =>
          intro xs ys vs us b h1 h2 h
          cases xs <;> cases ys <;> simp only [eqTs] at h <;> first | (cases h; done) | skip
          cases h; cases h1; cases h2; rfl
        | cons k ks ih =>
          intro xs ys vs us b h1 h2 h
          cases xs with
          | nil => simp [eqTs] at h
          | cons x xs =>
            cases ys with
            | nil => cases x <;> simp [eqTs] at h
            | cons y ys =>
              cases x <;> first | (simp [eqTs] at h; done) | skip
              cases y <;> first | (simp [eqTs] at h; done) | skip
              simp only [eqTs] at h
              cases h1 with
              | cons p1 q1 =>
                cases h2 with
                | cons p2 q2 =>
                  obtain ⟨c, hc, h⟩ := Option.bind_eq_some_iff.1 h
                  obtain ⟨d, hd, rfl⟩ := Option.map_eq_some_iff.1 h
                  rw [p1.p_inv.1, p2.p_inv.1]
                  simp only [eqCs, hc, ih _ _ _ _ _ q1 q2 hd, Option.bind_some, Option.map_some]
      have := key ks xs ys vs us b h1 h2 hb
      simp only [aop, hvx, hvy, this, Option.map_some]
      exact Snd.p H rfl
    · cases ha
  | capZ x =>
    simp only [top] at ha
    have hx := hρ x
    split at ha
    · rename_i hxe
      cases ha; rw [hxe] at hx
      generalize hvx : ρA x = vx at hx
      cases hx with
      | fz h =>
        cases h with
        | nl0 => simp only [aop, hvx]; exact Snd.p H rfl
        | nl1 => simp only [aop, hvx]; exact Snd.p H rfl
    · cases ha
  | mm mx x y =>
    simp only [top] at ha
    obtain ⟨v, hv, ha⟩ := Option.map_eq_some_iff.1 ha
    cases ha
    have hx := hρ x
    have hy := hρ y
    unfold mmT at hv
    split at hv
    · rename_i k a k' b hxe hye
      cases hv
      rw [hxe] at hx; rw [hye] at hy
      simp only [aop, hx.p_inv.1, hy.p_inv.1]
      exact Snd.p H rfl
    · cases hv
  | cpy z x y =>
    simp only [top] at ha
    obtain ⟨ys, hys, ha⟩ := Option.bind_eq_some_iff.1 ha
    have hx := hρ x
    split at ha
    · rename_i b o n hxe
      split at ha
      · rename_i e z' es hb
        split at ha
        · rename_i hc
          obtain ⟨htl, hzz, hsy, hn, hle⟩ := hc
          cases ha
          subst hzz
          obtain ⟨csy, ay, cy, ey, hry, hvy⟩ := rdT_ok H (hρ y) hys hsy
          rw [hxe] at hx
          generalize hvx : ρA x = vx at hx
          cases hx with
          | fz h => cases h
          | on0 => exact absurd rfl hn
          | on1 => exact absurd rfl hn
          | os h1 =>
            rename_i c z1 cap
            rcases H.live b _ _ es hb with ⟨k1, _⟩ | ⟨c', cs, k1, k2, k3, k4⟩
            · rw [h1] at k1; cases k1
            · rw [h1] at k1; cases k1
              have hl := k4.length
              rw [flatT_len k3] at hl
              have hyl := hvy.length
              rw [flatT_len hsy] at hyl
              have hoz : o * z' + n * z' ≤ es.length * z' := by rw [← Nat.add_mul]; exact Nat.mul_le_mul_right _ hle
              have hkl : (ys.take (min ys.length n)).length = min ys.length n := by rw [List.length_take]; omega
              have hkn : min ys.length n * z' ≤ n * z' := Nat.mul_le_mul_right _ (Nat.min_le_right _ _)
              have hky : min ys.length n * z' ≤ ys.length * z' := Nat.mul_le_mul_right _ (Nat.min_le_left _ _)
              obtain ⟨g1, g2⟩ := HT.set (tlo := tlo) H hb h1 k2 (es' := es.take o ++ (ys.take (min ys.length n) ++ es.drop (o + min ys.length n)))
                (cs' := setAt cs (o * z') (csy.take (min ys.length n * z'))) (sized_append (sized_take k3 _) (sized_append (sized_take hsy _) (sized_drop k3 _)))
                (by
                  rw [flat_append, flat_append, flat_take k3, flat_take hsy, flat_drop k3, setAt_G, setG_eq _ _ _ (by rw [List.length_take]; omega)]
                  rw [List.append_assoc]
                  refine (k4.take _).append ((hvy.take _).append ?_)
                  rw [List.length_take, show min (min ys.length n * z') csy.length = min ys.length n * z' by omega, ← Nat.add_mul]
                  exact k4.drop _) htl
              simp only [aop, hvx, ey]
              rw [ey] at hry
              simp only [hry, k2]
              rw [if_pos ⟨hlo b c z' htl h1, by omega⟩]
              exact ⟨_, _, φ, rfl, .fz (.p rfl), g1, g2⟩
        · cases ha
      · cases ha
    · cases ha
  | cvI k x =>
    simp only [top] at ha
    obtain ⟨n, h1, ha⟩ := Option.map_eq_some_iff.1 ha
    cases ha
    simp only [aop, getIT_ok (hρ x) h1, Option.map_some]
    exact Snd.p H rfl
  | cvBS x =>
    simp only [top] at ha
    obtain ⟨es, h1, ha⟩ := Option.bind_eq_some_iff.1 ha
    obtain ⟨bs, h2, ha⟩ := Option.map_eq_some_iff.1 ha
    cases ha
    obtain ⟨cs, a, c, k1, k2, k3⟩ := rdT_ok H (hρ x) h1 (u8s_ok (φ := φ) (Φ := Φ) (cs := []) h2).1
    simp only [aop, k2, Option.bind_some, (u8s_ok h2).2 k3, Option.map_some]
    exact Snd.p H rfl
  | sl z x l r => exact sl_ok H hρ ha
  | slT x l r =>
    simp only [top] at ha
    split at ha
    · rename_i s hx
      obtain ⟨l', hl, ha⟩ := Option.bind_eq_some_iff.1 ha
      obtain ⟨r', hr, ha⟩ := Option.bind_eq_some_iff.1 ha
      split at ha
      · rename_i hc; cases ha
        have hxx := hρ x
        rw [hx] at hxx
        simp only [aop, hxx.p_inv.1, optIT_ok hρ hl, optIT_ok hρ hr]
        rw [if_pos hc]
        exact Snd.p H rfl
      · cases ha
    · cases ha
  | fa x off =>
    simp only [top] at ha
    have hx := hρ x
    split at ha
    · rename_i b i o hxe
      cases ha
      rw [hxe] at hx
      generalize hvx : ρA x = vx at hx
      cases hx with
      | fz h => cases h
      | op h1 =>
        simp only [aop, hvx, getP, Option.map_some]
        refine Snd.same H ?_
        have := VT.op (Φ := Φ) (i := i) (o := o + off) h1
        simpa [ptr, Nat.add_assoc] using this
    · rename_i e o hxe
      cases ha
      rw [hxe] at hx
      generalize hvx : ρA x = vx at hx
      cases hx with
      | fz h =>
        cases h with
        | fe h1 h2 h3 =>
          simp only [aop, hvx, getP, Option.map_some]
          refine Snd.same H (.fz ?_)
          have := VF.fe (o := o + off) h1 h2 h3
          simpa [ptr, Nat.add_assoc] using this
    · cases ha
  | fld x off =>
    simp only [top] at ha
    have hx := hρ x
    split at ha
    · rename_i cs hxe
      obtain ⟨t, h1, ha⟩ := Option.map_eq_some_iff.1 ha
      cases ha
      rw [hxe] at hx
      generalize hvx : ρA x = vx at hx
      have : ∃ vs, vx = .agg ⟨vs⟩ ∧ VTs φ Φ cs vs := by
        cases hx with
        | fz h => cases h with | agg h => exact ⟨_, rfl, VTs.fz h⟩
        | agg h => exact ⟨_, rfl, h⟩
      obtain ⟨vs, rfl, hvs⟩ := this
      obtain ⟨v, hv, r⟩ := hvs.get off _ h1
      simp only [aop, hvx, hv, Option.map_some]
      exact Snd.same H r
    · cases ha
  | fldn n x off =>
    simp only [top] at ha
    have hx := hρ x
    split at ha
    · rename_i cs hxe
      split at ha
      · rename_i hle
        cases ha
        rw [hxe] at hx
        generalize hvx : ρA x = vx at hx
        have : ∃ vs, vx = .agg ⟨vs⟩ ∧ VTs φ Φ cs vs := by
          cases hx with
          | fz h => cases h with | agg h => exact ⟨_, rfl, VTs.fz h⟩
          | agg h => exact ⟨_, rfl, h⟩
        obtain ⟨vs, rfl, hvs⟩ := this
        have hl := hvs.length
        simp only [aop, hvx]
        rw [if_pos (by omega)]
        exact Snd.same H (.agg ((hvs.drop off).take n))
      · cases ha
    · cases ha
  | ia z x i =>
    simp only [top] at ha
    obtain ⟨n, hn, ha⟩ := Option.bind_eq_some_iff.1 ha
    have hi := getIT_ok (hρ i) hn
    have hx := hρ x
    split at ha
    · rename_i es hxe
      split at ha
      · rename_i h0
        obtain ⟨e, he, ha⟩ := Option.bind_eq_some_iff.1 ha
        split at ha
        · rename_i hz
          cases ha
          rw [hxe] at hx
          generalize hvx : ρA x = vx at hx
          have hlt := (List.getElem?_eq_some_iff.1 he).1
          cases hx with
          | fz h =>
            cases h with
            | s0 => simp at hlt
            | s1 => simp at hlt
            | s h1 h2 h3 h4 =>
              rename_i c off cs cap z'
              have hzz : z' = z := by rw [← hz]; exact (sized_iff.1 h3 e (List.mem_of_getElem? he)).symm
              subst hzz
              simp only [aop, hvx, hi]
              rw [if_pos (by omega)]
              refine Snd.same H (.fz ?_)
              have hiz : n.toNat * z' + z' ≤ es.length * z' := by have := Nat.mul_le_mul_right z' (show n.toNat + 1 ≤ es.length by omega); rw [Nat.add_mul] at this; omega
              have hcut : VFs Φ (cellsT e) ((cs.drop (off + n.toNat * z')).take (cellsT e).length) := by
                rw [hz, ← flat_cut h3 he]
                have gen : ∀ (a : List TV) (b : List Value) (p q : Nat), VFs Φ a b → VFs Φ ((a.drop p).take q) ((b.drop p).take q) := by
                  intro a
                  induction a with
                  | nil => intro b p q h; cases h; simpa using VFs.nil
                  | cons t a ih =>
                    intro b p q h
                    cases h with
                    | cons h1 h2 =>
                      cases p with
                      | succ p => simpa using ih _ p q h2
                      | zero =>
                        cases q with
                        | zero => simpa using VFs.nil
                        | succ q => simpa using VFs.cons h1 (by simpa using ih _ 0 q h2)
                have := gen _ _ (n.toNat * z') z' h4
                rw [List.drop_take, List.drop_drop, List.take_take] at this
                rw [show min z' (es.length * z' - n.toNat * z') = z' by omega] at this
                exact this
              have := VF.fe (o := 0) h1 (off := off + n.toNat * z') (by omega) hcut
              simpa [ptr] using this
        · cases ha
      · cases ha
    · rename_i b o m hxe
      split at ha
      · rename_i hc
        obtain ⟨h0, h1, hz⟩ := hc
        cases ha
        rw [hxe] at hx
        generalize hvx : ρA x = vx at hx
        cases hx with
        | fz h => cases h
        | on0 => omega
        | on1 => omega
        | os h1' =>
          rename_i c z1 cap
          simp only [aop, hvx, hi]
          rw [if_pos ⟨h0, h1⟩]
          refine Snd.same H ?_
          simp only [zAt] at hz
          split at hz
          · rename_i e' z' es hb
            simp only [beq_iff_eq] at hz
            subst hz
            rcases H.live b _ _ es hb with ⟨k1, _⟩ | ⟨c', cs, k1, _, _, _⟩
            · rw [h1'] at k1; cases k1
            · rw [h1'] at k1; cases k1
              have := VT.op (Φ := Φ) (i := o + n.toNat) (o := 0) h1'
              simpa [ptr, Nat.add_mul] using this
          · cases hz
      · cases ha
    · cases ha
  | ix x i =>
    simp only [top] at ha
    obtain ⟨v, h1, ha⟩ := Option.map_eq_some_iff.1 ha
    cases ha
    unfold pI at h1
    split at h1
    · rename_i s n hx hn
      split at h1
      · rename_i h0
        obtain ⟨b, hb, rfl⟩ := Option.map_eq_some_iff.1 h1
        have hxx := hρ x
        rw [hx] at hxx
        simp only [aop, hxx.p_inv.1, getIT_ok (hρ i) hn]
        rw [if_pos h0, hb]
        exact Snd.p H rfl
      · cases h1
    · cases h1
  | fn f cs =>
    simp only [top] at ha; cases ha
    simp only [aop]
    exact Snd.same H (.fn (VTs.map cs _ _ fun x _ => hρ x))
  | ext x i =>
    simp only [top] at ha
    have hx := hρ x
    split at ha
    · rename_i cs hxe
      obtain ⟨t, h1, ha⟩ := Option.map_eq_some_iff.1 ha
      cases ha
      rw [hxe] at hx
      generalize hvx : ρA x = vx at hx
      have : ∃ vs, vx = .tuple ⟨vs⟩ ∧ VTs φ Φ cs vs := by
        cases hx with
        | fz h => cases h with | tup h => exact ⟨_, rfl, VTs.fz h⟩
        | tup h => exact ⟨_, rfl, h⟩
      obtain ⟨vs, rfl, hvs⟩ := this
      obtain ⟨v, hv, r⟩ := hvs.get i _ h1
      simp only [aop, hvx, hv, Option.map_some]
      exact Snd.same H r
    · cases ha
  | nilc x =>
    simp only [top] at ha
    have hx := hρ x
    split at ha
    · rename_i b i o hxe
      cases ha
      rw [hxe] at hx
      have hx' := hx
      generalize hvx : ρA x = vx at hx
      cases hx with
      | fz h => cases h
      | op h1 =>
        simp only [aop, hvx, getP, Option.map_some]
        exact Snd.same H (.op h1)
    · rename_i e o hxe
      cases ha
      rw [hxe] at hx
      generalize hvx : ρA x = vx at hx
      cases hx with
      | fz h =>
        have h0 := h
        cases h with
        | fe h1 h2 h3 =>
          simp only [aop, hvx, getP, Option.map_some]
          exact Snd.same H (.fz h0)
    · cases ha
  | len x =>
    simp only [top] at ha
    have hx := hρ x
    split at ha
    · rename_i es hxe
      cases ha
      rw [hxe] at hx
      generalize hvx : ρA x = vx at hx
      cases hx with
      | fz h =>
        cases h with
        | s0 => simp only [aop, hvx]; exact Snd.p H rfl
        | s1 => simp only [aop, hvx]; exact Snd.p H rfl
        | s h1 h2 h3 h4 => simp only [aop, hvx]; exact Snd.p H rfl
    · rename_i b o n hxe
      cases ha
      rw [hxe] at hx
      generalize hvx : ρA x = vx at hx
      cases hx with
      | fz h => cases h
      | on0 => simp only [aop, hvx]; exact Snd.p H rfl
      | on1 => simp only [aop, hvx]; exact Snd.p H rfl
      | os h1 => simp only [aop, hvx]; exact Snd.p H rfl
    · rename_i hxe
      cases ha
      rw [hxe] at hx
      generalize hvx : ρA x = vx at hx
      cases hx with
      | fz h =>
        cases h with
        | nl0 => simp only [aop, hvx]; exact Snd.p H rfl
        | nl1 => simp only [aop, hvx]; exact Snd.p H rfl
    · cases ha
  | lenT x =>
    simp only [top] at ha
    have hx := hρ x
    split at ha
    · rename_i s hxe
      cases ha
      rw [hxe] at hx
      simp only [aop, hx.p_inv.1]
      exact Snd.p H rfl
    · cases ha
  | app e z bts x y => exact app_ok H hlo hρ ha
  | mkSl e z bts zc l c =>
    simp only [top] at ha
    obtain ⟨l', hl, ha⟩ := Option.bind_eq_some_iff.1 ha
    obtain ⟨c', hc, ha⟩ := Option.bind_eq_some_iff.1 ha
    split at ha
    · rename_i hh
      obtain ⟨h0, h1, h2, h3, h4, h5⟩ := hh
      cases ha
      simp only [aop, getIT_ok (hρ l) hl, getIT_ok (hρ c) hc]
      rw [if_pos ⟨h0, h1, h2, h3⟩]
      have he := el_cells (ofV1s_one h5)
      have hf : ∀ n, flatT (List.replicate n (el (zc.map ofV1))) = (List.replicate n (zc.map ofV1)).flatten := by
        intro n
        induction n with
        | zero => rfl
        | succ n ih => rw [List.replicate_succ, flat_cons, ih, he, List.replicate_succ, List.flatten_cons]
      have hv : ∀ n, VTs φ Φ ((List.replicate n (zc.map ofV1)).flatten) (List.replicate n zc).flatten := by
        intro n
        induction n with
        | zero => exact .nil
        | succ n ih => rw [List.replicate_succ, List.replicate_succ, List.flatten_cons, List.flatten_cons]; exact (ofV1s_ok h4).append ih
      exact (new_ok H (sized_iff.2 fun x hx => by rw [(List.mem_replicate.1 hx).2, he]; simp) (by rw [hf]; exact hv _)).1
    · cases ha
  | call f as =>
    simp only [top] at ha
    obtain ⟨sp, hs, ha⟩ := Option.bind_eq_some_iff.1 ha
    obtain ⟨spA, k1, k2⟩ := hΓ f sp hs
    simp only [aop, k1, Option.bind_some]
    exact k2.1 φ Φ hT hA lo tlo _ _ tv hT' H hlo hla (VTs.map as _ _ fun x _ => hρ x) ha
  | callv x as =>
    simp only [top] at ha
    have hx := hρ x
    split at ha
    · rename_i f cs hxe
      obtain ⟨sp, hs, ha⟩ := Option.bind_eq_some_iff.1 ha
      obtain ⟨spA, k1, k2⟩ := hΓ f sp hs
      rw [hxe] at hx
      generalize hvx : ρA x = vx at hx
      have : ∃ vs, vx = .func (.func f) ⟨[]⟩ ⟨vs⟩ ∧ VTs φ Φ cs vs := by
        cases hx with
        | fz h => cases h with | fn h => exact ⟨_, rfl, VTs.fz h⟩
        | fn h => exact ⟨_, rfl, h⟩
      obtain ⟨vs, rfl, hvs⟩ := this
      simp only [aop, hvx, k1, Option.bind_some]
      exact k2.1 φ Φ hT hA lo tlo _ _ tv hT' H hlo hla ((VTs.map as _ _ fun x _ => hρ x).append hvs) ha
    · cases ha
end
end Go.AH
