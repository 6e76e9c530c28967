import Derived.Test.YtngebdcbcliobaaT3
set_option linter.unusedVariables false
namespace Go.AH
section
variable {φ φ' : Own} {Φ : Frz} {hT hT' : THeap} {hA hA' : Heap} {tlo lo : Nat} {Γ : Ctx} {ΓT : TCtx} {ρT : Opd → TV} {ρA : Opd → Value} {tv : TV}

theorem app_ok (H : HT φ Φ hT hA) (hlo : ∀ b c z, tlo ≤ b → φ b = some (c, z) → lo ≤ c) (hρ : ∀ x, VT φ Φ (ρT x) (ρA x)) {e : TypeId} {z bts : Nat} {x y : Opd}
    (ha : top ΓT tlo ρT hT (.app e z bts x y) = some (tv, hT')) : Snd Φ φ tlo hT hT' hA tv (aop Γ lo ρA hA (.app e z bts x y)) := by
  simp only [top] at ha
  obtain ⟨ys, hys, ha⟩ := Option.bind_eq_some_iff.1 ha
  have key : ∀ (a : Option Addr) (xs : List TV) (n : Nat) (csx csy : List Value) (ay : Option Addr) (cy cx : Nat), ρA x = .slice a n cx → ρA y = .slice ay ys.length cy → rdS hA z (ρA x) = some csx → rdS hA z (ρA y) = some csy →
      VTs φ Φ (flatT xs) csx → VTs φ Φ (flatT ys) csy → sizedT z xs = true → sizedT z ys = true → xs.length = n → (n + ys.length) * bts ≤ 140737488355328 → n + ys.length ≤ maxLen →
      ∀ (hT1 : THeap), hT1.length = hT.length → (∀ (b : Nat) (e : TypeId) (z : Nat) (es : List TV), hT1[b]? = some (TB.cells e z es) → hT[b]? = some (TB.cells e z es)) →
      ((a = none ∨ ∃ p q s, a = some ⟨p, q, some s⟩) ∧ n = 0 ∨ ∃ (b c z1 : Nat) (bs : List Value), a = some ⟨c, 0, none⟩ ∧ φ b = some (c, z1) ∧ hA[c]? = some (Blk.cells e bs) ∧ tlo ≤ b ∧ (∀ (b' : Nat) (e : TypeId) (z : Nat) (es : List TV), hT1[b']? = some (TB.cells e z es) → b' ≠ b)) →
      Snd Φ φ tlo hT (hT1 ++ [.cells e z (xs ++ ys)]) hA (.os hT.length 0 (n + ys.length)) (aop Γ lo ρA hA (.app e z bts x y)) := by
    intro a xs n csx csy ay cy cx ex ey hrx hry hvx hvy hsx hsy hxl hb1 hb2 hT1 hl1 hlive hcase
    have hs := sized_append hsx hsy
    have hv : VTs φ Φ (flatT (xs ++ ys)) (csx ++ csy) := by rw [flat_append]; exact hvx.append hvy
    have hop : aop Γ lo ρA hA (.app e z bts x y) = (match (generalizing := false) a with
          | none => if ys.length = 0 then some (.slice none 0 0, hA) else some (slc hA.length 0 (n + ys.length), hA ++ [.cells e (csx ++ csy)])
          | some ⟨_, _, some _⟩ => if ys.length = 0 then some (ρA x, hA) else some (slc hA.length 0 (n + ys.length), hA ++ [.cells e (csx ++ csy)])
          | some ⟨b, 0, none⟩ => match hA[b]? with
            | some (.cells e' _) => if lo ≤ b ∧ e' = e then some (slc hA.length 0 (n + ys.length), hA.set b .dead ++ [.cells e (csx ++ csy)]) else none
            | _ => none
          | _ => none) := by
      rw [ex] at hrx ⊢
      rw [ey] at hry
      simp only [aop, ex, ey, hrx, hry]
      rw [if_pos ⟨hb1, hb2⟩]
      rcases a with _ | ⟨p, q, s⟩
      · rfl
      · rcases s with _ | s
        · cases q <;> rfl
        · rfl
    rw [hop]
    rcases hcase with ⟨ha0, hn0⟩ | ⟨b, c, z1, bs, rfl, hφ, hbs, htl, hdead⟩
    · subst hn0
      have hxs : xs = [] := List.eq_nil_of_length_eq_zero hxl
      subst hxs
      have hcsx : csx = [] := by cases hvx; rfl
      subst hcsx
      simp only [List.nil_append, Nat.zero_add] at hv hs ⊢
      by_cases hy0 : ys.length = 0
      · have hysn : ys = [] := List.eq_nil_of_length_eq_zero hy0
        subst hysn
        obtain ⟨g1, g2⟩ := growN (tlo := tlo) H hT1 hl1 hlive e z
        rcases ha0 with rfl | ⟨p, q, s, rfl⟩
        · exact ⟨_, hA, φ, by simp, .on0 _ _, g1, g2⟩
        · exact ⟨ρA x, hA, φ, by simp, by rw [ex]; exact .on1 _ _ _ _ _ _, g1, g2⟩
      · obtain ⟨φ', g1, g2, g3⟩ := grow (tlo := tlo) H hT1 hA hl1 rfl (fun b e z es h => ⟨hlive b e z es h, fun _ _ _ => rfl⟩) (fun _ _ _ => rfl) (fun _ _ => rfl) (e := e) hs hv
        have hvt : VT φ' Φ (.os hT.length 0 ys.length) (slc hA.length 0 ys.length) := by
          have := VT.os (Φ := Φ) (b := hT.length) (o := 0) (n := ys.length) (cap := ys.length) g3
          simpa [slc] using this
        rcases ha0 with rfl | ⟨p, q, s, rfl⟩
        · exact ⟨slc hA.length 0 ys.length, hA ++ [.cells e csy], φ', by simp [hy0], hvt, g1, g2⟩
        · exact ⟨slc hA.length 0 ys.length, hA ++ [.cells e csy], φ', by simp [hy0], hvt, g1, g2⟩
    · have hcl := (List.getElem?_eq_some_iff.1 hbs).1
      obtain ⟨φ', g1, g2, g3⟩ := grow (tlo := tlo) H hT1 (hA.set c .dead) hl1 (by simp)
        (fun b' e' z' es' h => ⟨hlive b' e' z' es' h, fun c' z2 h2 => List.getElem?_set_ne fun x => hdead b' e' z' es' h (H.inj b' b c' z2 z1 h2 (by rw [← x]; exact hφ))⟩)
        (fun c' cs' h => List.getElem?_set_ne fun x => H.disj b c z1 cs' hφ (by rw [x]; exact h))
        (fun c' hn => List.getElem?_set_ne fun x => hn b z1 htl (by rw [hφ, x])) (e := e) hs hv
      have hlc := hlo b c z1 htl hφ
      simp only [hbs]
      rw [if_pos ⟨hlc, trivial⟩]
      refine ⟨_, _, φ', rfl, ?_, g1, g2⟩
      have := VT.os (Φ := Φ) (b := hT.length) (o := 0) (n := n + ys.length) (cap := n + ys.length) g3
      simpa [slc] using this
  split at ha
  · rename_i hx
    split at ha
    · rename_i hc
      cases ha
      obtain ⟨csy, ay, cy, ey, hry, hvy⟩ := rdT_ok H (hρ y) hys hc.1
      have hvx := hρ x
      rw [hx] at hvx
      have := fun a cx ex hrx => key a [] 0 [] csy ay cy cx ex ey hrx hry (by simpa [flatT] using VTs.nil) hvy rfl hc.1 rfl (by simpa using hc.2.1) (by simpa using hc.2.2) hT rfl (fun _ _ _ _ h => h)
      simp only [List.nil_append, Nat.zero_add] at this
      cases hvx with
      | fz h =>
        generalize hvv : ρA x = vx at h
        cases h with
        | nl0 => exact this none 0 hvv (by rw [hvv]; rfl) (.inl ⟨.inl rfl, trivial⟩)
        | nl1 p q s c => exact this _ c hvv (by rw [hvv]; rfl) (.inl ⟨.inr ⟨_, _, _, rfl⟩, trivial⟩)
    · cases ha
  · rename_i b o n hx
    split at ha
    · rename_i e' z' es hb
      split at ha
      · rename_i hc
        obtain ⟨rfl, hn, htl, rfl, hzz, hsy, hb1, hb2⟩ := hc
        cases ha
        obtain ⟨csy, ay, cy, ey, hry, hvy⟩ := rdT_ok H (hρ y) hys hsy
        have hvx := hρ x
        rw [hx] at hvx
        have hr0 : rdT hT (.os b 0 n) = some (es.take n) := by simp only [rdT, hb]; rw [if_pos (by omega)]; simp
        have hbl := (List.getElem?_eq_some_iff.1 hb).1
        have hsx : sizedT z (es.take n) = true := by
          rcases hzz with rfl | rfl
          · rcases H.live b _ _ es hb with ⟨_, k2⟩ | ⟨_, _, _, _, k3, _⟩
            · subst k2; simp [sizedT]
            · exact sized_take k3 n
          · simp [sizedT]
        obtain ⟨csx, ax, cx, ex, hrx, hvxs⟩ := rdT_ok H hvx hr0 hsx
        have hxl : (es.take n).length = n := by simp; omega
        rw [hxl] at ex
        refine key ax (es.take n) n csx csy ay cy cx ex ey hrx hry hvxs hvy hsx hsy hxl hb1 hb2 (hT.set b .dead) (by simp) (fun b' e1 z1 es1 h => ?_) ?_
        · by_cases hbb : b' = b
          · subst hbb; rw [List.getElem?_set_self hbl] at h; cases h
          · rw [List.getElem?_set_ne (fun x => hbb x.symm)] at h; exact h
        · generalize hvv : ρA x = vx at hvx
          rw [hvv] at ex
          cases hvx with
          | fz h => cases h
          | on0 => cases ex; exact .inl ⟨.inl rfl, rfl⟩
          | on1 => cases ex; exact .inl ⟨.inr ⟨_, _, _, rfl⟩, rfl⟩
          | os h1 =>
            rename_i c z1 cap
            simp only [Nat.zero_mul, Value.slice.injEq] at ex
            obtain ⟨ex, _, _⟩ := ex
            rcases H.live b _ _ es hb with ⟨k1, _⟩ | ⟨c', cs, k1, k2, _, _⟩
            · rw [h1] at k1; cases k1
            · rw [h1] at k1; cases k1
              refine .inr ⟨b, c, _, cs, ex.symm, h1, k2, htl, fun b' e1 z1 es1 h hbb => ?_⟩
              subst hbb; rw [List.getElem?_set_self hbl] at h; cases h
      · cases ha
    · cases ha
  · cases ha

theorem sl_ok (H : HT φ Φ hT hA) (hρ : ∀ x, VT φ Φ (ρT x) (ρA x)) {z : Nat} {x : Opd} {l' r' : Option Opd}
    (ha : top ΓT tlo ρT hT (.sl z x l' r') = some (tv, hT')) : Snd Φ φ tlo hT hT' hA tv (aop Γ lo ρA hA (.sl z x l' r')) := by
  simp only [top] at ha
  have hvx := hρ x
  -- what the heap's own slicing does
  have run : ∀ (a : Option Addr) (n c : Nat) (l r : Int) (v : Value), ρA x = .slice a n c → optIT ρT 0 l' = some l → optIT ρT n r' = some r → 0 ≤ l → l ≤ r → r ≤ n → slOut z l.toNat (r - l).toNat a = some v →
      aop Γ lo ρA hA (.sl z x l' r') = some (v, hA) := by
    intro a n c l r v ex hl hr h0 h1 h2 hv
    simp only [aop, ex, optIT_ok hρ hl, optIT_ok hρ hr]
    rw [if_pos ⟨h0, h1, h2⟩, hv]; rfl
  split at ha
  · rename_i es hx
    rw [hx] at hvx
    obtain ⟨l, hl, ha⟩ := Option.bind_eq_some_iff.1 ha
    obtain ⟨r, hr, ha⟩ := Option.bind_eq_some_iff.1 ha
    split at ha
    · rename_i hc
      obtain ⟨h0, h1, h2, hz⟩ := hc
      cases ha
      cases hvx with
      | fz h =>
        generalize hvv : ρA x = vx at h
        cases h with
        | s0 =>
          rw [run none 0 0 l r _ hvv hl hr h0 h1 h2 rfl]
          exact Snd.same H (.fz (by simpa using VF.s0))
        | s1 b o s c =>
          have e1 : l.toNat = 0 := by simp at h2; omega
          have e2 : (r - l).toNat = 0 := by simp at h2; omega
          rw [run _ 0 c l r (.slice (some ⟨b, o, some s⟩) 0 0) hvv hl hr h0 h1 h2 (by simp [slOut, e1, e2])]
          exact Snd.same H (.fz (by simpa [e1, e2] using VF.s1 b o s 0))
        | s k1 k2 k3 k4 =>
          rename_i c off cs cap z'
          rw [run _ _ cap l r _ hvv hl hr h0 h1 h2 rfl]
          refine Snd.same H (.fz ?_)
          have hlen : ((es.drop l.toNat).take (r - l).toNat).length = (r - l).toNat := by simp; omega
          have hzz : es = [] ∨ z' = z := by
            cases es with
            | nil => exact .inl rfl
            | cons a t => right; rw [← sized_iff.1 k3 a (by simp), ← sized_iff.1 hz a (by simp)]
          have hle : l.toNat * z' + (r - l).toNat * z' ≤ es.length * z' := by rw [← Nat.add_mul]; exact Nat.mul_le_mul_right _ (by omega)
          have hnew := VF.s (Φ := Φ) (es := (es.drop l.toNat).take (r - l).toNat) (off := off + l.toNat * z') (cap := (r - l).toNat) (z := z') k1 (by rw [hlen]; omega) (sized_take (sized_drop k3 _) _)
            (by
              rw [hlen, flat_take (sized_drop k3 _), flat_drop k3]
              have e3 : (cs.drop (off + l.toNat * z')).take ((r - l).toNat * z') = (((cs.drop off).take (es.length * z')).drop (l.toNat * z')).take ((r - l).toNat * z') := by
                rw [List.drop_take, List.drop_drop, List.take_take]
                congr 1; omega
              rw [e3]
              have gen : ∀ (a : List TV) (b : List Value) (p q : Nat), VFs Φ a b → VFs Φ ((a.drop p).take q) ((b.drop p).take q) := by
                intro a
                induction a with
                | nil => intro b p q h; cases h; simpa using VFs.nil
                | cons t a ih =>
                  intro b p q h
                  cases h with
                  | cons h1 h2 =>
                    cases p with
                    | succ p => simpa using ih _ p q h2
                    | zero =>
                      cases q with
                      | zero => simpa using VFs.nil
                      | succ q => simpa using VFs.cons h1 (by simpa using ih _ 0 q h2)
              exact gen _ _ _ _ k4)
          rw [hlen] at hnew
          rcases hzz with rfl | rfl
          · have e1 : l.toNat = 0 := by simp at h2; omega
            simp only [slc]
            simpa [e1] using hnew
          · exact hnew
    · cases ha
  · rename_i b o n hx
    rw [hx] at hvx
    obtain ⟨l, hl, ha⟩ := Option.bind_eq_some_iff.1 ha
    obtain ⟨r, hr, ha⟩ := Option.bind_eq_some_iff.1 ha
    split at ha
    · rename_i hc
      obtain ⟨h0, h1, h2, hz⟩ := hc
      cases ha
      generalize hvv : ρA x = vx at hvx
      cases hvx with
      | fz h => cases h
      | on0 =>
        have e2 : (r - l).toNat = 0 := by simp at h2; omega
        rw [run none 0 0 l r _ hvv hl hr h0 h1 h2 rfl, e2]
        exact Snd.same H (.on0 _ _)
      | on1 b o p q s c =>
        have e1 : l.toNat = 0 := by simp at h2; omega
        have e2 : (r - l).toNat = 0 := by simp at h2; omega
        rw [run _ 0 c l r (.slice (some ⟨p, q, some s⟩) 0 0) hvv hl hr h0 h1 h2 (by simp [slOut, e1, e2]), e2]
        exact Snd.same H (.on1 _ _ _ _ _ _)
      | os h1' =>
        rename_i c z1 cap
        rw [run _ n cap l r _ hvv hl hr h0 h1 h2 rfl]
        refine Snd.same H ?_
        have := VT.os (Φ := Φ) (o := o + l.toNat) (n := (r - l).toNat) (cap := (r - l).toNat) h1'
        rcases hz with rfl | hz
        · simpa [slc] using this
        · simp only [zAt] at hz
          split at hz
          · rename_i e' z' es hb
            simp only [beq_iff_eq] at hz
            subst hz
            rcases H.live b _ _ es hb with ⟨k1, _⟩ | ⟨c', cs, k1, _, _, _⟩
            · rw [h1'] at k1; cases k1
            · rw [h1'] at k1; cases k1
              simpa [slc, Nat.add_mul] using this
          · cases hz
    · cases ha
  · rename_i hx
    rw [hx] at hvx
    obtain ⟨l, hl, ha⟩ := Option.bind_eq_some_iff.1 ha
    obtain ⟨r, hr, ha⟩ := Option.bind_eq_some_iff.1 ha
    split at ha
    · rename_i hc
      obtain ⟨h1, h2⟩ := hc
      cases ha
      subst h1; subst h2
      cases hvx with
      | fz h =>
        generalize hvv : ρA x = vx at h
        cases h with
        | nl0 =>
          rw [run none 0 0 0 0 _ hvv hl hr (by omega) (by omega) (by simp) rfl]
          exact Snd.same H (.fz .nl0)
        | nl1 b o s c =>
          rw [run _ 0 c 0 0 (.slice (some ⟨b, o, some s⟩) 0 0) hvv hl hr (by omega) (by omega) (by simp) (by simp [slOut])]
          exact Snd.same H (.fz (.nl1 _ _ _ _))
    · cases ha
  · cases ha
end
end Go.AH
