import Derived.Test.YtngebdcbcliobaaT8
set_option linter.unusedVariables false
namespace Go.AH
open Go.RowKit (Below)

def RetT (res : List AR) (r : TV) (hL : THeap) (s : TSt) : Prop := ∃ tv, rresT s res = some tv ∧ Le 0 ⟨fun _ => tv, s.h⟩ ⟨fun _ => r, hL⟩
def EndT (res : List AR) (r : TV) (hL : THeap) (e : Exit) (s : TSt) : Prop := (e = .normal ∨ e = .ret) ∧ RetT res r hL s

def pureSp (F : List TV → Option (TV × THeap)) : TSp := ⟨fun _ args h => (F (args.map (frzT h 9))).map fun r => (renT (fun b => b + h.length) r.1, h ++ r.2.map (renB fun b => b + h.length)), fun _ _ _ _ => False⟩
/-- A callee whose answer may share what it was given: nothing of the caller's own may be handed in. -/
def shareSp (F : List TV → Option (TV × THeap)) : TSp := ⟨fun _ args h => if noOwns args = true then (F (args.map (frzT h 9))).map fun r => (renT (fun b => b + h.length) r.1, h ++ r.2.map (renB fun b => b + h.length)) else none, fun _ _ _ _ => False⟩
/-- A callee that may write what is handed in. -/
def relSp (R : List TV → THeap → TV → THeap → Prop) : TSp := ⟨fun _ _ _ => none, R⟩

def OkT (P : Program) (f : Nat) (tsp : TSp) : Prop := ∃ spA, Ok P f spA ∧ CompatT spA tsp
def OkΓT (P : Program) (ΓT : TCtx) : Prop := ∃ Γ, OkΓ P Γ ∧ OkG Γ ΓT
theorem OkΓT.nil (P : Program) : OkΓT P [] := ⟨[], OkΓ.nil P, fun _ _ h => by cases h⟩
theorem OkΓT.cons {P : Program} {ΓT : TCtx} {f : Nat} {tsp : TSp} (h : OkT P f tsp) (k : OkΓT P ΓT) : OkΓT P ((f, tsp) :: ΓT) := by
  obtain ⟨spA, h1, h2⟩ := h
  obtain ⟨Γ, k1, k2⟩ := k
  refine ⟨(f, spA) :: Γ, OkΓ.cons h1 k1, fun g s hg => ?_⟩
  simp only [TCtx.get] at hg
  simp only [Ctx.get]
  split at hg
  · rename_i e; cases hg; exact ⟨spA, by rw [if_pos e], h2⟩
  · rename_i e; rw [if_neg e]; exact k2 g s hg

section
variable {Φ Φ' : Frz} {φ φ' φL : Own} {hT hL : THeap} {hA hA' : Heap} {k lo tlo : Nat}
mutual
theorem vt_own : ∀ (t : TV) {v : Value}, VT φ Φ t v → ownT t = true → VT φ Φ' t v
  | .p x, v, h, _ => by cases h with | fz h => cases h with | p h => exact .fz (.p h)
  | .nl, v, h, _ => by cases h with | fz h => cases h with | nl0 => exact .fz .nl0 | nl1 => exact .fz (.nl1 _ _ _ _)
  | .s es, v, h, k => by simp [ownT] at k
  | .fe e o, v, h, k => by simp [ownT] at k
  | .any, v, h, _ => .fz (.any _)
  | .ub, v, h, _ => by cases h with | fz h => cases h with | ub b => exact .fz (.ub b)
  | .os b o n, v, h, _ => by
    cases h with
    | fz h => cases h
    | on0 => exact .on0 _ _
    | on1 => exact .on1 _ _ _ _ _ _
    | os h => exact .os h
  | .op b i o, v, h, _ => by
    cases h with
    | fz h => cases h
    | op h => exact .op h
  | .agg cs, v, h, k => by
    simp only [ownT] at k
    cases h with
    | fz h => cases h with | agg h => exact .agg (vts_own cs (VTs.fz h) k)
    | agg h => exact .agg (vts_own cs h k)
  | .tup cs, v, h, k => by
    simp only [ownT] at k
    cases h with
    | fz h => cases h with | tup h => exact .tup (vts_own cs (VTs.fz h) k)
    | tup h => exact .tup (vts_own cs h k)
  | .fn f cs, v, h, k => by
    simp only [ownT] at k
    cases h with
    | fz h => cases h with | fn h => exact .fn (vts_own cs (VTs.fz h) k)
    | fn h => exact .fn (vts_own cs h k)
theorem vts_own : ∀ (ts : List TV) {vs : List Value}, VTs φ Φ ts vs → ownTs ts = true → VTs φ Φ' ts vs
  | [], _, h, _ => by cases h; exact .nil
  | t :: ts, _, h, k => by
    simp only [ownTs, Bool.and_eq_true] at k
    cases h with | cons a b => exact .cons (vt_own t a k.1) (vts_own ts b k.2)
end
mutual
theorem VT.ren {ρ : Nat → Nat} (hr : ∀ b x, φ b = some x → φ' (ρ b) = some x) : ∀ (t : TV) {v : Value}, VT φ Φ t v → VT φ' Φ (renT ρ t) v
  | .p x, v, h => by cases h with | fz h => exact .fz h
  | .nl, v, h => by cases h with | fz h => exact .fz h
  | .s es, v, h => by cases h with | fz h => exact .fz h
  | .fe e o, v, h => by cases h with | fz h => exact .fz h
  | .any, v, h => .fz (.any _)
  | .ub, v, h => by cases h with | fz h => exact .fz h
  | .os b o n, v, h => by
    cases h with
    | fz h => cases h
    | on0 => exact .on0 _ _
    | on1 => exact .on1 _ _ _ _ _ _
    | os h => exact .os (hr _ _ h)
  | .op b i o, v, h => by
    cases h with
    | fz h => cases h
    | op h => exact .op (hr _ _ h)
  | .agg cs, v, h => by
    cases h with
    | fz h => cases h with | agg h => exact .agg (VTs.ren hr cs (VTs.fz h))
    | agg h => exact .agg (VTs.ren hr cs h)
  | .tup cs, v, h => by
    cases h with
    | fz h => cases h with | tup h => exact .tup (VTs.ren hr cs (VTs.fz h))
    | tup h => exact .tup (VTs.ren hr cs h)
  | .fn f cs, v, h => by
    cases h with
    | fz h => cases h with | fn h => exact .fn (VTs.ren hr cs (VTs.fz h))
    | fn h => exact .fn (VTs.ren hr cs h)
theorem VTs.ren {ρ : Nat → Nat} (hr : ∀ b x, φ b = some x → φ' (ρ b) = some x) : ∀ (ts : List TV) {vs : List Value}, VTs φ Φ ts vs → VTs φ' Φ (renTs ρ ts) vs
  | [], _, h => by cases h; exact .nil
  | t :: ts, _, h => by cases h with | cons a b => exact .cons (VT.ren hr t a) (VTs.ren hr ts b)
end
mutual
theorem frz_shared (hop : TV → TV) : ∀ (t : TV) {v : Value}, VT φ Φ t v → noOwn t = true → VF Φ (frzW hop t) v
  | .nl, v, h, _ => by simp only [frzW]; cases h with | fz h => cases h with | nl0 => exact .s0 | nl1 => exact .s1 _ _ _ _
  | .p x, v, h, _ => by simp only [frzW]; cases h with | fz h => exact h
  | .s es, v, h, _ => by simp only [frzW]; cases h with | fz h => exact h
  | .fe e o, v, h, _ => by simp only [frzW]; cases h with | fz h => exact h
  | .any, v, h, _ => by simp only [frzW]; exact .any _
  | .ub, v, h, _ => by simp only [frzW]; cases h with | fz h => exact h
  | .agg cs, v, h, k => by
    simp only [noOwn] at k
    simp only [frzW]
    cases h with
    | fz h => cases h with | agg h => exact .agg (frz_shareds hop cs (VTs.fz h) k)
    | agg h => exact .agg (frz_shareds hop cs h k)
  | .tup cs, v, h, k => by
    simp only [noOwn] at k
    simp only [frzW]
    cases h with
    | fz h => cases h with | tup h => exact .tup (frz_shareds hop cs (VTs.fz h) k)
    | tup h => exact .tup (frz_shareds hop cs h k)
  | .fn f cs, v, h, k => by
    simp only [noOwn] at k
    simp only [frzW]
    cases h with
    | fz h => cases h with | fn h => exact .fn (frz_shareds hop cs (VTs.fz h) k)
    | fn h => exact .fn (frz_shareds hop cs h k)
  | .os b o m, v, h, k => by simp [noOwn] at k
  | .op b i o, v, h, k => by simp [noOwn] at k
theorem frz_shareds (hop : TV → TV) : ∀ (ts : List TV) {vs : List Value}, VTs φ Φ ts vs → noOwns ts = true → VFs Φ (frzWs hop ts) vs
  | [], _, h, _ => by cases h; exact .nil
  | t :: ts, _, h, k => by
    simp only [noOwns, Bool.and_eq_true] at k
    cases h with | cons a b => exact .cons (frz_shared hop t a k.1) (frz_shareds hop ts b k.2)
end

/-- Beside the caller's blocks stand the callee's. -/
theorem join_ok (H : HT φ Φ hT hA) (HL : HT φL Φ hL hA') {r : TV} {v : Value} (hv : VT φL Φ r v) (hnew : ∀ b c z, φL b = some (c, z) → hA.length ≤ c) (hlen : hA.length ≤ hA'.length) (hfr : ∀ c, c < hA.length → hA'[c]? = hA[c]?) :
    Snd Φ φ tlo hT (hT ++ hL.map (renB fun b => b + hT.length)) hA (renT (fun b => b + hT.length) r) (some (v, hA')) := by
  let φ' : Own := fun b => if b < hT.length then φ b else φL (b - hT.length)
  have e1 : ∀ b x, φ b = some x → φ' b = some x := fun b x h => by
    have := (H.dom b x.1 x.2 h).1; simp only [φ']; rw [if_pos this]; exact h
  have e2 : ∀ b x, φL b = some x → φ' (b + hT.length) = some x := fun b x h => by
    simp only [φ']; rw [if_neg (by omega), Nat.add_sub_cancel]; exact h
  have inv : ∀ b x, φ' b = some x → (b < hT.length ∧ φ b = some x) ∨ (hT.length ≤ b ∧ φL (b - hT.length) = some x) := fun b x h => by
    simp only [φ'] at h; split at h
    · exact .inl ⟨‹_›, h⟩
    · exact .inr ⟨by omega, h⟩
  refine ⟨v, hA', φ', rfl, VT.ren e2 r hv, ⟨?_, ?_, ?_, ?_, ?_⟩, ⟨by simp, fun b hb => by simp only [φ']; rw [if_pos hb], ?_, hlen, fun c hc _ => hfr c hc⟩⟩
  · intro b c z h
    rcases inv b _ h with ⟨_, h⟩ | ⟨_, h⟩
    · have := H.dom b c z h; simp; omega
    · have := HL.dom _ c z h; simp; omega
  · intro b b' c z z' h h'
    rcases inv b _ h with ⟨h0, h⟩ | ⟨h0, h⟩ <;> rcases inv b' _ h' with ⟨h0', h'⟩ | ⟨h0', h'⟩
    · exact H.inj _ _ _ _ _ h h'
    · have := (H.dom _ _ _ h).2; have := hnew _ _ _ h'; omega
    · have := (H.dom _ _ _ h').2; have := hnew _ _ _ h; omega
    · have := HL.inj _ _ _ _ _ h h'; omega
  · intro b e z es h
    by_cases hlt : b < hT.length
    · rw [List.getElem?_append_left hlt] at h
      rcases H.live b e z es h with ⟨k1, k2⟩ | ⟨c, cs, k1, k2, k3, k4⟩
      · exact .inl ⟨by simp only [φ']; rw [if_pos hlt]; exact k1, k2⟩
      · exact .inr ⟨c, cs, e1 _ _ k1, by rw [hfr c (H.dom _ _ _ k1).2]; exact k2, k3, k4.mono e1⟩
    · rw [List.getElem?_append_right (by omega), List.getElem?_map] at h
      obtain ⟨x, hx, hxe⟩ := Option.map_eq_some_iff.1 h
      cases x with
      | dead => cases hxe
      | cells e' z' es' =>
        simp only [renB, TB.cells.injEq] at hxe
        obtain ⟨rfl, rfl, rfl⟩ := hxe
        rcases HL.live _ _ _ _ hx with ⟨k1, k2⟩ | ⟨c, cs, k1, k2, k3, k4⟩
        · left
          refine ⟨by simp only [φ']; rw [if_neg hlt]; exact k1, by rw [k2]; rfl⟩
        · right
          refine ⟨c, cs, by simp only [φ']; rw [if_neg hlt]; exact k1, k2, by rw [ren_sized]; exact k3, ?_⟩
          rw [ren_flat]; exact VTs.ren e2 _ k4
  · exact HL.frz
  · intro b c z cs h h'
    obtain ⟨e, he⟩ := H.frz c cs h'
    have hc := (List.getElem?_eq_some_iff.1 he).1
    rcases inv b _ h with ⟨_, h⟩ | ⟨_, h⟩
    · exact H.disj _ _ _ _ h h'
    · have := hnew _ _ _ h; omega
  · intro b c z hb h
    rcases inv b _ h with ⟨h0, h⟩ | ⟨_, h⟩
    · omega
    · exact hnew _ _ _ h
end

/-- A run of a body, as a function. -/
theorem exists_run {P : Program} {Γ : Ctx} (hΓ : OkΓ P Γ) {f : Nat} {fn : Func} {af : AF} (hf : P.funcs[f]? = some fn) (hcall : callable P f = true) (hc : cFn P fn = some af) :
    ∃ spA : Sp, Ok P f spA ∧ ∀ lo args h v e0 s0, (e0 = .normal ∨ e0 = .ret) → awp Γ lo af.code (fun e s => e = e0 ∧ s = s0) ⟨argσ args, h⟩ → rres s0 af.res = some v → spA lo args h = some (v, s0.h) := by
  let G : Nat → List Value → Heap → Value × Heap → Prop := fun lo args h x => ∃ e0 s0, (e0 = .normal ∨ e0 = .ret) ∧ awp Γ lo af.code (fun e s => e = e0 ∧ s = s0) ⟨argσ args, h⟩ ∧ rres s0 af.res = some x.1 ∧ s0.h = x.2
  have uniq : ∀ lo args h x y, G lo args h x → G lo args h y → x = y := by
    intro lo args h x y ⟨e0, s0, _, a1, a2, a3⟩ ⟨e1, s1, _, b1, b2, b3⟩
    obtain ⟨e, s, ⟨rfl, rfl⟩, ⟨rfl, rfl⟩, _⟩ := awp_both _ _ a1 b1
    rw [a2] at b2
    cases x; cases y
    simp only at a2 a3 b2 b3
    cases b2; subst a3; subst b3; rfl
  refine ⟨fun lo args h => @dite _ (∃ x, G lo args h x) (Classical.propDecidable _) (fun H => some (Classical.choose H)) (fun _ => none), ⟨hcall, ?_, ?_⟩, ?_⟩
  · intro lo args h r h' hs hlo
    split at hs
    · rename_i H
      have hx := Classical.choose_spec H
      cases hs' : Classical.choose H with | mk v h1 =>
      rw [hs'] at hs hx
      cases hs
      obtain ⟨e0, s0, he, hw, hr, hh⟩ := hx
      obtain ⟨e1, s1, _, ⟨⟨h1e, h2e⟩, h3⟩, _⟩ := awp_both (Γ := Γ) (lo := lo) af.code _ hw (awp_fr hΓ af.code ⟨argσ args, h⟩ hlo hw)
      rw [h2e] at h3
      have hh' : s0.h = h' := hh
      rw [← hh']; exact h3
    · cases hs
  · intro lo B args h r h' ι w cargs hs hlo hr hB hv
    split at hs
    · rename_i H
      have hx := Classical.choose_spec H
      cases hs' : Classical.choose H with | mk v h1 =>
      rw [hs'] at hs hx
      cases hs
      obtain ⟨e0, s0, he, hw, hrr, hh⟩ := hx
      refine calls_of_awp hΓ hf hc hr hB hlo hv (awp_mono _ (fun e s hes => ?_) _ hw)
      obtain ⟨rfl, rfl⟩ := hes
      exact ⟨he, .inl ⟨hrr, hh⟩⟩
    · cases hs
  · intro lo args h v e0 s0 he hw hr
    have hG : G lo args h (v, s0.h) := ⟨e0, s0, he, hw, hr, rfl⟩
    have H : ∃ x, G lo args h x := ⟨_, hG⟩
    simp only
    rw [dif_pos H]
    rw [uniq _ _ _ _ _ (Classical.choose_spec H) hG]

section
variable {P : Program} {ΓT : TCtx} {f : Nat} {fn : Func} {af : AF}
theorem args_ok {Φ : Frz} {φ : Own} {ts : List TV} {vs : List Value} (h : VTs φ Φ ts vs) (t : Nat) : VT φ Φ (argσT ts t) (argσ vs t) := by
  simp only [argσT, argσ]
  cases hts : ts[t]? with
  | none => exact .fz (.any _)
  | some x => obtain ⟨v, hv, r⟩ := h.get t x hts; rw [hv]; exact r

/-- A body that is shown to answer, over trees, out of nothing of its own. -/
theorem pure_run (hΓ : OkΓT P ΓT) (hf : P.funcs[f]? = some fn) (hcall : callable P f = true) (hc : cFn P fn = some af) {F : List TV → Option (TV × THeap)}
    (H : ∀ args r hL, F args = some (r, hL) → awpT 0 ΓT af.code (EndT af.res r hL) ⟨argσT args, []⟩) :
    ∃ spA, Ok P f spA ∧ ∀ (Φ1 : Frz) (hA : Heap) (lo : Nat) (targs : List TV) (args : List Value) (r : TV) (hL : THeap), (∀ c cs, Φ1 c = some cs → ∃ e, hA[c]? = some (.cells e cs)) → lo ≤ hA.length → VFs Φ1 targs args → F targs = some (r, hL) →
      ∃ v hA' φL, spA lo args hA = some (v, hA') ∧ VT φL Φ1 r v ∧ HT φL Φ1 hL hA' ∧ (∀ b c z, φL b = some (c, z) → hA.length ≤ c) ∧ hA.length ≤ hA'.length ∧ ∀ c, c < hA.length → hA'[c]? = hA[c]? := by
  obtain ⟨Γ, g1, g2⟩ := hΓ
  obtain ⟨spA, ok, run⟩ := exists_run g1 hf hcall hc
  refine ⟨spA, ok, fun Φ1 hA lo targs args r hL hΦ hlo hv hF => ?_⟩
  have R0 : RelT Φ1 0 (fun _ => none) hA lo ⟨argσT targs, []⟩ ⟨argσ args, hA⟩ (fun _ => none) := by
    refine ⟨args_ok (VTs.fz hv), ⟨?_, ?_, ?_, hΦ, ?_⟩, fun _ _ => rfl, Nat.zero_le _, ?_, ?_, Nat.le_refl _, fun _ _ _ => rfl⟩
    · intro b c z h; cases h
    · intro b b' c z z' h; cases h
    · intro b e z es h; cases h
    · intro b c z cs h; cases h
    · intro b c z _ h; cases h
    · intro b c z h; cases h
  have hw := awpT_ok g2 hlo af.code _ _ _ R0 (H _ _ _ hF)
  obtain ⟨e0, s0, ⟨sT', φ', ⟨he, tv, hr, hle⟩, R⟩, _, hw'⟩ := awp_both _ _ hw hw
  obtain ⟨v, k1, k2⟩ := rresT_ok R hr
  have R1 : RelT Φ1 0 (fun _ => none) hA lo ⟨fun _ => tv, sT'.h⟩ ⟨fun _ => v, s0.h⟩ φ' := ⟨fun _ => k2, R.heap, R.pin, R.kle, R.new, R.low, R.alen, R.fr⟩
  obtain ⟨φL, R2⟩ := R1.le hle
  exact ⟨v, s0.h, φL, run lo args hA v e0 s0 he hw' k1, R2.slots 0, R2.heap, fun b c z h => R2.new b c z (Nat.zero_le _) h, R2.alen, fun c hc => R2.fr c hc (fun i z hi => absurd hi (by omega))⟩

theorem okT_pure (hΓ : OkΓT P ΓT) (hf : P.funcs[f]? = some fn) (hcall : callable P f = true) (hc : cFn P fn = some af) {F : List TV → Option (TV × THeap)}
    (hown : ∀ args r hL, F args = some (r, hL) → ownT r = true ∧ hL.all ownB = true)
    (H : ∀ args r hL, F args = some (r, hL) → awpT 0 ΓT af.code (EndT af.res r hL) ⟨argσT args, []⟩) : OkT P f (pureSp F) := by
  obtain ⟨spA, ok, run⟩ := pure_run hΓ hf hcall hc H
  refine ⟨spA, ok, ?_, fun _ _ _ _ _ _ _ _ _ _ _ _ _ h => h.elim⟩
  intro φ Φ hT hA lo tlo targs args tv hT' HH hlow hlo hv hs
  simp only [pureSp] at hs
  obtain ⟨⟨r, hL⟩, hF, hs⟩ := Option.map_eq_some_iff.1 hs
  cases hs
  let Φ' : Frz := fun c => match hA[c]? with | some (.cells _ cs) => some cs | _ => none
  have hΦ' : ∀ c e cs, hA[c]? = some (.cells e cs) → Φ' c = some cs := fun c e cs h => by simp only [Φ', h]
  obtain ⟨v, hA', φL, h1, h2, h3, h4, h5, h6⟩ := run Φ' hA lo _ args r hL (fun c cs h => by
      simp only [Φ'] at h; split at h
      · rename_i e cs' he; cases h; exact ⟨e, he⟩
      · cases h) hlo (frz_list _ (frz_ok HH hΦ' 9) hv) hF
  obtain ⟨o1, o2⟩ := hown _ _ _ hF
  rw [h1]
  refine join_ok HH ⟨h3.dom, h3.inj, ?_, ?_, ?_⟩ (vt_own r h2 o1) h4 h5 h6
  · intro b e z es hb
    rcases h3.live b e z es hb with k | ⟨c, cs, k1, k2, k3, k4⟩
    · exact .inl k
    · refine .inr ⟨c, cs, k1, k2, k3, ?_⟩
      have ho : ownTs es = true := by
        have := (List.all_eq_true.1 o2) _ (List.mem_of_getElem? hb)
        simpa [ownB] using this
      have hf : ∀ (es : List TV), ownTs es = true → ownTs (flatT es) = true := by
        intro es
        induction es with
        | nil => intro _; rfl
        | cons e es ih =>
          intro h
          simp only [ownTs, Bool.and_eq_true] at h
          rw [flat_cons]
          have happ : ∀ (a b : List TV), ownTs a = true → ownTs b = true → ownTs (a ++ b) = true := by
            intro a b ha hb
            induction a with
            | nil => exact hb
            | cons x a ih => simp only [ownTs, Bool.and_eq_true, List.cons_append] at ha ⊢; exact ⟨ha.1, ih ha.2⟩
          refine happ _ _ ?_ (ih h.2)
          have h1 := h.1
          cases e with
          | agg cs => exact h1
          | _ => simp only [cellsT, ownTs, h1, Bool.and_true]
      exact vts_own _ k4 (hf es ho)
  · intro c cs h
    obtain ⟨e, he⟩ := HH.frz c cs h
    exact ⟨e, by rw [h6 c (List.getElem?_eq_some_iff.1 he).1]; exact he⟩
  · intro b c z cs h h'
    obtain ⟨e, he⟩ := HH.frz c cs h'
    have := h4 _ _ _ h
    have := (List.getElem?_eq_some_iff.1 he).1
    omega

theorem okT_share (hΓ : OkΓT P ΓT) (hf : P.funcs[f]? = some fn) (hcall : callable P f = true) (hc : cFn P fn = some af) {F : List TV → Option (TV × THeap)}
    (H : ∀ args r hL, F args = some (r, hL) → awpT 0 ΓT af.code (EndT af.res r hL) ⟨argσT args, []⟩) : OkT P f (shareSp F) := by
  obtain ⟨spA, ok, run⟩ := pure_run hΓ hf hcall hc H
  refine ⟨spA, ok, ?_, fun _ _ _ _ _ _ _ _ _ _ _ _ _ h => h.elim⟩
  intro φ Φ hT hA lo tlo targs args tv hT' HH hlow hlo hv hs
  simp only [shareSp] at hs
  split at hs
  · rename_i hno
    obtain ⟨⟨r, hL⟩, hF, hs⟩ := Option.map_eq_some_iff.1 hs
    cases hs
    have hvf : VFs Φ (targs.map (frzT hT 9)) args := by
      rw [show frzT hT 9 = frzW (hopT hT (frzT hT 8)) from rfl, ← frzWs_map]
      exact frz_shareds _ _ hv hno
    obtain ⟨v, hA', φL, h1, h2, h3, h4, h5, h6⟩ := run Φ hA lo _ args r hL HH.frz hlo hvf hF
    rw [h1]
    exact join_ok HH h3 h2 h4 h5 h6
  · cases hs
end
end Go.AH
