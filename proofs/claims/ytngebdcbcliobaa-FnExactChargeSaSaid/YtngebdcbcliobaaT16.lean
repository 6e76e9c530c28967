import Derived.Test.YtngebdcbcliobaaT15
set_option linter.unusedVariables false
namespace Go.AH
theorem le_dropg {k : Nat} {σ σ0 : Nat → TV} {h G : THeap} (hk : k ≤ h.length) (hs : ∀ t, σ0 t = .any ∨ σ t = σ0 t) (hl : ∀ t, below h.length (σ0 t) = true) (hh : ∀ (b : Nat) (e : TypeId) (z : Nat) (es : List TV), h[b]? = some (TB.cells e z es) → belows h.length es = true) : Le k ⟨σ, h ++ G⟩ ⟨σ0, h⟩ := by
  let ρ : Nat → Nat := fun b => if b < h.length then b else b + G.length
  have hρ : ∀ b, b < h.length → ρ b = b := fun b hb => by simp only [ρ, hb, if_true]
  refine ⟨ρ, fun i hi => hρ i (by omega), hk, fun b b' hb hb' e => by rw [hρ b hb, hρ b' hb'] at e; exact e, fun b hb => ?_, fun t => ?_, fun b e z es hb => ?_⟩
  · have hb' : ¬ b < h.length := by simpa using hb
    simp only [ρ, hb', if_false, List.length_append]
    have : h.length ≤ b := hb
    omega
  · rw [ren_below hρ _ (hl t)]; exact hs t
  · have hlt := (List.getElem?_eq_some_iff.1 hb).1
    rw [rens_below hρ _ (hh b e z es hb), hρ b hlt]
    show (h ++ G)[b]? = _
    rw [List.getElem?_append_left hlt]; exact hb
theorem endK_drop {k : Nat} {res : List AR} {r : TV} {hL G : THeap} {e : Exit} {s : TSt} (he : e = .normal ∨ e = .ret) (hk : k ≤ hL.length) (hr : rresT s res = some r) (hh : s.h = hL ++ G) (hr2 : below hL.length r = true) (hb : ∀ (b : Nat) (e : TypeId) (z : Nat) (es : List TV), hL[b]? = some (TB.cells e z es) → belows hL.length es = true) : EndK k res r hL e s := by
  refine ⟨he, r, hr, ?_⟩
  rw [hh]; exact le_dropg hk (fun _ => .inr rfl) (fun _ => hr2) hb
theorem endK_same {k : Nat} {res : List AR} {r : TV} {hL : THeap} {e : Exit} {s : TSt} (he : e = .normal ∨ e = .ret) (hk : k ≤ hL.length) (hr : rresT s res = some r) (hh : s.h = hL) : EndK k res r hL e s := by
  subst hh; exact ⟨he, r, hr, le_same k _ hk⟩
/-- What a callee that writes does, by what it is handed. -/
noncomputable def mutF {α : Type} (enc : α → List TV × THeap) (Pre : α → Prop) (R : α → TV × THeap) : List TV → THeap → Option (TV × THeap) := by
  classical exact fun args h => if hx : ∃ x, (args, h) = enc x ∧ Pre x then some (R hx.choose) else none
theorem mutF_at {α : Type} {enc : α → List TV × THeap} {Pre : α → Prop} {R : α → TV × THeap} (inj : ∀ x y, enc x = enc y → x = y) (x : α) (hx : Pre x) : mutF enc Pre R (enc x).1 (enc x).2 = some (R x) := by
  have h : ∃ y, ((enc x).1, (enc x).2) = enc y ∧ Pre y := ⟨x, rfl, hx⟩
  unfold mutF
  rw [dif_pos h, ← inj x _ h.choose_spec.1]
theorem mutF_at' {α : Type} {enc : α → List TV × THeap} {Pre : α → Prop} {R : α → TV × THeap} (x : α) (same : ∀ y, enc x = enc y → R x = R y) (hx : Pre x) : mutF enc Pre R (enc x).1 (enc x).2 = some (R x) := by
  have h : ∃ y, ((enc x).1, (enc x).2) = enc y ∧ Pre y := ⟨x, rfl, hx⟩
  unfold mutF
  rw [dif_pos h, ← same _ h.choose_spec.1]
theorem mutF_some {α : Type} {enc : α → List TV × THeap} {Pre : α → Prop} {R : α → TV × THeap} {args : List TV} {h : THeap} {r : TV × THeap} (hm : mutF enc Pre R args h = some r) : ∃ x, args = (enc x).1 ∧ h = (enc x).2 ∧ Pre x ∧ r = R x := by
  unfold mutF at hm
  split at hm
  · rename_i hx
    cases hm
    have := hx.choose_spec
    exact ⟨hx.choose, by rw [← this.1], by rw [← this.1], this.2, rfl⟩
  · cases hm
/-- One block is handed in, that names none. -/
theorem mut1 {F : List TV → THeap → Option (TV × THeap)} {targs largs : List TV} {hT : THeap} {b z : Nat} {e : TypeId} {es es' : List TV} {r : TV} (hb : hT[b]? = some (.cells e z es)) (ho : ∀ ρ, renTs ρ es = es) (ho' : ∀ ρ, renTs ρ es' = es') (hr : ∀ ρ, renT ρ r = r)
    (ha : targs = largs.map (renT (rho [b] hT.length))) (hF : F largs [.cells e z es] = some (r, [.cells e z es'])) :
    MutR F targs hT r (hT.set b (.cells e z es')) [b] largs [.cells e z es] r [.cells e z es'] := by
  have hlt := (List.getElem?_eq_some_iff.1 hb).1
  refine ⟨by simp, by simpa using hlt, rfl, ha, ?_, hF, rfl, (hr _).symm, by simp, ?_, ?_⟩
  · intro i e' z' es'' hi
    cases i with
    | zero => simp at hi; obtain ⟨rfl, rfl, rfl⟩ := hi; rw [ho]; exact hb
    | succ i => simp at hi
  · intro i k hi
    cases i with
    | zero => simp at hi; subst hi; simp [renB, ho', hlt]
    | succ i => simp at hi
  · intro c hc; simp at hc; rw [List.getElem?_set_ne (by omega)]
/-- None is handed in. -/
theorem mut0 {F : List TV → THeap → Option (TV × THeap)} {targs largs : List TV} {hT : THeap} {r : TV} (hr : ∀ ρ, renT ρ r = r) (ha : targs = largs.map (renT (rho [] hT.length))) (hF : F largs [] = some (r, [])) : MutR F targs hT r hT [] largs [] r [] := by
  refine ⟨by simp, by simp, rfl, ha, ?_, hF, rfl, (hr _).symm, rfl, ?_, fun _ _ => rfl⟩
  · intro i e' z' es'' hi; simp at hi
  · intro i k hi; simp at hi
section
variable {P : Program} {ΓT : TCtx} {f : Nat} {fn : Func} {af : AF}
theorem okT_mutF (hΓ : OkΓT P ΓT) (hf : P.funcs[f]? = some fn) (hcall : callable P f = true) (hc : cFn P fn = some af) {α : Type} {enc : α → List TV × THeap} {Pre : α → Prop} {R : α → TV × THeap}
    (H : ∀ x, Pre x → awpT (enc x).2.length ΓT af.code (EndK (enc x).2.length af.res (R x).1 (R x).2) ⟨argσT (enc x).1, (enc x).2⟩) : OkT P f (mutSp (mutF enc Pre R)) :=
  okT_mut hΓ hf hcall hc fun args hL r hL' h => by
    obtain ⟨x, rfl, rfl, hp, hr⟩ := mutF_some h
    have := H x hp
    rw [← hr] at this; exact this
end
end Go.AH
