import Derived.Test.YtbddhlhpakbcdaaLU
set_option linter.unusedVariables false
namespace Go.AH
/-! A function of functions, told for two functions that it may be handed -/
theorem frz_fn_inv {h : THeap} {n k : Nat} {t : TV} {cs : List TV} (e : frzT h n t = .fn k cs) : ∃ cs', t = .fn k cs' := by
  cases t with
  | fn f ts => cases n <;> (simp only [frzT, frzW] at e; cases e; exact ⟨_, rfl⟩)
  | os b o m =>
    cases n with
    | zero => simp [frzT, frzW] at e
    | succ n => rw [frz_os] at e; split at e <;> (try split at e) <;> cases e
  | op b i o =>
    cases n with
    | zero => simp [frzT, frzW] at e
    | succ n => rw [frz_op] at e; split at e <;> (try split at e) <;> cases e
  | p => rw [frz_p] at e; cases e
  | nl => rw [frz_nl] at e; cases e
  | s => rw [frz_s] at e; cases e
  | fe => rw [frz_fe] at e; cases e
  | agg => rw [frz_agg] at e; cases e
  | tup => rw [frz_tup] at e; cases e
  | any => rw [frz_any] at e; cases e
  | ub => rw [frz_ub] at e; cases e
def orF (F1 F2 : List TV → Option (TV × THeap)) : List TV → Option (TV × THeap) := fun args => match F1 args with
  | some r => some r
  | none => F2 args
def handed (j k : Nat) (args : List Value) : Bool := match args[j]? with
  | some (.func (.func f) _ _) => f == k
  | _ => false
theorem handed_of {φ : Own} {Φ : Frz} {targs : List TV} {args : List Value} (hv : VTs φ Φ targs args) {hT : THeap} {j k k' : Nat} {cs : List TV} (h : (targs.map (frzT hT 9))[j]? = some (.fn k' cs)) : handed j k args = (k' == k) := by
  rw [List.getElem?_map] at h
  obtain ⟨t, ht, he⟩ := Option.map_eq_some_iff.1 h
  obtain ⟨cs', rfl⟩ := frz_fn_inv he
  obtain ⟨v, h1, h2⟩ := hv.get _ _ ht
  have : ∃ vs, v = .func (.func k') ⟨[]⟩ ⟨vs⟩ := by
    cases h2 with
    | fz h => cases h with | fn h => exact ⟨_, rfl⟩
    | fn h => exact ⟨_, rfl⟩
  obtain ⟨vs, rfl⟩ := this
  simp [handed, h1]
theorem okT_two {P : Program} {f : Nat} {F1 F2 : List TV → Option (TV × THeap)} (j k1 k2 : Nat) (hne : k2 ≠ k1) (h1 : ∀ args r, F1 args = some r → ∃ cs, args[j]? = some (.fn k1 cs)) (h2 : ∀ args r, F2 args = some r → ∃ cs, args[j]? = some (.fn k2 cs))
    (o1 : OkT P f (pureSp F1)) (o2 : OkT P f (pureSp F2)) : OkT P f (pureSp (orF F1 F2)) := by
  obtain ⟨s1, a1, b1, _⟩ := o1
  obtain ⟨s2, a2, b2, _⟩ := o2
  refine ⟨fun lo args h => if handed j k1 args = true then s1 lo args h else s2 lo args h, ⟨a1.call, ?_, ?_⟩, ?_, fun _ _ _ _ _ _ _ _ _ _ _ _ _ h => h.elim, fun _ _ _ _ _ _ _ _ _ _ _ _ h => h.elim⟩
  · intro lo args h r h' hs hlo
    split at hs
    · exact a1.fr lo args h r h' hs hlo
    · exact a2.fr lo args h r h' hs hlo
  · intro lo B args h r h' ι w cargs hs hlo hr hB hv
    split at hs
    · exact a1.run lo B args h r h' ι w cargs hs hlo hr hB hv
    · exact a2.run lo B args h r h' ι w cargs hs hlo hr hB hv
  · intro φ Φ hT hA lo tlo targs args tv hT' HH hlow hlo hv hR
    simp only [pureSp] at hR
    obtain ⟨r, hr, he⟩ := Option.map_eq_some_iff.1 hR
    cases hF : F1 (targs.map (frzT hT 9)) with
    | some r1 =>
      obtain ⟨cs, hc⟩ := h1 _ _ hF
      have hd : handed j k1 args = true := by rw [handed_of hv hc]; simp
      simp only [orF, hF] at hr; cases hr
      simp only [if_pos hd]
      exact b1 φ Φ hT hA lo tlo targs args tv hT' HH hlow hlo hv (by simp only [pureSp, hF, Option.map_some]; exact congrArg some he)
    | none =>
      simp only [orF, hF] at hr
      obtain ⟨cs, hc⟩ := h2 _ _ hr
      have hd : ¬ handed j k1 args = true := by rw [handed_of hv hc]; simpa using hne
      simp only [if_neg hd]
      exact b2 φ Φ hT hA lo tlo targs args tv hT' HH hlow hlo hv (by simp only [pureSp, hr, Option.map_some]; exact congrArg some he)
end Go.AH
