import Derived.Test.YtngebdcbcliobaaT13
set_option linter.unusedVariables false
namespace Go.AH
open Go.RowKit (Below)
/-- The tree of a value of a type, out of its cells' trees. -/
def valT (P : Program) (t : TypeId) (ts : List TV) : TV := if aggT P t = true then .agg ts else el ts
def ShArgs (P : Program) : List TypeId → List TV → Prop
  | [], tvs => tvs = []
  | t :: ts, tvs => ∃ cs r, tvs = valT P t cs :: r ∧ ShT P 9 t cs ∧ ShArgs P ts r
section
variable {H : Type} {enc : TypeId × Value → H} {P : Program} {W : World} {B : Nat}
theorem okWide_one {t : TypeId} {v : Value} {r : Reach} {base : Nat} (hk : okTy P 9 t = true) (hv : Value.okWide P W r base t v) : (aggT P t = true ∧ ∃ cs, v = .agg ⟨cs⟩) ∨ (aggT P t = false ∧ v.cells.toList = [v]) := by
  simp only [okTy] at hk
  simp only [Value.okWide] at hv
  split at hk
  · rename_i hu
    simp only [hu, Cell.okWide, Cell.ok] at hv
    right
    refine ⟨by simp [aggT, hu], ?_⟩
    cases v <;> first | rfl | exact hv.elim
  · rename_i k hu
    simp only [hu, Cell.okWide, Cell.ok] at hv
    right
    refine ⟨by simp [aggT, hu], ?_⟩
    cases v <;> first | rfl | exact hv.elim
  · rename_i hu
    simp only [hu, Cell.okWide, Cell.ok] at hv
    right
    refine ⟨by simp [aggT, hu], ?_⟩
    cases v <;> first | rfl | exact hv.elim
  · rename_i e hu
    simp only [hu, Cell.okWide, Cell.ok] at hv
    right
    refine ⟨by simp [aggT, hu], ?_⟩
    cases v <;> first | rfl | exact hv.elim
  · rename_i fs hu
    simp only [hu] at hv
    obtain ⟨cs, rfl, _⟩ := hv
    left
    exact ⟨by simp [aggT, hu], cs.toList, rfl⟩
  · cases hk
theorem made_args {r : Reach} {base : Nat} : ∀ (ts : List TypeId) (vs : List Value) (ds : List (DataW H)) (ps : List MemPlace) (ι : Inj) (h : Heap), DataW.TrodAll enc P W 0 (fun _ => true) true ts vs ds ps → (∀ t ∈ ts, okTy P 9 t = true) →
    (DataW.weightsEach P ts ds).all (· ≤ reachBytes) = true → (∀ (j : Nat) t v, ts[j]? = some t → vs[j]? = some v → Value.okWide P W r base t v) → HR P ι h h.length B W →
    ∃ (L : Heap) (ι' : Inj) (avs : List Value) (tvs : List TV), Ext ι ι' ∧ HR P ι' (h ++ L) (h ++ L).length B W ∧ VRs ι' avs vs ∧ VFs (conts (h ++ L)) tvs avs ∧ ShArgs P ts tvs
  | [], vs, ds, ps, ι, h, ht, _, _, _, hr => by
    cases vs with
    | nil => exact ⟨[], ι, [], [], Ext.refl _, by simpa using hr, .nil, .nil, rfl⟩
    | cons v vs => simp [DataW.TrodAll] at ht
  | t :: ts, vs, ds, ps, ι, h, ht, hk, hw, hv, hr => by
    cases vs with
    | nil => simp [DataW.TrodAll] at ht
    | cons v vs =>
      cases ds with
      | nil => simp [DataW.TrodAll] at ht
      | cons d ds =>
        obtain ⟨p, q, ⟨fuel, h1⟩, h2, _⟩ := ht
        simp only [DataW.weightsEach, List.all_append, Bool.and_eq_true] at hw
        have hkt := hk t (by simp)
        obtain ⟨L1, ι1, as1, ts1, e1, r1, v1, o1, f1, s1, s2, s3⟩ := made_of (enc := enc) 9 t fuel _ (d, p) ι h hkt h1 hw.1 hr
        obtain ⟨L2, ι2, avs, tvs, e2, r2, v2, f2, s4⟩ := made_args ts vs ds q ι1 (h ++ L1) h2 (fun t' ht' => hk t' (by simp [ht'])) hw.2 (fun j t' v' a b => hv (j + 1) t' v' (by simpa using a) (by simpa using b)) r1
        have f1' := f1.mono (Φ' := conts (h ++ L1 ++ L2)) (fun c' cs' hh => conts_mono _ _ _ _ hh)
        have hone : ∃ av, VR ι2 av v ∧ VF (conts (h ++ L1 ++ L2)) (valT P t ts1) av := by
          rcases okWide_one hkt (hv 0 t v rfl rfl) with ⟨ha, cs, rfl⟩ | ⟨ha, hc⟩
          · refine ⟨.agg ⟨as1⟩, .agg (v1.mono e2), ?_⟩
            simp only [valT, ha, if_true]; exact .agg f1'
          · rw [hc] at v1
            cases v1 with
            | cons a b =>
              cases b
              cases f1' with
              | cons a' b' =>
                cases b'
                refine ⟨_, a.mono e2, ?_⟩
                simp only [valT, ha, Bool.false_eq_true, if_false, el]; exact a'
        obtain ⟨av, k1, k2⟩ := hone
        exact ⟨L1 ++ L2, ι2, av :: avs, valT P t ts1 :: tvs, e1.trans e2, by rw [← List.append_assoc]; exact r2, .cons k1 v2, by rw [← List.append_assoc]; exact .cons k2 f2, ts1, tvs, rfl, s1, s4⟩
/-- A law over trees, at what a row hands it. -/
theorem law_T {f : Nat} {F : List TV → Option (TV × THeap)} (ok : OkT P f (pureSp F)) {h : Heap} {ι : Inj} {avs cargs : List Value} {tvs : List TV} (hr : HR P ι h h.length W.heap.size W) (hv : VRs ι avs cargs) (hf : VFs (conts h) tvs avs)
    {hL : THeap} (hF : F (tvs.map (frzT [] 9)) = some (.p (.bool true), hL)) : Calls P f ⟨cargs⟩ W (fun e W' => e = .returned (.bool true) ∧ Below W.heap.size W W') := by
  obtain ⟨spA, ok, comp⟩ := ok
  have H0 : HT (fun _ => none) (conts h) [] h := by
    refine ⟨?_, ?_, ?_, ?_, ?_⟩
    · intro b c z h; cases h
    · intro b b' c z z' h; cases h
    · intro b e z es h; cases h
    · intro c cs hc
      unfold conts at hc
      split at hc
      · rename_i e cs' he; cases hc; exact ⟨e, he⟩
      · cases hc
    · intro b c z cs h; cases h
  obtain ⟨v, hA', φ', hs, hvt, _, _⟩ := comp.1 (fun _ => none) (conts h) [] h h.length 0 tvs avs (.p (.bool true)) (hL.map (renB fun b => b + 0)) H0 (by intro b c z _ h; cases h) (Nat.le_refl _) (VTs.fz hf)
    (by simp only [pureSp, hF, Option.map_some, renT]; rfl)
  obtain ⟨rfl, _⟩ := hvt.p_inv
  refine (ok.run h.length W.heap.size avs h (.bool true) hA' ι W cargs hs (Nat.le_refl _) hr (Nat.le_refl _) hv).mono ?_
  intro e w' ⟨r', ι', h1, _, h3, _, h5⟩
  cases h3
  exact ⟨h1, h5⟩
end
end Go.AH
