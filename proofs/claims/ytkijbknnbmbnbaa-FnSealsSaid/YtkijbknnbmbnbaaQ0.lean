import Derived.Test.YtkijbknnbmbnbaaLU
set_option linter.unusedVariables false
namespace Go.AH
open Go.RowKit (Below)
/-! A callee that writes into blocks that are handed in and answers with blocks of its own beside them: told as a function over those blocks -/
def rhoN (ks : List Nat) (n : Nat) (i : Nat) : Nat := match ks[i]? with
  | some x => x
  | none => n + (i - ks.length)
def locOk : List TV → Bool
  | [] => true
  | .op _ i o :: r => i == 0 && o == 0 && locOk r
  | .os _ _ _ :: r => locOk r
  | t :: r => noOwn t && locOk r
def locK : List TV → List Nat
  | [] => []
  | .op b _ _ :: r => b :: locK r
  | .os b _ _ :: r => b :: locK r
  | _ :: r => locK r
def locA (m : Nat) : List TV → List TV
  | [] => []
  | .op _ i o :: r => .op m i o :: locA (m + 1) r
  | .os _ o n :: r => .os m o n :: locA (m + 1) r
  | t :: r => t :: locA m r
def ksOk (tlo : Nat) : List Nat → Bool
  | [] => true
  | k :: ks => decide (tlo ≤ k) && ks.all (fun j => !(j == k)) && ksOk tlo ks
def locH (h : THeap) : List Nat → Option THeap
  | [] => some []
  | k :: ks => match h[k]? with
    | some (.cells e z es) => if noOwns es = true then (locH h ks).map fun l => .cells e z es :: l else none
    | _ => none
def setAllB (h : THeap) : List Nat → List TB → THeap
  | k :: ks, x :: xs => setAllB (h.set k x) ks xs
  | _, _ => h
def locSp (F : List TV → THeap → Option (TV × THeap)) : TSp := ⟨fun tlo args h =>
  if locOk args = true ∧ ksOk tlo (locK args) = true then
    (locH h (locK args)).bind fun hL => (F (locA 0 args) hL).map fun r =>
      (renT (rhoN (locK args) h.length) r.1, setAllB h (locK args) ((r.2.take (locK args).length).map (renB (rhoN (locK args) h.length))) ++ (r.2.drop (locK args).length).map (renB (rhoN (locK args) h.length)))
  else none, fun _ _ _ _ => False⟩
mutual
theorem ren_noOwn (ρ : Nat → Nat) : ∀ (t : TV), noOwn t = true → renT ρ t = t
  | .os b o m, k => by simp [noOwn] at k
  | .op b o m, k => by simp [noOwn] at k
  | .agg cs, k => by simp only [noOwn] at k; simp only [renT, rens_noOwn ρ cs k]
  | .tup cs, k => by simp only [noOwn] at k; simp only [renT, rens_noOwn ρ cs k]
  | .fn f cs, k => by simp only [noOwn] at k; simp only [renT, rens_noOwn ρ cs k]
  | .p v, _ => rfl
  | .nl, _ => rfl
  | .s es, _ => rfl
  | .fe e o, _ => rfl
  | .any, _ => rfl
  | .ub, _ => rfl
theorem rens_noOwn (ρ : Nat → Nat) : ∀ (ts : List TV), noOwns ts = true → renTs ρ ts = ts
  | [], _ => rfl
  | t :: ts, k => by
    simp only [noOwns, Bool.and_eq_true] at k
    simp only [renTs, ren_noOwn ρ t k.1, rens_noOwn ρ ts k.2]
end
theorem locA_ren (n : Nat) : ∀ (args : List TV) (pre : List Nat), locOk args = true → renTs (rho (pre ++ locK args) n) (locA pre.length args) = args
  | [], _, _ => rfl
  | t :: r, pre, h => by
    have step : ∀ b, rho (pre ++ b :: locK r) n pre.length = b := fun b => by simp [rho]
    have next : ∀ b, locOk r = true → renTs (rho (pre ++ b :: locK r) n) (locA (pre.length + 1) r) = r := fun b hr => by
      have := locA_ren n r (pre ++ [b]) hr
      simpa using this
    cases t with
    | op b i o =>
      simp only [locOk, Bool.and_eq_true] at h
      simp only [locK, locA, renTs, renT, step, next b h.2]
    | os b o m =>
      simp only [locOk] at h
      simp only [locK, locA, renTs, renT, step, next b h]
    | _ =>
      simp only [locOk, Bool.and_eq_true] at h
      simp only [locK, locA, renTs, ren_noOwn _ _ h.1, locA_ren n r pre h.2]
theorem ksOk_spec {tlo : Nat} : ∀ {ks : List Nat}, ksOk tlo ks = true → ks.Nodup ∧ ∀ k ∈ ks, tlo ≤ k
  | [], _ => ⟨List.nodup_nil, fun _ h => by cases h⟩
  | k :: ks, h => by
    simp only [ksOk, Bool.and_eq_true, decide_eq_true_eq, List.all_eq_true] at h
    obtain ⟨h1, h2⟩ := ksOk_spec h.2
    refine ⟨List.nodup_cons.2 ⟨fun hm => ?_, h1⟩, fun x hx => ?_⟩
    · have := h.1.2 k hm; simp at this
    · rcases List.mem_cons.1 hx with rfl | hx
      · exact h.1.1
      · exact h2 x hx
theorem locH_spec {h : THeap} : ∀ {ks : List Nat} {hL : THeap}, locH h ks = some hL → ks.length = hL.length ∧ ∀ (i k : Nat), ks[i]? = some k → ∃ e z es, h[k]? = some (.cells e z es) ∧ noOwns es = true ∧ hL[i]? = some (.cells e z es)
  | [], hL, hh => by simp only [locH] at hh; cases hh; exact ⟨rfl, fun i k hk => by simp at hk⟩
  | k :: ks, hL, hh => by
    simp only [locH] at hh
    split at hh
    · rename_i e z es hk
      split at hh
      · rename_i hn
        obtain ⟨l, hl, rfl⟩ := Option.map_eq_some_iff.1 hh
        obtain ⟨h1, h2⟩ := locH_spec hl
        refine ⟨by simp [h1], fun i j hj => ?_⟩
        cases i with
        | zero => simp at hj; subst hj; exact ⟨e, z, es, hk, hn, rfl⟩
        | succ i => simp at hj; simpa using h2 i j hj
      · cases hh
    · cases hh
theorem setAllB_len : ∀ (ks : List Nat) (xs : List TB) (h : THeap), (setAllB h ks xs).length = h.length
  | [], _, _ => by simp only [setAllB]
  | _ :: _, [], _ => by simp only [setAllB]
  | k :: ks, x :: xs, h => by simp only [setAllB, setAllB_len ks xs, List.length_set]
theorem setAllB_out : ∀ (ks : List Nat) (xs : List TB) (h : THeap) (b : Nat), b ∉ ks → (setAllB h ks xs)[b]? = h[b]?
  | [], _, _, _, _ => by simp only [setAllB]
  | _ :: _, [], _, _, _ => by simp only [setAllB]
  | k :: ks, x :: xs, h, b, hb => by
    simp only [List.mem_cons, not_or] at hb
    simp only [setAllB]
    rw [setAllB_out ks xs _ b hb.2, List.getElem?_set_ne (fun e => hb.1 e.symm)]
theorem setAllB_in : ∀ (ks : List Nat) (xs : List TB) (h : THeap) (i k : Nat), ks.Nodup → xs.length = ks.length → (∀ k ∈ ks, k < h.length) → ks[i]? = some k → (setAllB h ks xs)[k]? = xs[i]?
  | [], _, _, i, k, _, _, _, hk => by simp at hk
  | _ :: _, [], _, _, _, _, hl, _, _ => by simp at hl
  | k0 :: ks, x :: xs, h, i, k, hn, hl, hlt, hk => by
    obtain ⟨n1, n2⟩ := List.nodup_cons.1 hn
    simp only [setAllB]
    cases i with
    | zero =>
      simp at hk; subst hk
      rw [setAllB_out ks xs _ _ n1]
      simp [hlt k0 (by simp)]
    | succ i =>
      simp at hk
      rw [setAllB_in ks xs _ i k n2 (by simpa using hl) (fun j hj => by rw [List.length_set]; exact hlt j (by simp [hj])) hk]
      simp
section
variable {P : Program} {ΓT : TCtx} {f : Nat} {fn : Func} {af : AF}
theorem okT_loc (hΓ : OkΓT P ΓT) (hf : P.funcs[f]? = some fn) (hcall : callable P f = true) (hc : cFn P fn = some af) {F : List TV → THeap → Option (TV × THeap)}
    (H : ∀ args hL r hL', F args hL = some (r, hL') → hL.length ≤ hL'.length ∧ awpT hL.length ΓT af.code (EndK hL.length af.res r hL') ⟨argσT args, hL⟩) : OkT P f (locSp F) := by
  obtain ⟨Γ, g1, g2⟩ := hΓ
  obtain ⟨spA, ok, run⟩ := exists_run g1 hf hcall hc
  refine ⟨spA, ok, ?_, fun _ _ _ _ _ _ _ _ _ _ _ _ _ h => h.elim⟩
  intro φ Φ hT hA lo tlo targs args tv hT' HH hlow hlo hv hs
  simp only [locSp] at hs
  split at hs
  case isFalse => cases hs
  rename_i hcond
  obtain ⟨c1, c2⟩ := hcond
  obtain ⟨hL, e1, hs⟩ := Option.bind_eq_some_iff.1 hs
  obtain ⟨⟨r, hL'⟩, e2, hs⟩ := Option.map_eq_some_iff.1 hs
  cases hs
  obtain ⟨hle', hrun⟩ := H _ _ _ _ e2
  have hre := locA_ren hT.length targs [] c1
  simp only [List.nil_append, List.length_nil] at hre
  generalize hks : locK targs = ks at *
  generalize locA 0 targs = largs at *
  obtain ⟨hnd, hge⟩ := ksOk_spec c2
  obtain ⟨hlen, hblk⟩ := locH_spec e1
  have hget : ∀ i, i < ks.length → ∃ k, ks[i]? = some k := fun i hi => ⟨ks[i], by simp [hi]⟩
  have hlt : ∀ x ∈ ks, x < hT.length := fun x hx => by
    obtain ⟨i, hi⟩ := List.getElem?_of_mem hx
    obtain ⟨e, z, es, hh, _⟩ := hblk i x hi
    exact (List.getElem?_eq_some_iff.1 hh).1
  let ρ := rho ks hT.length
  have hρk : ∀ i k, ks[i]? = some k → ρ i = k := fun i k h => by simp only [ρ, rho, h]
  obtain ⟨q1, q2⟩ := rho_ok (k := 0) (s := ⟨fun _ => .any, hT⟩) hnd hlt hlen
  have HL : HT (fun b => φ (ρ b)) Φ hL hA := HH.unren q1 q2 fun b e z es hb => by
    have hb' : b < ks.length := by rw [hlen]; exact (List.getElem?_eq_some_iff.1 hb).1
    obtain ⟨k, hk⟩ := hget b hb'
    obtain ⟨e', z', es', h1, h2, h3⟩ := hblk b k hk
    rw [hb] at h3; cases h3
    show hT[ρ b]? = _
    rw [hρk b k hk, h1, rens_noOwn _ _ h2]
  have hargs : VTs (fun b => φ (ρ b)) Φ largs args := by
    rw [← hre] at hv; exact VTs.unren _ hv
  have R0 : RelT Φ hL.length (fun b => φ (ρ b)) hA lo ⟨argσT largs, hL⟩ ⟨argσ args, hA⟩ (fun b => φ (ρ b)) := by
    refine ⟨args_ok hargs, HL, fun _ _ => rfl, Nat.le_refl _, ?_, ?_, Nat.le_refl _, fun _ _ _ => rfl⟩
    · intro b c z hb h; have := (HL.dom b c z h).1; omega
    · intro b c z h
      have hb := (HL.dom b c z h).1
      obtain ⟨k, hk⟩ := hget b (by omega)
      have h' : φ (ρ b) = some (c, z) := h
      rw [hρk b k hk] at h'
      exact hlow k c z (hge k (List.mem_of_getElem? hk)) h'
  have hw := awpT_ok g2 hlo af.code _ _ _ R0 hrun
  obtain ⟨e0, s0, ⟨sT', φ', ⟨he, tv0, hr, hle⟩, R⟩, _, hw'⟩ := awp_both _ _ hw hw
  obtain ⟨v, k1, k2⟩ := rresT_ok R hr
  have R1 : RelT Φ hL.length (fun b => φ (ρ b)) hA lo ⟨fun _ => tv0, sT'.h⟩ ⟨fun _ => v, s0.h⟩ φ' := ⟨fun _ => k2, R.heap, R.pin, R.kle, R.new, R.low, R.alen, R.fr⟩
  obtain ⟨φ2, R2⟩ := R1.le hle
  have pin : ∀ i k, ks[i]? = some k → φ2 i = φ k := fun i k hk => by
    have hi : i < ks.length := (List.getElem?_eq_some_iff.1 hk).1
    have := R2.pin i (by omega)
    rw [this]; show φ (ρ i) = _; rw [hρk i k hk]
  let φn : Own := fun x => if x < hT.length then φ x else φ2 (x - hT.length + ks.length)
  have old : ∀ b, b < hT.length → φn b = φ b := fun b hb => by simp only [φn, hb, if_true]
  have ext : ∀ b x, φ b = some x → φn b = some x := fun b x h => by
    rw [old b (HH.dom b x.1 x.2 h).1]; exact h
  have nw : ∀ j, φn (hT.length + j) = φ2 (j + ks.length) := fun j => by
    simp only [φn]; rw [if_neg (by omega)]; congr 1; omega
  have key : ∀ i x, φ2 i = some x → φn (rhoN ks hT.length i) = some x := fun i x h => by
    by_cases hi : i < ks.length
    · obtain ⟨k, hk⟩ := hget i hi
      have : rhoN ks hT.length i = k := by simp only [rhoN, hk]
      rw [this, old k (hlt k (List.mem_of_getElem? hk)), ← pin i k hk]; exact h
    · have : rhoN ks hT.length i = hT.length + (i - ks.length) := by simp only [rhoN, List.getElem?_eq_none (show ks.length ≤ i by omega)]
      rw [this, nw]; rw [show i - ks.length + ks.length = i by omega]; exact h
  have inv : ∀ b x, φn b = some x → (b < hT.length ∧ φ b = some x) ∨ (hT.length ≤ b ∧ φ2 (b - hT.length + ks.length) = some x) := fun b x h => by
    by_cases hb : b < hT.length
    · rw [old b hb] at h; exact .inl ⟨hb, h⟩
    · simp only [φn, hb, if_false] at h; exact .inr ⟨by omega, h⟩
  have hfr : ∀ c, c < hA.length → (∀ b z, b ∈ ks → φ b ≠ some (c, z)) → s0.h[c]? = hA[c]? := by
    intro c hc hn
    refine R2.fr c hc fun i z hi h => ?_
    obtain ⟨k, hk⟩ := hget i (by omega)
    have h' : φ (ρ i) = some (c, z) := h
    rw [hρk i k hk] at h'
    exact hn k z (List.mem_of_getElem? hk) h'
  have hnew : ∀ b c z, ks.length ≤ b → φ2 b = some (c, z) → hA.length ≤ c := fun b c z hb h => R2.new b c z (by omega) h
  have htl : ((hL'.take ks.length).map (renB (rhoN ks hT.length))).length = ks.length := by simp; omega
  rw [run lo args hA v e0 s0 he hw' k1]
  refine ⟨v, s0.h, φn, rfl, VT.ren key r (R2.slots 0), ⟨?_, ?_, ?_, R2.heap.frz, ?_⟩, ⟨?_, old, ?_, R2.alen, ?_⟩⟩
  · intro b c z h
    rw [List.length_append, setAllB_len, List.length_map, List.length_drop]
    dsimp only
    rcases inv b _ h with ⟨h1, h2⟩ | ⟨h1, h2⟩
    · have := HH.dom b c z h2; exact ⟨by omega, Nat.lt_of_lt_of_le this.2 R2.alen⟩
    · have := R2.heap.dom _ c z h2
      obtain ⟨h3, h4⟩ := this
      have h3 : b - hT.length + ks.length < hL'.length := h3
      exact ⟨by omega, h4⟩
  · intro b b' c z z' h h'
    rcases inv b _ h with ⟨h0, h⟩ | ⟨h0, h⟩ <;> rcases inv b' _ h' with ⟨h0', h'⟩ | ⟨h0', h'⟩
    · exact HH.inj _ _ _ _ _ h h'
    · have := (HH.dom _ _ _ h).2; have := hnew _ _ _ (by omega) h'; omega
    · have := (HH.dom _ _ _ h').2; have := hnew _ _ _ (by omega) h; omega
    · have := R2.heap.inj _ _ _ _ _ h h'; omega
  · intro b e z es hb
    by_cases hlt' : b < hT.length
    · rw [List.getElem?_append_left (by rw [setAllB_len]; exact hlt')] at hb
      by_cases hm : b ∈ ks
      · obtain ⟨i, hi⟩ := List.getElem?_of_mem hm
        have hil : i < ks.length := (List.getElem?_eq_some_iff.1 hi).1
        rw [setAllB_in ks _ hT i b hnd htl hlt hi, List.getElem?_map, List.getElem?_take_of_lt hil] at hb
        obtain ⟨x, hx, hxe⟩ := Option.map_eq_some_iff.1 hb
        cases x with
        | dead => cases hxe
        | cells e' z' es' =>
          simp only [renB, TB.cells.injEq] at hxe
          obtain ⟨rfl, rfl, rfl⟩ := hxe
          rcases R2.heap.live i _ _ _ hx with ⟨j1, j2⟩ | ⟨c, cs, j1, j2, j3, j4⟩
          · left; exact ⟨by rw [old b hlt', ← pin i b hi]; exact j1, by rw [j2]; rfl⟩
          · right
            refine ⟨c, cs, by rw [old b hlt', ← pin i b hi]; exact j1, j2, by rw [ren_sized]; exact j3, ?_⟩
            rw [ren_flat]; exact VTs.ren key _ j4
      · rw [setAllB_out ks _ hT b hm] at hb
        rcases HH.live b e z es hb with ⟨j1, j2⟩ | ⟨c, cs, j1, j2, j3, j4⟩
        · exact .inl ⟨by rw [old b hlt']; exact j1, j2⟩
        · refine .inr ⟨c, cs, ext _ _ j1, ?_, j3, j4.mono ext⟩
          rw [hfr c (HH.dom _ _ _ j1).2 (fun b' z' hb' h => hm (by rw [HH.inj b b' c z z' j1 h]; exact hb'))]
          exact j2
    · rw [List.getElem?_append_right (by rw [setAllB_len]; omega), setAllB_len, List.getElem?_map, List.getElem?_drop] at hb
      obtain ⟨x, hx, hxe⟩ := Option.map_eq_some_iff.1 hb
      cases x with
      | dead => cases hxe
      | cells e' z' es' =>
        simp only [renB, TB.cells.injEq] at hxe
        obtain ⟨rfl, rfl, rfl⟩ := hxe
        have hφ : φn b = φ2 (ks.length + (b - hT.length)) := by simp only [φn, hlt', if_false]; congr 1; omega
        rcases R2.heap.live _ _ _ _ hx with ⟨j1, j2⟩ | ⟨c, cs, j1, j2, j3, j4⟩
        · left; exact ⟨by rw [hφ]; exact j1, by rw [j2]; rfl⟩
        · right
          refine ⟨c, cs, by rw [hφ]; exact j1, j2, by rw [ren_sized]; exact j3, ?_⟩
          rw [ren_flat]; exact VTs.ren key _ j4
  · intro b c z cs h h'
    rcases inv b _ h with ⟨_, h⟩ | ⟨_, h⟩
    · exact HH.disj _ _ _ _ h h'
    · exact R2.heap.disj _ _ _ _ h h'
  · rw [List.length_append, setAllB_len]; omega
  · intro b c z hb h
    rcases inv b _ h with ⟨h0, _⟩ | ⟨_, h⟩
    · omega
    · exact hnew _ _ _ (by omega) h
  · intro c hc hn
    exact hfr c hc fun b z hb h => hn b z (hge b hb) h
noncomputable def specL {α : Type} (enc : α → List TV) (encH : α → THeap) (Pre : α → Prop) (R : α → TV × THeap) (args : List TV) (h : THeap) : Option (TV × THeap) :=
  @dite _ (∃ x, args = enc x ∧ h = encH x ∧ Pre x) (Classical.propDecidable _) (fun h => some (R (Classical.choose h))) (fun _ => none)
theorem specL_at {α : Type} {enc : α → List TV} {encH : α → THeap} {Pre : α → Prop} {R : α → TV × THeap} (inj : ∀ x y, enc x = enc y → encH x = encH y → x = y) (x : α) (hx : Pre x) : specL enc encH Pre R (enc x) (encH x) = some (R x) := by
  have h : ∃ y, enc x = enc y ∧ encH x = encH y ∧ Pre y := ⟨x, rfl, rfl, hx⟩
  unfold specL
  rw [dif_pos h]
  have hs := Classical.choose_spec h
  rw [inj _ _ hs.1.symm hs.2.1.symm]
theorem okT_lc (hΓ : OkΓT P ΓT) (hf : P.funcs[f]? = some fn) (hcall : callable P f = true) (hc : cFn P fn = some af) {α : Type} {enc : α → List TV} {encH : α → THeap} {Pre : α → Prop} {R : α → TV × THeap}
    (H : ∀ x, Pre x → (encH x).length ≤ (R x).2.length ∧ awpT (encH x).length ΓT af.code (EndK (encH x).length af.res (R x).1 (R x).2) ⟨argσT (enc x), encH x⟩) : OkT P f (locSp (specL enc encH Pre R)) := by
  refine okT_loc hΓ hf hcall hc fun args hL r hL' h => ?_
  unfold specL at h
  split at h
  · rename_i hx
    obtain ⟨h1, h2, h3⟩ := Classical.choose_spec hx
    have hh := H _ h3
    rw [← h1, ← h2] at hh
    have h := Option.some.inj h
    rw [h] at hh
    exact hh
  · cases h
end
theorem le_ofk {k : Nat} {s : TSt} {l : List (Nat × TV)} {h0 : THeap} (ks : List Nat) (hs : slotsOk s.σ (rho ks s.h.length) l) (hb : blksOk s.h (rho ks s.h.length) ks h0) (hnd : ks.Nodup) (hlt : ∀ x ∈ ks, x < s.h.length) (hp : ∀ i, i < k → ks[i]? = some i) : Le k s ⟨slots l, h0⟩ := by
  obtain ⟨h1, h2⟩ := rho_ok (k := 0) (s := s) hnd hlt (blksOk_len hb)
  have hk : k ≤ h0.length := by
    rw [← blksOk_len hb]
    rcases Nat.eq_zero_or_pos k with h | h
    · omega
    · have := (List.getElem?_eq_some_iff.1 (hp (k - 1) (by omega))).1; omega
  refine ⟨rho ks s.h.length, fun i hi => by simp only [rho, hp i hi], hk, h1, h2, slotsOk_at hs, fun b e z es h => ?_⟩
  obtain ⟨x, hx, hx2⟩ := blksOk_get hb b e z es h
  simpa [rho, hx] using hx2
theorem endK_of {k : Nat} {res : List AR} {r tv : TV} {hL : THeap} {e : Exit} {s : TSt} (ks : List Nat) (he : e = .normal ∨ e = .ret) (hr : rresT s res = some tv) (hv : tv = renT (rho ks s.h.length) r) (hb : blksOk s.h (rho ks s.h.length) ks hL) (hnd : ks.Nodup) (hlt : ∀ x ∈ ks, x < s.h.length) (hp : ∀ i, i < k → ks[i]? = some i) :
    EndK k res r hL e s := by
  refine ⟨he, tv, hr, ?_⟩
  obtain ⟨h1, h2⟩ := rho_ok (k := 0) (s := s) hnd hlt (blksOk_len hb)
  have hk : k ≤ hL.length := by
    rw [← blksOk_len hb]
    rcases Nat.eq_zero_or_pos k with h | h
    · omega
    · have := (List.getElem?_eq_some_iff.1 (hp (k - 1) (by omega))).1; omega
  refine ⟨rho ks s.h.length, fun i hi => by simp only [rho, hp i hi], hk, h1, h2, fun _ => .inr hv, fun b e z es h => ?_⟩
  obtain ⟨x, hx, hx2⟩ := blksOk_get hb b e z es h
  simpa [rho, hx] using hx2
attribute [go_sem] locSp locOk locK locA ksOk locH setAllB rhoN List.getElem?_nil
end Go.AH
