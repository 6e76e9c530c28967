import Derived.Test.YtngebdcbcliobaaT14
set_option linter.unusedVariables false
namespace Go.AH
/-! Less said, the blocks left as they are -/
theorem ren_id : ∀ (t : TV), renT (fun b => b) t = t := by
  intro t
  induction t using TV.rec (motive_2 := fun ts => renTs (fun b => b) ts = ts) with
  | agg cs ih => simp only [renT, ih]
  | tup cs ih => simp only [renT, ih]
  | fn f cs ih => simp only [renT, ih]
  | nil => rfl
  | cons a b h1 h2 => simp only [renTs, h1, h2]
  | _ => rfl
theorem rens_id (ts : List TV) : renTs (fun b => b) ts = ts := by
  induction ts with
  | nil => rfl
  | cons a l ih => simp only [renTs, ren_id, ih]
mutual
/-- The blocks that a tree names lie below n. -/
def below (n : Nat) : TV → Bool
  | .os b _ _ => decide (b < n)
  | .op b _ _ => decide (b < n)
  | .agg cs => belows n cs
  | .tup cs => belows n cs
  | .fn _ cs => belows n cs
  | _ => true
def belows (n : Nat) : List TV → Bool
  | [] => true
  | t :: ts => below n t && belows n ts
end
mutual
theorem ren_below {n : Nat} {ρ : Nat → Nat} (h : ∀ b, b < n → ρ b = b) : ∀ (t : TV), below n t = true → renT ρ t = t
  | .os b o m, k => by simp only [below, decide_eq_true_eq] at k; simp only [renT, h b k]
  | .op b o m, k => by simp only [below, decide_eq_true_eq] at k; simp only [renT, h b k]
  | .agg cs, k => by simp only [below] at k; simp only [renT, rens_below h cs k]
  | .tup cs, k => by simp only [below] at k; simp only [renT, rens_below h cs k]
  | .fn f cs, k => by simp only [below] at k; simp only [renT, rens_below h cs k]
  | .p v, _ => rfl
  | .nl, _ => rfl
  | .s es, _ => rfl
  | .fe e o, _ => rfl
  | .any, _ => rfl
  | .ub, _ => rfl
theorem rens_below {n : Nat} {ρ : Nat → Nat} (h : ∀ b, b < n → ρ b = b) : ∀ (ts : List TV), belows n ts = true → renTs ρ ts = ts
  | [], _ => rfl
  | t :: ts, k => by
    simp only [belows, Bool.and_eq_true] at k
    simp only [renTs, ren_below h t k.1, rens_below h ts k.2]
end
def slotsIn (σ : Nat → TV) : List (Nat × TV) → Prop
  | [] => True
  | (d, v) :: l => σ d = v ∧ slotsIn σ l
theorem slotsIn_at {σ : Nat → TV} : ∀ {l : List (Nat × TV)}, slotsIn σ l → ∀ t, slots l t = .any ∨ σ t = slots l t
  | [], _, t => .inl rfl
  | (d, v) :: l, h, t => by
    simp only [slotsIn] at h
    simp only [slots, putT]
    by_cases e : t = d
    · subst e; rw [if_pos rfl]; exact .inr h.1
    · rw [if_neg e]; exact slotsIn_at h.2 t
theorem le_keep {k : Nat} {σ : Nat → TV} {h : THeap} {l : List (Nat × TV)} (hk : k ≤ h.length) (hs : slotsIn σ l) : Le k ⟨σ, h⟩ ⟨slots l, h⟩ :=
  ⟨fun b => b, fun _ _ => rfl, hk, fun _ _ _ _ h => h, fun b hb => hb, fun t => by rw [ren_id]; exact slotsIn_at hs t, fun b e z es h => by rw [rens_id]; exact h⟩
/-- The last blocks are let go. -/
theorem le_drop {k : Nat} {σ : Nat → TV} {h G : THeap} {l : List (Nat × TV)} (hk : k ≤ h.length) (hs : slotsIn σ l) (hl : ∀ t, below h.length (slots l t) = true) (hh : ∀ (b : Nat) (e : TypeId) (z : Nat) (es : List TV), h[b]? = some (TB.cells e z es) → belows h.length es = true) : Le k ⟨σ, h ++ G⟩ ⟨slots l, h⟩ := by
  let ρ : Nat → Nat := fun b => if b < h.length then b else b + G.length
  have hρ : ∀ b, b < h.length → ρ b = b := fun b hb => by simp only [ρ, hb, if_true]
  refine ⟨ρ, fun i hi => hρ i (by omega), hk, fun b b' hb hb' e => by rw [hρ b hb, hρ b' hb'] at e; exact e, fun b hb => ?_, fun t => ?_, fun b e z es hb => ?_⟩
  · have hb' : ¬ b < h.length := by simpa using hb
    simp only [ρ, hb', if_false, List.length_append]
    have : h.length ≤ b := hb
    omega
  · rw [ren_below hρ _ (hl t)]; exact slotsIn_at hs t
  · have hlt := (List.getElem?_eq_some_iff.1 hb).1
    rw [rens_below hρ _ (hh b e z es hb), hρ b hlt]
    show (h ++ G)[b]? = _
    rw [List.getElem?_append_left hlt]; exact hb

theorem endT_same {res : List AR} {r : TV} {hL : THeap} {e : Exit} {s : TSt} (he : e = .normal ∨ e = .ret) (hr : rresT s res = some r) (hh : s.h = hL) : EndT res r hL e s := by
  subst hh; exact ⟨he, r, hr, le_same 0 _ (Nat.zero_le _)⟩

/-! A callee that writes into blocks that are handed in: it is told by what it does over those blocks alone -/
def EndK (k : Nat) (res : List AR) (r : TV) (hL : THeap) (e : Exit) (s : TSt) : Prop := (e = .normal ∨ e = .ret) ∧ ∃ tv, rresT s res = some tv ∧ Le k ⟨fun _ => tv, s.h⟩ ⟨fun _ => r, hL⟩
structure MutR (F : List TV → THeap → Option (TV × THeap)) (targs : List TV) (hT : THeap) (tv : TV) (hT' : THeap) (ks : List Nat) (largs : List TV) (hL : THeap) (r : TV) (hL' : THeap) : Prop where
  nodup : ks.Nodup
  lt : ∀ x ∈ ks, x < hT.length
  len : ks.length = hL.length
  args : targs = largs.map (renT (rho ks hT.length))
  blk : ∀ (b : Nat) (e : TypeId) (z : Nat) (es : List TV), hL[b]? = some (TB.cells e z es) → hT[rho ks hT.length b]? = some (TB.cells e z (renTs (rho ks hT.length) es))
  run : F largs hL = some (r, hL')
  len' : hL'.length = hL.length
  val : tv = renT (rho ks hT.length) r
  tlen : hT'.length = hT.length
  put : ∀ (i k : Nat), ks[i]? = some k → hT'[k]? = (hL'[i]?).map (renB (rho ks hT.length))
  keep : ∀ (b : Nat), b ∉ ks → hT'[b]? = hT[b]?
def mutSp (F : List TV → THeap → Option (TV × THeap)) : TSp := relSp fun targs hT tv hT' => ∃ ks largs hL r hL', MutR F targs hT tv hT' ks largs hL r hL'

section
variable {P : Program} {ΓT : TCtx} {f : Nat} {fn : Func} {af : AF}
theorem okT_mut (hΓ : OkΓT P ΓT) (hf : P.funcs[f]? = some fn) (hcall : callable P f = true) (hc : cFn P fn = some af) {F : List TV → THeap → Option (TV × THeap)}
    (H : ∀ args hL r hL', F args hL = some (r, hL') → awpT hL.length ΓT af.code (EndK hL.length af.res r hL') ⟨argσT args, hL⟩) : OkT P f (mutSp F) := by
  obtain ⟨Γ, g1, g2⟩ := hΓ
  obtain ⟨spA, ok, run⟩ := exists_run g1 hf hcall hc
  refine ⟨spA, ok, fun _ _ _ _ _ _ _ _ _ _ _ _ _ _ h => by simp [mutSp, relSp] at h, ?_⟩
  intro φ Φ hT hA lo targs args tv hT' HH hlow hlo hv ⟨ks, largs, hL, r, hL', M⟩
  let ρ := rho ks hT.length
  have hlen := M.len
  obtain ⟨q1, q2⟩ := rho_ok (k := 0) (s := ⟨fun _ => .any, hT⟩) M.nodup M.lt M.len
  have hρk : ∀ i k, ks[i]? = some k → ρ i = k := fun i k h => by simp only [ρ, rho, h]
  have HL : HT (fun b => φ (ρ b)) Φ hL hA := HH.unren q1 q2 M.blk
  have hargs : VTs (fun b => φ (ρ b)) Φ largs args := by
    rw [M.args, ← renTs_map] at hv; exact VTs.unren _ hv
  have R0 : RelT Φ hL.length (fun b => φ (ρ b)) hA lo ⟨argσT largs, hL⟩ ⟨argσ args, hA⟩ (fun b => φ (ρ b)) := by
    refine ⟨args_ok hargs, HL, fun _ _ => rfl, Nat.le_refl _, ?_, fun b c z h => hlow _ c z h, Nat.le_refl _, fun _ _ _ => rfl⟩
    intro b c z hb h; have := (HL.dom b c z h).1; omega
  have hw := awpT_ok g2 hlo af.code _ _ _ R0 (H _ _ _ _ M.run)
  obtain ⟨e0, s0, ⟨sT', φ', ⟨he, tv0, hr, hle⟩, R⟩, _, hw'⟩ := awp_both _ _ hw hw
  obtain ⟨v, k1, k2⟩ := rresT_ok R hr
  have R1 : RelT Φ hL.length (fun b => φ (ρ b)) hA lo ⟨fun _ => tv0, sT'.h⟩ ⟨fun _ => v, s0.h⟩ φ' := ⟨fun _ => k2, R.heap, R.pin, R.kle, R.new, R.low, R.alen, R.fr⟩
  obtain ⟨φ2, R2⟩ := R1.le hle
  have hφ2 : ∀ b x, φ2 b = some x → φ (ρ b) = some x := fun b x h => by
    have := (R2.heap.dom b x.1 x.2 h).1
    rw [← R2.pin b (by rw [M.len'] at this; exact this)]; exact h
  have hfr : ∀ c, c < hA.length → (∀ b z, b ∈ ks → φ b ≠ some (c, z)) → s0.h[c]? = hA[c]? := by
    intro c hc hn
    refine R2.fr c hc fun i z hi h => ?_
    obtain ⟨k, hk⟩ : ∃ k, ks[i]? = some k := ⟨ks[i]'(by omega), by simp⟩
    exact hn k z (List.mem_of_getElem? hk) (by rw [← hρk i k hk]; exact h)
  rw [run lo args hA v e0 s0 he hw' k1]
  refine ⟨v, s0.h, φ, rfl, by rw [M.val]; exact VT.ren hφ2 r (R2.slots 0), ⟨?_, HH.inj, ?_, ?_, HH.disj⟩, ⟨by rw [M.tlen]; exact Nat.le_refl _, fun _ _ => rfl, fun b c z hb h => (by rw [HH.fresh b hb] at h; cases h), R2.alen, fun c hc hn => hfr c hc fun b z _ h => hn b z (Nat.zero_le _) h⟩⟩
  · intro b c z h; have := HH.dom b c z h; rw [M.tlen]; exact ⟨this.1, Nat.lt_of_lt_of_le this.2 R2.alen⟩
  · intro b e z es hb
    by_cases hm : b ∈ ks
    · obtain ⟨i, hi⟩ := List.getElem?_of_mem hm
      rw [M.put i b hi] at hb
      obtain ⟨x, hx, hxe⟩ := Option.map_eq_some_iff.1 hb
      cases x with
      | dead => cases hxe
      | cells e' z' es' =>
        simp only [renB, TB.cells.injEq] at hxe
        obtain ⟨rfl, rfl, rfl⟩ := hxe
        have hil := (List.getElem?_eq_some_iff.1 hi).1
        have hpin : φ2 i = φ b := by rw [R2.pin i (by omega), hρk i b hi]
        rcases R2.heap.live i _ _ _ hx with ⟨j1, j2⟩ | ⟨c, cs, j1, j2, j3, j4⟩
        · left; exact ⟨by rw [← hpin]; exact j1, by rw [j2]; rfl⟩
        · right
          refine ⟨c, cs, by rw [← hpin]; exact j1, j2, by rw [ren_sized]; exact j3, ?_⟩
          rw [ren_flat]; exact VTs.ren hφ2 _ j4
    · rw [M.keep b hm] at hb
      rcases HH.live b e z es hb with j | ⟨c, cs, j1, j2, j3, j4⟩
      · exact .inl j
      · refine .inr ⟨c, cs, j1, ?_, j3, j4⟩
        rw [hfr c (HH.dom _ _ _ j1).2 (fun b' z' hb' h => hm (by rw [HH.inj b b' c z z' j1 h]; exact hb'))]
        exact j2
  · intro c cs h
    obtain ⟨e, he'⟩ := HH.frz c cs h
    exact ⟨e, by rw [hfr c (List.getElem?_eq_some_iff.1 he').1 (fun b z _ hb => HH.disj b c z cs hb h)]; exact he'⟩
end
/-- The call of a callee that writes. -/
theorem mut_call {Γ : TCtx} {σ : Nat → TV} {h : THeap} {K : TSt → Prop} {r : List AO} {F : List TV → THeap → Option (TV × THeap)} {f d : Nat} {as : List Opd} {a : List TV} {hh : THeap} {t : Nat} {Q : TV × THeap → Prop} (tv : TV) (h' : THeap) (ks : List Nat) (largs : List TV) (hL : THeap) (rr : TV) (hL' : THeap)
    (hg : Γ.get f = some (mutSp F)) (hR : MutR F (as.map (evT σ)) h tv h' ks largs hL rr hL') (hk : ropsT Γ r K ⟨putT σ d tv, h'⟩) :
    kontR ((mutSp F).fn t a hh) Q (∃ s', stepR Γ ⟨some d, none, .call f as⟩ ⟨σ, h⟩ s' ∧ ropsT Γ r K s') :=
  rel_call tv h' hg ⟨ks, largs, hL, rr, hL', hR⟩ hk
end Go.AH
