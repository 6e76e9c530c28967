import Derived.Test.YtngebdcbcliobaaT6
set_option linter.unusedVariables false
namespace Go.AH

section
variable {Γ : Ctx} {lo : Nat}
theorem rops_mono {K K' : St → Prop} (h : ∀ s, K s → K' s) : ∀ (l : List AO) (s : St), rops Γ lo l K s → rops Γ lo l K' s
  | [], s, k => h s k
  | o :: r, s, k => by
    simp only [rops] at k ⊢
    split at k
    · rename_i s' hs; exact rops_mono h r s' k
    · exact k.elim
theorem qops_mono {K K' : St → Prop} (h : ∀ s, K s → K' s) : ∀ (l : List AO) (s : St), qops Γ l K s → qops Γ l K' s
  | [], s, k => h s k
  | o :: r, s, k => by
    simp only [qops] at k ⊢
    split at k
    · rename_i s' hs; exact qops_mono h r s' k
    · exact k.elim
theorem awp_mono : ∀ (c : AC) {Q Q' : Exit → St → Prop} (h : ∀ e s, Q e s → Q' e s) (s : St), awp Γ lo c Q s → awp Γ lo c Q' s
  | .skip, Q, Q', h, s, k => h _ _ k
  | .reg ops, Q, Q', h, s, k => rops_mono (h .normal) ops s k
  | .drw ops tl, Q, Q', h, s, k => qops_mono (fun s' => rops_mono (h .normal) tl s') ops s k
  | .seq a b, Q, Q', h, s, k => by
    simp only [awp] at k ⊢
    refine awp_mono a (fun e s' hh => ?_) s k
    cases e with
    | normal => exact awp_mono b h s' hh
    | _ => exact h _ _ hh
  | .cond c a b, Q, Q', h, s, k => by
    simp only [awp] at k ⊢
    split at k
    · rename_i t ht
      split at k
      · rename_i h1; simp only [h1, if_true]; exact awp_mono a h s k
      · rename_i h1; simp only [h1]; exact awp_mono b h s k
    · exact k.elim
  | .block id a, Q, Q', h, s, k => by
    simp only [awp] at k ⊢
    refine awp_mono a (fun e s' hh => ?_) s k
    cases e with
    | exit i =>
      dsimp only at hh ⊢
      split at hh
      · rename_i h1; rw [if_pos h1]; exact h _ _ hh
      · rename_i h1; rw [if_neg h1]; exact h _ _ hh
    | _ => exact h _ _ hh
  | .loop a, Q, Q', h, s, k => by
    simp only [awp] at k ⊢
    obtain ⟨R, h0, h1⟩ := k
    refine ⟨R, h0, fun n s' hr => awp_mono a (fun e s'' hh => ?_) s' (h1 n s' hr)⟩
    cases e with
    | normal => exact hh
    | _ => exact h _ _ hh
  | .exit id, Q, Q', h, s, k => h _ _ k
  | .ret, Q, Q', h, s, k => h _ _ k
  | .bad, Q, Q', h, s, k => k.elim

/-- The run is one. -/
theorem rops_both {K K' : St → Prop} : ∀ (l : List AO) (s : St), rops Γ lo l K s → rops Γ lo l K' s → ∃ s', K s' ∧ K' s' ∧ rops Γ lo l (fun x => x = s') s
  | [], s, k, k' => ⟨s, k, k', rfl⟩
  | o :: r, s, k, k' => by
    simp only [rops] at k k' ⊢
    split at k
    · rename_i s' hs; simp only [hs] at k' ⊢; exact rops_both r s' k k'
    · exact k.elim
theorem qops_both {K K' : St → Prop} : ∀ (l : List AO) (s : St), qops Γ l K s → qops Γ l K' s → ∃ s', K s' ∧ K' s' ∧ qops Γ l (fun x => x = s') s
  | [], s, k, k' => ⟨s, k, k', rfl⟩
  | o :: r, s, k, k' => by
    simp only [qops] at k k' ⊢
    split at k
    · rename_i s' hs; simp only [hs] at k' ⊢; exact qops_both r s' k k'
    · exact k.elim
theorem awp_both : ∀ (c : AC) {Q Q' : Exit → St → Prop} (s : St), awp Γ lo c Q s → awp Γ lo c Q' s → ∃ e0 s0, Q e0 s0 ∧ Q' e0 s0 ∧ awp Γ lo c (fun e s' => e = e0 ∧ s' = s0) s
  | .skip, Q, Q', s, k, k' => ⟨_, _, k, k', rfl, rfl⟩
  | .reg ops, Q, Q', s, k, k' => by
    obtain ⟨s', h1, h2, h3⟩ := rops_both ops s k k'
    exact ⟨_, _, h1, h2, rops_mono (fun x hx => ⟨rfl, hx⟩) ops s h3⟩
  | .drw ops tl, Q, Q', s, k, k' => by
    obtain ⟨s', h1, h2, h3⟩ := qops_both ops s k k'
    obtain ⟨s'', g1, g2, g3⟩ := rops_both tl s' h1 h2
    exact ⟨_, _, g1, g2, qops_mono (fun x hx => by subst hx; exact rops_mono (fun x hx => ⟨rfl, hx⟩) tl _ g3) ops s h3⟩
  | .seq a b, Q, Q', s, k, k' => by
    simp only [awp] at k k' ⊢
    obtain ⟨e1, s1, h1, h2, h3⟩ := awp_both a s k k'
    cases e1 with
    | normal =>
      obtain ⟨e2, s2, g1, g2, g3⟩ := awp_both b s1 h1 h2
      exact ⟨e2, s2, g1, g2, awp_mono a (fun e x hx => by obtain ⟨rfl, rfl⟩ := hx; exact g3) s h3⟩
    | _ => exact ⟨_, s1, h1, h2, awp_mono a (fun e x hx => by obtain ⟨rfl, rfl⟩ := hx; exact ⟨rfl, rfl⟩) s h3⟩
  | .cond c a b, Q, Q', s, k, k' => by
    simp only [awp] at k k' ⊢
    split at k
    · rename_i t ht
      simp only [ht] at k' ⊢
      cases t with
      | true => simp only [if_true] at k k' ⊢; exact awp_both a s k k'
      | false => exact awp_both b s k k'
    · exact k.elim
  | .block id a, Q, Q', s, k, k' => by
    simp only [awp] at k k' ⊢
    obtain ⟨e1, s1, h1, h2, h3⟩ := awp_both a s k k'
    cases e1 with
    | exit i =>
      dsimp only at h1 h2
      split at h1
      · rename_i hi
        rw [if_pos hi] at h2
        exact ⟨_, s1, h1, h2, awp_mono a (fun e x hx => by obtain ⟨rfl, rfl⟩ := hx; dsimp only; rw [if_pos hi]; exact ⟨rfl, rfl⟩) s h3⟩
      · rename_i hi
        rw [if_neg hi] at h2
        exact ⟨_, s1, h1, h2, awp_mono a (fun e x hx => by obtain ⟨rfl, rfl⟩ := hx; dsimp only; rw [if_neg hi]; exact ⟨rfl, rfl⟩) s h3⟩
    | _ => exact ⟨_, s1, h1, h2, awp_mono a (fun e x hx => by obtain ⟨rfl, rfl⟩ := hx; exact ⟨rfl, rfl⟩) s h3⟩
  | .loop a, Q, Q', s, k, k' => by
    simp only [awp] at k k' ⊢
    obtain ⟨R, ⟨n, hn⟩, hR⟩ := k
    obtain ⟨R', ⟨n', hn'⟩, hR'⟩ := k'
    have key : ∀ n s n', R n s → R' n' s → ∃ e0 s0, Q e0 s0 ∧ Q' e0 s0 ∧ ∃ T : Nat → St → Prop, T n s ∧ ∀ m x, T m x → awp Γ lo a (fun e s'' => match e with | .normal => ∃ m', m' < m ∧ T m' s'' | e => e = e0 ∧ s'' = s0) x := by
      intro n
      induction n using Nat.strongRecOn with
      | _ n ih =>
        intro s n' hn hn'
        obtain ⟨e1, s1, h1, h2, h3⟩ := awp_both a s (hR n s hn) (hR' n' s hn')
        have out : ∀ e1, e1 ≠ .normal → Q e1 s1 → Q' e1 s1 → awp Γ lo a (fun e s' => e = e1 ∧ s' = s1) s → ∃ e0 s0, Q e0 s0 ∧ Q' e0 s0 ∧ ∃ T : Nat → St → Prop, T n s ∧ ∀ m x, T m x → awp Γ lo a (fun e s'' => match e with | .normal => ∃ m', m' < m ∧ T m' s'' | e => e = e0 ∧ s'' = s0) x := by
          intro e1 hne q1 q2 q3
          refine ⟨e1, s1, q1, q2, fun m x => m = n ∧ x = s, ⟨rfl, rfl⟩, fun m x hx => ?_⟩
          obtain ⟨rfl, rfl⟩ := hx
          refine awp_mono a (fun e y hy => ?_) _ q3
          obtain ⟨rfl, rfl⟩ := hy
          cases e with
          | normal => exact absurd rfl hne
          | _ => exact ⟨rfl, rfl⟩
        cases e1 with
        | normal =>
          obtain ⟨m, hm, hmR⟩ := h1
          obtain ⟨m', _, hmR'⟩ := h2
          obtain ⟨e0, s0, q1, q2, T, t1, t2⟩ := ih m hm s1 m' hmR hmR'
          refine ⟨e0, s0, q1, q2, fun p x => (p = n ∧ x = s) ∨ (p ≤ m ∧ T p x), .inl ⟨rfl, rfl⟩, fun p x hx => ?_⟩
          rcases hx with ⟨rfl, rfl⟩ | ⟨hp, hx⟩
          · refine awp_mono a (fun e y hy => ?_) _ h3
            obtain ⟨rfl, rfl⟩ := hy
            exact ⟨m, hm, .inr ⟨Nat.le_refl _, t1⟩⟩
          · refine awp_mono a (fun e y hy => ?_) _ (t2 p x hx)
            cases e with
            | normal => obtain ⟨m', h1, h2⟩ := hy; exact ⟨m', h1, .inr ⟨by omega, h2⟩⟩
            | _ => exact hy
        | exit i => exact out _ (by simp) h1 h2 h3
        | goto i => exact out _ (by simp) h1 h2 h3
        | ret => exact out _ (by simp) h1 h2 h3
        | panic i => exact out _ (by simp) h1 h2 h3
        | outgrown => exact out _ (by simp) h1 h2 h3
    obtain ⟨e0, s0, q1, q2, T, t1, t2⟩ := key n s n' hn hn'
    exact ⟨e0, s0, q1, q2, T, ⟨n, t1⟩, t2⟩
  | .exit id, Q, Q', s, k, k' => ⟨_, _, k, k', rfl, rfl⟩
  | .ret, Q, Q', s, k, k' => ⟨_, _, k, k', rfl, rfl⟩
  | .bad, Q, Q', s, k, k' => k.elim

/-- What lies below lo stays. -/
theorem rops_fr {P : Program} (hΓ : OkΓ P Γ) {K : St → Prop} : ∀ (l : List AO) (s : St), lo ≤ s.h.length → rops Γ lo l K s → rops Γ lo l (fun s' => K s' ∧ Fr lo s.h s'.h) s
  | [], s, _, k => ⟨k, Fr.refl _ _⟩
  | o :: r, s, hl, k => by
    simp only [rops] at k ⊢
    split at k
    · rename_i s' hs
      have h1 : Fr lo s.h s'.h := by
        unfold stepO at hs
        split at hs
        · obtain ⟨⟨v, h'⟩, ha, rfl⟩ := Option.map_eq_some_iff.1 hs
          exact aop_fr hΓ _ ha hl
        · cases hs; exact Fr.refl _ _
      exact rops_mono (fun x hx => ⟨hx.1, h1.trans hx.2⟩) r s' (rops_fr hΓ r s' (Nat.le_trans hl h1.1) k)
    · exact k.elim
theorem qops_fr {P : Program} (hΓ : OkΓ P Γ) {K : St → Prop} : ∀ (l : List AO) (s : St), lo ≤ s.h.length → qops Γ l K s → qops Γ l (fun s' => K s' ∧ Fr lo s.h s'.h) s
  | [], s, _, k => ⟨k, Fr.refl _ _⟩
  | o :: r, s, hl, k => by
    simp only [qops] at k ⊢
    split at k
    · rename_i s' hs
      have h1 : Fr lo s.h s'.h := by
        unfold stepO at hs
        split at hs
        · obtain ⟨⟨v, h'⟩, ha, rfl⟩ := Option.map_eq_some_iff.1 hs
          exact (aop_fr hΓ _ ha (Nat.le_refl _)).mono hl
        · cases hs; exact Fr.refl _ _
      exact qops_mono (fun x hx => ⟨hx.1, h1.trans hx.2⟩) r s' (qops_fr hΓ r s' (Nat.le_trans hl h1.1) k)
    · exact k.elim
theorem awp_fr {P : Program} (hΓ : OkΓ P Γ) : ∀ (c : AC) {Q : Exit → St → Prop} (s : St), lo ≤ s.h.length → awp Γ lo c Q s → awp Γ lo c (fun e s' => Q e s' ∧ Fr lo s.h s'.h) s
  | .skip, Q, s, hl, k => ⟨k, Fr.refl _ _⟩
  | .reg ops, Q, s, hl, k => rops_fr hΓ ops s hl k
  | .drw ops tl, Q, s, hl, k => by
    refine qops_mono (fun s' hs => ?_) ops s (qops_fr hΓ ops s hl k)
    exact rops_mono (fun x hx => ⟨hx.1, hs.2.trans hx.2⟩) tl s' (rops_fr hΓ tl s' (Nat.le_trans hl hs.2.1) hs.1)
  | .seq a b, Q, s, hl, k => by
    simp only [awp] at k ⊢
    refine awp_mono a (fun e s' hh => ?_) s (awp_fr hΓ a s hl k)
    cases e with
    | normal => exact awp_mono b (fun e x hx => ⟨hx.1, hh.2.trans hx.2⟩) s' (awp_fr hΓ b s' (Nat.le_trans hl hh.2.1) hh.1)
    | _ => exact hh
  | .cond c a b, Q, s, hl, k => by
    simp only [awp] at k ⊢
    split at k
    · rename_i t ht
      cases t with
      | true => simp only [if_true] at k ⊢; exact awp_fr hΓ a s hl k
      | false => exact awp_fr hΓ b s hl k
    · exact k.elim
  | .block id a, Q, s, hl, k => by
    simp only [awp] at k ⊢
    refine awp_mono a (fun e s' hh => ?_) s (awp_fr hΓ a s hl k)
    cases e with
    | exit i =>
      obtain ⟨h1, h2⟩ := hh
      dsimp only at h1 ⊢
      split at h1
      · rename_i hi; rw [if_pos hi]; exact ⟨h1, h2⟩
      · rename_i hi; rw [if_neg hi]; exact ⟨h1, h2⟩
    | _ => exact hh
  | .loop a, Q, s, hl, k => by
    simp only [awp] at k ⊢
    obtain ⟨R, ⟨n, hn⟩, hR⟩ := k
    refine ⟨fun m x => R m x ∧ Fr lo s.h x.h, ⟨n, hn, Fr.refl _ _⟩, fun m x hx => ?_⟩
    refine awp_mono a (fun e s' hh => ?_) x (awp_fr hΓ a x (Nat.le_trans hl hx.2.1) (hR m x hx.1))
    cases e with
    | normal => obtain ⟨⟨m', h1, h2⟩, h3⟩ := hh; exact ⟨m', h1, h2, hx.2.trans h3⟩
    | _ => exact ⟨hh.1, hx.2.trans hh.2⟩
  | .exit id, Q, s, hl, k => ⟨k, Fr.refl _ _⟩
  | .ret, Q, s, hl, k => ⟨k, Fr.refl _ _⟩
  | .bad, Q, s, hl, k => k.elim
end

/-! ### A run over trees tells of the run -/
section
variable {Φ : Frz} {k lo : Nat} {φe φ : Own} {hA0 : Heap} {Γ : Ctx} {ΓT : TCtx}

theorem putT_ok {φ' : Own} {σT : Nat → TV} {σ : Nat → Value} (h : ∀ t, VT φ Φ (σT t) (σ t)) (he : ∀ b x, φ b = some x → φ' b = some x) (d : Option Nat) {tv : TV} {v : Value} (hv : VT φ' Φ tv v) : ∀ t, VT φ' Φ (putTO σT d tv t) (putO σ d v t) := by
  intro t
  cases d with
  | none => exact (h t).mono he
  | some d =>
    simp only [putTO, putT, putO, put]
    split
    · exact hv
    · exact (h t).mono he
theorem after {sT : TSt} {sA : St} {φ' : Own} {tlo : Nat} {d : Option Nat} {tv : TV} {v : Value} {hT' : THeap} {hA' : Heap} (R : RelT Φ k φe hA0 lo sT sA φ) (hl : lo ≤ hA0.length) (hv : VT φ' Φ tv v) (H : HT φ' Φ hT' hA') (A : Adv tlo φ φ' sT.h hT' sA.h hA') :
    RelT Φ k φe hA0 lo ⟨putTO sT.σ d tv, hT'⟩ ⟨putO sA.σ d v, hA'⟩ φ' := by
  refine ⟨putT_ok R.slots (A.ext R.heap) d hv, H, fun i hi => by rw [A.old i (by have := R.kle; omega)]; exact R.pin i hi, Nat.le_trans R.kle A.tlen, ?_, ?_, Nat.le_trans R.alen A.alen, ?_⟩
  · intro b c z hb h
    by_cases hlt : b < sT.h.length
    · rw [A.old b hlt] at h; exact R.new b c z hb h
    · exact Nat.le_trans R.alen (A.new b c z (by omega) h)
  · intro b c z h
    by_cases hlt : b < sT.h.length
    · rw [A.old b hlt] at h; exact R.low b c z h
    · exact Nat.le_trans hl (Nat.le_trans R.alen (A.new b c z (by omega) h))
  · intro c hc hn
    rw [← R.fr c hc hn]
    refine A.fr c (by have := R.alen; omega) fun b z _ h => ?_
    by_cases hk : b < k
    · rw [R.pin b hk] at h; exact hn b z hk h
    · have := R.new b c z (by omega) h; omega
theorem stepT_ok (hΓ : OkG Γ ΓT) (hl : lo ≤ hA0.length) {sT sT' : TSt} {sA : St} (R : RelT Φ k φe hA0 lo sT sA φ) {o : AO} {tlo lo' : Nat} (hlo : ∀ b c z, tlo ≤ b → φ b = some (c, z) → lo' ≤ c) (hl' : lo' ≤ sA.h.length)
    (h : stepT ΓT tlo o sT = some sT') : ∃ sA' φ', stepO Γ lo' o sA = some sA' ∧ RelT Φ k φe hA0 lo sT' sA' φ' := by
  have run : (top ΓT tlo (evT sT.σ) sT.h o.op).map (fun r => (⟨putTO sT.σ o.d r.1, r.2⟩ : TSt)) = some sT' → ∃ sA' φ', (aop Γ lo' (ev sA.σ) sA.h o.op).map (fun r => (⟨putO sA.σ o.d r.1, r.2⟩ : St)) = some sA' ∧ RelT Φ k φe hA0 lo sT' sA' φ' := by
    intro h
    obtain ⟨⟨tv, hT'⟩, ha, rfl⟩ := Option.map_eq_some_iff.1 h
    obtain ⟨v, hA', φ', e, hv, H, A⟩ := top_ok (Γ := Γ) R.heap hlo hl' (evT_ok R.slots) hΓ ha
    exact ⟨_, φ', by rw [e]; rfl, after R hl hv H A⟩
  unfold stepT at h
  unfold stepO
  split at h
  · rename_i hg
    rw [hg]
    simp only [wants, if_true]
    exact run h
  · rename_i t b hg
    rw [hg]
    split at h
    · rename_i c hc
      have hs := R.slots t
      rw [hc] at hs
      have hw : wants sA.σ (some (t, b)) = (c == b) := by simp only [wants, hs.p_inv.1]
      rw [hw]
      split at h
      · rename_i hcb; rw [if_pos hcb]; exact run h
      · rename_i hcb
        rw [if_neg hcb]
        cases h
        exact ⟨_, φ, rfl, after (tlo := 0) R hl (.tup .nil) R.heap (Adv.refl R.heap)⟩
    · rename_i hc
      have hs := R.slots t
      rw [hc] at hs
      have hw : wants sA.σ (some (t, b)) = false := by
        generalize hv : sA.σ t = v at hs
        have : v = undef := by
          cases hs with
          | fz h => cases h with | tup h => cases h; rfl
          | tup h => cases h; rfl
        simp only [wants, hv, this, undef]
      rw [hw]
      cases h
      exact ⟨_, φ, rfl, after (tlo := 0) R hl (.tup .nil) R.heap (Adv.refl R.heap)⟩
    · cases h
theorem ropsT_ok (hΓ : OkG Γ ΓT) (hl : lo ≤ hA0.length) {K : TSt → Prop} : ∀ (l : List AO) (sT : TSt) (sA : St) (φ : Own), RelT Φ k φe hA0 lo sT sA φ → ropsT ΓT l K sT → rops Γ lo l (fun sA' => ∃ sT' φ', K sT' ∧ RelT Φ k φe hA0 lo sT' sA' φ') sA
  | [], sT, sA, φ, R, h => ⟨sT, φ, h, R⟩
  | o :: r, sT, sA, φ, R, h => by
    simp only [ropsT] at h
    split at h
    · rename_i sT' hs
      obtain ⟨sA', φ', e, R'⟩ := stepT_ok hΓ hl R (fun b c z _ hh => R.low b c z hh) (Nat.le_trans hl R.alen) hs
      simp only [rops, e]
      exact ropsT_ok hΓ hl r sT' sA' φ' R' h
    · obtain ⟨sT', ⟨hg, f, as, sp, tv, h', hop, hf, hrel, rfl⟩, hrest⟩ := h
      obtain ⟨spA, k1, k2⟩ := hΓ f sp hf
      obtain ⟨v, hA', φ', e, hv, H, A⟩ := k2.2 φ Φ sT.h sA.h lo _ _ tv h' R.heap R.low (Nat.le_trans hl R.alen) (VTs.map as _ _ fun x _ => evT_ok R.slots x) hrel
      have hst : stepO Γ lo o sA = some ⟨putO sA.σ o.d v, hA'⟩ := by
        unfold stepO
        rw [hg, hop]
        simp only [wants, if_true, aop, k1, Option.bind_some, e]; rfl
      simp only [rops, hst]
      exact ropsT_ok hΓ hl r _ _ φ' (after R hl hv H A) hrest
theorem qopsT_ok (hΓ : OkG Γ ΓT) (hl : lo ≤ hA0.length) {K : TSt → Prop} : ∀ (l : List AO) (sT : TSt) (sA : St) (φ : Own), RelT Φ k φe hA0 lo sT sA φ → qopsT ΓT l K sT → qops Γ l (fun sA' => ∃ sT' φ', K sT' ∧ RelT Φ k φe hA0 lo sT' sA' φ') sA
  | [], sT, sA, φ, R, h => ⟨sT, φ, h, R⟩
  | o :: r, sT, sA, φ, R, h => by
    simp only [qopsT] at h
    split at h
    · rename_i sT' hs
      obtain ⟨sA', φ', e, R'⟩ := stepT_ok hΓ hl R (lo' := sA.h.length) (fun b c z hb hh => absurd (R.heap.dom b c z hh).1 (by omega)) (Nat.le_refl _) hs
      simp only [qops, e]
      exact qopsT_ok hΓ hl r sT' sA' φ' R' h
    · exact h.elim
theorem awpT_ok (hΓ : OkG Γ ΓT) (hl : lo ≤ hA0.length) : ∀ (c : AC) {Q : Exit → TSt → Prop} (sT : TSt) (sA : St) (φ : Own), RelT Φ k φe hA0 lo sT sA φ → awpT k ΓT c Q sT → awp Γ lo c (fun e sA' => ∃ sT' φ', Q e sT' ∧ RelT Φ k φe hA0 lo sT' sA' φ') sA
  | .skip, Q, sT, sA, φ, R, h => ⟨sT, φ, h, R⟩
  | .reg ops, Q, sT, sA, φ, R, h => ropsT_ok hΓ hl ops sT sA φ R h
  | .drw ops tl, Q, sT, sA, φ, R, h => qops_mono (fun s' ⟨sT', φ', h', R'⟩ => ropsT_ok hΓ hl tl sT' s' φ' R' h') ops sA (qopsT_ok hΓ hl ops sT sA φ R h)
  | .seq a b, Q, sT, sA, φ, R, h => by
    simp only [awpT] at h
    simp only [awp]
    refine awp_mono a (fun e s' ⟨sT', φ', h', R'⟩ => ?_) sA (awpT_ok hΓ hl a sT sA φ R h)
    cases e with
    | normal =>
      dsimp only at h'
      split at h'
      · obtain ⟨s0, hle, h'⟩ := h'
        obtain ⟨φ'', R''⟩ := R'.le hle
        exact awpT_ok hΓ hl b s0 s' φ'' R'' h'
      · exact awpT_ok hΓ hl b sT' s' φ' R' h'
    | _ => exact ⟨sT', φ', h', R'⟩
  | .cond c a b, Q, sT, sA, φ, R, h => by
    simp only [awpT] at h
    split at h
    · rename_i t ht
      have hv := evT_ok R.slots c
      rw [ht] at hv
      simp only [awp, hv.p_inv.1]
      cases t with
      | true => simp only [if_true] at h ⊢; exact awpT_ok hΓ hl a sT sA φ R h
      | false => exact awpT_ok hΓ hl b sT sA φ R h
    · rename_i ht
      have hv := evT_ok R.slots c
      rw [ht] at hv
      simp only [awp]
      generalize hvv : ev sA.σ c = vv at hv
      cases hv with
      | fz hv =>
        cases hv with
        | ub t =>
          cases t with
          | true => exact awpT_ok hΓ hl a sT sA φ R h.1
          | false => exact awpT_ok hΓ hl b sT sA φ R h.2
    · exact h.elim
  | .block id a, Q, sT, sA, φ, R, h => by
    simp only [awpT] at h
    simp only [awp]
    refine awp_mono a (fun e s' ⟨sT', φ', h', R'⟩ => ?_) sA (awpT_ok hΓ hl a sT sA φ R h)
    cases e with
    | exit i =>
      dsimp only at h' ⊢
      split at h'
      · rename_i hi; rw [if_pos hi]; exact ⟨sT', φ', h', R'⟩
      · rename_i hi; rw [if_neg hi]; exact ⟨sT', φ', h', R'⟩
    | _ => exact ⟨sT', φ', h', R'⟩
  | .loop a, Q, sT, sA, φ, R, h => by
    simp only [awpT] at h
    simp only [awp]
    obtain ⟨I, ⟨n, s0, hle, hn⟩, hI⟩ := h
    obtain ⟨φ0, R0⟩ := R.le hle
    refine ⟨fun m x => ∃ sT φ, I m sT ∧ RelT Φ k φe hA0 lo sT x φ, ⟨n, s0, φ0, hn, R0⟩, fun m x ⟨sT, φ, hm, R⟩ => ?_⟩
    refine awp_mono a (fun e s' ⟨sT', φ', h', R'⟩ => ?_) x (awpT_ok hΓ hl a sT x φ R (hI m sT hm))
    cases e with
    | normal =>
      obtain ⟨m', s1, h1, h2, h3⟩ := h'
      obtain ⟨φ1, R1⟩ := R'.le h2
      exact ⟨m', h1, s1, φ1, h3, R1⟩
    | _ => exact ⟨sT', φ', h', R'⟩
  | .exit id, Q, sT, sA, φ, R, h => ⟨sT, φ, h, R⟩
  | .ret, Q, sT, sA, φ, R, h => ⟨sT, φ, h, R⟩
  | .bad, Q, sT, sA, φ, R, h => h.elim
end
end Go.AH
