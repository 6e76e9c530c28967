import Derived.Test.YtngebdcbcliobaaA17
namespace Go.AH
open Go.RowKit (Below)

section
variable {P : Program} {N : Nat} {Γ : Ctx} {lo B : Nat}

theorem HR.drew {ι : Inj} {h : Heap} {w : World} (hr : HR P ι h lo B w) : HR P ι h lo B w.drew := ⟨hr.dom, hr.cell, hr.own, hr.apart⟩

theorem dok_of {Γ : Ctx} (hΓ : OkΓ P Γ) {ops : Array Oper} {os : List AO} {n : Nat} (hos : cOpers P N true ops ops.toList = some os) (hok : drawOk ops os n = true) {f : Nat → St}
    (hstep : ∀ i, i < n → ∀ x, os[i]? = some x → stepO Γ (f i).h.length x (f i) = some (f (i + 1))) : DOK P N Γ ops os n f := by
  simp only [drawOk, dOk, Bool.and_eq_true, decide_eq_true_eq, List.all_eq_true, List.mem_range] at hok
  obtain ⟨⟨⟨⟨⟨h1, h2⟩, h3⟩, h4⟩, h5⟩, h6⟩ := hok
  refine ⟨hΓ, hos, h1, ?_, ?_, ?_, ?_, hstep⟩
  · intro j o ho k hk
    have := h2 j (Array.getElem?_eq_some_iff.1 ho).1
    rw [ho] at this
    simpa using (List.all_eq_true.1 this) k hk
  · intro j hj i hi x y hx hy ht
    have := h3 j hj i hi
    rw [hx, hy] at this
    simp only [] at this
    rw [if_pos (by simpa using ht)] at this
    exact this
  · intro t ht hts i hi
    have := h4 (t - n) (by omega) i (by omega)
    rwa [show n + (t - n) = t by omega] at this
  · intro j o x ho hx t ht
    have hmem : (o, x) ∈ ops.toList.zip os := by
      refine List.mem_of_getElem? (i := j) ?_
      rw [List.getElem?_zip_eq_some]
      exact ⟨by simpa using ho, hx⟩
    have := h6 (o, x) hmem t ht
    simpa using this

/-- The last stores, one behind the other. -/
theorem tail_sound (hΓ : OkΓ P Γ) {ops : Array Oper} {os : List AO} {n : Nat} {f : Nat → St} (D : DOK P N Γ ops os n f) {Q : Exit → Act → World → Prop} {K : St → Prop} : ∀ (m t : Nat) (l : Array Bool) (ι : Inj) (s : St) (a : Act) (w : World),
    m = ops.size - t → n ≤ t → t ≤ ops.size → l.size = ops.size → Closed ops l → (∀ i, i < t → l.getD i false = true) → (∀ i, t ≤ i → l.getD i false = false) → SR P N ι lo B s a w → rops Γ lo (os.drop t) K s →
    (∀ s' a' w' ι', Ag s.h.length ι ι' → Fr lo s.h s'.h → SR P N ι' lo B s' a' w' → Below B w w' → K s' → Q .normal a' w') → wpAny P .any ops Q m l a w
  | 0, t, l, ι, s, a, w, hm, hn, ht, hl, hc, h1, h2, hs, hr, hq => by
    have e : t = ops.size := by omega
    have hos : os.length = ops.size := by have := (cOpers_get D.comp).1; simpa using this
    rw [List.drop_eq_nil_of_le (by omega)] at hr
    refine ⟨?_, hq s a w ι (Ag.refl _ _) (Fr.refl _ _) hs (Below.refl _ _) hr⟩
    apply List.eq_nil_iff_forall_not_mem.2
    intro i hi
    obtain ⟨o, ho, hx, _⟩ := (mem_ready hl i).1 hi
    have hlt := (Array.getElem?_eq_some_iff.1 ho).1
    rw [h1 i (by omega)] at hx; cases hx
  | m + 1, t, l, ι, s, a, w, hm, hn, ht, hl, hc, h1, h2, hs, hr, hq => by
    have hlt : t < ops.size := by omega
    have hget : ops[t]? = some ops[t] := by simp [hlt]
    have hready : t ∈ Region.ready .any ops l := (mem_ready hl t).2 ⟨ops[t], hget, h2 t (Nat.le_refl _), fun k hk => h1 k (D.back t _ hget k hk)⟩
    refine ⟨fun h => (by rw [h] at hready; cases hready), fun i hi => ?_⟩
    have hit : i = t := by
      obtain ⟨o, ho, hx, he⟩ := (mem_ready hl i).1 hi
      have hil := (Array.getElem?_eq_some_iff.1 ho).1
      rcases Nat.lt_trichotomy i t with h | h | h
      · rw [h1 i h] at hx; cases hx
      · exact h
      · exfalso
        have := waits_listed hc _ i t (D.last i (by omega) hil t h) (fun o' ho' => by rw [ho] at ho'; cases ho'; exact he)
        rw [h2 t (Nat.le_refl _)] at this; cases this
    subst hit
    obtain ⟨x, hx, hcx⟩ := D.get hget
    obtain ⟨hd, hxd, hop, hg⟩ := cOper_spec hcx
    have hdrop : os.drop i = x :: os.drop (i + 1) := by
      have hlen : i < os.length := (List.getElem?_eq_some_iff.1 hx).1
      rw [List.drop_eq_getElem_cons hlen]; congr 1
      exact (List.getElem?_eq_some_iff.1 hx).2
    rw [hdrop] at hr
    have hls : i < l.size := by omega
    have hnext : ∀ s' a' w' ι', Ag s.h.length ι ι' → Fr lo s.h s'.h → SR P N ι' lo B s' a' w' → Below B w w' → rops Γ lo (os.drop (i + 1)) K s' → wpAny P .any ops Q m (l.setIfInBounds i true) a' w' := by
      intro s' a' w' ι' k1 k2 k3 k4 k5
      refine tail_sound hΓ D m (i + 1) _ ι' s' a' w' (by omega) (by omega) (by omega) (by simpa using hl) (closed_set hl hc hready) ?_ ?_ k3 k5 ?_
      · intro j hj; rw [getD_set l i j hls]; split
        · rfl
        · exact h1 j (by omega)
      · intro j hj; rw [getD_set l i j hls, if_neg (by omega)]; exact h2 j (by omega)
      · intro s'' a'' w'' ι'' q1 q2 q3 q4 q5
        exact hq s'' a'' w'' ι'' (k1.trans k2.1 q1) (k2.trans q2) q3 (k4.trans q4) q5
    unfold wpOp
    rw [hget]
    simp only []
    rw [wants_eq hs.tmps hg]
    simp only [rops] at hr
    split at hr
    · rename_i s' hst
      unfold stepO at hst
      by_cases hw : wants s.σ x.g = true
      · rw [if_pos hw] at hst
        rw [if_pos hw]
        obtain ⟨⟨v, h'⟩, ha, hst⟩ := Option.map_eq_some_iff.1 hst
        simp only [] at hst
        subst hst
        have hfr := op_good (a := a) hΓ hs.heap hs.base hs.low hs.tmps hop ha
        left
        refine hfr.2.upon ?_
        intro v' w' ι' k1 k2 k3 k4
        exact hnext _ _ _ ι' k1 hfr.1 (by have := hs.put hd (hs.heap.ext k1) k2 k3 k4 (Nat.le_trans hs.low hfr.1.1); rw [hxd]; exact this) k4 hr
      · rw [if_neg hw] at hst
        rw [if_neg hw]
        have hst := Option.some.inj hst
        subst hst
        exact hnext ⟨putO s.σ x.d undef, s.h⟩ _ _ ι (Ag.refl _ _) (Fr.refl _ _) (by have := hs.put hd (Ext.refl _) VR.undef hs.heap (Below.refl _ _) hs.low; rw [hxd]; exact this) (Below.refl _ _) hr
    · exact hr.elim

theorem draw_sound (hΓ : OkΓ P Γ) {id : Nat} {ops : Array Oper} {os : List AO} {n : Nat} (hm : P.follows .mixedOrders = true) (hos : cOpers P N true ops ops.toList = some os) (hok : drawOk ops os n = true)
    {ι : Inj} {s : St} {a : Act} {w : World} (hs : SR P N ι lo B s a w) {Q : Exit → Act → World → Prop} {K : St → Prop} (h : qops Γ (os.take n) (rops Γ lo (os.drop n) K) s)
    (hq : ∀ s' a' w' ι', Ag s.h.length ι ι' → Fr lo s.h s'.h → SR P N ι' lo B s' a' w' → Below B w w' → K s' → Q .normal a' w') : (Code.region id ops true).wp P Q a w := by
  obtain ⟨f, hf0, hf1, hf2⟩ := qops_trace _ _ h
  have hosl : os.length = ops.size := by have := (cOpers_get hos).1; simpa using this
  have hnle : n ≤ ops.size := by
    simp only [drawOk, dOk, Bool.and_eq_true, decide_eq_true_eq] at hok
    exact hok.1.1.1.1.1
  have hlen : (os.take n).length = n := by simp; omega
  rw [hlen] at hf2
  have D : DOK P N Γ ops os n f := dok_of hΓ hos hok fun i hi x hx => hf1 i x (by rw [List.getElem?_take_of_lt hi]; exact hx)
  refine wp_region_any hm ?_
  have hdrew : ({ w with drawn := w.drawn + 1 } : World) = w.drew := rfl
  rw [hdrew]
  have mono0 := fun j (hj : j ≤ n) => D.mono j 0 (Nat.zero_le _) hj
  have start : DI P N ops n f ι lo B w (Array.replicate ops.size false) a w.drew ι := by
    have hfalse : ∀ i, (Array.replicate ops.size false).getD i false = false := by intro i; simp [Array.getElem?_replicate]; split <;> rfl
    have hres : ∀ j, j ≤ n → Ext ι (res ι (f j).h.length) := by
      intro j hj b g hb
      have h1 := (hs.heap.dom b g hb).1
      have h2 := (mono0 j hj).1
      rw [hf0] at h2
      simp only [res]; rw [if_pos (by omega)]; exact hb
    have hlook : ∀ j, j ≤ n → ∀ b g x, ι b = some g → (f j).h[b]? = some x → s.h[b]? = some x := by
      intro j hj b g x hb hx
      have h1 := (hs.heap.dom b g hb).1
      rw [← hf0, ← (mono0 j hj).2 b (by rw [hf0]; exact h1)]; exact hx
    constructor
    · simp
    · intro j o ho hj; rw [hfalse] at hj; cases hj
    · intro t ht; exact hfalse t
    · exact hs.tmps.1
    · intro t ht j ⟨c1, c2, c3⟩
      have e : (f j).σ t = s.σ t := by
        rw [← hf0]
        refine D.same j 0 (Nat.zero_le _) c1 fun k _ hk hw => ?_
        have := c2 k hk hw; rw [hfalse] at this; cases this
      rw [e]
      exact (hs.tmps.2 t ht).mono (hres j c1)
    · intro b g hb
      have h1 := hs.heap.dom b g hb
      have h2 := (mono0 n (Nat.le_refl _)).1
      rw [hf0] at h2
      exact ⟨by omega, h1.2⟩
    · intro j hj b e cs g hb hg
      obtain ⟨hz, hc⟩ := hs.heap.cell b e cs g (hlook j hj b g _ hg hb) hg
      refine ⟨hz, fun i v hv => ?_⟩
      obtain ⟨k1, v', k2, k3⟩ := hc i v hv
      exact ⟨k1, v', k2, k3.mono (hres j hj)⟩
    · intro b e cs g hlb hb hg
      exact hs.heap.own b e cs g hlb (hlook n (Nat.le_refl _) b g _ hg hb) hg
    · intro b b' e cs e' cs' g g' hne hlb hb hb' hg hg'
      exact hs.heap.apart b b' e cs e' cs' g g' hne hlb (hlook n (Nat.le_refl _) b g _ hg hb) (hlook n (Nat.le_refl _) b' g' _ hg' hb') hg hg'
    · intro b g hb; left; rw [hf0]; exact (hs.heap.dom b g hb).1
    · rw [hf0]; exact Ag.refl _ _
    · exact (Below.refl _ _).drew
    · exact hs.base
    · exact hs.defers
  -- the head, in whatever order
  have head : ∀ (fuel : Nat) (l : Array Bool) (a1 : Act) (w1 : World) (ι1 : Inj), DI P N ops n f ι lo B w l a1 w1 ι1 → fuel = unl l n + (ops.size - n) → wpAny P .any ops Q fuel l a1 w1 := by
    have done : ∀ (l : Array Bool) (a1 : Act) (w1 : World) (ι1 : Inj), DI P N ops n f ι lo B w l a1 w1 ι1 → unl l n = 0 → wpAny P .any ops Q (ops.size - n) l a1 w1 := by
      intro l a1 w1 ι1 I hu
      have hall := unl_zero l n hu
      have hSR : SR P N ι1 lo B (f n) a1 w1 := by
        refine ⟨⟨I.sz, fun t ht => ?_⟩, ⟨I.dom, ?_, I.own, I.apart⟩, I.base, ?_, I.defers⟩
        · refine (I.tm t ht n ⟨Nat.le_refl _, fun i hi _ => hall i hi, fun i h1 h2 _ => by omega⟩).mono (res_ext _ _)
        · intro b e cs g hb hg
          obtain ⟨hz, hc⟩ := I.cell n (Nat.le_refl _) b e cs g hb hg
          refine ⟨hz, fun i v hv => ?_⟩
          obtain ⟨k1, v', k2, k3⟩ := hc i v hv
          exact ⟨k1, v', k2, k3.mono (res_ext _ _)⟩
        · have := (mono0 n (Nat.le_refl _)).1; rw [hf0] at this; have := hs.low; omega
      refine tail_sound hΓ D _ n l ι1 (f n) a1 w1 rfl (Nat.le_refl _) hnle I.size I.closed hall I.tail hSR hf2 ?_
      intro s' a' w' ι' k1 k2 k3 k4 k5
      have h0 := mono0 n (Nat.le_refl _)
      rw [hf0] at h0
      have hfr : Fr lo s.h (f n).h := ⟨h0.1, fun b hb => h0.2 b (by have := hs.low; omega)⟩
      have hag : Ag s.h.length ι ι1 := by have := I.ag; rwa [hf0] at this
      exact hq s' a' w' ι' (hag.trans hfr.1 k1) (hfr.trans k2) k3 (I.bel.trans k4) k5
    intro fuel
    induction fuel with
    | zero =>
      intro l a1 w1 ι1 I hfu
      have hu : unl l n = 0 := by omega
      have := done l a1 w1 ι1 I hu
      rwa [show ops.size - n = 0 by omega] at this
    | succ fuel ih =>
      intro l a1 w1 ι1 I hfu
      by_cases hu : unl l n = 0
      · have := done l a1 w1 ι1 I hu
        rwa [show ops.size - n = fuel + 1 by omega] at this
      · refine ⟨fun hr => ?_, fun i hi => ?_⟩
        · exfalso
          obtain ⟨i, h1, h2, h3⟩ := least_unl l n (by omega)
          have hlt : i < ops.size := by omega
          have hget : ops[i]? = some ops[i] := by simp [hlt]
          have : i ∈ Region.ready .any ops l := (mem_ready I.size i).2 ⟨ops[i], hget, h2, fun k hk => h3 k (D.back i _ hget k hk)⟩
          rw [hr] at this; cases this
        · obtain ⟨o, ho, hx, he⟩ := (mem_ready I.size i).1 hi
          have hil := (Array.getElem?_eq_some_iff.1 ho).1
          have hin : i < n := by
            rcases Nat.lt_or_ge i n with h | h
            · exact h
            · exfalso
              obtain ⟨k, h1, h2, _⟩ := least_unl l n (by omega)
              have := waits_listed I.closed _ i k (D.last i h hil k (by omega)) (fun o' ho' => by rw [ho] at ho'; cases ho'; exact he)
              rw [h2] at this; cases this
          refine wpOp_mono (fun a2 w2 ⟨ι2, I2⟩ => ih _ a2 w2 ι2 I2 ?_) (draw_step D I hi hin)
          have := unl_set l i (by rw [I.size]; exact hil) hx n hin
          omega
  refine head _ _ _ _ _ start ?_
  have hu : ∀ m, unl (Array.replicate ops.size false) m = m := by
    intro m
    induction m with
    | zero => rfl
    | succ m ih =>
      rw [unl_succ, ih]
      have : (Array.replicate ops.size false).getD m false = false := by simp [Array.getElem?_replicate]; split <;> rfl
      rw [this]; rfl
  rw [hu]; omega

/-- Code. -/
theorem awp_sound (hΓ : OkΓ P Γ) : ∀ (c : Code) (x : AC), cCode P N c = some x → ∀ (Q : Exit → St → Prop) (Q' : Exit → Act → World → Prop) (ι : Inj) (s : St) (a : Act) (w : World), SR P N ι lo B s a w → awp Γ lo x Q s →
    (∀ e s' a' w' ι', Ag s.h.length ι ι' → Fr lo s.h s'.h → SR P N ι' lo B s' a' w' → Below B w w' → Q e s' → Q' e a' w') → c.wp P Q' a w
  | .skip, x, hc, Q, Q', ι, s, a, w, hs, h, hq => by
    cases hc; exact wp_skip (hq _ _ _ _ _ (Ag.refl _ _) (Fr.refl _ _) hs (Below.refl _ _) h)
  | .exit id, x, hc, Q, Q', ι, s, a, w, hs, h, hq => by
    cases hc; exact wp_exit (hq _ _ _ _ _ (Ag.refl _ _) (Fr.refl _ _) hs (Below.refl _ _) h)
  | .ret, x, hc, Q, Q', ι, s, a, w, hs, h, hq => by
    cases hc; exact wp_ret (hq _ _ _ _ _ (Ag.refl _ _) (Fr.refl _ _) hs (Below.refl _ _) h)
  | .region id ops false, x, hc, Q, Q', ι, s, a, w, hs, h, hq => by
    simp only [cCode] at hc
    obtain ⟨os, ho, rfl⟩ := Option.map_eq_some_iff.1 hc
    exact wp_region_list (rops_sound hΓ ops.toList os ι s a w ho hs h fun s' a' w' ι' h1 h0 h2 h3 h4 => hq _ _ _ _ _ h1 h0 h2 h3 h4)
  | .region id ops true, x, hc, Q, Q', ι, s, a, w, hs, h, hq => by
    simp only [cCode] at hc
    obtain ⟨os, ho, hc⟩ := Option.bind_eq_some_iff.1 hc
    split at hc
    · rename_i hcond
      have hc := Option.some.inj hc
      subst hc
      exact draw_sound hΓ hcond.1 ho hcond.2 hs h fun s' a' w' ι' h1 h0 h2 h3 h4 => hq _ _ _ _ _ h1 h0 h2 h3 h4
    · have hc := Option.some.inj hc
      subst hc
      exact h.elim
  | .seq c d, x, hc, Q, Q', ι, s, a, w, hs, h, hq => by
    simp only [cCode] at hc
    obtain ⟨y, hy, hc⟩ := Option.bind_eq_some_iff.1 hc
    obtain ⟨z, hz, rfl⟩ := Option.map_eq_some_iff.1 hc
    refine wp_seq (awp_sound hΓ c y hy _ _ ι s a w hs h ?_)
    intro e s' a' w' ι' h1 h0 h2 h3 h4
    cases e with
    | normal => exact awp_sound hΓ d z hz Q Q' ι' s' a' w' h2 h4 fun e s'' a'' w'' ι'' k1 k0 k2 k3 k4 => hq _ _ _ _ _ (h1.trans h0.1 k1) (h0.trans k0) k2 (h3.trans k3) k4
    | _ => exact hq _ _ _ _ _ h1 h0 h2 h3 h4
  | .cond o c d, x, hc, Q, Q', ι, s, a, w, hs, h, hq => by
    simp only [cCode] at hc
    obtain ⟨z, hz, hc⟩ := Option.bind_eq_some_iff.1 hc
    obtain ⟨y, hy, hc⟩ := Option.bind_eq_some_iff.1 hc
    obtain ⟨y', hy', rfl⟩ := Option.map_eq_some_iff.1 hc
    simp only [awp] at h
    have hv := cO_ev hs.tmps hz
    split at h
    · rename_i t ht
      rw [ht] at hv
      have he : a.eval o = .bool t := by generalize a.eval o = u at hv; cases hv; rfl
      cases t with
      | true => exact wp_cond_true he (awp_sound hΓ c y hy Q Q' ι s a w hs (by simpa using h) hq)
      | false => exact wp_cond_false he (awp_sound hΓ d y' hy' Q Q' ι s a w hs (by simpa using h) hq)
    · exact h.elim
  | .block id c, x, hc, Q, Q', ι, s, a, w, hs, h, hq => by
    simp only [cCode] at hc
    obtain ⟨y, hy, rfl⟩ := Option.map_eq_some_iff.1 hc
    refine wp_block (awp_sound hΓ c y hy _ _ ι s a w hs h ?_)
    intro e s' a' w' ι' h1 h0 h2 h3 h4
    cases e with
    | exit i =>
      simp only [Exit.inBlock]
      dsimp only at h4
      split at h4
      · rename_i hi; rw [if_pos hi]; exact hq _ _ _ _ _ h1 h0 h2 h3 h4
      · rename_i hi; rw [if_neg hi]; exact hq _ _ _ _ _ h1 h0 h2 h3 h4
    | _ => exact hq _ _ _ _ _ h1 h0 h2 h3 h4
  | .loop c, x, hc, Q, Q', ι, s, a, w, hs, h, hq => by
    simp only [cCode] at hc
    obtain ⟨y, hy, rfl⟩ := Option.map_eq_some_iff.1 hc
    simp only [awp] at h
    obtain ⟨R, ⟨n, hn⟩, hround⟩ := h
    refine wp_loop_nat (fun n a' w' => ∃ s' ι', Ag s.h.length ι ι' ∧ Fr lo s.h s'.h ∧ SR P N ι' lo B s' a' w' ∧ Below B w w' ∧ R n s') n ⟨s, ι, Ag.refl _ _, Fr.refl _ _, hs, Below.refl _ _, hn⟩ ?_
    intro n a1 w1 ⟨s1, ι1, e1, e0, hs1, hb1, hR1⟩
    refine awp_sound hΓ c y hy _ _ ι1 s1 a1 w1 hs1 (hround n s1 hR1) ?_
    intro e s' a' w' ι' h1 h0 h2 h3 h4
    cases e with
    | normal =>
      obtain ⟨m, hm, hRm⟩ := h4
      exact ⟨m, hm, s', ι', e1.trans e0.1 h1, e0.trans h0, h2, hb1.trans h3, hRm⟩
    | _ => exact hq _ _ _ _ _ (e1.trans e0.1 h1) (e0.trans h0) h2 (hb1.trans h3) h4
  | .rangeFunc .., x, hc, _, _, _, _, _, _, _, h, _ => by simp only [cCode] at hc; cases hc; exact h.elim
  | .scope .., x, hc, _, _, _, _, _, _, _, h, _ => by simp only [cCode] at hc; cases hc; exact h.elim
  | .label .., x, hc, _, _, _, _, _, _, _, h, _ => by simp only [cCode] at hc; cases hc; exact h.elim
  | .goto .., x, hc, _, _, _, _, _, _, _, h, _ => by simp only [cCode] at hc; cases hc; exact h.elim
  | .refuse .., x, hc, _, _, _, _, _, _, _, h, _ => by simp only [cCode] at hc; cases hc; exact h.elim
end
end Go.AH
