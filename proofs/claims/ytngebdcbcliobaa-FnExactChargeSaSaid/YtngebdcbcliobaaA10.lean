import Derived.Test.YtngebdcbcliobaaA9
import Derived.Tactics
namespace Go.AH
open Go.RowKit (Below)

structure SR (P : Program) (N : Nat) (ι : Inj) (lo B : Nat) (s : St) (a : Act) (w : World) : Prop where
  tmps : TR N ι s.σ a.tmps
  heap : HR P ι s.h lo B w
  base : B ≤ w.heap.size
  low : lo ≤ s.h.length
  defers : a.defers = []

section
variable {P : Program} {N : Nat} {Γ : Ctx} {lo B : Nat}

theorem SR.put {ι : Inj} {s : St} {a : Act} {w : World} (h : SR P N ι lo B s a w) {ι' : Inj} {d : Option Tmp} (hd : cDst N d = true) {v v' : Value} {h' : Heap} {w' : World} (he : Ext ι ι') (hv : VR ι' v v') (hh : HR P ι' h' lo B w') (hw : Below B w w')
    (hl : lo ≤ h'.length) : SR P N ι' lo B ⟨putO s.σ d v, h'⟩ (a.put d v') w' :=
  ⟨(h.tmps.mono he).put hd hv, hh, Nat.le_trans h.base hw.size, hl, by cases d <;> simpa [Act.put] using h.defers⟩

theorem wants_eq {ι : Inj} {σ : Nat → Value} {a : Act} (ht : TR N ι σ a.tmps) {ops : Array Oper} {o : Oper} {g : Option (Nat × Bool)} (hg : cGuard N ops o.guard = some g) :
    Region.wanted o (yielded ops a.tmps) = wants σ g := by
  unfold Region.wanted
  cases hgd : o.guard with
  | none => rw [hgd] at hg; simp only [cGuard] at hg; cases hg; rfl
  | some jb =>
    obtain ⟨j, b⟩ := jb
    rw [hgd] at hg
    simp only [cGuard] at hg
    split at hg
    · rename_i d hd
      split at hg
      · rename_i hlt
        cases hg
        have hr := ht.2 d hlt
        have hsz : d < a.tmps.size := Nat.lt_of_lt_of_le hlt ht.1
        simp only [wants, yielded, hd]
        have hgd2 : a.tmps.getD d undef = a.tmps[d] := by simp [hsz]
        rw [hgd2] at hr
        have hget : a.tmps[d]? = some a.tmps[d] := by simp [hsz]
        generalize a.tmps[d] = y at hr hget
        generalize σ d = x at hr
        cases hr <;> simp [hget]
      · cases hg
    · cases hg

theorem cOper_spec {d : Bool} {ops : Array Oper} {o : Oper} {x : AO} (h : cOper P N d ops o = some x) : cDst N o.dst = true ∧ x.d = o.dst ∧ cOp P N d o.op = some x.op ∧ cGuard N ops o.guard = some x.g := by
  unfold cOper at h
  split at h
  · rename_i hd
    obtain ⟨p, hp, h⟩ := Option.bind_eq_some_iff.1 h
    obtain ⟨g, hg, rfl⟩ := Option.map_eq_some_iff.1 h
    exact ⟨hd, rfl, hp, hg⟩
  · cases h

theorem rops_sound (hΓ : OkΓ P Γ) {d : Bool} {ops : Array Oper} {Q : Exit → Act → World → Prop} {K : St → Prop} : ∀ (l : List Oper) (os : List AO) (ι : Inj) (s : St) (a : Act) (w : World), cOpers P N d ops l = some os → SR P N ι lo B s a w → rops Γ lo os K s →
    (∀ s' a' w' ι', Ag s.h.length ι ι' → Fr lo s.h s'.h → SR P N ι' lo B s' a' w' → Below B w w' → K s' → Q .normal a' w') → wpList P ops Q l a w
  | [], os, ι, s, a, w, hc, hs, hr, hq => by
    cases hc
    exact hq s a w ι (Ag.refl _ _) (Fr.refl _ _) hs (Below.refl _ _) hr
  | o :: l, os, ι, s, a, w, hc, hs, hr, hq => by
    simp only [cOpers] at hc
    obtain ⟨x, hx, hc⟩ := Option.bind_eq_some_iff.1 hc
    obtain ⟨os', hos, rfl⟩ := Option.map_eq_some_iff.1 hc
    obtain ⟨hd, hxd, hop, hg⟩ := cOper_spec hx
    simp only [rops] at hr
    split at hr
    · rename_i s' hst
      unfold wpList
      rw [wants_eq hs.tmps hg]
      unfold stepO at hst
      by_cases hw : wants s.σ x.g = true
      · rw [if_pos hw] at hst
        rw [if_pos hw]
        obtain ⟨⟨v, h'⟩, ha, hst⟩ := Option.map_eq_some_iff.1 hst
        simp only [] at hst
        subst hst
        have hfr := op_good (a := a) hΓ hs.heap hs.base hs.low hs.tmps hop ha
        left
        refine hfr.2.upon ?_
        intro v' w' ι' h1 h2 h3 h4
        refine rops_sound hΓ l os' ι' _ _ _ hos (hs.put hd (hs.heap.ext h1) h2 h3 h4 (Nat.le_trans hs.low hfr.1.1)) (by rw [hxd] at hr; exact hr) ?_
        intro s' a' w'' ι'' k1 k0 k2 k3 k4
        exact hq s' a' w'' ι'' (h1.trans hfr.1.1 k1) (hfr.1.trans k0) k2 (h4.trans k3) k4
      · rw [if_neg hw] at hst
        rw [if_neg hw]
        cases hst
        refine rops_sound hΓ l os' ι _ _ _ hos (hs.put hd (Ext.refl _) VR.undef hs.heap (Below.refl _ _) hs.low) (by rw [hxd] at hr; exact hr) hq
    · exact hr.elim

/-- A loop, by a number that falls. -/
theorem wp_loop_nat {c : Code} {Q : Exit → Act → World → Prop} (R : Nat → Act → World → Prop) (n : Nat) {a : Act} {w : World} (h0 : R n a w)
    (round : ∀ n a w, R n a w → c.wp P (Exit.then (fun a' w' => ∃ m, m < n ∧ R m a' w') Q) a w) : (Code.loop c).wp P Q a w := by
  intro b k cs
  have key : ∀ n a w, R n a w → ∃ e a' w', Q e a' w' ∧ Arrives P (lone (b.at a (.code c :: .inLoop c :: k)) cs w) b k cs e a' w' := by
    intro n
    induction n using Nat.strongRecOn with
    | _ n ih =>
      intro a w hR
      obtain ⟨e, a1, w1, hq, harr⟩ := round n a w hR b (.inLoop c :: k) cs
      cases e with
      | normal =>
        obtain ⟨m, hm, hRm⟩ := hq
        obtain ⟨e2, a2, w2, hq2, harr2⟩ := ih m hm a1 w1 hRm
        exact ⟨e2, a2, w2, hq2, .of_steps (Steps.trans harr (.one step_inLoop)) harr2⟩
      | exit id => exact ⟨_, a1, w1, hq, .pass (x := .inLoop c) rfl (fun _ _ => .inl (by simp)) harr⟩
      | goto l => exact ⟨_, a1, w1, hq, .pass (x := .inLoop c) rfl (fun _ _ => .inl (by simp)) harr⟩
      | ret => exact ⟨_, a1, w1, hq, .pass (x := .inLoop c) rfl (fun _ _ => .inl (by simp)) harr⟩
      | panic ch => exact ⟨_, a1, w1, hq, .pass (x := .inLoop c) rfl (fun _ _ => .inl (by simp)) harr⟩
      | outgrown => exact ⟨_, a1, w1, hq, .pass (x := .inLoop c) rfl (fun _ _ => .inl (by simp)) harr⟩
  obtain ⟨e, a', w', hq, harr⟩ := key n a w h0
  exact ⟨e, a', w', hq, .of_steps (.one step_loop) harr⟩

end
end Go.AH
