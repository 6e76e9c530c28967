import Derived.Test.YtngebdcbcliobaaA16
namespace Go.AH
open Go.RowKit (Below)

section
variable {P : Program} {N : Nat} {Γ : Ctx} {ops : Array Oper} {os : List AO} {n : Nat} {f : Nat → St} {ι0 : Inj} {lo B : Nat} {w0 : World}

structure DOK (P : Program) (N : Nat) (Γ : Ctx) (ops : Array Oper) (os : List AO) (n : Nat) (f : Nat → St) : Prop where
  ctx : OkΓ P Γ
  comp : cOpers P N true ops ops.toList = some os
  le : n ≤ ops.size
  back : ∀ (j : Nat) (o : Oper), ops[j]? = some o → ∀ k ∈ edgesOf o, k < j
  ord : ∀ j, j < n → ∀ i, i < j → ∀ x y, ops[i]? = some x → ops[j]? = some y → (touch ops x y = true ∨ touch ops y x = true) → waits ops ops.size j i = true
  last : ∀ t, n ≤ t → t < ops.size → ∀ i, i < t → waits ops ops.size t i = true
  see : ∀ (j : Nat) (o : Oper) (x : AO), ops[j]? = some o → os[j]? = some x → ∀ t ∈ x.op.os.flatMap opdA, t ∈ looks ops o
  step : ∀ i, i < n → ∀ x, os[i]? = some x → stepO Γ (f i).h.length x (f i) = some (f (i + 1))

variable (D : DOK P N Γ ops os n f)
include D

theorem DOK.get {j : Nat} {o : Oper} (hj : ops[j]? = some o) : ∃ x, os[j]? = some x ∧ cOper P N true ops o = some x :=
  (cOpers_get D.comp).2 j o (by simpa using hj)
theorem DOK.fr1 {i : Nat} (hi : i < n) : Fr (f i).h.length (f i).h (f (i + 1)).h := by
  have hlt : i < ops.size := Nat.lt_of_lt_of_le hi D.le
  obtain ⟨x, hx, _⟩ := D.get (j := i) (o := ops[i]) (by simp [hlt])
  have hs := D.step i hi x hx
  unfold stepO at hs
  split at hs
  · obtain ⟨⟨v, h'⟩, ha, hs⟩ := Option.map_eq_some_iff.1 hs
    have := aop_fr D.ctx x.op ha (Nat.le_refl _)
    rw [← hs]; exact this
  · have hs := Option.some.inj hs
    rw [← hs]; exact Fr.refl _ _
theorem DOK.mono : ∀ (j i : Nat), i ≤ j → j ≤ n → (f i).h.length ≤ (f j).h.length ∧ ∀ b, b < (f i).h.length → (f j).h[b]? = (f i).h[b]?
  | 0, i, h, _ => by have : i = 0 := by omega
                     subst this; exact ⟨Nat.le_refl _, fun _ _ => rfl⟩
  | j + 1, i, h, hj => by
    by_cases e : i = j + 1
    · subst e; exact ⟨Nat.le_refl _, fun _ _ => rfl⟩
    · obtain ⟨h1, h2⟩ := DOK.mono j i (by omega) (by omega)
      obtain ⟨h3, h4⟩ := D.fr1 (i := j) (by omega)
      exact ⟨by omega, fun b hb => (h4 b (by omega)).trans (h2 b hb)⟩
theorem DOK.same {t : Nat} : ∀ (j i : Nat), i ≤ j → j ≤ n → (∀ k, i ≤ k → k < j → ¬ wr ops k t) → (f j).σ t = (f i).σ t
  | 0, i, h, _, _ => by have : i = 0 := by omega
                        subst this; rfl
  | j + 1, i, h, hj, hw => by
    by_cases e : i = j + 1
    · subst e; rfl
    · have ih := DOK.same j i (by omega) (by omega) (fun k h1 h2 => hw k h1 (by omega))
      have hlt : j < ops.size := by have := D.le; omega
      have hget : ops[j]? = some ops[j] := by simp [hlt]
      obtain ⟨x, hx, hc⟩ := D.get hget
      have hd := (cOper_spec hc).2.1
      have hs := D.step j (by omega) x hx
      have hput : ∀ v, putO (f j).σ x.d v t = (f j).σ t := by
        intro v
        have hne : x.d ≠ some t := fun hxt => hw j (by omega) (by omega) ⟨ops[j], hget, by rw [← hd]; exact hxt⟩
        cases hxd : x.d with
        | none => rfl
        | some d =>
          rw [hxd] at hne
          have : t ≠ d := fun e => hne (by rw [e])
          simp [putO, put, this]
      unfold stepO at hs
      split at hs
      · obtain ⟨⟨v, h'⟩, ha, hs⟩ := Option.map_eq_some_iff.1 hs
        rw [← hs, ← ih]; exact hput v
      · have hs := Option.some.inj hs
        rw [← hs, ← ih]; exact hput undef

/-- One operation of the head, whenever its turn comes. -/
theorem draw_step {l : Array Bool} {a : Act} {w : World} {ι : Inj} (I : DI P N ops n f ι0 lo B w0 l a w ι) {j : Nat} (hj : j ∈ Region.ready .any ops l) (hjn : j < n) {Q : Exit → Act → World → Prop} :
    wpOp P ops Q j (fun a' w' => ∃ ι', DI P N ops n f ι0 lo B w0 (l.setIfInBounds j true) a' w' ι') a w := by
  obtain ⟨o, ho, hjl, hedges⟩ := (mem_ready I.size j).1 hj
  have hjs : j < ops.size := (Array.getElem?_eq_some_iff.1 ho).1
  have hjsz : j < l.size := by rw [I.size]; exact hjs
  obtain ⟨x, hx, hc⟩ := D.get ho
  obtain ⟨hd, hxd, hop, hg⟩ := cOper_spec hc
  have hst := D.step j hjn x hx
  have hwait : ∀ i, waits ops ops.size j i = true → l.getD i false = true := fun i h => waits_listed I.closed _ j i h (fun o' ho' => by rw [ho] at ho'; cases ho'; exact hedges)
  -- every slot that is looked at holds what it holds in the text's order
  have hcutL : ∀ t, t ∈ looks ops o → cutAt ops n l t j := by
    intro t ht
    refine ⟨Nat.le_of_lt hjn, fun i hi ⟨y, hy, hyd⟩ => ?_, fun i hi hin ⟨y, hy, hyd⟩ => ?_⟩
    · exact hwait i (D.ord j hjn i hi y o hy ho (.inl (by simp [touch, hyd, ht])))
    · by_cases e : i = j
      · subst e; exact hjl
      · cases hli : l.getD i false
        · rfl
        · exfalso
          have hw := D.ord i hin j (by omega) o y ho hy (.inr (by simp [touch, hyd, ht]))
          have := waits_listed I.closed _ i j hw (fun o' ho' => I.closed i o' ho' hli)
          rw [hjl] at this; cases this
  have hcutD : ∀ t, o.dst = some t → ∀ j', cutAt ops n (l.setIfInBounds j true) t j' → j + 1 ≤ j' ∧ (f j').σ t = (f (j + 1)).σ t := by
    intro t hdt j' ⟨h1, h2, h3⟩
    have hlt : j + 1 ≤ j' := by
      rcases Nat.lt_or_ge j j' with x | x
      · exact x
      · have := h3 j x hjn ⟨o, ho, hdt⟩
        rw [getD_set l j j hjsz] at this; simp at this
    refine ⟨hlt, D.same j' (j + 1) hlt h1 fun k hk1 hk2 ⟨y, hy, hyd⟩ => ?_⟩
    have hlk := h2 k hk2 ⟨y, hy, hyd⟩
    rw [getD_set l j k hjsz, if_neg (by omega)] at hlk
    have hw := D.ord k (by omega) j (by omega) o y ho hy (.inl (by simp [touch, hdt, hyd]))
    have := waits_listed I.closed _ k j hw (fun o' ho' => I.closed k o' ho' hlk)
    rw [hjl] at this; cases this
  have hcutO : ∀ t, o.dst ≠ some t → ∀ j', cutAt ops n (l.setIfInBounds j true) t j' → cutAt ops n l t j' := by
    intro t hdt j' ⟨h1, h2, h3⟩
    have hne : ∀ i, wr ops i t → i ≠ j := fun i ⟨y, hy, hyd⟩ e => by subst e; rw [ho] at hy; cases hy; exact hdt hyd
    refine ⟨h1, fun i hi hw => ?_, fun i hi hin hw => ?_⟩
    · have := h2 i hi hw; rwa [getD_set l j i hjsz, if_neg (hne i hw)] at this
    · have := h3 i hi hin hw; rwa [getD_set l j i hjsz, if_neg (hne i hw)] at this
  have hclosed := closed_set I.size I.closed hj
  have htail : ∀ t, n ≤ t → (l.setIfInBounds j true).getD t false = false := fun t ht => by rw [getD_set l j t hjsz, if_neg (by omega)]; exact I.tail t ht
  have hdom2 : ∀ {ι' : Inj}, (∀ b g, ι' b = some g → (∃ g', ι b = some g') ∨ ((f j).h.length ≤ b ∧ b < (f (j + 1)).h.length)) →
      ∀ b g, ι' b = some g → b < (f 0).h.length ∨ ∃ i, i < n ∧ (l.setIfInBounds j true).getD i false = true ∧ (f i).h.length ≤ b ∧ b < (f (i + 1)).h.length := by
    intro ι' h b g hb
    rcases h b g hb with ⟨g', hg'⟩ | ⟨h1, h2⟩
    · rcases I.dom2 b g' hg' with h1 | ⟨i, h1, h2, h3, h4⟩
      · exact .inl h1
      · exact .inr ⟨i, h1, by rw [getD_set l j i hjsz]; split <;> simp_all, h3, h4⟩
    · exact .inr ⟨j, hjn, by rw [getD_set l j j hjsz]; simp, h1, h2⟩
  unfold wpOp
  rw [ho]
  simp only []
  -- the frame in which only what is looked at is left
  let L := looks ops o
  let a2 : Act := { tmps := ⟨(List.range a.tmps.size).map fun t => if t ∈ L then a.tmps.getD t undef else undef⟩, defers := [] }
  let σ2 : Nat → Value := fun t => if t ∈ L then (f j).σ t else undef
  have ha2 : ∀ t, a2.tmps.getD t undef = if t ∈ L then a.tmps.getD t undef else undef := by
    intro t
    simp only [a2, Array.getD_eq_getD_getElem?, List.getElem?_toArray, List.getElem?_map]
    by_cases ht : t < a.tmps.size
    · simp [ht]
    · simp [ht]
  have hTR : TR N (res ι (f j).h.length) σ2 a2.tmps := by
    refine ⟨by simp [a2]; exact I.sz, fun t ht => ?_⟩
    rw [ha2]
    by_cases hL : t ∈ L
    · simp only [σ2, hL, if_true]; exact I.tm t ht j (hcutL t hL)
    · simp only [σ2, hL, if_false]; exact VR.undef
  have heval : ∀ y ∈ o.op.operands, a2.eval y = a.eval y := by
    intro y hy
    cases y with
    | tmp t =>
      have hL : t ∈ L := by
        simp only [L, looks, List.mem_append, List.mem_flatMap]
        exact .inl ⟨_, Array.mem_toList_iff.2 hy, by simp [opdT]⟩
      simp only [Act.eval]; rw [ha2, if_pos hL]
    | _ => rfl
  have hres : ∀ b g, (res ι (f j).h.length) b = some g → ι b = some g ∧ b < (f j).h.length := by
    intro b g hb; simp only [res] at hb; split at hb
    · exact ⟨hb, ‹_›⟩
    · cases hb
  -- the heap as far as the text's order has come
  have hHR : HR P (res ι (f j).h.length) (f j).h (f j).h.length w.heap.size w := by
    refine ⟨?_, ?_, ?_, ?_⟩
    · intro b g hb; obtain ⟨h1, h2⟩ := hres b g hb; exact ⟨h2, (I.dom b g h1).2⟩
    · intro b e cs g hb hg
      obtain ⟨h1, h2⟩ := hres b g hg
      exact I.cell j (Nat.le_of_lt hjn) b e cs g hb h1
    · intro b e cs g hlb hb hg; have := (hres b g hg).2; omega
    · intro b b' e cs e' cs' g g' _ hlb _ _ hg _; have := (hres b g hg).2; omega
  have hnosel : ∀ cs b, o.op ≠ .select cs b := by intro cs b e; rw [e] at hop; simp [cOp, cOpX, isSel] at hop
  have hexec : execOp a2.eval o = execOp a.eval o := execOp_congr o hnosel heval
  have hwants : Region.wanted o (yielded ops a.tmps) = wants (f j).σ x.g := by
    have h1 := wants_eq (o := o) (a := a2) hTR hg
    have h2 : Region.wanted o (yielded ops a2.tmps) = Region.wanted o (yielded ops a.tmps) := by
      unfold Region.wanted
      cases hgd : o.guard with
      | none => rfl
      | some jb =>
        obtain ⟨k, b⟩ := jb
        simp only [yielded]
        cases hk : ((ops[k]?).bind (·.dst) : Option Tmp) with
        | none => rfl
        | some d =>
          have hL : d ∈ L := by simp only [L, looks, List.mem_append, hgd, hk]; exact .inr (by simp)
          have hdN : d < N := by
            rw [hgd] at hg
            simp only [cGuard, hk] at hg
            split at hg
            · assumption
            · cases hg
          have hsz : d < a.tmps.size := Nat.lt_of_lt_of_le hdN I.sz
          have e1 : a2.tmps[d]? = a.tmps[d]? := by
            simp only [a2, List.getElem?_toArray, List.getElem?_map]
            simp [hsz, hL]
          simp only [Option.bind_some, e1]
    have h3 : wants σ2 x.g = wants (f j).σ x.g := by
      cases hgd : o.guard with
      | none => rw [hgd] at hg; simp only [cGuard] at hg; have hg := Option.some.inj hg; rw [← hg]; rfl
      | some jb =>
        obtain ⟨k, b⟩ := jb
        rw [hgd] at hg
        simp only [cGuard] at hg
        split at hg
        · rename_i d hk
          split at hg
          · have hg := Option.some.inj hg
            rw [← hg]
            have hL : d ∈ L := by simp only [L, looks, List.mem_append, hgd, hk]; exact .inr (by simp)
            simp only [wants, σ2, hL, if_true]
          · cases hg
        · cases hg
    rw [← h2, h1, h3]
  rw [hwants]
  have hsee := D.see j o x ho hx
  unfold stepO at hst
  by_cases hw : wants (f j).σ x.g = true
  · rw [if_pos hw] at hst
    rw [if_pos hw]
    obtain ⟨⟨v, h'⟩, ha, hst⟩ := Option.map_eq_some_iff.1 hst
    have ha2' : aop Γ (f j).h.length (ev σ2) (f j).h x.op = some (v, h') := by
      rw [← ha]
      refine aop_congr x.op fun y hy => ?_
      cases y with
      | v c => rfl
      | t t =>
        have hL : t ∈ L := hsee t (List.mem_flatMap.2 ⟨_, hy, by simp [opdA]⟩)
        simp only [ev, σ2, hL, if_true]
    have hj1h : (f (j + 1)).h = h' := by rw [← hst]
    have hj1σ : (f (j + 1)).σ = putO (f j).σ o.dst v := by rw [← hst, hxd]
    left
    have hgood := (op_good (a := a2) D.ctx hHR (Nat.le_refl _) (Nat.le_refl _) hTR hop ha2').2
    rw [hexec] at hgood
    refine hgood.upon ?_
    intro v' w' ι2 hag hvr hhr hbel
    have hm1 := D.mono (j + 1) j (by omega) (by omega)
    have hmn := D.mono n (j + 1) (by omega) (Nat.le_refl _)
    rw [← hj1h] at hhr
    -- the places, old and new
    let ι3 : Inj := fun b => if b < (f j).h.length then ι b else if b < (f (j + 1)).h.length then ι2 b else ι b
    have hfresh : ∀ b, (f j).h.length ≤ b → b < (f (j + 1)).h.length → ι b = none := by
      intro b h1 h2
      cases hb : ι b with
      | none => rfl
      | some g =>
        exfalso
        rcases I.dom2 b g hb with h3 | ⟨i, h3, h4, h5, h6⟩
        · have := (D.mono j 0 (by omega) (Nat.le_of_lt hjn)).1; omega
        · have hij : i ≠ j := fun e => by subst e; rw [hjl] at h4; cases h4
          rcases Nat.lt_or_gt_of_ne hij with h7 | h7
          · have := (D.mono j (i + 1) (by omega) (Nat.le_of_lt hjn)).1; omega
          · have := (D.mono i (j + 1) (by omega) (Nat.le_of_lt h3)).1; omega
    have hold : ∀ b g, ι b = some g → ι3 b = some g := by
      intro b g hb
      simp only [ι3]
      by_cases h1 : b < (f j).h.length
      · rw [if_pos h1]; exact hb
      · rw [if_neg h1]
        by_cases h2 : b < (f (j + 1)).h.length
        · rw [hfresh b (by omega) h2] at hb; cases hb
        · rw [if_neg h2]; exact hb
    have h23 : ∀ b g, ι2 b = some g → ι3 b = some g ∧ b < (f (j + 1)).h.length := by
      intro b g hb
      have hlt := (hhr.dom b g hb).1
      refine ⟨?_, hlt⟩
      simp only [ι3]
      by_cases h1 : b < (f j).h.length
      · rw [if_pos h1]
        have := hag b h1
        rw [hb] at this
        exact (hres b g this.symm).1
      · rw [if_neg h1, if_pos hlt]; exact hb
    have h3cases : ∀ b g, ι3 b = some g → ι b = some g ∨ ((f j).h.length ≤ b ∧ b < (f (j + 1)).h.length ∧ ι2 b = some g) := by
      intro b g hb
      simp only [ι3] at hb
      split at hb
      · exact .inl hb
      · split at hb
        · exact .inr ⟨by omega, ‹_›, hb⟩
        · exact .inl hb
    have hcellw : ∀ b g i, ι b = some g → w'.cell? ⟨g.c, g.o + i, none⟩ = w.cell? ⟨g.c, g.o + i, none⟩ := fun b g i hb => cell?_same (hbel.block _ (I.dom b g hb).2)
    refine ⟨ι3, ?_⟩
    constructor
    · simpa using I.size
    · exact hclosed
    · exact htail
    · cases o.dst <;> simpa [Act.put] using I.sz
    · intro t ht j' hcut
      by_cases hdt : o.dst = some t
      · obtain ⟨h1, h2⟩ := hcutD t hdt j' hcut
        have hts : t < a.tmps.size := Nat.lt_of_lt_of_le ht I.sz
        rw [h2, hj1σ, hdt]
        have e1 : putO (f j).σ (some t) v t = v := by simp [putO, put]
        have e2 : (a.put (some t) v').tmps.getD t undef = v' := by simp [Act.put, hts]
        rw [e1, e2]
        have hle := (D.mono j' (j + 1) h1 hcut.1).1
        refine hvr.mono fun b g hb => ?_
        obtain ⟨h3, h4⟩ := h23 b g hb
        simp only [res]; rw [if_pos (by omega)]; exact h3
      · have h1 := I.tm t ht j' (hcutO t hdt j' hcut)
        have e2 : (a.put o.dst v').tmps.getD t undef = a.tmps.getD t undef := by
          cases hdd : o.dst with
          | none => rfl
          | some d =>
            rw [hdd] at hdt
            have : d ≠ t := fun e => hdt (by rw [e])
            simp [Act.put, this]
        rw [e2]
        exact h1.mono (res_mono (Nat.le_refl _) fun b g _ hb => hold b g hb)
    · intro b g hb
      rcases h3cases b g hb with h1 | ⟨h1, h2, h3⟩
      · have := I.dom b g h1; exact ⟨this.1, by have := hbel.size; omega⟩
      · exact ⟨by omega, (hhr.dom b g h3).2⟩
    · intro j' hj' b e cs g hb hg
      rcases h3cases b g hg with h1 | ⟨h1, h2, h3⟩
      · obtain ⟨hz, hcell⟩ := I.cell j' hj' b e cs g hb h1
        refine ⟨hz, fun i u hu => ?_⟩
        obtain ⟨k1, u', k2, k3⟩ := hcell i u hu
        exact ⟨k1, u', by rw [hcellw b g i h1]; exact k2, k3.mono (res_mono (Nat.le_refl _) fun b g _ hb => hold b g hb)⟩
      · have hlt : b < (f j').h.length := by
          rcases Nat.lt_or_ge b (f j').h.length with x | x
          · exact x
          · rw [List.getElem?_eq_none x] at hb; cases hb
        have hjj : j + 1 ≤ j' := by
          rcases Nat.lt_or_ge j j' with x | x
          · exact x
          · have := (D.mono j j' x (Nat.le_of_lt hjn)).1; omega
        have hb1 : (f (j + 1)).h[b]? = some (.cells e cs) := by rw [← (D.mono j' (j + 1) hjj hj').2 b h2]; exact hb
        obtain ⟨hz, hcell⟩ := hhr.cell b e cs g hb1 h3
        refine ⟨hz, fun i u hu => ?_⟩
        obtain ⟨k1, u', k2, k3⟩ := hcell i u hu
        have hle := (D.mono j' (j + 1) hjj hj').1
        refine ⟨k1, u', k2, k3.mono fun b g hb => ?_⟩
        obtain ⟨h5, h6⟩ := h23 b g hb
        simp only [res]; rw [if_pos (by omega)]; exact h5
    · intro b e cs g hlb hb hg
      rcases h3cases b g hg with h1 | ⟨h1, h2, h3⟩
      · obtain ⟨k1, k2, k3, cur, k4, k5⟩ := I.own b e cs g hlb hb h1
        exact ⟨k1, k2, k3, cur, by rw [hbel.block _ (I.dom b g h1).2]; exact k4, k5⟩
      · have hb1 : (f (j + 1)).h[b]? = some (.cells e cs) := by rw [← hmn.2 b h2]; exact hb
        obtain ⟨k1, k2, k3, k4⟩ := hhr.own b e cs g h1 hb1 h3
        exact ⟨by have := I.base; omega, k2, k3, k4⟩
    · intro b b' e cs e' cs' g g' hne hlb hb hb' hg hg'
      rcases h3cases b g hg with h1 | ⟨h1, h2, h3⟩
      · rcases h3cases b' g' hg' with h1' | ⟨h1', h2', h3'⟩
        · exact I.apart b b' e cs e' cs' g g' hne hlb hb hb' h1 h1'
        · have hb1 : (f (j + 1)).h[b']? = some (.cells e' cs') := by rw [← hmn.2 b' h2']; exact hb'
          have k1 := (hhr.own b' e' cs' g' h1' hb1 h3').1
          have k2 := (I.dom b g h1).2
          omega
      · have hb1 : (f (j + 1)).h[b]? = some (.cells e cs) := by rw [← hmn.2 b h2]; exact hb
        rcases h3cases b' g' hg' with h1' | ⟨h1', h2', h3'⟩
        · have k1 := (hhr.own b e cs g h1 hb1 h3).1
          have k2 := (I.dom b' g' h1').2
          omega
        · have hb1' : (f (j + 1)).h[b']? = some (.cells e' cs') := by rw [← hmn.2 b' h2']; exact hb'
          exact hhr.apart b b' e cs e' cs' g g' hne h1 hb1 hb1' h3 h3'
    · exact hdom2 (fun b g hb => by
        rcases h3cases b g hb with h1 | ⟨h1, h2, h3⟩
        · exact .inl ⟨g, h1⟩
        · exact .inr ⟨h1, h2⟩)
    · intro b hb
      have h0 := (D.mono j 0 (by omega) (Nat.le_of_lt hjn)).1
      simp only [ι3]; rw [if_pos (by omega)]; exact I.ag b hb
    · exact I.bel.trans (hbel.mono I.base)
    · have := I.base; have := hbel.size; omega
    · cases o.dst <;> simpa [Act.put] using I.defers
  · rw [if_neg hw] at hst
    rw [if_neg hw]
    have hst := Option.some.inj hst
    have hj1h : (f (j + 1)).h = (f j).h := by rw [← hst]
    have hj1σ : (f (j + 1)).σ = putO (f j).σ o.dst undef := by rw [← hst, hxd]
    refine ⟨ι, ?_⟩
    constructor
    · simpa using I.size
    · exact hclosed
    · exact htail
    · cases o.dst <;> simpa [Act.put] using I.sz
    · intro t ht j' hcut
      by_cases hdt : o.dst = some t
      · obtain ⟨h1, h2⟩ := hcutD t hdt j' hcut
        have hts : t < a.tmps.size := Nat.lt_of_lt_of_le ht I.sz
        rw [h2, hj1σ, hdt]
        have e1 : putO (f j).σ (some t) undef t = undef := by simp [putO, put]
        have e2 : (a.put (some t) undef).tmps.getD t undef = undef := by simp [Act.put, hts]
        rw [e1, e2]
        exact VR.undef
      · have h1 := I.tm t ht j' (hcutO t hdt j' hcut)
        have e2 : (a.put o.dst undef).tmps.getD t undef = a.tmps.getD t undef := by
          cases hdd : o.dst with
          | none => rfl
          | some d =>
            rw [hdd] at hdt
            have : d ≠ t := fun e => hdt (by rw [e])
            simp [Act.put, this]
        rw [e2]; exact h1
    · exact I.dom
    · exact I.cell
    · exact I.own
    · exact I.apart
    · exact hdom2 (fun b g hb => .inl ⟨g, hb⟩)
    · exact I.ag
    · exact I.bel
    · exact I.base
    · cases o.dst <;> simpa [Act.put] using I.defers
end
end Go.AH
