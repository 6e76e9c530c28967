import Derived.Test.YtngebdcbcliobaaA18
namespace Go.AH
open Go.RowKit (Below)

/-! ### Blocks by other numbers -/
mutual
def mapV (u : Nat → Nat) : Value → Value
  | .pointer (some ⟨b, o, s⟩) => .pointer (some ⟨u b, o, s⟩)
  | .slice (some ⟨b, o, s⟩) n c => .slice (some ⟨u b, o, s⟩) n c
  | .func fn ⟨as⟩ ⟨bs⟩ => .func fn ⟨mapVs u as⟩ ⟨mapVs u bs⟩
  | .iface t v => .iface t (mapV u v)
  | .agg ⟨cs⟩ => .agg ⟨mapVs u cs⟩
  | .tuple ⟨cs⟩ => .tuple ⟨mapVs u cs⟩
  | v => v
def mapVs (u : Nat → Nat) : List Value → List Value
  | [] => []
  | v :: vs => mapV u v :: mapVs u vs
end
def mapB (u : Nat → Nat) : Blk → Blk
  | .cells e cs => .cells e (mapVs u cs)
  | .dead => .dead

theorem mapVs_get (u : Nat → Nat) : ∀ (l : List Value) (i : Nat), (mapVs u l)[i]? = (l[i]?).map (mapV u)
  | [], i => by simp [mapVs]
  | v :: l, 0 => by simp [mapVs]
  | v :: l, i + 1 => by simpa [mapVs] using mapVs_get u l i
theorem mapVs_eq (u : Nat → Nat) (l : List Value) : mapVs u l = l.map (mapV u) := by
  induction l with
  | nil => rfl
  | cons v l ih => simp [mapVs, ih]
theorem mapVs_len (u : Nat → Nat) (l : List Value) : (mapVs u l).length = l.length := by simp [mapVs_eq]
theorem one_mapV (u : Nat → Nat) (v : Value) : one (mapV u v) = one v := by
  cases v with
  | pointer a => cases a <;> rfl
  | slice a n c => cases a <;> rfl
  | _ => rfl

mutual
theorem VR.unmap {ι ι' : Inj} {u : Nat → Nat} (h : ∀ b, ι' b = ι (u b)) : ∀ (v : Value) {x : Value}, VR ι (mapV u v) x → VR ι' v x
  | .pointer none, x, r => by simp only [mapV] at r; cases r; exact .nilp
  | .pointer (some ⟨b, o, s⟩), x, r => by
    simp only [mapV] at r
    cases r with | ptr e => exact .ptr ((h b).trans e)
  | .slice none n c, x, r => by simp only [mapV] at r; cases r; exact .nils
  | .slice (some ⟨b, o, s⟩) n c, x, r => by
    simp only [mapV] at r
    cases r with | sl e p q s => exact .sl ((h b).trans e) p q s | sl0 x e => exact .sl0 x ((h b).trans e) | emp x => exact .emp x
  | .func fn ⟨as⟩ ⟨bs⟩, x, r => by
    simp only [mapV] at r
    cases r with | func _ p q => exact .func fn (VRs.unmap h as p) (VRs.unmap h bs q)
  | .iface t v, x, r => by
    simp only [mapV] at r
    cases r with | iface _ p => exact .iface t (VR.unmap h v p)
  | .agg ⟨cs⟩, x, r => by
    simp only [mapV] at r
    cases r with | agg p => exact .agg (VRs.unmap h cs p)
  | .tuple ⟨cs⟩, x, r => by
    simp only [mapV] at r
    cases r with | tuple p => exact .tuple (VRs.unmap h cs p)
  | .bool b, x, r => by simp only [mapV] at r; cases r; exact .bool _
  | .int k n, x, r => by simp only [mapV] at r; cases r; exact .int _ _
  | .float k n, x, r => by simp only [mapV] at r; cases r; exact .float _ _
  | .complex k n m, x, r => by simp only [mapV] at r; cases r
  | .string s, x, r => by simp only [mapV] at r; cases r; exact .string _
  | .map m, x, r => by simp only [mapV] at r; cases r
  | .chan c, x, r => by simp only [mapV] at r; cases r
  | .nilFunc, x, r => by simp only [mapV] at r; cases r; exact .nilf
  | .nilIface, x, r => by simp only [mapV] at r; cases r; exact .nili
theorem VRs.unmap {ι ι' : Inj} {u : Nat → Nat} (h : ∀ b, ι' b = ι (u b)) : ∀ (vs : List Value) {xs : List Value}, VRs ι (mapVs u vs) xs → VRs ι' vs xs
  | [], xs, r => by simp only [mapVs] at r; cases r; exact .nil
  | v :: vs, xs, r => by
    simp only [mapVs] at r
    cases r with | cons p q => exact .cons (VR.unmap h v p) (VRs.unmap h vs q)
end

mutual
/-- A value all of whose blocks are below n. -/
theorem VR.agree {n : Nat} {ι ι1 ι2 : Inj} (hd : ∀ b g, ι b = some g → b < n) (ha : Ag n ι1 ι2) {v x y : Value} (h : VR ι v x) (k : VR ι1 v y) : VR ι2 v y := by
  cases h with
  | bool b => cases k; exact .bool _
  | int => cases k; exact .int _ _
  | float => cases k; exact .float _ _
  | string => cases k; exact .string _
  | nilp => cases k; exact .nilp
  | ptr e => cases k with | ptr e' => exact .ptr ((ha _ (hd _ _ e)).trans e')
  | nils => cases k; exact .nils
  | sl e _ _ _ => cases k with | sl e' p q r => exact .sl ((ha _ (hd _ _ e)).trans e') p q r | sl0 x e' => exact .sl0 x ((ha _ (hd _ _ e)).trans e')
  | emp _ => cases k with | emp x => exact .emp x
  | sl0 _ e => cases k with | sl e' p q r => exact .sl ((ha _ (hd _ _ e)).trans e') p q r | sl0 x e' => exact .sl0 x ((ha _ (hd _ _ e)).trans e')
  | func fn p q => cases k with | func _ p' q' => exact .func fn (VRs.agree hd ha p p') (VRs.agree hd ha q q')
  | nilf => cases k; exact .nilf
  | iface t p => cases k with | iface _ p' => exact .iface t (VR.agree hd ha p p')
  | nili => cases k; exact .nili
  | agg p => cases k with | agg p' => exact .agg (VRs.agree hd ha p p')
  | tuple p => cases k with | tuple p' => exact .tuple (VRs.agree hd ha p p')
theorem VRs.agree {n : Nat} {ι ι1 ι2 : Inj} (hd : ∀ b g, ι b = some g → b < n) (ha : Ag n ι1 ι2) {v x y : List Value} (h : VRs ι v x) (k : VRs ι1 v y) : VRs ι2 v y := by
  cases h with
  | nil => cases k; exact .nil
  | cons p q => cases k with | cons p' q' => exact .cons (VR.agree hd ha p p') (VRs.agree hd ha q q')
end

/-- The numbers of blocks behind a clearing away: what was below n stays, the kept ones follow. -/
def unN (n m : Nat) (ks : List Nat) (b : Nat) : Nat := if b < n then b else (ks[b - n]?).getD m

section
variable {P : Program} {ι ι0 : Inj} {h h0 h' : Heap} {lo B : Nat} {w w' : World} {r r0 rc : Value}

/-- Clearing away: the blocks of the run that nobody holds any more go. -/
theorem gc (hr : HR P ι h lo B w) (ha : Ag h.length ι ι0) (hr0 : HR P ι0 h0 lo B w') (hv : VR ι0 r0 rc) (ks : List Nat)
    (hks : ∀ k ∈ ks, h.length ≤ k) (hnd : ks.Nodup) (hlen : h'.length = h.length + ks.length) (hlo : lo ≤ h.length)
    (hr' : r0 = mapV (unN h.length h0.length ks) r)
    (hnew : ∀ (i k : Nat), ks[i]? = some k → ∃ b, h'[h.length + i]? = some b ∧ h0[k]? = some (mapB (unN h.length h0.length ks) b))
    (hold : ∀ b, b < h.length → (h'[b]? = h[b]? ∧ h0[b]? = h[b]?) ∨ (∃ x, h'[b]? = some x ∧ h0[b]? = some (mapB (unN h.length h0.length ks) x))) :
    ∃ ι', Ag h.length ι ι' ∧ VR ι' r rc ∧ HR P ι' h' lo B w' := by
  let u := unN h.length h0.length ks
  let ι' : Inj := fun b => ι0 (u b)
  have hu0 : ∀ b, b < h.length → u b = b := fun b hb => by simp only [u, unN]; rw [if_pos hb]
  have ha' : Ag h.length ι0 ι' := fun b hb => by simp only [ι']; rw [hu0 b hb]
  have inv : ∀ (b : Nat) (g : Img), ι' b = some g → ι0 (u b) = some g := fun b g x => x
  have cases' : ∀ (b : Nat) (g : Img), ι' b = some g → b < h.length ∨ ∃ i k, b = h.length + i ∧ ks[i]? = some k ∧ u b = k := by
    intro b g hb
    by_cases hlt : b < h.length
    · exact .inl hlt
    · right
      cases hk : ks[b - h.length]? with
      | none =>
        exfalso
        have : u b = h0.length := by simp only [u, unN]; rw [if_neg hlt, hk]; rfl
        have := (hr0.dom _ _ (inv b g hb)).1
        omega
      | some k => exact ⟨b - h.length, k, by omega, hk, by simp only [u, unN]; rw [if_neg hlt, hk]; rfl⟩
  -- how a live block of h' stands in h0
  have live : ∀ (b : Nat) (e : TypeId) (cs : List Value) (g : Img), h'[b]? = some (.cells e cs) → ι' b = some g →
      ∃ cs0, h0[u b]? = some (.cells e cs0) ∧ cs0.length = cs.length ∧ ∀ (i : Nat) (v : Value), cs[i]? = some v → ∃ v0, cs0[i]? = some v0 ∧ one v0 = one v ∧ ∀ x, VR ι0 v0 x → VR ι' v x := by
    intro b e cs g hb hg
    have mapped : ∀ k, u b = k → h0[k]? = some (mapB u (.cells e cs)) → ∃ cs0, h0[u b]? = some (.cells e cs0) ∧ cs0.length = cs.length ∧ ∀ (i : Nat) (v : Value), cs[i]? = some v → ∃ v0, cs0[i]? = some v0 ∧ one v0 = one v ∧ ∀ x, VR ι0 v0 x → VR ι' v x := by
      intro k hk hx
      refine ⟨mapVs u cs, by rw [hk]; exact hx, mapVs_len u cs, fun i v hv => ⟨mapV u v, by rw [mapVs_get, hv]; rfl, one_mapV u v, fun x hx => VR.unmap (ι := ι0) (u := u) (fun _ => rfl) v hx⟩⟩
    rcases cases' b g hg with hlt | ⟨i, k, rfl, hk, huk⟩
    · rcases hold b hlt with ⟨h1, h2⟩ | ⟨x, h1, h2⟩
      · rw [h1] at hb
        refine ⟨cs, by rw [hu0 b hlt, h2]; exact hb, rfl, fun i v hv => ⟨v, hv, rfl, fun x hx => ?_⟩⟩
        have hg0 : ι b = some g := by rw [← ha b hlt]; have := inv b g hg; rwa [hu0 b hlt] at this
        obtain ⟨_, v', _, rv⟩ := (hr.cell b e cs g hb hg0).2 i v hv
        exact VR.agree (fun b g e => (hr.dom b g e).1) ha' rv hx
      · rw [hb] at h1; cases h1
        exact mapped b (hu0 b hlt) h2
    · obtain ⟨x, h1, h2⟩ := hnew i k hk
      rw [hb] at h1; cases h1
      exact mapped k huk h2
  have uinj : ∀ (b b' : Nat) (g g' : Img), ι' b = some g → ι' b' = some g' → u b = u b' → b = b' := by
    intro b b' g g' hb hb' he
    rcases cases' b g hb with h1 | ⟨i, k, rfl, hk, huk⟩
    · rcases cases' b' g' hb' with h2 | ⟨i', k', rfl, hk', huk'⟩
      · rw [hu0 b h1, hu0 b' h2] at he; exact he
      · rw [hu0 b h1, huk'] at he
        have := hks k' (List.mem_of_getElem? hk'); omega
    · rcases cases' b' g' hb' with h2 | ⟨i', k', rfl, hk', huk'⟩
      · rw [hu0 b' h2, huk] at he
        have := hks k (List.mem_of_getElem? hk); omega
      · rw [huk, huk'] at he; subst he
        have hi := (List.getElem?_eq_some_iff.1 hk).1
        have := (List.getElem?_inj hi hnd).1 (hk.trans hk'.symm)
        omega
  refine ⟨ι', fun b hb => by rw [ha' b hb, ha b hb], ?_, ?_, ?_, ?_, ?_⟩
  · rw [hr'] at hv; exact VR.unmap (ι := ι0) (u := u) (fun _ => rfl) r hv
  · intro b g hb
    refine ⟨?_, (hr0.dom _ _ (inv b g hb)).2⟩
    rcases cases' b g hb with h1 | ⟨i, k, rfl, hk, huk⟩
    · omega
    · have := (List.getElem?_eq_some_iff.1 hk).1; omega
  · intro b e cs g hb hg
    obtain ⟨cs0, h1, h2, h3⟩ := live b e cs g hb hg
    obtain ⟨hz, hc⟩ := hr0.cell _ _ _ _ h1 (inv b g hg)
    refine ⟨hz, fun i v hv => ?_⟩
    obtain ⟨v0, k1, k2, k3⟩ := h3 i v hv
    obtain ⟨x1, v', x2, x3⟩ := hc i v0 k1
    exact ⟨by rw [← k2]; exact x1, v', x2, k3 v' x3⟩
  · intro b e cs g hlb hb hg
    obtain ⟨cs0, h1, h2, h3⟩ := live b e cs g hb hg
    have hlu : lo ≤ u b := by
      rcases cases' b g hg with hlt | ⟨i, k, rfl, hk, huk⟩
      · rw [hu0 b hlt]; exact hlb
      · rw [huk]; have := hks k (List.mem_of_getElem? hk); omega
    obtain ⟨a1, a2, a3, a4⟩ := hr0.own _ _ _ _ hlu h1 (inv b g hg)
    exact ⟨a1, a2, by omega, a4⟩
  · intro b b' e cs e' cs' g g' hne hlb hb hb' hg hg'
    obtain ⟨cs0, h1, _, _⟩ := live b e cs g hb hg
    obtain ⟨cs0', h1', _, _⟩ := live b' e' cs' g' hb' hg'
    have hlu : lo ≤ u b := by
      rcases cases' b g hg with hlt | ⟨i, k, rfl, hk, huk⟩
      · rw [hu0 b hlt]; exact hlb
      · rw [huk]; have := hks k (List.mem_of_getElem? hk); omega
    exact hr0.apart _ _ _ _ _ _ _ _ (fun x => hne (uinj b b' g g' hg hg' x)) hlu h1 h1' (inv b g hg) (inv b' g' hg')

/-- What was shown while nothing old was written holds for a run that may write more. -/
theorem lift (hr : HR P ι h lo B w) (hB : B ≤ w.heap.size) (hlo : lo ≤ h.length) (hfr : Fr h.length h h') {ι' : Inj} (ha : Ag h.length ι ι') (hr' : HR P ι' h' h.length w.heap.size w') (hb : Below w.heap.size w w') :
    HR P ι' h' lo B w' ∧ Below B w w' := by
  refine ⟨⟨hr'.dom, hr'.cell, ?_, ?_⟩, hb.mono hB⟩
  · intro b e cs g hlb hbb hg
    by_cases hlt : b < h.length
    · rw [hfr.2 b hlt] at hbb
      have hg0 : ι b = some g := by rw [← ha b hlt]; exact hg
      obtain ⟨a1, a2, a3, cur, a4, a5⟩ := hr.own b e cs g hlb hbb hg0
      exact ⟨a1, a2, a3, cur, by rw [hb.block _ (hr.dom b g hg0).2]; exact a4, a5⟩
    · obtain ⟨a1, a2, a3, a4⟩ := hr'.own b e cs g (by omega) hbb hg
      exact ⟨by omega, a2, a3, a4⟩
  · intro b b' e cs e' cs' g g' hne hlb hbb hbb' hg hg'
    by_cases hlt : b < h.length
    · rw [hfr.2 b hlt] at hbb
      have hg0 : ι b = some g := by rw [← ha b hlt]; exact hg
      by_cases hlt' : b' < h.length
      · rw [hfr.2 b' hlt'] at hbb'
        have hg0' : ι b' = some g' := by rw [← ha b' hlt']; exact hg'
        exact hr.apart b b' e cs e' cs' g g' hne hlb hbb hbb' hg0 hg0'
      · have h1 := (hr'.own b' e' cs' g' (by omega) hbb' hg').1
        have h2 := (hr.dom b g hg0).2
        omega
    · exact hr'.apart b b' e cs e' cs' g g' hne (by omega) hbb hbb' hg hg'
end
end Go.AH
