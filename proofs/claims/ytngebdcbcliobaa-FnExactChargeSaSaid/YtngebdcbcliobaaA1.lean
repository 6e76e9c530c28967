import Derived.Test.YtngebdcbcliobaaA0
namespace Go.AH
open Go.RowKit (Below)

def upd (ι : Inj) (b : Nat) (g : Img) : Inj := fun x => if x = b then some g else ι x

section
variable {P : Program} {ι : Inj} {h : Heap} {lo B : Nat} {w w' : World}

theorem HR.ext_upd (hr : HR P ι h lo B w) (g : Img) : Ext ι (upd ι h.length g) := fun b g' e => by
  have := (hr.dom b g' e).1
  simp only [upd]; rw [if_neg (by omega)]; exact e

theorem HR.ag_upd (ι : Inj) (h : Heap) (g : Img) : Ag h.length ι (upd ι h.length g) := fun b hb => by
  simp only [upd]; rw [if_neg (by omega)]
theorem HR.ext (hr : HR P ι h lo B w) {ι' : Inj} (ha : Ag h.length ι ι') : Ext ι ι' := fun b g e => (ha b (hr.dom b g e).1).trans e

theorem cell?_block {c off : Nat} {cur : Array Value} {e : TypeId} {fz : Nat × Nat} (hc : w.heap[c]? = some (.cells cur e fz)) : w.cell? ⟨c, off, none⟩ = cur[off]? := by
  simp [World.cell?, hc]

theorem cell?_same {a : Addr} (hc : w'.heap[a.block]? = w.heap[a.block]?) : w'.cell? a = w.cell? a := World.cell?_of_block (w := w) hc

/-- One block more; the block b0 of the heap is dead from now on, where told. -/
theorem HR.grow (hr : HR P ι h lo B w) (h1 : Heap) (c' n : Nat) (e : TypeId) (cs : List Value) (cur : Array Value)
    (hl : h1.length = h.length) (hlive : ∀ (b : Nat) (e : TypeId) (cs : List Value), h1[b]? = some (.cells e cs) → h[b]? = some (.cells e cs))
    (hsize : w.heap.size ≤ w'.heap.size)
    (hsame : ∀ (b : Nat) (e : TypeId) (cs : List Value) (g : Img), h1[b]? = some (.cells e cs) → ι b = some g → g.c ≠ c' ∧ w'.heap[g.c]? = w.heap[g.c]?)
    (hnew : w'.heap[c']? = some (.cells cur e (0, 0))) (hn : cur.size = n) (hB : B ≤ c')
    (hcs : ∀ (i : Nat) (v : Value), cs[i]? = some v → one v = true ∧ ∃ v', cur[i]? = some v' ∧ VR ι v v') (hle : cs.length ≤ n) :
    HR P (upd ι h.length ⟨c', 0, n, P.cellsOf e⟩) (h1 ++ [.cells e cs]) lo B w' := by
  have ext := hr.ext_upd ⟨c', 0, n, P.cellsOf e⟩
  have hc' : c' < w'.heap.size := by
    rcases Nat.lt_or_ge c' w'.heap.size with x | x
    · exact x
    · simp [Array.getElem?_eq_none x] at hnew
  have old : ∀ (b : Nat) (g : Img), (upd ι h.length ⟨c', 0, n, P.cellsOf e⟩) b = some g → b ≠ h.length → ι b = some g := by
    intro b g hb hne; simpa [upd, hne] using hb
  have lookOld : ∀ (b : Nat) (e' : TypeId) (cs' : List Value), (h1 ++ [.cells e cs])[b]? = some (.cells e' cs') → b ≠ h.length → h1[b]? = some (.cells e' cs') := by
    intro b e' cs' hb hne
    rcases Nat.lt_trichotomy b h1.length with x | x | x
    · rwa [List.getElem?_append_left x] at hb
    · omega
    · rw [List.getElem?_eq_none (by simp; omega)] at hb; exact absurd hb (by simp)
  have lookNew : ∀ (e' : TypeId) (cs' : List Value), (h1 ++ [.cells e cs])[h.length]? = some (.cells e' cs') → e' = e ∧ cs' = cs := by
    intro e' cs' hb
    rw [← hl, List.getElem?_append_right (Nat.le_refl _)] at hb
    simp at hb; exact ⟨hb.1.symm, hb.2.symm⟩
  refine ⟨?_, ?_, ?_, ?_⟩
  · intro b g hb
    by_cases hx : b = h.length
    · subst hx; simp [upd] at hb; subst hb; exact ⟨by simp [hl], hc'⟩
    · have := hr.dom b g (old b g hb hx); exact ⟨by simp [hl]; omega, by omega⟩
  · intro b e' cs' g hb hg
    by_cases hx : b = h.length
    · subst hx
      obtain ⟨rfl, rfl⟩ := lookNew e' cs' hb
      simp [upd] at hg; subst hg
      refine ⟨rfl, fun i v hv => ?_⟩
      obtain ⟨h1', v', hv', r⟩ := hcs i v hv
      exact ⟨h1', v', by rw [cell?_block hnew]; simpa using hv', r.mono ext⟩
    · have hb' := lookOld b e' cs' hb hx
      have hg' := old b g hg hx
      obtain ⟨hz, hcell⟩ := hr.cell b e' cs' g (hlive _ _ _ hb') hg'
      refine ⟨hz, fun i v hv => ?_⟩
      obtain ⟨h1', v', hv', r⟩ := hcell i v hv
      refine ⟨h1', v', ?_, r.mono ext⟩
      rw [← hv']; exact cell?_same (hsame b e' cs' g hb' hg').2
  · intro b e' cs' g hlo hb hg
    by_cases hx : b = h.length
    · subst hx
      obtain ⟨rfl, rfl⟩ := lookNew e' cs' hb
      simp [upd] at hg; subst hg
      exact ⟨hB, rfl, hle, cur, hnew, hn⟩
    · have hb' := lookOld b e' cs' hb hx
      have hg' := old b g hg hx
      obtain ⟨a1, a2, a3, cur', a4, a5⟩ := hr.own b e' cs' g hlo (hlive _ _ _ hb') hg'
      exact ⟨a1, a2, a3, cur', by rw [(hsame b e' cs' g hb' hg').2]; exact a4, a5⟩
  · intro b b' e1 cs1 e2 cs2 g g' hne hlo hb hb' hg hg'
    by_cases hx : b = h.length
    · subst hx
      simp [upd] at hg; subst hg
      have hb2 := lookOld b' e2 cs2 hb' (fun x => hne x.symm)
      exact fun x => (hsame b' e2 cs2 g' hb2 (old b' g' hg' (fun x => hne x.symm))).1 x.symm
    · have hb1 := lookOld b e1 cs1 hb hx
      have hg1 := old b g hg hx
      by_cases hy : b' = h.length
      · subst hy
        simp [upd] at hg'; subst hg'
        exact (hsame b e1 cs1 g hb1 hg1).1
      · exact hr.apart b b' e1 cs1 e2 cs2 g g' hne hlo (hlive _ _ _ hb1) (hlive _ _ _ (lookOld b' e2 cs2 hb' hy)) hg1 (old b' g' hg' hy)

/-- A new block beside all others. -/
theorem HR.alloc (hr : HR P ι h lo B w) (hB : B ≤ w.heap.size) (e : TypeId) (cs cs' : List Value) (h1 : ∀ v ∈ cs, one v = true) (hv : VRs ι cs cs') :
    HR P (upd ι h.length ⟨w.heap.size, 0, cs'.length, P.cellsOf e⟩) (h ++ [.cells e cs]) lo B (w.alloc (.cells ⟨cs'⟩ e)) := by
  refine hr.grow h w.heap.size cs'.length e cs ⟨cs'⟩ rfl (fun _ _ _ x => x) (by simp) ?_ ?_ rfl hB ?_ ?_
  · intro b e' cs1 g hb hg
    have := (hr.dom b g hg).2
    exact ⟨by omega, Below.heap_alloc w _ _ this⟩
  · exact heap_alloc_new w _
  · intro i v hx
    obtain ⟨v', hv', r⟩ := hv.get i v hx
    exact ⟨h1 v (List.mem_of_getElem? hx), v', by simpa using hv', r⟩
  · exact Nat.le_of_eq hv.length

theorem block_alloc (o : Obj) : (w.alloc o).heap.size = w.heap.size + 1 := by simp

/-- The cells of a part of a block, in the world. -/
theorem HR.cells (hr : HR P ι h lo B w) {b : Nat} {e : TypeId} {cs : List Value} {g : Img} (hb : h[b]? = some (.cells e cs)) (hg : ι b = some g) (off n : Nat) (hn : off + n ≤ cs.length) :
    ∃ cs', VRs ι ((cs.drop off).take n) cs' ∧ cs'.length = n ∧ (∀ (j : Nat) (v : Value), cs'[j]? = some v → w.cell? ⟨g.c, g.o + off + j, none⟩ = some v) := by
  induction n generalizing off with
  | zero => exact ⟨[], by simpa using VRs.nil, rfl, by simp⟩
  | succ n ih =>
    obtain ⟨cs', r, hl, hc⟩ := ih (off + 1) (by omega)
    have hlt : off < cs.length := by omega
    obtain ⟨_, v', hv', rv⟩ := (hr.cell b e cs g hb hg).2 off cs[off] (by simp [hlt])
    refine ⟨v' :: cs', ?_, by simp [hl], ?_⟩
    · rw [List.drop_eq_getElem_cons hlt, List.take_succ_cons]; exact .cons rv r
    · intro j v hj
      cases j with
      | zero => simp at hj; subst hj; simpa using hv'
      | succ j => have := hc j v (by simpa using hj); rw [← this]; congr 2; omega

theorem HR.ones (hr : HR P ι h lo B w) {b : Nat} {e : TypeId} {cs : List Value} {g : Img} (hb : h[b]? = some (.cells e cs)) (hg : ι b = some g) : ∀ v ∈ cs, one v = true := by
  intro v hv
  obtain ⟨i, hi⟩ := List.getElem?_of_mem hv
  exact ((hr.cell b e cs g hb hg).2 i v hi).1

/-- A store into one cell of the run's own. -/
theorem HR.store (hr : HR P ι h lo B w) {b off : Nat} {e : TypeId} {cs : List Value} {g : Img} (hlo : lo ≤ b) (hb : h[b]? = some (.cells e cs)) (hg : ι b = some g)
    (hoff : off < cs.length) {v v' : Value} (h1 : one v = true) (hv : VR ι v v') :
    HR P ι (h.set b (.cells e (cs.set off v))) lo B (w.setCell ⟨g.c, g.o + off, none⟩ v') := by
  obtain ⟨oB, o0, oN, cur, ocur, osz⟩ := hr.own b e cs g hlo hb hg
  have hcoff : g.o + off < cur.size := by rw [osz, o0]; omega
  have hblt : b < h.length := (hr.dom b g hg).1
  have heap_c : (w.setCell ⟨g.c, g.o + off, none⟩ v').heap[g.c]? = some (.cells (cur.setIfInBounds (g.o + off) v') e (0, 0)) := by
    have hlt : g.c < w.heap.size := (hr.dom b g hg).2
    simp [World.setCell, Array.getElem?_modify, ocur]
  have heap_o : ∀ k, k ≠ g.c → (w.setCell ⟨g.c, g.o + off, none⟩ v').heap[k]? = w.heap[k]? := fun k hk => Below.heap_setCell _ _ _ _ hk
  have lookO : ∀ (b' : Nat) (e' : TypeId) (cs' : List Value), (h.set b (.cells e (cs.set off v)))[b']? = some (.cells e' cs') → b' ≠ b → h[b']? = some (.cells e' cs') := by
    intro b' e' cs' hx hne; rwa [List.getElem?_set_ne (fun x => hne x.symm)] at hx
  have lookB : ∀ (e' : TypeId) (cs' : List Value), (h.set b (.cells e (cs.set off v)))[b]? = some (.cells e' cs') → e' = e ∧ cs' = cs.set off v := by
    intro e' cs' hx; rw [List.getElem?_set_self hblt] at hx; simp at hx; exact ⟨hx.1.symm, hx.2.symm⟩
  refine ⟨?_, ?_, ?_, ?_⟩
  · intro b' g' hb'; have := hr.dom b' g' hb'; simpa using this
  · intro b' e' cs' g' hb' hg'
    by_cases hx : b' = b
    · subst hx
      obtain ⟨rfl, rfl⟩ := lookB e' cs' hb'
      rw [hg] at hg'; cases hg'
      obtain ⟨hz, hcell⟩ := hr.cell b' e' cs g hb hg
      refine ⟨hz, fun i u hu => ?_⟩
      rw [cell?_block heap_c]
      by_cases hi : i = off
      · subst hi
        rw [List.getElem?_set_self hoff] at hu; cases hu
        exact ⟨h1, v', by simp [hcoff], hv⟩
      · rw [List.getElem?_set_ne (fun x => hi x.symm)] at hu
        obtain ⟨x1, u', hu', r⟩ := hcell i u hu
        rw [cell?_block ocur] at hu'
        exact ⟨x1, u', by rw [Array.getElem?_setIfInBounds_ne (by omega)]; exact hu', r⟩
    · have hb2 := lookO b' e' cs' hb' hx
      obtain ⟨hz, hcell⟩ := hr.cell b' e' cs' g' hb2 hg'
      have hne : g'.c ≠ g.c := fun x => (hr.apart b b' e cs e' cs' g g' (fun y => hx y.symm) hlo hb hb2 hg hg') x.symm
      refine ⟨hz, fun i u hu => ?_⟩
      obtain ⟨x1, u', hu', r⟩ := hcell i u hu
      exact ⟨x1, u', by rw [← hu']; exact cell?_same (heap_o _ hne), r⟩
  · intro b' e' cs' g' hlo' hb' hg'
    by_cases hx : b' = b
    · subst hx
      obtain ⟨rfl, rfl⟩ := lookB e' cs' hb'
      rw [hg] at hg'; cases hg'
      exact ⟨oB, o0, by simpa using oN, _, heap_c, by simpa using osz⟩
    · have hb2 := lookO b' e' cs' hb' hx
      have hne : g'.c ≠ g.c := fun x => (hr.apart b b' e cs e' cs' g g' (fun y => hx y.symm) hlo hb hb2 hg hg') x.symm
      obtain ⟨a1, a2, a3, cur', a4, a5⟩ := hr.own b' e' cs' g' hlo' hb2 hg'
      exact ⟨a1, a2, a3, cur', by rw [heap_o _ hne]; exact a4, a5⟩
  · intro b1 b2 e1 cs1 e2 cs2 g1 g2 hne hlo1 hb1 hb2 hg1 hg2
    have f : ∀ (b' : Nat) (e' : TypeId) (cs' : List Value), (h.set b (.cells e (cs.set off v)))[b']? = some (.cells e' cs') → ∃ e'' cs'', h[b']? = some (.cells e'' cs'') := by
      intro b' e' cs' hx
      by_cases hy : b' = b
      · subst hy; exact ⟨_, _, hb⟩
      · exact ⟨_, _, lookO _ _ _ hx hy⟩
    obtain ⟨_, _, x1⟩ := f _ _ _ hb1
    obtain ⟨_, _, x2⟩ := f _ _ _ hb2
    exact hr.apart b1 b2 _ _ _ _ g1 g2 hne hlo1 x1 x2 hg1 hg2

end
end Go.AH
