import Derived.Test.YtngebdcbcliobaaA14
import Derived.SizedLaws
import Derived.ChangeSlices
import Derived.OpenShut
namespace Go.AH
open Go.RowKit (Below)
open Go.ChangeShapes Go.WideShapes
/-! From a row's arguments to a heap of blocks -/
/-- A slice of whole numbers as a world holds it. -/
def IsRow (k : IntKind) (w : World) (a : Option Addr) (len cap : Nat) (zs : List Int) : Prop :=
  (a = none ∧ len = 0 ∧ cap = 0 ∧ zs = []) ∨
  ∃ x, a = some x ∧ x.block < w.heap.size ∧ len ≤ cap ∧ cap ≤ maxLen ∧ zs.length = cap ∧ (∀ i, i < zs.length → w.cell? (x.add i) = some (.int k (zs.getD i 0))) ∧ ∀ n ∈ zs, (Lit.int k n).wf = true
theorem IsRow.le {k : IntKind} {w : World} {a : Option Addr} {len cap : Nat} {zs : List Int} (h : IsRow k w a len cap zs) : len ≤ zs.length := by
  rcases h with ⟨_, rfl, _, rfl⟩ | ⟨x, _, _, hl, _, hz, _⟩
  · exact Nat.le_refl _
  · omega
theorem IsRow.wf {k : IntKind} {w : World} {a : Option Addr} {len cap : Nat} {zs : List Int} (h : IsRow k w a len cap zs) : ∀ n ∈ zs, (Lit.int k n).wf = true := by
  rcases h with ⟨_, _, _, rfl⟩ | ⟨x, _, _, _, _, _, _, hw⟩
  · intro n hn; cases hn
  · exact hw
/-- A slice of whole numbers is no longer than its weight allows. -/
theorem row_size {H : Type} {enc : TypeId × Value → H} {P : Program} {W : World} {base : Nat} {spare : Nat → Bool} {held : Bool} {t e : TypeId} {k : IntKind} {a : Option Addr} {len cap : Nat} {d : DataW H} {ps : List MemPlace} {ts : List TypeId} {ds : List (DataW H)} {j : Nat}
    (hsz : (DataW.weightsEach P ts ds).all (· ≤ reachBytes) = true) (ht : ts[j]? = some t) (hd : ds[j]? = some d) (hu : P.underlying t = some (.slice e)) (he : P.underlying e = some (.int k)) (hc : P.cellsOf e = 1) {B : Nat} (hB : P.bytesOf e = B)
    (h : DataW.Trod enc P W base spare held t (.slice a len cap) d ps) : len * B ≤ 140737488351232 := by
  obtain ⟨fuel, hf⟩ := h
  rcases open_ints hu he hc hf with ⟨hcs, _⟩ | ⟨x, l, c, zs, hcs, _, hl, _, hz, hx, _, _⟩
  · simp [Value.cells] at hcs
    obtain ⟨rfl, rfl, rfl⟩ := hcs
    simp
  · simp [Value.cells] at hcs
    obtain ⟨rfl, rfl, rfl⟩ := hcs
    obtain ⟨hx, _⟩ := Prod.mk.inj hx
    subst hx
    have z := sized_slice hsz ht hd hu
    rw [hB] at z
    have hl2 : len ≤ zs.length := by
      rw [hz]
      split
      · exact hl
      · exact Nat.le_refl _
    have h1 : (lits (H := H) k (zs.take len)).length + (lits (H := H) k (zs.drop len)).length = zs.length := by
      simp [lits]
      omega
    rw [h1] at z
    exact Nat.le_trans (Nat.mul_le_mul_right _ hl2) z
theorem slice_block {P : Program} {W : World} {r : Reach} {base : Nat} {t e : TypeId} {x : Addr} {len cap : Nat} (hu : P.underlying t = some (.slice e)) (h : Value.okWide P W r base t (.slice (some x) len cap)) : x.block < W.heap.size := by
  simp only [Value.okWide, hu, Cell.okWide, Cell.ok] at h
  obtain ⟨_, _, _, _, row, cells, hs, _⟩ := h
  unfold World.shape? at hs
  split at hs
  · rename_i hh; exact (Array.getElem?_eq_some_iff.1 hh).1
  · cases hs
theorem row_of {H : Type} {enc : TypeId × Value → H} {P : Program} {W : World} {base base' : Nat} {r : Reach} {t e : TypeId} {k : IntKind} {a : Option Addr} {len cap : Nat} {d : DataW H} {ps : List MemPlace}
    (hu : P.underlying t = some (.slice e)) (he : P.underlying e = some (.int k)) (hc : P.cellsOf e = 1) (hv : Value.okWide P W r base' t (.slice a len cap)) (h : DataW.Trod enc P W base (fun _ => true) true t (.slice a len cap) d ps) : ∃ zs, IsRow k W a len cap zs := by
  obtain ⟨fuel, hf⟩ := h
  rcases open_ints hu he hc hf with ⟨hcs, _⟩ | ⟨x, l, c, zs, hcs, _, hl, hm, hz, _, hcell, hwz⟩
  · simp [Value.cells] at hcs
    obtain ⟨rfl, rfl, rfl⟩ := hcs
    exact ⟨[], .inl ⟨rfl, rfl, rfl, rfl⟩⟩
  · simp [Value.cells] at hcs
    obtain ⟨rfl, rfl, rfl⟩ := hcs
    exact ⟨zs, .inr ⟨_, rfl, slice_block hu hv, hl, hm, by simpa using hz, hcell, hwz⟩⟩

section
variable {P : Program} {W : World} {ι : Inj} {h : Heap} {B : Nat}
theorem hr_start (P : Program) (W : World) (B : Nat) : HR P (fun _ => none) [] ([] : Heap).length B W :=
  ⟨fun b g hg => by simp at hg, fun b e cs g hb => by simp at hb, fun b e cs g _ hb => by simp at hb, fun b b' e cs e' cs' g g' _ _ hb => by simp at hb⟩
theorem ext_new (ι : Inj) (n : Nat) (g : Img) (hd : ∀ b g, ι b = some g → b < n) : Ext ι (fun b => if b = n then some g else ι b) := by
  intro b g' hb
  have := hd b g' hb
  show (if b = n then some g else ι b) = some g'
  rw [if_neg (by omega)]; exact hb
/-- One block more, for one slice more. -/
theorem add_row (hr : HR P ι h h.length B W) {k : IntKind} {a : Option Addr} {len cap : Nat} {zs : List Int} {e : TypeId} (hz : P.cellsOf e = 1) (hw : IsRow k W a len cap zs) :
    ∃ ι' v, Ext ι ι' ∧ HR P ι' (h ++ [Blk.cells e (zs.map (.int k))]) (h ++ [Blk.cells e (zs.map (.int k))]).length B W ∧ VR ι' v (.slice a len cap) ∧
      ∀ L, rdS (h ++ [Blk.cells e (zs.map (.int k))] ++ L) 1 v = some ((zs.take len).map (.int k)) := by
  have hd : ∀ b g, ι b = some g → b < h.length := fun b g hb => (hr.dom b g hb).1
  have hvac : ∀ (x : Blk) (b : Nat) (y : Blk), (h ++ [x]).length ≤ b → (h ++ [x])[b]? = some y → False := by
    intro x b y h1 h2
    have := (List.getElem?_eq_some_iff.1 h2).1
    omega
  rcases hw with ⟨rfl, rfl, rfl, rfl⟩ | ⟨x, rfl, hxb, hl, hm, hzl, hcell, hwf⟩
  · refine ⟨ι, .slice none 0 0, Ext.refl _, ⟨fun b g hb => ⟨?_, (hr.dom b g hb).2⟩, ?_, ?_, ?_⟩, .nils, fun L => by simp [rdS]⟩
    · have := hd b g hb; simp only [List.length_append, List.length_cons, List.length_nil]; omega
    · intro b e' cs g hb hg
      have := hd b g hg
      rw [List.getElem?_append_left this] at hb
      exact hr.cell b e' cs g hb hg
    · intro b e' cs g h1 hb; exact (hvac _ _ _ h1 hb).elim
    · intro b b' e' cs e2 cs' g g' _ h1 hb; exact (hvac _ _ _ h1 hb).elim
  · by_cases h0 : cap = 0
    · subst h0
      obtain rfl : len = 0 := by omega
      obtain rfl : zs = [] := List.eq_nil_of_length_eq_zero hzl
      refine ⟨fun b => if b = h.length then some ⟨x.block, 0, 0, 1⟩ else ι b, .slice (some ⟨h.length, 0, none⟩) 0 0, ext_new ι h.length _ hd, ⟨?_, ?_, ?_, ?_⟩, ?_, ?_⟩
      · intro b g hb
        skip
        split at hb
        · rename_i hbe; cases hb; subst hbe; exact ⟨by simp, hxb⟩
        · have := hr.dom b g hb; exact ⟨by simp; omega, this.2⟩
      · intro b e' cs g hb hg
        skip
        split at hg
        · rename_i hbe; cases hg; subst hbe
          simp at hb
          obtain ⟨rfl, rfl⟩ := hb
          exact ⟨hz.symm, fun i v hv => by simp at hv⟩
        · have h1 := hd b g hg
          rw [List.getElem?_append_left h1] at hb
          obtain ⟨k1, k2⟩ := hr.cell b e' cs g hb hg
          refine ⟨k1, fun i v hv => ?_⟩
          obtain ⟨k3, v', k4, k5⟩ := k2 i v hv
          exact ⟨k3, v', k4, k5.mono (ext_new ι h.length _ hd)⟩
      · intro b e' cs g h1 hb; exact (hvac _ _ _ h1 hb).elim
      · intro b b' e' cs e2 cs' g g' _ h1 hb; exact (hvac _ _ _ h1 hb).elim
      · exact .sl0 (g := ⟨x.block, 0, 0, 1⟩) x (by simp)
      · intro L
        simp [rdS]
    · obtain ⟨xb, xo, xs⟩ := x
      have hc0 := hcell 0 (by omega)
      have hxs : xs = none := by
        cases xs with
        | none => rfl
        | some s => simp [World.cell?, Addr.add] at hc0; split at hc0 <;> simp at hc0
      subst hxs
      have hlt : xb < W.heap.size := World.block_lt_of_cell? W _ hc0
      refine ⟨fun b => if b = h.length then some ⟨xb, xo, cap, 1⟩ else ι b, .slice (some ⟨h.length, 0, none⟩) len cap, ext_new ι h.length _ hd, ⟨?_, ?_, ?_, ?_⟩, ?_, ?_⟩
      · intro b g hb
        skip
        split at hb
        · rename_i hbe; cases hb; subst hbe; exact ⟨by simp, hlt⟩
        · have := hr.dom b g hb; exact ⟨by simp; omega, this.2⟩
      · intro b e' cs g hb hg
        skip
        split at hg
        · rename_i hbe; cases hg; subst hbe
          simp at hb
          obtain ⟨rfl, rfl⟩ := hb
          refine ⟨hz.symm, ?_⟩
          intro i v hv
          simp at hv
          obtain ⟨n, hn, rfl⟩ := hv
          have hi : i < zs.length := (List.getElem?_eq_some_iff.1 hn).1
          refine ⟨rfl, _, ?_, .int _ _⟩
          have := hcell i hi
          rw [Addr.add_lit] at this
          refine this.trans ?_
          simp [hn]
        · have h1 := hd b g hg
          rw [List.getElem?_append_left h1] at hb
          obtain ⟨k1, k2⟩ := hr.cell b e' cs g hb hg
          refine ⟨k1, fun i v hv => ?_⟩
          obtain ⟨k3, v', k4, k5⟩ := k2 i v hv
          exact ⟨k3, v', k4, k5.mono (ext_new ι h.length _ hd)⟩
      · intro b e' cs g h1 hb; exact (hvac _ _ _ h1 hb).elim
      · intro b b' e' cs e2 cs' g g' _ h1 hb; exact (hvac _ _ _ h1 hb).elim
      · refine VR.sl (g := ⟨xb, xo, cap, 1⟩) (by simp) hl hm (fun _ => by simp)
      · intro L
        simp only [rdS, List.append_assoc, List.cons_append, List.nil_append]
        rw [List.getElem?_append_right (by omega)]
        simp only [Nat.sub_self, List.getElem?_cons_zero, List.length_map, Nat.mul_one, Nat.zero_add, List.drop_zero, List.map_take]
        rw [if_pos (by omega)]
/-- What a law's run says to its row. -/
theorem law_calls {f : Nat} {sp : Sp} (ok : Ok P f sp) {args cargs : List Value} (hr : HR P ι h h.length W.heap.size W) (hv : VRs ι args cargs) (hs : sp h.length args h = some (.bool true, h)) :
    Calls P f ⟨cargs⟩ W (fun e W' => e = .returned (.bool true) ∧ Below W.heap.size W W') := by
  refine (ok.run h.length W.heap.size args h (.bool true) h ι W cargs hs (Nat.le_refl _) hr (Nat.le_refl _) hv).mono ?_
  intro e w' ⟨r', ι', h1, _, h3, _, h5⟩
  cases h3
  exact ⟨h1, h5⟩
end
end Go.AH
