import Derived.Test.YtngebdcbcliobaaA3
namespace Go.AH
open Go.RowKit (Below)

/-- The slots of a frame. -/
def TR (N : Nat) (ι : Inj) (σ : Nat → Value) (tmps : Array Value) : Prop := N ≤ tmps.size ∧ ∀ i, i < N → VR ι (σ i) (tmps.getD i undef)

theorem TR.mono {N : Nat} {ι ι' : Inj} {σ : Nat → Value} {t : Array Value} (h : TR N ι σ t) (e : Ext ι ι') : TR N ι' σ t := ⟨h.1, fun i hi => (h.2 i hi).mono e⟩

theorem TR.put {N : Nat} {ι : Inj} {σ : Nat → Value} {a : Act} (h : TR N ι σ a.tmps) {d : Option Tmp} (hd : cDst N d = true) {v v' : Value} (hv : VR ι v v') :
    TR N ι (putO σ d v) (a.put d v').tmps := by
  cases d with
  | none => exact h
  | some d =>
    have hd' : d < N := by simpa [cDst] using hd
    refine ⟨by simpa [Act.put] using h.1, fun i hi => ?_⟩
    by_cases e : i = d
    · subst e
      have : i < a.tmps.size := Nat.lt_of_lt_of_le hi h.1
      simpa [putO, AH.put, Act.put, Array.getElem?_setIfInBounds, this] using hv
    · have := h.2 i hi
      have e' : d ≠ i := fun x => e x.symm
      simpa [putO, AH.put, Act.put, e, Array.getElem?_setIfInBounds, e'] using this

theorem cO_ev {N : Nat} {ι : Inj} {σ : Nat → Value} {a : Act} (h : TR N ι σ a.tmps) {x : Operand} {y : Opd} (hc : cO N x = some y) : VR ι (ev σ y) (a.eval x) := by
  cases x with
  | tmp t =>
    simp only [cO] at hc; split at hc
    · cases hc; exact h.2 t ‹_›
    · cases hc
  | const v =>
    simp only [cO] at hc; split at hc
    · cases hc; exact VR.closed ‹_›
    · cases hc
  | func f => simp only [cO] at hc; cases hc; exact .func _ .nil .nil
  | global g => cases hc

theorem cOs_ev {N : Nat} {ι : Inj} {σ : Nat → Value} {a : Act} (h : TR N ι σ a.tmps) : ∀ {xs : List Operand} {ys : List Opd}, cOs N xs = some ys → VRs ι (ys.map (ev σ)) (xs.map a.eval)
  | [], ys, hc => by cases hc; exact .nil
  | x :: r, ys, hc => by
    simp only [cOs] at hc
    obtain ⟨y, hy, hc⟩ := Option.bind_eq_some_iff.1 hc
    obtain ⟨zs, hz, rfl⟩ := Option.map_eq_some_iff.1 hc
    exact .cons (cO_ev h hy) (cOs_ev h hz)

/-- What an operation that calls nothing does in the world, told beside what it does in the abstract heap. -/
def Fine (P : Program) (ι : Inj) (h : Heap) (lo B : Nat) (w : World) (v : Value) (h' : Heap) (r : Result Next) : Prop :=
  ∃ v' w' ι', (r = .ok (.value v') w' ∨ (r = .ok .skip w' ∧ v = undef ∧ v' = undef)) ∧ Ag h.length ι ι' ∧ VR ι' v v' ∧ HR P ι' h' lo B w' ∧ Below B w w'

section
variable {P : Program} {N : Nat} {ι : Inj} {h h' : Heap} {lo B : Nat} {w : World} {σ : Nat → Value} {a : Act} {v : Value}

theorem Fine.pure (hr : HR P ι h lo B w) {v' : Value} (hv : VR ι v v') : Fine P ι h lo B w v h (.ok (.value v') w) :=
  ⟨v', w, ι, .inl rfl, Ag.refl _ _, hv, hr, Below.refl _ _⟩

theorem getP_some {v : Value} {b o : Nat} (h : getP v = some (b, o)) : v = .pointer (some ⟨b, o, none⟩) := by
  unfold getP at h; split at h <;> simp_all
theorem getB_some {v : Value} {b : Bool} (h : getB v = some b) : v = .bool b := by
  unfold getB at h; split at h <;> simp_all
theorem getI_some {v : Value} {n : Int} (h : getI v = some n) : ∃ k, v = .int k n := by
  unfold getI at h; split at h <;> simp_all

theorem VR.getP {x y : Value} (h : VR ι x y) {b o : Nat} (hp : AH.getP x = some (b, o)) : ∃ g, ι b = some g ∧ y = .pointer (some ⟨g.c, g.o + o, none⟩) := by
  have := getP_some hp; subst this
  cases h with | ptr e => exact ⟨_, e, rfl⟩
theorem VR.getB {x y : Value} (h : VR ι x y) {b : Bool} (hp : AH.getB x = some b) : y = .bool b := by
  have := getB_some hp; subst this
  cases h; rfl
theorem VR.getI {x y : Value} (h : VR ι x y) {n : Int} (hp : AH.getI x = some n) : ∃ k, y = .int k n := by
  obtain ⟨k, rfl⟩ := getI_some hp
  cases h; exact ⟨k, rfl⟩

theorem aggT_run {t : TypeId} (hk : known P t = true) (w : World) : (isAgg t).run P w = .ok (aggT P t) w := by
  simp only [known, Bool.and_eq_true, Option.isSome_iff_exists] at hk
  obtain ⟨_, d, hd⟩ := hk
  simp only [isAgg, Sem.run_bind, run_underlying hd, Result.andThen_ok, aggT, hd]
  cases d <;> rfl
theorem sizeOf_run {t : TypeId} (hk : (P.info? t).isSome = true) (w : World) : (sizeOf t).run P w = .ok (P.cellsOf t) w := by
  obtain ⟨i, hi⟩ := Option.isSome_iff_exists.1 hk
  simp [sizeOf, typeInfo, hi, Program.cellsOf]

theorem fine_mv (hr : HR P ι h lo B w) (ht : TR N ι σ a.tmps) {x : Operand} {y : Opd} (hy : cO N x = some y) : Fine P ι h lo B w (ev σ y) h (.ok (.value (a.eval x)) w) :=
  Fine.pure hr (cO_ev ht hy)

theorem plain_ones {z : List Value} (h : z.all one = true) : ∀ v ∈ z, one v = true := by simpa using h

/-- A new row in the world for a new block of the heap. -/
theorem fine_new (hr : HR P ι h lo B w) (hB : B ≤ w.heap.size) (e : TypeId) (cs cs' : List Value) (h1 : ∀ v ∈ cs, one v = true) (hv : VRs ι cs cs') :
    ∃ ι', Ag h.length ι ι' ∧ ι' h.length = some ⟨w.heap.size, 0, cs'.length, P.cellsOf e⟩ ∧ HR P ι' (h ++ [.cells e cs]) lo B (w.alloc (.cells ⟨cs'⟩ e)) ∧ Below B w (w.alloc (.cells ⟨cs'⟩ e)) :=
  ⟨_, HR.ag_upd _ _ _, by simp [upd], hr.alloc hB e cs cs' h1 hv, (Below.refl _ _).alloc hB _⟩

theorem zeroT_spec {e : TypeId} {z : List Value} (hz : zeroT P e = some z) : ∃ i v, P.info? e = some i ∧ i.zero = some v ∧ cellsL v = z ∧ z.all plainV = true ∧ z.all one = true ∧ z.length = i.size := by
  unfold zeroT at hz
  split at hz
  · rename_i i hi
    split at hz
    · rename_i v hv
      split at hz
      · rename_i hc
        cases hz
        simp only [Bool.and_eq_true, beq_iff_eq] at hc
        exact ⟨i, v, hi, hv, rfl, hc.1.1, hc.1.2, hc.2⟩
      · cases hz
    · cases hz
  · cases hz

theorem fine_alloc (hr : HR P ι h lo B w) (hB : B ≤ w.heap.size) {e : TypeId} {z : List Value} (hz : zeroT P e = some z) :
    Fine P ι h lo B w (ptr h.length 0) (h ++ [.cells e z]) ((do pure (.value (← Instr.alloc e true (.tuple #[]))) : Sem Next).run P w) := by
  obtain ⟨i, v, hi, hv, rfl, hp, h1, hl⟩ := zeroT_spec hz
  obtain ⟨ι', x1, x2, x3, x4⟩ := fine_new hr hB e (cellsL v) (cellsL v) (plain_ones h1) (VRs.plain hp)
  refine ⟨.pointer (some ⟨w.heap.size, 0, none⟩), _, ι', .inl ?_, x1, ?_, x3, x4⟩
  · simp [Instr.alloc, zeroValue, typeInfo, hi, hv, newVar, newRow, cellsL]
  · have := VR.ptr (off := 0) x2; simpa [ptr] using this

theorem fine_box (hr : HR P ι h lo B w) (hB : B ≤ w.heap.size) {e : TypeId} {x x' : Value} (hx : VR ι x x') (h1 : (cellsL x).all one = true) :
    Fine P ι h lo B w (ptr h.length 0) (h ++ [.cells e (cellsL x)]) ((do pure (.value (← Instr.box e x')) : Sem Next).run P w) := by
  obtain ⟨ι', x1, x2, x3, x4⟩ := fine_new hr hB e (cellsL x) (cellsL x') (plain_ones h1) hx.cells
  refine ⟨.pointer (some ⟨w.heap.size, 0, none⟩), _, ι', .inl ?_, x1, ?_, x3, x4⟩
  · simp [Instr.box, newVar, newRow, cellsL]
  · have := VR.ptr (off := 0) x2; simpa [ptr] using this

theorem fine_ld (hr : HR P ι h lo B w) {t : TypeId} (hk : known P t = true) (hagg : aggT P t = false) {x x' : Value} (hx : VR ι x x') {b o : Nat} (hp : getP x = some (b, o))
    {e : TypeId} {cs : List Value} (hb : h[b]? = some (.cells e cs)) (hv : cs[o]? = some v) :
    Fine P ι h lo B w v h ((do pure (.value (← Instr.loadAt t x')) : Sem Next).run P w) := by
  obtain ⟨g, hg, rfl⟩ := hx.getP hp
  obtain ⟨_, v', hv', rv⟩ := (hr.cell b e cs g hb hg).2 o v hv
  refine ⟨v', w, ι, .inl ?_, Ag.refl _ _, rv, hr, Below.refl _ _⟩
  simp [Instr.loadAt, Instr.sureAddr, loadVar, aggT_run hk, hagg, hv']

theorem fine_ldn (hr : HR P ι h lo B w) {t : TypeId} (hk : known P t = true) (hagg : aggT P t = true) {x x' : Value} (hx : VR ι x x') {b o : Nat} (hp : getP x = some (b, o))
    {e : TypeId} {cs : List Value} (hb : h[b]? = some (.cells e cs)) (hn : o + P.cellsOf t ≤ cs.length) :
    Fine P ι h lo B w (.agg ⟨(cs.drop o).take (P.cellsOf t)⟩) h ((do pure (.value (← Instr.loadAt t x')) : Sem Next).run P w) := by
  obtain ⟨g, hg, rfl⟩ := hx.getP hp
  obtain ⟨cs', r, hl, hc⟩ := hr.cells hb hg o (P.cellsOf t) hn
  have hki : (P.info? t).isSome = true := by simp only [known, Bool.and_eq_true] at hk; exact hk.1
  have hload := run_loadCells_list (P := P) w ⟨g.c, g.o + o, none⟩ cs' (fun j u hu => by rw [Addr.add_lit]; exact hc j u hu)
  rw [hl] at hload
  refine ⟨.agg ⟨cs'⟩, w, ι, .inl ?_, Ag.refl _ _, .agg r, hr, Below.refl _ _⟩
  simp [Instr.loadAt, Instr.sureAddr, loadVar, aggT_run hk, hagg, sizeOf_run hki, hload]

end
end Go.AH
