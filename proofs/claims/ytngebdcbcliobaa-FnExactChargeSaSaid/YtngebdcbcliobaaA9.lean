import Derived.Test.YtngebdcbcliobaaA21
namespace Go.AH
open Go.RowKit (Below)

def Fr (lo : Nat) (h h' : Heap) : Prop := h.length ≤ h'.length ∧ ∀ b, b < lo → h'[b]? = h[b]?
theorem Fr.refl (lo : Nat) (h : Heap) : Fr lo h h := ⟨Nat.le_refl _, fun _ _ => rfl⟩
theorem Fr.trans {lo : Nat} {a b c : Heap} (h : Fr lo a b) (k : Fr lo b c) : Fr lo a c := ⟨Nat.le_trans h.1 k.1, fun i hi => (k.2 i hi).trans (h.2 i hi)⟩
theorem Fr.push {lo : Nat} {h : Heap} (hl : lo ≤ h.length) (l : List Blk) : Fr lo h (h ++ l) := ⟨by simp, fun b hb => List.getElem?_append_left (by omega)⟩
theorem Fr.set {lo : Nat} {h : Heap} {b : Nat} (hb : lo ≤ b) (x : Blk) : Fr lo h (h.set b x) := ⟨by simp, fun i hi => List.getElem?_set_ne (by omega)⟩
theorem Fr.mono {lo lo' : Nat} {h h' : Heap} (k : Fr lo h h') (hl : lo' ≤ lo) : Fr lo' h h' := ⟨k.1, fun b hb => k.2 b (by omega)⟩

/-- What a call comes to. -/
def Ends (P : Program) (ι : Inj) (h : Heap) (lo B : Nat) (w : World) (r : Value) (h' : Heap) : Ending → World → Prop :=
  fun e w' => ∃ r' ι', e = .returned r' ∧ Ag h.length ι ι' ∧ VR ι' r r' ∧ HR P ι' h' lo B w' ∧ Below B w w'
structure Ok (P : Program) (f : Nat) (sp : Sp) : Prop where
  call : callable P f = true
  fr : ∀ lo args h r h', sp lo args h = some (r, h') → lo ≤ h.length → Fr lo h h'
  run : ∀ lo B args h r h' ι w cargs, sp lo args h = some (r, h') → lo ≤ h.length → HR P ι h lo B w → B ≤ w.heap.size → VRs ι args cargs → Calls P f ⟨cargs⟩ w (Ends P ι h lo B w r h')
def OkΓ (P : Program) (Γ : Ctx) : Prop := ∀ f sp, Γ.get f = some sp → Ok P f sp

theorem OkΓ.nil (P : Program) : OkΓ P [] := fun _ _ h => by cases h
theorem OkΓ.cons {P : Program} {Γ : Ctx} {f : Nat} {sp : Sp} (h : Ok P f sp) (k : OkΓ P Γ) : OkΓ P ((f, sp) :: Γ) := fun g s hg => by
  simp only [Ctx.get] at hg
  split at hg
  · cases hg; subst g; exact h
  · exact k g s hg

section
variable {P : Program} {N : Nat} {ι : Inj} {h h' : Heap} {lo B : Nat} {w : World} {σ : Nat → Value} {a : Act} {v : Value}

/-- What an operation comes to: done, or a call whose end is known. -/
def Good (P : Program) (ι : Inj) (h : Heap) (lo B : Nat) (w : World) (v : Value) (h' : Heap) (r : Result Next) : Prop :=
  Fine P ι h lo B w v h' r ∨ ∃ f cargs, r = .ok (.enter f cargs) w ∧ Calls P f cargs w (Ends P ι h lo B w v h')

theorem Good.upon {o : Oper} {a : Act} {next : Act → World → Prop} {Q : Exit → Act → World → Prop} {r : Result Next} (hf : Good P ι h lo B w v h' r)
    (hn : ∀ v' w' ι', Ag h.length ι ι' → VR ι' v v' → HR P ι' h' lo B w' → Below B w w' → next (a.put o.dst v') w') : o.upon P a next Q r := by
  rcases hf with ⟨v', w', ι', hr, h1, h2, h3, h4⟩ | ⟨f, cargs, rfl, hc⟩
  · rcases hr with rfl | ⟨rfl, rfl, rfl⟩
    · exact hn v' w' ι' h1 h2 h3 h4
    · exact hn undef w' ι' h1 h2 h3 h4
  · rw [Oper.upon_enter]
    refine hc.mono fun e w' ⟨r', ι', he, h1, h2, h3, h4⟩ => ?_
    subst he
    exact hn r' w' ι' h1 h2 h3 h4

theorem callFunc_run {f : FuncId} (hc : callable P f = true) (args : Array Value) (w : World) : (callFunc f args).run P w = .ok (.enter f args) w := by
  unfold callable at hc
  split at hc
  · rename_i fn hf
    simp only [Bool.and_eq_true, Bool.not_eq_true', beq_eq_false_iff_ne] at hc
    obtain ⟨c, hb⟩ := Option.isSome_iff_exists.1 hc.1
    simp [callFunc, hf, hc.2, hb]
  · cases hc

/-- A call of a function whose answer is known. -/
theorem good_call {Γ : Ctx} (hΓ : OkΓ P Γ) (hr : HR P ι h lo B w) (hB : B ≤ w.heap.size) (hlo : lo ≤ h.length) {f : FuncId} {sp : Sp} (hs : Γ.get f = some sp) {args cargs : List Value} (hv : VRs ι args cargs)
    (hsp : sp lo args h = some (v, h')) : Fr lo h h' ∧ Good P ι h lo B w v h' (.ok (.enter f ⟨cargs⟩) w) := by
  have hk := hΓ f sp hs
  exact ⟨hk.fr _ _ _ _ _ hsp hlo, .inr ⟨f, ⟨cargs⟩, rfl, hk.run lo B args h v h' ι w cargs hsp hlo hr hB hv⟩⟩

theorem known_info {t : TypeId} (hk : known P t = true) : (P.info? t).isSome = true := by simp only [known, Bool.and_eq_true] at hk; exact hk.1

theorem cOo_none {x : Option Operand} {y : Option Opd} (h : cOo N x = some y) : True := trivial

theorem isNilConst_spec {y : Operand} (h : isNilConst y = true) : y = .const (.slice none 0 0) := by
  unfold isNilConst at h
  split at h <;> first | rfl | cases h

/-- One operation: what it does in the heap tells what it does in the world. -/
theorem fine_mkE (hr : HR P ι h lo B w) (hB : B ≤ w.heap.size) {t e : TypeId} (hu : P.underlying t = some (.slice e)) (hk : known P e = true) :
    Fine P ι h lo B w emptyV h ((do pure (.value (← Instr.buildSlice t 0 ((#[] : Array (Nat × Operand)).map fun (i, x) => (i, a.eval x)))) : Sem Next).run P w) := by
  have hki : (P.info? e).isSome = true := by simp only [known, Bool.and_eq_true] at hk; exact hk.1
  have hcell : ∀ (x : Addr) (u : Value), w.cell? x = some u → (w.alloc (.cells #[] e)).cell? x = some u := by
    intro x u hx
    have hlt := World.block_lt_of_cell? w x hx
    unfold World.cell? at hx ⊢
    rw [Below.heap_alloc _ _ _ hlt]; exact hx
  refine ⟨.slice (some ⟨w.heap.size, 0, none⟩) 0 0, w.alloc (.cells #[] e), ι, .inl ?_, Ag.refl _ _, .emp _, ?_, (Below.refl _ _).alloc hB _⟩
  · have r0 : (Array.range 0 : Array Nat) = #[] := rfl
    simp [Instr.buildSlice, run_underlying hu, sizeOf_run hki, newRow, Instr.fill, r0]
  · refine ⟨fun b g hb => ⟨(hr.dom b g hb).1, by have := (hr.dom b g hb).2; simp; omega⟩, fun b e' cs g hb hg => ⟨(hr.cell b e' cs g hb hg).1, fun i v hv => ?_⟩, fun b e' cs g h1 hb hg => ?_, hr.apart⟩
    · obtain ⟨k1, v', k2, k3⟩ := (hr.cell b e' cs g hb hg).2 i v hv
      exact ⟨k1, v', hcell _ _ k2, k3⟩
    · obtain ⟨k1, k2, k3, cur, k4, k5⟩ := hr.own b e' cs g h1 hb hg
      exact ⟨k1, k2, k3, cur, by rw [Below.heap_alloc _ _ _ (hr.dom b g hg).2]; exact k4, k5⟩
theorem op_good0 {Γ : Ctx} (hΓ : OkΓ P Γ) (hr : HR P ι h lo B w) (hB : B ≤ w.heap.size) (hlo : lo ≤ h.length) (ht : TR N ι σ a.tmps) {d : Bool} {o : Oper} {p : AOp} (hc : cOp0 P N d o.op = some p)
    (ha : aop Γ lo (ev σ) h p = some (v, h')) : Fr lo h h' ∧ Good P ι h lo B w v h' ((execOp a.eval o).run P w) := by
  obtain ⟨dst, op, type, pos, after, guard⟩ := o
  cases op with
  | move x =>
    simp only [cOp0] at hc
    obtain ⟨y, hy, rfl⟩ := Option.map_eq_some_iff.1 hc
    simp only [aop] at ha; cases ha
    exact ⟨Fr.refl _ _, Or.inl (fine_mv hr ht hy)⟩
  | assign x =>
    simp only [cOp0] at hc
    obtain ⟨y, hy, rfl⟩ := Option.map_eq_some_iff.1 hc
    simp only [aop] at ha; cases ha
    exact ⟨Fr.refl _ _, Or.inl (fine_mv hr ht hy)⟩
  | pick c x y =>
    simp only [cOp0] at hc
    obtain ⟨c', hc', hc⟩ := Option.bind_eq_some_iff.1 hc
    obtain ⟨x', hx', hc⟩ := Option.bind_eq_some_iff.1 hc
    obtain ⟨y', hy', rfl⟩ := Option.map_eq_some_iff.1 hc
    simp only [aop] at ha
    obtain ⟨t, ht', ha⟩ := Option.map_eq_some_iff.1 ha
    cases ha
    refine ⟨Fr.refl _ _, ?_⟩
    have e := (cO_ev ht hc').getB ht'
    have hrun : (execOp a.eval ⟨dst, .pick c x y, type, pos, after, guard⟩).run P w = .ok (.value (if t then a.eval x else a.eval y)) w := by
      simp [execOp, asBool, e]
    rw [hrun]
    refine Or.inl (Fine.pure hr ?_)
    cases t
    · exact cO_ev ht hy'
    · exact cO_ev ht hx'
  | alloc e =>
    simp only [cOp0] at hc
    obtain ⟨z, hz, rfl⟩ := Option.map_eq_some_iff.1 hc
    simp only [aop] at ha; cases ha
    exact ⟨Fr.push hlo _, Or.inl (fine_alloc hr hB hz)⟩
  | box e x =>
    simp only [cOp0] at hc
    obtain ⟨y, hy, rfl⟩ := Option.map_eq_some_iff.1 hc
    simp only [aop] at ha
    split at ha
    · rename_i h1; cases ha
      exact ⟨Fr.push hlo _, Or.inl (fine_box hr hB (cO_ev ht hy) h1)⟩
    · cases ha
  | build t parts =>
    simp only [cOp0] at hc
    split at hc
    · rename_i fs hu
      split at hc
      · rename_i hfs
        obtain ⟨z, hz, hc⟩ := Option.bind_eq_some_iff.1 hc
        obtain ⟨qs, hq, rfl⟩ := Option.map_eq_some_iff.1 hc
        simp only [aop] at ha
        obtain ⟨cs, hcs, ha⟩ := Option.map_eq_some_iff.1 ha
        cases ha
        exact ⟨Fr.refl _ _, Or.inl (fine_build hr ht hu hfs hz hq hcs)⟩
      · cases hc
    · cases hc
  | buildSlice t len parts =>
    simp only [cOp0] at hc
    split at hc
    · rename_i e hu
      split at hc
      · rename_i hd
        obtain ⟨_, rfl, rfl⟩ := hd
        split at hc
        · rename_i hk
          obtain ⟨z, hz, rfl⟩ := Option.map_eq_some_iff.1 hc
          simp only [aop] at ha
          cases ha
          exact ⟨Fr.refl _ _, Or.inl (fine_mkE hr hB hu hk.1)⟩
        · cases hc
      split at hc
      · rename_i hcond
        obtain ⟨z, hz, hc⟩ := Option.bind_eq_some_iff.1 hc
        obtain ⟨qs, hq, rfl⟩ := Option.map_eq_some_iff.1 hc
        simp only [aop] at ha
        obtain ⟨cs, hcs, ha⟩ := Option.bind_eq_some_iff.1 ha
        split at ha
        · rename_i h1
          cases ha
          have hl := fillL_length _ _ _ hcs
          have hm : len ≤ len * P.cellsOf e := Nat.le_mul_of_pos_right _ hcond.2.1
          refine ⟨Fr.push hlo _, Or.inl (fine_mkS hr hB ht hu hcond.1 hcond.2.2 hz hq hcs h1 (by rw [hl]; simp [rowsZ]) (by have := hcond.2.2; simp only [maxLen]; omega))⟩
        · cases ha
      · cases hc
    · cases hc
  | load t x =>
    simp only [cOp0] at hc
    split at hc
    · rename_i hk
      obtain ⟨y, hy, hc⟩ := Option.map_eq_some_iff.1 hc
      have hxy := cO_ev ht hy
      split at hc
      · rename_i hagg
        cases hc
        simp only [aop] at ha
        split at ha
        · rename_i b o hp
          split at ha
          · rename_i e cs hb
            split at ha
            · rename_i hle; cases ha
              exact ⟨Fr.refl _ _, Or.inl (fine_ldn hr hk hagg hxy hp hb hle)⟩
            · cases ha
          · cases ha
        · cases ha
      · rename_i hagg
        cases hc
        simp only [aop] at ha
        split at ha
        · rename_i b o hp
          split at ha
          · rename_i e cs hb
            obtain ⟨u, hu, ha⟩ := Option.map_eq_some_iff.1 ha
            cases ha
            exact ⟨Fr.refl _ _, Or.inl (fine_ld hr hk (by simpa using hagg) hxy hp hb hu)⟩
          · cases ha
        · cases ha
    · cases hc
  | store t x y =>
    simp only [cOp0] at hc
    split at hc
    · rename_i hk
      obtain ⟨x', hx', hc⟩ := Option.bind_eq_some_iff.1 hc
      obtain ⟨y', hy', rfl⟩ := Option.map_eq_some_iff.1 hc
      simp only [aop] at ha
      split at ha
      · rename_i b o hp
        split at ha
        · rename_i e cs hb
          split at ha
          · rename_i hcond; cases ha
            exact ⟨Fr.set hcond.1 _, Or.inl (fine_st hr hk (cO_ev ht hx') (cO_ev ht hy') hp hb hcond.1 hcond.2.1 hcond.2.2.1 hcond.2.2.2)⟩
          · cases ha
        · cases ha
      · cases ha
    · cases hc
  | nilCheck x =>
    simp only [cOp0] at hc
    obtain ⟨y, hy, rfl⟩ := Option.map_eq_some_iff.1 hc
    simp only [aop] at ha
    obtain ⟨⟨b, o⟩, hp, ha⟩ := Option.map_eq_some_iff.1 ha
    cases ha
    obtain ⟨g, hg, e⟩ := (cO_ev ht hy).getP hp
    refine ⟨Fr.refl _ _, ?_⟩
    have hrun : (execOp a.eval ⟨dst, .nilCheck x, type, pos, after, guard⟩).run P w = .ok (.value (.pointer (some ⟨g.c, g.o + o, none⟩))) w := by
      simp [execOp, e]
    rw [hrun]
    exact Or.inl (Fine.pure hr (.ptr hg))
  | binOp op t x y yt =>
    simp only [cOp0] at hc
    split at hc
    · rename_i hu
      obtain ⟨x', hx', hc⟩ := Option.bind_eq_some_iff.1 hc
      obtain ⟨y', hy', rfl⟩ := Option.map_eq_some_iff.1 hc
      simp only [aop] at ha
      obtain ⟨b, hb, ha⟩ := Option.bind_eq_some_iff.1 ha
      obtain ⟨c, hcc, ha⟩ := Option.map_eq_some_iff.1 ha
      cases ha
      exact ⟨Fr.refl _ _, Or.inl (fine_eqB (neg := false) hr rfl hu (cO_ev ht hx') (cO_ev ht hy') hb hcc)⟩
    · rename_i hu
      obtain ⟨x', hx', hc⟩ := Option.bind_eq_some_iff.1 hc
      obtain ⟨y', hy', rfl⟩ := Option.map_eq_some_iff.1 hc
      simp only [aop] at ha
      obtain ⟨b, hb, ha⟩ := Option.bind_eq_some_iff.1 ha
      obtain ⟨c, hcc, ha⟩ := Option.map_eq_some_iff.1 ha
      cases ha
      exact ⟨Fr.refl _ _, Or.inl (fine_eqB (neg := true) hr rfl hu (cO_ev ht hx') (cO_ev ht hy') hb hcc)⟩
    · rename_i e hu
      split at hc
      · rename_i hy
        obtain ⟨x', hx', rfl⟩ := Option.map_eq_some_iff.1 hc
        obtain rfl := isNilConst_spec hy
        simp only [aop] at ha
        obtain ⟨b, hb, ha⟩ := Option.map_eq_some_iff.1 ha
        cases ha
        exact ⟨Fr.refl _ _, Or.inl (fine_eqN (neg := false) hr rfl hu (cO_ev ht hx') hb)⟩
      · cases hc
    · rename_i e hu
      split at hc
      · rename_i hy
        obtain ⟨x', hx', rfl⟩ := Option.map_eq_some_iff.1 hc
        obtain rfl := isNilConst_spec hy
        simp only [aop] at ha
        obtain ⟨b, hb, ha⟩ := Option.map_eq_some_iff.1 ha
        cases ha
        exact ⟨Fr.refl _ _, Or.inl (fine_eqN (neg := true) hr rfl hu (cO_ev ht hx') hb)⟩
      · cases hc
    · obtain ⟨x', hx', hc⟩ := Option.bind_eq_some_iff.1 hc
      obtain ⟨y', hy', rfl⟩ := Option.map_eq_some_iff.1 hc
      simp only [aop] at ha
      obtain ⟨u, hu, ha⟩ := Option.map_eq_some_iff.1 ha
      cases ha
      exact ⟨Fr.refl _ _, Or.inl (fine_bin hr (cO_ev ht hx') (cO_ev ht hy') hu)⟩
  | unOp op t x =>
    simp only [cOp0] at hc
    obtain ⟨x', hx', rfl⟩ := Option.map_eq_some_iff.1 hc
    simp only [aop] at ha
    obtain ⟨u, hu, ha⟩ := Option.map_eq_some_iff.1 ha
    cases ha
    exact ⟨Fr.refl _ _, Or.inl (fine_un hr (cO_ev ht hx') hu)⟩
  | convert s d x =>
    simp only [cOp0] at hc
    split at hc
    · rename_i hs hd
      obtain ⟨x', hx', rfl⟩ := Option.map_eq_some_iff.1 hc
      simp only [aop] at ha
      obtain ⟨n, hn', ha⟩ := Option.map_eq_some_iff.1 ha
      cases ha
      exact ⟨Fr.refl _ _, Or.inl (fine_cvI hr hs hd (cO_ev ht hx') hn')⟩
    · rename_i e hs hd
      split at hc
      · rename_i he
        obtain ⟨x', hx', rfl⟩ := Option.map_eq_some_iff.1 hc
        simp only [aop] at ha
        obtain ⟨cs, hcs, ha⟩ := Option.bind_eq_some_iff.1 ha
        obtain ⟨bs, hbs, ha⟩ := Option.map_eq_some_iff.1 ha
        cases ha
        exact ⟨Fr.refl _ _, Or.inl (fine_cvBS hr hs he hd (cO_ev ht hx') hcs hbs)⟩
      · cases hc
    · cases hc
  | slice t x l r m =>
    cases m with
    | some m => simp [cOp0] at hc
    | none =>
      simp only [cOp0] at hc
      split at hc
      · rename_i e hu
        split at hc
        · rename_i hk
          obtain ⟨x', hx', hc⟩ := Option.bind_eq_some_iff.1 hc
          obtain ⟨l', hl', hc⟩ := Option.bind_eq_some_iff.1 hc
          obtain ⟨r', hr', rfl⟩ := Option.map_eq_some_iff.1 hc
          have hxx := cO_ev ht hx'
          simp only [aop] at ha
          split at ha
          · rename_i ad n c hxe
            rw [hxe] at hxx
            split at ha
            · rename_i li ri hli hri
              split at ha
              · rename_i hcond
                obtain ⟨u, hu', ha⟩ := Option.map_eq_some_iff.1 ha
                cases ha
                exact ⟨Fr.refl _ _, Or.inl (fine_sl hr ht hu hk.1 hk.2 hxx hl' hr' hli hri hcond.1 hcond.2.1 hcond.2.2 hu')⟩
              · cases ha
            · cases ha
          · cases ha
        · cases hc
      · rename_i hu
        obtain ⟨x', hx', hc⟩ := Option.bind_eq_some_iff.1 hc
        obtain ⟨l', hl', hc⟩ := Option.bind_eq_some_iff.1 hc
        obtain ⟨r', hr', rfl⟩ := Option.map_eq_some_iff.1 hc
        have hxx := cO_ev ht hx'
        simp only [aop] at ha
        split at ha
        · rename_i s hxe
          rw [hxe] at hxx
          split at ha
          · rename_i li ri hli hri
            split at ha
            · rename_i hcond
              cases ha
              exact ⟨Fr.refl _ _, Or.inl (fine_slT hr ht hu hxx hl' hr' hli hri hcond.1 hcond.2.1 hcond.2.2)⟩
            · cases ha
          · cases ha
        · cases ha
      · cases hc
  | fieldAddr s x f =>
    simp only [cOp0] at hc
    split at hc
    · rename_i fs hu
      split at hc
      · rename_i fd hf
        split at hc
        · rename_i hk
          obtain ⟨x', hx', rfl⟩ := Option.map_eq_some_iff.1 hc
          simp only [aop] at ha
          obtain ⟨⟨b, o⟩, hp, ha⟩ := Option.map_eq_some_iff.1 ha
          cases ha
          exact ⟨Fr.refl _ _, Or.inl (fine_fa hr hu hf hk.1 hk.2 (cO_ev ht hx') hp)⟩
        · cases hc
      · cases hc
    · cases hc
  | field s x f =>
    simp only [cOp0] at hc
    split at hc
    · rename_i fs hu
      split at hc
      · rename_i fd hf
        split at hc
        · rename_i hk
          obtain ⟨x', hx', hc⟩ := Option.map_eq_some_iff.1 hc
          have hxx := cO_ev ht hx'
          split at hc
          · rename_i hagg
            cases hc
            simp only [aop] at ha
            split at ha
            · rename_i cs hxe
              rw [hxe] at hxx
              split at ha
              · cases ha
                exact ⟨Fr.refl _ _, Or.inl (fine_fldn hr hu hf hk hagg hxx)⟩
              · cases ha
            · cases ha
          · rename_i hagg
            cases hc
            simp only [aop] at ha
            split at ha
            · rename_i cs hxe
              rw [hxe] at hxx
              obtain ⟨u, hu', ha⟩ := Option.map_eq_some_iff.1 ha
              cases ha
              exact ⟨Fr.refl _ _, Or.inl (fine_fld hr hu hf hk (by simpa using hagg) hxx hu')⟩
            · cases ha
        · cases hc
      · cases hc
    · cases hc
  | indexAddr t x i =>
    simp only [cOp0] at hc
    split at hc
    · rename_i e hu
      split at hc
      · rename_i hk
        obtain ⟨x', hx', hc⟩ := Option.bind_eq_some_iff.1 hc
        obtain ⟨i', hi', rfl⟩ := Option.map_eq_some_iff.1 hc
        have hxx := cO_ev ht hx'
        simp only [aop] at ha
        split at ha
        · rename_i b o n c j hxe hj
          rw [hxe] at hxx
          split at ha
          · rename_i hcond
            cases ha
            exact ⟨Fr.refl _ _, Or.inl (fine_ia hr hu hk hxx (cO_ev ht hi') hj hcond.1 hcond.2)⟩
          · cases ha
        · cases ha
      · cases hc
    · cases hc
  | index t x i =>
    simp only [cOp0] at hc
    split at hc
    · rename_i hu
      obtain ⟨x', hx', hc⟩ := Option.bind_eq_some_iff.1 hc
      obtain ⟨i', hi', rfl⟩ := Option.map_eq_some_iff.1 hc
      have hxx := cO_ev ht hx'
      simp only [aop] at ha
      split at ha
      · rename_i s j hxe hj
        rw [hxe] at hxx
        split at ha
        · rename_i hcond
          obtain ⟨u, hu', ha⟩ := Option.map_eq_some_iff.1 ha
          cases ha
          exact ⟨Fr.refl _ _, Or.inl (fine_ix hr hu hxx (cO_ev ht hi') hj hcond hu')⟩
        · cases ha
      · cases ha
    · cases hc
  | makeFunc fn first caps =>
    cases fn <;> simp only [cOp0] at hc <;> first | (cases hc; done) | skip
    rename_i f
    split at hc
    · rename_i hfirst
      obtain ⟨cs, hcs, rfl⟩ := Option.map_eq_some_iff.1 hc
      simp only [aop] at ha; cases ha
      have hf0 : first = #[] := by simpa using hfirst
      subst hf0
      refine ⟨Fr.refl _ _, ?_⟩
      have hrun : (execOp a.eval ⟨dst, .makeFunc (.func f) #[] caps, type, pos, after, guard⟩).run P w = .ok (.value (.func (.func f) ⟨[]⟩ ⟨caps.toList.map a.eval⟩)) w := by
        have e : caps.map a.eval = ⟨caps.toList.map a.eval⟩ := by apply Array.ext'; simp
        simp [execOp, Instr.makeFunc, e]
      rw [hrun]
      exact Or.inl (Fine.pure hr (.func _ .nil (cOs_ev ht hcs)))
    · cases hc
  | extract x i =>
    simp only [cOp0] at hc
    obtain ⟨x', hx', rfl⟩ := Option.map_eq_some_iff.1 hc
    have hxx := cO_ev ht hx'
    simp only [aop] at ha
    split at ha
    · rename_i vs hxe
      rw [hxe] at hxx
      obtain ⟨u, hu, ha⟩ := Option.map_eq_some_iff.1 ha
      cases ha
      exact ⟨Fr.refl _ _, Or.inl (fine_ext hr hxx hu)⟩
    · cases ha
  | makeSlice t l c =>
    simp only [cOp0] at hc
    split at hc
    · rename_i e hu
      split at hc
      · rename_i i z hi hz
        split at hc
        · rename_i hpos
          obtain ⟨l', hl', hc⟩ := Option.bind_eq_some_iff.1 hc
          obtain ⟨c', hc', rfl⟩ := Option.map_eq_some_iff.1 hc
          simp only [aop] at ha
          split at ha
          · rename_i li ci hli hci
            split at ha
            · rename_i hcond
              cases ha
              exact ⟨Fr.push hlo _, Or.inl (fine_mkSl hr hB hu hi hz hpos (cO_ev ht hl') (cO_ev ht hc') hli hci hcond.1 hcond.2.1 hcond.2.2.1 hcond.2.2.2)⟩
            · cases ha
          · cases ha
        · cases hc
      · cases hc
    · cases hc
  | call c =>
    obtain ⟨callee, args, argTypes⟩ := c
    simp only [cOp0, cCall] at hc
    have hmap : args.map a.eval = ⟨args.toList.map a.eval⟩ := by apply Array.ext'; simp
    split at hc
    · -- a function by its name
      rename_i f
      split at hc
      · rename_i hcall
        obtain ⟨as, has, rfl⟩ := Option.map_eq_some_iff.1 hc
        simp only [aop] at ha
        obtain ⟨sp, hs, ha⟩ := Option.bind_eq_some_iff.1 ha
        have hrun : (execOp a.eval ⟨dst, .call ⟨.value (.func f), args, argTypes⟩, type, pos, after, guard⟩).run P w = .ok (.enter f ⟨args.toList.map a.eval⟩) w := by
          simp [execOp, resolve, Act.eval, Deferred.ofValue, invoke, hmap, callFunc_run hcall]
        rw [hrun]
        exact good_call hΓ hr hB hlo hs (cOs_ev ht has) ha
      · cases hc
    · -- a function value
      rename_i t
      obtain ⟨x, hx, hc⟩ := Option.bind_eq_some_iff.1 hc
      obtain ⟨as, has, rfl⟩ := Option.map_eq_some_iff.1 hc
      have hxx := cO_ev ht hx
      simp only [aop] at ha
      split at ha
      · rename_i f cs hxe
        rw [hxe] at hxx
        obtain ⟨sp, hs, ha⟩ := Option.bind_eq_some_iff.1 ha
        have hcall := (hΓ f sp hs).1
        generalize hfv : a.eval (.tmp t) = fv at hxx
        cases hxx with
        | func _ hfirst hcaps =>
          rename_i as' bs'
          cases hfirst
          have hrun : (execOp a.eval ⟨dst, .call ⟨.value (.tmp t), args, argTypes⟩, type, pos, after, guard⟩).run P w = .ok (.enter f ⟨args.toList.map a.eval ++ bs'⟩) w := by
            simp [execOp, resolve, hfv, Deferred.ofValue, invoke, hmap, callFunc_run hcall]
          rw [hrun]
          exact good_call hΓ hr hB hlo hs ((cOs_ev ht has).append hcaps) ha
      · cases ha
    · -- len
      split at hc
      · rename_i t x hts has
        have e1 : argTypes = #[t] := by apply Array.ext'; simpa using hts
        have e2 : args = #[x] := by apply Array.ext'; simpa using has
        subst e1; subst e2
        split at hc
        · rename_i e hu
          obtain ⟨x', hx', rfl⟩ := Option.map_eq_some_iff.1 hc
          have hxx := cO_ev ht hx'
          simp only [aop] at ha
          generalize hfv : a.eval x = fv at hxx
          split at ha
          · rename_i ad n c hxe
            cases ha
            rw [hxe] at hxx
            have hfv2 : ∃ ad' c', fv = .slice ad' n c' := by cases hxx <;> exact ⟨_, _, rfl⟩
            obtain ⟨ad', c', rfl⟩ := hfv2
            refine ⟨Fr.refl _ _, ?_⟩
            have hrun : (execOp a.eval ⟨dst, .call ⟨.builtin .len, #[x], #[t]⟩, type, pos, after, guard⟩).run P w = .ok (.value (.int .i64 n)) w := by
              simp [execOp, resolve, invoke, builtin, Builtin.len_, run_underlying hu, hfv, goInt]
            rw [hrun]
            exact Or.inl (Fine.pure hr (.int _ _))
          · cases ha
        · rename_i hu
          obtain ⟨x', hx', rfl⟩ := Option.map_eq_some_iff.1 hc
          have hxx := cO_ev ht hx'
          simp only [aop] at ha
          generalize hfv : a.eval x = fv at hxx
          split at ha
          · rename_i s hxe
            cases ha
            rw [hxe] at hxx
            cases hxx
            refine ⟨Fr.refl _ _, ?_⟩
            have hrun : (execOp a.eval ⟨dst, .call ⟨.builtin .len, #[x], #[t]⟩, type, pos, after, guard⟩).run P w = .ok (.value (.int .i64 s.size)) w := by
              simp [execOp, resolve, invoke, builtin, Builtin.len_, run_underlying hu, hfv, goInt]
            rw [hrun]
            exact Or.inl (Fine.pure hr (.int _ _))
          · cases ha
        · cases hc
      · cases hc
    · -- append
      split at hc
      · rename_i t t' x y hts has
        split at hc
        · rename_i htt
          subst htt
          have e1 : argTypes = #[t, t] := by apply Array.ext'; simpa using hts
          have e2 : args = #[x, y] := by apply Array.ext'; simpa using has
          subst e1; subst e2
          split at hc
          · rename_i e hu
            split at hc
            · rename_i i z hi hz
              split at hc
              · rename_i hpos
                obtain ⟨x', hx', hc⟩ := Option.bind_eq_some_iff.1 hc
                obtain ⟨y', hy', rfl⟩ := Option.map_eq_some_iff.1 hc
                have hxx := cO_ev ht hx'
                have hyy := cO_ev ht hy'
                simp only [aop] at ha
                have hrun : (execOp a.eval ⟨dst, .call ⟨.builtin .append, #[x, y], #[t, t]⟩, type, pos, after, guard⟩) = (do pure (.value (← Builtin.append_ #[t, t] type #[a.eval x, a.eval y])) : Sem Next) := by
                  simp [execOp, resolve, invoke, builtin]
                rw [hrun]
                generalize a.eval x = fvx at hxx
                generalize a.eval y = fvy at hyy
                split at ha
                · rename_i ad n c ad2 m c2 hxe hye
                  split at ha
                  · rename_i xs ys hxs hys
                    split at ha
                    · rename_i hcond
                      rw [hxe] at hxx hxs
                      split at ha
                      · have hn0 : n = 0 ∧ c = 0 := by cases hxx; exact ⟨rfl, rfl⟩
                        obtain ⟨rfl, rfl⟩ := hn0
                        have hfine := fine_app_nil hr hB hu hi hz hxx hyy hys hye (by simpa using hcond.1) (by simpa using hcond.2) type
                        simp only [rdS] at hxs; cases hxs
                        by_cases hm0 : m = 0
                        · simp only [hm0, if_true] at ha hfine; cases ha
                          exact ⟨Fr.refl _ _, Or.inl hfine⟩
                        · simp only [hm0, if_false] at ha hfine; cases ha
                          simp only [Nat.zero_add, List.nil_append]
                          exact ⟨Fr.push hlo _, Or.inl hfine⟩
                      · rename_i bb oo ss
                        have hn0 : n = 0 := by cases hxx; rfl
                        subst hn0
                        have hfine := fine_app_emp hr hB hu hi hz hxx hyy hys hye (by simpa using hcond.1) (by simpa using hcond.2) type
                        simp only [rdS] at hxs; cases hxs
                        rw [hxe] at ha
                        by_cases hm0 : m = 0
                        · simp only [hm0, if_true] at ha hfine; cases ha
                          exact ⟨Fr.refl _ _, Or.inl hfine⟩
                        · simp only [hm0, if_false] at ha hfine; cases ha
                          simp only [Nat.zero_add, List.nil_append]
                          exact ⟨Fr.push hlo _, Or.inl hfine⟩
                      · rename_i b
                        split at ha
                        · rename_i e' bs hb
                          split at ha
                          · rename_i hcond2
                            obtain ⟨hlob, rfl⟩ := hcond2
                            cases ha
                            exact ⟨(Fr.set hlob _).trans (Fr.push (by simpa using hlo) _), Or.inl (fine_app_some hr hB hu hi hz hpos hxx hyy hxs hys hye hcond.1 hcond.2 hb hlob type)⟩
                          · cases ha
                        · cases ha
                      · cases ha
                    · cases ha
                  · cases ha
                · cases ha
              · cases hc
            · cases hc
          · cases hc
        · cases hc
      · cases hc
    · cases hc
  | _ => exact absurd hc (by simp [cOp0])

theorem op_good {Γ : Ctx} (hΓ : OkΓ P Γ) (hr : HR P ι h lo B w) (hB : B ≤ w.heap.size) (hlo : lo ≤ h.length) (ht : TR N ι σ a.tmps) {d : Bool} {o : Oper} {p : AOp} (hc : cOp P N d o.op = some p)
    (ha : aop Γ lo (ev σ) h p = some (v, h')) : Fr lo h h' ∧ Good P ι h lo B w v h' ((execOp a.eval o).run P w) := by
  unfold cOp at hc
  split at hc
  · rename_i p' hx
    cases hc
    obtain ⟨dst, op, type, pos, after, guard⟩ := o
    simp only at hx
    unfold cOpX at hx
    split at hx
    · rename_i t x y yt
      split at hx
      · rename_i hcond
        obtain ⟨ks, hks, hx⟩ := Option.bind_eq_some_iff.1 hx
        obtain ⟨x', hx', hx⟩ := Option.bind_eq_some_iff.1 hx
        obtain ⟨y', hy', rfl⟩ := Option.map_eq_some_iff.1 hx
        simp only [aop] at ha
        split at ha
        · rename_i xs ys ex ey
          obtain ⟨b, hb, ha⟩ := Option.map_eq_some_iff.1 ha
          cases ha
          exact ⟨Fr.refl _ _, Or.inl (fine_eqS (neg := false) hr rfl hcond.1 hcond.2 hks (cO_ev ht hx') (cO_ev ht hy') ex ey hb)⟩
        · cases ha
      · cases hx
    · rename_i t x y yt
      split at hx
      · rename_i hcond
        obtain ⟨ks, hks, hx⟩ := Option.bind_eq_some_iff.1 hx
        obtain ⟨x', hx', hx⟩ := Option.bind_eq_some_iff.1 hx
        obtain ⟨y', hy', rfl⟩ := Option.map_eq_some_iff.1 hx
        simp only [aop] at ha
        split at ha
        · rename_i xs ys ex ey
          obtain ⟨b, hb, ha⟩ := Option.map_eq_some_iff.1 ha
          cases ha
          exact ⟨Fr.refl _ _, Or.inl (fine_eqS (neg := true) hr rfl hcond.1 hcond.2 hks (cO_ev ht hx') (cO_ev ht hy') ex ey hb)⟩
        · cases ha
      · cases hx
    · rename_i c
      obtain ⟨callee, args, argTypes⟩ := c
      simp only at hx
      split at hx
      · rename_i x y has
        have e2 : args = #[x, y] := by apply Array.ext'; simpa using has
        subst e2
        obtain ⟨x', hx', hx⟩ := Option.bind_eq_some_iff.1 hx
        obtain ⟨y', hy', rfl⟩ := Option.map_eq_some_iff.1 hx
        simp only [aop] at ha
        split at ha
        · rename_i k a1 k' b1 ex ey
          cases ha
          refine ⟨Fr.refl _ _, Or.inl ?_⟩
          have := fine_mm (mx := true) (ts := argTypes) (ty := type) hr (cO_ev ht hx') (cO_ev ht hy') ex ey
          simpa [execOp, resolve, invoke, builtin] using this
        · cases ha
      · rename_i x y has
        have e2 : args = #[x, y] := by apply Array.ext'; simpa using has
        subst e2
        obtain ⟨x', hx', hx⟩ := Option.bind_eq_some_iff.1 hx
        obtain ⟨y', hy', rfl⟩ := Option.map_eq_some_iff.1 hx
        simp only [aop] at ha
        split at ha
        · rename_i k a1 k' b1 ex ey
          cases ha
          refine ⟨Fr.refl _ _, Or.inl ?_⟩
          have := fine_mm (mx := false) (ts := argTypes) (ty := type) hr (cO_ev ht hx') (cO_ev ht hy') ex ey
          simpa [execOp, resolve, invoke, builtin] using this
        · cases ha
      · rename_i t x hts has
        have e1 : argTypes = #[t] := by apply Array.ext'; simpa using hts
        have e2 : args = #[x] := by apply Array.ext'; simpa using has
        subst e1; subst e2
        split at hx
        · rename_i e hu
          obtain ⟨x', hx', rfl⟩ := Option.map_eq_some_iff.1 hx
          have hxx := cO_ev ht hx'
          have run : ∀ ad, a.eval x = .slice ad 0 0 → (execOp a.eval ⟨dst, .call ⟨.builtin .cap, #[x], #[t]⟩, type, pos, after, guard⟩).run P w = .ok (.value (.int .i64 0)) w := by
            intro ad hfv
            simp [execOp, resolve, invoke, builtin, Builtin.cap_, run_underlying hu, hfv, goInt]
          simp only [aop] at ha
          split at ha
          · rename_i hxe
            cases ha
            rw [hxe] at hxx
            refine ⟨Fr.refl _ _, ?_⟩
            generalize hfv : a.eval x = fv at hxx
            cases hxx
            rw [run _ hfv]
            exact Or.inl (Fine.pure hr (.int _ _))
          · rename_i hxe
            cases ha
            rw [hxe] at hxx
            refine ⟨Fr.refl _ _, ?_⟩
            generalize hfv : a.eval x = fv at hxx
            cases hxx
            rw [run _ hfv]
            exact Or.inl (Fine.pure hr (.int _ _))
          · cases ha
        · cases hx
      · rename_i t t' x y hts has
        have e1 : argTypes = #[t, t'] := by apply Array.ext'; simpa using hts
        have e2 : args = #[x, y] := by apply Array.ext'; simpa using has
        subst e1; subst e2
        split at hx
        · rename_i e hu
          split at hx
          · rename_i hk
            obtain ⟨x', hx', hx⟩ := Option.bind_eq_some_iff.1 hx
            obtain ⟨y', hy', rfl⟩ := Option.map_eq_some_iff.1 hx
            have hxx := cO_ev ht hx'
            have hyy := cO_ev ht hy'
            simp only [aop] at ha
            split at ha
            · rename_i b o n c ad m c2 hxe hye
              split at ha
              · rename_i ys e' cs hys hb
                split at ha
                · rename_i hcond
                  cases ha
                  rw [hxe] at hxx
                  refine ⟨Fr.set hcond.1 _, Or.inl ?_⟩
                  have := fine_cpy (t' := t') hr hu hk hxx hyy hye hys hb hcond.1 hcond.2 type
                  simpa [execOp, resolve, invoke, builtin] using this
                · cases ha
              · cases ha
            · cases ha
          · cases hx
        · cases hx
      · cases hx
    · cases hx
  · split at hc
    · cases hc
    cases hc
    cases h0 : cOp0 P N d o.op with
    | none => rw [h0] at ha; simp [aop] at ha
    | some p' => rw [h0] at ha; exact op_good0 hΓ hr hB hlo ht h0 ha
end
end Go.AH
