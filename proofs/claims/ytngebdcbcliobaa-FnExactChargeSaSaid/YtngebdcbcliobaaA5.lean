import Derived.Test.YtngebdcbcliobaaA4
namespace Go.AH
open Go.RowKit (Below)
section
variable {P : Program} {N : Nat} {ι : Inj} {h h' : Heap} {lo B : Nat} {w : World} {σ : Nat → Value} {a : Act} {v : Value}

theorem setAt_length (cs : List Value) (o : Nat) (vs : List Value) : (setAt cs o vs).length = cs.length := by
  induction vs generalizing cs o with
  | nil => rfl
  | cons v vs ih => simp [setAt, ih]

/-- A run of stores into one block of the run's own. -/
theorem store_all {b : Nat} {e : TypeId} {g : Img} (hlo : lo ≤ b) (hg : ι b = some g) : ∀ (vs vs' : List Value) (cs : List Value) (o i : Nat) (h : Heap) (w : World), HR P ι h lo B w → h[b]? = some (.cells e cs) → o + i + vs.length ≤ cs.length →
    (∀ v ∈ vs, one v = true) → VRs ι vs vs' → ∃ w', (storeCells ⟨g.c, g.o + o, none⟩ vs' i).run P w = .ok () w' ∧ HR P ι (h.set b (.cells e (setAt cs (o + i) vs))) lo B w' ∧ Below B w w'
  | [], _, cs, o, i, h, w, hr, hb, _, _, hv => by
    cases hv
    refine ⟨w, rfl, ?_, Below.refl _ _⟩
    have : h.set b (.cells e cs) = h := by
      apply List.ext_getElem?
      intro j
      by_cases hj : j = b
      · subst hj; rw [List.getElem?_set_self (hr.dom j g hg).1, hb]
      · rw [List.getElem?_set_ne (fun x => hj x.symm)]
    simpa [setAt, this] using hr
  | v :: vs, _, cs, o, i, h, w, hr, hb, hl, h1, hv => by
    cases hv with
    | cons hv hvs =>
      rename_i v' vs'
      obtain ⟨oB, o0, oN, cur, ocur, osz⟩ := hr.own b e cs g hlo hb hg
      simp only [List.length_cons] at hl
      have hr1 := hr.store hlo hb hg (off := o + i) (by omega) (h1 v (by simp)) hv
      have hb1 : (h.set b (.cells e (cs.set (o + i) v)))[b]? = some (.cells e (cs.set (o + i) v)) := List.getElem?_set_self (hr.dom b g hg).1
      obtain ⟨w', hw', hr', hbel⟩ := store_all hlo hg vs vs' (cs.set (o + i) v) o (i + 1) _ _ hr1 hb1 (by simp; omega) (fun u hu => h1 u (by simp [hu])) hvs
      refine ⟨w', ?_, ?_, ?_⟩
      · simp only [storeCells, Sem.run_bind, Addr.add_lit]
        have hcell : ∃ u, w.cell? ⟨g.c, g.o + o + i, none⟩ = some u := by
          obtain ⟨_, u, hu, _⟩ := (hr.cell b e cs g hb hg).2 (o + i) cs[o + i] (by simp [show o + i < cs.length by omega])
          exact ⟨u, by rw [← hu]; congr 2; omega⟩
        obtain ⟨u, hu⟩ := hcell
        have hone : v'.oneCell' = true := by rw [← one_eq, ← hv.one]; exact h1 v (by simp)
        have hfz : w.frozen? ⟨g.c, g.o + o + i, none⟩ = false := by simp [World.frozen?, ocur]
        rw [run_store P w _ v' .plain hone]
        simp only [hu, hfz]
        rw [show g.o + o + i = g.o + (o + i) by omega]
        simpa using hw'
      · simpa [setAt, Nat.add_assoc] using hr'
      · exact Below.trans ((Below.refl _ _).setCell (p := ⟨g.c, g.o + (o + i), none⟩) oB v') hbel

theorem fine_st (hr : HR P ι h lo B w) {t : TypeId} (hk : known P t = true) {x x' u u' : Value} (hx : VR ι x x') (hu : VR ι u u') {b o : Nat} (hp : getP x = some (b, o))
    {e : TypeId} {cs : List Value} (hb : h[b]? = some (.cells e cs)) (hlo : lo ≤ b) (hn : (cellsL u).length = P.cellsOf t) (hle : o + P.cellsOf t ≤ cs.length) (h1 : (cellsL u).all one = true) :
    Fine P ι h lo B w undef (h.set b (.cells e (setAt cs o (cellsL u)))) ((do Instr.storeAt t x' u'; pure .skip : Sem Next).run P w) := by
  obtain ⟨g, hg, rfl⟩ := hx.getP hp
  have hki : (P.info? t).isSome = true := by simp only [known, Bool.and_eq_true] at hk; exact hk.1
  have hvs := hu.cells
  obtain ⟨w', hw', hr', hbel⟩ := store_all (P := P) hlo hg (cellsL u) (cellsL u') cs o 0 h w hr hb (by omega) (plain_ones h1) hvs
  refine ⟨undef, w', ι, .inr ⟨?_, rfl, rfl⟩, Ag.refl _ _, VR.undef, by simpa using hr', hbel⟩
  have hsz : u'.cells.size = P.cellsOf t := by rw [← hn, hvs.length]; rfl
  simp only [cellsL] at hw'
  simp [Instr.storeAt, Instr.sureAddr, storeVar, sizeOf_run hki, hsz, hw']

/-! ### Values built of parts -/
theorem fold_set (cs vs : List Value) : ∀ (off k : Nat) (cells : Array Value), off + k + vs.length ≤ cells.size →
    ((vs.zipIdx k).foldl (fun (cs : Array Value) (p : Value × Nat) => cs.setIfInBounds (off + p.2) p.1) cells).toList = cells.toList.take (off + k) ++ vs ++ cells.toList.drop (off + k + vs.length) := by
  clear cs
  induction vs with
  | nil => intro off k cells _; simp
  | cons v vs ih =>
    intro off k cells hl
    simp only [List.length_cons] at hl
    rw [List.zipIdx_cons, List.foldl_cons, ih off (k + 1) _ (by simp; omega)]
    have hlt : off + k < cells.toList.length := by simp; omega
    simp only [Array.toList_setIfInBounds, List.length_cons]
    rw [List.take_set, List.drop_set, if_pos (by omega)]
    rw [show off + (k + 1) = off + k + 1 by omega, List.take_succ_eq_append_getElem hlt, List.set_append_right _ _ (by simp; omega)]
    have e1 : min (off + k) cells.size = off + k := by simp at hlt; omega
    simp only [List.length_take, Array.length_toList, e1, Nat.sub_self, List.set_cons_zero, List.append_assoc, List.cons_append, List.nil_append]
    congr 2
    rw [show off + k + 1 + vs.length = off + k + (vs.length + 1) by omega]

theorem fill_run (place : Nat → Option (Nat × Nat)) : ∀ (ps : List (Nat × Operand)) (qs : List (Nat × Nat × Opd)) (z : List Value) (cells : Array Value) (cs : List Value),
    TR N ι σ a.tmps → cParts N place ps = some qs → VRs ι z cells.toList → fillL z (qs.map fun p => (p.1, p.2.1, ev σ p.2.2)) = some cs →
    ∃ cs', Instr.fill place cells (ps.map fun p => (p.1, a.eval p.2)) = some cs' ∧ VRs ι cs cs'.toList
  | [], qs, z, cells, cs, _, hq, hz, hf => by
    cases hq; simp [fillL] at hf; subst hf
    exact ⟨cells, rfl, hz⟩
  | (i, x) :: r, qs, z, cells, cs, ht, hq, hz, hf => by
    simp only [cParts] at hq
    obtain ⟨p, hp, hq⟩ := Option.bind_eq_some_iff.1 hq
    obtain ⟨y, hy, hq⟩ := Option.bind_eq_some_iff.1 hq
    obtain ⟨l, hl, rfl⟩ := Option.map_eq_some_iff.1 hq
    simp only [List.map_cons, fillL] at hf
    split at hf
    · rename_i hcond
      have hv := (cO_ev ht hy).cells
      have hlen : (a.eval x).cells.size = p.2 := by rw [← hcond.1, hv.length]; rfl
      have hsz : cells.size = z.length := by rw [hz.length]; rfl
      have hfs := fold_set [] (a.eval x).cells.toList p.1 0 cells (by simp; omega)
      obtain ⟨cs', h1, h2⟩ := fill_run place r l _ (((a.eval x).cells.toList.zipIdx 0).foldl (fun (cs : Array Value) (p' : Value × Nat) => cs.setIfInBounds (p.1 + p'.2) p'.1) cells) cs ht hl
        (by
          rw [hfs]
          simp only [Nat.add_zero]
          refine VRs.append (VRs.append (hz.take _) hv) ?_
          have : (a.eval x).cells.toList.length = p.2 := by simpa using hlen
          rw [this]; exact hz.drop _) hf
      refine ⟨cs', ?_, h2⟩
      simp only [List.map_cons, Instr.fill, hp]
      rw [if_neg (by simp [hlen]; omega)]
      rw [← h1]
      congr 1
      rw [← Array.foldl_toList, Array.toList_zipIdx]
    · cases hf

theorem mapM_pure_run {α β : Type} (P : Program) (f : α → Sem β) (g : α → β) : ∀ (l : List α) (w : World), (∀ x ∈ l, (f x).run P w = .ok (g x) w) → (l.mapM f).run P w = .ok (l.map g) w
  | [], w, _ => by simp
  | x :: r, w, h => by
    have ih := mapM_pure_run P f g r w (fun y hy => h y (by simp [hy]))
    simp [List.mapM_cons, h x (by simp), ih]

theorem fine_build (hr : HR P ι h lo B w) (ht : TR N ι σ a.tmps) {t : TypeId} {fs : Array Field} (hu : P.underlying t = some (.struct fs)) (hfs : fs.all (fun f => known P f.type) = true)
    {z : List Value} (hz : zeroT P t = some z) {ps : Array (Nat × Operand)} {qs : List (Nat × Nat × Opd)} (hq : cParts N (fun i => (fs[i]?).map fun f => (f.offset, P.cellsOf f.type)) ps.toList = some qs)
    {cs : List Value} (hf : fillL z (qs.map fun p => (p.1, p.2.1, ev σ p.2.2)) = some cs) :
    Fine P ι h lo B w (.agg ⟨cs⟩) h ((do pure (.value (← Instr.build t (ps.map fun (i, x) => (i, a.eval x)))) : Sem Next).run P w) := by
  obtain ⟨i, v, hi, hv, rfl, hp, h1, hl⟩ := zeroT_spec hz
  obtain ⟨cs', hfill, hcs⟩ := fill_run (place := fun i => (fs[i]?).map fun f => (f.offset, P.cellsOf f.type)) (a := a) ps.toList qs (cellsL v) v.cells cs ht hq (VRs.plain hp) hf
  have hplaces : (fs.toList.mapM fun f => (Prod.mk f.offset <$> sizeOf f.type : Sem (Nat × Nat))).run P w = .ok (fs.toList.map fun f => (f.offset, P.cellsOf f.type)) w := by
    refine mapM_pure_run P _ _ _ w fun f hf' => ?_
    have hk : known P f.type = true := Array.all_eq_true_iff_forall_mem.1 hfs f (Array.mem_toList_iff.1 hf')
    have hki : (P.info? f.type).isSome = true := by simp only [known, Bool.and_eq_true] at hk; exact hk.1
    simp [sizeOf_run hki]
  have hplaces' : (fs.mapM fun f => (Prod.mk f.offset <$> sizeOf f.type : Sem (Nat × Nat))).run P w = .ok (fs.map fun f => (f.offset, P.cellsOf f.type)) w := by
    rw [Array.mapM_eq_mapM_toList]
    simp only [Sem.run_map, hplaces, Result.andThen_ok]
    congr 1; simp [← Array.toList_map]
  refine ⟨.agg cs', w, ι, .inl ?_, Ag.refl _ _, ?_, hr, Below.refl _ _⟩
  · have hgoal : Instr.fill (fun x => (fs.map fun f => (f.offset, P.cellsOf f.type))[x]?) v.cells (ps.toList.map fun x => (x.1, a.eval x.2)) = some cs' := by
      rw [← hfill]; congr 1
      funext i; simp
    simp only [Array.getElem?_map] at hgoal
    simp [Instr.build, zeroValue, typeInfo, hi, hv, run_underlying hu, hplaces', hgoal]
  · obtain ⟨l⟩ := cs'; exact .agg hcs

theorem fine_mkS (hr : HR P ι h lo B w) (hB : B ≤ w.heap.size) (ht : TR N ι σ a.tmps) {t e : TypeId} (hu : P.underlying t = some (.slice e)) (hk : known P e = true) {len : Nat} (hlen : len * P.cellsOf e ≤ 2 ^ 24)
    {z : List Value} (hz : zeroT P e = some z) {ps : Array (Nat × Operand)} {qs : List (Nat × Nat × Opd)} (hq : cParts N (fun i => some (i * P.cellsOf e, P.cellsOf e)) ps.toList = some qs)
    {cs : List Value} (hf : fillL (rowsZ len (P.cellsOf e) z) (qs.map fun p => (p.1, p.2.1, ev σ p.2.2)) = some cs) (h1c : cs.all one = true) (hcl : cs.length = len * P.cellsOf e) (hm : len ≤ maxLen) :
    Fine P ι h lo B w (slc h.length 0 len) (h ++ [.cells e cs]) ((do pure (.value (← Instr.buildSlice t len (ps.map fun (i, x) => (i, a.eval x)))) : Sem Next).run P w) := by
  obtain ⟨i, v, hi, hv, rfl, hp, h1, hl⟩ := zeroT_spec hz
  have hki : (P.info? e).isSome = true := by simp [hi]
  have hzz : VRs ι (rowsZ len (P.cellsOf e) (cellsL v)) ((Array.range (len * P.cellsOf e)).map (fun x => v.cells[x % v.cells.size]!)).toList := by
    simp only [rowsZ, Array.toList_map, Array.toList_range]
    refine VRs.map _ _ _ fun (x : Nat) hx => ?_
    have e1 : (cellsL v)[x % (cellsL v).length]! = v.cells[x % v.cells.size]! := by simp [cellsL, getElem!_def]
    rw [e1]
    have hmem : v.cells[x % v.cells.size]! ∈ cellsL v ∨ v.cells[x % v.cells.size]! = default := by
      by_cases hlt : x % v.cells.size < v.cells.size
      · left; rw [getElem!_pos v.cells _ hlt]; simp [cellsL]
      · right; rw [getElem!_neg v.cells _ hlt]
    rcases hmem with hm | hm
    · exact VR.plain (by simpa using (List.all_eq_true.1 hp) _ hm)
    · rw [hm]; exact .bool _
  obtain ⟨cs', hfill, hcs⟩ := fill_run (place := fun i => some (i * P.cellsOf e, P.cellsOf e)) (a := a) ps.toList qs _ _ cs ht hq hzz hf
  obtain ⟨ι', x1, x2, x3, x4⟩ := fine_new hr hB e cs cs'.toList (plain_ones h1c) hcs
  refine ⟨.slice (some ⟨w.heap.size, 0, none⟩) len len, _, ι', .inl ?_, x1, ?_, x3, x4⟩
  · simp only [Instr.buildSlice, Sem.run_bind, run_underlying hu, Result.andThen_ok, sizeOf_run hki]
    rw [if_neg (by omega)]
    by_cases h0 : len * P.cellsOf e = 0
    · have r0 : Array.range 0 = (#[] : Array Nat) := rfl
      rw [h0, r0, Array.map_empty] at hfill
      simp [h0, r0, newRow, hfill]
    · simp [h0, zeroValue, typeInfo, hi, hv, hfill, newRow]
  · have := VR.sl (off := 0) (len := len) (cap := len) (cap' := len) x2 (Nat.le_refl _) hm (fun _ => by simp [← hcs.length, hcl])
    simpa [slc] using this

theorem fillL_length : ∀ (ps : List (Nat × Nat × Value)) (z cs : List Value), fillL z ps = some cs → cs.length = z.length
  | [], z, cs, h => by simp [fillL] at h; rw [h]
  | (o, n, v) :: r, z, cs, h => by
    simp only [fillL] at h
    split at h
    · rename_i hc
      rw [fillL_length r _ _ h]; simp; omega
    · cases h

end
end Go.AH
