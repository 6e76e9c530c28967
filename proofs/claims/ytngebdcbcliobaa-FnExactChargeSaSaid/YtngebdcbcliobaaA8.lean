import Derived.Test.YtngebdcbcliobaaA7
namespace Go.AH
open Go.RowKit (Below)
section
variable {P : Program} {N : Nat} {ι : Inj} {h h' : Heap} {lo B : Nat} {w : World} {σ : Nat → Value} {a : Act} {v : Value}

theorem flat_rep (zc : List Value) : ∀ (n i : Nat), i < n * zc.length → ((List.replicate n zc).flatten)[i]? = zc[i % zc.length]?
  | 0, i, h => by simp at h
  | n + 1, i, h => by
    rw [List.replicate_succ, List.flatten_cons]
    by_cases hi : i < zc.length
    · rw [List.getElem?_append_left hi, Nat.mod_eq_of_lt hi]
    · rw [List.getElem?_append_right (by omega), flat_rep zc n (i - zc.length) (by rw [Nat.succ_mul] at h; omega), ← Nat.mod_eq_sub_mod (by omega)]
theorem flat_len (zc : List Value) (n : Nat) : ((List.replicate n zc).flatten).length = n * zc.length := by
  induction n with
  | zero => simp
  | succ n ih => simp [List.replicate_succ, ih, Nat.succ_mul]; omega

theorem fine_mkSl (hr : HR P ι h lo B w) (hB : B ≤ w.heap.size) {t e : TypeId} (hu : P.underlying t = some (.slice e)) {i : TypeInfo} (hi : P.info? e = some i) {zc : List Value} (hz : zeroT P e = some zc) (hpos : 0 < i.size)
    {p p' q q' : Value} (hp : VR ι p p') (hq : VR ι q q') {l c : Int} (hl : getI p = some l) (hc : getI q = some c) (h0 : 0 ≤ l) (h1 : l ≤ c) (hb : i.bytes * c ≤ 281474976710656) (hm : c ≤ maxLen) :
    Fine P ι h lo B w (slc h.length 0 l.toNat) (h ++ [.cells e (List.replicate c.toNat zc).flatten]) ((do pure (.value (← Instr.makeSlice t p' q')) : Sem Next).run P w) := by
  obtain ⟨i', v, hi', hv, rfl, hpl, h1c, hlz⟩ := zeroT_spec hz
  rw [hi] at hi'; cases hi'
  obtain ⟨k, rfl⟩ := hp.getI hl
  obtain ⟨k', rfl⟩ := hq.getI hc
  have hrun := run_make (P := P) (w := w) t e i v hu hi hv k k' l c h0 h1 hb (by simp only [maxLen] at hm; omega)
  have hsz : v.cells.size = i.size := by rw [← hlz]; rfl
  have hrel : VRs ι (List.replicate c.toNat (cellsL v)).flatten (madeCells v.cells (c.toNat * i.size)).toList := by
    refine VRs.of_get ?_ ?_
    · rw [flat_len, hlz]; simp [size_madeCells]
    · intro j x x' hx hx'
      have hj : j < c.toNat * i.size := by
        have := (List.getElem?_eq_some_iff.1 hx).1; rw [flat_len, hlz] at this; exact this
      rw [flat_rep _ _ _ (by rw [hlz]; exact hj)] at hx
      have hx2 : x' = x := by
        simp [madeCells, hj] at hx'
        have hlt : j % v.cells.size < v.cells.size := Nat.mod_lt _ (by omega)
        rw [getElem!_pos v.cells _ hlt] at hx'
        have hx3 : v.cells[j % v.cells.size]? = some x := by
          rw [show (cellsL v).length = v.cells.size by simp [cellsL]] at hx
          simpa [cellsL] using hx
        rw [Array.getElem?_eq_getElem hlt] at hx3
        cases hx3; exact hx'.symm
      subst hx2
      exact VR.plain ((List.all_eq_true.1 hpl) _ (List.mem_of_getElem? hx))
  have hones : ∀ u ∈ (List.replicate c.toNat (cellsL v)).flatten, one u = true := by
    intro u hu
    simp only [List.mem_flatten, List.mem_replicate] at hu
    obtain ⟨x, ⟨_, rfl⟩, hx⟩ := hu
    exact plain_ones h1c u hx
  obtain ⟨ι', x1, x2, x3, x4⟩ := fine_new hr hB e _ _ hones hrel
  refine ⟨_, _, ι', .inl (by simp only [Sem.run_bind, hrun, Result.andThen_ok]; rfl), x1, ?_, x3, x4⟩
  have hn : ((madeCells v.cells (c.toNat * i.size)).toList).length = c.toNat * P.cellsOf e := by simp [size_madeCells, Program.cellsOf, hi]
  have := VR.sl (off := 0) (len := l.toNat) (cap := l.toNat) (cap' := c.toNat) x2 (by omega) (by omega) (fun _ => by simp only [hn])
  simpa [slc] using this

/-- An append whose row may lie where the block b did, or anew. -/
theorem fine_app_some (hr : HR P ι h lo B w) (hB : B ≤ w.heap.size) {t e : TypeId} (hu : P.underlying t = some (.slice e)) {i : TypeInfo} (hi : P.info? e = some i) {zc : List Value} (hz : zeroT P e = some zc) (hpos : 0 < i.size)
    {b n c : Nat} {p' q q' : Value} (hp : VR ι (.slice (some ⟨b, 0, none⟩) n c) p') (hq : VR ι q q') {xs ys : List Value} (hxs : rdS h i.size (.slice (some ⟨b, 0, none⟩) n c) = some xs) (hys : rdS h i.size q = some ys)
    {ad : Option Addr} {m cq : Nat} (hqs : q = .slice ad m cq) (hby : (n + m) * i.bytes ≤ 140737488355328) (hm : n + m ≤ maxLen)
    {bs : List Value} (hb : h[b]? = some (.cells e bs)) (hlo : lo ≤ b) (ty : TypeId) :
    Fine P ι h lo B w (slc h.length 0 (n + m)) (h.set b .dead ++ [.cells e (xs ++ ys)]) ((do pure (.value (← Builtin.append_ #[t, t] ty #[p', q'])) : Sem Next).run P w) := by
  obtain ⟨i', zv, hi', hzv, rfl, hpl, h1c, hlz⟩ := zeroT_spec hz
  rw [hi] at hi'; cases hi'
  have hcz : P.cellsOf e = i.size := by simp [Program.cellsOf, hi]
  have hm63 : n + m ≤ 9223372036854775807 := by simp only [maxLen] at hm; omega
  rcases rdS_world hr hp hxs with ⟨hx, _⟩ | ⟨b1, o1, n1, c1, c', ya, g, e1, bs1, hx, rfl, hg, hb1, hnc, hcm, hoff, hxl, hxle, hxe, hxone, xs', hvx, hxl', hxcell⟩ | ⟨_, _, _, _, _, hx, _⟩
  · cases hx
  rotate_left
  · cases hx
  cases hx
  rw [hb] at hb1; cases hb1
  obtain ⟨oB, o0, oN, cur, ocur, osz⟩ := hr.own b e bs g hlo hb hg
  have hgz := (hr.cell b e bs g hb hg).1
  -- the source's cells in the world
  obtain ⟨ys', hvy, hyl, hyone, hsrc⟩ : ∃ ys', VRs ι ys ys' ∧ ys.length = m * i.size ∧ (∀ v ∈ ys, one v = true) ∧
      ((q' = .slice none 0 0 ∧ m = 0) ∨ ∃ y c2, q' = .slice (some y) m c2 ∧ ∀ (j : Nat) (u : Value), ys'[j]? = some u → w.cell? (y.add j) = some u) := by
    rcases rdS_world hr hq hys with ⟨hx, rfl, rfl⟩ | ⟨b2, o2, n2, c2, c2', yb, g2, e2, bs2, hx, rfl, hg2, hb2, _, _, _, hyl, _, _, hyone, ys', hvy, hyl', hycell⟩ | ⟨_, _, _, _, xe, hx, rfl, rfl⟩
    · rw [hqs] at hx; cases hx; exact ⟨[], .nil, by simp, by simp, .inl ⟨rfl, rfl⟩⟩
    · rw [hqs] at hx; cases hx
      exact ⟨ys', hvy, by rw [hyl], hyone, .inr ⟨_, _, rfl, hycell⟩⟩
    · rw [hqs] at hx; cases hx
      exact ⟨[], .nil, by simp, by simp, .inr ⟨xe, 0, rfl, by simp⟩⟩
  have hxyone : ∀ v ∈ xs ++ ys, one v = true := by intro v hv; rcases List.mem_append.1 hv with x | x; exact hxone v x; exact hyone v x
  have hxy := hvx.append hvy
  have hxyl : (xs ++ ys).length = (n + m) * i.size := by rw [List.length_append, hxl, hyl, Nat.add_mul]
  have hxyl' : (xs' ++ ys').length = (n + m) * i.size := by rw [← hxy.length, hxyl]
  have hlive : ∀ (b' : Nat) (e : TypeId) (cs : List Value), (h.set b .dead)[b']? = some (.cells e cs) → h[b']? = some (.cells e cs) ∧ b' ≠ b := by
    intro b' e cs hx
    by_cases hbb : b' = b
    · subst hbb; rw [List.getElem?_set_self (hr.dom b' g hg).1] at hx; cases hx
    · rw [List.getElem?_set_ne (fun x => hbb x.symm)] at hx; exact ⟨hx, hbb⟩
  -- the new row in place of the old one
  have inPlace : ∀ (w' : World) (cur' : Array Value) (hoff0 : ya = ⟨g.c, 0, none⟩ ∧ c' * i.size = g.n), n + m ≤ c' → w'.heap[g.c]? = some (.cells cur' e (0, 0)) → cur'.size = g.n → cur'.toList.take ((n + m) * i.size) = xs' ++ ys' →
      (∀ k, k ≠ g.c → w'.heap[k]? = w.heap[k]?) → w'.heap.size = w.heap.size → w'.os = w.os → w'.tape = w.tape → w'.output = w.output →
      (Builtin.append_ #[t, t] ty #[.slice (some ya) n c', q']).run P w = .ok (.slice (some ⟨g.c, 0, none⟩) (n + m) c') w' →
      Fine P ι h lo B w (slc h.length 0 (n + m)) (h.set b .dead ++ [.cells e (xs ++ ys)]) ((do pure (.value (← Builtin.append_ #[t, t] ty #[.slice (some ya) n c', q'])) : Sem Next).run P w) := by
    intro w' cur' ⟨hoff0, hfull⟩ hroom hcur' hcsz htake hsame hsize hos htape hout hrun
    have hg' := hr.grow (w' := w') (h.set b .dead) g.c g.n e (xs ++ ys) cur' (by simp) (fun b' e cs hx => (hlive b' e cs hx).1) (by omega)
      (fun b' e' cs' g' hx hg' => ⟨fun x => (hr.apart b b' e bs e' cs' g g' (hlive _ _ _ hx).2.symm hlo hb (hlive _ _ _ hx).1 hg hg') x.symm,
        hsame _ (fun x => (hr.apart b b' e bs e' cs' g g' (hlive _ _ _ hx).2.symm hlo hb (hlive _ _ _ hx).1 hg hg') x.symm)⟩) hcur' hcsz oB
      (fun j v hv => by
        obtain ⟨v', hv', rv⟩ := hxy.get j v hv
        refine ⟨hxyone v (List.mem_of_getElem? hv), v', ?_, rv⟩
        have hj : j < (n + m) * i.size := by have := (List.getElem?_eq_some_iff.1 hv).1; rw [hxyl] at this; exact this
        rw [← htake, List.getElem?_take_of_lt hj] at hv'
        simpa using hv') (by rw [hxyl, ← hfull]; exact Nat.mul_le_mul_right _ hroom)
    refine ⟨_, w', _, .inl (by simp only [Sem.run_bind, hrun, Result.andThen_ok]; rfl), HR.ag_upd _ _ _, ?_, hg', ⟨hos, htape, hout, by omega, fun k hk => hsame k (by omega)⟩⟩
    have := VR.sl (ι := upd ι h.length ⟨g.c, 0, g.n, P.cellsOf e⟩) (b := h.length) (g := ⟨g.c, 0, g.n, P.cellsOf e⟩) (off := 0) (len := n + m) (cap := n + m) (cap' := c') (by simp [upd]) hroom hcm
      (fun _ => by simp only [hcz]; exact hfull)
    simpa [slc] using this
  -- a row anew
  have anew : ∀ (cur' : Array Value) (cap' : Nat), n + m ≤ cap' → cap' ≤ maxLen → cur'.size = cap' * i.size → cur'.toList.take ((n + m) * i.size) = xs' ++ ys' →
      (Builtin.append_ #[t, t] ty #[.slice (some ya) n c', q']).run P w = .ok (.slice (some ⟨w.heap.size, 0, none⟩) (n + m) cap') (w.drew.alloc (.cells cur' e)) →
      Fine P ι h lo B w (slc h.length 0 (n + m)) (h.set b .dead ++ [.cells e (xs ++ ys)]) ((do pure (.value (← Builtin.append_ #[t, t] ty #[.slice (some ya) n c', q'])) : Sem Next).run P w) := by
    intro cur' cap' hroom hcapm hcsz htake hrun
    have hg' := hr.grow (w' := w.drew.alloc (.cells cur' e)) (h.set b .dead) w.heap.size (cap' * i.size) e (xs ++ ys) cur' (by simp) (fun b' e cs hx => (hlive b' e cs hx).1) (by simp)
      (fun b' e' cs' g' hx hg' => by have := (hr.dom b' g' hg').2; exact ⟨by omega, Below.heap_alloc w.drew _ _ (by simpa using this)⟩) (heap_alloc_new w.drew _) hcsz hB
      (fun j v hv => by
        obtain ⟨v', hv', rv⟩ := hxy.get j v hv
        refine ⟨hxyone v (List.mem_of_getElem? hv), v', ?_, rv⟩
        have hj : j < (n + m) * i.size := by have := (List.getElem?_eq_some_iff.1 hv).1; rw [hxyl] at this; exact this
        rw [← htake, List.getElem?_take_of_lt hj] at hv'
        simpa using hv') (by rw [hxyl]; exact Nat.mul_le_mul_right _ hroom)
    refine ⟨_, _, _, .inl (by simp only [Sem.run_bind, hrun, Result.andThen_ok]; rfl), HR.ag_upd _ _ _, ?_, hg', (Below.refl B w).drew.alloc (by simpa using hB) _⟩
    have := VR.sl (ι := upd ι h.length ⟨w.heap.size, 0, cap' * i.size, P.cellsOf e⟩) (b := h.length) (g := ⟨w.heap.size, 0, cap' * i.size, P.cellsOf e⟩) (off := 0) (len := n + m) (cap := n + m) (cap' := cap') (by simp [upd]) hroom hcapm
      (fun _ => by simp only [hcz])
    simpa [slc] using this
  have holds : ∀ (j : Nat) (u : Value), xs'[j]? = some u → w.cell? (ya.add j) = some u := hxcell
  have hgrowcap := fun (hlt : c' < n + m) => And.intro (grownCap_ge w (n + m) c' e) (grownCap_le_maxLen w (n + m) c' e hm)
  have hys1 : ∀ u ∈ ys', u.oneCell' = true := by
    intro u hu
    obtain ⟨j, hj⟩ := List.getElem?_of_mem hu
    have hjl : j < ys.length := by rw [hvy.length]; exact (List.getElem?_eq_some_iff.1 hj).1
    obtain ⟨u', hu', r⟩ := hvy.get j ys[j] (by simp [hjl])
    rw [hj] at hu'; cases hu'
    rw [← one_eq, ← r.one]; exact hyone _ (by simp)
  have hyl' : ys'.length = m * i.size := by rw [← hvy.length, hyl]
  by_cases hroom : n + m ≤ c'
  · rcases hoff with ⟨hoffe, hfull⟩ | ⟨hn0, hc0⟩
    · -- in place: the row begins its block
      have hoff0 : ya = ⟨g.c, 0, none⟩ ∧ c' * i.size = g.n := by rw [o0] at hfull hoffe; exact ⟨by simpa using hoffe, by rw [← hcz, ← hgz]; exact hfull rfl⟩
      have hfit0 : (n + m) * i.size ≤ cur.size := by rw [osz, ← hoff0.2]; exact Nat.mul_le_mul_right _ hroom
      have hnfit : n * i.size ≤ (n + m) * i.size := Nat.mul_le_mul_right _ (Nat.le_add_right _ _)
      have hxtake : cur.toList.take (n * i.size) = xs' := by
        apply List.ext_getElem?
        intro j
        by_cases hj : j < n * i.size
        · obtain ⟨u, hu⟩ : ∃ u, xs'[j]? = some u := ⟨xs'[j]'(by rw [hxl']; exact hj), by simp [hxl', hj]⟩
          have h2 := hxcell j u hu
          rw [hoff0.1, Addr.add_lit, cell?_block ocur] at h2
          rw [List.getElem?_take_of_lt hj, hu]; simpa using h2
        · rw [List.getElem?_eq_none (by simp; omega), List.getElem?_eq_none (by omega)]
      rcases hsrc with ⟨rfl, hm0⟩ | ⟨y, c2, rfl, hycell⟩
      · have hy0 : ys' = [] := List.eq_nil_of_length_eq_zero (by rw [hyl', hm0]; simp)
        refine inPlace w cur hoff0 hroom ocur osz (by rw [hm0, hy0]; simpa using hxtake) (fun _ _ => rfl) rfl rfl rfl rfl ?_
        have hnc' : n ≤ c' := hnc
        simp [Builtin.append_, run_underlying hu, sizeOf, typeInfo, hi, Builtin.lenOf, Builtin.firstCells, hm0, hnc', storeCells, hoff0.1]
      · have hrun := run_append_room (P := P) w t ty e i hu hi g.c n c' cur ocur y m c2 ys' hyl' hycell hys1 hroom (by rw [hyl', ← Nat.add_mul]; exact hfit0)
        have hlt : g.c < w.heap.size := (hr.dom b g hg).2
        refine inPlace _ _ hoff0 hroom (setRow_heap w g.c cur _ e _ ocur) ?_ ?_ (fun k hk => setRow_other w g.c k _ hk) (by simp) rfl rfl rfl (by rw [hoff0.1]; exact hrun)
        · simp; rw [hyl']; rw [Nat.add_mul] at hfit0; omega
        · rw [hxtake, List.append_assoc]
          simp only []
          rw [← List.append_assoc, ← hxyl']
          exact List.take_left
    · -- a slice of no length and no room
      subst hn0; subst hc0
      have hm0 : m = 0 := by omega
      subst hm0
      have hx0 : xs = [] := List.eq_nil_of_length_eq_zero (by rw [hxl]; simp)
      have hy0 : ys = [] := List.eq_nil_of_length_eq_zero (by rw [hyl]; simp)
      subst hx0; subst hy0
      have hg' := hr.grow (w' := w) (h.set b .dead) g.c g.n e [] cur (by simp) (fun b' e cs hx => (hlive b' e cs hx).1) (by omega)
        (fun b' e' cs' g' hx hg' => ⟨fun x => (hr.apart b b' e bs e' cs' g g' (hlive _ _ _ hx).2.symm hlo hb (hlive _ _ _ hx).1 hg hg') x.symm, rfl⟩) ocur osz oB (by simp) (by simp)
      refine ⟨.slice (some ya) 0 0, w, _, .inl ?_, HR.ag_upd _ _ _, ?_, by simpa using hg', Below.refl _ _⟩
      · rcases hsrc with ⟨rfl, _⟩ | ⟨y, c2, rfl, _⟩
        · simp [Builtin.append_, run_underlying hu, sizeOf, typeInfo, hi, Builtin.lenOf, Builtin.firstCells, storeCells]
        · simp [Builtin.append_, run_underlying hu, sizeOf, typeInfo, hi, Builtin.lenOf, Builtin.firstCells, storeCells, loadCells, loadCellsFrom]
      · have := VR.sl0 (ι := upd ι h.length ⟨g.c, 0, g.n, P.cellsOf e⟩) (b := h.length) (g := ⟨g.c, 0, g.n, P.cellsOf e⟩) (off := 0) (cap := 0) ya (by simp [upd])
        simpa [slc] using this
  · have hlt : c' < n + m := by omega
    obtain ⟨hge, hle⟩ := hgrowcap hlt
    rcases hsrc with ⟨rfl, hm0⟩ | ⟨y, c2, rfl, hycell⟩
    · omega
    · have hrun := run_append_grow (P := P) w t ty e i zv hu hi hzv ya n c' xs' hxl' holds y m c2 ys' hyl' hycell hlt (by omega) (growslice_fits hlt hby)
      refine anew _ _ hge hle ?_ ?_ hrun
      · simp only [Array.size_append, List.size_toArray, size_zeroCells, hxl', hyl', ← Nat.add_mul]
        have : zv.cells.size = i.size := by rw [← hlz]; rfl
        rw [this, ← Nat.add_mul]; congr 1; omega
      · simp only [Array.toList_append, List.append_assoc]
        rw [← List.append_assoc, ← hxyl']
        exact List.take_left

theorem fine_app_nil (hr : HR P ι h lo B w) (hB : B ≤ w.heap.size) {t e : TypeId} (hu : P.underlying t = some (.slice e)) {i : TypeInfo} (hi : P.info? e = some i) {zc : List Value} (hz : zeroT P e = some zc)
    {p' q q' : Value} (hp : VR ι (.slice none 0 0) p') (hq : VR ι q q') {ys : List Value} (hys : rdS h i.size q = some ys)
    {ad : Option Addr} {m cq : Nat} (hqs : q = .slice ad m cq) (hby : m * i.bytes ≤ 140737488355328) (hm : m ≤ maxLen) (ty : TypeId) :
    Fine P ι h lo B w (if m = 0 then .slice none 0 0 else slc h.length 0 m) (if m = 0 then h else h ++ [.cells e ys]) ((do pure (.value (← Builtin.append_ #[t, t] ty #[p', q'])) : Sem Next).run P w) := by
  obtain ⟨i', zv, hi', hzv, rfl, hpl, h1c, hlz⟩ := zeroT_spec hz
  rw [hi] at hi'; cases hi'
  have hcz : P.cellsOf e = i.size := by simp [Program.cellsOf, hi]
  cases hp
  by_cases hm0 : m = 0
  · subst hm0
    simp only [if_true]
    refine ⟨.slice none 0 0, w, ι, .inl ?_, Ag.refl _ _, .nils, hr, Below.refl _ _⟩
    subst hqs
    cases hq <;> simp [Builtin.append_, run_underlying hu, sizeOf, typeInfo, hi, Builtin.lenOf, Builtin.firstCells, loadCells, loadCellsFrom]
  · simp only [hm0, if_false]
    rcases rdS_world hr hq hys with ⟨hx, rfl, rfl⟩ | ⟨b2, o2, n2, c2, c2', yb, g2, e2, bs2, hx, rfl, hg2, hb2, _, _, _, hyl, _, _, hyone, ys', hvy, hyl', hycell⟩ | ⟨_, _, _, _, xe, hx, rfl, rfl⟩
    · rw [hqs] at hx; cases hx; exact absurd rfl hm0
    rotate_left
    · rw [hqs] at hx; cases hx; exact absurd rfl hm0
    · rw [hqs] at hx; cases hx
      have hrun := run_append_nil (P := P) w t ty e i zv hu hi hzv yb m c2' ys' hyl' hycell (by omega) (by simp only [maxLen] at hm; omega) (by omega)
      have hge : m ≤ grownCap w m 0 e := grownCap_ge w m 0 e
      have hle := grownCap_le_maxLen w m 0 e hm
      have hzs : zv.cells.size = i.size := by rw [← hlz]; rfl
      have hcsz : (ys'.toArray ++ Builtin.zeroCells zv.cells (grownCap w m 0 e - m)).size = grownCap w m 0 e * i.size := by
        simp only [Array.size_append, List.size_toArray, size_zeroCells, hyl', hzs, ← Nat.add_mul]; congr 1; omega
      have hg' := hr.grow (w' := w.drew.alloc (.cells (ys'.toArray ++ Builtin.zeroCells zv.cells (grownCap w m 0 e - m)) e)) h w.heap.size _ e ys _ rfl (fun _ _ _ x => x) (by simp)
        (fun b' e' cs' g' hx hg' => by have := (hr.dom b' g' hg').2; exact ⟨by omega, Below.heap_alloc w.drew _ _ (by simpa using this)⟩) (heap_alloc_new w.drew _) hcsz hB
        (fun j v hv => by
          obtain ⟨v', hv', rv⟩ := hvy.get j v hv
          refine ⟨hyone v (List.mem_of_getElem? hv), v', ?_, rv⟩
          have hj : j < ys'.length := by rw [← hvy.length]; exact (List.getElem?_eq_some_iff.1 hv).1
          rw [Array.getElem?_append_left (by simpa using hj)]; simpa using hv') (by rw [hyl]; exact Nat.mul_le_mul_right _ hge)
      refine ⟨_, _, _, .inl (by simp only [Sem.run_bind, hrun, Result.andThen_ok]; rfl), HR.ag_upd _ _ _, ?_, hg', (Below.refl B w).drew.alloc (by simpa using hB) _⟩
      have := VR.sl (ι := upd ι h.length ⟨w.heap.size, 0, grownCap w m 0 e * i.size, P.cellsOf e⟩) (b := h.length) (g := ⟨w.heap.size, 0, grownCap w m 0 e * i.size, P.cellsOf e⟩) (off := 0) (len := m) (cap := m) (cap' := grownCap w m 0 e) 
        (by simp [upd]) hge hle (fun _ => by simp only [hcz])
      simpa [slc] using this

theorem fine_app_emp (hr : HR P ι h lo B w) (hB : B ≤ w.heap.size) {t e : TypeId} (hu : P.underlying t = some (.slice e)) {i : TypeInfo} (hi : P.info? e = some i) {zc : List Value} (hz : zeroT P e = some zc)
    {b o s n c : Nat} {p' q q' : Value} (hp : VR ι (.slice (some ⟨b, o, some s⟩) n c) p') (hq : VR ι q q') {ys : List Value} (hys : rdS h i.size q = some ys)
    {ad : Option Addr} {m cq : Nat} (hqs : q = .slice ad m cq) (hby : m * i.bytes ≤ 140737488355328) (hm : m ≤ maxLen) (ty : TypeId) :
    Fine P ι h lo B w (if m = 0 then .slice (some ⟨b, o, some s⟩) n c else slc h.length 0 m) (if m = 0 then h else h ++ [.cells e ys]) ((do pure (.value (← Builtin.append_ #[t, t] ty #[p', q'])) : Sem Next).run P w) := by
  obtain ⟨i', zv, hi', hzv, rfl, hpl, h1c, hlz⟩ := zeroT_spec hz
  rw [hi] at hi'; cases hi'
  have hcz : P.cellsOf e = i.size := by simp [Program.cellsOf, hi]
  cases hp with | emp xx =>
  by_cases hm0 : m = 0
  · subst hm0
    simp only [if_true]
    refine ⟨.slice (some xx) 0 0, w, ι, .inl ?_, Ag.refl _ _, .emp xx, hr, Below.refl _ _⟩
    subst hqs
    cases hq <;> simp [Builtin.append_, run_underlying hu, sizeOf, typeInfo, hi, Builtin.lenOf, Builtin.firstCells, storeCells, loadCells, loadCellsFrom]
  · simp only [hm0, if_false]
    rcases rdS_world hr hq hys with ⟨hx, rfl, rfl⟩ | ⟨b2, o2, n2, c2, c2', yb, g2, e2, bs2, hx, rfl, hg2, hb2, _, _, _, hyl, _, _, hyone, ys', hvy, hyl', hycell⟩ | ⟨_, _, _, _, xe, hx, rfl, rfl⟩
    · rw [hqs] at hx; cases hx; exact absurd rfl hm0
    rotate_left
    · rw [hqs] at hx; cases hx; exact absurd rfl hm0
    · rw [hqs] at hx; cases hx
      have hrun := run_append_grow (P := P) w t ty e i zv hu hi hzv xx 0 0 [] (by simp) (fun j u hj => by simp at hj) yb m c2' ys' hyl' hycell (by omega) (by simp only [maxLen] at hm; omega) (growslice_fits (by omega) (by simpa using hby))
      rw [show ([] : List Value).toArray ++ ys'.toArray = ys'.toArray by simp] at hrun
      simp only [Nat.zero_add] at hrun
      have hge : m ≤ grownCap w m 0 e := grownCap_ge w m 0 e
      have hle := grownCap_le_maxLen w m 0 e hm
      have hzs : zv.cells.size = i.size := by rw [← hlz]; rfl
      have hcsz : (ys'.toArray ++ Builtin.zeroCells zv.cells (grownCap w m 0 e - m)).size = grownCap w m 0 e * i.size := by
        simp only [Array.size_append, List.size_toArray, size_zeroCells, hyl', hzs, ← Nat.add_mul]; congr 1; omega
      have hg' := hr.grow (w' := w.drew.alloc (.cells (ys'.toArray ++ Builtin.zeroCells zv.cells (grownCap w m 0 e - m)) e)) h w.heap.size _ e ys _ rfl (fun _ _ _ x => x) (by simp)
        (fun b' e' cs' g' hx hg' => by have := (hr.dom b' g' hg').2; exact ⟨by omega, Below.heap_alloc w.drew _ _ (by simpa using this)⟩) (heap_alloc_new w.drew _) hcsz hB
        (fun j v hv => by
          obtain ⟨v', hv', rv⟩ := hvy.get j v hv
          refine ⟨hyone v (List.mem_of_getElem? hv), v', ?_, rv⟩
          have hj : j < ys'.length := by rw [← hvy.length]; exact (List.getElem?_eq_some_iff.1 hv).1
          rw [Array.getElem?_append_left (by simpa using hj)]; simpa using hv') (by rw [hyl]; exact Nat.mul_le_mul_right _ hge)
      refine ⟨_, _, _, .inl (by simp only [Sem.run_bind, hrun, Result.andThen_ok]; rfl), HR.ag_upd _ _ _, ?_, hg', (Below.refl B w).drew.alloc (by simpa using hB) _⟩
      have := VR.sl (ι := upd ι h.length ⟨w.heap.size, 0, grownCap w m 0 e * i.size, P.cellsOf e⟩) (b := h.length) (g := ⟨w.heap.size, 0, grownCap w m 0 e * i.size, P.cellsOf e⟩) (off := 0) (len := m) (cap := m) (cap' := grownCap w m 0 e) 
        (by simp [upd]) hge hle (fun _ => by simp only [hcz])
      simpa [slc] using this

end
end Go.AH
