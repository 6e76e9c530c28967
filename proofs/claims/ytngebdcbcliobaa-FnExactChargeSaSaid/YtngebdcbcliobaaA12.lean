import Derived.Test.YtngebdcbcliobaaA11
namespace Go.AH
open Go.RowKit (Below)

section
variable {P : Program} {N : Nat} {Γ : Ctx} {lo B : Nat}

def resOf (tmps : Array Value) : ResultVar → Sem Value
  | .tmp t => pure (tmps.getD t undef)
  | .cell a t => do loadVar t (← asAddr (tmps.getD a undef))
theorem results_eq (fn : Func) (tmps : Array Value) : results fn tmps = (do
    let vs ← fn.results.mapM (resOf tmps)
    pure (if h : vs.size = 1 then vs[0] else .tuple vs)) := rfl

theorem rres1_run {ι : Inj} {s : St} {a : Act} {w : World} (hs : SR P N ι lo B s a w) {x : ResultVar} {y : AR} {v : Value} (hc : cRes P N [x] = some [y]) (hv : rres1 s y = some v) :
    ∃ v', VR ι v v' ∧ (resOf a.tmps x).run P w = .ok v' w := by
  cases x with
  | tmp t =>
    simp only [cRes] at hc
    split at hc
    · rename_i hlt
      simp at hc; subst hc
      simp only [rres1] at hv; cases hv
      exact ⟨_, hs.tmps.2 t hlt, rfl⟩
    · cases hc
  | cell b t =>
    simp only [cRes] at hc
    split at hc
    · rename_i hcond
      obtain ⟨hlt, hk⟩ := hcond
      simp at hc; subst hc
      simp only [rres1] at hv
      split at hv
      · rename_i bb o hp
        obtain ⟨g, hg, hx⟩ := (hs.tmps.2 b hlt).getP hp
        split at hv
        · rename_i e cs hb
          by_cases hagg : aggT P t = true
          · simp only [hagg, if_true] at hv
            split at hv
            · rename_i hle; cases hv
              obtain ⟨cs', r, hl, hcell⟩ := hs.heap.cells hb hg o (P.cellsOf t) hle
              have hload := run_loadCells_list (P := P) w ⟨g.c, g.o + o, none⟩ cs' (fun j u hu => by rw [Addr.add_lit]; exact hcell j u hu)
              rw [hl] at hload
              refine ⟨.agg ⟨cs'⟩, .agg r, ?_⟩
              simp only [resOf, hx]
              simp [asAddr, loadVar, aggT_run hk, hagg, sizeOf_run (known_info hk), hload]
            · cases hv
          · simp only [hagg] at hv
            simp at hv
            obtain ⟨_, v', hv', rv⟩ := (hs.heap.cell bb e cs g hb hg).2 o v hv
            refine ⟨v', rv, ?_⟩
            simp only [resOf, hx]
            simp [asAddr, loadVar, aggT_run hk, hagg, hv']
        · cases hv
      · cases hv
    · cases hc

theorem cRes_cons {x : ResultVar} {xs : List ResultVar} {ys : List AR} (h : cRes P N (x :: xs) = some ys) : ∃ y zs, ys = y :: zs ∧ cRes P N [x] = some [y] ∧ cRes P N xs = some zs := by
  cases x with
  | tmp t =>
    simp only [cRes] at h ⊢
    split at h
    · rename_i hlt
      obtain ⟨l, hl, rfl⟩ := Option.map_eq_some_iff.1 h
      exact ⟨_, _, rfl, by simp [hlt], hl⟩
    · cases h
  | cell a t =>
    simp only [cRes] at h ⊢
    split at h
    · rename_i hlt
      obtain ⟨l, hl, rfl⟩ := Option.map_eq_some_iff.1 h
      exact ⟨_, _, rfl, by simp [hlt], hl⟩
    · cases h

theorem rresL_run {ι : Inj} {s : St} {a : Act} {w : World} (hs : SR P N ι lo B s a w) : ∀ (xs : List ResultVar) (ys : List AR) (vs : List Value), cRes P N xs = some ys → rresL s ys = some vs →
    ∃ vs', VRs ι vs vs' ∧ (xs.mapM (resOf a.tmps)).run P w = .ok vs' w
  | [], ys, vs, hc, hv => by cases hc; simp [rresL] at hv; subst hv; exact ⟨[], .nil, by simp⟩
  | x :: xs, ys, vs, hc, hv => by
    obtain ⟨y, zs, rfl, hy, hz⟩ := cRes_cons hc
    simp only [rresL] at hv
    obtain ⟨v, h1, hv⟩ := Option.bind_eq_some_iff.1 hv
    obtain ⟨us, h2, rfl⟩ := Option.map_eq_some_iff.1 hv
    obtain ⟨v', r1, e1⟩ := rres1_run hs hy h1
    obtain ⟨us', r2, e2⟩ := rresL_run hs xs zs us hz h2
    refine ⟨v' :: us', .cons r1 r2, ?_⟩
    simp only [List.mapM_cons, Sem.run_bind, e1, Result.andThen_ok, e2, Sem.run_pure]

theorem rres_run {ι : Inj} {s : St} {a : Act} {w : World} (hs : SR P N ι lo B s a w) {fn : Func} {ys : List AR} (hc : cRes P N fn.results.toList = some ys) {v : Value} (hv : rres s ys = some v) :
    ∃ v', VR ι v v' ∧ (results fn a.tmps).run P w = .ok v' w := by
  unfold rres at hv
  obtain ⟨vs, h1, hv⟩ := Option.map_eq_some_iff.1 hv
  obtain ⟨vs', r, e⟩ := rresL_run hs _ _ _ hc h1
  have e' : (fn.results.mapM (resOf a.tmps)).run P w = .ok ⟨vs'⟩ w := by
    rw [Array.mapM_eq_mapM_toList]
    simp only [Sem.run_map, e, Result.andThen_ok]
  have hrun : (results fn a.tmps).run P w = .ok (if h : (⟨vs'⟩ : Array Value).size = 1 then (⟨vs'⟩ : Array Value)[0] else .tuple ⟨vs'⟩) w := by
    rw [results_eq]
    simp only [Sem.run_bind, e', Result.andThen_ok, Sem.run_pure]
  cases r with
  | nil => simp at hv; subst hv; exact ⟨_, .tuple .nil, hrun⟩
  | cons r1 r2 =>
    cases r2 with
    | nil => simp at hv; subst hv; exact ⟨_, r1, by simpa using hrun⟩
    | cons r3 r4 => simp at hv; subst hv; exact ⟨_, .tuple (.cons r1 (.cons r3 r4)), by simpa using hrun⟩

/-- How a call leaves: the answer r and the heap h', out of the run's own last state. -/
def Done (h : Heap) (res : List AR) (r : Value) (h' : Heap) (s : St) : Prop := (rres s res = some r ∧ s.h = h') ∨
  ∃ (r0 : Value) (ks : List Nat), rres s res = some r0 ∧ (∀ k ∈ ks, h.length ≤ k) ∧ ks.Nodup ∧ h'.length = h.length + ks.length ∧ r0 = mapV (unN h.length s.h.length ks) r ∧
    (∀ (i k : Nat), ks[i]? = some k → ∃ b, h'[h.length + i]? = some b ∧ s.h[k]? = some (mapB (unN h.length s.h.length ks) b)) ∧
    (∀ b, b < h.length → (h'[b]? = h[b]? ∧ s.h[b]? = h[b]?) ∨ (∃ x, h'[b]? = some x ∧ s.h[b]? = some (mapB (unN h.length s.h.length ks) x)))

theorem start_SR {ι : Inj} {h : Heap} {w : World} (hr : HR P ι h lo B w) (hB : B ≤ w.heap.size) (hlo : lo ≤ h.length) {args cargs : List Value} (hv : VRs ι args cargs) (n : Nat) :
    SR P n ι lo B ⟨argσ args, h⟩ { tmps := ⟨cargs⟩ ++ Array.replicate (n - cargs.length) undef, defers := [] } w := by
  refine ⟨⟨by simp; omega, fun i hi => ?_⟩, hr, hB, hlo, rfl⟩
  simp only [argσ]
  by_cases hlt : i < cargs.length
  · have hla : i < args.length := by rw [hv.length]; exact hlt
    obtain ⟨v', h1, h2⟩ := hv.get i args[i] (by simp [hla])
    have e1 : (args[i]?).getD undef = args[i] := by simp [hla]
    rw [e1]
    have e2 : ((⟨cargs⟩ : Array Value) ++ Array.replicate (n - cargs.length) undef).getD i undef = v' := by
      simp only [Array.getD_eq_getD_getElem?]
      rw [Array.getElem?_append_left (by simpa using hlt)]
      simp at h1 ⊢; simp [h1]
    rw [e2]; exact h2
  · have hla : ¬ i < args.length := by rw [hv.length]; exact hlt
    have e1 : (args[i]?).getD undef = undef := by simp [List.getElem?_eq_none (Nat.le_of_not_lt hla)]
    rw [e1]
    have e2 : ((⟨cargs⟩ : Array Value) ++ Array.replicate (n - cargs.length) undef).getD i undef = undef := by
      simp only [Array.getD_eq_getD_getElem?]
      rw [Array.getElem?_append_right (by simpa using hlt)]
      simp [Array.getElem?_replicate]
      split <;> rfl
    rw [e2]; exact VR.undef

theorem calls_of_awp (hΓ : OkΓ P Γ) {f : Nat} {fn : Func} {af : AF} (hf : P.funcs[f]? = some fn) (hc : cFn P fn = some af) {ι : Inj} {h h' : Heap} {w : World} {r : Value}
    (hr : HR P ι h lo B w) (hB : B ≤ w.heap.size) (hlo : lo ≤ h.length) {args cargs : List Value} (hv : VRs ι args cargs)
    (H : awp Γ lo af.code (fun e s => (e = .normal ∨ e = .ret) ∧ Done h af.res r h' s) ⟨argσ args, h⟩) : Calls P f ⟨cargs⟩ w (Ends P ι h lo B w r h') := by
  unfold cFn at hc
  split at hc
  · rename_i c hb
    obtain ⟨x, hx, hc⟩ := Option.bind_eq_some_iff.1 hc
    obtain ⟨rs, hrs, rfl⟩ := Option.map_eq_some_iff.1 hc
    refine calls_of_wp hf hb ?_
    refine awp_sound hΓ c x hx _ _ ι _ _ w (start_SR hr hB hlo hv fn.ntmps) H ?_
    intro e s' a' w' ι' h1 h0 h2 h3 ⟨he, hd⟩
    have : a'.defers = [] ∧ ∃ v, (results fn a'.tmps).run P w' = .ok v w' ∧ Ends P ι h lo B w r h' (.returned v) w' := by
      rcases hd with ⟨k1, k2⟩ | ⟨r0, ks, k1, k2, k3, k4, k5, k6, k7⟩
      · obtain ⟨v', q1, q2⟩ := rres_run h2 hrs k1
        exact ⟨h2.defers, v', q2, v', ι', rfl, h1, q1, k2 ▸ h2.heap, h3⟩
      · obtain ⟨v', q1, q2⟩ := rres_run h2 hrs k1
        obtain ⟨ι'', g1, g2, g3⟩ := gc hr h1 h2.heap q1 ks k2 k3 k4 hlo k5 k6 k7
        exact ⟨h2.defers, v', q2, v', ι'', rfl, g1, g2, g3, h3⟩
    rcases he with rfl | rfl
    · exact this
    · exact this
  · cases hc

/-- A function that writes nothing that was there. -/
theorem ok_quiet (hΓ : OkΓ P Γ) {f : Nat} {fn : Func} {af : AF} (hf : P.funcs[f]? = some fn) (hcall : callable P f = true) (hc : cFn P fn = some af) {sp : Sp}
    (hfr : ∀ lo args h r h', sp lo args h = some (r, h') → Fr h.length h h')
    (H : ∀ lo args h r h', sp lo args h = some (r, h') → awp Γ h.length af.code (fun e s => (e = .normal ∨ e = .ret) ∧ Done h af.res r h' s) ⟨argσ args, h⟩) : Ok P f sp := by
  refine ⟨hcall, fun lo args h r h' hs hlo => (hfr lo args h r h' hs).mono hlo, ?_⟩
  intro lo B args h r h' ι w cargs hs hlo hr hB hv
  have hr' : HR P ι h h.length w.heap.size w := by
    refine ⟨hr.dom, hr.cell, ?_, ?_⟩
    · intro b e cs g hlb hb hg; have := (hr.dom b g hg).1; omega
    · intro b b' e cs e' cs' g g' _ hlb _ _ hg _; have := (hr.dom b g hg).1; omega
  refine (calls_of_awp hΓ hf hc hr' (Nat.le_refl _) (Nat.le_refl _) hv (H lo args h r h' hs)).mono ?_
  intro e w' ⟨r', ι', h1, h2, h3, h4, h5⟩
  obtain ⟨k1, k2⟩ := lift hr hB hlo (hfr lo args h r h' hs) h2 h4 h5
  exact ⟨r', ι', h1, h2, h3, k1, k2⟩

/-- A function that may write what was there from lo on. -/
theorem ok_writes (hΓ : OkΓ P Γ) {f : Nat} {fn : Func} {af : AF} (hf : P.funcs[f]? = some fn) (hcall : callable P f = true) (hc : cFn P fn = some af) {sp : Sp}
    (hfr : ∀ lo args h r h', sp lo args h = some (r, h') → lo ≤ h.length → Fr lo h h')
    (H : ∀ lo args h r h', sp lo args h = some (r, h') → lo ≤ h.length → awp Γ lo af.code (fun e s => (e = .normal ∨ e = .ret) ∧ Done h af.res r h' s) ⟨argσ args, h⟩) : Ok P f sp := by
  refine ⟨hcall, hfr, ?_⟩
  intro lo B args h r h' ι w cargs hs hlo hr hB hv
  exact calls_of_awp hΓ hf hc hr hB hlo hv (H lo args h r h' hs hlo)
end
end Go.AH
