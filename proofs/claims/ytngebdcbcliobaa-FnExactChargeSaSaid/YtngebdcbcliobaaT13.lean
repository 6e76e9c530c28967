import Derived.Test.YtngebdcbcliobaaT12
import Derived.ChangeArms
set_option linter.unusedVariables false
namespace Go.AH
open Go.RowKit (Below)
/-! From what a row is handed to trees -/
def conts (h : Heap) : Frz := fun c => match h[c]? with
  | some (.cells _ cs) => some cs
  | _ => none
theorem conts_mono (h L : Heap) (c : Nat) (cs : List Value) (hc : conts h c = some cs) : conts (h ++ L) c = some cs := by
  unfold conts at hc ⊢
  split at hc
  · rename_i e cs' he
    rw [List.getElem?_append_left (List.getElem?_eq_some_iff.1 he).1, he]; exact hc
  · cases hc
def elOf (P : Program) (e : TypeId) (cs : List TV) : TV := if aggT P e = true then .agg cs else el cs
def ShF (f : TypeId → List TV → Prop) : List Field → List TV → Prop
  | [], ts => ts = []
  | x :: r, ts => ∃ a b, ts = a ++ b ∧ f x.type a ∧ ShF f r b
/-- The shape of a value's tree, by its type. -/
def ShT (P : Program) : Nat → TypeId → List TV → Prop
  | 0, _, _ => False
  | d + 1, t, ts => match P.underlying t with
    | some .bool => ∃ b, ts = [.p (.bool b)]
    | some (.int k) => ∃ n, ts = [.p (.int k n)] ∧ (Lit.int k n).wf = true
    | some .string => ∃ s, ts = [.p (.string s)] ∧ s.size ≤ maxLen
    | some (.slice e) => ∃ es, ts = [.s es] ∧ es.length * P.bytesOf e ≤ 140737488351232 ∧ es.length ≤ maxLen ∧ ∀ x ∈ es, ∃ cs, x = elOf P e cs ∧ ShT P d e cs
    | some (.struct fs) => ShF (ShT P d) fs.toList ts
    | _ => False
/-- Types of which trees are made. -/
def okTy (P : Program) : Nat → TypeId → Bool
  | 0, _ => false
  | d + 1, t => match P.underlying t with
    | some .bool | some (.int _) | some .string => P.cellsOf t == 1
    | some (.slice e) => P.cellsOf t == 1 && decide (0 < P.cellsOf e) && okTy P d e
    | some (.struct fs) => offsOk P (P.cellsOf t) 0 fs.toList && fs.toList.all fun f => okTy P d f.type
    | _ => false

section
variable {H : Type} {enc : TypeId × Value → H} {P : Program} {W : World} {B : Nat}
theorem VFs.append {Φ : Frz} {a b : List TV} {a' b' : List Value} (h : VFs Φ a a') (k : VFs Φ b b') : VFs Φ (a ++ b) (a' ++ b') := by
  induction a generalizing a' with
  | nil => cases h; exact k
  | cons x a ih => cases h with | cons p q => exact .cons p (ih q)
theorem VFs.length {Φ : Frz} {a : List TV} {a' : List Value} (h : VFs Φ a a') : a.length = a'.length := (VTs.fz (φ := fun _ => none) h).length
theorem VFs.take {Φ : Frz} {a : List TV} {a' : List Value} (h : VFs Φ a a') (n : Nat) : VFs Φ (a.take n) (a'.take n) := by
  induction n generalizing a a' with
  | zero => simpa using VFs.nil
  | succ n ih => cases h with | nil => simpa using VFs.nil | cons p q => simpa using VFs.cons p (ih q)

theorem push_row {ι : Inj} {h : Heap} (hr : HR P ι h h.length B W) {e : TypeId} {blk off n : Nat} {as cs : List Value} (hb : blk < W.heap.size) (ho : as.all one = true) (hv : VRs ι as cs)
    (hc : ∀ (i : Nat) (v : Value), cs[i]? = some v → W.cell? ⟨blk, off + i, none⟩ = some v) :
    ∃ ι', Ext ι ι' ∧ ι' h.length = some ⟨blk, off, n, P.cellsOf e⟩ ∧ HR P ι' (h ++ [Blk.cells e as]) (h ++ [Blk.cells e as]).length B W := by
  have hd : ∀ b g, ι b = some g → b < h.length := fun b g hb => (hr.dom b g hb).1
  have hext := ext_new ι h.length ⟨blk, off, n, P.cellsOf e⟩ hd
  have hvac : ∀ (x : Blk) (b : Nat) (y : Blk), (h ++ [x]).length ≤ b → (h ++ [x])[b]? = some y → False := by
    intro x b y h1 h2
    have := (List.getElem?_eq_some_iff.1 h2).1
    omega
  refine ⟨fun b => if b = h.length then some ⟨blk, off, n, P.cellsOf e⟩ else ι b, hext, by simp, ⟨?_, ?_, ?_, ?_⟩⟩
  · intro b g hbb
    split at hbb
    · rename_i hbe; cases hbb; subst hbe; exact ⟨by simp, hb⟩
    · have := hr.dom b g hbb; exact ⟨by simp; omega, this.2⟩
  · intro b e' cs' g hbb hg
    split at hg
    · rename_i hbe; cases hg; subst hbe
      simp at hbb
      obtain ⟨rfl, rfl⟩ := hbb
      refine ⟨rfl, fun i v hi => ?_⟩
      obtain ⟨v', h1, h2⟩ := hv.get i v hi
      exact ⟨by rw [List.all_eq_true] at ho; exact ho v (List.mem_of_getElem? hi), v', hc i v' h1, h2.mono hext⟩
    · have h1 := hd b g hg
      rw [List.getElem?_append_left h1] at hbb
      obtain ⟨k1, k2⟩ := hr.cell b e' cs' g hbb hg
      refine ⟨k1, fun i v hi => ?_⟩
      obtain ⟨k3, v', k4, k5⟩ := k2 i v hi
      exact ⟨k3, v', k4, k5.mono hext⟩
  · intro b e' cs g h1 hb; exact (hvac _ _ _ h1 hb).elim
  · intro b b' e' cs e2 cs' g g' _ h1 hb; exact (hvac _ _ _ h1 hb).elim

/-- What the making of a tree for the cells of a value gives. -/
def Made (P : Program) (W : World) (B : Nat) (ι : Inj) (h : Heap) (cs : List Value) (Sh : List TV → Prop) : Prop :=
  ∃ (L : Heap) (ι' : Inj) (as : List Value) (ts : List TV), Ext ι ι' ∧ HR P ι' (h ++ L) (h ++ L).length B W ∧ VRs ι' as cs ∧ as.all one = true ∧ VFs (conts (h ++ L)) ts as ∧ Sh ts

theorem made_plain {ι : Inj} {h : Heap} (hr : HR P ι h h.length B W) {v : Value} {Sh : List TV → Prop} (hp : plainV v = true) (hs : Sh [.p v]) : Made P W B ι h [v] Sh :=
  ⟨[], ι, [v], [.p v], Ext.refl _, by simpa using hr, .cons (VR.plain hp) .nil, by simp [(plain_cells hp).2], .cons (.p hp) .nil, hs⟩

theorem weights_mem {e : TypeId} : ∀ {ds : List (DataW H)}, (DataW.weightsAll P e ds).all (· ≤ reachBytes) = true → ∀ d ∈ ds, (d.weights P e).all (· ≤ reachBytes) = true
  | [], _, d, hd => by cases hd
  | x :: r, h, d, hd => by
    simp only [DataW.weightsAll, List.all_append, Bool.and_eq_true] at h
    rcases List.mem_cons.1 hd with rfl | hd
    · exact h.1
    · exact weights_mem h.2 d hd

/-- One after the other. -/
theorem made_rows (e : TypeId) (d : Nat) (z : Nat) (ih : ∀ (fuel : Nat) (cs : List Value) (x : DataW H × List MemPlace) (ι : Inj) (h : Heap), DataW.trod enc P W 0 (fun _ => true) true fuel e cs = some x → (x.1.weights P e).all (· ≤ reachBytes) = true → HR P ι h h.length B W →
      Made P W B ι h cs (fun ts => ShT P d e ts ∧ ts.length = z ∧ (aggT P e = false → (ts.all oneT = true)))) :
    ∀ (ys : List (DataW H × List MemPlace)) (css : List (List Value)) (fuel : Nat) (ι : Inj) (h : Heap), css.length = ys.length → (∀ (i : Nat) (c : List Value) (y : DataW H × List MemPlace), css[i]? = some c → ys[i]? = some y → DataW.trod enc P W 0 (fun _ => true) true fuel e c = some y) →
      (∀ y ∈ ys, (y.1.weights P e).all (· ≤ reachBytes) = true) → HR P ι h h.length B W →
      ∃ (L : Heap) (ι' : Inj) (as : List Value) (tss : List (List TV)), Ext ι ι' ∧ HR P ι' (h ++ L) (h ++ L).length B W ∧ VRs ι' as css.flatten ∧ as.all one = true ∧ VFs (conts (h ++ L)) tss.flatten as ∧ tss.length = ys.length ∧ ∀ ts ∈ tss, ShT P d e ts ∧ ts.length = z ∧ (aggT P e = false → ts.all oneT = true)
  | [], css, fuel, ι, h, hl, _, _, hr => by
    have : css = [] := List.eq_nil_of_length_eq_zero hl
    subst this
    exact ⟨[], ι, [], [], Ext.refl _, by simpa using hr, .nil, rfl, .nil, rfl, by simp⟩
  | y :: ys, css, fuel, ι, h, hl, ht, hw, hr => by
    cases css with
    | nil => simp at hl
    | cons c css =>
      obtain ⟨L1, ι1, as1, ts1, e1, r1, v1, o1, f1, s1⟩ := ih fuel c y ι h (ht 0 c y rfl rfl) (hw y (by simp)) hr
      obtain ⟨L2, ι2, as2, tss2, e2, r2, v2, o2, f2, l2, s2⟩ := made_rows e d z ih ys css fuel ι1 (h ++ L1) (by simpa using hl) (fun i c' y' h1 h2 => ht (i + 1) c' y' (by simpa using h1) (by simpa using h2)) (fun y' hy => hw y' (by simp [hy])) r1
      refine ⟨L1 ++ L2, ι2, as1 ++ as2, ts1 :: tss2, e1.trans e2, by rw [← List.append_assoc]; exact r2, ?_, by simp [o1, o2], ?_, by simp [l2], ?_⟩
      · rw [List.flatten_cons]; exact (v1.mono e2).append v2
      · rw [List.flatten_cons, ← List.append_assoc]
        exact VFs.append (f1.mono (fun c' cs' hh => conts_mono _ _ _ _ hh)) f2
      · intro ts hts
        rcases List.mem_cons.1 hts with rfl | hts
        · exact s1
        · exact s2 ts hts

theorem flat_els {e : TypeId} {z : Nat} : ∀ {tss : List (List TV)}, (∀ ts ∈ tss, ts.length = z ∧ (aggT P e = false → ts.all oneT = true)) → flatT (tss.map (elOf P e)) = tss.flatten ∧ sizedT z (tss.map (elOf P e)) = true
  | [], _ => ⟨rfl, rfl⟩
  | ts :: tss, h => by
    obtain ⟨h1, h2⟩ := flat_els (fun x hx => h x (by simp [hx]) : ∀ ts ∈ tss, ts.length = z ∧ (aggT P e = false → ts.all oneT = true))
    have hc : cellsT (elOf P e ts) = ts := by
      unfold elOf
      split
      · rfl
      · rename_i ha; exact el_cells ((h ts (by simp)).2 (by simpa using ha))
    refine ⟨by rw [List.map_cons, flat_cons, hc, h1, List.flatten_cons], ?_⟩
    simp only [sizedT, List.map_cons, List.all_cons, hc, (h ts (by simp)).1, beq_self_eq_true, Bool.true_and] at h2 ⊢
    exact h2

theorem add_add (x : Addr) (i j : Nat) (hs : x.spot = none) : (x.add i).add j = x.add (i + j) := by
  obtain ⟨b, o, s⟩ := x
  simp only at hs; subst hs
  simp [Addr.add_lit, Nat.add_assoc]
theorem made_of : ∀ (d : Nat) (t : TypeId) (fuel : Nat) (cs : List Value) (x : DataW H × List MemPlace) (ι : Inj) (h : Heap), okTy P d t = true → DataW.trod enc P W 0 (fun _ => true) true fuel t cs = some x →
    (x.1.weights P t).all (· ≤ reachBytes) = true → HR P ι h h.length B W → Made P W B ι h cs (fun ts => ShT P d t ts ∧ ts.length = P.cellsOf t ∧ (aggT P t = false → ts.all oneT = true))
  | 0, _, _, _, _, _, _, hk, _, _, _ => by cases hk
  | d + 1, t, fuel, cs, x, ι, h, hk, ht, hw, hr => by
    simp only [okTy] at hk
    split at hk
    · rename_i hu
      obtain ⟨b, rfl, rfl⟩ := DataW.trod_bool hu ht
      simp only [beq_iff_eq] at hk
      exact made_plain hr rfl ⟨by simp only [ShT, hu]; exact ⟨b, rfl⟩, by simp [hk], fun _ => rfl⟩
    · rename_i k hu
      obtain ⟨n, rfl, rfl, hwf⟩ := DataW.trod_int hu ht
      simp only [beq_iff_eq] at hk
      exact made_plain hr rfl ⟨by simp only [ShT, hu]; exact ⟨n, rfl, hwf⟩, by simp [hk], fun _ => rfl⟩
    · rename_i hu
      obtain ⟨s, rfl, rfl, hs⟩ := DataW.trod_string hu ht
      simp only [beq_iff_eq] at hk
      exact made_plain hr rfl ⟨by simp only [ShT, hu]; exact ⟨s, rfl, hs⟩, by simp [hk], fun _ => rfl⟩
    · rename_i e hu
      simp only [Bool.and_eq_true, beq_iff_eq, decide_eq_true_eq] at hk
      obtain ⟨⟨hc1, hpos⟩, hke⟩ := hk
      rcases DataW.trod_slice hu ht with ⟨rfl, rfl⟩ | ⟨a, len, cap, elems, rest, n, _, rfl, rfl, hb, hl, hm, hlen, hel, hsp, _⟩
      · exact ⟨[], ι, [.slice none 0 0], [.s []], Ext.refl _, by simpa using hr, .cons .nils .nil, rfl, .cons .s0 .nil,
          by simp only [ShT, hu]; exact ⟨[], rfl, by simp, by simp, by simp⟩, by simp [hc1], fun _ => rfl⟩
      · obtain ⟨hrl, hrest⟩ := hsp rfl
        simp only [DataW.weights, hu, List.all_cons, Bool.and_eq_true, List.all_append, decide_eq_true_eq, List.length_map] at hw
        obtain ⟨hw1, hw2, hw3⟩ := hw
        have hbytes : len * P.bytesOf e ≤ 140737488351232 := by
          have : len * P.bytesOf e ≤ (elems.length + rest.length) * P.bytesOf e := Nat.mul_le_mul_right _ (by omega)
          have h2 : reachBytes = 140737488351232 := rfl
          omega
        by_cases hcap : cap = 0
        · obtain rfl : len = 0 := by omega
          subst hcap
          exact ⟨[], ι, [emptyV], [.s []], Ext.refl _, by simpa using hr, .cons (.emp a) .nil, rfl, .cons (.s1 _ _ _ _) .nil,
            by simp only [ShT, hu]; exact ⟨[], rfl, by simp, by simp, by simp⟩, by simp [hc1], fun _ => rfl⟩
        · -- all elements, the spare ones too
          let ys := elems ++ rest
          have hyl : ys.length = cap := by simp [ys]; omega
          have hat : ∀ i, i < cap → (W.cells? 0 (a.add (i * P.cellsOf e)) (P.cellsOf e)).bind (DataW.trod enc P W 0 (fun _ => true) true n e) = ys[i]? := by
            intro i hi
            by_cases hlt : i < len
            · rw [hel i hlt, List.getElem?_append_left (by omega)]
            · have := hrest (i - len) (by omega)
              rw [show len + (i - len) = i by omega] at this
              rw [this, List.getElem?_append_right (by omega), hlen]
          have hex : ∀ i, i < cap → ∃ c, W.cells? 0 (a.add (i * P.cellsOf e)) (P.cellsOf e) = some c ∧ ∃ y, ys[i]? = some y ∧ DataW.trod enc P W 0 (fun _ => true) true n e c = some y := by
            intro i hi
            have h1 := hat i hi
            have h2 : ys[i]? = some ys[i] := by simp [hyl, hi]
            rw [h2] at h1
            obtain ⟨c, hc, hy⟩ := Option.bind_eq_some_iff.1 h1
            exact ⟨c, hc, _, h2, hy⟩
          let cf : Nat → List Value := fun i => if hi : i < cap then (hex i hi).choose else []
          have hcf : ∀ i (hi : i < cap), W.cells? 0 (a.add (i * P.cellsOf e)) (P.cellsOf e) = some (cf i) ∧ ∃ y, ys[i]? = some y ∧ DataW.trod enc P W 0 (fun _ => true) true n e (cf i) = some y := by
            intro i hi
            simp only [cf, hi, dite_true]; exact (hex i hi).choose_spec
          let css := (List.range cap).map cf
          have hcss : ∀ i c, css[i]? = some c → i < cap ∧ c = cf i := by
            intro i c hc
            have hi : i < cap := by have := (List.getElem?_eq_some_iff.1 hc).1; simpa [css] using this
            simp only [css, List.getElem?_map, List.getElem?_range hi, Option.map_some, Option.some.injEq] at hc
            exact ⟨hi, hc.symm⟩
          have hwy : ∀ y ∈ ys, (y.1.weights P e).all (· ≤ reachBytes) = true := by
            intro y hy
            rcases List.mem_append.1 hy with hy | hy
            · exact weights_mem hw2 y.1 (List.mem_map_of_mem hy)
            · exact weights_mem hw3 y.1 (List.mem_map_of_mem hy)
          obtain ⟨L, ι', as, tss, e1, r1, v1, o1, f1, l1, s1⟩ := made_rows (enc := enc) e d (P.cellsOf e) (fun fuel cs x ι h a b c => made_of d e fuel cs x ι h hke a b c) ys css n ι h (by simp [css, hyl])
            (fun i c y hc hy => by
              obtain ⟨hi, rfl⟩ := hcss i c hc
              obtain ⟨_, y', hy', ht'⟩ := hcf i hi
              rw [hy] at hy'; cases hy'; exact ht') hwy hr
          -- where they lie
          have hclen : ∀ i, i < cap → (cf i).length = P.cellsOf e := fun i hi => (World.cells?_some (hcf i hi).1).2.1
          have hspot : a.spot = none := by
            have h0 := (World.cells?_some (hcf 0 (by omega)).1).2.2 0 hpos
            have h1 : (cf 0)[0]? = some ((cf 0)[0]'(by rw [hclen 0 (by omega)]; exact hpos)) := by simp
            rw [h1] at h0
            obtain ⟨ab, ao, asp⟩ := a
            cases asp with
            | none => rfl
            | some s => simp [World.cell?, Addr.add] at h0; split at h0 <;> simp at h0
          obtain ⟨ab, ao, asp⟩ := a
          simp only at hspot; subst hspot
          have hcell : ∀ (i : Nat) (v : Value), css.flatten[i]? = some v → W.cell? ⟨ab, ao + i, none⟩ = some v := by
            have key : ∀ (m : Nat), m ≤ cap → ∀ (i : Nat) (v : Value), (((List.range m).map cf).flatten)[i]? = some v → W.cell? ⟨ab, ao + i, none⟩ = some v := by
              intro m
              induction m with
              | zero => intro _ i v hv; simp at hv
              | succ m ih =>
                intro hm' i v hv
                have hfl : (((List.range m).map cf).flatten).length = m * P.cellsOf e := by
                  rw [List.length_flatten, List.map_map]
                  have : ∀ (l : List Nat), (∀ x ∈ l, x < cap) → (l.map (List.length ∘ cf)).sum = l.length * P.cellsOf e := by
                    intro l
                    induction l with
                    | nil => intro _; simp
                    | cons x l ihl => intro hx; simp only [List.map_cons, List.sum_cons, Function.comp, List.length_cons, Nat.add_mul]; rw [hclen x (hx x (by simp)), ← ihl (fun y hy => hx y (by simp [hy]))]; first | omega | (simp only [Function.comp_def]; omega)
                  rw [this _ (fun x hx => by have := List.mem_range.1 hx; omega)]; simp
                rw [List.range_succ, List.map_append, List.flatten_append] at hv
                by_cases hi : i < m * P.cellsOf e
                · rw [List.getElem?_append_left (by omega)] at hv; exact ih (by omega) i v hv
                · rw [List.getElem?_append_right (by omega), hfl] at hv
                  simp only [List.map_cons, List.map_nil, List.flatten_cons, List.flatten_nil, List.append_nil] at hv
                  have hj : i - m * P.cellsOf e < P.cellsOf e := by have := (List.getElem?_eq_some_iff.1 hv).1; rw [hclen m (by omega)] at this; exact this
                  have := (World.cells?_some (hcf m (by omega)).1).2.2 (i - m * P.cellsOf e) hj
                  rw [hv] at this
                  rw [← this]
                  simp only [Addr.add_lit]
                  congr 2; omega
            exact key cap (Nat.le_refl _)
          have hfull : css.flatten.length = cap * P.cellsOf e := by
            have h1 := f1.length
            have h2 := v1.length
            have h3 : tss.flatten.length = cap * P.cellsOf e := by
              have : ∀ (l : List (List TV)), (∀ ts ∈ l, ts.length = P.cellsOf e) → l.flatten.length = l.length * P.cellsOf e := by
                intro l
                induction l with
                | nil => intro _; simp
                | cons x l ihl => intro hx; rw [List.flatten_cons, List.length_append, hx x (by simp), ihl (fun y hy => hx y (by simp [hy])), List.length_cons, Nat.add_mul]; omega
              rw [this tss (fun ts hts => (s1 ts hts).2.1), l1, hyl]
            omega
          have hblk : ab < W.heap.size := by
            have hp : 0 < css.flatten.length := by rw [hfull]; exact Nat.mul_pos (by omega) hpos
            have := hcell 0 css.flatten[0] (by simp)
            exact World.block_lt_of_cell? W _ this
          obtain ⟨ι2, e2, k2, r2⟩ := push_row (n := cap * P.cellsOf e) r1 (e := e) hblk o1 v1 hcell
          obtain ⟨g1, g2⟩ := flat_els (P := P) (e := e) (z := P.cellsOf e) (fun ts hts => (s1 ts hts).2)
          have hcont : conts (h ++ (L ++ [Blk.cells e as])) (h ++ L).length = some as := by
            unfold conts; rw [← List.append_assoc, List.getElem?_append_right (Nat.le_refl _)]; simp
          refine ⟨L ++ [.cells e as], ι2, [.slice (some ⟨(h ++ L).length, 0, none⟩) len cap], [.s ((tss.map (elOf P e)).take len)], e1.trans e2, by rw [← List.append_assoc]; exact r2, ?_, rfl, ?_, ?_, by simp [hc1], fun _ => rfl⟩
          · refine .cons ?_ .nil
            have := VR.sl (ι := ι2) (off := 0) (len := len) (cap := cap) (cap' := cap) k2 hl hm (fun _ => rfl)
            simpa using this
          · refine .cons ?_ .nil
            have htl : ((tss.map (elOf P e)).take len).length = len := by simp; omega
            have hasl : as.length = cap * P.cellsOf e := by rw [v1.length]; exact hfull
            have hle : len * P.cellsOf e ≤ cap * P.cellsOf e := Nat.mul_le_mul_right _ hl
            have f2 := f1.mono (Φ' := conts (h ++ (L ++ [Blk.cells e as]))) (fun c' cs' hh => by rw [← List.append_assoc]; exact conts_mono _ _ _ _ hh)
            have := VF.s (Φ := conts (h ++ (L ++ [Blk.cells e as]))) (es := (tss.map (elOf P e)).take len) (off := 0) (cap := cap) (z := P.cellsOf e) hcont (by rw [htl]; omega) (sized_take g2 _)
              (by rw [htl, flat_take g2, g1, List.drop_zero]; exact f2.take _)
            rw [htl] at this; exact this
          · simp only [ShT, hu]
            refine ⟨_, rfl, by simp; rw [Nat.min_eq_left (by omega)]; exact hbytes, by simp; omega, fun x hx => ?_⟩
            obtain ⟨ts, hts, rfl⟩ := List.mem_map.1 (List.mem_of_mem_take hx)
            exact ⟨ts, rfl, (s1 ts hts).1⟩
    · rename_i fs hu
      simp only [Bool.and_eq_true] at hk
      obtain ⟨hoff, hks⟩ := hk
      obtain ⟨xs, n, _, rfl, hl, hlen, hf⟩ := DataW.trod_struct hu ht
      simp only [DataW.weights, hu] at hw
      have hagg : aggT P t = true := by simp [aggT, hu]
      -- field by field
      have key : ∀ (l : List Field) (xs : List (DataW H × List MemPlace)) (o : Nat) (ι : Inj) (h : Heap), offsOk P (P.cellsOf t) o l = true → l.all (fun f => okTy P d f.type) = true → xs.length = l.length →
          (∀ (i : Nat) (f : Field), l[i]? = some f → DataW.trod enc P W 0 (fun _ => true) true n f.type ((cs.drop f.offset).take (P.cellsOf f.type)) = xs[i]?) →
          (DataW.weightsEach P (l.map (·.type)) (xs.map (·.1))).all (· ≤ reachBytes) = true → HR P ι h h.length B W → o ≤ cs.length → Made P W B ι h (cs.drop o) (fun ts => ShF (ShT P d) l ts ∧ o + ts.length = P.cellsOf t) := by
        intro l
        induction l with
        | nil =>
          intro xs o ι h h0 _ hx _ _ hr ho
          simp only [offsOk, beq_iff_eq] at h0
          have : cs.drop o = [] := List.drop_eq_nil_of_le (by omega)
          rw [this]
          exact ⟨[], ι, [], [], Ext.refl _, by simpa using hr, .nil, rfl, .nil, rfl, by simp [h0]⟩
        | cons f l ihl =>
          intro xs o ι h h0 hks hx hf hw hr ho
          simp only [offsOk, Bool.and_eq_true, beq_iff_eq] at h0
          simp only [List.all_cons, Bool.and_eq_true] at hks
          cases xs with
          | nil => simp at hx
          | cons x xs =>
            obtain ⟨hfo, h0⟩ := h0
            have hx0 := hf 0 f rfl
            simp only [List.getElem?_cons_zero, hfo] at hx0
            simp only [List.map_cons, DataW.weightsEach, List.all_append, Bool.and_eq_true] at hw
            obtain ⟨L1, ι1, as1, ts1, e1, r1, v1, o1, f1, s1, s2, s3⟩ := made_of d f.type n _ x ι h hks.1 hx0 hw.1 hr
            have hcl : ((cs.drop o).take (P.cellsOf f.type)).length = P.cellsOf f.type := by rw [← v1.length, ← f1.length, s2]
            have hle : o + P.cellsOf f.type ≤ cs.length := by simp only [List.length_take, List.length_drop] at hcl; omega
            obtain ⟨L2, ι2, as2, ts2, e2, r2, v2, o2, f2, s4, s5⟩ := ihl xs (o + P.cellsOf f.type) ι1 (h ++ L1) h0 hks.2 (by simpa using hx) (fun i g hg => by have := hf (i + 1) g (by simpa using hg); simpa using this) hw.2 r1 hle
            refine ⟨L1 ++ L2, ι2, as1 ++ as2, ts1 ++ ts2, e1.trans e2, by rw [← List.append_assoc]; exact r2, ?_, by simp [o1, o2], ?_, ⟨ts1, ts2, rfl, s1, s4⟩, by rw [List.length_append]; omega⟩
            · have : cs.drop o = (cs.drop o).take (P.cellsOf f.type) ++ cs.drop (o + P.cellsOf f.type) := by
                rw [← List.drop_drop, List.take_append_drop]
              rw [this]; exact (v1.mono e2).append v2
            · rw [← List.append_assoc]
              exact VFs.append (f1.mono (fun c' cs' hh => conts_mono _ _ _ _ hh)) f2
      obtain ⟨L, ι', as, ts, e1, r1, v1, o1, f1, s1, s2⟩ := key fs.toList xs 0 ι h hoff hks (by simpa using hlen) (fun i f hfi => hf i f (by simpa using hfi)) hw hr (Nat.zero_le _)
      exact ⟨L, ι', as, ts, e1, r1, by simpa using v1, o1, f1, by simp only [ShT, hu]; exact s1, by omega, fun ha => by rw [hagg] at ha; cases ha⟩
    · cases hk
end
end Go.AH
