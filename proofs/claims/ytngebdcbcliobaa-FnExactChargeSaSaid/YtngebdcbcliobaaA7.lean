import Derived.Test.YtngebdcbcliobaaA6
namespace Go.AH
open Go.RowKit (Below)
section
variable {P : Program} {N : Nat} {ι : Inj} {h h' : Heap} {lo B : Nat} {w : World} {σ : Nat → Value} {a : Act} {v : Value}

theorem fine_cvBS (hr : HR P ι h lo B w) {s d e : TypeId} (hs : P.underlying s = some (.slice e)) (he : P.underlying e = some (.int .u8)) (hd : P.underlying d = some .string) {p p' : Value} (hp : VR ι p p')
    {cs : List Value} (hc : rdS h 1 p = some cs) {bs : List UInt8} (hb : cs.mapM u8of = some bs) :
    Fine P ι h lo B w (.string ⟨⟨bs⟩⟩) h ((do pure (.value (← convert s d p')) : Sem Next).run P w) := by
  refine ⟨.string ⟨⟨bs⟩⟩, w, ι, .inl ?_, Ag.refl _ _, .string _, hr, Below.refl _ _⟩
  rcases rdS_world hr hp hc with ⟨rfl, rfl, rfl⟩ | ⟨b, o, n, c, c', y, g, e', bs', rfl, rfl, hg, hb', h1, h2, h3, hl, hle, hcs, hone, cs', hv, hl', hcell⟩ | ⟨b, o, s', c, x, rfl, rfl, rfl⟩
  · simp at hb; subst hb
    simp [convert, run_underlying hs, run_underlying hd, run_underlying he, Conv.bytesToString]; rfl
  · have hload := run_loadCells_list (P := P) w y cs' hcell
    rw [hl', Nat.mul_one] at hload
    have hconv : (Conv.bytesToString (.slice (some y) n c')).run P w = .ok (.string ⟨⟨bs⟩⟩) w := by
      simp only [Conv.bytesToString, Sem.run_bind, hload, Result.andThen_ok]
      simp only [← Array.forIn_toList]
      rw [toStr_run (P := P) (w := w) _ (fun n r => rfl) cs cs' hv bs hb ByteArray.empty]
      have e0 : ByteArray.empty.data = (#[] : Array UInt8) := rfl
      simp [e0]
    simp [convert, run_underlying hs, run_underlying hd, run_underlying he, hconv]
  · simp at hb; subst hb
    simp [convert, run_underlying hs, run_underlying hd, run_underlying he, Conv.bytesToString, loadCells, loadCellsFrom]; rfl

theorem optI_eval {x : Option Operand} {y : Option Opd} (ht : TR N ι σ a.tmps) (hy : cOo N x = some y) {dft r : Int} (hr : optI (ev σ) dft y = some r) :
    (x = none ∧ r = dft) ∨ ∃ k, x.map a.eval = some (.int k r) := by
  cases x with
  | none => simp [cOo] at hy; subst hy; simp [optI] at hr; exact .inl ⟨rfl, hr.symm⟩
  | some x =>
    simp only [cOo] at hy
    obtain ⟨z, hz, rfl⟩ := Option.map_eq_some_iff.1 hy
    simp only [optI] at hr
    obtain ⟨k, hk⟩ := (cO_ev ht hz).getI hr
    exact .inr ⟨k, by simp [hk]⟩

theorem fine_sl (hr : HR P ι h lo B w) (ht : TR N ι σ a.tmps) {t e : TypeId} (hu : P.underlying t = some (.slice e)) (hk : known P e = true) (hz : 0 < P.cellsOf e)
    {p' : Value} {ad : Option Addr} {n c : Nat} (hp : VR ι (.slice ad n c) p') {lo' hi' : Option Operand} {lq hq : Option Opd} (hlo : cOo N lo' = some lq) (hhi : cOo N hi' = some hq)
    {l r : Int} (hl : optI (ev σ) 0 lq = some l) (hrr : optI (ev σ) n hq = some r) (h0 : 0 ≤ l) (h1 : l ≤ r) (h2 : r ≤ n) {v : Value}
    (hv : slOut (P.cellsOf e) l.toNat (r - l).toNat ad = some v) :
    Fine P ι h lo B w v h ((do pure (.value (← Instr.sliceAt t p' (lo'.map a.eval) (hi'.map a.eval) none)) : Sem Next).run P w) := by
  have hki : (P.info? e).isSome = true := by simp only [known, Bool.and_eq_true] at hk; exact hk.1
  -- what the world does, whatever the slice
  have run : ∀ (x : Option Addr) (cap : Nat), n ≤ cap → (Instr.sliceAt t (.slice x n cap) (lo'.map a.eval) (hi'.map a.eval) none).run P w =
      .ok (.slice (if cap = l.toNat then x else x.map (·.add (l.toNat * P.cellsOf e))) (r - l).toNat (cap - l.toNat)) w := by
    intro x cap hcap
    have hh : ((match hi'.map a.eval, (none : Option Value) with
        | some v, some _ => Instr.sliceBound v cap .slice3B
        | some v, none => Instr.sliceBound v cap .sliceAcap
        | none, none => pure n
        | none, some _ => stuck "Slice: max without high" : Sem Nat)).run P w = .ok r.toNat w := by
      rcases optI_eval (a := a) ht hhi hrr with ⟨rfl, rfl⟩ | ⟨k, hk'⟩
      · simp
      · rw [hk']; simp [run_sliceBound w k r cap .sliceAcap (by omega) (by omega)]
    have hl' : ((match lo'.map a.eval with
        | some v => Instr.sliceBound v r.toNat .sliceB
        | none => pure 0 : Sem Nat)).run P w = .ok l.toNat w := by
      rcases optI_eval (a := a) ht hlo hl with ⟨rfl, rfl⟩ | ⟨k, hk'⟩
      · simp
      · rw [hk']; simp [run_sliceBound w k l r.toNat .sliceB (by omega) (by omega)]
    have hb : (Instr.sliceBounds true n cap (lo'.map a.eval) (hi'.map a.eval) none).run P w = .ok (l.toNat, r.toNat, cap) w := by
      simp only [Instr.sliceBounds]
      rcases optI_eval (a := a) ht hhi hrr with ⟨rfl, rfl⟩ | ⟨k, hk'⟩ <;> rcases optI_eval (a := a) ht hlo hl with ⟨rfl, rfl⟩ | ⟨k2, hk2⟩
      · simp
      · simp [hk2, run_sliceBound w k2 l n .sliceB (by omega) (by omega)]
      · simp [hk', run_sliceBound w k r cap .sliceAcap (by omega) (by omega)]
      · simp [hk', hk2, run_sliceBound w k r cap .sliceAcap (by omega) (by omega), run_sliceBound w k2 l r.toNat .sliceB (by omega) (by omega)]
    simp only [Instr.sliceAt, Sem.run_bind, run_underlying hu, Result.andThen_ok, Instr.slice, hb, sizeOf_run hki]
    simp only [Sem.run_pure, Result.ok.injEq, Value.slice.injEq, and_true, true_and]
    omega
  cases hp with
  | nils =>
    simp [slOut] at hv; subst hv
    refine ⟨_, w, ι, .inl ?_, Ag.refl _ _, .nils, hr, Below.refl _ _⟩
    have := run none 0 (by omega)
    simp only [Sem.run_bind, this, Result.andThen_ok, Sem.run_pure]
    have e1 : l.toNat = 0 := by omega
    have e2 : (r - l).toNat = 0 := by omega
    simp [e1, e2]
  | sl hg hc hm hoff =>
    rename_i b off g cap'
    simp [slOut] at hv; subst hv
    have := run (some ⟨g.c, g.o + off, none⟩) cap' hc
    refine ⟨_, w, ι, .inl (by simp only [Sem.run_bind, this, Result.andThen_ok]; rfl), Ag.refl _ _, ?_, hr, Below.refl _ _⟩
    by_cases hcl : cap' = l.toNat
    · rw [if_pos hcl]
      have e2 : (r - l).toNat = 0 := by omega
      rw [e2, hcl, Nat.sub_self]
      exact .sl0 _ hg
    · rw [if_neg hcl]
      simp only [Option.map_some, Addr.add_lit]
      rw [show g.o + off + l.toNat * P.cellsOf e = g.o + (off + l.toNat * P.cellsOf e) by omega]
      refine .sl hg (by omega) (by omega) fun hz0 => ?_
      have hl0 : l.toNat = 0 := by
        rcases Nat.eq_zero_or_pos l.toNat with x | x
        · exact x
        · have := Nat.mul_pos x hz; omega
      rw [hl0]; simp only [Nat.sub_zero]; exact hoff (by omega)
  | emp x =>
    simp only [slOut] at hv
    split at hv
    · rename_i hz0
      cases hv
      have := run (some x) 0 (Nat.le_refl _)
      refine ⟨_, w, ι, .inl (by simp only [Sem.run_bind, this, Result.andThen_ok]; rfl), Ag.refl _ _, ?_, hr, Below.refl _ _⟩
      simp only [hz0.1, hz0.2, if_true, Nat.sub_self]
      exact .emp x
    · cases hv
  | sl0 x hg =>
    rename_i b off g
    simp [slOut] at hv; subst hv
    have := run (some x) 0 (Nat.le_refl _)
    refine ⟨_, w, ι, .inl (by simp only [Sem.run_bind, this, Result.andThen_ok]; rfl), Ag.refl _ _, ?_, hr, Below.refl _ _⟩
    have e1 : l.toNat = 0 := by omega
    have e2 : (r - l).toNat = 0 := by omega
    simp only [e1, e2, if_true, Nat.sub_self]
    exact .sl0 _ hg

theorem fine_slT (hr : HR P ι h lo B w) (ht : TR N ι σ a.tmps) {t : TypeId} (hu : P.underlying t = some .string) {s : ByteArray} {p' : Value} (hp : VR ι (.string s) p') {lo' hi' : Option Operand} {lq hq : Option Opd}
    (hlo : cOo N lo' = some lq) (hhi : cOo N hi' = some hq) {l r : Int} (hl : optI (ev σ) 0 lq = some l) (hrr : optI (ev σ) s.size hq = some r) (h0 : 0 ≤ l) (h1 : l ≤ r) (h2 : r ≤ s.size) :
    Fine P ι h lo B w (.string (s.extract l.toNat r.toNat)) h ((do pure (.value (← Instr.sliceAt t p' (lo'.map a.eval) (hi'.map a.eval) none)) : Sem Next).run P w) := by
  cases hp
  have hb : (Instr.sliceBounds false s.size s.size (lo'.map a.eval) (hi'.map a.eval) none).run P w = .ok (l.toNat, r.toNat, s.size) w := by
    simp only [Instr.sliceBounds]
    rcases optI_eval (a := a) ht hhi hrr with ⟨rfl, rfl⟩ | ⟨k, hk'⟩ <;> rcases optI_eval (a := a) ht hlo hl with ⟨rfl, rfl⟩ | ⟨k2, hk2⟩
    · simp
    · simp [hk2, run_sliceBound w k2 l s.size .sliceB (by omega) (by omega)]
    · simp [hk', run_sliceBound w k r s.size .sliceAlen (by omega) (by omega)]
    · simp [hk', hk2, run_sliceBound w k r s.size .sliceAlen (by omega) (by omega), run_sliceBound w k2 l r.toNat .sliceB (by omega) (by omega)]
  refine ⟨.string (s.extract l.toNat r.toNat), w, ι, .inl ?_, Ag.refl _ _, .string _, hr, Below.refl _ _⟩
  simp [Instr.sliceAt, run_underlying hu, Instr.slice, hb]

theorem fine_fa (hr : HR P ι h lo B w) {s : TypeId} {fs : Array Field} (hu : P.underlying s = some (.struct fs)) {f : Nat} {fd : Field} (hf : fs[f]? = some fd) (hk : known P fd.type = true) (hz : P.cellsOf fd.type ≠ 0)
    {p p' : Value} (hp : VR ι p p') {b o : Nat} (hpp : getP p = some (b, o)) :
    Fine P ι h lo B w (ptr b (o + fd.offset)) h ((do pure (.value (← Instr.fieldAt s p' f)) : Sem Next).run P w) := by
  obtain ⟨g, hg, rfl⟩ := hp.getP hpp
  have hki : (P.info? fd.type).isSome = true := by simp only [known, Bool.and_eq_true] at hk; exact hk.1
  refine ⟨.pointer (some ⟨g.c, g.o + (o + fd.offset), none⟩), w, ι, .inl ?_, Ag.refl _ _, .ptr hg, hr, Below.refl _ _⟩
  simp [Instr.fieldAt, run_underlying hu, hf, Instr.sureAddr, fieldPlace, sizeOf_run hki, hz, Addr.add_lit, Nat.add_assoc]

theorem fine_fld (hr : HR P ι h lo B w) {s : TypeId} {fs : Array Field} (hu : P.underlying s = some (.struct fs)) {f : Nat} {fd : Field} (hf : fs[f]? = some fd) (hk : known P fd.type = true) (hagg : aggT P fd.type = false)
    {cs : Array Value} {p' : Value} (hp : VR ι (.agg cs) p') (hv : cs.toList[fd.offset]? = some v) :
    Fine P ι h lo B w v h ((do pure (.value (← Instr.field s p' f)) : Sem Next).run P w) := by
  cases hp with
  | agg hc =>
    obtain ⟨v', hv', r⟩ := hc.get _ v hv
    refine ⟨v', w, ι, .inl ?_, Ag.refl _ _, r, hr, Below.refl _ _⟩
    simp [Instr.field, run_underlying hu, hf, asAgg, part, aggT_run hk, hagg, hv']

theorem fine_fldn (hr : HR P ι h lo B w) {s : TypeId} {fs : Array Field} (hu : P.underlying s = some (.struct fs)) {f : Nat} {fd : Field} (hf : fs[f]? = some fd) (hk : known P fd.type = true) (hagg : aggT P fd.type = true)
    {cs : Array Value} {p' : Value} (hp : VR ι (.agg cs) p') :
    Fine P ι h lo B w (.agg ⟨(cs.toList.drop fd.offset).take (P.cellsOf fd.type)⟩) h ((do pure (.value (← Instr.field s p' f)) : Sem Next).run P w) := by
  cases hp with
  | agg hc =>
    have hki : (P.info? fd.type).isSome = true := by simp only [known, Bool.and_eq_true] at hk; exact hk.1
    rename_i cs cs'
    refine ⟨.agg ⟨(cs'.drop fd.offset).take (P.cellsOf fd.type)⟩, w, ι, .inl ?_, Ag.refl _ _, .agg ((hc.drop _).take _), hr, Below.refl _ _⟩
    simp [Instr.field, run_underlying hu, hf, asAgg, part, aggT_run hk, hagg, sizeOf_run hki]

theorem fine_ia (hr : HR P ι h lo B w) {t e : TypeId} (hu : P.underlying t = some (.slice e)) (hk : known P e = true) {b o n c : Nat} {p' q q' : Value} (hp : VR ι (.slice (some ⟨b, o, none⟩) n c) p') (hq : VR ι q q') {i : Int}
    (hi : getI q = some i) (h0 : 0 ≤ i) (h1 : i < n) :
    Fine P ι h lo B w (ptr b (o + i.toNat * P.cellsOf e)) h ((do pure (.value (← Instr.indexAt t p' q')) : Sem Next).run P w) := by
  have hki : (P.info? e).isSome = true := by simp only [known, Bool.and_eq_true] at hk; exact hk.1
  obtain ⟨k, rfl⟩ := hq.getI hi
  cases hp with
  | sl hg hc hm hoff =>
    rename_i g cap'
    refine ⟨.pointer (some ⟨g.c, g.o + (o + i.toNat * P.cellsOf e), none⟩), w, ι, .inl ?_, Ag.refl _ _, .ptr hg, hr, Below.refl _ _⟩
    simp [Instr.indexAt, asIntOf, run_underlying hu, h0, h1, sizeOf_run hki, Addr.add_lit, Nat.add_assoc]
  | sl0 x hg => omega

theorem fine_ix (hr : HR P ι h lo B w) {t : TypeId} (hu : P.underlying t = some .string) {s : ByteArray} {p' q q' : Value} (hp : VR ι (.string s) p') (hq : VR ι q q') {i : Int} (hi : getI q = some i) (h0 : 0 ≤ i)
    {b : UInt8} (hb : s[i.toNat]? = some b) :
    Fine P ι h lo B w (.int .u8 b.toNat) h ((do pure (.value (← Instr.index t p' q')) : Sem Next).run P w) := by
  obtain ⟨k, rfl⟩ := hq.getI hi
  cases hp
  refine ⟨_, w, ι, .inl ?_, Ag.refl _ _, .int _ _, hr, Below.refl _ _⟩
  simp [Instr.index, asIntOf, run_underlying hu, h0, hb]

theorem fine_ext (hr : HR P ι h lo B w) {vs : Array Value} {p' : Value} (hp : VR ι (.tuple vs) p') {i : Nat} (hv : vs.toList[i]? = some v) :
    Fine P ι h lo B w v h ((do pure (.value (← Instr.extract p' i)) : Sem Next).run P w) := by
  cases hp with
  | tuple hc =>
    obtain ⟨v', hv', r⟩ := hc.get _ v hv
    refine ⟨v', w, ι, .inl ?_, Ag.refl _ _, r, hr, Below.refl _ _⟩
    simp [Instr.extract, hv']

end
end Go.AH
