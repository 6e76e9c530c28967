import Derived.Test.YtghpdclhhnbgjaaG9
set_option linter.unusedSimpArgs false
set_option linter.unusedVariables false
set_option maxRecDepth 100000
set_option maxHeartbeats 4000000
namespace Go.Proofs.Ytghpdclhhnbgjaa
open Go Go.AH
attribute [local irreducible] awpT ropsT qopsT stepT condKT gdKT EndT joinK loopKT seqKT blkKT kont kontR
/-! An agreement put among others -/

def partsL : List (Nat × List TB) → List TB
  | [] => []
  | (_, B) :: l => B ++ partsL l
def partsS : List (Nat × List TB) → List (Nat × Nat)
  | [] => []
  | (p, B) :: l => (p, B.length) :: partsS l
def partsAt (h : List TB) (ρ : Nat → Nat) : List (Nat × List TB) → Prop
  | [] => True
  | (p, B) :: l => (∃ C, h.drop p = B.map (renB ρ) ++ C) ∧ partsAt h ρ l
theorem partsL_len : ∀ l, (partsL l).length = segTot (partsS l)
  | [] => rfl
  | (p, B) :: l => by simp only [partsL, partsS, segTot, List.length_append, partsL_len l]
theorem parts_get {h : List TB} {ρ : Nat → Nat} {m : Nat} : ∀ {l : List (Nat × List TB)} {n : Nat}, partsAt h ρ l → (∀ b, ρ (n + b) = segR (partsS l) m b) → ∀ b e z es, (partsL l)[b]? = some (.cells e z es) → h[ρ (n + b)]? = some (.cells e z (renTs ρ es))
  | [], n, _, _, b, e, z, es, hb => by simp [partsL] at hb
  | (p, B) :: l, n, k, hρ, b, e, z, es, hb => by
    simp only [partsAt] at k
    simp only [partsS] at hρ
    simp only [partsL] at hb
    obtain ⟨⟨C, hC⟩, k2⟩ := k
    by_cases hc : b < B.length
    · rw [List.getElem?_append_left hc] at hb
      rw [hρ]; simp only [segR, if_pos hc]
      have := congrArg (fun l => l[b]?) hC
      simp only [List.getElem?_drop] at this
      rw [this, List.getElem?_append_left (by rw [List.length_map]; exact hc), List.getElem?_map, hb]; rfl
    · rw [List.getElem?_append_right (by omega)] at hb
      have h2 : ∀ b, ρ (n + B.length + b) = segR (partsS l) m b := fun b => by
        rw [Nat.add_assoc, hρ]; simp only [segR]; rw [if_neg (by omega), Nat.add_sub_cancel_left]
      have := parts_get k2 h2 _ _ _ _ hb
      rwa [show n + B.length + (b - B.length) = n + b by omega] at this
theorem le_parts (l : List (Nat × List TB)) {σ σ0 : Nat → TV} {h : List TB} (ok : segOk h.length (partsS l)) (hat : partsAt h (segR (partsS l) h.length) l) (hs : ∀ t, σ0 t = .any ∨ σ t = renT (segR (partsS l) h.length) (σ0 t)) : Le 0 ⟨σ, h⟩ ⟨σ0, partsL l⟩ :=
  le_seg (partsS l) ok (partsL_len l) hs fun b e z es hb => by
    have := parts_get (n := 0) hat (fun b => by rw [Nat.zero_add]) b e z es hb
    rwa [Nat.zero_add] at this
def putS (l : List SaR) (x : SaR) (p : Nat) : List SaR := l.take p ++ x :: l.drop p
theorem putS_ans (l : List SaR) (x : SaR) (p : Nat) (hp : p ≤ l.length) : ansR (goodC (sasC (putS l x p))) = (.agg [.p (.int .i64 0), .os 0 0 (l.length + 1)], [.cells 45 11 (tvRs 1 ((l.take p).map saC) ++ el (tvCs (1 + p) (saC x)) :: tvRs (2 + p) ((l.drop p).map saC))] ++ (bkRs 1 ((l.take p).map saC) ++ ([selB x.sels] ++ (bkRs (2 + p) ((l.drop p).map saC) ++ [])))) := by
  have e1 : (l.take p).length = p := by rw [List.length_take]; omega
  have e2 : (putS l x p).length = l.length + 1 := by simp only [putS, List.length_append, List.length_cons, List.length_take, List.length_drop]; omega
  have e3 : tvRs 1 ((putS l x p).map saC) = tvRs 1 ((l.take p).map saC) ++ el (tvCs (1 + p) (saC x)) :: tvRs (2 + p) ((l.drop p).map saC) := by
    simp only [putS, List.map_append, List.map_cons, tvRs_app, tvRs, saC_nbs, saC_nb, e1]
    rw [show 1 + p + 1 = 2 + p by omega]
  have e4 : bkRs 1 ((putS l x p).map saC) = bkRs 1 ((l.take p).map saC) ++ ([selB x.sels] ++ (bkRs (2 + p) ((l.drop p).map saC) ++ [])) := by
    simp only [putS, List.map_append, List.map_cons, bkRs_app, bkRs, saC_nbs, saC_nb, saC_bk, e1, List.append_nil]
    rw [show 1 + p + 1 = 2 + p by omega]
  simp only [ansR, goodC, sasC, tvCs, tvC_v, tvC_sl, bkCs, bkC, nbC, Nat.add_zero, Nat.zero_add, List.append_nil, List.nil_append, List.length_map, e2]
  rw [e3, e4]; simp only [List.append_nil]; rfl
theorem le_ins {σ : Nat → TV} {h : List TB} {l : List SaR} {x : SaR} {p : Nat} (F X Y1 Y2 : Nat) (hp : p ≤ l.length)
    (hF : h[F]? = some (.cells 45 11 (tvRs Y1 ((l.take p).map saC) ++ el (tvCs X (saC x)) :: tvRs Y2 ((l.drop p).map saC))))
    (h1 : ∃ C, h.drop Y1 = bkRs Y1 ((l.take p).map saC) ++ C) (hX : h[X]? = some (selB x.sels)) (h2 : ∃ C, h.drop Y2 = bkRs Y2 ((l.drop p).map saC) ++ C)
    (ok : segOk h.length [(F, 1), (Y1, p), (X, 1), (Y2, l.length - p)]) (hs : ∀ t, σ t = .agg [.p (.int .i64 0), .os F 0 (l.length + 1)]) : Le 0 ⟨σ, h⟩ ⟨fun _ => (ansR (goodC (sasC (putS l x p)))).1, (ansR (goodC (sasC (putS l x p)))).2⟩ := by
  rw [putS_ans l x p hp]
  have e1 : (l.take p).length = p := by rw [List.length_take]; omega
  have e2 : (l.drop p).length = l.length - p := List.length_drop
  have eS : partsS [(F, [TB.cells 45 11 (tvRs 1 ((l.take p).map saC) ++ el (tvCs (1 + p) (saC x)) :: tvRs (2 + p) ((l.drop p).map saC))]), (Y1, bkRs 1 ((l.take p).map saC)), (X, [selB x.sels]), (Y2, bkRs (2 + p) ((l.drop p).map saC))] = [(F, 1), (Y1, p), (X, 1), (Y2, l.length - p)] := by
    simp only [partsS, List.length_cons, List.length_nil, bkRs_len, saC_nbs, e1, e2, Nat.zero_add]
  have q0 : segR [(F, 1), (Y1, p), (X, 1), (Y2, l.length - p)] h.length 0 = F := by simp [segR]
  have q1 : ∀ i, i < nbRs ((l.take p).map saC) → segR [(F, 1), (Y1, p), (X, 1), (Y2, l.length - p)] h.length (1 + i) = Y1 + i := fun i hi => by
    rw [saC_nbs, e1] at hi
    simp only [segR]; rw [if_neg (by omega), if_pos (by omega)]; omega
  have q2 : ∀ i, i < nbCs (saC x) → segR [(F, 1), (Y1, p), (X, 1), (Y2, l.length - p)] h.length (1 + p + i) = X + i := fun i hi => by
    rw [saC_nb] at hi
    simp only [segR]; rw [if_neg (by omega), if_neg (by omega), if_pos (by omega)]; omega
  have q3 : ∀ i, i < nbRs ((l.drop p).map saC) → segR [(F, 1), (Y1, p), (X, 1), (Y2, l.length - p)] h.length (2 + p + i) = Y2 + i := fun i hi => by
    rw [saC_nbs, e2] at hi
    simp only [segR]; rw [if_neg (by omega), if_neg (by omega), if_neg (by omega), if_pos (by omega)]; omega
  generalize hρ : segR [(F, 1), (Y1, p), (X, 1), (Y2, l.length - p)] h.length = ρ at *
  have r1 : renTs ρ (tvRs 1 ((l.take p).map saC)) = tvRs Y1 ((l.take p).map saC) := ren_tvRs _ 1 Y1 q1
  have r2 : renT ρ (el (tvCs (1 + p) (saC x))) = el (tvCs X (saC x)) := by rw [ren_el, ren_tvCs _ _ _ q2]
  have r3 : renTs ρ (tvRs (2 + p) ((l.drop p).map saC)) = tvRs Y2 ((l.drop p).map saC) := ren_tvRs _ _ Y2 q3
  have b1 : (bkRs 1 ((l.take p).map saC)).map (renB ρ) = bkRs Y1 ((l.take p).map saC) := ren_bkRs _ 1 Y1 q1
  have b2 : renB ρ (selB x.sels) = selB x.sels := by
    have := ren_bkCs (saC x) (1 + p) X q2
    rw [saC_bk, saC_bk] at this; simpa using this
  have b3 : (bkRs (2 + p) ((l.drop p).map saC)).map (renB ρ) = bkRs Y2 ((l.drop p).map saC) := ren_bkRs _ _ Y2 q3
  have hd : ∀ {i : Nat} {b : TB}, h[i]? = some b → ∃ C, h.drop i = [b] ++ C := fun {i b} hi => by
    obtain ⟨hlt, e⟩ := List.getElem?_eq_some_iff.1 hi
    exact ⟨h.drop (i + 1), by rw [List.drop_eq_getElem_cons hlt, e]; rfl⟩
  refine le_parts [(F, [TB.cells 45 11 (tvRs 1 ((l.take p).map saC) ++ el (tvCs (1 + p) (saC x)) :: tvRs (2 + p) ((l.drop p).map saC))]), (Y1, bkRs 1 ((l.take p).map saC)), (X, [selB x.sels]), (Y2, bkRs (2 + p) ((l.drop p).map saC))] (by rw [eS]; exact ok) ?_ ?_
  · rw [eS, hρ]
    refine ⟨?_, ?_, ?_, ?_, trivial⟩
    · simp only [List.map_cons, List.map_nil, renB, renTs_append, renTs, r1, r2, r3]; exact hd hF
    · rw [b1]; exact h1
    · rw [List.map_cons, List.map_nil, b2]; exact hd hX
    · rw [b3]; exact h2
  · intro t
    rw [eS, hρ, hs t]
    right; simp only [renT, renTs, q0]
theorem sas_inj1 {a b : List SaR} (h : TV.s (rowsT saT a) = TV.s (rowsT saT b)) : a = b := sas_inj (by simpa using h)
theorem seg_at {S R : List TB} {n : Nat} (h : S.length = n) (k : Nat) : (S ++ R)[n + k]? = R[k]? := by rw [List.getElem?_append_right (by omega), h, Nat.add_sub_cancel_left]
theorem seg_at0 {S R : List TB} {n : Nat} (h : S.length = n) : (S ++ R)[n]? = R[0]? := by rw [List.getElem?_append_right (by omega), h, Nat.sub_self]
theorem endT_mk {res : List AR} {r tv : TV} {hL : THeap} {e : Exit} {s : TSt} (he : e = .normal ∨ e = .ret) (hr : rresT s res = some tv) (hl : Le 0 ⟨fun _ => tv, s.h⟩ ⟨fun _ => r, hL⟩) : EndT res r hL e s := by unfold EndT; exact ⟨he, .inl ⟨tv, hr, hl⟩⟩
/-! The place of a new one -/
def pA (l : List SaR) (s : Int) : Nat := l.findIdx (fun y => decide (s ≤ y.spi))
theorem pA_le (l : List SaR) (s : Int) : pA l s ≤ l.length := List.findIdx_le_length
theorem pA_lo {l : List SaR} {s : Int} {i : Nat} {y : SaR} (hy : l[i]? = some y) (h : i < pA l s) : y.spi < s := by
  have := List.not_of_lt_findIdx h
  rw [(List.getElem?_eq_some_iff.1 hy).2] at this
  simpa using this
theorem pA_at {l : List SaR} {s : Int} {y : SaR} (hy : l[pA l s]? = some y) : s ≤ y.spi := by
  obtain ⟨h, e⟩ := List.getElem?_eq_some_iff.1 hy
  have := List.findIdx_getElem (p := fun y : SaR => decide (s ≤ y.spi)) (xs := l) (w := h)
  have e' : l[l.findIdx fun y => decide (s ≤ y.spi)] = y := e
  rw [e'] at this; simpa using this
theorem asc_get {l : List SaR} (hp : l.Pairwise (fun x y => x.spi < y.spi)) {i j : Nat} {x y : SaR} (hx : l[i]? = some x) (hy : l[j]? = some y) (h : i < j) : x.spi < y.spi := by
  obtain ⟨h1, rfl⟩ := List.getElem?_eq_some_iff.1 hx
  obtain ⟨h2, rfl⟩ := List.getElem?_eq_some_iff.1 hy
  exact List.pairwise_iff_getElem.1 hp i j h1 h2 h
theorem pA_taken {l : List SaR} (hp : l.Pairwise (fun x y => x.spi < y.spi)) {s : Int} : (∃ y : SaR, l[pA l s]? = some y ∧ y.spi = s) ↔ ∃ (i : Nat) (y : SaR), l[i]? = some y ∧ y.spi = s := by
  constructor
  · rintro ⟨y, hy, e⟩; exact ⟨_, y, hy, e⟩
  · rintro ⟨i, y, hy, e⟩
    rcases Nat.lt_trichotomy i (pA l s) with h | h | h
    · have := pA_lo hy h; omega
    · subst h; exact ⟨y, hy, e⟩
    · have hi := (List.getElem?_eq_some_iff.1 hy).1
      obtain ⟨z, hz⟩ := get_ex (l := l) (i := pA l s) (by omega)
      have h1 := pA_at hz; have h2 := asc_get hp hz hy h
      omega
def addR (l : List SaR) (x : SaR) : List Cell := if sasF l = 0 then (if saF x = 0 then (match l.findIdx? (fun y => decide (y.spi = x.spi)) with
  | some _ => badC 7
  | none => if l.length ≥ 12 then badC 2 else goodC (sasC (putS l x (pA l x.spi)))) else badC (saF x)) else badC (sasF l)
noncomputable def add_S := specP (fun x : List SaR × SaR => [.s (rowsT saT x.1), saT x.2]) (fun x => (smallL x.1) ∧ (x.2.sels.length ≤ 1048576)) (fun x => ansR (addR x.1 x.2))
theorem add_at (l : List SaR) (x : SaR) (h : (smallL l) ∧ (x.sels.length ≤ 1048576)) : add_S [.s (rowsT saT l), saT x] = some (ansR (addR l x)) := specP_at (enc := fun x : List SaR × SaR => [.s (rowsT saT x.1), saT x.2]) (by rintro ⟨a0, a1⟩ ⟨b0, b1⟩ h; simp only [List.cons.injEq, and_true] at h; obtain ⟨h0, h1⟩ := h; obtain rfl := sas_inj1 h0; obtain rfl := saT_inj _ _ h1; rfl) (l, x) h
end Go.Proofs.Ytghpdclhhnbgjaa
