import Derived.Test.YtghpdclhhnbgjaaGreatD3
set_option linter.unusedSimpArgs false
set_option linter.unusedVariables false
set_option maxRecDepth 100000
set_option maxHeartbeats 4000000
namespace Go.Proofs.YtghpdclhhnbgjaaGreat
open Go Go.AH
attribute [local irreducible] awpT ropsT qopsT stepT condKT gdKT EndT joinK loopKT seqKT blkKT kont kontR
/-! The first that is asked for -/
def idxV : Option Nat → Int
  | some i => i
  | none => -1
theorem find_some {α : Type} {l : List α} {p : α → Bool} {i : Nat} {x : α} (hx : l[i]? = some x) (hp : p x = true) (hn : ∀ j y, j < i → l[j]? = some y → p y = false) : l.findIdx? p = some i := by
  have hlt := (List.getElem?_eq_some_iff.1 hx).1
  rw [List.findIdx?_eq_some_iff_getElem]
  refine ⟨hlt, by rw [(List.getElem?_eq_some_iff.1 hx).2]; exact hp, fun j hj => ?_⟩
  rw [hn j (l[j]'(by omega)) hj (by simp)]; simp
theorem find_none {α : Type} {l : List α} {p : α → Bool} (hn : ∀ j y, j < l.length → l[j]? = some y → p y = false) : l.findIdx? p = none := by
  rw [List.findIdx?_eq_none_iff]
  intro x hx
  obtain ⟨j, hj⟩ := List.getElem?_of_mem hx
  exact hn j x (List.getElem?_eq_some_iff.1 hj).1 hj
theorem none_snoc {α : Type} {l : List α} {p : α → Bool} {i : Nat} {x : α} (hx : l[i]? = some x) (hp : p x = false) (hn : ∀ j y, j < i → l[j]? = some y → p y = false) : ∀ j y, j < i + 1 → l[j]? = some y → p y = false := by
  intro j y hj hy
  by_cases e : j = i
  · subst e; rw [hx] at hy; cases hy; exact hp
  · exact hn j y (by omega) hy
noncomputable def spiI_S := specP (fun x : List SaR × Int => [.s (rowsT saT x.1), .p (.int .i64 x.2)]) (fun x => x.1.length ≤ 140737488355328) (fun x => (.p (.int .i64 (idxV (x.1.findIdx? (fun y => decide (y.spi = x.2))))), []))
theorem spiI_at (l : List SaR) (s : Int) (h : l.length ≤ 140737488355328) : spiI_S [.s (rowsT saT l), .p (.int .i64 s)] = some (.p (.int .i64 (idxV (l.findIdx? (fun y => decide (y.spi = s))))), []) :=
  specP_at (enc := fun x : List SaR × Int => [.s (rowsT saT x.1), .p (.int .i64 x.2)]) (by rintro ⟨a, b⟩ ⟨a', b'⟩ h; simp at h; simp [sas_inj h.1, h.2]) (l, s) h
/-- The library's search, whatever function is handed to it. -/
noncomputable def find_S {β : Type} (f : Nat) (cap : β → List TV) (p : β → SaR → Bool) := specP (fun x : List SaR × β => [.s (rowsT saT x.1), .fn f (cap x.2)]) (fun x => x.1.length ≤ 140737488355328) (fun x => (.p (.int .i64 (idxV (x.1.findIdx? (p x.2)))), []))
noncomputable def asks_S {β : Type} (cap : β → List TV) (p : β → SaR → Bool) := specP (fun x : SaR × β => saT x.1 :: cap x.2) (fun _ => True) (fun x => (.p (.bool (p x.2 x.1)), []))
-- slices.IndexFunc[[]impl.Sa,impl.Sa]
def c170 : AF := ⟨19,
 (.seq (.reg [rO 4 (.mv (.v (.int .i64 0)))])
 (.seq (.seq (.reg [rO 6 (.mv (.t 0)),
 rO 7 (.len (.t 6)),
 rO 8 (.mv (.v (.int .i64 0)))])
 (.block 0 (.loop (.seq (.reg [rO 9 (.bin .lss (.t 8) (.t 7))])
 (.seq (.cond (.t 9) .skip
 (.exit 0))
 (.seq (.block 1 (.seq (.reg [rO 10 (.mv (.t 8)),
 rO 5 (.mv (.t 10))])
 (.seq (.reg [rO 11 (.mv (.t 1)),
 rO 12 (.mv (.t 0)),
 rO 13 (.mv (.t 5)),
 rO 14 (.ia 11 (.t 12) (.t 13)),
 rO 15 (.ldn 11 (.t 14)),
 rO 16 (.callv (.t 11) [(.t 15)])])
 (.cond (.t 16) (.seq (.reg [rO 17 (.mv (.t 5)),
 rO 4 (.mv (.t 17))])
 .ret)
 .skip))))
 (.reg [rO 18 (.bin .add (.t 8) (.v (.int .i64 1))),
 rO 8 (.mv (.t 18))])))))))
 (.seq (.reg [rO 4 (.mv (.v (.int .i64 (-1))))])
 .ret))),
 [.t 4]⟩
theorem k170 : cFn Tryz.prog Tryz.f170 = some c170 := by kernel_rfl
theorem find_ok {β : Type} {f : Nat} {cap : β → List TV} {p : β → SaR → Bool} (hcap : ∀ x y, cap x = cap y → x = y) (hfr : ∀ h n x, (cap x).map (frzT h n) = cap x) (ok : OkT Tryz.prog f (pureSp (asks_S cap p))) : OkT Tryz.prog 170 (pureSp (find_S f cap p)) := by
  have hat : ∀ (x : SaR) (b : β), asks_S cap p (saT x :: cap b) = some (.p (.bool (p b x)), []) := fun x b =>
    specP_at (enc := fun x : SaR × β => saT x.1 :: cap x.2) (by rintro ⟨a, b⟩ ⟨a', b'⟩ h; simp at h; simp [saT_inj _ _ h.1, hcap _ _ h.2]) (x, b) trivial
  refine okT_fn (OkΓT.cons ok (OkΓT.nil _)) Tryz.func170 (by kernel_rfl) k170 (fun x _ => ⟨rfl, rfl⟩) ?_
  rintro ⟨l, b⟩ hl
  dsimp only at *
  (dsimp only [c170, rO]; simp (maxSteps := 8000000) -implicitDefEqProofs (disch := omega) only [↓reduceIte, go_sem])
  refine awpT_loop (α := Nat) (fun i => ⟨slots [(0, .s (rowsT saT l)), (1, .fn f (cap b)), (7, .p (.int .i64 l.length)), (8, .p (.int .i64 i))], []⟩) (fun i => i ≤ l.length ∧ ∀ j y, j < i → l[j]? = some y → p b y = false) (fun i => l.length - i) 0 ⟨by omega, fun j y hj => absurd hj (by omega)⟩ (le_keep (Nat.zero_le _) (by simp (maxSteps := 8000000) -implicitDefEqProofs (disch := omega) only [↓reduceIte, go_sem, slotsIn])) ?_
  intro i ⟨hi, hn⟩
  simp (maxSteps := 8000000) -implicitDefEqProofs (disch := omega) only [↓reduceIte, go_sem]
  refine condKT_dec (fun hlt => ?_) (fun hge => ?_)
  · obtain ⟨x, hx⟩ := get_ex (l := l) (i := i) (by omega)
    have hx2 := hat x b
    simp only [saT] at hx2
    by_cases hs : p b x = true
    · rw [find_some hx hs hn]
      dsimp only [idxV]
      simp (maxSteps := 8000000) -implicitDefEqProofs (disch := omega) only [↓reduceIte, go_sem, hx, saT, eq_true hlt, hfr, hx2, hs]
      repeat' first
        | ((first | refine gdKT_deq (fun hg hG => ?_) (fun hg hG => ?_) | refine condKT_deq (fun hg hG => ?_) (fun hg hG => ?_)) <;> (try simp (maxSteps := 8000000) -implicitDefEqProofs (disch := omega) only [↓reduceIte, go_sem, hG, hx, saT, eq_true hlt, hfr, hx2, hs]) <;> clear hG)
        | ((first | refine gdKT_split (fun hg => ?_) (fun hg => ?_) | refine condKT_split (fun hg => ?_) (fun hg => ?_)) <;> (try simp (maxSteps := 8000000) -implicitDefEqProofs (disch := omega) only [↓reduceIte, go_sem, hg, hx, saT, eq_true hlt, hfr, hx2, hs]))
        | (refine endT_p (.inr rfl) (by simp (maxSteps := 8000000) -implicitDefEqProofs (disch := omega) only [↓reduceIte, go_sem, hx, saT, eq_true hlt, hfr, hx2, hs]; rfl) ?_; (first | exact vb_true (by omega) | exact vb_false (by omega) | exact vb_dec (by omega) | exact vi_eq (by omega) | rfl | (refine vi_eq ?_; simp_all; first | done | (intros; omega))))
        | exact endT_v (.inr rfl) (by simp (maxSteps := 8000000) -implicitDefEqProofs (disch := omega) only [↓reduceIte, go_sem, hx, saT, eq_true hlt, hfr, hx2, hs]; try rfl) (fun _ => rfl)
    · have hs' : p b x = false := by simpa using hs
      simp (maxSteps := 8000000) -implicitDefEqProofs (disch := omega) only [↓reduceIte, go_sem, hx, saT, eq_true hlt, hfr, hx2, hs']
      refine loopKT_next (i + 1) ⟨by omega, none_snoc hx hs' hn⟩ (by omega) ?_
      exact le_keep (Nat.zero_le _) (by simp (maxSteps := 8000000) -implicitDefEqProofs (disch := omega) only [↓reduceIte, go_sem, slotsIn])
  · rw [find_none (fun j y hj => hn j y (by omega))]
    dsimp only [idxV]
    simp (maxSteps := 8000000) -implicitDefEqProofs (disch := omega) only [↓reduceIte, go_sem, eq_false hge]
    refine joinK_here ?_
    simp (maxSteps := 8000000) -implicitDefEqProofs (disch := omega) only [↓reduceIte, go_sem]
    repeat' first
      | ((first | refine gdKT_deq (fun hg hG => ?_) (fun hg hG => ?_) | refine condKT_deq (fun hg hG => ?_) (fun hg hG => ?_)) <;> (try simp (maxSteps := 8000000) -implicitDefEqProofs (disch := omega) only [↓reduceIte, go_sem, hG]) <;> clear hG)
      | ((first | refine gdKT_split (fun hg => ?_) (fun hg => ?_) | refine condKT_split (fun hg => ?_) (fun hg => ?_)) <;> (try simp (maxSteps := 8000000) -implicitDefEqProofs (disch := omega) only [↓reduceIte, go_sem, hg]))
      | (refine endT_p (.inr rfl) (by simp (maxSteps := 8000000) -implicitDefEqProofs (disch := omega) only [↓reduceIte, go_sem]; rfl) ?_; (first | exact vb_true (by omega) | exact vb_false (by omega) | exact vb_dec (by omega) | exact vi_eq (by omega) | rfl | (refine vi_eq ?_; simp_all; first | done | (intros; omega))))
      | exact endT_v (.inr rfl) (by simp (maxSteps := 8000000) -implicitDefEqProofs (disch := omega) only [↓reduceIte, go_sem]; try rfl) (fun _ => rfl)
/-! The agreement of a number -/
theorem sasF_at (l : List SaR) (h : l.length ≤ 140737488355328 ∧ ∀ y ∈ l, y.sels.length ≤ 140737488355328) : sasF_S [.s (rowsT saT l)] = some (.p (.int .i64 (sasF l)), []) :=
  specP_at (enc := fun x : List SaR => [.s (rowsT saT x)]) (fun x y h => by simp at h; exact sas_inj h) l h
theorem firstS_ok : ∀ (p : Option Int) (l : List SaR), firstS p l = 0 → (∀ x ∈ l, saF x = 0) ∧ l.Pairwise (fun x y => x.spi < y.spi) ∧ ∀ q, p = some q → ∀ x ∈ l, q < x.spi
  | p, [], _ => ⟨by simp, .nil, by simp⟩
  | p, x :: l, h => by
    simp only [firstS] at h
    split at h
    · rename_i hz
      split at h
      · cases h
      · rename_i hb
        obtain ⟨h1, h2, h3⟩ := firstS_ok (some x.spi) l h
        have h4 := h3 x.spi rfl
        refine ⟨fun y hy => ?_, List.pairwise_cons.2 ⟨h4, h2⟩, fun q hq y hy => ?_⟩
        · rcases List.mem_cons.1 hy with rfl | hy
          · exact hz
          · exact h1 y hy
        · subst hq
          simp only [badO] at hb
          rcases List.mem_cons.1 hy with rfl | hy
          · omega
          · have := h4 y hy; omega
    · contradiction
theorem sasF_zero {l : List SaR} (h : sasF l = 0) : l.length ≤ 12 ∧ (∀ x ∈ l, saF x = 0) ∧ l.Pairwise (fun x y => x.spi < y.spi) := by
  simp only [sasF] at h
  split at h
  · rename_i hl; obtain ⟨h1, h2, _⟩ := firstS_ok none l h; exact ⟨hl, h1, h2⟩
  · cases h
abbrev goodL (l : List SaR) : Prop := l.length ≤ 12 ∧ ∀ x ∈ l, 1 ≤ x.sels.length ∧ x.sels.length ≤ 12
theorem fn_inj {β : Type} {f : Nat} {cap : β → List TV} (hcap : ∀ x y, cap x = cap y → x = y) : ∀ x y : List SaR × β, ([.s (rowsT saT x.1), .fn f (cap x.2)] : List TV) = [.s (rowsT saT y.1), .fn f (cap y.2)] → x = y := by
  rintro ⟨a, b⟩ ⟨a', b'⟩ h; simp at h; simp [sas_inj h.1, hcap _ _ h.2]
theorem find_at {β : Type} {f : Nat} {cap : β → List TV} {p : β → SaR → Bool} (hcap : ∀ x y, cap x = cap y → x = y) (l : List SaR) (b : β) (h : l.length ≤ 140737488355328) : find_S f cap p [.s (rowsT saT l), .fn f (cap b)] = some (.p (.int .i64 (idxV (l.findIdx? (p b)))), []) :=
  specP_at (fn_inj hcap) (l, b) h
end Go.Proofs.YtghpdclhhnbgjaaGreat
