/- The program's TagOf returns what the reference's returns, for all arguments. Conditions: none. -/
import Derived.Test.YtpndkgpkakhbmaaPFnExactTagOfx2
namespace Go.Proofs.Ytpndkgpkakhbmaa.Pure
open Go.RowKit Go.Proofs.Ytpndkgpkakhbmaa.PFnExactTagOf Go.Proofs.YtpndkgpkakhbmaaW.PrintWords Go.Proofs.YtpndkgpkakhbmaaW.PrintLast

theorem wrapU {i : Int} {n : Nat} (h0 : 0 ≤ i) (h : i < (n : Int)) (hn : n ≤ 140737488351232) : wrap64 (i + 1) = i + 1 := by
  unfold wrap64; omega

theorem set_rd (l x : List Int) (i : Nat) (h : i < l.length) (hx : x.length = l.length)
    (hh : ∀ j, j < i → x.getD j 0 = l.getD j 0) : ∀ j, j < i + 1 → (x.set i (rd l i)).getD j 0 = l.getD j 0 := by
  intro j hj
  unfold rd
  simp only [Int.toNat_natCast, List.getD_eq_getElem?_getD]
  by_cases e : j = i
  · subst e; rw [List.getElem?_set_self (by omega)]; rfl
  · rw [List.getElem?_set_ne (by omega)]
    have := hh j (by omega)
    simpa [List.getD_eq_getElem?_getD] using this

theorem toByteS_l (l : List Int) (hn : l.length ≤ 140737488351232) (d : Nat) : ∀ (k i : Nat) (x : List Int), i + d = l.length → d < k → x.length = l.length →
    (∀ j, j < i → x.getD j 0 = l.getD j 0) → laws_toByteS.l0 k l x i = some l := by
  induction d with
  | zero =>
    intro k i x hd hk hx hh
    obtain ⟨k, rfl⟩ : ∃ m, k = m + 1 := ⟨k - 1, by omega⟩
    simp only [laws_toByteS.l0]
    rw [if_neg (by omega)]
    have hi : i = l.length := by omega
    subst hi
    congr 1
    apply List.ext_getElem hx
    intro j h1 h2
    have := hh j h2
    simpa [List.getD_eq_getElem?_getD, h1, h2] using this
  | succ d ih =>
    intro k i x hd hk hx hh
    obtain ⟨k, rfl⟩ : ∃ m, k = m + 1 := ⟨k - 1, by omega⟩
    simp only [laws_toByteS.l0]
    rw [if_pos (by omega), if_pos (by omega), if_pos (by omega), wrapU (n := l.length) (by omega) (by omega) hn]
    have := ih k (i + 1) (x.set i (rd l i)) (by omega) (by omega) (by simpa using hx) (set_rd l x i (by omega) hx hh)
    simpa using this

theorem toByteS (l : List Int) (hn : l.length ≤ 140737488351232) (k : Nat) (hk : l.length < k) : laws_toByteS.f k l = some l := by
  unfold laws_toByteS.f
  rw [if_pos (by omega), if_pos (by omega)]
  have := toByteS_l l hn l.length k 0 (List.replicate l.length 0) (by omega) hk (by simp) (by intro j hj; omega)
  simpa using this

theorem eqByteS_l (l : List Int) (hn : l.length ≤ 140737488351232) (d : Nat) : ∀ (k i : Nat), i + d = l.length → d < k → laws_eqByteS.l0 k l l i = some true := by
  induction d with
  | zero =>
    intro k i hd hk
    obtain ⟨k, rfl⟩ : ∃ m, k = m + 1 := ⟨k - 1, by omega⟩
    simp only [laws_eqByteS.l0]
    rw [if_neg (by omega)]
  | succ d ih =>
    intro k i hd hk
    obtain ⟨k, rfl⟩ : ∃ m, k = m + 1 := ⟨k - 1, by omega⟩
    simp only [laws_eqByteS.l0]
    rw [if_pos (by omega), if_pos (by omega), if_pos (by omega), wrapU (n := l.length) (by omega) (by omega) hn]
    have := ih k (i + 1) (by omega) (by omega)
    simpa using this

theorem eqByteS (l : List Int) (hn : l.length ≤ 140737488351232) (k : Nat) (hk : l.length < k) : laws_eqByteS.f k l l = some true := by
  unfold laws_eqByteS.f
  rw [if_pos rfl]
  simpa using eqByteS_l l hn l.length k 0 (by omega) hk

theorem tag_l (l : List Int) (hn : l.length ≤ 140737488351232) (d : Nat) : ∀ (k i : Nat) (h : Int), i + d = l.length → d < k →
    ∃ r, spec_l14Tag.l0 k l h i = some r ∧ impl_tag.l0 k h l l.length i = some r := by
  induction d with
  | zero =>
    intro k i h hd hk
    obtain ⟨k, rfl⟩ : ∃ m, k = m + 1 := ⟨k - 1, by omega⟩
    refine ⟨h, ?_, ?_⟩
    · simp only [spec_l14Tag.l0]; rw [if_neg (by omega)]
    · simp only [impl_tag.l0]; rw [if_neg (by omega)]
  | succ d ih =>
    intro k i h hd hk
    obtain ⟨k, rfl⟩ : ∃ m, k = m + 1 := ⟨k - 1, by omega⟩
    obtain ⟨r, h1, h2⟩ := ih k (i + 1) _ (by omega) (by omega)
    refine ⟨r, ?_, ?_⟩
    · simp only [spec_l14Tag.l0]
      rw [if_pos (by omega), if_pos (by omega), wrapU (i := (i : Int)) (n := l.length) (by omega) (by omega) hn]
      simpa using h1
    · simp only [impl_tag.l0]
      rw [if_pos (by omega), if_pos (by omega), if_pos (by omega), wrapU (i := (i : Int)) (n := l.length) (by omega) (by omega) hn]
      simpa using h2

theorem tags (l : List Int) (hn : l.length ≤ 140737488351232) (a b : Int) (k : Nat) (hk : l.length < k) :
    ∃ r, spec_TagOf.f k a b l = some r ∧ impl_TagOf.f k a b l = some r := by
  obtain ⟨r, h1, h2⟩ := tag_l l hn l.length k 0 (Int.tmod (wrap64 ((wrap64 ((wrap64 (a * 17)) + (wrap64 (b * 3)))) + 5)) 1000003) (by omega) hk
  simp only [Int.cast_ofNat_Int] at h1 h2
  unfold spec_TagOf.f impl_TagOf.f spec_l14Asked.f impl_keyed.f impl_isKey.f spec_l1In.f impl_in.f spec_l14Tag.f impl_tag.f
  by_cases c1 : a ≥ 0 <;> by_cases c2 : a ≤ 4294967295 <;> by_cases c3 : b ≥ 0 <;> by_cases c4 : b ≤ 1099511627776 <;> by_cases c5 : (l.length : Int) > 500 <;>
    simp [c1, c2, c3, c4, c5, h1, h2]

theorem FnExactTagOf : laws_FnExactTagOf.Pure := by
  intro a b l _ _ _ hn _
  simp only [Nat.mul_one] at hn
  refine ⟨l.length + 1, ?_⟩
  obtain ⟨r, h1, h2⟩ := tags l hn a b (l.length + 1) (by omega)
  unfold laws_FnExactTagOf.f
  by_cases c : (l.length : Int) > 1048576
  · rw [if_pos c]
  · rw [if_neg c, toByteS l hn _ (by omega)]
    simp only [Option.bind_some, h1, h2, laws_eqIntResult.f, eqByteS l hn _ (show l.length < l.length + 1 by omega), if_true]

end Go.Proofs.Ytpndkgpkakhbmaa.Pure
