import Derived.Test.YtkijbknnbmbnbaaE8
import Derived.Test.YtkijbknnbmbnbaaD2
set_option linter.unusedSimpArgs false
set_option linter.unusedVariables false
set_option maxRecDepth 100000
set_option maxHeartbeats 4000000
namespace Go.Proofs.Ytkijbknnbmbnbaa
open Go Go.AH
attribute [local irreducible] awpT ropsT qopsT stepT condKT gdKT EndT joinK loopKT seqKT blkKT kont kontR
/-! Streams, tags, padding -/
def stX (x : Int) : Nat → Int
  | 0 => x
  | n + 1 => stX x n * 16807 % 2147483647
theorem stX_bd {x : Int} (h : 0 ≤ x ∧ x < 2147483647) : ∀ n, 0 ≤ stX x n ∧ stX x n < 2147483647
  | 0 => h
  | n + 1 => ⟨Int.emod_nonneg _ (by decide), Int.emod_lt_of_pos _ (by decide)⟩
def streamL (x : Int) (n : Nat) : List Int := (List.range n).map fun i => stX x (i + 1) % 256
theorem streamL_succ (x : Int) (n : Nat) : streamL x (n + 1) = streamL x n ++ [stX x (n + 1) % 256] := by simp [streamL, List.range_succ]
theorem streamL_len (x : Int) (n : Nat) : (streamL x n).length = n := by simp [streamL]
theorem streamL_bd (x : Int) (n : Nat) : ∀ y ∈ streamL x n, 0 ≤ y ∧ y < 256 := by
  intro y hy; simp [streamL] at hy; obtain ⟨i, _, rfl⟩ := hy; omega
def st0 (k s : Int) : Int := (k * 31 + s + 7) % 2147483647
theorem st0_bd (k s : Int) : 0 ≤ st0 k s ∧ st0 k s < 2147483647 := ⟨Int.emod_nonneg _ (by decide), Int.emod_lt_of_pos _ (by decide)⟩
def tagS (h b : Int) : Int := (h * 263 + b + 1) % 1000003
def tagL (k s : Int) (l : List Int) : Int := l.foldl tagS ((k * 17 + s * 3 + 5) % 1000003)
theorem tagL_snoc (k s : Int) (l : List Int) (x : Int) : tagL k s (l ++ [x]) = tagS (tagL k s l) x := by simp [tagL]
theorem tagS_bd (h b : Int) : 0 ≤ tagS h b ∧ tagS h b < 1000003 := ⟨Int.emod_nonneg _ (by decide), Int.emod_lt_of_pos _ (by decide)⟩
theorem tagL_bd (k s : Int) (l : List Int) : ∀ n, 0 ≤ tagL k s (l.take n) ∧ tagL k s (l.take n) < 1000003
  | 0 => by simp only [List.take_zero]; exact ⟨Int.emod_nonneg _ (by decide), Int.emod_lt_of_pos _ (by decide)⟩
  | n + 1 => by
    by_cases hn : n < l.length
    · rw [List.take_succ_eq_append_getElem hn, tagL_snoc]; exact tagS_bd _ _
    · rw [show l.take (n + 1) = l.take n by rw [List.take_of_length_le (by omega), List.take_of_length_le (by omega)]]; exact tagL_bd k s l n
theorem tag_step (k s : Int) (l : List Int) (n : Nat) (hn : n < l.length) : tagL k s (l.take (n + 1)) = (tagL k s (l.take n) * 263 + l.getD n 0 + 1) % 1000003 := by
  rw [List.take_succ_eq_append_getElem hn, tagL_snoc]
  simp [tagS, hn]
def xor8 (a b : Int) : Int := ((BitVec.ofInt 8 a ^^^ BitVec.ofInt 8 b).toNat : Int)
theorem xor8_bd (a b : Int) : 0 ≤ xor8 a b ∧ xor8 a b < 256 := by unfold xor8; omega
def mixW (S l : List Int) : List Int := List.zipWith xor8 S l
def mixL (k s : Int) (l : List Int) : List Int := mixW (streamL (st0 k s) l.length) l
theorem mixL_len (k s : Int) (l : List Int) : (mixL k s l).length = l.length := by simp [mixL, mixW, streamL_len]
theorem mixL_bd (k s : Int) (l : List Int) : ∀ x ∈ mixL k s l, 0 ≤ x ∧ x < 256 := by
  intro x hx
  obtain ⟨i, hi, rfl⟩ := List.mem_iff_getElem.1 hx
  simp only [mixL, mixW, List.getElem_zipWith]; exact xor8_bd _ _
def mixC (S l : List Int) (i : Nat) : List Int := (mixW S l).take i ++ S.drop i
theorem mixC_len (S l : List Int) (i : Nat) (h : S.length = l.length) (hi : i ≤ l.length) : (mixC S l i).length = l.length := by simp [mixC, mixW]; omega
def padN (n S : Nat) : Nat := (S - (n + 2) % S) % S
theorem padN_lt {n S i : Nat} (hS : 1 ≤ S) (hi : i < padN n S) : (n + i + 2) % S ≠ 0 := by
  unfold padN at hi
  have hr : (n + 2) % S < S := Nat.mod_lt _ (by omega)
  have h0 : (n + 2) % S ≠ 0 := by intro h; rw [h, Nat.sub_zero, Nat.mod_self] at hi; omega
  rw [Nat.mod_eq_of_lt (by omega)] at hi
  have e : n + i + 2 = (n + 2) + i := by omega
  rw [e, Nat.add_mod, Nat.mod_eq_of_lt (a := i) (by omega), Nat.mod_eq_of_lt (by omega)]
  omega
theorem padN_eq {n S : Nat} (hS : 1 ≤ S) : (n + padN n S + 2) % S = 0 := by
  unfold padN
  have hr : (n + 2) % S < S := Nat.mod_lt _ (by omega)
  by_cases h0 : (n + 2) % S = 0
  · rw [h0, Nat.sub_zero, Nat.mod_self]; simpa using h0
  · rw [Nat.mod_eq_of_lt (a := S - (n + 2) % S) (by omega)]
    have e : n + (S - (n + 2) % S) + 2 = (n + 2) + (S - (n + 2) % S) := by omega
    rw [e, Nat.add_mod, Nat.mod_eq_of_lt (a := S - (n + 2) % S) (by omega)]
    rw [show (n + 2) % S + (S - (n + 2) % S) = S by omega, Nat.mod_self]
theorem padN_bd {n S : Nat} (hS : 1 ≤ S) : padN n S < S := Nat.mod_lt _ (by omega)
def runL (i : Nat) : List Int := (List.range i).map fun (j : Nat) => (j : Int) + 1
theorem runL_succ (i : Nat) : runL (i + 1) = runL i ++ [(i : Int) + 1] := by simp [runL, List.range_succ]
theorem runL_len (i : Nat) : (runL i).length = i := by simp [runL]
theorem runL_bd (i : Nat) (h : i ≤ 255) : ∀ x ∈ runL i, 0 ≤ x ∧ x < 256 := by
  intro x hx; simp [runL] at hx; obtain ⟨j, _, rfl⟩ := hx; omega
def padL (l : List Int) (S : Nat) (next : Int) : List Int := l ++ runL (padN l.length S) ++ [(padN l.length S : Int), next]
theorem padL_len (l : List Int) (S : Nat) (nx : Int) : (padL l S nx).length = l.length + padN l.length S + 2 := by simp [padL, runL_len]; omega
theorem padL_bd {l : List Int} {S : Nat} {nx : Int} (hl : ∀ x ∈ l, 0 ≤ x ∧ x < 256) (hS : 1 ≤ S ∧ S ≤ 16) (hn : 0 ≤ nx ∧ nx < 256) : ∀ x ∈ padL l S nx, 0 ≤ x ∧ x < 256 := by
  intro x hx
  have hp := padN_bd (n := l.length) hS.1
  simp only [padL, List.mem_append, List.mem_cons, List.not_mem_nil, or_false] at hx
  rcases hx with (hx | hx) | hx | hx
  · exact hl x hx
  · exact runL_bd _ (by omega) x hx
  · subst hx; omega
  · subst hx; exact hn
def padV (l : List Int) : Int := l.getD (l.length - 2) 0
def nextV (l : List Int) : Int := l.getD (l.length - 1) 0
def ownV (l : List Int) : List Int := l.take (l.length - 2 - (padV l).toNat)
def unpS (l : List Int) (S : Nat) : Prop := 1 ≤ S ∧ S ≤ 16 ∧ padL (ownV l) S (nextV l) = l
def unpOk (l : List Int) : Prop := 2 ≤ l.length ∧ padV l + 2 ≤ l.length ∧ (ownV l).length ≤ 400 ∧ ∃ S, unpS l S
/-- The same as the reference looks for it. -/
def fitsB (n p : Nat) : Prop := ∃ S, 1 ≤ S ∧ S ≤ 16 ∧ n % S = 0 ∧ p < S
theorem padN_uniq {n S p : Nat} (hS : 1 ≤ S) (hp : p < S) (h : (n + p + 2) % S = 0) : padN n S = p := by
  by_cases hlt : p < padN n S
  · exact absurd h (padN_lt hS hlt)
  · by_cases hgt : padN n S < p
    · have h1 := padN_eq (n := n) hS
      have e : n + p + 2 = (n + padN n S + 2) + (p - padN n S) := by omega
      rw [e, Nat.add_mod, h1, Nat.zero_add, Nat.mod_mod, Nat.mod_eq_of_lt (by omega)] at h
      omega
    · omega
theorem unp_iff (l : List Int) (hb : ∀ x ∈ l, 0 ≤ x ∧ x < 256) (h2 : 2 ≤ l.length) (p : Nat) (hp : padV l = p) (hp2 : p + 2 ≤ l.length) :
    (∃ S, unpS l S) ↔ (p ≤ 15 ∧ (∀ k, k < p → l.getD (l.length - 2 - p + k) 0 = (k : Int) + 1) ∧ fitsB l.length p) := by
  have ho : ownV l = l.take (l.length - 2 - p) := by simp [ownV, hp]
  have hol : (ownV l).length = l.length - 2 - p := by rw [ho]; simp; omega
  have hlast : l.drop (l.length - 2) = [(p : Int), nextV l] := by
    apply List.ext_getElem?
    intro j
    rw [List.getElem?_drop]
    match j with
    | 0 => simp [← hp, padV, show l.length - 2 < l.length by omega]
    | 1 => rw [show l.length - 2 + 1 = l.length - 1 by omega]; simp [nextV, show l.length - 1 < l.length by omega]
    | j + 2 => simp; omega
  constructor
  · rintro ⟨S, s1, s2, s3⟩
    have hlen := congrArg List.length s3
    rw [padL_len, hol] at hlen
    have hpn : padN (l.length - 2 - p) S = p := by omega
    have hps := padN_bd (n := l.length - 2 - p) (S := S) (by omega)
    have hmod := padN_eq (n := l.length - 2 - p) (S := S) (by omega)
    rw [hpn] at hps hmod
    refine ⟨by omega, fun k hk => ?_, S, s1, s2, by rw [show l.length - 2 - p + p + 2 = l.length by omega] at hmod; exact hmod, hps⟩
    rw [← s3]
    rw [s3]
    have : l.getD (l.length - 2 - p + k) 0 = (padL (ownV l) S (nextV l)).getD (l.length - 2 - p + k) 0 := by rw [s3]
    rw [this]
    simp only [padL, hol, hpn, List.getD_eq_getElem?_getD]
    rw [List.append_assoc, List.getElem?_append_right (by omega), hol, List.getElem?_append_left (by rw [runL_len]; omega)]
    simp [runL, show l.length - 2 - p + k - (l.length - 2 - p) = k by omega, hk]
  · rintro ⟨hp15, hrun, S, s1, s2, s3, s4⟩
    refine ⟨S, s1, s2, ?_⟩
    have hpn : padN (l.length - 2 - p) S = p := padN_uniq s1 s4 (by rw [show l.length - 2 - p + p + 2 = l.length by omega]; exact s3)
    simp only [padL, hol, hpn]
    have e1 : runL p = (l.drop (l.length - 2 - p)).take p := by
      apply List.ext_getElem?
      intro j
      by_cases hj : j < p
      · have := hrun j hj
        rw [List.getElem?_take_of_lt hj, List.getElem?_drop]
        simp only [runL, List.getElem?_map, List.getElem?_range hj, Option.map_some]
        rw [← this]
        simp [show l.length - 2 - p + j < l.length by omega]
      · rw [List.getElem?_eq_none (by rw [runL_len]; omega), List.getElem?_eq_none (by simp; omega)]
    rw [e1, ho, ← hlast, List.append_assoc]
    have e2 : (l.drop (l.length - 2 - p)).take p ++ l.drop (l.length - 2) = l.drop (l.length - 2 - p) := by
      have : l.drop (l.length - 2) = (l.drop (l.length - 2 - p)).drop p := by rw [List.drop_drop]; congr 1; omega
      rw [this, List.take_append_drop]
    rw [e2, List.take_append_drop]
def fitsN (n p : Nat) : Nat → Bool
  | 0 => false
  | i + 1 => fitsN n p i || (decide (n % (i + 1) = 0) && decide (p < i + 1))
theorem fitsN_iff (n p : Nat) : ∀ i, fitsN n p i = true ↔ ∃ S, 1 ≤ S ∧ S ≤ i ∧ n % S = 0 ∧ p < S
  | 0 => by simp [fitsN]; omega
  | i + 1 => by
    simp only [fitsN, Bool.or_eq_true, Bool.and_eq_true, decide_eq_true_eq, fitsN_iff n p i]
    constructor
    · rintro (⟨S, a, b, c⟩ | ⟨a, b⟩)
      · exact ⟨S, a, by omega, c⟩
      · exact ⟨i + 1, by omega, by omega, a, b⟩
    · rintro ⟨S, a, b, c, d⟩
      by_cases hS : S = i + 1
      · subst hS; exact .inr ⟨c, d⟩
      · exact .inl ⟨S, a, by omega, c, d⟩
theorem fits16 (n p : Nat) : fitsN n p 16 = true ↔ fitsB n p := fitsN_iff n p 16

theorem mixC_get (S l : List Int) (i : Nat) (h : S.length = l.length) (hi : i < l.length) : (bsT (mixC S l i))[i]? = some (.p (.int .u8 (S.getD i 0))) := by
  rw [bs_get (by rw [mixC_len S l i h (by omega)]; exact hi)]
  congr 3
  simp only [mixC, List.getD_eq_getElem?_getD]
  rw [List.getElem?_append_right (by simp [mixW]; omega)]
  simp only [mixW, List.length_take, List.length_zipWith, List.getElem?_drop]
  congr 2; omega
theorem mixC_step (S l : List Int) (i : Nat) (h : S.length = l.length) (hi : i < l.length) : (bsT (mixC S l i)).set i (.p (.int .u8 (xor8 (S.getD i 0) (l.getD i 0)))) = bsT (mixC S l (i + 1)) := by
  rw [bs_set]
  congr 1
  simp only [mixC]
  have hl : ((mixW S l).take i).length = i := by simp [mixW]; omega
  rw [List.set_append_right _ _ (by omega), hl, Nat.sub_self]
  have hd : S.drop i = S[i]'(by omega) :: S.drop (i + 1) := List.drop_eq_getElem_cons (by omega)
  rw [hd, List.set_cons_zero, List.take_succ_eq_append_getElem (by simp [mixW]; omega), List.append_assoc]
  simp [mixW, h, hi]
theorem mixC_full (S l : List Int) (h : S.length = l.length) : mixC S l l.length = mixW S l := by
  simp only [mixC]; rw [List.take_of_length_le (by simp [mixW]; omega), List.drop_eq_nil_of_le (by omega), List.append_nil]
theorem mixC_none (S l : List Int) : mixC S l 0 = S := by simp [mixC]
theorem xor_u8 (a b : Int) : abin .xor (.int .u8 a) (.int .u8 b) = some (.int .u8 (xor8 a b)) := by
  show some (Value.int .u8 (IntKind.u8.wrap _)) = _
  have h : IntKind.u8.wrap ((BitVec.ofInt IntKind.u8.bits a ^^^ BitVec.ofInt IntKind.u8.bits b).toNat : Int) = xor8 a b := by
    rw [tu8]; · rfl
    have := (BitVec.ofInt IntKind.u8.bits a ^^^ BitVec.ofInt IntKind.u8.bits b).isLt
    have e : IntKind.u8.bits = 8 := rfl
    rw [e] at this ⊢
    omega
  rw [h]
abbrev keyP (k s : Int) : Prop := (0 ≤ k ∧ k ≤ 4294967295) ∧ (0 ≤ s ∧ s ≤ 1099511627776)
noncomputable def keyed_S := specP (fun x : Int × Int => [.p (.int .i64 x.1), .p (.int .i64 x.2)]) (fun x => True) (fun x => (.p (.bool (decide (keyP x.1 x.2))), []))
theorem keyed_at (k : Int) (s : Int) : keyed_S [.p (.int .i64 k), .p (.int .i64 s)] = some ((.p (.bool (decide (keyP k s))), [])) := specP_at (enc := fun x : Int × Int => [.p (.int .i64 x.1), .p (.int .i64 x.2)]) (by rintro ⟨a0, a1⟩ ⟨b0, b1⟩ h; simp only [List.cons.injEq, and_true] at h; obtain ⟨h0, h1⟩ := h; obtain rfl := p64_inj h0; obtain rfl := p64_inj h1; rfl) (k, s) trivial
-- impl.keyed
def c103 : AF := ⟨11,
  (.seq (.reg [⟨(some 4), none, .mv (.v (.bool false))⟩])
  (.seq (.reg [⟨(some 5), none, .mv (.t 0)⟩,
   ⟨(some 6), none, .call 114 [(.t 5)]⟩,
   ⟨(some 7), none, .mv (.t 6)⟩,
   ⟨(some 8), (some (7, true)), .mv (.t 1)⟩,
   ⟨(some 9), (some (7, true)), .call 95 [(.t 8), (.v (.int .i64 0)), (.v (.int .i64 1099511627776))]⟩,
   ⟨(some 10), none, .pick (.t 7) (.t 9) (.v (.bool false))⟩,
   ⟨(some 4), none, .mv (.t 10)⟩])
  .ret)),
  [.t 4]⟩
theorem k103 : cFn Try.prog Try.f103 = some c103 := by kernel_rfl
theorem keyed_ok : OkT Try.prog 103 (pureSp keyed_S) := by
  refine okT_fn (OkΓT.cons isKey_ok (OkΓT.cons in_ok (OkΓT.nil _))) Try.func103 (by kernel_rfl) k103 (fun x _ => ⟨by first | rfl | simp only [go_sem], by first | rfl | simp only [go_sem]⟩) ?_
  rintro ⟨k, s⟩ _
  try dsimp only at *
  (dsimp only [c103]; simp (maxSteps := 8000000) (implicitDefEqProofs := false) (disch := omega) only [↓reduceIte, go_sem, if_pos, if_neg, key_at, in_at])
  repeat' first
    | (refine gdKT_dec (fun hg => ?_) (fun hg => ?_) <;> (try (first | simp (maxSteps := 8000000) (implicitDefEqProofs := false) (disch := omega) only [↓reduceIte, go_sem, if_pos, if_neg, eq_false hg, key_at, in_at] | simp (maxSteps := 8000000) (implicitDefEqProofs := false) (disch := omega) only [↓reduceIte, go_sem, if_pos, if_neg, eq_true hg, key_at, in_at])))
    | (refine condKT_dec (fun hg => ?_) (fun hg => ?_) <;> (try (first | simp (maxSteps := 8000000) (implicitDefEqProofs := false) (disch := omega) only [↓reduceIte, go_sem, if_pos, if_neg, eq_false hg, key_at, in_at] | simp (maxSteps := 8000000) (implicitDefEqProofs := false) (disch := omega) only [↓reduceIte, go_sem, if_pos, if_neg, eq_true hg, key_at, in_at])))
    | (refine gdKT_split (fun hg => ?_) (fun hg => ?_) <;> (try simp (maxSteps := 8000000) (implicitDefEqProofs := false) (disch := omega) only [↓reduceIte, go_sem, if_pos, if_neg, hg, key_at, in_at]))
    | (refine condKT_split (fun hg => ?_) (fun hg => ?_) <;> (try simp (maxSteps := 8000000) (implicitDefEqProofs := false) (disch := omega) only [↓reduceIte, go_sem, if_pos, if_neg, hg, key_at, in_at]))
    | (refine endT_p (.inr rfl) (by simp (maxSteps := 8000000) (implicitDefEqProofs := false) (disch := omega) only [↓reduceIte, go_sem, if_pos, if_neg, key_at, in_at]; rfl) ?_; (first | exact vb_true (by omega) | exact vb_false (by omega) | exact vb_dec (by omega) | exact vi_eq (by omega) | rfl | (refine vi_eq ?_; simp_all; done) | (refine vi_eq ?_; simp_all; omega) | (refine vi_eq ?_; simp_all; intros; omega)))
    | exact endT_v (.inr rfl) (by simp (maxSteps := 8000000) (implicitDefEqProofs := false) (disch := omega) only [↓reduceIte, go_sem, if_pos, if_neg, key_at, in_at]; try rfl) (fun _ => rfl)
noncomputable def asked_S := specP (fun x : Int × Int => [.p (.int .i64 x.1), .p (.int .i64 x.2)]) (fun x => True) (fun x => (.p (.int .i64 (if keyP x.1 x.2 then 0 else 3)), []))
theorem asked_at (k : Int) (s : Int) : asked_S [.p (.int .i64 k), .p (.int .i64 s)] = some ((.p (.int .i64 (if keyP k s then 0 else 3)), [])) := specP_at (enc := fun x : Int × Int => [.p (.int .i64 x.1), .p (.int .i64 x.2)]) (by rintro ⟨a0, a1⟩ ⟨b0, b1⟩ h; simp only [List.cons.injEq, and_true] at h; obtain ⟨h0, h1⟩ := h; obtain rfl := p64_inj h0; obtain rfl := p64_inj h1; rfl) (k, s) trivial
-- spec.l14Asked
def c107 : AF := ⟨13,
  (.seq (.reg [⟨(some 4), none, .mv (.v (.int .i64 0))⟩])
  (.seq (.seq (.reg [⟨(some 5), none, .mv (.t 0)⟩,
   ⟨(some 6), none, .call 97 [(.t 5), (.v (.int .i64 0)), (.v (.int .i64 4294967295))]⟩,
   ⟨(some 7), none, .un .not (.t 6)⟩,
   ⟨(some 8), none, .mv (.t 7)⟩,
   ⟨(some 9), (some (8, false)), .mv (.t 1)⟩,
   ⟨(some 10), (some (8, false)), .call 97 [(.t 9), (.v (.int .i64 0)), (.v (.int .i64 1099511627776))]⟩,
   ⟨(some 11), (some (8, false)), .un .not (.t 10)⟩,
   ⟨(some 12), none, .pick (.t 8) (.v (.bool true)) (.t 11)⟩])
  (.cond (.t 12) (.seq (.reg [⟨(some 4), none, .mv (.v (.int .i64 3))⟩])
  .ret)
  .skip))
  (.seq (.reg [⟨(some 4), none, .mv (.v (.int .i64 0))⟩])
  .ret))),
  [.t 4]⟩
theorem k107 : cFn Try.prog Try.f107 = some c107 := by kernel_rfl
theorem asked_ok : OkT Try.prog 107 (pureSp asked_S) := by
  refine okT_fn (OkΓT.cons l1In_ok (OkΓT.nil _)) Try.func107 (by kernel_rfl) k107 (fun x _ => ⟨by first | rfl | simp only [go_sem], by first | rfl | simp only [go_sem]⟩) ?_
  rintro ⟨k, s⟩ _
  try dsimp only at *
  (dsimp only [c107]; simp (maxSteps := 8000000) (implicitDefEqProofs := false) (disch := omega) only [↓reduceIte, go_sem, if_pos, if_neg, in_at])
  repeat' first
    | (refine gdKT_dec (fun hg => ?_) (fun hg => ?_) <;> (try (first | simp (maxSteps := 8000000) (implicitDefEqProofs := false) (disch := omega) only [↓reduceIte, go_sem, if_pos, if_neg, eq_false hg, in_at] | simp (maxSteps := 8000000) (implicitDefEqProofs := false) (disch := omega) only [↓reduceIte, go_sem, if_pos, if_neg, eq_true hg, in_at])))
    | (refine condKT_dec (fun hg => ?_) (fun hg => ?_) <;> (try (first | simp (maxSteps := 8000000) (implicitDefEqProofs := false) (disch := omega) only [↓reduceIte, go_sem, if_pos, if_neg, eq_false hg, in_at] | simp (maxSteps := 8000000) (implicitDefEqProofs := false) (disch := omega) only [↓reduceIte, go_sem, if_pos, if_neg, eq_true hg, in_at])))
    | (refine gdKT_split (fun hg => ?_) (fun hg => ?_) <;> (try simp (maxSteps := 8000000) (implicitDefEqProofs := false) (disch := omega) only [↓reduceIte, go_sem, if_pos, if_neg, hg, in_at]))
    | (refine condKT_split (fun hg => ?_) (fun hg => ?_) <;> (try simp (maxSteps := 8000000) (implicitDefEqProofs := false) (disch := omega) only [↓reduceIte, go_sem, if_pos, if_neg, hg, in_at]))
    | (refine endT_p (.inr rfl) (by simp (maxSteps := 8000000) (implicitDefEqProofs := false) (disch := omega) only [↓reduceIte, go_sem, if_pos, if_neg, in_at]; rfl) ?_; (first | exact vb_true (by omega) | exact vb_false (by omega) | exact vb_dec (by omega) | exact vi_eq (by omega) | rfl | (refine vi_eq ?_; simp_all; done) | (refine vi_eq ?_; simp_all; omega) | (refine vi_eq ?_; simp_all; intros; omega)))
    | exact endT_v (.inr rfl) (by simp (maxSteps := 8000000) (implicitDefEqProofs := false) (disch := omega) only [↓reduceIte, go_sem, if_pos, if_neg, in_at]; try rfl) (fun _ => rfl)
noncomputable def stream_S := specP (fun x : Int × Int × Nat => [.p (.int .i64 x.1), .p (.int .i64 x.2.1), .p (.int .i64 x.2.2)]) (fun x => (keyP x.1 x.2.1) ∧ (x.2.2 ≤ 1073741824)) (fun x => (.os 0 0 x.2.2, [.cells 5 (zOf x.2.2 1) (bsT (streamL (st0 x.1 x.2.1) x.2.2))]))
theorem stream_at (k : Int) (s : Int) (n : Nat) (h : (keyP k s) ∧ (n ≤ 1073741824)) : stream_S [.p (.int .i64 k), .p (.int .i64 s), .p (.int .i64 n)] = some ((.os 0 0 n, [.cells 5 (zOf n 1) (bsT (streamL (st0 k s) n))])) := specP_at (enc := fun x : Int × Int × Nat => [.p (.int .i64 x.1), .p (.int .i64 x.2.1), .p (.int .i64 x.2.2)]) (by rintro ⟨a0, a1, a2⟩ ⟨b0, b1, b2⟩ h; simp only [List.cons.injEq, and_true] at h; obtain ⟨h0, h1, h2⟩ := h; obtain rfl := p64_inj h0; obtain rfl := p64_inj h1; obtain rfl := p64n_inj h2; rfl) (k, s, n) h
-- impl.stream
def c189 : AF := ⟨29,
  (.seq (.reg [⟨(some 6), none, .mv (.v (.slice none 0 0))⟩])
  (.seq (.reg [⟨(some 9), none, .mv (.t 0)⟩,
   ⟨(some 10), none, .bin .mul (.t 9) (.v (.int .i64 31))⟩,
   ⟨(some 11), none, .mv (.t 1)⟩,
   ⟨(some 12), none, .bin .add (.t 10) (.t 11)⟩,
   ⟨(some 13), none, .bin .add (.t 12) (.v (.int .i64 7))⟩,
   ⟨(some 14), none, .bin .rem (.t 13) (.v (.int .i64 2147483647))⟩,
   ⟨(some 15), none, .mkS 5 0 [] []⟩,
   ⟨(some 7), none, .mv (.t 14)⟩,
   ⟨(some 8), none, .mv (.t 15)⟩])
  (.seq (.seq (.reg [⟨(some 16), none, .mv (.t 2)⟩,
   ⟨(some 17), none, .mv (.v (.int .i64 0))⟩])
  (.block 0 (.loop (.seq (.reg [⟨(some 18), none, .bin .lss (.t 17) (.t 16)⟩])
  (.seq (.cond (.t 18) .skip
  (.exit 0))
  (.seq (.block 1 (.seq (.reg [⟨(some 19), none, .mv (.t 7)⟩,
   ⟨(some 20), none, .bin .mul (.t 19) (.v (.int .i64 16807))⟩,
   ⟨(some 21), none, .bin .rem (.t 20) (.v (.int .i64 2147483647))⟩,
   ⟨(some 7), none, .mv (.t 21)⟩])
  (.reg [⟨(some 22), none, .mv (.t 8)⟩,
   ⟨(some 23), none, .mv (.t 7)⟩,
   ⟨(some 24), none, .cvI .u8 (.t 23)⟩,
   ⟨(some 25), none, .mkS 5 1 [(.int .u8 0)] [(0, 1, (.t 24))]⟩,
   ⟨(some 26), none, .app 5 1 1 (.t 22) (.t 25)⟩,
   ⟨(some 8), none, .mv (.t 26)⟩])))
  (.reg [⟨(some 27), none, .bin .add (.t 17) (.v (.int .i64 1))⟩,
   ⟨(some 17), none, .mv (.t 27)⟩])))))))
  (.seq (.reg [⟨(some 28), none, .mv (.t 8)⟩,
   ⟨(some 6), none, .mv (.t 28)⟩])
  .ret)))),
  [.t 6]⟩
theorem k189 : cFn Try.prog Try.f189 = some c189 := by kernel_rfl
theorem streamI_ok : OkT Try.prog 189 (pureSp stream_S) := by
  refine okT_fn (OkΓT.nil _) Try.func189 (by kernel_rfl) k189 (fun x _ => ⟨rfl, by simp only [go_sem, List.all_cons, List.all_nil]⟩) ?_
  rintro ⟨k, s, n⟩ ⟨hk, hn⟩
  try dsimp only at *
  obtain ⟨⟨k1, k2⟩, s1, s2⟩ := hk
  have q0 := rem64 (n := k * 31 + s + 7) (b := 2147483647) (by omega) (by decide)
  have hx := st0_bd k s
  (dsimp only [c189]; simp (maxSteps := 8000000) (implicitDefEqProofs := false) (disch := omega) only [↓reduceIte, go_sem, if_pos, if_neg, ↓q0])
  rw [show (k * 31 + s + 7) % 2147483647 = st0 k s from rfl]
  generalize st0 k s = x at *
  refine awpT_loop (α := Nat) (fun i => ⟨slots [(16, .p (.int .i64 n)), (17, .p (.int .i64 i)), (7, .p (.int .i64 (stX x i))), (8, .os 0 0 i)], [.cells 5 (zOf i 1) (bsT (streamL x i))]⟩) (fun i => i ≤ n) (fun i => n - i) 0 (Nat.zero_le _) (by simp only [zOf_zero, show streamL x 0 = [] from rfl, bs_nil, nat0T, stX, Int.sub_zero]; exact (le_of [0] (by simp (maxSteps := 8000000) (implicitDefEqProofs := false) (disch := omega) only [↓reduceIte, go_sem, if_pos, if_neg]) (by simp (maxSteps := 8000000) (implicitDefEqProofs := false) (disch := omega) only [↓reduceIte, go_sem, if_pos, if_neg]) (by decide) (by simp))) ?_
  intro i hi
  have hb := stX_bd hx i
  have q1 := rem64 (n := stX x i * 16807) (b := 2147483647) (by omega) (by decide)
  have hl : (bsT (streamL x i)).length = i := by rw [bs_len, streamL_len]
  have ht : (bsT (streamL x i)).take i = bsT (streamL x i) := List.take_of_length_le (by omega)
  have hs := streamL_succ x i
  have hx1 : stX x (i + 1) = stX x i * 16807 % 2147483647 := rfl
  simp (maxSteps := 8000000) (implicitDefEqProofs := false) (disch := omega) only [↓reduceIte, go_sem, if_pos, if_neg]
  refine condKT_dec (fun hlt => ?_) (fun hge => ?_)
  · have q2 := rem64 (n := stX x i * 16807 % 2147483647) (b := 256) (by omega) (by decide)
    simp (maxSteps := 8000000) (implicitDefEqProofs := false) (disch := omega) only [↓reduceIte, go_sem, if_pos, if_neg, eq_true hlt, ↓q1, ↓q2, twu8m, sized_b1, zOf_or, hl, ht]
    refine loopKT_next (i + 1) (by omega) (by omega) ?_
    rw [zOf_succ, hs, hx1]
    generalize stX x i * 16807 % 2147483647 = y at *
    exact (le_of [2] (by simp (maxSteps := 8000000) (implicitDefEqProofs := false) (disch := omega) only [↓reduceIte, go_sem, if_pos, if_neg]) (by simp (maxSteps := 8000000) (implicitDefEqProofs := false) (disch := omega) only [↓reduceIte, go_sem, if_pos, if_neg]) (by decide) (by simp))
  · have hN : i = n := by omega
    subst hN
    simp (maxSteps := 8000000) (implicitDefEqProofs := false) (disch := omega) only [↓reduceIte, go_sem, if_pos, if_neg, eq_false hge]
    refine joinK_here ?_
    simp (maxSteps := 8000000) (implicitDefEqProofs := false) (disch := omega) only [↓reduceIte, go_sem, if_pos, if_neg]
    exact endT_of [0] (.inr rfl) (by simp (maxSteps := 8000000) (implicitDefEqProofs := false) (disch := omega) only [↓reduceIte, go_sem, if_pos, if_neg]; rfl) (by simp (maxSteps := 8000000) (implicitDefEqProofs := false) (disch := omega) only [↓reduceIte, go_sem, if_pos, if_neg]) (by simp (maxSteps := 8000000) (implicitDefEqProofs := false) (disch := omega) only [↓reduceIte, go_sem, if_pos, if_neg]) (by decide) (by simp)
-- spec.l14Stream
def c190 : AF := ⟨30,
  (.seq (.reg [⟨(some 6), none, .mv (.v (.slice none 0 0))⟩])
  (.seq (.reg [⟨(some 9), none, .mv (.t 0)⟩,
   ⟨(some 10), none, .bin .mul (.t 9) (.v (.int .i64 31))⟩,
   ⟨(some 11), none, .mv (.t 1)⟩,
   ⟨(some 12), none, .bin .add (.t 10) (.t 11)⟩,
   ⟨(some 13), none, .bin .add (.t 12) (.v (.int .i64 7))⟩,
   ⟨(some 14), none, .bin .rem (.t 13) (.v (.int .i64 2147483647))⟩,
   ⟨(some 7), none, .mv (.t 14)⟩])
  (.seq (.reg [⟨(some 15), none, .mkS 5 0 [] []⟩,
   ⟨(some 8), none, .mv (.t 15)⟩])
  (.seq (.block 0 (.loop (.seq (.seq (.reg [⟨(some 16), none, .mv (.t 2)⟩,
   ⟨(some 17), none, .bin .gtr (.t 16) (.v (.int .i64 0))⟩])
  (.cond (.t 17) .skip
  (.exit 0)))
  (.seq (.block 1 (.seq (.reg [⟨(some 20), none, .mv (.t 7)⟩,
   ⟨(some 21), none, .bin .mul (.t 20) (.v (.int .i64 16807))⟩,
   ⟨(some 22), none, .bin .rem (.t 21) (.v (.int .i64 2147483647))⟩,
   ⟨(some 7), none, .mv (.t 22)⟩])
  (.reg [⟨(some 23), none, .mv (.t 8)⟩,
   ⟨(some 24), none, .mv (.t 7)⟩,
   ⟨(some 25), none, .bin .rem (.t 24) (.v (.int .i64 256))⟩,
   ⟨(some 26), none, .cvI .u8 (.t 25)⟩,
   ⟨(some 27), none, .mkS 5 1 [(.int .u8 0)] [(0, 1, (.t 26))]⟩,
   ⟨(some 28), none, .app 5 1 1 (.t 23) (.t 27)⟩,
   ⟨(some 8), none, .mv (.t 28)⟩])))
  (.reg [⟨(some 18), none, .mv (.t 2)⟩,
   ⟨(some 19), none, .bin .sub (.t 18) (.v (.int .i64 1))⟩,
   ⟨(some 2), none, .mv (.t 19)⟩])))))
  (.seq (.reg [⟨(some 29), none, .mv (.t 8)⟩,
   ⟨(some 6), none, .mv (.t 29)⟩])
  .ret))))),
  [.t 6]⟩
theorem k190 : cFn Try.prog Try.f190 = some c190 := by kernel_rfl
theorem streamS_ok : OkT Try.prog 190 (pureSp stream_S) := by
  refine okT_fn (OkΓT.nil _) Try.func190 (by kernel_rfl) k190 (fun x _ => ⟨rfl, by simp only [go_sem, List.all_cons, List.all_nil]⟩) ?_
  rintro ⟨k, s, n⟩ ⟨hk, hn⟩
  try dsimp only at *
  obtain ⟨⟨k1, k2⟩, s1, s2⟩ := hk
  have q0 := rem64 (n := k * 31 + s + 7) (b := 2147483647) (by omega) (by decide)
  have hx := st0_bd k s
  (dsimp only [c190]; simp (maxSteps := 8000000) (implicitDefEqProofs := false) (disch := omega) only [↓reduceIte, go_sem, if_pos, if_neg, ↓q0])
  rw [show (k * 31 + s + 7) % 2147483647 = st0 k s from rfl]
  generalize st0 k s = x at *
  refine awpT_loop (α := Nat) (fun i => ⟨slots [(2, .p (.int .i64 ((n : Int) - i))), (7, .p (.int .i64 (stX x i))), (8, .os 0 0 i)], [.cells 5 (zOf i 1) (bsT (streamL x i))]⟩) (fun i => i ≤ n) (fun i => n - i) 0 (Nat.zero_le _) (by simp only [zOf_zero, show streamL x 0 = [] from rfl, bs_nil, nat0T, stX, Int.sub_zero]; exact (le_of [0] (by simp (maxSteps := 8000000) (implicitDefEqProofs := false) (disch := omega) only [↓reduceIte, go_sem, if_pos, if_neg]) (by simp (maxSteps := 8000000) (implicitDefEqProofs := false) (disch := omega) only [↓reduceIte, go_sem, if_pos, if_neg]) (by decide) (by simp))) ?_
  intro i hi
  have hb := stX_bd hx i
  have q1 := rem64 (n := stX x i * 16807) (b := 2147483647) (by omega) (by decide)
  have hl : (bsT (streamL x i)).length = i := by rw [bs_len, streamL_len]
  have ht : (bsT (streamL x i)).take i = bsT (streamL x i) := List.take_of_length_le (by omega)
  have hs := streamL_succ x i
  have hx1 : stX x (i + 1) = stX x i * 16807 % 2147483647 := rfl
  simp (maxSteps := 8000000) (implicitDefEqProofs := false) (disch := omega) only [↓reduceIte, go_sem, if_pos, if_neg]
  refine condKT_dec (fun hlt => ?_) (fun hge => ?_)
  · have q2 := rem64 (n := stX x i * 16807 % 2147483647) (b := 256) (by omega) (by decide)
    simp (maxSteps := 8000000) (implicitDefEqProofs := false) (disch := omega) only [↓reduceIte, go_sem, if_pos, if_neg, eq_true hlt, ↓q1, ↓q2, twu8m, sized_b1, zOf_or, hl, ht, show (stX x i * 16807 % 2147483647 % 256) % 256 = stX x i * 16807 % 2147483647 % 256 by omega]
    refine loopKT_next (i + 1) (by omega) (by omega) ?_
    rw [zOf_succ, hs, hx1]
    generalize stX x i * 16807 % 2147483647 = y at *
    exact (le_of [2] (by simp (maxSteps := 8000000) (implicitDefEqProofs := false) (disch := omega) only [↓reduceIte, go_sem, if_pos, if_neg, show ((n : Int) - ((i : Int) + 1)) = (n : Int) - i - 1 by omega]) (by simp (maxSteps := 8000000) (implicitDefEqProofs := false) (disch := omega) only [↓reduceIte, go_sem, if_pos, if_neg, show ((n : Int) - ((i : Int) + 1)) = (n : Int) - i - 1 by omega]) (by decide) (by simp))
  · have hN : i = n := by omega
    subst hN
    simp (maxSteps := 8000000) (implicitDefEqProofs := false) (disch := omega) only [↓reduceIte, go_sem, if_pos, if_neg, eq_false hge]
    refine joinK_here ?_
    simp (maxSteps := 8000000) (implicitDefEqProofs := false) (disch := omega) only [↓reduceIte, go_sem, if_pos, if_neg]
    exact endT_of [0] (.inr rfl) (by simp (maxSteps := 8000000) (implicitDefEqProofs := false) (disch := omega) only [↓reduceIte, go_sem, if_pos, if_neg]; rfl) (by simp (maxSteps := 8000000) (implicitDefEqProofs := false) (disch := omega) only [↓reduceIte, go_sem, if_pos, if_neg]) (by simp (maxSteps := 8000000) (implicitDefEqProofs := false) (disch := omega) only [↓reduceIte, go_sem, if_pos, if_neg]) (by decide) (by simp)
noncomputable def tag_S := specP (fun x : Int × Int × List Int => [.p (.int .i64 x.1), .p (.int .i64 x.2.1), .s (bsT x.2.2)]) (fun x => (keyP x.1 x.2.1) ∧ (isB x.2.2) ∧ (x.2.2.length ≤ 1073741824)) (fun x => (.p (.int .i64 (tagL x.1 x.2.1 x.2.2)), []))
theorem tag_at (k : Int) (s : Int) (l : List Int) (h : (keyP k s) ∧ (isB l) ∧ (l.length ≤ 1073741824)) : tag_S [.p (.int .i64 k), .p (.int .i64 s), .s (bsT l)] = some ((.p (.int .i64 (tagL k s l)), [])) := specP_at (enc := fun x : Int × Int × List Int => [.p (.int .i64 x.1), .p (.int .i64 x.2.1), .s (bsT x.2.2)]) (by rintro ⟨a0, a1, a2⟩ ⟨b0, b1, b2⟩ h; simp only [List.cons.injEq, and_true] at h; obtain ⟨h0, h1, h2⟩ := h; obtain rfl := p64_inj h0; obtain rfl := p64_inj h1; obtain rfl := sby_inj h2; rfl) (k, s, l) h
-- impl.tag
def c106 : AF := ⟨32,
  (.seq (.reg [⟨(some 6), none, .mv (.v (.int .i64 0))⟩])
  (.seq (.reg [⟨(some 10), none, .mv (.t 0)⟩,
   ⟨(some 11), none, .bin .mul (.t 10) (.v (.int .i64 17))⟩,
   ⟨(some 12), none, .mv (.t 1)⟩,
   ⟨(some 13), none, .bin .mul (.t 12) (.v (.int .i64 3))⟩,
   ⟨(some 14), none, .bin .add (.t 11) (.t 13)⟩,
   ⟨(some 15), none, .bin .add (.t 14) (.v (.int .i64 5))⟩,
   ⟨(some 16), none, .bin .rem (.t 15) (.v (.int .i64 1000003))⟩,
   ⟨(some 7), none, .mv (.t 16)⟩])
  (.seq (.seq (.reg [⟨(some 17), none, .mv (.t 2)⟩,
   ⟨(some 18), none, .len (.t 17)⟩,
   ⟨(some 19), none, .mv (.v (.int .i64 0))⟩])
  (.block 0 (.loop (.seq (.reg [⟨(some 20), none, .bin .lss (.t 19) (.t 18)⟩])
  (.seq (.cond (.t 20) .skip
  (.exit 0))
  (.seq (.block 1 (.seq (.reg [⟨(some 21), none, .ia 1 (.t 17) (.t 19)⟩,
   ⟨(some 22), none, .ld (.t 21)⟩,
   ⟨(some 9), none, .mv (.t 22)⟩])
  (.reg [⟨(some 23), none, .mv (.t 7)⟩,
   ⟨(some 24), none, .bin .mul (.t 23) (.v (.int .i64 263))⟩,
   ⟨(some 25), none, .mv (.t 9)⟩,
   ⟨(some 26), none, .cvI .i64 (.t 25)⟩,
   ⟨(some 27), none, .bin .add (.t 24) (.t 26)⟩,
   ⟨(some 28), none, .bin .add (.t 27) (.v (.int .i64 1))⟩,
   ⟨(some 29), none, .bin .rem (.t 28) (.v (.int .i64 1000003))⟩,
   ⟨(some 7), none, .mv (.t 29)⟩])))
  (.reg [⟨(some 30), none, .bin .add (.t 19) (.v (.int .i64 1))⟩,
   ⟨(some 19), none, .mv (.t 30)⟩])))))))
  (.seq (.reg [⟨(some 31), none, .mv (.t 7)⟩,
   ⟨(some 6), none, .mv (.t 31)⟩])
  .ret)))),
  [.t 6]⟩
theorem k106 : cFn Try.prog Try.f106 = some c106 := by kernel_rfl
theorem tagI_ok : OkT Try.prog 106 (pureSp tag_S) := by
  refine okT_fn (OkΓT.nil _) Try.func106 (by kernel_rfl) k106 (fun x _ => ⟨by first | rfl | simp only [go_sem], by first | rfl | simp only [go_sem]⟩) ?_
  rintro ⟨k, s, l⟩ ⟨hk, h1, h2⟩
  try dsimp only at *
  obtain ⟨⟨k1, k2⟩, s1, s2⟩ := hk
  have q0 := rem64 (n := k * 17 + s * 3 + 5) (b := 1000003) (by omega) (by decide)
  have hlen := bs_len l
  (dsimp only [c106]; simp (maxSteps := 8000000) (implicitDefEqProofs := false) (disch := omega) only [↓reduceIte, go_sem, if_pos, if_neg, ↓q0, hlen])
  refine awpT_loop (α := Nat) (fun i => ⟨slots [(7, .p (.int .i64 (tagL k s (l.take i)))), (17, .s (bsT l)), (18, .p (.int .i64 l.length)), (19, .p (.int .i64 i))], []⟩) (fun i => i ≤ l.length) (fun i => l.length - i) 0 (Nat.zero_le _) (by simp only [List.take_zero, show tagL k s [] = (k * 17 + s * 3 + 5) % 1000003 from rfl, nat0T]; exact (le_of [] (by simp (maxSteps := 8000000) (implicitDefEqProofs := false) (disch := omega) only [↓reduceIte, go_sem, if_pos, if_neg]) (by simp (maxSteps := 8000000) (implicitDefEqProofs := false) (disch := omega) only [↓reduceIte, go_sem, if_pos, if_neg]) (by decide) (by simp))) ?_
  intro i hi
  have hb := tagL_bd k s l i
  simp (maxSteps := 8000000) (implicitDefEqProofs := false) (disch := omega) only [↓reduceIte, go_sem, if_pos, if_neg, hlen]
  refine condKT_dec (fun hlt => ?_) (fun hge => ?_)
  · have hi' : i < l.length := by omega
    have hy := bs_get hi'
    have hel := isB_get h1 i
    have q1 := rem64 (n := tagL k s (l.take i) * 263 + l.getD i 0 + 1) (b := 1000003) (by omega) (by decide)
    have hs := tag_step k s l i hi'
    simp (maxSteps := 8000000) (implicitDefEqProofs := false) (disch := omega) only [↓reduceIte, go_sem, if_pos, if_neg, eq_true hlt, hlen, Int.toNat_natCast, hy, ↓q1]
    refine loopKT_next (i + 1) (by omega) (by omega) ?_
    rw [hs]
    exact (le_of [] (by simp (maxSteps := 8000000) (implicitDefEqProofs := false) (disch := omega) only [↓reduceIte, go_sem, if_pos, if_neg]) (by simp (maxSteps := 8000000) (implicitDefEqProofs := false) (disch := omega) only [↓reduceIte, go_sem, if_pos, if_neg]) (by decide) (by simp))
  · have hN : i = l.length := by omega
    subst hN
    simp (maxSteps := 8000000) (implicitDefEqProofs := false) (disch := omega) only [↓reduceIte, go_sem, if_pos, if_neg, eq_false hge, List.take_length]
    refine joinK_here ?_
    simp (maxSteps := 8000000) (implicitDefEqProofs := false) (disch := omega) only [↓reduceIte, go_sem, if_pos, if_neg]
    exact endT_of [] (.inr rfl) (by simp (maxSteps := 8000000) (implicitDefEqProofs := false) (disch := omega) only [↓reduceIte, go_sem, if_pos, if_neg]; rfl) (by simp (maxSteps := 8000000) (implicitDefEqProofs := false) (disch := omega) only [↓reduceIte, go_sem, if_pos, if_neg]) (by simp (maxSteps := 8000000) (implicitDefEqProofs := false) (disch := omega) only [↓reduceIte, go_sem, if_pos, if_neg]) (by decide) (by simp)
-- spec.l14Tag
def c110 : AF := ⟨33,
  (.seq (.reg [⟨(some 6), none, .mv (.v (.int .i64 0))⟩])
  (.seq (.reg [⟨(some 9), none, .mv (.t 0)⟩,
   ⟨(some 10), none, .bin .mul (.t 9) (.v (.int .i64 17))⟩,
   ⟨(some 11), none, .mv (.t 1)⟩,
   ⟨(some 12), none, .bin .mul (.t 11) (.v (.int .i64 3))⟩,
   ⟨(some 13), none, .bin .add (.t 10) (.t 12)⟩,
   ⟨(some 14), none, .bin .add (.t 13) (.v (.int .i64 5))⟩,
   ⟨(some 15), none, .bin .rem (.t 14) (.v (.int .i64 1000003))⟩,
   ⟨(some 7), none, .mv (.t 15)⟩])
  (.seq (.seq (.reg [⟨(some 8), none, .mv (.v (.int .i64 0))⟩])
  (.block 0 (.loop (.seq (.seq (.reg [⟨(some 16), none, .mv (.t 8)⟩,
   ⟨(some 17), none, .mv (.t 2)⟩,
   ⟨(some 18), none, .len (.t 17)⟩,
   ⟨(some 19), none, .bin .lss (.t 16) (.t 18)⟩])
  (.cond (.t 19) .skip
  (.exit 0)))
  (.seq (.block 1 (.reg [⟨(some 22), none, .mv (.t 7)⟩,
   ⟨(some 23), none, .bin .mul (.t 22) (.v (.int .i64 263))⟩,
   ⟨(some 24), none, .mv (.t 2)⟩,
   ⟨(some 25), none, .mv (.t 8)⟩,
   ⟨(some 26), none, .ia 1 (.t 24) (.t 25)⟩,
   ⟨(some 27), none, .ld (.t 26)⟩,
   ⟨(some 28), none, .cvI .i64 (.t 27)⟩,
   ⟨(some 29), none, .bin .add (.t 23) (.t 28)⟩,
   ⟨(some 30), none, .bin .add (.t 29) (.v (.int .i64 1))⟩,
   ⟨(some 31), none, .bin .rem (.t 30) (.v (.int .i64 1000003))⟩,
   ⟨(some 7), none, .mv (.t 31)⟩]))
  (.reg [⟨(some 20), none, .mv (.t 8)⟩,
   ⟨(some 21), none, .bin .add (.t 20) (.v (.int .i64 1))⟩,
   ⟨(some 8), none, .mv (.t 21)⟩]))))))
  (.seq (.reg [⟨(some 32), none, .mv (.t 7)⟩,
   ⟨(some 6), none, .mv (.t 32)⟩])
  .ret)))),
  [.t 6]⟩
theorem k110 : cFn Try.prog Try.f110 = some c110 := by kernel_rfl
theorem tagS_ok : OkT Try.prog 110 (pureSp tag_S) := by
  refine okT_fn (OkΓT.nil _) Try.func110 (by kernel_rfl) k110 (fun x _ => ⟨by first | rfl | simp only [go_sem], by first | rfl | simp only [go_sem]⟩) ?_
  rintro ⟨k, s, l⟩ ⟨hk, h1, h2⟩
  try dsimp only at *
  obtain ⟨⟨k1, k2⟩, s1, s2⟩ := hk
  have q0 := rem64 (n := k * 17 + s * 3 + 5) (b := 1000003) (by omega) (by decide)
  have hlen := bs_len l
  (dsimp only [c110]; simp (maxSteps := 8000000) (implicitDefEqProofs := false) (disch := omega) only [↓reduceIte, go_sem, if_pos, if_neg, ↓q0, hlen])
  refine awpT_loop (α := Nat) (fun i => ⟨slots [(7, .p (.int .i64 (tagL k s (l.take i)))), (2, .s (bsT l)), (8, .p (.int .i64 i))], []⟩) (fun i => i ≤ l.length) (fun i => l.length - i) 0 (Nat.zero_le _) (by simp only [List.take_zero, show tagL k s [] = (k * 17 + s * 3 + 5) % 1000003 from rfl, nat0T]; exact (le_of [] (by simp (maxSteps := 8000000) (implicitDefEqProofs := false) (disch := omega) only [↓reduceIte, go_sem, if_pos, if_neg]) (by simp (maxSteps := 8000000) (implicitDefEqProofs := false) (disch := omega) only [↓reduceIte, go_sem, if_pos, if_neg]) (by decide) (by simp))) ?_
  intro i hi
  have hb := tagL_bd k s l i
  simp (maxSteps := 8000000) (implicitDefEqProofs := false) (disch := omega) only [↓reduceIte, go_sem, if_pos, if_neg, hlen]
  refine condKT_dec (fun hlt => ?_) (fun hge => ?_)
  · have hi' : i < l.length := by omega
    have hy := bs_get hi'
    have hel := isB_get h1 i
    have q1 := rem64 (n := tagL k s (l.take i) * 263 + l.getD i 0 + 1) (b := 1000003) (by omega) (by decide)
    have hs := tag_step k s l i hi'
    simp (maxSteps := 8000000) (implicitDefEqProofs := false) (disch := omega) only [↓reduceIte, go_sem, if_pos, if_neg, eq_true hlt, hlen, Int.toNat_natCast, hy, ↓q1]
    refine loopKT_next (i + 1) (by omega) (by omega) ?_
    rw [hs]
    exact (le_of [] (by simp (maxSteps := 8000000) (implicitDefEqProofs := false) (disch := omega) only [↓reduceIte, go_sem, if_pos, if_neg]) (by simp (maxSteps := 8000000) (implicitDefEqProofs := false) (disch := omega) only [↓reduceIte, go_sem, if_pos, if_neg]) (by decide) (by simp))
  · have hN : i = l.length := by omega
    subst hN
    simp (maxSteps := 8000000) (implicitDefEqProofs := false) (disch := omega) only [↓reduceIte, go_sem, if_pos, if_neg, eq_false hge, List.take_length]
    refine joinK_here ?_
    simp (maxSteps := 8000000) (implicitDefEqProofs := false) (disch := omega) only [↓reduceIte, go_sem, if_pos, if_neg]
    exact endT_of [] (.inr rfl) (by simp (maxSteps := 8000000) (implicitDefEqProofs := false) (disch := omega) only [↓reduceIte, go_sem, if_pos, if_neg]; rfl) (by simp (maxSteps := 8000000) (implicitDefEqProofs := false) (disch := omega) only [↓reduceIte, go_sem, if_pos, if_neg]) (by simp (maxSteps := 8000000) (implicitDefEqProofs := false) (disch := omega) only [↓reduceIte, go_sem, if_pos, if_neg]) (by decide) (by simp)
noncomputable def mix_S := specP (fun x : Int × Int × List Int => [.p (.int .i64 x.1), .p (.int .i64 x.2.1), .s (bsT x.2.2)]) (fun x => (keyP x.1 x.2.1) ∧ (isB x.2.2) ∧ (x.2.2.length ≤ 1073741824)) (fun x => (.os 0 0 x.2.2.length, [.cells 5 (zOf x.2.2.length 1) (bsT (mixL x.1 x.2.1 x.2.2))]))
theorem mix_at (k : Int) (s : Int) (l : List Int) (h : (keyP k s) ∧ (isB l) ∧ (l.length ≤ 1073741824)) : mix_S [.p (.int .i64 k), .p (.int .i64 s), .s (bsT l)] = some ((.os 0 0 l.length, [.cells 5 (zOf l.length 1) (bsT (mixL k s l))])) := specP_at (enc := fun x : Int × Int × List Int => [.p (.int .i64 x.1), .p (.int .i64 x.2.1), .s (bsT x.2.2)]) (by rintro ⟨a0, a1, a2⟩ ⟨b0, b1, b2⟩ h; simp only [List.cons.injEq, and_true] at h; obtain ⟨h0, h1, h2⟩ := h; obtain rfl := p64_inj h0; obtain rfl := p64_inj h1; obtain rfl := sby_inj h2; rfl) (k, s, l) h
-- impl.turned
def c104 : AF := ⟨31,
  (.seq (.reg [⟨(some 6), none, .mv (.v (.slice none 0 0))⟩])
  (.seq (.reg [⟨(some 10), none, .mv (.t 0)⟩,
   ⟨(some 11), none, .mv (.t 1)⟩,
   ⟨(some 12), none, .mv (.t 2)⟩,
   ⟨(some 13), none, .len (.t 12)⟩,
   ⟨(some 14), none, .call 189 [(.t 10), (.t 11), (.t 13)]⟩,
   ⟨(some 7), none, .mv (.t 14)⟩])
  (.seq (.seq (.reg [⟨(some 15), none, .mv (.t 2)⟩,
   ⟨(some 16), none, .len (.t 15)⟩,
   ⟨(some 17), none, .mv (.v (.int .i64 0))⟩])
  (.block 0 (.loop (.seq (.reg [⟨(some 18), none, .bin .lss (.t 17) (.t 16)⟩])
  (.seq (.cond (.t 18) .skip
  (.exit 0))
  (.seq (.block 1 (.seq (.reg [⟨(some 19), none, .mv (.t 17)⟩,
   ⟨(some 20), none, .ia 1 (.t 15) (.t 17)⟩,
   ⟨(some 21), none, .ld (.t 20)⟩,
   ⟨(some 8), none, .mv (.t 19)⟩,
   ⟨(some 9), none, .mv (.t 21)⟩])
  (.reg [⟨(some 22), none, .mv (.t 7)⟩,
   ⟨(some 23), none, .mv (.t 8)⟩,
   ⟨(some 24), none, .ia 1 (.t 22) (.t 23)⟩,
   ⟨(some 25), none, .ld (.t 24)⟩,
   ⟨(some 26), none, .mv (.t 9)⟩,
   ⟨(some 27), none, .bin .xor (.t 25) (.t 26)⟩,
   ⟨(some 28), none, .ia 1 (.t 22) (.t 23)⟩,
   ⟨none, none, .st 1 (.t 28) (.t 27)⟩])))
  (.reg [⟨(some 29), none, .bin .add (.t 17) (.v (.int .i64 1))⟩,
   ⟨(some 17), none, .mv (.t 29)⟩])))))))
  (.seq (.reg [⟨(some 30), none, .mv (.t 7)⟩,
   ⟨(some 6), none, .mv (.t 30)⟩])
  .ret)))),
  [.t 6]⟩
theorem k104 : cFn Try.prog Try.f104 = some c104 := by kernel_rfl
theorem mixI_ok : OkT Try.prog 104 (pureSp mix_S) := by
  refine okT_fn (OkΓT.cons streamI_ok (OkΓT.nil _)) Try.func104 (by kernel_rfl) k104 (fun x _ => ⟨rfl, by simp only [go_sem, List.all_cons, List.all_nil]⟩) ?_
  rintro ⟨k, s, l⟩ ⟨hk, h1, h2⟩
  try dsimp only at *
  have hlen := bs_len l
  have q := stream_at k s l.length ⟨hk, h2⟩
  have hsl := streamL_len (st0 k s) l.length
  have hml : mixL k s l = mixW (streamL (st0 k s) l.length) l := rfl
  rw [hml]
  generalize streamL (st0 k s) l.length = S at *
  (dsimp only [c104]; simp (maxSteps := 8000000) (implicitDefEqProofs := false) (disch := omega) only [↓reduceIte, go_sem, if_pos, if_neg, hlen, q])
  refine awpT_loop (α := Nat) (fun i => ⟨slots [(7, .os 0 0 l.length), (15, .s (bsT l)), (16, .p (.int .i64 l.length)), (17, .p (.int .i64 i))], [.cells 5 (zOf l.length 1) (bsT (mixC S l i))]⟩) (fun i => i ≤ l.length) (fun i => l.length - i) 0 (Nat.zero_le _) (by simp only [mixC_none, nat0T]; exact (le_of [0] (by simp (maxSteps := 8000000) (implicitDefEqProofs := false) (disch := omega) only [↓reduceIte, go_sem, if_pos, if_neg]) (by simp (maxSteps := 8000000) (implicitDefEqProofs := false) (disch := omega) only [↓reduceIte, go_sem, if_pos, if_neg]) (by decide) (by simp))) ?_
  intro i hi
  simp (maxSteps := 8000000) (implicitDefEqProofs := false) (disch := omega) only [↓reduceIte, go_sem, if_pos, if_neg, hlen]
  refine condKT_dec (fun hlt => ?_) (fun hge => ?_)
  · have hi' : i < l.length := by omega
    have hz : zOf l.length 1 = 1 := by unfold zOf; rw [if_neg (by omega)]
    have hy := bs_get hi'
    have hm := mixC_get S l i hsl hi'
    have hs := mixC_step S l i hsl hi'
    have hxx := xor_u8 (S.getD i 0) (l.getD i 0)
    simp (maxSteps := 8000000) (implicitDefEqProofs := false) (disch := omega) only [↓reduceIte, go_sem, if_pos, if_neg, eq_true hlt, hlen, Int.toNat_natCast, Nat.zero_add, hy, hz, hm, hs, ↓hxx]
    refine loopKT_next (i + 1) (by omega) (by omega) ?_
    rw [hz]
    exact (le_of [0] (by simp (maxSteps := 8000000) (implicitDefEqProofs := false) (disch := omega) only [↓reduceIte, go_sem, if_pos, if_neg]) (by simp (maxSteps := 8000000) (implicitDefEqProofs := false) (disch := omega) only [↓reduceIte, go_sem, if_pos, if_neg]) (by decide) (by simp))
  · have hN : i = l.length := by omega
    subst hN
    have hf := mixC_full S l hsl
    simp (maxSteps := 8000000) (implicitDefEqProofs := false) (disch := omega) only [↓reduceIte, go_sem, if_pos, if_neg, eq_false hge, hf]
    refine joinK_here ?_
    simp (maxSteps := 8000000) (implicitDefEqProofs := false) (disch := omega) only [↓reduceIte, go_sem, if_pos, if_neg]
    exact endT_of [0] (.inr rfl) (by simp (maxSteps := 8000000) (implicitDefEqProofs := false) (disch := omega) only [↓reduceIte, go_sem, if_pos, if_neg]; rfl) (by simp (maxSteps := 8000000) (implicitDefEqProofs := false) (disch := omega) only [↓reduceIte, go_sem, if_pos, if_neg]) (by simp (maxSteps := 8000000) (implicitDefEqProofs := false) (disch := omega) only [↓reduceIte, go_sem, if_pos, if_neg]) (by decide) (by simp)
-- spec.l14Mix
def c108 : AF := ⟨33,
  (.seq (.reg [⟨(some 6), none, .mv (.v (.slice none 0 0))⟩])
  (.seq (.reg [⟨(some 9), none, .mv (.t 0)⟩,
   ⟨(some 10), none, .mv (.t 1)⟩,
   ⟨(some 11), none, .mv (.t 2)⟩,
   ⟨(some 12), none, .len (.t 11)⟩,
   ⟨(some 13), none, .call 190 [(.t 9), (.t 10), (.t 12)]⟩,
   ⟨(some 7), none, .mv (.t 13)⟩])
  (.seq (.seq (.reg [⟨(some 8), none, .mv (.v (.int .i64 0))⟩])
  (.block 0 (.loop (.seq (.seq (.reg [⟨(some 14), none, .mv (.t 8)⟩,
   ⟨(some 15), none, .mv (.t 7)⟩,
   ⟨(some 16), none, .len (.t 15)⟩,
   ⟨(some 17), none, .bin .lss (.t 14) (.t 16)⟩])
  (.cond (.t 17) .skip
  (.exit 0)))
  (.seq (.block 1 (.drw [⟨(some 20), none, .mv (.t 7)⟩,
   ⟨(some 21), none, .mv (.t 8)⟩,
   ⟨(some 22), none, .mv (.t 7)⟩,
   ⟨(some 23), none, .mv (.t 8)⟩,
   ⟨(some 24), none, .ia 1 (.t 22) (.t 23)⟩,
   ⟨(some 25), none, .ld (.t 24)⟩,
   ⟨(some 26), none, .mv (.t 2)⟩,
   ⟨(some 27), none, .mv (.t 8)⟩,
   ⟨(some 28), none, .ia 1 (.t 26) (.t 27)⟩,
   ⟨(some 29), none, .ld (.t 28)⟩,
   ⟨(some 30), none, .bin .xor (.t 25) (.t 29)⟩] [⟨(some 31), none, .ia 1 (.t 20) (.t 21)⟩,
   ⟨none, none, .st 1 (.t 31) (.t 30)⟩]))
  (.reg [⟨(some 18), none, .mv (.t 8)⟩,
   ⟨(some 19), none, .bin .add (.t 18) (.v (.int .i64 1))⟩,
   ⟨(some 8), none, .mv (.t 19)⟩]))))))
  (.seq (.reg [⟨(some 32), none, .mv (.t 7)⟩,
   ⟨(some 6), none, .mv (.t 32)⟩])
  .ret)))),
  [.t 6]⟩
theorem k108 : cFn Try.prog Try.f108 = some c108 := by kernel_rfl
theorem mixS_ok : OkT Try.prog 108 (pureSp mix_S) := by
  refine okT_fn (OkΓT.cons streamS_ok (OkΓT.nil _)) Try.func108 (by kernel_rfl) k108 (fun x _ => ⟨rfl, by simp only [go_sem, List.all_cons, List.all_nil]⟩) ?_
  rintro ⟨k, s, l⟩ ⟨hk, h1, h2⟩
  try dsimp only at *
  have hlen := bs_len l
  have q := stream_at k s l.length ⟨hk, h2⟩
  have hsl := streamL_len (st0 k s) l.length
  have hml : mixL k s l = mixW (streamL (st0 k s) l.length) l := rfl
  rw [hml]
  generalize streamL (st0 k s) l.length = S at *
  (dsimp only [c108]; simp (maxSteps := 8000000) (implicitDefEqProofs := false) (disch := omega) only [↓reduceIte, go_sem, if_pos, if_neg, hlen, q])
  refine awpT_loop (α := Nat) (fun i => ⟨slots [(7, .os 0 0 l.length), (2, .s (bsT l)), (8, .p (.int .i64 i))], [.cells 5 (zOf l.length 1) (bsT (mixC S l i))]⟩) (fun i => i ≤ l.length) (fun i => l.length - i) 0 (Nat.zero_le _) (by simp only [mixC_none, nat0T]; exact (le_of [0] (by simp (maxSteps := 8000000) (implicitDefEqProofs := false) (disch := omega) only [↓reduceIte, go_sem, if_pos, if_neg]) (by simp (maxSteps := 8000000) (implicitDefEqProofs := false) (disch := omega) only [↓reduceIte, go_sem, if_pos, if_neg]) (by decide) (by simp))) ?_
  intro i hi
  simp (maxSteps := 8000000) (implicitDefEqProofs := false) (disch := omega) only [↓reduceIte, go_sem, if_pos, if_neg, hlen]
  refine condKT_dec (fun hlt => ?_) (fun hge => ?_)
  · have hi' : i < l.length := by omega
    have hz : zOf l.length 1 = 1 := by unfold zOf; rw [if_neg (by omega)]
    have hy := bs_get hi'
    have hm := mixC_get S l i hsl hi'
    have hs := mixC_step S l i hsl hi'
    have hxx := xor_u8 (S.getD i 0) (l.getD i 0)
    simp (maxSteps := 8000000) (implicitDefEqProofs := false) (disch := omega) only [↓reduceIte, go_sem, if_pos, if_neg, eq_true hlt, hlen, Int.toNat_natCast, Nat.zero_add, hy, hz, hm, hs, ↓hxx]
    refine loopKT_next (i + 1) (by omega) (by omega) ?_
    rw [hz]
    exact (le_of [0] (by simp (maxSteps := 8000000) (implicitDefEqProofs := false) (disch := omega) only [↓reduceIte, go_sem, if_pos, if_neg]) (by simp (maxSteps := 8000000) (implicitDefEqProofs := false) (disch := omega) only [↓reduceIte, go_sem, if_pos, if_neg]) (by decide) (by simp))
  · have hN : i = l.length := by omega
    subst hN
    have hf := mixC_full S l hsl
    simp (maxSteps := 8000000) (implicitDefEqProofs := false) (disch := omega) only [↓reduceIte, go_sem, if_pos, if_neg, eq_false hge, hf]
    refine joinK_here ?_
    simp (maxSteps := 8000000) (implicitDefEqProofs := false) (disch := omega) only [↓reduceIte, go_sem, if_pos, if_neg]
    exact endT_of [0] (.inr rfl) (by simp (maxSteps := 8000000) (implicitDefEqProofs := false) (disch := omega) only [↓reduceIte, go_sem, if_pos, if_neg]; rfl) (by simp (maxSteps := 8000000) (implicitDefEqProofs := false) (disch := omega) only [↓reduceIte, go_sem, if_pos, if_neg]) (by simp (maxSteps := 8000000) (implicitDefEqProofs := false) (disch := omega) only [↓reduceIte, go_sem, if_pos, if_neg]) (by decide) (by simp)
end Go.Proofs.Ytkijbknnbmbnbaa
