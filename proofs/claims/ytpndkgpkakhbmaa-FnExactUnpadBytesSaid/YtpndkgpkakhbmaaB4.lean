import Derived.Test.YtpndkgpkakhbmaaB3
set_option linter.unusedSimpArgs false
set_option linter.unusedVariables false
set_option maxRecDepth 100000
namespace Go.Proofs.Ytpndkgpkakhbmaa
open Go Go.AH
attribute [local go_sem ↓] awp_skip awp_ret awp_exit awp_seq awp_reg awp_drw awp_cond awp_block seqK_normal seqK_ret seqK_exit blkK_normal blkK_ret loopK_normal loopK_ret loopK_exit rops_nil qops_nil rops_op rops_op0 rops_opg qops_op qops_op0 qops_opg gdK_tt gdK_ff gdK_tf gdK_ft kont_some condK_true condK_false
attribute [local go_sem] tag_eq blkK_exit put_at argσ_nil argσ_cons ev_t ev_v ctx_get getB_bool getI_int getP_ptr Option.map_some Option.bind_some List.map_cons List.map_nil
attribute [local congr] kont_cong condK_cong gdK_cong awp_cong rops_cong qops_cong
def in_sp : Sp := fun _ args h => match args with
  | [.int .i64 a, .int .i64 b, .int .i64 c] => some (.bool (decide (b ≤ a) && decide (a ≤ c)), h)
  | _ => none
theorem l1In_ok : Ok Try.prog 56 in_sp := by
  refine ok_quiet (OkΓ.nil _) Try.func56 (by kernel_rfl) k56 ?_ ?_
  · intro lo args h r h' hs
    unfold in_sp at hs; split at hs <;> cases hs
    exact Fr.refl _ _
  · intro lo args h r h' hs
    unfold in_sp at hs; split at hs <;> cases hs
    rename_i a b c
    by_cases h1 : b ≤ a <;> by_cases h2 : a ≤ c
    all_goals
      (dsimp only [c56]; simp (maxSteps := 1000000) (implicitDefEqProofs := false) only [go_sem, Bool.false_eq_true, slc, aop, abin, aun, intB, ↓reduceIte, Nat.reduceEqDiff, Nat.reduceSub, ne_eq, not_false_eq_true, Option.map, Option.bind, ge_iff_le, h1, h2, decide_true, decide_false])
      exact ⟨by simp, done_as (by simp [rres, rresL, rres1, put_at, h1, h2]) rfl⟩
theorem in_ok : Ok Try.prog 58 in_sp := by
  refine ok_quiet (OkΓ.nil _) Try.func58 (by kernel_rfl) k58 ?_ ?_
  · intro lo args h r h' hs
    unfold in_sp at hs; split at hs <;> cases hs
    exact Fr.refl _ _
  · intro lo args h r h' hs
    unfold in_sp at hs; split at hs <;> cases hs
    rename_i a b c
    by_cases h1 : b ≤ a <;> by_cases h2 : a ≤ c
    all_goals
      (dsimp only [c58]; simp (maxSteps := 1000000) (implicitDefEqProofs := false) only [go_sem, Bool.false_eq_true, slc, aop, abin, aun, intB, ↓reduceIte, Nat.reduceEqDiff, Nat.reduceSub, ne_eq, not_false_eq_true, Option.map, Option.bind, ge_iff_le, h1, h2, decide_true, decide_false])
      exact ⟨by simp, done_as (by simp [rres, rresL, rres1, put_at, h1, h2]) rfl⟩
theorem or256 {n b : Int} (h0 : 0 ≤ n) (h1 : n < 36028797018963968) (hb : 0 ≤ b ∧ b < 256) :
    IntKind.i64.wrap (BitVec.ofInt 64 (IntKind.i64.wrap (n * 2 ^ (min (Int.toNat 8) 64))) ||| BitVec.ofInt 64 b).toNat = n * 256 + b := by
  obtain ⟨N, rfl⟩ := Int.eq_ofNat_of_zero_le h0
  obtain ⟨B, rfl⟩ := Int.eq_ofNat_of_zero_le hb.1
  have e1 : IntKind.i64.bits = 64 := rfl
  have hw := w64 (n := (N : Int) * 256) (by omega)
  rw [show min (Int.toNat 8) 64 = 8 from rfl, show (2 : Int) ^ 8 = 256 from rfl, hw]
  have e2 : ((N : Int) * 256) = ((N * 256 : Nat) : Int) := by simp
  have e3 : (BitVec.ofInt 64 ((N * 256 : Nat) : Int) ||| BitVec.ofInt 64 (B : Int)).toNat = N * 256 + B := by
    rw [BitVec.toNat_or]
    simp only [BitVec.ofInt_natCast, BitVec.toNat_ofNat]
    rw [Nat.mod_eq_of_lt (by omega), Nat.mod_eq_of_lt (by omega)]
    have h8 := Nat.shiftLeft_add_eq_or_of_lt (i := 8) (b := B) (by omega) N
    rw [Nat.shiftLeft_eq, show (2 : Nat) ^ 8 = 256 from rfl] at h8
    exact h8.symm
  rw [e2, e3, w64 (n := ((N * 256 + B : Nat) : Int)) (by omega)]; simp
def take_sp : Sp := fun _ args h => match args with
  | [s] => (rdU h s).bind fun l => if l.length ≤ 7 then some (.int .i64 (takeN l), h) else none
  | _ => none
theorem take_ok : Ok Try.prog 59 take_sp := by
  refine ok_quiet (OkΓ.nil _) Try.func59 (by kernel_rfl) k59 ?_ ?_
  · intro lo args h r h' hs
    unfold take_sp at hs; split at hs
    · obtain ⟨l, _, hs⟩ := Option.bind_eq_some_iff.1 hs
      split at hs <;> cases hs; exact Fr.refl _ _
    · cases hs
  · intro lo args h r h' hs
    unfold take_sp at hs; split at hs
    · rename_i s
      obtain ⟨l, hl, hs⟩ := Option.bind_eq_some_iff.1 hs
      split at hs <;> cases hs
      rename_i hcond
      obtain ⟨a, c, rfl, hb, hc⟩ := rdU_spec hl
      clear hs hl
      (dsimp only [c59]; simp (maxSteps := 1000000) (implicitDefEqProofs := false) only [go_sem, Bool.false_eq_true, slc, aop, abin, aun, intB, ↓reduceIte, Nat.reduceEqDiff, Nat.reduceSub, ne_eq, not_false_eq_true, Option.map, Option.bind])
      refine awp_loop (fun m s => ∃ (k : Nat) (σ : Nat → Value), s = ⟨σ, h⟩ ∧ m = l.length - k ∧ k ≤ l.length ∧ σ 6 = .slice a l.length c ∧ σ 7 = .int .i64 l.length ∧
        σ 3 = .int .i64 (takeN (l.take k)) ∧ σ 8 = .int .i64 k) l.length ⟨0, _, rfl, by simp, by simp, by simp (maxSteps := 1000000) (implicitDefEqProofs := false) only [go_sem, Bool.false_eq_true, slc, aop, abin, aun, intB, ↓reduceIte, Nat.reduceEqDiff, Nat.reduceSub, ne_eq, not_false_eq_true, Option.map, Option.bind], by simp (maxSteps := 1000000) (implicitDefEqProofs := false) only [go_sem, Bool.false_eq_true, slc, aop, abin, aun, intB, ↓reduceIte, Nat.reduceEqDiff, Nat.reduceSub, ne_eq, not_false_eq_true, Option.map, Option.bind], by simp (maxSteps := 1000000) (implicitDefEqProofs := false) only [go_sem, Bool.false_eq_true, slc, aop, abin, aun, intB, ↓reduceIte, Nat.reduceEqDiff, Nat.reduceSub, ne_eq, not_false_eq_true, Option.map, Option.bind]; rfl, by simp (maxSteps := 1000000) (implicitDefEqProofs := false) only [go_sem, Bool.false_eq_true, slc, aop, abin, aun, intB, ↓reduceIte, Nat.reduceEqDiff, Nat.reduceSub, ne_eq, not_false_eq_true, Option.map, Option.bind]; rfl⟩ ?_
      intro m s ⟨k, σ, hs, hm, hk, e6, e7, e3, e8⟩
      subst hs
      simp (maxSteps := 1000000) (implicitDefEqProofs := false) only [go_sem, Bool.false_eq_true, slc, aop, abin, aun, intB, ↓reduceIte, Nat.reduceEqDiff, Nat.reduceSub, ne_eq, not_false_eq_true, Option.map, Option.bind, e6, e7, e3, e8]
      refine condK_dec (fun hlt => ?_) (fun hge => ?_)
      · obtain ⟨b, o, e, bs, rfl, hbk, hcell⟩ := hc k (by omega)
        have hbd := takeN_bd l hb k
        have hp := pow256 (k := k) (by omega)
        have hsn : takeN (l.take (k + 1)) = takeN (l.take k) * 256 + l.getD k 0 := by
          rw [List.take_succ_eq_append_getElem (by omega), takeN_snoc]; simp [show k < l.length by omega]
        have hel : 0 ≤ l.getD k 0 ∧ l.getD k 0 < 256 := by
          have := hb l[k] (by simp); simpa [show k < l.length by omega] using this
        have hp6 : (256 : Int) ^ k ≤ 281474976710656 := by
          have : k = 0 ∨ k = 1 ∨ k = 2 ∨ k = 3 ∨ k = 4 ∨ k = 5 ∨ k = 6 := by omega
          rcases this with rfl | rfl | rfl | rfl | rfl | rfl | rfl <;> decide
        have q2 : (0 ≤ (k : Int) ∧ (k : Int) < l.length) = True := eq_true ⟨by omega, by omega⟩
        have q3 : o + (k : Int).toNat * 1 = o + k := by omega
        have q5 := w64 (n := l.getD k 0) (by omega)
        have q6 := or256 (n := takeN (l.take k)) (b := l.getD k 0) hbd.1 (by omega) hel
        have q7 := w64 (n := (k : Int) + 1) (by omega)
        have q8 : ((8 : Int) < 0) = False := by simp
        simp (maxSteps := 1000000) (implicitDefEqProofs := false) only [go_sem, Bool.false_eq_true, slc, aop, abin, aun, intB, ↓reduceIte, Nat.reduceEqDiff, Nat.reduceSub, ne_eq, not_false_eq_true, Option.map, Option.bind, e6, e7, e3, e8, q2, q3, q5, q6, q7, q8, hbk, hcell]
        exact ⟨l.length - (k + 1), by omega, k + 1, _, rfl, rfl, by omega, by simp (maxSteps := 1000000) (implicitDefEqProofs := false) only [go_sem, Bool.false_eq_true, slc, aop, abin, aun, intB, ↓reduceIte, Nat.reduceEqDiff, Nat.reduceSub, ne_eq, not_false_eq_true, Option.map, Option.bind, e6], by simp (maxSteps := 1000000) (implicitDefEqProofs := false) only [go_sem, Bool.false_eq_true, slc, aop, abin, aun, intB, ↓reduceIte, Nat.reduceEqDiff, Nat.reduceSub, ne_eq, not_false_eq_true, Option.map, Option.bind, e7], by simp (maxSteps := 1000000) (implicitDefEqProofs := false) only [go_sem, Bool.false_eq_true, slc, aop, abin, aun, intB, ↓reduceIte, Nat.reduceEqDiff, Nat.reduceSub, ne_eq, not_false_eq_true, Option.map, Option.bind]; rw [hsn]; exact congrArg (Value.int .i64) q6, by simp (maxSteps := 1000000) (implicitDefEqProofs := false) only [go_sem, Bool.false_eq_true, slc, aop, abin, aun, intB, ↓reduceIte, Nat.reduceEqDiff, Nat.reduceSub, ne_eq, not_false_eq_true, Option.map, Option.bind]; rfl⟩
      · have hkN : k = l.length := by omega
        subst hkN
        rw [List.take_length] at e3
        try simp (maxSteps := 1000000) (implicitDefEqProofs := false) only [go_sem, Bool.false_eq_true, slc, aop, abin, aun, intB, ↓reduceIte, Nat.reduceEqDiff, Nat.reduceSub, ne_eq, not_false_eq_true, Option.map, Option.bind, e3]
        exact ⟨by simp, done_as (by simp [rres, rresL, rres1, put_at, e3]) rfl⟩
    · cases hs
end Go.Proofs.Ytpndkgpkakhbmaa
