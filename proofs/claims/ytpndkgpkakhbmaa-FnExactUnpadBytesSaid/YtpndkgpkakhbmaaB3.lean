import Derived.Test.YtpndkgpkakhbmaaB2
set_option linter.unusedSimpArgs false
set_option linter.unusedVariables false
set_option maxRecDepth 100000
namespace Go.Proofs.Ytpndkgpkakhbmaa
open Go Go.AH
attribute [local go_sem ↓] awp_skip awp_ret awp_exit awp_seq awp_reg awp_drw awp_cond awp_block seqK_normal seqK_ret seqK_exit blkK_normal blkK_ret loopK_normal loopK_ret loopK_exit rops_nil qops_nil rops_op rops_op0 rops_opg qops_op qops_op0 qops_opg gdK_tt gdK_ff gdK_tf gdK_ft kont_some condK_true condK_false
attribute [local go_sem] tag_eq blkK_exit put_at argσ_nil argσ_cons ev_t ev_v ctx_get getB_bool getI_int getP_ptr Option.map_some Option.bind_some List.map_cons List.map_nil
attribute [local congr] kont_cong condK_cong gdK_cong awp_cong rops_cong qops_cong
/-! laws.eqByteS at two slices of the same bytes -/
def eqB_sp : Sp := fun _ args h => match args with
  | [s, t] => (rdU h s).bind fun l => if rdU h t = some l ∧ l.length ≤ 140737488355328 then some (.bool true, h) else none
  | _ => none
theorem eqB_ok : Ok Try.prog 19 eqB_sp := by
  refine ok_quiet (OkΓ.nil _) Try.func19 (by kernel_rfl) k19 ?_ ?_
  · intro lo args h r h' hs
    unfold eqB_sp at hs; split at hs
    · obtain ⟨l, _, hs⟩ := Option.bind_eq_some_iff.1 hs
      split at hs <;> cases hs; exact Fr.refl _ _
    · cases hs
  · intro lo args h r h' hs
    unfold eqB_sp at hs; split at hs
    · rename_i s t
      obtain ⟨l, hl, hs⟩ := Option.bind_eq_some_iff.1 hs
      split at hs <;> cases hs
      rename_i hcond
      obtain ⟨ht, hcond⟩ := hcond
      obtain ⟨a, c, rfl, hb, hc⟩ := rdU_spec hl
      obtain ⟨a2, c2, rfl, hb2, hc2⟩ := rdU_spec ht
      clear hs hl ht
      (dsimp only [c19]; simp (maxSteps := 1000000) (implicitDefEqProofs := false) only [go_sem, Bool.false_eq_true, slc, aop, abin, aun, intB, ↓reduceIte, Nat.reduceEqDiff, Nat.reduceSub, ne_eq, not_false_eq_true, Option.map, Option.bind, bne_self_eq_false])
      refine awp_loop (fun m s => ∃ (k : Nat) (σ : Nat → Value), s = ⟨σ, h⟩ ∧ m = l.length - k ∧ k ≤ l.length ∧ σ 0 = .slice a l.length c ∧
        σ 1 = .slice a2 l.length c2 ∧ σ 5 = .int .i64 k) l.length ⟨0, _, rfl, by simp, by simp, by simp (maxSteps := 1000000) (implicitDefEqProofs := false) only [go_sem, Bool.false_eq_true, slc, aop, abin, aun, intB, ↓reduceIte, Nat.reduceEqDiff, Nat.reduceSub, ne_eq, not_false_eq_true, Option.map, Option.bind], by simp (maxSteps := 1000000) (implicitDefEqProofs := false) only [go_sem, Bool.false_eq_true, slc, aop, abin, aun, intB, ↓reduceIte, Nat.reduceEqDiff, Nat.reduceSub, ne_eq, not_false_eq_true, Option.map, Option.bind], by simp (maxSteps := 1000000) (implicitDefEqProofs := false) only [go_sem, Bool.false_eq_true, slc, aop, abin, aun, intB, ↓reduceIte, Nat.reduceEqDiff, Nat.reduceSub, ne_eq, not_false_eq_true, Option.map, Option.bind]; rfl⟩ ?_
      intro m s ⟨k, σ, hs, hm, hk, e0, e1, e5⟩
      subst hs
      simp (maxSteps := 1000000) (implicitDefEqProofs := false) only [go_sem, Bool.false_eq_true, slc, aop, abin, aun, intB, ↓reduceIte, Nat.reduceEqDiff, Nat.reduceSub, ne_eq, not_false_eq_true, Option.map, Option.bind, e0, e1, e5]
      refine condK_dec (fun hlt => ?_) (fun hge => ?_)
      · obtain ⟨b, o, e, bs, rfl, hbk, hcell⟩ := hc k (by omega)
        obtain ⟨b2, o2, e2, bs2, rfl, hbk2, hcell2⟩ := hc2 k (by omega)
        have q1 : (0 ≤ (k : Int) ∧ (k : Int) < l.length) = True := eq_true ⟨by omega, by omega⟩
        have q3 : o + (k : Int).toNat * 1 = o + k := by omega
        have q4 : o2 + (k : Int).toNat * 1 = o2 + k := by omega
        have q7 := w64 (n := (k : Int) + 1) (by omega)
        simp (maxSteps := 1000000) (implicitDefEqProofs := false) only [go_sem, Bool.false_eq_true, slc, aop, abin, aun, intB, ↓reduceIte, Nat.reduceEqDiff, Nat.reduceSub, ne_eq, not_false_eq_true, Option.map, Option.bind, e0, e1, e5, q1, q3, q4, q7, hbk, hcell, hbk2, hcell2, bne_self_eq_false]
        exact ⟨l.length - (k + 1), by omega, k + 1, _, rfl, rfl, by omega, by simp (maxSteps := 1000000) (implicitDefEqProofs := false) only [go_sem, Bool.false_eq_true, slc, aop, abin, aun, intB, ↓reduceIte, Nat.reduceEqDiff, Nat.reduceSub, ne_eq, not_false_eq_true, Option.map, Option.bind, e0], by simp (maxSteps := 1000000) (implicitDefEqProofs := false) only [go_sem, Bool.false_eq_true, slc, aop, abin, aun, intB, ↓reduceIte, Nat.reduceEqDiff, Nat.reduceSub, ne_eq, not_false_eq_true, Option.map, Option.bind, e1], by simp (maxSteps := 1000000) (implicitDefEqProofs := false) only [go_sem, Bool.false_eq_true, slc, aop, abin, aun, intB, ↓reduceIte, Nat.reduceEqDiff, Nat.reduceSub, ne_eq, not_false_eq_true, Option.map, Option.bind]; rfl⟩
      · try simp (maxSteps := 1000000) (implicitDefEqProofs := false) only [go_sem, Bool.false_eq_true, slc, aop, abin, aun, intB, ↓reduceIte, Nat.reduceEqDiff, Nat.reduceSub, ne_eq, not_false_eq_true, Option.map, Option.bind]
        exact ⟨by simp, done_as (by simp [rres, rresL, rres1, put_at]) rfl⟩
    · cases hs

/-! marks -/
def markL (k n : Nat) : List Int := (List.range n).map fun i => ((k + i : Nat) : Int) % 256
theorem markL_len (k n : Nat) : (markL k n).length = n := by simp [markL]
theorem markL_get (k n i : Nat) (h : i < n) : (markL k n).getD i 0 = ((k + i : Nat) : Int) % 256 := by simp [markL, h]
theorem markL_bd (k n : Nat) : ∀ x ∈ markL k n, 0 ≤ x ∧ x < 256 := by
  intro x hx; simp only [markL, List.mem_map] at hx; obtain ⟨i, _, rfl⟩ := hx; omega
theorem w8 (n : Int) : IntKind.u8.wrap n = n % 256 := by
  simp [IntKind.wrap, IntKind.min, IntKind.max, IntKind.bits, IntKind.signed]
theorem mark_step (cs : List Value) (k i : Nat) (hi : i < cs.length) : (u8s (markL k i) ++ cs.drop i).set i (.int .u8 (((k : Int) + i) % 256)) = u8s (markL k (i + 1)) ++ cs.drop (i + 1) := by
  have hl : (u8s (markL k i)).length = i := by simp [u8s, markL]
  rw [List.set_append_right _ _ (by omega), hl, Nat.sub_self, List.drop_eq_getElem_cons hi, List.set_cons_zero]
  simp [u8s, markL, List.range_succ]
theorem set_self {h : Heap} {b : Nat} {x : Blk} (hb : h[b]? = some x) : h.set b x = h := by
  apply List.ext_getElem?
  intro j
  by_cases hj : j = b
  · subst hj; rw [List.getElem?_set_self (get_lt hb), hb]
  · rw [List.getElem?_set_ne (fun x => hj x.symm)]
def mkB_sp : Sp := fun lo args h => match args with
  | [.slice none 0 0, .int .i64 k] => some (.int .i64 k, h)
  | [.slice (some ⟨_, _, some _⟩) 0 _, .int .i64 k] => some (.int .i64 k, h)
  | [.slice (some ⟨b, 0, none⟩) n _, .int .i64 k] => match h[b]? with
    | some (.cells e cs) => if lo ≤ b ∧ cs.length = n ∧ e = 5 ∧ n ≤ 1000000000 ∧ 0 ≤ k ∧ k ≤ 1000000000 then some (.int .i64 (k + n), h.set b (.cells e (u8s (markL k.toNat n)))) else none
    | _ => none
  | _ => none
theorem mkB_ok : Ok Try.prog 30 mkB_sp := by
  refine ok_writes (OkΓ.nil _) Try.func30 (by kernel_rfl) k30 ?_ ?_
  · intro lo args h r h' hs hlo
    unfold mkB_sp at hs; split at hs
    · cases hs; exact Fr.refl _ _
    · cases hs; exact Fr.refl _ _
    · split at hs
      · split at hs
        · rename_i hc; cases hs; exact Fr.set hc.1 _
        · cases hs
      · cases hs
    · cases hs
  · intro lo args h r h' hs hlo
    unfold mkB_sp at hs; split at hs
    · rename_i k
      cases hs
      (dsimp only [c30]; simp (maxSteps := 1000000) (implicitDefEqProofs := false) only [go_sem, Bool.false_eq_true, slc, aop, abin, aun, intB, ↓reduceIte, Nat.reduceEqDiff, Nat.reduceSub, ne_eq, not_false_eq_true, Option.map, Option.bind])
      refine awp_loop (fun m s => ∃ (σ : Nat → Value), s = ⟨σ, h⟩ ∧ σ 0 = .slice none 0 0 ∧ σ 1 = .int .i64 k ∧ σ 5 = .int .i64 0) 0 ⟨_, rfl, by simp (maxSteps := 1000000) (implicitDefEqProofs := false) only [go_sem, Bool.false_eq_true, slc, aop, abin, aun, intB, ↓reduceIte, Nat.reduceEqDiff, Nat.reduceSub, ne_eq, not_false_eq_true, Option.map, Option.bind], by simp (maxSteps := 1000000) (implicitDefEqProofs := false) only [go_sem, Bool.false_eq_true, slc, aop, abin, aun, intB, ↓reduceIte, Nat.reduceEqDiff, Nat.reduceSub, ne_eq, not_false_eq_true, Option.map, Option.bind], by simp (maxSteps := 1000000) (implicitDefEqProofs := false) only [go_sem, Bool.false_eq_true, slc, aop, abin, aun, intB, ↓reduceIte, Nat.reduceEqDiff, Nat.reduceSub, ne_eq, not_false_eq_true, Option.map, Option.bind]⟩ ?_
      intro m s ⟨σ, hs, e0, e1, e5⟩
      subst hs
      have q : ((0 : Int) < ((0 : Nat) : Int)) = False := by simp
      simp (maxSteps := 1000000) (implicitDefEqProofs := false) only [go_sem, Bool.false_eq_true, slc, aop, abin, aun, intB, ↓reduceIte, Nat.reduceEqDiff, Nat.reduceSub, ne_eq, not_false_eq_true, Option.map, Option.bind, e0, e1, e5, q, decide_false]
      try simp (maxSteps := 1000000) (implicitDefEqProofs := false) only [go_sem, Bool.false_eq_true, slc, aop, abin, aun, intB, ↓reduceIte, Nat.reduceEqDiff, Nat.reduceSub, ne_eq, not_false_eq_true, Option.map, Option.bind, e1]
      exact ⟨by simp, done_as (by simp [rres, rresL, rres1, put_at, e1]) rfl⟩
    · rename_i b0 o0 s0 c0 k
      cases hs
      (dsimp only [c30]; simp (maxSteps := 1000000) (implicitDefEqProofs := false) only [go_sem, Bool.false_eq_true, slc, aop, abin, aun, intB, ↓reduceIte, Nat.reduceEqDiff, Nat.reduceSub, ne_eq, not_false_eq_true, Option.map, Option.bind])
      refine awp_loop (fun m s => ∃ (σ : Nat → Value), s = ⟨σ, h⟩ ∧ σ 0 = .slice (some ⟨b0, o0, some s0⟩) 0 c0 ∧ σ 1 = .int .i64 k ∧ σ 5 = .int .i64 0) 0 ⟨_, rfl, by simp (maxSteps := 1000000) (implicitDefEqProofs := false) only [go_sem, Bool.false_eq_true, slc, aop, abin, aun, intB, ↓reduceIte, Nat.reduceEqDiff, Nat.reduceSub, ne_eq, not_false_eq_true, Option.map, Option.bind], by simp (maxSteps := 1000000) (implicitDefEqProofs := false) only [go_sem, Bool.false_eq_true, slc, aop, abin, aun, intB, ↓reduceIte, Nat.reduceEqDiff, Nat.reduceSub, ne_eq, not_false_eq_true, Option.map, Option.bind], by simp (maxSteps := 1000000) (implicitDefEqProofs := false) only [go_sem, Bool.false_eq_true, slc, aop, abin, aun, intB, ↓reduceIte, Nat.reduceEqDiff, Nat.reduceSub, ne_eq, not_false_eq_true, Option.map, Option.bind]⟩ ?_
      intro m s ⟨σ, hs, e0, e1, e5⟩
      subst hs
      have q : ((0 : Int) < ((0 : Nat) : Int)) = False := by simp
      simp (maxSteps := 1000000) (implicitDefEqProofs := false) only [go_sem, Bool.false_eq_true, slc, aop, abin, aun, intB, ↓reduceIte, Nat.reduceEqDiff, Nat.reduceSub, ne_eq, not_false_eq_true, Option.map, Option.bind, e0, e1, e5, q, decide_false]
      try simp (maxSteps := 1000000) (implicitDefEqProofs := false) only [go_sem, Bool.false_eq_true, slc, aop, abin, aun, intB, ↓reduceIte, Nat.reduceEqDiff, Nat.reduceSub, ne_eq, not_false_eq_true, Option.map, Option.bind, e1]
      exact ⟨by simp, done_as (by simp [rres, rresL, rres1, put_at, e1]) rfl⟩
    · rename_i b n c k
      split at hs
      · rename_i e cs hb
        split at hs
        · rename_i hc
          obtain ⟨hlb, hcl, rfl, hn, hk0, hk1⟩ := hc
          cases hs
          obtain ⟨K, rfl⟩ := Int.eq_ofNat_of_zero_le hk0
          rw [Int.toNat_natCast]
          have hbl := get_lt hb
          (dsimp only [c30]; simp (maxSteps := 1000000) (implicitDefEqProofs := false) only [go_sem, Bool.false_eq_true, slc, aop, abin, aun, intB, ↓reduceIte, Nat.reduceEqDiff, Nat.reduceSub, ne_eq, not_false_eq_true, Option.map, Option.bind])
          refine awp_loop (fun m s => ∃ (i : Nat) (σ : Nat → Value), s = ⟨σ, h.set b (.cells 5 (u8s (markL K i) ++ cs.drop i))⟩ ∧ m = n - i ∧ i ≤ n ∧ σ 0 = .slice (some ⟨b, 0, none⟩) n c ∧
            σ 1 = .int .i64 ((K : Int) + i) ∧ σ 5 = .int .i64 i) n ⟨0, _, by simp [markL, u8s]; exact ⟨rfl, (set_self hb).symm⟩, by simp, by simp, by simp (maxSteps := 1000000) (implicitDefEqProofs := false) only [go_sem, Bool.false_eq_true, slc, aop, abin, aun, intB, ↓reduceIte, Nat.reduceEqDiff, Nat.reduceSub, ne_eq, not_false_eq_true, Option.map, Option.bind], by simp (maxSteps := 1000000) (implicitDefEqProofs := false) only [go_sem, Bool.false_eq_true, slc, aop, abin, aun, intB, ↓reduceIte, Nat.reduceEqDiff, Nat.reduceSub, ne_eq, not_false_eq_true, Option.map, Option.bind]; simp, by simp (maxSteps := 1000000) (implicitDefEqProofs := false) only [go_sem, Bool.false_eq_true, slc, aop, abin, aun, intB, ↓reduceIte, Nat.reduceEqDiff, Nat.reduceSub, ne_eq, not_false_eq_true, Option.map, Option.bind]; rfl⟩ ?_
          intro m s ⟨i, σ, hs, hm, hi, e0, e1, e5⟩
          subst hs
          simp (maxSteps := 1000000) (implicitDefEqProofs := false) only [go_sem, Bool.false_eq_true, slc, aop, abin, aun, intB, ↓reduceIte, Nat.reduceEqDiff, Nat.reduceSub, ne_eq, not_false_eq_true, Option.map, Option.bind, e0, e1, e5]
          refine condK_dec (fun hlt => ?_) (fun hge => ?_)
          · have q1 : (0 ≤ (i : Int) ∧ (i : Int) < n) = True := eq_true ⟨by omega, by omega⟩
            have q4 : 0 + (i : Int).toNat * 1 = i := by omega
            have q6 : (h.set b (.cells 5 (u8s (markL K i) ++ cs.drop i)))[b]? = some (.cells 5 (u8s (markL K i) ++ cs.drop i)) := List.getElem?_set_self hbl
            have q5 : (lo ≤ b ∧ [Value.int .u8 (((K : Int) + i) % 256)].length = 1 ∧ i + 1 ≤ (u8s (markL K i) ++ cs.drop i).length ∧ [Value.int .u8 (((K : Int) + i) % 256)].all one = true) = True := eq_true ⟨hlb, rfl, by simp [u8s_len, markL_len]; omega, rfl⟩
            have q7 := w64 (n := (i : Int) + 1) (by omega)
            have q8 := w64 (n := (K : Int) + i + 1) (by omega)
            have q9 := mark_step cs K i (by omega)
            simp (maxSteps := 1000000) (implicitDefEqProofs := false) only [go_sem, Bool.false_eq_true, slc, aop, abin, aun, intB, ↓reduceIte, Nat.reduceEqDiff, Nat.reduceSub, ne_eq, not_false_eq_true, Option.map, Option.bind, e0, e1, e5, q1, q4, q6, cellsL, Value.cells, w8, q5, setAt, q7, q8, q9, List.set_set]
            exact ⟨n - (i + 1), by omega, i + 1, _, rfl, rfl, by omega, by simp (maxSteps := 1000000) (implicitDefEqProofs := false) only [go_sem, Bool.false_eq_true, slc, aop, abin, aun, intB, ↓reduceIte, Nat.reduceEqDiff, Nat.reduceSub, ne_eq, not_false_eq_true, Option.map, Option.bind, e0], by simp (maxSteps := 1000000) (implicitDefEqProofs := false) only [go_sem, Bool.false_eq_true, slc, aop, abin, aun, intB, ↓reduceIte, Nat.reduceEqDiff, Nat.reduceSub, ne_eq, not_false_eq_true, Option.map, Option.bind]; congr 1, by simp (maxSteps := 1000000) (implicitDefEqProofs := false) only [go_sem, Bool.false_eq_true, slc, aop, abin, aun, intB, ↓reduceIte, Nat.reduceEqDiff, Nat.reduceSub, ne_eq, not_false_eq_true, Option.map, Option.bind]; rfl⟩
          · have hin : i = n := by omega
            subst hin
            try simp (maxSteps := 1000000) (implicitDefEqProofs := false) only [go_sem, Bool.false_eq_true, slc, aop, abin, aun, intB, ↓reduceIte, Nat.reduceEqDiff, Nat.reduceSub, ne_eq, not_false_eq_true, Option.map, Option.bind, e1]
            exact ⟨by simp, done_as (by simp [rres, rresL, rres1, put_at, e1]) (by rw [List.drop_eq_nil_of_le (by omega), List.append_nil])⟩
        · cases hs
      · cases hs
    · cases hs
def hdB_sp : Sp := fun _ args h => match args with
  | [s, .int .i64 k] => (rdU h s).bind fun l => if 0 ≤ k ∧ k ≤ 1000000000 ∧ l.length ≤ 1000000000 ∧ l = markL k.toNat l.length then some (.int .i64 (k + l.length), h) else none
  | _ => none
theorem hdB_ok : Ok Try.prog 66 hdB_sp := by
  refine ok_quiet (OkΓ.nil _) Try.func66 (by kernel_rfl) k66 ?_ ?_
  · intro lo args h r h' hs
    unfold hdB_sp at hs; split at hs
    · obtain ⟨l, _, hs⟩ := Option.bind_eq_some_iff.1 hs
      split at hs <;> cases hs; exact Fr.refl _ _
    · cases hs
  · intro lo args h r h' hs
    unfold hdB_sp at hs; split at hs
    · rename_i s k
      obtain ⟨l, hl, hs⟩ := Option.bind_eq_some_iff.1 hs
      split at hs <;> cases hs
      rename_i hcond
      obtain ⟨hk0, hk1, hll, hmark⟩ := hcond
      obtain ⟨K, rfl⟩ := Int.eq_ofNat_of_zero_le hk0
      rw [Int.toNat_natCast] at hmark
      obtain ⟨a, c, rfl, hb, hc⟩ := rdU_spec hl
      clear hs hl
      (dsimp only [c66]; simp (maxSteps := 1000000) (implicitDefEqProofs := false) only [go_sem, Bool.false_eq_true, slc, aop, abin, aun, intB, ↓reduceIte, Nat.reduceEqDiff, Nat.reduceSub, ne_eq, not_false_eq_true, Option.map, Option.bind])
      refine awp_loop (fun m s => ∃ (i : Nat) (σ : Nat → Value), s = ⟨σ, h⟩ ∧ m = l.length - i ∧ i ≤ l.length ∧ σ 0 = .slice a l.length c ∧
        σ 1 = .int .i64 ((K : Int) + i) ∧ σ 5 = .int .i64 i) l.length ⟨0, _, rfl, by simp, by simp, by simp (maxSteps := 1000000) (implicitDefEqProofs := false) only [go_sem, Bool.false_eq_true, slc, aop, abin, aun, intB, ↓reduceIte, Nat.reduceEqDiff, Nat.reduceSub, ne_eq, not_false_eq_true, Option.map, Option.bind], by simp (maxSteps := 1000000) (implicitDefEqProofs := false) only [go_sem, Bool.false_eq_true, slc, aop, abin, aun, intB, ↓reduceIte, Nat.reduceEqDiff, Nat.reduceSub, ne_eq, not_false_eq_true, Option.map, Option.bind]; simp, by simp (maxSteps := 1000000) (implicitDefEqProofs := false) only [go_sem, Bool.false_eq_true, slc, aop, abin, aun, intB, ↓reduceIte, Nat.reduceEqDiff, Nat.reduceSub, ne_eq, not_false_eq_true, Option.map, Option.bind]; rfl⟩ ?_
      intro m s ⟨i, σ, hs, hm, hi, e0, e1, e5⟩
      subst hs
      simp (maxSteps := 1000000) (implicitDefEqProofs := false) only [go_sem, Bool.false_eq_true, slc, aop, abin, aun, intB, ↓reduceIte, Nat.reduceEqDiff, Nat.reduceSub, ne_eq, not_false_eq_true, Option.map, Option.bind, e0, e1, e5]
      refine condK_dec (fun hlt => ?_) (fun hge => ?_)
      · obtain ⟨b, o, e, bs, rfl, hbk, hcell⟩ := hc i (by omega)
        have hv : l.getD i 0 = ((K : Int) + i) % 256 := by rw [hmark, markL_get _ _ _ (by omega)]; simp
        rw [hv] at hcell
        have q1 : (0 ≤ (i : Int) ∧ (i : Int) < l.length) = True := eq_true ⟨by omega, by omega⟩
        have q3 : o + (i : Int).toNat * 1 = o + i := by omega
        have q7 := w64 (n := (i : Int) + 1) (by omega)
        have q8 := w64 (n := (K : Int) + i + 1) (by omega)
        simp (maxSteps := 1000000) (implicitDefEqProofs := false) only [go_sem, Bool.false_eq_true, slc, aop, abin, aun, intB, ↓reduceIte, Nat.reduceEqDiff, Nat.reduceSub, ne_eq, not_false_eq_true, Option.map, Option.bind, e0, e1, e5, q1, q3, q7, q8, hbk, hcell, w8, bne_self_eq_false]
        exact ⟨l.length - (i + 1), by omega, i + 1, _, rfl, rfl, by omega, by simp (maxSteps := 1000000) (implicitDefEqProofs := false) only [go_sem, Bool.false_eq_true, slc, aop, abin, aun, intB, ↓reduceIte, Nat.reduceEqDiff, Nat.reduceSub, ne_eq, not_false_eq_true, Option.map, Option.bind, e0], by simp (maxSteps := 1000000) (implicitDefEqProofs := false) only [go_sem, Bool.false_eq_true, slc, aop, abin, aun, intB, ↓reduceIte, Nat.reduceEqDiff, Nat.reduceSub, ne_eq, not_false_eq_true, Option.map, Option.bind]; congr 1, by simp (maxSteps := 1000000) (implicitDefEqProofs := false) only [go_sem, Bool.false_eq_true, slc, aop, abin, aun, intB, ↓reduceIte, Nat.reduceEqDiff, Nat.reduceSub, ne_eq, not_false_eq_true, Option.map, Option.bind]; rfl⟩
      · have hin : i = l.length := by omega
        subst hin
        try simp (maxSteps := 1000000) (implicitDefEqProofs := false) only [go_sem, Bool.false_eq_true, slc, aop, abin, aun, intB, ↓reduceIte, Nat.reduceEqDiff, Nat.reduceSub, ne_eq, not_false_eq_true, Option.map, Option.bind, e1]
        exact ⟨by simp, done_as (by simp [rres, rresL, rres1, put_at, e1]) rfl⟩
    · cases hs
end Go.Proofs.Ytpndkgpkakhbmaa
