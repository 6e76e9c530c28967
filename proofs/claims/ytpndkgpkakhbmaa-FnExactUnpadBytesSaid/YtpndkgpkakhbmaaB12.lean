import Derived.Test.YtpndkgpkakhbmaaB11
set_option linter.unusedSimpArgs false
set_option linter.unusedVariables false
set_option maxRecDepth 100000
namespace Go.Proofs.Ytpndkgpkakhbmaa
open Go Go.AH
attribute [local go_sem ↓] awp_skip awp_ret awp_exit awp_seq awp_reg awp_drw awp_cond awp_block seqK_normal seqK_ret seqK_exit blkK_normal blkK_ret loopK_normal loopK_ret loopK_exit rops_nil qops_nil rops_op rops_op0 rops_opg qops_op qops_op0 qops_opg gdK_tt gdK_ff gdK_tf gdK_ft kont_some condK_true condK_false
attribute [local go_sem] tag_eq blkK_exit put_at argσ_nil argσ_cons ev_t ev_v ctx_get getB_bool getI_int getP_ptr Option.map_some Option.bind_some List.map_cons List.map_nil
attribute [local congr] kont_cong condK_cong gdK_cong awp_cong rops_cong qops_cong
-- spec.l1Bytes
def c80 : AF := ⟨24,
  (.seq (.reg [⟨(some 4), none, .mv (.v (.slice none 0 0))⟩])
  (.seq (.reg [⟨(some 7), none, .mkS 5 0 [] []⟩,
   ⟨(some 5), none, .mv (.t 7)⟩])
  (.seq (.seq (.reg [⟨(some 8), none, .mv (.t 1)⟩,
   ⟨(some 9), none, .bin .sub (.t 8) (.v (.int .i64 1))⟩,
   ⟨(some 6), none, .mv (.t 9)⟩])
  (.block 0 (.loop (.seq (.seq (.reg [⟨(some 10), none, .mv (.t 6)⟩,
   ⟨(some 11), none, .bin .geq (.t 10) (.v (.int .i64 0))⟩])
  (.cond (.t 11) .skip
  (.exit 0)))
  (.seq (.block 1 (.reg [⟨(some 14), none, .mv (.t 5)⟩,
   ⟨(some 15), none, .mv (.t 0)⟩,
   ⟨(some 16), none, .mv (.t 6)⟩,
   ⟨(some 17), none, .bin .mul (.v (.int .i64 8)) (.t 16)⟩,
   ⟨(some 18), none, .cvI .u64 (.t 17)⟩,
   ⟨(some 19), none, .bin .shr (.t 15) (.t 18)⟩,
   ⟨(some 20), none, .cvI .u8 (.t 19)⟩,
   ⟨(some 21), none, .mkS 5 1 [(.int .u8 0)] [(0, 1, (.t 20))]⟩,
   ⟨(some 22), none, .app 5 1 1 (.t 14) (.t 21)⟩,
   ⟨(some 5), none, .mv (.t 22)⟩]))
  (.reg [⟨(some 12), none, .mv (.t 6)⟩,
   ⟨(some 13), none, .bin .sub (.t 12) (.v (.int .i64 1))⟩,
   ⟨(some 6), none, .mv (.t 13)⟩]))))))
  (.seq (.reg [⟨(some 23), none, .mv (.t 5)⟩,
   ⟨(some 4), none, .mv (.t 23)⟩])
  .ret)))),
  [.t 4]⟩
theorem k80 : cFn Try.prog Try.f80 = some c80 := by kernel_rfl
-- impl.put
def c82 : AF := ⟨23,
  (.seq (.reg [⟨(some 4), none, .mv (.v (.slice none 0 0))⟩])
  (.seq (.reg [⟨(some 7), none, .mv (.t 1)⟩,
   ⟨(some 8), none, .mkSl 5 1 1 [(.int .u8 0)] (.t 7) (.t 7)⟩,
   ⟨(some 5), none, .mv (.t 8)⟩])
  (.seq (.seq (.reg [⟨(some 9), none, .mv (.t 1)⟩,
   ⟨(some 10), none, .bin .sub (.t 9) (.v (.int .i64 1))⟩,
   ⟨(some 6), none, .mv (.t 10)⟩])
  (.block 0 (.loop (.seq (.seq (.reg [⟨(some 11), none, .mv (.t 6)⟩,
   ⟨(some 12), none, .bin .geq (.t 11) (.v (.int .i64 0))⟩])
  (.cond (.t 12) .skip
  (.exit 0)))
  (.seq (.block 1 (.seq (.reg [⟨(some 15), none, .mv (.t 5)⟩,
   ⟨(some 16), none, .mv (.t 6)⟩,
   ⟨(some 17), none, .mv (.t 0)⟩,
   ⟨(some 18), none, .cvI .u8 (.t 17)⟩,
   ⟨(some 19), none, .ia 1 (.t 15) (.t 16)⟩,
   ⟨none, none, .st 1 (.t 19) (.t 18)⟩])
  (.reg [⟨(some 20), none, .mv (.t 0)⟩,
   ⟨(some 21), none, .bin .shr (.t 20) (.v (.int .u64 8))⟩,
   ⟨(some 0), none, .mv (.t 21)⟩])))
  (.reg [⟨(some 13), none, .mv (.t 6)⟩,
   ⟨(some 14), none, .bin .sub (.t 13) (.v (.int .i64 1))⟩,
   ⟨(some 6), none, .mv (.t 14)⟩]))))))
  (.seq (.reg [⟨(some 22), none, .mv (.t 5)⟩,
   ⟨(some 4), none, .mv (.t 22)⟩])
  .ret)))),
  [.t 4]⟩
theorem k82 : cFn Try.prog Try.f82 = some c82 := by kernel_rfl
/-! A number's bytes, the highest first -/
def putL (v : Int) (n : Nat) : List Int := (List.range n).map fun i => v / 256 ^ (n - 1 - i) % 256
theorem putL_len (v : Int) (n : Nat) : (putL v n).length = n := by simp [putL]
theorem putL_bd (v : Int) (n : Nat) : ∀ x ∈ putL v n, 0 ≤ x ∧ x < 256 := by
  intro x hx; simp [putL] at hx; obtain ⟨i, _, rfl⟩ := hx; omega
theorem putL_take (v : Int) (n j : Nat) (hj : j < n) : (putL v n).take (j + 1) = (putL v n).take j ++ [v / 256 ^ (n - 1 - j) % 256] := by
  rw [List.take_succ_eq_append_getElem (by rw [putL_len]; exact hj)]
  simp [putL]
theorem shr256 (v : Int) (m : Nat) : v.fdiv (2 ^ (8 * m)) = v / 256 ^ m := by
  rw [Int.fdiv_eq_ediv_of_nonneg _ (Int.pow_nonneg (by decide)), Int.pow_mul]; rfl
def putC (v : Int) (n j : Nat) : List Int := List.replicate (n - j) 0 ++ (putL v n).drop (n - j)
theorem putC_len (v : Int) (n j : Nat) (hj : j ≤ n) : (putC v n j).length = n := by simp [putC, putL_len]
theorem putC_step (v : Int) (n j : Nat) (hj : j < n) : (u8s (putC v n j)).set (n - 1 - j) (.int .u8 (v / 256 ^ j % 256)) = u8s (putC v n (j + 1)) := by
  simp only [u8s]
  rw [← List.map_set]
  congr 1
  simp only [putC]
  have e1 : n - j = (n - 1 - j) + 1 := by omega
  rw [e1, show n - (j + 1) = n - 1 - j by omega, List.replicate_succ']
  rw [List.append_assoc, List.set_append_right _ _ (by simp)]
  simp only [List.length_replicate, Nat.sub_self, List.cons_append, List.nil_append, List.set_cons_zero]
  congr 1
  rw [List.drop_eq_getElem_cons (i := n - 1 - j) (by rw [putL_len]; omega)]
  congr 1
  simp only [putL, List.getElem_map, List.getElem_range]
  rw [show n - 1 - (n - 1 - j) = j by omega]
theorem wu64 {n : Int} (h : 0 ≤ n ∧ n ≤ 9223372036854775807) : IntKind.u64.wrap n = n := by
  have : IntKind.u64.wrap n = n % 18446744073709551616 := by rfl
  rw [this]; omega
def put_sp : Sp := fun _ args h => match args with
  | [.int .i64 v, .int .i64 n] => if 0 ≤ v ∧ v ≤ 4611686018427387904 ∧ 0 ≤ n ∧ n ≤ 7 then some (slc h.length 0 n.toNat, h ++ [.cells 5 (u8s (putL v n.toNat))]) else none
  | _ => none
theorem put_fr : ∀ lo args h r h', put_sp lo args h = some (r, h') → Fr h.length h h' := by
  intro lo args h r h' hs
  unfold put_sp at hs; split at hs
  · split at hs <;> cases hs; exact Fr.push (Nat.le_refl _) _
  · cases hs
theorem putS_ok : Ok Try.prog 80 put_sp := by
  refine ok_quiet (OkΓ.nil _) Try.func80 (by kernel_rfl) k80 put_fr ?_
  intro lo args h r h' hs
  unfold put_sp at hs; split at hs
  · rename_i v n
    split at hs <;> cases hs
    rename_i hcond
    obtain ⟨h1, h2, h3, h4⟩ := hcond
    obtain ⟨N, rfl⟩ := Int.eq_ofNat_of_zero_le h3
    rw [Int.toNat_natCast]
    (dsimp only [c80]; simp (maxSteps := 1000000) (implicitDefEqProofs := false) (disch := omega) only [go_sem, Bool.false_eq_true, slc, aop, abin, aun, intB, ↓reduceIte, Nat.reduceEqDiff, Nat.reduceSub, ne_eq, not_false_eq_true, Option.map, Option.bind, get_off, get_off0, set_off, set_off0, List.append_assoc, List.cons_append, List.nil_append, List.length_append, List.length_cons, List.length_nil, Nat.zero_add, Nat.add_zero, Nat.add_assoc, Nat.reduceAdd, List.set_cons_zero, List.set_cons_succ, List.getElem?_cons_zero, List.getElem?_cons_succ, Option.bind_some, Nat.reduceLeDiff, Nat.reduceLT, maxLen, slOut, optI, Int.reduceSub, Int.sub_zero, Nat.zero_mul, if_pos, if_neg, w64, wu8, ↓condK_pos, ↓condK_neg, ↓gdK_pt, ↓gdK_nt, ↓gdK_pf, ↓gdK_nf, decide_eq_true_eq, cellsL, Value.cells, fillL, setAt, decide_true, decide_false, one_int, one_bool, one_string, one_slice, one_pointer, one_ptr, one_iface, one_nili, nat0, flat, slc, List.all_cons, List.all_nil, Bool.and_true, Bool.true_and, Bool.not_true, Bool.not_false, and_true, true_and, and_self, Nat.le_refl, List.take_succ_cons, List.take_zero, List.drop_succ_cons, List.drop_zero, Int.toNat_natCast, Int.reduceToNat, Nat.mul_one, List.take_nil, List.drop_nil, Int.reduceLE, Int.reduceAdd, Int.reduceLT])
    refine awp_loop (fun m t => ∃ (i : Nat) (σ : Nat → Value) (J : Heap), t = ⟨σ, h ++ (J ++ [.cells 5 (u8s ((putL v N).take i))])⟩ ∧ m = N - i ∧ i ≤ N ∧ σ 0 = .int .i64 v ∧
      σ 6 = .int .i64 ((N : Int) - 1 - i) ∧ σ 5 = .slice (some ⟨h.length + J.length, 0, none⟩) i i) N ⟨0, _, [], rfl, by simp, by simp, by simp (maxSteps := 1000000) (implicitDefEqProofs := false) only [go_sem, Bool.false_eq_true, slc, aop, abin, aun, intB, ↓reduceIte, Nat.reduceEqDiff, Nat.reduceSub, ne_eq, not_false_eq_true, Option.map, Option.bind], by simp (maxSteps := 1000000) (implicitDefEqProofs := false) only [go_sem, Bool.false_eq_true, slc, aop, abin, aun, intB, ↓reduceIte, Nat.reduceEqDiff, Nat.reduceSub, ne_eq, not_false_eq_true, Option.map, Option.bind]; simp, by simp (maxSteps := 1000000) (implicitDefEqProofs := false) only [go_sem, Bool.false_eq_true, slc, aop, abin, aun, intB, ↓reduceIte, Nat.reduceEqDiff, Nat.reduceSub, ne_eq, not_false_eq_true, Option.map, Option.bind]; rfl⟩ ?_
    intro m t ⟨i, σ, J, ht, hm, hi, e0, e6, e5⟩
    subst ht
    simp (maxSteps := 1000000) (implicitDefEqProofs := false) (disch := omega) only [go_sem, Bool.false_eq_true, slc, aop, abin, aun, intB, ↓reduceIte, Nat.reduceEqDiff, Nat.reduceSub, ne_eq, not_false_eq_true, Option.map, Option.bind, get_off, get_off0, set_off, set_off0, List.append_assoc, List.cons_append, List.nil_append, List.length_append, List.length_cons, List.length_nil, Nat.zero_add, Nat.add_zero, Nat.add_assoc, Nat.reduceAdd, List.set_cons_zero, List.set_cons_succ, List.getElem?_cons_zero, List.getElem?_cons_succ, Option.bind_some, Nat.reduceLeDiff, Nat.reduceLT, maxLen, slOut, optI, Int.reduceSub, Int.sub_zero, Nat.zero_mul, if_pos, if_neg, w64, wu8, ↓condK_pos, ↓condK_neg, ↓gdK_pt, ↓gdK_nt, ↓gdK_pf, ↓gdK_nf, decide_eq_true_eq, cellsL, Value.cells, fillL, setAt, decide_true, decide_false, one_int, one_bool, one_string, one_slice, one_pointer, one_ptr, one_iface, one_nili, nat0, flat, slc, List.all_cons, List.all_nil, Bool.and_true, Bool.true_and, Bool.not_true, Bool.not_false, and_true, true_and, and_self, Nat.le_refl, List.take_succ_cons, List.take_zero, List.drop_succ_cons, List.drop_zero, Int.toNat_natCast, Int.reduceToNat, Nat.mul_one, List.take_nil, List.drop_nil, Int.reduceLE, Int.reduceAdd, Int.reduceLT, e0, e6, e5]
    refine condK_dec (fun hlt => ?_) (fun hge => ?_)
    · have hl : ((putL v N).take i).length = i := by simp [putL_len]; omega
      have hr := rdS_u8s 5 ((putL v N).take i)
      have hx : v.fdiv (2 ^ min (8 * ((N : Int) - 1 - i)).toNat 64) % 256 = v / 256 ^ (N - 1 - i) % 256 := by
        rw [show min (8 * ((N : Int) - 1 - i)).toNat 64 = 8 * (N - 1 - i) by omega, shr256]
      have hst := putL_take v N i (by omega)
      simp (maxSteps := 1000000) (implicitDefEqProofs := false) (disch := omega) only [go_sem, Bool.false_eq_true, slc, aop, abin, aun, intB, ↓reduceIte, Nat.reduceEqDiff, Nat.reduceSub, ne_eq, not_false_eq_true, Option.map, Option.bind, get_off, get_off0, set_off, set_off0, List.append_assoc, List.cons_append, List.nil_append, List.length_append, List.length_cons, List.length_nil, Nat.zero_add, Nat.add_zero, Nat.add_assoc, Nat.reduceAdd, List.set_cons_zero, List.set_cons_succ, List.getElem?_cons_zero, List.getElem?_cons_succ, Option.bind_some, Nat.reduceLeDiff, Nat.reduceLT, maxLen, slOut, optI, Int.reduceSub, Int.sub_zero, Nat.zero_mul, if_pos, if_neg, w64, wu8, ↓condK_pos, ↓condK_neg, ↓gdK_pt, ↓gdK_nt, ↓gdK_pf, ↓gdK_nf, decide_eq_true_eq, cellsL, Value.cells, fillL, setAt, decide_true, decide_false, one_int, one_bool, one_string, one_slice, one_pointer, one_ptr, one_iface, one_nili, nat0, flat, slc, List.all_cons, List.all_nil, Bool.and_true, Bool.true_and, Bool.not_true, Bool.not_false, and_true, true_and, and_self, Nat.le_refl, List.take_succ_cons, List.take_zero, List.drop_succ_cons, List.drop_zero, Int.toNat_natCast, Int.reduceToNat, Nat.mul_one, List.take_nil, List.drop_nil, Int.reduceLE, Int.reduceAdd, Int.reduceLT, e0, e6, e5, w8, wu64, hx, rdS_off, rdS_off0, rdS_tail, rdS_one, hr, u8s_snoc, ← hst]
      exact ⟨N - (i + 1), by omega, i + 1, _, J ++ [.dead, .cells 5 [.int .u8 (v / 256 ^ (N - 1 - i) % 256)]], by rw [List.append_assoc]; rfl, rfl, by omega, by simp (maxSteps := 1000000) (implicitDefEqProofs := false) only [go_sem, Bool.false_eq_true, slc, aop, abin, aun, intB, ↓reduceIte, Nat.reduceEqDiff, Nat.reduceSub, ne_eq, not_false_eq_true, Option.map, Option.bind, e0], by simp (maxSteps := 1000000) (implicitDefEqProofs := false) only [go_sem, Bool.false_eq_true, slc, aop, abin, aun, intB, ↓reduceIte, Nat.reduceEqDiff, Nat.reduceSub, ne_eq, not_false_eq_true, Option.map, Option.bind]; congr 1; omega, by simp (maxSteps := 1000000) (implicitDefEqProofs := false) only [go_sem, Bool.false_eq_true, slc, aop, abin, aun, intB, ↓reduceIte, Nat.reduceEqDiff, Nat.reduceSub, ne_eq, not_false_eq_true, Option.map, Option.bind]; simp⟩
    · have hin : i = N := by omega
      subst hin
      rw [List.take_of_length_le (by rw [putL_len]; exact Nat.le_refl _)]
      simp (maxSteps := 1000000) (implicitDefEqProofs := false) (disch := omega) only [go_sem, Bool.false_eq_true, slc, aop, abin, aun, intB, ↓reduceIte, Nat.reduceEqDiff, Nat.reduceSub, ne_eq, not_false_eq_true, Option.map, Option.bind, get_off, get_off0, set_off, set_off0, List.append_assoc, List.cons_append, List.nil_append, List.length_append, List.length_cons, List.length_nil, Nat.zero_add, Nat.add_zero, Nat.add_assoc, Nat.reduceAdd, List.set_cons_zero, List.set_cons_succ, List.getElem?_cons_zero, List.getElem?_cons_succ, Option.bind_some, Nat.reduceLeDiff, Nat.reduceLT, maxLen, slOut, optI, Int.reduceSub, Int.sub_zero, Nat.zero_mul, if_pos, if_neg, w64, wu8, ↓condK_pos, ↓condK_neg, ↓gdK_pt, ↓gdK_nt, ↓gdK_pf, ↓gdK_nf, decide_eq_true_eq, cellsL, Value.cells, fillL, setAt, decide_true, decide_false, one_int, one_bool, one_string, one_slice, one_pointer, one_ptr, one_iface, one_nili, nat0, flat, slc, List.all_cons, List.all_nil, Bool.and_true, Bool.true_and, Bool.not_true, Bool.not_false, and_true, true_and, and_self, Nat.le_refl, List.take_succ_cons, List.take_zero, List.drop_succ_cons, List.drop_zero, Int.toNat_natCast, Int.reduceToNat, Nat.mul_one, List.take_nil, List.drop_nil, Int.reduceLE, Int.reduceAdd, Int.reduceLT, e0, e6, e5]
      exact ⟨by simp, done_bytes (by simp [rres, rresL, rres1, put_at])⟩
  · cases hs
theorem putI_ok : Ok Try.prog 82 put_sp := by
  refine ok_quiet (OkΓ.nil _) Try.func82 (by kernel_rfl) k82 put_fr ?_
  intro lo args h r h' hs
  unfold put_sp at hs; split at hs
  · rename_i v n
    split at hs <;> cases hs
    rename_i hcond
    obtain ⟨h1, h2, h3, h4⟩ := hcond
    obtain ⟨N, rfl⟩ := Int.eq_ofNat_of_zero_le h3
    rw [Int.toNat_natCast]
    have hz : (List.replicate N [Value.int .u8 0]).flatten = u8s (putC v N 0) := by
      rw [zeros_u8]; simp [putC, putL_len]; rw [List.drop_eq_nil_of_le (by rw [putL_len]; exact Nat.le_refl _), List.append_nil]
    (dsimp only [c82]; simp (maxSteps := 1000000) (implicitDefEqProofs := false) (disch := omega) only [go_sem, Bool.false_eq_true, slc, aop, abin, aun, intB, ↓reduceIte, Nat.reduceEqDiff, Nat.reduceSub, ne_eq, not_false_eq_true, Option.map, Option.bind, get_off, get_off0, set_off, set_off0, List.append_assoc, List.cons_append, List.nil_append, List.length_append, List.length_cons, List.length_nil, Nat.zero_add, Nat.add_zero, Nat.add_assoc, Nat.reduceAdd, List.set_cons_zero, List.set_cons_succ, List.getElem?_cons_zero, List.getElem?_cons_succ, Option.bind_some, Nat.reduceLeDiff, Nat.reduceLT, maxLen, slOut, optI, Int.reduceSub, Int.sub_zero, Nat.zero_mul, if_pos, if_neg, w64, wu8, ↓condK_pos, ↓condK_neg, ↓gdK_pt, ↓gdK_nt, ↓gdK_pf, ↓gdK_nf, decide_eq_true_eq, cellsL, Value.cells, fillL, setAt, decide_true, decide_false, one_int, one_bool, one_string, one_slice, one_pointer, one_ptr, one_iface, one_nili, nat0, flat, slc, List.all_cons, List.all_nil, Bool.and_true, Bool.true_and, Bool.not_true, Bool.not_false, and_true, true_and, and_self, Nat.le_refl, List.take_succ_cons, List.take_zero, List.drop_succ_cons, List.drop_zero, Int.toNat_natCast, Int.reduceToNat, Nat.mul_one, List.take_nil, List.drop_nil, Int.reduceLE, Int.reduceAdd, Int.reduceLT, hz])
    refine awp_loop (fun m t => ∃ (i : Nat) (σ : Nat → Value), t = ⟨σ, h ++ [.cells 5 (u8s (putC v N i))]⟩ ∧ m = N - i ∧ i ≤ N ∧ σ 0 = .int .i64 (v / 256 ^ i) ∧
      σ 6 = .int .i64 ((N : Int) - 1 - i) ∧ σ 5 = slc h.length 0 N) N ⟨0, _, rfl, by simp, by simp, by simp (maxSteps := 1000000) (implicitDefEqProofs := false) only [go_sem, Bool.false_eq_true, slc, aop, abin, aun, intB, ↓reduceIte, Nat.reduceEqDiff, Nat.reduceSub, ne_eq, not_false_eq_true, Option.map, Option.bind]; simp, by simp (maxSteps := 1000000) (implicitDefEqProofs := false) only [go_sem, Bool.false_eq_true, slc, aop, abin, aun, intB, ↓reduceIte, Nat.reduceEqDiff, Nat.reduceSub, ne_eq, not_false_eq_true, Option.map, Option.bind]; simp, by simp (maxSteps := 1000000) (implicitDefEqProofs := false) only [go_sem, Bool.false_eq_true, slc, aop, abin, aun, intB, ↓reduceIte, Nat.reduceEqDiff, Nat.reduceSub, ne_eq, not_false_eq_true, Option.map, Option.bind]⟩ ?_
    intro m t ⟨i, σ, ht, hm, hi, e0, e6, e5⟩
    subst ht
    simp (maxSteps := 1000000) (implicitDefEqProofs := false) (disch := omega) only [go_sem, Bool.false_eq_true, slc, aop, abin, aun, intB, ↓reduceIte, Nat.reduceEqDiff, Nat.reduceSub, ne_eq, not_false_eq_true, Option.map, Option.bind, get_off, get_off0, set_off, set_off0, List.append_assoc, List.cons_append, List.nil_append, List.length_append, List.length_cons, List.length_nil, Nat.zero_add, Nat.add_zero, Nat.add_assoc, Nat.reduceAdd, List.set_cons_zero, List.set_cons_succ, List.getElem?_cons_zero, List.getElem?_cons_succ, Option.bind_some, Nat.reduceLeDiff, Nat.reduceLT, maxLen, slOut, optI, Int.reduceSub, Int.sub_zero, Nat.zero_mul, if_pos, if_neg, w64, wu8, ↓condK_pos, ↓condK_neg, ↓gdK_pt, ↓gdK_nt, ↓gdK_pf, ↓gdK_nf, decide_eq_true_eq, cellsL, Value.cells, fillL, setAt, decide_true, decide_false, one_int, one_bool, one_string, one_slice, one_pointer, one_ptr, one_iface, one_nili, nat0, flat, slc, List.all_cons, List.all_nil, Bool.and_true, Bool.true_and, Bool.not_true, Bool.not_false, and_true, true_and, and_self, Nat.le_refl, List.take_succ_cons, List.take_zero, List.drop_succ_cons, List.drop_zero, Int.toNat_natCast, Int.reduceToNat, Nat.mul_one, List.take_nil, List.drop_nil, Int.reduceLE, Int.reduceAdd, Int.reduceLT, e0, e6, e5]
    refine condK_dec (fun hlt => ?_) (fun hge => ?_)
    · have hl := putC_len v N i (by omega)
      have hst := putC_step v N i (by omega)
      have hT : ((N : Int) - 1 - i).toNat = N - 1 - i := by omega
      have hx : (v / 256 ^ i).fdiv (2 ^ min 8 64) = v / 256 ^ (i + 1) := by
        rw [show min 8 64 = 8 * 1 from rfl, shr256, Int.pow_one, Int.ediv_ediv_of_nonneg (Int.pow_nonneg (by decide)), Int.pow_succ]
      have hlen : (u8s (putC v N i)).length = N := by rw [u8s_len, hl]
      simp (maxSteps := 1000000) (implicitDefEqProofs := false) (disch := omega) only [go_sem, Bool.false_eq_true, slc, aop, abin, aun, intB, ↓reduceIte, Nat.reduceEqDiff, Nat.reduceSub, ne_eq, not_false_eq_true, Option.map, Option.bind, get_off, get_off0, set_off, set_off0, List.append_assoc, List.cons_append, List.nil_append, List.length_append, List.length_cons, List.length_nil, Nat.zero_add, Nat.add_zero, Nat.add_assoc, Nat.reduceAdd, List.set_cons_zero, List.set_cons_succ, List.getElem?_cons_zero, List.getElem?_cons_succ, Option.bind_some, Nat.reduceLeDiff, Nat.reduceLT, maxLen, slOut, optI, Int.reduceSub, Int.sub_zero, Nat.zero_mul, if_pos, if_neg, w64, wu8, ↓condK_pos, ↓condK_neg, ↓gdK_pt, ↓gdK_nt, ↓gdK_pf, ↓gdK_nf, decide_eq_true_eq, cellsL, Value.cells, fillL, setAt, decide_true, decide_false, one_int, one_bool, one_string, one_slice, one_pointer, one_ptr, one_iface, one_nili, nat0, flat, slc, List.all_cons, List.all_nil, Bool.and_true, Bool.true_and, Bool.not_true, Bool.not_false, and_true, true_and, and_self, Nat.le_refl, List.take_succ_cons, List.take_zero, List.drop_succ_cons, List.drop_zero, Int.toNat_natCast, Int.reduceToNat, Nat.mul_one, List.take_nil, List.drop_nil, Int.reduceLE, Int.reduceAdd, Int.reduceLT, e0, e6, e5, w8, hT, hx, hst, hlen]
      exact ⟨N - (i + 1), by omega, i + 1, _, rfl, rfl, by omega, by simp (maxSteps := 1000000) (implicitDefEqProofs := false) only [go_sem, Bool.false_eq_true, slc, aop, abin, aun, intB, ↓reduceIte, Nat.reduceEqDiff, Nat.reduceSub, ne_eq, not_false_eq_true, Option.map, Option.bind], by simp (maxSteps := 1000000) (implicitDefEqProofs := false) only [go_sem, Bool.false_eq_true, slc, aop, abin, aun, intB, ↓reduceIte, Nat.reduceEqDiff, Nat.reduceSub, ne_eq, not_false_eq_true, Option.map, Option.bind]; congr 1; omega, by simp (maxSteps := 1000000) (implicitDefEqProofs := false) only [go_sem, Bool.false_eq_true, slc, aop, abin, aun, intB, ↓reduceIte, Nat.reduceEqDiff, Nat.reduceSub, ne_eq, not_false_eq_true, Option.map, Option.bind, e5]⟩
    · have hin : i = N := by omega
      subst hin
      have hz2 : putC v i i = putL v i := by simp [putC]
      simp (maxSteps := 1000000) (implicitDefEqProofs := false) (disch := omega) only [go_sem, Bool.false_eq_true, slc, aop, abin, aun, intB, ↓reduceIte, Nat.reduceEqDiff, Nat.reduceSub, ne_eq, not_false_eq_true, Option.map, Option.bind, get_off, get_off0, set_off, set_off0, List.append_assoc, List.cons_append, List.nil_append, List.length_append, List.length_cons, List.length_nil, Nat.zero_add, Nat.add_zero, Nat.add_assoc, Nat.reduceAdd, List.set_cons_zero, List.set_cons_succ, List.getElem?_cons_zero, List.getElem?_cons_succ, Option.bind_some, Nat.reduceLeDiff, Nat.reduceLT, maxLen, slOut, optI, Int.reduceSub, Int.sub_zero, Nat.zero_mul, if_pos, if_neg, w64, wu8, ↓condK_pos, ↓condK_neg, ↓gdK_pt, ↓gdK_nt, ↓gdK_pf, ↓gdK_nf, decide_eq_true_eq, cellsL, Value.cells, fillL, setAt, decide_true, decide_false, one_int, one_bool, one_string, one_slice, one_pointer, one_ptr, one_iface, one_nili, nat0, flat, slc, List.all_cons, List.all_nil, Bool.and_true, Bool.true_and, Bool.not_true, Bool.not_false, and_true, true_and, and_self, Nat.le_refl, List.take_succ_cons, List.take_zero, List.drop_succ_cons, List.drop_zero, Int.toNat_natCast, Int.reduceToNat, Nat.mul_one, List.take_nil, List.drop_nil, Int.reduceLE, Int.reduceAdd, Int.reduceLT, e0, e6, e5, hz2]
      exact ⟨by simp, done_as (by simp [rres, rresL, rres1, put_at]) rfl⟩
  · cases hs
end Go.Proofs.Ytpndkgpkakhbmaa
