import Derived.Test.YtpndkgpkakhbmaaB5
set_option linter.unusedSimpArgs false
set_option linter.unusedVariables false
set_option maxRecDepth 100000
namespace Go.Proofs.Ytpndkgpkakhbmaa
open Go Go.AH
attribute [local go_sem ↓] awp_skip awp_ret awp_exit awp_seq awp_reg awp_drw awp_cond awp_block seqK_normal seqK_ret seqK_exit blkK_normal blkK_ret loopK_normal loopK_ret loopK_exit rops_nil qops_nil rops_op rops_op0 rops_opg qops_op qops_op0 qops_opg gdK_tt gdK_ff gdK_tf gdK_ft kont_some condK_true condK_false
attribute [local go_sem] tag_eq blkK_exit put_at argσ_nil argσ_cons ev_t ev_v ctx_get getB_bool getI_int getP_ptr Option.map_some Option.bind_some List.map_cons List.map_nil
attribute [local congr] kont_cong condK_cong gdK_cong awp_cong rops_cong qops_cong
theorem rdU_sub {h : Heap} {b o n c : Nat} {l : List Int} (hl : rdU h (.slice (some ⟨b, o, none⟩) n c) = some l) (i m m' : Nat) (hi : i + m ≤ l.length) :
    rdU h (.slice (some ⟨b, o + i, none⟩) m m') = some ((l.drop i).take m) := by
  have hb := bytes_len hl
  unfold rdU at hl ⊢
  simp only [rdS, Nat.mul_one] at hl ⊢
  cases hx : h[b]? with
  | none => simp [hx] at hl
  | some x =>
    cases x with
    | dead => simp [hx] at hl
    | cells e cs =>
      simp only [hx] at hl ⊢
      split at hl
      · rename_i hle
        simp only [Option.bind_some] at hl
        obtain ⟨hlen, hget⟩ := mapM_get _ _ _ hl
        simp at hlen
        rw [if_pos (by omega)]
        simp only [Option.bind_some]
        have e : (cs.drop (o + i)).take m = u8s ((l.drop i).take m) := by
          apply List.ext_getElem?
          intro j
          by_cases hj : j < m
          · obtain ⟨a, h1, h2⟩ := hget (i + j) (l[i + j]'(by omega)) (by simp)
            have h3 := (byteOf_some h2).1
            rw [List.getElem?_take_of_lt (by omega)] at h1
            simp only [List.getElem?_drop] at h1
            rw [List.getElem?_take_of_lt hj]
            simp only [List.getElem?_drop, u8s, List.getElem?_map]
            rw [List.getElem?_take_of_lt hj]
            simp only [List.getElem?_drop]
            rw [Nat.add_assoc, h1, h3, List.getElem?_eq_getElem (by omega)]; rfl
          · rw [List.getElem?_eq_none (by simp; omega), List.getElem?_eq_none (by simp [u8s]; omega)]
        rw [e, byteOf_u8s _ (fun x hx => hb x (List.mem_of_mem_drop (List.mem_of_mem_take hx)))]
      · simp at hl
theorem peekI_ok : Ok Try.prog 17 peek_sp := by
  refine ok_quiet (OkΓ.cons in_ok (OkΓ.cons take_ok (OkΓ.nil _))) Try.func17 (by kernel_rfl) k17 ?_ ?_
  · intro lo args h r h' hs
    unfold peek_sp at hs; split at hs
    · obtain ⟨l, _, hs⟩ := Option.bind_eq_some_iff.1 hs
      split at hs <;> cases hs; exact Fr.refl _ _
    · cases hs
  · intro lo args h r h' hs
    unfold peek_sp at hs; split at hs
    · rename_i s
      obtain ⟨l, hl, hs⟩ := Option.bind_eq_some_iff.1 hs
      split at hs <;> cases hs
      rename_i hcond
      obtain ⟨a, c, rfl, hb, hc⟩ := rdU_spec hl
      clear hs
      by_cases h1 : (14 : Int) ≤ l.length ∧ (l.length : Int) ≤ 300
      · have q1 : (decide ((14 : Int) ≤ l.length) && decide ((l.length : Int) ≤ 300)) = true := by simp [h1]
        obtain ⟨b, o, e, bs, rfl, _⟩ := hc 0 (by omega)
        have hs1 := fun l' => rdU_sub (rdU_app hl l') 0 4 4 (by omega)
        have hs2 := fun l' => rdU_sub (rdU_app hl l') 4 4 4 (by omega)
        simp only [Nat.add_zero, List.drop_zero] at hs1
        have hlen1 : (l.take 4).length = 4 := by simp; omega
        have hlen2 : ((l.drop 4).take 4).length = 4 := by simp; omega
        by_cases h0 : takeN (l.take 4) = 0
        · have e : peekR l = [.int .i64 5, .int .i64 0, .int .i64 0] := if_neg (by simp [h0])
          (dsimp only [c17]; simp (maxSteps := 1000000) (implicitDefEqProofs := false) (disch := omega) only [go_sem, Bool.false_eq_true, slc, aop, abin, aun, intB, ↓reduceIte, Nat.reduceEqDiff, Nat.reduceSub, ne_eq, not_false_eq_true, Option.map, Option.bind, get_off, get_off0, set_off, set_off0, List.append_assoc, List.cons_append, List.nil_append, List.length_append, List.length_cons, List.length_nil, Nat.zero_add, Nat.add_zero, Nat.add_assoc, Nat.reduceAdd, List.set_cons_zero, List.set_cons_succ, List.getElem?_cons_zero, List.getElem?_cons_succ, Option.bind_some, Nat.reduceLeDiff, Nat.reduceLT, maxLen, slOut, optI, Int.reduceSub, Int.sub_zero, Nat.zero_mul, if_pos, if_neg, w64, wu8, ↓condK_pos, ↓condK_neg, ↓gdK_pt, ↓gdK_nt, ↓gdK_pf, ↓gdK_nf, decide_eq_true_eq, cellsL, Value.cells, fillL, setAt, decide_true, decide_false, one_int, one_bool, one_string, one_slice, one_pointer, one_ptr, one_iface, one_nili, nat0, flat, slc, List.all_cons, List.all_nil, Bool.and_true, Bool.true_and, Bool.not_true, Bool.not_false, and_true, true_and, and_self, Nat.le_refl, List.take_succ_cons, List.take_zero, List.drop_succ_cons, List.drop_zero, Int.toNat_natCast, Int.reduceToNat, Nat.mul_one, List.take_nil, List.drop_nil, Int.reduceLE, Int.reduceAdd, Int.reduceLT, in_sp, take_sp, hs1, hs2, hlen1, hlen2, q1, h0, beq_self_eq_true])
          exact ⟨by simp, done_scalar (by simp [rres, rresL, rres1, put_at, getP_ptr, get_off0, e]) (mapV_agg _ _ (peekR_flat l)).symm keep_off⟩
        · have e : peekR l = [.int .i64 0, .int .i64 (takeN (l.take 4)), .int .i64 (takeN ((l.drop 4).take 4))] := if_pos ⟨by omega, by omega, h0⟩
          have q2 : (takeN (l.take 4) == 0) = false := by simp [h0]
          (dsimp only [c17]; simp (maxSteps := 1000000) (implicitDefEqProofs := false) (disch := omega) only [go_sem, Bool.false_eq_true, slc, aop, abin, aun, intB, ↓reduceIte, Nat.reduceEqDiff, Nat.reduceSub, ne_eq, not_false_eq_true, Option.map, Option.bind, get_off, get_off0, set_off, set_off0, List.append_assoc, List.cons_append, List.nil_append, List.length_append, List.length_cons, List.length_nil, Nat.zero_add, Nat.add_zero, Nat.add_assoc, Nat.reduceAdd, List.set_cons_zero, List.set_cons_succ, List.getElem?_cons_zero, List.getElem?_cons_succ, Option.bind_some, Nat.reduceLeDiff, Nat.reduceLT, maxLen, slOut, optI, Int.reduceSub, Int.sub_zero, Nat.zero_mul, if_pos, if_neg, w64, wu8, ↓condK_pos, ↓condK_neg, ↓gdK_pt, ↓gdK_nt, ↓gdK_pf, ↓gdK_nf, decide_eq_true_eq, cellsL, Value.cells, fillL, setAt, decide_true, decide_false, one_int, one_bool, one_string, one_slice, one_pointer, one_ptr, one_iface, one_nili, nat0, flat, slc, List.all_cons, List.all_nil, Bool.and_true, Bool.true_and, Bool.not_true, Bool.not_false, and_true, true_and, and_self, Nat.le_refl, List.take_succ_cons, List.take_zero, List.drop_succ_cons, List.drop_zero, Int.toNat_natCast, Int.reduceToNat, Nat.mul_one, List.take_nil, List.drop_nil, Int.reduceLE, Int.reduceAdd, Int.reduceLT, in_sp, take_sp, hs1, hs2, hlen1, hlen2, q1, q2])
          exact ⟨by simp, done_scalar (by simp [rres, rresL, rres1, put_at, getP_ptr, get_off0, e]) (mapV_agg _ _ (peekR_flat l)).symm keep_off⟩
      · have q1 : (decide ((14 : Int) ≤ l.length) && decide ((l.length : Int) ≤ 300)) = false := by simp; omega
        (dsimp only [c17]; simp (maxSteps := 1000000) (implicitDefEqProofs := false) (disch := omega) only [go_sem, Bool.false_eq_true, slc, aop, abin, aun, intB, ↓reduceIte, Nat.reduceEqDiff, Nat.reduceSub, ne_eq, not_false_eq_true, Option.map, Option.bind, get_off, get_off0, set_off, set_off0, List.append_assoc, List.cons_append, List.nil_append, List.length_append, List.length_cons, List.length_nil, Nat.zero_add, Nat.add_zero, Nat.add_assoc, Nat.reduceAdd, List.set_cons_zero, List.set_cons_succ, List.getElem?_cons_zero, List.getElem?_cons_succ, Option.bind_some, Nat.reduceLeDiff, Nat.reduceLT, maxLen, slOut, optI, Int.reduceSub, Int.sub_zero, Nat.zero_mul, if_pos, if_neg, w64, wu8, ↓condK_pos, ↓condK_neg, ↓gdK_pt, ↓gdK_nt, ↓gdK_pf, ↓gdK_nf, decide_eq_true_eq, cellsL, Value.cells, fillL, setAt, decide_true, decide_false, one_int, one_bool, one_string, one_slice, one_pointer, one_ptr, one_iface, one_nili, nat0, flat, slc, List.all_cons, List.all_nil, Bool.and_true, Bool.true_and, Bool.not_true, Bool.not_false, and_true, true_and, and_self, Nat.le_refl, List.take_succ_cons, List.take_zero, List.drop_succ_cons, List.drop_zero, Int.toNat_natCast, Int.reduceToNat, Nat.mul_one, List.take_nil, List.drop_nil, Int.reduceLE, Int.reduceAdd, Int.reduceLT, in_sp, q1])
        have e : peekR l = [.int .i64 5, .int .i64 0, .int .i64 0] := if_neg (by omega)
        exact ⟨by simp, done_scalar (by simp [rres, rresL, rres1, put_at, getP_ptr, get_off0, e]) (mapV_agg _ _ (peekR_flat l)).symm keep_off⟩
    · cases hs
def int3 : Value → Value → Option Bool
  | .agg ⟨[.int .i64 a, .int .i64 b, .int .i64 c]⟩, .agg ⟨[.int .i64 x, .int .i64 y, .int .i64 z]⟩ => some (decide (a = x ∧ b = y ∧ c = z))
  | _, _ => none
def eqOut_sp : Sp := fun _ args h => match args with
  | [x, y] => (int3 x y).bind fun b => if b then some (.bool true, h) else none
  | _ => none
theorem eqOut_ok : Ok Try.prog 18 eqOut_sp := by
  refine ok_quiet (OkΓ.nil _) Try.func18 (by kernel_rfl) k18 ?_ ?_
  · intro lo args h r h' hs
    unfold eqOut_sp at hs; split at hs
    · obtain ⟨b, _, hs⟩ := Option.bind_eq_some_iff.1 hs
      split at hs <;> cases hs; exact Fr.refl _ _
    · cases hs
  · intro lo args h r h' hs
    unfold eqOut_sp at hs; split at hs
    · rename_i x y
      obtain ⟨b, hb, hs⟩ := Option.bind_eq_some_iff.1 hs
      split at hs <;> cases hs
      rename_i hbt
      unfold int3 at hb; split at hb
      · simp at hb; subst hb
        simp at hbt
        obtain ⟨rfl, rfl, rfl⟩ := hbt
        (dsimp only [c18]; simp (maxSteps := 1000000) (implicitDefEqProofs := false) (disch := omega) only [go_sem, Bool.false_eq_true, slc, aop, abin, aun, intB, ↓reduceIte, Nat.reduceEqDiff, Nat.reduceSub, ne_eq, not_false_eq_true, Option.map, Option.bind, get_off, get_off0, set_off, set_off0, List.append_assoc, List.cons_append, List.nil_append, List.length_append, List.length_cons, List.length_nil, Nat.zero_add, Nat.add_zero, Nat.add_assoc, Nat.reduceAdd, List.set_cons_zero, List.set_cons_succ, List.getElem?_cons_zero, List.getElem?_cons_succ, Option.bind_some, Nat.reduceLeDiff, Nat.reduceLT, maxLen, slOut, optI, Int.reduceSub, Int.sub_zero, Nat.zero_mul, if_pos, if_neg, w64, wu8, ↓condK_pos, ↓condK_neg, ↓gdK_pt, ↓gdK_nt, ↓gdK_pf, ↓gdK_nf, decide_eq_true_eq, cellsL, Value.cells, fillL, setAt, decide_true, decide_false, one_int, one_bool, one_string, one_slice, one_pointer, one_ptr, one_iface, one_nili, nat0, flat, slc, List.all_cons, List.all_nil, Bool.and_true, Bool.true_and, Bool.not_true, Bool.not_false, and_true, true_and, and_self, Nat.le_refl, List.take_succ_cons, List.take_zero, List.drop_succ_cons, List.drop_zero, Int.toNat_natCast, Int.reduceToNat, Nat.mul_one, List.take_nil, List.drop_nil, Int.reduceLE, Int.reduceAdd, Int.reduceLT, bne_self_eq_false])
        exact ⟨by simp, done_scalar (by simp [rres, rresL, rres1, put_at]) (mapV_flat _ rfl).symm keep_off⟩
      · cases hb
    · cases hs
end Go.Proofs.Ytpndkgpkakhbmaa
