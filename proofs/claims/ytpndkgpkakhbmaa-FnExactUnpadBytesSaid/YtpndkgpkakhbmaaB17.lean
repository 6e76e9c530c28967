import Derived.Test.YtpndkgpkakhbmaaB16
set_option linter.unusedSimpArgs false
set_option linter.unusedVariables false
set_option maxRecDepth 100000
namespace Go.Proofs.Ytpndkgpkakhbmaa
open Go Go.AH
attribute [local go_sem ↓] awp_skip awp_ret awp_exit awp_seq awp_reg awp_drw awp_cond awp_block seqK_normal seqK_ret seqK_exit blkK_normal blkK_ret loopK_normal loopK_ret loopK_exit rops_nil qops_nil rops_op rops_op0 rops_opg qops_op qops_op0 qops_opg gdK_tt gdK_ff gdK_tf gdK_ft kont_some condK_true condK_false
attribute [local go_sem] tag_eq blkK_exit put_at argσ_nil argσ_cons ev_t ev_v ctx_get getB_bool getI_int getP_ptr Option.map_some Option.bind_some List.map_cons List.map_nil
attribute [local congr] kont_cong condK_cong gdK_cong awp_cong rops_cong qops_cong
-- slices.Equal[[]byte,byte]
def c71 : AF := ⟨26,
  (.seq (.reg [⟨(some 4), none, .mv (.v (.bool false))⟩])
  (.seq (.seq (.reg [⟨(some 6), none, .mv (.t 0)⟩,
   ⟨(some 7), none, .len (.t 6)⟩,
   ⟨(some 8), none, .mv (.t 1)⟩,
   ⟨(some 9), none, .len (.t 8)⟩,
   ⟨(some 10), none, .bin .neq (.t 7) (.t 9)⟩])
  (.cond (.t 10) (.seq (.reg [⟨(some 4), none, .mv (.v (.bool false))⟩])
  .ret)
  .skip))
  (.seq (.seq (.reg [⟨(some 11), none, .mv (.t 0)⟩,
   ⟨(some 12), none, .len (.t 11)⟩,
   ⟨(some 13), none, .mv (.v (.int .i64 0))⟩])
  (.block 0 (.loop (.seq (.reg [⟨(some 14), none, .bin .lss (.t 13) (.t 12)⟩])
  (.seq (.cond (.t 14) .skip
  (.exit 0))
  (.seq (.block 1 (.seq (.reg [⟨(some 15), none, .mv (.t 13)⟩,
   ⟨(some 5), none, .mv (.t 15)⟩])
  (.seq (.drw [⟨(some 16), none, .mv (.t 0)⟩,
   ⟨(some 17), none, .mv (.t 5)⟩,
   ⟨(some 18), none, .ia 1 (.t 16) (.t 17)⟩,
   ⟨(some 19), none, .ld (.t 18)⟩,
   ⟨(some 20), none, .mv (.t 1)⟩,
   ⟨(some 21), none, .mv (.t 5)⟩,
   ⟨(some 22), none, .ia 1 (.t 20) (.t 21)⟩,
   ⟨(some 23), none, .ld (.t 22)⟩,
   ⟨(some 24), none, .bin .neq (.t 19) (.t 23)⟩] [])
  (.cond (.t 24) (.seq (.reg [⟨(some 4), none, .mv (.v (.bool false))⟩])
  .ret)
  .skip))))
  (.reg [⟨(some 25), none, .bin .add (.t 13) (.v (.int .i64 1))⟩,
   ⟨(some 13), none, .mv (.t 25)⟩])))))))
  (.seq (.reg [⟨(some 4), none, .mv (.v (.bool true))⟩])
  .ret)))),
  [.t 4]⟩
theorem k71 : cFn Try.prog Try.f71 = some c71 := by kernel_rfl
-- spec.l14Unpad
def c78 : AF := ⟨87,
  (.seq (.reg [⟨(some 2), none, .mv (.v (.slice none 0 0))⟩,
   ⟨(some 3), none, .mv (.v (.int .i64 0))⟩,
   ⟨(some 4), none, .mv (.v (.int .i64 0))⟩,
   ⟨(some 5), none, .mv (.v (.bool false))⟩])
  (.seq (.reg [⟨(some 11), none, .mv (.t 0)⟩,
   ⟨(some 12), none, .len (.t 11)⟩,
   ⟨(some 6), none, .mv (.t 12)⟩])
  (.seq (.seq (.reg [⟨(some 13), none, .mv (.t 6)⟩,
   ⟨(some 14), none, .bin .lss (.t 13) (.v (.int .i64 2))⟩])
  (.cond (.t 14) (.seq (.reg [⟨(some 2), none, .mv (.v (.slice none 0 0))⟩,
   ⟨(some 3), none, .mv (.v (.int .i64 0))⟩,
   ⟨(some 4), none, .mv (.v (.int .i64 0))⟩,
   ⟨(some 5), none, .mv (.v (.bool false))⟩])
  .ret)
  .skip))
  (.seq (.reg [⟨(some 15), none, .mv (.t 0)⟩,
   ⟨(some 16), none, .mv (.t 6)⟩,
   ⟨(some 17), none, .bin .sub (.t 16) (.v (.int .i64 2))⟩,
   ⟨(some 18), none, .ia 1 (.t 15) (.t 17)⟩,
   ⟨(some 19), none, .ld (.t 18)⟩,
   ⟨(some 20), none, .cvI .i64 (.t 19)⟩,
   ⟨(some 7), none, .mv (.t 20)⟩])
  (.seq (.seq (.reg [⟨(some 21), none, .mv (.t 7)⟩,
   ⟨(some 22), none, .bin .gtr (.t 21) (.v (.int .i64 15))⟩,
   ⟨(some 23), none, .mv (.t 22)⟩,
   ⟨(some 24), (some (23, false)), .mv (.t 7)⟩,
   ⟨(some 25), (some (23, false)), .mv (.t 6)⟩,
   ⟨(some 26), (some (23, false)), .bin .sub (.t 25) (.v (.int .i64 2))⟩,
   ⟨(some 27), (some (23, false)), .bin .gtr (.t 24) (.t 26)⟩,
   ⟨(some 28), none, .pick (.t 23) (.v (.bool true)) (.t 27)⟩])
  (.cond (.t 28) (.seq (.reg [⟨(some 2), none, .mv (.v (.slice none 0 0))⟩,
   ⟨(some 3), none, .mv (.v (.int .i64 0))⟩,
   ⟨(some 4), none, .mv (.v (.int .i64 0))⟩,
   ⟨(some 5), none, .mv (.v (.bool false))⟩])
  .ret)
  .skip))
  (.seq (.seq (.reg [⟨(some 8), none, .mv (.v (.int .i64 1))⟩])
  (.block 0 (.loop (.seq (.seq (.reg [⟨(some 29), none, .mv (.t 8)⟩,
   ⟨(some 30), none, .mv (.t 7)⟩,
   ⟨(some 31), none, .bin .leq (.t 29) (.t 30)⟩])
  (.cond (.t 31) .skip
  (.exit 0)))
  (.seq (.block 1 (.seq (.reg [⟨(some 34), none, .mv (.t 0)⟩,
   ⟨(some 35), none, .mv (.t 6)⟩,
   ⟨(some 36), none, .bin .sub (.t 35) (.v (.int .i64 2))⟩,
   ⟨(some 37), none, .mv (.t 7)⟩,
   ⟨(some 38), none, .bin .sub (.t 36) (.t 37)⟩,
   ⟨(some 39), none, .mv (.t 8)⟩,
   ⟨(some 40), none, .bin .add (.t 38) (.t 39)⟩,
   ⟨(some 41), none, .bin .sub (.t 40) (.v (.int .i64 1))⟩,
   ⟨(some 42), none, .ia 1 (.t 34) (.t 41)⟩,
   ⟨(some 43), none, .ld (.t 42)⟩,
   ⟨(some 44), none, .cvI .i64 (.t 43)⟩,
   ⟨(some 45), none, .mv (.t 8)⟩,
   ⟨(some 46), none, .bin .neq (.t 44) (.t 45)⟩])
  (.cond (.t 46) (.seq (.reg [⟨(some 2), none, .mv (.v (.slice none 0 0))⟩,
   ⟨(some 3), none, .mv (.v (.int .i64 0))⟩,
   ⟨(some 4), none, .mv (.v (.int .i64 0))⟩,
   ⟨(some 5), none, .mv (.v (.bool false))⟩])
  .ret)
  .skip)))
  (.reg [⟨(some 32), none, .mv (.t 8)⟩,
   ⟨(some 33), none, .bin .add (.t 32) (.v (.int .i64 1))⟩,
   ⟨(some 8), none, .mv (.t 33)⟩]))))))
  (.seq (.reg [⟨(some 9), none, .mv (.v (.bool false))⟩])
  (.seq (.seq (.reg [⟨(some 10), none, .mv (.v (.int .i64 1))⟩])
  (.block 2 (.loop (.seq (.seq (.reg [⟨(some 47), none, .mv (.t 10)⟩,
   ⟨(some 48), none, .bin .leq (.t 47) (.v (.int .i64 16))⟩])
  (.cond (.t 48) .skip
  (.exit 2)))
  (.seq (.block 3 (.reg [⟨(some 51), none, .mv (.t 9)⟩,
   ⟨(some 52), none, .mv (.t 51)⟩,
   ⟨(some 53), (some (52, false)), .mv (.t 6)⟩,
   ⟨(some 54), (some (52, false)), .mv (.t 10)⟩,
   ⟨(some 55), (some (52, false)), .bin .rem (.t 53) (.t 54)⟩,
   ⟨(some 56), (some (52, false)), .bin .eql (.t 55) (.v (.int .i64 0))⟩,
   ⟨(some 57), (some (52, false)), .mv (.t 56)⟩,
   ⟨(some 58), (some (57, true)), .mv (.t 7)⟩,
   ⟨(some 59), (some (57, true)), .mv (.t 10)⟩,
   ⟨(some 60), (some (57, true)), .bin .lss (.t 58) (.t 59)⟩,
   ⟨(some 61), (some (52, false)), .pick (.t 57) (.t 60) (.v (.bool false))⟩,
   ⟨(some 62), none, .pick (.t 52) (.v (.bool true)) (.t 61)⟩,
   ⟨(some 9), none, .mv (.t 62)⟩]))
  (.reg [⟨(some 49), none, .mv (.t 10)⟩,
   ⟨(some 50), none, .bin .add (.t 49) (.v (.int .i64 1))⟩,
   ⟨(some 10), none, .mv (.t 50)⟩]))))))
  (.seq (.seq (.reg [⟨(some 63), none, .mv (.t 9)⟩,
   ⟨(some 64), none, .un .not (.t 63)⟩,
   ⟨(some 65), none, .mv (.t 64)⟩,
   ⟨(some 66), (some (65, false)), .mv (.t 6)⟩,
   ⟨(some 67), (some (65, false)), .bin .sub (.t 66) (.v (.int .i64 2))⟩,
   ⟨(some 68), (some (65, false)), .mv (.t 7)⟩,
   ⟨(some 69), (some (65, false)), .bin .sub (.t 67) (.t 68)⟩,
   ⟨(some 70), (some (65, false)), .bin .gtr (.t 69) (.v (.int .i64 400))⟩,
   ⟨(some 71), none, .pick (.t 65) (.v (.bool true)) (.t 70)⟩])
  (.cond (.t 71) (.seq (.reg [⟨(some 2), none, .mv (.v (.slice none 0 0))⟩,
   ⟨(some 3), none, .mv (.v (.int .i64 0))⟩,
   ⟨(some 4), none, .mv (.v (.int .i64 0))⟩,
   ⟨(some 5), none, .mv (.v (.bool false))⟩])
  .ret)
  .skip))
  (.seq (.drw [⟨(some 72), none, .mkE⟩,
   ⟨(some 73), none, .mv (.t 0)⟩,
   ⟨(some 74), none, .mv (.t 6)⟩,
   ⟨(some 75), none, .bin .sub (.t 74) (.v (.int .i64 2))⟩,
   ⟨(some 76), none, .mv (.t 7)⟩,
   ⟨(some 77), none, .bin .sub (.t 75) (.t 76)⟩,
   ⟨(some 78), none, .sl 1 (.t 73) none (some (.t 77))⟩,
   ⟨(some 79), none, .app 5 1 1 (.t 72) (.t 78)⟩,
   ⟨(some 80), none, .mv (.t 0)⟩,
   ⟨(some 81), none, .mv (.t 6)⟩,
   ⟨(some 82), none, .bin .sub (.t 81) (.v (.int .i64 1))⟩,
   ⟨(some 83), none, .ia 1 (.t 80) (.t 82)⟩,
   ⟨(some 84), none, .ld (.t 83)⟩,
   ⟨(some 85), none, .cvI .i64 (.t 84)⟩,
   ⟨(some 86), none, .mv (.t 7)⟩,
   ⟨(some 2), none, .mv (.t 79)⟩,
   ⟨(some 3), none, .mv (.t 85)⟩,
   ⟨(some 4), none, .mv (.t 86)⟩,
   ⟨(some 5), none, .mv (.v (.bool true))⟩] [])
  .ret)))))))))),
  [.t 2, .t 3, .t 4, .t 5]⟩
theorem k78 : cFn Try.prog Try.f78 = some c78 := by kernel_rfl
/-! slices.Equal -/
def equal_sp : Sp := fun _ args h => match args with
  | [s, t] => (rdU h s).bind fun l => (rdU h t).bind fun l' => if l.length ≤ 140737488355328 ∧ l'.length ≤ 140737488355328 then some (.bool (decide (l = l')), h) else none
  | _ => none
theorem equal_ok : Ok Try.prog 71 equal_sp := by
  refine ok_quiet (OkΓ.nil _) Try.func71 (by kernel_rfl) k71 ?_ ?_
  · intro lo args h r h' hs
    unfold equal_sp at hs; split at hs
    · obtain ⟨l, _, hs⟩ := Option.bind_eq_some_iff.1 hs
      obtain ⟨l', _, hs⟩ := Option.bind_eq_some_iff.1 hs
      split at hs <;> cases hs; exact Fr.refl _ _
    · cases hs
  · intro lo args h r h' hs
    unfold equal_sp at hs; split at hs
    · rename_i s t
      obtain ⟨l, hl, hs⟩ := Option.bind_eq_some_iff.1 hs
      obtain ⟨l', hl', hs⟩ := Option.bind_eq_some_iff.1 hs
      split at hs <;> cases hs
      rename_i hcond
      obtain ⟨a, c, rfl, hb, hc⟩ := rdU_spec hl
      obtain ⟨a', c', rfl, hb', hc'⟩ := rdU_spec hl'
      clear hs
      by_cases hlen : l.length = l'.length
      · have q : ((l.length : Int) != l'.length) = false := by simp [hlen]
        (dsimp only [c71]; simp (maxSteps := 1000000) (implicitDefEqProofs := false) (disch := omega) only [go_sem, Bool.false_eq_true, slc, aop, abin, aun, intB, ↓reduceIte, Nat.reduceEqDiff, Nat.reduceSub, ne_eq, not_false_eq_true, Option.map, Option.bind, get_off, get_off0, set_off, set_off0, List.append_assoc, List.cons_append, List.nil_append, List.length_append, List.length_cons, List.length_nil, Nat.zero_add, Nat.add_zero, Nat.add_assoc, Nat.reduceAdd, List.set_cons_zero, List.set_cons_succ, List.getElem?_cons_zero, List.getElem?_cons_succ, Option.bind_some, Nat.reduceLeDiff, Nat.reduceLT, maxLen, slOut, optI, Int.reduceSub, Int.sub_zero, Nat.zero_mul, if_pos, if_neg, w64, wu8, ↓condK_pos, ↓condK_neg, ↓gdK_pt, ↓gdK_nt, ↓gdK_pf, ↓gdK_nf, decide_eq_true_eq, cellsL, Value.cells, fillL, setAt, decide_true, decide_false, one_int, one_bool, one_string, one_slice, one_pointer, one_ptr, one_iface, one_nili, nat0, flat, slc, List.all_cons, List.all_nil, Bool.and_true, Bool.true_and, Bool.not_true, Bool.not_false, and_true, true_and, and_self, Nat.le_refl, List.take_succ_cons, List.take_zero, List.drop_succ_cons, List.drop_zero, Int.toNat_natCast, Int.reduceToNat, Nat.mul_one, List.take_nil, List.drop_nil, Int.reduceLE, Int.reduceAdd, Int.reduceLT, q])
        refine awp_loop (fun m t => ∃ (i : Nat) (σ : Nat → Value), t = ⟨σ, h⟩ ∧ m = l.length - i ∧ i ≤ l.length ∧ l.take i = l'.take i ∧ σ 0 = .slice a l.length c ∧ σ 1 = .slice a' l'.length c' ∧ σ 12 = .int .i64 l.length ∧ σ 13 = .int .i64 i) l.length ⟨0, _, rfl, by simp, by simp, by simp, by simp (maxSteps := 1000000) (implicitDefEqProofs := false) only [go_sem, Bool.false_eq_true, slc, aop, abin, aun, intB, ↓reduceIte, Nat.reduceEqDiff, Nat.reduceSub, ne_eq, not_false_eq_true, Option.map, Option.bind], by simp (maxSteps := 1000000) (implicitDefEqProofs := false) only [go_sem, Bool.false_eq_true, slc, aop, abin, aun, intB, ↓reduceIte, Nat.reduceEqDiff, Nat.reduceSub, ne_eq, not_false_eq_true, Option.map, Option.bind], by simp (maxSteps := 1000000) (implicitDefEqProofs := false) only [go_sem, Bool.false_eq_true, slc, aop, abin, aun, intB, ↓reduceIte, Nat.reduceEqDiff, Nat.reduceSub, ne_eq, not_false_eq_true, Option.map, Option.bind], by simp (maxSteps := 1000000) (implicitDefEqProofs := false) only [go_sem, Bool.false_eq_true, slc, aop, abin, aun, intB, ↓reduceIte, Nat.reduceEqDiff, Nat.reduceSub, ne_eq, not_false_eq_true, Option.map, Option.bind]; rfl⟩ ?_
        intro m t ⟨i, σ, ht, hm, hi, htk, e0, e1, e12, e13⟩
        subst ht
        simp (maxSteps := 1000000) (implicitDefEqProofs := false) (disch := omega) only [go_sem, Bool.false_eq_true, slc, aop, abin, aun, intB, ↓reduceIte, Nat.reduceEqDiff, Nat.reduceSub, ne_eq, not_false_eq_true, Option.map, Option.bind, get_off, get_off0, set_off, set_off0, List.append_assoc, List.cons_append, List.nil_append, List.length_append, List.length_cons, List.length_nil, Nat.zero_add, Nat.add_zero, Nat.add_assoc, Nat.reduceAdd, List.set_cons_zero, List.set_cons_succ, List.getElem?_cons_zero, List.getElem?_cons_succ, Option.bind_some, Nat.reduceLeDiff, Nat.reduceLT, maxLen, slOut, optI, Int.reduceSub, Int.sub_zero, Nat.zero_mul, if_pos, if_neg, w64, wu8, ↓condK_pos, ↓condK_neg, ↓gdK_pt, ↓gdK_nt, ↓gdK_pf, ↓gdK_nf, decide_eq_true_eq, cellsL, Value.cells, fillL, setAt, decide_true, decide_false, one_int, one_bool, one_string, one_slice, one_pointer, one_ptr, one_iface, one_nili, nat0, flat, slc, List.all_cons, List.all_nil, Bool.and_true, Bool.true_and, Bool.not_true, Bool.not_false, and_true, true_and, and_self, Nat.le_refl, List.take_succ_cons, List.take_zero, List.drop_succ_cons, List.drop_zero, Int.toNat_natCast, Int.reduceToNat, Nat.mul_one, List.take_nil, List.drop_nil, Int.reduceLE, Int.reduceAdd, Int.reduceLT, e0, e1, e12, e13]
        refine condK_dec (fun hlt => ?_) (fun hge => ?_)
        · obtain ⟨b, o, e, bs, rfl, hbk, hcell⟩ := hc i (by omega)
          obtain ⟨b2, o2, e2, bs2, rfl, hbk2, hcell2⟩ := hc' i (by omega)
          have g1 : l.take (i + 1) = l.take i ++ [l.getD i 0] := by
            rw [List.take_succ_eq_append_getElem (by omega)]; simp [show i < l.length by omega]
          have g2 : l'.take (i + 1) = l'.take i ++ [l'.getD i 0] := by
            rw [List.take_succ_eq_append_getElem (by omega)]; simp [show i < l'.length by omega]
          by_cases hx : l.getD i 0 = l'.getD i 0
          · have q2 : (l.getD i 0 != l'.getD i 0) = false := by simp only [hx, bne_self_eq_false]
            simp (maxSteps := 1000000) (implicitDefEqProofs := false) (disch := omega) only [go_sem, Bool.false_eq_true, slc, aop, abin, aun, intB, ↓reduceIte, Nat.reduceEqDiff, Nat.reduceSub, ne_eq, not_false_eq_true, Option.map, Option.bind, get_off, get_off0, set_off, set_off0, List.append_assoc, List.cons_append, List.nil_append, List.length_append, List.length_cons, List.length_nil, Nat.zero_add, Nat.add_zero, Nat.add_assoc, Nat.reduceAdd, List.set_cons_zero, List.set_cons_succ, List.getElem?_cons_zero, List.getElem?_cons_succ, Option.bind_some, Nat.reduceLeDiff, Nat.reduceLT, maxLen, slOut, optI, Int.reduceSub, Int.sub_zero, Nat.zero_mul, if_pos, if_neg, w64, wu8, ↓condK_pos, ↓condK_neg, ↓gdK_pt, ↓gdK_nt, ↓gdK_pf, ↓gdK_nf, decide_eq_true_eq, cellsL, Value.cells, fillL, setAt, decide_true, decide_false, one_int, one_bool, one_string, one_slice, one_pointer, one_ptr, one_iface, one_nili, nat0, flat, slc, List.all_cons, List.all_nil, Bool.and_true, Bool.true_and, Bool.not_true, Bool.not_false, and_true, true_and, and_self, Nat.le_refl, List.take_succ_cons, List.take_zero, List.drop_succ_cons, List.drop_zero, Int.toNat_natCast, Int.reduceToNat, Nat.mul_one, List.take_nil, List.drop_nil, Int.reduceLE, Int.reduceAdd, Int.reduceLT, e0, e1, e12, e13, hbk, hcell, hbk2, hcell2, q2]
            exact ⟨l.length - (i + 1), by omega, i + 1, _, rfl, rfl, by omega, by rw [g1, g2, htk, hx], by simp (maxSteps := 1000000) (implicitDefEqProofs := false) only [go_sem, Bool.false_eq_true, slc, aop, abin, aun, intB, ↓reduceIte, Nat.reduceEqDiff, Nat.reduceSub, ne_eq, not_false_eq_true, Option.map, Option.bind, e0], by simp (maxSteps := 1000000) (implicitDefEqProofs := false) only [go_sem, Bool.false_eq_true, slc, aop, abin, aun, intB, ↓reduceIte, Nat.reduceEqDiff, Nat.reduceSub, ne_eq, not_false_eq_true, Option.map, Option.bind, e1], by simp (maxSteps := 1000000) (implicitDefEqProofs := false) only [go_sem, Bool.false_eq_true, slc, aop, abin, aun, intB, ↓reduceIte, Nat.reduceEqDiff, Nat.reduceSub, ne_eq, not_false_eq_true, Option.map, Option.bind, e12], by simp (maxSteps := 1000000) (implicitDefEqProofs := false) only [go_sem, Bool.false_eq_true, slc, aop, abin, aun, intB, ↓reduceIte, Nat.reduceEqDiff, Nat.reduceSub, ne_eq, not_false_eq_true, Option.map, Option.bind]; rfl⟩
          · have q2 : (l.getD i 0 != l'.getD i 0) = true := by simp only [bne_iff_ne]; exact hx
            have hne : l ≠ l' := fun h => hx (by rw [h])
            simp (maxSteps := 1000000) (implicitDefEqProofs := false) (disch := omega) only [go_sem, Bool.false_eq_true, slc, aop, abin, aun, intB, ↓reduceIte, Nat.reduceEqDiff, Nat.reduceSub, ne_eq, not_false_eq_true, Option.map, Option.bind, get_off, get_off0, set_off, set_off0, List.append_assoc, List.cons_append, List.nil_append, List.length_append, List.length_cons, List.length_nil, Nat.zero_add, Nat.add_zero, Nat.add_assoc, Nat.reduceAdd, List.set_cons_zero, List.set_cons_succ, List.getElem?_cons_zero, List.getElem?_cons_succ, Option.bind_some, Nat.reduceLeDiff, Nat.reduceLT, maxLen, slOut, optI, Int.reduceSub, Int.sub_zero, Nat.zero_mul, if_pos, if_neg, w64, wu8, ↓condK_pos, ↓condK_neg, ↓gdK_pt, ↓gdK_nt, ↓gdK_pf, ↓gdK_nf, decide_eq_true_eq, cellsL, Value.cells, fillL, setAt, decide_true, decide_false, one_int, one_bool, one_string, one_slice, one_pointer, one_ptr, one_iface, one_nili, nat0, flat, slc, List.all_cons, List.all_nil, Bool.and_true, Bool.true_and, Bool.not_true, Bool.not_false, and_true, true_and, and_self, Nat.le_refl, List.take_succ_cons, List.take_zero, List.drop_succ_cons, List.drop_zero, Int.toNat_natCast, Int.reduceToNat, Nat.mul_one, List.take_nil, List.drop_nil, Int.reduceLE, Int.reduceAdd, Int.reduceLT, e0, e1, e12, e13, hbk, hcell, hbk2, hcell2, q2]
            exact ⟨by simp, done_as (by simp [rres, rresL, rres1, put_at, hne]) rfl⟩
        · have hin : i = l.length := by omega
          subst hin
          have heq : l = l' := by rw [List.take_length] at htk; rw [htk, hlen, List.take_length]
          simp (maxSteps := 1000000) (implicitDefEqProofs := false) (disch := omega) only [go_sem, Bool.false_eq_true, slc, aop, abin, aun, intB, ↓reduceIte, Nat.reduceEqDiff, Nat.reduceSub, ne_eq, not_false_eq_true, Option.map, Option.bind, get_off, get_off0, set_off, set_off0, List.append_assoc, List.cons_append, List.nil_append, List.length_append, List.length_cons, List.length_nil, Nat.zero_add, Nat.add_zero, Nat.add_assoc, Nat.reduceAdd, List.set_cons_zero, List.set_cons_succ, List.getElem?_cons_zero, List.getElem?_cons_succ, Option.bind_some, Nat.reduceLeDiff, Nat.reduceLT, maxLen, slOut, optI, Int.reduceSub, Int.sub_zero, Nat.zero_mul, if_pos, if_neg, w64, wu8, ↓condK_pos, ↓condK_neg, ↓gdK_pt, ↓gdK_nt, ↓gdK_pf, ↓gdK_nf, decide_eq_true_eq, cellsL, Value.cells, fillL, setAt, decide_true, decide_false, one_int, one_bool, one_string, one_slice, one_pointer, one_ptr, one_iface, one_nili, nat0, flat, slc, List.all_cons, List.all_nil, Bool.and_true, Bool.true_and, Bool.not_true, Bool.not_false, and_true, true_and, and_self, Nat.le_refl, List.take_succ_cons, List.take_zero, List.drop_succ_cons, List.drop_zero, Int.toNat_natCast, Int.reduceToNat, Nat.mul_one, List.take_nil, List.drop_nil, Int.reduceLE, Int.reduceAdd, Int.reduceLT, e0, e1, e12, e13]
          exact ⟨by simp, done_as (by simp [rres, rresL, rres1, put_at, heq]) rfl⟩
      · have q : ((l.length : Int) != l'.length) = true := by simp; omega
        have hne : l ≠ l' := fun h => hlen (by rw [h])
        (dsimp only [c71]; simp (maxSteps := 1000000) (implicitDefEqProofs := false) (disch := omega) only [go_sem, Bool.false_eq_true, slc, aop, abin, aun, intB, ↓reduceIte, Nat.reduceEqDiff, Nat.reduceSub, ne_eq, not_false_eq_true, Option.map, Option.bind, get_off, get_off0, set_off, set_off0, List.append_assoc, List.cons_append, List.nil_append, List.length_append, List.length_cons, List.length_nil, Nat.zero_add, Nat.add_zero, Nat.add_assoc, Nat.reduceAdd, List.set_cons_zero, List.set_cons_succ, List.getElem?_cons_zero, List.getElem?_cons_succ, Option.bind_some, Nat.reduceLeDiff, Nat.reduceLT, maxLen, slOut, optI, Int.reduceSub, Int.sub_zero, Nat.zero_mul, if_pos, if_neg, w64, wu8, ↓condK_pos, ↓condK_neg, ↓gdK_pt, ↓gdK_nt, ↓gdK_pf, ↓gdK_nf, decide_eq_true_eq, cellsL, Value.cells, fillL, setAt, decide_true, decide_false, one_int, one_bool, one_string, one_slice, one_pointer, one_ptr, one_iface, one_nili, nat0, flat, slc, List.all_cons, List.all_nil, Bool.and_true, Bool.true_and, Bool.not_true, Bool.not_false, and_true, true_and, and_self, Nat.le_refl, List.take_succ_cons, List.take_zero, List.drop_succ_cons, List.drop_zero, Int.toNat_natCast, Int.reduceToNat, Nat.mul_one, List.take_nil, List.drop_nil, Int.reduceLE, Int.reduceAdd, Int.reduceLT, q])
        exact ⟨by simp, done_as (by simp [rres, rresL, rres1, put_at, hne]) rfl⟩
    · cases hs
/-! Unpadding -/
def padV (l : List Int) : Int := l.getD (l.length - 2) 0
def nextV (l : List Int) : Int := l.getD (l.length - 1) 0
def ownV (l : List Int) : List Int := l.take (l.length - 2 - (padV l).toNat)
def unpS (l : List Int) (S : Nat) : Prop := 1 ≤ S ∧ S ≤ 16 ∧ padL (ownV l) S (nextV l) = l
def unpOk (l : List Int) : Prop := 2 ≤ l.length ∧ padV l + 2 ≤ l.length ∧ (ownV l).length ≤ 400 ∧ ∃ S, unpS l S
/-- The same as the reference looks for it. -/
def fitsB (n p : Nat) : Prop := ∃ S, 1 ≤ S ∧ S ≤ 16 ∧ n % S = 0 ∧ p < S
theorem padN_uniq {n S p : Nat} (hS : 1 ≤ S) (hp : p < S) (h : (n + p + 2) % S = 0) : padN n S = p := by
  by_cases hlt : p < padN n S
  · exact absurd h (padN_lt hS hlt)
  · by_cases hgt : padN n S < p
    · have h1 := padN_eq (n := n) hS
      have e : n + p + 2 = (n + padN n S + 2) + (p - padN n S) := by omega
      rw [e, Nat.add_mod, h1, Nat.zero_add, Nat.mod_mod, Nat.mod_eq_of_lt (by omega)] at h
      omega
    · omega
theorem unp_iff (l : List Int) (hb : ∀ x ∈ l, 0 ≤ x ∧ x < 256) (h2 : 2 ≤ l.length) (p : Nat) (hp : padV l = p) (hp2 : p + 2 ≤ l.length) :
    (∃ S, unpS l S) ↔ (p ≤ 15 ∧ (∀ k, k < p → l.getD (l.length - 2 - p + k) 0 = (k : Int) + 1) ∧ fitsB l.length p) := by
  have ho : ownV l = l.take (l.length - 2 - p) := by simp [ownV, hp]
  have hol : (ownV l).length = l.length - 2 - p := by rw [ho]; simp; omega
  have hlast : l.drop (l.length - 2) = [(p : Int), nextV l] := by
    apply List.ext_getElem?
    intro j
    rw [List.getElem?_drop]
    match j with
    | 0 => simp [← hp, padV, show l.length - 2 < l.length by omega]
    | 1 => rw [show l.length - 2 + 1 = l.length - 1 by omega]; simp [nextV, show l.length - 1 < l.length by omega]
    | j + 2 => simp; omega
  constructor
  · rintro ⟨S, s1, s2, s3⟩
    have hlen := congrArg List.length s3
    rw [padL_len, hol] at hlen
    have hpn : padN (l.length - 2 - p) S = p := by omega
    have hps := padN_bd (n := l.length - 2 - p) (S := S) (by omega)
    have hmod := padN_eq (n := l.length - 2 - p) (S := S) (by omega)
    rw [hpn] at hps hmod
    refine ⟨by omega, fun k hk => ?_, S, s1, s2, by rw [show l.length - 2 - p + p + 2 = l.length by omega] at hmod; exact hmod, hps⟩
    rw [← s3]
    rw [s3]
    have : l.getD (l.length - 2 - p + k) 0 = (padL (ownV l) S (nextV l)).getD (l.length - 2 - p + k) 0 := by rw [s3]
    rw [this]
    simp only [padL, hol, hpn, List.getD_eq_getElem?_getD]
    rw [List.append_assoc, List.getElem?_append_right (by omega), hol, List.getElem?_append_left (by rw [runL_len]; omega)]
    simp [runL, show l.length - 2 - p + k - (l.length - 2 - p) = k by omega, hk]
  · rintro ⟨hp15, hrun, S, s1, s2, s3, s4⟩
    refine ⟨S, s1, s2, ?_⟩
    have hpn : padN (l.length - 2 - p) S = p := padN_uniq s1 s4 (by rw [show l.length - 2 - p + p + 2 = l.length by omega]; exact s3)
    simp only [padL, hol, hpn]
    have e1 : runL p = (l.drop (l.length - 2 - p)).take p := by
      apply List.ext_getElem?
      intro j
      by_cases hj : j < p
      · have := hrun j hj
        rw [List.getElem?_take_of_lt hj, List.getElem?_drop]
        simp only [runL, List.getElem?_map, List.getElem?_range hj, Option.map_some]
        rw [← this]
        simp [show l.length - 2 - p + j < l.length by omega]
      · rw [List.getElem?_eq_none (by rw [runL_len]; omega), List.getElem?_eq_none (by simp; omega)]
    rw [e1, ho, ← hlast, List.append_assoc]
    have e2 : (l.drop (l.length - 2 - p)).take p ++ l.drop (l.length - 2) = l.drop (l.length - 2 - p) := by
      have : l.drop (l.length - 2) = (l.drop (l.length - 2 - p)).drop p := by rw [List.drop_drop]; congr 1; omega
      rw [this, List.take_append_drop]
    rw [e2, List.take_append_drop]
end Go.Proofs.Ytpndkgpkakhbmaa
