import Derived.Test.YtpndkgpkakhbmaaB20
set_option linter.unusedSimpArgs false
set_option linter.unusedVariables false
set_option maxRecDepth 100000
namespace Go.Proofs.Ytpndkgpkakhbmaa
open Go Go.AH
attribute [local go_sem ↓] awp_skip awp_ret awp_exit awp_seq awp_reg awp_drw awp_cond awp_block seqK_normal seqK_ret seqK_exit blkK_normal blkK_ret loopK_normal loopK_ret loopK_exit rops_nil qops_nil rops_op rops_op0 rops_opg qops_op qops_op0 qops_opg gdK_tt gdK_ff gdK_tf gdK_ft kont_some condK_true condK_false
attribute [local go_sem] tag_eq blkK_exit put_at argσ_nil argσ_cons ev_t ev_v ctx_get getB_bool getI_int getP_ptr Option.map_some Option.bind_some List.map_cons List.map_nil
attribute [local congr] kont_cong condK_cong gdK_cong awp_cong rops_cong qops_cong
-- laws.FnExactUnpadBytes
def c9 : AF := ⟨66,
  (.seq (.reg [⟨(some 2), none, .mv (.v (.bool false))⟩])
  (.seq (.seq (.reg [⟨(some 10), none, .mv (.t 0)⟩,
   ⟨(some 11), none, .len (.t 10)⟩,
   ⟨(some 12), none, .bin .gtr (.t 11) (.v (.int .i64 1048576))⟩])
  (.cond (.t 12) (.seq (.reg [⟨(some 2), none, .mv (.v (.bool true))⟩])
  .ret)
  .skip))
  (.seq (.reg [⟨(some 13), none, .mv (.t 0)⟩,
   ⟨(some 14), none, .call 16 [(.t 13)]⟩,
   ⟨(some 15), none, .call 39 [(.t 14)]⟩,
   ⟨(some 3), none, .alloc 47 [(.int .i64 0), (.slice none 0 0), (.int .i64 0), (.int .i64 0)]⟩,
   ⟨none, none, .st 4 (.t 3) (.t 15)⟩])
  (.seq (.reg [⟨(some 16), none, .mv (.t 0)⟩,
   ⟨(some 17), none, .call 16 [(.t 16)]⟩,
   ⟨(some 4), none, .mv (.t 17)⟩])
  (.seq (.reg [⟨(some 18), none, .mv (.t 4)⟩,
   ⟨(some 19), none, .call 33 [(.t 18)]⟩,
   ⟨(some 5), none, .alloc 47 [(.int .i64 0), (.slice none 0 0), (.int .i64 0), (.int .i64 0)]⟩,
   ⟨none, none, .st 4 (.t 5) (.t 19)⟩])
  (.seq (.seq (.reg [⟨(some 20), none, .ldn 4 (.t 5)⟩,
   ⟨(some 21), none, .ldn 4 (.t 3)⟩,
   ⟨(some 22), none, .call 40 [(.t 20), (.t 21)]⟩,
   ⟨(some 23), none, .un .not (.t 22)⟩])
  (.cond (.t 23) (.seq (.reg [⟨(some 2), none, .mv (.v (.bool false))⟩])
  .ret)
  .skip))
  (.seq (.seq (.reg [⟨(some 24), none, .mv (.t 4)⟩,
   ⟨(some 25), none, .mv (.t 0)⟩,
   ⟨(some 26), none, .call 16 [(.t 25)]⟩,
   ⟨(some 27), none, .call 19 [(.t 24), (.t 26)]⟩,
   ⟨(some 28), none, .un .not (.t 27)⟩])
  (.cond (.t 28) (.seq (.reg [⟨(some 2), none, .mv (.v (.bool false))⟩])
  .ret)
  .skip))
  (.seq (.reg [⟨(some 6), none, .mv (.v (.int .i64 1))⟩])
  (.seq (.reg [⟨(some 29), none, .mv (.t 4)⟩,
   ⟨(some 30), none, .mv (.t 6)⟩,
   ⟨(some 31), none, .call 30 [(.t 29), (.t 30)]⟩,
   ⟨(some 6), none, .mv (.t 31)⟩])
  (.seq (.seq (.reg [⟨(some 32), none, .mv (.t 6)⟩,
   ⟨(some 33), none, .bin .lss (.t 32) (.v (.int .i64 0))⟩,
   ⟨(some 34), none, .mv (.t 33)⟩,
   ⟨(some 35), (some (34, false)), .ldn 4 (.t 5)⟩,
   ⟨(some 36), (some (34, false)), .ldn 4 (.t 3)⟩,
   ⟨(some 37), (some (34, false)), .call 40 [(.t 35), (.t 36)]⟩,
   ⟨(some 38), (some (34, false)), .un .not (.t 37)⟩,
   ⟨(some 39), none, .pick (.t 34) (.v (.bool true)) (.t 38)⟩])
  (.cond (.t 39) (.seq (.reg [⟨(some 2), none, .mv (.v (.bool false))⟩])
  .ret)
  .skip))
  (.seq (.reg [⟨(some 7), none, .mv (.v (.int .i64 1))⟩])
  (.seq (.reg [⟨(some 40), none, .ldn 4 (.t 5)⟩,
   ⟨(some 41), none, .mv (.t 7)⟩,
   ⟨(some 42), none, .call 41 [(.t 40), (.t 41)]⟩,
   ⟨(some 7), none, .mv (.t 42)⟩])
  (.seq (.reg [⟨(some 8), none, .mv (.v (.int .i64 1))⟩])
  (.seq (.reg [⟨(some 43), none, .ldn 4 (.t 5)⟩,
   ⟨(some 44), none, .mv (.t 8)⟩,
   ⟨(some 45), none, .call 42 [(.t 43), (.t 44)]⟩,
   ⟨(some 8), none, .mv (.t 45)⟩])
  (.seq (.seq (.reg [⟨(some 46), none, .mv (.t 8)⟩,
   ⟨(some 47), none, .bin .lss (.t 46) (.v (.int .i64 0))⟩])
  (.cond (.t 47) (.seq (.reg [⟨(some 2), none, .mv (.v (.bool false))⟩])
  .ret)
  .skip))
  (.seq (.seq (.reg [⟨(some 48), none, .mv (.t 8)⟩,
   ⟨(some 49), none, .mv (.t 7)⟩,
   ⟨(some 50), none, .bin .neq (.t 48) (.t 49)⟩])
  (.cond (.t 50) (.seq (.reg [⟨(some 2), none, .mv (.v (.bool false))⟩])
  .ret)
  .skip))
  (.seq (.reg [⟨(some 51), none, .mv (.t 0)⟩,
   ⟨(some 52), none, .call 16 [(.t 51)]⟩,
   ⟨(some 53), none, .call 33 [(.t 52)]⟩,
   ⟨(some 9), none, .alloc 47 [(.int .i64 0), (.slice none 0 0), (.int .i64 0), (.int .i64 0)]⟩,
   ⟨none, none, .st 4 (.t 9) (.t 53)⟩])
  (.seq (.seq (.reg [⟨(some 54), none, .ldn 4 (.t 9)⟩,
   ⟨(some 55), none, .ldn 4 (.t 3)⟩,
   ⟨(some 56), none, .call 40 [(.t 54), (.t 55)]⟩,
   ⟨(some 57), none, .un .not (.t 56)⟩])
  (.cond (.t 57) (.seq (.reg [⟨(some 2), none, .mv (.v (.bool false))⟩])
  .ret)
  .skip))
  (.seq (.reg [⟨(some 8), none, .mv (.v (.int .i64 1))⟩])
  (.seq (.reg [⟨(some 58), none, .ldn 4 (.t 5)⟩,
   ⟨(some 59), none, .mv (.t 8)⟩,
   ⟨(some 60), none, .call 42 [(.t 58), (.t 59)]⟩,
   ⟨(some 8), none, .mv (.t 60)⟩])
  (.seq (.seq (.reg [⟨(some 61), none, .mv (.t 8)⟩,
   ⟨(some 62), none, .bin .lss (.t 61) (.v (.int .i64 0))⟩])
  (.cond (.t 62) (.seq (.reg [⟨(some 2), none, .mv (.v (.bool false))⟩])
  .ret)
  .skip))
  (.seq (.seq (.reg [⟨(some 63), none, .mv (.t 8)⟩,
   ⟨(some 64), none, .mv (.t 7)⟩,
   ⟨(some 65), none, .bin .neq (.t 63) (.t 64)⟩])
  (.cond (.t 65) (.seq (.reg [⟨(some 2), none, .mv (.v (.bool false))⟩])
  .ret)
  .skip))
  (.seq (.reg [⟨(some 2), none, .mv (.v (.bool true))⟩])
  .ret))))))))))))))))))))))),
  [.t 2]⟩
theorem k9 : cFn Try.prog Try.f9 = some c9 := by kernel_rfl
def eqUR_sp : Sp := fun _ args h => match args with
  | [.agg ⟨[.int .i64 a, s, .int .i64 x, .int .i64 y]⟩, .agg ⟨[.int .i64 b, t, .int .i64 x', .int .i64 y']⟩] => (rdU h s).bind fun l => if one s ∧ one t ∧ a = b ∧ x = x' ∧ y = y' ∧ rdU h t = some l ∧ l.length ≤ 140737488355328 then some (.bool true, h) else none
  | _ => none
theorem eqUR_ok : Ok Try.prog 40 eqUR_sp := by
  refine ok_quiet (OkΓ.cons eqB_ok (OkΓ.nil _)) Try.func40 (by kernel_rfl) k40 ?_ ?_
  · intro lo args h r h' hs
    unfold eqUR_sp at hs; split at hs
    · obtain ⟨l, _, hs⟩ := Option.bind_eq_some_iff.1 hs
      split at hs <;> cases hs; exact Fr.refl _ _
    · cases hs
  · intro lo args h r h' hs
    unfold eqUR_sp at hs; split at hs
    · rename_i a s x y b t x' y'
      obtain ⟨l, hl, hs⟩ := Option.bind_eq_some_iff.1 hs
      split at hs <;> cases hs
      rename_i hc
      obtain ⟨hs1, ht1, rfl, rfl, rfl, hr, hlen⟩ := hc
      have hA := fun l' => rdU_app hl l'
      have hB := fun l' => rdU_app hr l'
      obtain ⟨a1, c1, rfl, _, _⟩ := rdU_spec hl
      obtain ⟨a2, c2, rfl, _, _⟩ := rdU_spec hr
      (dsimp only [c40]; simp (maxSteps := 1000000) (implicitDefEqProofs := false) (disch := omega) only [go_sem, Bool.false_eq_true, slc, aop, abin, aun, intB, ↓reduceIte, Nat.reduceEqDiff, Nat.reduceSub, ne_eq, not_false_eq_true, Option.map, Option.bind, get_off, get_off0, set_off, set_off0, List.append_assoc, List.cons_append, List.nil_append, List.length_append, List.length_cons, List.length_nil, Nat.zero_add, Nat.add_zero, Nat.add_assoc, Nat.reduceAdd, List.set_cons_zero, List.set_cons_succ, List.getElem?_cons_zero, List.getElem?_cons_succ, Option.bind_some, Nat.reduceLeDiff, Nat.reduceLT, maxLen, slOut, optI, Int.reduceSub, Int.sub_zero, Nat.zero_mul, if_pos, if_neg, w64, wu8, ↓condK_pos, ↓condK_neg, ↓gdK_pt, ↓gdK_nt, ↓gdK_pf, ↓gdK_nf, decide_eq_true_eq, cellsL, Value.cells, fillL, setAt, decide_true, decide_false, one_int, one_bool, one_string, one_slice, one_pointer, one_ptr, one_iface, one_nili, nat0, flat, slc, List.all_cons, List.all_nil, Bool.and_true, Bool.true_and, Bool.not_true, Bool.not_false, and_true, true_and, and_self, Nat.le_refl, List.take_succ_cons, List.take_zero, List.drop_succ_cons, List.drop_zero, Int.toNat_natCast, Int.reduceToNat, Nat.mul_one, List.take_nil, List.drop_nil, Int.reduceLE, Int.reduceAdd, Int.reduceLT, bne_self_eq_false, eqB_sp, hA, hB, Option.bind_some])
      exact ⟨by simp, done_scalar (by simp [rres, rresL, rres1, put_at]) (mapV_flat _ rfl).symm keep_off⟩
    · cases hs
def mkUR_sp : Sp := fun lo args h => match args with
  | [.agg ⟨[.int .i64 _, s, .int .i64 _, .int .i64 _]⟩, .int .i64 k] => if one s = true ∧ lo ≤ h.length then mkB_sp lo [s, .int .i64 k] h else none
  | _ => none
theorem mkUR_ok : Ok Try.prog 41 mkUR_sp := by
  refine ok_writes (OkΓ.cons mkB_ok (OkΓ.nil _)) Try.func41 (by kernel_rfl) k41 ?_ ?_
  · intro lo args h r h' hs hlo
    unfold mkUR_sp at hs; split at hs
    · split at hs
      · exact mkB_ok.fr _ _ _ _ _ hs hlo
      · cases hs
    · cases hs
  · intro lo args h r h' hs hlo
    unfold mkUR_sp at hs; split at hs
    · rename_i c s x y k
      split at hs
      · rename_i hs1
        have hA := fun L => mk_app (L := L) hs
        obtain ⟨n, rfl, hh⟩ := mk_shape hs
        have hs2 := hs1.1
        (dsimp only [c41]; simp (maxSteps := 1000000) (implicitDefEqProofs := false) (disch := omega) only [go_sem, Bool.false_eq_true, slc, aop, abin, aun, intB, ↓reduceIte, Nat.reduceEqDiff, Nat.reduceSub, ne_eq, not_false_eq_true, Option.map, Option.bind, get_off, get_off0, set_off, set_off0, List.append_assoc, List.cons_append, List.nil_append, List.length_append, List.length_cons, List.length_nil, Nat.zero_add, Nat.add_zero, Nat.add_assoc, Nat.reduceAdd, List.set_cons_zero, List.set_cons_succ, List.getElem?_cons_zero, List.getElem?_cons_succ, Option.bind_some, Nat.reduceLeDiff, Nat.reduceLT, maxLen, slOut, optI, Int.reduceSub, Int.sub_zero, Nat.zero_mul, if_pos, if_neg, w64, wu8, ↓condK_pos, ↓condK_neg, ↓gdK_pt, ↓gdK_nt, ↓gdK_pf, ↓gdK_nf, decide_eq_true_eq, cellsL, Value.cells, fillL, setAt, decide_true, decide_false, one_int, one_bool, one_string, one_slice, one_pointer, one_ptr, one_iface, one_nili, nat0, flat, slc, List.all_cons, List.all_nil, Bool.and_true, Bool.true_and, Bool.not_true, Bool.not_false, and_true, true_and, and_self, Nat.le_refl, List.take_succ_cons, List.take_zero, List.drop_succ_cons, List.drop_zero, Int.toNat_natCast, Int.reduceToNat, Nat.mul_one, List.take_nil, List.drop_nil, Int.reduceLE, Int.reduceAdd, Int.reduceLT, hs2, hA])
        rcases hh with rfl | ⟨b, l, hb, rfl⟩
        · exact ⟨by simp, done_scalar (by simp [rres, rresL, rres1, put_at]) (mapV_flat _ rfl).symm keep_off⟩
        · exact ⟨by simp, done_set (by simp [rres, rresL, rres1, put_at]) rfl (fun u => mapB_u8s u _ _) hb⟩
      · cases hs
    · cases hs
def hdUR_sp : Sp := fun lo args h => match args with
  | [.agg ⟨[.int .i64 _, s, .int .i64 _, .int .i64 _]⟩, .int .i64 k] => if one s = true then hdB_sp lo [s, .int .i64 k] h else none
  | _ => none
theorem hdUR_ok : Ok Try.prog 42 hdUR_sp := by
  refine ok_quiet (OkΓ.cons hdB_ok (OkΓ.nil _)) Try.func42 (by kernel_rfl) k42 ?_ ?_
  · intro lo args h r h' hs
    unfold hdUR_sp at hs; split at hs
    · split at hs
      · obtain ⟨n, _, rfl, rfl, _⟩ := hd_shape hs; exact Fr.refl _ _
      · cases hs
    · cases hs
  · intro lo args h r h' hs
    unfold hdUR_sp at hs; split at hs
    · rename_i c s x y k
      split at hs
      · rename_i hs1
        obtain ⟨n, hn, rfl, rfl, hA⟩ := hd_shape hs
        (dsimp only [c42]; simp (maxSteps := 1000000) (implicitDefEqProofs := false) (disch := omega) only [go_sem, Bool.false_eq_true, slc, aop, abin, aun, intB, ↓reduceIte, Nat.reduceEqDiff, Nat.reduceSub, ne_eq, not_false_eq_true, Option.map, Option.bind, get_off, get_off0, set_off, set_off0, List.append_assoc, List.cons_append, List.nil_append, List.length_append, List.length_cons, List.length_nil, Nat.zero_add, Nat.add_zero, Nat.add_assoc, Nat.reduceAdd, List.set_cons_zero, List.set_cons_succ, List.getElem?_cons_zero, List.getElem?_cons_succ, Option.bind_some, Nat.reduceLeDiff, Nat.reduceLT, maxLen, slOut, optI, Int.reduceSub, Int.sub_zero, Nat.zero_mul, if_pos, if_neg, w64, wu8, ↓condK_pos, ↓condK_neg, ↓gdK_pt, ↓gdK_nt, ↓gdK_pf, ↓gdK_nf, decide_eq_true_eq, cellsL, Value.cells, fillL, setAt, decide_true, decide_false, one_int, one_bool, one_string, one_slice, one_pointer, one_ptr, one_iface, one_nili, nat0, flat, slc, List.all_cons, List.all_nil, Bool.and_true, Bool.true_and, Bool.not_true, Bool.not_false, and_true, true_and, and_self, Nat.le_refl, List.take_succ_cons, List.take_zero, List.drop_succ_cons, List.drop_zero, Int.toNat_natCast, Int.reduceToNat, Nat.mul_one, List.take_nil, List.drop_nil, Int.reduceLE, Int.reduceAdd, Int.reduceLT, hs1, hA])
        exact ⟨by simp, done_scalar (by simp [rres, rresL, rres1, put_at]) (mapV_flat _ rfl).symm keep_off⟩
      · cases hs
    · cases hs
theorem rdU_emp (h : Heap) (b o s c : Nat) : rdU h (.slice (some ⟨b, o, some s⟩) 0 c) = some [] := rfl
theorem unpL_ok : Ok Try.prog 9 bytesLaw_sp := by
  refine ok_quiet (OkΓ.cons toB_ok (OkΓ.cons unpBS_ok (OkΓ.cons unpBI_ok (OkΓ.cons eqUR_ok (OkΓ.cons eqB_ok (OkΓ.cons mkB_ok (OkΓ.cons mkUR_ok (OkΓ.cons hdUR_ok (OkΓ.nil _))))))))) Try.func9 (by kernel_rfl) k9 ?_ ?_
  · intro lo args h r h' hs
    unfold bytesLaw_sp at hs; split at hs
    · obtain ⟨l, _, hs⟩ := Option.bind_eq_some_iff.1 hs
      split at hs <;> cases hs; exact Fr.refl _ _
    · cases hs
  · intro lo args h r h' hs
    unfold bytesLaw_sp at hs; split at hs
    · rename_i v
      obtain ⟨d, hd, hs⟩ := Option.bind_eq_some_iff.1 hs
      split at hs <;> cases hs
      rename_i hcond
      have hda := fun L => rdU_app hd L
      obtain ⟨a, c, rfl, hb0, hc⟩ := rdU_spec hd
      clear hs
      have hdh := rdU_head hb0
      by_cases h1 : d.length ≤ 1048576
      · by_cases h418 : 418 < d.length
        · (dsimp only [c9]; simp (maxSteps := 1000000) (implicitDefEqProofs := false) (disch := omega) only [go_sem, Bool.false_eq_true, slc, aop, abin, aun, intB, ↓reduceIte, Nat.reduceEqDiff, Nat.reduceSub, ne_eq, not_false_eq_true, Option.map, Option.bind, get_off, get_off0, set_off, set_off0, List.append_assoc, List.cons_append, List.nil_append, List.length_append, List.length_cons, List.length_nil, Nat.zero_add, Nat.add_zero, Nat.add_assoc, Nat.reduceAdd, List.set_cons_zero, List.set_cons_succ, List.getElem?_cons_zero, List.getElem?_cons_succ, Option.bind_some, Nat.reduceLeDiff, Nat.reduceLT, maxLen, slOut, optI, Int.reduceSub, Int.sub_zero, Nat.zero_mul, if_pos, if_neg, w64, wu8, ↓condK_pos, ↓condK_neg, ↓gdK_pt, ↓gdK_nt, ↓gdK_pf, ↓gdK_nf, decide_eq_true_eq, cellsL, Value.cells, fillL, setAt, decide_true, decide_false, one_int, one_bool, one_string, one_slice, one_pointer, one_ptr, one_iface, one_nili, nat0, flat, slc, List.all_cons, List.all_nil, Bool.and_true, Bool.true_and, Bool.not_true, Bool.not_false, and_true, true_and, and_self, Nat.le_refl, List.take_succ_cons, List.take_zero, List.drop_succ_cons, List.drop_zero, Int.toNat_natCast, Int.reduceToNat, Nat.mul_one, List.take_nil, List.drop_nil, Int.reduceLE, Int.reduceAdd, Int.reduceLT, toB_sp, unpBS_sp, unpBI_sp, urV, emptyV, eqUR_sp, eqB_sp, mkUR_sp, mkB_sp, hdUR_sp, hdB_sp, hd, hda, hdh, rdU_off, rdU_off0, rdU_tail, u8s_len, rdU_nil, rdU_emp, rdU_mark, markL_len, markL_zero, bne_self_eq_false])
          exact ⟨by simp, done_scalar (by simp [rres, rresL, rres1, put_at]) (mapV_flat _ rfl).symm keep_off⟩
        · by_cases hu : unpOk d
          · have hob : ∀ x ∈ ownV d, 0 ≤ x ∧ x < 256 := fun x hx => hb0 x (List.mem_of_mem_take hx)
            have hol : (ownV d).length ≤ 400 := hu.2.2.1
            have hoh := rdU_head hob
            by_cases h0 : ownV d = []
            · have hoh0 : ∀ (e : TypeId) (L : Heap) (c : Nat), rdU (.cells e (u8s []) :: L) (.slice (some ⟨0, 0, none⟩) 0 c) = some [] := fun e L c => rdU_at (by simp) 0 rfl e L c
              (dsimp only [c9]; simp (maxSteps := 1000000) (implicitDefEqProofs := false) (disch := omega) only [go_sem, Bool.false_eq_true, slc, aop, abin, aun, intB, ↓reduceIte, Nat.reduceEqDiff, Nat.reduceSub, ne_eq, not_false_eq_true, Option.map, Option.bind, get_off, get_off0, set_off, set_off0, List.append_assoc, List.cons_append, List.nil_append, List.length_append, List.length_cons, List.length_nil, Nat.zero_add, Nat.add_zero, Nat.add_assoc, Nat.reduceAdd, List.set_cons_zero, List.set_cons_succ, List.getElem?_cons_zero, List.getElem?_cons_succ, Option.bind_some, Nat.reduceLeDiff, Nat.reduceLT, maxLen, slOut, optI, Int.reduceSub, Int.sub_zero, Nat.zero_mul, if_pos, if_neg, w64, wu8, ↓condK_pos, ↓condK_neg, ↓gdK_pt, ↓gdK_nt, ↓gdK_pf, ↓gdK_nf, decide_eq_true_eq, cellsL, Value.cells, fillL, setAt, decide_true, decide_false, one_int, one_bool, one_string, one_slice, one_pointer, one_ptr, one_iface, one_nili, nat0, flat, slc, List.all_cons, List.all_nil, Bool.and_true, Bool.true_and, Bool.not_true, Bool.not_false, and_true, true_and, and_self, Nat.le_refl, List.take_succ_cons, List.take_zero, List.drop_succ_cons, List.drop_zero, Int.toNat_natCast, Int.reduceToNat, Nat.mul_one, List.take_nil, List.drop_nil, Int.reduceLE, Int.reduceAdd, Int.reduceLT, toB_sp, unpBS_sp, unpBI_sp, urV, emptyV, eqUR_sp, eqB_sp, mkUR_sp, mkB_sp, hdUR_sp, hdB_sp, hd, hda, hdh, rdU_off, rdU_off0, rdU_tail, u8s_len, rdU_nil, rdU_emp, rdU_mark, markL_len, markL_zero, bne_self_eq_false, hu, h0, hoh0])
              exact ⟨by simp, done_scalar (by simp [rres, rresL, rres1, put_at]) (mapV_flat _ rfl).symm keep_off⟩
            · (dsimp only [c9]; simp (maxSteps := 1000000) (implicitDefEqProofs := false) (disch := omega) only [go_sem, Bool.false_eq_true, slc, aop, abin, aun, intB, ↓reduceIte, Nat.reduceEqDiff, Nat.reduceSub, ne_eq, not_false_eq_true, Option.map, Option.bind, get_off, get_off0, set_off, set_off0, List.append_assoc, List.cons_append, List.nil_append, List.length_append, List.length_cons, List.length_nil, Nat.zero_add, Nat.add_zero, Nat.add_assoc, Nat.reduceAdd, List.set_cons_zero, List.set_cons_succ, List.getElem?_cons_zero, List.getElem?_cons_succ, Option.bind_some, Nat.reduceLeDiff, Nat.reduceLT, maxLen, slOut, optI, Int.reduceSub, Int.sub_zero, Nat.zero_mul, if_pos, if_neg, w64, wu8, ↓condK_pos, ↓condK_neg, ↓gdK_pt, ↓gdK_nt, ↓gdK_pf, ↓gdK_nf, decide_eq_true_eq, cellsL, Value.cells, fillL, setAt, decide_true, decide_false, one_int, one_bool, one_string, one_slice, one_pointer, one_ptr, one_iface, one_nili, nat0, flat, slc, List.all_cons, List.all_nil, Bool.and_true, Bool.true_and, Bool.not_true, Bool.not_false, and_true, true_and, and_self, Nat.le_refl, List.take_succ_cons, List.take_zero, List.drop_succ_cons, List.drop_zero, Int.toNat_natCast, Int.reduceToNat, Nat.mul_one, List.take_nil, List.drop_nil, Int.reduceLE, Int.reduceAdd, Int.reduceLT, toB_sp, unpBS_sp, unpBI_sp, urV, emptyV, eqUR_sp, eqB_sp, mkUR_sp, mkB_sp, hdUR_sp, hdB_sp, hd, hda, hdh, rdU_off, rdU_off0, rdU_tail, u8s_len, rdU_nil, rdU_emp, rdU_mark, markL_len, markL_zero, bne_self_eq_false, hu, h0, hoh])
              exact ⟨by simp, done_scalar (by simp [rres, rresL, rres1, put_at]) (mapV_flat _ rfl).symm keep_off⟩
          · (dsimp only [c9]; simp (maxSteps := 1000000) (implicitDefEqProofs := false) (disch := omega) only [go_sem, Bool.false_eq_true, slc, aop, abin, aun, intB, ↓reduceIte, Nat.reduceEqDiff, Nat.reduceSub, ne_eq, not_false_eq_true, Option.map, Option.bind, get_off, get_off0, set_off, set_off0, List.append_assoc, List.cons_append, List.nil_append, List.length_append, List.length_cons, List.length_nil, Nat.zero_add, Nat.add_zero, Nat.add_assoc, Nat.reduceAdd, List.set_cons_zero, List.set_cons_succ, List.getElem?_cons_zero, List.getElem?_cons_succ, Option.bind_some, Nat.reduceLeDiff, Nat.reduceLT, maxLen, slOut, optI, Int.reduceSub, Int.sub_zero, Nat.zero_mul, if_pos, if_neg, w64, wu8, ↓condK_pos, ↓condK_neg, ↓gdK_pt, ↓gdK_nt, ↓gdK_pf, ↓gdK_nf, decide_eq_true_eq, cellsL, Value.cells, fillL, setAt, decide_true, decide_false, one_int, one_bool, one_string, one_slice, one_pointer, one_ptr, one_iface, one_nili, nat0, flat, slc, List.all_cons, List.all_nil, Bool.and_true, Bool.true_and, Bool.not_true, Bool.not_false, and_true, true_and, and_self, Nat.le_refl, List.take_succ_cons, List.take_zero, List.drop_succ_cons, List.drop_zero, Int.toNat_natCast, Int.reduceToNat, Nat.mul_one, List.take_nil, List.drop_nil, Int.reduceLE, Int.reduceAdd, Int.reduceLT, toB_sp, unpBS_sp, unpBI_sp, urV, emptyV, eqUR_sp, eqB_sp, mkUR_sp, mkB_sp, hdUR_sp, hdB_sp, hd, hda, hdh, rdU_off, rdU_off0, rdU_tail, u8s_len, rdU_nil, rdU_emp, rdU_mark, markL_len, markL_zero, bne_self_eq_false, hu])
            exact ⟨by simp, done_scalar (by simp [rres, rresL, rres1, put_at]) (mapV_flat _ rfl).symm keep_off⟩
      · (dsimp only [c9]; simp (maxSteps := 1000000) (implicitDefEqProofs := false) (disch := omega) only [go_sem, Bool.false_eq_true, slc, aop, abin, aun, intB, ↓reduceIte, Nat.reduceEqDiff, Nat.reduceSub, ne_eq, not_false_eq_true, Option.map, Option.bind, get_off, get_off0, set_off, set_off0, List.append_assoc, List.cons_append, List.nil_append, List.length_append, List.length_cons, List.length_nil, Nat.zero_add, Nat.add_zero, Nat.add_assoc, Nat.reduceAdd, List.set_cons_zero, List.set_cons_succ, List.getElem?_cons_zero, List.getElem?_cons_succ, Option.bind_some, Nat.reduceLeDiff, Nat.reduceLT, maxLen, slOut, optI, Int.reduceSub, Int.sub_zero, Nat.zero_mul, if_pos, if_neg, w64, wu8, ↓condK_pos, ↓condK_neg, ↓gdK_pt, ↓gdK_nt, ↓gdK_pf, ↓gdK_nf, decide_eq_true_eq, cellsL, Value.cells, fillL, setAt, decide_true, decide_false, one_int, one_bool, one_string, one_slice, one_pointer, one_ptr, one_iface, one_nili, nat0, flat, slc, List.all_cons, List.all_nil, Bool.and_true, Bool.true_and, Bool.not_true, Bool.not_false, and_true, true_and, and_self, Nat.le_refl, List.take_succ_cons, List.take_zero, List.drop_succ_cons, List.drop_zero, Int.toNat_natCast, Int.reduceToNat, Nat.mul_one, List.take_nil, List.drop_nil, Int.reduceLE, Int.reduceAdd, Int.reduceLT])
        exact ⟨by simp, done_scalar (by simp [rres, rresL, rres1, put_at]) (mapV_flat _ rfl).symm (fun _ _ => rfl)⟩
    · cases hs
theorem fnExactUnpadBytes_calls {a : Option Addr} {len cap : Nat} {zs : List Int} {W : World} (w : IsRow .u8 W a len cap zs) (y : len * 1 ≤ 140737488351232) :
    Calls Try.prog 9 ⟨[.slice a len cap]⟩ W (fun e W' => e = .returned (.bool true) ∧ RowKit.Below W.heap.size W W') := law_bytes unpL_ok w y
end Go.Proofs.Ytpndkgpkakhbmaa
