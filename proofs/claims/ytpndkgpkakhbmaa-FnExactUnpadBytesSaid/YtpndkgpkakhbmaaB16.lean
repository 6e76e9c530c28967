import Derived.Test.YtpndkgpkakhbmaaB15
set_option linter.unusedSimpArgs false
set_option linter.unusedVariables false
set_option maxRecDepth 100000
namespace Go.Proofs.Ytpndkgpkakhbmaa
open Go Go.AH
attribute [local go_sem ↓] awp_skip awp_ret awp_exit awp_seq awp_reg awp_drw awp_cond awp_block seqK_normal seqK_ret seqK_exit blkK_normal blkK_ret loopK_normal loopK_ret loopK_exit rops_nil qops_nil rops_op rops_op0 rops_opg qops_op qops_op0 qops_opg gdK_tt gdK_ff gdK_tf gdK_ft kont_some condK_true condK_false
attribute [local go_sem] tag_eq blkK_exit put_at argσ_nil argσ_cons ev_t ev_v ctx_get getB_bool getI_int getP_ptr Option.map_some Option.bind_some List.map_cons List.map_nil
attribute [local congr] kont_cong condK_cong gdK_cong awp_cong rops_cong qops_cong
-- laws.FnExactPadBytes
def c6 : AF := ⟨76,
  (.seq (.reg [⟨(some 6), none, .mv (.v (.bool false))⟩])
  (.seq (.seq (.reg [⟨(some 14), none, .mv (.t 0)⟩,
   ⟨(some 15), none, .len (.t 14)⟩,
   ⟨(some 16), none, .bin .gtr (.t 15) (.v (.int .i64 1048576))⟩])
  (.cond (.t 16) (.seq (.reg [⟨(some 6), none, .mv (.v (.bool true))⟩])
  .ret)
  .skip))
  (.seq (.reg [⟨(some 17), none, .mv (.t 0)⟩,
   ⟨(some 18), none, .call 16 [(.t 17)]⟩,
   ⟨(some 19), none, .mv (.t 1)⟩,
   ⟨(some 20), none, .mv (.t 2)⟩,
   ⟨(some 21), none, .call 28 [(.t 18), (.t 19), (.t 20)]⟩,
   ⟨(some 7), none, .alloc 36 [(.int .i64 0), (.slice none 0 0)]⟩,
   ⟨none, none, .st 2 (.t 7) (.t 21)⟩])
  (.seq (.reg [⟨(some 22), none, .mv (.t 0)⟩,
   ⟨(some 23), none, .call 16 [(.t 22)]⟩,
   ⟨(some 8), none, .mv (.t 23)⟩])
  (.seq (.reg [⟨(some 24), none, .mv (.t 8)⟩,
   ⟨(some 25), none, .mv (.t 1)⟩,
   ⟨(some 26), none, .mv (.t 2)⟩,
   ⟨(some 27), none, .call 29 [(.t 24), (.t 25), (.t 26)]⟩,
   ⟨(some 9), none, .alloc 36 [(.int .i64 0), (.slice none 0 0)]⟩,
   ⟨none, none, .st 2 (.t 9) (.t 27)⟩])
  (.seq (.seq (.reg [⟨(some 28), none, .ldn 2 (.t 9)⟩,
   ⟨(some 29), none, .ldn 2 (.t 7)⟩,
   ⟨(some 30), none, .call 25 [(.t 28), (.t 29)]⟩,
   ⟨(some 31), none, .un .not (.t 30)⟩])
  (.cond (.t 31) (.seq (.reg [⟨(some 6), none, .mv (.v (.bool false))⟩])
  .ret)
  .skip))
  (.seq (.seq (.reg [⟨(some 32), none, .mv (.t 8)⟩,
   ⟨(some 33), none, .mv (.t 0)⟩,
   ⟨(some 34), none, .call 16 [(.t 33)]⟩,
   ⟨(some 35), none, .call 19 [(.t 32), (.t 34)]⟩,
   ⟨(some 36), none, .un .not (.t 35)⟩])
  (.cond (.t 36) (.seq (.reg [⟨(some 6), none, .mv (.v (.bool false))⟩])
  .ret)
  .skip))
  (.seq (.reg [⟨(some 10), none, .mv (.v (.int .i64 1))⟩])
  (.seq (.reg [⟨(some 37), none, .mv (.t 8)⟩,
   ⟨(some 38), none, .mv (.t 10)⟩,
   ⟨(some 39), none, .call 30 [(.t 37), (.t 38)]⟩,
   ⟨(some 10), none, .mv (.t 39)⟩])
  (.seq (.seq (.reg [⟨(some 40), none, .mv (.t 10)⟩,
   ⟨(some 41), none, .bin .lss (.t 40) (.v (.int .i64 0))⟩,
   ⟨(some 42), none, .mv (.t 41)⟩,
   ⟨(some 43), (some (42, false)), .ldn 2 (.t 9)⟩,
   ⟨(some 44), (some (42, false)), .ldn 2 (.t 7)⟩,
   ⟨(some 45), (some (42, false)), .call 25 [(.t 43), (.t 44)]⟩,
   ⟨(some 46), (some (42, false)), .un .not (.t 45)⟩,
   ⟨(some 47), none, .pick (.t 42) (.v (.bool true)) (.t 46)⟩])
  (.cond (.t 47) (.seq (.reg [⟨(some 6), none, .mv (.v (.bool false))⟩])
  .ret)
  .skip))
  (.seq (.reg [⟨(some 11), none, .mv (.v (.int .i64 1))⟩])
  (.seq (.reg [⟨(some 48), none, .ldn 2 (.t 9)⟩,
   ⟨(some 49), none, .mv (.t 11)⟩,
   ⟨(some 50), none, .call 26 [(.t 48), (.t 49)]⟩,
   ⟨(some 11), none, .mv (.t 50)⟩])
  (.seq (.reg [⟨(some 12), none, .mv (.v (.int .i64 1))⟩])
  (.seq (.reg [⟨(some 51), none, .ldn 2 (.t 9)⟩,
   ⟨(some 52), none, .mv (.t 12)⟩,
   ⟨(some 53), none, .call 27 [(.t 51), (.t 52)]⟩,
   ⟨(some 12), none, .mv (.t 53)⟩])
  (.seq (.seq (.reg [⟨(some 54), none, .mv (.t 12)⟩,
   ⟨(some 55), none, .bin .lss (.t 54) (.v (.int .i64 0))⟩])
  (.cond (.t 55) (.seq (.reg [⟨(some 6), none, .mv (.v (.bool false))⟩])
  .ret)
  .skip))
  (.seq (.seq (.reg [⟨(some 56), none, .mv (.t 12)⟩,
   ⟨(some 57), none, .mv (.t 11)⟩,
   ⟨(some 58), none, .bin .neq (.t 56) (.t 57)⟩])
  (.cond (.t 58) (.seq (.reg [⟨(some 6), none, .mv (.v (.bool false))⟩])
  .ret)
  .skip))
  (.seq (.reg [⟨(some 59), none, .mv (.t 0)⟩,
   ⟨(some 60), none, .call 16 [(.t 59)]⟩,
   ⟨(some 61), none, .mv (.t 1)⟩,
   ⟨(some 62), none, .mv (.t 2)⟩,
   ⟨(some 63), none, .call 29 [(.t 60), (.t 61), (.t 62)]⟩,
   ⟨(some 13), none, .alloc 36 [(.int .i64 0), (.slice none 0 0)]⟩,
   ⟨none, none, .st 2 (.t 13) (.t 63)⟩])
  (.seq (.seq (.reg [⟨(some 64), none, .ldn 2 (.t 13)⟩,
   ⟨(some 65), none, .ldn 2 (.t 7)⟩,
   ⟨(some 66), none, .call 25 [(.t 64), (.t 65)]⟩,
   ⟨(some 67), none, .un .not (.t 66)⟩])
  (.cond (.t 67) (.seq (.reg [⟨(some 6), none, .mv (.v (.bool false))⟩])
  .ret)
  .skip))
  (.seq (.reg [⟨(some 12), none, .mv (.v (.int .i64 1))⟩])
  (.seq (.reg [⟨(some 68), none, .ldn 2 (.t 9)⟩,
   ⟨(some 69), none, .mv (.t 12)⟩,
   ⟨(some 70), none, .call 27 [(.t 68), (.t 69)]⟩,
   ⟨(some 12), none, .mv (.t 70)⟩])
  (.seq (.seq (.reg [⟨(some 71), none, .mv (.t 12)⟩,
   ⟨(some 72), none, .bin .lss (.t 71) (.v (.int .i64 0))⟩])
  (.cond (.t 72) (.seq (.reg [⟨(some 6), none, .mv (.v (.bool false))⟩])
  .ret)
  .skip))
  (.seq (.seq (.reg [⟨(some 73), none, .mv (.t 12)⟩,
   ⟨(some 74), none, .mv (.t 11)⟩,
   ⟨(some 75), none, .bin .neq (.t 73) (.t 74)⟩])
  (.cond (.t 75) (.seq (.reg [⟨(some 6), none, .mv (.v (.bool false))⟩])
  .ret)
  .skip))
  (.seq (.reg [⟨(some 6), none, .mv (.v (.bool true))⟩])
  .ret))))))))))))))))))))))),
  [.t 6]⟩
theorem k6 : cFn Try.prog Try.f6 = some c6 := by kernel_rfl
def padM (l : List Int) (s nx : Int) : Int × Option (List Int) :=
  if 1 ≤ s ∧ s ≤ 16 then if 0 ≤ nx ∧ nx ≤ 255 then if l.length ≤ 400 then (0, some (padL l s.toNat nx)) else (2, none) else (3, none) else (3, none)
theorem padM_bd {d l : List Int} {s nx c : Int} (hd : ∀ x ∈ d, 0 ≤ x ∧ x < 256) (h : padM d s nx = (c, some l)) : (∀ x ∈ l, 0 ≤ x ∧ x < 256) ∧ l.length ≤ 500 := by
  unfold padM at h
  split at h
  · split at h
    · split at h
      · cases h
        have := padN_bd (n := d.length) (S := s.toNat) (by omega)
        exact ⟨padL_bd hd (by omega) (by omega), by rw [padL_len]; omega⟩
      · cases h
    · cases h
  · cases h
def padB_sp : Sp := fun _ args h => match args with
  | [v, .int .i64 s, .int .i64 nx] => (rdU h v).bind fun l => if l.length ≤ 140737488355328 then some ((brV h (padM l s nx).1 (padM l s nx).2).1, (brV h (padM l s nx).1 (padM l s nx).2).2) else none
  | _ => none
theorem padB_fr : ∀ lo args h r h', padB_sp lo args h = some (r, h') → Fr h.length h h' := by
  intro lo args h r h' hs
  unfold padB_sp at hs; split at hs
  · obtain ⟨l, _, hs⟩ := Option.bind_eq_some_iff.1 hs
    split at hs <;> cases hs; exact brV_fr _ _ _
  · cases hs
theorem padBI_ok : Ok Try.prog 29 padB_sp := by
  refine ok_quiet (OkΓ.cons in_ok (OkΓ.cons pad_ok (OkΓ.nil _))) Try.func29 (by kernel_rfl) k29 padB_fr ?_
  intro lo args h r h' hs
  unfold padB_sp at hs; split at hs
  · rename_i v s nx
    obtain ⟨l, hl, hs⟩ := Option.bind_eq_some_iff.1 hs
    split at hs <;> cases hs
    rename_i hcond
    have hla := fun L => rdU_app hl L
    have hls := fun L => rdS_of_rdU (rdU_app hl L)
    obtain ⟨a, c, rfl, hb, hc⟩ := rdU_spec hl
    clear hs
    by_cases h1 : 1 ≤ s ∧ s ≤ 16
    · have q1 : (decide (1 ≤ s) && decide (s ≤ 16)) = true := by simp; omega
      by_cases h2 : 0 ≤ nx ∧ nx ≤ 255
      · have q2 : (decide (0 ≤ nx) && decide (nx ≤ 255)) = true := by simp; omega
        by_cases h3 : l.length ≤ 400
        · have e : padM l s nx = (0, some (padL l s.toNat nx)) := by unfold padM; rw [if_pos h1, if_pos h2, if_pos h3]
          rw [e]
          obtain ⟨S, rfl⟩ := Int.eq_ofNat_of_zero_le (show 0 ≤ s by omega)
          rw [Int.toNat_natCast]
          have hp := padN_bd (n := l.length) (S := S) (by omega)
          have hpl := padL_len l S nx
          have hsz : (1 ≤ (S : Int) ∧ (S : Int) ≤ 16 ∧ l.length ≤ 100000 ∧ 0 ≤ nx ∧ nx < 256) = True := eq_true ⟨by omega, by omega, by omega, by omega, by omega⟩
          simp only [brV]
          (dsimp only [c29]; simp (maxSteps := 1000000) (implicitDefEqProofs := false) (disch := omega) only [go_sem, Bool.false_eq_true, slc, aop, abin, aun, intB, ↓reduceIte, Nat.reduceEqDiff, Nat.reduceSub, ne_eq, not_false_eq_true, Option.map, Option.bind, get_off, get_off0, set_off, set_off0, List.append_assoc, List.cons_append, List.nil_append, List.length_append, List.length_cons, List.length_nil, Nat.zero_add, Nat.add_zero, Nat.add_assoc, Nat.reduceAdd, List.set_cons_zero, List.set_cons_succ, List.getElem?_cons_zero, List.getElem?_cons_succ, Option.bind_some, Nat.reduceLeDiff, Nat.reduceLT, maxLen, slOut, optI, Int.reduceSub, Int.sub_zero, Nat.zero_mul, if_pos, if_neg, w64, wu8, ↓condK_pos, ↓condK_neg, ↓gdK_pt, ↓gdK_nt, ↓gdK_pf, ↓gdK_nf, decide_eq_true_eq, cellsL, Value.cells, fillL, setAt, decide_true, decide_false, one_int, one_bool, one_string, one_slice, one_pointer, one_ptr, one_iface, one_nili, nat0, flat, slc, List.all_cons, List.all_nil, Bool.and_true, Bool.true_and, Bool.not_true, Bool.not_false, and_true, true_and, and_self, Nat.le_refl, List.take_succ_cons, List.take_zero, List.drop_succ_cons, List.drop_zero, Int.toNat_natCast, Int.reduceToNat, Nat.mul_one, List.take_nil, List.drop_nil, Int.reduceLE, Int.reduceAdd, Int.reduceLT, in_sp, q1, q2, pad_sp, hla, hsz])
          exact ⟨by simp, done_br2 (i := 1) (by simp [rres, rresL, rres1, put_at, getP_ptr, get_off0]) rfl⟩
        · have e : padM l s nx = (2, none) := by unfold padM; rw [if_pos h1, if_pos h2, if_neg h3]
          rw [e]
          (dsimp only [c29]; simp (maxSteps := 1000000) (implicitDefEqProofs := false) (disch := omega) only [go_sem, Bool.false_eq_true, slc, aop, abin, aun, intB, ↓reduceIte, Nat.reduceEqDiff, Nat.reduceSub, ne_eq, not_false_eq_true, Option.map, Option.bind, get_off, get_off0, set_off, set_off0, List.append_assoc, List.cons_append, List.nil_append, List.length_append, List.length_cons, List.length_nil, Nat.zero_add, Nat.add_zero, Nat.add_assoc, Nat.reduceAdd, List.set_cons_zero, List.set_cons_succ, List.getElem?_cons_zero, List.getElem?_cons_succ, Option.bind_some, Nat.reduceLeDiff, Nat.reduceLT, maxLen, slOut, optI, Int.reduceSub, Int.sub_zero, Nat.zero_mul, if_pos, if_neg, w64, wu8, ↓condK_pos, ↓condK_neg, ↓gdK_pt, ↓gdK_nt, ↓gdK_pf, ↓gdK_nf, decide_eq_true_eq, cellsL, Value.cells, fillL, setAt, decide_true, decide_false, one_int, one_bool, one_string, one_slice, one_pointer, one_ptr, one_iface, one_nili, nat0, flat, slc, List.all_cons, List.all_nil, Bool.and_true, Bool.true_and, Bool.not_true, Bool.not_false, and_true, true_and, and_self, Nat.le_refl, List.take_succ_cons, List.take_zero, List.drop_succ_cons, List.drop_zero, Int.toNat_natCast, Int.reduceToNat, Nat.mul_one, List.take_nil, List.drop_nil, Int.reduceLE, Int.reduceAdd, Int.reduceLT, in_sp, q1, q2])
          exact ⟨by simp, done_br0 (by simp [rres, rresL, rres1, put_at, getP_ptr, get_off0])⟩
      · have q2 : (decide (0 ≤ nx) && decide (nx ≤ 255)) = false := by simp; omega
        have e : padM l s nx = (3, none) := by unfold padM; rw [if_pos h1, if_neg h2]
        rw [e]
        (dsimp only [c29]; simp (maxSteps := 1000000) (implicitDefEqProofs := false) (disch := omega) only [go_sem, Bool.false_eq_true, slc, aop, abin, aun, intB, ↓reduceIte, Nat.reduceEqDiff, Nat.reduceSub, ne_eq, not_false_eq_true, Option.map, Option.bind, get_off, get_off0, set_off, set_off0, List.append_assoc, List.cons_append, List.nil_append, List.length_append, List.length_cons, List.length_nil, Nat.zero_add, Nat.add_zero, Nat.add_assoc, Nat.reduceAdd, List.set_cons_zero, List.set_cons_succ, List.getElem?_cons_zero, List.getElem?_cons_succ, Option.bind_some, Nat.reduceLeDiff, Nat.reduceLT, maxLen, slOut, optI, Int.reduceSub, Int.sub_zero, Nat.zero_mul, if_pos, if_neg, w64, wu8, ↓condK_pos, ↓condK_neg, ↓gdK_pt, ↓gdK_nt, ↓gdK_pf, ↓gdK_nf, decide_eq_true_eq, cellsL, Value.cells, fillL, setAt, decide_true, decide_false, one_int, one_bool, one_string, one_slice, one_pointer, one_ptr, one_iface, one_nili, nat0, flat, slc, List.all_cons, List.all_nil, Bool.and_true, Bool.true_and, Bool.not_true, Bool.not_false, and_true, true_and, and_self, Nat.le_refl, List.take_succ_cons, List.take_zero, List.drop_succ_cons, List.drop_zero, Int.toNat_natCast, Int.reduceToNat, Nat.mul_one, List.take_nil, List.drop_nil, Int.reduceLE, Int.reduceAdd, Int.reduceLT, in_sp, q1, q2])
        exact ⟨by simp, done_br0 (by simp [rres, rresL, rres1, put_at, getP_ptr, get_off0])⟩
    · have q1 : (decide (1 ≤ s) && decide (s ≤ 16)) = false := by simp; omega
      have e : padM l s nx = (3, none) := by unfold padM; rw [if_neg h1]
      rw [e]
      (dsimp only [c29]; simp (maxSteps := 1000000) (implicitDefEqProofs := false) (disch := omega) only [go_sem, Bool.false_eq_true, slc, aop, abin, aun, intB, ↓reduceIte, Nat.reduceEqDiff, Nat.reduceSub, ne_eq, not_false_eq_true, Option.map, Option.bind, get_off, get_off0, set_off, set_off0, List.append_assoc, List.cons_append, List.nil_append, List.length_append, List.length_cons, List.length_nil, Nat.zero_add, Nat.add_zero, Nat.add_assoc, Nat.reduceAdd, List.set_cons_zero, List.set_cons_succ, List.getElem?_cons_zero, List.getElem?_cons_succ, Option.bind_some, Nat.reduceLeDiff, Nat.reduceLT, maxLen, slOut, optI, Int.reduceSub, Int.sub_zero, Nat.zero_mul, if_pos, if_neg, w64, wu8, ↓condK_pos, ↓condK_neg, ↓gdK_pt, ↓gdK_nt, ↓gdK_pf, ↓gdK_nf, decide_eq_true_eq, cellsL, Value.cells, fillL, setAt, decide_true, decide_false, one_int, one_bool, one_string, one_slice, one_pointer, one_ptr, one_iface, one_nili, nat0, flat, slc, List.all_cons, List.all_nil, Bool.and_true, Bool.true_and, Bool.not_true, Bool.not_false, and_true, true_and, and_self, Nat.le_refl, List.take_succ_cons, List.take_zero, List.drop_succ_cons, List.drop_zero, Int.toNat_natCast, Int.reduceToNat, Nat.mul_one, List.take_nil, List.drop_nil, Int.reduceLE, Int.reduceAdd, Int.reduceLT, in_sp, q1])
      exact ⟨by simp, done_br0 (by simp [rres, rresL, rres1, put_at, getP_ptr, get_off0])⟩
  · cases hs
theorem padBS_ok : Ok Try.prog 28 padB_sp := by
  refine ok_quiet (OkΓ.cons l1In_ok (OkΓ.nil _)) Try.func28 (by kernel_rfl) k28 padB_fr ?_
  intro lo args h r h' hs
  unfold padB_sp at hs; split at hs
  · rename_i v s nx
    obtain ⟨l, hl, hs⟩ := Option.bind_eq_some_iff.1 hs
    split at hs <;> cases hs
    rename_i hcond
    have hla := fun L => rdU_app hl L
    have hls := fun L => rdS_of_rdU (rdU_app hl L)
    obtain ⟨a, c, rfl, hb, hc⟩ := rdU_spec hl
    clear hs
    by_cases h1 : 1 ≤ s ∧ s ≤ 16
    · have q1 : (decide (1 ≤ s) && decide (s ≤ 16)) = true := by simp; omega
      by_cases h2 : 0 ≤ nx ∧ nx ≤ 255
      · have q2 : (decide (0 ≤ nx) && decide (nx ≤ 255)) = true := by simp; omega
        by_cases h3 : l.length ≤ 400
        · have e : padM l s nx = (0, some (padL l s.toNat nx)) := by unfold padM; rw [if_pos h1, if_pos h2, if_pos h3]
          rw [e]
          obtain ⟨S, rfl⟩ := Int.eq_ofNat_of_zero_le (show 0 ≤ s by omega)
          rw [Int.toNat_natCast]
          have hp := padN_bd (n := l.length) (S := S) (by omega)
          have hpl := padL_len l S nx
          generalize hP : padN l.length S = P at hp hpl
          have hi1 : ∀ i, i < P → (((l.length : Int) + i + 2) % S != 0) = true := by
            intro i hi
            have h1 := padN_lt (n := l.length) (S := S) (i := i) (by omega) (by omega)
            have h2 : (((l.length + i + 2) % S : Nat) : Int) = ((l.length : Int) + i + 2) % S := by simp
            simp only [bne_iff_ne, ne_eq]
            rw [← h2]; omega
          have hi2 : (((l.length : Int) + P + 2) % S != 0) = false := by
            have h1 := padN_eq (n := l.length) (S := S) (by omega)
            rw [hP] at h1
            have h2 : (((l.length + P + 2) % S : Nat) : Int) = ((l.length : Int) + P + 2) % S := by simp
            simp only [bne_eq_false_iff_eq]
            rw [← h2]; omega
          have hr0 : ∀ (L : Heap) (c : Nat), rdS (.cells 5 [] :: L) 1 (.slice (some ⟨0, 0, none⟩) 0 c) = some [] := fun L c => rdS_u8s 5 [] L 0 c rfl
          (dsimp only [c28]; simp (maxSteps := 1000000) (implicitDefEqProofs := false) (disch := omega) only [go_sem, Bool.false_eq_true, slc, aop, abin, aun, intB, ↓reduceIte, Nat.reduceEqDiff, Nat.reduceSub, ne_eq, not_false_eq_true, Option.map, Option.bind, get_off, get_off0, set_off, set_off0, List.append_assoc, List.cons_append, List.nil_append, List.length_append, List.length_cons, List.length_nil, Nat.zero_add, Nat.add_zero, Nat.add_assoc, Nat.reduceAdd, List.set_cons_zero, List.set_cons_succ, List.getElem?_cons_zero, List.getElem?_cons_succ, Option.bind_some, Nat.reduceLeDiff, Nat.reduceLT, maxLen, slOut, optI, Int.reduceSub, Int.sub_zero, Nat.zero_mul, if_pos, if_neg, w64, wu8, ↓condK_pos, ↓condK_neg, ↓gdK_pt, ↓gdK_nt, ↓gdK_pf, ↓gdK_nf, decide_eq_true_eq, cellsL, Value.cells, fillL, setAt, decide_true, decide_false, one_int, one_bool, one_string, one_slice, one_pointer, one_ptr, one_iface, one_nili, nat0, flat, slc, List.all_cons, List.all_nil, Bool.and_true, Bool.true_and, Bool.not_true, Bool.not_false, and_true, true_and, and_self, Nat.le_refl, List.take_succ_cons, List.take_zero, List.drop_succ_cons, List.drop_zero, Int.toNat_natCast, Int.reduceToNat, Nat.mul_one, List.take_nil, List.drop_nil, Int.reduceLE, Int.reduceAdd, Int.reduceLT, in_sp, q1, q2, hls, hr0, rdS_off, rdS_off0, rdS_tail, List.nil_append])
          refine awp_loop (fun m t => ∃ (i : Nat) (σ : Nat → Value) (J : Heap), t = ⟨σ, h ++ (.cells 36 [.int .i64 0, .slice none 0 0] :: (J ++ [.cells 5 (u8s (l ++ runL i))]))⟩ ∧ m = P - i ∧ i ≤ P ∧ σ 1 = .int .i64 S ∧ σ 2 = .int .i64 nx ∧ σ 6 = ptr h.length 0 ∧ σ 8 = .int .i64 i ∧
            σ 7 = .slice (some ⟨h.length + (J.length + 1), 0, none⟩) (l.length + i) (l.length + i)) P ⟨0, _, [.dead], by simp only [runL, List.range_zero, List.map_nil, List.append_nil]; rfl, by simp, by simp, by simp (maxSteps := 1000000) (implicitDefEqProofs := false) only [go_sem, Bool.false_eq_true, slc, aop, abin, aun, intB, ↓reduceIte, Nat.reduceEqDiff, Nat.reduceSub, ne_eq, not_false_eq_true, Option.map, Option.bind], by simp (maxSteps := 1000000) (implicitDefEqProofs := false) only [go_sem, Bool.false_eq_true, slc, aop, abin, aun, intB, ↓reduceIte, Nat.reduceEqDiff, Nat.reduceSub, ne_eq, not_false_eq_true, Option.map, Option.bind], by simp (maxSteps := 1000000) (implicitDefEqProofs := false) only [go_sem, Bool.false_eq_true, slc, aop, abin, aun, intB, ↓reduceIte, Nat.reduceEqDiff, Nat.reduceSub, ne_eq, not_false_eq_true, Option.map, Option.bind], by simp (maxSteps := 1000000) (implicitDefEqProofs := false) only [go_sem, Bool.false_eq_true, slc, aop, abin, aun, intB, ↓reduceIte, Nat.reduceEqDiff, Nat.reduceSub, ne_eq, not_false_eq_true, Option.map, Option.bind]; rfl, by simp (maxSteps := 1000000) (implicitDefEqProofs := false) only [go_sem, Bool.false_eq_true, slc, aop, abin, aun, intB, ↓reduceIte, Nat.reduceEqDiff, Nat.reduceSub, ne_eq, not_false_eq_true, Option.map, Option.bind]; rfl⟩ ?_
          intro m t ⟨i, σ, J, ht, hm, hi, e1, e2, e6, e8, e7⟩
          subst ht
          have hwi : 0 ≤ (i : Int) ∧ (i : Int) < 16 := by omega
          have hr := fun L c => rdS_u8s 5 (l ++ runL i) L (l.length + i) c (by rw [List.length_append, runL_len])
          have hcs : ((l.length + i : Nat) : Int) = (l.length : Int) + i := by omega
          by_cases hip : i < P
          · have q := hi1 i hip
            simp (maxSteps := 1000000) (implicitDefEqProofs := false) (disch := omega) only [go_sem, Bool.false_eq_true, slc, aop, abin, aun, intB, ↓reduceIte, Nat.reduceEqDiff, Nat.reduceSub, ne_eq, not_false_eq_true, Option.map, Option.bind, get_off, get_off0, set_off, set_off0, List.append_assoc, List.cons_append, List.nil_append, List.length_append, List.length_cons, List.length_nil, Nat.zero_add, Nat.add_zero, Nat.add_assoc, Nat.reduceAdd, List.set_cons_zero, List.set_cons_succ, List.getElem?_cons_zero, List.getElem?_cons_succ, Option.bind_some, Nat.reduceLeDiff, Nat.reduceLT, maxLen, slOut, optI, Int.reduceSub, Int.sub_zero, Nat.zero_mul, if_pos, if_neg, w64, wu8, ↓condK_pos, ↓condK_neg, ↓gdK_pt, ↓gdK_nt, ↓gdK_pf, ↓gdK_nf, decide_eq_true_eq, cellsL, Value.cells, fillL, setAt, decide_true, decide_false, one_int, one_bool, one_string, one_slice, one_pointer, one_ptr, one_iface, one_nili, nat0, flat, slc, List.all_cons, List.all_nil, Bool.and_true, Bool.true_and, Bool.not_true, Bool.not_false, and_true, true_and, and_self, Nat.le_refl, List.take_succ_cons, List.take_zero, List.drop_succ_cons, List.drop_zero, Int.toNat_natCast, Int.reduceToNat, Nat.mul_one, List.take_nil, List.drop_nil, Int.reduceLE, Int.reduceAdd, Int.reduceLT, e1, e2, e6, e7, e8, Int.tmod_eq_emod_of_nonneg, hcs, q, hr, rdS_off, rdS_off0, rdS_tail, rdS_one, u8s_snoc]
            exact ⟨P - (i + 1), by omega, i + 1, _, J ++ [.dead, .cells 5 [.int .u8 ((i : Int) + 1)]], by rw [runL_succ, List.append_assoc]; rfl, rfl, by omega, by simp (maxSteps := 1000000) (implicitDefEqProofs := false) only [go_sem, Bool.false_eq_true, slc, aop, abin, aun, intB, ↓reduceIte, Nat.reduceEqDiff, Nat.reduceSub, ne_eq, not_false_eq_true, Option.map, Option.bind, e1], by simp (maxSteps := 1000000) (implicitDefEqProofs := false) only [go_sem, Bool.false_eq_true, slc, aop, abin, aun, intB, ↓reduceIte, Nat.reduceEqDiff, Nat.reduceSub, ne_eq, not_false_eq_true, Option.map, Option.bind, e2], by simp (maxSteps := 1000000) (implicitDefEqProofs := false) only [go_sem, Bool.false_eq_true, slc, aop, abin, aun, intB, ↓reduceIte, Nat.reduceEqDiff, Nat.reduceSub, ne_eq, not_false_eq_true, Option.map, Option.bind, e6], by simp (maxSteps := 1000000) (implicitDefEqProofs := false) only [go_sem, Bool.false_eq_true, slc, aop, abin, aun, intB, ↓reduceIte, Nat.reduceEqDiff, Nat.reduceSub, ne_eq, not_false_eq_true, Option.map, Option.bind]; rfl, by simp (maxSteps := 1000000) (implicitDefEqProofs := false) only [go_sem, Bool.false_eq_true, slc, aop, abin, aun, intB, ↓reduceIte, Nat.reduceEqDiff, Nat.reduceSub, ne_eq, not_false_eq_true, Option.map, Option.bind]; simp⟩
          · have hP0 : i = P := by omega
            subst hP0
            simp (maxSteps := 1000000) (implicitDefEqProofs := false) (disch := omega) only [go_sem, Bool.false_eq_true, slc, aop, abin, aun, intB, ↓reduceIte, Nat.reduceEqDiff, Nat.reduceSub, ne_eq, not_false_eq_true, Option.map, Option.bind, get_off, get_off0, set_off, set_off0, List.append_assoc, List.cons_append, List.nil_append, List.length_append, List.length_cons, List.length_nil, Nat.zero_add, Nat.add_zero, Nat.add_assoc, Nat.reduceAdd, List.set_cons_zero, List.set_cons_succ, List.getElem?_cons_zero, List.getElem?_cons_succ, Option.bind_some, Nat.reduceLeDiff, Nat.reduceLT, maxLen, slOut, optI, Int.reduceSub, Int.sub_zero, Nat.zero_mul, if_pos, if_neg, w64, wu8, ↓condK_pos, ↓condK_neg, ↓gdK_pt, ↓gdK_nt, ↓gdK_pf, ↓gdK_nf, decide_eq_true_eq, cellsL, Value.cells, fillL, setAt, decide_true, decide_false, one_int, one_bool, one_string, one_slice, one_pointer, one_ptr, one_iface, one_nili, nat0, flat, slc, List.all_cons, List.all_nil, Bool.and_true, Bool.true_and, Bool.not_true, Bool.not_false, and_true, true_and, and_self, Nat.le_refl, List.take_succ_cons, List.take_zero, List.drop_succ_cons, List.drop_zero, Int.toNat_natCast, Int.reduceToNat, Nat.mul_one, List.take_nil, List.drop_nil, Int.reduceLE, Int.reduceAdd, Int.reduceLT, e1, e2, e6, e7, e8, Int.tmod_eq_emod_of_nonneg, hcs, hi2, hr, rdS_off, rdS_off0, rdS_tail, rdS_two, u8s_two]
            have e : padL l S nx = l ++ (runL i ++ [(i : Int), nx]) := by simp [padL, hP]
            simp only [brV]
            rw [e]
            exact ⟨by simp, done_br2 (i := J.length + 3) (by simp [rres, rresL, rres1, put_at, e6, getP_ptr, get_off0, runL_len]) (by rw [List.getElem?_cons_succ, get_off]; rfl)⟩
        · have e : padM l s nx = (2, none) := by unfold padM; rw [if_pos h1, if_pos h2, if_neg h3]
          rw [e]
          (dsimp only [c28]; simp (maxSteps := 1000000) (implicitDefEqProofs := false) (disch := omega) only [go_sem, Bool.false_eq_true, slc, aop, abin, aun, intB, ↓reduceIte, Nat.reduceEqDiff, Nat.reduceSub, ne_eq, not_false_eq_true, Option.map, Option.bind, get_off, get_off0, set_off, set_off0, List.append_assoc, List.cons_append, List.nil_append, List.length_append, List.length_cons, List.length_nil, Nat.zero_add, Nat.add_zero, Nat.add_assoc, Nat.reduceAdd, List.set_cons_zero, List.set_cons_succ, List.getElem?_cons_zero, List.getElem?_cons_succ, Option.bind_some, Nat.reduceLeDiff, Nat.reduceLT, maxLen, slOut, optI, Int.reduceSub, Int.sub_zero, Nat.zero_mul, if_pos, if_neg, w64, wu8, ↓condK_pos, ↓condK_neg, ↓gdK_pt, ↓gdK_nt, ↓gdK_pf, ↓gdK_nf, decide_eq_true_eq, cellsL, Value.cells, fillL, setAt, decide_true, decide_false, one_int, one_bool, one_string, one_slice, one_pointer, one_ptr, one_iface, one_nili, nat0, flat, slc, List.all_cons, List.all_nil, Bool.and_true, Bool.true_and, Bool.not_true, Bool.not_false, and_true, true_and, and_self, Nat.le_refl, List.take_succ_cons, List.take_zero, List.drop_succ_cons, List.drop_zero, Int.toNat_natCast, Int.reduceToNat, Nat.mul_one, List.take_nil, List.drop_nil, Int.reduceLE, Int.reduceAdd, Int.reduceLT, in_sp, q1, q2])
          exact ⟨by simp, done_br0 (by simp [rres, rresL, rres1, put_at, getP_ptr, get_off0])⟩
      · have q2 : (decide (0 ≤ nx) && decide (nx ≤ 255)) = false := by simp; omega
        have e : padM l s nx = (3, none) := by unfold padM; rw [if_pos h1, if_neg h2]
        rw [e]
        (dsimp only [c28]; simp (maxSteps := 1000000) (implicitDefEqProofs := false) (disch := omega) only [go_sem, Bool.false_eq_true, slc, aop, abin, aun, intB, ↓reduceIte, Nat.reduceEqDiff, Nat.reduceSub, ne_eq, not_false_eq_true, Option.map, Option.bind, get_off, get_off0, set_off, set_off0, List.append_assoc, List.cons_append, List.nil_append, List.length_append, List.length_cons, List.length_nil, Nat.zero_add, Nat.add_zero, Nat.add_assoc, Nat.reduceAdd, List.set_cons_zero, List.set_cons_succ, List.getElem?_cons_zero, List.getElem?_cons_succ, Option.bind_some, Nat.reduceLeDiff, Nat.reduceLT, maxLen, slOut, optI, Int.reduceSub, Int.sub_zero, Nat.zero_mul, if_pos, if_neg, w64, wu8, ↓condK_pos, ↓condK_neg, ↓gdK_pt, ↓gdK_nt, ↓gdK_pf, ↓gdK_nf, decide_eq_true_eq, cellsL, Value.cells, fillL, setAt, decide_true, decide_false, one_int, one_bool, one_string, one_slice, one_pointer, one_ptr, one_iface, one_nili, nat0, flat, slc, List.all_cons, List.all_nil, Bool.and_true, Bool.true_and, Bool.not_true, Bool.not_false, and_true, true_and, and_self, Nat.le_refl, List.take_succ_cons, List.take_zero, List.drop_succ_cons, List.drop_zero, Int.toNat_natCast, Int.reduceToNat, Nat.mul_one, List.take_nil, List.drop_nil, Int.reduceLE, Int.reduceAdd, Int.reduceLT, in_sp, q1, q2])
        exact ⟨by simp, done_br0 (by simp [rres, rresL, rres1, put_at, getP_ptr, get_off0])⟩
    · have q1 : (decide (1 ≤ s) && decide (s ≤ 16)) = false := by simp; omega
      have e : padM l s nx = (3, none) := by unfold padM; rw [if_neg h1]
      rw [e]
      (dsimp only [c28]; simp (maxSteps := 1000000) (implicitDefEqProofs := false) (disch := omega) only [go_sem, Bool.false_eq_true, slc, aop, abin, aun, intB, ↓reduceIte, Nat.reduceEqDiff, Nat.reduceSub, ne_eq, not_false_eq_true, Option.map, Option.bind, get_off, get_off0, set_off, set_off0, List.append_assoc, List.cons_append, List.nil_append, List.length_append, List.length_cons, List.length_nil, Nat.zero_add, Nat.add_zero, Nat.add_assoc, Nat.reduceAdd, List.set_cons_zero, List.set_cons_succ, List.getElem?_cons_zero, List.getElem?_cons_succ, Option.bind_some, Nat.reduceLeDiff, Nat.reduceLT, maxLen, slOut, optI, Int.reduceSub, Int.sub_zero, Nat.zero_mul, if_pos, if_neg, w64, wu8, ↓condK_pos, ↓condK_neg, ↓gdK_pt, ↓gdK_nt, ↓gdK_pf, ↓gdK_nf, decide_eq_true_eq, cellsL, Value.cells, fillL, setAt, decide_true, decide_false, one_int, one_bool, one_string, one_slice, one_pointer, one_ptr, one_iface, one_nili, nat0, flat, slc, List.all_cons, List.all_nil, Bool.and_true, Bool.true_and, Bool.not_true, Bool.not_false, and_true, true_and, and_self, Nat.le_refl, List.take_succ_cons, List.take_zero, List.drop_succ_cons, List.drop_zero, Int.toNat_natCast, Int.reduceToNat, Nat.mul_one, List.take_nil, List.drop_nil, Int.reduceLE, Int.reduceAdd, Int.reduceLT, in_sp, q1])
      exact ⟨by simp, done_br0 (by simp [rres, rresL, rres1, put_at, getP_ptr, get_off0])⟩
  · cases hs
def lssLaw_sp : Sp := fun _ args h => match args with
  | [v, .int .i64 _, .int .i64 _] => (rdU h v).bind fun l => if l.length ≤ 140737488355328 then some (.bool true, h) else none
  | _ => none
theorem padBL_ok : Ok Try.prog 6 lssLaw_sp := by
  refine ok_quiet (OkΓ.cons toB_ok (OkΓ.cons padBS_ok (OkΓ.cons padBI_ok (OkΓ.cons eqBR_ok (OkΓ.cons eqB_ok (OkΓ.cons mkB_ok (OkΓ.cons mkBR_ok (OkΓ.cons hdBR_ok (OkΓ.nil _))))))))) Try.func6 (by kernel_rfl) k6 ?_ ?_
  · intro lo args h r h' hs
    unfold lssLaw_sp at hs; split at hs
    · obtain ⟨l, _, hs⟩ := Option.bind_eq_some_iff.1 hs
      split at hs <;> cases hs; exact Fr.refl _ _
    · cases hs
  · intro lo args h r h' hs
    unfold lssLaw_sp at hs; split at hs
    · rename_i v s nx
      obtain ⟨d, hd, hs⟩ := Option.bind_eq_some_iff.1 hs
      split at hs <;> cases hs
      rename_i hcond
      have hda := fun L => rdU_app hd L
      obtain ⟨a, c, rfl, hb0, hc⟩ := rdU_spec hd
      clear hs
      have hdh := rdU_head hb0
      by_cases h1 : d.length ≤ 1048576
      · rcases hM : padM d s nx with ⟨c, _ | l⟩
        · (dsimp only [c6]; simp (maxSteps := 1000000) (implicitDefEqProofs := false) (disch := omega) only [go_sem, Bool.false_eq_true, slc, aop, abin, aun, intB, ↓reduceIte, Nat.reduceEqDiff, Nat.reduceSub, ne_eq, not_false_eq_true, Option.map, Option.bind, get_off, get_off0, set_off, set_off0, List.append_assoc, List.cons_append, List.nil_append, List.length_append, List.length_cons, List.length_nil, Nat.zero_add, Nat.add_zero, Nat.add_assoc, Nat.reduceAdd, List.set_cons_zero, List.set_cons_succ, List.getElem?_cons_zero, List.getElem?_cons_succ, Option.bind_some, Nat.reduceLeDiff, Nat.reduceLT, maxLen, slOut, optI, Int.reduceSub, Int.sub_zero, Nat.zero_mul, if_pos, if_neg, w64, wu8, ↓condK_pos, ↓condK_neg, ↓gdK_pt, ↓gdK_nt, ↓gdK_pf, ↓gdK_nf, decide_eq_true_eq, cellsL, Value.cells, fillL, setAt, decide_true, decide_false, one_int, one_bool, one_string, one_slice, one_pointer, one_ptr, one_iface, one_nili, nat0, flat, slc, List.all_cons, List.all_nil, Bool.and_true, Bool.true_and, Bool.not_true, Bool.not_false, and_true, true_and, and_self, Nat.le_refl, List.take_succ_cons, List.take_zero, List.drop_succ_cons, List.drop_zero, Int.toNat_natCast, Int.reduceToNat, Nat.mul_one, List.take_nil, List.drop_nil, Int.reduceLE, Int.reduceAdd, Int.reduceLT, toB_sp, padB_sp, hM, brV, eqBR_sp, eqB_sp, mkBR_sp, mkB_sp, hdBR_sp, hdB_sp, hd, hda, hdh, rdU_off, rdU_off0, rdU_tail, u8s_len, rdU_nil, markL_zero, bne_self_eq_false])
          exact ⟨by simp, done_scalar (by simp [rres, rresL, rres1, put_at]) (mapV_flat _ rfl).symm keep_off⟩
        · obtain ⟨hb, hl⟩ := padM_bd hb0 hM
          have hh := rdU_head hb
          (dsimp only [c6]; simp (maxSteps := 1000000) (implicitDefEqProofs := false) (disch := omega) only [go_sem, Bool.false_eq_true, slc, aop, abin, aun, intB, ↓reduceIte, Nat.reduceEqDiff, Nat.reduceSub, ne_eq, not_false_eq_true, Option.map, Option.bind, get_off, get_off0, set_off, set_off0, List.append_assoc, List.cons_append, List.nil_append, List.length_append, List.length_cons, List.length_nil, Nat.zero_add, Nat.add_zero, Nat.add_assoc, Nat.reduceAdd, List.set_cons_zero, List.set_cons_succ, List.getElem?_cons_zero, List.getElem?_cons_succ, Option.bind_some, Nat.reduceLeDiff, Nat.reduceLT, maxLen, slOut, optI, Int.reduceSub, Int.sub_zero, Nat.zero_mul, if_pos, if_neg, w64, wu8, ↓condK_pos, ↓condK_neg, ↓gdK_pt, ↓gdK_nt, ↓gdK_pf, ↓gdK_nf, decide_eq_true_eq, cellsL, Value.cells, fillL, setAt, decide_true, decide_false, one_int, one_bool, one_string, one_slice, one_pointer, one_ptr, one_iface, one_nili, nat0, flat, slc, List.all_cons, List.all_nil, Bool.and_true, Bool.true_and, Bool.not_true, Bool.not_false, and_true, true_and, and_self, Nat.le_refl, List.take_succ_cons, List.take_zero, List.drop_succ_cons, List.drop_zero, Int.toNat_natCast, Int.reduceToNat, Nat.mul_one, List.take_nil, List.drop_nil, Int.reduceLE, Int.reduceAdd, Int.reduceLT, toB_sp, padB_sp, hM, brV, eqBR_sp, eqB_sp, mkBR_sp, mkB_sp, hdBR_sp, hdB_sp, hd, hda, hdh, rdU_off, rdU_off0, rdU_tail, hh, rdU_mark, markL_len, u8s_len, bne_self_eq_false])
          exact ⟨by simp, done_scalar (by simp [rres, rresL, rres1, put_at]) (mapV_flat _ rfl).symm keep_off⟩
      · (dsimp only [c6]; simp (maxSteps := 1000000) (implicitDefEqProofs := false) (disch := omega) only [go_sem, Bool.false_eq_true, slc, aop, abin, aun, intB, ↓reduceIte, Nat.reduceEqDiff, Nat.reduceSub, ne_eq, not_false_eq_true, Option.map, Option.bind, get_off, get_off0, set_off, set_off0, List.append_assoc, List.cons_append, List.nil_append, List.length_append, List.length_cons, List.length_nil, Nat.zero_add, Nat.add_zero, Nat.add_assoc, Nat.reduceAdd, List.set_cons_zero, List.set_cons_succ, List.getElem?_cons_zero, List.getElem?_cons_succ, Option.bind_some, Nat.reduceLeDiff, Nat.reduceLT, maxLen, slOut, optI, Int.reduceSub, Int.sub_zero, Nat.zero_mul, if_pos, if_neg, w64, wu8, ↓condK_pos, ↓condK_neg, ↓gdK_pt, ↓gdK_nt, ↓gdK_pf, ↓gdK_nf, decide_eq_true_eq, cellsL, Value.cells, fillL, setAt, decide_true, decide_false, one_int, one_bool, one_string, one_slice, one_pointer, one_ptr, one_iface, one_nili, nat0, flat, slc, List.all_cons, List.all_nil, Bool.and_true, Bool.true_and, Bool.not_true, Bool.not_false, and_true, true_and, and_self, Nat.le_refl, List.take_succ_cons, List.take_zero, List.drop_succ_cons, List.drop_zero, Int.toNat_natCast, Int.reduceToNat, Nat.mul_one, List.take_nil, List.drop_nil, Int.reduceLE, Int.reduceAdd, Int.reduceLT])
        exact ⟨by simp, done_scalar (by simp [rres, rresL, rres1, put_at]) (mapV_flat _ rfl).symm (fun _ _ => rfl)⟩
    · cases hs
/-- A law over two numbers and a slice of bytes. -/
theorem law_lss {f : Nat} (ok : Ok Try.prog f lssLaw_sp) {k s : Int} {a : Option Addr} {len cap : Nat} {zs : List Int} {W : World} (w : IsRow .u8 W a len cap zs) (y : len * 1 ≤ 140737488351232) :
    Calls Try.prog f ⟨[.slice a len cap, .int .i64 k, .int .i64 s]⟩ W (fun e W' => e = .returned (.bool true) ∧ RowKit.Below W.heap.size W W') := by
  obtain ⟨ι, v, _, hr, hv, hd⟩ := add_row (hr_start Try.prog W W.heap.size) (e := 5) (by kernel_rfl) w
  refine law_calls ok hr (.cons hv (.cons (.int _ _) (.cons (.int _ _) .nil))) ?_
  have e := rdU_row w.wf (hd [])
  rw [List.append_nil] at e
  simp only [lssLaw_sp, e, Option.bind_some]
  rw [if_pos (by have := List.length_take_le len zs; omega)]
theorem fnExactPadBytes_calls {k s : Int} {a : Option Addr} {len cap : Nat} {zs : List Int} {W : World} (w : IsRow .u8 W a len cap zs) (y : len * 1 ≤ 140737488351232) (_ : (Lit.int .i64 k).wf = true) (_ : (Lit.int .i64 s).wf = true) :
    Calls Try.prog 6 ⟨[.slice a len cap, .int .i64 k, .int .i64 s]⟩ W (fun e W' => e = .returned (.bool true) ∧ RowKit.Below W.heap.size W W') := law_lss padBL_ok w y
end Go.Proofs.Ytpndkgpkakhbmaa
