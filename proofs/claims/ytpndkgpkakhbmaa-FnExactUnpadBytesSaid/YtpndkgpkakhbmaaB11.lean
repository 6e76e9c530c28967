import Derived.Test.YtpndkgpkakhbmaaB10
set_option linter.unusedSimpArgs false
set_option linter.unusedVariables false
set_option maxRecDepth 100000
namespace Go.Proofs.Ytpndkgpkakhbmaa
open Go Go.AH
attribute [local go_sem ↓] awp_skip awp_ret awp_exit awp_seq awp_reg awp_drw awp_cond awp_block seqK_normal seqK_ret seqK_exit blkK_normal blkK_ret loopK_normal loopK_ret loopK_exit rops_nil qops_nil rops_op rops_op0 rops_opg qops_op qops_op0 qops_opg gdK_tt gdK_ff gdK_tf gdK_ft kont_some condK_true condK_false
attribute [local go_sem] tag_eq blkK_exit put_at argσ_nil argσ_cons ev_t ev_v ctx_get getB_bool getI_int getP_ptr Option.map_some Option.bind_some List.map_cons List.map_nil
attribute [local congr] kont_cong condK_cong gdK_cong awp_cong rops_cong qops_cong
-- spec.l14Tag
def c61 : AF := ⟨33,
  (.seq (.reg [⟨(some 6), none, .mv (.v (.int .i64 0))⟩])
  (.seq (.reg [⟨(some 9), none, .mv (.t 0)⟩,
   ⟨(some 10), none, .bin .mul (.t 9) (.v (.int .i64 17))⟩,
   ⟨(some 11), none, .mv (.t 1)⟩,
   ⟨(some 12), none, .bin .mul (.t 11) (.v (.int .i64 3))⟩,
   ⟨(some 13), none, .bin .add (.t 10) (.t 12)⟩,
   ⟨(some 14), none, .bin .add (.t 13) (.v (.int .i64 5))⟩,
   ⟨(some 15), none, .bin .rem (.t 14) (.v (.int .i64 1000003))⟩,
   ⟨(some 7), none, .mv (.t 15)⟩])
  (.seq (.seq (.reg [⟨(some 8), none, .mv (.v (.int .i64 0))⟩])
  (.block 0 (.loop (.seq (.seq (.reg [⟨(some 16), none, .mv (.t 8)⟩,
   ⟨(some 17), none, .mv (.t 2)⟩,
   ⟨(some 18), none, .len (.t 17)⟩,
   ⟨(some 19), none, .bin .lss (.t 16) (.t 18)⟩])
  (.cond (.t 19) .skip
  (.exit 0)))
  (.seq (.block 1 (.reg [⟨(some 22), none, .mv (.t 7)⟩,
   ⟨(some 23), none, .bin .mul (.t 22) (.v (.int .i64 263))⟩,
   ⟨(some 24), none, .mv (.t 2)⟩,
   ⟨(some 25), none, .mv (.t 8)⟩,
   ⟨(some 26), none, .ia 1 (.t 24) (.t 25)⟩,
   ⟨(some 27), none, .ld (.t 26)⟩,
   ⟨(some 28), none, .cvI .i64 (.t 27)⟩,
   ⟨(some 29), none, .bin .add (.t 23) (.t 28)⟩,
   ⟨(some 30), none, .bin .add (.t 29) (.v (.int .i64 1))⟩,
   ⟨(some 31), none, .bin .rem (.t 30) (.v (.int .i64 1000003))⟩,
   ⟨(some 7), none, .mv (.t 31)⟩]))
  (.reg [⟨(some 20), none, .mv (.t 8)⟩,
   ⟨(some 21), none, .bin .add (.t 20) (.v (.int .i64 1))⟩,
   ⟨(some 8), none, .mv (.t 21)⟩]))))))
  (.seq (.reg [⟨(some 32), none, .mv (.t 7)⟩,
   ⟨(some 6), none, .mv (.t 32)⟩])
  .ret)))),
  [.t 6]⟩
theorem k61 : cFn Try.prog Try.f61 = some c61 := by kernel_rfl
-- impl.tag
def c63 : AF := ⟨32,
  (.seq (.reg [⟨(some 6), none, .mv (.v (.int .i64 0))⟩])
  (.seq (.reg [⟨(some 10), none, .mv (.t 0)⟩,
   ⟨(some 11), none, .bin .mul (.t 10) (.v (.int .i64 17))⟩,
   ⟨(some 12), none, .mv (.t 1)⟩,
   ⟨(some 13), none, .bin .mul (.t 12) (.v (.int .i64 3))⟩,
   ⟨(some 14), none, .bin .add (.t 11) (.t 13)⟩,
   ⟨(some 15), none, .bin .add (.t 14) (.v (.int .i64 5))⟩,
   ⟨(some 16), none, .bin .rem (.t 15) (.v (.int .i64 1000003))⟩,
   ⟨(some 7), none, .mv (.t 16)⟩])
  (.seq (.seq (.reg [⟨(some 17), none, .mv (.t 2)⟩,
   ⟨(some 18), none, .len (.t 17)⟩,
   ⟨(some 19), none, .mv (.v (.int .i64 0))⟩])
  (.block 0 (.loop (.seq (.reg [⟨(some 20), none, .bin .lss (.t 19) (.t 18)⟩])
  (.seq (.cond (.t 20) .skip
  (.exit 0))
  (.seq (.block 1 (.seq (.reg [⟨(some 21), none, .ia 1 (.t 17) (.t 19)⟩,
   ⟨(some 22), none, .ld (.t 21)⟩,
   ⟨(some 9), none, .mv (.t 22)⟩])
  (.reg [⟨(some 23), none, .mv (.t 7)⟩,
   ⟨(some 24), none, .bin .mul (.t 23) (.v (.int .i64 263))⟩,
   ⟨(some 25), none, .mv (.t 9)⟩,
   ⟨(some 26), none, .cvI .i64 (.t 25)⟩,
   ⟨(some 27), none, .bin .add (.t 24) (.t 26)⟩,
   ⟨(some 28), none, .bin .add (.t 27) (.v (.int .i64 1))⟩,
   ⟨(some 29), none, .bin .rem (.t 28) (.v (.int .i64 1000003))⟩,
   ⟨(some 7), none, .mv (.t 29)⟩])))
  (.reg [⟨(some 30), none, .bin .add (.t 19) (.v (.int .i64 1))⟩,
   ⟨(some 19), none, .mv (.t 30)⟩])))))))
  (.seq (.reg [⟨(some 31), none, .mv (.t 7)⟩,
   ⟨(some 6), none, .mv (.t 31)⟩])
  .ret)))),
  [.t 6]⟩
theorem k63 : cFn Try.prog Try.f63 = some c63 := by kernel_rfl
-- spec.l14Mix
def c79 : AF := ⟨33,
  (.seq (.reg [⟨(some 6), none, .mv (.v (.slice none 0 0))⟩])
  (.seq (.reg [⟨(some 9), none, .mv (.t 0)⟩,
   ⟨(some 10), none, .mv (.t 1)⟩,
   ⟨(some 11), none, .mv (.t 2)⟩,
   ⟨(some 12), none, .len (.t 11)⟩,
   ⟨(some 13), none, .call 64 [(.t 9), (.t 10), (.t 12)]⟩,
   ⟨(some 7), none, .mv (.t 13)⟩])
  (.seq (.seq (.reg [⟨(some 8), none, .mv (.v (.int .i64 0))⟩])
  (.block 0 (.loop (.seq (.seq (.reg [⟨(some 14), none, .mv (.t 8)⟩,
   ⟨(some 15), none, .mv (.t 7)⟩,
   ⟨(some 16), none, .len (.t 15)⟩,
   ⟨(some 17), none, .bin .lss (.t 14) (.t 16)⟩])
  (.cond (.t 17) .skip
  (.exit 0)))
  (.seq (.block 1 (.drw [⟨(some 20), none, .mv (.t 7)⟩,
   ⟨(some 21), none, .mv (.t 8)⟩,
   ⟨(some 22), none, .mv (.t 7)⟩,
   ⟨(some 23), none, .mv (.t 8)⟩,
   ⟨(some 24), none, .ia 1 (.t 22) (.t 23)⟩,
   ⟨(some 25), none, .ld (.t 24)⟩,
   ⟨(some 26), none, .mv (.t 2)⟩,
   ⟨(some 27), none, .mv (.t 8)⟩,
   ⟨(some 28), none, .ia 1 (.t 26) (.t 27)⟩,
   ⟨(some 29), none, .ld (.t 28)⟩,
   ⟨(some 30), none, .bin .xor (.t 25) (.t 29)⟩,
   ⟨(some 31), none, .ia 1 (.t 20) (.t 21)⟩] [⟨none, none, .st 1 (.t 31) (.t 30)⟩]))
  (.reg [⟨(some 18), none, .mv (.t 8)⟩,
   ⟨(some 19), none, .bin .add (.t 18) (.v (.int .i64 1))⟩,
   ⟨(some 8), none, .mv (.t 19)⟩]))))))
  (.seq (.reg [⟨(some 32), none, .mv (.t 7)⟩,
   ⟨(some 6), none, .mv (.t 32)⟩])
  .ret)))),
  [.t 6]⟩
theorem k79 : cFn Try.prog Try.f79 = some c79 := by kernel_rfl
-- impl.turned
def c81 : AF := ⟨31,
  (.seq (.reg [⟨(some 6), none, .mv (.v (.slice none 0 0))⟩])
  (.seq (.reg [⟨(some 10), none, .mv (.t 0)⟩,
   ⟨(some 11), none, .mv (.t 1)⟩,
   ⟨(some 12), none, .mv (.t 2)⟩,
   ⟨(some 13), none, .len (.t 12)⟩,
   ⟨(some 14), none, .call 65 [(.t 10), (.t 11), (.t 13)]⟩,
   ⟨(some 7), none, .mv (.t 14)⟩])
  (.seq (.seq (.reg [⟨(some 15), none, .mv (.t 2)⟩,
   ⟨(some 16), none, .len (.t 15)⟩,
   ⟨(some 17), none, .mv (.v (.int .i64 0))⟩])
  (.block 0 (.loop (.seq (.reg [⟨(some 18), none, .bin .lss (.t 17) (.t 16)⟩])
  (.seq (.cond (.t 18) .skip
  (.exit 0))
  (.seq (.block 1 (.seq (.reg [⟨(some 19), none, .mv (.t 17)⟩,
   ⟨(some 20), none, .ia 1 (.t 15) (.t 17)⟩,
   ⟨(some 21), none, .ld (.t 20)⟩,
   ⟨(some 8), none, .mv (.t 19)⟩,
   ⟨(some 9), none, .mv (.t 21)⟩])
  (.reg [⟨(some 22), none, .mv (.t 7)⟩,
   ⟨(some 23), none, .mv (.t 8)⟩,
   ⟨(some 24), none, .ia 1 (.t 22) (.t 23)⟩,
   ⟨(some 25), none, .ld (.t 24)⟩,
   ⟨(some 26), none, .mv (.t 9)⟩,
   ⟨(some 27), none, .bin .xor (.t 25) (.t 26)⟩,
   ⟨(some 28), none, .ia 1 (.t 22) (.t 23)⟩,
   ⟨none, none, .st 1 (.t 28) (.t 27)⟩])))
  (.reg [⟨(some 29), none, .bin .add (.t 17) (.v (.int .i64 1))⟩,
   ⟨(some 17), none, .mv (.t 29)⟩])))))))
  (.seq (.reg [⟨(some 30), none, .mv (.t 7)⟩,
   ⟨(some 6), none, .mv (.t 30)⟩])
  .ret)))),
  [.t 6]⟩
theorem k81 : cFn Try.prog Try.f81 = some c81 := by kernel_rfl
/-! The tag -/
def tagS (h b : Int) : Int := (h * 263 + b + 1) % 1000003
def tagL (k s : Int) (l : List Int) : Int := l.foldl tagS ((k * 17 + s * 3 + 5) % 1000003)
theorem tagL_snoc (k s : Int) (l : List Int) (x : Int) : tagL k s (l ++ [x]) = tagS (tagL k s l) x := by simp [tagL]
theorem tagS_bd (h b : Int) : 0 ≤ tagS h b ∧ tagS h b < 1000003 := ⟨Int.emod_nonneg _ (by decide), Int.emod_lt_of_pos _ (by decide)⟩
theorem tagL_bd (k s : Int) (l : List Int) : ∀ n, 0 ≤ tagL k s (l.take n) ∧ tagL k s (l.take n) < 1000003
  | 0 => by simp only [List.take_zero]; exact ⟨Int.emod_nonneg _ (by decide), Int.emod_lt_of_pos _ (by decide)⟩
  | n + 1 => by
    by_cases hn : n < l.length
    · rw [List.take_succ_eq_append_getElem hn, tagL_snoc]; exact tagS_bd _ _
    · rw [show l.take (n + 1) = l.take n by rw [List.take_of_length_le (by omega), List.take_of_length_le (by omega)]]; exact tagL_bd k s l n
theorem tag_step (k s : Int) (l : List Int) (n : Nat) (hn : n < l.length) : tagL k s (l.take (n + 1)) = (tagL k s (l.take n) * 263 + l.getD n 0 + 1) % 1000003 := by
  rw [List.take_succ_eq_append_getElem hn, tagL_snoc]
  simp [tagS, hn]
def tag_sp : Sp := fun _ args h => match args with
  | [.int .i64 k, .int .i64 s, v] => (rdU h v).bind fun l => if askB k s ∧ l.length ≤ 140737488355328 then some (.int .i64 (tagL k s l), h) else none
  | _ => none
theorem tag_fr : ∀ lo args h r h', tag_sp lo args h = some (r, h') → Fr h.length h h' := by
  intro lo args h r h' hs
  unfold tag_sp at hs; split at hs
  · obtain ⟨l, _, hs⟩ := Option.bind_eq_some_iff.1 hs
    split at hs <;> cases hs; exact Fr.refl _ _
  · cases hs
theorem tagS_ok : Ok Try.prog 61 tag_sp := by
  refine ok_quiet (OkΓ.nil _) Try.func61 (by kernel_rfl) k61 tag_fr ?_
  intro lo args h r h' hs
  unfold tag_sp at hs; split at hs
  · rename_i k s v
    obtain ⟨l, hl, hs⟩ := Option.bind_eq_some_iff.1 hs
    split at hs <;> cases hs
    rename_i hcond
    obtain ⟨⟨h1, h2, h3, h4⟩, h5⟩ := hcond
    obtain ⟨a, c, rfl, hb, hc⟩ := rdU_spec hl
    clear hs
    (dsimp only [c61]; simp (maxSteps := 1000000) (implicitDefEqProofs := false) (disch := omega) only [go_sem, Bool.false_eq_true, slc, aop, abin, aun, intB, ↓reduceIte, Nat.reduceEqDiff, Nat.reduceSub, ne_eq, not_false_eq_true, Option.map, Option.bind, get_off, get_off0, set_off, set_off0, List.append_assoc, List.cons_append, List.nil_append, List.length_append, List.length_cons, List.length_nil, Nat.zero_add, Nat.add_zero, Nat.add_assoc, Nat.reduceAdd, List.set_cons_zero, List.set_cons_succ, List.getElem?_cons_zero, List.getElem?_cons_succ, Option.bind_some, Nat.reduceLeDiff, Nat.reduceLT, maxLen, slOut, optI, Int.reduceSub, Int.sub_zero, Nat.zero_mul, if_pos, if_neg, w64, wu8, ↓condK_pos, ↓condK_neg, ↓gdK_pt, ↓gdK_nt, ↓gdK_pf, ↓gdK_nf, decide_eq_true_eq, cellsL, Value.cells, fillL, setAt, decide_true, decide_false, one_int, one_bool, one_string, one_slice, one_pointer, one_ptr, one_iface, one_nili, nat0, flat, slc, List.all_cons, List.all_nil, Bool.and_true, Bool.true_and, Bool.not_true, Bool.not_false, and_true, true_and, and_self, Nat.le_refl, List.take_succ_cons, List.take_zero, List.drop_succ_cons, List.drop_zero, Int.toNat_natCast, Int.reduceToNat, Nat.mul_one, List.take_nil, List.drop_nil, Int.reduceLE, Int.reduceAdd, Int.reduceLT, Int.tmod_eq_emod_of_nonneg])
    refine awp_loop (fun m t => ∃ (i : Nat) (σ : Nat → Value), t = ⟨σ, h⟩ ∧ m = l.length - i ∧ i ≤ l.length ∧ σ 2 = .slice a l.length c ∧
      σ 7 = .int .i64 (tagL k s (l.take i)) ∧ σ 8 = .int .i64 i) l.length ⟨0, _, rfl, by simp, by simp, by simp (maxSteps := 1000000) (implicitDefEqProofs := false) only [go_sem, Bool.false_eq_true, slc, aop, abin, aun, intB, ↓reduceIte, Nat.reduceEqDiff, Nat.reduceSub, ne_eq, not_false_eq_true, Option.map, Option.bind], by simp (maxSteps := 1000000) (implicitDefEqProofs := false) only [go_sem, Bool.false_eq_true, slc, aop, abin, aun, intB, ↓reduceIte, Nat.reduceEqDiff, Nat.reduceSub, ne_eq, not_false_eq_true, Option.map, Option.bind]; rfl, by simp (maxSteps := 1000000) (implicitDefEqProofs := false) only [go_sem, Bool.false_eq_true, slc, aop, abin, aun, intB, ↓reduceIte, Nat.reduceEqDiff, Nat.reduceSub, ne_eq, not_false_eq_true, Option.map, Option.bind]; rfl⟩ ?_
    intro m t ⟨i, σ, ht, hm, hi, e2, e7, e8⟩
    subst ht
    simp (maxSteps := 1000000) (implicitDefEqProofs := false) (disch := omega) only [go_sem, Bool.false_eq_true, slc, aop, abin, aun, intB, ↓reduceIte, Nat.reduceEqDiff, Nat.reduceSub, ne_eq, not_false_eq_true, Option.map, Option.bind, get_off, get_off0, set_off, set_off0, List.append_assoc, List.cons_append, List.nil_append, List.length_append, List.length_cons, List.length_nil, Nat.zero_add, Nat.add_zero, Nat.add_assoc, Nat.reduceAdd, List.set_cons_zero, List.set_cons_succ, List.getElem?_cons_zero, List.getElem?_cons_succ, Option.bind_some, Nat.reduceLeDiff, Nat.reduceLT, maxLen, slOut, optI, Int.reduceSub, Int.sub_zero, Nat.zero_mul, if_pos, if_neg, w64, wu8, ↓condK_pos, ↓condK_neg, ↓gdK_pt, ↓gdK_nt, ↓gdK_pf, ↓gdK_nf, decide_eq_true_eq, cellsL, Value.cells, fillL, setAt, decide_true, decide_false, one_int, one_bool, one_string, one_slice, one_pointer, one_ptr, one_iface, one_nili, nat0, flat, slc, List.all_cons, List.all_nil, Bool.and_true, Bool.true_and, Bool.not_true, Bool.not_false, and_true, true_and, and_self, Nat.le_refl, List.take_succ_cons, List.take_zero, List.drop_succ_cons, List.drop_zero, Int.toNat_natCast, Int.reduceToNat, Nat.mul_one, List.take_nil, List.drop_nil, Int.reduceLE, Int.reduceAdd, Int.reduceLT, e2, e7, e8]
    refine condK_dec (fun hlt => ?_) (fun hge => ?_)
    · obtain ⟨b, o, e, bs, rfl, hbk, hcell⟩ := hc i (by omega)
      have hbd := tagL_bd k s l i
      have hel : 0 ≤ l.getD i 0 ∧ l.getD i 0 < 256 := by
        have := hb l[i] (by simp); simpa [show i < l.length by omega] using this
      have hst := tag_step k s l i (by omega)
      simp (maxSteps := 1000000) (implicitDefEqProofs := false) (disch := omega) only [go_sem, Bool.false_eq_true, slc, aop, abin, aun, intB, ↓reduceIte, Nat.reduceEqDiff, Nat.reduceSub, ne_eq, not_false_eq_true, Option.map, Option.bind, get_off, get_off0, set_off, set_off0, List.append_assoc, List.cons_append, List.nil_append, List.length_append, List.length_cons, List.length_nil, Nat.zero_add, Nat.add_zero, Nat.add_assoc, Nat.reduceAdd, List.set_cons_zero, List.set_cons_succ, List.getElem?_cons_zero, List.getElem?_cons_succ, Option.bind_some, Nat.reduceLeDiff, Nat.reduceLT, maxLen, slOut, optI, Int.reduceSub, Int.sub_zero, Nat.zero_mul, if_pos, if_neg, w64, wu8, ↓condK_pos, ↓condK_neg, ↓gdK_pt, ↓gdK_nt, ↓gdK_pf, ↓gdK_nf, decide_eq_true_eq, cellsL, Value.cells, fillL, setAt, decide_true, decide_false, one_int, one_bool, one_string, one_slice, one_pointer, one_ptr, one_iface, one_nili, nat0, flat, slc, List.all_cons, List.all_nil, Bool.and_true, Bool.true_and, Bool.not_true, Bool.not_false, and_true, true_and, and_self, Nat.le_refl, List.take_succ_cons, List.take_zero, List.drop_succ_cons, List.drop_zero, Int.toNat_natCast, Int.reduceToNat, Nat.mul_one, List.take_nil, List.drop_nil, Int.reduceLE, Int.reduceAdd, Int.reduceLT, e2, e7, e8, Int.tmod_eq_emod_of_nonneg, hbk, hcell, ← hst]
      exact ⟨l.length - (i + 1), by omega, i + 1, _, rfl, rfl, by omega, by simp (maxSteps := 1000000) (implicitDefEqProofs := false) only [go_sem, Bool.false_eq_true, slc, aop, abin, aun, intB, ↓reduceIte, Nat.reduceEqDiff, Nat.reduceSub, ne_eq, not_false_eq_true, Option.map, Option.bind, e2], by simp (maxSteps := 1000000) (implicitDefEqProofs := false) only [go_sem, Bool.false_eq_true, slc, aop, abin, aun, intB, ↓reduceIte, Nat.reduceEqDiff, Nat.reduceSub, ne_eq, not_false_eq_true, Option.map, Option.bind], by simp (maxSteps := 1000000) (implicitDefEqProofs := false) only [go_sem, Bool.false_eq_true, slc, aop, abin, aun, intB, ↓reduceIte, Nat.reduceEqDiff, Nat.reduceSub, ne_eq, not_false_eq_true, Option.map, Option.bind]; rfl⟩
    · have hin : i = l.length := by omega
      subst hin
      rw [List.take_length] at e7
      simp (maxSteps := 1000000) (implicitDefEqProofs := false) (disch := omega) only [go_sem, Bool.false_eq_true, slc, aop, abin, aun, intB, ↓reduceIte, Nat.reduceEqDiff, Nat.reduceSub, ne_eq, not_false_eq_true, Option.map, Option.bind, get_off, get_off0, set_off, set_off0, List.append_assoc, List.cons_append, List.nil_append, List.length_append, List.length_cons, List.length_nil, Nat.zero_add, Nat.add_zero, Nat.add_assoc, Nat.reduceAdd, List.set_cons_zero, List.set_cons_succ, List.getElem?_cons_zero, List.getElem?_cons_succ, Option.bind_some, Nat.reduceLeDiff, Nat.reduceLT, maxLen, slOut, optI, Int.reduceSub, Int.sub_zero, Nat.zero_mul, if_pos, if_neg, w64, wu8, ↓condK_pos, ↓condK_neg, ↓gdK_pt, ↓gdK_nt, ↓gdK_pf, ↓gdK_nf, decide_eq_true_eq, cellsL, Value.cells, fillL, setAt, decide_true, decide_false, one_int, one_bool, one_string, one_slice, one_pointer, one_ptr, one_iface, one_nili, nat0, flat, slc, List.all_cons, List.all_nil, Bool.and_true, Bool.true_and, Bool.not_true, Bool.not_false, and_true, true_and, and_self, Nat.le_refl, List.take_succ_cons, List.take_zero, List.drop_succ_cons, List.drop_zero, Int.toNat_natCast, Int.reduceToNat, Nat.mul_one, List.take_nil, List.drop_nil, Int.reduceLE, Int.reduceAdd, Int.reduceLT, e2, e7, e8]
      exact ⟨by simp, done_as (by simp [rres, rresL, rres1, put_at]) rfl⟩
  · cases hs
theorem tagI_ok : Ok Try.prog 63 tag_sp := by
  refine ok_quiet (OkΓ.nil _) Try.func63 (by kernel_rfl) k63 tag_fr ?_
  intro lo args h r h' hs
  unfold tag_sp at hs; split at hs
  · rename_i k s v
    obtain ⟨l, hl, hs⟩ := Option.bind_eq_some_iff.1 hs
    split at hs <;> cases hs
    rename_i hcond
    obtain ⟨⟨h1, h2, h3, h4⟩, h5⟩ := hcond
    obtain ⟨a, c, rfl, hb, hc⟩ := rdU_spec hl
    clear hs
    (dsimp only [c63]; simp (maxSteps := 1000000) (implicitDefEqProofs := false) (disch := omega) only [go_sem, Bool.false_eq_true, slc, aop, abin, aun, intB, ↓reduceIte, Nat.reduceEqDiff, Nat.reduceSub, ne_eq, not_false_eq_true, Option.map, Option.bind, get_off, get_off0, set_off, set_off0, List.append_assoc, List.cons_append, List.nil_append, List.length_append, List.length_cons, List.length_nil, Nat.zero_add, Nat.add_zero, Nat.add_assoc, Nat.reduceAdd, List.set_cons_zero, List.set_cons_succ, List.getElem?_cons_zero, List.getElem?_cons_succ, Option.bind_some, Nat.reduceLeDiff, Nat.reduceLT, maxLen, slOut, optI, Int.reduceSub, Int.sub_zero, Nat.zero_mul, if_pos, if_neg, w64, wu8, ↓condK_pos, ↓condK_neg, ↓gdK_pt, ↓gdK_nt, ↓gdK_pf, ↓gdK_nf, decide_eq_true_eq, cellsL, Value.cells, fillL, setAt, decide_true, decide_false, one_int, one_bool, one_string, one_slice, one_pointer, one_ptr, one_iface, one_nili, nat0, flat, slc, List.all_cons, List.all_nil, Bool.and_true, Bool.true_and, Bool.not_true, Bool.not_false, and_true, true_and, and_self, Nat.le_refl, List.take_succ_cons, List.take_zero, List.drop_succ_cons, List.drop_zero, Int.toNat_natCast, Int.reduceToNat, Nat.mul_one, List.take_nil, List.drop_nil, Int.reduceLE, Int.reduceAdd, Int.reduceLT, Int.tmod_eq_emod_of_nonneg])
    refine awp_loop (fun m t => ∃ (i : Nat) (σ : Nat → Value), t = ⟨σ, h⟩ ∧ m = l.length - i ∧ i ≤ l.length ∧ σ 17 = .slice a l.length c ∧ σ 18 = .int .i64 l.length ∧
      σ 7 = .int .i64 (tagL k s (l.take i)) ∧ σ 19 = .int .i64 i) l.length ⟨0, _, rfl, by simp, by simp, by simp (maxSteps := 1000000) (implicitDefEqProofs := false) only [go_sem, Bool.false_eq_true, slc, aop, abin, aun, intB, ↓reduceIte, Nat.reduceEqDiff, Nat.reduceSub, ne_eq, not_false_eq_true, Option.map, Option.bind], by simp (maxSteps := 1000000) (implicitDefEqProofs := false) only [go_sem, Bool.false_eq_true, slc, aop, abin, aun, intB, ↓reduceIte, Nat.reduceEqDiff, Nat.reduceSub, ne_eq, not_false_eq_true, Option.map, Option.bind], by simp (maxSteps := 1000000) (implicitDefEqProofs := false) only [go_sem, Bool.false_eq_true, slc, aop, abin, aun, intB, ↓reduceIte, Nat.reduceEqDiff, Nat.reduceSub, ne_eq, not_false_eq_true, Option.map, Option.bind]; rfl, by simp (maxSteps := 1000000) (implicitDefEqProofs := false) only [go_sem, Bool.false_eq_true, slc, aop, abin, aun, intB, ↓reduceIte, Nat.reduceEqDiff, Nat.reduceSub, ne_eq, not_false_eq_true, Option.map, Option.bind]; rfl⟩ ?_
    intro m t ⟨i, σ, ht, hm, hi, e17, e18, e7, e19⟩
    subst ht
    simp (maxSteps := 1000000) (implicitDefEqProofs := false) (disch := omega) only [go_sem, Bool.false_eq_true, slc, aop, abin, aun, intB, ↓reduceIte, Nat.reduceEqDiff, Nat.reduceSub, ne_eq, not_false_eq_true, Option.map, Option.bind, get_off, get_off0, set_off, set_off0, List.append_assoc, List.cons_append, List.nil_append, List.length_append, List.length_cons, List.length_nil, Nat.zero_add, Nat.add_zero, Nat.add_assoc, Nat.reduceAdd, List.set_cons_zero, List.set_cons_succ, List.getElem?_cons_zero, List.getElem?_cons_succ, Option.bind_some, Nat.reduceLeDiff, Nat.reduceLT, maxLen, slOut, optI, Int.reduceSub, Int.sub_zero, Nat.zero_mul, if_pos, if_neg, w64, wu8, ↓condK_pos, ↓condK_neg, ↓gdK_pt, ↓gdK_nt, ↓gdK_pf, ↓gdK_nf, decide_eq_true_eq, cellsL, Value.cells, fillL, setAt, decide_true, decide_false, one_int, one_bool, one_string, one_slice, one_pointer, one_ptr, one_iface, one_nili, nat0, flat, slc, List.all_cons, List.all_nil, Bool.and_true, Bool.true_and, Bool.not_true, Bool.not_false, and_true, true_and, and_self, Nat.le_refl, List.take_succ_cons, List.take_zero, List.drop_succ_cons, List.drop_zero, Int.toNat_natCast, Int.reduceToNat, Nat.mul_one, List.take_nil, List.drop_nil, Int.reduceLE, Int.reduceAdd, Int.reduceLT, e17, e18, e7, e19]
    refine condK_dec (fun hlt => ?_) (fun hge => ?_)
    · obtain ⟨b, o, e, bs, rfl, hbk, hcell⟩ := hc i (by omega)
      have hbd := tagL_bd k s l i
      have hel : 0 ≤ l.getD i 0 ∧ l.getD i 0 < 256 := by
        have := hb l[i] (by simp); simpa [show i < l.length by omega] using this
      have hst := tag_step k s l i (by omega)
      simp (maxSteps := 1000000) (implicitDefEqProofs := false) (disch := omega) only [go_sem, Bool.false_eq_true, slc, aop, abin, aun, intB, ↓reduceIte, Nat.reduceEqDiff, Nat.reduceSub, ne_eq, not_false_eq_true, Option.map, Option.bind, get_off, get_off0, set_off, set_off0, List.append_assoc, List.cons_append, List.nil_append, List.length_append, List.length_cons, List.length_nil, Nat.zero_add, Nat.add_zero, Nat.add_assoc, Nat.reduceAdd, List.set_cons_zero, List.set_cons_succ, List.getElem?_cons_zero, List.getElem?_cons_succ, Option.bind_some, Nat.reduceLeDiff, Nat.reduceLT, maxLen, slOut, optI, Int.reduceSub, Int.sub_zero, Nat.zero_mul, if_pos, if_neg, w64, wu8, ↓condK_pos, ↓condK_neg, ↓gdK_pt, ↓gdK_nt, ↓gdK_pf, ↓gdK_nf, decide_eq_true_eq, cellsL, Value.cells, fillL, setAt, decide_true, decide_false, one_int, one_bool, one_string, one_slice, one_pointer, one_ptr, one_iface, one_nili, nat0, flat, slc, List.all_cons, List.all_nil, Bool.and_true, Bool.true_and, Bool.not_true, Bool.not_false, and_true, true_and, and_self, Nat.le_refl, List.take_succ_cons, List.take_zero, List.drop_succ_cons, List.drop_zero, Int.toNat_natCast, Int.reduceToNat, Nat.mul_one, List.take_nil, List.drop_nil, Int.reduceLE, Int.reduceAdd, Int.reduceLT, e17, e18, e7, e19, Int.tmod_eq_emod_of_nonneg, hbk, hcell, ← hst]
      exact ⟨l.length - (i + 1), by omega, i + 1, _, rfl, rfl, by omega, by simp (maxSteps := 1000000) (implicitDefEqProofs := false) only [go_sem, Bool.false_eq_true, slc, aop, abin, aun, intB, ↓reduceIte, Nat.reduceEqDiff, Nat.reduceSub, ne_eq, not_false_eq_true, Option.map, Option.bind, e17], by simp (maxSteps := 1000000) (implicitDefEqProofs := false) only [go_sem, Bool.false_eq_true, slc, aop, abin, aun, intB, ↓reduceIte, Nat.reduceEqDiff, Nat.reduceSub, ne_eq, not_false_eq_true, Option.map, Option.bind, e18], by simp (maxSteps := 1000000) (implicitDefEqProofs := false) only [go_sem, Bool.false_eq_true, slc, aop, abin, aun, intB, ↓reduceIte, Nat.reduceEqDiff, Nat.reduceSub, ne_eq, not_false_eq_true, Option.map, Option.bind], by simp (maxSteps := 1000000) (implicitDefEqProofs := false) only [go_sem, Bool.false_eq_true, slc, aop, abin, aun, intB, ↓reduceIte, Nat.reduceEqDiff, Nat.reduceSub, ne_eq, not_false_eq_true, Option.map, Option.bind]; rfl⟩
    · have hin : i = l.length := by omega
      subst hin
      rw [List.take_length] at e7
      simp (maxSteps := 1000000) (implicitDefEqProofs := false) (disch := omega) only [go_sem, Bool.false_eq_true, slc, aop, abin, aun, intB, ↓reduceIte, Nat.reduceEqDiff, Nat.reduceSub, ne_eq, not_false_eq_true, Option.map, Option.bind, get_off, get_off0, set_off, set_off0, List.append_assoc, List.cons_append, List.nil_append, List.length_append, List.length_cons, List.length_nil, Nat.zero_add, Nat.add_zero, Nat.add_assoc, Nat.reduceAdd, List.set_cons_zero, List.set_cons_succ, List.getElem?_cons_zero, List.getElem?_cons_succ, Option.bind_some, Nat.reduceLeDiff, Nat.reduceLT, maxLen, slOut, optI, Int.reduceSub, Int.sub_zero, Nat.zero_mul, if_pos, if_neg, w64, wu8, ↓condK_pos, ↓condK_neg, ↓gdK_pt, ↓gdK_nt, ↓gdK_pf, ↓gdK_nf, decide_eq_true_eq, cellsL, Value.cells, fillL, setAt, decide_true, decide_false, one_int, one_bool, one_string, one_slice, one_pointer, one_ptr, one_iface, one_nili, nat0, flat, slc, List.all_cons, List.all_nil, Bool.and_true, Bool.true_and, Bool.not_true, Bool.not_false, and_true, true_and, and_self, Nat.le_refl, List.take_succ_cons, List.take_zero, List.drop_succ_cons, List.drop_zero, Int.toNat_natCast, Int.reduceToNat, Nat.mul_one, List.take_nil, List.drop_nil, Int.reduceLE, Int.reduceAdd, Int.reduceLT, e17, e18, e7, e19]
      exact ⟨by simp, done_as (by simp [rres, rresL, rres1, put_at]) rfl⟩
  · cases hs
/-! Bytes and those of the stream, bit by bit unlike -/
def xor8 (a b : Int) : Int := ((BitVec.ofInt 8 a ^^^ BitVec.ofInt 8 b).toNat : Int)
theorem xor8_bd (a b : Int) : 0 ≤ xor8 a b ∧ xor8 a b < 256 := by unfold xor8; omega
def mixW (S l : List Int) : List Int := List.zipWith xor8 S l
def mixL (k s : Int) (l : List Int) : List Int := mixW (streamL (st0 k s) l.length) l
theorem mixL_len (k s : Int) (l : List Int) : (mixL k s l).length = l.length := by simp [mixL, mixW, streamL_len]
theorem mixL_bd (k s : Int) (l : List Int) : ∀ x ∈ mixL k s l, 0 ≤ x ∧ x < 256 := by
  intro x hx
  obtain ⟨i, hi, rfl⟩ := List.mem_iff_getElem.1 hx
  simp only [mixL, mixW, List.getElem_zipWith]; exact xor8_bd _ _
def mixC (S l : List Int) (i : Nat) : List Int := (mixW S l).take i ++ S.drop i
theorem mixC_len (S l : List Int) (i : Nat) (h : S.length = l.length) (hi : i ≤ l.length) : (mixC S l i).length = l.length := by simp [mixC, mixW]; omega
theorem mixC_get (S l : List Int) (i : Nat) (h : S.length = l.length) (hi : i < l.length) : (u8s (mixC S l i))[i]? = some (.int .u8 (S.getD i 0)) := by
  rw [u8s_get _ _ (by rw [mixC_len S l i h (by omega)]; exact hi)]
  congr 2
  simp only [mixC, List.getD_eq_getElem?_getD]
  rw [List.getElem?_append_right (by simp [mixW]; omega)]
  simp only [mixW, List.length_take, List.length_zipWith, List.getElem?_drop]
  congr 2; omega
theorem mixC_step (S l : List Int) (i : Nat) (h : S.length = l.length) (hi : i < l.length) : (u8s (mixC S l i)).set i (.int .u8 (xor8 (S.getD i 0) (l.getD i 0))) = u8s (mixC S l (i + 1)) := by
  simp only [u8s]
  rw [← List.map_set]
  congr 1
  simp only [mixC]
  have hl : ((mixW S l).take i).length = i := by simp [mixW]; omega
  rw [List.set_append_right _ _ (by omega), hl, Nat.sub_self]
  have hd : S.drop i = S[i]'(by omega) :: S.drop (i + 1) := List.drop_eq_getElem_cons (by omega)
  rw [hd, List.set_cons_zero, List.take_succ_eq_append_getElem (by simp [mixW]; omega), List.append_assoc]
  simp [mixW, h, hi]
def mix_sp : Sp := fun _ args h => match args with
  | [.int .i64 k, .int .i64 s, v] => (rdU h v).bind fun l => if askB k s ∧ l.length ≤ 500 then some (slc h.length 0 l.length, h ++ [.cells 5 (u8s (mixL k s l))]) else none
  | _ => none
theorem mix_fr : ∀ lo args h r h', mix_sp lo args h = some (r, h') → Fr h.length h h' := by
  intro lo args h r h' hs
  unfold mix_sp at hs; split at hs
  · obtain ⟨l, _, hs⟩ := Option.bind_eq_some_iff.1 hs
    split at hs <;> cases hs; exact Fr.push (Nat.le_refl _) _
  · cases hs
theorem mixS_ok : Ok Try.prog 79 mix_sp := by
  refine ok_quiet (OkΓ.cons streamS_ok (OkΓ.nil _)) Try.func79 (by kernel_rfl) k79 mix_fr ?_
  intro lo args h r h' hs
  unfold mix_sp at hs; split at hs
  · rename_i k s v
    obtain ⟨l, hl, hs⟩ := Option.bind_eq_some_iff.1 hs
    split at hs <;> cases hs
    rename_i hcond
    obtain ⟨h1, h5⟩ := hcond
    obtain ⟨a, c, rfl, hb, hc⟩ := rdU_spec hl
    clear hs
    have q2 : (askB k s ∧ 0 ≤ (l.length : Int) ∧ (l.length : Int) ≤ 1000) = True := eq_true ⟨h1, by omega, by omega⟩
    have hSl := streamL_len (st0 k s) l.length
    (dsimp only [c79]; simp (maxSteps := 1000000) (implicitDefEqProofs := false) (disch := omega) only [go_sem, Bool.false_eq_true, slc, aop, abin, aun, intB, ↓reduceIte, Nat.reduceEqDiff, Nat.reduceSub, ne_eq, not_false_eq_true, Option.map, Option.bind, get_off, get_off0, set_off, set_off0, List.append_assoc, List.cons_append, List.nil_append, List.length_append, List.length_cons, List.length_nil, Nat.zero_add, Nat.add_zero, Nat.add_assoc, Nat.reduceAdd, List.set_cons_zero, List.set_cons_succ, List.getElem?_cons_zero, List.getElem?_cons_succ, Option.bind_some, Nat.reduceLeDiff, Nat.reduceLT, maxLen, slOut, optI, Int.reduceSub, Int.sub_zero, Nat.zero_mul, if_pos, if_neg, w64, wu8, ↓condK_pos, ↓condK_neg, ↓gdK_pt, ↓gdK_nt, ↓gdK_pf, ↓gdK_nf, decide_eq_true_eq, cellsL, Value.cells, fillL, setAt, decide_true, decide_false, one_int, one_bool, one_string, one_slice, one_pointer, one_ptr, one_iface, one_nili, nat0, flat, slc, List.all_cons, List.all_nil, Bool.and_true, Bool.true_and, Bool.not_true, Bool.not_false, and_true, true_and, and_self, Nat.le_refl, List.take_succ_cons, List.take_zero, List.drop_succ_cons, List.drop_zero, Int.toNat_natCast, Int.reduceToNat, Nat.mul_one, List.take_nil, List.drop_nil, Int.reduceLE, Int.reduceAdd, Int.reduceLT, stream_sp, q2])
    refine awp_loop (fun m t => ∃ (i : Nat) (σ : Nat → Value), t = ⟨σ, h ++ [.cells 5 (u8s (mixC (streamL (st0 k s) l.length) l i))]⟩ ∧ m = l.length - i ∧ i ≤ l.length ∧ σ 2 = .slice a l.length c ∧
      σ 7 = slc h.length 0 l.length ∧ σ 8 = .int .i64 i) l.length ⟨0, _, by simp only [mixC, List.take_zero, List.drop_zero, List.nil_append]; rfl, by simp, by simp, by simp (maxSteps := 1000000) (implicitDefEqProofs := false) only [go_sem, Bool.false_eq_true, slc, aop, abin, aun, intB, ↓reduceIte, Nat.reduceEqDiff, Nat.reduceSub, ne_eq, not_false_eq_true, Option.map, Option.bind], by simp (maxSteps := 1000000) (implicitDefEqProofs := false) only [go_sem, Bool.false_eq_true, slc, aop, abin, aun, intB, ↓reduceIte, Nat.reduceEqDiff, Nat.reduceSub, ne_eq, not_false_eq_true, Option.map, Option.bind], by simp (maxSteps := 1000000) (implicitDefEqProofs := false) only [go_sem, Bool.false_eq_true, slc, aop, abin, aun, intB, ↓reduceIte, Nat.reduceEqDiff, Nat.reduceSub, ne_eq, not_false_eq_true, Option.map, Option.bind]; rfl⟩ ?_
    intro m t ⟨i, σ, ht, hm, hi, e2, e7, e8⟩
    subst ht
    simp (maxSteps := 1000000) (implicitDefEqProofs := false) (disch := omega) only [go_sem, Bool.false_eq_true, slc, aop, abin, aun, intB, ↓reduceIte, Nat.reduceEqDiff, Nat.reduceSub, ne_eq, not_false_eq_true, Option.map, Option.bind, get_off, get_off0, set_off, set_off0, List.append_assoc, List.cons_append, List.nil_append, List.length_append, List.length_cons, List.length_nil, Nat.zero_add, Nat.add_zero, Nat.add_assoc, Nat.reduceAdd, List.set_cons_zero, List.set_cons_succ, List.getElem?_cons_zero, List.getElem?_cons_succ, Option.bind_some, Nat.reduceLeDiff, Nat.reduceLT, maxLen, slOut, optI, Int.reduceSub, Int.sub_zero, Nat.zero_mul, if_pos, if_neg, w64, wu8, ↓condK_pos, ↓condK_neg, ↓gdK_pt, ↓gdK_nt, ↓gdK_pf, ↓gdK_nf, decide_eq_true_eq, cellsL, Value.cells, fillL, setAt, decide_true, decide_false, one_int, one_bool, one_string, one_slice, one_pointer, one_ptr, one_iface, one_nili, nat0, flat, slc, List.all_cons, List.all_nil, Bool.and_true, Bool.true_and, Bool.not_true, Bool.not_false, and_true, true_and, and_self, Nat.le_refl, List.take_succ_cons, List.take_zero, List.drop_succ_cons, List.drop_zero, Int.toNat_natCast, Int.reduceToNat, Nat.mul_one, List.take_nil, List.drop_nil, Int.reduceLE, Int.reduceAdd, Int.reduceLT, e2, e7, e8]
    refine condK_dec (fun hlt => ?_) (fun hge => ?_)
    · obtain ⟨b, o, e, bs, rfl, hbk, hcell⟩ := hc i (by omega)
      have hbk' := fun L => get_app hbk L
      have hg := mixC_get _ l i hSl (by omega)
      have hst := mixC_step _ l i hSl (by omega)
      have hlen : (u8s (mixC (streamL (st0 k s) l.length) l i)).length = l.length := by rw [u8s_len, mixC_len _ _ _ hSl (by omega)]
      have hx : ((BitVec.ofInt 8 ((streamL (st0 k s) l.length).getD i 0) ^^^ BitVec.ofInt 8 (l.getD i 0)).toNat : Int) = xor8 ((streamL (st0 k s) l.length).getD i 0) (l.getD i 0) := rfl
      simp (maxSteps := 1000000) (implicitDefEqProofs := false) (disch := omega) only [go_sem, Bool.false_eq_true, slc, aop, abin, aun, intB, ↓reduceIte, Nat.reduceEqDiff, Nat.reduceSub, ne_eq, not_false_eq_true, Option.map, Option.bind, get_off, get_off0, set_off, set_off0, List.append_assoc, List.cons_append, List.nil_append, List.length_append, List.length_cons, List.length_nil, Nat.zero_add, Nat.add_zero, Nat.add_assoc, Nat.reduceAdd, List.set_cons_zero, List.set_cons_succ, List.getElem?_cons_zero, List.getElem?_cons_succ, Option.bind_some, Nat.reduceLeDiff, Nat.reduceLT, maxLen, slOut, optI, Int.reduceSub, Int.sub_zero, Nat.zero_mul, if_pos, if_neg, w64, wu8, ↓condK_pos, ↓condK_neg, ↓gdK_pt, ↓gdK_nt, ↓gdK_pf, ↓gdK_nf, decide_eq_true_eq, cellsL, Value.cells, fillL, setAt, decide_true, decide_false, one_int, one_bool, one_string, one_slice, one_pointer, one_ptr, one_iface, one_nili, nat0, flat, slc, List.all_cons, List.all_nil, Bool.and_true, Bool.true_and, Bool.not_true, Bool.not_false, and_true, true_and, and_self, Nat.le_refl, List.take_succ_cons, List.take_zero, List.drop_succ_cons, List.drop_zero, Int.toNat_natCast, Int.reduceToNat, Nat.mul_one, List.take_nil, List.drop_nil, Int.reduceLE, Int.reduceAdd, Int.reduceLT, e2, e7, e8, hbk', hcell, hg, hlen]
      exact ⟨l.length - (i + 1), by omega, i + 1, _, by rw [← hst]; rfl, rfl, by omega, by simp (maxSteps := 1000000) (implicitDefEqProofs := false) only [go_sem, Bool.false_eq_true, slc, aop, abin, aun, intB, ↓reduceIte, Nat.reduceEqDiff, Nat.reduceSub, ne_eq, not_false_eq_true, Option.map, Option.bind, e2], by simp (maxSteps := 1000000) (implicitDefEqProofs := false) only [go_sem, Bool.false_eq_true, slc, aop, abin, aun, intB, ↓reduceIte, Nat.reduceEqDiff, Nat.reduceSub, ne_eq, not_false_eq_true, Option.map, Option.bind, e7], by simp (maxSteps := 1000000) (implicitDefEqProofs := false) only [go_sem, Bool.false_eq_true, slc, aop, abin, aun, intB, ↓reduceIte, Nat.reduceEqDiff, Nat.reduceSub, ne_eq, not_false_eq_true, Option.map, Option.bind]; rfl⟩
    · have hin : i = l.length := by omega
      subst hin
      have hfin : mixC (streamL (st0 k s) l.length) l l.length = mixL k s l := by
        simp only [mixC, mixL, mixW]
        rw [List.drop_eq_nil_of_le (by omega), List.append_nil, List.take_of_length_le (by simp; omega)]
      simp (maxSteps := 1000000) (implicitDefEqProofs := false) (disch := omega) only [go_sem, Bool.false_eq_true, slc, aop, abin, aun, intB, ↓reduceIte, Nat.reduceEqDiff, Nat.reduceSub, ne_eq, not_false_eq_true, Option.map, Option.bind, get_off, get_off0, set_off, set_off0, List.append_assoc, List.cons_append, List.nil_append, List.length_append, List.length_cons, List.length_nil, Nat.zero_add, Nat.add_zero, Nat.add_assoc, Nat.reduceAdd, List.set_cons_zero, List.set_cons_succ, List.getElem?_cons_zero, List.getElem?_cons_succ, Option.bind_some, Nat.reduceLeDiff, Nat.reduceLT, maxLen, slOut, optI, Int.reduceSub, Int.sub_zero, Nat.zero_mul, if_pos, if_neg, w64, wu8, ↓condK_pos, ↓condK_neg, ↓gdK_pt, ↓gdK_nt, ↓gdK_pf, ↓gdK_nf, decide_eq_true_eq, cellsL, Value.cells, fillL, setAt, decide_true, decide_false, one_int, one_bool, one_string, one_slice, one_pointer, one_ptr, one_iface, one_nili, nat0, flat, slc, List.all_cons, List.all_nil, Bool.and_true, Bool.true_and, Bool.not_true, Bool.not_false, and_true, true_and, and_self, Nat.le_refl, List.take_succ_cons, List.take_zero, List.drop_succ_cons, List.drop_zero, Int.toNat_natCast, Int.reduceToNat, Nat.mul_one, List.take_nil, List.drop_nil, Int.reduceLE, Int.reduceAdd, Int.reduceLT, e2, e7, e8, hfin]
      exact ⟨by simp, done_as (by simp [rres, rresL, rres1, put_at]) rfl⟩
  · cases hs
theorem mixI_ok : Ok Try.prog 81 mix_sp := by
  refine ok_quiet (OkΓ.cons streamI_ok (OkΓ.nil _)) Try.func81 (by kernel_rfl) k81 mix_fr ?_
  intro lo args h r h' hs
  unfold mix_sp at hs; split at hs
  · rename_i k s v
    obtain ⟨l, hl, hs⟩ := Option.bind_eq_some_iff.1 hs
    split at hs <;> cases hs
    rename_i hcond
    obtain ⟨h1, h5⟩ := hcond
    obtain ⟨a, c, rfl, hb, hc⟩ := rdU_spec hl
    clear hs
    have q2 : (askB k s ∧ 0 ≤ (l.length : Int) ∧ (l.length : Int) ≤ 1000) = True := eq_true ⟨h1, by omega, by omega⟩
    have hSl := streamL_len (st0 k s) l.length
    (dsimp only [c81]; simp (maxSteps := 1000000) (implicitDefEqProofs := false) (disch := omega) only [go_sem, Bool.false_eq_true, slc, aop, abin, aun, intB, ↓reduceIte, Nat.reduceEqDiff, Nat.reduceSub, ne_eq, not_false_eq_true, Option.map, Option.bind, get_off, get_off0, set_off, set_off0, List.append_assoc, List.cons_append, List.nil_append, List.length_append, List.length_cons, List.length_nil, Nat.zero_add, Nat.add_zero, Nat.add_assoc, Nat.reduceAdd, List.set_cons_zero, List.set_cons_succ, List.getElem?_cons_zero, List.getElem?_cons_succ, Option.bind_some, Nat.reduceLeDiff, Nat.reduceLT, maxLen, slOut, optI, Int.reduceSub, Int.sub_zero, Nat.zero_mul, if_pos, if_neg, w64, wu8, ↓condK_pos, ↓condK_neg, ↓gdK_pt, ↓gdK_nt, ↓gdK_pf, ↓gdK_nf, decide_eq_true_eq, cellsL, Value.cells, fillL, setAt, decide_true, decide_false, one_int, one_bool, one_string, one_slice, one_pointer, one_ptr, one_iface, one_nili, nat0, flat, slc, List.all_cons, List.all_nil, Bool.and_true, Bool.true_and, Bool.not_true, Bool.not_false, and_true, true_and, and_self, Nat.le_refl, List.take_succ_cons, List.take_zero, List.drop_succ_cons, List.drop_zero, Int.toNat_natCast, Int.reduceToNat, Nat.mul_one, List.take_nil, List.drop_nil, Int.reduceLE, Int.reduceAdd, Int.reduceLT, stream_sp, q2])
    refine awp_loop (fun m t => ∃ (i : Nat) (σ : Nat → Value), t = ⟨σ, h ++ [.cells 5 (u8s (mixC (streamL (st0 k s) l.length) l i))]⟩ ∧ m = l.length - i ∧ i ≤ l.length ∧ σ 15 = .slice a l.length c ∧ σ 16 = .int .i64 l.length ∧
      σ 7 = slc h.length 0 l.length ∧ σ 17 = .int .i64 i) l.length ⟨0, _, by simp only [mixC, List.take_zero, List.drop_zero, List.nil_append]; rfl, by simp, by simp, by simp (maxSteps := 1000000) (implicitDefEqProofs := false) only [go_sem, Bool.false_eq_true, slc, aop, abin, aun, intB, ↓reduceIte, Nat.reduceEqDiff, Nat.reduceSub, ne_eq, not_false_eq_true, Option.map, Option.bind], by simp (maxSteps := 1000000) (implicitDefEqProofs := false) only [go_sem, Bool.false_eq_true, slc, aop, abin, aun, intB, ↓reduceIte, Nat.reduceEqDiff, Nat.reduceSub, ne_eq, not_false_eq_true, Option.map, Option.bind], by simp (maxSteps := 1000000) (implicitDefEqProofs := false) only [go_sem, Bool.false_eq_true, slc, aop, abin, aun, intB, ↓reduceIte, Nat.reduceEqDiff, Nat.reduceSub, ne_eq, not_false_eq_true, Option.map, Option.bind], by simp (maxSteps := 1000000) (implicitDefEqProofs := false) only [go_sem, Bool.false_eq_true, slc, aop, abin, aun, intB, ↓reduceIte, Nat.reduceEqDiff, Nat.reduceSub, ne_eq, not_false_eq_true, Option.map, Option.bind]; rfl⟩ ?_
    intro m t ⟨i, σ, ht, hm, hi, e15, e16, e7, e17⟩
    subst ht
    simp (maxSteps := 1000000) (implicitDefEqProofs := false) (disch := omega) only [go_sem, Bool.false_eq_true, slc, aop, abin, aun, intB, ↓reduceIte, Nat.reduceEqDiff, Nat.reduceSub, ne_eq, not_false_eq_true, Option.map, Option.bind, get_off, get_off0, set_off, set_off0, List.append_assoc, List.cons_append, List.nil_append, List.length_append, List.length_cons, List.length_nil, Nat.zero_add, Nat.add_zero, Nat.add_assoc, Nat.reduceAdd, List.set_cons_zero, List.set_cons_succ, List.getElem?_cons_zero, List.getElem?_cons_succ, Option.bind_some, Nat.reduceLeDiff, Nat.reduceLT, maxLen, slOut, optI, Int.reduceSub, Int.sub_zero, Nat.zero_mul, if_pos, if_neg, w64, wu8, ↓condK_pos, ↓condK_neg, ↓gdK_pt, ↓gdK_nt, ↓gdK_pf, ↓gdK_nf, decide_eq_true_eq, cellsL, Value.cells, fillL, setAt, decide_true, decide_false, one_int, one_bool, one_string, one_slice, one_pointer, one_ptr, one_iface, one_nili, nat0, flat, slc, List.all_cons, List.all_nil, Bool.and_true, Bool.true_and, Bool.not_true, Bool.not_false, and_true, true_and, and_self, Nat.le_refl, List.take_succ_cons, List.take_zero, List.drop_succ_cons, List.drop_zero, Int.toNat_natCast, Int.reduceToNat, Nat.mul_one, List.take_nil, List.drop_nil, Int.reduceLE, Int.reduceAdd, Int.reduceLT, e15, e16, e7, e17]
    refine condK_dec (fun hlt => ?_) (fun hge => ?_)
    · obtain ⟨b, o, e, bs, rfl, hbk, hcell⟩ := hc i (by omega)
      have hbk' := fun L => get_app hbk L
      have hg := mixC_get _ l i hSl (by omega)
      have hst := mixC_step _ l i hSl (by omega)
      have hlen : (u8s (mixC (streamL (st0 k s) l.length) l i)).length = l.length := by rw [u8s_len, mixC_len _ _ _ hSl (by omega)]
      have hx : ((BitVec.ofInt 8 ((streamL (st0 k s) l.length).getD i 0) ^^^ BitVec.ofInt 8 (l.getD i 0)).toNat : Int) = xor8 ((streamL (st0 k s) l.length).getD i 0) (l.getD i 0) := rfl
      simp (maxSteps := 1000000) (implicitDefEqProofs := false) (disch := omega) only [go_sem, Bool.false_eq_true, slc, aop, abin, aun, intB, ↓reduceIte, Nat.reduceEqDiff, Nat.reduceSub, ne_eq, not_false_eq_true, Option.map, Option.bind, get_off, get_off0, set_off, set_off0, List.append_assoc, List.cons_append, List.nil_append, List.length_append, List.length_cons, List.length_nil, Nat.zero_add, Nat.add_zero, Nat.add_assoc, Nat.reduceAdd, List.set_cons_zero, List.set_cons_succ, List.getElem?_cons_zero, List.getElem?_cons_succ, Option.bind_some, Nat.reduceLeDiff, Nat.reduceLT, maxLen, slOut, optI, Int.reduceSub, Int.sub_zero, Nat.zero_mul, if_pos, if_neg, w64, wu8, ↓condK_pos, ↓condK_neg, ↓gdK_pt, ↓gdK_nt, ↓gdK_pf, ↓gdK_nf, decide_eq_true_eq, cellsL, Value.cells, fillL, setAt, decide_true, decide_false, one_int, one_bool, one_string, one_slice, one_pointer, one_ptr, one_iface, one_nili, nat0, flat, slc, List.all_cons, List.all_nil, Bool.and_true, Bool.true_and, Bool.not_true, Bool.not_false, and_true, true_and, and_self, Nat.le_refl, List.take_succ_cons, List.take_zero, List.drop_succ_cons, List.drop_zero, Int.toNat_natCast, Int.reduceToNat, Nat.mul_one, List.take_nil, List.drop_nil, Int.reduceLE, Int.reduceAdd, Int.reduceLT, e15, e16, e7, e17, hbk', hcell, hg, hlen]
      exact ⟨l.length - (i + 1), by omega, i + 1, _, by rw [← hst]; rfl, rfl, by omega, by simp (maxSteps := 1000000) (implicitDefEqProofs := false) only [go_sem, Bool.false_eq_true, slc, aop, abin, aun, intB, ↓reduceIte, Nat.reduceEqDiff, Nat.reduceSub, ne_eq, not_false_eq_true, Option.map, Option.bind, e15], by simp (maxSteps := 1000000) (implicitDefEqProofs := false) only [go_sem, Bool.false_eq_true, slc, aop, abin, aun, intB, ↓reduceIte, Nat.reduceEqDiff, Nat.reduceSub, ne_eq, not_false_eq_true, Option.map, Option.bind, e16], by simp (maxSteps := 1000000) (implicitDefEqProofs := false) only [go_sem, Bool.false_eq_true, slc, aop, abin, aun, intB, ↓reduceIte, Nat.reduceEqDiff, Nat.reduceSub, ne_eq, not_false_eq_true, Option.map, Option.bind, e7], by simp (maxSteps := 1000000) (implicitDefEqProofs := false) only [go_sem, Bool.false_eq_true, slc, aop, abin, aun, intB, ↓reduceIte, Nat.reduceEqDiff, Nat.reduceSub, ne_eq, not_false_eq_true, Option.map, Option.bind]; rfl⟩
    · have hin : i = l.length := by omega
      subst hin
      have hfin : mixC (streamL (st0 k s) l.length) l l.length = mixL k s l := by
        simp only [mixC, mixL, mixW]
        rw [List.drop_eq_nil_of_le (by omega), List.append_nil, List.take_of_length_le (by simp; omega)]
      simp (maxSteps := 1000000) (implicitDefEqProofs := false) (disch := omega) only [go_sem, Bool.false_eq_true, slc, aop, abin, aun, intB, ↓reduceIte, Nat.reduceEqDiff, Nat.reduceSub, ne_eq, not_false_eq_true, Option.map, Option.bind, get_off, get_off0, set_off, set_off0, List.append_assoc, List.cons_append, List.nil_append, List.length_append, List.length_cons, List.length_nil, Nat.zero_add, Nat.add_zero, Nat.add_assoc, Nat.reduceAdd, List.set_cons_zero, List.set_cons_succ, List.getElem?_cons_zero, List.getElem?_cons_succ, Option.bind_some, Nat.reduceLeDiff, Nat.reduceLT, maxLen, slOut, optI, Int.reduceSub, Int.sub_zero, Nat.zero_mul, if_pos, if_neg, w64, wu8, ↓condK_pos, ↓condK_neg, ↓gdK_pt, ↓gdK_nt, ↓gdK_pf, ↓gdK_nf, decide_eq_true_eq, cellsL, Value.cells, fillL, setAt, decide_true, decide_false, one_int, one_bool, one_string, one_slice, one_pointer, one_ptr, one_iface, one_nili, nat0, flat, slc, List.all_cons, List.all_nil, Bool.and_true, Bool.true_and, Bool.not_true, Bool.not_false, and_true, true_and, and_self, Nat.le_refl, List.take_succ_cons, List.take_zero, List.drop_succ_cons, List.drop_zero, Int.toNat_natCast, Int.reduceToNat, Nat.mul_one, List.take_nil, List.drop_nil, Int.reduceLE, Int.reduceAdd, Int.reduceLT, e15, e16, e7, e17, hfin]
      exact ⟨by simp, done_as (by simp [rres, rresL, rres1, put_at]) rfl⟩
  · cases hs
end Go.Proofs.Ytpndkgpkakhbmaa
