import Derived.Test.YtpndkgpkakhbmaaB9
set_option linter.unusedSimpArgs false
set_option linter.unusedVariables false
set_option maxRecDepth 100000
namespace Go.Proofs.Ytpndkgpkakhbmaa
open Go Go.AH
attribute [local go_sem ↓] awp_skip awp_ret awp_exit awp_seq awp_reg awp_drw awp_cond awp_block seqK_normal seqK_ret seqK_exit blkK_normal blkK_ret loopK_normal loopK_ret loopK_exit rops_nil qops_nil rops_op rops_op0 rops_opg qops_op qops_op0 qops_opg gdK_tt gdK_ff gdK_tf gdK_ft kont_some condK_true condK_false
attribute [local go_sem] tag_eq blkK_exit put_at argσ_nil argσ_cons ev_t ev_v ctx_get getB_bool getI_int getP_ptr Option.map_some Option.bind_some List.map_cons List.map_nil
attribute [local congr] kont_cong condK_cong gdK_cong awp_cong rops_cong qops_cong
theorem done_set {h L : Heap} {res : List AR} {σ : Nat → Value} {b : Nat} {x : Blk} {r : Value} (hr : rres ⟨σ, h.set b x ++ L⟩ res = some r) (hf : flat r = true) (hx : ∀ u, mapB u x = x) (hb : b < h.length) :
    Done h res r (h.set b x) ⟨σ, h.set b x ++ L⟩ := by
  refine .inr ⟨r, [], hr, by simp, by simp, by simp, (mapV_flat _ hf).symm, by simp, ?_⟩
  intro b' hb'
  have e : (h.set b x ++ L)[b']? = (h.set b x)[b']? := List.getElem?_append_left (by simpa using hb')
  by_cases hbb : b' = b
  · subst hbb
    right
    refine ⟨x, List.getElem?_set_self hb, ?_⟩
    rw [hx]; show (h.set b' x ++ L)[b']? = _
    rw [e]; exact List.getElem?_set_self hb
  · left
    have e2 : (h.set b x)[b']? = h[b']? := List.getElem?_set_ne (fun y => hbb y.symm)
    exact ⟨e2, e.trans e2⟩
theorem mapB_u8s (u : Nat → Nat) (e : TypeId) (l : List Int) : mapB u (.cells e (u8s l)) = .cells e (u8s l) := by
  show Blk.cells e (mapVs u (u8s l)) = _
  rw [show u8s l = l.map (.int .u8) from rfl, mapVs_ints]
theorem mk_app {h L : Heap} {lo : Nat} {s v : Value} {k : Value} {h' : Heap} (hm : mkB_sp lo [s, k] h = some (v, h')) : mkB_sp lo [s, k] (h ++ L) = some (v, h' ++ L) := by
  unfold mkB_sp at hm ⊢
  split at hm
  · cases hm; rename_i heq; cases heq; rfl
  · cases hm; rename_i heq; cases heq; rfl
  · rename_i heq; cases heq
    split at hm
    · rename_i hb
      split at hm
      · rename_i hc
        cases hm
        simp only [get_app hb L, if_pos hc]
        rw [List.set_append_left _ _ (get_lt hb)]
      · cases hm
    · cases hm
  · cases hm
theorem mk_shape {h : Heap} {lo : Nat} {s v : Value} {k : Int} {h' : Heap} (hm : mkB_sp lo [s, .int .i64 k] h = some (v, h')) :
    ∃ n : Int, v = .int .i64 n ∧ (h' = h ∨ ∃ b l, b < h.length ∧ h' = h.set b (.cells 5 (u8s l))) := by
  unfold mkB_sp at hm
  split at hm
  · rename_i heq; cases heq; cases hm; exact ⟨_, rfl, .inl rfl⟩
  · rename_i heq; cases heq; cases hm; exact ⟨_, rfl, .inl rfl⟩
  · split at hm
    · rename_i hb
      split at hm
      · rename_i hc
        cases hm
        obtain ⟨_, _, rfl, _⟩ := hc
        exact ⟨_, rfl, .inr ⟨_, _, get_lt hb, rfl⟩⟩
      · cases hm
    · cases hm
  · cases hm
def mkBR_sp : Sp := fun lo args h => match args with
  | [.agg ⟨[.int .i64 _, s]⟩, .int .i64 k] => if one s = true ∧ lo ≤ h.length then mkB_sp lo [s, .int .i64 k] h else none
  | _ => none
theorem mkBR_ok : Ok Try.prog 26 mkBR_sp := by
  refine ok_writes (OkΓ.cons mkB_ok (OkΓ.nil _)) Try.func26 (by kernel_rfl) k26 ?_ ?_
  · intro lo args h r h' hs hlo
    unfold mkBR_sp at hs; split at hs
    · split at hs
      · exact mkB_ok.fr _ _ _ _ _ hs hlo
      · cases hs
    · cases hs
  · intro lo args h r h' hs hlo
    unfold mkBR_sp at hs; split at hs
    · rename_i c s k
      split at hs
      · rename_i hs1
        have hA := fun L => mk_app (L := L) hs
        obtain ⟨n, rfl, hh⟩ := mk_shape hs
        have hs2 := hs1.1
        (dsimp only [c26]; simp (maxSteps := 1000000) (implicitDefEqProofs := false) (disch := omega) only [go_sem, Bool.false_eq_true, slc, aop, abin, aun, intB, ↓reduceIte, Nat.reduceEqDiff, Nat.reduceSub, ne_eq, not_false_eq_true, Option.map, Option.bind, get_off, get_off0, set_off, set_off0, List.append_assoc, List.cons_append, List.nil_append, List.length_append, List.length_cons, List.length_nil, Nat.zero_add, Nat.add_zero, Nat.add_assoc, Nat.reduceAdd, List.set_cons_zero, List.set_cons_succ, List.getElem?_cons_zero, List.getElem?_cons_succ, Option.bind_some, Nat.reduceLeDiff, Nat.reduceLT, maxLen, slOut, optI, Int.reduceSub, Int.sub_zero, Nat.zero_mul, if_pos, if_neg, w64, wu8, ↓condK_pos, ↓condK_neg, ↓gdK_pt, ↓gdK_nt, ↓gdK_pf, ↓gdK_nf, decide_eq_true_eq, cellsL, Value.cells, fillL, setAt, decide_true, decide_false, one_int, one_bool, one_string, one_slice, one_pointer, one_ptr, one_iface, one_nili, nat0, flat, slc, List.all_cons, List.all_nil, Bool.and_true, Bool.true_and, Bool.not_true, Bool.not_false, and_true, true_and, and_self, Nat.le_refl, List.take_succ_cons, List.take_zero, List.drop_succ_cons, List.drop_zero, Int.toNat_natCast, Int.reduceToNat, Nat.mul_one, List.take_nil, List.drop_nil, Int.reduceLE, Int.reduceAdd, Int.reduceLT, hs2, hA])
        rcases hh with rfl | ⟨b, l, hb, rfl⟩
        · exact ⟨by simp, done_scalar (by simp [rres, rresL, rres1, put_at]) (mapV_flat _ rfl).symm keep_off⟩
        · exact ⟨by simp, done_set (by simp [rres, rresL, rres1, put_at]) rfl (fun u => mapB_u8s u _ _) hb⟩
      · cases hs
    · cases hs
def hdBR_sp : Sp := fun lo args h => match args with
  | [.agg ⟨[.int .i64 _, s]⟩, .int .i64 k] => if one s = true then hdB_sp lo [s, .int .i64 k] h else none
  | _ => none
theorem hd_shape {h : Heap} {lo : Nat} {s v : Value} {k : Int} {h' : Heap} (hm : hdB_sp lo [s, .int .i64 k] h = some (v, h')) :
    ∃ n : Int, 0 ≤ n ∧ v = .int .i64 n ∧ h' = h ∧ ∀ lo' L, hdB_sp lo' [s, .int .i64 k] (h ++ L) = some (.int .i64 n, h ++ L) := by
  unfold hdB_sp at hm
  simp only [] at hm
  obtain ⟨l, hl, hs⟩ := Option.bind_eq_some_iff.1 hm
  split at hs <;> cases hs
  rename_i hc
  refine ⟨_, ?_, rfl, rfl, fun lo' L => ?_⟩
  · omega
  · unfold hdB_sp
    simp only [rdU_app hl, Option.bind_some, if_pos hc]
theorem hdBR_ok : Ok Try.prog 27 hdBR_sp := by
  refine ok_quiet (OkΓ.cons hdB_ok (OkΓ.nil _)) Try.func27 (by kernel_rfl) k27 ?_ ?_
  · intro lo args h r h' hs
    unfold hdBR_sp at hs; split at hs
    · split at hs
      · obtain ⟨n, _, rfl, rfl, _⟩ := hd_shape hs; exact Fr.refl _ _
      · cases hs
    · cases hs
  · intro lo args h r h' hs
    unfold hdBR_sp at hs; split at hs
    · rename_i c s k
      split at hs
      · rename_i hs1
        obtain ⟨n, hn, rfl, rfl, hA⟩ := hd_shape hs
        (dsimp only [c27]; simp (maxSteps := 1000000) (implicitDefEqProofs := false) (disch := omega) only [go_sem, Bool.false_eq_true, slc, aop, abin, aun, intB, ↓reduceIte, Nat.reduceEqDiff, Nat.reduceSub, ne_eq, not_false_eq_true, Option.map, Option.bind, get_off, get_off0, set_off, set_off0, List.append_assoc, List.cons_append, List.nil_append, List.length_append, List.length_cons, List.length_nil, Nat.zero_add, Nat.add_zero, Nat.add_assoc, Nat.reduceAdd, List.set_cons_zero, List.set_cons_succ, List.getElem?_cons_zero, List.getElem?_cons_succ, Option.bind_some, Nat.reduceLeDiff, Nat.reduceLT, maxLen, slOut, optI, Int.reduceSub, Int.sub_zero, Nat.zero_mul, if_pos, if_neg, w64, wu8, ↓condK_pos, ↓condK_neg, ↓gdK_pt, ↓gdK_nt, ↓gdK_pf, ↓gdK_nf, decide_eq_true_eq, cellsL, Value.cells, fillL, setAt, decide_true, decide_false, one_int, one_bool, one_string, one_slice, one_pointer, one_ptr, one_iface, one_nili, nat0, flat, slc, List.all_cons, List.all_nil, Bool.and_true, Bool.true_and, Bool.not_true, Bool.not_false, and_true, true_and, and_self, Nat.le_refl, List.take_succ_cons, List.take_zero, List.drop_succ_cons, List.drop_zero, Int.toNat_natCast, Int.reduceToNat, Nat.mul_one, List.take_nil, List.drop_nil, Int.reduceLE, Int.reduceAdd, Int.reduceLT, hs1, hA])
        exact ⟨by simp, done_scalar (by simp [rres, rresL, rres1, put_at]) (mapV_flat _ rfl).symm keep_off⟩
      · cases hs
    · cases hs
theorem rdU_at {l : List Int} (hb : ∀ x ∈ l, 0 ≤ x ∧ x < 256) (n : Nat) (hn : l.length = n) (e : TypeId) (L : Heap) (c : Nat) : rdU (.cells e (u8s l) :: L) (.slice (some ⟨0, 0, none⟩) n c) = some l := by
  subst hn; exact rdU_head hb e L c
theorem rdU_mark (k n : Nat) (e : TypeId) (L : Heap) (c : Nat) : rdU (.cells e (u8s (markL k n)) :: L) (.slice (some ⟨0, 0, none⟩) n c) = some (markL k n) := rdU_at (markL_bd k n) n (markL_len k n) e L c
theorem rdU_nil (h : Heap) : rdU h (.slice none 0 0) = some [] := rfl
theorem markL_zero (k : Nat) : markL k 0 = [] := rfl
theorem strM_bd {k s n c : Int} {l : List Int} (h : strM k s n = (c, some l)) : (∀ x ∈ l, 0 ≤ x ∧ x < 256) ∧ l.length ≤ 500 := by
  unfold strM at h
  split at h
  · split at h
    · rename_i hc; cases h; exact ⟨streamL_bd _ _, by rw [streamL_len]; omega⟩
    · cases h
  · cases h
def int3Law_sp : Sp := fun _ args h => match args with
  | [.int .i64 _, .int .i64 _, .int .i64 _] => some (.bool true, h)
  | _ => none
theorem strL_ok : Ok Try.prog 5 int3Law_sp := by
  refine ok_quiet (OkΓ.cons strOfS_ok (OkΓ.cons strOfI_ok (OkΓ.cons eqBR_ok (OkΓ.cons mkBR_ok (OkΓ.cons hdBR_ok (OkΓ.nil _)))))) Try.func5 (by kernel_rfl) k5 ?_ ?_
  · intro lo args h r h' hs
    unfold int3Law_sp at hs; split at hs <;> cases hs; exact Fr.refl _ _
  · intro lo args h r h' hs
    unfold int3Law_sp at hs; split at hs <;> cases hs
    rename_i k s n
    rcases hM : strM k s n with ⟨c, _ | l⟩
    · (dsimp only [c5]; simp (maxSteps := 1000000) (implicitDefEqProofs := false) (disch := omega) only [go_sem, Bool.false_eq_true, slc, aop, abin, aun, intB, ↓reduceIte, Nat.reduceEqDiff, Nat.reduceSub, ne_eq, not_false_eq_true, Option.map, Option.bind, get_off, get_off0, set_off, set_off0, List.append_assoc, List.cons_append, List.nil_append, List.length_append, List.length_cons, List.length_nil, Nat.zero_add, Nat.add_zero, Nat.add_assoc, Nat.reduceAdd, List.set_cons_zero, List.set_cons_succ, List.getElem?_cons_zero, List.getElem?_cons_succ, Option.bind_some, Nat.reduceLeDiff, Nat.reduceLT, maxLen, slOut, optI, Int.reduceSub, Int.sub_zero, Nat.zero_mul, if_pos, if_neg, w64, wu8, ↓condK_pos, ↓condK_neg, ↓gdK_pt, ↓gdK_nt, ↓gdK_pf, ↓gdK_nf, decide_eq_true_eq, cellsL, Value.cells, fillL, setAt, decide_true, decide_false, one_int, one_bool, one_string, one_slice, one_pointer, one_ptr, one_iface, one_nili, nat0, flat, slc, List.all_cons, List.all_nil, Bool.and_true, Bool.true_and, Bool.not_true, Bool.not_false, and_true, true_and, and_self, Nat.le_refl, List.take_succ_cons, List.take_zero, List.drop_succ_cons, List.drop_zero, Int.toNat_natCast, Int.reduceToNat, Nat.mul_one, List.take_nil, List.drop_nil, Int.reduceLE, Int.reduceAdd, Int.reduceLT, strOf_sp, hM, brV, eqBR_sp, mkBR_sp, mkB_sp, hdBR_sp, hdB_sp, rdU_nil, markL_zero, bne_self_eq_false])
      exact ⟨by simp, done_scalar (by simp [rres, rresL, rres1, put_at]) (mapV_flat _ rfl).symm keep_off⟩
    · obtain ⟨hb, hl⟩ := strM_bd hM
      have hh := rdU_head hb
      (dsimp only [c5]; simp (maxSteps := 1000000) (implicitDefEqProofs := false) (disch := omega) only [go_sem, Bool.false_eq_true, slc, aop, abin, aun, intB, ↓reduceIte, Nat.reduceEqDiff, Nat.reduceSub, ne_eq, not_false_eq_true, Option.map, Option.bind, get_off, get_off0, set_off, set_off0, List.append_assoc, List.cons_append, List.nil_append, List.length_append, List.length_cons, List.length_nil, Nat.zero_add, Nat.add_zero, Nat.add_assoc, Nat.reduceAdd, List.set_cons_zero, List.set_cons_succ, List.getElem?_cons_zero, List.getElem?_cons_succ, Option.bind_some, Nat.reduceLeDiff, Nat.reduceLT, maxLen, slOut, optI, Int.reduceSub, Int.sub_zero, Nat.zero_mul, if_pos, if_neg, w64, wu8, ↓condK_pos, ↓condK_neg, ↓gdK_pt, ↓gdK_nt, ↓gdK_pf, ↓gdK_nf, decide_eq_true_eq, cellsL, Value.cells, fillL, setAt, decide_true, decide_false, one_int, one_bool, one_string, one_slice, one_pointer, one_ptr, one_iface, one_nili, nat0, flat, slc, List.all_cons, List.all_nil, Bool.and_true, Bool.true_and, Bool.not_true, Bool.not_false, and_true, true_and, and_self, Nat.le_refl, List.take_succ_cons, List.take_zero, List.drop_succ_cons, List.drop_zero, Int.toNat_natCast, Int.reduceToNat, Nat.mul_one, List.take_nil, List.drop_nil, Int.reduceLE, Int.reduceAdd, Int.reduceLT, strOf_sp, hM, brV, eqBR_sp, mkBR_sp, mkB_sp, hdBR_sp, hdB_sp, rdU_off, rdU_off0, rdU_tail, hh, rdU_mark, markL_len, u8s_len, bne_self_eq_false])
      exact ⟨by simp, done_scalar (by simp [rres, rresL, rres1, put_at]) (mapV_flat _ rfl).symm keep_off⟩
theorem fnExactStreamOf_calls {a b c : Int} {W : World} (_ : (Lit.int .i64 a).wf = true) (_ : (Lit.int .i64 b).wf = true) (_ : (Lit.int .i64 c).wf = true) :
    Calls Try.prog 5 ⟨[.int .i64 a, .int .i64 b, .int .i64 c]⟩ W (fun e W' => e = .returned (.bool true) ∧ RowKit.Below W.heap.size W W') :=
  law_calls strL_ok (hr_start Try.prog W W.heap.size) (.cons (.int _ _) (.cons (.int _ _) (.cons (.int _ _) .nil))) rfl
end Go.Proofs.Ytpndkgpkakhbmaa
