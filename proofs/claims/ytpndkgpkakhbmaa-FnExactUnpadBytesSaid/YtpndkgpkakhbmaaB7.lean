import Derived.Test.YtpndkgpkakhbmaaB6
import Derived.Test.YtpndkgpkakhbmaaA19
set_option linter.unusedSimpArgs false
set_option linter.unusedVariables false
set_option maxRecDepth 100000
namespace Go.Proofs.Ytpndkgpkakhbmaa
open Go Go.AH
attribute [local go_sem ↓] awp_skip awp_ret awp_exit awp_seq awp_reg awp_drw awp_cond awp_block seqK_normal seqK_ret seqK_exit blkK_normal blkK_ret loopK_normal loopK_ret loopK_exit rops_nil qops_nil rops_op rops_op0 rops_opg qops_op qops_op0 qops_opg gdK_tt gdK_ff gdK_tf gdK_ft kont_some condK_true condK_false
attribute [local go_sem] tag_eq blkK_exit put_at argσ_nil argσ_cons ev_t ev_v ctx_get getB_bool getI_int getP_ptr Option.map_some Option.bind_some List.map_cons List.map_nil
attribute [local congr] kont_cong condK_cong gdK_cong awp_cong rops_cong qops_cong
theorem rdU_off (h L : Heap) (i o n c : Nat) : rdU (h ++ L) (.slice (some ⟨h.length + i, o, none⟩) n c) = rdU L (.slice (some ⟨i, o, none⟩) n c) := by
  simp only [rdU, rdS, get_off]
theorem rdU_off0 (h L : Heap) (o n c : Nat) : rdU (h ++ L) (.slice (some ⟨h.length, o, none⟩) n c) = rdU L (.slice (some ⟨0, o, none⟩) n c) := rdU_off h L 0 o n c
theorem rdU_tail (x : Blk) (L : Heap) (i o n c : Nat) : rdU (x :: L) (.slice (some ⟨i + 1, o, none⟩) n c) = rdU L (.slice (some ⟨i, o, none⟩) n c) := by
  simp only [rdU, rdS, List.getElem?_cons_succ]
theorem rdU_head {l : List Int} (hb : ∀ x ∈ l, 0 ≤ x ∧ x < 256) (e : TypeId) (L : Heap) (c : Nat) : rdU (.cells e (u8s l) :: L) (.slice (some ⟨0, 0, none⟩) l.length c) = some l := by
  simp only [rdU, rdS, List.getElem?_cons_zero, u8s_len, Nat.zero_add, Nat.mul_one, Nat.le_refl, if_true, List.drop_zero, Option.bind_some]
  rw [show (u8s l).take l.length = u8s l by rw [← u8s_len l, List.take_length]]
  exact byteOf_u8s l hb
theorem rdU_flat {l : List Int} (hb : ∀ x ∈ l, 0 ≤ x ∧ x < 256) : True := trivial
theorem int3_self (l : List Int) : int3 (.agg ⟨peekR l⟩) (.agg ⟨peekR l⟩) = some true := by unfold peekR; split <;> simp [int3]
theorem peekR_len (l : List Int) : (peekR l).length = 3 := by unfold peekR; split <;> rfl
theorem peekR_one (l : List Int) : (peekR l).all one = true := by unfold peekR; split <;> rfl
theorem setAt3 (a b c : Value) (l : List Value) (h : l.length = 3) : setAt [a, b, c] 0 l = l := by
  match l, h with
  | [x, y, z], _ => rfl
theorem take3 (l : List Value) (h : l.length = 3) : l.take 3 = l := by rw [← h, List.take_length]
def bytesLaw_sp : Sp := fun _ args h => match args with
  | [s] => (rdU h s).bind fun l => if l.length ≤ 140737488355328 then some (.bool true, h) else none
  | _ => none
theorem peekL_ok : Ok Try.prog 3 bytesLaw_sp := by
  refine ok_quiet (OkΓ.cons toB_ok (OkΓ.cons peekS_ok (OkΓ.cons peekI_ok (OkΓ.cons eqOut_ok (OkΓ.cons eqB_ok (OkΓ.nil _)))))) Try.func3 (by kernel_rfl) k3 ?_ ?_
  · intro lo args h r h' hs
    unfold bytesLaw_sp at hs; split at hs
    · obtain ⟨l, _, hs⟩ := Option.bind_eq_some_iff.1 hs
      split at hs <;> cases hs; exact Fr.refl _ _
    · cases hs
  · intro lo args h r h' hs
    unfold bytesLaw_sp at hs; split at hs
    · rename_i s
      obtain ⟨l, hl, hs⟩ := Option.bind_eq_some_iff.1 hs
      split at hs <;> cases hs
      rename_i hcond
      have hla := fun l' => rdU_app hl l'
      obtain ⟨a, c, rfl, hb, hc⟩ := rdU_spec hl
      clear hs
      have hh := rdU_head hb
      by_cases h1 : l.length ≤ 1048576
      · (dsimp only [c3]; simp (maxSteps := 1000000) (implicitDefEqProofs := false) (disch := omega) only [go_sem, Bool.false_eq_true, slc, aop, abin, aun, intB, ↓reduceIte, Nat.reduceEqDiff, Nat.reduceSub, ne_eq, not_false_eq_true, Option.map, Option.bind, get_off, get_off0, set_off, set_off0, List.append_assoc, List.cons_append, List.nil_append, List.length_append, List.length_cons, List.length_nil, Nat.zero_add, Nat.add_zero, Nat.add_assoc, Nat.reduceAdd, List.set_cons_zero, List.set_cons_succ, List.getElem?_cons_zero, List.getElem?_cons_succ, Option.bind_some, Nat.reduceLeDiff, Nat.reduceLT, maxLen, slOut, optI, Int.reduceSub, Int.sub_zero, Nat.zero_mul, if_pos, if_neg, w64, wu8, ↓condK_pos, ↓condK_neg, ↓gdK_pt, ↓gdK_nt, ↓gdK_pf, ↓gdK_nf, decide_eq_true_eq, cellsL, Value.cells, fillL, setAt, decide_true, decide_false, one_int, one_bool, one_string, one_slice, one_pointer, one_ptr, one_iface, one_nili, nat0, flat, slc, List.all_cons, List.all_nil, Bool.and_true, Bool.true_and, Bool.not_true, Bool.not_false, and_true, true_and, and_self, Nat.le_refl, List.take_succ_cons, List.take_zero, List.drop_succ_cons, List.drop_zero, Int.toNat_natCast, Int.reduceToNat, Nat.mul_one, List.take_nil, List.drop_nil, Int.reduceLE, Int.reduceAdd, Int.reduceLT, toB_sp, peek_sp, eqOut_sp, eqB_sp, hl, hla, h1, rdU_off, rdU_off0, rdU_tail, hh, peekR_len, peekR_one, setAt3 _ _ _ _ (peekR_len l), take3 _ (peekR_len l), int3_self])
        exact ⟨by simp, done_scalar (by simp [rres, rresL, rres1, put_at]) (mapV_flat _ rfl).symm keep_off⟩
      · (dsimp only [c3]; simp (maxSteps := 1000000) (implicitDefEqProofs := false) (disch := omega) only [go_sem, Bool.false_eq_true, slc, aop, abin, aun, intB, ↓reduceIte, Nat.reduceEqDiff, Nat.reduceSub, ne_eq, not_false_eq_true, Option.map, Option.bind, get_off, get_off0, set_off, set_off0, List.append_assoc, List.cons_append, List.nil_append, List.length_append, List.length_cons, List.length_nil, Nat.zero_add, Nat.add_zero, Nat.add_assoc, Nat.reduceAdd, List.set_cons_zero, List.set_cons_succ, List.getElem?_cons_zero, List.getElem?_cons_succ, Option.bind_some, Nat.reduceLeDiff, Nat.reduceLT, maxLen, slOut, optI, Int.reduceSub, Int.sub_zero, Nat.zero_mul, if_pos, if_neg, w64, wu8, ↓condK_pos, ↓condK_neg, ↓gdK_pt, ↓gdK_nt, ↓gdK_pf, ↓gdK_nf, decide_eq_true_eq, cellsL, Value.cells, fillL, setAt, decide_true, decide_false, one_int, one_bool, one_string, one_slice, one_pointer, one_ptr, one_iface, one_nili, nat0, flat, slc, List.all_cons, List.all_nil, Bool.and_true, Bool.true_and, Bool.not_true, Bool.not_false, and_true, true_and, and_self, Nat.le_refl, List.take_succ_cons, List.take_zero, List.drop_succ_cons, List.drop_zero, Int.toNat_natCast, Int.reduceToNat, Nat.mul_one, List.take_nil, List.drop_nil, Int.reduceLE, Int.reduceAdd, Int.reduceLT])
        exact ⟨by simp, done_scalar (by simp [rres, rresL, rres1, put_at]) (mapV_flat _ rfl).symm (fun _ _ => rfl)⟩
    · cases hs
/-- A row of bytes, read as bytes. -/
theorem rdU_row {h : Heap} {v : Value} {zs : List Int} {len : Nat} (hw : ∀ n ∈ zs, (Lit.int .u8 n).wf = true) (hr : rdS h 1 v = some ((zs.take len).map (.int .u8))) : rdU h v = some (zs.take len) := by
  unfold rdU
  rw [hr]
  refine byteOf_u8s _ fun x hx => ?_
  have := hw x (List.mem_of_mem_take hx)
  simp only [Lit.wf, Bool.and_eq_true, decide_eq_true_eq] at this
  have h1 : IntKind.u8.min = 0 := rfl
  have h2 : IntKind.u8.max = 255 := rfl
  omega
/-- A law over one slice of bytes. -/
theorem law_bytes {f : Nat} (ok : Ok Try.prog f bytesLaw_sp) {a : Option Addr} {len cap : Nat} {zs : List Int} {W : World} (w : IsRow .u8 W a len cap zs) (y : len * 1 ≤ 140737488351232) :
    Calls Try.prog f ⟨[.slice a len cap]⟩ W (fun e W' => e = .returned (.bool true) ∧ RowKit.Below W.heap.size W W') := by
  obtain ⟨ι, v, _, hr, hv, hd⟩ := add_row (hr_start Try.prog W W.heap.size) (e := 5) (by kernel_rfl) w
  refine law_calls ok hr (.cons hv .nil) ?_
  have e := rdU_row w.wf (hd [])
  rw [List.append_nil] at e
  simp only [bytesLaw_sp, e, Option.bind_some]
  rw [if_pos (by have := List.length_take_le len zs; omega)]
theorem fnExactPeekOuter_calls {a : Option Addr} {len cap : Nat} {zs : List Int} {W : World} (w : IsRow .u8 W a len cap zs) (y : len * 1 ≤ 140737488351232) :
    Calls Try.prog 3 ⟨[.slice a len cap]⟩ W (fun e W' => e = .returned (.bool true) ∧ RowKit.Below W.heap.size W W') := law_bytes peekL_ok w y
end Go.Proofs.Ytpndkgpkakhbmaa
