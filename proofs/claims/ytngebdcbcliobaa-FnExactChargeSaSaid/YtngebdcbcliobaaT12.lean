import Derived.Test.YtngebdcbcliobaaT11
set_option linter.unusedVariables false
namespace Go.AH
/-! Rows told by a list -/
def rowsT {α : Type} (f : α → TV) (l : List α) : List TV := l.map f
section
variable {α : Type} {f : α → TV} {z : Nat}
theorem rowsT_len (l : List α) : (rowsT f l).length = l.length := by simp [rowsT]
theorem rowsT_get {l : List α} {i : Nat} {x : α} (h : l[i]? = some x) : (rowsT f l)[i]? = some (f x) := by simp [rowsT, h]
theorem rowsT_take (l : List α) (n : Nat) : (rowsT f l).take n = rowsT f (l.take n) := by simp [rowsT]
theorem rowsT_drop (l : List α) (n : Nat) : (rowsT f l).drop n = rowsT f (l.drop n) := by simp [rowsT]
theorem rowsT_append (l l' : List α) : rowsT f l ++ rowsT f l' = rowsT f (l ++ l') := by simp [rowsT]
theorem rowsT_snoc (l : List α) (x : α) : rowsT f l ++ [f x] = rowsT f (l ++ [x]) := by simp [rowsT]
theorem rowsT_set (l : List α) (i : Nat) (x : α) : (rowsT f l).set i (f x) = rowsT f (l.set i x) := by simp [rowsT, List.map_set]
theorem rowsT_nil : rowsT f [] = [] := rfl
theorem rowsT_sized (hf : Flat f z) (l : List α) : sizedT z (rowsT f l) = true := rows_sized hf l
theorem rowsT_frz (hf : Flat f z) (h : THeap) (n : Nat) (l : List α) : (rowsT f l).map (frzT h n) = rowsT f l := rows_frz hf h n l
theorem rowsT_ren (hf : Flat f z) (ρ : Nat → Nat) (l : List α) : renTs ρ (rowsT f l) = rowsT f l := rows_ren hf ρ l
theorem rowsT_own (ho : ∀ x, ownT (f x) = true) (l : List α) : ownTs (rowsT f l) = true := rows_own ho l
theorem rowsT_inj (hi : ∀ x y, f x = f y → x = y) {l l' : List α} (h : rowsT f l = rowsT f l') : l = l' := rows_inj hi l l' h
/-- A row that is filled from the front: the first i are told by the list, the others still as made. -/
def mixT (f : α → TV) (z : TV) (l : List α) (i : Nat) : List TV := rowsT f (l.take i) ++ List.replicate (l.length - i) z
theorem mixT_zero (z : TV) (l : List α) : List.replicate l.length z = mixT f z l 0 := by simp [mixT, rowsT]
theorem mixT_full (z : TV) (l : List α) {i : Nat} (h : l.length ≤ i) : mixT f z l i = rowsT f l := by
  simp [mixT, rowsT, List.take_of_length_le h, Nat.sub_eq_zero_of_le h]
theorem mixT_len (z : TV) (l : List α) (i : Nat) (h : i ≤ l.length) : (mixT f z l i).length = l.length := by simp [mixT, rowsT]; omega
theorem mixT_get (z : TV) {l : List α} {i : Nat} (h : i < l.length) : (mixT f z l i)[i]? = some z := by
  simp only [mixT]
  rw [List.getElem?_append_right (by simp [rowsT]; omega)]
  have e : (rowsT f (l.take i)).length = i := by simp [rowsT]; omega
  rw [e, Nat.sub_self, List.getElem?_replicate, if_pos (by omega)]
theorem mixT_set (z : TV) {l : List α} {i : Nat} {x : α} (h : l[i]? = some x) : (mixT f z l i).set i (f x) = mixT f z l (i + 1) := by
  have hlt := (List.getElem?_eq_some_iff.1 h).1
  have hx := (List.getElem?_eq_some_iff.1 h).2
  have e : (rowsT f (l.take i)).length = i := by simp [rowsT]; omega
  simp only [mixT]
  rw [List.set_append_right _ _ (by omega), e, Nat.sub_self]
  rw [show l.length - i = (l.length - (i + 1)) + 1 by omega, List.replicate_succ, List.set_cons_zero]
  rw [List.take_succ_eq_append_getElem hlt, hx]
  simp [rowsT]
end
theorem mix_sized {α : Type} {f : α → TV} {k : Nat} (hf : Flat f k) {z : TV} (hz : (cellsT z).length = k) (l : List α) (i : Nat) : sizedT k (mixT f z l i) = true :=
  sized_append (rowsT_sized hf _) (sized_iff.2 fun x hx => by rw [(List.mem_replicate.1 hx).2]; exact hz)
theorem mix_ren {α : Type} {f : α → TV} {k : Nat} (hf : Flat f k) {z : TV} (hz : ∀ ρ, renT ρ z = z) (ρ : Nat → Nat) (l : List α) (i : Nat) : renTs ρ (mixT f z l i) = mixT f z l i := by
  simp only [mixT, renTs_append, rowsT_ren hf]
  congr 1
  rw [renTs_map, List.map_replicate, hz]
theorem slots_at (d : Nat) (v : TV) (l : List (Nat × TV)) (i : Nat) : slots ((d, v) :: l) i = if i = d then v else slots l i := rfl
theorem slots_nil (i : Nat) : slots [] i = .any := rfl
theorem natAT (m n : Nat) : ((m + n : Nat) : Int) = (m : Int) + (n : Int) := by simp
theorem nat1T : ((1 : Nat) : Int) = 1 := rfl
theorem nat2T : ((2 : Nat) : Int) = 2 := rfl
theorem nat4T : ((4 : Nat) : Int) = 4 := rfl
theorem get_ex {α : Type} {l : List α} {i : Nat} (h : i < l.length) : ∃ x, l[i]? = some x := ⟨l[i], List.getElem?_eq_getElem h⟩
theorem bsT_rows (l : List Int) : rowsT bT l = bsT l := rfl
theorem isT_rows (l : List Int) : rowsT iT l = isT l := rfl
attribute [go_sem ↓] awpT_skip awpT_ret awpT_exit awpT_seq awpT_reg awpT_drw awpT_cond awpT_block seqKT_join seqKT_reg seqKT_drw seqKT_seq seqKT_cond seqKT_skip seqKT_b1 seqKT_b2 seqKT_b3 seqKT_b4 seqKT_b5 seqKT_b6 seqKT_ret seqKT_exit blkKT_normal blkKT_ret blkKT_exit loopKT_ret loopKT_exit ropsT_nil qopsT_nil ropsT_mv qopsT_mv ropsT_op ropsT_op0 ropsT_opg ropsT_opg0 qopsT_op qopsT_op0 qopsT_opg gdKT_tt gdKT_ff gdKT_tf gdKT_ft gdKT_un kont_some kontR_some condKT_true condKT_false condKT_ub
attribute [go_sem] tag_eq putT_at argσT_nil argσT_cons evT_t evT_int evT_bool evT_str evT_nil evT_undef evT_nilp evT_fn evT_agg ofV1_int ofV1_bool ofV1_str ofV1_nil ofV1_nilp ofV1_nili plainV_int plainV_bool plainV_str plainV_nil plainV_nilp plainV_nili oneT_p oneT_nl oneT_s oneT_fe oneT_os oneT_op oneT_fn cells_agg cells_p cells_nl cells_s cells_fe cells_os cells_op cells_fn aggE_agg el_one el_two getIT_int getBT_bool pB_p pU_p tctx_get
attribute [go_sem] tone_int tone_bool tone_str tone_sl tone_ptr tone_nili int_beq int_bne not_dec dec_and dec_or nat0T map_someT mkEls_one mkEls_zero mkEls_two mkEls_1b mkEls_1n frz_p frz_nl frz_s frz_fe frz_any frz_ub frz_agg frz_tup frz_fn frz_os frz_op ren_p ren_nl ren_s ren_fe ren_any ren_os ren_op ren_agg ren_tup ren_fn rens_nil rens_cons renB_cells rho_zero rho_one rho_two bs_sized is_sized bs_frz is_frz bs_ren is_ren bs_own is_own bs_len is_len bs_take bs_drop is_take is_drop bs_append is_append bs_snoc is_snoc bs_set is_set
attribute [go_sem] top pureSp shareSp elT elAt rdT setE setG zAt fillT chunksT optIT eqTs eqC mmT abin aun intB pI noOwns noOwn ownT ownTs ownB rresT rresLT rres1T slotsOk blksOk
attribute [go_sem] reduceIte Bool.false_eq_true Bool.true_eq_false Nat.reduceEqDiff Nat.reduceSub ne_eq not_false_eq_true Option.map_some Option.bind_some Option.bind_none List.map_cons List.map_nil List.append_assoc List.cons_append List.nil_append List.append_nil List.length_append List.length_cons List.length_nil Nat.zero_add Nat.add_zero Nat.reduceAdd List.set_cons_zero List.set_cons_succ List.getElem?_cons_zero List.getElem?_cons_succ Nat.reduceLeDiff Nat.reduceLT maxLen Int.reduceSub Int.sub_zero Nat.zero_mul decide_true decide_false decide_eq_true_eq List.all_cons List.all_nil Bool.and_true Bool.true_and Bool.not_true Bool.not_false and_true true_and and_self false_and and_false Nat.le_refl List.take_succ_cons List.take_zero List.drop_succ_cons List.drop_zero Int.toNat_natCast Int.reduceToNat Nat.mul_one List.take_nil List.drop_nil Int.reduceLE Int.reduceAdd Int.reduceLT Int.reduceMul Nat.reduceMul Nat.reduceDiv Nat.zero_le true_or or_true false_or or_false if_true if_false not_true not_false_iff Int.reduceEq Int.reduceNeg Nat.reduceBEq Nat.reduceEqDiff beq_self_eq_true List.replicate_zero Int.ofNat_eq_natCast eq_self reduceCtorEq
attribute [congr] kont_cong kontR_cong condKT_cong gdKT_cong awpT_cong ropsT_cong qopsT_cong joinK_cong loopKT_cong EndT_cong
attribute [go_sem] slots_at slots_nil natAT nat1T nat2T nat4T rowsT_len rowsT_take rowsT_drop rowsT_append rowsT_nil rowsT_get
end Go.AH
