import Derived.Test.YtpndkgpkakhbmaaB4
set_option linter.unusedSimpArgs false
set_option linter.unusedVariables false
set_option maxRecDepth 100000
namespace Go.Proofs.Ytpndkgpkakhbmaa
open Go Go.AH
attribute [local go_sem ↓] awp_skip awp_ret awp_exit awp_seq awp_reg awp_drw awp_cond awp_block seqK_normal seqK_ret seqK_exit blkK_normal blkK_ret loopK_normal loopK_ret loopK_exit rops_nil qops_nil rops_op rops_op0 rops_opg qops_op qops_op0 qops_opg gdK_tt gdK_ff gdK_tf gdK_ft kont_some condK_true condK_false
attribute [local go_sem] tag_eq blkK_exit put_at argσ_nil argσ_cons ev_t ev_v ctx_get getB_bool getI_int getP_ptr Option.map_some Option.bind_some List.map_cons List.map_nil
attribute [local congr] kont_cong condK_cong gdK_cong awp_cong rops_cong qops_cong
/-! Heaps with blocks laid behind them -/
theorem get_off (h l : Heap) (i : Nat) : (h ++ l)[h.length + i]? = l[i]? := by rw [List.getElem?_append_right (by omega)]; congr 1; omega
theorem get_off0 (h l : Heap) : (h ++ l)[h.length]? = l[0]? := get_off h l 0
theorem set_off (h l : Heap) (i : Nat) (x : Blk) : (h ++ l).set (h.length + i) x = h ++ l.set i x := by
  rw [List.set_append_right _ _ (by omega)]; congr 2; omega
theorem set_off0 (h l : Heap) (x : Blk) : (h ++ l).set h.length x = h ++ l.set 0 x := set_off h l 0 x
theorem keep_off {h l : Heap} : ∀ b, b < h.length → (h ++ l)[b]? = h[b]? := fun b hb => List.getElem?_append_left hb
theorem one_int (k : IntKind) (n : Int) : one (.int k n) = true := rfl
theorem one_bool (b : Bool) : one (.bool b) = true := rfl
theorem one_string (s : ByteArray) : one (.string s) = true := rfl
theorem one_slice (a : Option Addr) (n c : Nat) : one (.slice a n c) = true := rfl
theorem one_pointer (a : Option Addr) : one (.pointer a) = true := rfl
theorem one_ptr (b o : Nat) : one (ptr b o) = true := rfl
theorem one_iface (t : TypeId) (v : Value) : one (.iface t v) = true := rfl
theorem one_nili : one .nilIface = true := rfl
theorem nat0 : ((0 : Nat) : Int) = 0 := rfl
/-- A value with no address in it. -/
def flat : Value → Bool
  | .int _ _ => true
  | .bool _ => true
  | .string _ => true
  | _ => false
theorem mapV_flat (u : Nat → Nat) {v : Value} (h : flat v = true) : mapV u v = v := by cases v <;> first | rfl | simp [flat] at h
theorem mapV_agg (u : Nat → Nat) (cs : List Value) (h : cs.all flat = true) : mapV u (.agg ⟨cs⟩) = .agg ⟨cs⟩ := by
  have : mapVs u cs = cs := by
    rw [mapVs_eq]
    have : ∀ v ∈ cs, mapV u v = v := fun v hv => mapV_flat u (List.all_eq_true.1 h v hv)
    rw [List.map_congr_left this, List.map_id'']
    exact fun _ => rfl
  show Value.agg ⟨mapVs u cs⟩ = _
  rw [this]
-- spec.PeekOuter
def c15 : AF := ⟨18,
  (.seq (.reg [⟨(some 2), none, .alloc 24 [(.int .i64 0), (.int .i64 0), (.int .i64 0)]⟩])
  (.seq (.seq (.reg [⟨(some 3), none, .mv (.t 0)⟩,
   ⟨(some 4), none, .len (.t 3)⟩,
   ⟨(some 5), none, .call 56 [(.t 4), (.v (.int .i64 14)), (.v (.int .i64 300))]⟩,
   ⟨(some 6), none, .un .not (.t 5)⟩,
   ⟨(some 7), none, .mv (.t 6)⟩,
   ⟨(some 8), (some (7, false)), .mv (.t 0)⟩,
   ⟨(some 9), (some (7, false)), .call 57 [(.t 8), (.v (.int .i64 0)), (.v (.int .i64 4))]⟩,
   ⟨(some 10), (some (7, false)), .bin .eql (.t 9) (.v (.int .i64 0))⟩,
   ⟨(some 11), none, .pick (.t 7) (.v (.bool true)) (.t 10)⟩])
  (.cond (.t 11) (.seq (.reg [⟨(some 12), none, .build [(.int .i64 0), (.int .i64 0), (.int .i64 0)] [(0, 1, (.v (.int .i64 5)))]⟩,
   ⟨none, none, .st 3 (.t 2) (.t 12)⟩])
  .ret)
  .skip))
  (.seq (.reg [⟨(some 13), none, .mv (.t 0)⟩,
   ⟨(some 14), none, .call 57 [(.t 13), (.v (.int .i64 0)), (.v (.int .i64 4))]⟩,
   ⟨(some 15), none, .mv (.t 0)⟩,
   ⟨(some 16), none, .call 57 [(.t 15), (.v (.int .i64 4)), (.v (.int .i64 4))]⟩,
   ⟨(some 17), none, .build [(.int .i64 0), (.int .i64 0), (.int .i64 0)] [(1, 1, (.t 14)), (2, 1, (.t 16))]⟩,
   ⟨none, none, .st 3 (.t 2) (.t 17)⟩])
  .ret))),
  [.cell 2 (some 3)]⟩
theorem k15 : cFn Try.prog Try.f15 = some c15 := by kernel_rfl
-- impl.PeekOuter
def c17 : AF := ⟨21,
  (.seq (.reg [⟨(some 2), none, .alloc 24 [(.int .i64 0), (.int .i64 0), (.int .i64 0)]⟩])
  (.seq (.seq (.reg [⟨(some 3), none, .mv (.t 0)⟩,
   ⟨(some 4), none, .len (.t 3)⟩,
   ⟨(some 5), none, .call 58 [(.t 4), (.v (.int .i64 14)), (.v (.int .i64 300))]⟩,
   ⟨(some 6), none, .un .not (.t 5)⟩,
   ⟨(some 7), none, .mv (.t 6)⟩,
   ⟨(some 8), (some (7, false)), .mv (.t 0)⟩,
   ⟨(some 9), (some (7, false)), .sl 1 (.t 8) none (some (.v (.int .i64 4)))⟩,
   ⟨(some 10), (some (7, false)), .call 59 [(.t 9)]⟩,
   ⟨(some 11), (some (7, false)), .bin .eql (.t 10) (.v (.int .i64 0))⟩,
   ⟨(some 12), none, .pick (.t 7) (.v (.bool true)) (.t 11)⟩])
  (.cond (.t 12) (.seq (.reg [⟨(some 13), none, .build [(.int .i64 0), (.int .i64 0), (.int .i64 0)] [(0, 1, (.v (.int .i64 5)))]⟩,
   ⟨none, none, .st 3 (.t 2) (.t 13)⟩])
  .ret)
  .skip))
  (.seq (.drw [⟨(some 14), none, .mv (.t 0)⟩,
   ⟨(some 15), none, .sl 1 (.t 14) none (some (.v (.int .i64 4)))⟩,
   ⟨(some 16), none, .call 59 [(.t 15)]⟩,
   ⟨(some 17), none, .mv (.t 0)⟩,
   ⟨(some 18), none, .sl 1 (.t 17) (some (.v (.int .i64 4))) (some (.v (.int .i64 8)))⟩,
   ⟨(some 19), none, .call 59 [(.t 18)]⟩,
   ⟨(some 20), none, .build [(.int .i64 0), (.int .i64 0), (.int .i64 0)] [(0, 1, (.v (.int .i64 0))), (1, 1, (.t 16)), (2, 1, (.t 19))]⟩] [⟨none, none, .st 3 (.t 2) (.t 20)⟩])
  .ret))),
  [.cell 2 (some 3)]⟩
theorem k17 : cFn Try.prog Try.f17 = some c17 := by kernel_rfl
-- laws.eqOuterResult
def c18 : AF := ⟨20,
  (.seq (.reg [⟨(some 2), none, .box 24 (.t 0)⟩,
   ⟨(some 3), none, .box 24 (.t 1)⟩,
   ⟨(some 4), none, .mv (.v (.bool false))⟩])
  (.seq (.seq (.reg [⟨(some 5), none, .fa (.t 2) 0⟩,
   ⟨(some 6), none, .ld (.t 5)⟩,
   ⟨(some 7), none, .fa (.t 3) 0⟩,
   ⟨(some 8), none, .ld (.t 7)⟩,
   ⟨(some 9), none, .bin .neq (.t 6) (.t 8)⟩])
  (.cond (.t 9) (.seq (.reg [⟨(some 4), none, .mv (.v (.bool false))⟩])
  .ret)
  .skip))
  (.seq (.seq (.reg [⟨(some 10), none, .fa (.t 2) 1⟩,
   ⟨(some 11), none, .ld (.t 10)⟩,
   ⟨(some 12), none, .fa (.t 3) 1⟩,
   ⟨(some 13), none, .ld (.t 12)⟩,
   ⟨(some 14), none, .bin .neq (.t 11) (.t 13)⟩])
  (.cond (.t 14) (.seq (.reg [⟨(some 4), none, .mv (.v (.bool false))⟩])
  .ret)
  .skip))
  (.seq (.seq (.reg [⟨(some 15), none, .fa (.t 2) 2⟩,
   ⟨(some 16), none, .ld (.t 15)⟩,
   ⟨(some 17), none, .fa (.t 3) 2⟩,
   ⟨(some 18), none, .ld (.t 17)⟩,
   ⟨(some 19), none, .bin .neq (.t 16) (.t 18)⟩])
  (.cond (.t 19) (.seq (.reg [⟨(some 4), none, .mv (.v (.bool false))⟩])
  .ret)
  .skip))
  (.seq (.reg [⟨(some 4), none, .mv (.v (.bool true))⟩])
  .ret))))),
  [.t 4]⟩
theorem k18 : cFn Try.prog Try.f18 = some c18 := by kernel_rfl
-- laws.FnExactPeekOuter
def c3 : AF := ⟨25,
  (.seq (.reg [⟨(some 2), none, .mv (.v (.bool false))⟩])
  (.seq (.seq (.reg [⟨(some 6), none, .mv (.t 0)⟩,
   ⟨(some 7), none, .len (.t 6)⟩,
   ⟨(some 8), none, .bin .gtr (.t 7) (.v (.int .i64 1048576))⟩])
  (.cond (.t 8) (.seq (.reg [⟨(some 2), none, .mv (.v (.bool true))⟩])
  .ret)
  .skip))
  (.seq (.reg [⟨(some 9), none, .mv (.t 0)⟩,
   ⟨(some 10), none, .call 16 [(.t 9)]⟩,
   ⟨(some 11), none, .call 15 [(.t 10)]⟩,
   ⟨(some 3), none, .alloc 24 [(.int .i64 0), (.int .i64 0), (.int .i64 0)]⟩,
   ⟨none, none, .st 3 (.t 3) (.t 11)⟩])
  (.seq (.reg [⟨(some 12), none, .mv (.t 0)⟩,
   ⟨(some 13), none, .call 16 [(.t 12)]⟩,
   ⟨(some 4), none, .mv (.t 13)⟩])
  (.seq (.reg [⟨(some 14), none, .mv (.t 4)⟩,
   ⟨(some 15), none, .call 17 [(.t 14)]⟩,
   ⟨(some 5), none, .alloc 24 [(.int .i64 0), (.int .i64 0), (.int .i64 0)]⟩,
   ⟨none, none, .st 3 (.t 5) (.t 15)⟩])
  (.seq (.seq (.reg [⟨(some 16), none, .ldn 3 (.t 5)⟩,
   ⟨(some 17), none, .ldn 3 (.t 3)⟩,
   ⟨(some 18), none, .call 18 [(.t 16), (.t 17)]⟩,
   ⟨(some 19), none, .un .not (.t 18)⟩])
  (.cond (.t 19) (.seq (.reg [⟨(some 2), none, .mv (.v (.bool false))⟩])
  .ret)
  .skip))
  (.seq (.seq (.reg [⟨(some 20), none, .mv (.t 4)⟩,
   ⟨(some 21), none, .mv (.t 0)⟩,
   ⟨(some 22), none, .call 16 [(.t 21)]⟩,
   ⟨(some 23), none, .call 19 [(.t 20), (.t 22)]⟩,
   ⟨(some 24), none, .un .not (.t 23)⟩])
  (.cond (.t 24) (.seq (.reg [⟨(some 2), none, .mv (.v (.bool false))⟩])
  .ret)
  .skip))
  (.seq (.reg [⟨(some 2), none, .mv (.v (.bool true))⟩])
  .ret)))))))),
  [.t 2]⟩
theorem k3 : cFn Try.prog Try.f3 = some c3 := by kernel_rfl
theorem gdK_pt {c : Prop} [Decidable c] {p q : Prop} (h : c) : gdK (.bool (decide c)) true p q = p := by simp [gdK, h]
theorem gdK_nt {c : Prop} [Decidable c] {p q : Prop} (h : ¬ c) : gdK (.bool (decide c)) true p q = q := by simp [gdK, h]
theorem gdK_pf {c : Prop} [Decidable c] {p q : Prop} (h : c) : gdK (.bool (decide c)) false p q = q := by simp [gdK, h]
theorem gdK_nf {c : Prop} [Decidable c] {p q : Prop} (h : ¬ c) : gdK (.bool (decide c)) false p q = p := by simp [gdK, h]
theorem condK_pos {c : Prop} [Decidable c] {p q : Prop} (h : c) : condK (.bool (decide c)) p q = p := by simp [condK, h]
theorem condK_neg {c : Prop} [Decidable c] {p q : Prop} (h : ¬ c) : condK (.bool (decide c)) p q = q := by simp [condK, h]
/-! The outer head, read -/
def peekR (l : List Int) : List Value :=
  if 14 ≤ l.length ∧ l.length ≤ 300 ∧ takeN (l.take 4) ≠ 0 then [.int .i64 0, .int .i64 (takeN (l.take 4)), .int .i64 (takeN ((l.drop 4).take 4))] else [.int .i64 5, .int .i64 0, .int .i64 0]
theorem peekR_flat (l : List Int) : (peekR l).all flat = true := by unfold peekR; split <;> rfl
def peek_sp : Sp := fun _ args h => match args with
  | [s] => (rdU h s).bind fun l => if l.length ≤ 1048576 then some (.agg ⟨peekR l⟩, h) else none
  | _ => none
theorem peekS_ok : Ok Try.prog 15 peek_sp := by
  refine ok_quiet (OkΓ.cons l1In_ok (OkΓ.cons l1Take_ok (OkΓ.nil _))) Try.func15 (by kernel_rfl) k15 ?_ ?_
  · intro lo args h r h' hs
    unfold peek_sp at hs; split at hs
    · obtain ⟨l, _, hs⟩ := Option.bind_eq_some_iff.1 hs
      split at hs <;> cases hs; exact Fr.refl _ _
    · cases hs
  · intro lo args h r h' hs
    unfold peek_sp at hs; split at hs
    · rename_i s
      obtain ⟨l, hl, hs⟩ := Option.bind_eq_some_iff.1 hs
      split at hs <;> cases hs
      rename_i hcond
      have hla := fun l' => rdU_app hl l'
      obtain ⟨a, c, rfl, hb, hc⟩ := rdU_spec hl
      clear hs
      by_cases h1 : (14 : Int) ≤ l.length ∧ (l.length : Int) ≤ 300
      · have q1 : (decide ((14 : Int) ≤ l.length) && decide ((l.length : Int) ≤ 300)) = true := by simp [h1]
        by_cases h0 : takeN (l.take 4) = 0
        · have e : peekR l = [.int .i64 5, .int .i64 0, .int .i64 0] := if_neg (by simp [h0])
          (dsimp only [c15]; simp (maxSteps := 1000000) (implicitDefEqProofs := false) (disch := omega) only [go_sem, Bool.false_eq_true, slc, aop, abin, aun, intB, ↓reduceIte, Nat.reduceEqDiff, Nat.reduceSub, ne_eq, not_false_eq_true, Option.map, Option.bind, get_off, get_off0, set_off, set_off0, List.append_assoc, List.cons_append, List.nil_append, List.length_append, List.length_cons, List.length_nil, Nat.zero_add, Nat.add_zero, Nat.add_assoc, Nat.reduceAdd, List.set_cons_zero, List.set_cons_succ, List.getElem?_cons_zero, List.getElem?_cons_succ, Option.bind_some, Nat.reduceLeDiff, Nat.reduceLT, maxLen, slOut, optI, Int.reduceSub, Int.sub_zero, Nat.zero_mul, if_pos, if_neg, w64, wu8, ↓condK_pos, ↓condK_neg, ↓gdK_pt, ↓gdK_nt, ↓gdK_pf, ↓gdK_nf, decide_eq_true_eq, cellsL, Value.cells, fillL, setAt, decide_true, decide_false, one_int, one_bool, one_string, one_slice, one_pointer, one_ptr, one_iface, one_nili, nat0, flat, slc, List.all_cons, List.all_nil, Bool.and_true, Bool.true_and, Bool.not_true, Bool.not_false, and_true, true_and, and_self, Nat.le_refl, List.take_succ_cons, List.take_zero, List.drop_succ_cons, List.drop_zero, Int.toNat_natCast, Int.reduceToNat, Nat.mul_one, List.take_nil, List.drop_nil, Int.reduceLE, Int.reduceAdd, Int.reduceLT, in_sp, l1Take_sp, hla, q1, h0, beq_self_eq_true])
          exact ⟨by simp, done_scalar (by simp [rres, rresL, rres1, put_at, getP_ptr, get_off0, e]) (mapV_agg _ _ (peekR_flat l)).symm keep_off⟩
        · have e : peekR l = [.int .i64 0, .int .i64 (takeN (l.take 4)), .int .i64 (takeN ((l.drop 4).take 4))] := if_pos ⟨by omega, by omega, h0⟩
          have q2 : (takeN (l.take 4) == 0) = false := by simp [h0]
          (dsimp only [c15]; simp (maxSteps := 1000000) (implicitDefEqProofs := false) (disch := omega) only [go_sem, Bool.false_eq_true, slc, aop, abin, aun, intB, ↓reduceIte, Nat.reduceEqDiff, Nat.reduceSub, ne_eq, not_false_eq_true, Option.map, Option.bind, get_off, get_off0, set_off, set_off0, List.append_assoc, List.cons_append, List.nil_append, List.length_append, List.length_cons, List.length_nil, Nat.zero_add, Nat.add_zero, Nat.add_assoc, Nat.reduceAdd, List.set_cons_zero, List.set_cons_succ, List.getElem?_cons_zero, List.getElem?_cons_succ, Option.bind_some, Nat.reduceLeDiff, Nat.reduceLT, maxLen, slOut, optI, Int.reduceSub, Int.sub_zero, Nat.zero_mul, if_pos, if_neg, w64, wu8, ↓condK_pos, ↓condK_neg, ↓gdK_pt, ↓gdK_nt, ↓gdK_pf, ↓gdK_nf, decide_eq_true_eq, cellsL, Value.cells, fillL, setAt, decide_true, decide_false, one_int, one_bool, one_string, one_slice, one_pointer, one_ptr, one_iface, one_nili, nat0, flat, slc, List.all_cons, List.all_nil, Bool.and_true, Bool.true_and, Bool.not_true, Bool.not_false, and_true, true_and, and_self, Nat.le_refl, List.take_succ_cons, List.take_zero, List.drop_succ_cons, List.drop_zero, Int.toNat_natCast, Int.reduceToNat, Nat.mul_one, List.take_nil, List.drop_nil, Int.reduceLE, Int.reduceAdd, Int.reduceLT, in_sp, l1Take_sp, hla, q1, q2])
          exact ⟨by simp, done_scalar (by simp [rres, rresL, rres1, put_at, getP_ptr, get_off0, e]) (mapV_agg _ _ (peekR_flat l)).symm keep_off⟩
      · have q1 : (decide ((14 : Int) ≤ l.length) && decide ((l.length : Int) ≤ 300)) = false := by simp; omega
        (dsimp only [c15]; simp (maxSteps := 1000000) (implicitDefEqProofs := false) (disch := omega) only [go_sem, Bool.false_eq_true, slc, aop, abin, aun, intB, ↓reduceIte, Nat.reduceEqDiff, Nat.reduceSub, ne_eq, not_false_eq_true, Option.map, Option.bind, get_off, get_off0, set_off, set_off0, List.append_assoc, List.cons_append, List.nil_append, List.length_append, List.length_cons, List.length_nil, Nat.zero_add, Nat.add_zero, Nat.add_assoc, Nat.reduceAdd, List.set_cons_zero, List.set_cons_succ, List.getElem?_cons_zero, List.getElem?_cons_succ, Option.bind_some, Nat.reduceLeDiff, Nat.reduceLT, maxLen, slOut, optI, Int.reduceSub, Int.sub_zero, Nat.zero_mul, if_pos, if_neg, w64, wu8, ↓condK_pos, ↓condK_neg, ↓gdK_pt, ↓gdK_nt, ↓gdK_pf, ↓gdK_nf, decide_eq_true_eq, cellsL, Value.cells, fillL, setAt, decide_true, decide_false, one_int, one_bool, one_string, one_slice, one_pointer, one_ptr, one_iface, one_nili, nat0, flat, slc, List.all_cons, List.all_nil, Bool.and_true, Bool.true_and, Bool.not_true, Bool.not_false, and_true, true_and, and_self, Nat.le_refl, List.take_succ_cons, List.take_zero, List.drop_succ_cons, List.drop_zero, Int.toNat_natCast, Int.reduceToNat, Nat.mul_one, List.take_nil, List.drop_nil, Int.reduceLE, Int.reduceAdd, Int.reduceLT, in_sp, l1Take_sp, hla, q1])
        have e : peekR l = [.int .i64 5, .int .i64 0, .int .i64 0] := if_neg (by omega)
        exact ⟨by simp, done_scalar (by simp [rres, rresL, rres1, put_at, getP_ptr, get_off0, e]) (mapV_agg _ _ (peekR_flat l)).symm keep_off⟩
    · cases hs
end Go.Proofs.Ytpndkgpkakhbmaa
