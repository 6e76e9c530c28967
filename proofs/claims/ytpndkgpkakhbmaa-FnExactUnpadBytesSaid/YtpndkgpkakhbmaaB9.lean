import Derived.Test.YtpndkgpkakhbmaaB8
set_option linter.unusedSimpArgs false
set_option linter.unusedVariables false
set_option maxRecDepth 100000
namespace Go.Proofs.Ytpndkgpkakhbmaa
open Go Go.AH
attribute [local go_sem ↓] awp_skip awp_ret awp_exit awp_seq awp_reg awp_drw awp_cond awp_block seqK_normal seqK_ret seqK_exit blkK_normal blkK_ret loopK_normal loopK_ret loopK_exit rops_nil qops_nil rops_op rops_op0 rops_opg qops_op qops_op0 qops_opg gdK_tt gdK_ff gdK_tf gdK_ft kont_some condK_true condK_false
attribute [local go_sem] tag_eq blkK_exit put_at argσ_nil argσ_cons ev_t ev_v ctx_get getB_bool getI_int getP_ptr Option.map_some Option.bind_some List.map_cons List.map_nil
attribute [local congr] kont_cong condK_cong gdK_cong awp_cong rops_cong qops_cong
-- spec.StreamOf
def c23 : AF := ⟨24,
  (.seq (.reg [⟨(some 6), none, .alloc 36 [(.int .i64 0), (.slice none 0 0)]⟩])
  (.seq (.seq (.reg [⟨(some 8), none, .mv (.t 0)⟩,
   ⟨(some 9), none, .mv (.t 1)⟩,
   ⟨(some 10), none, .call 60 [(.t 8), (.t 9)]⟩,
   ⟨(some 7), none, .mv (.t 10)⟩])
  (.seq (.reg [⟨(some 11), none, .mv (.t 7)⟩,
   ⟨(some 12), none, .bin .neq (.t 11) (.v (.int .i64 0))⟩])
  (.cond (.t 12) (.seq (.reg [⟨(some 13), none, .mv (.t 7)⟩,
   ⟨(some 14), none, .build [(.int .i64 0), (.slice none 0 0)] [(0, 1, (.t 13))]⟩,
   ⟨none, none, .st 2 (.t 6) (.t 14)⟩])
  .ret)
  .skip)))
  (.seq (.seq (.reg [⟨(some 15), none, .mv (.t 2)⟩,
   ⟨(some 16), none, .call 56 [(.t 15), (.v (.int .i64 0)), (.v (.int .i64 500))]⟩,
   ⟨(some 17), none, .un .not (.t 16)⟩])
  (.cond (.t 17) (.seq (.reg [⟨(some 18), none, .build [(.int .i64 0), (.slice none 0 0)] [(0, 1, (.v (.int .i64 2)))]⟩,
   ⟨none, none, .st 2 (.t 6) (.t 18)⟩])
  .ret)
  .skip))
  (.seq (.reg [⟨(some 19), none, .mv (.t 0)⟩,
   ⟨(some 20), none, .mv (.t 1)⟩,
   ⟨(some 21), none, .mv (.t 2)⟩,
   ⟨(some 22), none, .call 64 [(.t 19), (.t 20), (.t 21)]⟩,
   ⟨(some 23), none, .build [(.int .i64 0), (.slice none 0 0)] [(1, 1, (.t 22))]⟩,
   ⟨none, none, .st 2 (.t 6) (.t 23)⟩])
  .ret)))),
  [.cell 6 (some 2)]⟩
theorem k23 : cFn Try.prog Try.f23 = some c23 := by kernel_rfl
-- impl.StreamOf
def c24 : AF := ⟨23,
  (.seq (.reg [⟨(some 6), none, .alloc 36 [(.int .i64 0), (.slice none 0 0)]⟩])
  (.seq (.block 0 (.seq (.reg [⟨(some 8), none, .mv (.t 0)⟩,
   ⟨(some 9), none, .mv (.t 1)⟩,
   ⟨(some 10), none, .call 62 [(.t 8), (.t 9)]⟩,
   ⟨(some 11), none, .un .not (.t 10)⟩,
   ⟨(some 7), none, .mv (.t 11)⟩])
  (.cond (.t 7) (.seq (.reg [⟨(some 12), none, .build [(.int .i64 0), (.slice none 0 0)] [(0, 1, (.v (.int .i64 3)))]⟩,
   ⟨none, none, .st 2 (.t 6) (.t 12)⟩])
  .ret)
  (.seq (.reg [⟨(some 14), none, .mv (.t 2)⟩,
   ⟨(some 15), none, .call 58 [(.t 14), (.v (.int .i64 0)), (.v (.int .i64 500))]⟩,
   ⟨(some 16), none, .un .not (.t 15)⟩,
   ⟨(some 13), none, .mv (.t 16)⟩])
  (.cond (.t 13) (.seq (.reg [⟨(some 17), none, .build [(.int .i64 0), (.slice none 0 0)] [(0, 1, (.v (.int .i64 2)))]⟩,
   ⟨none, none, .st 2 (.t 6) (.t 17)⟩])
  .ret)
  .skip)))))
  (.seq (.reg [⟨(some 18), none, .mv (.t 0)⟩,
   ⟨(some 19), none, .mv (.t 1)⟩,
   ⟨(some 20), none, .mv (.t 2)⟩,
   ⟨(some 21), none, .call 65 [(.t 18), (.t 19), (.t 20)]⟩,
   ⟨(some 22), none, .build [(.int .i64 0), (.slice none 0 0)] [(0, 1, (.v (.int .i64 0))), (1, 1, (.t 21))]⟩,
   ⟨none, none, .st 2 (.t 6) (.t 22)⟩])
  .ret))),
  [.cell 6 (some 2)]⟩
theorem k24 : cFn Try.prog Try.f24 = some c24 := by kernel_rfl
-- laws.eqBytesResult
def c25 : AF := ⟨16,
  (.seq (.reg [⟨(some 2), none, .box 36 (.t 0)⟩,
   ⟨(some 3), none, .box 36 (.t 1)⟩,
   ⟨(some 4), none, .mv (.v (.bool false))⟩])
  (.seq (.seq (.reg [⟨(some 5), none, .fa (.t 2) 0⟩,
   ⟨(some 6), none, .ld (.t 5)⟩,
   ⟨(some 7), none, .fa (.t 3) 0⟩,
   ⟨(some 8), none, .ld (.t 7)⟩,
   ⟨(some 9), none, .bin .neq (.t 6) (.t 8)⟩])
  (.cond (.t 9) (.seq (.reg [⟨(some 4), none, .mv (.v (.bool false))⟩])
  .ret)
  .skip))
  (.seq (.seq (.reg [⟨(some 10), none, .fa (.t 2) 1⟩,
   ⟨(some 11), none, .ld (.t 10)⟩,
   ⟨(some 12), none, .fa (.t 3) 1⟩,
   ⟨(some 13), none, .ld (.t 12)⟩,
   ⟨(some 14), none, .call 19 [(.t 11), (.t 13)]⟩,
   ⟨(some 15), none, .un .not (.t 14)⟩])
  (.cond (.t 15) (.seq (.reg [⟨(some 4), none, .mv (.v (.bool false))⟩])
  .ret)
  .skip))
  (.seq (.reg [⟨(some 4), none, .mv (.v (.bool true))⟩])
  .ret)))),
  [.t 4]⟩
theorem k25 : cFn Try.prog Try.f25 = some c25 := by kernel_rfl
-- laws.markBytesResult
def c26 : AF := ⟨10,
  (.seq (.reg [⟨(some 2), none, .box 36 (.t 0)⟩,
   ⟨(some 4), none, .mv (.v (.int .i64 0))⟩])
  (.seq (.reg [⟨(some 5), none, .fa (.t 2) 1⟩,
   ⟨(some 6), none, .ld (.t 5)⟩,
   ⟨(some 7), none, .mv (.t 1)⟩,
   ⟨(some 8), none, .call 30 [(.t 6), (.t 7)]⟩,
   ⟨(some 1), none, .mv (.t 8)⟩])
  (.seq (.reg [⟨(some 9), none, .mv (.t 1)⟩,
   ⟨(some 4), none, .mv (.t 9)⟩])
  .ret))),
  [.t 4]⟩
theorem k26 : cFn Try.prog Try.f26 = some c26 := by kernel_rfl
-- laws.heldBytesResult
def c27 : AF := ⟨12,
  (.seq (.reg [⟨(some 2), none, .box 36 (.t 0)⟩,
   ⟨(some 4), none, .mv (.v (.int .i64 0))⟩])
  (.seq (.reg [⟨(some 5), none, .fa (.t 2) 1⟩,
   ⟨(some 6), none, .ld (.t 5)⟩,
   ⟨(some 7), none, .mv (.t 1)⟩,
   ⟨(some 8), none, .call 66 [(.t 6), (.t 7)]⟩,
   ⟨(some 1), none, .mv (.t 8)⟩])
  (.seq (.seq (.reg [⟨(some 9), none, .mv (.t 1)⟩,
   ⟨(some 10), none, .bin .lss (.t 9) (.v (.int .i64 0))⟩])
  (.cond (.t 10) (.seq (.reg [⟨(some 4), none, .mv (.v (.int .i64 (-1)))⟩])
  .ret)
  .skip))
  (.seq (.reg [⟨(some 11), none, .mv (.t 1)⟩,
   ⟨(some 4), none, .mv (.t 11)⟩])
  .ret)))),
  [.t 4]⟩
theorem k27 : cFn Try.prog Try.f27 = some c27 := by kernel_rfl
-- laws.FnExactStreamOf
def c5 : AF := ⟨51,
  (.seq (.reg [⟨(some 6), none, .mv (.v (.bool false))⟩])
  (.seq (.reg [⟨(some 12), none, .mv (.t 0)⟩,
   ⟨(some 13), none, .mv (.t 1)⟩,
   ⟨(some 14), none, .mv (.t 2)⟩,
   ⟨(some 15), none, .call 23 [(.t 12), (.t 13), (.t 14)]⟩,
   ⟨(some 7), none, .alloc 36 [(.int .i64 0), (.slice none 0 0)]⟩,
   ⟨none, none, .st 2 (.t 7) (.t 15)⟩])
  (.seq (.reg [⟨(some 16), none, .mv (.t 0)⟩,
   ⟨(some 17), none, .mv (.t 1)⟩,
   ⟨(some 18), none, .mv (.t 2)⟩,
   ⟨(some 19), none, .call 24 [(.t 16), (.t 17), (.t 18)]⟩,
   ⟨(some 8), none, .alloc 36 [(.int .i64 0), (.slice none 0 0)]⟩,
   ⟨none, none, .st 2 (.t 8) (.t 19)⟩])
  (.seq (.seq (.reg [⟨(some 20), none, .ldn 2 (.t 8)⟩,
   ⟨(some 21), none, .ldn 2 (.t 7)⟩,
   ⟨(some 22), none, .call 25 [(.t 20), (.t 21)]⟩,
   ⟨(some 23), none, .un .not (.t 22)⟩])
  (.cond (.t 23) (.seq (.reg [⟨(some 6), none, .mv (.v (.bool false))⟩])
  .ret)
  .skip))
  (.seq (.reg [⟨(some 9), none, .mv (.v (.int .i64 1))⟩])
  (.seq (.reg [⟨(some 24), none, .ldn 2 (.t 8)⟩,
   ⟨(some 25), none, .mv (.t 9)⟩,
   ⟨(some 26), none, .call 26 [(.t 24), (.t 25)]⟩,
   ⟨(some 9), none, .mv (.t 26)⟩])
  (.seq (.reg [⟨(some 10), none, .mv (.v (.int .i64 1))⟩])
  (.seq (.reg [⟨(some 27), none, .ldn 2 (.t 8)⟩,
   ⟨(some 28), none, .mv (.t 10)⟩,
   ⟨(some 29), none, .call 27 [(.t 27), (.t 28)]⟩,
   ⟨(some 10), none, .mv (.t 29)⟩])
  (.seq (.seq (.reg [⟨(some 30), none, .mv (.t 10)⟩,
   ⟨(some 31), none, .bin .lss (.t 30) (.v (.int .i64 0))⟩])
  (.cond (.t 31) (.seq (.reg [⟨(some 6), none, .mv (.v (.bool false))⟩])
  .ret)
  .skip))
  (.seq (.seq (.reg [⟨(some 32), none, .mv (.t 10)⟩,
   ⟨(some 33), none, .mv (.t 9)⟩,
   ⟨(some 34), none, .bin .neq (.t 32) (.t 33)⟩])
  (.cond (.t 34) (.seq (.reg [⟨(some 6), none, .mv (.v (.bool false))⟩])
  .ret)
  .skip))
  (.seq (.reg [⟨(some 35), none, .mv (.t 0)⟩,
   ⟨(some 36), none, .mv (.t 1)⟩,
   ⟨(some 37), none, .mv (.t 2)⟩,
   ⟨(some 38), none, .call 24 [(.t 35), (.t 36), (.t 37)]⟩,
   ⟨(some 11), none, .alloc 36 [(.int .i64 0), (.slice none 0 0)]⟩,
   ⟨none, none, .st 2 (.t 11) (.t 38)⟩])
  (.seq (.seq (.reg [⟨(some 39), none, .ldn 2 (.t 11)⟩,
   ⟨(some 40), none, .ldn 2 (.t 7)⟩,
   ⟨(some 41), none, .call 25 [(.t 39), (.t 40)]⟩,
   ⟨(some 42), none, .un .not (.t 41)⟩])
  (.cond (.t 42) (.seq (.reg [⟨(some 6), none, .mv (.v (.bool false))⟩])
  .ret)
  .skip))
  (.seq (.reg [⟨(some 10), none, .mv (.v (.int .i64 1))⟩])
  (.seq (.reg [⟨(some 43), none, .ldn 2 (.t 8)⟩,
   ⟨(some 44), none, .mv (.t 10)⟩,
   ⟨(some 45), none, .call 27 [(.t 43), (.t 44)]⟩,
   ⟨(some 10), none, .mv (.t 45)⟩])
  (.seq (.seq (.reg [⟨(some 46), none, .mv (.t 10)⟩,
   ⟨(some 47), none, .bin .lss (.t 46) (.v (.int .i64 0))⟩])
  (.cond (.t 47) (.seq (.reg [⟨(some 6), none, .mv (.v (.bool false))⟩])
  .ret)
  .skip))
  (.seq (.seq (.reg [⟨(some 48), none, .mv (.t 10)⟩,
   ⟨(some 49), none, .mv (.t 9)⟩,
   ⟨(some 50), none, .bin .neq (.t 48) (.t 49)⟩])
  (.cond (.t 50) (.seq (.reg [⟨(some 6), none, .mv (.v (.bool false))⟩])
  .ret)
  .skip))
  (.seq (.reg [⟨(some 6), none, .mv (.v (.bool true))⟩])
  .ret))))))))))))))))),
  [.t 6]⟩
theorem k5 : cFn Try.prog Try.f5 = some c5 := by kernel_rfl
/-! An answer of bytes: its code and its bytes -/
def brV (h : Heap) (c : Int) : Option (List Int) → Value × Heap
  | none => (.agg ⟨[.int .i64 c, .slice none 0 0]⟩, h)
  | some l => (.agg ⟨[.int .i64 c, slc h.length 0 l.length]⟩, h ++ [.cells 5 (u8s l)])
theorem brV_fr (h : Heap) (c : Int) (o : Option (List Int)) : Fr h.length h (brV h c o).2 := by
  cases o
  · exact Fr.refl _ _
  · exact Fr.push (Nat.le_refl _) _
theorem done_br0 {h L : Heap} {res : List AR} {σ : Nat → Value} {c : Int} (hr : rres ⟨σ, h ++ L⟩ res = some (.agg ⟨[.int .i64 c, .slice none 0 0]⟩)) :
    Done h res (.agg ⟨[.int .i64 c, .slice none 0 0]⟩) h ⟨σ, h ++ L⟩ := done_scalar hr (by rfl) keep_off
theorem done_br1 {h J L : Heap} {res : List AR} {σ : Nat → Value} {e : TypeId} {l : List Int} {n : Nat} {c : Int} (hr : rres ⟨σ, h ++ (J ++ .cells e (u8s l) :: L)⟩ res = some (.agg ⟨[.int .i64 c, .slice (some ⟨h.length + J.length, 0, none⟩) n n]⟩)) :
    Done h res (.agg ⟨[.int .i64 c, slc h.length 0 n]⟩) (h ++ [.cells e (u8s l)]) ⟨σ, h ++ (J ++ .cells e (u8s l) :: L)⟩ := by
  refine done_one (h.length + J.length) _ hr (by omega) ?_ ?_ keep_off
  · show _ = Value.agg ⟨[.int .i64 c, .slice (some ⟨unN _ _ _ h.length, 0, none⟩) n n]⟩
    rw [un_kept]
  · show (h ++ (J ++ .cells e (u8s l) :: L))[h.length + J.length]? = _
    rw [get_off, get_off0, List.getElem?_cons_zero]
    show _ = some (Blk.cells e (mapVs _ (u8s l)))
    rw [show u8s l = l.map (.int .u8) from rfl, mapVs_ints]
/-- The same where the block stands at a known place behind. -/
theorem done_br2 {h L : Heap} {res : List AR} {σ : Nat → Value} {e : TypeId} {l : List Int} {n i : Nat} {c : Int} (hr : rres ⟨σ, h ++ L⟩ res = some (.agg ⟨[.int .i64 c, .slice (some ⟨h.length + i, 0, none⟩) n n]⟩)) (hi : L[i]? = some (.cells e (u8s l))) :
    Done h res (.agg ⟨[.int .i64 c, slc h.length 0 n]⟩) (h ++ [.cells e (u8s l)]) ⟨σ, h ++ L⟩ := by
  refine done_one (h.length + i) _ hr (by omega) ?_ ?_ keep_off
  · show _ = Value.agg ⟨[.int .i64 c, .slice (some ⟨unN _ _ _ h.length, 0, none⟩) n n]⟩
    rw [un_kept]
  · show (h ++ L)[h.length + i]? = _
    rw [get_off, hi]
    show _ = some (Blk.cells e (mapVs _ (u8s l)))
    rw [show u8s l = l.map (.int .u8) from rfl, mapVs_ints]
def strM (k s n : Int) : Int × Option (List Int) :=
  if askB k s then if 0 ≤ n ∧ n ≤ 500 then (0, some (streamL (st0 k s) n.toNat)) else (2, none) else (3, none)
def strOf_sp : Sp := fun _ args h => match args with
  | [.int .i64 k, .int .i64 s, .int .i64 n] => some ((brV h (strM k s n).1 (strM k s n).2).1, (brV h (strM k s n).1 (strM k s n).2).2)
  | _ => none
theorem strOfS_ok : Ok Try.prog 23 strOf_sp := by
  refine ok_quiet (OkΓ.cons ask_ok (OkΓ.cons l1In_ok (OkΓ.cons streamS_ok (OkΓ.nil _)))) Try.func23 (by kernel_rfl) k23 ?_ ?_
  · intro lo args h r h' hs
    unfold strOf_sp at hs; split at hs <;> cases hs; exact brV_fr _ _ _
  · intro lo args h r h' hs
    unfold strOf_sp at hs; split at hs <;> cases hs
    rename_i k s n
    by_cases h1 : askB k s
    · have e1 : (if askB k s then (0 : Int) else 3) = 0 := if_pos h1
      by_cases h2 : 0 ≤ n ∧ n ≤ 500
      · have q1 : (decide (0 ≤ n) && decide (n ≤ 500)) = true := by simp [h2]
        have q2 : (askB k s ∧ 0 ≤ n ∧ n ≤ 1000) = True := eq_true ⟨h1, by omega, by omega⟩
        have e : strM k s n = (0, some (streamL (st0 k s) n.toNat)) := by unfold strM; rw [if_pos h1, if_pos h2]
        rw [e]
        (dsimp only [c23]; simp (maxSteps := 1000000) (implicitDefEqProofs := false) (disch := omega) only [go_sem, Bool.false_eq_true, slc, aop, abin, aun, intB, ↓reduceIte, Nat.reduceEqDiff, Nat.reduceSub, ne_eq, not_false_eq_true, Option.map, Option.bind, get_off, get_off0, set_off, set_off0, List.append_assoc, List.cons_append, List.nil_append, List.length_append, List.length_cons, List.length_nil, Nat.zero_add, Nat.add_zero, Nat.add_assoc, Nat.reduceAdd, List.set_cons_zero, List.set_cons_succ, List.getElem?_cons_zero, List.getElem?_cons_succ, Option.bind_some, Nat.reduceLeDiff, Nat.reduceLT, maxLen, slOut, optI, Int.reduceSub, Int.sub_zero, Nat.zero_mul, if_pos, if_neg, w64, wu8, ↓condK_pos, ↓condK_neg, ↓gdK_pt, ↓gdK_nt, ↓gdK_pf, ↓gdK_nf, decide_eq_true_eq, cellsL, Value.cells, fillL, setAt, decide_true, decide_false, one_int, one_bool, one_string, one_slice, one_pointer, one_ptr, one_iface, one_nili, nat0, flat, slc, List.all_cons, List.all_nil, Bool.and_true, Bool.true_and, Bool.not_true, Bool.not_false, and_true, true_and, and_self, Nat.le_refl, List.take_succ_cons, List.take_zero, List.drop_succ_cons, List.drop_zero, Int.toNat_natCast, Int.reduceToNat, Nat.mul_one, List.take_nil, List.drop_nil, Int.reduceLE, Int.reduceAdd, Int.reduceLT, ask_sp, e1, in_sp, q1, stream_sp, q2, bne_self_eq_false])
        exact ⟨by simp, by simp only [brV, streamL_len]; exact done_br2 (i := 1) (by simp [rres, rresL, rres1, put_at, getP_ptr, get_off0]) rfl⟩
      · have q1 : (decide (0 ≤ n) && decide (n ≤ 500)) = false := by simp; omega
        have e : strM k s n = (2, none) := by unfold strM; rw [if_pos h1, if_neg h2]
        rw [e]
        (dsimp only [c23]; simp (maxSteps := 1000000) (implicitDefEqProofs := false) (disch := omega) only [go_sem, Bool.false_eq_true, slc, aop, abin, aun, intB, ↓reduceIte, Nat.reduceEqDiff, Nat.reduceSub, ne_eq, not_false_eq_true, Option.map, Option.bind, get_off, get_off0, set_off, set_off0, List.append_assoc, List.cons_append, List.nil_append, List.length_append, List.length_cons, List.length_nil, Nat.zero_add, Nat.add_zero, Nat.add_assoc, Nat.reduceAdd, List.set_cons_zero, List.set_cons_succ, List.getElem?_cons_zero, List.getElem?_cons_succ, Option.bind_some, Nat.reduceLeDiff, Nat.reduceLT, maxLen, slOut, optI, Int.reduceSub, Int.sub_zero, Nat.zero_mul, if_pos, if_neg, w64, wu8, ↓condK_pos, ↓condK_neg, ↓gdK_pt, ↓gdK_nt, ↓gdK_pf, ↓gdK_nf, decide_eq_true_eq, cellsL, Value.cells, fillL, setAt, decide_true, decide_false, one_int, one_bool, one_string, one_slice, one_pointer, one_ptr, one_iface, one_nili, nat0, flat, slc, List.all_cons, List.all_nil, Bool.and_true, Bool.true_and, Bool.not_true, Bool.not_false, and_true, true_and, and_self, Nat.le_refl, List.take_succ_cons, List.take_zero, List.drop_succ_cons, List.drop_zero, Int.toNat_natCast, Int.reduceToNat, Nat.mul_one, List.take_nil, List.drop_nil, Int.reduceLE, Int.reduceAdd, Int.reduceLT, ask_sp, e1, in_sp, q1, bne_self_eq_false])
        exact ⟨by simp, done_br0 (by simp [rres, rresL, rres1, put_at, getP_ptr, get_off0])⟩
    · have e1 : (if askB k s then (0 : Int) else 3) = 3 := if_neg h1
      have e : strM k s n = (3, none) := by unfold strM; rw [if_neg h1]
      have q3 : ((3 : Int) != 0) = true := rfl
      rw [e]
      (dsimp only [c23]; simp (maxSteps := 1000000) (implicitDefEqProofs := false) (disch := omega) only [go_sem, Bool.false_eq_true, slc, aop, abin, aun, intB, ↓reduceIte, Nat.reduceEqDiff, Nat.reduceSub, ne_eq, not_false_eq_true, Option.map, Option.bind, get_off, get_off0, set_off, set_off0, List.append_assoc, List.cons_append, List.nil_append, List.length_append, List.length_cons, List.length_nil, Nat.zero_add, Nat.add_zero, Nat.add_assoc, Nat.reduceAdd, List.set_cons_zero, List.set_cons_succ, List.getElem?_cons_zero, List.getElem?_cons_succ, Option.bind_some, Nat.reduceLeDiff, Nat.reduceLT, maxLen, slOut, optI, Int.reduceSub, Int.sub_zero, Nat.zero_mul, if_pos, if_neg, w64, wu8, ↓condK_pos, ↓condK_neg, ↓gdK_pt, ↓gdK_nt, ↓gdK_pf, ↓gdK_nf, decide_eq_true_eq, cellsL, Value.cells, fillL, setAt, decide_true, decide_false, one_int, one_bool, one_string, one_slice, one_pointer, one_ptr, one_iface, one_nili, nat0, flat, slc, List.all_cons, List.all_nil, Bool.and_true, Bool.true_and, Bool.not_true, Bool.not_false, and_true, true_and, and_self, Nat.le_refl, List.take_succ_cons, List.take_zero, List.drop_succ_cons, List.drop_zero, Int.toNat_natCast, Int.reduceToNat, Nat.mul_one, List.take_nil, List.drop_nil, Int.reduceLE, Int.reduceAdd, Int.reduceLT, ask_sp, e1, q3])
      exact ⟨by simp, done_br0 (by simp [rres, rresL, rres1, put_at, getP_ptr, get_off0])⟩
theorem strOfI_ok : Ok Try.prog 24 strOf_sp := by
  refine ok_quiet (OkΓ.cons keyed_ok (OkΓ.cons in_ok (OkΓ.cons streamI_ok (OkΓ.nil _)))) Try.func24 (by kernel_rfl) k24 ?_ ?_
  · intro lo args h r h' hs
    unfold strOf_sp at hs; split at hs <;> cases hs; exact brV_fr _ _ _
  · intro lo args h r h' hs
    unfold strOf_sp at hs; split at hs <;> cases hs
    rename_i k s n
    by_cases h1 : askB k s
    · have e1 : decide (askB k s) = true := decide_eq_true h1
      by_cases h2 : 0 ≤ n ∧ n ≤ 500
      · have q1 : (decide (0 ≤ n) && decide (n ≤ 500)) = true := by simp [h2]
        have q2 : (askB k s ∧ 0 ≤ n ∧ n ≤ 1000) = True := eq_true ⟨h1, by omega, by omega⟩
        have e : strM k s n = (0, some (streamL (st0 k s) n.toNat)) := by unfold strM; rw [if_pos h1, if_pos h2]
        rw [e]
        (dsimp only [c24]; simp (maxSteps := 1000000) (implicitDefEqProofs := false) (disch := omega) only [go_sem, Bool.false_eq_true, slc, aop, abin, aun, intB, ↓reduceIte, Nat.reduceEqDiff, Nat.reduceSub, ne_eq, not_false_eq_true, Option.map, Option.bind, get_off, get_off0, set_off, set_off0, List.append_assoc, List.cons_append, List.nil_append, List.length_append, List.length_cons, List.length_nil, Nat.zero_add, Nat.add_zero, Nat.add_assoc, Nat.reduceAdd, List.set_cons_zero, List.set_cons_succ, List.getElem?_cons_zero, List.getElem?_cons_succ, Option.bind_some, Nat.reduceLeDiff, Nat.reduceLT, maxLen, slOut, optI, Int.reduceSub, Int.sub_zero, Nat.zero_mul, if_pos, if_neg, w64, wu8, ↓condK_pos, ↓condK_neg, ↓gdK_pt, ↓gdK_nt, ↓gdK_pf, ↓gdK_nf, decide_eq_true_eq, cellsL, Value.cells, fillL, setAt, decide_true, decide_false, one_int, one_bool, one_string, one_slice, one_pointer, one_ptr, one_iface, one_nili, nat0, flat, slc, List.all_cons, List.all_nil, Bool.and_true, Bool.true_and, Bool.not_true, Bool.not_false, and_true, true_and, and_self, Nat.le_refl, List.take_succ_cons, List.take_zero, List.drop_succ_cons, List.drop_zero, Int.toNat_natCast, Int.reduceToNat, Nat.mul_one, List.take_nil, List.drop_nil, Int.reduceLE, Int.reduceAdd, Int.reduceLT, keyed_sp, e1, in_sp, q1, stream_sp, q2])
        exact ⟨by simp, by simp only [brV, streamL_len]; exact done_br2 (i := 1) (by simp [rres, rresL, rres1, put_at, getP_ptr, get_off0]) rfl⟩
      · have q1 : (decide (0 ≤ n) && decide (n ≤ 500)) = false := by simp; omega
        have e : strM k s n = (2, none) := by unfold strM; rw [if_pos h1, if_neg h2]
        rw [e]
        (dsimp only [c24]; simp (maxSteps := 1000000) (implicitDefEqProofs := false) (disch := omega) only [go_sem, Bool.false_eq_true, slc, aop, abin, aun, intB, ↓reduceIte, Nat.reduceEqDiff, Nat.reduceSub, ne_eq, not_false_eq_true, Option.map, Option.bind, get_off, get_off0, set_off, set_off0, List.append_assoc, List.cons_append, List.nil_append, List.length_append, List.length_cons, List.length_nil, Nat.zero_add, Nat.add_zero, Nat.add_assoc, Nat.reduceAdd, List.set_cons_zero, List.set_cons_succ, List.getElem?_cons_zero, List.getElem?_cons_succ, Option.bind_some, Nat.reduceLeDiff, Nat.reduceLT, maxLen, slOut, optI, Int.reduceSub, Int.sub_zero, Nat.zero_mul, if_pos, if_neg, w64, wu8, ↓condK_pos, ↓condK_neg, ↓gdK_pt, ↓gdK_nt, ↓gdK_pf, ↓gdK_nf, decide_eq_true_eq, cellsL, Value.cells, fillL, setAt, decide_true, decide_false, one_int, one_bool, one_string, one_slice, one_pointer, one_ptr, one_iface, one_nili, nat0, flat, slc, List.all_cons, List.all_nil, Bool.and_true, Bool.true_and, Bool.not_true, Bool.not_false, and_true, true_and, and_self, Nat.le_refl, List.take_succ_cons, List.take_zero, List.drop_succ_cons, List.drop_zero, Int.toNat_natCast, Int.reduceToNat, Nat.mul_one, List.take_nil, List.drop_nil, Int.reduceLE, Int.reduceAdd, Int.reduceLT, keyed_sp, e1, in_sp, q1])
        exact ⟨by simp, done_br0 (by simp [rres, rresL, rres1, put_at, getP_ptr, get_off0])⟩
    · have e1 : decide (askB k s) = false := decide_eq_false h1
      have e : strM k s n = (3, none) := by unfold strM; rw [if_neg h1]
      rw [e]
      (dsimp only [c24]; simp (maxSteps := 1000000) (implicitDefEqProofs := false) (disch := omega) only [go_sem, Bool.false_eq_true, slc, aop, abin, aun, intB, ↓reduceIte, Nat.reduceEqDiff, Nat.reduceSub, ne_eq, not_false_eq_true, Option.map, Option.bind, get_off, get_off0, set_off, set_off0, List.append_assoc, List.cons_append, List.nil_append, List.length_append, List.length_cons, List.length_nil, Nat.zero_add, Nat.add_zero, Nat.add_assoc, Nat.reduceAdd, List.set_cons_zero, List.set_cons_succ, List.getElem?_cons_zero, List.getElem?_cons_succ, Option.bind_some, Nat.reduceLeDiff, Nat.reduceLT, maxLen, slOut, optI, Int.reduceSub, Int.sub_zero, Nat.zero_mul, if_pos, if_neg, w64, wu8, ↓condK_pos, ↓condK_neg, ↓gdK_pt, ↓gdK_nt, ↓gdK_pf, ↓gdK_nf, decide_eq_true_eq, cellsL, Value.cells, fillL, setAt, decide_true, decide_false, one_int, one_bool, one_string, one_slice, one_pointer, one_ptr, one_iface, one_nili, nat0, flat, slc, List.all_cons, List.all_nil, Bool.and_true, Bool.true_and, Bool.not_true, Bool.not_false, and_true, true_and, and_self, Nat.le_refl, List.take_succ_cons, List.take_zero, List.drop_succ_cons, List.drop_zero, Int.toNat_natCast, Int.reduceToNat, Nat.mul_one, List.take_nil, List.drop_nil, Int.reduceLE, Int.reduceAdd, Int.reduceLT, keyed_sp, e1])
      exact ⟨by simp, done_br0 (by simp [rres, rresL, rres1, put_at, getP_ptr, get_off0])⟩
/-! Two such answers alike; one written over; one looked at -/
def eqBR_sp : Sp := fun _ args h => match args with
  | [.agg ⟨[.int .i64 a, s]⟩, .agg ⟨[.int .i64 b, t]⟩] => (rdU h s).bind fun l => if one s ∧ one t ∧ a = b ∧ rdU h t = some l ∧ l.length ≤ 140737488355328 then some (.bool true, h) else none
  | _ => none
theorem eqBR_ok : Ok Try.prog 25 eqBR_sp := by
  refine ok_quiet (OkΓ.cons eqB_ok (OkΓ.nil _)) Try.func25 (by kernel_rfl) k25 ?_ ?_
  · intro lo args h r h' hs
    unfold eqBR_sp at hs; split at hs
    · obtain ⟨l, _, hs⟩ := Option.bind_eq_some_iff.1 hs
      split at hs <;> cases hs; exact Fr.refl _ _
    · cases hs
  · intro lo args h r h' hs
    unfold eqBR_sp at hs; split at hs
    · rename_i a s b t
      obtain ⟨l, hl, hs⟩ := Option.bind_eq_some_iff.1 hs
      split at hs <;> cases hs
      rename_i hc
      obtain ⟨hs1, ht1, rfl, hr, hlen⟩ := hc
      have hA := fun l' => rdU_app hl l'
      have hB := fun l' => rdU_app hr l'
      obtain ⟨a1, c1, rfl, _, _⟩ := rdU_spec hl
      obtain ⟨a2, c2, rfl, _, _⟩ := rdU_spec hr
      (dsimp only [c25]; simp (maxSteps := 1000000) (implicitDefEqProofs := false) (disch := omega) only [go_sem, Bool.false_eq_true, slc, aop, abin, aun, intB, ↓reduceIte, Nat.reduceEqDiff, Nat.reduceSub, ne_eq, not_false_eq_true, Option.map, Option.bind, get_off, get_off0, set_off, set_off0, List.append_assoc, List.cons_append, List.nil_append, List.length_append, List.length_cons, List.length_nil, Nat.zero_add, Nat.add_zero, Nat.add_assoc, Nat.reduceAdd, List.set_cons_zero, List.set_cons_succ, List.getElem?_cons_zero, List.getElem?_cons_succ, Option.bind_some, Nat.reduceLeDiff, Nat.reduceLT, maxLen, slOut, optI, Int.reduceSub, Int.sub_zero, Nat.zero_mul, if_pos, if_neg, w64, wu8, ↓condK_pos, ↓condK_neg, ↓gdK_pt, ↓gdK_nt, ↓gdK_pf, ↓gdK_nf, decide_eq_true_eq, cellsL, Value.cells, fillL, setAt, decide_true, decide_false, one_int, one_bool, one_string, one_slice, one_pointer, one_ptr, one_iface, one_nili, nat0, flat, slc, List.all_cons, List.all_nil, Bool.and_true, Bool.true_and, Bool.not_true, Bool.not_false, and_true, true_and, and_self, Nat.le_refl, List.take_succ_cons, List.take_zero, List.drop_succ_cons, List.drop_zero, Int.toNat_natCast, Int.reduceToNat, Nat.mul_one, List.take_nil, List.drop_nil, Int.reduceLE, Int.reduceAdd, Int.reduceLT, bne_self_eq_false, eqB_sp, hA, hB, Option.bind_some])
      exact ⟨by simp, done_scalar (by simp [rres, rresL, rres1, put_at]) (mapV_flat _ rfl).symm keep_off⟩
    · cases hs
end Go.Proofs.Ytpndkgpkakhbmaa
