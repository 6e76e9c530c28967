import Derived.Test.YtpndkgpkakhbmaaB12
set_option linter.unusedSimpArgs false
set_option linter.unusedVariables false
set_option maxRecDepth 100000
namespace Go.Proofs.Ytpndkgpkakhbmaa
open Go Go.AH
attribute [local go_sem ↓] awp_skip awp_ret awp_exit awp_seq awp_reg awp_drw awp_cond awp_block seqK_normal seqK_ret seqK_exit blkK_normal blkK_ret loopK_normal loopK_ret loopK_exit rops_nil qops_nil rops_op rops_op0 rops_opg qops_op qops_op0 qops_opg gdK_tt gdK_ff gdK_tf gdK_ft kont_some condK_true condK_false
attribute [local go_sem] tag_eq blkK_exit put_at argσ_nil argσ_cons ev_t ev_v ctx_get getB_bool getI_int getP_ptr Option.map_some Option.bind_some List.map_cons List.map_nil
attribute [local congr] kont_cong condK_cong gdK_cong awp_cong rops_cong qops_cong
-- spec.SealBytes
def c43 : AF := ⟨32,
  (.seq (.reg [⟨(some 6), none, .alloc 36 [(.int .i64 0), (.slice none 0 0)]⟩])
  (.seq (.seq (.reg [⟨(some 9), none, .mv (.t 0)⟩,
   ⟨(some 10), none, .mv (.t 1)⟩,
   ⟨(some 11), none, .call 60 [(.t 9), (.t 10)]⟩,
   ⟨(some 7), none, .mv (.t 11)⟩])
  (.seq (.reg [⟨(some 12), none, .mv (.t 7)⟩,
   ⟨(some 13), none, .bin .neq (.t 12) (.v (.int .i64 0))⟩])
  (.cond (.t 13) (.seq (.reg [⟨(some 14), none, .mv (.t 7)⟩,
   ⟨(some 15), none, .build [(.int .i64 0), (.slice none 0 0)] [(0, 1, (.t 14))]⟩,
   ⟨none, none, .st 2 (.t 6) (.t 15)⟩])
  .ret)
  .skip)))
  (.seq (.seq (.reg [⟨(some 16), none, .mv (.t 2)⟩,
   ⟨(some 17), none, .len (.t 16)⟩,
   ⟨(some 18), none, .bin .gtr (.t 17) (.v (.int .i64 480))⟩])
  (.cond (.t 18) (.seq (.reg [⟨(some 19), none, .build [(.int .i64 0), (.slice none 0 0)] [(0, 1, (.v (.int .i64 2)))]⟩,
   ⟨none, none, .st 2 (.t 6) (.t 19)⟩])
  .ret)
  .skip))
  (.seq (.reg [⟨(some 20), none, .mv (.t 0)⟩,
   ⟨(some 21), none, .mv (.t 1)⟩,
   ⟨(some 22), none, .mv (.t 2)⟩,
   ⟨(some 23), none, .call 79 [(.t 20), (.t 21), (.t 22)]⟩,
   ⟨(some 8), none, .mv (.t 23)⟩])
  (.seq (.reg [⟨(some 24), none, .mv (.t 8)⟩,
   ⟨(some 25), none, .mv (.t 0)⟩,
   ⟨(some 26), none, .mv (.t 1)⟩,
   ⟨(some 27), none, .mv (.t 8)⟩,
   ⟨(some 28), none, .call 61 [(.t 25), (.t 26), (.t 27)]⟩,
   ⟨(some 29), none, .call 80 [(.t 28), (.v (.int .i64 4))]⟩,
   ⟨(some 30), none, .app 5 1 1 (.t 24) (.t 29)⟩,
   ⟨(some 31), none, .build [(.int .i64 0), (.slice none 0 0)] [(1, 1, (.t 30))]⟩,
   ⟨none, none, .st 2 (.t 6) (.t 31)⟩])
  .ret))))),
  [.cell 6 (some 2)]⟩
theorem k43 : cFn Try.prog Try.f43 = some c43 := by kernel_rfl
-- impl.SealBytes
def c44 : AF := ⟨31,
  (.seq (.reg [⟨(some 6), none, .alloc 36 [(.int .i64 0), (.slice none 0 0)]⟩])
  (.seq (.block 0 (.seq (.reg [⟨(some 9), none, .mv (.t 0)⟩,
   ⟨(some 10), none, .mv (.t 1)⟩,
   ⟨(some 11), none, .call 62 [(.t 9), (.t 10)]⟩,
   ⟨(some 12), none, .un .not (.t 11)⟩,
   ⟨(some 8), none, .mv (.t 12)⟩])
  (.cond (.t 8) (.seq (.reg [⟨(some 13), none, .build [(.int .i64 0), (.slice none 0 0)] [(0, 1, (.v (.int .i64 3)))]⟩,
   ⟨none, none, .st 2 (.t 6) (.t 13)⟩])
  .ret)
  (.seq (.reg [⟨(some 15), none, .mv (.t 2)⟩,
   ⟨(some 16), none, .len (.t 15)⟩,
   ⟨(some 17), none, .bin .gtr (.t 16) (.v (.int .i64 480))⟩,
   ⟨(some 14), none, .mv (.t 17)⟩])
  (.cond (.t 14) (.seq (.reg [⟨(some 18), none, .build [(.int .i64 0), (.slice none 0 0)] [(0, 1, (.v (.int .i64 2)))]⟩,
   ⟨none, none, .st 2 (.t 6) (.t 18)⟩])
  .ret)
  .skip)))))
  (.seq (.reg [⟨(some 19), none, .mv (.t 0)⟩,
   ⟨(some 20), none, .mv (.t 1)⟩,
   ⟨(some 21), none, .mv (.t 2)⟩,
   ⟨(some 22), none, .call 81 [(.t 19), (.t 20), (.t 21)]⟩,
   ⟨(some 7), none, .mv (.t 22)⟩])
  (.seq (.reg [⟨(some 23), none, .mv (.t 7)⟩,
   ⟨(some 24), none, .mv (.t 0)⟩,
   ⟨(some 25), none, .mv (.t 1)⟩,
   ⟨(some 26), none, .mv (.t 7)⟩,
   ⟨(some 27), none, .call 63 [(.t 24), (.t 25), (.t 26)]⟩,
   ⟨(some 28), none, .call 82 [(.t 27), (.v (.int .i64 4))]⟩,
   ⟨(some 29), none, .app 5 1 1 (.t 23) (.t 28)⟩,
   ⟨(some 30), none, .build [(.int .i64 0), (.slice none 0 0)] [(0, 1, (.v (.int .i64 0))), (1, 1, (.t 29))]⟩,
   ⟨none, none, .st 2 (.t 6) (.t 30)⟩])
  .ret)))),
  [.cell 6 (some 2)]⟩
theorem k44 : cFn Try.prog Try.f44 = some c44 := by kernel_rfl
-- laws.FnExactSealBytes
def c10 : AF := ⟨76,
  (.seq (.reg [⟨(some 6), none, .mv (.v (.bool false))⟩])
  (.seq (.seq (.reg [⟨(some 14), none, .mv (.t 2)⟩,
   ⟨(some 15), none, .len (.t 14)⟩,
   ⟨(some 16), none, .bin .gtr (.t 15) (.v (.int .i64 1048576))⟩])
  (.cond (.t 16) (.seq (.reg [⟨(some 6), none, .mv (.v (.bool true))⟩])
  .ret)
  .skip))
  (.seq (.reg [⟨(some 17), none, .mv (.t 0)⟩,
   ⟨(some 18), none, .mv (.t 1)⟩,
   ⟨(some 19), none, .mv (.t 2)⟩,
   ⟨(some 20), none, .call 16 [(.t 19)]⟩,
   ⟨(some 21), none, .call 43 [(.t 17), (.t 18), (.t 20)]⟩,
   ⟨(some 7), none, .alloc 36 [(.int .i64 0), (.slice none 0 0)]⟩,
   ⟨none, none, .st 2 (.t 7) (.t 21)⟩])
  (.seq (.reg [⟨(some 22), none, .mv (.t 2)⟩,
   ⟨(some 23), none, .call 16 [(.t 22)]⟩,
   ⟨(some 8), none, .mv (.t 23)⟩])
  (.seq (.reg [⟨(some 24), none, .mv (.t 0)⟩,
   ⟨(some 25), none, .mv (.t 1)⟩,
   ⟨(some 26), none, .mv (.t 8)⟩,
   ⟨(some 27), none, .call 44 [(.t 24), (.t 25), (.t 26)]⟩,
   ⟨(some 9), none, .alloc 36 [(.int .i64 0), (.slice none 0 0)]⟩,
   ⟨none, none, .st 2 (.t 9) (.t 27)⟩])
  (.seq (.seq (.reg [⟨(some 28), none, .ldn 2 (.t 9)⟩,
   ⟨(some 29), none, .ldn 2 (.t 7)⟩,
   ⟨(some 30), none, .call 25 [(.t 28), (.t 29)]⟩,
   ⟨(some 31), none, .un .not (.t 30)⟩])
  (.cond (.t 31) (.seq (.reg [⟨(some 6), none, .mv (.v (.bool false))⟩])
  .ret)
  .skip))
  (.seq (.seq (.reg [⟨(some 32), none, .mv (.t 8)⟩,
   ⟨(some 33), none, .mv (.t 2)⟩,
   ⟨(some 34), none, .call 16 [(.t 33)]⟩,
   ⟨(some 35), none, .call 19 [(.t 32), (.t 34)]⟩,
   ⟨(some 36), none, .un .not (.t 35)⟩])
  (.cond (.t 36) (.seq (.reg [⟨(some 6), none, .mv (.v (.bool false))⟩])
  .ret)
  .skip))
  (.seq (.reg [⟨(some 10), none, .mv (.v (.int .i64 1))⟩])
  (.seq (.reg [⟨(some 37), none, .mv (.t 8)⟩,
   ⟨(some 38), none, .mv (.t 10)⟩,
   ⟨(some 39), none, .call 30 [(.t 37), (.t 38)]⟩,
   ⟨(some 10), none, .mv (.t 39)⟩])
  (.seq (.seq (.reg [⟨(some 40), none, .mv (.t 10)⟩,
   ⟨(some 41), none, .bin .lss (.t 40) (.v (.int .i64 0))⟩,
   ⟨(some 42), none, .mv (.t 41)⟩,
   ⟨(some 43), (some (42, false)), .ldn 2 (.t 9)⟩,
   ⟨(some 44), (some (42, false)), .ldn 2 (.t 7)⟩,
   ⟨(some 45), (some (42, false)), .call 25 [(.t 43), (.t 44)]⟩,
   ⟨(some 46), (some (42, false)), .un .not (.t 45)⟩,
   ⟨(some 47), none, .pick (.t 42) (.v (.bool true)) (.t 46)⟩])
  (.cond (.t 47) (.seq (.reg [⟨(some 6), none, .mv (.v (.bool false))⟩])
  .ret)
  .skip))
  (.seq (.reg [⟨(some 11), none, .mv (.v (.int .i64 1))⟩])
  (.seq (.reg [⟨(some 48), none, .ldn 2 (.t 9)⟩,
   ⟨(some 49), none, .mv (.t 11)⟩,
   ⟨(some 50), none, .call 26 [(.t 48), (.t 49)]⟩,
   ⟨(some 11), none, .mv (.t 50)⟩])
  (.seq (.reg [⟨(some 12), none, .mv (.v (.int .i64 1))⟩])
  (.seq (.reg [⟨(some 51), none, .ldn 2 (.t 9)⟩,
   ⟨(some 52), none, .mv (.t 12)⟩,
   ⟨(some 53), none, .call 27 [(.t 51), (.t 52)]⟩,
   ⟨(some 12), none, .mv (.t 53)⟩])
  (.seq (.seq (.reg [⟨(some 54), none, .mv (.t 12)⟩,
   ⟨(some 55), none, .bin .lss (.t 54) (.v (.int .i64 0))⟩])
  (.cond (.t 55) (.seq (.reg [⟨(some 6), none, .mv (.v (.bool false))⟩])
  .ret)
  .skip))
  (.seq (.seq (.reg [⟨(some 56), none, .mv (.t 12)⟩,
   ⟨(some 57), none, .mv (.t 11)⟩,
   ⟨(some 58), none, .bin .neq (.t 56) (.t 57)⟩])
  (.cond (.t 58) (.seq (.reg [⟨(some 6), none, .mv (.v (.bool false))⟩])
  .ret)
  .skip))
  (.seq (.reg [⟨(some 59), none, .mv (.t 0)⟩,
   ⟨(some 60), none, .mv (.t 1)⟩,
   ⟨(some 61), none, .mv (.t 2)⟩,
   ⟨(some 62), none, .call 16 [(.t 61)]⟩,
   ⟨(some 63), none, .call 44 [(.t 59), (.t 60), (.t 62)]⟩,
   ⟨(some 13), none, .alloc 36 [(.int .i64 0), (.slice none 0 0)]⟩,
   ⟨none, none, .st 2 (.t 13) (.t 63)⟩])
  (.seq (.seq (.reg [⟨(some 64), none, .ldn 2 (.t 13)⟩,
   ⟨(some 65), none, .ldn 2 (.t 7)⟩,
   ⟨(some 66), none, .call 25 [(.t 64), (.t 65)]⟩,
   ⟨(some 67), none, .un .not (.t 66)⟩])
  (.cond (.t 67) (.seq (.reg [⟨(some 6), none, .mv (.v (.bool false))⟩])
  .ret)
  .skip))
  (.seq (.reg [⟨(some 12), none, .mv (.v (.int .i64 1))⟩])
  (.seq (.reg [⟨(some 68), none, .ldn 2 (.t 9)⟩,
   ⟨(some 69), none, .mv (.t 12)⟩,
   ⟨(some 70), none, .call 27 [(.t 68), (.t 69)]⟩,
   ⟨(some 12), none, .mv (.t 70)⟩])
  (.seq (.seq (.reg [⟨(some 71), none, .mv (.t 12)⟩,
   ⟨(some 72), none, .bin .lss (.t 71) (.v (.int .i64 0))⟩])
  (.cond (.t 72) (.seq (.reg [⟨(some 6), none, .mv (.v (.bool false))⟩])
  .ret)
  .skip))
  (.seq (.seq (.reg [⟨(some 73), none, .mv (.t 12)⟩,
   ⟨(some 74), none, .mv (.t 11)⟩,
   ⟨(some 75), none, .bin .neq (.t 73) (.t 74)⟩])
  (.cond (.t 75) (.seq (.reg [⟨(some 6), none, .mv (.v (.bool false))⟩])
  .ret)
  .skip))
  (.seq (.reg [⟨(some 6), none, .mv (.v (.bool true))⟩])
  .ret))))))))))))))))))))))),
  [.t 6]⟩
theorem k10 : cFn Try.prog Try.f10 = some c10 := by kernel_rfl
theorem u8s_app (a b : List Int) : u8s a ++ u8s b = u8s (a ++ b) := by simp [u8s]
def sealM (k s : Int) (l : List Int) : Int × Option (List Int) :=
  if askB k s then if l.length ≤ 480 then (0, some (mixL k s l ++ putL (tagL k s (mixL k s l)) 4)) else (2, none) else (3, none)
theorem sealM_bd {k s c : Int} {d l : List Int} (h : sealM k s d = (c, some l)) : (∀ x ∈ l, 0 ≤ x ∧ x < 256) ∧ l.length ≤ 500 := by
  unfold sealM at h
  split at h
  · split at h
    · cases h
      refine ⟨fun x hx => ?_, ?_⟩
      · rcases List.mem_append.1 hx with hx | hx
        · exact mixL_bd _ _ _ x hx
        · exact putL_bd _ _ x hx
      · rw [List.length_append, mixL_len, putL_len]; omega
    · cases h
  · cases h
def seal_sp : Sp := fun _ args h => match args with
  | [.int .i64 k, .int .i64 s, v] => (rdU h v).bind fun l => if l.length ≤ 140737488355328 then some ((brV h (sealM k s l).1 (sealM k s l).2).1, (brV h (sealM k s l).1 (sealM k s l).2).2) else none
  | _ => none
theorem seal_fr : ∀ lo args h r h', seal_sp lo args h = some (r, h') → Fr h.length h h' := by
  intro lo args h r h' hs
  unfold seal_sp at hs; split at hs
  · obtain ⟨l, _, hs⟩ := Option.bind_eq_some_iff.1 hs
    split at hs <;> cases hs; exact brV_fr _ _ _
  · cases hs
theorem sealS_ok : Ok Try.prog 43 seal_sp := by
  refine ok_quiet (OkΓ.cons ask_ok (OkΓ.cons tagS_ok (OkΓ.cons mixS_ok (OkΓ.cons putS_ok (OkΓ.nil _))))) Try.func43 (by kernel_rfl) k43 seal_fr ?_
  intro lo args h r h' hs
  unfold seal_sp at hs; split at hs
  · rename_i k s v
    obtain ⟨l, hl, hs⟩ := Option.bind_eq_some_iff.1 hs
    split at hs <;> cases hs
    rename_i hcond
    have hla := fun L => rdU_app hl L
    obtain ⟨a, c, rfl, hb, hc⟩ := rdU_spec hl
    clear hs
    by_cases h1 : askB k s
    · have e1 : (if askB k s then (0 : Int) else 3) = 0 := if_pos h1
      have e2 : decide (askB k s) = true := decide_eq_true h1
      by_cases h2 : l.length ≤ 480
      · have e : sealM k s l = (0, some (mixL k s l ++ putL (tagL k s (mixL k s l)) 4)) := by unfold sealM; rw [if_pos h1, if_pos h2]
        have hA := fun e L c => rdU_at (mixL_bd k s l) l.length (mixL_len k s l) e L c
        have hT := tagL_bd k s (mixL k s l) (mixL k s l).length
        rw [List.take_length] at hT
        have hr1 := fun e L c => rdS_u8s e (mixL k s l) L l.length c (mixL_len k s l)
        have hr2 := fun v e L c => rdS_u8s e (putL v 4) L 4 c (putL_len v 4)
        have hml := mixL_len k s l
        rw [e]
        have hlen : (mixL k s l ++ putL (tagL k s (mixL k s l)) 4).length = l.length + 4 := by rw [List.length_append, mixL_len, putL_len]
        simp only [brV, hlen]
        (dsimp only [c43]; simp (maxSteps := 1000000) (implicitDefEqProofs := false) (disch := omega) only [go_sem, Bool.false_eq_true, slc, aop, abin, aun, intB, ↓reduceIte, Nat.reduceEqDiff, Nat.reduceSub, ne_eq, not_false_eq_true, Option.map, Option.bind, get_off, get_off0, set_off, set_off0, List.append_assoc, List.cons_append, List.nil_append, List.length_append, List.length_cons, List.length_nil, Nat.zero_add, Nat.add_zero, Nat.add_assoc, Nat.reduceAdd, List.set_cons_zero, List.set_cons_succ, List.getElem?_cons_zero, List.getElem?_cons_succ, Option.bind_some, Nat.reduceLeDiff, Nat.reduceLT, maxLen, slOut, optI, Int.reduceSub, Int.sub_zero, Nat.zero_mul, if_pos, if_neg, w64, wu8, ↓condK_pos, ↓condK_neg, ↓gdK_pt, ↓gdK_nt, ↓gdK_pf, ↓gdK_nf, decide_eq_true_eq, cellsL, Value.cells, fillL, setAt, decide_true, decide_false, one_int, one_bool, one_string, one_slice, one_pointer, one_ptr, one_iface, one_nili, nat0, flat, slc, List.all_cons, List.all_nil, Bool.and_true, Bool.true_and, Bool.not_true, Bool.not_false, and_true, true_and, and_self, Nat.le_refl, List.take_succ_cons, List.take_zero, List.drop_succ_cons, List.drop_zero, Int.toNat_natCast, Int.reduceToNat, Nat.mul_one, List.take_nil, List.drop_nil, Int.reduceLE, Int.reduceAdd, Int.reduceLT, ask_sp, keyed_sp, e1, e2, mix_sp, tag_sp, put_sp, hla, h1, hA, hml, rdU_off, rdU_off0, rdU_tail, rdS_off, rdS_off0, rdS_tail, hr1, hr2, u8s_app, bne_self_eq_false])
        exact ⟨by simp, done_br2 (i := 3) (by simp [rres, rresL, rres1, put_at, getP_ptr, get_off0]) rfl⟩
      · have e : sealM k s l = (2, none) := by unfold sealM; rw [if_pos h1, if_neg h2]
        rw [e]
        (dsimp only [c43]; simp (maxSteps := 1000000) (implicitDefEqProofs := false) (disch := omega) only [go_sem, Bool.false_eq_true, slc, aop, abin, aun, intB, ↓reduceIte, Nat.reduceEqDiff, Nat.reduceSub, ne_eq, not_false_eq_true, Option.map, Option.bind, get_off, get_off0, set_off, set_off0, List.append_assoc, List.cons_append, List.nil_append, List.length_append, List.length_cons, List.length_nil, Nat.zero_add, Nat.add_zero, Nat.add_assoc, Nat.reduceAdd, List.set_cons_zero, List.set_cons_succ, List.getElem?_cons_zero, List.getElem?_cons_succ, Option.bind_some, Nat.reduceLeDiff, Nat.reduceLT, maxLen, slOut, optI, Int.reduceSub, Int.sub_zero, Nat.zero_mul, if_pos, if_neg, w64, wu8, ↓condK_pos, ↓condK_neg, ↓gdK_pt, ↓gdK_nt, ↓gdK_pf, ↓gdK_nf, decide_eq_true_eq, cellsL, Value.cells, fillL, setAt, decide_true, decide_false, one_int, one_bool, one_string, one_slice, one_pointer, one_ptr, one_iface, one_nili, nat0, flat, slc, List.all_cons, List.all_nil, Bool.and_true, Bool.true_and, Bool.not_true, Bool.not_false, and_true, true_and, and_self, Nat.le_refl, List.take_succ_cons, List.take_zero, List.drop_succ_cons, List.drop_zero, Int.toNat_natCast, Int.reduceToNat, Nat.mul_one, List.take_nil, List.drop_nil, Int.reduceLE, Int.reduceAdd, Int.reduceLT, ask_sp, keyed_sp, e1, e2, bne_self_eq_false])
        exact ⟨by simp, done_br0 (by simp [rres, rresL, rres1, put_at, getP_ptr, get_off0])⟩
    · have e1 : (if askB k s then (0 : Int) else 3) = 3 := if_neg h1
      have e2 : decide (askB k s) = false := decide_eq_false h1
      have e : sealM k s l = (3, none) := by unfold sealM; rw [if_neg h1]
      have q3 : ((3 : Int) != 0) = true := rfl
      rw [e]
      (dsimp only [c43]; simp (maxSteps := 1000000) (implicitDefEqProofs := false) (disch := omega) only [go_sem, Bool.false_eq_true, slc, aop, abin, aun, intB, ↓reduceIte, Nat.reduceEqDiff, Nat.reduceSub, ne_eq, not_false_eq_true, Option.map, Option.bind, get_off, get_off0, set_off, set_off0, List.append_assoc, List.cons_append, List.nil_append, List.length_append, List.length_cons, List.length_nil, Nat.zero_add, Nat.add_zero, Nat.add_assoc, Nat.reduceAdd, List.set_cons_zero, List.set_cons_succ, List.getElem?_cons_zero, List.getElem?_cons_succ, Option.bind_some, Nat.reduceLeDiff, Nat.reduceLT, maxLen, slOut, optI, Int.reduceSub, Int.sub_zero, Nat.zero_mul, if_pos, if_neg, w64, wu8, ↓condK_pos, ↓condK_neg, ↓gdK_pt, ↓gdK_nt, ↓gdK_pf, ↓gdK_nf, decide_eq_true_eq, cellsL, Value.cells, fillL, setAt, decide_true, decide_false, one_int, one_bool, one_string, one_slice, one_pointer, one_ptr, one_iface, one_nili, nat0, flat, slc, List.all_cons, List.all_nil, Bool.and_true, Bool.true_and, Bool.not_true, Bool.not_false, and_true, true_and, and_self, Nat.le_refl, List.take_succ_cons, List.take_zero, List.drop_succ_cons, List.drop_zero, Int.toNat_natCast, Int.reduceToNat, Nat.mul_one, List.take_nil, List.drop_nil, Int.reduceLE, Int.reduceAdd, Int.reduceLT, ask_sp, keyed_sp, e1, e2, q3])
      exact ⟨by simp, done_br0 (by simp [rres, rresL, rres1, put_at, getP_ptr, get_off0])⟩
  · cases hs
theorem sealI_ok : Ok Try.prog 44 seal_sp := by
  refine ok_quiet (OkΓ.cons keyed_ok (OkΓ.cons tagI_ok (OkΓ.cons mixI_ok (OkΓ.cons putI_ok (OkΓ.nil _))))) Try.func44 (by kernel_rfl) k44 seal_fr ?_
  intro lo args h r h' hs
  unfold seal_sp at hs; split at hs
  · rename_i k s v
    obtain ⟨l, hl, hs⟩ := Option.bind_eq_some_iff.1 hs
    split at hs <;> cases hs
    rename_i hcond
    have hla := fun L => rdU_app hl L
    obtain ⟨a, c, rfl, hb, hc⟩ := rdU_spec hl
    clear hs
    by_cases h1 : askB k s
    · have e1 : (if askB k s then (0 : Int) else 3) = 0 := if_pos h1
      have e2 : decide (askB k s) = true := decide_eq_true h1
      by_cases h2 : l.length ≤ 480
      · have e : sealM k s l = (0, some (mixL k s l ++ putL (tagL k s (mixL k s l)) 4)) := by unfold sealM; rw [if_pos h1, if_pos h2]
        have hA := fun e L c => rdU_at (mixL_bd k s l) l.length (mixL_len k s l) e L c
        have hT := tagL_bd k s (mixL k s l) (mixL k s l).length
        rw [List.take_length] at hT
        have hr1 := fun e L c => rdS_u8s e (mixL k s l) L l.length c (mixL_len k s l)
        have hr2 := fun v e L c => rdS_u8s e (putL v 4) L 4 c (putL_len v 4)
        have hml := mixL_len k s l
        rw [e]
        have hlen : (mixL k s l ++ putL (tagL k s (mixL k s l)) 4).length = l.length + 4 := by rw [List.length_append, mixL_len, putL_len]
        simp only [brV, hlen]
        (dsimp only [c44]; simp (maxSteps := 1000000) (implicitDefEqProofs := false) (disch := omega) only [go_sem, Bool.false_eq_true, slc, aop, abin, aun, intB, ↓reduceIte, Nat.reduceEqDiff, Nat.reduceSub, ne_eq, not_false_eq_true, Option.map, Option.bind, get_off, get_off0, set_off, set_off0, List.append_assoc, List.cons_append, List.nil_append, List.length_append, List.length_cons, List.length_nil, Nat.zero_add, Nat.add_zero, Nat.add_assoc, Nat.reduceAdd, List.set_cons_zero, List.set_cons_succ, List.getElem?_cons_zero, List.getElem?_cons_succ, Option.bind_some, Nat.reduceLeDiff, Nat.reduceLT, maxLen, slOut, optI, Int.reduceSub, Int.sub_zero, Nat.zero_mul, if_pos, if_neg, w64, wu8, ↓condK_pos, ↓condK_neg, ↓gdK_pt, ↓gdK_nt, ↓gdK_pf, ↓gdK_nf, decide_eq_true_eq, cellsL, Value.cells, fillL, setAt, decide_true, decide_false, one_int, one_bool, one_string, one_slice, one_pointer, one_ptr, one_iface, one_nili, nat0, flat, slc, List.all_cons, List.all_nil, Bool.and_true, Bool.true_and, Bool.not_true, Bool.not_false, and_true, true_and, and_self, Nat.le_refl, List.take_succ_cons, List.take_zero, List.drop_succ_cons, List.drop_zero, Int.toNat_natCast, Int.reduceToNat, Nat.mul_one, List.take_nil, List.drop_nil, Int.reduceLE, Int.reduceAdd, Int.reduceLT, ask_sp, keyed_sp, e1, e2, mix_sp, tag_sp, put_sp, hla, h1, hA, hml, rdU_off, rdU_off0, rdU_tail, rdS_off, rdS_off0, rdS_tail, hr1, hr2, u8s_app, bne_self_eq_false])
        exact ⟨by simp, done_br2 (i := 3) (by simp [rres, rresL, rres1, put_at, getP_ptr, get_off0]) rfl⟩
      · have e : sealM k s l = (2, none) := by unfold sealM; rw [if_pos h1, if_neg h2]
        rw [e]
        (dsimp only [c44]; simp (maxSteps := 1000000) (implicitDefEqProofs := false) (disch := omega) only [go_sem, Bool.false_eq_true, slc, aop, abin, aun, intB, ↓reduceIte, Nat.reduceEqDiff, Nat.reduceSub, ne_eq, not_false_eq_true, Option.map, Option.bind, get_off, get_off0, set_off, set_off0, List.append_assoc, List.cons_append, List.nil_append, List.length_append, List.length_cons, List.length_nil, Nat.zero_add, Nat.add_zero, Nat.add_assoc, Nat.reduceAdd, List.set_cons_zero, List.set_cons_succ, List.getElem?_cons_zero, List.getElem?_cons_succ, Option.bind_some, Nat.reduceLeDiff, Nat.reduceLT, maxLen, slOut, optI, Int.reduceSub, Int.sub_zero, Nat.zero_mul, if_pos, if_neg, w64, wu8, ↓condK_pos, ↓condK_neg, ↓gdK_pt, ↓gdK_nt, ↓gdK_pf, ↓gdK_nf, decide_eq_true_eq, cellsL, Value.cells, fillL, setAt, decide_true, decide_false, one_int, one_bool, one_string, one_slice, one_pointer, one_ptr, one_iface, one_nili, nat0, flat, slc, List.all_cons, List.all_nil, Bool.and_true, Bool.true_and, Bool.not_true, Bool.not_false, and_true, true_and, and_self, Nat.le_refl, List.take_succ_cons, List.take_zero, List.drop_succ_cons, List.drop_zero, Int.toNat_natCast, Int.reduceToNat, Nat.mul_one, List.take_nil, List.drop_nil, Int.reduceLE, Int.reduceAdd, Int.reduceLT, ask_sp, keyed_sp, e1, e2, bne_self_eq_false])
        exact ⟨by simp, done_br0 (by simp [rres, rresL, rres1, put_at, getP_ptr, get_off0])⟩
    · have e1 : (if askB k s then (0 : Int) else 3) = 3 := if_neg h1
      have e2 : decide (askB k s) = false := decide_eq_false h1
      have e : sealM k s l = (3, none) := by unfold sealM; rw [if_neg h1]
      have q3 : ((3 : Int) != 0) = true := rfl
      rw [e]
      (dsimp only [c44]; simp (maxSteps := 1000000) (implicitDefEqProofs := false) (disch := omega) only [go_sem, Bool.false_eq_true, slc, aop, abin, aun, intB, ↓reduceIte, Nat.reduceEqDiff, Nat.reduceSub, ne_eq, not_false_eq_true, Option.map, Option.bind, get_off, get_off0, set_off, set_off0, List.append_assoc, List.cons_append, List.nil_append, List.length_append, List.length_cons, List.length_nil, Nat.zero_add, Nat.add_zero, Nat.add_assoc, Nat.reduceAdd, List.set_cons_zero, List.set_cons_succ, List.getElem?_cons_zero, List.getElem?_cons_succ, Option.bind_some, Nat.reduceLeDiff, Nat.reduceLT, maxLen, slOut, optI, Int.reduceSub, Int.sub_zero, Nat.zero_mul, if_pos, if_neg, w64, wu8, ↓condK_pos, ↓condK_neg, ↓gdK_pt, ↓gdK_nt, ↓gdK_pf, ↓gdK_nf, decide_eq_true_eq, cellsL, Value.cells, fillL, setAt, decide_true, decide_false, one_int, one_bool, one_string, one_slice, one_pointer, one_ptr, one_iface, one_nili, nat0, flat, slc, List.all_cons, List.all_nil, Bool.and_true, Bool.true_and, Bool.not_true, Bool.not_false, and_true, true_and, and_self, Nat.le_refl, List.take_succ_cons, List.take_zero, List.drop_succ_cons, List.drop_zero, Int.toNat_natCast, Int.reduceToNat, Nat.mul_one, List.take_nil, List.drop_nil, Int.reduceLE, Int.reduceAdd, Int.reduceLT, ask_sp, keyed_sp, e1, e2, q3])
      exact ⟨by simp, done_br0 (by simp [rres, rresL, rres1, put_at, getP_ptr, get_off0])⟩
  · cases hs
def kslLaw_sp : Sp := fun _ args h => match args with
  | [.int .i64 _, .int .i64 _, v] => (rdU h v).bind fun l => if l.length ≤ 140737488355328 then some (.bool true, h) else none
  | _ => none
theorem sealL_ok : Ok Try.prog 10 kslLaw_sp := by
  refine ok_quiet (OkΓ.cons toB_ok (OkΓ.cons sealS_ok (OkΓ.cons sealI_ok (OkΓ.cons eqBR_ok (OkΓ.cons eqB_ok (OkΓ.cons mkB_ok (OkΓ.cons mkBR_ok (OkΓ.cons hdBR_ok (OkΓ.nil _))))))))) Try.func10 (by kernel_rfl) k10 ?_ ?_
  · intro lo args h r h' hs
    unfold kslLaw_sp at hs; split at hs
    · obtain ⟨l, _, hs⟩ := Option.bind_eq_some_iff.1 hs
      split at hs <;> cases hs; exact Fr.refl _ _
    · cases hs
  · intro lo args h r h' hs
    unfold kslLaw_sp at hs; split at hs
    · rename_i k s v
      obtain ⟨d, hd, hs⟩ := Option.bind_eq_some_iff.1 hs
      split at hs <;> cases hs
      rename_i hcond
      have hda := fun L => rdU_app hd L
      obtain ⟨a, c, rfl, hb0, hc⟩ := rdU_spec hd
      clear hs
      have hdh := rdU_head hb0
      by_cases h1 : d.length ≤ 1048576
      · rcases hM : sealM k s d with ⟨c, _ | l⟩
        · (dsimp only [c10]; simp (maxSteps := 1000000) (implicitDefEqProofs := false) (disch := omega) only [go_sem, Bool.false_eq_true, slc, aop, abin, aun, intB, ↓reduceIte, Nat.reduceEqDiff, Nat.reduceSub, ne_eq, not_false_eq_true, Option.map, Option.bind, get_off, get_off0, set_off, set_off0, List.append_assoc, List.cons_append, List.nil_append, List.length_append, List.length_cons, List.length_nil, Nat.zero_add, Nat.add_zero, Nat.add_assoc, Nat.reduceAdd, List.set_cons_zero, List.set_cons_succ, List.getElem?_cons_zero, List.getElem?_cons_succ, Option.bind_some, Nat.reduceLeDiff, Nat.reduceLT, maxLen, slOut, optI, Int.reduceSub, Int.sub_zero, Nat.zero_mul, if_pos, if_neg, w64, wu8, ↓condK_pos, ↓condK_neg, ↓gdK_pt, ↓gdK_nt, ↓gdK_pf, ↓gdK_nf, decide_eq_true_eq, cellsL, Value.cells, fillL, setAt, decide_true, decide_false, one_int, one_bool, one_string, one_slice, one_pointer, one_ptr, one_iface, one_nili, nat0, flat, slc, List.all_cons, List.all_nil, Bool.and_true, Bool.true_and, Bool.not_true, Bool.not_false, and_true, true_and, and_self, Nat.le_refl, List.take_succ_cons, List.take_zero, List.drop_succ_cons, List.drop_zero, Int.toNat_natCast, Int.reduceToNat, Nat.mul_one, List.take_nil, List.drop_nil, Int.reduceLE, Int.reduceAdd, Int.reduceLT, toB_sp, seal_sp, hM, brV, eqBR_sp, eqB_sp, mkBR_sp, mkB_sp, hdBR_sp, hdB_sp, hd, hda, hdh, rdU_off, rdU_off0, rdU_tail, u8s_len, rdU_nil, markL_zero, bne_self_eq_false])
          exact ⟨by simp, done_scalar (by simp [rres, rresL, rres1, put_at]) (mapV_flat _ rfl).symm keep_off⟩
        · obtain ⟨hb, hl⟩ := sealM_bd hM
          have hh := rdU_head hb
          (dsimp only [c10]; simp (maxSteps := 1000000) (implicitDefEqProofs := false) (disch := omega) only [go_sem, Bool.false_eq_true, slc, aop, abin, aun, intB, ↓reduceIte, Nat.reduceEqDiff, Nat.reduceSub, ne_eq, not_false_eq_true, Option.map, Option.bind, get_off, get_off0, set_off, set_off0, List.append_assoc, List.cons_append, List.nil_append, List.length_append, List.length_cons, List.length_nil, Nat.zero_add, Nat.add_zero, Nat.add_assoc, Nat.reduceAdd, List.set_cons_zero, List.set_cons_succ, List.getElem?_cons_zero, List.getElem?_cons_succ, Option.bind_some, Nat.reduceLeDiff, Nat.reduceLT, maxLen, slOut, optI, Int.reduceSub, Int.sub_zero, Nat.zero_mul, if_pos, if_neg, w64, wu8, ↓condK_pos, ↓condK_neg, ↓gdK_pt, ↓gdK_nt, ↓gdK_pf, ↓gdK_nf, decide_eq_true_eq, cellsL, Value.cells, fillL, setAt, decide_true, decide_false, one_int, one_bool, one_string, one_slice, one_pointer, one_ptr, one_iface, one_nili, nat0, flat, slc, List.all_cons, List.all_nil, Bool.and_true, Bool.true_and, Bool.not_true, Bool.not_false, and_true, true_and, and_self, Nat.le_refl, List.take_succ_cons, List.take_zero, List.drop_succ_cons, List.drop_zero, Int.toNat_natCast, Int.reduceToNat, Nat.mul_one, List.take_nil, List.drop_nil, Int.reduceLE, Int.reduceAdd, Int.reduceLT, toB_sp, seal_sp, hM, brV, eqBR_sp, eqB_sp, mkBR_sp, mkB_sp, hdBR_sp, hdB_sp, hd, hda, hdh, rdU_off, rdU_off0, rdU_tail, hh, rdU_mark, markL_len, u8s_len, bne_self_eq_false])
          exact ⟨by simp, done_scalar (by simp [rres, rresL, rres1, put_at]) (mapV_flat _ rfl).symm keep_off⟩
      · (dsimp only [c10]; simp (maxSteps := 1000000) (implicitDefEqProofs := false) (disch := omega) only [go_sem, Bool.false_eq_true, slc, aop, abin, aun, intB, ↓reduceIte, Nat.reduceEqDiff, Nat.reduceSub, ne_eq, not_false_eq_true, Option.map, Option.bind, get_off, get_off0, set_off, set_off0, List.append_assoc, List.cons_append, List.nil_append, List.length_append, List.length_cons, List.length_nil, Nat.zero_add, Nat.add_zero, Nat.add_assoc, Nat.reduceAdd, List.set_cons_zero, List.set_cons_succ, List.getElem?_cons_zero, List.getElem?_cons_succ, Option.bind_some, Nat.reduceLeDiff, Nat.reduceLT, maxLen, slOut, optI, Int.reduceSub, Int.sub_zero, Nat.zero_mul, if_pos, if_neg, w64, wu8, ↓condK_pos, ↓condK_neg, ↓gdK_pt, ↓gdK_nt, ↓gdK_pf, ↓gdK_nf, decide_eq_true_eq, cellsL, Value.cells, fillL, setAt, decide_true, decide_false, one_int, one_bool, one_string, one_slice, one_pointer, one_ptr, one_iface, one_nili, nat0, flat, slc, List.all_cons, List.all_nil, Bool.and_true, Bool.true_and, Bool.not_true, Bool.not_false, and_true, true_and, and_self, Nat.le_refl, List.take_succ_cons, List.take_zero, List.drop_succ_cons, List.drop_zero, Int.toNat_natCast, Int.reduceToNat, Nat.mul_one, List.take_nil, List.drop_nil, Int.reduceLE, Int.reduceAdd, Int.reduceLT])
        exact ⟨by simp, done_scalar (by simp [rres, rresL, rres1, put_at]) (mapV_flat _ rfl).symm (fun _ _ => rfl)⟩
    · cases hs
/-- A law over two numbers and a slice of bytes. -/
theorem law_ksl {f : Nat} (ok : Ok Try.prog f kslLaw_sp) {k s : Int} {a : Option Addr} {len cap : Nat} {zs : List Int} {W : World} (w : IsRow .u8 W a len cap zs) (y : len * 1 ≤ 140737488351232) :
    Calls Try.prog f ⟨[.int .i64 k, .int .i64 s, .slice a len cap]⟩ W (fun e W' => e = .returned (.bool true) ∧ RowKit.Below W.heap.size W W') := by
  obtain ⟨ι, v, _, hr, hv, hd⟩ := add_row (hr_start Try.prog W W.heap.size) (e := 5) (by kernel_rfl) w
  refine law_calls ok hr (.cons (.int _ _) (.cons (.int _ _) (.cons hv .nil))) ?_
  have e := rdU_row w.wf (hd [])
  rw [List.append_nil] at e
  simp only [kslLaw_sp, e, Option.bind_some]
  rw [if_pos (by have := List.length_take_le len zs; omega)]
theorem fnExactSealBytes_calls {k s : Int} {a : Option Addr} {len cap : Nat} {zs : List Int} {W : World} (_ : (Lit.int .i64 k).wf = true) (_ : (Lit.int .i64 s).wf = true) (w : IsRow .u8 W a len cap zs) (y : len * 1 ≤ 140737488351232) :
    Calls Try.prog 10 ⟨[.int .i64 k, .int .i64 s, .slice a len cap]⟩ W (fun e W' => e = .returned (.bool true) ∧ RowKit.Below W.heap.size W W') := law_ksl sealL_ok w y
end Go.Proofs.Ytpndkgpkakhbmaa
