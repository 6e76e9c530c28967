import Derived.Test.YtpndkgpkakhbmaaB13
set_option linter.unusedSimpArgs false
set_option linter.unusedVariables false
set_option maxRecDepth 100000
namespace Go.Proofs.Ytpndkgpkakhbmaa
open Go Go.AH
attribute [local go_sem ↓] awp_skip awp_ret awp_exit awp_seq awp_reg awp_drw awp_cond awp_block seqK_normal seqK_ret seqK_exit blkK_normal blkK_ret loopK_normal loopK_ret loopK_exit rops_nil qops_nil rops_op rops_op0 rops_opg qops_op qops_op0 qops_opg gdK_tt gdK_ff gdK_tf gdK_ft kont_some condK_true condK_false
attribute [local go_sem] tag_eq blkK_exit put_at argσ_nil argσ_cons ev_t ev_v ctx_get getB_bool getI_int getP_ptr Option.map_some Option.bind_some List.map_cons List.map_nil
attribute [local congr] kont_cong condK_cong gdK_cong awp_cong rops_cong qops_cong
-- spec.OpenBytes
def c45 : AF := ⟨42,
  (.seq (.reg [⟨(some 6), none, .alloc 36 [(.int .i64 0), (.slice none 0 0)]⟩])
  (.seq (.seq (.reg [⟨(some 10), none, .mv (.t 0)⟩,
   ⟨(some 11), none, .mv (.t 1)⟩,
   ⟨(some 12), none, .call 60 [(.t 10), (.t 11)]⟩,
   ⟨(some 7), none, .mv (.t 12)⟩])
  (.seq (.reg [⟨(some 13), none, .mv (.t 7)⟩,
   ⟨(some 14), none, .bin .neq (.t 13) (.v (.int .i64 0))⟩])
  (.cond (.t 14) (.seq (.reg [⟨(some 15), none, .mv (.t 7)⟩,
   ⟨(some 16), none, .build [(.int .i64 0), (.slice none 0 0)] [(0, 1, (.t 15))]⟩,
   ⟨none, none, .st 2 (.t 6) (.t 16)⟩])
  .ret)
  .skip)))
  (.seq (.reg [⟨(some 17), none, .mv (.t 2)⟩,
   ⟨(some 18), none, .len (.t 17)⟩,
   ⟨(some 8), none, .mv (.t 18)⟩])
  (.seq (.seq (.reg [⟨(some 19), none, .mv (.t 8)⟩,
   ⟨(some 20), none, .call 56 [(.t 19), (.v (.int .i64 4)), (.v (.int .i64 484))]⟩,
   ⟨(some 21), none, .un .not (.t 20)⟩])
  (.cond (.t 21) (.seq (.reg [⟨(some 22), none, .build [(.int .i64 0), (.slice none 0 0)] [(0, 1, (.v (.int .i64 5)))]⟩,
   ⟨none, none, .st 2 (.t 6) (.t 22)⟩])
  .ret)
  .skip))
  (.seq (.reg [⟨(some 23), none, .mv (.t 2)⟩,
   ⟨(some 24), none, .mv (.t 8)⟩,
   ⟨(some 25), none, .bin .sub (.t 24) (.v (.int .i64 4))⟩,
   ⟨(some 26), none, .sl 1 (.t 23) none (some (.t 25))⟩,
   ⟨(some 9), none, .mv (.t 26)⟩])
  (.seq (.seq (.reg [⟨(some 27), none, .mv (.t 2)⟩,
   ⟨(some 28), none, .mv (.t 8)⟩,
   ⟨(some 29), none, .bin .sub (.t 28) (.v (.int .i64 4))⟩,
   ⟨(some 30), none, .call 57 [(.t 27), (.t 29), (.v (.int .i64 4))]⟩,
   ⟨(some 31), none, .mv (.t 0)⟩,
   ⟨(some 32), none, .mv (.t 1)⟩,
   ⟨(some 33), none, .mv (.t 9)⟩,
   ⟨(some 34), none, .call 61 [(.t 31), (.t 32), (.t 33)]⟩,
   ⟨(some 35), none, .bin .neq (.t 30) (.t 34)⟩])
  (.cond (.t 35) (.seq (.reg [⟨(some 36), none, .build [(.int .i64 0), (.slice none 0 0)] [(0, 1, (.v (.int .i64 6)))]⟩,
   ⟨none, none, .st 2 (.t 6) (.t 36)⟩])
  .ret)
  .skip))
  (.seq (.reg [⟨(some 37), none, .mv (.t 0)⟩,
   ⟨(some 38), none, .mv (.t 1)⟩,
   ⟨(some 39), none, .mv (.t 9)⟩,
   ⟨(some 40), none, .call 79 [(.t 37), (.t 38), (.t 39)]⟩,
   ⟨(some 41), none, .build [(.int .i64 0), (.slice none 0 0)] [(1, 1, (.t 40))]⟩,
   ⟨none, none, .st 2 (.t 6) (.t 41)⟩])
  .ret))))))),
  [.cell 6 (some 2)]⟩
theorem k45 : cFn Try.prog Try.f45 = some c45 := by kernel_rfl
-- impl.OpenBytes
def c46 : AF := ⟨42,
  (.seq (.reg [⟨(some 6), none, .alloc 36 [(.int .i64 0), (.slice none 0 0)]⟩])
  (.seq (.reg [⟨(some 8), none, .mv (.t 2)⟩,
   ⟨(some 9), none, .len (.t 8)⟩,
   ⟨(some 10), none, .bin .sub (.t 9) (.v (.int .i64 4))⟩,
   ⟨(some 7), none, .mv (.t 10)⟩])
  (.seq (.block 0 (.seq (.reg [⟨(some 12), none, .mv (.t 0)⟩,
   ⟨(some 13), none, .mv (.t 1)⟩,
   ⟨(some 14), none, .call 62 [(.t 12), (.t 13)]⟩,
   ⟨(some 15), none, .un .not (.t 14)⟩,
   ⟨(some 11), none, .mv (.t 15)⟩])
  (.cond (.t 11) (.seq (.reg [⟨(some 16), none, .build [(.int .i64 0), (.slice none 0 0)] [(0, 1, (.v (.int .i64 3)))]⟩,
   ⟨none, none, .st 2 (.t 6) (.t 16)⟩])
  .ret)
  (.seq (.reg [⟨(some 18), none, .mv (.t 7)⟩,
   ⟨(some 19), none, .call 58 [(.t 18), (.v (.int .i64 0)), (.v (.int .i64 480))]⟩,
   ⟨(some 20), none, .un .not (.t 19)⟩,
   ⟨(some 17), none, .mv (.t 20)⟩])
  (.cond (.t 17) (.seq (.reg [⟨(some 21), none, .build [(.int .i64 0), (.slice none 0 0)] [(0, 1, (.v (.int .i64 5)))]⟩,
   ⟨none, none, .st 2 (.t 6) (.t 21)⟩])
  .ret)
  (.seq (.drw [⟨(some 23), none, .mv (.t 2)⟩,
   ⟨(some 24), none, .mv (.t 7)⟩,
   ⟨(some 25), none, .sl 1 (.t 23) (some (.t 24)) none⟩,
   ⟨(some 26), none, .call 59 [(.t 25)]⟩,
   ⟨(some 27), none, .mv (.t 0)⟩,
   ⟨(some 28), none, .mv (.t 1)⟩,
   ⟨(some 29), none, .mv (.t 2)⟩,
   ⟨(some 30), none, .mv (.t 7)⟩,
   ⟨(some 31), none, .sl 1 (.t 29) none (some (.t 30))⟩,
   ⟨(some 32), none, .call 63 [(.t 27), (.t 28), (.t 31)]⟩,
   ⟨(some 33), none, .bin .neq (.t 26) (.t 32)⟩,
   ⟨(some 22), none, .mv (.t 33)⟩] [])
  (.cond (.t 22) (.seq (.reg [⟨(some 34), none, .build [(.int .i64 0), (.slice none 0 0)] [(0, 1, (.v (.int .i64 6)))]⟩,
   ⟨none, none, .st 2 (.t 6) (.t 34)⟩])
  .ret)
  .skip)))))))
  (.seq (.reg [⟨(some 35), none, .mv (.t 0)⟩,
   ⟨(some 36), none, .mv (.t 1)⟩,
   ⟨(some 37), none, .mv (.t 2)⟩,
   ⟨(some 38), none, .mv (.t 7)⟩,
   ⟨(some 39), none, .sl 1 (.t 37) none (some (.t 38))⟩,
   ⟨(some 40), none, .call 81 [(.t 35), (.t 36), (.t 39)]⟩,
   ⟨(some 41), none, .build [(.int .i64 0), (.slice none 0 0)] [(0, 1, (.v (.int .i64 0))), (1, 1, (.t 40))]⟩,
   ⟨none, none, .st 2 (.t 6) (.t 41)⟩])
  .ret)))),
  [.cell 6 (some 2)]⟩
theorem k46 : cFn Try.prog Try.f46 = some c46 := by kernel_rfl
-- laws.FnExactOpenBytes
def c11 : AF := ⟨76,
  (.seq (.reg [⟨(some 6), none, .mv (.v (.bool false))⟩])
  (.seq (.seq (.reg [⟨(some 14), none, .mv (.t 2)⟩,
   ⟨(some 15), none, .len (.t 14)⟩,
   ⟨(some 16), none, .bin .gtr (.t 15) (.v (.int .i64 1048576))⟩])
  (.cond (.t 16) (.seq (.reg [⟨(some 6), none, .mv (.v (.bool true))⟩])
  .ret)
  .skip))
  (.seq (.reg [⟨(some 17), none, .mv (.t 0)⟩,
   ⟨(some 18), none, .mv (.t 1)⟩,
   ⟨(some 19), none, .mv (.t 2)⟩,
   ⟨(some 20), none, .call 16 [(.t 19)]⟩,
   ⟨(some 21), none, .call 45 [(.t 17), (.t 18), (.t 20)]⟩,
   ⟨(some 7), none, .alloc 36 [(.int .i64 0), (.slice none 0 0)]⟩,
   ⟨none, none, .st 2 (.t 7) (.t 21)⟩])
  (.seq (.reg [⟨(some 22), none, .mv (.t 2)⟩,
   ⟨(some 23), none, .call 16 [(.t 22)]⟩,
   ⟨(some 8), none, .mv (.t 23)⟩])
  (.seq (.reg [⟨(some 24), none, .mv (.t 0)⟩,
   ⟨(some 25), none, .mv (.t 1)⟩,
   ⟨(some 26), none, .mv (.t 8)⟩,
   ⟨(some 27), none, .call 46 [(.t 24), (.t 25), (.t 26)]⟩,
   ⟨(some 9), none, .alloc 36 [(.int .i64 0), (.slice none 0 0)]⟩,
   ⟨none, none, .st 2 (.t 9) (.t 27)⟩])
  (.seq (.seq (.reg [⟨(some 28), none, .ldn 2 (.t 9)⟩,
   ⟨(some 29), none, .ldn 2 (.t 7)⟩,
   ⟨(some 30), none, .call 25 [(.t 28), (.t 29)]⟩,
   ⟨(some 31), none, .un .not (.t 30)⟩])
  (.cond (.t 31) (.seq (.reg [⟨(some 6), none, .mv (.v (.bool false))⟩])
  .ret)
  .skip))
  (.seq (.seq (.reg [⟨(some 32), none, .mv (.t 8)⟩,
   ⟨(some 33), none, .mv (.t 2)⟩,
   ⟨(some 34), none, .call 16 [(.t 33)]⟩,
   ⟨(some 35), none, .call 19 [(.t 32), (.t 34)]⟩,
   ⟨(some 36), none, .un .not (.t 35)⟩])
  (.cond (.t 36) (.seq (.reg [⟨(some 6), none, .mv (.v (.bool false))⟩])
  .ret)
  .skip))
  (.seq (.reg [⟨(some 10), none, .mv (.v (.int .i64 1))⟩])
  (.seq (.reg [⟨(some 37), none, .mv (.t 8)⟩,
   ⟨(some 38), none, .mv (.t 10)⟩,
   ⟨(some 39), none, .call 30 [(.t 37), (.t 38)]⟩,
   ⟨(some 10), none, .mv (.t 39)⟩])
  (.seq (.seq (.reg [⟨(some 40), none, .mv (.t 10)⟩,
   ⟨(some 41), none, .bin .lss (.t 40) (.v (.int .i64 0))⟩,
   ⟨(some 42), none, .mv (.t 41)⟩,
   ⟨(some 43), (some (42, false)), .ldn 2 (.t 9)⟩,
   ⟨(some 44), (some (42, false)), .ldn 2 (.t 7)⟩,
   ⟨(some 45), (some (42, false)), .call 25 [(.t 43), (.t 44)]⟩,
   ⟨(some 46), (some (42, false)), .un .not (.t 45)⟩,
   ⟨(some 47), none, .pick (.t 42) (.v (.bool true)) (.t 46)⟩])
  (.cond (.t 47) (.seq (.reg [⟨(some 6), none, .mv (.v (.bool false))⟩])
  .ret)
  .skip))
  (.seq (.reg [⟨(some 11), none, .mv (.v (.int .i64 1))⟩])
  (.seq (.reg [⟨(some 48), none, .ldn 2 (.t 9)⟩,
   ⟨(some 49), none, .mv (.t 11)⟩,
   ⟨(some 50), none, .call 26 [(.t 48), (.t 49)]⟩,
   ⟨(some 11), none, .mv (.t 50)⟩])
  (.seq (.reg [⟨(some 12), none, .mv (.v (.int .i64 1))⟩])
  (.seq (.reg [⟨(some 51), none, .ldn 2 (.t 9)⟩,
   ⟨(some 52), none, .mv (.t 12)⟩,
   ⟨(some 53), none, .call 27 [(.t 51), (.t 52)]⟩,
   ⟨(some 12), none, .mv (.t 53)⟩])
  (.seq (.seq (.reg [⟨(some 54), none, .mv (.t 12)⟩,
   ⟨(some 55), none, .bin .lss (.t 54) (.v (.int .i64 0))⟩])
  (.cond (.t 55) (.seq (.reg [⟨(some 6), none, .mv (.v (.bool false))⟩])
  .ret)
  .skip))
  (.seq (.seq (.reg [⟨(some 56), none, .mv (.t 12)⟩,
   ⟨(some 57), none, .mv (.t 11)⟩,
   ⟨(some 58), none, .bin .neq (.t 56) (.t 57)⟩])
  (.cond (.t 58) (.seq (.reg [⟨(some 6), none, .mv (.v (.bool false))⟩])
  .ret)
  .skip))
  (.seq (.reg [⟨(some 59), none, .mv (.t 0)⟩,
   ⟨(some 60), none, .mv (.t 1)⟩,
   ⟨(some 61), none, .mv (.t 2)⟩,
   ⟨(some 62), none, .call 16 [(.t 61)]⟩,
   ⟨(some 63), none, .call 46 [(.t 59), (.t 60), (.t 62)]⟩,
   ⟨(some 13), none, .alloc 36 [(.int .i64 0), (.slice none 0 0)]⟩,
   ⟨none, none, .st 2 (.t 13) (.t 63)⟩])
  (.seq (.seq (.reg [⟨(some 64), none, .ldn 2 (.t 13)⟩,
   ⟨(some 65), none, .ldn 2 (.t 7)⟩,
   ⟨(some 66), none, .call 25 [(.t 64), (.t 65)]⟩,
   ⟨(some 67), none, .un .not (.t 66)⟩])
  (.cond (.t 67) (.seq (.reg [⟨(some 6), none, .mv (.v (.bool false))⟩])
  .ret)
  .skip))
  (.seq (.reg [⟨(some 12), none, .mv (.v (.int .i64 1))⟩])
  (.seq (.reg [⟨(some 68), none, .ldn 2 (.t 9)⟩,
   ⟨(some 69), none, .mv (.t 12)⟩,
   ⟨(some 70), none, .call 27 [(.t 68), (.t 69)]⟩,
   ⟨(some 12), none, .mv (.t 70)⟩])
  (.seq (.seq (.reg [⟨(some 71), none, .mv (.t 12)⟩,
   ⟨(some 72), none, .bin .lss (.t 71) (.v (.int .i64 0))⟩])
  (.cond (.t 72) (.seq (.reg [⟨(some 6), none, .mv (.v (.bool false))⟩])
  .ret)
  .skip))
  (.seq (.seq (.reg [⟨(some 73), none, .mv (.t 12)⟩,
   ⟨(some 74), none, .mv (.t 11)⟩,
   ⟨(some 75), none, .bin .neq (.t 73) (.t 74)⟩])
  (.cond (.t 75) (.seq (.reg [⟨(some 6), none, .mv (.v (.bool false))⟩])
  .ret)
  .skip))
  (.seq (.reg [⟨(some 6), none, .mv (.v (.bool true))⟩])
  .ret))))))))))))))))))))))),
  [.t 6]⟩
theorem k11 : cFn Try.prog Try.f11 = some c11 := by kernel_rfl
def openM (k s : Int) (l : List Int) : Int × Option (List Int) :=
  if askB k s then
    if 4 ≤ l.length ∧ l.length ≤ 484 then
      if takeN ((l.drop (l.length - 4)).take 4) = tagL k s (l.take (l.length - 4)) then (0, some (mixL k s (l.take (l.length - 4)))) else (6, none)
    else (5, none)
  else (3, none)
theorem openM_bd {k s c : Int} {d l : List Int} (h : openM k s d = (c, some l)) : (∀ x ∈ l, 0 ≤ x ∧ x < 256) ∧ l.length ≤ 500 := by
  unfold openM at h
  split at h
  · split at h
    · split at h
      · cases h
        refine ⟨mixL_bd _ _ _, ?_⟩
        rw [mixL_len, List.length_take]; omega
      · cases h
    · cases h
  · cases h
def open_sp : Sp := fun _ args h => match args with
  | [.int .i64 k, .int .i64 s, v] => (rdU h v).bind fun l => if l.length ≤ 140737488355328 then some ((brV h (openM k s l).1 (openM k s l).2).1, (brV h (openM k s l).1 (openM k s l).2).2) else none
  | _ => none
theorem open_fr : ∀ lo args h r h', open_sp lo args h = some (r, h') → Fr h.length h h' := by
  intro lo args h r h' hs
  unfold open_sp at hs; split at hs
  · obtain ⟨l, _, hs⟩ := Option.bind_eq_some_iff.1 hs
    split at hs <;> cases hs; exact brV_fr _ _ _
  · cases hs
theorem openS_ok : Ok Try.prog 45 open_sp := by
  refine ok_quiet (OkΓ.cons ask_ok (OkΓ.cons l1In_ok (OkΓ.cons l1Take_ok (OkΓ.cons tagS_ok (OkΓ.cons mixS_ok (OkΓ.nil _)))))) Try.func45 (by kernel_rfl) k45 open_fr ?_
  intro lo args h r h' hs
  unfold open_sp at hs; split at hs
  · rename_i k s v
    obtain ⟨l, hl, hs⟩ := Option.bind_eq_some_iff.1 hs
    split at hs <;> cases hs
    rename_i hcond
    have hla := fun L => rdU_app hl L
    obtain ⟨a, c, rfl, hb, hc⟩ := rdU_spec hl
    clear hs
    by_cases h1 : askB k s
    · have e1 : (if askB k s then (0 : Int) else 3) = 0 := if_pos h1
      have e2 : decide (askB k s) = true := decide_eq_true h1
      by_cases h2 : 4 ≤ l.length ∧ l.length ≤ 484
      · obtain ⟨b, o, e, bs, rfl, _⟩ := hc 0 (by omega)
        have q1 : (decide ((4 : Int) ≤ l.length) && decide ((l.length : Int) ≤ 484)) = true := by simp; omega
        have q2 : (decide ((0 : Int) ≤ (l.length : Int) - 4) && decide ((l.length : Int) - 4 ≤ 480)) = true := by simp; omega
        have hT : ((l.length : Int) - 4).toNat = l.length - 4 := by omega
        have hT2 : ((l.length : Int) - ((l.length : Int) - 4)).toNat = 4 := by omega
        have hs1 := fun L => rdU_sub (rdU_app hl L) 0 (l.length - 4) (l.length - 4) (by omega)
        have hs2 := fun L => rdU_sub (rdU_app hl L) (l.length - 4) 4 4 (by omega)
        simp only [Nat.add_zero, List.drop_zero] at hs1
        have hlen1 : (l.take (l.length - 4)).length = l.length - 4 := by simp
        have hlen2 : ((l.drop (l.length - 4)).take 4).length = 4 := by simp; omega
        by_cases h3 : takeN ((l.drop (l.length - 4)).take 4) = tagL k s (l.take (l.length - 4))
        · have e : openM k s l = (0, some (mixL k s (l.take (l.length - 4)))) := by unfold openM; rw [if_pos h1, if_pos h2, if_pos h3]
          rw [e]
          have hml := mixL_len k s (l.take (l.length - 4))
          rw [hlen1] at hml
          simp only [brV, hml]
          (dsimp only [c45]; simp (maxSteps := 1000000) (implicitDefEqProofs := false) (disch := omega) only [go_sem, Bool.false_eq_true, slc, aop, abin, aun, intB, ↓reduceIte, Nat.reduceEqDiff, Nat.reduceSub, ne_eq, not_false_eq_true, Option.map, Option.bind, get_off, get_off0, set_off, set_off0, List.append_assoc, List.cons_append, List.nil_append, List.length_append, List.length_cons, List.length_nil, Nat.zero_add, Nat.add_zero, Nat.add_assoc, Nat.reduceAdd, List.set_cons_zero, List.set_cons_succ, List.getElem?_cons_zero, List.getElem?_cons_succ, Option.bind_some, Nat.reduceLeDiff, Nat.reduceLT, maxLen, slOut, optI, Int.reduceSub, Int.sub_zero, Nat.zero_mul, if_pos, if_neg, w64, wu8, ↓condK_pos, ↓condK_neg, ↓gdK_pt, ↓gdK_nt, ↓gdK_pf, ↓gdK_nf, decide_eq_true_eq, cellsL, Value.cells, fillL, setAt, decide_true, decide_false, one_int, one_bool, one_string, one_slice, one_pointer, one_ptr, one_iface, one_nili, nat0, flat, slc, List.all_cons, List.all_nil, Bool.and_true, Bool.true_and, Bool.not_true, Bool.not_false, and_true, true_and, and_self, Nat.le_refl, List.take_succ_cons, List.take_zero, List.drop_succ_cons, List.drop_zero, Int.toNat_natCast, Int.reduceToNat, Nat.mul_one, List.take_nil, List.drop_nil, Int.reduceLE, Int.reduceAdd, Int.reduceLT, ask_sp, l1Take_sp, e1, e2, in_sp, q1, q2, mix_sp, tag_sp, hla, h1, hT, hT2, hs1, hs2, hlen1, hlen2, h3, bne_self_eq_false])
          exact ⟨by simp, done_br2 (i := 1) (by simp [rres, rresL, rres1, put_at, getP_ptr, get_off0]) rfl⟩
        · have e : openM k s l = (6, none) := by unfold openM; rw [if_pos h1, if_pos h2, if_neg h3]
          have q3 : (takeN ((l.drop (l.length - 4)).take 4) != tagL k s (l.take (l.length - 4))) = true := by simp [h3]
          rw [e]
          (dsimp only [c45]; simp (maxSteps := 1000000) (implicitDefEqProofs := false) (disch := omega) only [go_sem, Bool.false_eq_true, slc, aop, abin, aun, intB, ↓reduceIte, Nat.reduceEqDiff, Nat.reduceSub, ne_eq, not_false_eq_true, Option.map, Option.bind, get_off, get_off0, set_off, set_off0, List.append_assoc, List.cons_append, List.nil_append, List.length_append, List.length_cons, List.length_nil, Nat.zero_add, Nat.add_zero, Nat.add_assoc, Nat.reduceAdd, List.set_cons_zero, List.set_cons_succ, List.getElem?_cons_zero, List.getElem?_cons_succ, Option.bind_some, Nat.reduceLeDiff, Nat.reduceLT, maxLen, slOut, optI, Int.reduceSub, Int.sub_zero, Nat.zero_mul, if_pos, if_neg, w64, wu8, ↓condK_pos, ↓condK_neg, ↓gdK_pt, ↓gdK_nt, ↓gdK_pf, ↓gdK_nf, decide_eq_true_eq, cellsL, Value.cells, fillL, setAt, decide_true, decide_false, one_int, one_bool, one_string, one_slice, one_pointer, one_ptr, one_iface, one_nili, nat0, flat, slc, List.all_cons, List.all_nil, Bool.and_true, Bool.true_and, Bool.not_true, Bool.not_false, and_true, true_and, and_self, Nat.le_refl, List.take_succ_cons, List.take_zero, List.drop_succ_cons, List.drop_zero, Int.toNat_natCast, Int.reduceToNat, Nat.mul_one, List.take_nil, List.drop_nil, Int.reduceLE, Int.reduceAdd, Int.reduceLT, ask_sp, l1Take_sp, e1, e2, in_sp, q1, q2, mix_sp, tag_sp, hla, h1, hT, hT2, hs1, hs2, hlen1, hlen2, q3, bne_self_eq_false])
          exact ⟨by simp, done_br0 (by simp [rres, rresL, rres1, put_at, getP_ptr, get_off0])⟩
      · have q1 : (decide ((4 : Int) ≤ l.length) && decide ((l.length : Int) ≤ 484)) = false := by simp; omega
        have q2 : (decide ((0 : Int) ≤ (l.length : Int) - 4) && decide ((l.length : Int) - 4 ≤ 480)) = false := by simp; omega
        have e : openM k s l = (5, none) := by unfold openM; rw [if_pos h1, if_neg h2]
        rw [e]
        (dsimp only [c45]; simp (maxSteps := 1000000) (implicitDefEqProofs := false) (disch := omega) only [go_sem, Bool.false_eq_true, slc, aop, abin, aun, intB, ↓reduceIte, Nat.reduceEqDiff, Nat.reduceSub, ne_eq, not_false_eq_true, Option.map, Option.bind, get_off, get_off0, set_off, set_off0, List.append_assoc, List.cons_append, List.nil_append, List.length_append, List.length_cons, List.length_nil, Nat.zero_add, Nat.add_zero, Nat.add_assoc, Nat.reduceAdd, List.set_cons_zero, List.set_cons_succ, List.getElem?_cons_zero, List.getElem?_cons_succ, Option.bind_some, Nat.reduceLeDiff, Nat.reduceLT, maxLen, slOut, optI, Int.reduceSub, Int.sub_zero, Nat.zero_mul, if_pos, if_neg, w64, wu8, ↓condK_pos, ↓condK_neg, ↓gdK_pt, ↓gdK_nt, ↓gdK_pf, ↓gdK_nf, decide_eq_true_eq, cellsL, Value.cells, fillL, setAt, decide_true, decide_false, one_int, one_bool, one_string, one_slice, one_pointer, one_ptr, one_iface, one_nili, nat0, flat, slc, List.all_cons, List.all_nil, Bool.and_true, Bool.true_and, Bool.not_true, Bool.not_false, and_true, true_and, and_self, Nat.le_refl, List.take_succ_cons, List.take_zero, List.drop_succ_cons, List.drop_zero, Int.toNat_natCast, Int.reduceToNat, Nat.mul_one, List.take_nil, List.drop_nil, Int.reduceLE, Int.reduceAdd, Int.reduceLT, ask_sp, keyed_sp, e1, e2, in_sp, q1, q2, bne_self_eq_false])
        exact ⟨by simp, done_br0 (by simp [rres, rresL, rres1, put_at, getP_ptr, get_off0])⟩
    · have e1 : (if askB k s then (0 : Int) else 3) = 3 := if_neg h1
      have e2 : decide (askB k s) = false := decide_eq_false h1
      have e : openM k s l = (3, none) := by unfold openM; rw [if_neg h1]
      have q3 : ((3 : Int) != 0) = true := rfl
      rw [e]
      (dsimp only [c45]; simp (maxSteps := 1000000) (implicitDefEqProofs := false) (disch := omega) only [go_sem, Bool.false_eq_true, slc, aop, abin, aun, intB, ↓reduceIte, Nat.reduceEqDiff, Nat.reduceSub, ne_eq, not_false_eq_true, Option.map, Option.bind, get_off, get_off0, set_off, set_off0, List.append_assoc, List.cons_append, List.nil_append, List.length_append, List.length_cons, List.length_nil, Nat.zero_add, Nat.add_zero, Nat.add_assoc, Nat.reduceAdd, List.set_cons_zero, List.set_cons_succ, List.getElem?_cons_zero, List.getElem?_cons_succ, Option.bind_some, Nat.reduceLeDiff, Nat.reduceLT, maxLen, slOut, optI, Int.reduceSub, Int.sub_zero, Nat.zero_mul, if_pos, if_neg, w64, wu8, ↓condK_pos, ↓condK_neg, ↓gdK_pt, ↓gdK_nt, ↓gdK_pf, ↓gdK_nf, decide_eq_true_eq, cellsL, Value.cells, fillL, setAt, decide_true, decide_false, one_int, one_bool, one_string, one_slice, one_pointer, one_ptr, one_iface, one_nili, nat0, flat, slc, List.all_cons, List.all_nil, Bool.and_true, Bool.true_and, Bool.not_true, Bool.not_false, and_true, true_and, and_self, Nat.le_refl, List.take_succ_cons, List.take_zero, List.drop_succ_cons, List.drop_zero, Int.toNat_natCast, Int.reduceToNat, Nat.mul_one, List.take_nil, List.drop_nil, Int.reduceLE, Int.reduceAdd, Int.reduceLT, ask_sp, keyed_sp, e1, e2, q3])
      exact ⟨by simp, done_br0 (by simp [rres, rresL, rres1, put_at, getP_ptr, get_off0])⟩
  · cases hs
theorem openI_ok : Ok Try.prog 46 open_sp := by
  refine ok_quiet (OkΓ.cons keyed_ok (OkΓ.cons in_ok (OkΓ.cons take_ok (OkΓ.cons tagI_ok (OkΓ.cons mixI_ok (OkΓ.nil _)))))) Try.func46 (by kernel_rfl) k46 open_fr ?_
  intro lo args h r h' hs
  unfold open_sp at hs; split at hs
  · rename_i k s v
    obtain ⟨l, hl, hs⟩ := Option.bind_eq_some_iff.1 hs
    split at hs <;> cases hs
    rename_i hcond
    have hla := fun L => rdU_app hl L
    obtain ⟨a, c, rfl, hb, hc⟩ := rdU_spec hl
    clear hs
    by_cases h1 : askB k s
    · have e1 : (if askB k s then (0 : Int) else 3) = 0 := if_pos h1
      have e2 : decide (askB k s) = true := decide_eq_true h1
      by_cases h2 : 4 ≤ l.length ∧ l.length ≤ 484
      · obtain ⟨b, o, e, bs, rfl, _⟩ := hc 0 (by omega)
        have q1 : (decide ((4 : Int) ≤ l.length) && decide ((l.length : Int) ≤ 484)) = true := by simp; omega
        have q2 : (decide ((0 : Int) ≤ (l.length : Int) - 4) && decide ((l.length : Int) - 4 ≤ 480)) = true := by simp; omega
        have hT : ((l.length : Int) - 4).toNat = l.length - 4 := by omega
        have hT2 : ((l.length : Int) - ((l.length : Int) - 4)).toNat = 4 := by omega
        have hs1 := fun L => rdU_sub (rdU_app hl L) 0 (l.length - 4) (l.length - 4) (by omega)
        have hs2 := fun L => rdU_sub (rdU_app hl L) (l.length - 4) 4 4 (by omega)
        simp only [Nat.add_zero, List.drop_zero] at hs1
        have hlen1 : (l.take (l.length - 4)).length = l.length - 4 := by simp
        have hlen2 : ((l.drop (l.length - 4)).take 4).length = 4 := by simp; omega
        by_cases h3 : takeN ((l.drop (l.length - 4)).take 4) = tagL k s (l.take (l.length - 4))
        · have e : openM k s l = (0, some (mixL k s (l.take (l.length - 4)))) := by unfold openM; rw [if_pos h1, if_pos h2, if_pos h3]
          rw [e]
          have hml := mixL_len k s (l.take (l.length - 4))
          rw [hlen1] at hml
          simp only [brV, hml]
          (dsimp only [c46]; simp (maxSteps := 1000000) (implicitDefEqProofs := false) (disch := omega) only [go_sem, Bool.false_eq_true, slc, aop, abin, aun, intB, ↓reduceIte, Nat.reduceEqDiff, Nat.reduceSub, ne_eq, not_false_eq_true, Option.map, Option.bind, get_off, get_off0, set_off, set_off0, List.append_assoc, List.cons_append, List.nil_append, List.length_append, List.length_cons, List.length_nil, Nat.zero_add, Nat.add_zero, Nat.add_assoc, Nat.reduceAdd, List.set_cons_zero, List.set_cons_succ, List.getElem?_cons_zero, List.getElem?_cons_succ, Option.bind_some, Nat.reduceLeDiff, Nat.reduceLT, maxLen, slOut, optI, Int.reduceSub, Int.sub_zero, Nat.zero_mul, if_pos, if_neg, w64, wu8, ↓condK_pos, ↓condK_neg, ↓gdK_pt, ↓gdK_nt, ↓gdK_pf, ↓gdK_nf, decide_eq_true_eq, cellsL, Value.cells, fillL, setAt, decide_true, decide_false, one_int, one_bool, one_string, one_slice, one_pointer, one_ptr, one_iface, one_nili, nat0, flat, slc, List.all_cons, List.all_nil, Bool.and_true, Bool.true_and, Bool.not_true, Bool.not_false, and_true, true_and, and_self, Nat.le_refl, List.take_succ_cons, List.take_zero, List.drop_succ_cons, List.drop_zero, Int.toNat_natCast, Int.reduceToNat, Nat.mul_one, List.take_nil, List.drop_nil, Int.reduceLE, Int.reduceAdd, Int.reduceLT, keyed_sp, take_sp, e1, e2, in_sp, q1, q2, mix_sp, tag_sp, hla, h1, hT, hT2, hs1, hs2, hlen1, hlen2, h3, bne_self_eq_false])
          exact ⟨by simp, done_br2 (i := 1) (by simp [rres, rresL, rres1, put_at, getP_ptr, get_off0]) rfl⟩
        · have e : openM k s l = (6, none) := by unfold openM; rw [if_pos h1, if_pos h2, if_neg h3]
          have q3 : (takeN ((l.drop (l.length - 4)).take 4) != tagL k s (l.take (l.length - 4))) = true := by simp [h3]
          rw [e]
          (dsimp only [c46]; simp (maxSteps := 1000000) (implicitDefEqProofs := false) (disch := omega) only [go_sem, Bool.false_eq_true, slc, aop, abin, aun, intB, ↓reduceIte, Nat.reduceEqDiff, Nat.reduceSub, ne_eq, not_false_eq_true, Option.map, Option.bind, get_off, get_off0, set_off, set_off0, List.append_assoc, List.cons_append, List.nil_append, List.length_append, List.length_cons, List.length_nil, Nat.zero_add, Nat.add_zero, Nat.add_assoc, Nat.reduceAdd, List.set_cons_zero, List.set_cons_succ, List.getElem?_cons_zero, List.getElem?_cons_succ, Option.bind_some, Nat.reduceLeDiff, Nat.reduceLT, maxLen, slOut, optI, Int.reduceSub, Int.sub_zero, Nat.zero_mul, if_pos, if_neg, w64, wu8, ↓condK_pos, ↓condK_neg, ↓gdK_pt, ↓gdK_nt, ↓gdK_pf, ↓gdK_nf, decide_eq_true_eq, cellsL, Value.cells, fillL, setAt, decide_true, decide_false, one_int, one_bool, one_string, one_slice, one_pointer, one_ptr, one_iface, one_nili, nat0, flat, slc, List.all_cons, List.all_nil, Bool.and_true, Bool.true_and, Bool.not_true, Bool.not_false, and_true, true_and, and_self, Nat.le_refl, List.take_succ_cons, List.take_zero, List.drop_succ_cons, List.drop_zero, Int.toNat_natCast, Int.reduceToNat, Nat.mul_one, List.take_nil, List.drop_nil, Int.reduceLE, Int.reduceAdd, Int.reduceLT, keyed_sp, take_sp, e1, e2, in_sp, q1, q2, mix_sp, tag_sp, hla, h1, hT, hT2, hs1, hs2, hlen1, hlen2, q3, bne_self_eq_false])
          exact ⟨by simp, done_br0 (by simp [rres, rresL, rres1, put_at, getP_ptr, get_off0])⟩
      · have q1 : (decide ((4 : Int) ≤ l.length) && decide ((l.length : Int) ≤ 484)) = false := by simp; omega
        have q2 : (decide ((0 : Int) ≤ (l.length : Int) - 4) && decide ((l.length : Int) - 4 ≤ 480)) = false := by simp; omega
        have e : openM k s l = (5, none) := by unfold openM; rw [if_pos h1, if_neg h2]
        rw [e]
        (dsimp only [c46]; simp (maxSteps := 1000000) (implicitDefEqProofs := false) (disch := omega) only [go_sem, Bool.false_eq_true, slc, aop, abin, aun, intB, ↓reduceIte, Nat.reduceEqDiff, Nat.reduceSub, ne_eq, not_false_eq_true, Option.map, Option.bind, get_off, get_off0, set_off, set_off0, List.append_assoc, List.cons_append, List.nil_append, List.length_append, List.length_cons, List.length_nil, Nat.zero_add, Nat.add_zero, Nat.add_assoc, Nat.reduceAdd, List.set_cons_zero, List.set_cons_succ, List.getElem?_cons_zero, List.getElem?_cons_succ, Option.bind_some, Nat.reduceLeDiff, Nat.reduceLT, maxLen, slOut, optI, Int.reduceSub, Int.sub_zero, Nat.zero_mul, if_pos, if_neg, w64, wu8, ↓condK_pos, ↓condK_neg, ↓gdK_pt, ↓gdK_nt, ↓gdK_pf, ↓gdK_nf, decide_eq_true_eq, cellsL, Value.cells, fillL, setAt, decide_true, decide_false, one_int, one_bool, one_string, one_slice, one_pointer, one_ptr, one_iface, one_nili, nat0, flat, slc, List.all_cons, List.all_nil, Bool.and_true, Bool.true_and, Bool.not_true, Bool.not_false, and_true, true_and, and_self, Nat.le_refl, List.take_succ_cons, List.take_zero, List.drop_succ_cons, List.drop_zero, Int.toNat_natCast, Int.reduceToNat, Nat.mul_one, List.take_nil, List.drop_nil, Int.reduceLE, Int.reduceAdd, Int.reduceLT, ask_sp, keyed_sp, e1, e2, in_sp, q1, q2, bne_self_eq_false])
        exact ⟨by simp, done_br0 (by simp [rres, rresL, rres1, put_at, getP_ptr, get_off0])⟩
    · have e1 : (if askB k s then (0 : Int) else 3) = 3 := if_neg h1
      have e2 : decide (askB k s) = false := decide_eq_false h1
      have e : openM k s l = (3, none) := by unfold openM; rw [if_neg h1]
      have q3 : ((3 : Int) != 0) = true := rfl
      rw [e]
      (dsimp only [c46]; simp (maxSteps := 1000000) (implicitDefEqProofs := false) (disch := omega) only [go_sem, Bool.false_eq_true, slc, aop, abin, aun, intB, ↓reduceIte, Nat.reduceEqDiff, Nat.reduceSub, ne_eq, not_false_eq_true, Option.map, Option.bind, get_off, get_off0, set_off, set_off0, List.append_assoc, List.cons_append, List.nil_append, List.length_append, List.length_cons, List.length_nil, Nat.zero_add, Nat.add_zero, Nat.add_assoc, Nat.reduceAdd, List.set_cons_zero, List.set_cons_succ, List.getElem?_cons_zero, List.getElem?_cons_succ, Option.bind_some, Nat.reduceLeDiff, Nat.reduceLT, maxLen, slOut, optI, Int.reduceSub, Int.sub_zero, Nat.zero_mul, if_pos, if_neg, w64, wu8, ↓condK_pos, ↓condK_neg, ↓gdK_pt, ↓gdK_nt, ↓gdK_pf, ↓gdK_nf, decide_eq_true_eq, cellsL, Value.cells, fillL, setAt, decide_true, decide_false, one_int, one_bool, one_string, one_slice, one_pointer, one_ptr, one_iface, one_nili, nat0, flat, slc, List.all_cons, List.all_nil, Bool.and_true, Bool.true_and, Bool.not_true, Bool.not_false, and_true, true_and, and_self, Nat.le_refl, List.take_succ_cons, List.take_zero, List.drop_succ_cons, List.drop_zero, Int.toNat_natCast, Int.reduceToNat, Nat.mul_one, List.take_nil, List.drop_nil, Int.reduceLE, Int.reduceAdd, Int.reduceLT, ask_sp, keyed_sp, e1, e2, q3])
      exact ⟨by simp, done_br0 (by simp [rres, rresL, rres1, put_at, getP_ptr, get_off0])⟩
  · cases hs
theorem openL_ok : Ok Try.prog 11 kslLaw_sp := by
  refine ok_quiet (OkΓ.cons toB_ok (OkΓ.cons openS_ok (OkΓ.cons openI_ok (OkΓ.cons eqBR_ok (OkΓ.cons eqB_ok (OkΓ.cons mkB_ok (OkΓ.cons mkBR_ok (OkΓ.cons hdBR_ok (OkΓ.nil _))))))))) Try.func11 (by kernel_rfl) k11 ?_ ?_
  · intro lo args h r h' hs
    unfold kslLaw_sp at hs; split at hs
    · obtain ⟨l, _, hs⟩ := Option.bind_eq_some_iff.1 hs
      split at hs <;> cases hs; exact Fr.refl _ _
    · cases hs
  · intro lo args h r h' hs
    unfold kslLaw_sp at hs; split at hs
    · rename_i k s v
      obtain ⟨d, hd, hs⟩ := Option.bind_eq_some_iff.1 hs
      split at hs <;> cases hs
      rename_i hcond
      have hda := fun L => rdU_app hd L
      obtain ⟨a, c, rfl, hb0, hc⟩ := rdU_spec hd
      clear hs
      have hdh := rdU_head hb0
      by_cases h1 : d.length ≤ 1048576
      · rcases hM : openM k s d with ⟨c, _ | l⟩
        · (dsimp only [c11]; simp (maxSteps := 1000000) (implicitDefEqProofs := false) (disch := omega) only [go_sem, Bool.false_eq_true, slc, aop, abin, aun, intB, ↓reduceIte, Nat.reduceEqDiff, Nat.reduceSub, ne_eq, not_false_eq_true, Option.map, Option.bind, get_off, get_off0, set_off, set_off0, List.append_assoc, List.cons_append, List.nil_append, List.length_append, List.length_cons, List.length_nil, Nat.zero_add, Nat.add_zero, Nat.add_assoc, Nat.reduceAdd, List.set_cons_zero, List.set_cons_succ, List.getElem?_cons_zero, List.getElem?_cons_succ, Option.bind_some, Nat.reduceLeDiff, Nat.reduceLT, maxLen, slOut, optI, Int.reduceSub, Int.sub_zero, Nat.zero_mul, if_pos, if_neg, w64, wu8, ↓condK_pos, ↓condK_neg, ↓gdK_pt, ↓gdK_nt, ↓gdK_pf, ↓gdK_nf, decide_eq_true_eq, cellsL, Value.cells, fillL, setAt, decide_true, decide_false, one_int, one_bool, one_string, one_slice, one_pointer, one_ptr, one_iface, one_nili, nat0, flat, slc, List.all_cons, List.all_nil, Bool.and_true, Bool.true_and, Bool.not_true, Bool.not_false, and_true, true_and, and_self, Nat.le_refl, List.take_succ_cons, List.take_zero, List.drop_succ_cons, List.drop_zero, Int.toNat_natCast, Int.reduceToNat, Nat.mul_one, List.take_nil, List.drop_nil, Int.reduceLE, Int.reduceAdd, Int.reduceLT, toB_sp, open_sp, hM, brV, eqBR_sp, eqB_sp, mkBR_sp, mkB_sp, hdBR_sp, hdB_sp, hd, hda, hdh, rdU_off, rdU_off0, rdU_tail, u8s_len, rdU_nil, markL_zero, bne_self_eq_false])
          exact ⟨by simp, done_scalar (by simp [rres, rresL, rres1, put_at]) (mapV_flat _ rfl).symm keep_off⟩
        · obtain ⟨hb, hl⟩ := openM_bd hM
          have hh := rdU_head hb
          (dsimp only [c11]; simp (maxSteps := 1000000) (implicitDefEqProofs := false) (disch := omega) only [go_sem, Bool.false_eq_true, slc, aop, abin, aun, intB, ↓reduceIte, Nat.reduceEqDiff, Nat.reduceSub, ne_eq, not_false_eq_true, Option.map, Option.bind, get_off, get_off0, set_off, set_off0, List.append_assoc, List.cons_append, List.nil_append, List.length_append, List.length_cons, List.length_nil, Nat.zero_add, Nat.add_zero, Nat.add_assoc, Nat.reduceAdd, List.set_cons_zero, List.set_cons_succ, List.getElem?_cons_zero, List.getElem?_cons_succ, Option.bind_some, Nat.reduceLeDiff, Nat.reduceLT, maxLen, slOut, optI, Int.reduceSub, Int.sub_zero, Nat.zero_mul, if_pos, if_neg, w64, wu8, ↓condK_pos, ↓condK_neg, ↓gdK_pt, ↓gdK_nt, ↓gdK_pf, ↓gdK_nf, decide_eq_true_eq, cellsL, Value.cells, fillL, setAt, decide_true, decide_false, one_int, one_bool, one_string, one_slice, one_pointer, one_ptr, one_iface, one_nili, nat0, flat, slc, List.all_cons, List.all_nil, Bool.and_true, Bool.true_and, Bool.not_true, Bool.not_false, and_true, true_and, and_self, Nat.le_refl, List.take_succ_cons, List.take_zero, List.drop_succ_cons, List.drop_zero, Int.toNat_natCast, Int.reduceToNat, Nat.mul_one, List.take_nil, List.drop_nil, Int.reduceLE, Int.reduceAdd, Int.reduceLT, toB_sp, open_sp, hM, brV, eqBR_sp, eqB_sp, mkBR_sp, mkB_sp, hdBR_sp, hdB_sp, hd, hda, hdh, rdU_off, rdU_off0, rdU_tail, hh, rdU_mark, markL_len, u8s_len, bne_self_eq_false])
          exact ⟨by simp, done_scalar (by simp [rres, rresL, rres1, put_at]) (mapV_flat _ rfl).symm keep_off⟩
      · (dsimp only [c11]; simp (maxSteps := 1000000) (implicitDefEqProofs := false) (disch := omega) only [go_sem, Bool.false_eq_true, slc, aop, abin, aun, intB, ↓reduceIte, Nat.reduceEqDiff, Nat.reduceSub, ne_eq, not_false_eq_true, Option.map, Option.bind, get_off, get_off0, set_off, set_off0, List.append_assoc, List.cons_append, List.nil_append, List.length_append, List.length_cons, List.length_nil, Nat.zero_add, Nat.add_zero, Nat.add_assoc, Nat.reduceAdd, List.set_cons_zero, List.set_cons_succ, List.getElem?_cons_zero, List.getElem?_cons_succ, Option.bind_some, Nat.reduceLeDiff, Nat.reduceLT, maxLen, slOut, optI, Int.reduceSub, Int.sub_zero, Nat.zero_mul, if_pos, if_neg, w64, wu8, ↓condK_pos, ↓condK_neg, ↓gdK_pt, ↓gdK_nt, ↓gdK_pf, ↓gdK_nf, decide_eq_true_eq, cellsL, Value.cells, fillL, setAt, decide_true, decide_false, one_int, one_bool, one_string, one_slice, one_pointer, one_ptr, one_iface, one_nili, nat0, flat, slc, List.all_cons, List.all_nil, Bool.and_true, Bool.true_and, Bool.not_true, Bool.not_false, and_true, true_and, and_self, Nat.le_refl, List.take_succ_cons, List.take_zero, List.drop_succ_cons, List.drop_zero, Int.toNat_natCast, Int.reduceToNat, Nat.mul_one, List.take_nil, List.drop_nil, Int.reduceLE, Int.reduceAdd, Int.reduceLT])
        exact ⟨by simp, done_scalar (by simp [rres, rresL, rres1, put_at]) (mapV_flat _ rfl).symm (fun _ _ => rfl)⟩
    · cases hs
theorem fnExactOpenBytes_calls {k s : Int} {a : Option Addr} {len cap : Nat} {zs : List Int} {W : World} (_ : (Lit.int .i64 k).wf = true) (_ : (Lit.int .i64 s).wf = true) (w : IsRow .u8 W a len cap zs) (y : len * 1 ≤ 140737488351232) :
    Calls Try.prog 11 ⟨[.int .i64 k, .int .i64 s, .slice a len cap]⟩ W (fun e W' => e = .returned (.bool true) ∧ RowKit.Below W.heap.size W W') := law_ksl openL_ok w y
end Go.Proofs.Ytpndkgpkakhbmaa
