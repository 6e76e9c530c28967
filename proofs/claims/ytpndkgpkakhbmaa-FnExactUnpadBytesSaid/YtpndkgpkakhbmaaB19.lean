import Derived.Test.YtpndkgpkakhbmaaB18
set_option linter.unusedSimpArgs false
set_option linter.unusedVariables false
set_option maxRecDepth 100000
namespace Go.Proofs.Ytpndkgpkakhbmaa
open Go Go.AH
attribute [local go_sem ↓] awp_skip awp_ret awp_exit awp_seq awp_reg awp_drw awp_cond awp_block seqK_normal seqK_ret seqK_exit blkK_normal blkK_ret loopK_normal loopK_ret loopK_exit rops_nil qops_nil rops_op rops_op0 rops_opg qops_op qops_op0 qops_opg gdK_tt gdK_ff gdK_tf gdK_ft kont_some condK_true condK_false
attribute [local go_sem] tag_eq blkK_exit put_at argσ_nil argσ_cons ev_t ev_v ctx_get getB_bool getI_int getP_ptr Option.map_some Option.bind_some List.map_cons List.map_nil
attribute [local congr] kont_cong condK_cong gdK_cong awp_cong rops_cong qops_cong
-- spec.UnpadBytes
def c39 : AF := ⟨25,
  (.seq (.reg [⟨(some 2), none, .alloc 47 [(.int .i64 0), (.slice none 0 0), (.int .i64 0), (.int .i64 0)]⟩])
  (.seq (.seq (.reg [⟨(some 7), none, .mv (.t 0)⟩,
   ⟨(some 8), none, .len (.t 7)⟩,
   ⟨(some 9), none, .bin .gtr (.t 8) (.v (.int .i64 418))⟩])
  (.cond (.t 9) (.seq (.reg [⟨(some 10), none, .build [(.int .i64 0), (.slice none 0 0), (.int .i64 0), (.int .i64 0)] [(0, 1, (.v (.int .i64 2)))]⟩,
   ⟨none, none, .st 4 (.t 2) (.t 10)⟩])
  .ret)
  .skip))
  (.seq (.reg [⟨(some 12), none, .mv (.t 0)⟩,
   ⟨(some 13), none, .call 78 [(.t 12)]⟩,
   ⟨(some 11), none, .mv (.t 13)⟩,
   ⟨(some 14), none, .ext (.t 11) 0⟩,
   ⟨(some 15), none, .ext (.t 11) 1⟩,
   ⟨(some 16), none, .ext (.t 11) 2⟩,
   ⟨(some 17), none, .ext (.t 11) 3⟩,
   ⟨(some 3), none, .mv (.t 14)⟩,
   ⟨(some 4), none, .mv (.t 15)⟩,
   ⟨(some 5), none, .mv (.t 16)⟩,
   ⟨(some 6), none, .mv (.t 17)⟩])
  (.seq (.seq (.reg [⟨(some 18), none, .mv (.t 6)⟩,
   ⟨(some 19), none, .un .not (.t 18)⟩])
  (.cond (.t 19) (.seq (.reg [⟨(some 20), none, .build [(.int .i64 0), (.slice none 0 0), (.int .i64 0), (.int .i64 0)] [(0, 1, (.v (.int .i64 5)))]⟩,
   ⟨none, none, .st 4 (.t 2) (.t 20)⟩])
  .ret)
  .skip))
  (.seq (.reg [⟨(some 21), none, .mv (.t 3)⟩,
   ⟨(some 22), none, .mv (.t 4)⟩,
   ⟨(some 23), none, .mv (.t 5)⟩,
   ⟨(some 24), none, .build [(.int .i64 0), (.slice none 0 0), (.int .i64 0), (.int .i64 0)] [(1, 1, (.t 21)), (2, 1, (.t 22)), (3, 1, (.t 23))]⟩,
   ⟨none, none, .st 4 (.t 2) (.t 24)⟩])
  .ret))))),
  [.cell 2 (some 4)]⟩
theorem k39 : cFn Try.prog Try.f39 = some c39 := by kernel_rfl
-- impl.UnpadBytes
def c33 : AF := ⟨64,
  (.seq (.reg [⟨(some 2), none, .alloc 47 [(.int .i64 0), (.slice none 0 0), (.int .i64 0), (.int .i64 0)]⟩])
  (.seq (.seq (.reg [⟨(some 8), none, .mv (.t 0)⟩,
   ⟨(some 9), none, .len (.t 8)⟩,
   ⟨(some 10), none, .bin .gtr (.t 9) (.v (.int .i64 418))⟩])
  (.cond (.t 10) (.seq (.reg [⟨(some 11), none, .build [(.int .i64 0), (.slice none 0 0), (.int .i64 0), (.int .i64 0)] [(0, 1, (.v (.int .i64 2)))]⟩,
   ⟨none, none, .st 4 (.t 2) (.t 11)⟩])
  .ret)
  .skip))
  (.seq (.reg [⟨(some 12), none, .mv (.t 0)⟩,
   ⟨(some 13), none, .len (.t 12)⟩,
   ⟨(some 14), none, .bin .sub (.t 13) (.v (.int .i64 2))⟩,
   ⟨(some 3), none, .mv (.t 14)⟩])
  (.seq (.seq (.reg [⟨(some 15), none, .mv (.t 3)⟩,
   ⟨(some 16), none, .bin .lss (.t 15) (.v (.int .i64 0))⟩,
   ⟨(some 17), none, .mv (.t 16)⟩,
   ⟨(some 18), (some (17, false)), .mv (.t 0)⟩,
   ⟨(some 19), (some (17, false)), .mv (.t 3)⟩,
   ⟨(some 20), (some (17, false)), .ia 1 (.t 18) (.t 19)⟩,
   ⟨(some 21), (some (17, false)), .ld (.t 20)⟩,
   ⟨(some 22), (some (17, false)), .cvI .i64 (.t 21)⟩,
   ⟨(some 23), (some (17, false)), .mv (.t 3)⟩,
   ⟨(some 24), (some (17, false)), .bin .gtr (.t 22) (.t 23)⟩,
   ⟨(some 25), none, .pick (.t 17) (.v (.bool true)) (.t 24)⟩])
  (.cond (.t 25) (.seq (.reg [⟨(some 26), none, .build [(.int .i64 0), (.slice none 0 0), (.int .i64 0), (.int .i64 0)] [(0, 1, (.v (.int .i64 5)))]⟩,
   ⟨none, none, .st 4 (.t 2) (.t 26)⟩])
  .ret)
  .skip))
  (.seq (.drw [⟨(some 27), none, .mv (.t 0)⟩,
   ⟨(some 28), none, .mv (.t 3)⟩,
   ⟨(some 29), none, .ia 1 (.t 27) (.t 28)⟩,
   ⟨(some 30), none, .ld (.t 29)⟩,
   ⟨(some 31), none, .cvI .i64 (.t 30)⟩,
   ⟨(some 32), none, .mv (.t 0)⟩,
   ⟨(some 33), none, .mv (.t 3)⟩,
   ⟨(some 34), none, .bin .add (.t 33) (.v (.int .i64 1))⟩,
   ⟨(some 35), none, .ia 1 (.t 32) (.t 34)⟩,
   ⟨(some 36), none, .ld (.t 35)⟩,
   ⟨(some 4), none, .mv (.t 31)⟩,
   ⟨(some 5), none, .mv (.t 36)⟩] [])
  (.seq (.reg [⟨(some 37), none, .mv (.t 0)⟩,
   ⟨(some 38), none, .mv (.t 3)⟩,
   ⟨(some 39), none, .mv (.t 4)⟩,
   ⟨(some 40), none, .bin .sub (.t 38) (.t 39)⟩,
   ⟨(some 41), none, .sl 1 (.t 37) none (some (.t 40))⟩,
   ⟨(some 6), none, .mv (.t 41)⟩])
  (.seq (.seq (.reg [⟨(some 7), none, .mv (.v (.int .i64 1))⟩])
  (.block 0 (.loop (.seq (.seq (.reg [⟨(some 42), none, .mv (.t 7)⟩,
   ⟨(some 43), none, .bin .leq (.t 42) (.v (.int .i64 16))⟩])
  (.cond (.t 43) .skip
  (.exit 0)))
  (.seq (.block 1 (.seq (.reg [⟨(some 46), none, .mv (.t 6)⟩,
   ⟨(some 47), none, .len (.t 46)⟩,
   ⟨(some 48), none, .bin .leq (.t 47) (.v (.int .i64 400))⟩,
   ⟨(some 49), none, .mv (.t 48)⟩,
   ⟨(some 50), (some (49, true)), .mv (.t 6)⟩,
   ⟨(some 51), (some (49, true)), .mv (.t 7)⟩,
   ⟨(some 52), (some (49, true)), .mv (.t 5)⟩,
   ⟨(some 53), (some (49, true)), .call 67 [(.t 50), (.t 51), (.t 52)]⟩,
   ⟨(some 54), (some (49, true)), .mv (.t 0)⟩,
   ⟨(some 55), (some (49, true)), .call 71 [(.t 53), (.t 54)]⟩,
   ⟨(some 56), none, .pick (.t 49) (.t 55) (.v (.bool false))⟩])
  (.cond (.t 56) (.seq (.reg [⟨(some 57), none, .mv (.t 6)⟩,
   ⟨(some 58), none, .call 72 [(.t 57)]⟩,
   ⟨(some 59), none, .mv (.t 5)⟩,
   ⟨(some 60), none, .cvI .i64 (.t 59)⟩,
   ⟨(some 61), none, .mv (.t 4)⟩,
   ⟨(some 62), none, .build [(.int .i64 0), (.slice none 0 0), (.int .i64 0), (.int .i64 0)] [(0, 1, (.v (.int .i64 0))), (1, 1, (.t 58)), (2, 1, (.t 60)), (3, 1, (.t 61))]⟩,
   ⟨none, none, .st 4 (.t 2) (.t 62)⟩])
  .ret)
  .skip)))
  (.reg [⟨(some 44), none, .mv (.t 7)⟩,
   ⟨(some 45), none, .bin .add (.t 44) (.v (.int .i64 1))⟩,
   ⟨(some 7), none, .mv (.t 45)⟩]))))))
  (.seq (.reg [⟨(some 63), none, .build [(.int .i64 0), (.slice none 0 0), (.int .i64 0), (.int .i64 0)] [(0, 1, (.v (.int .i64 5)))]⟩,
   ⟨none, none, .st 4 (.t 2) (.t 63)⟩])
  .ret)))))))),
  [.cell 2 (some 4)]⟩
theorem k33 : cFn Try.prog Try.f33 = some c33 := by kernel_rfl
-- laws.eqUnpadResult
def c40 : AF := ⟨26,
  (.seq (.reg [⟨(some 2), none, .box 47 (.t 0)⟩,
   ⟨(some 3), none, .box 47 (.t 1)⟩,
   ⟨(some 4), none, .mv (.v (.bool false))⟩])
  (.seq (.seq (.reg [⟨(some 5), none, .fa (.t 2) 0⟩,
   ⟨(some 6), none, .ld (.t 5)⟩,
   ⟨(some 7), none, .fa (.t 3) 0⟩,
   ⟨(some 8), none, .ld (.t 7)⟩,
   ⟨(some 9), none, .bin .neq (.t 6) (.t 8)⟩])
  (.cond (.t 9) (.seq (.reg [⟨(some 4), none, .mv (.v (.bool false))⟩])
  .ret)
  .skip))
  (.seq (.seq (.reg [⟨(some 10), none, .fa (.t 2) 1⟩,
   ⟨(some 11), none, .ld (.t 10)⟩,
   ⟨(some 12), none, .fa (.t 3) 1⟩,
   ⟨(some 13), none, .ld (.t 12)⟩,
   ⟨(some 14), none, .call 19 [(.t 11), (.t 13)]⟩,
   ⟨(some 15), none, .un .not (.t 14)⟩])
  (.cond (.t 15) (.seq (.reg [⟨(some 4), none, .mv (.v (.bool false))⟩])
  .ret)
  .skip))
  (.seq (.seq (.reg [⟨(some 16), none, .fa (.t 2) 2⟩,
   ⟨(some 17), none, .ld (.t 16)⟩,
   ⟨(some 18), none, .fa (.t 3) 2⟩,
   ⟨(some 19), none, .ld (.t 18)⟩,
   ⟨(some 20), none, .bin .neq (.t 17) (.t 19)⟩])
  (.cond (.t 20) (.seq (.reg [⟨(some 4), none, .mv (.v (.bool false))⟩])
  .ret)
  .skip))
  (.seq (.seq (.reg [⟨(some 21), none, .fa (.t 2) 3⟩,
   ⟨(some 22), none, .ld (.t 21)⟩,
   ⟨(some 23), none, .fa (.t 3) 3⟩,
   ⟨(some 24), none, .ld (.t 23)⟩,
   ⟨(some 25), none, .bin .neq (.t 22) (.t 24)⟩])
  (.cond (.t 25) (.seq (.reg [⟨(some 4), none, .mv (.v (.bool false))⟩])
  .ret)
  .skip))
  (.seq (.reg [⟨(some 4), none, .mv (.v (.bool true))⟩])
  .ret)))))),
  [.t 4]⟩
theorem k40 : cFn Try.prog Try.f40 = some c40 := by kernel_rfl
-- laws.markUnpadResult
def c41 : AF := ⟨10,
  (.seq (.reg [⟨(some 2), none, .box 47 (.t 0)⟩,
   ⟨(some 4), none, .mv (.v (.int .i64 0))⟩])
  (.seq (.reg [⟨(some 5), none, .fa (.t 2) 1⟩,
   ⟨(some 6), none, .ld (.t 5)⟩,
   ⟨(some 7), none, .mv (.t 1)⟩,
   ⟨(some 8), none, .call 30 [(.t 6), (.t 7)]⟩,
   ⟨(some 1), none, .mv (.t 8)⟩])
  (.seq (.reg [⟨(some 9), none, .mv (.t 1)⟩,
   ⟨(some 4), none, .mv (.t 9)⟩])
  .ret))),
  [.t 4]⟩
theorem k41 : cFn Try.prog Try.f41 = some c41 := by kernel_rfl
-- laws.heldUnpadResult
def c42 : AF := ⟨12,
  (.seq (.reg [⟨(some 2), none, .box 47 (.t 0)⟩,
   ⟨(some 4), none, .mv (.v (.int .i64 0))⟩])
  (.seq (.reg [⟨(some 5), none, .fa (.t 2) 1⟩,
   ⟨(some 6), none, .ld (.t 5)⟩,
   ⟨(some 7), none, .mv (.t 1)⟩,
   ⟨(some 8), none, .call 66 [(.t 6), (.t 7)]⟩,
   ⟨(some 1), none, .mv (.t 8)⟩])
  (.seq (.seq (.reg [⟨(some 9), none, .mv (.t 1)⟩,
   ⟨(some 10), none, .bin .lss (.t 9) (.v (.int .i64 0))⟩])
  (.cond (.t 10) (.seq (.reg [⟨(some 4), none, .mv (.v (.int .i64 (-1)))⟩])
  .ret)
  .skip))
  (.seq (.reg [⟨(some 11), none, .mv (.t 1)⟩,
   ⟨(some 4), none, .mv (.t 11)⟩])
  .ret)))),
  [.t 4]⟩
theorem k42 : cFn Try.prog Try.f42 = some c42 := by kernel_rfl
theorem mapV_emptyV {n m : Nat} (ks : List Nat) (h : 0 < n) : mapV (unN n m ks) emptyV = emptyV := by
  show Value.slice (some ⟨unN n m ks 0, 0, some 0⟩) 0 0 = _
  rw [show unN n m ks 0 = 0 by simp [unN, h]]; rfl
def urV (c : Int) (s : Value) (nx p : Int) : Value := .agg ⟨[.int .i64 c, s, .int .i64 nx, .int .i64 p]⟩
theorem done_ur0 {h L : Heap} {res : List AR} {σ : Nat → Value} {c nx p : Int} (hr : rres ⟨σ, h ++ L⟩ res = some (urV c (.slice none 0 0) nx p)) : Done h res (urV c (.slice none 0 0) nx p) h ⟨σ, h ++ L⟩ := done_scalar hr (by rfl) keep_off
theorem done_urE {h L : Heap} {res : List AR} {σ : Nat → Value} {c nx p : Int} (h0 : 0 < h.length) (hr : rres ⟨σ, h ++ L⟩ res = some (urV c emptyV nx p)) : Done h res (urV c emptyV nx p) h ⟨σ, h ++ L⟩ := by
  refine done_scalar hr ?_ keep_off
  show _ = Value.agg ⟨[.int .i64 c, mapV _ emptyV, .int .i64 nx, .int .i64 p]⟩
  rw [mapV_emptyV _ h0]; rfl
theorem done_ur2 {h L : Heap} {res : List AR} {σ : Nat → Value} {e : TypeId} {l : List Int} {n : Nat} {c nx p : Int} (i : Nat) (hr : rres ⟨σ, h ++ L⟩ res = some (urV c (.slice (some ⟨h.length + i, 0, none⟩) n n) nx p)) (hi : L[i]? = some (.cells e (u8s l))) :
    Done h res (urV c (slc h.length 0 n) nx p) (h ++ [.cells e (u8s l)]) ⟨σ, h ++ L⟩ := by
  refine done_one (h.length + i) _ hr (by omega) ?_ ?_ keep_off
  · show _ = Value.agg ⟨[.int .i64 c, .slice (some ⟨unN _ _ _ h.length, 0, none⟩) n n, .int .i64 nx, .int .i64 p]⟩
    rw [un_kept]; rfl
  · show (h ++ L)[h.length + i]? = _
    rw [get_off, hi]
    show _ = some (Blk.cells e (mapVs _ (u8s l)))
    rw [show u8s l = l.map (.int .u8) from rfl, mapVs_ints]
noncomputable def unpBS_sp : Sp := fun _ args h => match args with
  | [v] => (rdU h v).bind fun l => if l.length ≤ 140737488355328 then
      (if 418 < l.length then some (urV 2 (.slice none 0 0) 0 0, h)
       else if unpOk l then (if ownV l = [] then some (urV 0 emptyV (nextV l) (padV l), h) else some (urV 0 (slc h.length 0 (ownV l).length) (nextV l) (padV l), h ++ [.cells 5 (u8s (ownV l))]))
       else some (urV 5 (.slice none 0 0) 0 0, h)) else none
  | _ => none
theorem unpBS_ok : Ok Try.prog 39 unpBS_sp := by
  refine ok_quiet (OkΓ.cons l14U_ok (OkΓ.nil _)) Try.func39 (by kernel_rfl) k39 ?_ ?_
  · intro lo args h r h' hs
    unfold unpBS_sp at hs; split at hs
    · obtain ⟨l, _, hs⟩ := Option.bind_eq_some_iff.1 hs
      repeat' split at hs
      all_goals first | (cases hs; done) | (cases hs; first | exact Fr.refl _ _ | exact Fr.push (Nat.le_refl _) _)
    · cases hs
  · intro lo args h r h' hs
    unfold unpBS_sp at hs; split at hs
    · rename_i v
      obtain ⟨l, hl, hs2⟩ := Option.bind_eq_some_iff.1 hs
      clear hs
      split at hs2
      · have hla := fun L => rdU_app hl L
        obtain ⟨a, c, rfl, hb, hc⟩ := rdU_spec hl
        split at hs2
        · rename_i h1
          cases hs2
          (dsimp only [c39]; simp (maxSteps := 1000000) (implicitDefEqProofs := false) (disch := omega) only [go_sem, Bool.false_eq_true, slc, aop, abin, aun, intB, ↓reduceIte, Nat.reduceEqDiff, Nat.reduceSub, ne_eq, not_false_eq_true, Option.map, Option.bind, get_off, get_off0, set_off, set_off0, List.append_assoc, List.cons_append, List.nil_append, List.length_append, List.length_cons, List.length_nil, Nat.zero_add, Nat.add_zero, Nat.add_assoc, Nat.reduceAdd, List.set_cons_zero, List.set_cons_succ, List.getElem?_cons_zero, List.getElem?_cons_succ, Option.bind_some, Nat.reduceLeDiff, Nat.reduceLT, maxLen, slOut, optI, Int.reduceSub, Int.sub_zero, Nat.zero_mul, if_pos, if_neg, w64, wu8, ↓condK_pos, ↓condK_neg, ↓gdK_pt, ↓gdK_nt, ↓gdK_pf, ↓gdK_nf, decide_eq_true_eq, cellsL, Value.cells, fillL, setAt, decide_true, decide_false, one_int, one_bool, one_string, one_slice, one_pointer, one_ptr, one_iface, one_nili, nat0, flat, slc, List.all_cons, List.all_nil, Bool.and_true, Bool.true_and, Bool.not_true, Bool.not_false, and_true, true_and, and_self, Nat.le_refl, List.take_succ_cons, List.take_zero, List.drop_succ_cons, List.drop_zero, Int.toNat_natCast, Int.reduceToNat, Nat.mul_one, List.take_nil, List.drop_nil, Int.reduceLE, Int.reduceAdd, Int.reduceLT])
          exact ⟨by simp, done_ur0 (by simp [rres, rresL, rres1, put_at, getP_ptr, get_off0, urV])⟩
        · rename_i h1
          split at hs2
          · rename_i h2
            obtain ⟨b, o, e, bs, rfl, hbk, _⟩ := hc 0 (by have := h2.1; omega)
            have hh0 : 0 < h.length := by have := get_lt hbk; omega
            split at hs2
            · rename_i h3
              cases hs2
              (dsimp only [c39]; simp (maxSteps := 1000000) (implicitDefEqProofs := false) (disch := omega) only [go_sem, Bool.false_eq_true, slc, aop, abin, aun, intB, ↓reduceIte, Nat.reduceEqDiff, Nat.reduceSub, ne_eq, not_false_eq_true, Option.map, Option.bind, get_off, get_off0, set_off, set_off0, List.append_assoc, List.cons_append, List.nil_append, List.length_append, List.length_cons, List.length_nil, Nat.zero_add, Nat.add_zero, Nat.add_assoc, Nat.reduceAdd, List.set_cons_zero, List.set_cons_succ, List.getElem?_cons_zero, List.getElem?_cons_succ, Option.bind_some, Nat.reduceLeDiff, Nat.reduceLT, maxLen, slOut, optI, Int.reduceSub, Int.sub_zero, Nat.zero_mul, if_pos, if_neg, w64, wu8, ↓condK_pos, ↓condK_neg, ↓gdK_pt, ↓gdK_nt, ↓gdK_pf, ↓gdK_nf, decide_eq_true_eq, cellsL, Value.cells, fillL, setAt, decide_true, decide_false, one_int, one_bool, one_string, one_slice, one_pointer, one_ptr, one_iface, one_nili, nat0, flat, slc, List.all_cons, List.all_nil, Bool.and_true, Bool.true_and, Bool.not_true, Bool.not_false, and_true, true_and, and_self, Nat.le_refl, List.take_succ_cons, List.take_zero, List.drop_succ_cons, List.drop_zero, Int.toNat_natCast, Int.reduceToNat, Nat.mul_one, List.take_nil, List.drop_nil, Int.reduceLE, Int.reduceAdd, Int.reduceLT, l14U_sp, hla, h2, h3, emptyV])
              exact ⟨by simp, done_urE hh0 (by simp [rres, rresL, rres1, put_at, getP_ptr, get_off0, urV, emptyV])⟩
            · rename_i h3
              cases hs2
              (dsimp only [c39]; simp (maxSteps := 1000000) (implicitDefEqProofs := false) (disch := omega) only [go_sem, Bool.false_eq_true, slc, aop, abin, aun, intB, ↓reduceIte, Nat.reduceEqDiff, Nat.reduceSub, ne_eq, not_false_eq_true, Option.map, Option.bind, get_off, get_off0, set_off, set_off0, List.append_assoc, List.cons_append, List.nil_append, List.length_append, List.length_cons, List.length_nil, Nat.zero_add, Nat.add_zero, Nat.add_assoc, Nat.reduceAdd, List.set_cons_zero, List.set_cons_succ, List.getElem?_cons_zero, List.getElem?_cons_succ, Option.bind_some, Nat.reduceLeDiff, Nat.reduceLT, maxLen, slOut, optI, Int.reduceSub, Int.sub_zero, Nat.zero_mul, if_pos, if_neg, w64, wu8, ↓condK_pos, ↓condK_neg, ↓gdK_pt, ↓gdK_nt, ↓gdK_pf, ↓gdK_nf, decide_eq_true_eq, cellsL, Value.cells, fillL, setAt, decide_true, decide_false, one_int, one_bool, one_string, one_slice, one_pointer, one_ptr, one_iface, one_nili, nat0, flat, slc, List.all_cons, List.all_nil, Bool.and_true, Bool.true_and, Bool.not_true, Bool.not_false, and_true, true_and, and_self, Nat.le_refl, List.take_succ_cons, List.take_zero, List.drop_succ_cons, List.drop_zero, Int.toNat_natCast, Int.reduceToNat, Nat.mul_one, List.take_nil, List.drop_nil, Int.reduceLE, Int.reduceAdd, Int.reduceLT, l14U_sp, hla, h2, h3])
              exact ⟨by simp, done_ur2 1 (by simp [rres, rresL, rres1, put_at, getP_ptr, get_off0, urV]) rfl⟩
          · rename_i h2
            cases hs2
            (dsimp only [c39]; simp (maxSteps := 1000000) (implicitDefEqProofs := false) (disch := omega) only [go_sem, Bool.false_eq_true, slc, aop, abin, aun, intB, ↓reduceIte, Nat.reduceEqDiff, Nat.reduceSub, ne_eq, not_false_eq_true, Option.map, Option.bind, get_off, get_off0, set_off, set_off0, List.append_assoc, List.cons_append, List.nil_append, List.length_append, List.length_cons, List.length_nil, Nat.zero_add, Nat.add_zero, Nat.add_assoc, Nat.reduceAdd, List.set_cons_zero, List.set_cons_succ, List.getElem?_cons_zero, List.getElem?_cons_succ, Option.bind_some, Nat.reduceLeDiff, Nat.reduceLT, maxLen, slOut, optI, Int.reduceSub, Int.sub_zero, Nat.zero_mul, if_pos, if_neg, w64, wu8, ↓condK_pos, ↓condK_neg, ↓gdK_pt, ↓gdK_nt, ↓gdK_pf, ↓gdK_nf, decide_eq_true_eq, cellsL, Value.cells, fillL, setAt, decide_true, decide_false, one_int, one_bool, one_string, one_slice, one_pointer, one_ptr, one_iface, one_nili, nat0, flat, slc, List.all_cons, List.all_nil, Bool.and_true, Bool.true_and, Bool.not_true, Bool.not_false, and_true, true_and, and_self, Nat.le_refl, List.take_succ_cons, List.take_zero, List.drop_succ_cons, List.drop_zero, Int.toNat_natCast, Int.reduceToNat, Nat.mul_one, List.take_nil, List.drop_nil, Int.reduceLE, Int.reduceAdd, Int.reduceLT, l14U_sp, hla, h2])
            exact ⟨by simp, done_ur0 (by simp [rres, rresL, rres1, put_at, getP_ptr, get_off0, urV])⟩
      · cases hs2
    · cases hs
end Go.Proofs.Ytpndkgpkakhbmaa
