import Derived.Test.YtpndkgpkakhbmaaB7
set_option linter.unusedSimpArgs false
set_option linter.unusedVariables false
set_option maxRecDepth 100000
namespace Go.Proofs.Ytpndkgpkakhbmaa
open Go Go.AH
attribute [local go_sem ↓] awp_skip awp_ret awp_exit awp_seq awp_reg awp_drw awp_cond awp_block seqK_normal seqK_ret seqK_exit blkK_normal blkK_ret loopK_normal loopK_ret loopK_exit rops_nil qops_nil rops_op rops_op0 rops_opg qops_op qops_op0 qops_opg gdK_tt gdK_ff gdK_tf gdK_ft kont_some condK_true condK_false
attribute [local go_sem] tag_eq blkK_exit put_at argσ_nil argσ_cons ev_t ev_v ctx_get getB_bool getI_int getP_ptr Option.map_some Option.bind_some List.map_cons List.map_nil
attribute [local congr] kont_cong condK_cong gdK_cong awp_cong rops_cong qops_cong
-- spec.l14Asked
def c60 : AF := ⟨13,
  (.seq (.reg [⟨(some 4), none, .mv (.v (.int .i64 0))⟩])
  (.seq (.seq (.reg [⟨(some 5), none, .mv (.t 0)⟩,
   ⟨(some 6), none, .call 56 [(.t 5), (.v (.int .i64 0)), (.v (.int .i64 4294967295))]⟩,
   ⟨(some 7), none, .un .not (.t 6)⟩,
   ⟨(some 8), none, .mv (.t 7)⟩,
   ⟨(some 9), (some (8, false)), .mv (.t 1)⟩,
   ⟨(some 10), (some (8, false)), .call 56 [(.t 9), (.v (.int .i64 0)), (.v (.int .i64 1099511627776))]⟩,
   ⟨(some 11), (some (8, false)), .un .not (.t 10)⟩,
   ⟨(some 12), none, .pick (.t 8) (.v (.bool true)) (.t 11)⟩])
  (.cond (.t 12) (.seq (.reg [⟨(some 4), none, .mv (.v (.int .i64 3))⟩])
  .ret)
  .skip))
  (.seq (.reg [⟨(some 4), none, .mv (.v (.int .i64 0))⟩])
  .ret))),
  [.t 4]⟩
theorem k60 : cFn Try.prog Try.f60 = some c60 := by kernel_rfl
-- impl.isKey
def c88 : AF := ⟨5,
  (.seq (.reg [⟨(some 2), none, .mv (.v (.bool false))⟩])
  (.seq (.reg [⟨(some 3), none, .mv (.t 0)⟩,
   ⟨(some 4), none, .call 58 [(.t 3), (.v (.int .i64 0)), (.v (.int .i64 4294967295))]⟩,
   ⟨(some 2), none, .mv (.t 4)⟩])
  .ret)),
  [.t 2]⟩
theorem k88 : cFn Try.prog Try.f88 = some c88 := by kernel_rfl
-- impl.keyed
def c62 : AF := ⟨11,
  (.seq (.reg [⟨(some 4), none, .mv (.v (.bool false))⟩])
  (.seq (.reg [⟨(some 5), none, .mv (.t 0)⟩,
   ⟨(some 6), none, .call 88 [(.t 5)]⟩,
   ⟨(some 7), none, .mv (.t 6)⟩,
   ⟨(some 8), (some (7, true)), .mv (.t 1)⟩,
   ⟨(some 9), (some (7, true)), .call 58 [(.t 8), (.v (.int .i64 0)), (.v (.int .i64 1099511627776))]⟩,
   ⟨(some 10), none, .pick (.t 7) (.t 9) (.v (.bool false))⟩,
   ⟨(some 4), none, .mv (.t 10)⟩])
  .ret)),
  [.t 4]⟩
theorem k62 : cFn Try.prog Try.f62 = some c62 := by kernel_rfl
-- spec.l14Stream
def c64 : AF := ⟨30,
  (.seq (.reg [⟨(some 6), none, .mv (.v (.slice none 0 0))⟩])
  (.seq (.reg [⟨(some 9), none, .mv (.t 0)⟩,
   ⟨(some 10), none, .bin .mul (.t 9) (.v (.int .i64 31))⟩,
   ⟨(some 11), none, .mv (.t 1)⟩,
   ⟨(some 12), none, .bin .add (.t 10) (.t 11)⟩,
   ⟨(some 13), none, .bin .add (.t 12) (.v (.int .i64 7))⟩,
   ⟨(some 14), none, .bin .rem (.t 13) (.v (.int .i64 2147483647))⟩,
   ⟨(some 7), none, .mv (.t 14)⟩])
  (.seq (.reg [⟨(some 15), none, .mkS 5 0 [] []⟩,
   ⟨(some 8), none, .mv (.t 15)⟩])
  (.seq (.block 0 (.loop (.seq (.seq (.reg [⟨(some 16), none, .mv (.t 2)⟩,
   ⟨(some 17), none, .bin .gtr (.t 16) (.v (.int .i64 0))⟩])
  (.cond (.t 17) .skip
  (.exit 0)))
  (.seq (.block 1 (.seq (.reg [⟨(some 20), none, .mv (.t 7)⟩,
   ⟨(some 21), none, .bin .mul (.t 20) (.v (.int .i64 16807))⟩,
   ⟨(some 22), none, .bin .rem (.t 21) (.v (.int .i64 2147483647))⟩,
   ⟨(some 7), none, .mv (.t 22)⟩])
  (.reg [⟨(some 23), none, .mv (.t 8)⟩,
   ⟨(some 24), none, .mv (.t 7)⟩,
   ⟨(some 25), none, .bin .rem (.t 24) (.v (.int .i64 256))⟩,
   ⟨(some 26), none, .cvI .u8 (.t 25)⟩,
   ⟨(some 27), none, .mkS 5 1 [(.int .u8 0)] [(0, 1, (.t 26))]⟩,
   ⟨(some 28), none, .app 5 1 1 (.t 23) (.t 27)⟩,
   ⟨(some 8), none, .mv (.t 28)⟩])))
  (.reg [⟨(some 18), none, .mv (.t 2)⟩,
   ⟨(some 19), none, .bin .sub (.t 18) (.v (.int .i64 1))⟩,
   ⟨(some 2), none, .mv (.t 19)⟩])))))
  (.seq (.reg [⟨(some 29), none, .mv (.t 8)⟩,
   ⟨(some 6), none, .mv (.t 29)⟩])
  .ret))))),
  [.t 6]⟩
theorem k64 : cFn Try.prog Try.f64 = some c64 := by kernel_rfl
-- impl.stream
def c65 : AF := ⟨29,
  (.seq (.reg [⟨(some 6), none, .mv (.v (.slice none 0 0))⟩])
  (.seq (.reg [⟨(some 9), none, .mv (.t 0)⟩,
   ⟨(some 10), none, .bin .mul (.t 9) (.v (.int .i64 31))⟩,
   ⟨(some 11), none, .mv (.t 1)⟩,
   ⟨(some 12), none, .bin .add (.t 10) (.t 11)⟩,
   ⟨(some 13), none, .bin .add (.t 12) (.v (.int .i64 7))⟩,
   ⟨(some 14), none, .bin .rem (.t 13) (.v (.int .i64 2147483647))⟩,
   ⟨(some 15), none, .mkS 5 0 [] []⟩,
   ⟨(some 7), none, .mv (.t 14)⟩,
   ⟨(some 8), none, .mv (.t 15)⟩])
  (.seq (.seq (.reg [⟨(some 16), none, .mv (.t 2)⟩,
   ⟨(some 17), none, .mv (.v (.int .i64 0))⟩])
  (.block 0 (.loop (.seq (.reg [⟨(some 18), none, .bin .lss (.t 17) (.t 16)⟩])
  (.seq (.cond (.t 18) .skip
  (.exit 0))
  (.seq (.block 1 (.seq (.reg [⟨(some 19), none, .mv (.t 7)⟩,
   ⟨(some 20), none, .bin .mul (.t 19) (.v (.int .i64 16807))⟩,
   ⟨(some 21), none, .bin .rem (.t 20) (.v (.int .i64 2147483647))⟩,
   ⟨(some 7), none, .mv (.t 21)⟩])
  (.reg [⟨(some 22), none, .mv (.t 8)⟩,
   ⟨(some 23), none, .mv (.t 7)⟩,
   ⟨(some 24), none, .cvI .u8 (.t 23)⟩,
   ⟨(some 25), none, .mkS 5 1 [(.int .u8 0)] [(0, 1, (.t 24))]⟩,
   ⟨(some 26), none, .app 5 1 1 (.t 22) (.t 25)⟩,
   ⟨(some 8), none, .mv (.t 26)⟩])))
  (.reg [⟨(some 27), none, .bin .add (.t 17) (.v (.int .i64 1))⟩,
   ⟨(some 17), none, .mv (.t 27)⟩])))))))
  (.seq (.reg [⟨(some 28), none, .mv (.t 8)⟩,
   ⟨(some 6), none, .mv (.t 28)⟩])
  .ret)))),
  [.t 6]⟩
theorem k65 : cFn Try.prog Try.f65 = some c65 := by kernel_rfl
theorem rdS_off (h L : Heap) (z i o n c : Nat) : rdS (h ++ L) z (.slice (some ⟨h.length + i, o, none⟩) n c) = rdS L z (.slice (some ⟨i, o, none⟩) n c) := by
  simp only [rdS, get_off]
theorem rdS_off0 (h L : Heap) (z o n c : Nat) : rdS (h ++ L) z (.slice (some ⟨h.length, o, none⟩) n c) = rdS L z (.slice (some ⟨0, o, none⟩) n c) := rdS_off h L z 0 o n c
theorem rdS_tail (x : Blk) (L : Heap) (z i o n c : Nat) : rdS (x :: L) z (.slice (some ⟨i + 1, o, none⟩) n c) = rdS L z (.slice (some ⟨i, o, none⟩) n c) := by
  simp only [rdS, List.getElem?_cons_succ]
theorem rdS_u8s (e : TypeId) (l : List Int) (L : Heap) (n c : Nat) (hn : l.length = n) : rdS (.cells e (u8s l) :: L) 1 (.slice (some ⟨0, 0, none⟩) n c) = some (u8s l) := by
  subst hn
  simp only [rdS, List.getElem?_cons_zero, u8s_len, Nat.zero_add, Nat.mul_one, Nat.le_refl, if_true, List.drop_zero]
  rw [show (u8s l).take l.length = u8s l by rw [← u8s_len l, List.take_length]]
theorem rdS_one (e : TypeId) (v : Value) (L : Heap) (c : Nat) : rdS (.cells e [v] :: L) 1 (.slice (some ⟨0, 0, none⟩) 1 c) = some [v] := by
  simp [rdS]
theorem u8s_snoc (l : List Int) (x : Int) : u8s l ++ [.int .u8 x] = u8s (l ++ [x]) := by simp [u8s]
theorem u8s_nil : u8s [] = [] := rfl
/-- One row of bytes is kept. -/
theorem done_bytes {h J L : Heap} {res : List AR} {σ : Nat → Value} {e : TypeId} {l : List Int} {n : Nat} (hr : rres ⟨σ, h ++ (J ++ .cells e (u8s l) :: L)⟩ res = some (.slice (some ⟨h.length + J.length, 0, none⟩) n n)) :
    Done h res (slc h.length 0 n) (h ++ [.cells e (u8s l)]) ⟨σ, h ++ (J ++ .cells e (u8s l) :: L)⟩ := by
  refine done_one (h.length + J.length) _ hr (by omega) ?_ ?_ keep_off
  · rw [mapV_slc, un_kept]; rfl
  · show (h ++ (J ++ .cells e (u8s l) :: L))[h.length + J.length]? = _
    rw [get_off, get_off0, List.getElem?_cons_zero]
    show _ = some (Blk.cells e (mapVs _ (u8s l)))
    rw [show u8s l = l.map (.int .u8) from rfl, mapVs_ints]

def askB (k s : Int) : Prop := 0 ≤ k ∧ k ≤ 4294967295 ∧ 0 ≤ s ∧ s ≤ 1099511627776
instance (k s : Int) : Decidable (askB k s) := inferInstanceAs (Decidable (_ ∧ _))
def ask_sp : Sp := fun _ args h => match args with
  | [.int .i64 k, .int .i64 s] => some (.int .i64 (if askB k s then 0 else 3), h)
  | _ => none
theorem ask_ok : Ok Try.prog 60 ask_sp := by
  refine ok_quiet (OkΓ.cons l1In_ok (OkΓ.nil _)) Try.func60 (by kernel_rfl) k60 ?_ ?_
  · intro lo args h r h' hs
    unfold ask_sp at hs; split at hs <;> cases hs
    exact Fr.refl _ _
  · intro lo args h r h' hs
    unfold ask_sp at hs; split at hs <;> cases hs
    rename_i k s
    by_cases h1 : 0 ≤ k <;> by_cases h2 : k ≤ 4294967295 <;> by_cases h3 : 0 ≤ s <;> by_cases h4 : s ≤ 1099511627776
    all_goals first | (exfalso; omega) | skip
    all_goals
      (dsimp only [c60]; simp (maxSteps := 1000000) (implicitDefEqProofs := false) (disch := omega) only [go_sem, Bool.false_eq_true, slc, aop, abin, aun, intB, ↓reduceIte, Nat.reduceEqDiff, Nat.reduceSub, ne_eq, not_false_eq_true, Option.map, Option.bind, get_off, get_off0, set_off, set_off0, List.append_assoc, List.cons_append, List.nil_append, List.length_append, List.length_cons, List.length_nil, Nat.zero_add, Nat.add_zero, Nat.add_assoc, Nat.reduceAdd, List.set_cons_zero, List.set_cons_succ, List.getElem?_cons_zero, List.getElem?_cons_succ, Option.bind_some, Nat.reduceLeDiff, Nat.reduceLT, maxLen, slOut, optI, Int.reduceSub, Int.sub_zero, Nat.zero_mul, if_pos, if_neg, w64, wu8, ↓condK_pos, ↓condK_neg, ↓gdK_pt, ↓gdK_nt, ↓gdK_pf, ↓gdK_nf, decide_eq_true_eq, cellsL, Value.cells, fillL, setAt, decide_true, decide_false, one_int, one_bool, one_string, one_slice, one_pointer, one_ptr, one_iface, one_nili, nat0, flat, slc, List.all_cons, List.all_nil, Bool.and_true, Bool.true_and, Bool.not_true, Bool.not_false, and_true, true_and, and_self, Nat.le_refl, List.take_succ_cons, List.take_zero, List.drop_succ_cons, List.drop_zero, Int.toNat_natCast, Int.reduceToNat, Nat.mul_one, List.take_nil, List.drop_nil, Int.reduceLE, Int.reduceAdd, Int.reduceLT, in_sp, h1, h2, h3, h4, decide_true, decide_false, Bool.and_false, Bool.false_and])
      exact ⟨by simp, done_as (by simp [rres, rresL, rres1, put_at, askB, h1, h2, h3, h4]) rfl⟩
def isKey_sp : Sp := fun _ args h => match args with
  | [.int .i64 k] => some (.bool (decide (0 ≤ k) && decide (k ≤ 4294967295)), h)
  | _ => none
theorem isKey_ok : Ok Try.prog 88 isKey_sp := by
  refine ok_quiet (OkΓ.cons in_ok (OkΓ.nil _)) Try.func88 (by kernel_rfl) k88 ?_ ?_
  · intro lo args h r h' hs
    unfold isKey_sp at hs; split at hs <;> cases hs
    exact Fr.refl _ _
  · intro lo args h r h' hs
    unfold isKey_sp at hs; split at hs <;> cases hs
    (dsimp only [c88]; simp (maxSteps := 1000000) (implicitDefEqProofs := false) (disch := omega) only [go_sem, Bool.false_eq_true, slc, aop, abin, aun, intB, ↓reduceIte, Nat.reduceEqDiff, Nat.reduceSub, ne_eq, not_false_eq_true, Option.map, Option.bind, get_off, get_off0, set_off, set_off0, List.append_assoc, List.cons_append, List.nil_append, List.length_append, List.length_cons, List.length_nil, Nat.zero_add, Nat.add_zero, Nat.add_assoc, Nat.reduceAdd, List.set_cons_zero, List.set_cons_succ, List.getElem?_cons_zero, List.getElem?_cons_succ, Option.bind_some, Nat.reduceLeDiff, Nat.reduceLT, maxLen, slOut, optI, Int.reduceSub, Int.sub_zero, Nat.zero_mul, if_pos, if_neg, w64, wu8, ↓condK_pos, ↓condK_neg, ↓gdK_pt, ↓gdK_nt, ↓gdK_pf, ↓gdK_nf, decide_eq_true_eq, cellsL, Value.cells, fillL, setAt, decide_true, decide_false, one_int, one_bool, one_string, one_slice, one_pointer, one_ptr, one_iface, one_nili, nat0, flat, slc, List.all_cons, List.all_nil, Bool.and_true, Bool.true_and, Bool.not_true, Bool.not_false, and_true, true_and, and_self, Nat.le_refl, List.take_succ_cons, List.take_zero, List.drop_succ_cons, List.drop_zero, Int.toNat_natCast, Int.reduceToNat, Nat.mul_one, List.take_nil, List.drop_nil, Int.reduceLE, Int.reduceAdd, Int.reduceLT, in_sp])
    exact ⟨by simp, done_as (by simp [rres, rresL, rres1, put_at]) rfl⟩
def keyed_sp : Sp := fun _ args h => match args with
  | [.int .i64 k, .int .i64 s] => some (.bool (decide (askB k s)), h)
  | _ => none
theorem keyed_ok : Ok Try.prog 62 keyed_sp := by
  refine ok_quiet (OkΓ.cons in_ok (OkΓ.cons isKey_ok (OkΓ.nil _))) Try.func62 (by kernel_rfl) k62 ?_ ?_
  · intro lo args h r h' hs
    unfold keyed_sp at hs; split at hs <;> cases hs
    exact Fr.refl _ _
  · intro lo args h r h' hs
    unfold keyed_sp at hs; split at hs <;> cases hs
    rename_i k s
    by_cases h1 : 0 ≤ k <;> by_cases h2 : k ≤ 4294967295 <;> by_cases h3 : 0 ≤ s <;> by_cases h4 : s ≤ 1099511627776
    all_goals first | (exfalso; omega) | skip
    all_goals
      (dsimp only [c62]; simp (maxSteps := 1000000) (implicitDefEqProofs := false) (disch := omega) only [go_sem, Bool.false_eq_true, slc, aop, abin, aun, intB, ↓reduceIte, Nat.reduceEqDiff, Nat.reduceSub, ne_eq, not_false_eq_true, Option.map, Option.bind, get_off, get_off0, set_off, set_off0, List.append_assoc, List.cons_append, List.nil_append, List.length_append, List.length_cons, List.length_nil, Nat.zero_add, Nat.add_zero, Nat.add_assoc, Nat.reduceAdd, List.set_cons_zero, List.set_cons_succ, List.getElem?_cons_zero, List.getElem?_cons_succ, Option.bind_some, Nat.reduceLeDiff, Nat.reduceLT, maxLen, slOut, optI, Int.reduceSub, Int.sub_zero, Nat.zero_mul, if_pos, if_neg, w64, wu8, ↓condK_pos, ↓condK_neg, ↓gdK_pt, ↓gdK_nt, ↓gdK_pf, ↓gdK_nf, decide_eq_true_eq, cellsL, Value.cells, fillL, setAt, decide_true, decide_false, one_int, one_bool, one_string, one_slice, one_pointer, one_ptr, one_iface, one_nili, nat0, flat, slc, List.all_cons, List.all_nil, Bool.and_true, Bool.true_and, Bool.not_true, Bool.not_false, and_true, true_and, and_self, Nat.le_refl, List.take_succ_cons, List.take_zero, List.drop_succ_cons, List.drop_zero, Int.toNat_natCast, Int.reduceToNat, Nat.mul_one, List.take_nil, List.drop_nil, Int.reduceLE, Int.reduceAdd, Int.reduceLT, in_sp, isKey_sp, h1, h2, h3, h4, decide_true, decide_false, Bool.and_false, Bool.false_and])
      exact ⟨by simp, done_as (by simp [rres, rresL, rres1, put_at, askB, h1, h2, h3, h4]) rfl⟩
/-! The stream -/
def stX (x : Int) : Nat → Int
  | 0 => x
  | n + 1 => stX x n * 16807 % 2147483647
theorem stX_bd {x : Int} (h : 0 ≤ x ∧ x < 2147483647) : ∀ n, 0 ≤ stX x n ∧ stX x n < 2147483647
  | 0 => h
  | n + 1 => ⟨Int.emod_nonneg _ (by decide), Int.emod_lt_of_pos _ (by decide)⟩
def streamL (x : Int) (n : Nat) : List Int := (List.range n).map fun i => stX x (i + 1) % 256
theorem streamL_succ (x : Int) (n : Nat) : streamL x (n + 1) = streamL x n ++ [stX x (n + 1) % 256] := by simp [streamL, List.range_succ]
theorem streamL_len (x : Int) (n : Nat) : (streamL x n).length = n := by simp [streamL]
theorem streamL_bd (x : Int) (n : Nat) : ∀ y ∈ streamL x n, 0 ≤ y ∧ y < 256 := by
  intro y hy; simp [streamL] at hy; obtain ⟨i, _, rfl⟩ := hy; omega
def st0 (k s : Int) : Int := (k * 31 + s + 7) % 2147483647
theorem st0_bd (k s : Int) : 0 ≤ st0 k s ∧ st0 k s < 2147483647 := ⟨Int.emod_nonneg _ (by decide), Int.emod_lt_of_pos _ (by decide)⟩
def stream_sp : Sp := fun _ args h => match args with
  | [.int .i64 k, .int .i64 s, .int .i64 n] => if askB k s ∧ 0 ≤ n ∧ n ≤ 1000 then some (slc h.length 0 n.toNat, h ++ [.cells 5 (u8s (streamL (st0 k s) n.toNat))]) else none
  | _ => none
theorem streamS_ok : Ok Try.prog 64 stream_sp := by
  refine ok_quiet (OkΓ.nil _) Try.func64 (by kernel_rfl) k64 ?_ ?_
  · intro lo args h r h' hs
    unfold stream_sp at hs; split at hs
    · split at hs <;> cases hs; exact Fr.push (Nat.le_refl _) _
    · cases hs
  · intro lo args h r h' hs
    unfold stream_sp at hs; split at hs
    · rename_i k s n
      split at hs <;> cases hs
      rename_i hcond
      obtain ⟨⟨h1, h2, h3, h4⟩, h5, h6⟩ := hcond
      obtain ⟨N, rfl⟩ := Int.eq_ofNat_of_zero_le h5
      rw [Int.toNat_natCast]
      have hx := st0_bd k s
      (dsimp only [c64]; simp (maxSteps := 1000000) (implicitDefEqProofs := false) (disch := omega) only [go_sem, Bool.false_eq_true, slc, aop, abin, aun, intB, ↓reduceIte, Nat.reduceEqDiff, Nat.reduceSub, ne_eq, not_false_eq_true, Option.map, Option.bind, get_off, get_off0, set_off, set_off0, List.append_assoc, List.cons_append, List.nil_append, List.length_append, List.length_cons, List.length_nil, Nat.zero_add, Nat.add_zero, Nat.add_assoc, Nat.reduceAdd, List.set_cons_zero, List.set_cons_succ, List.getElem?_cons_zero, List.getElem?_cons_succ, Option.bind_some, Nat.reduceLeDiff, Nat.reduceLT, maxLen, slOut, optI, Int.reduceSub, Int.sub_zero, Nat.zero_mul, if_pos, if_neg, w64, wu8, ↓condK_pos, ↓condK_neg, ↓gdK_pt, ↓gdK_nt, ↓gdK_pf, ↓gdK_nf, decide_eq_true_eq, cellsL, Value.cells, fillL, setAt, decide_true, decide_false, one_int, one_bool, one_string, one_slice, one_pointer, one_ptr, one_iface, one_nili, nat0, flat, slc, List.all_cons, List.all_nil, Bool.and_true, Bool.true_and, Bool.not_true, Bool.not_false, and_true, true_and, and_self, Nat.le_refl, List.take_succ_cons, List.take_zero, List.drop_succ_cons, List.drop_zero, Int.toNat_natCast, Int.reduceToNat, Nat.mul_one, List.take_nil, List.drop_nil, Int.reduceLE, Int.reduceAdd, Int.reduceLT, Int.tmod_eq_emod_of_nonneg])
      refine awp_loop (fun m t => ∃ (i : Nat) (σ : Nat → Value) (J : Heap), t = ⟨σ, h ++ (J ++ [.cells 5 (u8s (streamL (st0 k s) i))])⟩ ∧ m = N - i ∧ i ≤ N ∧ σ 2 = .int .i64 ((N : Int) - i) ∧
        σ 7 = .int .i64 (stX (st0 k s) i) ∧ σ 8 = .slice (some ⟨h.length + J.length, 0, none⟩) i i) N ⟨0, _, [], rfl, by simp, by simp, by simp (maxSteps := 1000000) (implicitDefEqProofs := false) only [go_sem, Bool.false_eq_true, slc, aop, abin, aun, intB, ↓reduceIte, Nat.reduceEqDiff, Nat.reduceSub, ne_eq, not_false_eq_true, Option.map, Option.bind]; simp, by simp (maxSteps := 1000000) (implicitDefEqProofs := false) only [go_sem, Bool.false_eq_true, slc, aop, abin, aun, intB, ↓reduceIte, Nat.reduceEqDiff, Nat.reduceSub, ne_eq, not_false_eq_true, Option.map, Option.bind]; rfl, by simp (maxSteps := 1000000) (implicitDefEqProofs := false) only [go_sem, Bool.false_eq_true, slc, aop, abin, aun, intB, ↓reduceIte, Nat.reduceEqDiff, Nat.reduceSub, ne_eq, not_false_eq_true, Option.map, Option.bind]; rfl⟩ ?_
      intro m t ⟨i, σ, J, ht, hm, hi, e2, e7, e8⟩
      subst ht
      simp (maxSteps := 1000000) (implicitDefEqProofs := false) (disch := omega) only [go_sem, Bool.false_eq_true, slc, aop, abin, aun, intB, ↓reduceIte, Nat.reduceEqDiff, Nat.reduceSub, ne_eq, not_false_eq_true, Option.map, Option.bind, get_off, get_off0, set_off, set_off0, List.append_assoc, List.cons_append, List.nil_append, List.length_append, List.length_cons, List.length_nil, Nat.zero_add, Nat.add_zero, Nat.add_assoc, Nat.reduceAdd, List.set_cons_zero, List.set_cons_succ, List.getElem?_cons_zero, List.getElem?_cons_succ, Option.bind_some, Nat.reduceLeDiff, Nat.reduceLT, maxLen, slOut, optI, Int.reduceSub, Int.sub_zero, Nat.zero_mul, if_pos, if_neg, w64, wu8, ↓condK_pos, ↓condK_neg, ↓gdK_pt, ↓gdK_nt, ↓gdK_pf, ↓gdK_nf, decide_eq_true_eq, cellsL, Value.cells, fillL, setAt, decide_true, decide_false, one_int, one_bool, one_string, one_slice, one_pointer, one_ptr, one_iface, one_nili, nat0, flat, slc, List.all_cons, List.all_nil, Bool.and_true, Bool.true_and, Bool.not_true, Bool.not_false, and_true, true_and, and_self, Nat.le_refl, List.take_succ_cons, List.take_zero, List.drop_succ_cons, List.drop_zero, Int.toNat_natCast, Int.reduceToNat, Nat.mul_one, List.take_nil, List.drop_nil, Int.reduceLE, Int.reduceAdd, Int.reduceLT, e2, e7, e8]
      refine condK_dec (fun hlt => ?_) (fun hge => ?_)
      · have hb := stX_bd hx i
        have hb1 := stX_bd hx (i + 1)
        have hsx : stX (st0 k s) i * 16807 % 2147483647 = stX (st0 k s) (i + 1) := rfl
        have hl := streamL_len (st0 k s) i
        have hr := rdS_u8s 5 (streamL (st0 k s) i)
        simp (maxSteps := 1000000) (implicitDefEqProofs := false) (disch := omega) only [go_sem, Bool.false_eq_true, slc, aop, abin, aun, intB, ↓reduceIte, Nat.reduceEqDiff, Nat.reduceSub, ne_eq, not_false_eq_true, Option.map, Option.bind, get_off, get_off0, set_off, set_off0, List.append_assoc, List.cons_append, List.nil_append, List.length_append, List.length_cons, List.length_nil, Nat.zero_add, Nat.add_zero, Nat.add_assoc, Nat.reduceAdd, List.set_cons_zero, List.set_cons_succ, List.getElem?_cons_zero, List.getElem?_cons_succ, Option.bind_some, Nat.reduceLeDiff, Nat.reduceLT, maxLen, slOut, optI, Int.reduceSub, Int.sub_zero, Nat.zero_mul, if_pos, if_neg, w64, wu8, ↓condK_pos, ↓condK_neg, ↓gdK_pt, ↓gdK_nt, ↓gdK_pf, ↓gdK_nf, decide_eq_true_eq, cellsL, Value.cells, fillL, setAt, decide_true, decide_false, one_int, one_bool, one_string, one_slice, one_pointer, one_ptr, one_iface, one_nili, nat0, flat, slc, List.all_cons, List.all_nil, Bool.and_true, Bool.true_and, Bool.not_true, Bool.not_false, and_true, true_and, and_self, Nat.le_refl, List.take_succ_cons, List.take_zero, List.drop_succ_cons, List.drop_zero, Int.toNat_natCast, Int.reduceToNat, Nat.mul_one, List.take_nil, List.drop_nil, Int.reduceLE, Int.reduceAdd, Int.reduceLT, e2, e7, e8, Int.tmod_eq_emod_of_nonneg, hsx, rdS_off, rdS_off0, rdS_tail, rdS_one, hr, u8s_snoc]
        exact ⟨N - (i + 1), by omega, i + 1, _, J ++ [.dead, .cells 5 [.int .u8 (stX (st0 k s) (i + 1) % 256)]], by rw [streamL_succ, List.append_assoc]; rfl, rfl, by omega, by simp (maxSteps := 1000000) (implicitDefEqProofs := false) only [go_sem, Bool.false_eq_true, slc, aop, abin, aun, intB, ↓reduceIte, Nat.reduceEqDiff, Nat.reduceSub, ne_eq, not_false_eq_true, Option.map, Option.bind]; congr 1; omega, by simp (maxSteps := 1000000) (implicitDefEqProofs := false) only [go_sem, Bool.false_eq_true, slc, aop, abin, aun, intB, ↓reduceIte, Nat.reduceEqDiff, Nat.reduceSub, ne_eq, not_false_eq_true, Option.map, Option.bind], by simp (maxSteps := 1000000) (implicitDefEqProofs := false) only [go_sem, Bool.false_eq_true, slc, aop, abin, aun, intB, ↓reduceIte, Nat.reduceEqDiff, Nat.reduceSub, ne_eq, not_false_eq_true, Option.map, Option.bind]; simp⟩
      · have hin : i = N := by omega
        subst hin
        simp (maxSteps := 1000000) (implicitDefEqProofs := false) (disch := omega) only [go_sem, Bool.false_eq_true, slc, aop, abin, aun, intB, ↓reduceIte, Nat.reduceEqDiff, Nat.reduceSub, ne_eq, not_false_eq_true, Option.map, Option.bind, get_off, get_off0, set_off, set_off0, List.append_assoc, List.cons_append, List.nil_append, List.length_append, List.length_cons, List.length_nil, Nat.zero_add, Nat.add_zero, Nat.add_assoc, Nat.reduceAdd, List.set_cons_zero, List.set_cons_succ, List.getElem?_cons_zero, List.getElem?_cons_succ, Option.bind_some, Nat.reduceLeDiff, Nat.reduceLT, maxLen, slOut, optI, Int.reduceSub, Int.sub_zero, Nat.zero_mul, if_pos, if_neg, w64, wu8, ↓condK_pos, ↓condK_neg, ↓gdK_pt, ↓gdK_nt, ↓gdK_pf, ↓gdK_nf, decide_eq_true_eq, cellsL, Value.cells, fillL, setAt, decide_true, decide_false, one_int, one_bool, one_string, one_slice, one_pointer, one_ptr, one_iface, one_nili, nat0, flat, slc, List.all_cons, List.all_nil, Bool.and_true, Bool.true_and, Bool.not_true, Bool.not_false, and_true, true_and, and_self, Nat.le_refl, List.take_succ_cons, List.take_zero, List.drop_succ_cons, List.drop_zero, Int.toNat_natCast, Int.reduceToNat, Nat.mul_one, List.take_nil, List.drop_nil, Int.reduceLE, Int.reduceAdd, Int.reduceLT, e2, e7, e8]
        exact ⟨by simp, done_bytes (by simp [rres, rresL, rres1, put_at])⟩
    · cases hs
theorem streamI_ok : Ok Try.prog 65 stream_sp := by
  refine ok_quiet (OkΓ.nil _) Try.func65 (by kernel_rfl) k65 ?_ ?_
  · intro lo args h r h' hs
    unfold stream_sp at hs; split at hs
    · split at hs <;> cases hs; exact Fr.push (Nat.le_refl _) _
    · cases hs
  · intro lo args h r h' hs
    unfold stream_sp at hs; split at hs
    · rename_i k s n
      split at hs <;> cases hs
      rename_i hcond
      obtain ⟨⟨h1, h2, h3, h4⟩, h5, h6⟩ := hcond
      obtain ⟨N, rfl⟩ := Int.eq_ofNat_of_zero_le h5
      rw [Int.toNat_natCast]
      have hx := st0_bd k s
      (dsimp only [c65]; simp (maxSteps := 1000000) (implicitDefEqProofs := false) (disch := omega) only [go_sem, Bool.false_eq_true, slc, aop, abin, aun, intB, ↓reduceIte, Nat.reduceEqDiff, Nat.reduceSub, ne_eq, not_false_eq_true, Option.map, Option.bind, get_off, get_off0, set_off, set_off0, List.append_assoc, List.cons_append, List.nil_append, List.length_append, List.length_cons, List.length_nil, Nat.zero_add, Nat.add_zero, Nat.add_assoc, Nat.reduceAdd, List.set_cons_zero, List.set_cons_succ, List.getElem?_cons_zero, List.getElem?_cons_succ, Option.bind_some, Nat.reduceLeDiff, Nat.reduceLT, maxLen, slOut, optI, Int.reduceSub, Int.sub_zero, Nat.zero_mul, if_pos, if_neg, w64, wu8, ↓condK_pos, ↓condK_neg, ↓gdK_pt, ↓gdK_nt, ↓gdK_pf, ↓gdK_nf, decide_eq_true_eq, cellsL, Value.cells, fillL, setAt, decide_true, decide_false, one_int, one_bool, one_string, one_slice, one_pointer, one_ptr, one_iface, one_nili, nat0, flat, slc, List.all_cons, List.all_nil, Bool.and_true, Bool.true_and, Bool.not_true, Bool.not_false, and_true, true_and, and_self, Nat.le_refl, List.take_succ_cons, List.take_zero, List.drop_succ_cons, List.drop_zero, Int.toNat_natCast, Int.reduceToNat, Nat.mul_one, List.take_nil, List.drop_nil, Int.reduceLE, Int.reduceAdd, Int.reduceLT, Int.tmod_eq_emod_of_nonneg])
      refine awp_loop (fun m t => ∃ (i : Nat) (σ : Nat → Value) (J : Heap), t = ⟨σ, h ++ (J ++ [.cells 5 (u8s (streamL (st0 k s) i))])⟩ ∧ m = N - i ∧ i ≤ N ∧ σ 16 = .int .i64 N ∧ σ 17 = .int .i64 i ∧
        σ 7 = .int .i64 (stX (st0 k s) i) ∧ σ 8 = .slice (some ⟨h.length + J.length, 0, none⟩) i i) N ⟨0, _, [], rfl, by simp, by simp, by simp (maxSteps := 1000000) (implicitDefEqProofs := false) only [go_sem, Bool.false_eq_true, slc, aop, abin, aun, intB, ↓reduceIte, Nat.reduceEqDiff, Nat.reduceSub, ne_eq, not_false_eq_true, Option.map, Option.bind], by simp (maxSteps := 1000000) (implicitDefEqProofs := false) only [go_sem, Bool.false_eq_true, slc, aop, abin, aun, intB, ↓reduceIte, Nat.reduceEqDiff, Nat.reduceSub, ne_eq, not_false_eq_true, Option.map, Option.bind]; rfl, by simp (maxSteps := 1000000) (implicitDefEqProofs := false) only [go_sem, Bool.false_eq_true, slc, aop, abin, aun, intB, ↓reduceIte, Nat.reduceEqDiff, Nat.reduceSub, ne_eq, not_false_eq_true, Option.map, Option.bind]; rfl, by simp (maxSteps := 1000000) (implicitDefEqProofs := false) only [go_sem, Bool.false_eq_true, slc, aop, abin, aun, intB, ↓reduceIte, Nat.reduceEqDiff, Nat.reduceSub, ne_eq, not_false_eq_true, Option.map, Option.bind]; rfl⟩ ?_
      intro m t ⟨i, σ, J, ht, hm, hi, e16, e17, e7, e8⟩
      subst ht
      simp (maxSteps := 1000000) (implicitDefEqProofs := false) (disch := omega) only [go_sem, Bool.false_eq_true, slc, aop, abin, aun, intB, ↓reduceIte, Nat.reduceEqDiff, Nat.reduceSub, ne_eq, not_false_eq_true, Option.map, Option.bind, get_off, get_off0, set_off, set_off0, List.append_assoc, List.cons_append, List.nil_append, List.length_append, List.length_cons, List.length_nil, Nat.zero_add, Nat.add_zero, Nat.add_assoc, Nat.reduceAdd, List.set_cons_zero, List.set_cons_succ, List.getElem?_cons_zero, List.getElem?_cons_succ, Option.bind_some, Nat.reduceLeDiff, Nat.reduceLT, maxLen, slOut, optI, Int.reduceSub, Int.sub_zero, Nat.zero_mul, if_pos, if_neg, w64, wu8, ↓condK_pos, ↓condK_neg, ↓gdK_pt, ↓gdK_nt, ↓gdK_pf, ↓gdK_nf, decide_eq_true_eq, cellsL, Value.cells, fillL, setAt, decide_true, decide_false, one_int, one_bool, one_string, one_slice, one_pointer, one_ptr, one_iface, one_nili, nat0, flat, slc, List.all_cons, List.all_nil, Bool.and_true, Bool.true_and, Bool.not_true, Bool.not_false, and_true, true_and, and_self, Nat.le_refl, List.take_succ_cons, List.take_zero, List.drop_succ_cons, List.drop_zero, Int.toNat_natCast, Int.reduceToNat, Nat.mul_one, List.take_nil, List.drop_nil, Int.reduceLE, Int.reduceAdd, Int.reduceLT, e16, e17, e7, e8]
      refine condK_dec (fun hlt => ?_) (fun hge => ?_)
      · have hb := stX_bd hx i
        have hb1 := stX_bd hx (i + 1)
        have hsx : stX (st0 k s) i * 16807 % 2147483647 = stX (st0 k s) (i + 1) := rfl
        have hl := streamL_len (st0 k s) i
        have hr := rdS_u8s 5 (streamL (st0 k s) i)
        simp (maxSteps := 1000000) (implicitDefEqProofs := false) (disch := omega) only [go_sem, Bool.false_eq_true, slc, aop, abin, aun, intB, ↓reduceIte, Nat.reduceEqDiff, Nat.reduceSub, ne_eq, not_false_eq_true, Option.map, Option.bind, get_off, get_off0, set_off, set_off0, List.append_assoc, List.cons_append, List.nil_append, List.length_append, List.length_cons, List.length_nil, Nat.zero_add, Nat.add_zero, Nat.add_assoc, Nat.reduceAdd, List.set_cons_zero, List.set_cons_succ, List.getElem?_cons_zero, List.getElem?_cons_succ, Option.bind_some, Nat.reduceLeDiff, Nat.reduceLT, maxLen, slOut, optI, Int.reduceSub, Int.sub_zero, Nat.zero_mul, if_pos, if_neg, w64, wu8, ↓condK_pos, ↓condK_neg, ↓gdK_pt, ↓gdK_nt, ↓gdK_pf, ↓gdK_nf, decide_eq_true_eq, cellsL, Value.cells, fillL, setAt, decide_true, decide_false, one_int, one_bool, one_string, one_slice, one_pointer, one_ptr, one_iface, one_nili, nat0, flat, slc, List.all_cons, List.all_nil, Bool.and_true, Bool.true_and, Bool.not_true, Bool.not_false, and_true, true_and, and_self, Nat.le_refl, List.take_succ_cons, List.take_zero, List.drop_succ_cons, List.drop_zero, Int.toNat_natCast, Int.reduceToNat, Nat.mul_one, List.take_nil, List.drop_nil, Int.reduceLE, Int.reduceAdd, Int.reduceLT, e16, e17, e7, e8, Int.tmod_eq_emod_of_nonneg, w8, hsx, rdS_off, rdS_off0, rdS_tail, rdS_one, hr, u8s_snoc]
        exact ⟨N - (i + 1), by omega, i + 1, _, J ++ [.dead, .cells 5 [.int .u8 (stX (st0 k s) (i + 1) % 256)]], by rw [streamL_succ, List.append_assoc]; rfl, rfl, by omega, by simp (maxSteps := 1000000) (implicitDefEqProofs := false) only [go_sem, Bool.false_eq_true, slc, aop, abin, aun, intB, ↓reduceIte, Nat.reduceEqDiff, Nat.reduceSub, ne_eq, not_false_eq_true, Option.map, Option.bind, e16], by simp (maxSteps := 1000000) (implicitDefEqProofs := false) only [go_sem, Bool.false_eq_true, slc, aop, abin, aun, intB, ↓reduceIte, Nat.reduceEqDiff, Nat.reduceSub, ne_eq, not_false_eq_true, Option.map, Option.bind]; rfl, by simp (maxSteps := 1000000) (implicitDefEqProofs := false) only [go_sem, Bool.false_eq_true, slc, aop, abin, aun, intB, ↓reduceIte, Nat.reduceEqDiff, Nat.reduceSub, ne_eq, not_false_eq_true, Option.map, Option.bind], by simp (maxSteps := 1000000) (implicitDefEqProofs := false) only [go_sem, Bool.false_eq_true, slc, aop, abin, aun, intB, ↓reduceIte, Nat.reduceEqDiff, Nat.reduceSub, ne_eq, not_false_eq_true, Option.map, Option.bind]; simp⟩
      · have hin : i = N := by omega
        subst hin
        simp (maxSteps := 1000000) (implicitDefEqProofs := false) (disch := omega) only [go_sem, Bool.false_eq_true, slc, aop, abin, aun, intB, ↓reduceIte, Nat.reduceEqDiff, Nat.reduceSub, ne_eq, not_false_eq_true, Option.map, Option.bind, get_off, get_off0, set_off, set_off0, List.append_assoc, List.cons_append, List.nil_append, List.length_append, List.length_cons, List.length_nil, Nat.zero_add, Nat.add_zero, Nat.add_assoc, Nat.reduceAdd, List.set_cons_zero, List.set_cons_succ, List.getElem?_cons_zero, List.getElem?_cons_succ, Option.bind_some, Nat.reduceLeDiff, Nat.reduceLT, maxLen, slOut, optI, Int.reduceSub, Int.sub_zero, Nat.zero_mul, if_pos, if_neg, w64, wu8, ↓condK_pos, ↓condK_neg, ↓gdK_pt, ↓gdK_nt, ↓gdK_pf, ↓gdK_nf, decide_eq_true_eq, cellsL, Value.cells, fillL, setAt, decide_true, decide_false, one_int, one_bool, one_string, one_slice, one_pointer, one_ptr, one_iface, one_nili, nat0, flat, slc, List.all_cons, List.all_nil, Bool.and_true, Bool.true_and, Bool.not_true, Bool.not_false, and_true, true_and, and_self, Nat.le_refl, List.take_succ_cons, List.take_zero, List.drop_succ_cons, List.drop_zero, Int.toNat_natCast, Int.reduceToNat, Nat.mul_one, List.take_nil, List.drop_nil, Int.reduceLE, Int.reduceAdd, Int.reduceLT, e16, e17, e7, e8]
        exact ⟨by simp, done_bytes (by simp [rres, rresL, rres1, put_at])⟩
    · cases hs
end Go.Proofs.Ytpndkgpkakhbmaa
