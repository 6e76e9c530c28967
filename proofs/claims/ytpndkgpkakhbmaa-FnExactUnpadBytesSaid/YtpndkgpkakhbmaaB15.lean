import Derived.Test.YtpndkgpkakhbmaaB14
set_option linter.unusedSimpArgs false
set_option linter.unusedVariables false
set_option maxRecDepth 100000
namespace Go.Proofs.Ytpndkgpkakhbmaa
open Go Go.AH
attribute [local go_sem ↓] awp_skip awp_ret awp_exit awp_seq awp_reg awp_drw awp_cond awp_block seqK_normal seqK_ret seqK_exit blkK_normal blkK_ret loopK_normal loopK_ret loopK_exit rops_nil qops_nil rops_op rops_op0 rops_opg qops_op qops_op0 qops_opg gdK_tt gdK_ff gdK_tf gdK_ft kont_some condK_true condK_false
attribute [local go_sem] tag_eq blkK_exit put_at argσ_nil argσ_cons ev_t ev_v ctx_get getB_bool getI_int getP_ptr Option.map_some Option.bind_some List.map_cons List.map_nil
attribute [local congr] kont_cong condK_cong gdK_cong awp_cong rops_cong qops_cong
-- slices.Clone[[]byte,byte]
def c72 : AF := ⟨8,
  (.seq (.reg [⟨(some 2), none, .mv (.v (.slice none 0 0))⟩])
  (.seq (.seq (.reg [⟨(some 3), none, .mv (.t 0)⟩,
   ⟨(some 4), none, .eqN false (.t 3)⟩])
  (.cond (.t 4) (.seq (.reg [⟨(some 2), none, .mv (.v (.slice none 0 0))⟩])
  .ret)
  .skip))
  (.seq (.reg [⟨(some 5), none, .mkS 5 0 [] []⟩,
   ⟨(some 6), none, .mv (.t 0)⟩,
   ⟨(some 7), none, .app 5 1 1 (.t 5) (.t 6)⟩,
   ⟨(some 2), none, .mv (.t 7)⟩])
  .ret))),
  [.t 2]⟩
theorem k72 : cFn Try.prog Try.f72 = some c72 := by kernel_rfl
-- impl.pad
def c67 : AF := ⟨30,
  (.seq (.reg [⟨(some 6), none, .mv (.v (.slice none 0 0))⟩])
  (.seq (.reg [⟨(some 9), none, .mv (.t 0)⟩,
   ⟨(some 10), none, .call 72 [(.t 9)]⟩,
   ⟨(some 7), none, .mv (.t 10)⟩,
   ⟨(some 8), none, .mv (.v (.int .i64 0))⟩])
  (.seq (.block 0 (.loop (.seq (.seq (.reg [⟨(some 11), none, .mv (.t 7)⟩,
   ⟨(some 12), none, .len (.t 11)⟩,
   ⟨(some 13), none, .bin .add (.t 12) (.v (.int .i64 2))⟩,
   ⟨(some 14), none, .mv (.t 1)⟩,
   ⟨(some 15), none, .bin .rem (.t 13) (.t 14)⟩,
   ⟨(some 16), none, .bin .neq (.t 15) (.v (.int .i64 0))⟩])
  (.cond (.t 16) .skip
  (.exit 0)))
  (.block 1 (.seq (.reg [⟨(some 17), none, .mv (.t 8)⟩,
   ⟨(some 18), none, .bin .add (.t 17) (.v (.int .i64 1))⟩,
   ⟨(some 8), none, .mv (.t 18)⟩])
  (.reg [⟨(some 19), none, .mv (.t 7)⟩,
   ⟨(some 20), none, .mv (.t 8)⟩,
   ⟨(some 21), none, .cvI .u8 (.t 20)⟩,
   ⟨(some 22), none, .mkS 5 1 [(.int .u8 0)] [(0, 1, (.t 21))]⟩,
   ⟨(some 23), none, .app 5 1 1 (.t 19) (.t 22)⟩,
   ⟨(some 7), none, .mv (.t 23)⟩]))))))
  (.seq (.reg [⟨(some 24), none, .mv (.t 7)⟩,
   ⟨(some 25), none, .mv (.t 8)⟩,
   ⟨(some 26), none, .cvI .u8 (.t 25)⟩,
   ⟨(some 27), none, .mv (.t 2)⟩,
   ⟨(some 28), none, .mkS 5 2 [(.int .u8 0), (.int .u8 0)] [(0, 1, (.t 26)), (1, 1, (.t 27))]⟩,
   ⟨(some 29), none, .app 5 1 1 (.t 24) (.t 28)⟩,
   ⟨(some 6), none, .mv (.t 29)⟩])
  .ret)))),
  [.t 6]⟩
theorem k67 : cFn Try.prog Try.f67 = some c67 := by kernel_rfl
-- spec.PadBytes
def c28 : AF := ⟨46,
  (.seq (.reg [⟨(some 6), none, .alloc 36 [(.int .i64 0), (.slice none 0 0)]⟩])
  (.seq (.seq (.reg [⟨(some 9), none, .mv (.t 1)⟩,
   ⟨(some 10), none, .call 56 [(.t 9), (.v (.int .i64 1)), (.v (.int .i64 16))]⟩,
   ⟨(some 11), none, .un .not (.t 10)⟩,
   ⟨(some 12), none, .mv (.t 11)⟩,
   ⟨(some 13), (some (12, false)), .mv (.t 2)⟩,
   ⟨(some 14), (some (12, false)), .call 56 [(.t 13), (.v (.int .i64 0)), (.v (.int .i64 255))]⟩,
   ⟨(some 15), (some (12, false)), .un .not (.t 14)⟩,
   ⟨(some 16), none, .pick (.t 12) (.v (.bool true)) (.t 15)⟩])
  (.cond (.t 16) (.seq (.reg [⟨(some 17), none, .build [(.int .i64 0), (.slice none 0 0)] [(0, 1, (.v (.int .i64 3)))]⟩,
   ⟨none, none, .st 2 (.t 6) (.t 17)⟩])
  .ret)
  .skip))
  (.seq (.seq (.reg [⟨(some 18), none, .mv (.t 0)⟩,
   ⟨(some 19), none, .len (.t 18)⟩,
   ⟨(some 20), none, .bin .gtr (.t 19) (.v (.int .i64 400))⟩])
  (.cond (.t 20) (.seq (.reg [⟨(some 21), none, .build [(.int .i64 0), (.slice none 0 0)] [(0, 1, (.v (.int .i64 2)))]⟩,
   ⟨none, none, .st 2 (.t 6) (.t 21)⟩])
  .ret)
  .skip))
  (.seq (.reg [⟨(some 22), none, .mkS 5 0 [] []⟩,
   ⟨(some 23), none, .mv (.t 0)⟩,
   ⟨(some 24), none, .app 5 1 1 (.t 22) (.t 23)⟩,
   ⟨(some 7), none, .mv (.t 24)⟩])
  (.seq (.reg [⟨(some 8), none, .mv (.v (.int .i64 0))⟩])
  (.seq (.block 0 (.loop (.seq (.seq (.reg [⟨(some 25), none, .mv (.t 7)⟩,
   ⟨(some 26), none, .len (.t 25)⟩,
   ⟨(some 27), none, .bin .add (.t 26) (.v (.int .i64 2))⟩,
   ⟨(some 28), none, .mv (.t 1)⟩,
   ⟨(some 29), none, .bin .rem (.t 27) (.t 28)⟩,
   ⟨(some 30), none, .bin .neq (.t 29) (.v (.int .i64 0))⟩])
  (.cond (.t 30) .skip
  (.exit 0)))
  (.block 1 (.seq (.reg [⟨(some 31), none, .mv (.t 8)⟩,
   ⟨(some 32), none, .bin .add (.t 31) (.v (.int .i64 1))⟩,
   ⟨(some 8), none, .mv (.t 32)⟩])
  (.reg [⟨(some 33), none, .mv (.t 7)⟩,
   ⟨(some 34), none, .mv (.t 8)⟩,
   ⟨(some 35), none, .cvI .u8 (.t 34)⟩,
   ⟨(some 36), none, .mkS 5 1 [(.int .u8 0)] [(0, 1, (.t 35))]⟩,
   ⟨(some 37), none, .app 5 1 1 (.t 33) (.t 36)⟩,
   ⟨(some 7), none, .mv (.t 37)⟩]))))))
  (.seq (.reg [⟨(some 38), none, .mv (.t 7)⟩,
   ⟨(some 39), none, .mv (.t 8)⟩,
   ⟨(some 40), none, .cvI .u8 (.t 39)⟩,
   ⟨(some 41), none, .mv (.t 2)⟩,
   ⟨(some 42), none, .cvI .u8 (.t 41)⟩,
   ⟨(some 43), none, .mkS 5 2 [(.int .u8 0), (.int .u8 0)] [(0, 1, (.t 40)), (1, 1, (.t 42))]⟩,
   ⟨(some 44), none, .app 5 1 1 (.t 38) (.t 43)⟩,
   ⟨(some 45), none, .build [(.int .i64 0), (.slice none 0 0)] [(1, 1, (.t 44))]⟩,
   ⟨none, none, .st 2 (.t 6) (.t 45)⟩])
  .ret))))))),
  [.cell 6 (some 2)]⟩
theorem k28 : cFn Try.prog Try.f28 = some c28 := by kernel_rfl
-- impl.PadBytes
def c29 : AF := ⟨28,
  (.seq (.reg [⟨(some 6), none, .alloc 36 [(.int .i64 0), (.slice none 0 0)]⟩])
  (.seq (.block 0 (.seq (.reg [⟨(some 8), none, .mv (.t 1)⟩,
   ⟨(some 9), none, .call 58 [(.t 8), (.v (.int .i64 1)), (.v (.int .i64 16))]⟩,
   ⟨(some 10), none, .un .not (.t 9)⟩,
   ⟨(some 11), none, .mv (.t 10)⟩,
   ⟨(some 12), (some (11, false)), .mv (.t 2)⟩,
   ⟨(some 13), (some (11, false)), .call 58 [(.t 12), (.v (.int .i64 0)), (.v (.int .i64 255))]⟩,
   ⟨(some 14), (some (11, false)), .un .not (.t 13)⟩,
   ⟨(some 15), none, .pick (.t 11) (.v (.bool true)) (.t 14)⟩,
   ⟨(some 7), none, .mv (.t 15)⟩])
  (.cond (.t 7) (.seq (.reg [⟨(some 16), none, .build [(.int .i64 0), (.slice none 0 0)] [(0, 1, (.v (.int .i64 3)))]⟩,
   ⟨none, none, .st 2 (.t 6) (.t 16)⟩])
  .ret)
  (.seq (.reg [⟨(some 18), none, .mv (.t 0)⟩,
   ⟨(some 19), none, .len (.t 18)⟩,
   ⟨(some 20), none, .bin .gtr (.t 19) (.v (.int .i64 400))⟩,
   ⟨(some 17), none, .mv (.t 20)⟩])
  (.cond (.t 17) (.seq (.reg [⟨(some 21), none, .build [(.int .i64 0), (.slice none 0 0)] [(0, 1, (.v (.int .i64 2)))]⟩,
   ⟨none, none, .st 2 (.t 6) (.t 21)⟩])
  .ret)
  .skip)))))
  (.seq (.reg [⟨(some 22), none, .mv (.t 0)⟩,
   ⟨(some 23), none, .mv (.t 1)⟩,
   ⟨(some 24), none, .mv (.t 2)⟩,
   ⟨(some 25), none, .cvI .u8 (.t 24)⟩,
   ⟨(some 26), none, .call 67 [(.t 22), (.t 23), (.t 25)]⟩,
   ⟨(some 27), none, .build [(.int .i64 0), (.slice none 0 0)] [(0, 1, (.v (.int .i64 0))), (1, 1, (.t 26))]⟩,
   ⟨none, none, .st 2 (.t 6) (.t 27)⟩])
  .ret))),
  [.cell 6 (some 2)]⟩
theorem k29 : cFn Try.prog Try.f29 = some c29 := by kernel_rfl
theorem rdS_nil (h : Heap) (z : Nat) : rdS h z (.slice none 0 0) = some [] := rfl
theorem rdS_of_rdU {h : Heap} {v : Value} {l : List Int} (hr : rdU h v = some l) : rdS h 1 v = some (u8s l) := by
  unfold rdU at hr
  obtain ⟨cs, h1, h2⟩ := Option.bind_eq_some_iff.1 hr
  rw [h1]
  congr 1
  obtain ⟨hlen, hget⟩ := mapM_get _ _ _ h2
  apply List.ext_getElem?
  intro j
  by_cases hj : j < l.length
  · obtain ⟨a, k1, k2⟩ := hget j l[j] (by simp [hj])
    rw [k1, (byteOf_some k2).1]; simp [u8s, hj]
  · rw [List.getElem?_eq_none (by omega), List.getElem?_eq_none (by simp [u8s]; omega)]
def clone_sp : Sp := fun _ args h => match args with
  | [.slice none 0 0] => some (.slice none 0 0, h)
  | [.slice (some a) n c] => (rdU h (.slice (some a) n c)).bind fun l => if l.length ≤ 100000 then some (slc h.length 0 l.length, h ++ [.cells 5 (u8s l)]) else none
  | _ => none
theorem clone_ok : Ok Try.prog 72 clone_sp := by
  refine ok_quiet (OkΓ.nil _) Try.func72 (by kernel_rfl) k72 ?_ ?_
  · intro lo args h r h' hs
    unfold clone_sp at hs; split at hs
    · cases hs; exact Fr.refl _ _
    · obtain ⟨l, _, hs⟩ := Option.bind_eq_some_iff.1 hs
      split at hs <;> cases hs; exact Fr.push (Nat.le_refl _) _
    · cases hs
  · intro lo args h r h' hs
    unfold clone_sp at hs; split at hs
    · cases hs
      (dsimp only [c72]; simp (maxSteps := 1000000) (implicitDefEqProofs := false) (disch := omega) only [go_sem, Bool.false_eq_true, slc, aop, abin, aun, intB, ↓reduceIte, Nat.reduceEqDiff, Nat.reduceSub, ne_eq, not_false_eq_true, Option.map, Option.bind, get_off, get_off0, set_off, set_off0, List.append_assoc, List.cons_append, List.nil_append, List.length_append, List.length_cons, List.length_nil, Nat.zero_add, Nat.add_zero, Nat.add_assoc, Nat.reduceAdd, List.set_cons_zero, List.set_cons_succ, List.getElem?_cons_zero, List.getElem?_cons_succ, Option.bind_some, Nat.reduceLeDiff, Nat.reduceLT, maxLen, slOut, optI, Int.reduceSub, Int.sub_zero, Nat.zero_mul, if_pos, if_neg, w64, wu8, ↓condK_pos, ↓condK_neg, ↓gdK_pt, ↓gdK_nt, ↓gdK_pf, ↓gdK_nf, decide_eq_true_eq, cellsL, Value.cells, fillL, setAt, decide_true, decide_false, one_int, one_bool, one_string, one_slice, one_pointer, one_ptr, one_iface, one_nili, nat0, flat, slc, List.all_cons, List.all_nil, Bool.and_true, Bool.true_and, Bool.not_true, Bool.not_false, and_true, true_and, and_self, Nat.le_refl, List.take_succ_cons, List.take_zero, List.drop_succ_cons, List.drop_zero, Int.toNat_natCast, Int.reduceToNat, Nat.mul_one, List.take_nil, List.drop_nil, Int.reduceLE, Int.reduceAdd, Int.reduceLT, isNil])
      exact ⟨by simp, done_as (by simp [rres, rresL, rres1, put_at]) rfl⟩
    · rename_i a n c
      obtain ⟨l, hl, hs⟩ := Option.bind_eq_some_iff.1 hs
      split at hs <;> cases hs
      rename_i hcond
      have hla := fun L => rdS_of_rdU (rdU_app hl L)
      obtain ⟨a', c', heq, hb, hc⟩ := rdU_spec hl
      cases heq
      have hr0 : ∀ (L : Heap) (c : Nat), rdS (.cells 5 [] :: L) 1 (.slice (some ⟨0, 0, none⟩) 0 c) = some [] := fun L c => rdS_u8s 5 [] L 0 c rfl
      (dsimp only [c72]; simp (maxSteps := 1000000) (implicitDefEqProofs := false) (disch := omega) only [go_sem, Bool.false_eq_true, slc, aop, abin, aun, intB, ↓reduceIte, Nat.reduceEqDiff, Nat.reduceSub, ne_eq, not_false_eq_true, Option.map, Option.bind, get_off, get_off0, set_off, set_off0, List.append_assoc, List.cons_append, List.nil_append, List.length_append, List.length_cons, List.length_nil, Nat.zero_add, Nat.add_zero, Nat.add_assoc, Nat.reduceAdd, List.set_cons_zero, List.set_cons_succ, List.getElem?_cons_zero, List.getElem?_cons_succ, Option.bind_some, Nat.reduceLeDiff, Nat.reduceLT, maxLen, slOut, optI, Int.reduceSub, Int.sub_zero, Nat.zero_mul, if_pos, if_neg, w64, wu8, ↓condK_pos, ↓condK_neg, ↓gdK_pt, ↓gdK_nt, ↓gdK_pf, ↓gdK_nf, decide_eq_true_eq, cellsL, Value.cells, fillL, setAt, decide_true, decide_false, one_int, one_bool, one_string, one_slice, one_pointer, one_ptr, one_iface, one_nili, nat0, flat, slc, List.all_cons, List.all_nil, Bool.and_true, Bool.true_and, Bool.not_true, Bool.not_false, and_true, true_and, and_self, Nat.le_refl, List.take_succ_cons, List.take_zero, List.drop_succ_cons, List.drop_zero, Int.toNat_natCast, Int.reduceToNat, Nat.mul_one, List.take_nil, List.drop_nil, Int.reduceLE, Int.reduceAdd, Int.reduceLT, isNil, hla, hr0, rdS_off, rdS_off0, List.nil_append])
      exact ⟨by simp, done_bytes (J := [.dead]) (L := []) (by simp [rres, rresL, rres1, put_at])⟩
    · cases hs
/-! Padding -/
def padN (n S : Nat) : Nat := (S - (n + 2) % S) % S
theorem padN_lt {n S i : Nat} (hS : 1 ≤ S) (hi : i < padN n S) : (n + i + 2) % S ≠ 0 := by
  unfold padN at hi
  have hr : (n + 2) % S < S := Nat.mod_lt _ (by omega)
  have h0 : (n + 2) % S ≠ 0 := by intro h; rw [h, Nat.sub_zero, Nat.mod_self] at hi; omega
  rw [Nat.mod_eq_of_lt (by omega)] at hi
  have e : n + i + 2 = (n + 2) + i := by omega
  rw [e, Nat.add_mod, Nat.mod_eq_of_lt (a := i) (by omega), Nat.mod_eq_of_lt (by omega)]
  omega
theorem padN_eq {n S : Nat} (hS : 1 ≤ S) : (n + padN n S + 2) % S = 0 := by
  unfold padN
  have hr : (n + 2) % S < S := Nat.mod_lt _ (by omega)
  by_cases h0 : (n + 2) % S = 0
  · rw [h0, Nat.sub_zero, Nat.mod_self]; simpa using h0
  · rw [Nat.mod_eq_of_lt (a := S - (n + 2) % S) (by omega)]
    have e : n + (S - (n + 2) % S) + 2 = (n + 2) + (S - (n + 2) % S) := by omega
    rw [e, Nat.add_mod, Nat.mod_eq_of_lt (a := S - (n + 2) % S) (by omega)]
    rw [show (n + 2) % S + (S - (n + 2) % S) = S by omega, Nat.mod_self]
theorem padN_bd {n S : Nat} (hS : 1 ≤ S) : padN n S < S := Nat.mod_lt _ (by omega)
def runL (i : Nat) : List Int := (List.range i).map fun (j : Nat) => (j : Int) + 1
theorem runL_succ (i : Nat) : runL (i + 1) = runL i ++ [(i : Int) + 1] := by simp [runL, List.range_succ]
theorem runL_len (i : Nat) : (runL i).length = i := by simp [runL]
theorem runL_bd (i : Nat) (h : i ≤ 255) : ∀ x ∈ runL i, 0 ≤ x ∧ x < 256 := by
  intro x hx; simp [runL] at hx; obtain ⟨j, _, rfl⟩ := hx; omega
def padL (l : List Int) (S : Nat) (next : Int) : List Int := l ++ runL (padN l.length S) ++ [(padN l.length S : Int), next]
theorem padL_len (l : List Int) (S : Nat) (nx : Int) : (padL l S nx).length = l.length + padN l.length S + 2 := by simp [padL, runL_len]; omega
theorem padL_bd {l : List Int} {S : Nat} {nx : Int} (hl : ∀ x ∈ l, 0 ≤ x ∧ x < 256) (hS : 1 ≤ S ∧ S ≤ 16) (hn : 0 ≤ nx ∧ nx < 256) : ∀ x ∈ padL l S nx, 0 ≤ x ∧ x < 256 := by
  intro x hx
  have hp := padN_bd (n := l.length) hS.1
  simp only [padL, List.mem_append, List.mem_cons, List.not_mem_nil, or_false] at hx
  rcases hx with (hx | hx) | hx | hx
  · exact hl x hx
  · exact runL_bd _ (by omega) x hx
  · subst hx; omega
  · subst hx; exact hn
theorem rdS_two (e : TypeId) (v w : Value) (L : Heap) (c : Nat) : rdS (.cells e [v, w] :: L) 1 (.slice (some ⟨0, 0, none⟩) 2 c) = some [v, w] := by simp [rdS]
theorem u8s_two (l : List Int) (x y : Int) : u8s l ++ [.int .u8 x, .int .u8 y] = u8s (l ++ [x, y]) := by simp [u8s]
theorem u8s_pair (x y : Int) : [Value.int .u8 x, .int .u8 y] = u8s [x, y] := rfl
theorem u8s_single (x : Int) : [Value.int .u8 x] = u8s [x] := rfl
theorem done_bytesi {h L : Heap} {res : List AR} {σ : Nat → Value} {e : TypeId} {l : List Int} {n : Nat} (i : Nat) (hr : rres ⟨σ, h ++ L⟩ res = some (.slice (some ⟨h.length + i, 0, none⟩) n n)) (hi : L[i]? = some (.cells e (u8s l))) :
    Done h res (slc h.length 0 n) (h ++ [.cells e (u8s l)]) ⟨σ, h ++ L⟩ := by
  refine done_one (h.length + i) _ hr (by omega) ?_ ?_ keep_off
  · rw [mapV_slc, un_kept]; rfl
  · show (h ++ L)[h.length + i]? = _
    rw [get_off, hi]
    show _ = some (Blk.cells e (mapVs _ (u8s l)))
    rw [show u8s l = l.map (.int .u8) from rfl, mapVs_ints]
theorem nil_slice {h : Heap} {n c : Nat} {l : List Int} (hl : rdU h (.slice none n c) = some l) : n = 0 ∧ c = 0 ∧ l = [] := by
  unfold rdU at hl
  obtain ⟨cs, h1, h2⟩ := Option.bind_eq_some_iff.1 hl
  unfold rdS at h1
  split at h1
  · rename_i heq; cases heq; cases h1; simp at h2; exact ⟨rfl, rfl, h2⟩
  · rename_i heq; cases heq
  · rename_i heq; cases heq
  · cases h1
def pad_sp : Sp := fun _ args h => match args with
  | [v, .int .i64 s, .int .u8 nx] => (rdU h v).bind fun l => if 1 ≤ s ∧ s ≤ 16 ∧ l.length ≤ 100000 ∧ 0 ≤ nx ∧ nx < 256 then some (slc h.length 0 (padL l s.toNat nx).length, h ++ [.cells 5 (u8s (padL l s.toNat nx))]) else none
  | _ => none
theorem pad_ok : Ok Try.prog 67 pad_sp := by
  refine ok_quiet (OkΓ.cons clone_ok (OkΓ.nil _)) Try.func67 (by kernel_rfl) k67 ?_ ?_
  · intro lo args h r h' hs
    unfold pad_sp at hs; split at hs
    · obtain ⟨l, _, hs⟩ := Option.bind_eq_some_iff.1 hs
      split at hs <;> cases hs; exact Fr.push (Nat.le_refl _) _
    · cases hs
  · intro lo args h r h' hs
    unfold pad_sp at hs; split at hs
    · rename_i v s nx
      obtain ⟨l, hl, hs⟩ := Option.bind_eq_some_iff.1 hs
      split at hs <;> cases hs
      rename_i hcond
      obtain ⟨k1, k2, k3, k4, k5⟩ := hcond
      obtain ⟨S, rfl⟩ := Int.eq_ofNat_of_zero_le (show 0 ≤ s by omega)
      rw [Int.toNat_natCast]
      have hla := fun L => rdU_app hl L
      obtain ⟨a, c, rfl, hb, hc⟩ := rdU_spec hl
      clear hs
      have hp := padN_bd (n := l.length) (S := S) (by omega)
      generalize hP : padN l.length S = P at hp
      have hi1 : ∀ i, i < P → (((l.length : Int) + i + 2) % S != 0) = true := by
        intro i hi
        have h1 := padN_lt (n := l.length) (S := S) (i := i) (by omega) (by omega)
        have h2 : (((l.length + i + 2) % S : Nat) : Int) = ((l.length : Int) + i + 2) % S := by simp
        simp only [bne_iff_ne, ne_eq]
        rw [← h2]; omega
      have hi2 : (((l.length : Int) + P + 2) % S != 0) = false := by
        have h1 := padN_eq (n := l.length) (S := S) (by omega)
        rw [hP] at h1
        have h2 : (((l.length + P + 2) % S : Nat) : Int) = ((l.length : Int) + P + 2) % S := by simp
        simp only [bne_eq_false_iff_eq]
        rw [← h2]; omega
      cases a with
      | none =>
        obtain ⟨h0, rfl, hl0⟩ := nil_slice hl
        subst hl0
        simp only [List.length_nil] at *
        (dsimp only [c67]; simp (maxSteps := 1000000) (implicitDefEqProofs := false) (disch := omega) only [go_sem, Bool.false_eq_true, slc, aop, abin, aun, intB, ↓reduceIte, Nat.reduceEqDiff, Nat.reduceSub, ne_eq, not_false_eq_true, Option.map, Option.bind, get_off, get_off0, set_off, set_off0, List.append_assoc, List.cons_append, List.nil_append, List.length_append, List.length_cons, List.length_nil, Nat.zero_add, Nat.add_zero, Nat.add_assoc, Nat.reduceAdd, List.set_cons_zero, List.set_cons_succ, List.getElem?_cons_zero, List.getElem?_cons_succ, Option.bind_some, Nat.reduceLeDiff, Nat.reduceLT, maxLen, slOut, optI, Int.reduceSub, Int.sub_zero, Nat.zero_mul, if_pos, if_neg, w64, wu8, ↓condK_pos, ↓condK_neg, ↓gdK_pt, ↓gdK_nt, ↓gdK_pf, ↓gdK_nf, decide_eq_true_eq, cellsL, Value.cells, fillL, setAt, decide_true, decide_false, one_int, one_bool, one_string, one_slice, one_pointer, one_ptr, one_iface, one_nili, nat0, flat, slc, List.all_cons, List.all_nil, Bool.and_true, Bool.true_and, Bool.not_true, Bool.not_false, and_true, true_and, and_self, Nat.le_refl, List.take_succ_cons, List.take_zero, List.drop_succ_cons, List.drop_zero, Int.toNat_natCast, Int.reduceToNat, Nat.mul_one, List.take_nil, List.drop_nil, Int.reduceLE, Int.reduceAdd, Int.reduceLT, clone_sp])
        refine awp_loop (fun m t => ∃ (i : Nat) (σ : Nat → Value) (J : Heap), t.σ = σ ∧ m = P - i ∧ i ≤ P ∧ σ 1 = .int .i64 S ∧ σ 2 = .int .u8 nx ∧ σ 8 = .int .i64 i ∧
          ((i = 0 ∧ t.h = h ∧ σ 7 = .slice none 0 0) ∨ (t.h = h ++ (J ++ [.cells 5 (u8s (runL i))]) ∧ σ 7 = .slice (some ⟨h.length + J.length, 0, none⟩) i i))) P ⟨0, _, [], rfl, by simp, by simp, by simp (maxSteps := 1000000) (implicitDefEqProofs := false) only [go_sem, Bool.false_eq_true, slc, aop, abin, aun, intB, ↓reduceIte, Nat.reduceEqDiff, Nat.reduceSub, ne_eq, not_false_eq_true, Option.map, Option.bind], by simp (maxSteps := 1000000) (implicitDefEqProofs := false) only [go_sem, Bool.false_eq_true, slc, aop, abin, aun, intB, ↓reduceIte, Nat.reduceEqDiff, Nat.reduceSub, ne_eq, not_false_eq_true, Option.map, Option.bind], by simp (maxSteps := 1000000) (implicitDefEqProofs := false) only [go_sem, Bool.false_eq_true, slc, aop, abin, aun, intB, ↓reduceIte, Nat.reduceEqDiff, Nat.reduceSub, ne_eq, not_false_eq_true, Option.map, Option.bind]; rfl, .inl ⟨rfl, rfl, by simp (maxSteps := 1000000) (implicitDefEqProofs := false) only [go_sem, Bool.false_eq_true, slc, aop, abin, aun, intB, ↓reduceIte, Nat.reduceEqDiff, Nat.reduceSub, ne_eq, not_false_eq_true, Option.map, Option.bind]⟩⟩ ?_
        intro m t ⟨i, σ, J, ht, hm, hi, e1, e2, e8, hh⟩
        obtain ⟨tσ, th⟩ := t
        simp only at ht; subst ht
        have hwi : 0 ≤ (i : Int) ∧ (i : Int) < 16 := by omega
        rcases hh with ⟨rfl, hth, e7⟩ | ⟨hth, e7⟩
        · simp only at hth; subst hth
          by_cases hip : 0 < P
          · have q := hi1 0 hip
            have q' : ((2 : Int) % S != 0) = true := by simpa using q
            simp (maxSteps := 1000000) (implicitDefEqProofs := false) (disch := omega) only [go_sem, Bool.false_eq_true, slc, aop, abin, aun, intB, ↓reduceIte, Nat.reduceEqDiff, Nat.reduceSub, ne_eq, not_false_eq_true, Option.map, Option.bind, get_off, get_off0, set_off, set_off0, List.append_assoc, List.cons_append, List.nil_append, List.length_append, List.length_cons, List.length_nil, Nat.zero_add, Nat.add_zero, Nat.add_assoc, Nat.reduceAdd, List.set_cons_zero, List.set_cons_succ, List.getElem?_cons_zero, List.getElem?_cons_succ, Option.bind_some, Nat.reduceLeDiff, Nat.reduceLT, maxLen, slOut, optI, Int.reduceSub, Int.sub_zero, Nat.zero_mul, if_pos, if_neg, w64, wu8, ↓condK_pos, ↓condK_neg, ↓gdK_pt, ↓gdK_nt, ↓gdK_pf, ↓gdK_nf, decide_eq_true_eq, cellsL, Value.cells, fillL, setAt, decide_true, decide_false, one_int, one_bool, one_string, one_slice, one_pointer, one_ptr, one_iface, one_nili, nat0, flat, slc, List.all_cons, List.all_nil, Bool.and_true, Bool.true_and, Bool.not_true, Bool.not_false, and_true, true_and, and_self, Nat.le_refl, List.take_succ_cons, List.take_zero, List.drop_succ_cons, List.drop_zero, Int.toNat_natCast, Int.reduceToNat, Nat.mul_one, List.take_nil, List.drop_nil, Int.reduceLE, Int.reduceAdd, Int.reduceLT, e1, e2, e7, e8, Int.tmod_eq_emod_of_nonneg, q', rdS_nil, rdS_off, rdS_off0, rdS_tail, rdS_one]
            exact ⟨P - 1, by omega, 1, _, [.cells 5 [.int .u8 1]], rfl, rfl, by omega, by simp (maxSteps := 1000000) (implicitDefEqProofs := false) only [go_sem, Bool.false_eq_true, slc, aop, abin, aun, intB, ↓reduceIte, Nat.reduceEqDiff, Nat.reduceSub, ne_eq, not_false_eq_true, Option.map, Option.bind, e1], by simp (maxSteps := 1000000) (implicitDefEqProofs := false) only [go_sem, Bool.false_eq_true, slc, aop, abin, aun, intB, ↓reduceIte, Nat.reduceEqDiff, Nat.reduceSub, ne_eq, not_false_eq_true, Option.map, Option.bind, e2], by simp (maxSteps := 1000000) (implicitDefEqProofs := false) only [go_sem, Bool.false_eq_true, slc, aop, abin, aun, intB, ↓reduceIte, Nat.reduceEqDiff, Nat.reduceSub, ne_eq, not_false_eq_true, Option.map, Option.bind]; rfl, .inr ⟨rfl, by simp (maxSteps := 1000000) (implicitDefEqProofs := false) only [go_sem, Bool.false_eq_true, slc, aop, abin, aun, intB, ↓reduceIte, Nat.reduceEqDiff, Nat.reduceSub, ne_eq, not_false_eq_true, Option.map, Option.bind]; rfl⟩⟩
          · have hP0 : P = 0 := by omega
            subst hP0
            have q' : ((2 : Int) % S != 0) = false := by simpa using hi2
            simp (maxSteps := 1000000) (implicitDefEqProofs := false) (disch := omega) only [go_sem, Bool.false_eq_true, slc, aop, abin, aun, intB, ↓reduceIte, Nat.reduceEqDiff, Nat.reduceSub, ne_eq, not_false_eq_true, Option.map, Option.bind, get_off, get_off0, set_off, set_off0, List.append_assoc, List.cons_append, List.nil_append, List.length_append, List.length_cons, List.length_nil, Nat.zero_add, Nat.add_zero, Nat.add_assoc, Nat.reduceAdd, List.set_cons_zero, List.set_cons_succ, List.getElem?_cons_zero, List.getElem?_cons_succ, Option.bind_some, Nat.reduceLeDiff, Nat.reduceLT, maxLen, slOut, optI, Int.reduceSub, Int.sub_zero, Nat.zero_mul, if_pos, if_neg, w64, wu8, ↓condK_pos, ↓condK_neg, ↓gdK_pt, ↓gdK_nt, ↓gdK_pf, ↓gdK_nf, decide_eq_true_eq, cellsL, Value.cells, fillL, setAt, decide_true, decide_false, one_int, one_bool, one_string, one_slice, one_pointer, one_ptr, one_iface, one_nili, nat0, flat, slc, List.all_cons, List.all_nil, Bool.and_true, Bool.true_and, Bool.not_true, Bool.not_false, and_true, true_and, and_self, Nat.le_refl, List.take_succ_cons, List.take_zero, List.drop_succ_cons, List.drop_zero, Int.toNat_natCast, Int.reduceToNat, Nat.mul_one, List.take_nil, List.drop_nil, Int.reduceLE, Int.reduceAdd, Int.reduceLT, e1, e2, e7, e8, Int.tmod_eq_emod_of_nonneg, q', rdS_nil, rdS_off, rdS_off0, rdS_tail, rdS_two]
            have e : padL [] S nx = [0, nx] := by simp [padL, hP, runL]
            rw [e]
            exact ⟨by simp, done_bytesi 1 (by simp [rres, rresL, rres1, put_at]) rfl⟩
        · simp only at hth; subst hth
          have hr := fun L c => rdS_u8s 5 (runL i) L i c (runL_len i)
          by_cases hip : i < P
          · have q := hi1 i hip
            have q' : (((i : Int) + 2) % S != 0) = true := by simpa using q
            simp (maxSteps := 1000000) (implicitDefEqProofs := false) (disch := omega) only [go_sem, Bool.false_eq_true, slc, aop, abin, aun, intB, ↓reduceIte, Nat.reduceEqDiff, Nat.reduceSub, ne_eq, not_false_eq_true, Option.map, Option.bind, get_off, get_off0, set_off, set_off0, List.append_assoc, List.cons_append, List.nil_append, List.length_append, List.length_cons, List.length_nil, Nat.zero_add, Nat.add_zero, Nat.add_assoc, Nat.reduceAdd, List.set_cons_zero, List.set_cons_succ, List.getElem?_cons_zero, List.getElem?_cons_succ, Option.bind_some, Nat.reduceLeDiff, Nat.reduceLT, maxLen, slOut, optI, Int.reduceSub, Int.sub_zero, Nat.zero_mul, if_pos, if_neg, w64, wu8, ↓condK_pos, ↓condK_neg, ↓gdK_pt, ↓gdK_nt, ↓gdK_pf, ↓gdK_nf, decide_eq_true_eq, cellsL, Value.cells, fillL, setAt, decide_true, decide_false, one_int, one_bool, one_string, one_slice, one_pointer, one_ptr, one_iface, one_nili, nat0, flat, slc, List.all_cons, List.all_nil, Bool.and_true, Bool.true_and, Bool.not_true, Bool.not_false, and_true, true_and, and_self, Nat.le_refl, List.take_succ_cons, List.take_zero, List.drop_succ_cons, List.drop_zero, Int.toNat_natCast, Int.reduceToNat, Nat.mul_one, List.take_nil, List.drop_nil, Int.reduceLE, Int.reduceAdd, Int.reduceLT, e1, e2, e7, e8, Int.tmod_eq_emod_of_nonneg, q', hr, rdS_off, rdS_off0, rdS_tail, rdS_one, u8s_snoc, ← runL_succ]
            exact ⟨P - (i + 1), by omega, i + 1, _, J ++ [.dead, .cells 5 [.int .u8 ((i : Int) + 1)]], rfl, rfl, by omega, by simp (maxSteps := 1000000) (implicitDefEqProofs := false) only [go_sem, Bool.false_eq_true, slc, aop, abin, aun, intB, ↓reduceIte, Nat.reduceEqDiff, Nat.reduceSub, ne_eq, not_false_eq_true, Option.map, Option.bind, e1], by simp (maxSteps := 1000000) (implicitDefEqProofs := false) only [go_sem, Bool.false_eq_true, slc, aop, abin, aun, intB, ↓reduceIte, Nat.reduceEqDiff, Nat.reduceSub, ne_eq, not_false_eq_true, Option.map, Option.bind, e2], by simp (maxSteps := 1000000) (implicitDefEqProofs := false) only [go_sem, Bool.false_eq_true, slc, aop, abin, aun, intB, ↓reduceIte, Nat.reduceEqDiff, Nat.reduceSub, ne_eq, not_false_eq_true, Option.map, Option.bind]; rfl, .inr ⟨by rw [List.append_assoc]; rfl, by simp (maxSteps := 1000000) (implicitDefEqProofs := false) only [go_sem, Bool.false_eq_true, slc, aop, abin, aun, intB, ↓reduceIte, Nat.reduceEqDiff, Nat.reduceSub, ne_eq, not_false_eq_true, Option.map, Option.bind]; simp⟩⟩
          · have hP0 : i = P := by omega
            subst hP0
            have q' : (((i : Int) + 2) % S != 0) = false := by simpa using hi2
            simp (maxSteps := 1000000) (implicitDefEqProofs := false) (disch := omega) only [go_sem, Bool.false_eq_true, slc, aop, abin, aun, intB, ↓reduceIte, Nat.reduceEqDiff, Nat.reduceSub, ne_eq, not_false_eq_true, Option.map, Option.bind, get_off, get_off0, set_off, set_off0, List.append_assoc, List.cons_append, List.nil_append, List.length_append, List.length_cons, List.length_nil, Nat.zero_add, Nat.add_zero, Nat.add_assoc, Nat.reduceAdd, List.set_cons_zero, List.set_cons_succ, List.getElem?_cons_zero, List.getElem?_cons_succ, Option.bind_some, Nat.reduceLeDiff, Nat.reduceLT, maxLen, slOut, optI, Int.reduceSub, Int.sub_zero, Nat.zero_mul, if_pos, if_neg, w64, wu8, ↓condK_pos, ↓condK_neg, ↓gdK_pt, ↓gdK_nt, ↓gdK_pf, ↓gdK_nf, decide_eq_true_eq, cellsL, Value.cells, fillL, setAt, decide_true, decide_false, one_int, one_bool, one_string, one_slice, one_pointer, one_ptr, one_iface, one_nili, nat0, flat, slc, List.all_cons, List.all_nil, Bool.and_true, Bool.true_and, Bool.not_true, Bool.not_false, and_true, true_and, and_self, Nat.le_refl, List.take_succ_cons, List.take_zero, List.drop_succ_cons, List.drop_zero, Int.toNat_natCast, Int.reduceToNat, Nat.mul_one, List.take_nil, List.drop_nil, Int.reduceLE, Int.reduceAdd, Int.reduceLT, e1, e2, e7, e8, Int.tmod_eq_emod_of_nonneg, q', hr, rdS_off, rdS_off0, rdS_tail, rdS_two, u8s_two]
            have e : padL [] S nx = runL i ++ [(i : Int), nx] := by simp [padL, hP]
            rw [e]
            exact ⟨by simp, done_bytesi (J.length + 2) (by simp [rres, rresL, rres1, put_at, runL_len]) (by rw [get_off]; rfl)⟩
      | some ad =>
        (dsimp only [c67]; simp (maxSteps := 1000000) (implicitDefEqProofs := false) (disch := omega) only [go_sem, Bool.false_eq_true, slc, aop, abin, aun, intB, ↓reduceIte, Nat.reduceEqDiff, Nat.reduceSub, ne_eq, not_false_eq_true, Option.map, Option.bind, get_off, get_off0, set_off, set_off0, List.append_assoc, List.cons_append, List.nil_append, List.length_append, List.length_cons, List.length_nil, Nat.zero_add, Nat.add_zero, Nat.add_assoc, Nat.reduceAdd, List.set_cons_zero, List.set_cons_succ, List.getElem?_cons_zero, List.getElem?_cons_succ, Option.bind_some, Nat.reduceLeDiff, Nat.reduceLT, maxLen, slOut, optI, Int.reduceSub, Int.sub_zero, Nat.zero_mul, if_pos, if_neg, w64, wu8, ↓condK_pos, ↓condK_neg, ↓gdK_pt, ↓gdK_nt, ↓gdK_pf, ↓gdK_nf, decide_eq_true_eq, cellsL, Value.cells, fillL, setAt, decide_true, decide_false, one_int, one_bool, one_string, one_slice, one_pointer, one_ptr, one_iface, one_nili, nat0, flat, slc, List.all_cons, List.all_nil, Bool.and_true, Bool.true_and, Bool.not_true, Bool.not_false, and_true, true_and, and_self, Nat.le_refl, List.take_succ_cons, List.take_zero, List.drop_succ_cons, List.drop_zero, Int.toNat_natCast, Int.reduceToNat, Nat.mul_one, List.take_nil, List.drop_nil, Int.reduceLE, Int.reduceAdd, Int.reduceLT, clone_sp, hl, k3])
        refine awp_loop (fun m t => ∃ (i : Nat) (σ : Nat → Value) (J : Heap), t = ⟨σ, h ++ (J ++ [.cells 5 (u8s (l ++ runL i))])⟩ ∧ m = P - i ∧ i ≤ P ∧ σ 1 = .int .i64 S ∧ σ 2 = .int .u8 nx ∧ σ 8 = .int .i64 i ∧
          σ 7 = .slice (some ⟨h.length + J.length, 0, none⟩) (l.length + i) (l.length + i)) P ⟨0, _, [], by simp only [runL, List.range_zero, List.map_nil, List.append_nil]; rfl, by simp, by simp, by simp (maxSteps := 1000000) (implicitDefEqProofs := false) only [go_sem, Bool.false_eq_true, slc, aop, abin, aun, intB, ↓reduceIte, Nat.reduceEqDiff, Nat.reduceSub, ne_eq, not_false_eq_true, Option.map, Option.bind], by simp (maxSteps := 1000000) (implicitDefEqProofs := false) only [go_sem, Bool.false_eq_true, slc, aop, abin, aun, intB, ↓reduceIte, Nat.reduceEqDiff, Nat.reduceSub, ne_eq, not_false_eq_true, Option.map, Option.bind], by simp (maxSteps := 1000000) (implicitDefEqProofs := false) only [go_sem, Bool.false_eq_true, slc, aop, abin, aun, intB, ↓reduceIte, Nat.reduceEqDiff, Nat.reduceSub, ne_eq, not_false_eq_true, Option.map, Option.bind]; rfl, by simp (maxSteps := 1000000) (implicitDefEqProofs := false) only [go_sem, Bool.false_eq_true, slc, aop, abin, aun, intB, ↓reduceIte, Nat.reduceEqDiff, Nat.reduceSub, ne_eq, not_false_eq_true, Option.map, Option.bind]; rfl⟩ ?_
        intro m t ⟨i, σ, J, ht, hm, hi, e1, e2, e8, e7⟩
        subst ht
        have hwi : 0 ≤ (i : Int) ∧ (i : Int) < 16 := by omega
        have hr := fun L c => rdS_u8s 5 (l ++ runL i) L (l.length + i) c (by rw [List.length_append, runL_len])
        have hcs : ((l.length + i : Nat) : Int) = (l.length : Int) + i := by omega
        by_cases hip : i < P
        · have q := hi1 i hip
          simp (maxSteps := 1000000) (implicitDefEqProofs := false) (disch := omega) only [go_sem, Bool.false_eq_true, slc, aop, abin, aun, intB, ↓reduceIte, Nat.reduceEqDiff, Nat.reduceSub, ne_eq, not_false_eq_true, Option.map, Option.bind, get_off, get_off0, set_off, set_off0, List.append_assoc, List.cons_append, List.nil_append, List.length_append, List.length_cons, List.length_nil, Nat.zero_add, Nat.add_zero, Nat.add_assoc, Nat.reduceAdd, List.set_cons_zero, List.set_cons_succ, List.getElem?_cons_zero, List.getElem?_cons_succ, Option.bind_some, Nat.reduceLeDiff, Nat.reduceLT, maxLen, slOut, optI, Int.reduceSub, Int.sub_zero, Nat.zero_mul, if_pos, if_neg, w64, wu8, ↓condK_pos, ↓condK_neg, ↓gdK_pt, ↓gdK_nt, ↓gdK_pf, ↓gdK_nf, decide_eq_true_eq, cellsL, Value.cells, fillL, setAt, decide_true, decide_false, one_int, one_bool, one_string, one_slice, one_pointer, one_ptr, one_iface, one_nili, nat0, flat, slc, List.all_cons, List.all_nil, Bool.and_true, Bool.true_and, Bool.not_true, Bool.not_false, and_true, true_and, and_self, Nat.le_refl, List.take_succ_cons, List.take_zero, List.drop_succ_cons, List.drop_zero, Int.toNat_natCast, Int.reduceToNat, Nat.mul_one, List.take_nil, List.drop_nil, Int.reduceLE, Int.reduceAdd, Int.reduceLT, e1, e2, e7, e8, Int.tmod_eq_emod_of_nonneg, hcs, q, hr, rdS_off, rdS_off0, rdS_tail, rdS_one, u8s_snoc]
          exact ⟨P - (i + 1), by omega, i + 1, _, J ++ [.dead, .cells 5 [.int .u8 ((i : Int) + 1)]], by rw [runL_succ, List.append_assoc]; rfl, rfl, by omega, by simp (maxSteps := 1000000) (implicitDefEqProofs := false) only [go_sem, Bool.false_eq_true, slc, aop, abin, aun, intB, ↓reduceIte, Nat.reduceEqDiff, Nat.reduceSub, ne_eq, not_false_eq_true, Option.map, Option.bind, e1], by simp (maxSteps := 1000000) (implicitDefEqProofs := false) only [go_sem, Bool.false_eq_true, slc, aop, abin, aun, intB, ↓reduceIte, Nat.reduceEqDiff, Nat.reduceSub, ne_eq, not_false_eq_true, Option.map, Option.bind, e2], by simp (maxSteps := 1000000) (implicitDefEqProofs := false) only [go_sem, Bool.false_eq_true, slc, aop, abin, aun, intB, ↓reduceIte, Nat.reduceEqDiff, Nat.reduceSub, ne_eq, not_false_eq_true, Option.map, Option.bind]; rfl, by simp (maxSteps := 1000000) (implicitDefEqProofs := false) only [go_sem, Bool.false_eq_true, slc, aop, abin, aun, intB, ↓reduceIte, Nat.reduceEqDiff, Nat.reduceSub, ne_eq, not_false_eq_true, Option.map, Option.bind]; simp⟩
        · have hP0 : i = P := by omega
          subst hP0
          simp (maxSteps := 1000000) (implicitDefEqProofs := false) (disch := omega) only [go_sem, Bool.false_eq_true, slc, aop, abin, aun, intB, ↓reduceIte, Nat.reduceEqDiff, Nat.reduceSub, ne_eq, not_false_eq_true, Option.map, Option.bind, get_off, get_off0, set_off, set_off0, List.append_assoc, List.cons_append, List.nil_append, List.length_append, List.length_cons, List.length_nil, Nat.zero_add, Nat.add_zero, Nat.add_assoc, Nat.reduceAdd, List.set_cons_zero, List.set_cons_succ, List.getElem?_cons_zero, List.getElem?_cons_succ, Option.bind_some, Nat.reduceLeDiff, Nat.reduceLT, maxLen, slOut, optI, Int.reduceSub, Int.sub_zero, Nat.zero_mul, if_pos, if_neg, w64, wu8, ↓condK_pos, ↓condK_neg, ↓gdK_pt, ↓gdK_nt, ↓gdK_pf, ↓gdK_nf, decide_eq_true_eq, cellsL, Value.cells, fillL, setAt, decide_true, decide_false, one_int, one_bool, one_string, one_slice, one_pointer, one_ptr, one_iface, one_nili, nat0, flat, slc, List.all_cons, List.all_nil, Bool.and_true, Bool.true_and, Bool.not_true, Bool.not_false, and_true, true_and, and_self, Nat.le_refl, List.take_succ_cons, List.take_zero, List.drop_succ_cons, List.drop_zero, Int.toNat_natCast, Int.reduceToNat, Nat.mul_one, List.take_nil, List.drop_nil, Int.reduceLE, Int.reduceAdd, Int.reduceLT, e1, e2, e7, e8, Int.tmod_eq_emod_of_nonneg, hcs, hi2, hr, rdS_off, rdS_off0, rdS_tail, rdS_two, u8s_two]
          have e : padL l S nx = l ++ (runL i ++ [(i : Int), nx]) := by simp [padL, hP]
          rw [e]
          exact ⟨by simp, done_bytesi (J.length + 2) (by simp [rres, rresL, rres1, put_at, runL_len]) (by rw [get_off]; rfl)⟩
    · cases hs
end Go.Proofs.Ytpndkgpkakhbmaa
