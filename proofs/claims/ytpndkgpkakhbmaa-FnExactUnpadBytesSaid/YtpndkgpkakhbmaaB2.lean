import Derived.Test.YtpndkgpkakhbmaaB1
set_option linter.unusedSimpArgs false
set_option linter.unusedVariables false
set_option maxRecDepth 100000
namespace Go.Proofs.Ytpndkgpkakhbmaa
open Go Go.AH
attribute [local go_sem ↓] awp_skip awp_ret awp_exit awp_seq awp_reg awp_drw awp_cond awp_block seqK_normal seqK_ret seqK_exit blkK_normal blkK_ret loopK_normal loopK_ret loopK_exit rops_nil qops_nil rops_op rops_op0 rops_opg qops_op qops_op0 qops_opg gdK_tt gdK_ff gdK_tf gdK_ft kont_some condK_true condK_false
attribute [local go_sem] tag_eq blkK_exit put_at argσ_nil argσ_cons ev_t ev_v ctx_get getB_bool getI_int getP_ptr Option.map_some Option.bind_some List.map_cons List.map_nil
attribute [local congr] kont_cong condK_cong gdK_cong awp_cong rops_cong qops_cong
-- laws.toByteS
def c16 : AF := ⟨22,
  (.seq (.reg [⟨(some 2), none, .mv (.v (.slice none 0 0))⟩])
  (.seq (.reg [⟨(some 5), none, .mv (.t 0)⟩,
   ⟨(some 6), none, .len (.t 5)⟩,
   ⟨(some 7), none, .mkSl 5 1 1 [(.int .u8 0)] (.t 6) (.t 6)⟩,
   ⟨(some 3), none, .mv (.t 7)⟩])
  (.seq (.seq (.reg [⟨(some 4), none, .mv (.v (.int .i64 0))⟩])
  (.block 0 (.loop (.seq (.seq (.reg [⟨(some 8), none, .mv (.t 4)⟩,
   ⟨(some 9), none, .mv (.t 0)⟩,
   ⟨(some 10), none, .len (.t 9)⟩,
   ⟨(some 11), none, .bin .lss (.t 8) (.t 10)⟩])
  (.cond (.t 11) .skip
  (.exit 0)))
  (.seq (.block 1 (.reg [⟨(some 14), none, .mv (.t 3)⟩,
   ⟨(some 15), none, .mv (.t 4)⟩,
   ⟨(some 16), none, .mv (.t 0)⟩,
   ⟨(some 17), none, .mv (.t 4)⟩,
   ⟨(some 18), none, .ia 1 (.t 16) (.t 17)⟩,
   ⟨(some 19), none, .ld (.t 18)⟩,
   ⟨(some 20), none, .ia 1 (.t 14) (.t 15)⟩,
   ⟨none, none, .st 1 (.t 20) (.t 19)⟩]))
  (.reg [⟨(some 12), none, .mv (.t 4)⟩,
   ⟨(some 13), none, .bin .add (.t 12) (.v (.int .i64 1))⟩,
   ⟨(some 4), none, .mv (.t 13)⟩]))))))
  (.seq (.reg [⟨(some 21), none, .mv (.t 3)⟩,
   ⟨(some 2), none, .mv (.t 21)⟩])
  .ret)))),
  [.t 2]⟩
theorem k16 : cFn Try.prog Try.f16 = some c16 := by kernel_rfl
-- laws.eqByteS
def c19 : AF := ⟨26,
  (.seq (.reg [⟨(some 4), none, .mv (.v (.bool false))⟩])
  (.seq (.seq (.reg [⟨(some 6), none, .mv (.t 0)⟩,
   ⟨(some 7), none, .len (.t 6)⟩,
   ⟨(some 8), none, .mv (.t 1)⟩,
   ⟨(some 9), none, .len (.t 8)⟩,
   ⟨(some 10), none, .bin .neq (.t 7) (.t 9)⟩])
  (.cond (.t 10) (.seq (.reg [⟨(some 4), none, .mv (.v (.bool false))⟩])
  .ret)
  .skip))
  (.seq (.seq (.reg [⟨(some 5), none, .mv (.v (.int .i64 0))⟩])
  (.block 0 (.loop (.seq (.seq (.reg [⟨(some 11), none, .mv (.t 5)⟩,
   ⟨(some 12), none, .mv (.t 0)⟩,
   ⟨(some 13), none, .len (.t 12)⟩,
   ⟨(some 14), none, .bin .lss (.t 11) (.t 13)⟩])
  (.cond (.t 14) .skip
  (.exit 0)))
  (.seq (.block 1 (.seq (.drw [⟨(some 17), none, .mv (.t 0)⟩,
   ⟨(some 18), none, .mv (.t 5)⟩,
   ⟨(some 19), none, .ia 1 (.t 17) (.t 18)⟩,
   ⟨(some 20), none, .ld (.t 19)⟩,
   ⟨(some 21), none, .mv (.t 1)⟩,
   ⟨(some 22), none, .mv (.t 5)⟩,
   ⟨(some 23), none, .ia 1 (.t 21) (.t 22)⟩,
   ⟨(some 24), none, .ld (.t 23)⟩,
   ⟨(some 25), none, .bin .neq (.t 20) (.t 24)⟩] [])
  (.cond (.t 25) (.seq (.reg [⟨(some 4), none, .mv (.v (.bool false))⟩])
  .ret)
  .skip)))
  (.reg [⟨(some 15), none, .mv (.t 5)⟩,
   ⟨(some 16), none, .bin .add (.t 15) (.v (.int .i64 1))⟩,
   ⟨(some 5), none, .mv (.t 16)⟩]))))))
  (.seq (.reg [⟨(some 4), none, .mv (.v (.bool true))⟩])
  .ret)))),
  [.t 4]⟩
theorem k19 : cFn Try.prog Try.f19 = some c19 := by kernel_rfl
-- laws.markByteS
def c30 : AF := ⟨20,
  (.seq (.reg [⟨(some 4), none, .mv (.v (.int .i64 0))⟩])
  (.seq (.seq (.reg [⟨(some 5), none, .mv (.v (.int .i64 0))⟩])
  (.block 0 (.loop (.seq (.seq (.reg [⟨(some 6), none, .mv (.t 5)⟩,
   ⟨(some 7), none, .mv (.t 0)⟩,
   ⟨(some 8), none, .len (.t 7)⟩,
   ⟨(some 9), none, .bin .lss (.t 6) (.t 8)⟩])
  (.cond (.t 9) .skip
  (.exit 0)))
  (.seq (.block 1 (.seq (.reg [⟨(some 12), none, .mv (.t 0)⟩,
   ⟨(some 13), none, .mv (.t 5)⟩,
   ⟨(some 14), none, .mv (.t 1)⟩,
   ⟨(some 15), none, .cvI .u8 (.t 14)⟩,
   ⟨(some 16), none, .ia 1 (.t 12) (.t 13)⟩,
   ⟨none, none, .st 1 (.t 16) (.t 15)⟩])
  (.reg [⟨(some 17), none, .mv (.t 1)⟩,
   ⟨(some 18), none, .bin .add (.t 17) (.v (.int .i64 1))⟩,
   ⟨(some 1), none, .mv (.t 18)⟩])))
  (.reg [⟨(some 10), none, .mv (.t 5)⟩,
   ⟨(some 11), none, .bin .add (.t 10) (.v (.int .i64 1))⟩,
   ⟨(some 5), none, .mv (.t 11)⟩]))))))
  (.seq (.reg [⟨(some 19), none, .mv (.t 1)⟩,
   ⟨(some 4), none, .mv (.t 19)⟩])
  .ret))),
  [.t 4]⟩
theorem k30 : cFn Try.prog Try.f30 = some c30 := by kernel_rfl
-- laws.heldByteS
def c66 : AF := ⟨22,
  (.seq (.reg [⟨(some 4), none, .mv (.v (.int .i64 0))⟩])
  (.seq (.seq (.reg [⟨(some 5), none, .mv (.v (.int .i64 0))⟩])
  (.block 0 (.loop (.seq (.seq (.reg [⟨(some 6), none, .mv (.t 5)⟩,
   ⟨(some 7), none, .mv (.t 0)⟩,
   ⟨(some 8), none, .len (.t 7)⟩,
   ⟨(some 9), none, .bin .lss (.t 6) (.t 8)⟩])
  (.cond (.t 9) .skip
  (.exit 0)))
  (.seq (.block 1 (.seq (.seq (.reg [⟨(some 12), none, .mv (.t 0)⟩,
   ⟨(some 13), none, .mv (.t 5)⟩,
   ⟨(some 14), none, .ia 1 (.t 12) (.t 13)⟩,
   ⟨(some 15), none, .ld (.t 14)⟩,
   ⟨(some 16), none, .mv (.t 1)⟩,
   ⟨(some 17), none, .cvI .u8 (.t 16)⟩,
   ⟨(some 18), none, .bin .neq (.t 15) (.t 17)⟩])
  (.cond (.t 18) (.seq (.reg [⟨(some 4), none, .mv (.v (.int .i64 (-1)))⟩])
  .ret)
  .skip))
  (.reg [⟨(some 19), none, .mv (.t 1)⟩,
   ⟨(some 20), none, .bin .add (.t 19) (.v (.int .i64 1))⟩,
   ⟨(some 1), none, .mv (.t 20)⟩])))
  (.reg [⟨(some 10), none, .mv (.t 5)⟩,
   ⟨(some 11), none, .bin .add (.t 10) (.v (.int .i64 1))⟩,
   ⟨(some 5), none, .mv (.t 11)⟩]))))))
  (.seq (.reg [⟨(some 21), none, .mv (.t 1)⟩,
   ⟨(some 4), none, .mv (.t 21)⟩])
  .ret))),
  [.t 4]⟩
theorem k66 : cFn Try.prog Try.f66 = some c66 := by kernel_rfl

def u8s (l : List Int) : List Value := l.map (.int .u8)
theorem u8s_len (l : List Int) : (u8s l).length = l.length := by simp [u8s]
theorem u8s_get (l : List Int) (i : Nat) (h : i < l.length) : (u8s l)[i]? = some (.int .u8 (l.getD i 0)) := by simp [u8s, h]
theorem byteOf_u8s (l : List Int) (h : ∀ x ∈ l, 0 ≤ x ∧ x < 256) : (u8s l).mapM byteOf? = some l := by
  induction l with
  | nil => rfl
  | cons a l ih =>
    have ha := h a (by simp)
    have := ih (fun x hx => h x (by simp [hx]))
    simp only [u8s, List.map_cons, List.mapM_cons] at this ⊢
    simp [byteOf?, ha, this]
theorem get_lt {h : Heap} {b : Nat} {x : Blk} (hb : h[b]? = some x) : b < h.length := (List.getElem?_eq_some_iff.1 hb).1
theorem get_app {h : Heap} {b : Nat} {x : Blk} (hb : h[b]? = some x) (l : Heap) : (h ++ l)[b]? = some x := by rw [List.getElem?_append_left (get_lt hb)]; exact hb
theorem get_new (h : Heap) (x : Blk) (l : Heap) : (h ++ x :: l)[h.length]? = some x := by simp
theorem set_new (h : Heap) (x y : Blk) (l : Heap) : (h ++ x :: l).set h.length y = h ++ y :: l := by simp
theorem rdS_app {h : Heap} {z : Nat} {v : Value} {cs : List Value} (hr : rdS h z v = some cs) (l : Heap) : rdS (h ++ l) z v = some cs := by
  unfold rdS at hr ⊢
  split at hr
  · exact hr
  · exact hr
  · rename_i b o n c
    split at hr
    · rename_i e bs hb
      simp only [get_app hb l]
      exact hr
    · cases hr
  · cases hr
theorem rdU_app {h : Heap} {v : Value} {cs : List Int} (hr : rdU h v = some cs) (l : Heap) : rdU (h ++ l) v = some cs := by
  unfold rdU at hr ⊢
  obtain ⟨x, h1, h2⟩ := Option.bind_eq_some_iff.1 hr
  rw [rdS_app h1 l]; exact h2
theorem rdU_slc {h : Heap} {b : Nat} {e : TypeId} {l : List Int} (hb : h[b]? = some (.cells e (u8s l))) (hl : ∀ x ∈ l, 0 ≤ x ∧ x < 256) : rdU h (slc b 0 l.length) = some l := by
  simp only [rdU, slc, rdS, hb, u8s_len, Nat.mul_one, Nat.zero_add, Nat.le_refl, if_true, List.drop_zero, Option.bind_some]
  rw [List.take_of_length_le (by simp [u8s_len])]
  exact byteOf_u8s l hl
theorem wu8 {n : Int} (h : 0 ≤ n ∧ n < 256) : IntKind.u8.wrap n = n := by
  simp [IntKind.wrap, IntKind.min, IntKind.max, IntKind.bits, IntKind.signed]; omega
theorem bytes_len {h : Heap} {v : Value} {l : List Int} (hr : rdU h v = some l) : ∀ x ∈ l, 0 ≤ x ∧ x < 256 := by
  obtain ⟨_, _, _, hb, _⟩ := rdU_spec hr; exact hb

theorem zeros_u8 (n : Nat) : (List.replicate n [Value.int .u8 0]).flatten = u8s (List.replicate n 0) := by
  induction n with
  | zero => rfl
  | succ n ih => simp [List.replicate_succ, u8s] at ih ⊢
theorem fill_step (l : List Int) (k : Nat) (hk : k < l.length) : (u8s (l.take k ++ List.replicate (l.length - k) 0)).set k (.int .u8 (l.getD k 0)) = u8s (l.take (k + 1) ++ List.replicate (l.length - (k + 1)) 0) := by
  simp only [u8s, List.map_append]
  have hl : (List.map (Value.int .u8) (l.take k)).length = k := by simp; omega
  rw [List.set_append_right _ _ (by omega), hl, Nat.sub_self]
  rw [show l.length - k = (l.length - (k + 1)) + 1 by omega, List.replicate_succ, List.map_cons, List.set_cons_zero, List.take_succ_eq_append_getElem hk, List.map_append, List.append_assoc]
  congr 1
  simp [hk]
/-! laws.toByteS -/
def toB_sp : Sp := fun _ args h => match args with
  | [s] => (rdU h s).bind fun l => if l.length ≤ 140737488355328 then some (slc h.length 0 l.length, h ++ [.cells 5 (u8s l)]) else none
  | _ => none
theorem toB_ok : Ok Try.prog 16 toB_sp := by
  refine ok_quiet (OkΓ.nil _) Try.func16 (by kernel_rfl) k16 ?_ ?_
  · intro lo args h r h' hs
    unfold toB_sp at hs; split at hs
    · obtain ⟨l, _, hs⟩ := Option.bind_eq_some_iff.1 hs
      split at hs <;> cases hs; exact Fr.push (Nat.le_refl _) _
    · cases hs
  · intro lo args h r h' hs
    unfold toB_sp at hs; split at hs
    · rename_i s
      obtain ⟨l, hl, hs⟩ := Option.bind_eq_some_iff.1 hs
      split at hs <;> cases hs
      rename_i hcond
      obtain ⟨a, c, rfl, hb, hc⟩ := rdU_spec hl
      clear hs hl
      have q0 : (0 ≤ (l.length : Int) ∧ (l.length : Int) ≤ l.length ∧ ((1 : Nat) : Int) * l.length ≤ 281474976710656 ∧ (l.length : Int) ≤ maxLen) = True := eq_true ⟨by omega, by omega, by omega, by simp only [maxLen]; omega⟩
      (dsimp only [c16]; simp (maxSteps := 1000000) (implicitDefEqProofs := false) only [go_sem, Bool.false_eq_true, slc, aop, abin, aun, intB, ↓reduceIte, Nat.reduceEqDiff, Nat.reduceSub, ne_eq, not_false_eq_true, Option.map, Option.bind, q0])
      rw [Int.toNat_natCast]
      refine awp_loop (fun m s => ∃ (k : Nat) (σ : Nat → Value), s = ⟨σ, h ++ [.cells 5 (u8s (l.take k ++ List.replicate (l.length - k) 0))]⟩ ∧ m = l.length - k ∧ k ≤ l.length ∧ σ 0 = .slice a l.length c ∧
        σ 3 = slc h.length 0 l.length ∧ σ 4 = .int .i64 k) l.length ⟨0, _, by simp only [zeros_u8]; simp; rfl, by simp, by simp, by simp (maxSteps := 1000000) (implicitDefEqProofs := false) only [go_sem, Bool.false_eq_true, slc, aop, abin, aun, intB, ↓reduceIte, Nat.reduceEqDiff, Nat.reduceSub, ne_eq, not_false_eq_true, Option.map, Option.bind], by simp (maxSteps := 1000000) (implicitDefEqProofs := false) only [go_sem, Bool.false_eq_true, slc, aop, abin, aun, intB, ↓reduceIte, Nat.reduceEqDiff, Nat.reduceSub, ne_eq, not_false_eq_true, Option.map, Option.bind], by simp (maxSteps := 1000000) (implicitDefEqProofs := false) only [go_sem, Bool.false_eq_true, slc, aop, abin, aun, intB, ↓reduceIte, Nat.reduceEqDiff, Nat.reduceSub, ne_eq, not_false_eq_true, Option.map, Option.bind]; rfl⟩ ?_
      intro m s ⟨k, σ, hs, hm, hk, e0, e3, e4⟩
      subst hs
      simp (maxSteps := 1000000) (implicitDefEqProofs := false) only [go_sem, Bool.false_eq_true, slc, aop, abin, aun, intB, ↓reduceIte, Nat.reduceEqDiff, Nat.reduceSub, ne_eq, not_false_eq_true, Option.map, Option.bind, e0, e3, e4, slc]
      refine condK_dec (fun hlt => ?_) (fun hge => ?_)
      · obtain ⟨b, o, e, bs, rfl, hbk, hcell⟩ := hc k (by omega)
        have hbk' := get_app hbk [.cells 5 (u8s (l.take k ++ List.replicate (l.length - k) 0))]
        have q1 : (0 ≤ (k : Int) ∧ (k : Int) < l.length) = True := eq_true ⟨by omega, by omega⟩
        have q3 : o + (k : Int).toNat * 1 = o + k := by omega
        have q4 : 0 + (k : Int).toNat * 1 = k := by omega
        have q5 : (h.length ≤ h.length ∧ [Value.int .u8 (l.getD k 0)].length = 1 ∧ k + 1 ≤ (u8s (l.take k ++ List.replicate (l.length - k) 0)).length ∧ [Value.int .u8 (l.getD k 0)].all one = true) = True := eq_true ⟨Nat.le_refl _, rfl, by simp [u8s_len]; omega, rfl⟩
        have q6 := get_new h (.cells 5 (u8s (l.take k ++ List.replicate (l.length - k) 0))) []
        have q7 := w64 (n := (k : Int) + 1) (by omega)
        have q8 : (u8s (l.take k ++ List.replicate (l.length - k) 0)).set k (.int .u8 (l.getD k 0)) = u8s (l.take (k + 1) ++ List.replicate (l.length - (k + 1)) 0) := fill_step l k (by omega)
        simp (maxSteps := 1000000) (implicitDefEqProofs := false) only [go_sem, Bool.false_eq_true, slc, aop, abin, aun, intB, ↓reduceIte, Nat.reduceEqDiff, Nat.reduceSub, ne_eq, not_false_eq_true, Option.map, Option.bind, e0, e3, e4, q1, q3, q4, hbk', hcell, q6, cellsL, Value.cells, q5, setAt, q7, q8, set_new]
        exact ⟨l.length - (k + 1), by omega, k + 1, _, rfl, rfl, by omega, by simp (maxSteps := 1000000) (implicitDefEqProofs := false) only [go_sem, Bool.false_eq_true, slc, aop, abin, aun, intB, ↓reduceIte, Nat.reduceEqDiff, Nat.reduceSub, ne_eq, not_false_eq_true, Option.map, Option.bind, e0], by simp (maxSteps := 1000000) (implicitDefEqProofs := false) only [go_sem, Bool.false_eq_true, slc, aop, abin, aun, intB, ↓reduceIte, Nat.reduceEqDiff, Nat.reduceSub, ne_eq, not_false_eq_true, Option.map, Option.bind, e3, slc], by simp (maxSteps := 1000000) (implicitDefEqProofs := false) only [go_sem, Bool.false_eq_true, slc, aop, abin, aun, intB, ↓reduceIte, Nat.reduceEqDiff, Nat.reduceSub, ne_eq, not_false_eq_true, Option.map, Option.bind]; rfl⟩
      · have hkl : k = l.length := by omega
        subst hkl
        try simp (maxSteps := 1000000) (implicitDefEqProofs := false) only [go_sem, Bool.false_eq_true, slc, aop, abin, aun, intB, ↓reduceIte, Nat.reduceEqDiff, Nat.reduceSub, ne_eq, not_false_eq_true, Option.map, Option.bind, e3]
        exact ⟨by simp, done_as (by simp [rres, rresL, rres1, put_at, e3]) (by simp)⟩
    · cases hs
end Go.Proofs.Ytpndkgpkakhbmaa
