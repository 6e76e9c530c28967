import Derived.Test.YtbddhlhpakbcdaaM4
set_option linter.unusedSimpArgs false
set_option linter.unusedVariables false
set_option maxRecDepth 100000
set_option maxHeartbeats 4000000
namespace Go.Proofs.Ytbddhlhpakbcdaa
open Go Go.AH
attribute [local irreducible] awpT ropsT qopsT stepT condKT gdKT EndT joinK loopKT seqKT blkKT kont kontR ropsTF frKT
/-! The fault of a talk -/

theorem is_takeA {l : List Int} {n : Nat} (h : l.length ≤ n) : l.take n = l := List.take_of_length_le h
theorem rho_3 (a b c d m : Nat) (ks : List Nat) : rho (a :: b :: c :: d :: ks) m 3 = d := rfl
theorem rho_4 (a b c d e m : Nat) (ks : List Nat) : rho (a :: b :: c :: d :: e :: ks) m 4 = e := rfl
theorem rho_5 (a b c d e f m : Nat) (ks : List Nat) : rho (a :: b :: c :: d :: e :: f :: ks) m 5 = f := rfl
theorem rho_6 (a b c d e f g m : Nat) (ks : List Nat) : rho (a :: b :: c :: d :: e :: f :: g :: ks) m 6 = g := rfl
theorem nat3T : ((3 : Nat) : Int) = 3 := rfl
attribute [go_sem] nat3T is_takeA is_len is_sized rho_3 rho_4 rho_5 rho_6
noncomputable def plac_S := spE (α := FeT) (fun x => True) (fun x => (.agg [.os 0 0 3, .os 1 0 7, .os 2 0 2], [.cells 2 1 (isT (one3 x.x)), .cells 2 1 (isT (two7 x.x)), .cells 2 1 (isT (thr2 x.x))]))
theorem plac_at (x1 x2 x3 x4 x5 x6 x7 x8 x9 x10 x11 x12 x13 x14 x15 x16 x17 x18 x19 x20 : Int) : plac_S [.fe (.agg [.p (.int .i64 x1), .p (.int .i64 x2), .p (.int .i64 x3), .p (.int .i64 x4), .p (.int .i64 x5), .p (.int .i64 x6), .p (.int .i64 x7), .p (.int .i64 x8), .p (.int .i64 x9), .p (.int .i64 x10), .p (.int .i64 x11), .p (.int .i64 x12), .p (.int .i64 x13), .p (.int .i64 x14), .p (.int .i64 x15), .p (.int .i64 x16), .p (.int .i64 x17), .p (.int .i64 x18), .p (.int .i64 x19), .p (.int .i64 x20)]) 0] = some ((.agg [.os 0 0 3, .os 1 0 7, .os 2 0 2], [.cells 2 1 (isT (one3 (⟨x1, x2, x3, x4, x5, x6, x7, x8, x9, x10, x11, x12, x13, x14, x15, x16, x17, x18, x19, x20⟩ : TkR))), .cells 2 1 (isT (two7 (⟨x1, x2, x3, x4, x5, x6, x7, x8, x9, x10, x11, x12, x13, x14, x15, x16, x17, x18, x19, x20⟩ : TkR))), .cells 2 1 (isT (thr2 (⟨x1, x2, x3, x4, x5, x6, x7, x8, x9, x10, x11, x12, x13, x14, x15, x16, x17, x18, x19, x20⟩ : TkR)))])) := spE_at (α := FeT) (⟨⟨x1, x2, x3, x4, x5, x6, x7, x8, x9, x10, x11, x12, x13, x14, x15, x16, x17, x18, x19, x20⟩⟩ : FeT) trivial
attribute [go_sem] plac_at
-- (*impl.Talk).places
def c133 : AF := ⟨52,
 (.seq (.reg [rO 2 (.alloc 181 [(.slice none 0 0), (.slice none 0 0), (.slice none 0 0)])])
 (.seq (.reg [rO 4 (.mv (.t 0)),
 rO 5 (.nilc (.t 4)),
 rO 6 (.fa (.t 5) 11),
 rO 7 (.ldn 4 (.t 6)),
 rO 3 (.alloc 34 [(.int .i64 0), (.int .i64 0), (.int .i64 0), (.int .i64 0)]),
 ⟨none, none, .st 4 (.t 3) (.t 7)⟩])
 (.seq (.drw [rO 8 (.mv (.t 0)),
 rO 9 (.nilc (.t 8)),
 rO 10 (.fa (.t 9) 5),
 rO 11 (.ld (.t 10)),
 rO 12 (.mv (.t 0)),
 rO 13 (.nilc (.t 12)),
 rO 14 (.fa (.t 13) 7),
 rO 15 (.ld (.t 14)),
 rO 16 (.mv (.t 0)),
 rO 17 (.nilc (.t 16)),
 rO 18 (.fa (.t 17) 9),
 rO 19 (.ld (.t 18)),
 rO 20 (.mkS 2 3 [(.int .i64 0), (.int .i64 0), (.int .i64 0)] [(0, 1, (.t 11)), (1, 1, (.t 15)), (2, 1, (.t 19))]),
 rO 21 (.mv (.t 0)),
 rO 22 (.nilc (.t 21)),
 rO 23 (.fa (.t 22) 6),
 rO 24 (.ld (.t 23)),
 rO 25 (.mv (.t 0)),
 rO 26 (.nilc (.t 25)),
 rO 27 (.fa (.t 26) 8),
 rO 28 (.ld (.t 27)),
 rO 29 (.mv (.t 0)),
 rO 30 (.nilc (.t 29)),
 rO 31 (.fa (.t 30) 10),
 rO 32 (.ld (.t 31)),
 rO 33 (.fa (.t 3) 0),
 rO 34 (.ld (.t 33)),
 rO 35 (.fa (.t 3) 1),
 rO 36 (.ld (.t 35)),
 rO 37 (.fa (.t 3) 2),
 rO 38 (.ld (.t 37)),
 rO 39 (.fa (.t 3) 3),
 rO 40 (.ld (.t 39)),
 rO 41 (.mkS 2 7 [(.int .i64 0), (.int .i64 0), (.int .i64 0), (.int .i64 0), (.int .i64 0), (.int .i64 0), (.int .i64 0)] [(0, 1, (.t 24)), (1, 1, (.t 28)), (2, 1, (.t 32)), (3, 1, (.t 34)), (4, 1, (.t 36)), (5, 1, (.t 38)), (6, 1, (.t 40))]),
 rO 42 (.mv (.t 0)),
 rO 43 (.nilc (.t 42)),
 rO 44 (.fa (.t 43) 15),
 rO 45 (.ld (.t 44)),
 rO 46 (.mv (.t 0)),
 rO 47 (.nilc (.t 46)),
 rO 48 (.fa (.t 47) 16),
 rO 49 (.ld (.t 48)),
 rO 50 (.mkS 2 2 [(.int .i64 0), (.int .i64 0)] [(0, 1, (.t 45)), (1, 1, (.t 49))])] [rO 51 (.build [(.slice none 0 0), (.slice none 0 0), (.slice none 0 0)] [(0, 1, (.t 20)), (1, 1, (.t 41)), (2, 1, (.t 50))]),
 ⟨none, none, .st 3 (.t 2) (.t 51)⟩])
 .ret))),
 [.cell 2 (some 3)]⟩
theorem k133 : cFn Try.prog Try.f133 = some c133 := by kernel_rfl
theorem plac_ok : OkT Try.prog 133 (pureSp plac_S) := by
  refine okT_fA n0 Try.func133 k133 ?_ (hown := fun _ _ => ⟨rfl, by simp only [List.all_cons, List.all_nil, ownB, is_own, Bool.and_true]⟩)
  rintro ⟨x⟩ _
  dsimp only [EncL.e, Enc.e, tkT, c133, rO] at *
  simp only [one3, two7, thr2, isT, List.map_cons, List.map_nil, iT]
  refine tS ?_
  exact eO [2, 3, 4]

def capK (x : Bool × List TmR) : List TV := [.fe (.p (.bool x.1)) 0, .fe (.s (rowsT tmT x.2)) 0]
theorem capK_inj (x y : Bool × List TmR) (h : capK x = capK y) : x = y := by
  obtain ⟨a, b⟩ := x; obtain ⟨c, d⟩ := y; simp [capK] at h; rw [h.1, tms_inj1 h.2]
theorem capK_frz (h : THeap) (n : Nat) (x : Bool × List TmR) : (capK x).map (frzT h n) = capK x := by simp only [capK, List.map_cons, List.map_nil, frz_fe]
def q3 (x : Bool × List TmR) (_ : Int) : Prop := x.2.length ≤ 1048576
def p3 (x : Bool × List TmR) (v : Int) : Bool := !plk x.2.length x.1 v
-- impl.TalkFault$1
def c135 : AF := ⟨20,
 (.seq (.reg [rO 4 (.mv (.v (.bool false)))])
 (.seq (.reg [rO 5 (.ld (.t 1)),
 rO 6 (.mv (.t 5)),
 ⟨(some 7), (some (6, true)), .ld (.t 2)⟩,
 ⟨(some 8), (some (6, true)), .mv (.t 0)⟩,
 ⟨(some 9), (some (6, true)), .call 49 [(.t 7), (.t 8)]⟩,
 ⟨(some 10), (some (6, true)), .un .not (.t 9)⟩,
 rO 11 (.pick (.t 6) (.t 10) (.v (.bool false))),
 rO 12 (.mv (.t 11)),
 ⟨(some 13), (some (12, false)), .ld (.t 1)⟩,
 ⟨(some 14), (some (12, false)), .un .not (.t 13)⟩,
 ⟨(some 15), (some (12, false)), .mv (.t 14)⟩,
 ⟨(some 16), (some (15, true)), .mv (.t 0)⟩,
 ⟨(some 17), (some (15, true)), .bin .neq (.t 16) (.v (.int .i64 (-1)))⟩,
 ⟨(some 18), (some (12, false)), .pick (.t 15) (.t 17) (.v (.bool false))⟩,
 rO 19 (.pick (.t 12) (.v (.bool true)) (.t 18)),
 rO 4 (.mv (.t 19))])
 .ret)),
 [.t 4]⟩
theorem k135 : cFn Try.prog Try.f135 = some c135 := by kernel_rfl
theorem f3_ok : OkT Try.prog 135 (pureSp (askI_S capK q3 p3)) := by
  refine okT_fn (cs plcI_ok n0) Try.func135 (by kernel_rfl) k135 (fun x _ => ⟨rfl, rfl⟩) ?_
  rintro ⟨a, b, l⟩ h
  dsimp only [q3, p3, plk, capK, c135, rO] at *
  cases b
  · try refine tS ?_
    repeat' first | exact eV | exact eP | ((first | apply cD | apply cB | apply gD | apply gB) <;> intro _ <;> try refine tS ?_)
  · try refine tS ?_
    repeat' first | exact eV | exact eP | ((first | apply cD | apply cB | apply gD | apply gB) <;> intro _ <;> try refine tS ?_)
theorem cf3_ok : OkT Try.prog 134 (pureSp (cfI_S 135 capK q3 p3)) := cfI_ok capK_inj capK_frz (findI_ok capK_inj capK_frz f3_ok)
theorem cf3_at (c : List Int) (b : Bool) (l : List TmR) (h : c.length ≤ 1048576 ∧ l.length ≤ 1048576) : cfI_S 135 capK q3 p3 [.s (isT c), .fn 135 [.fe (.p (.bool b)) 0, .fe (.s (rowsT tmT l)) 0]] = some (.p (.bool (c.any (p3 (b, l)))), []) := cfI_at capK_inj c (b, l) ⟨h.1, fun _ _ => h.2⟩
theorem placF_eq (l : List TmR) (x : TkR) : placF l.length x = (!(one3 x).any (p3 (true, l)) && !(two7 x).any (p3 (decide (x.stage > 1), l)) && !(thr2 x).any (p3 (decide (x.stage > 2), l))) := by
  simp only [placF, p3, List.all_eq_not_any_not]; rfl
theorem placF_own {n : Nat} {x : TkR} (h : placF n x = true) : 0 ≤ x.own ∧ x.own ≤ (n : Int) - 1 := by
  simp only [placF, one3, two7, thr2, List.all_cons, Bool.and_eq_true, plk, if_true] at h
  have := h.1.1.2.1; unfold plc at this; simpa using this
theorem placF_half {n : Nat} {x : TkR} (h : placF n x = true) (hs : x.stage > 1) : 0 ≤ x.half ∧ x.half ≤ (n : Int) - 1 := by
  simp only [placF, one3, two7, thr2, List.all_cons, Bool.and_eq_true, plk, decide_eq_true hs, if_true] at h
  have := h.1.2.2.1; unfold plc at this; simpa using this
theorem opAt_s {l : List TmR} {a : Int} {x : TmR} (h : l[a.toNat]? = some x) : opAt l a = x.o := opAt_some h
attribute [go_sem] cf3_at
noncomputable def talkI_S := spE (α := List TmR × TkR) (fun x => x.1.length ≤ 1048576) (fun x => (.p (.int .i64 (talkF x.1 x.2)), []))
theorem talkI_at (l : List TmR) (x1 x2 x3 x4 x5 x6 x7 x8 x9 x10 x11 x12 x13 x14 x15 x16 x17 x18 x19 x20 : Int) (h : l.length ≤ 1048576) : talkI_S [.s (rowsT tmT l), .agg [.p (.int .i64 x1), .p (.int .i64 x2), .p (.int .i64 x3), .p (.int .i64 x4), .p (.int .i64 x5), .p (.int .i64 x6), .p (.int .i64 x7), .p (.int .i64 x8), .p (.int .i64 x9), .p (.int .i64 x10), .p (.int .i64 x11), .p (.int .i64 x12), .p (.int .i64 x13), .p (.int .i64 x14), .p (.int .i64 x15), .p (.int .i64 x16), .p (.int .i64 x17), .p (.int .i64 x18), .p (.int .i64 x19), .p (.int .i64 x20)]] = some ((.p (.int .i64 (talkF l (⟨x1, x2, x3, x4, x5, x6, x7, x8, x9, x10, x11, x12, x13, x14, x15, x16, x17, x18, x19, x20⟩ : TkR))), [])) := spE_at (α := List TmR × TkR) (l, (⟨x1, x2, x3, x4, x5, x6, x7, x8, x9, x10, x11, x12, x13, x14, x15, x16, x17, x18, x19, x20⟩ : TkR)) h
attribute [go_sem] talkI_at
-- impl.TalkFault
def c79 : AF := ⟨85,
 (.seq (.reg [rO 2 (.box 27 (.t 0)),
 rO 3 (.box 38 (.t 1)),
 rO 4 (.mv (.v (.int .i64 0)))])
 (.seq (.seq (.reg [rO 9 (.fa (.t 3) 0),
 rO 10 (.ld (.t 9)),
 rO 11 (.call 48 [(.t 10), (.v (.int .i64 0)), (.v (.int .i64 9))]),
 rO 12 (.un .not (.t 11)),
 rO 13 (.mv (.t 12)),
 ⟨(some 14), (some (13, false)), .fa (.t 3) 1⟩,
 ⟨(some 15), (some (13, false)), .ld (.t 14)⟩,
 ⟨(some 16), (some (13, false)), .call 48 [(.t 15), (.v (.int .i64 1)), (.v (.int .i64 2))]⟩,
 ⟨(some 17), (some (13, false)), .un .not (.t 16)⟩,
 rO 18 (.pick (.t 13) (.v (.bool true)) (.t 17)),
 rO 19 (.mv (.t 18)),
 ⟨(some 20), (some (19, false)), .fa (.t 3) 2⟩,
 ⟨(some 21), (some (19, false)), .ld (.t 20)⟩,
 ⟨(some 22), (some (19, false)), .call 48 [(.t 21), (.v (.int .i64 1)), (.v (.int .i64 3))]⟩,
 ⟨(some 23), (some (19, false)), .un .not (.t 22)⟩,
 rO 24 (.pick (.t 19) (.v (.bool true)) (.t 23)),
 rO 25 (.mv (.t 24)),
 ⟨(some 26), (some (25, false)), .fa (.t 3) 3⟩,
 ⟨(some 27), (some (25, false)), .ld (.t 26)⟩,
 ⟨(some 28), (some (25, false)), .call 130 [(.t 27)]⟩,
 ⟨(some 29), (some (25, false)), .un .not (.t 28)⟩,
 rO 30 (.pick (.t 25) (.v (.bool true)) (.t 29)),
 rO 31 (.mv (.t 30)),
 ⟨(some 32), (some (31, false)), .fa (.t 3) 4⟩,
 ⟨(some 33), (some (31, false)), .ld (.t 32)⟩,
 ⟨(some 34), (some (31, false)), .call 130 [(.t 33)]⟩,
 ⟨(some 35), (some (31, false)), .un .not (.t 34)⟩,
 rO 36 (.pick (.t 31) (.v (.bool true)) (.t 35)),
 rO 37 (.mv (.t 36)),
 ⟨(some 38), (some (37, false)), .fa (.t 3) 17⟩,
 ⟨(some 39), (some (37, false)), .ld (.t 38)⟩,
 ⟨(some 40), (some (37, false)), .call 48 [(.t 39), (.v (.int .i64 0)), (.v (.int .i64 9999))]⟩,
 ⟨(some 41), (some (37, false)), .un .not (.t 40)⟩,
 rO 42 (.pick (.t 37) (.v (.bool true)) (.t 41))])
 (.cond (.t 42) (.seq (.reg [rO 4 (.mv (.v (.int .i64 3)))])
 .ret)
 .skip))
 (.seq (.seq (.reg [rO 43 (.fa (.t 3) 18),
 rO 44 (.ldn 2 (.t 43)),
 rO 45 (.call 131 [(.t 44)]),
 rO 5 (.mv (.t 45))])
 (.seq (.reg [rO 46 (.mv (.t 5)),
 rO 47 (.bin .neq (.t 46) (.v (.int .i64 0)))])
 (.cond (.t 47) (.seq (.reg [rO 48 (.mv (.t 5)),
 rO 4 (.mv (.t 48))])
 .ret)
 .skip)))
 (.seq (.seq (.reg [rO 49 (.call 132 [(.t 3)]),
 rO 50 (.un .not (.t 49))])
 (.cond (.t 50) (.seq (.reg [rO 4 (.mv (.v (.int .i64 1)))])
 .ret)
 .skip))
 (.seq (.seq (.reg [rO 51 (.call 133 [(.t 3)]),
 rO 52 (.mv (.v (.int .i64 0)))])
 (.block 0 (.loop (.seq (.reg [rO 53 (.bin .lss (.t 52) (.v (.int .i64 3)))])
 (.seq (.cond (.t 53) .skip
 (.exit 0))
 (.seq (.block 1 (.seq (.reg [rO 54 (.mv (.t 52)),
 rO 55 (.ixA 3 (.t 51) (.t 52)),
 rO 6 (.mv (.t 54)),
 rO 7 (.mv (.t 55))])
 (.seq (.reg [rO 56 (.fa (.t 3) 2),
 rO 57 (.ld (.t 56)),
 rO 58 (.mv (.t 6)),
 rO 59 (.bin .gtr (.t 57) (.t 58)),
 rO 8 (.alloc 4 [(.bool false)]),
 ⟨none, none, .st 1 (.t 8) (.t 59)⟩])
 (.seq (.reg [rO 60 (.mv (.t 7)),
 rO 61 (.fn 135 [(.t 8), (.t 2)]),
 rO 62 (.call 134 [(.t 60), (.t 61)])])
 (.cond (.t 62) (.seq (.reg [rO 4 (.mv (.v (.int .i64 3)))])
 .ret)
 .skip)))))
 (.reg [rO 63 (.bin .add (.t 52) (.v (.int .i64 1))),
 rO 52 (.mv (.t 63))])))))))
 (.seq (.seq (.reg [rO 64 (.ld (.t 2)),
 rO 65 (.fa (.t 3) 7),
 rO 66 (.ld (.t 65)),
 rO 67 (.ia 4 (.t 64) (.t 66)),
 rO 68 (.fa (.t 67) 0),
 rO 69 (.ld (.t 68)),
 rO 70 (.bin .neq (.t 69) (.v (.int .i64 2))),
 rO 71 (.mv (.t 70)),
 ⟨(some 72), (some (71, false)), .fa (.t 3) 2⟩,
 ⟨(some 73), (some (71, false)), .ld (.t 72)⟩,
 ⟨(some 74), (some (71, false)), .bin .geq (.t 73) (.v (.int .i64 2))⟩,
 ⟨(some 75), (some (71, false)), .mv (.t 74)⟩,
 ⟨(some 76), (some (75, true)), .ld (.t 2)⟩,
 ⟨(some 77), (some (75, true)), .fa (.t 3) 8⟩,
 ⟨(some 78), (some (75, true)), .ld (.t 77)⟩,
 ⟨(some 79), (some (75, true)), .ia 4 (.t 76) (.t 78)⟩,
 ⟨(some 80), (some (75, true)), .fa (.t 79) 0⟩,
 ⟨(some 81), (some (75, true)), .ld (.t 80)⟩,
 ⟨(some 82), (some (75, true)), .bin .neq (.t 81) (.v (.int .i64 6))⟩,
 ⟨(some 83), (some (71, false)), .pick (.t 75) (.t 82) (.v (.bool false))⟩,
 rO 84 (.pick (.t 71) (.v (.bool true)) (.t 83))])
 (.cond (.t 84) (.seq (.reg [rO 4 (.mv (.v (.int .i64 1)))])
 .ret)
 .skip))
 (.seq (.reg [rO 4 (.mv (.v (.int .i64 0)))])
 .ret))))))),
 [.t 4]⟩
theorem k79 : cFn Try.prog Try.f79 = some c79 := by kernel_rfl
theorem talkI_ok : OkT Try.prog 79 (pureSp talkI_S) := by
  refine okT_fA (cs in_ok (cs namI_ok (cs winFI_ok (cs shpI_ok (cs plac_ok (cs cf3_ok (cs f3_ok n0))))))) Try.func79 k79 ?_
  rintro ⟨l, x⟩ h
  dsimp only [EncL.e, Enc.e, tkT, c79, rO] at *
  unfold talkF
  by_cases hr : rngF x
  case neg =>
    rw [if_neg hr]; unfold rngF at hr
    try refine tS ?_
    repeat' first | exact eV | exact eP | (exfalso; omega) | ((first | apply cD | apply cB | apply gD | apply gB) <;> intro _ <;> try refine tS ?_)
  rw [if_pos hr]
  obtain ⟨r1, r2, r3, r4, r5, r6⟩ := hr
  by_cases hw : winF x.top x.bits = 0
  case neg =>
    rw [if_neg hw]
    try refine tS ?_
    repeat' first | exact eV | exact eP | (exfalso; omega) | ((first | apply cD | apply cB | apply gD | apply gB) <;> intro _ <;> try refine tS ?_)
  rw [if_pos hw]
  by_cases hs : shapeF x
  case neg =>
    rw [if_neg hs]
    try refine tS ?_
    repeat' first | exact eV | exact eP | (exfalso; omega) | ((first | apply cD | apply cB | apply gD | apply gB) <;> intro _ <;> try refine tS ?_)
  rw [if_pos hs]

  have l1 : (one3 x).length = 3 := rfl
  have l2 : (two7 x).length = 7 := rfl
  have l3 : (thr2 x).length = 2 := rfl
  have e0 : decide (x.stage > 0) = true := decide_eq_true (by omega)
  have hpe := placF_eq l x
  generalize hp : placF l.length x = pb at *
  refine tS ?_
  clear hs hw
  refine awpT_loop (α := Nat) (fun i => ⟨slots [(2, .op 0 0 0), (3, .op 1 0 0), (51, .agg [.os 2 0 3, .os 3 0 7, .os 4 0 2]), (52, .p (.int .i64 i))], [.cells 27 1 [.s (rowsT tmT l)], .cells 38 20 [tkT x], .cells 2 1 (isT (one3 x)), .cells 2 1 (isT (two7 x)), .cells 2 1 (isT (thr2 x))]⟩) (fun i => i ≤ 3 ∧ (0 < i → (one3 x).any (p3 (true, l)) = false) ∧ (1 < i → (two7 x).any (p3 (decide (x.stage > 1), l)) = false) ∧ (2 < i → (thr2 x).any (p3 (decide (x.stage > 2), l)) = false)) (fun i => 3 - i) 0 ⟨by omega, fun h => absurd h (by omega), fun h => absurd h (by omega), fun h => absurd h (by omega)⟩ (leA [0, 1, 2, 3, 4]) ?_
  intro i ⟨hi, a0, a1, a2⟩
  refine tS ?_
  refine cD (fun hlt => ?_) (fun hge => ?_)
  · have hc : i = 0 ∨ i = 1 ∨ i = 2 := by omega
    rcases hc with rfl | rfl | rfl
    · cases b0 : (one3 x).any (p3 (true, l))
      · clear a0 a1 a2
        refine tS ?_
        exact lN 1 (leA [0, 1, 2, 3, 4]) ⟨by omega, fun _ => rfl, fun h => absurd h (by omega), fun h => absurd h (by omega)⟩
      · rw [hpe, b0]
        clear a0 a1 a2 hpe
        try refine tS ?_
        repeat' first | exact eV | exact eP | ((first | apply cD | apply cB | apply gD | apply gB) <;> intro _ <;> try refine tS ?_)
    · have a0 := a0 (by omega)
      cases b0 : (two7 x).any (p3 (decide (x.stage > 1), l))
      · clear a1 a2
        refine tS ?_
        exact lN 2 (leA [0, 1, 2, 3, 4]) ⟨by omega, fun _ => a0, fun _ => rfl, fun h => absurd h (by omega)⟩
      · rw [hpe, a0, b0]
        clear a1 a2 hpe
        try refine tS ?_
        repeat' first | exact eV | exact eP | ((first | apply cD | apply cB | apply gD | apply gB) <;> intro _ <;> try refine tS ?_)
    · have a0 := a0 (by omega)
      have a1 := a1 (by omega)
      cases b0 : (thr2 x).any (p3 (decide (x.stage > 2), l))
      · clear a2
        refine tS ?_
        exact lN 3 (leA [0, 1, 2, 3, 4]) ⟨by omega, fun _ => a0, fun _ => a1, fun _ => rfl⟩
      · rw [hpe, a0, a1, b0]
        clear a2 hpe
        try refine tS ?_
        repeat' first | exact eV | exact eP | ((first | apply cD | apply cB | apply gD | apply gB) <;> intro _ <;> try refine tS ?_)
  · have hi3 : i = 3 := by omega
    subst hi3
    rw [a0 (by omega), a1 (by omega), a2 (by omega)] at hpe
    simp only [Bool.not_false, Bool.and_self] at hpe
    subst hpe
    clear a0 a1 a2
    rw [if_pos rfl]
    refine tS ?_
    refine joinK_here ?_

    have h1 := placF_own hp
    obtain ⟨y, hy⟩ := plc_get h1
    rw [opAt_s hy]
    by_cases hs : x.stage > 1
    · obtain ⟨z, hz⟩ := plc_get (placF_half hp hs)
      have h2 := placF_half hp hs
      rw [opAt_s hz]
      clear hp
      by_cases ho : y.o = 2 ∧ (x.stage > 1 → z.o = 6)
      · rw [if_pos ho]
        obtain ⟨ho, ho2⟩ := ho
        have ho2 := ho2 hs
        try refine tS ?_
        repeat' first | exact eV | exact eP | (exfalso; omega) | ((first | apply cD | apply cB | apply gD | apply gB) <;> intro _ <;> try refine tS ?_)
      · rw [if_neg ho]
        have ho' : ¬ (y.o = 2 ∧ z.o = 6) := fun h => ho ⟨h.1, fun _ => h.2⟩
        clear ho
        try refine tS ?_
        repeat' first | exact eV | exact eP | (exfalso; omega) | ((first | apply cD | apply cB | apply gD | apply gB) <;> intro _ <;> try refine tS ?_)
    · clear hp
      by_cases ho : y.o = 2
      · rw [if_pos ⟨ho, fun h => absurd h hs⟩]
        try refine tS ?_
        repeat' first | exact eV | exact eP | (exfalso; omega) | ((first | apply cD | apply cB | apply gD | apply gB) <;> intro _ <;> try refine tS ?_)
      · rw [if_neg (fun h => ho h.1)]
        try refine tS ?_
        repeat' first | exact eV | exact eP | (exfalso; omega) | ((first | apply cD | apply cB | apply gD | apply gB) <;> intro _ <;> try refine tS ?_)

/-- A list of places that must be known. -/
theorem plk_all (l : List TmR) (x : TkR) (h : 1 ≤ x.stage ∧ x.stage ≤ 3) : placF l.length x = ((mustF x).1.all (plc l.length) && (mustF x).2.all (fun v => decide (v = -1))) := by
  have hf : plk l.length false = fun v => decide (v = -1) := rfl
  have ht : plk l.length true = plc l.length := rfl
  have hc : x.stage = 1 ∨ x.stage = 2 ∨ x.stage = 3 := by omega
  rcases hc with h1 | h1 | h1
  · rw [mustF1 h1]; simp only [placF, h1]; simp [hf, ht, Bool.and_assoc]
  · rw [mustF2 h1]; simp only [placF, h1]; simp [hf, ht, Bool.and_assoc]
  · rw [mustF3 (by omega) (by omega)]; simp only [placF, h1]; simp [hf, ht, Bool.and_assoc]
theorem mustF_len (x : TkR) : (mustF x).1.length ≤ 12 ∧ (mustF x).2.length ≤ 12 := by
  unfold mustF; split
  · exact ⟨by simp [one3], by simp [two7, thr2]⟩
  · split
    · exact ⟨by simp [one3, two7], by simp [thr2]⟩
    · exact ⟨by simp [one3, two7, thr2], by simp⟩
theorem all_at {l : List Int} {p : Int → Bool} {i : Nat} {x : Int} (h : l[i]? = some x) : (l.drop i).all p = (p x && (l.drop (i + 1)).all p) := by
  obtain ⟨h1, h2⟩ := List.getElem?_eq_some_iff.1 h
  rw [List.drop_eq_getElem_cons h1, h2]; rfl
theorem all_end {l : List Int} {p : Int → Bool} {i : Nat} (h : l.length ≤ i) : (l.drop i).all p = true := by rw [List.drop_eq_nil_of_le h]; rfl
-- spec.l11Talk
def c149 : AF := ⟨103,
 (.seq (.reg [rO 3 (.box 38 (.t 1)),
 rO 4 (.mv (.v (.int .i64 0)))])
 (.seq (.seq (.reg [rO 10 (.fa (.t 3) 0),
 rO 11 (.ld (.t 10)),
 rO 12 (.call 54 [(.t 11), (.v (.int .i64 0)), (.v (.int .i64 9))]),
 rO 13 (.un .not (.t 12)),
 rO 14 (.mv (.t 13)),
 ⟨(some 15), (some (14, false)), .fa (.t 3) 1⟩,
 ⟨(some 16), (some (14, false)), .ld (.t 15)⟩,
 ⟨(some 17), (some (14, false)), .call 54 [(.t 16), (.v (.int .i64 1)), (.v (.int .i64 2))]⟩,
 ⟨(some 18), (some (14, false)), .un .not (.t 17)⟩,
 rO 19 (.pick (.t 14) (.v (.bool true)) (.t 18)),
 rO 20 (.mv (.t 19)),
 ⟨(some 21), (some (20, false)), .fa (.t 3) 2⟩,
 ⟨(some 22), (some (20, false)), .ld (.t 21)⟩,
 ⟨(some 23), (some (20, false)), .call 54 [(.t 22), (.v (.int .i64 1)), (.v (.int .i64 3))]⟩,
 ⟨(some 24), (some (20, false)), .un .not (.t 23)⟩,
 rO 25 (.pick (.t 20) (.v (.bool true)) (.t 24)),
 rO 26 (.mv (.t 25)),
 ⟨(some 27), (some (26, false)), .fa (.t 3) 3⟩,
 ⟨(some 28), (some (26, false)), .ld (.t 27)⟩,
 ⟨(some 29), (some (26, false)), .call 168 [(.t 28)]⟩,
 ⟨(some 30), (some (26, false)), .un .not (.t 29)⟩,
 rO 31 (.pick (.t 26) (.v (.bool true)) (.t 30)),
 rO 32 (.mv (.t 31)),
 ⟨(some 33), (some (32, false)), .fa (.t 3) 4⟩,
 ⟨(some 34), (some (32, false)), .ld (.t 33)⟩,
 ⟨(some 35), (some (32, false)), .call 168 [(.t 34)]⟩,
 ⟨(some 36), (some (32, false)), .un .not (.t 35)⟩,
 rO 37 (.pick (.t 32) (.v (.bool true)) (.t 36)),
 rO 38 (.mv (.t 37)),
 ⟨(some 39), (some (38, false)), .fa (.t 3) 17⟩,
 ⟨(some 40), (some (38, false)), .ld (.t 39)⟩,
 ⟨(some 41), (some (38, false)), .call 168 [(.t 40)]⟩,
 ⟨(some 42), (some (38, false)), .un .not (.t 41)⟩,
 rO 43 (.pick (.t 38) (.v (.bool true)) (.t 42))])
 (.cond (.t 43) (.seq (.reg [rO 4 (.mv (.v (.int .i64 3)))])
 .ret)
 .skip))
 (.seq (.seq (.reg [rO 44 (.fa (.t 3) 18),
 rO 45 (.ldn 2 (.t 44)),
 rO 46 (.call 169 [(.t 45)]),
 rO 5 (.mv (.t 46))])
 (.seq (.reg [rO 47 (.mv (.t 5)),
 rO 48 (.bin .neq (.t 47) (.v (.int .i64 0)))])
 (.cond (.t 48) (.seq (.reg [rO 49 (.mv (.t 5)),
 rO 4 (.mv (.t 49))])
 .ret)
 .skip)))
 (.seq (.seq (.reg [rO 50 (.ldn 20 (.t 3)),
 rO 51 (.call 170 [(.t 50)]),
 rO 52 (.un .not (.t 51))])
 (.cond (.t 52) (.seq (.reg [rO 4 (.mv (.v (.int .i64 1)))])
 .ret)
 .skip))
 (.seq (.reg [rO 54 (.ldn 20 (.t 3)),
 rO 55 (.call 171 [(.t 54)]),
 rO 53 (.mv (.t 55)),
 rO 56 (.ext (.t 53) 0),
 rO 57 (.ext (.t 53) 1),
 rO 6 (.mv (.t 56)),
 rO 7 (.mv (.t 57))])
 (.seq (.seq (.reg [rO 8 (.mv (.v (.int .i64 0)))])
 (.block 0 (.loop (.seq (.seq (.reg [rO 58 (.mv (.t 8)),
 rO 59 (.mv (.t 6)),
 rO 60 (.len (.t 59)),
 rO 61 (.bin .lss (.t 58) (.t 60))])
 (.cond (.t 61) .skip
 (.exit 0)))
 (.seq (.block 1 (.seq (.reg [rO 64 (.mv (.t 0)),
 rO 65 (.mv (.t 6)),
 rO 66 (.mv (.t 8)),
 rO 67 (.ia 1 (.t 65) (.t 66)),
 rO 68 (.ld (.t 67)),
 rO 69 (.call 55 [(.t 64), (.t 68)]),
 rO 70 (.un .not (.t 69))])
 (.cond (.t 70) (.seq (.reg [rO 4 (.mv (.v (.int .i64 3)))])
 .ret)
 .skip)))
 (.reg [rO 62 (.mv (.t 8)),
 rO 63 (.bin .add (.t 62) (.v (.int .i64 1))),
 rO 8 (.mv (.t 63))]))))))
 (.seq (.seq (.reg [rO 9 (.mv (.v (.int .i64 0)))])
 (.block 2 (.loop (.seq (.seq (.reg [rO 71 (.mv (.t 9)),
 rO 72 (.mv (.t 7)),
 rO 73 (.len (.t 72)),
 rO 74 (.bin .lss (.t 71) (.t 73))])
 (.cond (.t 74) .skip
 (.exit 2)))
 (.seq (.block 3 (.seq (.reg [rO 77 (.mv (.t 7)),
 rO 78 (.mv (.t 9)),
 rO 79 (.ia 1 (.t 77) (.t 78)),
 rO 80 (.ld (.t 79)),
 rO 81 (.bin .neq (.t 80) (.v (.int .i64 (-1))))])
 (.cond (.t 81) (.seq (.reg [rO 4 (.mv (.v (.int .i64 3)))])
 .ret)
 .skip)))
 (.reg [rO 75 (.mv (.t 9)),
 rO 76 (.bin .add (.t 75) (.v (.int .i64 1))),
 rO 9 (.mv (.t 76))]))))))
 (.seq (.seq (.reg [rO 82 (.mv (.t 0)),
 rO 83 (.fa (.t 3) 7),
 rO 84 (.ld (.t 83)),
 rO 85 (.ia 4 (.t 82) (.t 84)),
 rO 86 (.fa (.t 85) 0),
 rO 87 (.ld (.t 86)),
 rO 88 (.bin .neq (.t 87) (.v (.int .i64 2))),
 rO 89 (.mv (.t 88)),
 ⟨(some 90), (some (89, false)), .fa (.t 3) 2⟩,
 ⟨(some 91), (some (89, false)), .ld (.t 90)⟩,
 ⟨(some 92), (some (89, false)), .bin .gtr (.t 91) (.v (.int .i64 1))⟩,
 ⟨(some 93), (some (89, false)), .mv (.t 92)⟩,
 ⟨(some 94), (some (93, true)), .mv (.t 0)⟩,
 ⟨(some 95), (some (93, true)), .fa (.t 3) 8⟩,
 ⟨(some 96), (some (93, true)), .ld (.t 95)⟩,
 ⟨(some 97), (some (93, true)), .ia 4 (.t 94) (.t 96)⟩,
 ⟨(some 98), (some (93, true)), .fa (.t 97) 0⟩,
 ⟨(some 99), (some (93, true)), .ld (.t 98)⟩,
 ⟨(some 100), (some (93, true)), .bin .neq (.t 99) (.v (.int .i64 6))⟩,
 ⟨(some 101), (some (89, false)), .pick (.t 93) (.t 100) (.v (.bool false))⟩,
 rO 102 (.pick (.t 89) (.v (.bool true)) (.t 101))])
 (.cond (.t 102) (.seq (.reg [rO 4 (.mv (.v (.int .i64 1)))])
 .ret)
 .skip))
 (.seq (.reg [rO 4 (.mv (.v (.int .i64 0)))])
 .ret))))))))),
 [.t 4]⟩
theorem k149 : cFn Try.prog Try.f149 = some c149 := by kernel_rfl
theorem talkS_ok : OkT Try.prog 149 (pureSp talkI_S) := by
  refine okT_fA (cs l1In_ok (cs namS_ok (cs winFS_ok (cs shpS_ok (cs must_ok (cs plcS_ok n0)))))) Try.func149 k149 ?_
  rintro ⟨l, x⟩ h
  dsimp only [EncL.e, Enc.e, tkT, c149, rO] at *
  unfold talkF
  by_cases hr : rngF x
  case neg =>
    rw [if_neg hr]; unfold rngF at hr
    try refine tS ?_
    repeat' first | exact eV | exact eP | (exfalso; omega) | ((first | apply cD | apply cB | apply gD | apply gB) <;> intro _ <;> try refine tS ?_)
  rw [if_pos hr]
  obtain ⟨r1, r2, r3, r4, r5, r6⟩ := hr
  by_cases hw : winF x.top x.bits = 0
  case neg =>
    rw [if_neg hw]
    try refine tS ?_
    repeat' first | exact eV | exact eP | (exfalso; omega) | ((first | apply cD | apply cB | apply gD | apply gB) <;> intro _ <;> try refine tS ?_)
  rw [if_pos hw]
  by_cases hs : shapeF x
  case neg =>
    rw [if_neg hs]
    try refine tS ?_
    repeat' first | exact eV | exact eP | (exfalso; omega) | ((first | apply cD | apply cB | apply gD | apply gB) <;> intro _ <;> try refine tS ?_)
  rw [if_pos hs]

  have hpe := plk_all l x r3
  have hml := mustF_len x
  have hmu := must_at x.peer x.role x.stage x.spiI x.spiR x.ni x.nr x.own x.half x.first x.second x.seed x.down x.ours x.back x.tin x.tout x.sent x.top x.bits
  generalize hp : placF l.length x = pb at *
  rw [tks_eta] at hmu
  generalize (mustF x).1 = A at *
  generalize (mustF x).2 = B at *
  refine tS ?_
  clear hs hw hmu
  refine awpT_loop (α := Nat) (fun i => ⟨slots [(0, .s (rowsT tmT l)), (3, .op 0 0 0), (6, .os 1 0 A.length), (7, .os 2 0 B.length), (8, .p (.int .i64 i))], [.cells 38 20 [tkT x], .cells 2 1 (isT A), .cells 2 1 (isT B)]⟩) (fun i => i ≤ A.length ∧ pb = ((A.drop i).all (plc l.length) && B.all (fun v => decide (v = -1)))) (fun i => A.length - i) 0 ⟨by omega, hpe⟩ (leA [0, 1, 2]) ?_
  intro i ⟨hi, hn⟩
  refine tS ?_
  refine cD (fun hlt => ?_) (fun hge => ?_)
  · obtain ⟨v, hv⟩ := get_ex (l := A) (i := i) (by omega)
    rw [all_at hv] at hn
    cases hb : plc l.length v
    · rw [hb] at hn; simp only [Bool.false_and] at hn; subst hn
      clear hpe
      try refine tS ?_
      repeat' first | exact eV | exact eP | ((first | apply cD | apply cB | apply gD | apply gB) <;> intro _ <;> try refine tS ?_)
    · rw [hb] at hn; simp only [Bool.true_and] at hn
      refine tS ?_
      exact lN (i + 1) (leA [0, 1, 2]) ⟨by omega, hn⟩
  rw [all_end (by omega), Bool.true_and] at hn
  clear hpe
  refine tS ?_
  refine joinK_here ?_
  refine tS ?_
  refine awpT_loop (α := Nat) (fun i => ⟨slots [(0, .s (rowsT tmT l)), (3, .op 0 0 0), (7, .os 2 0 B.length), (9, .p (.int .i64 i))], [.cells 38 20 [tkT x], .cells 2 1 (isT A), .cells 2 1 (isT B)]⟩) (fun i => i ≤ B.length ∧ pb = (B.drop i).all (fun v => decide (v = -1))) (fun i => B.length - i) 0 ⟨by omega, hn⟩ (leA [0, 1, 2]) ?_
  clear hn hge hi i
  intro i ⟨hi, hn⟩
  refine tS ?_
  refine cD (fun hlt => ?_) (fun hge => ?_)
  · obtain ⟨v, hv⟩ := get_ex (l := B) (i := i) (by omega)
    rw [all_at hv] at hn
    by_cases hb : v = -1
    · rw [decide_eq_true hb] at hn; simp only [Bool.true_and] at hn
      refine tS ?_
      exact lN (i + 1) (leA [0, 1, 2]) ⟨by omega, hn⟩
    · rw [decide_eq_false hb] at hn; simp only [Bool.false_and] at hn; subst hn
      try refine tS ?_
      repeat' first | exact eV | exact eP | ((first | apply cD | apply cB | apply gD | apply gB) <;> intro _ <;> try refine tS ?_)
  · rw [all_end (by omega)] at hn
    subst hn
    rw [if_pos rfl]
    refine tS ?_
    refine joinK_here ?_

    have h1 := placF_own hp
    obtain ⟨y, hy⟩ := plc_get h1
    rw [opAt_s hy]
    by_cases hs : x.stage > 1
    · obtain ⟨z, hz⟩ := plc_get (placF_half hp hs)
      have h2 := placF_half hp hs
      rw [opAt_s hz]
      clear hp
      by_cases ho : y.o = 2 ∧ (x.stage > 1 → z.o = 6)
      · rw [if_pos ho]
        obtain ⟨ho, ho2⟩ := ho
        have ho2 := ho2 hs
        try refine tS ?_
        repeat' first | exact eV | exact eP | (exfalso; omega) | ((first | apply cD | apply cB | apply gD | apply gB) <;> intro _ <;> try refine tS ?_)
      · rw [if_neg ho]
        have ho' : ¬ (y.o = 2 ∧ z.o = 6) := fun h => ho ⟨h.1, fun _ => h.2⟩
        clear ho
        try refine tS ?_
        repeat' first | exact eV | exact eP | (exfalso; omega) | ((first | apply cD | apply cB | apply gD | apply gB) <;> intro _ <;> try refine tS ?_)
    · clear hp
      by_cases ho : y.o = 2
      · rw [if_pos ⟨ho, fun h => absurd h hs⟩]
        try refine tS ?_
        repeat' first | exact eV | exact eP | (exfalso; omega) | ((first | apply cD | apply cB | apply gD | apply gB) <;> intro _ <;> try refine tS ?_)
      · rw [if_neg (fun h => ho h.1)]
        try refine tS ?_
        repeat' first | exact eV | exact eP | (exfalso; omega) | ((first | apply cD | apply cB | apply gD | apply gB) <;> intro _ <;> try refine tS ?_)
end Go.Proofs.Ytbddhlhpakbcdaa
