import Derived.Test.YtbddhlhpakbcdaaM2
set_option linter.unusedSimpArgs false
set_option linter.unusedVariables false
set_option maxRecDepth 100000
set_option maxHeartbeats 4000000
namespace Go.Proofs.Ytbddhlhpakbcdaa
open Go Go.AH
attribute [local irreducible] awpT ropsT qopsT stepT condKT gdKT EndT joinK loopKT seqKT blkKT kont kontR ropsTF frKT
/-! Talks -/
structure TkR where
  (peer role stage spiI spiR ni nr own half first second seed down ours back tin tout sent top bits : Int)
def tkT (x : TkR) : TV := .agg [.p (.int .i64 x.peer), .p (.int .i64 x.role), .p (.int .i64 x.stage), .p (.int .i64 x.spiI), .p (.int .i64 x.spiR), .p (.int .i64 x.ni), .p (.int .i64 x.nr), .p (.int .i64 x.own), .p (.int .i64 x.half), .p (.int .i64 x.first), .p (.int .i64 x.second), .p (.int .i64 x.seed), .p (.int .i64 x.down), .p (.int .i64 x.ours), .p (.int .i64 x.back), .p (.int .i64 x.tin), .p (.int .i64 x.tout), .p (.int .i64 x.sent), .p (.int .i64 x.top), .p (.int .i64 x.bits)]
theorem tkT_inj (x y : TkR) (h : tkT x = tkT y) : x = y := by cases x; cases y; simp [tkT] at h; simp [h]
theorem tkT_flat : Flat tkT 20 := ⟨fun _ => rfl, fun h n x => by simp only [tkT, frz_agg, frz_p, List.map_cons, List.map_nil], fun _ _ => rfl⟩
theorem tks_sized (l : List TkR) : sizedT 20 (rowsT tkT l) = true := rowsT_sized tkT_flat l
theorem tks_frz (h : THeap) (n : Nat) (l : List TkR) : (rowsT tkT l).map (frzT h n) = rowsT tkT l := rowsT_frz tkT_flat h n l
theorem tks_ren (ρ : Nat → Nat) (l : List TkR) : renTs ρ (rowsT tkT l) = rowsT tkT l := rowsT_ren tkT_flat ρ l
theorem tks_own (l : List TkR) : ownTs (rowsT tkT l) = true := rowsT_own (fun _ => rfl) l
theorem tks_eta (x : TkR) : (⟨x.peer, x.role, x.stage, x.spiI, x.spiR, x.ni, x.nr, x.own, x.half, x.first, x.second, x.seed, x.down, x.ours, x.back, x.tin, x.tout, x.sent, x.top, x.bits⟩ : TkR) = x := rfl
attribute [go_sem] tkT tks_sized tks_frz tks_ren tks_own tks_eta
instance : Enc TkR := ⟨tkT, tkT_inj⟩
instance : Enc (List TkR) := ⟨fun l => .s (rowsT tkT l), fun x y h => rowsT_inj tkT_inj (TV.s.inj h)⟩

theorem dec_beq (c d : Prop) [Decidable c] [Decidable d] : (decide c == decide d) = decide (c ↔ d) := by by_cases h : c <;> by_cases h' : d <;> simp [h, h']
attribute [go_sem] winF_at dec_beq Bool.true_beq Bool.false_beq Bool.not_true Bool.not_false
def one3 (x : TkR) : List Int := [x.ni, x.own, x.first]
def two7 (x : TkR) : List Int := [x.nr, x.half, x.second, x.seed, x.down, x.ours, x.back]
def thr2 (x : TkR) : List Int := [x.tin, x.tout]
def shapeF (x : TkR) : Prop := ¬ (x.role = 2 ∧ x.stage = 1) ∧ ((x.role = 1 ∨ x.stage = 3) ↔ x.peer ≠ 0) ∧ (x.stage = 3 ∨ x.sent = 0 ∧ x.top = 0 ∧ x.bits = 0)
instance (x : TkR) : Decidable (shapeF x) := by unfold shapeF; infer_instance
def rngF (x : TkR) : Prop := (0 ≤ x.peer ∧ x.peer ≤ 9) ∧ (1 ≤ x.role ∧ x.role ≤ 2) ∧ (1 ≤ x.stage ∧ x.stage ≤ 3) ∧ (0 ≤ x.spiI ∧ x.spiI ≤ 9999) ∧ (0 ≤ x.spiR ∧ x.spiR ≤ 9999) ∧ (0 ≤ x.sent ∧ x.sent ≤ 9999)
instance (x : TkR) : Decidable (rngF x) := by unfold rngF; infer_instance
/-- What is asked of a place, by whether it must be known. -/
def plk (n : Nat) (b : Bool) (v : Int) : Bool := if b = true then plc n v else decide (v = -1)
def placF (n : Nat) (x : TkR) : Bool := (one3 x).all (plk n true) && (two7 x).all (plk n (decide (x.stage > 1))) && (thr2 x).all (plk n (decide (x.stage > 2)))
def talkF (l : List TmR) (x : TkR) : Int := if rngF x then (if winF x.top x.bits = 0 then (if shapeF x then (if placF l.length x = true then (if opAt l x.own = 2 ∧ (x.stage > 1 → opAt l x.half = 6) then 0 else 1) else 3) else 1) else winF x.top x.bits) else 3

/-- A talk to which a pointer points. -/
structure FeT where
  x : TkR
instance : Enc FeT := ⟨fun y => .fe (tkT y.x) 0, fun ⟨x⟩ ⟨y⟩ h => by simp only [TV.fe.injEq, and_true] at h; rw [tkT_inj _ _ h]⟩
noncomputable def shp_S := spE (α := TkR) (fun x => (1 ≤ x.role ∧ x.role ≤ 2) ∧ 1 ≤ x.stage ∧ x.stage ≤ 3) (fun x => (.p (.bool (decide (shapeF x))), []))
theorem shp_at (x1 x2 x3 x4 x5 x6 x7 x8 x9 x10 x11 x12 x13 x14 x15 x16 x17 x18 x19 x20 : Int) (h : (1 ≤ x2 ∧ x2 ≤ 2) ∧ 1 ≤ x3 ∧ x3 ≤ 3) : shp_S [.agg [.p (.int .i64 x1), .p (.int .i64 x2), .p (.int .i64 x3), .p (.int .i64 x4), .p (.int .i64 x5), .p (.int .i64 x6), .p (.int .i64 x7), .p (.int .i64 x8), .p (.int .i64 x9), .p (.int .i64 x10), .p (.int .i64 x11), .p (.int .i64 x12), .p (.int .i64 x13), .p (.int .i64 x14), .p (.int .i64 x15), .p (.int .i64 x16), .p (.int .i64 x17), .p (.int .i64 x18), .p (.int .i64 x19), .p (.int .i64 x20)]] = some ((.p (.bool (decide (shapeF (⟨x1, x2, x3, x4, x5, x6, x7, x8, x9, x10, x11, x12, x13, x14, x15, x16, x17, x18, x19, x20⟩ : TkR)))), [])) := spE_at (α := TkR) (⟨x1, x2, x3, x4, x5, x6, x7, x8, x9, x10, x11, x12, x13, x14, x15, x16, x17, x18, x19, x20⟩ : TkR) h
attribute [go_sem] shp_at
-- spec.l11Shape
def c170 : AF := ⟨39,
 (.seq (.reg [rO 1 (.box 38 (.t 0)),
 rO 2 (.mv (.v (.bool false)))])
 (.seq (.seq (.reg [rO 4 (.fa (.t 1) 1),
 rO 5 (.ld (.t 4)),
 rO 6 (.bin .eql (.t 5) (.v (.int .i64 2))),
 rO 7 (.mv (.t 6)),
 ⟨(some 8), (some (7, true)), .fa (.t 1) 2⟩,
 ⟨(some 9), (some (7, true)), .ld (.t 8)⟩,
 ⟨(some 10), (some (7, true)), .bin .eql (.t 9) (.v (.int .i64 1))⟩,
 rO 11 (.pick (.t 7) (.t 10) (.v (.bool false)))])
 (.cond (.t 11) (.seq (.reg [rO 2 (.mv (.v (.bool false)))])
 .ret)
 .skip))
 (.seq (.reg [rO 12 (.fa (.t 1) 1),
 rO 13 (.ld (.t 12)),
 rO 14 (.bin .eql (.t 13) (.v (.int .i64 1))),
 rO 15 (.mv (.t 14)),
 ⟨(some 16), (some (15, false)), .fa (.t 1) 2⟩,
 ⟨(some 17), (some (15, false)), .ld (.t 16)⟩,
 ⟨(some 18), (some (15, false)), .bin .eql (.t 17) (.v (.int .i64 3))⟩,
 rO 19 (.pick (.t 15) (.v (.bool true)) (.t 18)),
 rO 3 (.mv (.t 19))])
 (.seq (.seq (.reg [rO 20 (.mv (.t 3)),
 rO 21 (.fa (.t 1) 0),
 rO 22 (.ld (.t 21)),
 rO 23 (.bin .neq (.t 22) (.v (.int .i64 0))),
 rO 24 (.eqB true (.t 20) (.t 23))])
 (.cond (.t 24) (.seq (.reg [rO 2 (.mv (.v (.bool false)))])
 .ret)
 .skip))
 (.seq (.reg [rO 25 (.fa (.t 1) 2),
 rO 26 (.ld (.t 25)),
 rO 27 (.bin .eql (.t 26) (.v (.int .i64 3))),
 rO 28 (.mv (.t 27)),
 ⟨(some 29), (some (28, false)), .fa (.t 1) 17⟩,
 ⟨(some 30), (some (28, false)), .ld (.t 29)⟩,
 ⟨(some 31), (some (28, false)), .bin .eql (.t 30) (.v (.int .i64 0))⟩,
 ⟨(some 32), (some (28, false)), .mv (.t 31)⟩,
 ⟨(some 33), (some (32, true)), .fa (.t 1) 18⟩,
 ⟨(some 34), (some (32, true)), .ldn 2 (.t 33)⟩,
 ⟨(some 35), (some (32, true)), .build [(.int .i64 0), (.int .i64 0)] []⟩,
 ⟨(some 36), (some (32, true)), .eqS false [.i, .i] (.t 34) (.t 35)⟩,
 ⟨(some 37), (some (28, false)), .pick (.t 32) (.t 36) (.v (.bool false))⟩,
 rO 38 (.pick (.t 28) (.v (.bool true)) (.t 37)),
 rO 2 (.mv (.t 38))])
 .ret))))),
 [.t 2]⟩
theorem k170 : cFn Try.prog Try.f170 = some c170 := by kernel_rfl
theorem shpS_ok : OkT Try.prog 170 (pureSp shp_S) := by
  refine okT_fA n0 Try.func170 k170 ?_
  rintro x h
  dsimp only [EncL.e, Enc.e, tkT, c170, rO] at *
  unfold shapeF
  try refine tS ?_
  repeat' first | exact eV | exact eP | (exfalso; omega) | ((first | apply cD | apply cB | apply gD | apply gB) <;> intro _ <;> try refine tS ?_)
noncomputable def shq_S := spE (α := FeT) (fun x => (1 ≤ x.x.role ∧ x.x.role ≤ 2) ∧ 1 ≤ x.x.stage ∧ x.x.stage ≤ 3) (fun x => (.p (.bool (decide (shapeF x.x))), []))
theorem shq_at (x1 x2 x3 x4 x5 x6 x7 x8 x9 x10 x11 x12 x13 x14 x15 x16 x17 x18 x19 x20 : Int) (h : (1 ≤ x2 ∧ x2 ≤ 2) ∧ 1 ≤ x3 ∧ x3 ≤ 3) : shq_S [.fe (.agg [.p (.int .i64 x1), .p (.int .i64 x2), .p (.int .i64 x3), .p (.int .i64 x4), .p (.int .i64 x5), .p (.int .i64 x6), .p (.int .i64 x7), .p (.int .i64 x8), .p (.int .i64 x9), .p (.int .i64 x10), .p (.int .i64 x11), .p (.int .i64 x12), .p (.int .i64 x13), .p (.int .i64 x14), .p (.int .i64 x15), .p (.int .i64 x16), .p (.int .i64 x17), .p (.int .i64 x18), .p (.int .i64 x19), .p (.int .i64 x20)]) 0] = some ((.p (.bool (decide (shapeF (⟨x1, x2, x3, x4, x5, x6, x7, x8, x9, x10, x11, x12, x13, x14, x15, x16, x17, x18, x19, x20⟩ : TkR)))), [])) := spE_at (α := FeT) (⟨⟨x1, x2, x3, x4, x5, x6, x7, x8, x9, x10, x11, x12, x13, x14, x15, x16, x17, x18, x19, x20⟩⟩ : FeT) h
attribute [go_sem] shq_at
-- (*impl.Talk).formOk
def c132 : AF := ⟨71,
 (.seq (.reg [rO 2 (.mv (.v (.bool false)))])
 (.seq (.reg [rO 4 (.mv (.t 0)),
 rO 5 (.nilc (.t 4)),
 rO 6 (.fa (.t 5) 2),
 rO 7 (.ld (.t 6)),
 rO 8 (.bin .eql (.t 7) (.v (.int .i64 3))),
 rO 3 (.mv (.t 8))])
 (.seq (.block 0 (.seq (.reg [rO 10 (.mv (.t 0)),
 rO 11 (.nilc (.t 10)),
 rO 12 (.fa (.t 11) 1),
 rO 13 (.ld (.t 12)),
 rO 14 (.bin .eql (.t 13) (.v (.int .i64 2))),
 rO 15 (.mv (.t 14)),
 ⟨(some 16), (some (15, true)), .mv (.t 0)⟩,
 ⟨(some 17), (some (15, true)), .nilc (.t 16)⟩,
 ⟨(some 18), (some (15, true)), .fa (.t 17) 2⟩,
 ⟨(some 19), (some (15, true)), .ld (.t 18)⟩,
 ⟨(some 20), (some (15, true)), .bin .eql (.t 19) (.v (.int .i64 1))⟩,
 rO 21 (.pick (.t 15) (.t 20) (.v (.bool false))),
 rO 9 (.mv (.t 21))])
 (.cond (.t 9) (.seq (.reg [rO 2 (.mv (.v (.bool false)))])
 .ret)
 (.seq (.reg [rO 23 (.mv (.t 0)),
 rO 24 (.nilc (.t 23)),
 rO 25 (.fa (.t 24) 0),
 rO 26 (.ld (.t 25)),
 rO 27 (.bin .eql (.t 26) (.v (.int .i64 0))),
 rO 28 (.mv (.t 27)),
 ⟨(some 29), (some (28, true)), .mv (.t 0)⟩,
 ⟨(some 30), (some (28, true)), .nilc (.t 29)⟩,
 ⟨(some 31), (some (28, true)), .fa (.t 30) 1⟩,
 ⟨(some 32), (some (28, true)), .ld (.t 31)⟩,
 ⟨(some 33), (some (28, true)), .bin .eql (.t 32) (.v (.int .i64 1))⟩,
 ⟨(some 34), (some (28, true)), .mv (.t 33)⟩,
 ⟨(some 35), (some (34, false)), .mv (.t 3)⟩,
 ⟨(some 36), (some (28, true)), .pick (.t 34) (.v (.bool true)) (.t 35)⟩,
 rO 37 (.pick (.t 28) (.t 36) (.v (.bool false))),
 rO 22 (.mv (.t 37))])
 (.cond (.t 22) (.seq (.reg [rO 2 (.mv (.v (.bool false)))])
 .ret)
 (.seq (.reg [rO 39 (.mv (.t 0)),
 rO 40 (.nilc (.t 39)),
 rO 41 (.fa (.t 40) 0),
 rO 42 (.ld (.t 41)),
 rO 43 (.bin .neq (.t 42) (.v (.int .i64 0))),
 rO 44 (.mv (.t 43)),
 ⟨(some 45), (some (44, true)), .mv (.t 0)⟩,
 ⟨(some 46), (some (44, true)), .nilc (.t 45)⟩,
 ⟨(some 47), (some (44, true)), .fa (.t 46) 1⟩,
 ⟨(some 48), (some (44, true)), .ld (.t 47)⟩,
 ⟨(some 49), (some (44, true)), .bin .eql (.t 48) (.v (.int .i64 2))⟩,
 rO 50 (.pick (.t 44) (.t 49) (.v (.bool false))),
 rO 51 (.mv (.t 50)),
 ⟨(some 52), (some (51, true)), .mv (.t 3)⟩,
 ⟨(some 53), (some (51, true)), .un .not (.t 52)⟩,
 rO 54 (.pick (.t 51) (.t 53) (.v (.bool false))),
 rO 38 (.mv (.t 54))])
 (.cond (.t 38) (.seq (.reg [rO 2 (.mv (.v (.bool false)))])
 .ret)
 .skip)))))))
 (.seq (.reg [rO 55 (.mv (.t 3)),
 rO 56 (.mv (.t 55)),
 ⟨(some 57), (some (56, false)), .mv (.t 0)⟩,
 ⟨(some 58), (some (56, false)), .nilc (.t 57)⟩,
 ⟨(some 59), (some (56, false)), .fa (.t 58) 17⟩,
 ⟨(some 60), (some (56, false)), .ld (.t 59)⟩,
 ⟨(some 61), (some (56, false)), .bin .eql (.t 60) (.v (.int .i64 0))⟩,
 ⟨(some 62), (some (56, false)), .mv (.t 61)⟩,
 ⟨(some 63), (some (62, true)), .mv (.t 0)⟩,
 ⟨(some 64), (some (62, true)), .nilc (.t 63)⟩,
 ⟨(some 65), (some (62, true)), .fa (.t 64) 18⟩,
 ⟨(some 66), (some (62, true)), .ldn 2 (.t 65)⟩,
 ⟨(some 67), (some (62, true)), .build [(.int .i64 0), (.int .i64 0)] []⟩,
 ⟨(some 68), (some (62, true)), .eqS false [.i, .i] (.t 66) (.t 67)⟩,
 ⟨(some 69), (some (56, false)), .pick (.t 62) (.t 68) (.v (.bool false))⟩,
 rO 70 (.pick (.t 56) (.v (.bool true)) (.t 69)),
 rO 2 (.mv (.t 70))])
 .ret)))),
 [.t 2]⟩
theorem k132 : cFn Try.prog Try.f132 = some c132 := by kernel_rfl
theorem shpI_ok : OkT Try.prog 132 (pureSp shq_S) := by
  refine okT_fA n0 Try.func132 k132 ?_
  rintro ⟨x⟩ h
  dsimp only [EncL.e, Enc.e, tkT, c132, rO] at *
  unfold shapeF
  try refine tS ?_
  repeat' first | exact eV | exact eP | (exfalso; omega) | ((first | apply cD | apply cB | apply gD | apply gB) <;> intro _ <;> try refine tS ?_)
end Go.Proofs.Ytbddhlhpakbcdaa
