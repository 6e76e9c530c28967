import Derived.Test.YtbddhlhpakbcdaaM10
set_option linter.unusedSimpArgs false
set_option linter.unusedVariables false
set_option maxRecDepth 100000
set_option maxHeartbeats 4000000
namespace Go.Proofs.Ytbddhlhpakbcdaa
open Go Go.AH
attribute [local irreducible] awpT ropsT qopsT stepT condKT gdKT EndT joinK loopKT seqKT blkKT kont kontR ropsTF frKT
/-! Partners -/

noncomputable def findK_S {β : Type} (f : Nat) (cap : β → List TV) (q : β → TkR → Prop) (p : β → TkR → Bool) := specP (fun x : List TkR × β => [.s (rowsT tkT x.1), .fn f (cap x.2)]) (fun x => x.1.length ≤ 1048576 ∧ ∀ v ∈ x.1, q x.2 v) (fun x => (.p (.int .i64 (nix (x.1.findIdx? (p x.2)))), []))
noncomputable def askK_S {β : Type} (cap : β → List TV) (q : β → TkR → Prop) (p : β → TkR → Bool) := specP (fun x : TkR × β => tkT x.1 :: cap x.2) (fun x => q x.2 x.1) (fun x => (.p (.bool (p x.2 x.1)), []))
theorem encK_inj {β : Type} {f : Nat} {cap : β → List TV} (hcap : ∀ x y, cap x = cap y → x = y) (x y : List TkR × β) (h : [TV.s (rowsT tkT x.1), .fn f (cap x.2)] = [.s (rowsT tkT y.1), .fn f (cap y.2)]) : x = y := by
  obtain ⟨a, b⟩ := x; obtain ⟨c, d⟩ := y; simp at h; simp [rowsT_inj tkT_inj h.1, hcap _ _ h.2]
theorem findK_at {β : Type} {f : Nat} {cap : β → List TV} {q : β → TkR → Prop} {p : β → TkR → Bool} (hcap : ∀ x y, cap x = cap y → x = y) (l : List TkR) (b : β) (h : l.length ≤ 1048576 ∧ ∀ v ∈ l, q b v) : findK_S f cap q p [.s (rowsT tkT l), .fn f (cap b)] = some (.p (.int .i64 (nix (l.findIdx? (p b)))), []) := specP_at (enc := (fun x : List TkR × β => [.s (rowsT tkT x.1), .fn f (cap x.2)])) (encK_inj hcap) (l, b) h
-- slices.IndexFunc[[]impl.Talk,impl.Talk]
def c125 : AF := ⟨19,
 (.seq (.reg [rO 4 (.mv (.v (.int .i64 0)))])
 (.seq (.seq (.reg [rO 6 (.mv (.t 0)),
 rO 7 (.len (.t 6)),
 rO 8 (.mv (.v (.int .i64 0)))])
 (.block 0 (.loop (.seq (.reg [rO 9 (.bin .lss (.t 8) (.t 7))])
 (.seq (.cond (.t 9) .skip
 (.exit 0))
 (.seq (.block 1 (.seq (.reg [rO 10 (.mv (.t 8)),
 rO 5 (.mv (.t 10))])
 (.seq (.reg [rO 11 (.mv (.t 1)),
 rO 12 (.mv (.t 0)),
 rO 13 (.mv (.t 5)),
 rO 14 (.ia 20 (.t 12) (.t 13)),
 rO 15 (.ldn 20 (.t 14)),
 rO 16 (.callv (.t 11) [(.t 15)])])
 (.cond (.t 16) (.seq (.reg [rO 17 (.mv (.t 5)),
 rO 4 (.mv (.t 17))])
 .ret)
 .skip))))
 (.reg [rO 18 (.bin .add (.t 8) (.v (.int .i64 1))),
 rO 8 (.mv (.t 18))])))))))
 (.seq (.reg [rO 4 (.mv (.v (.int .i64 (-1))))])
 .ret))),
 [.t 4]⟩
theorem k125 : cFn Try.prog Try.f125 = some c125 := by kernel_rfl
theorem findK_ok {β : Type} {f : Nat} {cap : β → List TV} {q : β → TkR → Prop} {p : β → TkR → Bool} (hcap : ∀ x y, cap x = cap y → x = y) (hfr : ∀ h n x, (cap x).map (frzT h n) = cap x) (ok : OkT Try.prog f (pureSp (askK_S cap q p))) : OkT Try.prog 125 (pureSp (findK_S f cap q p)) := by
  have hat : ∀ (x : TkR) (b : β), q b x → askK_S cap q p (tkT x :: cap b) = some (.p (.bool (p b x)), []) := fun x b hq =>
    specP_at (enc := fun x : TkR × β => tkT x.1 :: cap x.2) (by rintro ⟨a, b⟩ ⟨a', b'⟩ h; simp at h; simp [tkT_inj _ _ h.1, hcap _ _ h.2]) (x, b) hq
  refine okT_fn (cs ok n0) Try.func125 (by kernel_rfl) k125 (fun x _ => ⟨rfl, rfl⟩) ?_
  rintro ⟨l, b⟩ ⟨hl, hq⟩
  dsimp only [c125, rO] at *
  refine tS ?_
  refine awpT_loop (α := Nat) (fun i => ⟨slots [(0, .s (rowsT tkT l)), (1, .fn f (cap b)), (7, .p (.int .i64 l.length)), (8, .p (.int .i64 i))], []⟩) (fun i => i ≤ l.length ∧ ∀ j y, j < i → l[j]? = some y → p b y = false) (fun i => l.length - i) 0 ⟨by omega, fun j y hj => absurd hj (by omega)⟩ (le_keep (Nat.zero_le _) (by simp (maxSteps := 8000000) -implicitDefEqProofs (disch := omega) only [↓reduceIte, go_sem, slotsIn, *])) ?_
  intro i ⟨hi, hn⟩
  refine tS ?_
  refine cD (fun hlt => ?_) (fun hge => ?_)
  · obtain ⟨x, hx⟩ := get_ex (l := l) (i := i) (by omega)
    have hx2 := hat x b (hq x (List.mem_of_getElem? hx))
    simp only [tkT] at hx2
    cases hs : p b x
    · have e := nsn hx hs hn
      clear hn hq hat
      refine tS ?_
      refine lN (i + 1) ?_ ⟨by omega, e⟩
      exact le_keep (Nat.zero_le _) (by simp (maxSteps := 8000000) -implicitDefEqProofs (disch := omega) only [↓reduceIte, go_sem, slotsIn, *])
    · rw [nfs hx hs hn]
      clear hn hq hat
      dsimp only [nix]
      try refine tS ?_
      repeat' first | exact eV | exact eP | ((first | apply cD | apply cB | apply gD | apply gB) <;> intro _ <;> try refine tS ?_)
  · rw [nfn (fun j y hj => hn j y (by omega))]
    clear hn hq hat
    dsimp only [nix]
    refine tS ?_
    refine joinK_here ?_
    try refine tS ?_
    repeat' first | exact eV | exact eP | ((first | apply cD | apply cB | apply gD | apply gB) <;> intro _ <;> try refine tS ?_)

def fits (g : Int) (a b : TkR) : Prop := (¬ a.role = b.role ∧ 2 ≤ b.stage ∧ (b.role = 2 → 3 ≤ b.stage) ∧ (b.peer = 0 ∨ b.peer = g)) ∧ a.spiI = b.spiI ∧ a.spiR = b.spiR ∧ a.ni = b.ni ∧ a.nr = b.nr ∧ a.first = b.first ∧ a.second = b.second ∧ a.seed = b.seed ∧ a.down = b.down ∧ a.ours = b.ours ∧ a.back = b.back
instance (g : Int) (a b : TkR) : Decidable (fits g a b) := by unfold fits; infer_instance
def fitB (g : Int) (a b : TkR) : Bool := decide (fits g a b)
noncomputable def fitS_S := spE (α := TkR × TkR × Int) (fun x => True) (fun x => (.p (.bool (fitB x.2.2 x.1 x.2.1)), []))
theorem fitS_at (a1 a2 a3 a4 a5 a6 a7 a8 a9 a10 a11 a12 a13 a14 a15 a16 a17 a18 a19 a20 : Int) (b1 b2 b3 b4 b5 b6 b7 b8 b9 b10 b11 b12 b13 b14 b15 b16 b17 b18 b19 b20 : Int) (g : Int) : fitS_S [.agg [.p (.int .i64 a1), .p (.int .i64 a2), .p (.int .i64 a3), .p (.int .i64 a4), .p (.int .i64 a5), .p (.int .i64 a6), .p (.int .i64 a7), .p (.int .i64 a8), .p (.int .i64 a9), .p (.int .i64 a10), .p (.int .i64 a11), .p (.int .i64 a12), .p (.int .i64 a13), .p (.int .i64 a14), .p (.int .i64 a15), .p (.int .i64 a16), .p (.int .i64 a17), .p (.int .i64 a18), .p (.int .i64 a19), .p (.int .i64 a20)], .agg [.p (.int .i64 b1), .p (.int .i64 b2), .p (.int .i64 b3), .p (.int .i64 b4), .p (.int .i64 b5), .p (.int .i64 b6), .p (.int .i64 b7), .p (.int .i64 b8), .p (.int .i64 b9), .p (.int .i64 b10), .p (.int .i64 b11), .p (.int .i64 b12), .p (.int .i64 b13), .p (.int .i64 b14), .p (.int .i64 b15), .p (.int .i64 b16), .p (.int .i64 b17), .p (.int .i64 b18), .p (.int .i64 b19), .p (.int .i64 b20)], .p (.int .i64 g)] = some ((.p (.bool (fitB g (⟨a1, a2, a3, a4, a5, a6, a7, a8, a9, a10, a11, a12, a13, a14, a15, a16, a17, a18, a19, a20⟩ : TkR) (⟨b1, b2, b3, b4, b5, b6, b7, b8, b9, b10, b11, b12, b13, b14, b15, b16, b17, b18, b19, b20⟩ : TkR))), [])) := spE_at (α := TkR × TkR × Int) ((⟨a1, a2, a3, a4, a5, a6, a7, a8, a9, a10, a11, a12, a13, a14, a15, a16, a17, a18, a19, a20⟩ : TkR), (⟨b1, b2, b3, b4, b5, b6, b7, b8, b9, b10, b11, b12, b13, b14, b15, b16, b17, b18, b19, b20⟩ : TkR), g) trivial
attribute [go_sem] fitS_at
-- spec.l13Fits
def c114 : AF := ⟨85,
 (.seq (.reg [rO 3 (.box 38 (.t 0)),
 rO 4 (.box 38 (.t 1)),
 rO 6 (.mv (.v (.bool false)))])
 (.seq (.seq (.reg [rO 7 (.fa (.t 3) 1),
 rO 8 (.ld (.t 7)),
 rO 9 (.fa (.t 4) 1),
 rO 10 (.ld (.t 9)),
 rO 11 (.bin .eql (.t 8) (.t 10)),
 rO 12 (.mv (.t 11)),
 ⟨(some 13), (some (12, false)), .fa (.t 4) 2⟩,
 ⟨(some 14), (some (12, false)), .ld (.t 13)⟩,
 ⟨(some 15), (some (12, false)), .bin .lss (.t 14) (.v (.int .i64 2))⟩,
 rO 16 (.pick (.t 12) (.v (.bool true)) (.t 15)),
 rO 17 (.mv (.t 16)),
 ⟨(some 18), (some (17, false)), .fa (.t 4) 1⟩,
 ⟨(some 19), (some (17, false)), .ld (.t 18)⟩,
 ⟨(some 20), (some (17, false)), .bin .eql (.t 19) (.v (.int .i64 2))⟩,
 ⟨(some 21), (some (17, false)), .mv (.t 20)⟩,
 ⟨(some 22), (some (21, true)), .fa (.t 4) 2⟩,
 ⟨(some 23), (some (21, true)), .ld (.t 22)⟩,
 ⟨(some 24), (some (21, true)), .bin .lss (.t 23) (.v (.int .i64 3))⟩,
 ⟨(some 25), (some (17, false)), .pick (.t 21) (.t 24) (.v (.bool false))⟩,
 rO 26 (.pick (.t 17) (.v (.bool true)) (.t 25)),
 rO 27 (.mv (.t 26)),
 ⟨(some 28), (some (27, false)), .fa (.t 4) 0⟩,
 ⟨(some 29), (some (27, false)), .ld (.t 28)⟩,
 ⟨(some 30), (some (27, false)), .bin .neq (.t 29) (.v (.int .i64 0))⟩,
 ⟨(some 31), (some (27, false)), .mv (.t 30)⟩,
 ⟨(some 32), (some (31, true)), .fa (.t 4) 0⟩,
 ⟨(some 33), (some (31, true)), .ld (.t 32)⟩,
 ⟨(some 34), (some (31, true)), .mv (.t 2)⟩,
 ⟨(some 35), (some (31, true)), .bin .neq (.t 33) (.t 34)⟩,
 ⟨(some 36), (some (27, false)), .pick (.t 31) (.t 35) (.v (.bool false))⟩,
 rO 37 (.pick (.t 27) (.v (.bool true)) (.t 36))])
 (.cond (.t 37) (.seq (.reg [rO 6 (.mv (.v (.bool false)))])
 .ret)
 .skip))
 (.seq (.reg [rO 38 (.fa (.t 3) 3),
 rO 39 (.ld (.t 38)),
 rO 40 (.fa (.t 4) 3),
 rO 41 (.ld (.t 40)),
 rO 42 (.bin .eql (.t 39) (.t 41)),
 rO 43 (.mv (.t 42)),
 ⟨(some 44), (some (43, true)), .fa (.t 3) 4⟩,
 ⟨(some 45), (some (43, true)), .ld (.t 44)⟩,
 ⟨(some 46), (some (43, true)), .fa (.t 4) 4⟩,
 ⟨(some 47), (some (43, true)), .ld (.t 46)⟩,
 ⟨(some 48), (some (43, true)), .bin .eql (.t 45) (.t 47)⟩,
 rO 49 (.pick (.t 43) (.t 48) (.v (.bool false))),
 rO 50 (.mv (.t 49)),
 ⟨(some 51), (some (50, true)), .fa (.t 3) 5⟩,
 ⟨(some 52), (some (50, true)), .ld (.t 51)⟩,
 ⟨(some 53), (some (50, true)), .fa (.t 4) 5⟩,
 ⟨(some 54), (some (50, true)), .ld (.t 53)⟩,
 ⟨(some 55), (some (50, true)), .bin .eql (.t 52) (.t 54)⟩,
 rO 56 (.pick (.t 50) (.t 55) (.v (.bool false))),
 rO 57 (.mv (.t 56)),
 ⟨(some 58), (some (57, true)), .fa (.t 3) 6⟩,
 ⟨(some 59), (some (57, true)), .ld (.t 58)⟩,
 ⟨(some 60), (some (57, true)), .fa (.t 4) 6⟩,
 ⟨(some 61), (some (57, true)), .ld (.t 60)⟩,
 ⟨(some 62), (some (57, true)), .bin .eql (.t 59) (.t 61)⟩,
 rO 63 (.pick (.t 57) (.t 62) (.v (.bool false))),
 rO 64 (.mv (.t 63)),
 ⟨(some 65), (some (64, true)), .fa (.t 3) 9⟩,
 ⟨(some 66), (some (64, true)), .ld (.t 65)⟩,
 ⟨(some 67), (some (64, true)), .fa (.t 4) 9⟩,
 ⟨(some 68), (some (64, true)), .ld (.t 67)⟩,
 ⟨(some 69), (some (64, true)), .bin .eql (.t 66) (.t 68)⟩,
 rO 70 (.pick (.t 64) (.t 69) (.v (.bool false))),
 rO 71 (.mv (.t 70)),
 ⟨(some 72), (some (71, true)), .fa (.t 3) 10⟩,
 ⟨(some 73), (some (71, true)), .ld (.t 72)⟩,
 ⟨(some 74), (some (71, true)), .fa (.t 4) 10⟩,
 ⟨(some 75), (some (71, true)), .ld (.t 74)⟩,
 ⟨(some 76), (some (71, true)), .bin .eql (.t 73) (.t 75)⟩,
 rO 77 (.pick (.t 71) (.t 76) (.v (.bool false))),
 rO 78 (.mv (.t 77)),
 ⟨(some 79), (some (78, true)), .fa (.t 3) 11⟩,
 ⟨(some 80), (some (78, true)), .ldn 4 (.t 79)⟩,
 ⟨(some 81), (some (78, true)), .fa (.t 4) 11⟩,
 ⟨(some 82), (some (78, true)), .ldn 4 (.t 81)⟩,
 ⟨(some 83), (some (78, true)), .eqS false [.i, .i, .i, .i] (.t 80) (.t 82)⟩,
 rO 84 (.pick (.t 78) (.t 83) (.v (.bool false))),
 rO 6 (.mv (.t 84))])
 .ret))),
 [.t 6]⟩
theorem k114 : cFn Try.prog Try.f114 = some c114 := by kernel_rfl
theorem fitS_ok : OkT Try.prog 114 (pureSp fitS_S) := by
  refine okT_fA n0 Try.func114 k114 ?_
  rintro ⟨a, b, g⟩ _
  dsimp only [EncL.e, Enc.e, tkT, c114, rO] at *
  unfold fitB fits
  try refine tS ?_
  repeat' first | exact eV | exact eP | ((first | apply cD | apply cB | apply gD | apply gB) <;> intro _ <;> try refine tS ?_)
noncomputable def fitI_S := spE (α := FeT × FeT × Int) (fun x => True) (fun x => (.p (.bool (fitB x.2.2 x.1.x x.2.1.x)), []))
theorem fitI_at (a1 a2 a3 a4 a5 a6 a7 a8 a9 a10 a11 a12 a13 a14 a15 a16 a17 a18 a19 a20 : Int) (b1 b2 b3 b4 b5 b6 b7 b8 b9 b10 b11 b12 b13 b14 b15 b16 b17 b18 b19 b20 : Int) (g : Int) : fitI_S [.fe (.agg [.p (.int .i64 a1), .p (.int .i64 a2), .p (.int .i64 a3), .p (.int .i64 a4), .p (.int .i64 a5), .p (.int .i64 a6), .p (.int .i64 a7), .p (.int .i64 a8), .p (.int .i64 a9), .p (.int .i64 a10), .p (.int .i64 a11), .p (.int .i64 a12), .p (.int .i64 a13), .p (.int .i64 a14), .p (.int .i64 a15), .p (.int .i64 a16), .p (.int .i64 a17), .p (.int .i64 a18), .p (.int .i64 a19), .p (.int .i64 a20)]) 0, .fe (.agg [.p (.int .i64 b1), .p (.int .i64 b2), .p (.int .i64 b3), .p (.int .i64 b4), .p (.int .i64 b5), .p (.int .i64 b6), .p (.int .i64 b7), .p (.int .i64 b8), .p (.int .i64 b9), .p (.int .i64 b10), .p (.int .i64 b11), .p (.int .i64 b12), .p (.int .i64 b13), .p (.int .i64 b14), .p (.int .i64 b15), .p (.int .i64 b16), .p (.int .i64 b17), .p (.int .i64 b18), .p (.int .i64 b19), .p (.int .i64 b20)]) 0, .p (.int .i64 g)] = some ((.p (.bool (fitB g (⟨a1, a2, a3, a4, a5, a6, a7, a8, a9, a10, a11, a12, a13, a14, a15, a16, a17, a18, a19, a20⟩ : TkR) (⟨b1, b2, b3, b4, b5, b6, b7, b8, b9, b10, b11, b12, b13, b14, b15, b16, b17, b18, b19, b20⟩ : TkR))), [])) := spE_at (α := FeT × FeT × Int) ((⟨⟨a1, a2, a3, a4, a5, a6, a7, a8, a9, a10, a11, a12, a13, a14, a15, a16, a17, a18, a19, a20⟩⟩ : FeT), (⟨⟨b1, b2, b3, b4, b5, b6, b7, b8, b9, b10, b11, b12, b13, b14, b15, b16, b17, b18, b19, b20⟩⟩ : FeT), g) trivial
attribute [go_sem] fitI_at
-- impl.matches
def c127 : AF := ⟨124,
 (.seq (.reg [rO 6 (.mv (.v (.bool false)))])
 (.seq (.reg [rO 7 (.mv (.v (.int .i64 2)))])
 (.seq (.seq (.reg [rO 9 (.mv (.t 1)),
 rO 10 (.nilc (.t 9)),
 rO 11 (.fa (.t 10) 1),
 rO 12 (.ld (.t 11)),
 rO 13 (.bin .eql (.t 12) (.v (.int .i64 2)))])
 (.cond (.t 13) (.reg [rO 7 (.mv (.v (.int .i64 3)))])
 .skip))
 (.seq (.drw [rO 14 (.mv (.t 1)),
 rO 15 (.nilc (.t 14)),
 rO 16 (.fa (.t 15) 1),
 rO 17 (.ld (.t 16)),
 rO 18 (.mv (.t 0)),
 rO 19 (.nilc (.t 18)),
 rO 20 (.fa (.t 19) 1),
 rO 21 (.ld (.t 20)),
 rO 22 (.bin .neq (.t 17) (.t 21)),
 rO 23 (.mv (.t 22)),
 ⟨(some 24), (some (23, true)), .mv (.t 1)⟩,
 ⟨(some 25), (some (23, true)), .nilc (.t 24)⟩,
 ⟨(some 26), (some (23, true)), .fa (.t 25) 2⟩,
 ⟨(some 27), (some (23, true)), .ld (.t 26)⟩,
 ⟨(some 28), (some (23, true)), .mv (.t 7)⟩,
 ⟨(some 29), (some (23, true)), .bin .geq (.t 27) (.t 28)⟩,
 rO 30 (.pick (.t 23) (.t 29) (.v (.bool false))),
 rO 31 (.mv (.t 30)),
 ⟨(some 32), (some (31, true)), .mv (.t 1)⟩,
 ⟨(some 33), (some (31, true)), .nilc (.t 32)⟩,
 ⟨(some 34), (some (31, true)), .fa (.t 33) 0⟩,
 ⟨(some 35), (some (31, true)), .ld (.t 34)⟩,
 ⟨(some 36), (some (31, true)), .bin .eql (.t 35) (.v (.int .i64 0))⟩,
 ⟨(some 37), (some (31, true)), .mv (.t 36)⟩,
 ⟨(some 38), (some (37, false)), .mv (.t 1)⟩,
 ⟨(some 39), (some (37, false)), .nilc (.t 38)⟩,
 ⟨(some 40), (some (37, false)), .fa (.t 39) 0⟩,
 ⟨(some 41), (some (37, false)), .ld (.t 40)⟩,
 ⟨(some 42), (some (37, false)), .mv (.t 2)⟩] [⟨(some 43), (some (37, false)), .bin .eql (.t 41) (.t 42)⟩,
 ⟨(some 44), (some (31, true)), .pick (.t 37) (.v (.bool true)) (.t 43)⟩,
 rO 45 (.pick (.t 31) (.t 44) (.v (.bool false))),
 rO 8 (.mv (.t 45))])
 (.seq (.drw [rO 46 (.mv (.t 8)),
 rO 47 (.mv (.t 46)),
 ⟨(some 48), (some (47, true)), .mv (.t 0)⟩,
 ⟨(some 49), (some (47, true)), .nilc (.t 48)⟩,
 ⟨(some 50), (some (47, true)), .fa (.t 49) 3⟩,
 ⟨(some 51), (some (47, true)), .ld (.t 50)⟩,
 ⟨(some 52), (some (47, true)), .mv (.t 1)⟩,
 ⟨(some 53), (some (47, true)), .nilc (.t 52)⟩,
 ⟨(some 54), (some (47, true)), .fa (.t 53) 3⟩,
 ⟨(some 55), (some (47, true)), .ld (.t 54)⟩,
 ⟨(some 56), (some (47, true)), .bin .eql (.t 51) (.t 55)⟩,
 rO 57 (.pick (.t 47) (.t 56) (.v (.bool false))),
 rO 58 (.mv (.t 57)),
 ⟨(some 59), (some (58, true)), .mv (.t 0)⟩,
 ⟨(some 60), (some (58, true)), .nilc (.t 59)⟩,
 ⟨(some 61), (some (58, true)), .fa (.t 60) 4⟩,
 ⟨(some 62), (some (58, true)), .ld (.t 61)⟩,
 ⟨(some 63), (some (58, true)), .mv (.t 1)⟩,
 ⟨(some 64), (some (58, true)), .nilc (.t 63)⟩,
 ⟨(some 65), (some (58, true)), .fa (.t 64) 4⟩,
 ⟨(some 66), (some (58, true)), .ld (.t 65)⟩,
 ⟨(some 67), (some (58, true)), .bin .eql (.t 62) (.t 66)⟩,
 rO 68 (.pick (.t 58) (.t 67) (.v (.bool false))),
 rO 69 (.mv (.t 68)),
 ⟨(some 70), (some (69, true)), .mv (.t 0)⟩,
 ⟨(some 71), (some (69, true)), .nilc (.t 70)⟩,
 ⟨(some 72), (some (69, true)), .fa (.t 71) 5⟩,
 ⟨(some 73), (some (69, true)), .ld (.t 72)⟩,
 ⟨(some 74), (some (69, true)), .mv (.t 1)⟩,
 ⟨(some 75), (some (69, true)), .nilc (.t 74)⟩,
 ⟨(some 76), (some (69, true)), .fa (.t 75) 5⟩,
 ⟨(some 77), (some (69, true)), .ld (.t 76)⟩,
 ⟨(some 78), (some (69, true)), .bin .eql (.t 73) (.t 77)⟩,
 rO 79 (.pick (.t 69) (.t 78) (.v (.bool false))),
 rO 80 (.mv (.t 79)),
 ⟨(some 81), (some (80, true)), .mv (.t 0)⟩,
 ⟨(some 82), (some (80, true)), .nilc (.t 81)⟩,
 ⟨(some 83), (some (80, true)), .fa (.t 82) 6⟩,
 ⟨(some 84), (some (80, true)), .ld (.t 83)⟩,
 ⟨(some 85), (some (80, true)), .mv (.t 1)⟩,
 ⟨(some 86), (some (80, true)), .nilc (.t 85)⟩,
 ⟨(some 87), (some (80, true)), .fa (.t 86) 6⟩,
 ⟨(some 88), (some (80, true)), .ld (.t 87)⟩,
 ⟨(some 89), (some (80, true)), .bin .eql (.t 84) (.t 88)⟩,
 rO 90 (.pick (.t 80) (.t 89) (.v (.bool false))),
 rO 91 (.mv (.t 90)),
 ⟨(some 92), (some (91, true)), .mv (.t 0)⟩,
 ⟨(some 93), (some (91, true)), .nilc (.t 92)⟩,
 ⟨(some 94), (some (91, true)), .fa (.t 93) 9⟩,
 ⟨(some 95), (some (91, true)), .ld (.t 94)⟩,
 ⟨(some 96), (some (91, true)), .mv (.t 1)⟩,
 ⟨(some 97), (some (91, true)), .nilc (.t 96)⟩,
 ⟨(some 98), (some (91, true)), .fa (.t 97) 9⟩,
 ⟨(some 99), (some (91, true)), .ld (.t 98)⟩,
 ⟨(some 100), (some (91, true)), .bin .eql (.t 95) (.t 99)⟩,
 rO 101 (.pick (.t 91) (.t 100) (.v (.bool false))),
 rO 102 (.mv (.t 101)),
 ⟨(some 103), (some (102, true)), .mv (.t 0)⟩,
 ⟨(some 104), (some (102, true)), .nilc (.t 103)⟩,
 ⟨(some 105), (some (102, true)), .fa (.t 104) 10⟩,
 ⟨(some 106), (some (102, true)), .ld (.t 105)⟩,
 ⟨(some 107), (some (102, true)), .mv (.t 1)⟩,
 ⟨(some 108), (some (102, true)), .nilc (.t 107)⟩,
 ⟨(some 109), (some (102, true)), .fa (.t 108) 10⟩,
 ⟨(some 110), (some (102, true)), .ld (.t 109)⟩,
 ⟨(some 111), (some (102, true)), .bin .eql (.t 106) (.t 110)⟩,
 rO 112 (.pick (.t 102) (.t 111) (.v (.bool false))),
 rO 113 (.mv (.t 112)),
 ⟨(some 114), (some (113, true)), .mv (.t 0)⟩,
 ⟨(some 115), (some (113, true)), .nilc (.t 114)⟩,
 ⟨(some 116), (some (113, true)), .fa (.t 115) 11⟩,
 ⟨(some 117), (some (113, true)), .ldn 4 (.t 116)⟩,
 ⟨(some 118), (some (113, true)), .mv (.t 1)⟩,
 ⟨(some 119), (some (113, true)), .nilc (.t 118)⟩,
 ⟨(some 120), (some (113, true)), .fa (.t 119) 11⟩,
 ⟨(some 121), (some (113, true)), .ldn 4 (.t 120)⟩] [⟨(some 122), (some (113, true)), .eqS false [.i, .i, .i, .i] (.t 117) (.t 121)⟩,
 rO 123 (.pick (.t 113) (.t 122) (.v (.bool false))),
 rO 6 (.mv (.t 123))])
 .ret))))),
 [.t 6]⟩
theorem k127 : cFn Try.prog Try.f127 = some c127 := by kernel_rfl
theorem fitI_ok : OkT Try.prog 127 (pureSp fitI_S) := by
  refine okT_fA n0 Try.func127 k127 ?_
  rintro ⟨⟨a⟩, ⟨b⟩, g⟩ _
  dsimp only [EncL.e, Enc.e, tkT, c127, rO] at *
  unfold fitB fits
  try refine tS ?_
  repeat' first | exact eV | exact eP | ((first | apply cD | apply cB | apply gD | apply gB) <;> intro _ <;> try refine tS ?_)
end Go.Proofs.Ytbddhlhpakbcdaa
