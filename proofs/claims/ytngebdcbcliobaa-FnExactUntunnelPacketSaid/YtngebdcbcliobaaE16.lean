import Derived.Test.YtngebdcbcliobaaE15
set_option linter.unusedSimpArgs false
set_option linter.unusedVariables false
set_option maxRecDepth 100000
set_option maxHeartbeats 4000000
namespace Go.Proofs.Ytngebdcbcliobaa
open Go Go.AH
attribute [local irreducible] awpT ropsT qopsT stepT condKT gdKT EndT joinK loopKT seqKT blkKT kont kontR
/-! A packet out of a packet -/

def utZ (c : Int) : TV := .agg [.p (.int .i64 c), .p (.int .i64 0), .p (.int .i64 0), .p (.int .i64 0), .p (.int .i64 0), .p (.int .i64 0), .p (.int .i64 0), .p (.int .i64 0), .nl, .p (.int .i64 0), .p (.int .i64 0)]
def utSeq (l : List Int) (t : Int) : Int := gV t (takeN (((restL l).drop 4).take 4))
noncomputable def utI (l : List Int) (k t : Int) : List Int := inL (restL l) k (utSeq l t)
def seenB (t b s : Int) : Bool := decide (seenP t b s)
noncomputable def utC (l : List Int) (k t b : Int) : Int :=
  if winF t b = 0 then (if parseC l = 0 then (if (parseP l).pr = 50 then (if peekC (restL l) = 0 then (if guessC t b (takeN (((restL l).drop 4).take 4)) = 0 then (if seenB t b (utSeq l t) = true then 7 else if inC (restL l) k (utSeq l t) = 0 then parseC (utI l k t) else inC (restL l) k (utSeq l t)) else guessC t b (takeN (((restL l).drop 4).take 4))) else peekC (restL l)) else 1) else parseC l) else winF t b
noncomputable def utV (l : List Int) (k t b : Int) : TV × THeap := if utC l k t b = 0 then
  (.agg [.p (.int .i64 0), .p (.int .i64 (utSeq l t)), .p (.int .i64 (parseP (utI l k t)).fr), .p (.int .i64 (parseP (utI l k t)).to_), .p (.int .i64 (parseP (utI l k t)).pr), .p (.int .i64 (parseP (utI l k t)).ttl), .p (.int .i64 (parseP (utI l k t)).fp), .p (.int .i64 (parseP (utI l k t)).tp), .os 0 0 (restL (utI l k t)).length, .p (.int .i64 (takeW t b (utSeq l t)).1), .p (.int .i64 (takeW t b (utSeq l t)).2)], [.cells 5 1 (bsT (restL (utI l k t)))])
  else (utZ (utC l k t b), [])
theorem utV_bad {l : List Int} {k t b c : Int} (h : utC l k t b = c) (hc : c ≠ 0) : utV l k t b = (utZ c, []) := by unfold utV; rw [h, if_neg hc]
theorem utV_ok {l : List Int} {k t b : Int} (h : utC l k t b = 0) : utV l k t b = (.agg [.p (.int .i64 0), .p (.int .i64 (utSeq l t)), .p (.int .i64 (parseP (utI l k t)).fr), .p (.int .i64 (parseP (utI l k t)).to_), .p (.int .i64 (parseP (utI l k t)).pr), .p (.int .i64 (parseP (utI l k t)).ttl), .p (.int .i64 (parseP (utI l k t)).fp), .p (.int .i64 (parseP (utI l k t)).tp), .os 0 0 (restL (utI l k t)).length, .p (.int .i64 (takeW t b (utSeq l t)).1), .p (.int .i64 (takeW t b (utSeq l t)).2)], [.cells 5 1 (bsT (restL (utI l k t)))]) := by unfold utV; rw [if_pos h]
theorem utV_own (l : List Int) (k t b : Int) : ownT (utV l k t b).1 = true ∧ (utV l k t b).2.all ownB = true := by
  unfold utV; split
  · exact ⟨rfl, by simp only [go_sem, List.all_cons, List.all_nil]⟩
  · exact ⟨rfl, rfl⟩
theorem restL_bd {l : List Int} (h : isB l) : isB (restL l) := by unfold restL; split <;> exact isB_drop h _
theorem restL_len (l : List Int) : (restL l).length ≤ l.length := by unfold restL; split <;> rw [List.length_drop] <;> omega
theorem gV_bd {t b low : Int} (h : guessC t b low = 0) : winF t b = 0 ∧ gV t low ≤ 1099511627776 ∧ 1 ≤ gV t low ∧ t - 32 < gV t low := by
  unfold guessC at h
  split at h
  · rename_i h0
    obtain ⟨t1, t2, _, _⟩ := winF_rng h0
    split at h
    · split at h
      · cases h
      · refine ⟨h0, by omega, ?_⟩
        have h1 : 1 ≤ gLeast t ∧ t - 31 ≤ gLeast t := by unfold gLeast; split <;> omega
        unfold gV
        split <;> omega
    · cases h
  · rename_i h0; exact absurd h h0
theorem takeN_bd4 {l : List Int} (h : isB l) : 0 ≤ takeN (l.take 4) ∧ takeN (l.take 4) ≤ 4294967295 := by
  have := takeN_bd l h 4
  have e : (256 : Int) ^ 4 = 4294967296 := rfl
  omega
noncomputable def unt_S := specP (fun x : List Int × Int × Int × Int => [.s (bsT x.1), .p (.int .i64 x.2.1), .agg [.p (.int .i64 x.2.2.1), .p (.int .i64 x.2.2.2)]]) (fun x => isB x.1 ∧ x.1.length ≤ 1048576) (fun x => utV x.1 x.2.1 x.2.2.1 x.2.2.2)
theorem unt_at (l : List Int) (k t b : Int) (h : isB l ∧ l.length ≤ 1048576) : unt_S [.s (bsT l), .p (.int .i64 k), .agg [.p (.int .i64 t), .p (.int .i64 b)]] = some (utV l k t b) := specP_at (enc := fun x : List Int × Int × Int × Int => [.s (bsT x.1), .p (.int .i64 x.2.1), .agg [.p (.int .i64 x.2.2.1), .p (.int .i64 x.2.2.2)]]) (by rintro ⟨a, c, d, e⟩ ⟨a1, c1, d1, e1⟩ h; simp at h; obtain ⟨h1, h2⟩ := h; simp [bs_inj h1, h2]) (l, k, t, b) h
noncomputable def bad15_S := specP (fun x : Int => [.p (.int .i64 x)]) (fun x => True) (fun x => (utZ x, []))
theorem bad15_at (c : Int) : bad15_S [.p (.int .i64 c)] = some ((utZ c, [])) := specP_at (enc := fun x : Int => [.p (.int .i64 x)]) (by rintro a0 b0 h; simp only [List.cons.injEq, and_true] at h; have h0 := h; obtain rfl := p64_inj h0; rfl) c trivial
-- spec.l15Bad
def c130 : AF := ⟨5,
  (.seq (.reg [⟨(some 2), none, .alloc 86 [(.int .i64 0), (.int .i64 0), (.int .i64 0), (.int .i64 0), (.int .i64 0), (.int .i64 0), (.int .i64 0), (.int .i64 0), (.slice none 0 0), (.int .i64 0), (.int .i64 0)]⟩])
  (.seq (.reg [⟨(some 3), none, .mv (.t 0)⟩,
   ⟨(some 4), none, .build [(.int .i64 0), (.int .i64 0), (.int .i64 0), (.int .i64 0), (.int .i64 0), (.int .i64 0), (.int .i64 0), (.int .i64 0), (.slice none 0 0), (.int .i64 0), (.int .i64 0)] [(0, 1, (.t 3))]⟩,
   ⟨none, none, .st 11 (.t 2) (.t 4)⟩])
  .ret)),
  [.cell 2 (some 11)]⟩
theorem k130 : cFn Try.prog Try.f130 = some c130 := by kernel_rfl
theorem l15Bad_ok : OkT Try.prog 130 (pureSp bad15_S) := by
  refine okT_fn (OkΓT.nil _) Try.func130 (by kernel_rfl) k130 (fun x _ => ⟨rfl, rfl⟩) ?_
  rintro c _
  try dsimp only at *
  dsimp only [utZ]
  (dsimp only [c130]; simp (maxSteps := 8000000) (implicitDefEqProofs := false) (disch := omega) only [↓reduceIte, go_sem, if_pos, if_neg])
  exact endT_v (.inr rfl) (by (simp (maxSteps := 8000000) (implicitDefEqProofs := false) (disch := omega) only [↓reduceIte, go_sem, if_pos, if_neg]) <;> rfl) (fun _ => rfl)
-- impl.UntunnelPacket
def c59 : AF := ⟨92,
  (.seq (.reg [⟨(some 5), none, .box 29 (.t 2)⟩,
   ⟨(some 6), none, .alloc 86 [(.int .i64 0), (.int .i64 0), (.int .i64 0), (.int .i64 0), (.int .i64 0), (.int .i64 0), (.int .i64 0), (.int .i64 0), (.slice none 0 0), (.int .i64 0), (.int .i64 0)]⟩])
  (.seq (.seq (.reg [⟨(some 13), none, .ldn 2 (.t 5)⟩,
   ⟨(some 14), none, .call 84 [(.t 13)]⟩,
   ⟨(some 7), none, .mv (.t 14)⟩])
  (.seq (.reg [⟨(some 15), none, .mv (.t 7)⟩,
   ⟨(some 16), none, .bin .neq (.t 15) (.v (.int .i64 0))⟩])
  (.cond (.t 16) (.seq (.reg [⟨(some 17), none, .mv (.t 7)⟩,
   ⟨(some 18), none, .build [(.int .i64 0), (.int .i64 0), (.int .i64 0), (.int .i64 0), (.int .i64 0), (.int .i64 0), (.int .i64 0), (.int .i64 0), (.slice none 0 0), (.int .i64 0), (.int .i64 0)] [(0, 1, (.t 17))]⟩,
   ⟨none, none, .st 11 (.t 6) (.t 18)⟩])
  .ret)
  .skip)))
  (.seq (.reg [⟨(some 19), none, .mv (.t 0)⟩,
   ⟨(some 20), none, .call 60 [(.t 19)]⟩,
   ⟨(some 8), none, .alloc 89 [(.int .i64 0), (.int .i64 0), (.int .i64 0), (.int .i64 0), (.int .i64 0), (.int .i64 0), (.int .i64 0), (.slice none 0 0)]⟩,
   ⟨none, none, .st 8 (.t 8) (.t 20)⟩])
  (.seq (.block 0 (.seq (.reg [⟨(some 22), none, .fa (.t 8) 0⟩,
   ⟨(some 23), none, .ld (.t 22)⟩,
   ⟨(some 24), none, .bin .neq (.t 23) (.v (.int .i64 0))⟩,
   ⟨(some 21), none, .mv (.t 24)⟩])
  (.cond (.t 21) (.seq (.reg [⟨(some 25), none, .fa (.t 8) 0⟩,
   ⟨(some 26), none, .ld (.t 25)⟩,
   ⟨(some 27), none, .build [(.int .i64 0), (.int .i64 0), (.int .i64 0), (.int .i64 0), (.int .i64 0), (.int .i64 0), (.int .i64 0), (.int .i64 0), (.slice none 0 0), (.int .i64 0), (.int .i64 0)] [(0, 1, (.t 26))]⟩,
   ⟨none, none, .st 11 (.t 6) (.t 27)⟩])
  .ret)
  (.seq (.reg [⟨(some 29), none, .fa (.t 8) 1⟩,
   ⟨(some 30), none, .fa (.t 29) 2⟩,
   ⟨(some 31), none, .ld (.t 30)⟩,
   ⟨(some 32), none, .bin .neq (.t 31) (.v (.int .i64 50))⟩,
   ⟨(some 28), none, .mv (.t 32)⟩])
  (.cond (.t 28) (.seq (.reg [⟨(some 33), none, .build [(.int .i64 0), (.int .i64 0), (.int .i64 0), (.int .i64 0), (.int .i64 0), (.int .i64 0), (.int .i64 0), (.int .i64 0), (.slice none 0 0), (.int .i64 0), (.int .i64 0)] [(0, 1, (.v (.int .i64 1)))]⟩,
   ⟨none, none, .st 11 (.t 6) (.t 33)⟩])
  .ret)
  .skip)))))
  (.seq (.reg [⟨(some 34), none, .fa (.t 8) 1⟩,
   ⟨(some 35), none, .fa (.t 34) 6⟩,
   ⟨(some 36), none, .ld (.t 35)⟩,
   ⟨(some 37), none, .call 61 [(.t 36)]⟩,
   ⟨(some 9), none, .alloc 92 [(.int .i64 0), (.int .i64 0), (.int .i64 0)]⟩,
   ⟨none, none, .st 3 (.t 9) (.t 37)⟩])
  (.seq (.seq (.reg [⟨(some 38), none, .fa (.t 9) 0⟩,
   ⟨(some 39), none, .ld (.t 38)⟩,
   ⟨(some 40), none, .bin .neq (.t 39) (.v (.int .i64 0))⟩])
  (.cond (.t 40) (.seq (.reg [⟨(some 41), none, .fa (.t 9) 0⟩,
   ⟨(some 42), none, .ld (.t 41)⟩,
   ⟨(some 43), none, .build [(.int .i64 0), (.int .i64 0), (.int .i64 0), (.int .i64 0), (.int .i64 0), (.int .i64 0), (.int .i64 0), (.int .i64 0), (.slice none 0 0), (.int .i64 0), (.int .i64 0)] [(0, 1, (.t 42))]⟩,
   ⟨none, none, .st 11 (.t 6) (.t 43)⟩])
  .ret)
  .skip))
  (.seq (.reg [⟨(some 44), none, .ldn 2 (.t 5)⟩,
   ⟨(some 45), none, .fa (.t 9) 2⟩,
   ⟨(some 46), none, .ld (.t 45)⟩,
   ⟨(some 47), none, .call 120 [(.t 44), (.t 46)]⟩,
   ⟨(some 10), none, .alloc 135 [(.int .i64 0), (.int .i64 0)]⟩,
   ⟨none, none, .st 2 (.t 10) (.t 47)⟩])
  (.seq (.block 1 (.seq (.reg [⟨(some 49), none, .fa (.t 10) 0⟩,
   ⟨(some 50), none, .ld (.t 49)⟩,
   ⟨(some 51), none, .bin .neq (.t 50) (.v (.int .i64 0))⟩,
   ⟨(some 48), none, .mv (.t 51)⟩])
  (.cond (.t 48) (.seq (.reg [⟨(some 52), none, .fa (.t 10) 0⟩,
   ⟨(some 53), none, .ld (.t 52)⟩,
   ⟨(some 54), none, .build [(.int .i64 0), (.int .i64 0), (.int .i64 0), (.int .i64 0), (.int .i64 0), (.int .i64 0), (.int .i64 0), (.int .i64 0), (.slice none 0 0), (.int .i64 0), (.int .i64 0)] [(0, 1, (.t 53))]⟩,
   ⟨none, none, .st 11 (.t 6) (.t 54)⟩])
  .ret)
  (.seq (.reg [⟨(some 56), none, .ldn 2 (.t 5)⟩,
   ⟨(some 57), none, .fa (.t 10) 1⟩,
   ⟨(some 58), none, .ld (.t 57)⟩,
   ⟨(some 59), none, .call 121 [(.t 56), (.t 58)]⟩,
   ⟨(some 55), none, .mv (.t 59)⟩])
  (.cond (.t 55) (.seq (.reg [⟨(some 60), none, .build [(.int .i64 0), (.int .i64 0), (.int .i64 0), (.int .i64 0), (.int .i64 0), (.int .i64 0), (.int .i64 0), (.int .i64 0), (.slice none 0 0), (.int .i64 0), (.int .i64 0)] [(0, 1, (.v (.int .i64 7)))]⟩,
   ⟨none, none, .st 11 (.t 6) (.t 60)⟩])
  .ret)
  .skip)))))
  (.seq (.reg [⟨(some 61), none, .fa (.t 8) 1⟩,
   ⟨(some 62), none, .fa (.t 61) 6⟩,
   ⟨(some 63), none, .ld (.t 62)⟩,
   ⟨(some 64), none, .mv (.t 1)⟩,
   ⟨(some 65), none, .fa (.t 10) 1⟩,
   ⟨(some 66), none, .ld (.t 65)⟩,
   ⟨(some 67), none, .call 122 [(.t 63), (.t 64), (.t 66)]⟩,
   ⟨(some 11), none, .alloc 139 [(.int .i64 0), (.int .i64 0), (.slice none 0 0)]⟩,
   ⟨none, none, .st 3 (.t 11) (.t 67)⟩])
  (.seq (.seq (.reg [⟨(some 68), none, .fa (.t 11) 0⟩,
   ⟨(some 69), none, .ld (.t 68)⟩,
   ⟨(some 70), none, .bin .neq (.t 69) (.v (.int .i64 0))⟩])
  (.cond (.t 70) (.seq (.reg [⟨(some 71), none, .fa (.t 11) 0⟩,
   ⟨(some 72), none, .ld (.t 71)⟩,
   ⟨(some 73), none, .build [(.int .i64 0), (.int .i64 0), (.int .i64 0), (.int .i64 0), (.int .i64 0), (.int .i64 0), (.int .i64 0), (.int .i64 0), (.slice none 0 0), (.int .i64 0), (.int .i64 0)] [(0, 1, (.t 72))]⟩,
   ⟨none, none, .st 11 (.t 6) (.t 73)⟩])
  .ret)
  .skip))
  (.seq (.reg [⟨(some 74), none, .fa (.t 11) 2⟩,
   ⟨(some 75), none, .ld (.t 74)⟩,
   ⟨(some 76), none, .call 60 [(.t 75)]⟩,
   ⟨(some 12), none, .alloc 89 [(.int .i64 0), (.int .i64 0), (.int .i64 0), (.int .i64 0), (.int .i64 0), (.int .i64 0), (.int .i64 0), (.slice none 0 0)]⟩,
   ⟨none, none, .st 8 (.t 12) (.t 76)⟩])
  (.seq (.seq (.reg [⟨(some 77), none, .fa (.t 12) 0⟩,
   ⟨(some 78), none, .ld (.t 77)⟩,
   ⟨(some 79), none, .bin .neq (.t 78) (.v (.int .i64 0))⟩])
  (.cond (.t 79) (.seq (.reg [⟨(some 80), none, .fa (.t 12) 0⟩,
   ⟨(some 81), none, .ld (.t 80)⟩,
   ⟨(some 82), none, .build [(.int .i64 0), (.int .i64 0), (.int .i64 0), (.int .i64 0), (.int .i64 0), (.int .i64 0), (.int .i64 0), (.int .i64 0), (.slice none 0 0), (.int .i64 0), (.int .i64 0)] [(0, 1, (.t 81))]⟩,
   ⟨none, none, .st 11 (.t 6) (.t 82)⟩])
  .ret)
  .skip))
  (.seq (.drw [⟨(some 83), none, .fa (.t 10) 1⟩,
   ⟨(some 84), none, .ld (.t 83)⟩,
   ⟨(some 85), none, .fa (.t 12) 1⟩,
   ⟨(some 86), none, .ldn 7 (.t 85)⟩,
   ⟨(some 87), none, .ldn 2 (.t 5)⟩,
   ⟨(some 88), none, .fa (.t 10) 1⟩,
   ⟨(some 89), none, .ld (.t 88)⟩,
   ⟨(some 90), none, .call 123 [(.t 87), (.t 89)]⟩] [⟨(some 91), none, .build [(.int .i64 0), (.int .i64 0), (.int .i64 0), (.int .i64 0), (.int .i64 0), (.int .i64 0), (.int .i64 0), (.int .i64 0), (.slice none 0 0), (.int .i64 0), (.int .i64 0)] [(0, 1, (.v (.int .i64 0))), (1, 1, (.t 84)), (2, 7, (.t 86)), (9, 2, (.t 90))]⟩,
   ⟨none, none, .st 11 (.t 6) (.t 91)⟩])
  .ret))))))))))))),
  [.cell 6 (some 11)]⟩
theorem k59 : cFn Try.prog Try.f59 = some c59 := by kernel_rfl
theorem untI_ok : OkT Try.prog 59 (pureSp unt_S) := by
  refine okT_fn (OkΓT.cons winFI_ok (OkΓT.cons parseI_ok (OkΓT.cons peekI_ok (OkΓT.cons guessI_ok (OkΓT.cons seenI_ok (OkΓT.cons unwI_ok (OkΓT.cons takenI_ok (OkΓT.nil _)))))))) Try.func59 (by kernel_rfl) k59 (fun x _ => utV_own _ _ _ _) ?_
  rintro ⟨l, k, t, b⟩ ⟨h1, h2⟩
  try dsimp only at *
  have hw := winF_at t b
  by_cases c0 : winF t b = 0
  case neg =>
    rw [utV_bad (c := winF t b) (by unfold utC; rw [if_neg c0]) c0]
    generalize winF t b = cc at *
    dsimp only [utZ, pkA, pkZ] at *
    (dsimp only [c59]; simp (maxSteps := 8000000) (implicitDefEqProofs := false) (disch := omega) only [↓reduceIte, go_sem, if_pos, if_neg, hw, eq_false c0])
    exact endT_v (.inr rfl) (by (simp (maxSteps := 8000000) (implicitDefEqProofs := false) (disch := omega) only [↓reduceIte, go_sem, if_pos, if_neg]) <;> rfl) (fun _ => rfl)
  rw [c0] at hw
  have hpa := parse_at l ⟨h1, h2⟩
  by_cases c1 : parseC l = 0
  case neg =>
    rw [parseV_bad rfl c1] at hpa
    rw [utV_bad (c := parseC l) (by unfold utC; rw [if_pos c0, if_neg c1]) c1]
    generalize parseC l = cc at *
    dsimp only [utZ, pkA, pkZ] at *
    (dsimp only [c59]; simp (maxSteps := 8000000) (implicitDefEqProofs := false) (disch := omega) only [↓reduceIte, go_sem, if_pos, if_neg, hw, hpa, eq_false c1])
    exact endT_v (.inr rfl) (by (simp (maxSteps := 8000000) (implicitDefEqProofs := false) (disch := omega) only [↓reduceIte, go_sem, if_pos, if_neg]) <;> rfl) (fun _ => rfl)
  rw [parseV_ok c1] at hpa
  have hrb := restL_bd h1
  have hrl := restL_len l
  have hC1 : utC l k t b = (if (parseP l).pr = 50 then (if peekC (restL l) = 0 then (if guessC t b (takeN (((restL l).drop 4).take 4)) = 0 then (if seenB t b (utSeq l t) = true then 7 else if inC (restL l) k (utSeq l t) = 0 then parseC (utI l k t) else inC (restL l) k (utSeq l t)) else guessC t b (takeN (((restL l).drop 4).take 4))) else peekC (restL l)) else 1) := by
    unfold utC; rw [if_pos c0, if_pos c1]
  have hus : utSeq l t = gV t (takeN (((restL l).drop 4).take 4)) := rfl
  have hut : utI l k t = inL (restL l) k (utSeq l t) := rfl
  have htk : (restL l).take (restL l).length = restL l := List.take_length
  generalize parseP l = pp at *
  generalize restL l = rl at *
  by_cases c2 : pp.pr = 50
  case neg =>
    rw [utV_bad (c := 1) (by rw [hC1, if_neg c2]) (by decide)]
    dsimp only [utZ, pkA, pkZ] at *
    (dsimp only [c59]; simp (maxSteps := 8000000) (implicitDefEqProofs := false) (disch := omega) only [↓reduceIte, go_sem, if_pos, if_neg, hw, hpa, eq_false c2])
    exact endT_v (.inr rfl) (by (simp (maxSteps := 8000000) (implicitDefEqProofs := false) (disch := omega) only [↓reduceIte, go_sem, if_pos, if_neg]) <;> rfl) (fun _ => rfl)
  rw [if_pos c2] at hC1
  have hpe := peek_at rl ⟨hrb, by omega⟩
  by_cases c3 : (14 ≤ (rl.length : Int) ∧ (rl.length : Int) ≤ 300) ∧ ¬ takeN (rl.take 4) = 0
  case neg =>
    obtain ⟨p1, p2⟩ := peekV_bad c3
    rw [p2] at hpe
    rw [utV_bad (c := 5) (by rw [hC1, p1]; rfl) (by decide)]
    dsimp only [utZ, pkA, pkZ] at *
    (dsimp only [c59]; simp (maxSteps := 8000000) (implicitDefEqProofs := false) (disch := omega) only [↓reduceIte, go_sem, if_pos, if_neg, hw, hpa, eq_true c2, htk, hpe])
    exact endT_v (.inr rfl) (by (simp (maxSteps := 8000000) (implicitDefEqProofs := false) (disch := omega) only [↓reduceIte, go_sem, if_pos, if_neg]) <;> rfl) (fun _ => rfl)
  obtain ⟨p1, p2⟩ := peekV_ok c3
  rw [p2] at hpe
  rw [if_pos p1] at hC1
  have hgu := guess_at t b (takeN ((rl.drop 4).take 4))
  generalize takeN ((rl.drop 4).take 4) = low at *
  by_cases c4 : guessC t b low = 0
  case neg =>
    rw [guess_bad rfl c4] at hgu
    rw [utV_bad (c := guessC t b low) (by rw [hC1, if_neg c4]) c4]
    generalize guessC t b low = cc at *
    dsimp only [utZ, pkA, pkZ] at *
    (dsimp only [c59]; simp (maxSteps := 8000000) (implicitDefEqProofs := false) (disch := omega) only [↓reduceIte, go_sem, if_pos, if_neg, hw, hpa, eq_true c2, htk, hpe, hgu, eq_false c4])
    exact endT_v (.inr rfl) (by (simp (maxSteps := 8000000) (implicitDefEqProofs := false) (disch := omega) only [↓reduceIte, go_sem, if_pos, if_neg]) <;> rfl) (fun _ => rfl)
  rw [guess_ok c4] at hgu
  rw [if_pos c4] at hC1
  obtain ⟨_, g1, g2, g3⟩ := gV_bd c4
  rw [← hus] at g1 g2 g3 hgu
  generalize hsq : utSeq l t = sq at *
  have hse := seen_at t b sq (by omega)
  by_cases c5 : seenP t b sq
  case pos =>
    rw [decide_eq_true c5] at hse
    rw [utV_bad (c := 7) (by rw [hC1, if_pos (show seenB t b sq = true from decide_eq_true c5)]) (by decide)]
    dsimp only [utZ, pkA, pkZ] at *
    (dsimp only [c59]; simp (maxSteps := 8000000) (implicitDefEqProofs := false) (disch := omega) only [↓reduceIte, go_sem, if_pos, if_neg, hw, hpa, eq_true c2, htk, hpe, hgu, hse])
    exact endT_v (.inr rfl) (by (simp (maxSteps := 8000000) (implicitDefEqProofs := false) (disch := omega) only [↓reduceIte, go_sem, if_pos, if_neg]) <;> rfl) (fun _ => rfl)
  rw [decide_eq_false c5] at hse
  rw [if_neg (show ¬ seenB t b sq = true from fun h => c5 (of_decide_eq_true h))] at hC1
  have hun := unwrap_at rl k sq ⟨hrb, by omega⟩
  by_cases c6 : inC rl k sq = 0
  case neg =>
    rw [inV_bad rfl c6] at hun
    rw [utV_bad (c := inC rl k sq) (by rw [hC1, if_neg c6]) c6]
    generalize inC rl k sq = cc at *
    dsimp only [utZ, pkA, pkZ] at *
    (dsimp only [c59]; simp (maxSteps := 8000000) (implicitDefEqProofs := false) (disch := omega) only [↓reduceIte, go_sem, if_pos, if_neg, hw, hpa, eq_true c2, htk, hpe, hgu, hse, hun, eq_false c6])
    exact endT_v (.inr rfl) (by (simp (maxSteps := 8000000) (implicitDefEqProofs := false) (disch := omega) only [↓reduceIte, go_sem, if_pos, if_neg]) <;> rfl) (fun _ => rfl)
  rw [inV_ok c6] at hun
  rw [if_pos c6] at hC1
  have hib := inL_bd rl k sq
  have hil := inL_len rl k sq
  rw [← hut] at hun hib hil
  generalize hil1 : utI l k t = il at *
  have htk2 : il.take il.length = il := List.take_length
  have hp2 := parse_at il ⟨hib, by omega⟩
  by_cases c7 : parseC il = 0
  case neg =>
    rw [parseV_bad rfl c7] at hp2
    rw [utV_bad (c := parseC il) (by rw [hC1]) c7]
    generalize parseC il = cc at *
    dsimp only [utZ, pkA, pkZ] at *
    (dsimp only [c59]; simp (maxSteps := 8000000) (implicitDefEqProofs := false) (disch := omega) only [↓reduceIte, go_sem, if_pos, if_neg, hw, hpa, eq_true c2, htk, hpe, hgu, hse, hun, htk2, hp2, eq_false c7])
    exact endT_v (.inr rfl) (by (simp (maxSteps := 8000000) (implicitDefEqProofs := false) (disch := omega) only [↓reduceIte, go_sem, if_pos, if_neg]) <;> rfl) (fun _ => rfl)
  rw [parseV_ok c7] at hp2
  have htw := taken_at t b sq ⟨c0, g2, g1, g3⟩
  rw [utV_ok (by rw [hC1, c7])]
  rw [hil1, hsq]
  generalize takeW t b sq = tw at *
  generalize parseP il = pi at *
  generalize restL il = ri at *
  dsimp only [pkA, pkZ] at *
  (dsimp only [c59]; simp (maxSteps := 8000000) (implicitDefEqProofs := false) (disch := omega) only [↓reduceIte, go_sem, if_pos, if_neg, hw, hpa, eq_true c2, htk, hpe, hgu, hse, hun, htk2, hp2, htw])
  exact endT_of [8] (.inr rfl) (by simp (maxSteps := 8000000) (implicitDefEqProofs := false) (disch := omega) only [↓reduceIte, go_sem, if_pos, if_neg]; rfl) (by simp (maxSteps := 8000000) (implicitDefEqProofs := false) (disch := omega) only [↓reduceIte, go_sem, if_pos, if_neg]) (by simp (maxSteps := 8000000) (implicitDefEqProofs := false) (disch := omega) only [↓reduceIte, go_sem, if_pos, if_neg]) (by decide) (by simp)
-- spec.UntunnelPacket
def c63 : AF := ⟨91,
  (.seq (.reg [⟨(some 5), none, .box 29 (.t 2)⟩,
   ⟨(some 6), none, .alloc 86 [(.int .i64 0), (.int .i64 0), (.int .i64 0), (.int .i64 0), (.int .i64 0), (.int .i64 0), (.int .i64 0), (.int .i64 0), (.slice none 0 0), (.int .i64 0), (.int .i64 0)]⟩])
  (.seq (.seq (.reg [⟨(some 14), none, .ldn 2 (.t 5)⟩,
   ⟨(some 15), none, .call 76 [(.t 14)]⟩,
   ⟨(some 7), none, .mv (.t 15)⟩])
  (.seq (.reg [⟨(some 16), none, .mv (.t 7)⟩,
   ⟨(some 17), none, .bin .neq (.t 16) (.v (.int .i64 0))⟩])
  (.cond (.t 17) (.seq (.reg [⟨(some 18), none, .mv (.t 7)⟩,
   ⟨(some 19), none, .call 130 [(.t 18)]⟩,
   ⟨none, none, .st 11 (.t 6) (.t 19)⟩])
  .ret)
  .skip)))
  (.seq (.reg [⟨(some 20), none, .mv (.t 0)⟩,
   ⟨(some 21), none, .call 131 [(.t 20)]⟩,
   ⟨(some 8), none, .alloc 89 [(.int .i64 0), (.int .i64 0), (.int .i64 0), (.int .i64 0), (.int .i64 0), (.int .i64 0), (.int .i64 0), (.slice none 0 0)]⟩,
   ⟨none, none, .st 8 (.t 8) (.t 21)⟩])
  (.seq (.seq (.reg [⟨(some 22), none, .fa (.t 8) 0⟩,
   ⟨(some 23), none, .ld (.t 22)⟩,
   ⟨(some 24), none, .bin .neq (.t 23) (.v (.int .i64 0))⟩])
  (.cond (.t 24) (.seq (.reg [⟨(some 25), none, .fa (.t 8) 0⟩,
   ⟨(some 26), none, .ld (.t 25)⟩,
   ⟨(some 27), none, .call 130 [(.t 26)]⟩,
   ⟨none, none, .st 11 (.t 6) (.t 27)⟩])
  .ret)
  .skip))
  (.seq (.seq (.reg [⟨(some 28), none, .fa (.t 8) 1⟩,
   ⟨(some 29), none, .fa (.t 28) 2⟩,
   ⟨(some 30), none, .ld (.t 29)⟩,
   ⟨(some 31), none, .bin .neq (.t 30) (.v (.int .i64 50))⟩])
  (.cond (.t 31) (.seq (.reg [⟨(some 32), none, .call 130 [(.v (.int .i64 1))]⟩,
   ⟨none, none, .st 11 (.t 6) (.t 32)⟩])
  .ret)
  .skip))
  (.seq (.reg [⟨(some 33), none, .fa (.t 8) 1⟩,
   ⟨(some 34), none, .fa (.t 33) 6⟩,
   ⟨(some 35), none, .ld (.t 34)⟩,
   ⟨(some 36), none, .call 132 [(.t 35)]⟩,
   ⟨(some 9), none, .alloc 92 [(.int .i64 0), (.int .i64 0), (.int .i64 0)]⟩,
   ⟨none, none, .st 3 (.t 9) (.t 36)⟩])
  (.seq (.seq (.reg [⟨(some 37), none, .fa (.t 9) 0⟩,
   ⟨(some 38), none, .ld (.t 37)⟩,
   ⟨(some 39), none, .bin .neq (.t 38) (.v (.int .i64 0))⟩])
  (.cond (.t 39) (.seq (.reg [⟨(some 40), none, .fa (.t 9) 0⟩,
   ⟨(some 41), none, .ld (.t 40)⟩,
   ⟨(some 42), none, .call 130 [(.t 41)]⟩,
   ⟨none, none, .st 11 (.t 6) (.t 42)⟩])
  .ret)
  .skip))
  (.seq (.reg [⟨(some 43), none, .ldn 2 (.t 5)⟩,
   ⟨(some 44), none, .fa (.t 9) 2⟩,
   ⟨(some 45), none, .ld (.t 44)⟩,
   ⟨(some 46), none, .call 133 [(.t 43), (.t 45)]⟩,
   ⟨(some 10), none, .alloc 135 [(.int .i64 0), (.int .i64 0)]⟩,
   ⟨none, none, .st 2 (.t 10) (.t 46)⟩])
  (.seq (.seq (.reg [⟨(some 47), none, .fa (.t 10) 0⟩,
   ⟨(some 48), none, .ld (.t 47)⟩,
   ⟨(some 49), none, .bin .neq (.t 48) (.v (.int .i64 0))⟩])
  (.cond (.t 49) (.seq (.reg [⟨(some 50), none, .fa (.t 10) 0⟩,
   ⟨(some 51), none, .ld (.t 50)⟩,
   ⟨(some 52), none, .call 130 [(.t 51)]⟩,
   ⟨none, none, .st 11 (.t 6) (.t 52)⟩])
  .ret)
  .skip))
  (.seq (.seq (.reg [⟨(some 53), none, .ldn 2 (.t 5)⟩,
   ⟨(some 54), none, .fa (.t 10) 1⟩,
   ⟨(some 55), none, .ld (.t 54)⟩,
   ⟨(some 56), none, .call 134 [(.t 53), (.t 55)]⟩])
  (.cond (.t 56) (.seq (.reg [⟨(some 57), none, .call 130 [(.v (.int .i64 7))]⟩,
   ⟨none, none, .st 11 (.t 6) (.t 57)⟩])
  .ret)
  .skip))
  (.seq (.reg [⟨(some 58), none, .fa (.t 8) 1⟩,
   ⟨(some 59), none, .fa (.t 58) 6⟩,
   ⟨(some 60), none, .ld (.t 59)⟩,
   ⟨(some 61), none, .mv (.t 1)⟩,
   ⟨(some 62), none, .fa (.t 10) 1⟩,
   ⟨(some 63), none, .ld (.t 62)⟩,
   ⟨(some 64), none, .call 135 [(.t 60), (.t 61), (.t 63)]⟩,
   ⟨(some 11), none, .alloc 139 [(.int .i64 0), (.int .i64 0), (.slice none 0 0)]⟩,
   ⟨none, none, .st 3 (.t 11) (.t 64)⟩])
  (.seq (.seq (.reg [⟨(some 65), none, .fa (.t 11) 0⟩,
   ⟨(some 66), none, .ld (.t 65)⟩,
   ⟨(some 67), none, .bin .neq (.t 66) (.v (.int .i64 0))⟩])
  (.cond (.t 67) (.seq (.reg [⟨(some 68), none, .fa (.t 11) 0⟩,
   ⟨(some 69), none, .ld (.t 68)⟩,
   ⟨(some 70), none, .call 130 [(.t 69)]⟩,
   ⟨none, none, .st 11 (.t 6) (.t 70)⟩])
  .ret)
  .skip))
  (.seq (.reg [⟨(some 71), none, .fa (.t 11) 2⟩,
   ⟨(some 72), none, .ld (.t 71)⟩,
   ⟨(some 73), none, .call 131 [(.t 72)]⟩,
   ⟨(some 12), none, .alloc 89 [(.int .i64 0), (.int .i64 0), (.int .i64 0), (.int .i64 0), (.int .i64 0), (.int .i64 0), (.int .i64 0), (.slice none 0 0)]⟩,
   ⟨none, none, .st 8 (.t 12) (.t 73)⟩])
  (.seq (.seq (.reg [⟨(some 74), none, .fa (.t 12) 0⟩,
   ⟨(some 75), none, .ld (.t 74)⟩,
   ⟨(some 76), none, .bin .neq (.t 75) (.v (.int .i64 0))⟩])
  (.cond (.t 76) (.seq (.reg [⟨(some 77), none, .fa (.t 12) 0⟩,
   ⟨(some 78), none, .ld (.t 77)⟩,
   ⟨(some 79), none, .call 130 [(.t 78)]⟩,
   ⟨none, none, .st 11 (.t 6) (.t 79)⟩])
  .ret)
  .skip))
  (.seq (.reg [⟨(some 80), none, .ldn 2 (.t 5)⟩,
   ⟨(some 81), none, .fa (.t 10) 1⟩,
   ⟨(some 82), none, .ld (.t 81)⟩,
   ⟨(some 83), none, .call 136 [(.t 80), (.t 82)]⟩,
   ⟨(some 13), none, .alloc 145 [(.int .i64 0), (.int .i64 0), (.int .i64 0), (.int .i64 0)]⟩,
   ⟨none, none, .st 4 (.t 13) (.t 83)⟩])
  (.seq (.reg [⟨(some 84), none, .fa (.t 10) 1⟩,
   ⟨(some 85), none, .ld (.t 84)⟩,
   ⟨(some 86), none, .fa (.t 12) 1⟩,
   ⟨(some 87), none, .ldn 7 (.t 86)⟩,
   ⟨(some 88), none, .fa (.t 13) 2⟩,
   ⟨(some 89), none, .ldn 2 (.t 88)⟩,
   ⟨(some 90), none, .build [(.int .i64 0), (.int .i64 0), (.int .i64 0), (.int .i64 0), (.int .i64 0), (.int .i64 0), (.int .i64 0), (.int .i64 0), (.slice none 0 0), (.int .i64 0), (.int .i64 0)] [(1, 1, (.t 85)), (2, 7, (.t 87)), (9, 2, (.t 89))]⟩,
   ⟨none, none, .st 11 (.t 6) (.t 90)⟩])
  .ret)))))))))))))))),
  [.cell 6 (some 11)]⟩
theorem k63 : cFn Try.prog Try.f63 = some c63 := by kernel_rfl
theorem untS_ok : OkT Try.prog 63 (pureSp unt_S) := by
  refine okT_fn (OkΓT.cons winFS_ok (OkΓT.cons l15Bad_ok (OkΓT.cons parseS_ok (OkΓT.cons peekS_ok (OkΓT.cons guessS_ok (OkΓT.cons seenS_ok (OkΓT.cons unwS_ok (OkΓT.cons takeS_ok (OkΓT.nil _))))))))) Try.func63 (by kernel_rfl) k63 (fun x _ => utV_own _ _ _ _) ?_
  rintro ⟨l, k, t, b⟩ ⟨h1, h2⟩
  try dsimp only at *
  have hw := winF_at t b
  by_cases c0 : winF t b = 0
  case neg =>
    rw [utV_bad (c := winF t b) (by unfold utC; rw [if_neg c0]) c0]
    generalize winF t b = cc at *
    dsimp only [utZ, pkA, pkZ] at *
    (dsimp only [c63]; simp (maxSteps := 8000000) (implicitDefEqProofs := false) (disch := omega) only [↓reduceIte, go_sem, if_pos, if_neg, bad15_at, utZ, hw, eq_false c0])
    exact endT_v (.inr rfl) (by (simp (maxSteps := 8000000) (implicitDefEqProofs := false) (disch := omega) only [↓reduceIte, go_sem, if_pos, if_neg]) <;> rfl) (fun _ => rfl)
  rw [c0] at hw
  have hpa := parse_at l ⟨h1, h2⟩
  by_cases c1 : parseC l = 0
  case neg =>
    rw [parseV_bad rfl c1] at hpa
    rw [utV_bad (c := parseC l) (by unfold utC; rw [if_pos c0, if_neg c1]) c1]
    generalize parseC l = cc at *
    dsimp only [utZ, pkA, pkZ] at *
    (dsimp only [c63]; simp (maxSteps := 8000000) (implicitDefEqProofs := false) (disch := omega) only [↓reduceIte, go_sem, if_pos, if_neg, bad15_at, utZ, hw, hpa, eq_false c1])
    exact endT_v (.inr rfl) (by (simp (maxSteps := 8000000) (implicitDefEqProofs := false) (disch := omega) only [↓reduceIte, go_sem, if_pos, if_neg]) <;> rfl) (fun _ => rfl)
  rw [parseV_ok c1] at hpa
  have hrb := restL_bd h1
  have hrl := restL_len l
  have hC1 : utC l k t b = (if (parseP l).pr = 50 then (if peekC (restL l) = 0 then (if guessC t b (takeN (((restL l).drop 4).take 4)) = 0 then (if seenB t b (utSeq l t) = true then 7 else if inC (restL l) k (utSeq l t) = 0 then parseC (utI l k t) else inC (restL l) k (utSeq l t)) else guessC t b (takeN (((restL l).drop 4).take 4))) else peekC (restL l)) else 1) := by
    unfold utC; rw [if_pos c0, if_pos c1]
  have hus : utSeq l t = gV t (takeN (((restL l).drop 4).take 4)) := rfl
  have hut : utI l k t = inL (restL l) k (utSeq l t) := rfl
  have htk : (restL l).take (restL l).length = restL l := List.take_length
  generalize parseP l = pp at *
  generalize restL l = rl at *
  by_cases c2 : pp.pr = 50
  case neg =>
    rw [utV_bad (c := 1) (by rw [hC1, if_neg c2]) (by decide)]
    dsimp only [utZ, pkA, pkZ] at *
    (dsimp only [c63]; simp (maxSteps := 8000000) (implicitDefEqProofs := false) (disch := omega) only [↓reduceIte, go_sem, if_pos, if_neg, bad15_at, utZ, hw, hpa, eq_false c2])
    exact endT_v (.inr rfl) (by (simp (maxSteps := 8000000) (implicitDefEqProofs := false) (disch := omega) only [↓reduceIte, go_sem, if_pos, if_neg]) <;> rfl) (fun _ => rfl)
  rw [if_pos c2] at hC1
  have hpe := peek_at rl ⟨hrb, by omega⟩
  by_cases c3 : (14 ≤ (rl.length : Int) ∧ (rl.length : Int) ≤ 300) ∧ ¬ takeN (rl.take 4) = 0
  case neg =>
    obtain ⟨p1, p2⟩ := peekV_bad c3
    rw [p2] at hpe
    rw [utV_bad (c := 5) (by rw [hC1, p1]; rfl) (by decide)]
    dsimp only [utZ, pkA, pkZ] at *
    (dsimp only [c63]; simp (maxSteps := 8000000) (implicitDefEqProofs := false) (disch := omega) only [↓reduceIte, go_sem, if_pos, if_neg, bad15_at, utZ, hw, hpa, eq_true c2, htk, hpe])
    exact endT_v (.inr rfl) (by (simp (maxSteps := 8000000) (implicitDefEqProofs := false) (disch := omega) only [↓reduceIte, go_sem, if_pos, if_neg]) <;> rfl) (fun _ => rfl)
  obtain ⟨p1, p2⟩ := peekV_ok c3
  rw [p2] at hpe
  rw [if_pos p1] at hC1
  have hgu := guess_at t b (takeN ((rl.drop 4).take 4))
  generalize takeN ((rl.drop 4).take 4) = low at *
  by_cases c4 : guessC t b low = 0
  case neg =>
    rw [guess_bad rfl c4] at hgu
    rw [utV_bad (c := guessC t b low) (by rw [hC1, if_neg c4]) c4]
    generalize guessC t b low = cc at *
    dsimp only [utZ, pkA, pkZ] at *
    (dsimp only [c63]; simp (maxSteps := 8000000) (implicitDefEqProofs := false) (disch := omega) only [↓reduceIte, go_sem, if_pos, if_neg, bad15_at, utZ, hw, hpa, eq_true c2, htk, hpe, hgu, eq_false c4])
    exact endT_v (.inr rfl) (by (simp (maxSteps := 8000000) (implicitDefEqProofs := false) (disch := omega) only [↓reduceIte, go_sem, if_pos, if_neg]) <;> rfl) (fun _ => rfl)
  rw [guess_ok c4] at hgu
  rw [if_pos c4] at hC1
  obtain ⟨_, g1, g2, g3⟩ := gV_bd c4
  rw [← hus] at g1 g2 g3 hgu
  generalize hsq : utSeq l t = sq at *
  have hse := seen_at t b sq (by omega)
  by_cases c5 : seenP t b sq
  case pos =>
    rw [decide_eq_true c5] at hse
    rw [utV_bad (c := 7) (by rw [hC1, if_pos (show seenB t b sq = true from decide_eq_true c5)]) (by decide)]
    dsimp only [utZ, pkA, pkZ] at *
    (dsimp only [c63]; simp (maxSteps := 8000000) (implicitDefEqProofs := false) (disch := omega) only [↓reduceIte, go_sem, if_pos, if_neg, bad15_at, utZ, hw, hpa, eq_true c2, htk, hpe, hgu, hse])
    exact endT_v (.inr rfl) (by (simp (maxSteps := 8000000) (implicitDefEqProofs := false) (disch := omega) only [↓reduceIte, go_sem, if_pos, if_neg]) <;> rfl) (fun _ => rfl)
  rw [decide_eq_false c5] at hse
  rw [if_neg (show ¬ seenB t b sq = true from fun h => c5 (of_decide_eq_true h))] at hC1
  have hun := unwrap_at rl k sq ⟨hrb, by omega⟩
  by_cases c6 : inC rl k sq = 0
  case neg =>
    rw [inV_bad rfl c6] at hun
    rw [utV_bad (c := inC rl k sq) (by rw [hC1, if_neg c6]) c6]
    generalize inC rl k sq = cc at *
    dsimp only [utZ, pkA, pkZ] at *
    (dsimp only [c63]; simp (maxSteps := 8000000) (implicitDefEqProofs := false) (disch := omega) only [↓reduceIte, go_sem, if_pos, if_neg, bad15_at, utZ, hw, hpa, eq_true c2, htk, hpe, hgu, hse, hun, eq_false c6])
    exact endT_v (.inr rfl) (by (simp (maxSteps := 8000000) (implicitDefEqProofs := false) (disch := omega) only [↓reduceIte, go_sem, if_pos, if_neg]) <;> rfl) (fun _ => rfl)
  rw [inV_ok c6] at hun
  rw [if_pos c6] at hC1
  have hib := inL_bd rl k sq
  have hil := inL_len rl k sq
  rw [← hut] at hun hib hil
  generalize hil1 : utI l k t = il at *
  have htk2 : il.take il.length = il := List.take_length
  have hp2 := parse_at il ⟨hib, by omega⟩
  by_cases c7 : parseC il = 0
  case neg =>
    rw [parseV_bad rfl c7] at hp2
    rw [utV_bad (c := parseC il) (by rw [hC1]) c7]
    generalize parseC il = cc at *
    dsimp only [utZ, pkA, pkZ] at *
    (dsimp only [c63]; simp (maxSteps := 8000000) (implicitDefEqProofs := false) (disch := omega) only [↓reduceIte, go_sem, if_pos, if_neg, bad15_at, utZ, hw, hpa, eq_true c2, htk, hpe, hgu, hse, hun, htk2, hp2, eq_false c7])
    exact endT_v (.inr rfl) (by (simp (maxSteps := 8000000) (implicitDefEqProofs := false) (disch := omega) only [↓reduceIte, go_sem, if_pos, if_neg]) <;> rfl) (fun _ => rfl)
  rw [parseV_ok c7] at hp2
  have htw := take10_at t b sq ⟨c0, g2, g1, g3, fun h => c5 (.inr (.inr (.inr h)))⟩
  rw [utV_ok (by rw [hC1, c7])]
  rw [hil1, hsq]
  generalize takeW t b sq = tw at *
  generalize parseP il = pi at *
  generalize restL il = ri at *
  dsimp only [pkA, pkZ] at *
  (dsimp only [c63]; simp (maxSteps := 8000000) (implicitDefEqProofs := false) (disch := omega) only [↓reduceIte, go_sem, if_pos, if_neg, hw, hpa, eq_true c2, htk, hpe, hgu, hse, hun, htk2, hp2, htw])
  exact endT_of [8] (.inr rfl) (by simp (maxSteps := 8000000) (implicitDefEqProofs := false) (disch := omega) only [↓reduceIte, go_sem, if_pos, if_neg]; rfl) (by simp (maxSteps := 8000000) (implicitDefEqProofs := false) (disch := omega) only [↓reduceIte, go_sem, if_pos, if_neg]) (by simp (maxSteps := 8000000) (implicitDefEqProofs := false) (disch := omega) only [↓reduceIte, go_sem, if_pos, if_neg]) (by decide) (by simp)
end Go.Proofs.Ytngebdcbcliobaa
