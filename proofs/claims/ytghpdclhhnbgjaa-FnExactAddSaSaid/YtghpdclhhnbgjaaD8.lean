import Derived.Test.YtghpdclhhnbgjaaD1
set_option linter.unusedSimpArgs false
set_option linter.unusedVariables false
set_option maxRecDepth 100000
set_option maxHeartbeats 4000000
namespace Go.Proofs.Ytghpdclhhnbgjaa
open Go Go.AH
attribute [local irreducible] awpT ropsT qopsT stepT condKT gdKT EndT joinK loopKT seqKT blkKT kont kontR
/-! Packets -/
structure PkR where
  (fr to_ pr ttl fp tp : Int)
  (load : List Int)
def pkT (x : PkR) : TV := .agg [.p (.int .i64 x.fr), .p (.int .i64 x.to_), .p (.int .i64 x.pr), .p (.int .i64 x.ttl), .p (.int .i64 x.fp), .p (.int .i64 x.tp), .s (bsT x.load)]
theorem pkT_inj (x y : PkR) (h : pkT x = pkT y) : x = y := by
  cases x; cases y; simp [pkT] at h
  obtain ⟨h1, h2, h3, h4, h5, h6, h7⟩ := h
  have := bs_inj h7
  simp [h1, h2, h3, h4, h5, h6, this]
noncomputable def adr_S := specP (fun x : Int => [.p (.int .i64 x)]) (fun x => True) (fun x => (.p (.bool (decide (0 ≤ x ∧ x ≤ 4294967295))), []))
theorem adr_at (a : Int) : adr_S [.p (.int .i64 a)] = some (.p (.bool (decide (0 ≤ a ∧ a ≤ 4294967295))), []) := specP_at (enc := fun x : Int => [.p (.int .i64 x)]) (by intro x y h; simpa using h) a trivial
-- spec.l2Address
def c155 : AF := ⟨5,
 (.seq (.reg [rO 2 (.mv (.v (.bool false)))])
 (.seq (.reg [rO 3 (.mv (.t 0)),
 rO 4 (.call 64 [(.t 3), (.v (.int .i64 0)), (.v (.int .i64 4294967295))]),
 rO 2 (.mv (.t 4))])
 .ret)),
 [.t 2]⟩
theorem k155 : cFn Try.prog Try.f155 = some c155 := by kernel_rfl
theorem l2Address_ok : OkT Try.prog 155 (pureSp adr_S) := by
  refine okT_fn (OkΓT.cons l1In_ok (OkΓT.nil _)) Try.func155 (by kernel_rfl) k155 (fun x _ => ⟨rfl, rfl⟩) ?_
  rintro x _
  dsimp only at *
  (dsimp only [c155, rO]; simp (maxSteps := 8000000) -implicitDefEqProofs (disch := omega) only [↓reduceIte, go_sem, in_at])
  repeat' first
    | ((first | refine gdKT_deq (fun hg hG => ?_) (fun hg hG => ?_) | refine condKT_deq (fun hg hG => ?_) (fun hg hG => ?_)) <;> (try simp (maxSteps := 8000000) -implicitDefEqProofs (disch := omega) only [↓reduceIte, go_sem, hG, in_at]) <;> clear hG)
    | ((first | refine gdKT_split (fun hg => ?_) (fun hg => ?_) | refine condKT_split (fun hg => ?_) (fun hg => ?_)) <;> (try simp (maxSteps := 8000000) -implicitDefEqProofs (disch := omega) only [↓reduceIte, go_sem, hg, in_at]))
    | (refine endT_p (.inr rfl) (by simp (maxSteps := 8000000) -implicitDefEqProofs (disch := omega) only [↓reduceIte, go_sem, in_at]; rfl) ?_; (first | exact vb_true (by omega) | exact vb_false (by omega) | exact vb_dec (by omega) | exact vi_eq (by omega) | rfl | (refine vi_eq ?_; simp_all; first | done | (intros; omega))))
    | exact endT_v (.inr rfl) (by simp (maxSteps := 8000000) -implicitDefEqProofs (disch := omega) only [↓reduceIte, go_sem, in_at]; try rfl) (fun _ => rfl)
-- impl.isAddress
def c115 : AF := ⟨5,
 (.seq (.reg [rO 2 (.mv (.v (.bool false)))])
 (.seq (.reg [rO 3 (.mv (.t 0)),
 rO 4 (.call 63 [(.t 3), (.v (.int .i64 0)), (.v (.int .i64 4294967295))]),
 rO 2 (.mv (.t 4))])
 .ret)),
 [.t 2]⟩
theorem k115 : cFn Try.prog Try.f115 = some c115 := by kernel_rfl
theorem isAddress_ok : OkT Try.prog 115 (pureSp adr_S) := by
  refine okT_fn (OkΓT.cons in_ok (OkΓT.nil _)) Try.func115 (by kernel_rfl) k115 (fun x _ => ⟨rfl, rfl⟩) ?_
  rintro x _
  dsimp only at *
  (dsimp only [c115, rO]; simp (maxSteps := 8000000) -implicitDefEqProofs (disch := omega) only [↓reduceIte, go_sem, in_at])
  repeat' first
    | ((first | refine gdKT_deq (fun hg hG => ?_) (fun hg hG => ?_) | refine condKT_deq (fun hg hG => ?_) (fun hg hG => ?_)) <;> (try simp (maxSteps := 8000000) -implicitDefEqProofs (disch := omega) only [↓reduceIte, go_sem, hG, in_at]) <;> clear hG)
    | ((first | refine gdKT_split (fun hg => ?_) (fun hg => ?_) | refine condKT_split (fun hg => ?_) (fun hg => ?_)) <;> (try simp (maxSteps := 8000000) -implicitDefEqProofs (disch := omega) only [↓reduceIte, go_sem, hg, in_at]))
    | (refine endT_p (.inr rfl) (by simp (maxSteps := 8000000) -implicitDefEqProofs (disch := omega) only [↓reduceIte, go_sem, in_at]; rfl) ?_; (first | exact vb_true (by omega) | exact vb_false (by omega) | exact vb_dec (by omega) | exact vi_eq (by omega) | rfl | (refine vi_eq ?_; simp_all; first | done | (intros; omega))))
    | exact endT_v (.inr rfl) (by simp (maxSteps := 8000000) -implicitDefEqProofs (disch := omega) only [↓reduceIte, go_sem, in_at]; try rfl) (fun _ => rfl)
noncomputable def prt_S := specP (fun x : Int => [.p (.int .i64 x)]) (fun x => True) (fun x => (.p (.bool (decide (0 ≤ x ∧ x ≤ 65535))), []))
theorem prt_at (a : Int) : prt_S [.p (.int .i64 a)] = some (.p (.bool (decide (0 ≤ a ∧ a ≤ 65535))), []) := specP_at (enc := fun x : Int => [.p (.int .i64 x)]) (by intro x y h; simpa using h) a trivial
-- spec.l2Port
def c156 : AF := ⟨5,
 (.seq (.reg [rO 2 (.mv (.v (.bool false)))])
 (.seq (.reg [rO 3 (.mv (.t 0)),
 rO 4 (.call 64 [(.t 3), (.v (.int .i64 0)), (.v (.int .i64 65535))]),
 rO 2 (.mv (.t 4))])
 .ret)),
 [.t 2]⟩
theorem k156 : cFn Try.prog Try.f156 = some c156 := by kernel_rfl
theorem l2Port_ok : OkT Try.prog 156 (pureSp prt_S) := by
  refine okT_fn (OkΓT.cons l1In_ok (OkΓT.nil _)) Try.func156 (by kernel_rfl) k156 (fun x _ => ⟨rfl, rfl⟩) ?_
  rintro x _
  dsimp only at *
  (dsimp only [c156, rO]; simp (maxSteps := 8000000) -implicitDefEqProofs (disch := omega) only [↓reduceIte, go_sem, in_at])
  repeat' first
    | ((first | refine gdKT_deq (fun hg hG => ?_) (fun hg hG => ?_) | refine condKT_deq (fun hg hG => ?_) (fun hg hG => ?_)) <;> (try simp (maxSteps := 8000000) -implicitDefEqProofs (disch := omega) only [↓reduceIte, go_sem, hG, in_at]) <;> clear hG)
    | ((first | refine gdKT_split (fun hg => ?_) (fun hg => ?_) | refine condKT_split (fun hg => ?_) (fun hg => ?_)) <;> (try simp (maxSteps := 8000000) -implicitDefEqProofs (disch := omega) only [↓reduceIte, go_sem, hg, in_at]))
    | (refine endT_p (.inr rfl) (by simp (maxSteps := 8000000) -implicitDefEqProofs (disch := omega) only [↓reduceIte, go_sem, in_at]; rfl) ?_; (first | exact vb_true (by omega) | exact vb_false (by omega) | exact vb_dec (by omega) | exact vi_eq (by omega) | rfl | (refine vi_eq ?_; simp_all; first | done | (intros; omega))))
    | exact endT_v (.inr rfl) (by simp (maxSteps := 8000000) -implicitDefEqProofs (disch := omega) only [↓reduceIte, go_sem, in_at]; try rfl) (fun _ => rfl)
-- impl.isPort
def c116 : AF := ⟨5,
 (.seq (.reg [rO 2 (.mv (.v (.bool false)))])
 (.seq (.reg [rO 3 (.mv (.t 0)),
 rO 4 (.call 63 [(.t 3), (.v (.int .i64 0)), (.v (.int .i64 65535))]),
 rO 2 (.mv (.t 4))])
 .ret)),
 [.t 2]⟩
theorem k116 : cFn Try.prog Try.f116 = some c116 := by kernel_rfl
theorem isPort_ok : OkT Try.prog 116 (pureSp prt_S) := by
  refine okT_fn (OkΓT.cons in_ok (OkΓT.nil _)) Try.func116 (by kernel_rfl) k116 (fun x _ => ⟨rfl, rfl⟩) ?_
  rintro x _
  dsimp only at *
  (dsimp only [c116, rO]; simp (maxSteps := 8000000) -implicitDefEqProofs (disch := omega) only [↓reduceIte, go_sem, in_at])
  repeat' first
    | ((first | refine gdKT_deq (fun hg hG => ?_) (fun hg hG => ?_) | refine condKT_deq (fun hg hG => ?_) (fun hg hG => ?_)) <;> (try simp (maxSteps := 8000000) -implicitDefEqProofs (disch := omega) only [↓reduceIte, go_sem, hG, in_at]) <;> clear hG)
    | ((first | refine gdKT_split (fun hg => ?_) (fun hg => ?_) | refine condKT_split (fun hg => ?_) (fun hg => ?_)) <;> (try simp (maxSteps := 8000000) -implicitDefEqProofs (disch := omega) only [↓reduceIte, go_sem, hg, in_at]))
    | (refine endT_p (.inr rfl) (by simp (maxSteps := 8000000) -implicitDefEqProofs (disch := omega) only [↓reduceIte, go_sem, in_at]; rfl) ?_; (first | exact vb_true (by omega) | exact vb_false (by omega) | exact vb_dec (by omega) | exact vi_eq (by omega) | rfl | (refine vi_eq ?_; simp_all; first | done | (intros; omega))))
    | exact endT_v (.inr rfl) (by simp (maxSteps := 8000000) -implicitDefEqProofs (disch := omega) only [↓reduceIte, go_sem, in_at]; try rfl) (fun _ => rfl)
def pkF (x : PkR) : Int := if (0 ≤ x.fr ∧ x.fr ≤ 4294967295) ∧ (0 ≤ x.to_ ∧ x.to_ ≤ 4294967295) ∧ (1 ≤ x.pr ∧ x.pr ≤ 255) ∧ (1 ≤ x.ttl ∧ x.ttl ≤ 255) ∧ (0 ≤ x.fp ∧ x.fp ≤ 65535) ∧ (0 ≤ x.tp ∧ x.tp ≤ 65535) then
  (if ¬ (x.pr = 6 ∨ x.pr = 17) ∧ (x.fp ≠ 0 ∨ x.tp ≠ 0) then 1 else if (x.load.length : Int) > 200 then 2 else 0) else 3
noncomputable def pkF_S := specP (fun x : PkR => [pkT x]) (fun x => True) (fun x => (.p (.int .i64 (pkF x)), []))
theorem pkF_at (x : PkR) : pkF_S [pkT x] = some (.p (.int .i64 (pkF x)), []) := specP_at (enc := fun x : PkR => [pkT x]) (by intro x y h; exact pkT_inj x y (by simpa using h)) x trivial
-- spec.PacketFault
def c123 : AF := ⟨55,
 (.seq (.reg [rO 1 (.box 49 (.t 0)),
 rO 2 (.mv (.v (.int .i64 0)))])
 (.seq (.seq (.reg [rO 3 (.fa (.t 1) 0),
 rO 4 (.ld (.t 3)),
 rO 5 (.call 155 [(.t 4)]),
 rO 6 (.un .not (.t 5)),
 rO 7 (.mv (.t 6)),
 ⟨(some 8), (some (7, false)), .fa (.t 1) 1⟩,
 ⟨(some 9), (some (7, false)), .ld (.t 8)⟩,
 ⟨(some 10), (some (7, false)), .call 155 [(.t 9)]⟩,
 ⟨(some 11), (some (7, false)), .un .not (.t 10)⟩,
 rO 12 (.pick (.t 7) (.v (.bool true)) (.t 11)),
 rO 13 (.mv (.t 12)),
 ⟨(some 14), (some (13, false)), .fa (.t 1) 2⟩,
 ⟨(some 15), (some (13, false)), .ld (.t 14)⟩,
 ⟨(some 16), (some (13, false)), .call 64 [(.t 15), (.v (.int .i64 1)), (.v (.int .i64 255))]⟩,
 ⟨(some 17), (some (13, false)), .un .not (.t 16)⟩,
 rO 18 (.pick (.t 13) (.v (.bool true)) (.t 17)),
 rO 19 (.mv (.t 18)),
 ⟨(some 20), (some (19, false)), .fa (.t 1) 3⟩,
 ⟨(some 21), (some (19, false)), .ld (.t 20)⟩,
 ⟨(some 22), (some (19, false)), .call 64 [(.t 21), (.v (.int .i64 1)), (.v (.int .i64 255))]⟩,
 ⟨(some 23), (some (19, false)), .un .not (.t 22)⟩,
 rO 24 (.pick (.t 19) (.v (.bool true)) (.t 23)),
 rO 25 (.mv (.t 24)),
 ⟨(some 26), (some (25, false)), .fa (.t 1) 4⟩,
 ⟨(some 27), (some (25, false)), .ld (.t 26)⟩,
 ⟨(some 28), (some (25, false)), .call 156 [(.t 27)]⟩,
 ⟨(some 29), (some (25, false)), .un .not (.t 28)⟩,
 rO 30 (.pick (.t 25) (.v (.bool true)) (.t 29)),
 rO 31 (.mv (.t 30)),
 ⟨(some 32), (some (31, false)), .fa (.t 1) 5⟩,
 ⟨(some 33), (some (31, false)), .ld (.t 32)⟩,
 ⟨(some 34), (some (31, false)), .call 156 [(.t 33)]⟩,
 ⟨(some 35), (some (31, false)), .un .not (.t 34)⟩,
 rO 36 (.pick (.t 31) (.v (.bool true)) (.t 35))])
 (.cond (.t 36) (.seq (.reg [rO 2 (.mv (.v (.int .i64 3)))])
 .ret)
 .skip))
 (.seq (.seq (.reg [rO 37 (.fa (.t 1) 2),
 rO 38 (.ld (.t 37)),
 rO 39 (.call 149 [(.t 38)]),
 rO 40 (.un .not (.t 39)),
 rO 41 (.mv (.t 40)),
 ⟨(some 42), (some (41, true)), .fa (.t 1) 4⟩,
 ⟨(some 43), (some (41, true)), .ld (.t 42)⟩,
 ⟨(some 44), (some (41, true)), .bin .neq (.t 43) (.v (.int .i64 0))⟩,
 ⟨(some 45), (some (41, true)), .mv (.t 44)⟩,
 ⟨(some 46), (some (45, false)), .fa (.t 1) 5⟩,
 ⟨(some 47), (some (45, false)), .ld (.t 46)⟩,
 ⟨(some 48), (some (45, false)), .bin .neq (.t 47) (.v (.int .i64 0))⟩,
 ⟨(some 49), (some (41, true)), .pick (.t 45) (.v (.bool true)) (.t 48)⟩,
 rO 50 (.pick (.t 41) (.t 49) (.v (.bool false)))])
 (.cond (.t 50) (.seq (.reg [rO 2 (.mv (.v (.int .i64 1)))])
 .ret)
 .skip))
 (.seq (.seq (.reg [rO 51 (.fa (.t 1) 6),
 rO 52 (.ld (.t 51)),
 rO 53 (.len (.t 52)),
 rO 54 (.bin .gtr (.t 53) (.v (.int .i64 200)))])
 (.cond (.t 54) (.seq (.reg [rO 2 (.mv (.v (.int .i64 2)))])
 .ret)
 .skip))
 (.seq (.reg [rO 2 (.mv (.v (.int .i64 0)))])
 .ret))))),
 [.t 2]⟩
theorem k123 : cFn Try.prog Try.f123 = some c123 := by kernel_rfl
theorem pkFS_ok : OkT Try.prog 123 (pureSp pkF_S) := by
  refine okT_fn (OkΓT.cons l2Address_ok (OkΓT.cons l1In_ok (OkΓT.cons l2Port_ok (OkΓT.cons specHasP_ok (OkΓT.nil _))))) Try.func123 (by kernel_rfl) k123 (fun x _ => ⟨rfl, rfl⟩) ?_
  rintro x _
  dsimp only [slT, pkT] at *
  (dsimp only [c123, rO]; simp (maxSteps := 8000000) -implicitDefEqProofs (disch := omega) only [↓reduceIte, go_sem, adr_at, prt_at, in_at, hasP_at, pkF])
  repeat' first
    | ((first | refine gdKT_deq (fun hg hG => ?_) (fun hg hG => ?_) | refine condKT_deq (fun hg hG => ?_) (fun hg hG => ?_)) <;> (try simp (maxSteps := 8000000) -implicitDefEqProofs (disch := omega) only [↓reduceIte, go_sem, hG, adr_at, prt_at, in_at, hasP_at, pkF]) <;> clear hG)
    | ((first | refine gdKT_split (fun hg => ?_) (fun hg => ?_) | refine condKT_split (fun hg => ?_) (fun hg => ?_)) <;> (try simp (maxSteps := 8000000) -implicitDefEqProofs (disch := omega) only [↓reduceIte, go_sem, hg, adr_at, prt_at, in_at, hasP_at, pkF]))
    | (refine endT_p (.inr rfl) (by simp (maxSteps := 8000000) -implicitDefEqProofs (disch := omega) only [↓reduceIte, go_sem, adr_at, prt_at, in_at, hasP_at, pkF]; rfl) ?_; (first | exact vb_true (by omega) | exact vb_false (by omega) | exact vb_dec (by omega) | exact vi_eq (by omega) | rfl | (refine vi_eq ?_; simp_all; first | done | (intros; omega))))
    | exact endT_v (.inr rfl) (by simp (maxSteps := 8000000) -implicitDefEqProofs (disch := omega) only [↓reduceIte, go_sem, adr_at, prt_at, in_at, hasP_at, pkF]; try rfl) (fun _ => rfl)
-- impl.PacketFault
def c67 : AF := ⟨58,
 (.seq (.reg [rO 1 (.box 49 (.t 0)),
 rO 2 (.mv (.v (.int .i64 0)))])
 (.seq (.block 0 (.seq (.reg [rO 4 (.fa (.t 1) 0),
 rO 5 (.ld (.t 4)),
 rO 6 (.call 115 [(.t 5)]),
 rO 7 (.un .not (.t 6)),
 rO 8 (.mv (.t 7)),
 ⟨(some 9), (some (8, false)), .fa (.t 1) 1⟩,
 ⟨(some 10), (some (8, false)), .ld (.t 9)⟩,
 ⟨(some 11), (some (8, false)), .call 115 [(.t 10)]⟩,
 ⟨(some 12), (some (8, false)), .un .not (.t 11)⟩,
 rO 13 (.pick (.t 8) (.v (.bool true)) (.t 12)),
 rO 14 (.mv (.t 13)),
 ⟨(some 15), (some (14, false)), .fa (.t 1) 2⟩,
 ⟨(some 16), (some (14, false)), .ld (.t 15)⟩,
 ⟨(some 17), (some (14, false)), .call 63 [(.t 16), (.v (.int .i64 1)), (.v (.int .i64 255))]⟩,
 ⟨(some 18), (some (14, false)), .un .not (.t 17)⟩,
 rO 19 (.pick (.t 14) (.v (.bool true)) (.t 18)),
 rO 20 (.mv (.t 19)),
 ⟨(some 21), (some (20, false)), .fa (.t 1) 3⟩,
 ⟨(some 22), (some (20, false)), .ld (.t 21)⟩,
 ⟨(some 23), (some (20, false)), .call 63 [(.t 22), (.v (.int .i64 1)), (.v (.int .i64 255))]⟩,
 ⟨(some 24), (some (20, false)), .un .not (.t 23)⟩,
 rO 25 (.pick (.t 20) (.v (.bool true)) (.t 24)),
 rO 26 (.mv (.t 25)),
 ⟨(some 27), (some (26, false)), .fa (.t 1) 4⟩,
 ⟨(some 28), (some (26, false)), .ld (.t 27)⟩,
 ⟨(some 29), (some (26, false)), .call 116 [(.t 28)]⟩,
 ⟨(some 30), (some (26, false)), .un .not (.t 29)⟩,
 rO 31 (.pick (.t 26) (.v (.bool true)) (.t 30)),
 rO 32 (.mv (.t 31)),
 ⟨(some 33), (some (32, false)), .fa (.t 1) 5⟩,
 ⟨(some 34), (some (32, false)), .ld (.t 33)⟩,
 ⟨(some 35), (some (32, false)), .call 116 [(.t 34)]⟩,
 ⟨(some 36), (some (32, false)), .un .not (.t 35)⟩,
 rO 37 (.pick (.t 32) (.v (.bool true)) (.t 36)),
 rO 3 (.mv (.t 37))])
 (.cond (.t 3) (.seq (.reg [rO 2 (.mv (.v (.int .i64 3)))])
 .ret)
 (.seq (.reg [rO 39 (.fa (.t 1) 2),
 rO 40 (.ld (.t 39)),
 rO 41 (.call 81 [(.t 40)]),
 rO 42 (.un .not (.t 41)),
 rO 43 (.mv (.t 42)),
 ⟨(some 44), (some (43, true)), .fa (.t 1) 4⟩,
 ⟨(some 45), (some (43, true)), .ld (.t 44)⟩,
 ⟨(some 46), (some (43, true)), .bin .neq (.t 45) (.v (.int .i64 0))⟩,
 ⟨(some 47), (some (43, true)), .mv (.t 46)⟩,
 ⟨(some 48), (some (47, false)), .fa (.t 1) 5⟩,
 ⟨(some 49), (some (47, false)), .ld (.t 48)⟩,
 ⟨(some 50), (some (47, false)), .bin .neq (.t 49) (.v (.int .i64 0))⟩,
 ⟨(some 51), (some (43, true)), .pick (.t 47) (.v (.bool true)) (.t 50)⟩,
 rO 52 (.pick (.t 43) (.t 51) (.v (.bool false))),
 rO 38 (.mv (.t 52))])
 (.cond (.t 38) (.seq (.reg [rO 2 (.mv (.v (.int .i64 1)))])
 .ret)
 (.seq (.reg [rO 54 (.fa (.t 1) 6),
 rO 55 (.ld (.t 54)),
 rO 56 (.len (.t 55)),
 rO 57 (.bin .gtr (.t 56) (.v (.int .i64 200))),
 rO 53 (.mv (.t 57))])
 (.cond (.t 53) (.seq (.reg [rO 2 (.mv (.v (.int .i64 2)))])
 .ret)
 .skip)))))))
 (.seq (.reg [rO 2 (.mv (.v (.int .i64 0)))])
 .ret))),
 [.t 2]⟩
theorem k67 : cFn Try.prog Try.f67 = some c67 := by kernel_rfl
theorem pkFI_ok : OkT Try.prog 67 (pureSp pkF_S) := by
  refine okT_fn (OkΓT.cons isAddress_ok (OkΓT.cons in_ok (OkΓT.cons isPort_ok (OkΓT.cons implHasP_ok (OkΓT.nil _))))) Try.func67 (by kernel_rfl) k67 (fun x _ => ⟨rfl, rfl⟩) ?_
  rintro x _
  dsimp only [slT, pkT] at *
  (dsimp only [c67, rO]; simp (maxSteps := 8000000) -implicitDefEqProofs (disch := omega) only [↓reduceIte, go_sem, adr_at, prt_at, in_at, hasP_at, pkF])
  repeat' first
    | ((first | refine gdKT_deq (fun hg hG => ?_) (fun hg hG => ?_) | refine condKT_deq (fun hg hG => ?_) (fun hg hG => ?_)) <;> (try simp (maxSteps := 8000000) -implicitDefEqProofs (disch := omega) only [↓reduceIte, go_sem, hG, adr_at, prt_at, in_at, hasP_at, pkF]) <;> clear hG)
    | ((first | refine gdKT_split (fun hg => ?_) (fun hg => ?_) | refine condKT_split (fun hg => ?_) (fun hg => ?_)) <;> (try simp (maxSteps := 8000000) -implicitDefEqProofs (disch := omega) only [↓reduceIte, go_sem, hg, adr_at, prt_at, in_at, hasP_at, pkF]))
    | (refine endT_p (.inr rfl) (by simp (maxSteps := 8000000) -implicitDefEqProofs (disch := omega) only [↓reduceIte, go_sem, adr_at, prt_at, in_at, hasP_at, pkF]; rfl) ?_; (first | exact vb_true (by omega) | exact vb_false (by omega) | exact vb_dec (by omega) | exact vi_eq (by omega) | rfl | (refine vi_eq ?_; simp_all; first | done | (intros; omega))))
    | exact endT_v (.inr rfl) (by simp (maxSteps := 8000000) -implicitDefEqProofs (disch := omega) only [↓reduceIte, go_sem, adr_at, prt_at, in_at, hasP_at, pkF]; try rfl) (fun _ => rfl)
/-! What selectors hold -/
noncomputable def has_S := specP (fun x : Int × Int × Int => [.agg [.p (.int .i64 x.1), .p (.int .i64 x.2.1)], .p (.int .i64 x.2.2)]) (fun _ => True) (fun x => (.p (.bool (decide (x.1 ≤ x.2.2 ∧ x.2.2 ≤ x.2.1))), []))
theorem has_at (a b v : Int) : has_S [.agg [.p (.int .i64 a), .p (.int .i64 b)], .p (.int .i64 v)] = some (.p (.bool (decide (a ≤ v ∧ v ≤ b))), []) :=
  specP_at (enc := fun x : Int × Int × Int => [.agg [.p (.int .i64 x.1), .p (.int .i64 x.2.1)], .p (.int .i64 x.2.2)]) (by rintro ⟨a, b, c⟩ ⟨a', b', c'⟩ h; simp at h; simp [h.1, h.2]) (a, b, v) trivial
abbrev holdsP (x : SlR) (p : PkR) : Prop := (x.f1 ≤ p.fr ∧ p.fr ≤ x.f2) ∧ (x.t1 ≤ p.to_ ∧ p.to_ ≤ x.t2) ∧ (x.p1 ≤ p.fp ∧ p.fp ≤ x.p2) ∧ (x.q1 ≤ p.tp ∧ p.tp ≤ x.q2) ∧ (x.pr = 0 ∨ x.pr = p.pr)
noncomputable def holds_S := specP (fun x : SlR × PkR => [slT x.1, pkT x.2]) (fun _ => True) (fun x => (.p (.bool (decide (holdsP x.1 x.2))), []))
theorem slpk_inj : ∀ x y : SlR × PkR, ([slT x.1, pkT x.2] : List TV) = [slT y.1, pkT y.2] → x = y := by
  rintro ⟨a, b⟩ ⟨a', b'⟩ h; simp at h; simp [slT_inj _ _ h.1, pkT_inj _ _ h.2]
theorem holds_at (x : SlR) (p : PkR) : holds_S [slT x, pkT p] = some (.p (.bool (decide (holdsP x p))), []) := specP_at (enc := fun x : SlR × PkR => [slT x.1, pkT x.2]) slpk_inj (x, p) trivial
end Go.Proofs.Ytghpdclhhnbgjaa
