import Derived.Test.YtkijbknnbmbnbaaD1
set_option linter.unusedSimpArgs false
set_option linter.unusedVariables false
set_option maxRecDepth 100000
set_option maxHeartbeats 4000000
namespace Go.Proofs.Ytkijbknnbmbnbaa
open Go Go.AH
attribute [local irreducible] awpT ropsT qopsT stepT condKT gdKT EndT joinK loopKT seqKT blkKT kont kontR
/-! Packets -/
structure PkR where
  (fr to_ pr ttl fp tp : Int)
  (load : List Int)
def pkT (x : PkR) : TV := .agg [.p (.int .i64 x.fr), .p (.int .i64 x.to_), .p (.int .i64 x.pr), .p (.int .i64 x.ttl), .p (.int .i64 x.fp), .p (.int .i64 x.tp), .s (bsT x.load)]
theorem pkT_inj (x y : PkR) (h : pkT x = pkT y) : x = y := by
  cases x; cases y; simp [pkT] at h
  obtain ⟨h1, h2, h3, h4, h5, h6, h7⟩ := h
  have := bs_inj h7
  simp [h1, h2, h3, h4, h5, h6, this]
noncomputable def adr_S := specP (fun x : Int => [.p (.int .i64 x)]) (fun x => True) (fun x => (.p (.bool (decide (0 ≤ x ∧ x ≤ 4294967295))), []))
theorem adr_at (a : Int) : adr_S [.p (.int .i64 a)] = some (.p (.bool (decide (0 ≤ a ∧ a ≤ 4294967295))), []) := specP_at (enc := fun x : Int => [.p (.int .i64 x)]) (by intro x y h; simpa using h) a trivial
-- spec.l2Address
def c201 : AF := ⟨5,
  (.seq (.reg [⟨(some 2), none, .mv (.v (.bool false))⟩])
  (.seq (.reg [⟨(some 3), none, .mv (.t 0)⟩,
   ⟨(some 4), none, .call 97 [(.t 3), (.v (.int .i64 0)), (.v (.int .i64 4294967295))]⟩,
   ⟨(some 2), none, .mv (.t 4)⟩])
  .ret)),
  [.t 2]⟩
theorem k201 : cFn Try.prog Try.f201 = some c201 := by kernel_rfl
theorem l2Address_ok : OkT Try.prog 201 (pureSp adr_S) := by
  refine okT_fn (OkΓT.cons l1In_ok (OkΓT.nil _)) Try.func201 (by kernel_rfl) k201 (fun x _ => ⟨rfl, rfl⟩) ?_
  rintro x _
  dsimp only at *
  (dsimp only [c201]; simp (maxSteps := 8000000) (implicitDefEqProofs := false) (disch := omega) only [↓reduceIte, go_sem, if_pos, if_neg, in_at])
  repeat' first
    | (refine gdKT_dec (fun hg => ?_) (fun hg => ?_) <;> (try (first | simp (maxSteps := 8000000) (implicitDefEqProofs := false) (disch := omega) only [↓reduceIte, go_sem, if_pos, if_neg, eq_false hg, in_at] | simp (maxSteps := 8000000) (implicitDefEqProofs := false) (disch := omega) only [↓reduceIte, go_sem, if_pos, if_neg, eq_true hg, in_at])))
    | (refine condKT_dec (fun hg => ?_) (fun hg => ?_) <;> (try (first | simp (maxSteps := 8000000) (implicitDefEqProofs := false) (disch := omega) only [↓reduceIte, go_sem, if_pos, if_neg, eq_false hg, in_at] | simp (maxSteps := 8000000) (implicitDefEqProofs := false) (disch := omega) only [↓reduceIte, go_sem, if_pos, if_neg, eq_true hg, in_at])))
    | (refine gdKT_split (fun hg => ?_) (fun hg => ?_) <;> (try simp (maxSteps := 8000000) (implicitDefEqProofs := false) (disch := omega) only [↓reduceIte, go_sem, if_pos, if_neg, hg, in_at]))
    | (refine condKT_split (fun hg => ?_) (fun hg => ?_) <;> (try simp (maxSteps := 8000000) (implicitDefEqProofs := false) (disch := omega) only [↓reduceIte, go_sem, if_pos, if_neg, hg, in_at]))
    | (refine endT_p (.inr rfl) (by simp (maxSteps := 8000000) (implicitDefEqProofs := false) (disch := omega) only [↓reduceIte, go_sem, if_pos, if_neg, in_at]; rfl) ?_; (first | exact vb_true (by omega) | exact vb_false (by omega) | exact vb_dec (by omega) | exact vi_eq (by omega) | rfl | (refine vi_eq ?_; simp_all; done) | (refine vi_eq ?_; simp_all; omega) | (refine vi_eq ?_; simp_all; intros; omega)))
    | exact endT_v (.inr rfl) (by simp (maxSteps := 8000000) (implicitDefEqProofs := false) (disch := omega) only [↓reduceIte, go_sem, if_pos, if_neg, in_at]; try rfl) (fun _ => rfl)
-- impl.isAddress
def c145 : AF := ⟨5,
  (.seq (.reg [⟨(some 2), none, .mv (.v (.bool false))⟩])
  (.seq (.reg [⟨(some 3), none, .mv (.t 0)⟩,
   ⟨(some 4), none, .call 95 [(.t 3), (.v (.int .i64 0)), (.v (.int .i64 4294967295))]⟩,
   ⟨(some 2), none, .mv (.t 4)⟩])
  .ret)),
  [.t 2]⟩
theorem k145 : cFn Try.prog Try.f145 = some c145 := by kernel_rfl
theorem isAddress_ok : OkT Try.prog 145 (pureSp adr_S) := by
  refine okT_fn (OkΓT.cons in_ok (OkΓT.nil _)) Try.func145 (by kernel_rfl) k145 (fun x _ => ⟨rfl, rfl⟩) ?_
  rintro x _
  dsimp only at *
  (dsimp only [c145]; simp (maxSteps := 8000000) (implicitDefEqProofs := false) (disch := omega) only [↓reduceIte, go_sem, if_pos, if_neg, in_at])
  repeat' first
    | (refine gdKT_dec (fun hg => ?_) (fun hg => ?_) <;> (try (first | simp (maxSteps := 8000000) (implicitDefEqProofs := false) (disch := omega) only [↓reduceIte, go_sem, if_pos, if_neg, eq_false hg, in_at] | simp (maxSteps := 8000000) (implicitDefEqProofs := false) (disch := omega) only [↓reduceIte, go_sem, if_pos, if_neg, eq_true hg, in_at])))
    | (refine condKT_dec (fun hg => ?_) (fun hg => ?_) <;> (try (first | simp (maxSteps := 8000000) (implicitDefEqProofs := false) (disch := omega) only [↓reduceIte, go_sem, if_pos, if_neg, eq_false hg, in_at] | simp (maxSteps := 8000000) (implicitDefEqProofs := false) (disch := omega) only [↓reduceIte, go_sem, if_pos, if_neg, eq_true hg, in_at])))
    | (refine gdKT_split (fun hg => ?_) (fun hg => ?_) <;> (try simp (maxSteps := 8000000) (implicitDefEqProofs := false) (disch := omega) only [↓reduceIte, go_sem, if_pos, if_neg, hg, in_at]))
    | (refine condKT_split (fun hg => ?_) (fun hg => ?_) <;> (try simp (maxSteps := 8000000) (implicitDefEqProofs := false) (disch := omega) only [↓reduceIte, go_sem, if_pos, if_neg, hg, in_at]))
    | (refine endT_p (.inr rfl) (by simp (maxSteps := 8000000) (implicitDefEqProofs := false) (disch := omega) only [↓reduceIte, go_sem, if_pos, if_neg, in_at]; rfl) ?_; (first | exact vb_true (by omega) | exact vb_false (by omega) | exact vb_dec (by omega) | exact vi_eq (by omega) | rfl | (refine vi_eq ?_; simp_all; done) | (refine vi_eq ?_; simp_all; omega) | (refine vi_eq ?_; simp_all; intros; omega)))
    | exact endT_v (.inr rfl) (by simp (maxSteps := 8000000) (implicitDefEqProofs := false) (disch := omega) only [↓reduceIte, go_sem, if_pos, if_neg, in_at]; try rfl) (fun _ => rfl)
noncomputable def prt_S := specP (fun x : Int => [.p (.int .i64 x)]) (fun x => True) (fun x => (.p (.bool (decide (0 ≤ x ∧ x ≤ 65535))), []))
theorem prt_at (a : Int) : prt_S [.p (.int .i64 a)] = some (.p (.bool (decide (0 ≤ a ∧ a ≤ 65535))), []) := specP_at (enc := fun x : Int => [.p (.int .i64 x)]) (by intro x y h; simpa using h) a trivial
-- spec.l2Port
def c226 : AF := ⟨5,
  (.seq (.reg [⟨(some 2), none, .mv (.v (.bool false))⟩])
  (.seq (.reg [⟨(some 3), none, .mv (.t 0)⟩,
   ⟨(some 4), none, .call 97 [(.t 3), (.v (.int .i64 0)), (.v (.int .i64 65535))]⟩,
   ⟨(some 2), none, .mv (.t 4)⟩])
  .ret)),
  [.t 2]⟩
theorem k226 : cFn Try.prog Try.f226 = some c226 := by kernel_rfl
theorem l2Port_ok : OkT Try.prog 226 (pureSp prt_S) := by
  refine okT_fn (OkΓT.cons l1In_ok (OkΓT.nil _)) Try.func226 (by kernel_rfl) k226 (fun x _ => ⟨rfl, rfl⟩) ?_
  rintro x _
  dsimp only at *
  (dsimp only [c226]; simp (maxSteps := 8000000) (implicitDefEqProofs := false) (disch := omega) only [↓reduceIte, go_sem, if_pos, if_neg, in_at])
  repeat' first
    | (refine gdKT_dec (fun hg => ?_) (fun hg => ?_) <;> (try (first | simp (maxSteps := 8000000) (implicitDefEqProofs := false) (disch := omega) only [↓reduceIte, go_sem, if_pos, if_neg, eq_false hg, in_at] | simp (maxSteps := 8000000) (implicitDefEqProofs := false) (disch := omega) only [↓reduceIte, go_sem, if_pos, if_neg, eq_true hg, in_at])))
    | (refine condKT_dec (fun hg => ?_) (fun hg => ?_) <;> (try (first | simp (maxSteps := 8000000) (implicitDefEqProofs := false) (disch := omega) only [↓reduceIte, go_sem, if_pos, if_neg, eq_false hg, in_at] | simp (maxSteps := 8000000) (implicitDefEqProofs := false) (disch := omega) only [↓reduceIte, go_sem, if_pos, if_neg, eq_true hg, in_at])))
    | (refine gdKT_split (fun hg => ?_) (fun hg => ?_) <;> (try simp (maxSteps := 8000000) (implicitDefEqProofs := false) (disch := omega) only [↓reduceIte, go_sem, if_pos, if_neg, hg, in_at]))
    | (refine condKT_split (fun hg => ?_) (fun hg => ?_) <;> (try simp (maxSteps := 8000000) (implicitDefEqProofs := false) (disch := omega) only [↓reduceIte, go_sem, if_pos, if_neg, hg, in_at]))
    | (refine endT_p (.inr rfl) (by simp (maxSteps := 8000000) (implicitDefEqProofs := false) (disch := omega) only [↓reduceIte, go_sem, if_pos, if_neg, in_at]; rfl) ?_; (first | exact vb_true (by omega) | exact vb_false (by omega) | exact vb_dec (by omega) | exact vi_eq (by omega) | rfl | (refine vi_eq ?_; simp_all; done) | (refine vi_eq ?_; simp_all; omega) | (refine vi_eq ?_; simp_all; intros; omega)))
    | exact endT_v (.inr rfl) (by simp (maxSteps := 8000000) (implicitDefEqProofs := false) (disch := omega) only [↓reduceIte, go_sem, if_pos, if_neg, in_at]; try rfl) (fun _ => rfl)
-- impl.isPort
def c196 : AF := ⟨5,
  (.seq (.reg [⟨(some 2), none, .mv (.v (.bool false))⟩])
  (.seq (.reg [⟨(some 3), none, .mv (.t 0)⟩,
   ⟨(some 4), none, .call 95 [(.t 3), (.v (.int .i64 0)), (.v (.int .i64 65535))]⟩,
   ⟨(some 2), none, .mv (.t 4)⟩])
  .ret)),
  [.t 2]⟩
theorem k196 : cFn Try.prog Try.f196 = some c196 := by kernel_rfl
theorem isPort_ok : OkT Try.prog 196 (pureSp prt_S) := by
  refine okT_fn (OkΓT.cons in_ok (OkΓT.nil _)) Try.func196 (by kernel_rfl) k196 (fun x _ => ⟨rfl, rfl⟩) ?_
  rintro x _
  dsimp only at *
  (dsimp only [c196]; simp (maxSteps := 8000000) (implicitDefEqProofs := false) (disch := omega) only [↓reduceIte, go_sem, if_pos, if_neg, in_at])
  repeat' first
    | (refine gdKT_dec (fun hg => ?_) (fun hg => ?_) <;> (try (first | simp (maxSteps := 8000000) (implicitDefEqProofs := false) (disch := omega) only [↓reduceIte, go_sem, if_pos, if_neg, eq_false hg, in_at] | simp (maxSteps := 8000000) (implicitDefEqProofs := false) (disch := omega) only [↓reduceIte, go_sem, if_pos, if_neg, eq_true hg, in_at])))
    | (refine condKT_dec (fun hg => ?_) (fun hg => ?_) <;> (try (first | simp (maxSteps := 8000000) (implicitDefEqProofs := false) (disch := omega) only [↓reduceIte, go_sem, if_pos, if_neg, eq_false hg, in_at] | simp (maxSteps := 8000000) (implicitDefEqProofs := false) (disch := omega) only [↓reduceIte, go_sem, if_pos, if_neg, eq_true hg, in_at])))
    | (refine gdKT_split (fun hg => ?_) (fun hg => ?_) <;> (try simp (maxSteps := 8000000) (implicitDefEqProofs := false) (disch := omega) only [↓reduceIte, go_sem, if_pos, if_neg, hg, in_at]))
    | (refine condKT_split (fun hg => ?_) (fun hg => ?_) <;> (try simp (maxSteps := 8000000) (implicitDefEqProofs := false) (disch := omega) only [↓reduceIte, go_sem, if_pos, if_neg, hg, in_at]))
    | (refine endT_p (.inr rfl) (by simp (maxSteps := 8000000) (implicitDefEqProofs := false) (disch := omega) only [↓reduceIte, go_sem, if_pos, if_neg, in_at]; rfl) ?_; (first | exact vb_true (by omega) | exact vb_false (by omega) | exact vb_dec (by omega) | exact vi_eq (by omega) | rfl | (refine vi_eq ?_; simp_all; done) | (refine vi_eq ?_; simp_all; omega) | (refine vi_eq ?_; simp_all; intros; omega)))
    | exact endT_v (.inr rfl) (by simp (maxSteps := 8000000) (implicitDefEqProofs := false) (disch := omega) only [↓reduceIte, go_sem, if_pos, if_neg, in_at]; try rfl) (fun _ => rfl)
def pkF (x : PkR) : Int := if (0 ≤ x.fr ∧ x.fr ≤ 4294967295) ∧ (0 ≤ x.to_ ∧ x.to_ ≤ 4294967295) ∧ (1 ≤ x.pr ∧ x.pr ≤ 255) ∧ (1 ≤ x.ttl ∧ x.ttl ≤ 255) ∧ (0 ≤ x.fp ∧ x.fp ≤ 65535) ∧ (0 ≤ x.tp ∧ x.tp ≤ 65535) then
  (if ¬ (x.pr = 6 ∨ x.pr = 17) ∧ (x.fp ≠ 0 ∨ x.tp ≠ 0) then 1 else if (x.load.length : Int) > 200 then 2 else 0) else 3
noncomputable def pkF_S := specP (fun x : PkR => [pkT x]) (fun x => True) (fun x => (.p (.int .i64 (pkF x)), []))
theorem pkF_at (x : PkR) : pkF_S [pkT x] = some (.p (.int .i64 (pkF x)), []) := specP_at (enc := fun x : PkR => [pkT x]) (by intro x y h; exact pkT_inj x y (by simpa using h)) x trivial
-- spec.PacketFault
def c198 : AF := ⟨55,
  (.seq (.reg [⟨(some 1), none, .box 67 (.t 0)⟩,
   ⟨(some 2), none, .mv (.v (.int .i64 0))⟩])
  (.seq (.seq (.reg [⟨(some 3), none, .fa (.t 1) 0⟩,
   ⟨(some 4), none, .ld (.t 3)⟩,
   ⟨(some 5), none, .call 201 [(.t 4)]⟩,
   ⟨(some 6), none, .un .not (.t 5)⟩,
   ⟨(some 7), none, .mv (.t 6)⟩,
   ⟨(some 8), (some (7, false)), .fa (.t 1) 1⟩,
   ⟨(some 9), (some (7, false)), .ld (.t 8)⟩,
   ⟨(some 10), (some (7, false)), .call 201 [(.t 9)]⟩,
   ⟨(some 11), (some (7, false)), .un .not (.t 10)⟩,
   ⟨(some 12), none, .pick (.t 7) (.v (.bool true)) (.t 11)⟩,
   ⟨(some 13), none, .mv (.t 12)⟩,
   ⟨(some 14), (some (13, false)), .fa (.t 1) 2⟩,
   ⟨(some 15), (some (13, false)), .ld (.t 14)⟩,
   ⟨(some 16), (some (13, false)), .call 97 [(.t 15), (.v (.int .i64 1)), (.v (.int .i64 255))]⟩,
   ⟨(some 17), (some (13, false)), .un .not (.t 16)⟩,
   ⟨(some 18), none, .pick (.t 13) (.v (.bool true)) (.t 17)⟩,
   ⟨(some 19), none, .mv (.t 18)⟩,
   ⟨(some 20), (some (19, false)), .fa (.t 1) 3⟩,
   ⟨(some 21), (some (19, false)), .ld (.t 20)⟩,
   ⟨(some 22), (some (19, false)), .call 97 [(.t 21), (.v (.int .i64 1)), (.v (.int .i64 255))]⟩,
   ⟨(some 23), (some (19, false)), .un .not (.t 22)⟩,
   ⟨(some 24), none, .pick (.t 19) (.v (.bool true)) (.t 23)⟩,
   ⟨(some 25), none, .mv (.t 24)⟩,
   ⟨(some 26), (some (25, false)), .fa (.t 1) 4⟩,
   ⟨(some 27), (some (25, false)), .ld (.t 26)⟩,
   ⟨(some 28), (some (25, false)), .call 226 [(.t 27)]⟩,
   ⟨(some 29), (some (25, false)), .un .not (.t 28)⟩,
   ⟨(some 30), none, .pick (.t 25) (.v (.bool true)) (.t 29)⟩,
   ⟨(some 31), none, .mv (.t 30)⟩,
   ⟨(some 32), (some (31, false)), .fa (.t 1) 5⟩,
   ⟨(some 33), (some (31, false)), .ld (.t 32)⟩,
   ⟨(some 34), (some (31, false)), .call 226 [(.t 33)]⟩,
   ⟨(some 35), (some (31, false)), .un .not (.t 34)⟩,
   ⟨(some 36), none, .pick (.t 31) (.v (.bool true)) (.t 35)⟩])
  (.cond (.t 36) (.seq (.reg [⟨(some 2), none, .mv (.v (.int .i64 3))⟩])
  .ret)
  .skip))
  (.seq (.seq (.reg [⟨(some 37), none, .fa (.t 1) 2⟩,
   ⟨(some 38), none, .ld (.t 37)⟩,
   ⟨(some 39), none, .call 224 [(.t 38)]⟩,
   ⟨(some 40), none, .un .not (.t 39)⟩,
   ⟨(some 41), none, .mv (.t 40)⟩,
   ⟨(some 42), (some (41, true)), .fa (.t 1) 4⟩,
   ⟨(some 43), (some (41, true)), .ld (.t 42)⟩,
   ⟨(some 44), (some (41, true)), .bin .neq (.t 43) (.v (.int .i64 0))⟩,
   ⟨(some 45), (some (41, true)), .mv (.t 44)⟩,
   ⟨(some 46), (some (45, false)), .fa (.t 1) 5⟩,
   ⟨(some 47), (some (45, false)), .ld (.t 46)⟩,
   ⟨(some 48), (some (45, false)), .bin .neq (.t 47) (.v (.int .i64 0))⟩,
   ⟨(some 49), (some (41, true)), .pick (.t 45) (.v (.bool true)) (.t 48)⟩,
   ⟨(some 50), none, .pick (.t 41) (.t 49) (.v (.bool false))⟩])
  (.cond (.t 50) (.seq (.reg [⟨(some 2), none, .mv (.v (.int .i64 1))⟩])
  .ret)
  .skip))
  (.seq (.seq (.reg [⟨(some 51), none, .fa (.t 1) 6⟩,
   ⟨(some 52), none, .ld (.t 51)⟩,
   ⟨(some 53), none, .len (.t 52)⟩,
   ⟨(some 54), none, .bin .gtr (.t 53) (.v (.int .i64 200))⟩])
  (.cond (.t 54) (.seq (.reg [⟨(some 2), none, .mv (.v (.int .i64 2))⟩])
  .ret)
  .skip))
  (.seq (.reg [⟨(some 2), none, .mv (.v (.int .i64 0))⟩])
  .ret))))),
  [.t 2]⟩
theorem k198 : cFn Try.prog Try.f198 = some c198 := by kernel_rfl
theorem pkFS_ok : OkT Try.prog 198 (pureSp pkF_S) := by
  refine okT_fn (OkΓT.cons l2Address_ok (OkΓT.cons l1In_ok (OkΓT.cons l2Port_ok (OkΓT.cons specHasP_ok (OkΓT.nil _))))) Try.func198 (by kernel_rfl) k198 (fun x _ => ⟨rfl, rfl⟩) ?_
  rintro x _
  dsimp only [slT, pkT] at *
  (dsimp only [c198]; simp (maxSteps := 8000000) (implicitDefEqProofs := false) (disch := omega) only [↓reduceIte, go_sem, if_pos, if_neg, adr_at, prt_at, in_at, hasP_at, pkF])
  repeat' first
    | (refine gdKT_dec (fun hg => ?_) (fun hg => ?_) <;> (try (first | simp (maxSteps := 8000000) (implicitDefEqProofs := false) (disch := omega) only [↓reduceIte, go_sem, if_pos, if_neg, eq_false hg, adr_at, prt_at, in_at, hasP_at, pkF] | simp (maxSteps := 8000000) (implicitDefEqProofs := false) (disch := omega) only [↓reduceIte, go_sem, if_pos, if_neg, eq_true hg, adr_at, prt_at, in_at, hasP_at, pkF])))
    | (refine condKT_dec (fun hg => ?_) (fun hg => ?_) <;> (try (first | simp (maxSteps := 8000000) (implicitDefEqProofs := false) (disch := omega) only [↓reduceIte, go_sem, if_pos, if_neg, eq_false hg, adr_at, prt_at, in_at, hasP_at, pkF] | simp (maxSteps := 8000000) (implicitDefEqProofs := false) (disch := omega) only [↓reduceIte, go_sem, if_pos, if_neg, eq_true hg, adr_at, prt_at, in_at, hasP_at, pkF])))
    | (refine gdKT_split (fun hg => ?_) (fun hg => ?_) <;> (try simp (maxSteps := 8000000) (implicitDefEqProofs := false) (disch := omega) only [↓reduceIte, go_sem, if_pos, if_neg, hg, adr_at, prt_at, in_at, hasP_at, pkF]))
    | (refine condKT_split (fun hg => ?_) (fun hg => ?_) <;> (try simp (maxSteps := 8000000) (implicitDefEqProofs := false) (disch := omega) only [↓reduceIte, go_sem, if_pos, if_neg, hg, adr_at, prt_at, in_at, hasP_at, pkF]))
    | (refine endT_p (.inr rfl) (by simp (maxSteps := 8000000) (implicitDefEqProofs := false) (disch := omega) only [↓reduceIte, go_sem, if_pos, if_neg, adr_at, prt_at, in_at, hasP_at, pkF]; rfl) ?_; (first | exact vb_true (by omega) | exact vb_false (by omega) | exact vb_dec (by omega) | exact vi_eq (by omega) | rfl | (refine vi_eq ?_; simp_all; done) | (refine vi_eq ?_; simp_all; omega) | (refine vi_eq ?_; simp_all; intros; omega)))
    | exact endT_v (.inr rfl) (by simp (maxSteps := 8000000) (implicitDefEqProofs := false) (disch := omega) only [↓reduceIte, go_sem, if_pos, if_neg, adr_at, prt_at, in_at, hasP_at, pkF]; try rfl) (fun _ => rfl)
-- impl.PacketFault
def c130 : AF := ⟨58,
  (.seq (.reg [⟨(some 1), none, .box 67 (.t 0)⟩,
   ⟨(some 2), none, .mv (.v (.int .i64 0))⟩])
  (.seq (.block 0 (.seq (.reg [⟨(some 4), none, .fa (.t 1) 0⟩,
   ⟨(some 5), none, .ld (.t 4)⟩,
   ⟨(some 6), none, .call 145 [(.t 5)]⟩,
   ⟨(some 7), none, .un .not (.t 6)⟩,
   ⟨(some 8), none, .mv (.t 7)⟩,
   ⟨(some 9), (some (8, false)), .fa (.t 1) 1⟩,
   ⟨(some 10), (some (8, false)), .ld (.t 9)⟩,
   ⟨(some 11), (some (8, false)), .call 145 [(.t 10)]⟩,
   ⟨(some 12), (some (8, false)), .un .not (.t 11)⟩,
   ⟨(some 13), none, .pick (.t 8) (.v (.bool true)) (.t 12)⟩,
   ⟨(some 14), none, .mv (.t 13)⟩,
   ⟨(some 15), (some (14, false)), .fa (.t 1) 2⟩,
   ⟨(some 16), (some (14, false)), .ld (.t 15)⟩,
   ⟨(some 17), (some (14, false)), .call 95 [(.t 16), (.v (.int .i64 1)), (.v (.int .i64 255))]⟩,
   ⟨(some 18), (some (14, false)), .un .not (.t 17)⟩,
   ⟨(some 19), none, .pick (.t 14) (.v (.bool true)) (.t 18)⟩,
   ⟨(some 20), none, .mv (.t 19)⟩,
   ⟨(some 21), (some (20, false)), .fa (.t 1) 3⟩,
   ⟨(some 22), (some (20, false)), .ld (.t 21)⟩,
   ⟨(some 23), (some (20, false)), .call 95 [(.t 22), (.v (.int .i64 1)), (.v (.int .i64 255))]⟩,
   ⟨(some 24), (some (20, false)), .un .not (.t 23)⟩,
   ⟨(some 25), none, .pick (.t 20) (.v (.bool true)) (.t 24)⟩,
   ⟨(some 26), none, .mv (.t 25)⟩,
   ⟨(some 27), (some (26, false)), .fa (.t 1) 4⟩,
   ⟨(some 28), (some (26, false)), .ld (.t 27)⟩,
   ⟨(some 29), (some (26, false)), .call 196 [(.t 28)]⟩,
   ⟨(some 30), (some (26, false)), .un .not (.t 29)⟩,
   ⟨(some 31), none, .pick (.t 26) (.v (.bool true)) (.t 30)⟩,
   ⟨(some 32), none, .mv (.t 31)⟩,
   ⟨(some 33), (some (32, false)), .fa (.t 1) 5⟩,
   ⟨(some 34), (some (32, false)), .ld (.t 33)⟩,
   ⟨(some 35), (some (32, false)), .call 196 [(.t 34)]⟩,
   ⟨(some 36), (some (32, false)), .un .not (.t 35)⟩,
   ⟨(some 37), none, .pick (.t 32) (.v (.bool true)) (.t 36)⟩,
   ⟨(some 3), none, .mv (.t 37)⟩])
  (.cond (.t 3) (.seq (.reg [⟨(some 2), none, .mv (.v (.int .i64 3))⟩])
  .ret)
  (.seq (.reg [⟨(some 39), none, .fa (.t 1) 2⟩,
   ⟨(some 40), none, .ld (.t 39)⟩,
   ⟨(some 41), none, .call 140 [(.t 40)]⟩,
   ⟨(some 42), none, .un .not (.t 41)⟩,
   ⟨(some 43), none, .mv (.t 42)⟩,
   ⟨(some 44), (some (43, true)), .fa (.t 1) 4⟩,
   ⟨(some 45), (some (43, true)), .ld (.t 44)⟩,
   ⟨(some 46), (some (43, true)), .bin .neq (.t 45) (.v (.int .i64 0))⟩,
   ⟨(some 47), (some (43, true)), .mv (.t 46)⟩,
   ⟨(some 48), (some (47, false)), .fa (.t 1) 5⟩,
   ⟨(some 49), (some (47, false)), .ld (.t 48)⟩,
   ⟨(some 50), (some (47, false)), .bin .neq (.t 49) (.v (.int .i64 0))⟩,
   ⟨(some 51), (some (43, true)), .pick (.t 47) (.v (.bool true)) (.t 50)⟩,
   ⟨(some 52), none, .pick (.t 43) (.t 51) (.v (.bool false))⟩,
   ⟨(some 38), none, .mv (.t 52)⟩])
  (.cond (.t 38) (.seq (.reg [⟨(some 2), none, .mv (.v (.int .i64 1))⟩])
  .ret)
  (.seq (.reg [⟨(some 54), none, .fa (.t 1) 6⟩,
   ⟨(some 55), none, .ld (.t 54)⟩,
   ⟨(some 56), none, .len (.t 55)⟩,
   ⟨(some 57), none, .bin .gtr (.t 56) (.v (.int .i64 200))⟩,
   ⟨(some 53), none, .mv (.t 57)⟩])
  (.cond (.t 53) (.seq (.reg [⟨(some 2), none, .mv (.v (.int .i64 2))⟩])
  .ret)
  .skip)))))))
  (.seq (.reg [⟨(some 2), none, .mv (.v (.int .i64 0))⟩])
  .ret))),
  [.t 2]⟩
theorem k130 : cFn Try.prog Try.f130 = some c130 := by kernel_rfl
theorem pkFI_ok : OkT Try.prog 130 (pureSp pkF_S) := by
  refine okT_fn (OkΓT.cons isAddress_ok (OkΓT.cons in_ok (OkΓT.cons isPort_ok (OkΓT.cons implHasP_ok (OkΓT.nil _))))) Try.func130 (by kernel_rfl) k130 (fun x _ => ⟨rfl, rfl⟩) ?_
  rintro x _
  dsimp only [slT, pkT] at *
  (dsimp only [c130]; simp (maxSteps := 8000000) (implicitDefEqProofs := false) (disch := omega) only [↓reduceIte, go_sem, if_pos, if_neg, adr_at, prt_at, in_at, hasP_at, pkF])
  repeat' first
    | (refine gdKT_dec (fun hg => ?_) (fun hg => ?_) <;> (try (first | simp (maxSteps := 8000000) (implicitDefEqProofs := false) (disch := omega) only [↓reduceIte, go_sem, if_pos, if_neg, eq_false hg, adr_at, prt_at, in_at, hasP_at, pkF] | simp (maxSteps := 8000000) (implicitDefEqProofs := false) (disch := omega) only [↓reduceIte, go_sem, if_pos, if_neg, eq_true hg, adr_at, prt_at, in_at, hasP_at, pkF])))
    | (refine condKT_dec (fun hg => ?_) (fun hg => ?_) <;> (try (first | simp (maxSteps := 8000000) (implicitDefEqProofs := false) (disch := omega) only [↓reduceIte, go_sem, if_pos, if_neg, eq_false hg, adr_at, prt_at, in_at, hasP_at, pkF] | simp (maxSteps := 8000000) (implicitDefEqProofs := false) (disch := omega) only [↓reduceIte, go_sem, if_pos, if_neg, eq_true hg, adr_at, prt_at, in_at, hasP_at, pkF])))
    | (refine gdKT_split (fun hg => ?_) (fun hg => ?_) <;> (try simp (maxSteps := 8000000) (implicitDefEqProofs := false) (disch := omega) only [↓reduceIte, go_sem, if_pos, if_neg, hg, adr_at, prt_at, in_at, hasP_at, pkF]))
    | (refine condKT_split (fun hg => ?_) (fun hg => ?_) <;> (try simp (maxSteps := 8000000) (implicitDefEqProofs := false) (disch := omega) only [↓reduceIte, go_sem, if_pos, if_neg, hg, adr_at, prt_at, in_at, hasP_at, pkF]))
    | (refine endT_p (.inr rfl) (by simp (maxSteps := 8000000) (implicitDefEqProofs := false) (disch := omega) only [↓reduceIte, go_sem, if_pos, if_neg, adr_at, prt_at, in_at, hasP_at, pkF]; rfl) ?_; (first | exact vb_true (by omega) | exact vb_false (by omega) | exact vb_dec (by omega) | exact vi_eq (by omega) | rfl | (refine vi_eq ?_; simp_all; done) | (refine vi_eq ?_; simp_all; omega) | (refine vi_eq ?_; simp_all; intros; omega)))
    | exact endT_v (.inr rfl) (by simp (maxSteps := 8000000) (implicitDefEqProofs := false) (disch := omega) only [↓reduceIte, go_sem, if_pos, if_neg, adr_at, prt_at, in_at, hasP_at, pkF]; try rfl) (fun _ => rfl)
/-! What selectors hold -/
noncomputable def has_S := specP (fun x : Int × Int × Int => [.agg [.p (.int .i64 x.1), .p (.int .i64 x.2.1)], .p (.int .i64 x.2.2)]) (fun _ => True) (fun x => (.p (.bool (decide (x.1 ≤ x.2.2 ∧ x.2.2 ≤ x.2.1))), []))
theorem has_at (a b v : Int) : has_S [.agg [.p (.int .i64 a), .p (.int .i64 b)], .p (.int .i64 v)] = some (.p (.bool (decide (a ≤ v ∧ v ≤ b))), []) :=
  specP_at (enc := fun x : Int × Int × Int => [.agg [.p (.int .i64 x.1), .p (.int .i64 x.2.1)], .p (.int .i64 x.2.2)]) (by rintro ⟨a, b, c⟩ ⟨a', b', c'⟩ h; simp at h; simp [h.1, h.2]) (a, b, v) trivial
abbrev holdsP (x : SlR) (p : PkR) : Prop := (x.f1 ≤ p.fr ∧ p.fr ≤ x.f2) ∧ (x.t1 ≤ p.to_ ∧ p.to_ ≤ x.t2) ∧ (x.p1 ≤ p.fp ∧ p.fp ≤ x.p2) ∧ (x.q1 ≤ p.tp ∧ p.tp ≤ x.q2) ∧ (x.pr = 0 ∨ x.pr = p.pr)
noncomputable def holds_S := specP (fun x : SlR × PkR => [slT x.1, pkT x.2]) (fun _ => True) (fun x => (.p (.bool (decide (holdsP x.1 x.2))), []))
theorem slpk_inj : ∀ x y : SlR × PkR, ([slT x.1, pkT x.2] : List TV) = [slT y.1, pkT y.2] → x = y := by
  rintro ⟨a, b⟩ ⟨a', b'⟩ h; simp at h; simp [slT_inj _ _ h.1, pkT_inj _ _ h.2]
theorem holds_at (x : SlR) (p : PkR) : holds_S [slT x, pkT p] = some (.p (.bool (decide (holdsP x p))), []) := specP_at (enc := fun x : SlR × PkR => [slT x.1, pkT x.2]) slpk_inj (x, p) trivial
end Go.Proofs.Ytkijbknnbmbnbaa
