import Derived.Test.YtkijbknnbmbnbaaLU
import Derived.Test.YtkijbknnbmbnbaaProg
set_option linter.unusedSimpArgs false
set_option linter.unusedVariables false
set_option maxRecDepth 100000
set_option maxHeartbeats 4000000
namespace Go.Proofs.Ytkijbknnbmbnbaa
open Go Go.AH
attribute [local irreducible] awpT ropsT qopsT stepT condKT gdKT EndT joinK loopKT seqKT blkKT kont kontR
-- spec.l1In
def c97 : AF := ⟨15,
  (.seq (.reg [⟨(some 6), none, .mv (.v (.bool false))⟩])
  (.seq (.reg [⟨(some 7), none, .mv (.t 0)⟩,
   ⟨(some 8), none, .mv (.t 1)⟩,
   ⟨(some 9), none, .bin .geq (.t 7) (.t 8)⟩,
   ⟨(some 10), none, .mv (.t 9)⟩,
   ⟨(some 11), (some (10, true)), .mv (.t 0)⟩,
   ⟨(some 12), (some (10, true)), .mv (.t 2)⟩,
   ⟨(some 13), (some (10, true)), .bin .leq (.t 11) (.t 12)⟩,
   ⟨(some 14), none, .pick (.t 10) (.t 13) (.v (.bool false))⟩,
   ⟨(some 6), none, .mv (.t 14)⟩])
  .ret)),
  [.t 6]⟩
theorem k97 : cFn Try.prog Try.f97 = some c97 := by kernel_rfl
-- impl.in
def c95 : AF := ⟨15,
  (.seq (.reg [⟨(some 6), none, .mv (.v (.bool false))⟩])
  (.seq (.reg [⟨(some 7), none, .mv (.t 0)⟩,
   ⟨(some 8), none, .mv (.t 1)⟩,
   ⟨(some 9), none, .bin .geq (.t 7) (.t 8)⟩,
   ⟨(some 10), none, .mv (.t 9)⟩,
   ⟨(some 11), (some (10, true)), .mv (.t 0)⟩,
   ⟨(some 12), (some (10, true)), .mv (.t 2)⟩,
   ⟨(some 13), (some (10, true)), .bin .leq (.t 11) (.t 12)⟩,
   ⟨(some 14), none, .pick (.t 10) (.t 13) (.v (.bool false))⟩,
   ⟨(some 6), none, .mv (.t 14)⟩])
  .ret)),
  [.t 6]⟩
theorem k95 : cFn Try.prog Try.f95 = some c95 := by kernel_rfl
/-! In a range -/
noncomputable def in_S := specP (fun x : Int × Int × Int => [.p (.int .i64 x.1), .p (.int .i64 x.2.1), .p (.int .i64 x.2.2)]) (fun _ => True) (fun x => (.p (.bool (decide (x.2.1 ≤ x.1 ∧ x.1 ≤ x.2.2))), []))
theorem in_at (a b c : Int) : in_S [.p (.int .i64 a), .p (.int .i64 b), .p (.int .i64 c)] = some (.p (.bool (decide (b ≤ a ∧ a ≤ c))), []) :=
  specP_at (enc := fun x : Int × Int × Int => [.p (.int .i64 x.1), .p (.int .i64 x.2.1), .p (.int .i64 x.2.2)]) (by rintro ⟨a, b, c⟩ ⟨a', b', c'⟩ h; simp at h; simp [h]) (a, b, c) trivial
theorem l1In_ok : OkT Try.prog 97 (pureSp in_S) := by
  refine okT_fn (OkΓT.nil _) Try.func97 (by kernel_rfl) k97 (fun x _ => ⟨rfl, rfl⟩) ?_
  rintro ⟨a, b, c⟩ _
  dsimp only
  (dsimp only [c97]; simp (maxSteps := 8000000) (implicitDefEqProofs := false) (disch := omega) only [↓reduceIte, go_sem, if_pos, if_neg])
  repeat' first
    | (refine gdKT_dec (fun hg => ?_) (fun hg => ?_) <;> (try (first | simp (maxSteps := 8000000) (implicitDefEqProofs := false) (disch := omega) only [↓reduceIte, go_sem, if_pos, if_neg, eq_false hg] | simp (maxSteps := 8000000) (implicitDefEqProofs := false) (disch := omega) only [↓reduceIte, go_sem, if_pos, if_neg, eq_true hg])))
    | (refine condKT_dec (fun hg => ?_) (fun hg => ?_) <;> (try (first | simp (maxSteps := 8000000) (implicitDefEqProofs := false) (disch := omega) only [↓reduceIte, go_sem, if_pos, if_neg, eq_false hg] | simp (maxSteps := 8000000) (implicitDefEqProofs := false) (disch := omega) only [↓reduceIte, go_sem, if_pos, if_neg, eq_true hg])))
    | (refine gdKT_split (fun hg => ?_) (fun hg => ?_) <;> (try simp (maxSteps := 8000000) (implicitDefEqProofs := false) (disch := omega) only [↓reduceIte, go_sem, if_pos, if_neg, hg]))
    | (refine condKT_split (fun hg => ?_) (fun hg => ?_) <;> (try simp (maxSteps := 8000000) (implicitDefEqProofs := false) (disch := omega) only [↓reduceIte, go_sem, if_pos, if_neg, hg]))
    | (refine endT_p (.inr rfl) (by simp (maxSteps := 8000000) (implicitDefEqProofs := false) (disch := omega) only [↓reduceIte, go_sem, if_pos, if_neg]; rfl) ?_; (first | exact vb_true (by omega) | exact vb_false (by omega) | exact vb_dec (by omega) | exact vi_eq (by omega) | rfl | (refine vi_eq ?_; simp_all; done) | (refine vi_eq ?_; simp_all; omega) | (refine vi_eq ?_; simp_all; intros; omega)))
    | exact endT_v (.inr rfl) (by simp (maxSteps := 8000000) (implicitDefEqProofs := false) (disch := omega) only [↓reduceIte, go_sem, if_pos, if_neg]; try rfl) (fun _ => rfl)
theorem in_ok : OkT Try.prog 95 (pureSp in_S) := by
  refine okT_fn (OkΓT.nil _) Try.func95 (by kernel_rfl) k95 (fun x _ => ⟨rfl, rfl⟩) ?_
  rintro ⟨a, b, c⟩ _
  dsimp only
  (dsimp only [c95]; simp (maxSteps := 8000000) (implicitDefEqProofs := false) (disch := omega) only [↓reduceIte, go_sem, if_pos, if_neg])
  repeat' first
    | (refine gdKT_dec (fun hg => ?_) (fun hg => ?_) <;> (try (first | simp (maxSteps := 8000000) (implicitDefEqProofs := false) (disch := omega) only [↓reduceIte, go_sem, if_pos, if_neg, eq_false hg] | simp (maxSteps := 8000000) (implicitDefEqProofs := false) (disch := omega) only [↓reduceIte, go_sem, if_pos, if_neg, eq_true hg])))
    | (refine condKT_dec (fun hg => ?_) (fun hg => ?_) <;> (try (first | simp (maxSteps := 8000000) (implicitDefEqProofs := false) (disch := omega) only [↓reduceIte, go_sem, if_pos, if_neg, eq_false hg] | simp (maxSteps := 8000000) (implicitDefEqProofs := false) (disch := omega) only [↓reduceIte, go_sem, if_pos, if_neg, eq_true hg])))
    | (refine gdKT_split (fun hg => ?_) (fun hg => ?_) <;> (try simp (maxSteps := 8000000) (implicitDefEqProofs := false) (disch := omega) only [↓reduceIte, go_sem, if_pos, if_neg, hg]))
    | (refine condKT_split (fun hg => ?_) (fun hg => ?_) <;> (try simp (maxSteps := 8000000) (implicitDefEqProofs := false) (disch := omega) only [↓reduceIte, go_sem, if_pos, if_neg, hg]))
    | (refine endT_p (.inr rfl) (by simp (maxSteps := 8000000) (implicitDefEqProofs := false) (disch := omega) only [↓reduceIte, go_sem, if_pos, if_neg]; rfl) ?_; (first | exact vb_true (by omega) | exact vb_false (by omega) | exact vb_dec (by omega) | exact vi_eq (by omega) | rfl | (refine vi_eq ?_; simp_all; done) | (refine vi_eq ?_; simp_all; omega) | (refine vi_eq ?_; simp_all; intros; omega)))
    | exact endT_v (.inr rfl) (by simp (maxSteps := 8000000) (implicitDefEqProofs := false) (disch := omega) only [↓reduceIte, go_sem, if_pos, if_neg]; try rfl) (fun _ => rfl)
/-! Two ends -/
structure RgR where
  (lo hi : Int)
def rgT (x : RgR) : TV := .agg [.p (.int .i64 x.lo), .p (.int .i64 x.hi)]
theorem rgT_inj (x y : RgR) (h : rgT x = rgT y) : x = y := by cases x; cases y; simp [rgT] at h; simp [h]
/-! Selectors -/
structure SlR where
  (f1 f2 t1 t2 p1 p2 q1 q2 pr : Int)
def slT (x : SlR) : TV := .agg [.p (.int .i64 x.f1), .p (.int .i64 x.f2), .p (.int .i64 x.t1), .p (.int .i64 x.t2), .p (.int .i64 x.p1), .p (.int .i64 x.p2), .p (.int .i64 x.q1), .p (.int .i64 x.q2), .p (.int .i64 x.pr)]
theorem slT_inj (x y : SlR) (h : slT x = slT y) : x = y := by cases x; cases y; simp [slT] at h; simp [h]
theorem slT_flat : Flat slT 9 := ⟨fun _ => rfl, fun h n x => by simp only [slT, frz_agg, frz_p, List.map_cons, List.map_nil], fun _ _ => rfl⟩
theorem sls_sized (l : List SlR) : sizedT 9 (rowsT slT l) = true := rowsT_sized slT_flat l
theorem sls_frz (h : THeap) (n : Nat) (l : List SlR) : (rowsT slT l).map (frzT h n) = rowsT slT l := rowsT_frz slT_flat h n l
theorem sls_ren (ρ : Nat → Nat) (l : List SlR) : renTs ρ (rowsT slT l) = rowsT slT l := rowsT_ren slT_flat ρ l
theorem sls_own (l : List SlR) : ownTs (rowsT slT l) = true := rowsT_own (fun _ => rfl) l
theorem sls_inj {l l' : List SlR} (h : rowsT slT l = rowsT slT l') : l = l' := rowsT_inj slT_inj h
theorem sls_snoc (l : List SlR) (x : SlR) : rowsT slT l ++ [.agg [.p (.int .i64 x.f1), .p (.int .i64 x.f2), .p (.int .i64 x.t1), .p (.int .i64 x.t2), .p (.int .i64 x.p1), .p (.int .i64 x.p2), .p (.int .i64 x.q1), .p (.int .i64 x.q2), .p (.int .i64 x.pr)]] = rowsT slT (l ++ [x]) := rowsT_snoc l x
attribute [go_sem] sls_sized sls_frz sls_ren sls_own sls_snoc
/-! Rows of selectors -/
def slZ : TV := slT ⟨0, 0, 0, 0, 0, 0, 0, 0, 0⟩
theorem slZ_el : el [.p (.int .i64 0), .p (.int .i64 0), .p (.int .i64 0), .p (.int .i64 0), .p (.int .i64 0), .p (.int .i64 0), .p (.int .i64 0), .p (.int .i64 0), .p (.int .i64 0)] = slZ := rfl
theorem slZ_cells : cellsT slZ = [.p (.int .i64 0), .p (.int .i64 0), .p (.int .i64 0), .p (.int .i64 0), .p (.int .i64 0), .p (.int .i64 0), .p (.int .i64 0), .p (.int .i64 0), .p (.int .i64 0)] := rfl
theorem slmix_ren (ρ : Nat → Nat) (l : List SlR) (i : Nat) : renTs ρ (mixT slT slZ l i) = mixT slT slZ l i := mix_ren slT_flat (fun _ => rfl) ρ l i
theorem slmix_zero (l : List SlR) : List.replicate l.length slZ = mixT slT slZ l 0 := mixT_zero slZ l
theorem slmix_set {l : List SlR} {i : Nat} {x : SlR} (h : l[i]? = some x) : (mixT slT slZ l i).set i (.agg [.p (.int .i64 x.f1), .p (.int .i64 x.f2), .p (.int .i64 x.t1), .p (.int .i64 x.t2), .p (.int .i64 x.p1), .p (.int .i64 x.p2), .p (.int .i64 x.q1), .p (.int .i64 x.q2), .p (.int .i64 x.pr)]) = mixT slT slZ l (i + 1) := mixT_set slZ h
/-! Right selectors -/
abbrev rgOk (a b m : Int) : Prop := 0 ≤ a ∧ a ≤ m ∧ 0 ≤ b ∧ b ≤ m ∧ a ≤ b
def selF (x : SlR) : Int := if rgOk x.f1 x.f2 4294967295 ∧ rgOk x.t1 x.t2 4294967295 ∧ rgOk x.p1 x.p2 65535 ∧ rgOk x.q1 x.q2 65535 ∧ 0 ≤ x.pr ∧ x.pr ≤ 255 then
  (if x.pr = 0 ∨ x.pr = 6 ∨ x.pr = 17 ∨ (x.p1 = 0 ∧ x.p2 = 65535 ∧ x.q1 = 0 ∧ x.q2 = 65535) then 0 else 1) else 3
noncomputable def hasP_S := specP (fun x : Int => [.p (.int .i64 x)]) (fun x => True) (fun x => (.p (.bool (decide (x = 6 ∨ x = 17))), []))
theorem hasP_at (a : Int) : hasP_S [.p (.int .i64 a)] = some (.p (.bool (decide (a = 6 ∨ a = 17))), []) :=
  specP_at (enc := fun x : Int => [.p (.int .i64 x)]) (by intro x y h; simpa using h) a trivial
-- spec.HasPorts
def c224 : AF := ⟨9,
  (.seq (.reg [⟨(some 2), none, .mv (.v (.bool false))⟩])
  (.seq (.reg [⟨(some 3), none, .mv (.t 0)⟩,
   ⟨(some 4), none, .bin .eql (.t 3) (.v (.int .i64 6))⟩,
   ⟨(some 5), none, .mv (.t 4)⟩,
   ⟨(some 6), (some (5, false)), .mv (.t 0)⟩,
   ⟨(some 7), (some (5, false)), .bin .eql (.t 6) (.v (.int .i64 17))⟩,
   ⟨(some 8), none, .pick (.t 5) (.v (.bool true)) (.t 7)⟩,
   ⟨(some 2), none, .mv (.t 8)⟩])
  .ret)),
  [.t 2]⟩
theorem k224 : cFn Try.prog Try.f224 = some c224 := by kernel_rfl
theorem specHasP_ok : OkT Try.prog 224 (pureSp hasP_S) := by
  refine okT_fn (OkΓT.nil _) Try.func224 (by kernel_rfl) k224 (fun x _ => ⟨rfl, rfl⟩) ?_
  rintro x _
  dsimp only at *
  (dsimp only [c224]; simp (maxSteps := 8000000) (implicitDefEqProofs := false) (disch := omega) only [↓reduceIte, go_sem, if_pos, if_neg])
  repeat' first
    | (refine gdKT_dec (fun hg => ?_) (fun hg => ?_) <;> (try (first | simp (maxSteps := 8000000) (implicitDefEqProofs := false) (disch := omega) only [↓reduceIte, go_sem, if_pos, if_neg, eq_false hg] | simp (maxSteps := 8000000) (implicitDefEqProofs := false) (disch := omega) only [↓reduceIte, go_sem, if_pos, if_neg, eq_true hg])))
    | (refine condKT_dec (fun hg => ?_) (fun hg => ?_) <;> (try (first | simp (maxSteps := 8000000) (implicitDefEqProofs := false) (disch := omega) only [↓reduceIte, go_sem, if_pos, if_neg, eq_false hg] | simp (maxSteps := 8000000) (implicitDefEqProofs := false) (disch := omega) only [↓reduceIte, go_sem, if_pos, if_neg, eq_true hg])))
    | (refine gdKT_split (fun hg => ?_) (fun hg => ?_) <;> (try simp (maxSteps := 8000000) (implicitDefEqProofs := false) (disch := omega) only [↓reduceIte, go_sem, if_pos, if_neg, hg]))
    | (refine condKT_split (fun hg => ?_) (fun hg => ?_) <;> (try simp (maxSteps := 8000000) (implicitDefEqProofs := false) (disch := omega) only [↓reduceIte, go_sem, if_pos, if_neg, hg]))
    | (refine endT_p (.inr rfl) (by simp (maxSteps := 8000000) (implicitDefEqProofs := false) (disch := omega) only [↓reduceIte, go_sem, if_pos, if_neg]; rfl) ?_; (first | exact vb_true (by omega) | exact vb_false (by omega) | exact vb_dec (by omega) | exact vi_eq (by omega) | rfl | (refine vi_eq ?_; simp_all; done) | (refine vi_eq ?_; simp_all; omega) | (refine vi_eq ?_; simp_all; intros; omega)))
    | exact endT_v (.inr rfl) (by simp (maxSteps := 8000000) (implicitDefEqProofs := false) (disch := omega) only [↓reduceIte, go_sem, if_pos, if_neg]; try rfl) (fun _ => rfl)
-- impl.HasPorts
def c140 : AF := ⟨9,
  (.seq (.reg [⟨(some 2), none, .mv (.v (.bool false))⟩])
  (.seq (.reg [⟨(some 3), none, .mv (.t 0)⟩,
   ⟨(some 4), none, .bin .eql (.t 3) (.v (.int .i64 6))⟩,
   ⟨(some 5), none, .mv (.t 4)⟩,
   ⟨(some 6), (some (5, false)), .mv (.t 0)⟩,
   ⟨(some 7), (some (5, false)), .bin .eql (.t 6) (.v (.int .i64 17))⟩,
   ⟨(some 8), none, .pick (.t 5) (.v (.bool true)) (.t 7)⟩,
   ⟨(some 2), none, .mv (.t 8)⟩])
  .ret)),
  [.t 2]⟩
theorem k140 : cFn Try.prog Try.f140 = some c140 := by kernel_rfl
theorem implHasP_ok : OkT Try.prog 140 (pureSp hasP_S) := by
  refine okT_fn (OkΓT.nil _) Try.func140 (by kernel_rfl) k140 (fun x _ => ⟨rfl, rfl⟩) ?_
  rintro x _
  dsimp only at *
  (dsimp only [c140]; simp (maxSteps := 8000000) (implicitDefEqProofs := false) (disch := omega) only [↓reduceIte, go_sem, if_pos, if_neg])
  repeat' first
    | (refine gdKT_dec (fun hg => ?_) (fun hg => ?_) <;> (try (first | simp (maxSteps := 8000000) (implicitDefEqProofs := false) (disch := omega) only [↓reduceIte, go_sem, if_pos, if_neg, eq_false hg] | simp (maxSteps := 8000000) (implicitDefEqProofs := false) (disch := omega) only [↓reduceIte, go_sem, if_pos, if_neg, eq_true hg])))
    | (refine condKT_dec (fun hg => ?_) (fun hg => ?_) <;> (try (first | simp (maxSteps := 8000000) (implicitDefEqProofs := false) (disch := omega) only [↓reduceIte, go_sem, if_pos, if_neg, eq_false hg] | simp (maxSteps := 8000000) (implicitDefEqProofs := false) (disch := omega) only [↓reduceIte, go_sem, if_pos, if_neg, eq_true hg])))
    | (refine gdKT_split (fun hg => ?_) (fun hg => ?_) <;> (try simp (maxSteps := 8000000) (implicitDefEqProofs := false) (disch := omega) only [↓reduceIte, go_sem, if_pos, if_neg, hg]))
    | (refine condKT_split (fun hg => ?_) (fun hg => ?_) <;> (try simp (maxSteps := 8000000) (implicitDefEqProofs := false) (disch := omega) only [↓reduceIte, go_sem, if_pos, if_neg, hg]))
    | (refine endT_p (.inr rfl) (by simp (maxSteps := 8000000) (implicitDefEqProofs := false) (disch := omega) only [↓reduceIte, go_sem, if_pos, if_neg]; rfl) ?_; (first | exact vb_true (by omega) | exact vb_false (by omega) | exact vb_dec (by omega) | exact vi_eq (by omega) | rfl | (refine vi_eq ?_; simp_all; done) | (refine vi_eq ?_; simp_all; omega) | (refine vi_eq ?_; simp_all; intros; omega)))
    | exact endT_v (.inr rfl) (by simp (maxSteps := 8000000) (implicitDefEqProofs := false) (disch := omega) only [↓reduceIte, go_sem, if_pos, if_neg]; try rfl) (fun _ => rfl)
noncomputable def whole_S := specP (fun x : Unit => []) (fun x => True) (fun x => (.agg [.p (.int .i64 0), .p (.int .i64 65535)], []))
theorem whole_at : whole_S [] = some (.agg [.p (.int .i64 0), .p (.int .i64 65535)], []) := specP_at (enc := fun x : Unit => []) (fun _ _ _ => rfl) () trivial
-- spec.l3All
def c244 : AF := ⟨2,
  (.seq (.reg [⟨(some 0), none, .alloc 182 [(.int .i64 0), (.int .i64 0)]⟩])
  (.seq (.reg [⟨(some 1), none, .build [(.int .i64 0), (.int .i64 0)] [(1, 1, (.v (.int .i64 65535)))]⟩,
   ⟨none, none, .st 2 (.t 0) (.t 1)⟩])
  .ret)),
  [.cell 0 (some 2)]⟩
theorem k244 : cFn Try.prog Try.f244 = some c244 := by kernel_rfl
theorem l3All_ok : OkT Try.prog 244 (pureSp whole_S) := by
  refine okT_fn (OkΓT.nil _) Try.func244 (by kernel_rfl) k244 (fun x _ => ⟨rfl, rfl⟩) ?_
  rintro x _
  dsimp only at *
  (dsimp only [c244]; simp (maxSteps := 8000000) (implicitDefEqProofs := false) (disch := omega) only [↓reduceIte, go_sem, if_pos, if_neg])
  repeat' first
    | (refine gdKT_dec (fun hg => ?_) (fun hg => ?_) <;> (try (first | simp (maxSteps := 8000000) (implicitDefEqProofs := false) (disch := omega) only [↓reduceIte, go_sem, if_pos, if_neg, eq_false hg] | simp (maxSteps := 8000000) (implicitDefEqProofs := false) (disch := omega) only [↓reduceIte, go_sem, if_pos, if_neg, eq_true hg])))
    | (refine condKT_dec (fun hg => ?_) (fun hg => ?_) <;> (try (first | simp (maxSteps := 8000000) (implicitDefEqProofs := false) (disch := omega) only [↓reduceIte, go_sem, if_pos, if_neg, eq_false hg] | simp (maxSteps := 8000000) (implicitDefEqProofs := false) (disch := omega) only [↓reduceIte, go_sem, if_pos, if_neg, eq_true hg])))
    | (refine gdKT_split (fun hg => ?_) (fun hg => ?_) <;> (try simp (maxSteps := 8000000) (implicitDefEqProofs := false) (disch := omega) only [↓reduceIte, go_sem, if_pos, if_neg, hg]))
    | (refine condKT_split (fun hg => ?_) (fun hg => ?_) <;> (try simp (maxSteps := 8000000) (implicitDefEqProofs := false) (disch := omega) only [↓reduceIte, go_sem, if_pos, if_neg, hg]))
    | (refine endT_p (.inr rfl) (by simp (maxSteps := 8000000) (implicitDefEqProofs := false) (disch := omega) only [↓reduceIte, go_sem, if_pos, if_neg]; rfl) ?_; (first | exact vb_true (by omega) | exact vb_false (by omega) | exact vb_dec (by omega) | exact vi_eq (by omega) | rfl | (refine vi_eq ?_; simp_all; done) | (refine vi_eq ?_; simp_all; omega) | (refine vi_eq ?_; simp_all; intros; omega)))
    | exact endT_v (.inr rfl) (by simp (maxSteps := 8000000) (implicitDefEqProofs := false) (disch := omega) only [↓reduceIte, go_sem, if_pos, if_neg]; try rfl) (fun _ => rfl)
-- impl.whole
def c230 : AF := ⟨2,
  (.seq (.reg [⟨(some 0), none, .alloc 182 [(.int .i64 0), (.int .i64 0)]⟩])
  (.seq (.reg [⟨(some 1), none, .build [(.int .i64 0), (.int .i64 0)] [(0, 1, (.v (.int .i64 0))), (1, 1, (.v (.int .i64 65535)))]⟩,
   ⟨none, none, .st 2 (.t 0) (.t 1)⟩])
  .ret)),
  [.cell 0 (some 2)]⟩
theorem k230 : cFn Try.prog Try.f230 = some c230 := by kernel_rfl
theorem whole_ok : OkT Try.prog 230 (pureSp whole_S) := by
  refine okT_fn (OkΓT.nil _) Try.func230 (by kernel_rfl) k230 (fun x _ => ⟨rfl, rfl⟩) ?_
  rintro x _
  dsimp only at *
  (dsimp only [c230]; simp (maxSteps := 8000000) (implicitDefEqProofs := false) (disch := omega) only [↓reduceIte, go_sem, if_pos, if_neg])
  repeat' first
    | (refine gdKT_dec (fun hg => ?_) (fun hg => ?_) <;> (try (first | simp (maxSteps := 8000000) (implicitDefEqProofs := false) (disch := omega) only [↓reduceIte, go_sem, if_pos, if_neg, eq_false hg] | simp (maxSteps := 8000000) (implicitDefEqProofs := false) (disch := omega) only [↓reduceIte, go_sem, if_pos, if_neg, eq_true hg])))
    | (refine condKT_dec (fun hg => ?_) (fun hg => ?_) <;> (try (first | simp (maxSteps := 8000000) (implicitDefEqProofs := false) (disch := omega) only [↓reduceIte, go_sem, if_pos, if_neg, eq_false hg] | simp (maxSteps := 8000000) (implicitDefEqProofs := false) (disch := omega) only [↓reduceIte, go_sem, if_pos, if_neg, eq_true hg])))
    | (refine gdKT_split (fun hg => ?_) (fun hg => ?_) <;> (try simp (maxSteps := 8000000) (implicitDefEqProofs := false) (disch := omega) only [↓reduceIte, go_sem, if_pos, if_neg, hg]))
    | (refine condKT_split (fun hg => ?_) (fun hg => ?_) <;> (try simp (maxSteps := 8000000) (implicitDefEqProofs := false) (disch := omega) only [↓reduceIte, go_sem, if_pos, if_neg, hg]))
    | (refine endT_p (.inr rfl) (by simp (maxSteps := 8000000) (implicitDefEqProofs := false) (disch := omega) only [↓reduceIte, go_sem, if_pos, if_neg]; rfl) ?_; (first | exact vb_true (by omega) | exact vb_false (by omega) | exact vb_dec (by omega) | exact vi_eq (by omega) | rfl | (refine vi_eq ?_; simp_all; done) | (refine vi_eq ?_; simp_all; omega) | (refine vi_eq ?_; simp_all; intros; omega)))
    | exact endT_v (.inr rfl) (by simp (maxSteps := 8000000) (implicitDefEqProofs := false) (disch := omega) only [↓reduceIte, go_sem, if_pos, if_neg]; try rfl) (fun _ => rfl)
noncomputable def rgOk_S := specP (fun x : RgR × Int => [rgT x.1, .p (.int .i64 x.2)]) (fun x => True) (fun x => (.p (.bool (decide (rgOk x.1.lo x.1.hi x.2))), []))
theorem rgOk_at (a b m : Int) : rgOk_S [.agg [.p (.int .i64 a), .p (.int .i64 b)], .p (.int .i64 m)] = some (.p (.bool (decide (rgOk a b m))), []) :=
  specP_at (enc := fun x : RgR × Int => [rgT x.1, .p (.int .i64 x.2)]) (by rintro ⟨a, b⟩ ⟨a', b'⟩ h; simp at h; simp [rgT_inj _ _ h.1, h.2]) (⟨a, b⟩, m) trivial
-- spec.l3Range
def c248 : AF := ⟨21,
  (.seq (.reg [⟨(some 2), none, .box 182 (.t 0)⟩,
   ⟨(some 4), none, .mv (.v (.bool false))⟩])
  (.seq (.reg [⟨(some 5), none, .fa (.t 2) 0⟩,
   ⟨(some 6), none, .ld (.t 5)⟩,
   ⟨(some 7), none, .bin .geq (.t 6) (.v (.int .i64 0))⟩,
   ⟨(some 8), none, .mv (.t 7)⟩,
   ⟨(some 9), (some (8, true)), .fa (.t 2) 0⟩,
   ⟨(some 10), (some (8, true)), .ld (.t 9)⟩,
   ⟨(some 11), (some (8, true)), .fa (.t 2) 1⟩,
   ⟨(some 12), (some (8, true)), .ld (.t 11)⟩,
   ⟨(some 13), (some (8, true)), .bin .leq (.t 10) (.t 12)⟩,
   ⟨(some 14), none, .pick (.t 8) (.t 13) (.v (.bool false))⟩,
   ⟨(some 15), none, .mv (.t 14)⟩,
   ⟨(some 16), (some (15, true)), .fa (.t 2) 1⟩,
   ⟨(some 17), (some (15, true)), .ld (.t 16)⟩,
   ⟨(some 18), (some (15, true)), .mv (.t 1)⟩,
   ⟨(some 19), (some (15, true)), .bin .leq (.t 17) (.t 18)⟩,
   ⟨(some 20), none, .pick (.t 15) (.t 19) (.v (.bool false))⟩,
   ⟨(some 4), none, .mv (.t 20)⟩])
  .ret)),
  [.t 4]⟩
theorem k248 : cFn Try.prog Try.f248 = some c248 := by kernel_rfl
theorem l3Range_ok : OkT Try.prog 248 (pureSp rgOk_S) := by
  refine okT_fn (OkΓT.nil _) Try.func248 (by kernel_rfl) k248 (fun x _ => ⟨rfl, rfl⟩) ?_
  rintro ⟨⟨a, b⟩, m⟩ _
  dsimp only [rgT, rgOk]
  (dsimp only [c248]; simp (maxSteps := 8000000) (implicitDefEqProofs := false) (disch := omega) only [↓reduceIte, go_sem, if_pos, if_neg])
  repeat' first
    | (refine gdKT_dec (fun hg => ?_) (fun hg => ?_) <;> (try (first | simp (maxSteps := 8000000) (implicitDefEqProofs := false) (disch := omega) only [↓reduceIte, go_sem, if_pos, if_neg, eq_false hg] | simp (maxSteps := 8000000) (implicitDefEqProofs := false) (disch := omega) only [↓reduceIte, go_sem, if_pos, if_neg, eq_true hg])))
    | (refine condKT_dec (fun hg => ?_) (fun hg => ?_) <;> (try (first | simp (maxSteps := 8000000) (implicitDefEqProofs := false) (disch := omega) only [↓reduceIte, go_sem, if_pos, if_neg, eq_false hg] | simp (maxSteps := 8000000) (implicitDefEqProofs := false) (disch := omega) only [↓reduceIte, go_sem, if_pos, if_neg, eq_true hg])))
    | (refine gdKT_split (fun hg => ?_) (fun hg => ?_) <;> (try simp (maxSteps := 8000000) (implicitDefEqProofs := false) (disch := omega) only [↓reduceIte, go_sem, if_pos, if_neg, hg]))
    | (refine condKT_split (fun hg => ?_) (fun hg => ?_) <;> (try simp (maxSteps := 8000000) (implicitDefEqProofs := false) (disch := omega) only [↓reduceIte, go_sem, if_pos, if_neg, hg]))
    | (refine endT_p (.inr rfl) (by simp (maxSteps := 8000000) (implicitDefEqProofs := false) (disch := omega) only [↓reduceIte, go_sem, if_pos, if_neg]; rfl) ?_; (first | exact vb_true (by omega) | exact vb_false (by omega) | exact vb_dec (by omega) | exact vi_eq (by omega) | rfl | (refine vi_eq ?_; simp_all; done) | (refine vi_eq ?_; simp_all; omega) | (refine vi_eq ?_; simp_all; intros; omega)))
    | exact endT_v (.inr rfl) (by simp (maxSteps := 8000000) (implicitDefEqProofs := false) (disch := omega) only [↓reduceIte, go_sem, if_pos, if_neg]; try rfl) (fun _ => rfl)
-- (impl.Range).ok
def c229 : AF := ⟨22,
  (.seq (.reg [⟨(some 2), none, .box 182 (.t 0)⟩,
   ⟨(some 4), none, .mv (.v (.bool false))⟩])
  (.seq (.reg [⟨(some 5), none, .fa (.t 2) 0⟩,
   ⟨(some 6), none, .ld (.t 5)⟩,
   ⟨(some 7), none, .mv (.t 1)⟩,
   ⟨(some 8), none, .call 95 [(.t 6), (.v (.int .i64 0)), (.t 7)]⟩,
   ⟨(some 9), none, .mv (.t 8)⟩,
   ⟨(some 10), (some (9, true)), .fa (.t 2) 1⟩,
   ⟨(some 11), (some (9, true)), .ld (.t 10)⟩,
   ⟨(some 12), (some (9, true)), .mv (.t 1)⟩,
   ⟨(some 13), (some (9, true)), .call 95 [(.t 11), (.v (.int .i64 0)), (.t 12)]⟩,
   ⟨(some 14), none, .pick (.t 9) (.t 13) (.v (.bool false))⟩,
   ⟨(some 15), none, .mv (.t 14)⟩,
   ⟨(some 16), (some (15, true)), .fa (.t 2) 0⟩,
   ⟨(some 17), (some (15, true)), .ld (.t 16)⟩,
   ⟨(some 18), (some (15, true)), .fa (.t 2) 1⟩,
   ⟨(some 19), (some (15, true)), .ld (.t 18)⟩,
   ⟨(some 20), (some (15, true)), .bin .leq (.t 17) (.t 19)⟩,
   ⟨(some 21), none, .pick (.t 15) (.t 20) (.v (.bool false))⟩,
   ⟨(some 4), none, .mv (.t 21)⟩])
  .ret)),
  [.t 4]⟩
theorem k229 : cFn Try.prog Try.f229 = some c229 := by kernel_rfl
theorem rgok_ok : OkT Try.prog 229 (pureSp rgOk_S) := by
  refine okT_fn (OkΓT.cons in_ok (OkΓT.nil _)) Try.func229 (by kernel_rfl) k229 (fun x _ => ⟨rfl, rfl⟩) ?_
  rintro ⟨⟨a, b⟩, m⟩ _
  dsimp only [rgT, rgOk]
  (dsimp only [c229]; simp (maxSteps := 8000000) (implicitDefEqProofs := false) (disch := omega) only [↓reduceIte, go_sem, if_pos, if_neg, in_at])
  repeat' first
    | (refine gdKT_dec (fun hg => ?_) (fun hg => ?_) <;> (try (first | simp (maxSteps := 8000000) (implicitDefEqProofs := false) (disch := omega) only [↓reduceIte, go_sem, if_pos, if_neg, eq_false hg, in_at] | simp (maxSteps := 8000000) (implicitDefEqProofs := false) (disch := omega) only [↓reduceIte, go_sem, if_pos, if_neg, eq_true hg, in_at])))
    | (refine condKT_dec (fun hg => ?_) (fun hg => ?_) <;> (try (first | simp (maxSteps := 8000000) (implicitDefEqProofs := false) (disch := omega) only [↓reduceIte, go_sem, if_pos, if_neg, eq_false hg, in_at] | simp (maxSteps := 8000000) (implicitDefEqProofs := false) (disch := omega) only [↓reduceIte, go_sem, if_pos, if_neg, eq_true hg, in_at])))
    | (refine gdKT_split (fun hg => ?_) (fun hg => ?_) <;> (try simp (maxSteps := 8000000) (implicitDefEqProofs := false) (disch := omega) only [↓reduceIte, go_sem, if_pos, if_neg, hg, in_at]))
    | (refine condKT_split (fun hg => ?_) (fun hg => ?_) <;> (try simp (maxSteps := 8000000) (implicitDefEqProofs := false) (disch := omega) only [↓reduceIte, go_sem, if_pos, if_neg, hg, in_at]))
    | (refine endT_p (.inr rfl) (by simp (maxSteps := 8000000) (implicitDefEqProofs := false) (disch := omega) only [↓reduceIte, go_sem, if_pos, if_neg, in_at]; rfl) ?_; (first | exact vb_true (by omega) | exact vb_false (by omega) | exact vb_dec (by omega) | exact vi_eq (by omega) | rfl | (refine vi_eq ?_; simp_all; done) | (refine vi_eq ?_; simp_all; omega) | (refine vi_eq ?_; simp_all; intros; omega)))
    | exact endT_v (.inr rfl) (by simp (maxSteps := 8000000) (implicitDefEqProofs := false) (disch := omega) only [↓reduceIte, go_sem, if_pos, if_neg, in_at]; try rfl) (fun _ => rfl)
noncomputable def selF_S := specP (fun x : SlR => [slT x]) (fun x => True) (fun x => (.p (.int .i64 (selF x)), []))
theorem selF_at (a b c d e f g h i : Int) : selF_S [.agg [.p (.int .i64 a), .p (.int .i64 b), .p (.int .i64 c), .p (.int .i64 d), .p (.int .i64 e), .p (.int .i64 f), .p (.int .i64 g), .p (.int .i64 h), .p (.int .i64 i)]] = some (.p (.int .i64 (selF ⟨a, b, c, d, e, f, g, h, i⟩)), []) :=
  specP_at (enc := fun x : SlR => [slT x]) (by intro x y h; exact slT_inj x y (by simpa using h)) ⟨a, b, c, d, e, f, g, h, i⟩ trivial
-- spec.SelFault
def c228 : AF := ⟨52,
  (.seq (.reg [⟨(some 1), none, .box 184 (.t 0)⟩,
   ⟨(some 2), none, .mv (.v (.int .i64 0))⟩])
  (.seq (.seq (.reg [⟨(some 3), none, .fa (.t 1) 0⟩,
   ⟨(some 4), none, .ldn 2 (.t 3)⟩,
   ⟨(some 5), none, .call 248 [(.t 4), (.v (.int .i64 4294967295))]⟩,
   ⟨(some 6), none, .un .not (.t 5)⟩,
   ⟨(some 7), none, .mv (.t 6)⟩,
   ⟨(some 8), (some (7, false)), .fa (.t 1) 2⟩,
   ⟨(some 9), (some (7, false)), .ldn 2 (.t 8)⟩,
   ⟨(some 10), (some (7, false)), .call 248 [(.t 9), (.v (.int .i64 4294967295))]⟩,
   ⟨(some 11), (some (7, false)), .un .not (.t 10)⟩,
   ⟨(some 12), none, .pick (.t 7) (.v (.bool true)) (.t 11)⟩,
   ⟨(some 13), none, .mv (.t 12)⟩,
   ⟨(some 14), (some (13, false)), .fa (.t 1) 4⟩,
   ⟨(some 15), (some (13, false)), .ldn 2 (.t 14)⟩,
   ⟨(some 16), (some (13, false)), .call 248 [(.t 15), (.v (.int .i64 65535))]⟩,
   ⟨(some 17), (some (13, false)), .un .not (.t 16)⟩,
   ⟨(some 18), none, .pick (.t 13) (.v (.bool true)) (.t 17)⟩,
   ⟨(some 19), none, .mv (.t 18)⟩,
   ⟨(some 20), (some (19, false)), .fa (.t 1) 6⟩,
   ⟨(some 21), (some (19, false)), .ldn 2 (.t 20)⟩,
   ⟨(some 22), (some (19, false)), .call 248 [(.t 21), (.v (.int .i64 65535))]⟩,
   ⟨(some 23), (some (19, false)), .un .not (.t 22)⟩,
   ⟨(some 24), none, .pick (.t 19) (.v (.bool true)) (.t 23)⟩,
   ⟨(some 25), none, .mv (.t 24)⟩,
   ⟨(some 26), (some (25, false)), .fa (.t 1) 8⟩,
   ⟨(some 27), (some (25, false)), .ld (.t 26)⟩,
   ⟨(some 28), (some (25, false)), .call 97 [(.t 27), (.v (.int .i64 0)), (.v (.int .i64 255))]⟩,
   ⟨(some 29), (some (25, false)), .un .not (.t 28)⟩,
   ⟨(some 30), none, .pick (.t 25) (.v (.bool true)) (.t 29)⟩])
  (.cond (.t 30) (.seq (.reg [⟨(some 2), none, .mv (.v (.int .i64 3))⟩])
  .ret)
  .skip))
  (.seq (.seq (.drw [⟨(some 31), none, .fa (.t 1) 8⟩,
   ⟨(some 32), none, .ld (.t 31)⟩,
   ⟨(some 33), none, .bin .neq (.t 32) (.v (.int .i64 0))⟩,
   ⟨(some 34), none, .mv (.t 33)⟩,
   ⟨(some 35), (some (34, true)), .fa (.t 1) 8⟩,
   ⟨(some 36), (some (34, true)), .ld (.t 35)⟩,
   ⟨(some 37), (some (34, true)), .call 224 [(.t 36)]⟩,
   ⟨(some 38), (some (34, true)), .un .not (.t 37)⟩,
   ⟨(some 39), none, .pick (.t 34) (.t 38) (.v (.bool false))⟩,
   ⟨(some 40), none, .mv (.t 39)⟩,
   ⟨(some 41), (some (40, true)), .fa (.t 1) 4⟩,
   ⟨(some 42), (some (40, true)), .ldn 2 (.t 41)⟩,
   ⟨(some 43), (some (40, true)), .call 244 []⟩,
   ⟨(some 44), (some (40, true)), .eqS true [.i, .i] (.t 42) (.t 43)⟩,
   ⟨(some 45), (some (40, true)), .mv (.t 44)⟩,
   ⟨(some 46), (some (45, false)), .fa (.t 1) 6⟩,
   ⟨(some 47), (some (45, false)), .ldn 2 (.t 46)⟩,
   ⟨(some 48), (some (45, false)), .call 244 []⟩] [⟨(some 49), (some (45, false)), .eqS true [.i, .i] (.t 47) (.t 48)⟩,
   ⟨(some 50), (some (40, true)), .pick (.t 45) (.v (.bool true)) (.t 49)⟩,
   ⟨(some 51), none, .pick (.t 40) (.t 50) (.v (.bool false))⟩])
  (.cond (.t 51) (.seq (.reg [⟨(some 2), none, .mv (.v (.int .i64 1))⟩])
  .ret)
  .skip))
  (.seq (.reg [⟨(some 2), none, .mv (.v (.int .i64 0))⟩])
  .ret)))),
  [.t 2]⟩
theorem k228 : cFn Try.prog Try.f228 = some c228 := by kernel_rfl
theorem selFS_ok : OkT Try.prog 228 (pureSp selF_S) := by
  refine okT_fn (OkΓT.cons l3Range_ok (OkΓT.cons l1In_ok (OkΓT.cons specHasP_ok (OkΓT.cons l3All_ok (OkΓT.nil _))))) Try.func228 (by kernel_rfl) k228 (fun x _ => ⟨rfl, rfl⟩) ?_
  rintro x _
  dsimp only [slT, selF]
  (dsimp only [c228]; simp (maxSteps := 8000000) (implicitDefEqProofs := false) (disch := omega) only [↓reduceIte, go_sem, if_pos, if_neg, rgOk_at, in_at, hasP_at, whole_at])
  repeat' first
    | (refine gdKT_dec (fun hg => ?_) (fun hg => ?_) <;> (try (first | simp (maxSteps := 8000000) (implicitDefEqProofs := false) (disch := omega) only [↓reduceIte, go_sem, if_pos, if_neg, eq_false hg, rgOk_at, in_at, hasP_at, whole_at] | simp (maxSteps := 8000000) (implicitDefEqProofs := false) (disch := omega) only [↓reduceIte, go_sem, if_pos, if_neg, eq_true hg, rgOk_at, in_at, hasP_at, whole_at])))
    | (refine condKT_dec (fun hg => ?_) (fun hg => ?_) <;> (try (first | simp (maxSteps := 8000000) (implicitDefEqProofs := false) (disch := omega) only [↓reduceIte, go_sem, if_pos, if_neg, eq_false hg, rgOk_at, in_at, hasP_at, whole_at] | simp (maxSteps := 8000000) (implicitDefEqProofs := false) (disch := omega) only [↓reduceIte, go_sem, if_pos, if_neg, eq_true hg, rgOk_at, in_at, hasP_at, whole_at])))
    | (refine gdKT_split (fun hg => ?_) (fun hg => ?_) <;> (try simp (maxSteps := 8000000) (implicitDefEqProofs := false) (disch := omega) only [↓reduceIte, go_sem, if_pos, if_neg, hg, rgOk_at, in_at, hasP_at, whole_at]))
    | (refine condKT_split (fun hg => ?_) (fun hg => ?_) <;> (try simp (maxSteps := 8000000) (implicitDefEqProofs := false) (disch := omega) only [↓reduceIte, go_sem, if_pos, if_neg, hg, rgOk_at, in_at, hasP_at, whole_at]))
    | (refine endT_p (.inr rfl) (by simp (maxSteps := 8000000) (implicitDefEqProofs := false) (disch := omega) only [↓reduceIte, go_sem, if_pos, if_neg, rgOk_at, in_at, hasP_at, whole_at]; rfl) ?_; (first | exact vb_true (by omega) | exact vb_false (by omega) | exact vb_dec (by omega) | exact vi_eq (by omega) | rfl | (refine vi_eq ?_; simp_all; done) | (refine vi_eq ?_; simp_all; omega) | (refine vi_eq ?_; simp_all; intros; omega)))
    | exact endT_v (.inr rfl) (by simp (maxSteps := 8000000) (implicitDefEqProofs := false) (disch := omega) only [↓reduceIte, go_sem, if_pos, if_neg, rgOk_at, in_at, hasP_at, whole_at]; try rfl) (fun _ => rfl)
-- impl.SelFault
def c204 : AF := ⟨54,
  (.seq (.reg [⟨(some 1), none, .box 184 (.t 0)⟩,
   ⟨(some 2), none, .mv (.v (.int .i64 0))⟩])
  (.seq (.block 0 (.seq (.reg [⟨(some 4), none, .fa (.t 1) 0⟩,
   ⟨(some 5), none, .ldn 2 (.t 4)⟩,
   ⟨(some 6), none, .call 229 [(.t 5), (.v (.int .i64 4294967295))]⟩,
   ⟨(some 7), none, .un .not (.t 6)⟩,
   ⟨(some 8), none, .mv (.t 7)⟩,
   ⟨(some 9), (some (8, false)), .fa (.t 1) 2⟩,
   ⟨(some 10), (some (8, false)), .ldn 2 (.t 9)⟩,
   ⟨(some 11), (some (8, false)), .call 229 [(.t 10), (.v (.int .i64 4294967295))]⟩,
   ⟨(some 12), (some (8, false)), .un .not (.t 11)⟩,
   ⟨(some 13), none, .pick (.t 8) (.v (.bool true)) (.t 12)⟩,
   ⟨(some 14), none, .mv (.t 13)⟩,
   ⟨(some 15), (some (14, false)), .fa (.t 1) 4⟩,
   ⟨(some 16), (some (14, false)), .ldn 2 (.t 15)⟩,
   ⟨(some 17), (some (14, false)), .call 229 [(.t 16), (.v (.int .i64 65535))]⟩,
   ⟨(some 18), (some (14, false)), .un .not (.t 17)⟩,
   ⟨(some 19), none, .pick (.t 14) (.v (.bool true)) (.t 18)⟩,
   ⟨(some 20), none, .mv (.t 19)⟩,
   ⟨(some 21), (some (20, false)), .fa (.t 1) 6⟩,
   ⟨(some 22), (some (20, false)), .ldn 2 (.t 21)⟩,
   ⟨(some 23), (some (20, false)), .call 229 [(.t 22), (.v (.int .i64 65535))]⟩,
   ⟨(some 24), (some (20, false)), .un .not (.t 23)⟩,
   ⟨(some 25), none, .pick (.t 20) (.v (.bool true)) (.t 24)⟩,
   ⟨(some 26), none, .mv (.t 25)⟩,
   ⟨(some 27), (some (26, false)), .fa (.t 1) 8⟩,
   ⟨(some 28), (some (26, false)), .ld (.t 27)⟩,
   ⟨(some 29), (some (26, false)), .call 95 [(.t 28), (.v (.int .i64 0)), (.v (.int .i64 255))]⟩,
   ⟨(some 30), (some (26, false)), .un .not (.t 29)⟩,
   ⟨(some 31), none, .pick (.t 26) (.v (.bool true)) (.t 30)⟩,
   ⟨(some 3), none, .mv (.t 31)⟩])
  (.cond (.t 3) (.seq (.reg [⟨(some 2), none, .mv (.v (.int .i64 3))⟩])
  .ret)
  (.seq (.drw [⟨(some 33), none, .fa (.t 1) 8⟩,
   ⟨(some 34), none, .ld (.t 33)⟩,
   ⟨(some 35), none, .bin .neq (.t 34) (.v (.int .i64 0))⟩,
   ⟨(some 36), none, .mv (.t 35)⟩,
   ⟨(some 37), (some (36, true)), .fa (.t 1) 8⟩,
   ⟨(some 38), (some (36, true)), .ld (.t 37)⟩,
   ⟨(some 39), (some (36, true)), .call 140 [(.t 38)]⟩,
   ⟨(some 40), (some (36, true)), .un .not (.t 39)⟩,
   ⟨(some 41), none, .pick (.t 36) (.t 40) (.v (.bool false))⟩,
   ⟨(some 42), none, .mv (.t 41)⟩,
   ⟨(some 43), (some (42, true)), .fa (.t 1) 4⟩,
   ⟨(some 44), (some (42, true)), .ldn 2 (.t 43)⟩,
   ⟨(some 45), (some (42, true)), .call 230 []⟩,
   ⟨(some 46), (some (42, true)), .eqS true [.i, .i] (.t 44) (.t 45)⟩,
   ⟨(some 47), (some (42, true)), .mv (.t 46)⟩,
   ⟨(some 48), (some (47, false)), .fa (.t 1) 6⟩,
   ⟨(some 49), (some (47, false)), .ldn 2 (.t 48)⟩,
   ⟨(some 50), (some (47, false)), .call 230 []⟩] [⟨(some 51), (some (47, false)), .eqS true [.i, .i] (.t 49) (.t 50)⟩,
   ⟨(some 52), (some (42, true)), .pick (.t 47) (.v (.bool true)) (.t 51)⟩,
   ⟨(some 53), none, .pick (.t 42) (.t 52) (.v (.bool false))⟩,
   ⟨(some 32), none, .mv (.t 53)⟩])
  (.cond (.t 32) (.seq (.reg [⟨(some 2), none, .mv (.v (.int .i64 1))⟩])
  .ret)
  .skip)))))
  (.seq (.reg [⟨(some 2), none, .mv (.v (.int .i64 0))⟩])
  .ret))),
  [.t 2]⟩
theorem k204 : cFn Try.prog Try.f204 = some c204 := by kernel_rfl
theorem selFI_ok : OkT Try.prog 204 (pureSp selF_S) := by
  refine okT_fn (OkΓT.cons rgok_ok (OkΓT.cons in_ok (OkΓT.cons implHasP_ok (OkΓT.cons whole_ok (OkΓT.nil _))))) Try.func204 (by kernel_rfl) k204 (fun x _ => ⟨rfl, rfl⟩) ?_
  rintro x _
  dsimp only [slT, selF]
  (dsimp only [c204]; simp (maxSteps := 8000000) (implicitDefEqProofs := false) (disch := omega) only [↓reduceIte, go_sem, if_pos, if_neg, rgOk_at, in_at, hasP_at, whole_at])
  repeat' first
    | (refine gdKT_dec (fun hg => ?_) (fun hg => ?_) <;> (try (first | simp (maxSteps := 8000000) (implicitDefEqProofs := false) (disch := omega) only [↓reduceIte, go_sem, if_pos, if_neg, eq_false hg, rgOk_at, in_at, hasP_at, whole_at] | simp (maxSteps := 8000000) (implicitDefEqProofs := false) (disch := omega) only [↓reduceIte, go_sem, if_pos, if_neg, eq_true hg, rgOk_at, in_at, hasP_at, whole_at])))
    | (refine condKT_dec (fun hg => ?_) (fun hg => ?_) <;> (try (first | simp (maxSteps := 8000000) (implicitDefEqProofs := false) (disch := omega) only [↓reduceIte, go_sem, if_pos, if_neg, eq_false hg, rgOk_at, in_at, hasP_at, whole_at] | simp (maxSteps := 8000000) (implicitDefEqProofs := false) (disch := omega) only [↓reduceIte, go_sem, if_pos, if_neg, eq_true hg, rgOk_at, in_at, hasP_at, whole_at])))
    | (refine gdKT_split (fun hg => ?_) (fun hg => ?_) <;> (try simp (maxSteps := 8000000) (implicitDefEqProofs := false) (disch := omega) only [↓reduceIte, go_sem, if_pos, if_neg, hg, rgOk_at, in_at, hasP_at, whole_at]))
    | (refine condKT_split (fun hg => ?_) (fun hg => ?_) <;> (try simp (maxSteps := 8000000) (implicitDefEqProofs := false) (disch := omega) only [↓reduceIte, go_sem, if_pos, if_neg, hg, rgOk_at, in_at, hasP_at, whole_at]))
    | (refine endT_p (.inr rfl) (by simp (maxSteps := 8000000) (implicitDefEqProofs := false) (disch := omega) only [↓reduceIte, go_sem, if_pos, if_neg, rgOk_at, in_at, hasP_at, whole_at]; rfl) ?_; (first | exact vb_true (by omega) | exact vb_false (by omega) | exact vb_dec (by omega) | exact vi_eq (by omega) | rfl | (refine vi_eq ?_; simp_all; done) | (refine vi_eq ?_; simp_all; omega) | (refine vi_eq ?_; simp_all; intros; omega)))
    | exact endT_v (.inr rfl) (by simp (maxSteps := 8000000) (implicitDefEqProofs := false) (disch := omega) only [↓reduceIte, go_sem, if_pos, if_neg, rgOk_at, in_at, hasP_at, whole_at]; try rfl) (fun _ => rfl)
end Go.Proofs.Ytkijbknnbmbnbaa
