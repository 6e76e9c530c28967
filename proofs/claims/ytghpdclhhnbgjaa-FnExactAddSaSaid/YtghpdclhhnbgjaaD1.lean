import Derived.Test.YtghpdclhhnbgjaaLU
import Derived.Test.YtghpdclhhnbgjaaProg
set_option linter.unusedSimpArgs false
set_option linter.unusedVariables false
set_option maxRecDepth 100000
set_option maxHeartbeats 4000000
namespace Go.Proofs.Ytghpdclhhnbgjaa
open Go Go.AH
attribute [local irreducible] awpT ropsT qopsT stepT condKT gdKT EndT joinK loopKT seqKT blkKT kont kontR
-- spec.l1In
def c64 : AF := ⟨15,
 (.seq (.reg [rO 6 (.mv (.v (.bool false)))])
 (.seq (.reg [rO 7 (.mv (.t 0)),
 rO 8 (.mv (.t 1)),
 rO 9 (.bin .geq (.t 7) (.t 8)),
 rO 10 (.mv (.t 9)),
 ⟨(some 11), (some (10, true)), .mv (.t 0)⟩,
 ⟨(some 12), (some (10, true)), .mv (.t 2)⟩,
 ⟨(some 13), (some (10, true)), .bin .leq (.t 11) (.t 12)⟩,
 rO 14 (.pick (.t 10) (.t 13) (.v (.bool false))),
 rO 6 (.mv (.t 14))])
 .ret)),
 [.t 6]⟩
theorem k64 : cFn Try.prog Try.f64 = some c64 := by kernel_rfl
-- impl.in
def c63 : AF := ⟨15,
 (.seq (.reg [rO 6 (.mv (.v (.bool false)))])
 (.seq (.reg [rO 7 (.mv (.t 0)),
 rO 8 (.mv (.t 1)),
 rO 9 (.bin .geq (.t 7) (.t 8)),
 rO 10 (.mv (.t 9)),
 ⟨(some 11), (some (10, true)), .mv (.t 0)⟩,
 ⟨(some 12), (some (10, true)), .mv (.t 2)⟩,
 ⟨(some 13), (some (10, true)), .bin .leq (.t 11) (.t 12)⟩,
 rO 14 (.pick (.t 10) (.t 13) (.v (.bool false))),
 rO 6 (.mv (.t 14))])
 .ret)),
 [.t 6]⟩
theorem k63 : cFn Try.prog Try.f63 = some c63 := by kernel_rfl
/-! In a range -/
noncomputable def in_S := specP (fun x : Int × Int × Int => [.p (.int .i64 x.1), .p (.int .i64 x.2.1), .p (.int .i64 x.2.2)]) (fun _ => True) (fun x => (.p (.bool (decide (x.2.1 ≤ x.1 ∧ x.1 ≤ x.2.2))), []))
theorem in_at (a b c : Int) : in_S [.p (.int .i64 a), .p (.int .i64 b), .p (.int .i64 c)] = some (.p (.bool (decide (b ≤ a ∧ a ≤ c))), []) :=
  specP_at (enc := fun x : Int × Int × Int => [.p (.int .i64 x.1), .p (.int .i64 x.2.1), .p (.int .i64 x.2.2)]) (by rintro ⟨a, b, c⟩ ⟨a', b', c'⟩ h; simp at h; simp [h]) (a, b, c) trivial
theorem l1In_ok : OkT Try.prog 64 (pureSp in_S) := by
  refine okT_fn (OkΓT.nil _) Try.func64 (by kernel_rfl) k64 (fun x _ => ⟨rfl, rfl⟩) ?_
  rintro ⟨a, b, c⟩ _
  dsimp only
  (dsimp only [c64, rO]; simp (maxSteps := 8000000) -implicitDefEqProofs (disch := omega) only [↓reduceIte, go_sem])
  repeat' first
    | ((first | refine gdKT_deq (fun hg hG => ?_) (fun hg hG => ?_) | refine condKT_deq (fun hg hG => ?_) (fun hg hG => ?_)) <;> (try simp (maxSteps := 8000000) -implicitDefEqProofs (disch := omega) only [↓reduceIte, go_sem, hG]) <;> clear hG)
    | ((first | refine gdKT_split (fun hg => ?_) (fun hg => ?_) | refine condKT_split (fun hg => ?_) (fun hg => ?_)) <;> (try simp (maxSteps := 8000000) -implicitDefEqProofs (disch := omega) only [↓reduceIte, go_sem, hg]))
    | (refine endT_p (.inr rfl) (by simp (maxSteps := 8000000) -implicitDefEqProofs (disch := omega) only [↓reduceIte, go_sem]; rfl) ?_; (first | exact vb_true (by omega) | exact vb_false (by omega) | exact vb_dec (by omega) | exact vi_eq (by omega) | rfl | (refine vi_eq ?_; simp_all; first | done | (intros; omega))))
    | exact endT_v (.inr rfl) (by simp (maxSteps := 8000000) -implicitDefEqProofs (disch := omega) only [↓reduceIte, go_sem]; try rfl) (fun _ => rfl)
theorem in_ok : OkT Try.prog 63 (pureSp in_S) := by
  refine okT_fn (OkΓT.nil _) Try.func63 (by kernel_rfl) k63 (fun x _ => ⟨rfl, rfl⟩) ?_
  rintro ⟨a, b, c⟩ _
  dsimp only
  (dsimp only [c63, rO]; simp (maxSteps := 8000000) -implicitDefEqProofs (disch := omega) only [↓reduceIte, go_sem])
  repeat' first
    | ((first | refine gdKT_deq (fun hg hG => ?_) (fun hg hG => ?_) | refine condKT_deq (fun hg hG => ?_) (fun hg hG => ?_)) <;> (try simp (maxSteps := 8000000) -implicitDefEqProofs (disch := omega) only [↓reduceIte, go_sem, hG]) <;> clear hG)
    | ((first | refine gdKT_split (fun hg => ?_) (fun hg => ?_) | refine condKT_split (fun hg => ?_) (fun hg => ?_)) <;> (try simp (maxSteps := 8000000) -implicitDefEqProofs (disch := omega) only [↓reduceIte, go_sem, hg]))
    | (refine endT_p (.inr rfl) (by simp (maxSteps := 8000000) -implicitDefEqProofs (disch := omega) only [↓reduceIte, go_sem]; rfl) ?_; (first | exact vb_true (by omega) | exact vb_false (by omega) | exact vb_dec (by omega) | exact vi_eq (by omega) | rfl | (refine vi_eq ?_; simp_all; first | done | (intros; omega))))
    | exact endT_v (.inr rfl) (by simp (maxSteps := 8000000) -implicitDefEqProofs (disch := omega) only [↓reduceIte, go_sem]; try rfl) (fun _ => rfl)
/-! Two ends -/
structure RgR where
  (lo hi : Int)
def rgT (x : RgR) : TV := .agg [.p (.int .i64 x.lo), .p (.int .i64 x.hi)]
theorem rgT_inj (x y : RgR) (h : rgT x = rgT y) : x = y := by cases x; cases y; simp [rgT] at h; simp [h]
/-! Selectors -/
structure SlR where
  (f1 f2 t1 t2 p1 p2 q1 q2 pr : Int)
def slT (x : SlR) : TV := .agg [.p (.int .i64 x.f1), .p (.int .i64 x.f2), .p (.int .i64 x.t1), .p (.int .i64 x.t2), .p (.int .i64 x.p1), .p (.int .i64 x.p2), .p (.int .i64 x.q1), .p (.int .i64 x.q2), .p (.int .i64 x.pr)]
theorem slT_inj (x y : SlR) (h : slT x = slT y) : x = y := by cases x; cases y; simp [slT] at h; simp [h]
theorem slT_flat : Flat slT 9 := ⟨fun _ => rfl, fun h n x => by simp only [slT, frz_agg, frz_p, List.map_cons, List.map_nil], fun _ _ => rfl⟩
theorem sls_sized (l : List SlR) : sizedT 9 (rowsT slT l) = true := rowsT_sized slT_flat l
theorem sls_frz (h : THeap) (n : Nat) (l : List SlR) : (rowsT slT l).map (frzT h n) = rowsT slT l := rowsT_frz slT_flat h n l
theorem sls_ren (ρ : Nat → Nat) (l : List SlR) : renTs ρ (rowsT slT l) = rowsT slT l := rowsT_ren slT_flat ρ l
theorem sls_own (l : List SlR) : ownTs (rowsT slT l) = true := rowsT_own (fun _ => rfl) l
theorem sls_inj {l l' : List SlR} (h : rowsT slT l = rowsT slT l') : l = l' := rowsT_inj slT_inj h
theorem sls_snoc (l : List SlR) (x : SlR) : rowsT slT l ++ [.agg [.p (.int .i64 x.f1), .p (.int .i64 x.f2), .p (.int .i64 x.t1), .p (.int .i64 x.t2), .p (.int .i64 x.p1), .p (.int .i64 x.p2), .p (.int .i64 x.q1), .p (.int .i64 x.q2), .p (.int .i64 x.pr)]] = rowsT slT (l ++ [x]) := rowsT_snoc l x
attribute [go_sem] sls_sized sls_frz sls_ren sls_own sls_snoc
/-! Rows of selectors -/
def slZ : TV := slT ⟨0, 0, 0, 0, 0, 0, 0, 0, 0⟩
theorem slZ_el : el [.p (.int .i64 0), .p (.int .i64 0), .p (.int .i64 0), .p (.int .i64 0), .p (.int .i64 0), .p (.int .i64 0), .p (.int .i64 0), .p (.int .i64 0), .p (.int .i64 0)] = slZ := rfl
theorem slZ_cells : cellsT slZ = [.p (.int .i64 0), .p (.int .i64 0), .p (.int .i64 0), .p (.int .i64 0), .p (.int .i64 0), .p (.int .i64 0), .p (.int .i64 0), .p (.int .i64 0), .p (.int .i64 0)] := rfl
theorem slmix_ren (ρ : Nat → Nat) (l : List SlR) (i : Nat) : renTs ρ (mixT slT slZ l i) = mixT slT slZ l i := mix_ren slT_flat (fun _ => rfl) ρ l i
theorem slmix_zero (l : List SlR) : List.replicate l.length slZ = mixT slT slZ l 0 := mixT_zero slZ l
theorem slmix_set {l : List SlR} {i : Nat} {x : SlR} (h : l[i]? = some x) : (mixT slT slZ l i).set i (.agg [.p (.int .i64 x.f1), .p (.int .i64 x.f2), .p (.int .i64 x.t1), .p (.int .i64 x.t2), .p (.int .i64 x.p1), .p (.int .i64 x.p2), .p (.int .i64 x.q1), .p (.int .i64 x.q2), .p (.int .i64 x.pr)]) = mixT slT slZ l (i + 1) := mixT_set slZ h
/-! Right selectors -/
abbrev rgOk (a b m : Int) : Prop := 0 ≤ a ∧ a ≤ m ∧ 0 ≤ b ∧ b ≤ m ∧ a ≤ b
def selF (x : SlR) : Int := if rgOk x.f1 x.f2 4294967295 ∧ rgOk x.t1 x.t2 4294967295 ∧ rgOk x.p1 x.p2 65535 ∧ rgOk x.q1 x.q2 65535 ∧ 0 ≤ x.pr ∧ x.pr ≤ 255 then
  (if x.pr = 0 ∨ x.pr = 6 ∨ x.pr = 17 ∨ (x.p1 = 0 ∧ x.p2 = 65535 ∧ x.q1 = 0 ∧ x.q2 = 65535) then 0 else 1) else 3
noncomputable def hasP_S := specP (fun x : Int => [.p (.int .i64 x)]) (fun x => True) (fun x => (.p (.bool (decide (x = 6 ∨ x = 17))), []))
theorem hasP_at (a : Int) : hasP_S [.p (.int .i64 a)] = some (.p (.bool (decide (a = 6 ∨ a = 17))), []) :=
  specP_at (enc := fun x : Int => [.p (.int .i64 x)]) (by intro x y h; simpa using h) a trivial
-- spec.HasPorts
def c149 : AF := ⟨9,
 (.seq (.reg [rO 2 (.mv (.v (.bool false)))])
 (.seq (.reg [rO 3 (.mv (.t 0)),
 rO 4 (.bin .eql (.t 3) (.v (.int .i64 6))),
 rO 5 (.mv (.t 4)),
 ⟨(some 6), (some (5, false)), .mv (.t 0)⟩,
 ⟨(some 7), (some (5, false)), .bin .eql (.t 6) (.v (.int .i64 17))⟩,
 rO 8 (.pick (.t 5) (.v (.bool true)) (.t 7)),
 rO 2 (.mv (.t 8))])
 .ret)),
 [.t 2]⟩
theorem k149 : cFn Try.prog Try.f149 = some c149 := by kernel_rfl
theorem specHasP_ok : OkT Try.prog 149 (pureSp hasP_S) := by
  refine okT_fn (OkΓT.nil _) Try.func149 (by kernel_rfl) k149 (fun x _ => ⟨rfl, rfl⟩) ?_
  rintro x _
  dsimp only at *
  (dsimp only [c149, rO]; simp (maxSteps := 8000000) -implicitDefEqProofs (disch := omega) only [↓reduceIte, go_sem])
  repeat' first
    | ((first | refine gdKT_deq (fun hg hG => ?_) (fun hg hG => ?_) | refine condKT_deq (fun hg hG => ?_) (fun hg hG => ?_)) <;> (try simp (maxSteps := 8000000) -implicitDefEqProofs (disch := omega) only [↓reduceIte, go_sem, hG]) <;> clear hG)
    | ((first | refine gdKT_split (fun hg => ?_) (fun hg => ?_) | refine condKT_split (fun hg => ?_) (fun hg => ?_)) <;> (try simp (maxSteps := 8000000) -implicitDefEqProofs (disch := omega) only [↓reduceIte, go_sem, hg]))
    | (refine endT_p (.inr rfl) (by simp (maxSteps := 8000000) -implicitDefEqProofs (disch := omega) only [↓reduceIte, go_sem]; rfl) ?_; (first | exact vb_true (by omega) | exact vb_false (by omega) | exact vb_dec (by omega) | exact vi_eq (by omega) | rfl | (refine vi_eq ?_; simp_all; first | done | (intros; omega))))
    | exact endT_v (.inr rfl) (by simp (maxSteps := 8000000) -implicitDefEqProofs (disch := omega) only [↓reduceIte, go_sem]; try rfl) (fun _ => rfl)
-- impl.HasPorts
def c81 : AF := ⟨9,
 (.seq (.reg [rO 2 (.mv (.v (.bool false)))])
 (.seq (.reg [rO 3 (.mv (.t 0)),
 rO 4 (.bin .eql (.t 3) (.v (.int .i64 6))),
 rO 5 (.mv (.t 4)),
 ⟨(some 6), (some (5, false)), .mv (.t 0)⟩,
 ⟨(some 7), (some (5, false)), .bin .eql (.t 6) (.v (.int .i64 17))⟩,
 rO 8 (.pick (.t 5) (.v (.bool true)) (.t 7)),
 rO 2 (.mv (.t 8))])
 .ret)),
 [.t 2]⟩
theorem k81 : cFn Try.prog Try.f81 = some c81 := by kernel_rfl
theorem implHasP_ok : OkT Try.prog 81 (pureSp hasP_S) := by
  refine okT_fn (OkΓT.nil _) Try.func81 (by kernel_rfl) k81 (fun x _ => ⟨rfl, rfl⟩) ?_
  rintro x _
  dsimp only at *
  (dsimp only [c81, rO]; simp (maxSteps := 8000000) -implicitDefEqProofs (disch := omega) only [↓reduceIte, go_sem])
  repeat' first
    | ((first | refine gdKT_deq (fun hg hG => ?_) (fun hg hG => ?_) | refine condKT_deq (fun hg hG => ?_) (fun hg hG => ?_)) <;> (try simp (maxSteps := 8000000) -implicitDefEqProofs (disch := omega) only [↓reduceIte, go_sem, hG]) <;> clear hG)
    | ((first | refine gdKT_split (fun hg => ?_) (fun hg => ?_) | refine condKT_split (fun hg => ?_) (fun hg => ?_)) <;> (try simp (maxSteps := 8000000) -implicitDefEqProofs (disch := omega) only [↓reduceIte, go_sem, hg]))
    | (refine endT_p (.inr rfl) (by simp (maxSteps := 8000000) -implicitDefEqProofs (disch := omega) only [↓reduceIte, go_sem]; rfl) ?_; (first | exact vb_true (by omega) | exact vb_false (by omega) | exact vb_dec (by omega) | exact vi_eq (by omega) | rfl | (refine vi_eq ?_; simp_all; first | done | (intros; omega))))
    | exact endT_v (.inr rfl) (by simp (maxSteps := 8000000) -implicitDefEqProofs (disch := omega) only [↓reduceIte, go_sem]; try rfl) (fun _ => rfl)
noncomputable def whole_S := specP (fun x : Unit => []) (fun x => True) (fun x => (.agg [.p (.int .i64 0), .p (.int .i64 65535)], []))
theorem whole_at : whole_S [] = some (.agg [.p (.int .i64 0), .p (.int .i64 65535)], []) := specP_at (enc := fun x : Unit => []) (fun _ _ _ => rfl) () trivial
-- spec.l3All
def c178 : AF := ⟨2,
 (.seq (.reg [rO 0 (.alloc 158 [(.int .i64 0), (.int .i64 0)])])
 (.seq (.reg [rO 1 (.build [(.int .i64 0), (.int .i64 0)] [(1, 1, (.v (.int .i64 65535)))]),
 ⟨none, none, .st 2 (.t 0) (.t 1)⟩])
 .ret)),
 [.cell 0 (some 2)]⟩
theorem k178 : cFn Try.prog Try.f178 = some c178 := by kernel_rfl
theorem l3All_ok : OkT Try.prog 178 (pureSp whole_S) := by
  refine okT_fn (OkΓT.nil _) Try.func178 (by kernel_rfl) k178 (fun x _ => ⟨rfl, rfl⟩) ?_
  rintro x _
  dsimp only at *
  (dsimp only [c178, rO]; simp (maxSteps := 8000000) -implicitDefEqProofs (disch := omega) only [↓reduceIte, go_sem])
  repeat' first
    | ((first | refine gdKT_deq (fun hg hG => ?_) (fun hg hG => ?_) | refine condKT_deq (fun hg hG => ?_) (fun hg hG => ?_)) <;> (try simp (maxSteps := 8000000) -implicitDefEqProofs (disch := omega) only [↓reduceIte, go_sem, hG]) <;> clear hG)
    | ((first | refine gdKT_split (fun hg => ?_) (fun hg => ?_) | refine condKT_split (fun hg => ?_) (fun hg => ?_)) <;> (try simp (maxSteps := 8000000) -implicitDefEqProofs (disch := omega) only [↓reduceIte, go_sem, hg]))
    | (refine endT_p (.inr rfl) (by simp (maxSteps := 8000000) -implicitDefEqProofs (disch := omega) only [↓reduceIte, go_sem]; rfl) ?_; (first | exact vb_true (by omega) | exact vb_false (by omega) | exact vb_dec (by omega) | exact vi_eq (by omega) | rfl | (refine vi_eq ?_; simp_all; first | done | (intros; omega))))
    | exact endT_v (.inr rfl) (by simp (maxSteps := 8000000) -implicitDefEqProofs (disch := omega) only [↓reduceIte, go_sem]; try rfl) (fun _ => rfl)
-- impl.whole
def c164 : AF := ⟨2,
 (.seq (.reg [rO 0 (.alloc 158 [(.int .i64 0), (.int .i64 0)])])
 (.seq (.reg [rO 1 (.build [(.int .i64 0), (.int .i64 0)] [(0, 1, (.v (.int .i64 0))), (1, 1, (.v (.int .i64 65535)))]),
 ⟨none, none, .st 2 (.t 0) (.t 1)⟩])
 .ret)),
 [.cell 0 (some 2)]⟩
theorem k164 : cFn Try.prog Try.f164 = some c164 := by kernel_rfl
theorem whole_ok : OkT Try.prog 164 (pureSp whole_S) := by
  refine okT_fn (OkΓT.nil _) Try.func164 (by kernel_rfl) k164 (fun x _ => ⟨rfl, rfl⟩) ?_
  rintro x _
  dsimp only at *
  (dsimp only [c164, rO]; simp (maxSteps := 8000000) -implicitDefEqProofs (disch := omega) only [↓reduceIte, go_sem])
  repeat' first
    | ((first | refine gdKT_deq (fun hg hG => ?_) (fun hg hG => ?_) | refine condKT_deq (fun hg hG => ?_) (fun hg hG => ?_)) <;> (try simp (maxSteps := 8000000) -implicitDefEqProofs (disch := omega) only [↓reduceIte, go_sem, hG]) <;> clear hG)
    | ((first | refine gdKT_split (fun hg => ?_) (fun hg => ?_) | refine condKT_split (fun hg => ?_) (fun hg => ?_)) <;> (try simp (maxSteps := 8000000) -implicitDefEqProofs (disch := omega) only [↓reduceIte, go_sem, hg]))
    | (refine endT_p (.inr rfl) (by simp (maxSteps := 8000000) -implicitDefEqProofs (disch := omega) only [↓reduceIte, go_sem]; rfl) ?_; (first | exact vb_true (by omega) | exact vb_false (by omega) | exact vb_dec (by omega) | exact vi_eq (by omega) | rfl | (refine vi_eq ?_; simp_all; first | done | (intros; omega))))
    | exact endT_v (.inr rfl) (by simp (maxSteps := 8000000) -implicitDefEqProofs (disch := omega) only [↓reduceIte, go_sem]; try rfl) (fun _ => rfl)
noncomputable def rgOk_S := specP (fun x : RgR × Int => [rgT x.1, .p (.int .i64 x.2)]) (fun x => True) (fun x => (.p (.bool (decide (rgOk x.1.lo x.1.hi x.2))), []))
theorem rgOk_at (a b m : Int) : rgOk_S [.agg [.p (.int .i64 a), .p (.int .i64 b)], .p (.int .i64 m)] = some (.p (.bool (decide (rgOk a b m))), []) :=
  specP_at (enc := fun x : RgR × Int => [rgT x.1, .p (.int .i64 x.2)]) (by rintro ⟨a, b⟩ ⟨a', b'⟩ h; simp at h; simp [rgT_inj _ _ h.1, h.2]) (⟨a, b⟩, m) trivial
-- spec.l3Range
def c184 : AF := ⟨21,
 (.seq (.reg [rO 2 (.box 158 (.t 0)),
 rO 4 (.mv (.v (.bool false)))])
 (.seq (.reg [rO 5 (.fa (.t 2) 0),
 rO 6 (.ld (.t 5)),
 rO 7 (.bin .geq (.t 6) (.v (.int .i64 0))),
 rO 8 (.mv (.t 7)),
 ⟨(some 9), (some (8, true)), .fa (.t 2) 0⟩,
 ⟨(some 10), (some (8, true)), .ld (.t 9)⟩,
 ⟨(some 11), (some (8, true)), .fa (.t 2) 1⟩,
 ⟨(some 12), (some (8, true)), .ld (.t 11)⟩,
 ⟨(some 13), (some (8, true)), .bin .leq (.t 10) (.t 12)⟩,
 rO 14 (.pick (.t 8) (.t 13) (.v (.bool false))),
 rO 15 (.mv (.t 14)),
 ⟨(some 16), (some (15, true)), .fa (.t 2) 1⟩,
 ⟨(some 17), (some (15, true)), .ld (.t 16)⟩,
 ⟨(some 18), (some (15, true)), .mv (.t 1)⟩,
 ⟨(some 19), (some (15, true)), .bin .leq (.t 17) (.t 18)⟩,
 rO 20 (.pick (.t 15) (.t 19) (.v (.bool false))),
 rO 4 (.mv (.t 20))])
 .ret)),
 [.t 4]⟩
theorem k184 : cFn Try.prog Try.f184 = some c184 := by kernel_rfl
theorem l3Range_ok : OkT Try.prog 184 (pureSp rgOk_S) := by
  refine okT_fn (OkΓT.nil _) Try.func184 (by kernel_rfl) k184 (fun x _ => ⟨rfl, rfl⟩) ?_
  rintro ⟨⟨a, b⟩, m⟩ _
  dsimp only [rgT, rgOk]
  (dsimp only [c184, rO]; simp (maxSteps := 8000000) -implicitDefEqProofs (disch := omega) only [↓reduceIte, go_sem])
  repeat' first
    | ((first | refine gdKT_deq (fun hg hG => ?_) (fun hg hG => ?_) | refine condKT_deq (fun hg hG => ?_) (fun hg hG => ?_)) <;> (try simp (maxSteps := 8000000) -implicitDefEqProofs (disch := omega) only [↓reduceIte, go_sem, hG]) <;> clear hG)
    | ((first | refine gdKT_split (fun hg => ?_) (fun hg => ?_) | refine condKT_split (fun hg => ?_) (fun hg => ?_)) <;> (try simp (maxSteps := 8000000) -implicitDefEqProofs (disch := omega) only [↓reduceIte, go_sem, hg]))
    | (refine endT_p (.inr rfl) (by simp (maxSteps := 8000000) -implicitDefEqProofs (disch := omega) only [↓reduceIte, go_sem]; rfl) ?_; (first | exact vb_true (by omega) | exact vb_false (by omega) | exact vb_dec (by omega) | exact vi_eq (by omega) | rfl | (refine vi_eq ?_; simp_all; first | done | (intros; omega))))
    | exact endT_v (.inr rfl) (by simp (maxSteps := 8000000) -implicitDefEqProofs (disch := omega) only [↓reduceIte, go_sem]; try rfl) (fun _ => rfl)
-- (impl.Range).ok
def c163 : AF := ⟨22,
 (.seq (.reg [rO 2 (.box 158 (.t 0)),
 rO 4 (.mv (.v (.bool false)))])
 (.seq (.reg [rO 5 (.fa (.t 2) 0),
 rO 6 (.ld (.t 5)),
 rO 7 (.mv (.t 1)),
 rO 8 (.call 63 [(.t 6), (.v (.int .i64 0)), (.t 7)]),
 rO 9 (.mv (.t 8)),
 ⟨(some 10), (some (9, true)), .fa (.t 2) 1⟩,
 ⟨(some 11), (some (9, true)), .ld (.t 10)⟩,
 ⟨(some 12), (some (9, true)), .mv (.t 1)⟩,
 ⟨(some 13), (some (9, true)), .call 63 [(.t 11), (.v (.int .i64 0)), (.t 12)]⟩,
 rO 14 (.pick (.t 9) (.t 13) (.v (.bool false))),
 rO 15 (.mv (.t 14)),
 ⟨(some 16), (some (15, true)), .fa (.t 2) 0⟩,
 ⟨(some 17), (some (15, true)), .ld (.t 16)⟩,
 ⟨(some 18), (some (15, true)), .fa (.t 2) 1⟩,
 ⟨(some 19), (some (15, true)), .ld (.t 18)⟩,
 ⟨(some 20), (some (15, true)), .bin .leq (.t 17) (.t 19)⟩,
 rO 21 (.pick (.t 15) (.t 20) (.v (.bool false))),
 rO 4 (.mv (.t 21))])
 .ret)),
 [.t 4]⟩
theorem k163 : cFn Try.prog Try.f163 = some c163 := by kernel_rfl
theorem rgok_ok : OkT Try.prog 163 (pureSp rgOk_S) := by
  refine okT_fn (OkΓT.cons in_ok (OkΓT.nil _)) Try.func163 (by kernel_rfl) k163 (fun x _ => ⟨rfl, rfl⟩) ?_
  rintro ⟨⟨a, b⟩, m⟩ _
  dsimp only [rgT, rgOk]
  (dsimp only [c163, rO]; simp (maxSteps := 8000000) -implicitDefEqProofs (disch := omega) only [↓reduceIte, go_sem, in_at])
  repeat' first
    | ((first | refine gdKT_deq (fun hg hG => ?_) (fun hg hG => ?_) | refine condKT_deq (fun hg hG => ?_) (fun hg hG => ?_)) <;> (try simp (maxSteps := 8000000) -implicitDefEqProofs (disch := omega) only [↓reduceIte, go_sem, hG, in_at]) <;> clear hG)
    | ((first | refine gdKT_split (fun hg => ?_) (fun hg => ?_) | refine condKT_split (fun hg => ?_) (fun hg => ?_)) <;> (try simp (maxSteps := 8000000) -implicitDefEqProofs (disch := omega) only [↓reduceIte, go_sem, hg, in_at]))
    | (refine endT_p (.inr rfl) (by simp (maxSteps := 8000000) -implicitDefEqProofs (disch := omega) only [↓reduceIte, go_sem, in_at]; rfl) ?_; (first | exact vb_true (by omega) | exact vb_false (by omega) | exact vb_dec (by omega) | exact vi_eq (by omega) | rfl | (refine vi_eq ?_; simp_all; first | done | (intros; omega))))
    | exact endT_v (.inr rfl) (by simp (maxSteps := 8000000) -implicitDefEqProofs (disch := omega) only [↓reduceIte, go_sem, in_at]; try rfl) (fun _ => rfl)
noncomputable def selF_S := specP (fun x : SlR => [slT x]) (fun x => True) (fun x => (.p (.int .i64 (selF x)), []))
theorem selF_at (a b c d e f g h i : Int) : selF_S [.agg [.p (.int .i64 a), .p (.int .i64 b), .p (.int .i64 c), .p (.int .i64 d), .p (.int .i64 e), .p (.int .i64 f), .p (.int .i64 g), .p (.int .i64 h), .p (.int .i64 i)]] = some (.p (.int .i64 (selF ⟨a, b, c, d, e, f, g, h, i⟩)), []) :=
  specP_at (enc := fun x : SlR => [slT x]) (by intro x y h; exact slT_inj x y (by simpa using h)) ⟨a, b, c, d, e, f, g, h, i⟩ trivial
-- spec.SelFault
def c162 : AF := ⟨52,
 (.seq (.reg [rO 1 (.box 160 (.t 0)),
 rO 2 (.mv (.v (.int .i64 0)))])
 (.seq (.seq (.reg [rO 3 (.fa (.t 1) 0),
 rO 4 (.ldn 2 (.t 3)),
 rO 5 (.call 184 [(.t 4), (.v (.int .i64 4294967295))]),
 rO 6 (.un .not (.t 5)),
 rO 7 (.mv (.t 6)),
 ⟨(some 8), (some (7, false)), .fa (.t 1) 2⟩,
 ⟨(some 9), (some (7, false)), .ldn 2 (.t 8)⟩,
 ⟨(some 10), (some (7, false)), .call 184 [(.t 9), (.v (.int .i64 4294967295))]⟩,
 ⟨(some 11), (some (7, false)), .un .not (.t 10)⟩,
 rO 12 (.pick (.t 7) (.v (.bool true)) (.t 11)),
 rO 13 (.mv (.t 12)),
 ⟨(some 14), (some (13, false)), .fa (.t 1) 4⟩,
 ⟨(some 15), (some (13, false)), .ldn 2 (.t 14)⟩,
 ⟨(some 16), (some (13, false)), .call 184 [(.t 15), (.v (.int .i64 65535))]⟩,
 ⟨(some 17), (some (13, false)), .un .not (.t 16)⟩,
 rO 18 (.pick (.t 13) (.v (.bool true)) (.t 17)),
 rO 19 (.mv (.t 18)),
 ⟨(some 20), (some (19, false)), .fa (.t 1) 6⟩,
 ⟨(some 21), (some (19, false)), .ldn 2 (.t 20)⟩,
 ⟨(some 22), (some (19, false)), .call 184 [(.t 21), (.v (.int .i64 65535))]⟩,
 ⟨(some 23), (some (19, false)), .un .not (.t 22)⟩,
 rO 24 (.pick (.t 19) (.v (.bool true)) (.t 23)),
 rO 25 (.mv (.t 24)),
 ⟨(some 26), (some (25, false)), .fa (.t 1) 8⟩,
 ⟨(some 27), (some (25, false)), .ld (.t 26)⟩,
 ⟨(some 28), (some (25, false)), .call 64 [(.t 27), (.v (.int .i64 0)), (.v (.int .i64 255))]⟩,
 ⟨(some 29), (some (25, false)), .un .not (.t 28)⟩,
 rO 30 (.pick (.t 25) (.v (.bool true)) (.t 29))])
 (.cond (.t 30) (.seq (.reg [rO 2 (.mv (.v (.int .i64 3)))])
 .ret)
 .skip))
 (.seq (.seq (.drw [rO 31 (.fa (.t 1) 8),
 rO 32 (.ld (.t 31)),
 rO 33 (.bin .neq (.t 32) (.v (.int .i64 0))),
 rO 34 (.mv (.t 33)),
 ⟨(some 35), (some (34, true)), .fa (.t 1) 8⟩,
 ⟨(some 36), (some (34, true)), .ld (.t 35)⟩,
 ⟨(some 37), (some (34, true)), .call 149 [(.t 36)]⟩,
 ⟨(some 38), (some (34, true)), .un .not (.t 37)⟩,
 rO 39 (.pick (.t 34) (.t 38) (.v (.bool false))),
 rO 40 (.mv (.t 39)),
 ⟨(some 41), (some (40, true)), .fa (.t 1) 4⟩,
 ⟨(some 42), (some (40, true)), .ldn 2 (.t 41)⟩,
 ⟨(some 43), (some (40, true)), .call 178 []⟩,
 ⟨(some 44), (some (40, true)), .eqS true [.i, .i] (.t 42) (.t 43)⟩,
 ⟨(some 45), (some (40, true)), .mv (.t 44)⟩,
 ⟨(some 46), (some (45, false)), .fa (.t 1) 6⟩,
 ⟨(some 47), (some (45, false)), .ldn 2 (.t 46)⟩,
 ⟨(some 48), (some (45, false)), .call 178 []⟩] [⟨(some 49), (some (45, false)), .eqS true [.i, .i] (.t 47) (.t 48)⟩,
 ⟨(some 50), (some (40, true)), .pick (.t 45) (.v (.bool true)) (.t 49)⟩,
 rO 51 (.pick (.t 40) (.t 50) (.v (.bool false)))])
 (.cond (.t 51) (.seq (.reg [rO 2 (.mv (.v (.int .i64 1)))])
 .ret)
 .skip))
 (.seq (.reg [rO 2 (.mv (.v (.int .i64 0)))])
 .ret)))),
 [.t 2]⟩
theorem k162 : cFn Try.prog Try.f162 = some c162 := by kernel_rfl
theorem selFS_ok : OkT Try.prog 162 (pureSp selF_S) := by
  refine okT_fn (OkΓT.cons l3Range_ok (OkΓT.cons l1In_ok (OkΓT.cons specHasP_ok (OkΓT.cons l3All_ok (OkΓT.nil _))))) Try.func162 (by kernel_rfl) k162 (fun x _ => ⟨rfl, rfl⟩) ?_
  rintro x _
  dsimp only [slT, selF]
  (dsimp only [c162, rO]; simp (maxSteps := 8000000) -implicitDefEqProofs (disch := omega) only [↓reduceIte, go_sem, rgOk_at, in_at, hasP_at, whole_at])
  repeat' first
    | ((first | refine gdKT_deq (fun hg hG => ?_) (fun hg hG => ?_) | refine condKT_deq (fun hg hG => ?_) (fun hg hG => ?_)) <;> (try simp (maxSteps := 8000000) -implicitDefEqProofs (disch := omega) only [↓reduceIte, go_sem, hG, rgOk_at, in_at, hasP_at, whole_at]) <;> clear hG)
    | ((first | refine gdKT_split (fun hg => ?_) (fun hg => ?_) | refine condKT_split (fun hg => ?_) (fun hg => ?_)) <;> (try simp (maxSteps := 8000000) -implicitDefEqProofs (disch := omega) only [↓reduceIte, go_sem, hg, rgOk_at, in_at, hasP_at, whole_at]))
    | (refine endT_p (.inr rfl) (by simp (maxSteps := 8000000) -implicitDefEqProofs (disch := omega) only [↓reduceIte, go_sem, rgOk_at, in_at, hasP_at, whole_at]; rfl) ?_; (first | exact vb_true (by omega) | exact vb_false (by omega) | exact vb_dec (by omega) | exact vi_eq (by omega) | rfl | (refine vi_eq ?_; simp_all; first | done | (intros; omega))))
    | exact endT_v (.inr rfl) (by simp (maxSteps := 8000000) -implicitDefEqProofs (disch := omega) only [↓reduceIte, go_sem, rgOk_at, in_at, hasP_at, whole_at]; try rfl) (fun _ => rfl)
-- impl.SelFault
def c135 : AF := ⟨54,
 (.seq (.reg [rO 1 (.box 160 (.t 0)),
 rO 2 (.mv (.v (.int .i64 0)))])
 (.seq (.block 0 (.seq (.reg [rO 4 (.fa (.t 1) 0),
 rO 5 (.ldn 2 (.t 4)),
 rO 6 (.call 163 [(.t 5), (.v (.int .i64 4294967295))]),
 rO 7 (.un .not (.t 6)),
 rO 8 (.mv (.t 7)),
 ⟨(some 9), (some (8, false)), .fa (.t 1) 2⟩,
 ⟨(some 10), (some (8, false)), .ldn 2 (.t 9)⟩,
 ⟨(some 11), (some (8, false)), .call 163 [(.t 10), (.v (.int .i64 4294967295))]⟩,
 ⟨(some 12), (some (8, false)), .un .not (.t 11)⟩,
 rO 13 (.pick (.t 8) (.v (.bool true)) (.t 12)),
 rO 14 (.mv (.t 13)),
 ⟨(some 15), (some (14, false)), .fa (.t 1) 4⟩,
 ⟨(some 16), (some (14, false)), .ldn 2 (.t 15)⟩,
 ⟨(some 17), (some (14, false)), .call 163 [(.t 16), (.v (.int .i64 65535))]⟩,
 ⟨(some 18), (some (14, false)), .un .not (.t 17)⟩,
 rO 19 (.pick (.t 14) (.v (.bool true)) (.t 18)),
 rO 20 (.mv (.t 19)),
 ⟨(some 21), (some (20, false)), .fa (.t 1) 6⟩,
 ⟨(some 22), (some (20, false)), .ldn 2 (.t 21)⟩,
 ⟨(some 23), (some (20, false)), .call 163 [(.t 22), (.v (.int .i64 65535))]⟩,
 ⟨(some 24), (some (20, false)), .un .not (.t 23)⟩,
 rO 25 (.pick (.t 20) (.v (.bool true)) (.t 24)),
 rO 26 (.mv (.t 25)),
 ⟨(some 27), (some (26, false)), .fa (.t 1) 8⟩,
 ⟨(some 28), (some (26, false)), .ld (.t 27)⟩,
 ⟨(some 29), (some (26, false)), .call 63 [(.t 28), (.v (.int .i64 0)), (.v (.int .i64 255))]⟩,
 ⟨(some 30), (some (26, false)), .un .not (.t 29)⟩,
 rO 31 (.pick (.t 26) (.v (.bool true)) (.t 30)),
 rO 3 (.mv (.t 31))])
 (.cond (.t 3) (.seq (.reg [rO 2 (.mv (.v (.int .i64 3)))])
 .ret)
 (.seq (.drw [rO 33 (.fa (.t 1) 8),
 rO 34 (.ld (.t 33)),
 rO 35 (.bin .neq (.t 34) (.v (.int .i64 0))),
 rO 36 (.mv (.t 35)),
 ⟨(some 37), (some (36, true)), .fa (.t 1) 8⟩,
 ⟨(some 38), (some (36, true)), .ld (.t 37)⟩,
 ⟨(some 39), (some (36, true)), .call 81 [(.t 38)]⟩,
 ⟨(some 40), (some (36, true)), .un .not (.t 39)⟩,
 rO 41 (.pick (.t 36) (.t 40) (.v (.bool false))),
 rO 42 (.mv (.t 41)),
 ⟨(some 43), (some (42, true)), .fa (.t 1) 4⟩,
 ⟨(some 44), (some (42, true)), .ldn 2 (.t 43)⟩,
 ⟨(some 45), (some (42, true)), .call 164 []⟩,
 ⟨(some 46), (some (42, true)), .eqS true [.i, .i] (.t 44) (.t 45)⟩,
 ⟨(some 47), (some (42, true)), .mv (.t 46)⟩,
 ⟨(some 48), (some (47, false)), .fa (.t 1) 6⟩,
 ⟨(some 49), (some (47, false)), .ldn 2 (.t 48)⟩,
 ⟨(some 50), (some (47, false)), .call 164 []⟩] [⟨(some 51), (some (47, false)), .eqS true [.i, .i] (.t 49) (.t 50)⟩,
 ⟨(some 52), (some (42, true)), .pick (.t 47) (.v (.bool true)) (.t 51)⟩,
 rO 53 (.pick (.t 42) (.t 52) (.v (.bool false))),
 rO 32 (.mv (.t 53))])
 (.cond (.t 32) (.seq (.reg [rO 2 (.mv (.v (.int .i64 1)))])
 .ret)
 .skip)))))
 (.seq (.reg [rO 2 (.mv (.v (.int .i64 0)))])
 .ret))),
 [.t 2]⟩
theorem k135 : cFn Try.prog Try.f135 = some c135 := by kernel_rfl
theorem selFI_ok : OkT Try.prog 135 (pureSp selF_S) := by
  refine okT_fn (OkΓT.cons rgok_ok (OkΓT.cons in_ok (OkΓT.cons implHasP_ok (OkΓT.cons whole_ok (OkΓT.nil _))))) Try.func135 (by kernel_rfl) k135 (fun x _ => ⟨rfl, rfl⟩) ?_
  rintro x _
  dsimp only [slT, selF]
  (dsimp only [c135, rO]; simp (maxSteps := 8000000) -implicitDefEqProofs (disch := omega) only [↓reduceIte, go_sem, rgOk_at, in_at, hasP_at, whole_at])
  repeat' first
    | ((first | refine gdKT_deq (fun hg hG => ?_) (fun hg hG => ?_) | refine condKT_deq (fun hg hG => ?_) (fun hg hG => ?_)) <;> (try simp (maxSteps := 8000000) -implicitDefEqProofs (disch := omega) only [↓reduceIte, go_sem, hG, rgOk_at, in_at, hasP_at, whole_at]) <;> clear hG)
    | ((first | refine gdKT_split (fun hg => ?_) (fun hg => ?_) | refine condKT_split (fun hg => ?_) (fun hg => ?_)) <;> (try simp (maxSteps := 8000000) -implicitDefEqProofs (disch := omega) only [↓reduceIte, go_sem, hg, rgOk_at, in_at, hasP_at, whole_at]))
    | (refine endT_p (.inr rfl) (by simp (maxSteps := 8000000) -implicitDefEqProofs (disch := omega) only [↓reduceIte, go_sem, rgOk_at, in_at, hasP_at, whole_at]; rfl) ?_; (first | exact vb_true (by omega) | exact vb_false (by omega) | exact vb_dec (by omega) | exact vi_eq (by omega) | rfl | (refine vi_eq ?_; simp_all; first | done | (intros; omega))))
    | exact endT_v (.inr rfl) (by simp (maxSteps := 8000000) -implicitDefEqProofs (disch := omega) only [↓reduceIte, go_sem, rgOk_at, in_at, hasP_at, whole_at]; try rfl) (fun _ => rfl)
end Go.Proofs.Ytghpdclhhnbgjaa
