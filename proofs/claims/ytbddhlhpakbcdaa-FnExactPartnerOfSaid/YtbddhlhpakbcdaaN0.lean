import Derived.Test.YtbddhlhpakbcdaaD2
import Derived.Test.YtbddhlhpakbcdaaP0
set_option linter.unusedSimpArgs false
set_option linter.unusedVariables false
set_option maxRecDepth 100000
set_option maxHeartbeats 4000000
namespace Go.Proofs.Ytbddhlhpakbcdaa
open Go Go.AH
attribute [local irreducible] awpT ropsT qopsT stepT condKT gdKT EndT joinK loopKT seqKT blkKT kont kontR ropsTF frKT
/-! Terms -/

structure TmR where
  (o a b n : Int)
def tmT (x : TmR) : TV := .agg [.p (.int .i64 x.o), .p (.int .i64 x.a), .p (.int .i64 x.b), .p (.int .i64 x.n)]
theorem tmT_inj (x y : TmR) (h : tmT x = tmT y) : x = y := by cases x; cases y; simp [tmT] at h; simp [h]
theorem tmT_flat : Flat tmT 4 := ⟨fun _ => rfl, fun h n x => by simp only [tmT, frz_agg, frz_p, List.map_cons, List.map_nil], fun _ _ => rfl⟩
theorem tms_sized (l : List TmR) : sizedT 4 (rowsT tmT l) = true := rowsT_sized tmT_flat l
theorem tms_frz (h : THeap) (n : Nat) (l : List TmR) : (rowsT tmT l).map (frzT h n) = rowsT tmT l := rowsT_frz tmT_flat h n l
theorem tms_ren (ρ : Nat → Nat) (l : List TmR) : renTs ρ (rowsT tmT l) = rowsT tmT l := rowsT_ren tmT_flat ρ l
theorem tms_own (l : List TmR) : ownTs (rowsT tmT l) = true := rowsT_own (fun _ => rfl) l
theorem tms_inj1 {l l' : List TmR} (h : rowsT tmT l = rowsT tmT l') : l = l' := rowsT_inj tmT_inj h
theorem tms_inj {l l' : List TmR} (h : TV.s (rowsT tmT l) = .s (rowsT tmT l')) : l = l' := tms_inj1 (by simpa using h)
attribute [go_sem] tms_sized tms_frz tms_ren tms_own
/-! How many terms an op names -/
def kidsF (o : Int) : Int := if o = 3 ∨ o = 4 ∨ o = 5 ∨ o = 7 then 2 else if o = 6 then 1 else 0
noncomputable def kids_S := specP (fun x : Int => [.p (.int .i64 x)]) (fun x => True) (fun x => (.p (.int .i64 (kidsF x)), []))
theorem kids_at (o : Int) : kids_S [.p (.int .i64 o)] = some ((.p (.int .i64 (kidsF o)), [])) := specP_at (enc := fun x : Int => [.p (.int .i64 x)]) (by rintro a0 b0 h; simp only [List.cons.injEq, and_true] at h; have h0 := h; obtain rfl := p64_inj h0; rfl) o trivial
-- spec.l5Kids
def c167 : AF := ⟨11,
 (.seq (.reg [rO 2 (.mv (.v (.int .i64 0)))])
 (.seq (.seq (.reg [rO 3 (.mv (.t 0))])
 (.block 0 (.seq (.seq (.reg [rO 5 (.bin .eql (.t 3) (.v (.int .i64 3))),
 rO 4 (.mv (.t 5))])
 (.cond (.t 4) .skip
 (.seq (.reg [rO 6 (.bin .eql (.t 3) (.v (.int .i64 4))),
 rO 4 (.mv (.t 6))])
 (.cond (.t 4) .skip
 (.seq (.reg [rO 7 (.bin .eql (.t 3) (.v (.int .i64 5))),
 rO 4 (.mv (.t 7))])
 (.cond (.t 4) .skip
 (.reg [rO 8 (.bin .eql (.t 3) (.v (.int .i64 7))),
 rO 4 (.mv (.t 8))])))))))
 (.cond (.t 4) (.seq (.reg [rO 2 (.mv (.v (.int .i64 2)))])
 .ret)
 (.seq (.reg [rO 10 (.bin .eql (.t 3) (.v (.int .i64 6))),
 rO 9 (.mv (.t 10))])
 (.cond (.t 9) (.seq (.reg [rO 2 (.mv (.v (.int .i64 1)))])
 .ret)
 .skip))))))
 (.seq (.reg [rO 2 (.mv (.v (.int .i64 0)))])
 .ret))),
 [.t 2]⟩
theorem k167 : cFn Try.prog Try.f167 = some c167 := by kernel_rfl
theorem kids_ok : OkT Try.prog 167 (pureSp kids_S) := by
  refine okT_fn (OkΓT.nil _) Try.func167 (by kernel_rfl) k167 (fun x _ => ⟨by first | rfl | simp only [go_sem], by first | rfl | simp only [go_sem]⟩) ?_
  rintro o _
  try dsimp only at *
  by_cases h3 : o = 3
  · subst h3
    (dsimp only [c167, rO]; simp (maxSteps := 8000000) -implicitDefEqProofs (disch := omega) only [↓reduceIte, go_sem])
    repeat' first
      | ((first | refine gdKT_deq (fun hg hG => ?_) (fun hg hG => ?_) | refine condKT_deq (fun hg hG => ?_) (fun hg hG => ?_)) <;> (try simp (maxSteps := 8000000) -implicitDefEqProofs (disch := omega) only [↓reduceIte, go_sem, hG]) <;> clear hG)
      | ((first | refine gdKT_split (fun hg => ?_) (fun hg => ?_) | refine condKT_split (fun hg => ?_) (fun hg => ?_)) <;> (try simp (maxSteps := 8000000) -implicitDefEqProofs (disch := omega) only [↓reduceIte, go_sem, hg]))
      | (refine endT_p (.inr rfl) (by simp (maxSteps := 8000000) -implicitDefEqProofs (disch := omega) only [↓reduceIte, go_sem]; rfl) ?_; (first | exact vb_true (by omega) | exact vb_false (by omega) | exact vb_dec (by omega) | exact vi_eq (by omega) | rfl | (refine vi_eq ?_; simp_all; first | done | (intros; omega))))
      | exact endT_v (.inr rfl) (by simp (maxSteps := 8000000) -implicitDefEqProofs (disch := omega) only [↓reduceIte, go_sem]; try rfl) (fun _ => rfl)
  by_cases h4 : o = 4
  · subst h4
    (dsimp only [c167, rO]; simp (maxSteps := 8000000) -implicitDefEqProofs (disch := omega) only [↓reduceIte, go_sem])
    repeat' first
      | ((first | refine gdKT_deq (fun hg hG => ?_) (fun hg hG => ?_) | refine condKT_deq (fun hg hG => ?_) (fun hg hG => ?_)) <;> (try simp (maxSteps := 8000000) -implicitDefEqProofs (disch := omega) only [↓reduceIte, go_sem, hG]) <;> clear hG)
      | ((first | refine gdKT_split (fun hg => ?_) (fun hg => ?_) | refine condKT_split (fun hg => ?_) (fun hg => ?_)) <;> (try simp (maxSteps := 8000000) -implicitDefEqProofs (disch := omega) only [↓reduceIte, go_sem, hg]))
      | (refine endT_p (.inr rfl) (by simp (maxSteps := 8000000) -implicitDefEqProofs (disch := omega) only [↓reduceIte, go_sem]; rfl) ?_; (first | exact vb_true (by omega) | exact vb_false (by omega) | exact vb_dec (by omega) | exact vi_eq (by omega) | rfl | (refine vi_eq ?_; simp_all; first | done | (intros; omega))))
      | exact endT_v (.inr rfl) (by simp (maxSteps := 8000000) -implicitDefEqProofs (disch := omega) only [↓reduceIte, go_sem]; try rfl) (fun _ => rfl)
  by_cases h5 : o = 5
  · subst h5
    (dsimp only [c167, rO]; simp (maxSteps := 8000000) -implicitDefEqProofs (disch := omega) only [↓reduceIte, go_sem])
    repeat' first
      | ((first | refine gdKT_deq (fun hg hG => ?_) (fun hg hG => ?_) | refine condKT_deq (fun hg hG => ?_) (fun hg hG => ?_)) <;> (try simp (maxSteps := 8000000) -implicitDefEqProofs (disch := omega) only [↓reduceIte, go_sem, hG]) <;> clear hG)
      | ((first | refine gdKT_split (fun hg => ?_) (fun hg => ?_) | refine condKT_split (fun hg => ?_) (fun hg => ?_)) <;> (try simp (maxSteps := 8000000) -implicitDefEqProofs (disch := omega) only [↓reduceIte, go_sem, hg]))
      | (refine endT_p (.inr rfl) (by simp (maxSteps := 8000000) -implicitDefEqProofs (disch := omega) only [↓reduceIte, go_sem]; rfl) ?_; (first | exact vb_true (by omega) | exact vb_false (by omega) | exact vb_dec (by omega) | exact vi_eq (by omega) | rfl | (refine vi_eq ?_; simp_all; first | done | (intros; omega))))
      | exact endT_v (.inr rfl) (by simp (maxSteps := 8000000) -implicitDefEqProofs (disch := omega) only [↓reduceIte, go_sem]; try rfl) (fun _ => rfl)
  by_cases h7 : o = 7
  · subst h7
    (dsimp only [c167, rO]; simp (maxSteps := 8000000) -implicitDefEqProofs (disch := omega) only [↓reduceIte, go_sem])
    repeat' first
      | ((first | refine gdKT_deq (fun hg hG => ?_) (fun hg hG => ?_) | refine condKT_deq (fun hg hG => ?_) (fun hg hG => ?_)) <;> (try simp (maxSteps := 8000000) -implicitDefEqProofs (disch := omega) only [↓reduceIte, go_sem, hG]) <;> clear hG)
      | ((first | refine gdKT_split (fun hg => ?_) (fun hg => ?_) | refine condKT_split (fun hg => ?_) (fun hg => ?_)) <;> (try simp (maxSteps := 8000000) -implicitDefEqProofs (disch := omega) only [↓reduceIte, go_sem, hg]))
      | (refine endT_p (.inr rfl) (by simp (maxSteps := 8000000) -implicitDefEqProofs (disch := omega) only [↓reduceIte, go_sem]; rfl) ?_; (first | exact vb_true (by omega) | exact vb_false (by omega) | exact vb_dec (by omega) | exact vi_eq (by omega) | rfl | (refine vi_eq ?_; simp_all; first | done | (intros; omega))))
      | exact endT_v (.inr rfl) (by simp (maxSteps := 8000000) -implicitDefEqProofs (disch := omega) only [↓reduceIte, go_sem]; try rfl) (fun _ => rfl)
  by_cases h6 : o = 6
  · subst h6
    (dsimp only [c167, rO]; simp (maxSteps := 8000000) -implicitDefEqProofs (disch := omega) only [↓reduceIte, go_sem])
    repeat' first
      | ((first | refine gdKT_deq (fun hg hG => ?_) (fun hg hG => ?_) | refine condKT_deq (fun hg hG => ?_) (fun hg hG => ?_)) <;> (try simp (maxSteps := 8000000) -implicitDefEqProofs (disch := omega) only [↓reduceIte, go_sem, hG]) <;> clear hG)
      | ((first | refine gdKT_split (fun hg => ?_) (fun hg => ?_) | refine condKT_split (fun hg => ?_) (fun hg => ?_)) <;> (try simp (maxSteps := 8000000) -implicitDefEqProofs (disch := omega) only [↓reduceIte, go_sem, hg]))
      | (refine endT_p (.inr rfl) (by simp (maxSteps := 8000000) -implicitDefEqProofs (disch := omega) only [↓reduceIte, go_sem]; rfl) ?_; (first | exact vb_true (by omega) | exact vb_false (by omega) | exact vb_dec (by omega) | exact vi_eq (by omega) | rfl | (refine vi_eq ?_; simp_all; first | done | (intros; omega))))
      | exact endT_v (.inr rfl) (by simp (maxSteps := 8000000) -implicitDefEqProofs (disch := omega) only [↓reduceIte, go_sem]; try rfl) (fun _ => rfl)
  rw [show kidsF o = 0 by unfold kidsF; rw [if_neg (by omega), if_neg h6]]
  (dsimp only [c167, rO]; simp (maxSteps := 8000000) -implicitDefEqProofs (disch := omega) only [↓reduceIte, go_sem, eq_false h3, eq_false h4, eq_false h5, eq_false h6, eq_false h7])
  repeat' first
    | ((first | refine gdKT_deq (fun hg hG => ?_) (fun hg hG => ?_) | refine condKT_deq (fun hg hG => ?_) (fun hg hG => ?_)) <;> (try simp (maxSteps := 8000000) -implicitDefEqProofs (disch := omega) only [↓reduceIte, go_sem, hG, eq_false h3, eq_false h4, eq_false h5, eq_false h6, eq_false h7]) <;> clear hG)
    | ((first | refine gdKT_split (fun hg => ?_) (fun hg => ?_) | refine condKT_split (fun hg => ?_) (fun hg => ?_)) <;> (try simp (maxSteps := 8000000) -implicitDefEqProofs (disch := omega) only [↓reduceIte, go_sem, hg, eq_false h3, eq_false h4, eq_false h5, eq_false h6, eq_false h7]))
    | (refine endT_p (.inr rfl) (by simp (maxSteps := 8000000) -implicitDefEqProofs (disch := omega) only [↓reduceIte, go_sem, eq_false h3, eq_false h4, eq_false h5, eq_false h6, eq_false h7]; rfl) ?_; (first | exact vb_true (by omega) | exact vb_false (by omega) | exact vb_dec (by omega) | exact vi_eq (by omega) | rfl | (refine vi_eq ?_; simp_all; first | done | (intros; omega))))
    | exact endT_v (.inr rfl) (by simp (maxSteps := 8000000) -implicitDefEqProofs (disch := omega) only [↓reduceIte, go_sem, eq_false h3, eq_false h4, eq_false h5, eq_false h6, eq_false h7]; try rfl) (fun _ => rfl)

/-! A place of a table -/
def plc (n : Nat) (at_ : Int) : Bool := decide (0 ≤ at_ ∧ at_ ≤ (n : Int) - 1)
noncomputable def plc_S := specP (fun x : List TmR × Int => [.s (rowsT tmT x.1), .p (.int .i64 x.2)]) (fun x => x.1.length ≤ 1048576) (fun x => (.p (.bool (plc x.1.length x.2)), []))
theorem plc_at (l : List TmR) (a : Int) (h : l.length ≤ 1048576) : plc_S [.s (rowsT tmT l), .p (.int .i64 a)] = some ((.p (.bool (plc l.length a)), [])) := specP_at (enc := fun x : List TmR × Int => [.s (rowsT tmT x.1), .p (.int .i64 x.2)]) (by rintro ⟨a0, a1⟩ ⟨b0, b1⟩ h; simp only [List.cons.injEq, and_true] at h; obtain ⟨h0, h1⟩ := h; obtain rfl := tms_inj h0; obtain rfl := p64_inj h1; rfl) (l, a) h
-- spec.l5At
def c55 : AF := ⟨10,
 (.seq (.reg [rO 4 (.mv (.v (.bool false)))])
 (.seq (.reg [rO 5 (.mv (.t 1)),
 rO 6 (.mv (.t 0)),
 rO 7 (.len (.t 6)),
 rO 8 (.bin .sub (.t 7) (.v (.int .i64 1))),
 rO 9 (.call 54 [(.t 5), (.v (.int .i64 0)), (.t 8)]),
 rO 4 (.mv (.t 9))])
 .ret)),
 [.t 4]⟩
theorem k55 : cFn Try.prog Try.f55 = some c55 := by kernel_rfl
theorem plcS_ok : OkT Try.prog 55 (pureSp plc_S) := by
  refine okT_fn (OkΓT.cons l1In_ok (OkΓT.nil _)) Try.func55 (by kernel_rfl) k55 (fun x _ => ⟨by first | rfl | simp only [go_sem], by first | rfl | simp only [go_sem]⟩) ?_
  rintro ⟨l, a⟩ h
  try dsimp only at *
  unfold plc
  (dsimp only [c55, rO]; simp (maxSteps := 8000000) -implicitDefEqProofs (disch := omega) only [↓reduceIte, go_sem, in_at])
  exact endT_v (.inr rfl) (by (simp (maxSteps := 8000000) -implicitDefEqProofs (disch := omega) only [↓reduceIte, go_sem]) <;> rfl) (fun _ => rfl)
-- impl.isPlace
def c49 : AF := ⟨10,
 (.seq (.reg [rO 4 (.mv (.v (.bool false)))])
 (.seq (.reg [rO 5 (.mv (.t 1)),
 rO 6 (.mv (.t 0)),
 rO 7 (.len (.t 6)),
 rO 8 (.bin .sub (.t 7) (.v (.int .i64 1))),
 rO 9 (.call 48 [(.t 5), (.v (.int .i64 0)), (.t 8)]),
 rO 4 (.mv (.t 9))])
 .ret)),
 [.t 4]⟩
theorem k49 : cFn Try.prog Try.f49 = some c49 := by kernel_rfl
theorem plcI_ok : OkT Try.prog 49 (pureSp plc_S) := by
  refine okT_fn (OkΓT.cons in_ok (OkΓT.nil _)) Try.func49 (by kernel_rfl) k49 (fun x _ => ⟨by first | rfl | simp only [go_sem], by first | rfl | simp only [go_sem]⟩) ?_
  rintro ⟨l, a⟩ h
  try dsimp only at *
  unfold plc
  (dsimp only [c49, rO]; simp (maxSteps := 8000000) -implicitDefEqProofs (disch := omega) only [↓reduceIte, go_sem, in_at])
  exact endT_v (.inr rfl) (by (simp (maxSteps := 8000000) -implicitDefEqProofs (disch := omega) only [↓reduceIte, go_sem]) <;> rfl) (fun _ => rfl)

/-! Which fields an op names -/
def nmT (a b n : Bool) : TV := .agg [.p (.bool a), .p (.bool b), .p (.bool n)]
def nmF (o : Int) : TV := if o = 1 ∨ o = 2 then nmT false false true else if o = 6 then nmT true false false else nmT true true false
theorem nmF_own (o : Int) : ownT (nmF o) = true := by unfold nmF; split; rfl; split <;> rfl
noncomputable def nm_S := specP (fun x : Int => [.p (.int .i64 x)]) (fun x => True) (fun x => (nmF x, []))
theorem nm_at (o : Int) : nm_S [.p (.int .i64 o)] = some ((nmF o, [])) := specP_at (enc := fun x : Int => [.p (.int .i64 x)]) (by rintro a0 b0 h; simp only [List.cons.injEq, and_true] at h; have h0 := h; obtain rfl := p64_inj h0; rfl) o trivial
-- impl.namesOf
def c161 : AF := ⟨12,
 (.seq (.reg [rO 2 (.alloc 202 [(.bool false), (.bool false), (.bool false)])])
 (.seq (.seq (.reg [rO 3 (.mv (.t 0))])
 (.block 0 (.seq (.seq (.reg [rO 5 (.bin .eql (.t 3) (.v (.int .i64 1))),
 rO 4 (.mv (.t 5))])
 (.cond (.t 4) .skip
 (.reg [rO 6 (.bin .eql (.t 3) (.v (.int .i64 2))),
 rO 4 (.mv (.t 6))])))
 (.cond (.t 4) (.seq (.reg [rO 7 (.build [(.bool false), (.bool false), (.bool false)] [(2, 1, (.v (.bool true)))]),
 ⟨none, none, .st 3 (.t 2) (.t 7)⟩])
 .ret)
 (.seq (.reg [rO 9 (.bin .eql (.t 3) (.v (.int .i64 6))),
 rO 8 (.mv (.t 9))])
 (.cond (.t 8) (.seq (.reg [rO 10 (.build [(.bool false), (.bool false), (.bool false)] [(0, 1, (.v (.bool true)))]),
 ⟨none, none, .st 3 (.t 2) (.t 10)⟩])
 .ret)
 .skip))))))
 (.seq (.reg [rO 11 (.build [(.bool false), (.bool false), (.bool false)] [(0, 1, (.v (.bool true))), (1, 1, (.v (.bool true)))]),
 ⟨none, none, .st 3 (.t 2) (.t 11)⟩])
 .ret))),
 [.cell 2 (some 3)]⟩
theorem k161 : cFn Try.prog Try.f161 = some c161 := by kernel_rfl
theorem nm_ok : OkT Try.prog 161 (pureSp nm_S) := by
  refine okT_fn (OkΓT.nil _) Try.func161 (by kernel_rfl) k161 (fun x _ => ⟨nmF_own _, rfl⟩) ?_
  rintro o _
  try dsimp only at *
  by_cases h1 : o = 1
  · subst h1
    (dsimp only [c161, rO]; simp (maxSteps := 8000000) -implicitDefEqProofs (disch := omega) only [↓reduceIte, go_sem])
    repeat' first
      | ((first | refine gdKT_deq (fun hg hG => ?_) (fun hg hG => ?_) | refine condKT_deq (fun hg hG => ?_) (fun hg hG => ?_)) <;> (try simp (maxSteps := 8000000) -implicitDefEqProofs (disch := omega) only [↓reduceIte, go_sem, hG]) <;> clear hG)
      | ((first | refine gdKT_split (fun hg => ?_) (fun hg => ?_) | refine condKT_split (fun hg => ?_) (fun hg => ?_)) <;> (try simp (maxSteps := 8000000) -implicitDefEqProofs (disch := omega) only [↓reduceIte, go_sem, hg]))
      | (refine endT_p (.inr rfl) (by simp (maxSteps := 8000000) -implicitDefEqProofs (disch := omega) only [↓reduceIte, go_sem]; rfl) ?_; (first | exact vb_true (by omega) | exact vb_false (by omega) | exact vb_dec (by omega) | exact vi_eq (by omega) | rfl | (refine vi_eq ?_; simp_all; first | done | (intros; omega))))
      | exact endT_v (.inr rfl) (by simp (maxSteps := 8000000) -implicitDefEqProofs (disch := omega) only [↓reduceIte, go_sem]; try rfl) (fun _ => rfl)
  by_cases h2 : o = 2
  · subst h2
    (dsimp only [c161, rO]; simp (maxSteps := 8000000) -implicitDefEqProofs (disch := omega) only [↓reduceIte, go_sem])
    repeat' first
      | ((first | refine gdKT_deq (fun hg hG => ?_) (fun hg hG => ?_) | refine condKT_deq (fun hg hG => ?_) (fun hg hG => ?_)) <;> (try simp (maxSteps := 8000000) -implicitDefEqProofs (disch := omega) only [↓reduceIte, go_sem, hG]) <;> clear hG)
      | ((first | refine gdKT_split (fun hg => ?_) (fun hg => ?_) | refine condKT_split (fun hg => ?_) (fun hg => ?_)) <;> (try simp (maxSteps := 8000000) -implicitDefEqProofs (disch := omega) only [↓reduceIte, go_sem, hg]))
      | (refine endT_p (.inr rfl) (by simp (maxSteps := 8000000) -implicitDefEqProofs (disch := omega) only [↓reduceIte, go_sem]; rfl) ?_; (first | exact vb_true (by omega) | exact vb_false (by omega) | exact vb_dec (by omega) | exact vi_eq (by omega) | rfl | (refine vi_eq ?_; simp_all; first | done | (intros; omega))))
      | exact endT_v (.inr rfl) (by simp (maxSteps := 8000000) -implicitDefEqProofs (disch := omega) only [↓reduceIte, go_sem]; try rfl) (fun _ => rfl)
  by_cases h6 : o = 6
  · subst h6
    (dsimp only [c161, rO]; simp (maxSteps := 8000000) -implicitDefEqProofs (disch := omega) only [↓reduceIte, go_sem])
    repeat' first
      | ((first | refine gdKT_deq (fun hg hG => ?_) (fun hg hG => ?_) | refine condKT_deq (fun hg hG => ?_) (fun hg hG => ?_)) <;> (try simp (maxSteps := 8000000) -implicitDefEqProofs (disch := omega) only [↓reduceIte, go_sem, hG]) <;> clear hG)
      | ((first | refine gdKT_split (fun hg => ?_) (fun hg => ?_) | refine condKT_split (fun hg => ?_) (fun hg => ?_)) <;> (try simp (maxSteps := 8000000) -implicitDefEqProofs (disch := omega) only [↓reduceIte, go_sem, hg]))
      | (refine endT_p (.inr rfl) (by simp (maxSteps := 8000000) -implicitDefEqProofs (disch := omega) only [↓reduceIte, go_sem]; rfl) ?_; (first | exact vb_true (by omega) | exact vb_false (by omega) | exact vb_dec (by omega) | exact vi_eq (by omega) | rfl | (refine vi_eq ?_; simp_all; first | done | (intros; omega))))
      | exact endT_v (.inr rfl) (by simp (maxSteps := 8000000) -implicitDefEqProofs (disch := omega) only [↓reduceIte, go_sem]; try rfl) (fun _ => rfl)
  rw [show nmF o = nmT true true false by unfold nmF; rw [if_neg (by omega), if_neg h6]]
  unfold nmT
  (dsimp only [c161, rO]; simp (maxSteps := 8000000) -implicitDefEqProofs (disch := omega) only [↓reduceIte, go_sem, eq_false h1, eq_false h2, eq_false h6])
  repeat' first
    | ((first | refine gdKT_deq (fun hg hG => ?_) (fun hg hG => ?_) | refine condKT_deq (fun hg hG => ?_) (fun hg hG => ?_)) <;> (try simp (maxSteps := 8000000) -implicitDefEqProofs (disch := omega) only [↓reduceIte, go_sem, hG, eq_false h1, eq_false h2, eq_false h6]) <;> clear hG)
    | ((first | refine gdKT_split (fun hg => ?_) (fun hg => ?_) | refine condKT_split (fun hg => ?_) (fun hg => ?_)) <;> (try simp (maxSteps := 8000000) -implicitDefEqProofs (disch := omega) only [↓reduceIte, go_sem, hg, eq_false h1, eq_false h2, eq_false h6]))
    | (refine endT_p (.inr rfl) (by simp (maxSteps := 8000000) -implicitDefEqProofs (disch := omega) only [↓reduceIte, go_sem, eq_false h1, eq_false h2, eq_false h6]; rfl) ?_; (first | exact vb_true (by omega) | exact vb_false (by omega) | exact vb_dec (by omega) | exact vi_eq (by omega) | rfl | (refine vi_eq ?_; simp_all; first | done | (intros; omega))))
    | exact endT_v (.inr rfl) (by simp (maxSteps := 8000000) -implicitDefEqProofs (disch := omega) only [↓reduceIte, go_sem, eq_false h1, eq_false h2, eq_false h6]; try rfl) (fun _ => rfl)
end Go.Proofs.Ytbddhlhpakbcdaa
