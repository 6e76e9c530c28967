import Derived.Test.YtkijbknnbmbnbaaD8
import Derived.Test.YtkijbknnbmbnbaaD4
import Derived.Test.YtkijbknnbmbnbaaP0
set_option linter.unusedSimpArgs false
set_option linter.unusedVariables false
set_option maxRecDepth 100000
set_option maxHeartbeats 4000000
namespace Go.Proofs.Ytkijbknnbmbnbaa
open Go Go.AH
attribute [local irreducible] awpT ropsT qopsT stepT condKT gdKT EndT joinK loopKT seqKT blkKT kont kontR
/-! Policies, peers, boxes -/

structure RuR where
  (sel : SlR)
  (act pr : Int)
def ruT (x : RuR) : TV := .agg [.p (.int .i64 x.sel.f1), .p (.int .i64 x.sel.f2), .p (.int .i64 x.sel.t1), .p (.int .i64 x.sel.t2), .p (.int .i64 x.sel.p1), .p (.int .i64 x.sel.p2), .p (.int .i64 x.sel.q1), .p (.int .i64 x.sel.q2), .p (.int .i64 x.sel.pr), .p (.int .i64 x.act), .p (.int .i64 x.pr)]
theorem ruT_inj (x y : RuR) (h : ruT x = ruT y) : x = y := by
  rcases x with ⟨⟨⟩, _, _⟩; rcases y with ⟨⟨⟩, _, _⟩; simp [ruT] at h; simp [h]
theorem ruT_flat : Flat ruT 11 := ⟨fun _ => rfl, fun h n x => by simp only [ruT, frz_agg, frz_p, List.map_cons, List.map_nil], fun _ _ => rfl⟩
theorem rus_sized (l : List RuR) : sizedT 11 (rowsT ruT l) = true := rowsT_sized ruT_flat l
theorem rus_frz (h : THeap) (n : Nat) (l : List RuR) : (rowsT ruT l).map (frzT h n) = rowsT ruT l := rowsT_frz ruT_flat h n l
theorem rus_ren (ρ : Nat → Nat) (l : List RuR) : renTs ρ (rowsT ruT l) = rowsT ruT l := rowsT_ren ruT_flat ρ l
theorem rus_own (l : List RuR) : ownTs (rowsT ruT l) = true := rowsT_own (fun _ => rfl) l
theorem rus_inj1 {l l' : List RuR} (h : rowsT ruT l = rowsT ruT l') : l = l' := rowsT_inj ruT_inj h
theorem rus_inj {l l' : List RuR} (h : TV.s (rowsT ruT l) = .s (rowsT ruT l')) : l = l' := rus_inj1 (by simpa using h)
structure PrR where
  (id ad : Int)
def prT (x : PrR) : TV := .agg [.p (.int .i64 x.id), .p (.int .i64 x.ad)]
theorem prT_inj (x y : PrR) (h : prT x = prT y) : x = y := by cases x; cases y; simp [prT] at h; simp [h]
theorem prT_flat : Flat prT 2 := ⟨fun _ => rfl, fun h n x => by simp only [prT, frz_agg, frz_p, List.map_cons, List.map_nil], fun _ _ => rfl⟩
theorem prs_sized (l : List PrR) : sizedT 2 (rowsT prT l) = true := rowsT_sized prT_flat l
theorem prs_frz (h : THeap) (n : Nat) (l : List PrR) : (rowsT prT l).map (frzT h n) = rowsT prT l := rowsT_frz prT_flat h n l
theorem prs_ren (ρ : Nat → Nat) (l : List PrR) : renTs ρ (rowsT prT l) = rowsT prT l := rowsT_ren prT_flat ρ l
theorem prs_own (l : List PrR) : ownTs (rowsT prT l) = true := rowsT_own (fun _ => rfl) l
theorem prs_inj1 {l l' : List PrR} (h : rowsT prT l = rowsT prT l') : l = l' := rowsT_inj prT_inj h
theorem prs_inj {l l' : List PrR} (h : TV.s (rowsT prT l) = .s (rowsT prT l')) : l = l' := prs_inj1 (by simpa using h)
attribute [go_sem] rus_sized rus_frz rus_ren rus_own prs_sized prs_frz prs_ren prs_own
/-! Policies -/
def ruleF (x : RuR) : Int := if selF x.sel = 0 then (if 1 ≤ x.act ∧ x.act ≤ 3 then (if (x.act = 3 ∧ ¬ (1 ≤ x.pr ∧ x.pr ≤ 9)) ∨ (¬ x.act = 3 ∧ ¬ x.pr = 0) then 1 else 0) else 3) else selF x.sel
def firstR : List RuR → Int
  | [] => 0
  | x :: r => if ruleF x = 0 then firstR r else ruleF x
theorem firstR_at {l : List RuR} {i : Nat} {x : RuR} (h : l[i]? = some x) : firstR (l.drop i) = if ruleF x = 0 then firstR (l.drop (i + 1)) else ruleF x := by
  have hlt := (List.getElem?_eq_some_iff.1 h).1
  rw [List.drop_eq_getElem_cons hlt, (List.getElem?_eq_some_iff.1 h).2, firstR]
def polF (l : List RuR) : Int := if l.length ≤ 20 then firstR l else 2
/-! Peers -/
def firstP : Option Int → List PrR → Int
  | _, [] => 0
  | p, x :: r => if (1 ≤ x.id ∧ x.id ≤ 9) ∧ (0 ≤ x.ad ∧ x.ad ≤ 4294967295) then (if badO p x.id then 1 else firstP (some x.id) r) else 3
def prevP (l : List PrR) (i : Nat) : Option Int := if i = 0 then none else (l[i - 1]?).map (·.id)
theorem prevP_succ {l : List PrR} {i : Nat} {x : PrR} (h : l[i]? = some x) : prevP l (i + 1) = some x.id := by simp [prevP, h]
theorem firstP_at {l : List PrR} {i : Nat} {x : PrR} {p : Option Int} (h : l[i]? = some x) : firstP p (l.drop i) = if (1 ≤ x.id ∧ x.id ≤ 9) ∧ (0 ≤ x.ad ∧ x.ad ≤ 4294967295) then (if badO p x.id then 1 else firstP (some x.id) (l.drop (i + 1))) else 3 := by
  have hlt := (List.getElem?_eq_some_iff.1 h).1
  rw [List.drop_eq_getElem_cons hlt, (List.getElem?_eq_some_iff.1 h).2, firstP]
def peeF (l : List PrR) : Int := if l.length ≤ 9 then firstP none l else 2
noncomputable def polF_S := specP (fun x : List RuR => [.s (rowsT ruT x)]) (fun x => x.length ≤ 140737488355328) (fun x => (.p (.int .i64 (polF x)), []))
theorem polF_at (l : List RuR) (h : l.length ≤ 140737488355328) : polF_S [.s (rowsT ruT l)] = some ((.p (.int .i64 (polF l)), [])) := specP_at (enc := fun x : List RuR => [.s (rowsT ruT x)]) (by rintro a0 b0 h; simp only [List.cons.injEq, and_true] at h; have h0 := h; obtain rfl := rus_inj h0; rfl) l h
-- spec.PolicyFault
def c202 : AF := ⟨48,
  (.seq (.reg [⟨(some 2), none, .mv (.v (.int .i64 0))⟩])
  (.seq (.seq (.reg [⟨(some 6), none, .mv (.t 0)⟩,
   ⟨(some 7), none, .len (.t 6)⟩,
   ⟨(some 8), none, .bin .gtr (.t 7) (.v (.int .i64 20))⟩])
  (.cond (.t 8) (.seq (.reg [⟨(some 2), none, .mv (.v (.int .i64 2))⟩])
  .ret)
  .skip))
  (.seq (.seq (.reg [⟨(some 3), none, .mv (.v (.int .i64 0))⟩])
  (.block 0 (.loop (.seq (.seq (.reg [⟨(some 9), none, .mv (.t 3)⟩,
   ⟨(some 10), none, .mv (.t 0)⟩,
   ⟨(some 11), none, .len (.t 10)⟩,
   ⟨(some 12), none, .bin .lss (.t 9) (.t 11)⟩])
  (.cond (.t 12) .skip
  (.exit 0)))
  (.seq (.block 1 (.seq (.reg [⟨(some 15), none, .mv (.t 0)⟩,
   ⟨(some 16), none, .mv (.t 3)⟩,
   ⟨(some 17), none, .ia 11 (.t 15) (.t 16)⟩,
   ⟨(some 18), none, .ldn 11 (.t 17)⟩,
   ⟨(some 4), none, .alloc 186 [(.int .i64 0), (.int .i64 0), (.int .i64 0), (.int .i64 0), (.int .i64 0), (.int .i64 0), (.int .i64 0), (.int .i64 0), (.int .i64 0), (.int .i64 0), (.int .i64 0)]⟩,
   ⟨none, none, .st 11 (.t 4) (.t 18)⟩])
  (.seq (.seq (.reg [⟨(some 19), none, .fa (.t 4) 0⟩,
   ⟨(some 20), none, .ldn 9 (.t 19)⟩,
   ⟨(some 21), none, .call 228 [(.t 20)]⟩,
   ⟨(some 5), none, .mv (.t 21)⟩])
  (.seq (.reg [⟨(some 22), none, .mv (.t 5)⟩,
   ⟨(some 23), none, .bin .neq (.t 22) (.v (.int .i64 0))⟩])
  (.cond (.t 23) (.seq (.reg [⟨(some 24), none, .mv (.t 5)⟩,
   ⟨(some 2), none, .mv (.t 24)⟩])
  .ret)
  .skip)))
  (.seq (.seq (.reg [⟨(some 25), none, .fa (.t 4) 9⟩,
   ⟨(some 26), none, .ld (.t 25)⟩,
   ⟨(some 27), none, .call 97 [(.t 26), (.v (.int .i64 1)), (.v (.int .i64 3))]⟩,
   ⟨(some 28), none, .un .not (.t 27)⟩])
  (.cond (.t 28) (.seq (.reg [⟨(some 2), none, .mv (.v (.int .i64 3))⟩])
  .ret)
  .skip))
  (.seq (.reg [⟨(some 29), none, .fa (.t 4) 9⟩,
   ⟨(some 30), none, .ld (.t 29)⟩,
   ⟨(some 31), none, .bin .eql (.t 30) (.v (.int .i64 3))⟩,
   ⟨(some 32), none, .mv (.t 31)⟩,
   ⟨(some 33), (some (32, true)), .fa (.t 4) 10⟩,
   ⟨(some 34), (some (32, true)), .ld (.t 33)⟩,
   ⟨(some 35), (some (32, true)), .call 97 [(.t 34), (.v (.int .i64 1)), (.v (.int .i64 9))]⟩,
   ⟨(some 36), (some (32, true)), .un .not (.t 35)⟩,
   ⟨(some 37), none, .pick (.t 32) (.t 36) (.v (.bool false))⟩,
   ⟨(some 38), none, .mv (.t 37)⟩,
   ⟨(some 39), (some (38, false)), .fa (.t 4) 9⟩,
   ⟨(some 40), (some (38, false)), .ld (.t 39)⟩,
   ⟨(some 41), (some (38, false)), .bin .neq (.t 40) (.v (.int .i64 3))⟩,
   ⟨(some 42), (some (38, false)), .mv (.t 41)⟩,
   ⟨(some 43), (some (42, true)), .fa (.t 4) 10⟩,
   ⟨(some 44), (some (42, true)), .ld (.t 43)⟩,
   ⟨(some 45), (some (42, true)), .bin .neq (.t 44) (.v (.int .i64 0))⟩,
   ⟨(some 46), (some (38, false)), .pick (.t 42) (.t 45) (.v (.bool false))⟩,
   ⟨(some 47), none, .pick (.t 38) (.v (.bool true)) (.t 46)⟩])
  (.cond (.t 47) (.seq (.reg [⟨(some 2), none, .mv (.v (.int .i64 1))⟩])
  .ret)
  .skip))))))
  (.reg [⟨(some 13), none, .mv (.t 3)⟩,
   ⟨(some 14), none, .bin .add (.t 13) (.v (.int .i64 1))⟩,
   ⟨(some 3), none, .mv (.t 14)⟩]))))))
  (.seq (.reg [⟨(some 2), none, .mv (.v (.int .i64 0))⟩])
  .ret)))),
  [.t 2]⟩
theorem k202 : cFn Try.prog Try.f202 = some c202 := by kernel_rfl
theorem polS_ok : OkT Try.prog 202 (pureSp polF_S) := by
  refine okT_fn (OkΓT.cons selFS_ok (OkΓT.cons l1In_ok (OkΓT.nil _))) Try.func202 (by kernel_rfl) k202 (fun x _ => ⟨by first | rfl | simp only [go_sem], by first | rfl | simp only [go_sem]⟩) ?_
  rintro l hl
  try dsimp only at *
  by_cases hr : l.length ≤ 20
  case neg =>
    rw [show polF l = 2 by simp only [polF]; rw [if_neg hr]]
    (dsimp only [c202]; simp (maxSteps := 8000000) (implicitDefEqProofs := false) (disch := omega) only [↓reduceIte, go_sem, if_pos, if_neg])
    repeat' first
      | (refine gdKT_dec (fun hg => ?_) (fun hg => ?_) <;> (try (first | simp (maxSteps := 8000000) (implicitDefEqProofs := false) (disch := omega) only [↓reduceIte, go_sem, if_pos, if_neg, eq_false hg] | simp (maxSteps := 8000000) (implicitDefEqProofs := false) (disch := omega) only [↓reduceIte, go_sem, if_pos, if_neg, eq_true hg])))
      | (refine condKT_dec (fun hg => ?_) (fun hg => ?_) <;> (try (first | simp (maxSteps := 8000000) (implicitDefEqProofs := false) (disch := omega) only [↓reduceIte, go_sem, if_pos, if_neg, eq_false hg] | simp (maxSteps := 8000000) (implicitDefEqProofs := false) (disch := omega) only [↓reduceIte, go_sem, if_pos, if_neg, eq_true hg])))
      | (refine gdKT_split (fun hg => ?_) (fun hg => ?_) <;> (try simp (maxSteps := 8000000) (implicitDefEqProofs := false) (disch := omega) only [↓reduceIte, go_sem, if_pos, if_neg, hg]))
      | (refine condKT_split (fun hg => ?_) (fun hg => ?_) <;> (try simp (maxSteps := 8000000) (implicitDefEqProofs := false) (disch := omega) only [↓reduceIte, go_sem, if_pos, if_neg, hg]))
      | (refine endT_p (.inr rfl) (by simp (maxSteps := 8000000) (implicitDefEqProofs := false) (disch := omega) only [↓reduceIte, go_sem, if_pos, if_neg]; rfl) ?_; (first | exact vb_true (by omega) | exact vb_false (by omega) | exact vb_dec (by omega) | exact vi_eq (by omega) | rfl | (refine vi_eq ?_; simp_all; done) | (refine vi_eq ?_; simp_all; omega) | (refine vi_eq ?_; simp_all; intros; omega)))
      | exact endT_v (.inr rfl) (by simp (maxSteps := 8000000) (implicitDefEqProofs := false) (disch := omega) only [↓reduceIte, go_sem, if_pos, if_neg]; try rfl) (fun _ => rfl)
  rw [show polF l = firstR l by simp only [polF]; rw [if_pos hr]]
  (dsimp only [c202]; simp (maxSteps := 8000000) (implicitDefEqProofs := false) (disch := omega) only [↓reduceIte, go_sem, if_pos, if_neg])
  refine awpT_loop (α := Nat) (fun i => ⟨slots [(0, .s (rowsT ruT l)), (3, .p (.int .i64 i))], []⟩) (fun i => i ≤ l.length ∧ firstR (l.drop i) = firstR l) (fun i => l.length - i) 0 ⟨by omega, by simp⟩ (le_of [] (by simp (maxSteps := 8000000) (implicitDefEqProofs := false) (disch := omega) only [↓reduceIte, go_sem, if_pos, if_neg]) (by simp (maxSteps := 8000000) (implicitDefEqProofs := false) (disch := omega) only [↓reduceIte, go_sem, if_pos, if_neg]) (by decide) (by simp)) ?_
  intro i ⟨hi, hinv⟩
  simp (maxSteps := 8000000) (implicitDefEqProofs := false) (disch := omega) only [↓reduceIte, go_sem, if_pos, if_neg]
  refine condKT_dec (fun hlt => ?_) (fun hge => ?_)
  · obtain ⟨x, hx⟩ := get_ex (l := l) (i := i) (by omega)
    rw [firstR_at hx] at hinv
    by_cases hz : selF x.sel = 0
    case neg =>
      have e : ruleF x = selF x.sel := by unfold ruleF; rw [if_neg hz]
      rw [e, if_neg hz] at hinv
      rw [← hinv]
      simp (maxSteps := 8000000) (implicitDefEqProofs := false) (disch := omega) only [↓reduceIte, go_sem, if_pos, if_neg, eq_true hlt, hx, ruT, selF_atx, in_at, peer_at, eq_false hz]
      repeat' first
        | (refine gdKT_dec (fun hg => ?_) (fun hg => ?_) <;> (try (first | simp (maxSteps := 8000000) (implicitDefEqProofs := false) (disch := omega) only [↓reduceIte, go_sem, if_pos, if_neg, eq_false hg, eq_true hlt, hx, ruT, selF_atx, in_at, peer_at, eq_false hz] | simp (maxSteps := 8000000) (implicitDefEqProofs := false) (disch := omega) only [↓reduceIte, go_sem, if_pos, if_neg, eq_true hg, eq_true hlt, hx, ruT, selF_atx, in_at, peer_at, eq_false hz])))
        | (refine condKT_dec (fun hg => ?_) (fun hg => ?_) <;> (try (first | simp (maxSteps := 8000000) (implicitDefEqProofs := false) (disch := omega) only [↓reduceIte, go_sem, if_pos, if_neg, eq_false hg, eq_true hlt, hx, ruT, selF_atx, in_at, peer_at, eq_false hz] | simp (maxSteps := 8000000) (implicitDefEqProofs := false) (disch := omega) only [↓reduceIte, go_sem, if_pos, if_neg, eq_true hg, eq_true hlt, hx, ruT, selF_atx, in_at, peer_at, eq_false hz])))
        | (refine gdKT_split (fun hg => ?_) (fun hg => ?_) <;> (try simp (maxSteps := 8000000) (implicitDefEqProofs := false) (disch := omega) only [↓reduceIte, go_sem, if_pos, if_neg, hg, eq_true hlt, hx, ruT, selF_atx, in_at, peer_at, eq_false hz]))
        | (refine condKT_split (fun hg => ?_) (fun hg => ?_) <;> (try simp (maxSteps := 8000000) (implicitDefEqProofs := false) (disch := omega) only [↓reduceIte, go_sem, if_pos, if_neg, hg, eq_true hlt, hx, ruT, selF_atx, in_at, peer_at, eq_false hz]))
        | (refine endT_p (.inr rfl) (by simp (maxSteps := 8000000) (implicitDefEqProofs := false) (disch := omega) only [↓reduceIte, go_sem, if_pos, if_neg, eq_true hlt, hx, ruT, selF_atx, in_at, peer_at, eq_false hz]; rfl) ?_; (first | exact vb_true (by omega) | exact vb_false (by omega) | exact vb_dec (by omega) | exact vi_eq (by omega) | rfl | (refine vi_eq ?_; simp_all; done) | (refine vi_eq ?_; simp_all; omega) | (refine vi_eq ?_; simp_all; intros; omega)))
        | exact endT_v (.inr rfl) (by simp (maxSteps := 8000000) (implicitDefEqProofs := false) (disch := omega) only [↓reduceIte, go_sem, if_pos, if_neg, eq_true hlt, hx, ruT, selF_atx, in_at, peer_at, eq_false hz]; try rfl) (fun _ => rfl)
    by_cases ha : 1 ≤ x.act ∧ x.act ≤ 3
    case neg =>
      have e : ruleF x = 3 := by unfold ruleF; rw [if_pos hz, if_neg ha]
      rw [e, if_neg (by decide)] at hinv
      rw [← hinv]
      simp (maxSteps := 8000000) (implicitDefEqProofs := false) (disch := omega) only [↓reduceIte, go_sem, if_pos, if_neg, eq_true hlt, hx, ruT, selF_atx, in_at, peer_at, hz, eq_false ha]
      repeat' first
        | (refine gdKT_dec (fun hg => ?_) (fun hg => ?_) <;> (try (first | simp (maxSteps := 8000000) (implicitDefEqProofs := false) (disch := omega) only [↓reduceIte, go_sem, if_pos, if_neg, eq_false hg, eq_true hlt, hx, ruT, selF_atx, in_at, peer_at, hz, eq_false ha] | simp (maxSteps := 8000000) (implicitDefEqProofs := false) (disch := omega) only [↓reduceIte, go_sem, if_pos, if_neg, eq_true hg, eq_true hlt, hx, ruT, selF_atx, in_at, peer_at, hz, eq_false ha])))
        | (refine condKT_dec (fun hg => ?_) (fun hg => ?_) <;> (try (first | simp (maxSteps := 8000000) (implicitDefEqProofs := false) (disch := omega) only [↓reduceIte, go_sem, if_pos, if_neg, eq_false hg, eq_true hlt, hx, ruT, selF_atx, in_at, peer_at, hz, eq_false ha] | simp (maxSteps := 8000000) (implicitDefEqProofs := false) (disch := omega) only [↓reduceIte, go_sem, if_pos, if_neg, eq_true hg, eq_true hlt, hx, ruT, selF_atx, in_at, peer_at, hz, eq_false ha])))
        | (refine gdKT_split (fun hg => ?_) (fun hg => ?_) <;> (try simp (maxSteps := 8000000) (implicitDefEqProofs := false) (disch := omega) only [↓reduceIte, go_sem, if_pos, if_neg, hg, eq_true hlt, hx, ruT, selF_atx, in_at, peer_at, hz, eq_false ha]))
        | (refine condKT_split (fun hg => ?_) (fun hg => ?_) <;> (try simp (maxSteps := 8000000) (implicitDefEqProofs := false) (disch := omega) only [↓reduceIte, go_sem, if_pos, if_neg, hg, eq_true hlt, hx, ruT, selF_atx, in_at, peer_at, hz, eq_false ha]))
        | (refine endT_p (.inr rfl) (by simp (maxSteps := 8000000) (implicitDefEqProofs := false) (disch := omega) only [↓reduceIte, go_sem, if_pos, if_neg, eq_true hlt, hx, ruT, selF_atx, in_at, peer_at, hz, eq_false ha]; rfl) ?_; (first | exact vb_true (by omega) | exact vb_false (by omega) | exact vb_dec (by omega) | exact vi_eq (by omega) | rfl | (refine vi_eq ?_; simp_all; done) | (refine vi_eq ?_; simp_all; omega) | (refine vi_eq ?_; simp_all; intros; omega)))
        | exact endT_v (.inr rfl) (by simp (maxSteps := 8000000) (implicitDefEqProofs := false) (disch := omega) only [↓reduceIte, go_sem, if_pos, if_neg, eq_true hlt, hx, ruT, selF_atx, in_at, peer_at, hz, eq_false ha]; try rfl) (fun _ => rfl)
    by_cases hb : x.act = 3
    · by_cases hp : 1 ≤ x.pr ∧ x.pr ≤ 9
      · have e : ruleF x = 0 := by unfold ruleF; rw [if_pos hz, if_pos ha, if_neg (by omega)]
        rw [if_pos e] at hinv
        simp (maxSteps := 8000000) (implicitDefEqProofs := false) (disch := omega) only [↓reduceIte, go_sem, if_pos, if_neg, eq_true hlt, hx, ruT, selF_atx, in_at, peer_at, hz, eq_true ha, eq_true hb, eq_true hp]
        refine loopKT_next (i + 1) ⟨by omega, hinv⟩ (by omega) ?_
        exact (le_of [] (by simp (maxSteps := 8000000) (implicitDefEqProofs := false) (disch := omega) only [↓reduceIte, go_sem, if_pos, if_neg]) (by simp (maxSteps := 8000000) (implicitDefEqProofs := false) (disch := omega) only [↓reduceIte, go_sem, if_pos, if_neg]) (by decide) (by simp))
      · have e : ruleF x = 1 := by unfold ruleF; rw [if_pos hz, if_pos ha, if_pos (.inl ⟨hb, hp⟩)]
        rw [e, if_neg (by decide)] at hinv
        rw [← hinv]
        simp (maxSteps := 8000000) (implicitDefEqProofs := false) (disch := omega) only [↓reduceIte, go_sem, if_pos, if_neg, eq_true hlt, hx, ruT, selF_atx, in_at, peer_at, hz, eq_true ha, eq_true hb, eq_false hp]
        repeat' first
          | (refine gdKT_dec (fun hg => ?_) (fun hg => ?_) <;> (try (first | simp (maxSteps := 8000000) (implicitDefEqProofs := false) (disch := omega) only [↓reduceIte, go_sem, if_pos, if_neg, eq_false hg, eq_true hlt, hx, ruT, selF_atx, in_at, peer_at, hz, eq_true ha, eq_true hb, eq_false hp] | simp (maxSteps := 8000000) (implicitDefEqProofs := false) (disch := omega) only [↓reduceIte, go_sem, if_pos, if_neg, eq_true hg, eq_true hlt, hx, ruT, selF_atx, in_at, peer_at, hz, eq_true ha, eq_true hb, eq_false hp])))
          | (refine condKT_dec (fun hg => ?_) (fun hg => ?_) <;> (try (first | simp (maxSteps := 8000000) (implicitDefEqProofs := false) (disch := omega) only [↓reduceIte, go_sem, if_pos, if_neg, eq_false hg, eq_true hlt, hx, ruT, selF_atx, in_at, peer_at, hz, eq_true ha, eq_true hb, eq_false hp] | simp (maxSteps := 8000000) (implicitDefEqProofs := false) (disch := omega) only [↓reduceIte, go_sem, if_pos, if_neg, eq_true hg, eq_true hlt, hx, ruT, selF_atx, in_at, peer_at, hz, eq_true ha, eq_true hb, eq_false hp])))
          | (refine gdKT_split (fun hg => ?_) (fun hg => ?_) <;> (try simp (maxSteps := 8000000) (implicitDefEqProofs := false) (disch := omega) only [↓reduceIte, go_sem, if_pos, if_neg, hg, eq_true hlt, hx, ruT, selF_atx, in_at, peer_at, hz, eq_true ha, eq_true hb, eq_false hp]))
          | (refine condKT_split (fun hg => ?_) (fun hg => ?_) <;> (try simp (maxSteps := 8000000) (implicitDefEqProofs := false) (disch := omega) only [↓reduceIte, go_sem, if_pos, if_neg, hg, eq_true hlt, hx, ruT, selF_atx, in_at, peer_at, hz, eq_true ha, eq_true hb, eq_false hp]))
          | (refine endT_p (.inr rfl) (by simp (maxSteps := 8000000) (implicitDefEqProofs := false) (disch := omega) only [↓reduceIte, go_sem, if_pos, if_neg, eq_true hlt, hx, ruT, selF_atx, in_at, peer_at, hz, eq_true ha, eq_true hb, eq_false hp]; rfl) ?_; (first | exact vb_true (by omega) | exact vb_false (by omega) | exact vb_dec (by omega) | exact vi_eq (by omega) | rfl | (refine vi_eq ?_; simp_all; done) | (refine vi_eq ?_; simp_all; omega) | (refine vi_eq ?_; simp_all; intros; omega)))
          | exact endT_v (.inr rfl) (by simp (maxSteps := 8000000) (implicitDefEqProofs := false) (disch := omega) only [↓reduceIte, go_sem, if_pos, if_neg, eq_true hlt, hx, ruT, selF_atx, in_at, peer_at, hz, eq_true ha, eq_true hb, eq_false hp]; try rfl) (fun _ => rfl)
    · by_cases hp : x.pr = 0
      · have e : ruleF x = 0 := by unfold ruleF; rw [if_pos hz, if_pos ha, if_neg (by omega)]
        rw [if_pos e] at hinv
        simp (maxSteps := 8000000) (implicitDefEqProofs := false) (disch := omega) only [↓reduceIte, go_sem, if_pos, if_neg, eq_true hlt, hx, ruT, selF_atx, in_at, peer_at, hz, eq_true ha, eq_false hb, eq_true hp]
        refine loopKT_next (i + 1) ⟨by omega, hinv⟩ (by omega) ?_
        exact (le_of [] (by simp (maxSteps := 8000000) (implicitDefEqProofs := false) (disch := omega) only [↓reduceIte, go_sem, if_pos, if_neg]) (by simp (maxSteps := 8000000) (implicitDefEqProofs := false) (disch := omega) only [↓reduceIte, go_sem, if_pos, if_neg]) (by decide) (by simp))
      · have e : ruleF x = 1 := by unfold ruleF; rw [if_pos hz, if_pos ha, if_pos (.inr ⟨hb, hp⟩)]
        rw [e, if_neg (by decide)] at hinv
        rw [← hinv]
        simp (maxSteps := 8000000) (implicitDefEqProofs := false) (disch := omega) only [↓reduceIte, go_sem, if_pos, if_neg, eq_true hlt, hx, ruT, selF_atx, in_at, peer_at, hz, eq_true ha, eq_false hb, eq_false hp]
        repeat' first
          | (refine gdKT_dec (fun hg => ?_) (fun hg => ?_) <;> (try (first | simp (maxSteps := 8000000) (implicitDefEqProofs := false) (disch := omega) only [↓reduceIte, go_sem, if_pos, if_neg, eq_false hg, eq_true hlt, hx, ruT, selF_atx, in_at, peer_at, hz, eq_true ha, eq_false hb, eq_false hp] | simp (maxSteps := 8000000) (implicitDefEqProofs := false) (disch := omega) only [↓reduceIte, go_sem, if_pos, if_neg, eq_true hg, eq_true hlt, hx, ruT, selF_atx, in_at, peer_at, hz, eq_true ha, eq_false hb, eq_false hp])))
          | (refine condKT_dec (fun hg => ?_) (fun hg => ?_) <;> (try (first | simp (maxSteps := 8000000) (implicitDefEqProofs := false) (disch := omega) only [↓reduceIte, go_sem, if_pos, if_neg, eq_false hg, eq_true hlt, hx, ruT, selF_atx, in_at, peer_at, hz, eq_true ha, eq_false hb, eq_false hp] | simp (maxSteps := 8000000) (implicitDefEqProofs := false) (disch := omega) only [↓reduceIte, go_sem, if_pos, if_neg, eq_true hg, eq_true hlt, hx, ruT, selF_atx, in_at, peer_at, hz, eq_true ha, eq_false hb, eq_false hp])))
          | (refine gdKT_split (fun hg => ?_) (fun hg => ?_) <;> (try simp (maxSteps := 8000000) (implicitDefEqProofs := false) (disch := omega) only [↓reduceIte, go_sem, if_pos, if_neg, hg, eq_true hlt, hx, ruT, selF_atx, in_at, peer_at, hz, eq_true ha, eq_false hb, eq_false hp]))
          | (refine condKT_split (fun hg => ?_) (fun hg => ?_) <;> (try simp (maxSteps := 8000000) (implicitDefEqProofs := false) (disch := omega) only [↓reduceIte, go_sem, if_pos, if_neg, hg, eq_true hlt, hx, ruT, selF_atx, in_at, peer_at, hz, eq_true ha, eq_false hb, eq_false hp]))
          | (refine endT_p (.inr rfl) (by simp (maxSteps := 8000000) (implicitDefEqProofs := false) (disch := omega) only [↓reduceIte, go_sem, if_pos, if_neg, eq_true hlt, hx, ruT, selF_atx, in_at, peer_at, hz, eq_true ha, eq_false hb, eq_false hp]; rfl) ?_; (first | exact vb_true (by omega) | exact vb_false (by omega) | exact vb_dec (by omega) | exact vi_eq (by omega) | rfl | (refine vi_eq ?_; simp_all; done) | (refine vi_eq ?_; simp_all; omega) | (refine vi_eq ?_; simp_all; intros; omega)))
          | exact endT_v (.inr rfl) (by simp (maxSteps := 8000000) (implicitDefEqProofs := false) (disch := omega) only [↓reduceIte, go_sem, if_pos, if_neg, eq_true hlt, hx, ruT, selF_atx, in_at, peer_at, hz, eq_true ha, eq_false hb, eq_false hp]; try rfl) (fun _ => rfl)
  · rw [show l.drop i = [] from List.drop_eq_nil_of_le (by omega), firstR] at hinv
    rw [← hinv]
    simp (maxSteps := 8000000) (implicitDefEqProofs := false) (disch := omega) only [↓reduceIte, go_sem, if_pos, if_neg, eq_false hge]
    refine joinK_here ?_
    simp (maxSteps := 8000000) (implicitDefEqProofs := false) (disch := omega) only [↓reduceIte, go_sem, if_pos, if_neg]
    repeat' first
      | (refine gdKT_dec (fun hg => ?_) (fun hg => ?_) <;> (try (first | simp (maxSteps := 8000000) (implicitDefEqProofs := false) (disch := omega) only [↓reduceIte, go_sem, if_pos, if_neg, eq_false hg] | simp (maxSteps := 8000000) (implicitDefEqProofs := false) (disch := omega) only [↓reduceIte, go_sem, if_pos, if_neg, eq_true hg])))
      | (refine condKT_dec (fun hg => ?_) (fun hg => ?_) <;> (try (first | simp (maxSteps := 8000000) (implicitDefEqProofs := false) (disch := omega) only [↓reduceIte, go_sem, if_pos, if_neg, eq_false hg] | simp (maxSteps := 8000000) (implicitDefEqProofs := false) (disch := omega) only [↓reduceIte, go_sem, if_pos, if_neg, eq_true hg])))
      | (refine gdKT_split (fun hg => ?_) (fun hg => ?_) <;> (try simp (maxSteps := 8000000) (implicitDefEqProofs := false) (disch := omega) only [↓reduceIte, go_sem, if_pos, if_neg, hg]))
      | (refine condKT_split (fun hg => ?_) (fun hg => ?_) <;> (try simp (maxSteps := 8000000) (implicitDefEqProofs := false) (disch := omega) only [↓reduceIte, go_sem, if_pos, if_neg, hg]))
      | (refine endT_p (.inr rfl) (by simp (maxSteps := 8000000) (implicitDefEqProofs := false) (disch := omega) only [↓reduceIte, go_sem, if_pos, if_neg]; rfl) ?_; (first | exact vb_true (by omega) | exact vb_false (by omega) | exact vb_dec (by omega) | exact vi_eq (by omega) | rfl | (refine vi_eq ?_; simp_all; done) | (refine vi_eq ?_; simp_all; omega) | (refine vi_eq ?_; simp_all; intros; omega)))
      | exact endT_v (.inr rfl) (by simp (maxSteps := 8000000) (implicitDefEqProofs := false) (disch := omega) only [↓reduceIte, go_sem, if_pos, if_neg]; try rfl) (fun _ => rfl)
-- impl.PolicyFault
def c147 : AF := ⟨47,
  (.seq (.reg [⟨(some 2), none, .mv (.v (.int .i64 0))⟩])
  (.seq (.seq (.reg [⟨(some 6), none, .mv (.t 0)⟩,
   ⟨(some 7), none, .len (.t 6)⟩,
   ⟨(some 8), none, .bin .gtr (.t 7) (.v (.int .i64 20))⟩])
  (.cond (.t 8) (.seq (.reg [⟨(some 2), none, .mv (.v (.int .i64 2))⟩])
  .ret)
  .skip))
  (.seq (.seq (.reg [⟨(some 9), none, .mv (.t 0)⟩,
   ⟨(some 10), none, .len (.t 9)⟩,
   ⟨(some 11), none, .mv (.v (.int .i64 0))⟩])
  (.block 0 (.loop (.seq (.reg [⟨(some 12), none, .bin .lss (.t 11) (.t 10)⟩])
  (.seq (.cond (.t 12) .skip
  (.exit 0))
  (.seq (.block 1 (.seq (.reg [⟨(some 13), none, .ia 11 (.t 9) (.t 11)⟩,
   ⟨(some 14), none, .ldn 11 (.t 13)⟩,
   ⟨(some 4), none, .alloc 186 [(.int .i64 0), (.int .i64 0), (.int .i64 0), (.int .i64 0), (.int .i64 0), (.int .i64 0), (.int .i64 0), (.int .i64 0), (.int .i64 0), (.int .i64 0), (.int .i64 0)]⟩,
   ⟨none, none, .st 11 (.t 4) (.t 14)⟩])
  (.seq (.seq (.reg [⟨(some 15), none, .fa (.t 4) 0⟩,
   ⟨(some 16), none, .ldn 9 (.t 15)⟩,
   ⟨(some 17), none, .call 204 [(.t 16)]⟩,
   ⟨(some 5), none, .mv (.t 17)⟩])
  (.seq (.reg [⟨(some 18), none, .mv (.t 5)⟩,
   ⟨(some 19), none, .bin .neq (.t 18) (.v (.int .i64 0))⟩])
  (.cond (.t 19) (.seq (.reg [⟨(some 20), none, .mv (.t 5)⟩,
   ⟨(some 2), none, .mv (.t 20)⟩])
  .ret)
  .skip)))
  (.block 2 (.seq (.reg [⟨(some 22), none, .fa (.t 4) 9⟩,
   ⟨(some 23), none, .ld (.t 22)⟩,
   ⟨(some 24), none, .call 95 [(.t 23), (.v (.int .i64 1)), (.v (.int .i64 3))]⟩,
   ⟨(some 25), none, .un .not (.t 24)⟩,
   ⟨(some 21), none, .mv (.t 25)⟩])
  (.cond (.t 21) (.seq (.reg [⟨(some 2), none, .mv (.v (.int .i64 3))⟩])
  .ret)
  (.seq (.reg [⟨(some 27), none, .fa (.t 4) 9⟩,
   ⟨(some 28), none, .ld (.t 27)⟩,
   ⟨(some 29), none, .bin .eql (.t 28) (.v (.int .i64 3))⟩,
   ⟨(some 30), none, .mv (.t 29)⟩,
   ⟨(some 31), (some (30, true)), .fa (.t 4) 10⟩,
   ⟨(some 32), (some (30, true)), .ld (.t 31)⟩,
   ⟨(some 33), (some (30, true)), .call 167 [(.t 32)]⟩,
   ⟨(some 34), (some (30, true)), .un .not (.t 33)⟩,
   ⟨(some 35), none, .pick (.t 30) (.t 34) (.v (.bool false))⟩,
   ⟨(some 36), none, .mv (.t 35)⟩,
   ⟨(some 37), (some (36, false)), .fa (.t 4) 9⟩,
   ⟨(some 38), (some (36, false)), .ld (.t 37)⟩,
   ⟨(some 39), (some (36, false)), .bin .neq (.t 38) (.v (.int .i64 3))⟩,
   ⟨(some 40), (some (36, false)), .mv (.t 39)⟩,
   ⟨(some 41), (some (40, true)), .fa (.t 4) 10⟩,
   ⟨(some 42), (some (40, true)), .ld (.t 41)⟩,
   ⟨(some 43), (some (40, true)), .bin .neq (.t 42) (.v (.int .i64 0))⟩,
   ⟨(some 44), (some (36, false)), .pick (.t 40) (.t 43) (.v (.bool false))⟩,
   ⟨(some 45), none, .pick (.t 36) (.v (.bool true)) (.t 44)⟩,
   ⟨(some 26), none, .mv (.t 45)⟩])
  (.cond (.t 26) (.seq (.reg [⟨(some 2), none, .mv (.v (.int .i64 1))⟩])
  .ret)
  .skip))))))))
  (.reg [⟨(some 46), none, .bin .add (.t 11) (.v (.int .i64 1))⟩,
   ⟨(some 11), none, .mv (.t 46)⟩])))))))
  (.seq (.reg [⟨(some 2), none, .mv (.v (.int .i64 0))⟩])
  .ret)))),
  [.t 2]⟩
theorem k147 : cFn Try.prog Try.f147 = some c147 := by kernel_rfl
theorem polI_ok : OkT Try.prog 147 (pureSp polF_S) := by
  refine okT_fn (OkΓT.cons selFI_ok (OkΓT.cons in_ok (OkΓT.cons isPeer_ok (OkΓT.nil _)))) Try.func147 (by kernel_rfl) k147 (fun x _ => ⟨by first | rfl | simp only [go_sem], by first | rfl | simp only [go_sem]⟩) ?_
  rintro l hl
  try dsimp only at *
  by_cases hr : l.length ≤ 20
  case neg =>
    rw [show polF l = 2 by simp only [polF]; rw [if_neg hr]]
    (dsimp only [c147]; simp (maxSteps := 8000000) (implicitDefEqProofs := false) (disch := omega) only [↓reduceIte, go_sem, if_pos, if_neg])
    repeat' first
      | (refine gdKT_dec (fun hg => ?_) (fun hg => ?_) <;> (try (first | simp (maxSteps := 8000000) (implicitDefEqProofs := false) (disch := omega) only [↓reduceIte, go_sem, if_pos, if_neg, eq_false hg] | simp (maxSteps := 8000000) (implicitDefEqProofs := false) (disch := omega) only [↓reduceIte, go_sem, if_pos, if_neg, eq_true hg])))
      | (refine condKT_dec (fun hg => ?_) (fun hg => ?_) <;> (try (first | simp (maxSteps := 8000000) (implicitDefEqProofs := false) (disch := omega) only [↓reduceIte, go_sem, if_pos, if_neg, eq_false hg] | simp (maxSteps := 8000000) (implicitDefEqProofs := false) (disch := omega) only [↓reduceIte, go_sem, if_pos, if_neg, eq_true hg])))
      | (refine gdKT_split (fun hg => ?_) (fun hg => ?_) <;> (try simp (maxSteps := 8000000) (implicitDefEqProofs := false) (disch := omega) only [↓reduceIte, go_sem, if_pos, if_neg, hg]))
      | (refine condKT_split (fun hg => ?_) (fun hg => ?_) <;> (try simp (maxSteps := 8000000) (implicitDefEqProofs := false) (disch := omega) only [↓reduceIte, go_sem, if_pos, if_neg, hg]))
      | (refine endT_p (.inr rfl) (by simp (maxSteps := 8000000) (implicitDefEqProofs := false) (disch := omega) only [↓reduceIte, go_sem, if_pos, if_neg]; rfl) ?_; (first | exact vb_true (by omega) | exact vb_false (by omega) | exact vb_dec (by omega) | exact vi_eq (by omega) | rfl | (refine vi_eq ?_; simp_all; done) | (refine vi_eq ?_; simp_all; omega) | (refine vi_eq ?_; simp_all; intros; omega)))
      | exact endT_v (.inr rfl) (by simp (maxSteps := 8000000) (implicitDefEqProofs := false) (disch := omega) only [↓reduceIte, go_sem, if_pos, if_neg]; try rfl) (fun _ => rfl)
  rw [show polF l = firstR l by simp only [polF]; rw [if_pos hr]]
  (dsimp only [c147]; simp (maxSteps := 8000000) (implicitDefEqProofs := false) (disch := omega) only [↓reduceIte, go_sem, if_pos, if_neg])
  refine awpT_loop (α := Nat) (fun i => ⟨slots [(9, .s (rowsT ruT l)), (10, .p (.int .i64 l.length)), (11, .p (.int .i64 i))], []⟩) (fun i => i ≤ l.length ∧ firstR (l.drop i) = firstR l) (fun i => l.length - i) 0 ⟨by omega, by simp⟩ (le_of [] (by simp (maxSteps := 8000000) (implicitDefEqProofs := false) (disch := omega) only [↓reduceIte, go_sem, if_pos, if_neg]) (by simp (maxSteps := 8000000) (implicitDefEqProofs := false) (disch := omega) only [↓reduceIte, go_sem, if_pos, if_neg]) (by decide) (by simp)) ?_
  intro i ⟨hi, hinv⟩
  simp (maxSteps := 8000000) (implicitDefEqProofs := false) (disch := omega) only [↓reduceIte, go_sem, if_pos, if_neg]
  refine condKT_dec (fun hlt => ?_) (fun hge => ?_)
  · obtain ⟨x, hx⟩ := get_ex (l := l) (i := i) (by omega)
    rw [firstR_at hx] at hinv
    by_cases hz : selF x.sel = 0
    case neg =>
      have e : ruleF x = selF x.sel := by unfold ruleF; rw [if_neg hz]
      rw [e, if_neg hz] at hinv
      rw [← hinv]
      simp (maxSteps := 8000000) (implicitDefEqProofs := false) (disch := omega) only [↓reduceIte, go_sem, if_pos, if_neg, eq_true hlt, hx, ruT, selF_atx, in_at, peer_at, eq_false hz]
      repeat' first
        | (refine gdKT_dec (fun hg => ?_) (fun hg => ?_) <;> (try (first | simp (maxSteps := 8000000) (implicitDefEqProofs := false) (disch := omega) only [↓reduceIte, go_sem, if_pos, if_neg, eq_false hg, eq_true hlt, hx, ruT, selF_atx, in_at, peer_at, eq_false hz] | simp (maxSteps := 8000000) (implicitDefEqProofs := false) (disch := omega) only [↓reduceIte, go_sem, if_pos, if_neg, eq_true hg, eq_true hlt, hx, ruT, selF_atx, in_at, peer_at, eq_false hz])))
        | (refine condKT_dec (fun hg => ?_) (fun hg => ?_) <;> (try (first | simp (maxSteps := 8000000) (implicitDefEqProofs := false) (disch := omega) only [↓reduceIte, go_sem, if_pos, if_neg, eq_false hg, eq_true hlt, hx, ruT, selF_atx, in_at, peer_at, eq_false hz] | simp (maxSteps := 8000000) (implicitDefEqProofs := false) (disch := omega) only [↓reduceIte, go_sem, if_pos, if_neg, eq_true hg, eq_true hlt, hx, ruT, selF_atx, in_at, peer_at, eq_false hz])))
        | (refine gdKT_split (fun hg => ?_) (fun hg => ?_) <;> (try simp (maxSteps := 8000000) (implicitDefEqProofs := false) (disch := omega) only [↓reduceIte, go_sem, if_pos, if_neg, hg, eq_true hlt, hx, ruT, selF_atx, in_at, peer_at, eq_false hz]))
        | (refine condKT_split (fun hg => ?_) (fun hg => ?_) <;> (try simp (maxSteps := 8000000) (implicitDefEqProofs := false) (disch := omega) only [↓reduceIte, go_sem, if_pos, if_neg, hg, eq_true hlt, hx, ruT, selF_atx, in_at, peer_at, eq_false hz]))
        | (refine endT_p (.inr rfl) (by simp (maxSteps := 8000000) (implicitDefEqProofs := false) (disch := omega) only [↓reduceIte, go_sem, if_pos, if_neg, eq_true hlt, hx, ruT, selF_atx, in_at, peer_at, eq_false hz]; rfl) ?_; (first | exact vb_true (by omega) | exact vb_false (by omega) | exact vb_dec (by omega) | exact vi_eq (by omega) | rfl | (refine vi_eq ?_; simp_all; done) | (refine vi_eq ?_; simp_all; omega) | (refine vi_eq ?_; simp_all; intros; omega)))
        | exact endT_v (.inr rfl) (by simp (maxSteps := 8000000) (implicitDefEqProofs := false) (disch := omega) only [↓reduceIte, go_sem, if_pos, if_neg, eq_true hlt, hx, ruT, selF_atx, in_at, peer_at, eq_false hz]; try rfl) (fun _ => rfl)
    by_cases ha : 1 ≤ x.act ∧ x.act ≤ 3
    case neg =>
      have e : ruleF x = 3 := by unfold ruleF; rw [if_pos hz, if_neg ha]
      rw [e, if_neg (by decide)] at hinv
      rw [← hinv]
      simp (maxSteps := 8000000) (implicitDefEqProofs := false) (disch := omega) only [↓reduceIte, go_sem, if_pos, if_neg, eq_true hlt, hx, ruT, selF_atx, in_at, peer_at, hz, eq_false ha]
      repeat' first
        | (refine gdKT_dec (fun hg => ?_) (fun hg => ?_) <;> (try (first | simp (maxSteps := 8000000) (implicitDefEqProofs := false) (disch := omega) only [↓reduceIte, go_sem, if_pos, if_neg, eq_false hg, eq_true hlt, hx, ruT, selF_atx, in_at, peer_at, hz, eq_false ha] | simp (maxSteps := 8000000) (implicitDefEqProofs := false) (disch := omega) only [↓reduceIte, go_sem, if_pos, if_neg, eq_true hg, eq_true hlt, hx, ruT, selF_atx, in_at, peer_at, hz, eq_false ha])))
        | (refine condKT_dec (fun hg => ?_) (fun hg => ?_) <;> (try (first | simp (maxSteps := 8000000) (implicitDefEqProofs := false) (disch := omega) only [↓reduceIte, go_sem, if_pos, if_neg, eq_false hg, eq_true hlt, hx, ruT, selF_atx, in_at, peer_at, hz, eq_false ha] | simp (maxSteps := 8000000) (implicitDefEqProofs := false) (disch := omega) only [↓reduceIte, go_sem, if_pos, if_neg, eq_true hg, eq_true hlt, hx, ruT, selF_atx, in_at, peer_at, hz, eq_false ha])))
        | (refine gdKT_split (fun hg => ?_) (fun hg => ?_) <;> (try simp (maxSteps := 8000000) (implicitDefEqProofs := false) (disch := omega) only [↓reduceIte, go_sem, if_pos, if_neg, hg, eq_true hlt, hx, ruT, selF_atx, in_at, peer_at, hz, eq_false ha]))
        | (refine condKT_split (fun hg => ?_) (fun hg => ?_) <;> (try simp (maxSteps := 8000000) (implicitDefEqProofs := false) (disch := omega) only [↓reduceIte, go_sem, if_pos, if_neg, hg, eq_true hlt, hx, ruT, selF_atx, in_at, peer_at, hz, eq_false ha]))
        | (refine endT_p (.inr rfl) (by simp (maxSteps := 8000000) (implicitDefEqProofs := false) (disch := omega) only [↓reduceIte, go_sem, if_pos, if_neg, eq_true hlt, hx, ruT, selF_atx, in_at, peer_at, hz, eq_false ha]; rfl) ?_; (first | exact vb_true (by omega) | exact vb_false (by omega) | exact vb_dec (by omega) | exact vi_eq (by omega) | rfl | (refine vi_eq ?_; simp_all; done) | (refine vi_eq ?_; simp_all; omega) | (refine vi_eq ?_; simp_all; intros; omega)))
        | exact endT_v (.inr rfl) (by simp (maxSteps := 8000000) (implicitDefEqProofs := false) (disch := omega) only [↓reduceIte, go_sem, if_pos, if_neg, eq_true hlt, hx, ruT, selF_atx, in_at, peer_at, hz, eq_false ha]; try rfl) (fun _ => rfl)
    by_cases hb : x.act = 3
    · by_cases hp : 1 ≤ x.pr ∧ x.pr ≤ 9
      · have e : ruleF x = 0 := by unfold ruleF; rw [if_pos hz, if_pos ha, if_neg (by omega)]
        rw [if_pos e] at hinv
        simp (maxSteps := 8000000) (implicitDefEqProofs := false) (disch := omega) only [↓reduceIte, go_sem, if_pos, if_neg, eq_true hlt, hx, ruT, selF_atx, in_at, peer_at, hz, eq_true ha, eq_true hb, eq_true hp]
        refine loopKT_next (i + 1) ⟨by omega, hinv⟩ (by omega) ?_
        exact (le_of [] (by simp (maxSteps := 8000000) (implicitDefEqProofs := false) (disch := omega) only [↓reduceIte, go_sem, if_pos, if_neg]) (by simp (maxSteps := 8000000) (implicitDefEqProofs := false) (disch := omega) only [↓reduceIte, go_sem, if_pos, if_neg]) (by decide) (by simp))
      · have e : ruleF x = 1 := by unfold ruleF; rw [if_pos hz, if_pos ha, if_pos (.inl ⟨hb, hp⟩)]
        rw [e, if_neg (by decide)] at hinv
        rw [← hinv]
        simp (maxSteps := 8000000) (implicitDefEqProofs := false) (disch := omega) only [↓reduceIte, go_sem, if_pos, if_neg, eq_true hlt, hx, ruT, selF_atx, in_at, peer_at, hz, eq_true ha, eq_true hb, eq_false hp]
        repeat' first
          | (refine gdKT_dec (fun hg => ?_) (fun hg => ?_) <;> (try (first | simp (maxSteps := 8000000) (implicitDefEqProofs := false) (disch := omega) only [↓reduceIte, go_sem, if_pos, if_neg, eq_false hg, eq_true hlt, hx, ruT, selF_atx, in_at, peer_at, hz, eq_true ha, eq_true hb, eq_false hp] | simp (maxSteps := 8000000) (implicitDefEqProofs := false) (disch := omega) only [↓reduceIte, go_sem, if_pos, if_neg, eq_true hg, eq_true hlt, hx, ruT, selF_atx, in_at, peer_at, hz, eq_true ha, eq_true hb, eq_false hp])))
          | (refine condKT_dec (fun hg => ?_) (fun hg => ?_) <;> (try (first | simp (maxSteps := 8000000) (implicitDefEqProofs := false) (disch := omega) only [↓reduceIte, go_sem, if_pos, if_neg, eq_false hg, eq_true hlt, hx, ruT, selF_atx, in_at, peer_at, hz, eq_true ha, eq_true hb, eq_false hp] | simp (maxSteps := 8000000) (implicitDefEqProofs := false) (disch := omega) only [↓reduceIte, go_sem, if_pos, if_neg, eq_true hg, eq_true hlt, hx, ruT, selF_atx, in_at, peer_at, hz, eq_true ha, eq_true hb, eq_false hp])))
          | (refine gdKT_split (fun hg => ?_) (fun hg => ?_) <;> (try simp (maxSteps := 8000000) (implicitDefEqProofs := false) (disch := omega) only [↓reduceIte, go_sem, if_pos, if_neg, hg, eq_true hlt, hx, ruT, selF_atx, in_at, peer_at, hz, eq_true ha, eq_true hb, eq_false hp]))
          | (refine condKT_split (fun hg => ?_) (fun hg => ?_) <;> (try simp (maxSteps := 8000000) (implicitDefEqProofs := false) (disch := omega) only [↓reduceIte, go_sem, if_pos, if_neg, hg, eq_true hlt, hx, ruT, selF_atx, in_at, peer_at, hz, eq_true ha, eq_true hb, eq_false hp]))
          | (refine endT_p (.inr rfl) (by simp (maxSteps := 8000000) (implicitDefEqProofs := false) (disch := omega) only [↓reduceIte, go_sem, if_pos, if_neg, eq_true hlt, hx, ruT, selF_atx, in_at, peer_at, hz, eq_true ha, eq_true hb, eq_false hp]; rfl) ?_; (first | exact vb_true (by omega) | exact vb_false (by omega) | exact vb_dec (by omega) | exact vi_eq (by omega) | rfl | (refine vi_eq ?_; simp_all; done) | (refine vi_eq ?_; simp_all; omega) | (refine vi_eq ?_; simp_all; intros; omega)))
          | exact endT_v (.inr rfl) (by simp (maxSteps := 8000000) (implicitDefEqProofs := false) (disch := omega) only [↓reduceIte, go_sem, if_pos, if_neg, eq_true hlt, hx, ruT, selF_atx, in_at, peer_at, hz, eq_true ha, eq_true hb, eq_false hp]; try rfl) (fun _ => rfl)
    · by_cases hp : x.pr = 0
      · have e : ruleF x = 0 := by unfold ruleF; rw [if_pos hz, if_pos ha, if_neg (by omega)]
        rw [if_pos e] at hinv
        simp (maxSteps := 8000000) (implicitDefEqProofs := false) (disch := omega) only [↓reduceIte, go_sem, if_pos, if_neg, eq_true hlt, hx, ruT, selF_atx, in_at, peer_at, hz, eq_true ha, eq_false hb, eq_true hp]
        refine loopKT_next (i + 1) ⟨by omega, hinv⟩ (by omega) ?_
        exact (le_of [] (by simp (maxSteps := 8000000) (implicitDefEqProofs := false) (disch := omega) only [↓reduceIte, go_sem, if_pos, if_neg]) (by simp (maxSteps := 8000000) (implicitDefEqProofs := false) (disch := omega) only [↓reduceIte, go_sem, if_pos, if_neg]) (by decide) (by simp))
      · have e : ruleF x = 1 := by unfold ruleF; rw [if_pos hz, if_pos ha, if_pos (.inr ⟨hb, hp⟩)]
        rw [e, if_neg (by decide)] at hinv
        rw [← hinv]
        simp (maxSteps := 8000000) (implicitDefEqProofs := false) (disch := omega) only [↓reduceIte, go_sem, if_pos, if_neg, eq_true hlt, hx, ruT, selF_atx, in_at, peer_at, hz, eq_true ha, eq_false hb, eq_false hp]
        repeat' first
          | (refine gdKT_dec (fun hg => ?_) (fun hg => ?_) <;> (try (first | simp (maxSteps := 8000000) (implicitDefEqProofs := false) (disch := omega) only [↓reduceIte, go_sem, if_pos, if_neg, eq_false hg, eq_true hlt, hx, ruT, selF_atx, in_at, peer_at, hz, eq_true ha, eq_false hb, eq_false hp] | simp (maxSteps := 8000000) (implicitDefEqProofs := false) (disch := omega) only [↓reduceIte, go_sem, if_pos, if_neg, eq_true hg, eq_true hlt, hx, ruT, selF_atx, in_at, peer_at, hz, eq_true ha, eq_false hb, eq_false hp])))
          | (refine condKT_dec (fun hg => ?_) (fun hg => ?_) <;> (try (first | simp (maxSteps := 8000000) (implicitDefEqProofs := false) (disch := omega) only [↓reduceIte, go_sem, if_pos, if_neg, eq_false hg, eq_true hlt, hx, ruT, selF_atx, in_at, peer_at, hz, eq_true ha, eq_false hb, eq_false hp] | simp (maxSteps := 8000000) (implicitDefEqProofs := false) (disch := omega) only [↓reduceIte, go_sem, if_pos, if_neg, eq_true hg, eq_true hlt, hx, ruT, selF_atx, in_at, peer_at, hz, eq_true ha, eq_false hb, eq_false hp])))
          | (refine gdKT_split (fun hg => ?_) (fun hg => ?_) <;> (try simp (maxSteps := 8000000) (implicitDefEqProofs := false) (disch := omega) only [↓reduceIte, go_sem, if_pos, if_neg, hg, eq_true hlt, hx, ruT, selF_atx, in_at, peer_at, hz, eq_true ha, eq_false hb, eq_false hp]))
          | (refine condKT_split (fun hg => ?_) (fun hg => ?_) <;> (try simp (maxSteps := 8000000) (implicitDefEqProofs := false) (disch := omega) only [↓reduceIte, go_sem, if_pos, if_neg, hg, eq_true hlt, hx, ruT, selF_atx, in_at, peer_at, hz, eq_true ha, eq_false hb, eq_false hp]))
          | (refine endT_p (.inr rfl) (by simp (maxSteps := 8000000) (implicitDefEqProofs := false) (disch := omega) only [↓reduceIte, go_sem, if_pos, if_neg, eq_true hlt, hx, ruT, selF_atx, in_at, peer_at, hz, eq_true ha, eq_false hb, eq_false hp]; rfl) ?_; (first | exact vb_true (by omega) | exact vb_false (by omega) | exact vb_dec (by omega) | exact vi_eq (by omega) | rfl | (refine vi_eq ?_; simp_all; done) | (refine vi_eq ?_; simp_all; omega) | (refine vi_eq ?_; simp_all; intros; omega)))
          | exact endT_v (.inr rfl) (by simp (maxSteps := 8000000) (implicitDefEqProofs := false) (disch := omega) only [↓reduceIte, go_sem, if_pos, if_neg, eq_true hlt, hx, ruT, selF_atx, in_at, peer_at, hz, eq_true ha, eq_false hb, eq_false hp]; try rfl) (fun _ => rfl)
  · rw [show l.drop i = [] from List.drop_eq_nil_of_le (by omega), firstR] at hinv
    rw [← hinv]
    simp (maxSteps := 8000000) (implicitDefEqProofs := false) (disch := omega) only [↓reduceIte, go_sem, if_pos, if_neg, eq_false hge]
    refine joinK_here ?_
    simp (maxSteps := 8000000) (implicitDefEqProofs := false) (disch := omega) only [↓reduceIte, go_sem, if_pos, if_neg]
    repeat' first
      | (refine gdKT_dec (fun hg => ?_) (fun hg => ?_) <;> (try (first | simp (maxSteps := 8000000) (implicitDefEqProofs := false) (disch := omega) only [↓reduceIte, go_sem, if_pos, if_neg, eq_false hg] | simp (maxSteps := 8000000) (implicitDefEqProofs := false) (disch := omega) only [↓reduceIte, go_sem, if_pos, if_neg, eq_true hg])))
      | (refine condKT_dec (fun hg => ?_) (fun hg => ?_) <;> (try (first | simp (maxSteps := 8000000) (implicitDefEqProofs := false) (disch := omega) only [↓reduceIte, go_sem, if_pos, if_neg, eq_false hg] | simp (maxSteps := 8000000) (implicitDefEqProofs := false) (disch := omega) only [↓reduceIte, go_sem, if_pos, if_neg, eq_true hg])))
      | (refine gdKT_split (fun hg => ?_) (fun hg => ?_) <;> (try simp (maxSteps := 8000000) (implicitDefEqProofs := false) (disch := omega) only [↓reduceIte, go_sem, if_pos, if_neg, hg]))
      | (refine condKT_split (fun hg => ?_) (fun hg => ?_) <;> (try simp (maxSteps := 8000000) (implicitDefEqProofs := false) (disch := omega) only [↓reduceIte, go_sem, if_pos, if_neg, hg]))
      | (refine endT_p (.inr rfl) (by simp (maxSteps := 8000000) (implicitDefEqProofs := false) (disch := omega) only [↓reduceIte, go_sem, if_pos, if_neg]; rfl) ?_; (first | exact vb_true (by omega) | exact vb_false (by omega) | exact vb_dec (by omega) | exact vi_eq (by omega) | rfl | (refine vi_eq ?_; simp_all; done) | (refine vi_eq ?_; simp_all; omega) | (refine vi_eq ?_; simp_all; intros; omega)))
      | exact endT_v (.inr rfl) (by simp (maxSteps := 8000000) (implicitDefEqProofs := false) (disch := omega) only [↓reduceIte, go_sem, if_pos, if_neg]; try rfl) (fun _ => rfl)
noncomputable def peeF_S := specP (fun x : List PrR => [.s (rowsT prT x)]) (fun x => x.length ≤ 140737488355328) (fun x => (.p (.int .i64 (peeF x)), []))
theorem peeF_at (l : List PrR) (h : l.length ≤ 140737488355328) : peeF_S [.s (rowsT prT l)] = some ((.p (.int .i64 (peeF l)), [])) := specP_at (enc := fun x : List PrR => [.s (rowsT prT x)]) (by rintro a0 b0 h; simp only [List.cons.injEq, and_true] at h; have h0 := h; obtain rfl := prs_inj h0; rfl) l h
-- spec.l17Peers
def c203 : AF := ⟨45,
  (.seq (.reg [⟨(some 2), none, .mv (.v (.int .i64 0))⟩])
  (.seq (.seq (.reg [⟨(some 4), none, .mv (.t 0)⟩,
   ⟨(some 5), none, .len (.t 4)⟩,
   ⟨(some 6), none, .bin .gtr (.t 5) (.v (.int .i64 9))⟩])
  (.cond (.t 6) (.seq (.reg [⟨(some 2), none, .mv (.v (.int .i64 2))⟩])
  .ret)
  .skip))
  (.seq (.seq (.reg [⟨(some 3), none, .mv (.v (.int .i64 0))⟩])
  (.block 0 (.loop (.seq (.seq (.reg [⟨(some 7), none, .mv (.t 3)⟩,
   ⟨(some 8), none, .mv (.t 0)⟩,
   ⟨(some 9), none, .len (.t 8)⟩,
   ⟨(some 10), none, .bin .lss (.t 7) (.t 9)⟩])
  (.cond (.t 10) .skip
  (.exit 0)))
  (.seq (.block 1 (.seq (.seq (.reg [⟨(some 13), none, .mv (.t 0)⟩,
   ⟨(some 14), none, .mv (.t 3)⟩,
   ⟨(some 15), none, .ia 2 (.t 13) (.t 14)⟩,
   ⟨(some 16), none, .fa (.t 15) 0⟩,
   ⟨(some 17), none, .ld (.t 16)⟩,
   ⟨(some 18), none, .call 97 [(.t 17), (.v (.int .i64 1)), (.v (.int .i64 9))]⟩,
   ⟨(some 19), none, .un .not (.t 18)⟩,
   ⟨(some 20), none, .mv (.t 19)⟩,
   ⟨(some 21), (some (20, false)), .mv (.t 0)⟩,
   ⟨(some 22), (some (20, false)), .mv (.t 3)⟩,
   ⟨(some 23), (some (20, false)), .ia 2 (.t 21) (.t 22)⟩,
   ⟨(some 24), (some (20, false)), .fa (.t 23) 1⟩,
   ⟨(some 25), (some (20, false)), .ld (.t 24)⟩,
   ⟨(some 26), (some (20, false)), .call 201 [(.t 25)]⟩,
   ⟨(some 27), (some (20, false)), .un .not (.t 26)⟩,
   ⟨(some 28), none, .pick (.t 20) (.v (.bool true)) (.t 27)⟩])
  (.cond (.t 28) (.seq (.reg [⟨(some 2), none, .mv (.v (.int .i64 3))⟩])
  .ret)
  .skip))
  (.seq (.drw [⟨(some 29), none, .mv (.t 3)⟩,
   ⟨(some 30), none, .bin .gtr (.t 29) (.v (.int .i64 0))⟩,
   ⟨(some 31), none, .mv (.t 30)⟩,
   ⟨(some 32), (some (31, true)), .mv (.t 0)⟩,
   ⟨(some 33), (some (31, true)), .mv (.t 3)⟩,
   ⟨(some 34), (some (31, true)), .ia 2 (.t 32) (.t 33)⟩,
   ⟨(some 35), (some (31, true)), .fa (.t 34) 0⟩,
   ⟨(some 36), (some (31, true)), .ld (.t 35)⟩,
   ⟨(some 37), (some (31, true)), .mv (.t 0)⟩,
   ⟨(some 38), (some (31, true)), .mv (.t 3)⟩,
   ⟨(some 39), (some (31, true)), .bin .sub (.t 38) (.v (.int .i64 1))⟩,
   ⟨(some 40), (some (31, true)), .ia 2 (.t 37) (.t 39)⟩,
   ⟨(some 41), (some (31, true)), .fa (.t 40) 0⟩,
   ⟨(some 42), (some (31, true)), .ld (.t 41)⟩] [⟨(some 43), (some (31, true)), .bin .leq (.t 36) (.t 42)⟩,
   ⟨(some 44), none, .pick (.t 31) (.t 43) (.v (.bool false))⟩])
  (.cond (.t 44) (.seq (.reg [⟨(some 2), none, .mv (.v (.int .i64 1))⟩])
  .ret)
  .skip))))
  (.reg [⟨(some 11), none, .mv (.t 3)⟩,
   ⟨(some 12), none, .bin .add (.t 11) (.v (.int .i64 1))⟩,
   ⟨(some 3), none, .mv (.t 12)⟩]))))))
  (.seq (.reg [⟨(some 2), none, .mv (.v (.int .i64 0))⟩])
  .ret)))),
  [.t 2]⟩
theorem k203 : cFn Try.prog Try.f203 = some c203 := by kernel_rfl
theorem peeS_ok : OkT Try.prog 203 (pureSp peeF_S) := by
  refine okT_fn (OkΓT.cons l1In_ok (OkΓT.cons l2Address_ok (OkΓT.nil _))) Try.func203 (by kernel_rfl) k203 (fun x _ => ⟨by first | rfl | simp only [go_sem], by first | rfl | simp only [go_sem]⟩) ?_
  rintro l hl
  try dsimp only at *
  by_cases hr : l.length ≤ 9
  case neg =>
    rw [show peeF l = 2 by simp only [peeF]; rw [if_neg hr]]
    (dsimp only [c203]; simp (maxSteps := 8000000) (implicitDefEqProofs := false) (disch := omega) only [↓reduceIte, go_sem, if_pos, if_neg])
    repeat' first
      | (refine gdKT_dec (fun hg => ?_) (fun hg => ?_) <;> (try (first | simp (maxSteps := 8000000) (implicitDefEqProofs := false) (disch := omega) only [↓reduceIte, go_sem, if_pos, if_neg, eq_false hg] | simp (maxSteps := 8000000) (implicitDefEqProofs := false) (disch := omega) only [↓reduceIte, go_sem, if_pos, if_neg, eq_true hg])))
      | (refine condKT_dec (fun hg => ?_) (fun hg => ?_) <;> (try (first | simp (maxSteps := 8000000) (implicitDefEqProofs := false) (disch := omega) only [↓reduceIte, go_sem, if_pos, if_neg, eq_false hg] | simp (maxSteps := 8000000) (implicitDefEqProofs := false) (disch := omega) only [↓reduceIte, go_sem, if_pos, if_neg, eq_true hg])))
      | (refine gdKT_split (fun hg => ?_) (fun hg => ?_) <;> (try simp (maxSteps := 8000000) (implicitDefEqProofs := false) (disch := omega) only [↓reduceIte, go_sem, if_pos, if_neg, hg]))
      | (refine condKT_split (fun hg => ?_) (fun hg => ?_) <;> (try simp (maxSteps := 8000000) (implicitDefEqProofs := false) (disch := omega) only [↓reduceIte, go_sem, if_pos, if_neg, hg]))
      | (refine endT_p (.inr rfl) (by simp (maxSteps := 8000000) (implicitDefEqProofs := false) (disch := omega) only [↓reduceIte, go_sem, if_pos, if_neg]; rfl) ?_; (first | exact vb_true (by omega) | exact vb_false (by omega) | exact vb_dec (by omega) | exact vi_eq (by omega) | rfl | (refine vi_eq ?_; simp_all; done) | (refine vi_eq ?_; simp_all; omega) | (refine vi_eq ?_; simp_all; intros; omega)))
      | exact endT_v (.inr rfl) (by simp (maxSteps := 8000000) (implicitDefEqProofs := false) (disch := omega) only [↓reduceIte, go_sem, if_pos, if_neg]; try rfl) (fun _ => rfl)
  rw [show peeF l = firstP none l by simp only [peeF]; rw [if_pos hr]]
  (dsimp only [c203]; simp (maxSteps := 8000000) (implicitDefEqProofs := false) (disch := omega) only [↓reduceIte, go_sem, if_pos, if_neg])
  refine awpT_loop (α := Nat) (fun i => ⟨slots [(0, .s (rowsT prT l)), (3, .p (.int .i64 i))], []⟩) (fun i => i ≤ l.length ∧ firstP (prevP l i) (l.drop i) = firstP none l) (fun i => l.length - i) 0 ⟨by omega, by simp [prevP]⟩ (le_of [] (by simp (maxSteps := 8000000) (implicitDefEqProofs := false) (disch := omega) only [↓reduceIte, go_sem, if_pos, if_neg]) (by simp (maxSteps := 8000000) (implicitDefEqProofs := false) (disch := omega) only [↓reduceIte, go_sem, if_pos, if_neg]) (by decide) (by simp)) ?_
  intro i ⟨hi, hinv⟩
  simp (maxSteps := 8000000) (implicitDefEqProofs := false) (disch := omega) only [↓reduceIte, go_sem, if_pos, if_neg]
  refine condKT_dec (fun hlt => ?_) (fun hge => ?_)
  · obtain ⟨x, hx⟩ := get_ex (l := l) (i := i) (by omega)
    rw [firstP_at hx, ← prevP_succ hx] at hinv
    by_cases hz : 1 ≤ x.id ∧ x.id ≤ 9
    case neg =>
      rw [if_neg (fun h => hz h.1)] at hinv
      rw [← hinv]
      simp (maxSteps := 8000000) (implicitDefEqProofs := false) (disch := omega) only [↓reduceIte, go_sem, if_pos, if_neg, eq_true hlt, hx, prT, in_at, peer_at, adr_at, eq_false hz]
      repeat' first
        | (refine gdKT_dec (fun hg => ?_) (fun hg => ?_) <;> (try (first | simp (maxSteps := 8000000) (implicitDefEqProofs := false) (disch := omega) only [↓reduceIte, go_sem, if_pos, if_neg, eq_false hg, eq_true hlt, hx, prT, in_at, peer_at, adr_at, eq_false hz] | simp (maxSteps := 8000000) (implicitDefEqProofs := false) (disch := omega) only [↓reduceIte, go_sem, if_pos, if_neg, eq_true hg, eq_true hlt, hx, prT, in_at, peer_at, adr_at, eq_false hz])))
        | (refine condKT_dec (fun hg => ?_) (fun hg => ?_) <;> (try (first | simp (maxSteps := 8000000) (implicitDefEqProofs := false) (disch := omega) only [↓reduceIte, go_sem, if_pos, if_neg, eq_false hg, eq_true hlt, hx, prT, in_at, peer_at, adr_at, eq_false hz] | simp (maxSteps := 8000000) (implicitDefEqProofs := false) (disch := omega) only [↓reduceIte, go_sem, if_pos, if_neg, eq_true hg, eq_true hlt, hx, prT, in_at, peer_at, adr_at, eq_false hz])))
        | (refine gdKT_split (fun hg => ?_) (fun hg => ?_) <;> (try simp (maxSteps := 8000000) (implicitDefEqProofs := false) (disch := omega) only [↓reduceIte, go_sem, if_pos, if_neg, hg, eq_true hlt, hx, prT, in_at, peer_at, adr_at, eq_false hz]))
        | (refine condKT_split (fun hg => ?_) (fun hg => ?_) <;> (try simp (maxSteps := 8000000) (implicitDefEqProofs := false) (disch := omega) only [↓reduceIte, go_sem, if_pos, if_neg, hg, eq_true hlt, hx, prT, in_at, peer_at, adr_at, eq_false hz]))
        | (refine endT_p (.inr rfl) (by simp (maxSteps := 8000000) (implicitDefEqProofs := false) (disch := omega) only [↓reduceIte, go_sem, if_pos, if_neg, eq_true hlt, hx, prT, in_at, peer_at, adr_at, eq_false hz]; rfl) ?_; (first | exact vb_true (by omega) | exact vb_false (by omega) | exact vb_dec (by omega) | exact vi_eq (by omega) | rfl | (refine vi_eq ?_; simp_all; done) | (refine vi_eq ?_; simp_all; omega) | (refine vi_eq ?_; simp_all; intros; omega)))
        | exact endT_v (.inr rfl) (by simp (maxSteps := 8000000) (implicitDefEqProofs := false) (disch := omega) only [↓reduceIte, go_sem, if_pos, if_neg, eq_true hlt, hx, prT, in_at, peer_at, adr_at, eq_false hz]; try rfl) (fun _ => rfl)
    by_cases ha : 0 ≤ x.ad ∧ x.ad ≤ 4294967295
    case neg =>
      rw [if_neg (fun h => ha h.2)] at hinv
      rw [← hinv]
      simp (maxSteps := 8000000) (implicitDefEqProofs := false) (disch := omega) only [↓reduceIte, go_sem, if_pos, if_neg, eq_true hlt, hx, prT, in_at, peer_at, adr_at, eq_true hz, eq_false ha]
      repeat' first
        | (refine gdKT_dec (fun hg => ?_) (fun hg => ?_) <;> (try (first | simp (maxSteps := 8000000) (implicitDefEqProofs := false) (disch := omega) only [↓reduceIte, go_sem, if_pos, if_neg, eq_false hg, eq_true hlt, hx, prT, in_at, peer_at, adr_at, eq_true hz, eq_false ha] | simp (maxSteps := 8000000) (implicitDefEqProofs := false) (disch := omega) only [↓reduceIte, go_sem, if_pos, if_neg, eq_true hg, eq_true hlt, hx, prT, in_at, peer_at, adr_at, eq_true hz, eq_false ha])))
        | (refine condKT_dec (fun hg => ?_) (fun hg => ?_) <;> (try (first | simp (maxSteps := 8000000) (implicitDefEqProofs := false) (disch := omega) only [↓reduceIte, go_sem, if_pos, if_neg, eq_false hg, eq_true hlt, hx, prT, in_at, peer_at, adr_at, eq_true hz, eq_false ha] | simp (maxSteps := 8000000) (implicitDefEqProofs := false) (disch := omega) only [↓reduceIte, go_sem, if_pos, if_neg, eq_true hg, eq_true hlt, hx, prT, in_at, peer_at, adr_at, eq_true hz, eq_false ha])))
        | (refine gdKT_split (fun hg => ?_) (fun hg => ?_) <;> (try simp (maxSteps := 8000000) (implicitDefEqProofs := false) (disch := omega) only [↓reduceIte, go_sem, if_pos, if_neg, hg, eq_true hlt, hx, prT, in_at, peer_at, adr_at, eq_true hz, eq_false ha]))
        | (refine condKT_split (fun hg => ?_) (fun hg => ?_) <;> (try simp (maxSteps := 8000000) (implicitDefEqProofs := false) (disch := omega) only [↓reduceIte, go_sem, if_pos, if_neg, hg, eq_true hlt, hx, prT, in_at, peer_at, adr_at, eq_true hz, eq_false ha]))
        | (refine endT_p (.inr rfl) (by simp (maxSteps := 8000000) (implicitDefEqProofs := false) (disch := omega) only [↓reduceIte, go_sem, if_pos, if_neg, eq_true hlt, hx, prT, in_at, peer_at, adr_at, eq_true hz, eq_false ha]; rfl) ?_; (first | exact vb_true (by omega) | exact vb_false (by omega) | exact vb_dec (by omega) | exact vi_eq (by omega) | rfl | (refine vi_eq ?_; simp_all; done) | (refine vi_eq ?_; simp_all; omega) | (refine vi_eq ?_; simp_all; intros; omega)))
        | exact endT_v (.inr rfl) (by simp (maxSteps := 8000000) (implicitDefEqProofs := false) (disch := omega) only [↓reduceIte, go_sem, if_pos, if_neg, eq_true hlt, hx, prT, in_at, peer_at, adr_at, eq_true hz, eq_false ha]; try rfl) (fun _ => rfl)
    rw [if_pos ⟨hz, ha⟩] at hinv
    by_cases h0 : i = 0
    · rw [show prevP l i = none by simp [prevP, h0], if_neg (by simp [badO])] at hinv
      simp (maxSteps := 8000000) (implicitDefEqProofs := false) (disch := omega) only [↓reduceIte, go_sem, if_pos, if_neg, eq_true hlt, hx, prT, in_at, peer_at, adr_at, eq_true hz, eq_true ha]
      refine loopKT_next (i + 1) ⟨by omega, hinv⟩ (by omega) ?_
      exact (le_of [] (by simp (maxSteps := 8000000) (implicitDefEqProofs := false) (disch := omega) only [↓reduceIte, go_sem, if_pos, if_neg]) (by simp (maxSteps := 8000000) (implicitDefEqProofs := false) (disch := omega) only [↓reduceIte, go_sem, if_pos, if_neg]) (by decide) (by simp))
    · obtain ⟨y, hy⟩ := get_ex (l := l) (i := i - 1) (by omega)
      rw [show prevP l i = some y.id by simp [prevP, h0, hy]] at hinv
      have hpi : ((i : Int) - 1).toNat = i - 1 := by omega
      by_cases hb : x.id ≤ y.id
      · rw [if_pos (show badO (some y.id) x.id from hb)] at hinv
        rw [← hinv]
        simp (maxSteps := 8000000) (implicitDefEqProofs := false) (disch := omega) only [↓reduceIte, go_sem, if_pos, if_neg, eq_true hlt, hx, prT, in_at, peer_at, adr_at, hy, hpi, eq_true hz, eq_true ha, eq_true hb, eq_true (show y.id ≥ x.id from hb)]
        repeat' first
          | (refine gdKT_dec (fun hg => ?_) (fun hg => ?_) <;> (try (first | simp (maxSteps := 8000000) (implicitDefEqProofs := false) (disch := omega) only [↓reduceIte, go_sem, if_pos, if_neg, eq_false hg, eq_true hlt, hx, prT, in_at, peer_at, adr_at, hy, hpi, eq_true hz, eq_true ha, eq_true hb, eq_true (show y.id ≥ x.id from hb)] | simp (maxSteps := 8000000) (implicitDefEqProofs := false) (disch := omega) only [↓reduceIte, go_sem, if_pos, if_neg, eq_true hg, eq_true hlt, hx, prT, in_at, peer_at, adr_at, hy, hpi, eq_true hz, eq_true ha, eq_true hb, eq_true (show y.id ≥ x.id from hb)])))
          | (refine condKT_dec (fun hg => ?_) (fun hg => ?_) <;> (try (first | simp (maxSteps := 8000000) (implicitDefEqProofs := false) (disch := omega) only [↓reduceIte, go_sem, if_pos, if_neg, eq_false hg, eq_true hlt, hx, prT, in_at, peer_at, adr_at, hy, hpi, eq_true hz, eq_true ha, eq_true hb, eq_true (show y.id ≥ x.id from hb)] | simp (maxSteps := 8000000) (implicitDefEqProofs := false) (disch := omega) only [↓reduceIte, go_sem, if_pos, if_neg, eq_true hg, eq_true hlt, hx, prT, in_at, peer_at, adr_at, hy, hpi, eq_true hz, eq_true ha, eq_true hb, eq_true (show y.id ≥ x.id from hb)])))
          | (refine gdKT_split (fun hg => ?_) (fun hg => ?_) <;> (try simp (maxSteps := 8000000) (implicitDefEqProofs := false) (disch := omega) only [↓reduceIte, go_sem, if_pos, if_neg, hg, eq_true hlt, hx, prT, in_at, peer_at, adr_at, hy, hpi, eq_true hz, eq_true ha, eq_true hb, eq_true (show y.id ≥ x.id from hb)]))
          | (refine condKT_split (fun hg => ?_) (fun hg => ?_) <;> (try simp (maxSteps := 8000000) (implicitDefEqProofs := false) (disch := omega) only [↓reduceIte, go_sem, if_pos, if_neg, hg, eq_true hlt, hx, prT, in_at, peer_at, adr_at, hy, hpi, eq_true hz, eq_true ha, eq_true hb, eq_true (show y.id ≥ x.id from hb)]))
          | (refine endT_p (.inr rfl) (by simp (maxSteps := 8000000) (implicitDefEqProofs := false) (disch := omega) only [↓reduceIte, go_sem, if_pos, if_neg, eq_true hlt, hx, prT, in_at, peer_at, adr_at, hy, hpi, eq_true hz, eq_true ha, eq_true hb, eq_true (show y.id ≥ x.id from hb)]; rfl) ?_; (first | exact vb_true (by omega) | exact vb_false (by omega) | exact vb_dec (by omega) | exact vi_eq (by omega) | rfl | (refine vi_eq ?_; simp_all; done) | (refine vi_eq ?_; simp_all; omega) | (refine vi_eq ?_; simp_all; intros; omega)))
          | exact endT_v (.inr rfl) (by simp (maxSteps := 8000000) (implicitDefEqProofs := false) (disch := omega) only [↓reduceIte, go_sem, if_pos, if_neg, eq_true hlt, hx, prT, in_at, peer_at, adr_at, hy, hpi, eq_true hz, eq_true ha, eq_true hb, eq_true (show y.id ≥ x.id from hb)]; try rfl) (fun _ => rfl)
      · rw [if_neg (show ¬ badO (some y.id) x.id from hb)] at hinv
        simp (maxSteps := 8000000) (implicitDefEqProofs := false) (disch := omega) only [↓reduceIte, go_sem, if_pos, if_neg, eq_true hlt, hx, prT, in_at, peer_at, adr_at, hy, hpi, eq_true hz, eq_true ha, eq_false hb, eq_false (show ¬ y.id ≥ x.id from hb)]
        refine loopKT_next (i + 1) ⟨by omega, hinv⟩ (by omega) ?_
        exact (le_of [] (by simp (maxSteps := 8000000) (implicitDefEqProofs := false) (disch := omega) only [↓reduceIte, go_sem, if_pos, if_neg]) (by simp (maxSteps := 8000000) (implicitDefEqProofs := false) (disch := omega) only [↓reduceIte, go_sem, if_pos, if_neg]) (by decide) (by simp))
  · rw [show l.drop i = [] from List.drop_eq_nil_of_le (by omega), firstP] at hinv
    rw [← hinv]
    simp (maxSteps := 8000000) (implicitDefEqProofs := false) (disch := omega) only [↓reduceIte, go_sem, if_pos, if_neg, eq_false hge]
    refine joinK_here ?_
    simp (maxSteps := 8000000) (implicitDefEqProofs := false) (disch := omega) only [↓reduceIte, go_sem, if_pos, if_neg]
    repeat' first
      | (refine gdKT_dec (fun hg => ?_) (fun hg => ?_) <;> (try (first | simp (maxSteps := 8000000) (implicitDefEqProofs := false) (disch := omega) only [↓reduceIte, go_sem, if_pos, if_neg, eq_false hg] | simp (maxSteps := 8000000) (implicitDefEqProofs := false) (disch := omega) only [↓reduceIte, go_sem, if_pos, if_neg, eq_true hg])))
      | (refine condKT_dec (fun hg => ?_) (fun hg => ?_) <;> (try (first | simp (maxSteps := 8000000) (implicitDefEqProofs := false) (disch := omega) only [↓reduceIte, go_sem, if_pos, if_neg, eq_false hg] | simp (maxSteps := 8000000) (implicitDefEqProofs := false) (disch := omega) only [↓reduceIte, go_sem, if_pos, if_neg, eq_true hg])))
      | (refine gdKT_split (fun hg => ?_) (fun hg => ?_) <;> (try simp (maxSteps := 8000000) (implicitDefEqProofs := false) (disch := omega) only [↓reduceIte, go_sem, if_pos, if_neg, hg]))
      | (refine condKT_split (fun hg => ?_) (fun hg => ?_) <;> (try simp (maxSteps := 8000000) (implicitDefEqProofs := false) (disch := omega) only [↓reduceIte, go_sem, if_pos, if_neg, hg]))
      | (refine endT_p (.inr rfl) (by simp (maxSteps := 8000000) (implicitDefEqProofs := false) (disch := omega) only [↓reduceIte, go_sem, if_pos, if_neg]; rfl) ?_; (first | exact vb_true (by omega) | exact vb_false (by omega) | exact vb_dec (by omega) | exact vi_eq (by omega) | rfl | (refine vi_eq ?_; simp_all; done) | (refine vi_eq ?_; simp_all; omega) | (refine vi_eq ?_; simp_all; intros; omega)))
      | exact endT_v (.inr rfl) (by simp (maxSteps := 8000000) (implicitDefEqProofs := false) (disch := omega) only [↓reduceIte, go_sem, if_pos, if_neg]; try rfl) (fun _ => rfl)
-- impl.peersFault
def c148 : AF := ⟨41,
  (.seq (.reg [⟨(some 2), none, .mv (.v (.int .i64 0))⟩])
  (.seq (.seq (.reg [⟨(some 5), none, .mv (.t 0)⟩,
   ⟨(some 6), none, .len (.t 5)⟩,
   ⟨(some 7), none, .bin .gtr (.t 6) (.v (.int .i64 9))⟩])
  (.cond (.t 7) (.seq (.reg [⟨(some 2), none, .mv (.v (.int .i64 2))⟩])
  .ret)
  .skip))
  (.seq (.seq (.reg [⟨(some 8), none, .mv (.t 0)⟩,
   ⟨(some 9), none, .len (.t 8)⟩,
   ⟨(some 10), none, .mv (.v (.int .i64 0))⟩])
  (.block 0 (.loop (.seq (.reg [⟨(some 11), none, .bin .lss (.t 10) (.t 9)⟩])
  (.seq (.cond (.t 11) .skip
  (.exit 0))
  (.seq (.block 1 (.seq (.reg [⟨(some 12), none, .mv (.t 10)⟩,
   ⟨(some 13), none, .ia 2 (.t 8) (.t 10)⟩,
   ⟨(some 14), none, .ldn 2 (.t 13)⟩,
   ⟨(some 4), none, .alloc 194 [(.int .i64 0), (.int .i64 0)]⟩,
   ⟨(some 3), none, .mv (.t 12)⟩,
   ⟨none, none, .st 2 (.t 4) (.t 14)⟩])
  (.block 2 (.seq (.reg [⟨(some 16), none, .fa (.t 4) 0⟩,
   ⟨(some 17), none, .ld (.t 16)⟩,
   ⟨(some 18), none, .call 167 [(.t 17)]⟩,
   ⟨(some 19), none, .un .not (.t 18)⟩,
   ⟨(some 20), none, .mv (.t 19)⟩,
   ⟨(some 21), (some (20, false)), .fa (.t 4) 1⟩,
   ⟨(some 22), (some (20, false)), .ld (.t 21)⟩,
   ⟨(some 23), (some (20, false)), .call 145 [(.t 22)]⟩,
   ⟨(some 24), (some (20, false)), .un .not (.t 23)⟩,
   ⟨(some 25), none, .pick (.t 20) (.v (.bool true)) (.t 24)⟩,
   ⟨(some 15), none, .mv (.t 25)⟩])
  (.cond (.t 15) (.seq (.reg [⟨(some 2), none, .mv (.v (.int .i64 3))⟩])
  .ret)
  (.seq (.drw [⟨(some 27), none, .mv (.t 3)⟩,
   ⟨(some 28), none, .bin .gtr (.t 27) (.v (.int .i64 0))⟩,
   ⟨(some 29), none, .mv (.t 28)⟩,
   ⟨(some 30), (some (29, true)), .mv (.t 0)⟩,
   ⟨(some 31), (some (29, true)), .mv (.t 3)⟩,
   ⟨(some 32), (some (29, true)), .bin .sub (.t 31) (.v (.int .i64 1))⟩,
   ⟨(some 33), (some (29, true)), .ia 2 (.t 30) (.t 32)⟩,
   ⟨(some 34), (some (29, true)), .fa (.t 33) 0⟩,
   ⟨(some 35), (some (29, true)), .ld (.t 34)⟩,
   ⟨(some 36), (some (29, true)), .fa (.t 4) 0⟩,
   ⟨(some 37), (some (29, true)), .ld (.t 36)⟩] [⟨(some 38), (some (29, true)), .bin .geq (.t 35) (.t 37)⟩,
   ⟨(some 39), none, .pick (.t 29) (.t 38) (.v (.bool false))⟩,
   ⟨(some 26), none, .mv (.t 39)⟩])
  (.cond (.t 26) (.seq (.reg [⟨(some 2), none, .mv (.v (.int .i64 1))⟩])
  .ret)
  .skip)))))))
  (.reg [⟨(some 40), none, .bin .add (.t 10) (.v (.int .i64 1))⟩,
   ⟨(some 10), none, .mv (.t 40)⟩])))))))
  (.seq (.reg [⟨(some 2), none, .mv (.v (.int .i64 0))⟩])
  .ret)))),
  [.t 2]⟩
theorem k148 : cFn Try.prog Try.f148 = some c148 := by kernel_rfl
theorem peeI_ok : OkT Try.prog 148 (pureSp peeF_S) := by
  refine okT_fn (OkΓT.cons isPeer_ok (OkΓT.cons isAddress_ok (OkΓT.nil _))) Try.func148 (by kernel_rfl) k148 (fun x _ => ⟨by first | rfl | simp only [go_sem], by first | rfl | simp only [go_sem]⟩) ?_
  rintro l hl
  try dsimp only at *
  by_cases hr : l.length ≤ 9
  case neg =>
    rw [show peeF l = 2 by simp only [peeF]; rw [if_neg hr]]
    (dsimp only [c148]; simp (maxSteps := 8000000) (implicitDefEqProofs := false) (disch := omega) only [↓reduceIte, go_sem, if_pos, if_neg])
    repeat' first
      | (refine gdKT_dec (fun hg => ?_) (fun hg => ?_) <;> (try (first | simp (maxSteps := 8000000) (implicitDefEqProofs := false) (disch := omega) only [↓reduceIte, go_sem, if_pos, if_neg, eq_false hg] | simp (maxSteps := 8000000) (implicitDefEqProofs := false) (disch := omega) only [↓reduceIte, go_sem, if_pos, if_neg, eq_true hg])))
      | (refine condKT_dec (fun hg => ?_) (fun hg => ?_) <;> (try (first | simp (maxSteps := 8000000) (implicitDefEqProofs := false) (disch := omega) only [↓reduceIte, go_sem, if_pos, if_neg, eq_false hg] | simp (maxSteps := 8000000) (implicitDefEqProofs := false) (disch := omega) only [↓reduceIte, go_sem, if_pos, if_neg, eq_true hg])))
      | (refine gdKT_split (fun hg => ?_) (fun hg => ?_) <;> (try simp (maxSteps := 8000000) (implicitDefEqProofs := false) (disch := omega) only [↓reduceIte, go_sem, if_pos, if_neg, hg]))
      | (refine condKT_split (fun hg => ?_) (fun hg => ?_) <;> (try simp (maxSteps := 8000000) (implicitDefEqProofs := false) (disch := omega) only [↓reduceIte, go_sem, if_pos, if_neg, hg]))
      | (refine endT_p (.inr rfl) (by simp (maxSteps := 8000000) (implicitDefEqProofs := false) (disch := omega) only [↓reduceIte, go_sem, if_pos, if_neg]; rfl) ?_; (first | exact vb_true (by omega) | exact vb_false (by omega) | exact vb_dec (by omega) | exact vi_eq (by omega) | rfl | (refine vi_eq ?_; simp_all; done) | (refine vi_eq ?_; simp_all; omega) | (refine vi_eq ?_; simp_all; intros; omega)))
      | exact endT_v (.inr rfl) (by simp (maxSteps := 8000000) (implicitDefEqProofs := false) (disch := omega) only [↓reduceIte, go_sem, if_pos, if_neg]; try rfl) (fun _ => rfl)
  rw [show peeF l = firstP none l by simp only [peeF]; rw [if_pos hr]]
  (dsimp only [c148]; simp (maxSteps := 8000000) (implicitDefEqProofs := false) (disch := omega) only [↓reduceIte, go_sem, if_pos, if_neg])
  refine awpT_loop (α := Nat) (fun i => ⟨slots [(0, .s (rowsT prT l)), (8, .s (rowsT prT l)), (9, .p (.int .i64 l.length)), (10, .p (.int .i64 i))], []⟩) (fun i => i ≤ l.length ∧ firstP (prevP l i) (l.drop i) = firstP none l) (fun i => l.length - i) 0 ⟨by omega, by simp [prevP]⟩ (le_of [] (by simp (maxSteps := 8000000) (implicitDefEqProofs := false) (disch := omega) only [↓reduceIte, go_sem, if_pos, if_neg]) (by simp (maxSteps := 8000000) (implicitDefEqProofs := false) (disch := omega) only [↓reduceIte, go_sem, if_pos, if_neg]) (by decide) (by simp)) ?_
  intro i ⟨hi, hinv⟩
  simp (maxSteps := 8000000) (implicitDefEqProofs := false) (disch := omega) only [↓reduceIte, go_sem, if_pos, if_neg]
  refine condKT_dec (fun hlt => ?_) (fun hge => ?_)
  · obtain ⟨x, hx⟩ := get_ex (l := l) (i := i) (by omega)
    rw [firstP_at hx, ← prevP_succ hx] at hinv
    by_cases hz : 1 ≤ x.id ∧ x.id ≤ 9
    case neg =>
      rw [if_neg (fun h => hz h.1)] at hinv
      rw [← hinv]
      simp (maxSteps := 8000000) (implicitDefEqProofs := false) (disch := omega) only [↓reduceIte, go_sem, if_pos, if_neg, eq_true hlt, hx, prT, in_at, peer_at, adr_at, eq_false hz]
      repeat' first
        | (refine gdKT_dec (fun hg => ?_) (fun hg => ?_) <;> (try (first | simp (maxSteps := 8000000) (implicitDefEqProofs := false) (disch := omega) only [↓reduceIte, go_sem, if_pos, if_neg, eq_false hg, eq_true hlt, hx, prT, in_at, peer_at, adr_at, eq_false hz] | simp (maxSteps := 8000000) (implicitDefEqProofs := false) (disch := omega) only [↓reduceIte, go_sem, if_pos, if_neg, eq_true hg, eq_true hlt, hx, prT, in_at, peer_at, adr_at, eq_false hz])))
        | (refine condKT_dec (fun hg => ?_) (fun hg => ?_) <;> (try (first | simp (maxSteps := 8000000) (implicitDefEqProofs := false) (disch := omega) only [↓reduceIte, go_sem, if_pos, if_neg, eq_false hg, eq_true hlt, hx, prT, in_at, peer_at, adr_at, eq_false hz] | simp (maxSteps := 8000000) (implicitDefEqProofs := false) (disch := omega) only [↓reduceIte, go_sem, if_pos, if_neg, eq_true hg, eq_true hlt, hx, prT, in_at, peer_at, adr_at, eq_false hz])))
        | (refine gdKT_split (fun hg => ?_) (fun hg => ?_) <;> (try simp (maxSteps := 8000000) (implicitDefEqProofs := false) (disch := omega) only [↓reduceIte, go_sem, if_pos, if_neg, hg, eq_true hlt, hx, prT, in_at, peer_at, adr_at, eq_false hz]))
        | (refine condKT_split (fun hg => ?_) (fun hg => ?_) <;> (try simp (maxSteps := 8000000) (implicitDefEqProofs := false) (disch := omega) only [↓reduceIte, go_sem, if_pos, if_neg, hg, eq_true hlt, hx, prT, in_at, peer_at, adr_at, eq_false hz]))
        | (refine endT_p (.inr rfl) (by simp (maxSteps := 8000000) (implicitDefEqProofs := false) (disch := omega) only [↓reduceIte, go_sem, if_pos, if_neg, eq_true hlt, hx, prT, in_at, peer_at, adr_at, eq_false hz]; rfl) ?_; (first | exact vb_true (by omega) | exact vb_false (by omega) | exact vb_dec (by omega) | exact vi_eq (by omega) | rfl | (refine vi_eq ?_; simp_all; done) | (refine vi_eq ?_; simp_all; omega) | (refine vi_eq ?_; simp_all; intros; omega)))
        | exact endT_v (.inr rfl) (by simp (maxSteps := 8000000) (implicitDefEqProofs := false) (disch := omega) only [↓reduceIte, go_sem, if_pos, if_neg, eq_true hlt, hx, prT, in_at, peer_at, adr_at, eq_false hz]; try rfl) (fun _ => rfl)
    by_cases ha : 0 ≤ x.ad ∧ x.ad ≤ 4294967295
    case neg =>
      rw [if_neg (fun h => ha h.2)] at hinv
      rw [← hinv]
      simp (maxSteps := 8000000) (implicitDefEqProofs := false) (disch := omega) only [↓reduceIte, go_sem, if_pos, if_neg, eq_true hlt, hx, prT, in_at, peer_at, adr_at, eq_true hz, eq_false ha]
      repeat' first
        | (refine gdKT_dec (fun hg => ?_) (fun hg => ?_) <;> (try (first | simp (maxSteps := 8000000) (implicitDefEqProofs := false) (disch := omega) only [↓reduceIte, go_sem, if_pos, if_neg, eq_false hg, eq_true hlt, hx, prT, in_at, peer_at, adr_at, eq_true hz, eq_false ha] | simp (maxSteps := 8000000) (implicitDefEqProofs := false) (disch := omega) only [↓reduceIte, go_sem, if_pos, if_neg, eq_true hg, eq_true hlt, hx, prT, in_at, peer_at, adr_at, eq_true hz, eq_false ha])))
        | (refine condKT_dec (fun hg => ?_) (fun hg => ?_) <;> (try (first | simp (maxSteps := 8000000) (implicitDefEqProofs := false) (disch := omega) only [↓reduceIte, go_sem, if_pos, if_neg, eq_false hg, eq_true hlt, hx, prT, in_at, peer_at, adr_at, eq_true hz, eq_false ha] | simp (maxSteps := 8000000) (implicitDefEqProofs := false) (disch := omega) only [↓reduceIte, go_sem, if_pos, if_neg, eq_true hg, eq_true hlt, hx, prT, in_at, peer_at, adr_at, eq_true hz, eq_false ha])))
        | (refine gdKT_split (fun hg => ?_) (fun hg => ?_) <;> (try simp (maxSteps := 8000000) (implicitDefEqProofs := false) (disch := omega) only [↓reduceIte, go_sem, if_pos, if_neg, hg, eq_true hlt, hx, prT, in_at, peer_at, adr_at, eq_true hz, eq_false ha]))
        | (refine condKT_split (fun hg => ?_) (fun hg => ?_) <;> (try simp (maxSteps := 8000000) (implicitDefEqProofs := false) (disch := omega) only [↓reduceIte, go_sem, if_pos, if_neg, hg, eq_true hlt, hx, prT, in_at, peer_at, adr_at, eq_true hz, eq_false ha]))
        | (refine endT_p (.inr rfl) (by simp (maxSteps := 8000000) (implicitDefEqProofs := false) (disch := omega) only [↓reduceIte, go_sem, if_pos, if_neg, eq_true hlt, hx, prT, in_at, peer_at, adr_at, eq_true hz, eq_false ha]; rfl) ?_; (first | exact vb_true (by omega) | exact vb_false (by omega) | exact vb_dec (by omega) | exact vi_eq (by omega) | rfl | (refine vi_eq ?_; simp_all; done) | (refine vi_eq ?_; simp_all; omega) | (refine vi_eq ?_; simp_all; intros; omega)))
        | exact endT_v (.inr rfl) (by simp (maxSteps := 8000000) (implicitDefEqProofs := false) (disch := omega) only [↓reduceIte, go_sem, if_pos, if_neg, eq_true hlt, hx, prT, in_at, peer_at, adr_at, eq_true hz, eq_false ha]; try rfl) (fun _ => rfl)
    rw [if_pos ⟨hz, ha⟩] at hinv
    by_cases h0 : i = 0
    · rw [show prevP l i = none by simp [prevP, h0], if_neg (by simp [badO])] at hinv
      simp (maxSteps := 8000000) (implicitDefEqProofs := false) (disch := omega) only [↓reduceIte, go_sem, if_pos, if_neg, eq_true hlt, hx, prT, in_at, peer_at, adr_at, eq_true hz, eq_true ha]
      refine loopKT_next (i + 1) ⟨by omega, hinv⟩ (by omega) ?_
      exact (le_of [] (by simp (maxSteps := 8000000) (implicitDefEqProofs := false) (disch := omega) only [↓reduceIte, go_sem, if_pos, if_neg]) (by simp (maxSteps := 8000000) (implicitDefEqProofs := false) (disch := omega) only [↓reduceIte, go_sem, if_pos, if_neg]) (by decide) (by simp))
    · obtain ⟨y, hy⟩ := get_ex (l := l) (i := i - 1) (by omega)
      rw [show prevP l i = some y.id by simp [prevP, h0, hy]] at hinv
      have hpi : ((i : Int) - 1).toNat = i - 1 := by omega
      by_cases hb : x.id ≤ y.id
      · rw [if_pos (show badO (some y.id) x.id from hb)] at hinv
        rw [← hinv]
        simp (maxSteps := 8000000) (implicitDefEqProofs := false) (disch := omega) only [↓reduceIte, go_sem, if_pos, if_neg, eq_true hlt, hx, prT, in_at, peer_at, adr_at, hy, hpi, eq_true hz, eq_true ha, eq_true hb, eq_true (show y.id ≥ x.id from hb)]
        repeat' first
          | (refine gdKT_dec (fun hg => ?_) (fun hg => ?_) <;> (try (first | simp (maxSteps := 8000000) (implicitDefEqProofs := false) (disch := omega) only [↓reduceIte, go_sem, if_pos, if_neg, eq_false hg, eq_true hlt, hx, prT, in_at, peer_at, adr_at, hy, hpi, eq_true hz, eq_true ha, eq_true hb, eq_true (show y.id ≥ x.id from hb)] | simp (maxSteps := 8000000) (implicitDefEqProofs := false) (disch := omega) only [↓reduceIte, go_sem, if_pos, if_neg, eq_true hg, eq_true hlt, hx, prT, in_at, peer_at, adr_at, hy, hpi, eq_true hz, eq_true ha, eq_true hb, eq_true (show y.id ≥ x.id from hb)])))
          | (refine condKT_dec (fun hg => ?_) (fun hg => ?_) <;> (try (first | simp (maxSteps := 8000000) (implicitDefEqProofs := false) (disch := omega) only [↓reduceIte, go_sem, if_pos, if_neg, eq_false hg, eq_true hlt, hx, prT, in_at, peer_at, adr_at, hy, hpi, eq_true hz, eq_true ha, eq_true hb, eq_true (show y.id ≥ x.id from hb)] | simp (maxSteps := 8000000) (implicitDefEqProofs := false) (disch := omega) only [↓reduceIte, go_sem, if_pos, if_neg, eq_true hg, eq_true hlt, hx, prT, in_at, peer_at, adr_at, hy, hpi, eq_true hz, eq_true ha, eq_true hb, eq_true (show y.id ≥ x.id from hb)])))
          | (refine gdKT_split (fun hg => ?_) (fun hg => ?_) <;> (try simp (maxSteps := 8000000) (implicitDefEqProofs := false) (disch := omega) only [↓reduceIte, go_sem, if_pos, if_neg, hg, eq_true hlt, hx, prT, in_at, peer_at, adr_at, hy, hpi, eq_true hz, eq_true ha, eq_true hb, eq_true (show y.id ≥ x.id from hb)]))
          | (refine condKT_split (fun hg => ?_) (fun hg => ?_) <;> (try simp (maxSteps := 8000000) (implicitDefEqProofs := false) (disch := omega) only [↓reduceIte, go_sem, if_pos, if_neg, hg, eq_true hlt, hx, prT, in_at, peer_at, adr_at, hy, hpi, eq_true hz, eq_true ha, eq_true hb, eq_true (show y.id ≥ x.id from hb)]))
          | (refine endT_p (.inr rfl) (by simp (maxSteps := 8000000) (implicitDefEqProofs := false) (disch := omega) only [↓reduceIte, go_sem, if_pos, if_neg, eq_true hlt, hx, prT, in_at, peer_at, adr_at, hy, hpi, eq_true hz, eq_true ha, eq_true hb, eq_true (show y.id ≥ x.id from hb)]; rfl) ?_; (first | exact vb_true (by omega) | exact vb_false (by omega) | exact vb_dec (by omega) | exact vi_eq (by omega) | rfl | (refine vi_eq ?_; simp_all; done) | (refine vi_eq ?_; simp_all; omega) | (refine vi_eq ?_; simp_all; intros; omega)))
          | exact endT_v (.inr rfl) (by simp (maxSteps := 8000000) (implicitDefEqProofs := false) (disch := omega) only [↓reduceIte, go_sem, if_pos, if_neg, eq_true hlt, hx, prT, in_at, peer_at, adr_at, hy, hpi, eq_true hz, eq_true ha, eq_true hb, eq_true (show y.id ≥ x.id from hb)]; try rfl) (fun _ => rfl)
      · rw [if_neg (show ¬ badO (some y.id) x.id from hb)] at hinv
        simp (maxSteps := 8000000) (implicitDefEqProofs := false) (disch := omega) only [↓reduceIte, go_sem, if_pos, if_neg, eq_true hlt, hx, prT, in_at, peer_at, adr_at, hy, hpi, eq_true hz, eq_true ha, eq_false hb, eq_false (show ¬ y.id ≥ x.id from hb)]
        refine loopKT_next (i + 1) ⟨by omega, hinv⟩ (by omega) ?_
        exact (le_of [] (by simp (maxSteps := 8000000) (implicitDefEqProofs := false) (disch := omega) only [↓reduceIte, go_sem, if_pos, if_neg]) (by simp (maxSteps := 8000000) (implicitDefEqProofs := false) (disch := omega) only [↓reduceIte, go_sem, if_pos, if_neg]) (by decide) (by simp))
  · rw [show l.drop i = [] from List.drop_eq_nil_of_le (by omega), firstP] at hinv
    rw [← hinv]
    simp (maxSteps := 8000000) (implicitDefEqProofs := false) (disch := omega) only [↓reduceIte, go_sem, if_pos, if_neg, eq_false hge]
    refine joinK_here ?_
    simp (maxSteps := 8000000) (implicitDefEqProofs := false) (disch := omega) only [↓reduceIte, go_sem, if_pos, if_neg]
    repeat' first
      | (refine gdKT_dec (fun hg => ?_) (fun hg => ?_) <;> (try (first | simp (maxSteps := 8000000) (implicitDefEqProofs := false) (disch := omega) only [↓reduceIte, go_sem, if_pos, if_neg, eq_false hg] | simp (maxSteps := 8000000) (implicitDefEqProofs := false) (disch := omega) only [↓reduceIte, go_sem, if_pos, if_neg, eq_true hg])))
      | (refine condKT_dec (fun hg => ?_) (fun hg => ?_) <;> (try (first | simp (maxSteps := 8000000) (implicitDefEqProofs := false) (disch := omega) only [↓reduceIte, go_sem, if_pos, if_neg, eq_false hg] | simp (maxSteps := 8000000) (implicitDefEqProofs := false) (disch := omega) only [↓reduceIte, go_sem, if_pos, if_neg, eq_true hg])))
      | (refine gdKT_split (fun hg => ?_) (fun hg => ?_) <;> (try simp (maxSteps := 8000000) (implicitDefEqProofs := false) (disch := omega) only [↓reduceIte, go_sem, if_pos, if_neg, hg]))
      | (refine condKT_split (fun hg => ?_) (fun hg => ?_) <;> (try simp (maxSteps := 8000000) (implicitDefEqProofs := false) (disch := omega) only [↓reduceIte, go_sem, if_pos, if_neg, hg]))
      | (refine endT_p (.inr rfl) (by simp (maxSteps := 8000000) (implicitDefEqProofs := false) (disch := omega) only [↓reduceIte, go_sem, if_pos, if_neg]; rfl) ?_; (first | exact vb_true (by omega) | exact vb_false (by omega) | exact vb_dec (by omega) | exact vi_eq (by omega) | rfl | (refine vi_eq ?_; simp_all; done) | (refine vi_eq ?_; simp_all; omega) | (refine vi_eq ?_; simp_all; intros; omega)))
      | exact endT_v (.inr rfl) (by simp (maxSteps := 8000000) (implicitDefEqProofs := false) (disch := omega) only [↓reduceIte, go_sem, if_pos, if_neg]; try rfl) (fun _ => rfl)

/-! The first fault of several -/
def ffz : List Int → Int
  | [] => 0
  | x :: r => if x = 0 then ffz r else x
theorem ffz_at' {l : List Int} {i : Nat} (h : i < l.length) : ffz (l.drop i) = if l.getD i 0 = 0 then ffz (l.drop (i + 1)) else l.getD i 0 := by
  rw [List.drop_eq_getElem_cons h, ffz]
  simp [h]
noncomputable def ffz_S := specP (fun x : List Int => [.s (isT x)]) (fun x => x.length ≤ 140737488355328) (fun x => (.p (.int .i64 (ffz x)), []))
theorem ffz_at (l : List Int) (h : l.length ≤ 140737488355328) : ffz_S [.s (isT l)] = some ((.p (.int .i64 (ffz l)), [])) := specP_at (enc := fun x : List Int => [.s (isT x)]) (by rintro a0 b0 h; simp only [List.cons.injEq, and_true] at h; have h0 := h; obtain rfl := sis_inj h0; rfl) l h
-- impl.faultOf
def c146 : AF := ⟨15,
  (.seq (.reg [⟨(some 2), none, .mv (.v (.int .i64 0))⟩])
  (.seq (.seq (.reg [⟨(some 5), none, .mv (.t 0)⟩,
   ⟨(some 6), none, .len (.t 5)⟩,
   ⟨(some 7), none, .mv (.v (.int .i64 0))⟩])
  (.block 0 (.loop (.seq (.reg [⟨(some 8), none, .bin .lss (.t 7) (.t 6)⟩])
  (.seq (.cond (.t 8) .skip
  (.exit 0))
  (.seq (.block 1 (.seq (.reg [⟨(some 9), none, .ia 1 (.t 5) (.t 7)⟩,
   ⟨(some 10), none, .ld (.t 9)⟩,
   ⟨(some 4), none, .mv (.t 10)⟩])
  (.seq (.reg [⟨(some 11), none, .mv (.t 4)⟩,
   ⟨(some 12), none, .bin .neq (.t 11) (.v (.int .i64 0))⟩])
  (.cond (.t 12) (.seq (.reg [⟨(some 13), none, .mv (.t 4)⟩,
   ⟨(some 2), none, .mv (.t 13)⟩])
  .ret)
  .skip))))
  (.reg [⟨(some 14), none, .bin .add (.t 7) (.v (.int .i64 1))⟩,
   ⟨(some 7), none, .mv (.t 14)⟩])))))))
  (.seq (.reg [⟨(some 2), none, .mv (.v (.int .i64 0))⟩])
  .ret))),
  [.t 2]⟩
theorem k146 : cFn Try.prog Try.f146 = some c146 := by kernel_rfl
theorem ffz_ok : OkT Try.prog 146 (pureSp ffz_S) := by
  refine okT_fn (OkΓT.nil _) Try.func146 (by kernel_rfl) k146 (fun x _ => ⟨by first | rfl | simp only [go_sem], by first | rfl | simp only [go_sem]⟩) ?_
  rintro l hl
  try dsimp only at *
  have hlen := is_len l
  (dsimp only [c146]; simp (maxSteps := 8000000) (implicitDefEqProofs := false) (disch := omega) only [↓reduceIte, go_sem, if_pos, if_neg, hlen])
  refine awpT_loop (α := Nat) (fun i => ⟨slots [(5, .s (isT l)), (6, .p (.int .i64 l.length)), (7, .p (.int .i64 i))], []⟩) (fun i => i ≤ l.length ∧ ffz (l.drop i) = ffz l) (fun i => l.length - i) 0 ⟨by omega, by simp⟩ (by simp only [nat0T]; exact (le_of [] (by simp (maxSteps := 8000000) (implicitDefEqProofs := false) (disch := omega) only [↓reduceIte, go_sem, if_pos, if_neg]) (by simp (maxSteps := 8000000) (implicitDefEqProofs := false) (disch := omega) only [↓reduceIte, go_sem, if_pos, if_neg]) (by decide) (by simp))) ?_
  intro i ⟨hi, hinv⟩
  simp (maxSteps := 8000000) (implicitDefEqProofs := false) (disch := omega) only [↓reduceIte, go_sem, if_pos, if_neg]
  refine condKT_dec (fun hlt => ?_) (fun hge => ?_)
  · have g := is_get (l := l) (i := i) (by omega)
    rw [ffz_at' (by omega)] at hinv
    by_cases hz : l.getD i 0 = 0
    · rw [if_pos hz] at hinv
      simp (maxSteps := 8000000) (implicitDefEqProofs := false) (disch := omega) only [↓reduceIte, go_sem, if_pos, if_neg, eq_true hlt, Int.toNat_natCast, g, eq_true hz]
      refine loopKT_next (i + 1) ⟨by omega, hinv⟩ (by omega) ?_
      exact (le_of [] (by simp (maxSteps := 8000000) (implicitDefEqProofs := false) (disch := omega) only [↓reduceIte, go_sem, if_pos, if_neg]) (by simp (maxSteps := 8000000) (implicitDefEqProofs := false) (disch := omega) only [↓reduceIte, go_sem, if_pos, if_neg]) (by decide) (by simp))
    · rw [if_neg hz] at hinv
      rw [← hinv]
      generalize l.getD i 0 = v at *
      simp (maxSteps := 8000000) (implicitDefEqProofs := false) (disch := omega) only [↓reduceIte, go_sem, if_pos, if_neg, eq_true hlt, Int.toNat_natCast, g, eq_false hz]
      exact endT_v (.inr rfl) (by (simp (maxSteps := 8000000) (implicitDefEqProofs := false) (disch := omega) only [↓reduceIte, go_sem, if_pos, if_neg]) <;> rfl) (fun _ => rfl)
  · rw [show l.drop i = [] from List.drop_eq_nil_of_le (by omega), ffz] at hinv
    rw [← hinv]
    simp (maxSteps := 8000000) (implicitDefEqProofs := false) (disch := omega) only [↓reduceIte, go_sem, if_pos, if_neg, eq_false hge]
    refine joinK_here ?_
    simp (maxSteps := 8000000) (implicitDefEqProofs := false) (disch := omega) only [↓reduceIte, go_sem, if_pos, if_neg]
    exact endT_v (.inr rfl) (by (simp (maxSteps := 8000000) (implicitDefEqProofs := false) (disch := omega) only [↓reduceIte, go_sem, if_pos, if_neg]) <;> rfl) (fun _ => rfl)

/-! Ticks -/
def noTick (x : Int) : Bool := !decide (0 ≤ x ∧ x ≤ 1000000000)
def tickL (l : List Int) : Bool := (l.findIdx? noTick).isNone
theorem tickL_none {l : List Int} (h : ∀ j y, j < l.length → l[j]? = some y → noTick y = false) : tickL l = true := by unfold tickL; rw [find_none h]; rfl
theorem tickL_some {l : List Int} {i : Nat} {x : Int} (hx : l[i]? = some x) (hp : noTick x = true) (hn : ∀ j y, j < i → l[j]? = some y → noTick y = false) : tickL l = false := by unfold tickL; rw [find_some hx hp hn]; rfl
noncomputable def ixT_S := specP (fun x : List Int => [.s (isT x), .fn 150 []]) (fun x => x.length ≤ 140737488355328) (fun x => (.p (.int .i64 (idxV (x.findIdx? noTick))), []))
theorem ixT_at (l : List Int) (h : l.length ≤ 140737488355328) : ixT_S [.s (isT l), .fn 150 []] = some (.p (.int .i64 (idxV (l.findIdx? noTick))), []) := specP_at (enc := fun x : List Int => [.s (isT x), .fn 150 []]) (by intro x y h; simp only [List.cons.injEq, and_true] at h; exact sis_inj h) l h
noncomputable def ctT_S := specP (fun x : List Int => [.s (isT x), .fn 150 []]) (fun x => x.length ≤ 140737488355328) (fun x => (.p (.bool (!tickL x)), []))
theorem ctT_at (l : List Int) (h : l.length ≤ 140737488355328) : ctT_S [.s (isT l), .fn 150 []] = some (.p (.bool (!tickL l)), []) := specP_at (enc := fun x : List Int => [.s (isT x), .fn 150 []]) (by intro x y h; simp only [List.cons.injEq, and_true] at h; exact sis_inj h) l h
noncomputable def noTick_S := specP (fun x : Int => [.p (.int .i64 x)]) (fun x => True) (fun x => (.p (.bool (noTick x)), []))
theorem noTick_at (x : Int) : noTick_S [.p (.int .i64 x)] = some ((.p (.bool (noTick x)), [])) := specP_at (enc := fun x : Int => [.p (.int .i64 x)]) (by rintro a0 b0 h; simp only [List.cons.injEq, and_true] at h; have h0 := h; obtain rfl := p64_inj h0; rfl) x trivial
-- impl.BoxFault$1
def c150 : AF := ⟨6,
  (.seq (.reg [⟨(some 2), none, .mv (.v (.bool false))⟩])
  (.seq (.reg [⟨(some 3), none, .mv (.t 0)⟩,
   ⟨(some 4), none, .call 122 [(.t 3)]⟩,
   ⟨(some 5), none, .un .not (.t 4)⟩,
   ⟨(some 2), none, .mv (.t 5)⟩])
  .ret)),
  [.t 2]⟩
theorem k150 : cFn Try.prog Try.f150 = some c150 := by kernel_rfl
theorem noTick_ok : OkT Try.prog 150 (pureSp noTick_S) := by
  refine okT_fn (OkΓT.cons isTick_ok (OkΓT.nil _)) Try.func150 (by kernel_rfl) k150 (fun x _ => ⟨by first | rfl | simp only [go_sem], by first | rfl | simp only [go_sem]⟩) ?_
  rintro x _
  try dsimp only at *
  unfold noTick
  (dsimp only [c150]; simp (maxSteps := 8000000) (implicitDefEqProofs := false) (disch := omega) only [↓reduceIte, go_sem, if_pos, if_neg, tick_at])
  exact endT_v (.inr rfl) (by (simp (maxSteps := 8000000) (implicitDefEqProofs := false) (disch := omega) only [↓reduceIte, go_sem, if_pos, if_neg]) <;> rfl) (fun _ => rfl)

-- slices.IndexFunc[[]int64,int64]
def c205 : AF := ⟨19,
  (.seq (.reg [⟨(some 4), none, .mv (.v (.int .i64 0))⟩])
  (.seq (.seq (.reg [⟨(some 6), none, .mv (.t 0)⟩,
   ⟨(some 7), none, .len (.t 6)⟩,
   ⟨(some 8), none, .mv (.v (.int .i64 0))⟩])
  (.block 0 (.loop (.seq (.reg [⟨(some 9), none, .bin .lss (.t 8) (.t 7)⟩])
  (.seq (.cond (.t 9) .skip
  (.exit 0))
  (.seq (.block 1 (.seq (.reg [⟨(some 10), none, .mv (.t 8)⟩,
   ⟨(some 5), none, .mv (.t 10)⟩])
  (.seq (.reg [⟨(some 11), none, .mv (.t 1)⟩,
   ⟨(some 12), none, .mv (.t 0)⟩,
   ⟨(some 13), none, .mv (.t 5)⟩,
   ⟨(some 14), none, .ia 1 (.t 12) (.t 13)⟩,
   ⟨(some 15), none, .ld (.t 14)⟩,
   ⟨(some 16), none, .callv (.t 11) [(.t 15)]⟩])
  (.cond (.t 16) (.seq (.reg [⟨(some 17), none, .mv (.t 5)⟩,
   ⟨(some 4), none, .mv (.t 17)⟩])
  .ret)
  .skip))))
  (.reg [⟨(some 18), none, .bin .add (.t 8) (.v (.int .i64 1))⟩,
   ⟨(some 8), none, .mv (.t 18)⟩])))))))
  (.seq (.reg [⟨(some 4), none, .mv (.v (.int .i64 (-1)))⟩])
  .ret))),
  [.t 4]⟩
theorem k205 : cFn Try.prog Try.f205 = some c205 := by kernel_rfl
theorem ixT_ok : OkT Try.prog 205 (pureSp ixT_S) := by
  refine okT_fn (OkΓT.cons noTick_ok (OkΓT.nil _)) Try.func205 (by kernel_rfl) k205 (fun x _ => ⟨rfl, rfl⟩) ?_
  rintro l hl
  dsimp only at *
  have hlen := is_len l
  (dsimp only [c205]; simp (maxSteps := 8000000) (implicitDefEqProofs := false) (disch := omega) only [↓reduceIte, go_sem, if_pos, if_neg, hlen])
  refine awpT_loop (α := Nat) (fun i => ⟨slots [(0, .s (isT l)), (1, .fn 150 []), (7, .p (.int .i64 l.length)), (8, .p (.int .i64 i))], []⟩) (fun i => i ≤ l.length ∧ ∀ j y, j < i → l[j]? = some y → noTick y = false) (fun i => l.length - i) 0 ⟨by omega, fun j y hj => absurd hj (by omega)⟩ (by simp only [nat0T]; exact (le_of [] (by simp (maxSteps := 8000000) (implicitDefEqProofs := false) (disch := omega) only [↓reduceIte, go_sem, if_pos, if_neg]) (by simp (maxSteps := 8000000) (implicitDefEqProofs := false) (disch := omega) only [↓reduceIte, go_sem, if_pos, if_neg]) (by decide) (by simp))) ?_
  intro i ⟨hi, hn⟩
  simp (maxSteps := 8000000) (implicitDefEqProofs := false) (disch := omega) only [↓reduceIte, go_sem, if_pos, if_neg]
  refine condKT_dec (fun hlt => ?_) (fun hge => ?_)
  · obtain ⟨x, hx⟩ := get_ex (l := l) (i := i) (by omega)
    have g := is_get (l := l) (i := i) (by omega)
    rw [show l.getD i 0 = x by simp [List.getD_eq_getElem?_getD, hx]] at g
    have q := noTick_at x
    by_cases hs : noTick x = true
    · rw [find_some hx hs hn]
      rw [hs] at q
      dsimp only [idxV]
      simp (maxSteps := 8000000) (implicitDefEqProofs := false) (disch := omega) only [↓reduceIte, go_sem, if_pos, if_neg, eq_true hlt, Int.toNat_natCast, g, q]
      exact endT_v (.inr rfl) (by (simp (maxSteps := 8000000) (implicitDefEqProofs := false) (disch := omega) only [↓reduceIte, go_sem, if_pos, if_neg]) <;> rfl) (fun _ => rfl)
    · have hs' : noTick x = false := by simpa using hs
      rw [hs'] at q
      simp (maxSteps := 8000000) (implicitDefEqProofs := false) (disch := omega) only [↓reduceIte, go_sem, if_pos, if_neg, eq_true hlt, Int.toNat_natCast, g, q]
      refine loopKT_next (i + 1) ⟨by omega, none_snoc hx hs' hn⟩ (by omega) ?_
      exact (le_of [] (by simp (maxSteps := 8000000) (implicitDefEqProofs := false) (disch := omega) only [↓reduceIte, go_sem, if_pos, if_neg]) (by simp (maxSteps := 8000000) (implicitDefEqProofs := false) (disch := omega) only [↓reduceIte, go_sem, if_pos, if_neg]) (by decide) (by simp))
  · rw [find_none (fun j y hj => hn j y (by omega))]
    dsimp only [idxV]
    simp (maxSteps := 8000000) (implicitDefEqProofs := false) (disch := omega) only [↓reduceIte, go_sem, if_pos, if_neg, eq_false hge]
    refine joinK_here ?_
    simp (maxSteps := 8000000) (implicitDefEqProofs := false) (disch := omega) only [↓reduceIte, go_sem, if_pos, if_neg]
    exact endT_v (.inr rfl) (by (simp (maxSteps := 8000000) (implicitDefEqProofs := false) (disch := omega) only [↓reduceIte, go_sem, if_pos, if_neg]) <;> rfl) (fun _ => rfl)
-- slices.ContainsFunc[[]int64,int64]
def c149 : AF := ⟨9,
  (.seq (.reg [⟨(some 4), none, .mv (.v (.bool false))⟩])
  (.seq (.reg [⟨(some 5), none, .mv (.t 0)⟩,
   ⟨(some 6), none, .mv (.t 1)⟩,
   ⟨(some 7), none, .call 205 [(.t 5), (.t 6)]⟩,
   ⟨(some 8), none, .bin .geq (.t 7) (.v (.int .i64 0))⟩,
   ⟨(some 4), none, .mv (.t 8)⟩])
  .ret)),
  [.t 4]⟩
theorem k149 : cFn Try.prog Try.f149 = some c149 := by kernel_rfl
theorem ctT_ok : OkT Try.prog 149 (pureSp ctT_S) := by
  refine okT_fn (OkΓT.cons ixT_ok (OkΓT.nil _)) Try.func149 (by kernel_rfl) k149 (fun x _ => ⟨rfl, rfl⟩) ?_
  rintro l hl
  dsimp only at *
  have q := ixT_at l hl
  have e : (!tickL l) = decide (idxV (l.findIdx? noTick) ≥ 0) := by
    unfold tickL
    cases l.findIdx? noTick with
    | none => rfl
    | some i => simp [idxV]
  rw [e]
  generalize idxV (l.findIdx? noTick) = v at *
  (dsimp only [c149]; simp (maxSteps := 8000000) (implicitDefEqProofs := false) (disch := omega) only [↓reduceIte, go_sem, if_pos, if_neg, q])
  exact endT_v (.inr rfl) (by (simp (maxSteps := 8000000) (implicitDefEqProofs := false) (disch := omega) only [↓reduceIte, go_sem, if_pos, if_neg]) <;> rfl) (fun _ => rfl)
end Go.Proofs.Ytkijbknnbmbnbaa
