import Derived.Test.YtghpdclhhnbgjaaGreatD8
import Derived.Test.YtghpdclhhnbgjaaGreatD4
import Derived.Test.YtghpdclhhnbgjaaGreatP0
set_option linter.unusedSimpArgs false
set_option linter.unusedVariables false
set_option maxRecDepth 100000
set_option maxHeartbeats 4000000
namespace Go.Proofs.YtghpdclhhnbgjaaGreat
open Go Go.AH
attribute [local irreducible] awpT ropsT qopsT stepT condKT gdKT EndT joinK loopKT seqKT blkKT kont kontR
/-! Policies, peers, boxes -/

structure RuR where
  (sel : SlR)
  (act pr : Int)
def ruT (x : RuR) : TV := .agg [.p (.int .i64 x.sel.f1), .p (.int .i64 x.sel.f2), .p (.int .i64 x.sel.t1), .p (.int .i64 x.sel.t2), .p (.int .i64 x.sel.p1), .p (.int .i64 x.sel.p2), .p (.int .i64 x.sel.q1), .p (.int .i64 x.sel.q2), .p (.int .i64 x.sel.pr), .p (.int .i64 x.act), .p (.int .i64 x.pr)]
theorem ruT_inj (x y : RuR) (h : ruT x = ruT y) : x = y := by
  rcases x with ⟨⟨⟩, _, _⟩; rcases y with ⟨⟨⟩, _, _⟩; simp [ruT] at h; simp [h]
theorem ruT_flat : Flat ruT 11 := ⟨fun _ => rfl, fun h n x => by simp only [ruT, frz_agg, frz_p, List.map_cons, List.map_nil], fun _ _ => rfl⟩
theorem rus_sized (l : List RuR) : sizedT 11 (rowsT ruT l) = true := rowsT_sized ruT_flat l
theorem rus_frz (h : THeap) (n : Nat) (l : List RuR) : (rowsT ruT l).map (frzT h n) = rowsT ruT l := rowsT_frz ruT_flat h n l
theorem rus_ren (ρ : Nat → Nat) (l : List RuR) : renTs ρ (rowsT ruT l) = rowsT ruT l := rowsT_ren ruT_flat ρ l
theorem rus_own (l : List RuR) : ownTs (rowsT ruT l) = true := rowsT_own (fun _ => rfl) l
theorem rus_inj1 {l l' : List RuR} (h : rowsT ruT l = rowsT ruT l') : l = l' := rowsT_inj ruT_inj h
theorem rus_inj {l l' : List RuR} (h : TV.s (rowsT ruT l) = .s (rowsT ruT l')) : l = l' := rus_inj1 (by simpa using h)
structure PrR where
  (id ad : Int)
def prT (x : PrR) : TV := .agg [.p (.int .i64 x.id), .p (.int .i64 x.ad)]
theorem prT_inj (x y : PrR) (h : prT x = prT y) : x = y := by cases x; cases y; simp [prT] at h; simp [h]
theorem prT_flat : Flat prT 2 := ⟨fun _ => rfl, fun h n x => by simp only [prT, frz_agg, frz_p, List.map_cons, List.map_nil], fun _ _ => rfl⟩
theorem prs_sized (l : List PrR) : sizedT 2 (rowsT prT l) = true := rowsT_sized prT_flat l
theorem prs_frz (h : THeap) (n : Nat) (l : List PrR) : (rowsT prT l).map (frzT h n) = rowsT prT l := rowsT_frz prT_flat h n l
theorem prs_ren (ρ : Nat → Nat) (l : List PrR) : renTs ρ (rowsT prT l) = rowsT prT l := rowsT_ren prT_flat ρ l
theorem prs_own (l : List PrR) : ownTs (rowsT prT l) = true := rowsT_own (fun _ => rfl) l
theorem prs_inj1 {l l' : List PrR} (h : rowsT prT l = rowsT prT l') : l = l' := rowsT_inj prT_inj h
theorem prs_inj {l l' : List PrR} (h : TV.s (rowsT prT l) = .s (rowsT prT l')) : l = l' := prs_inj1 (by simpa using h)
attribute [go_sem] rus_sized rus_frz rus_ren rus_own prs_sized prs_frz prs_ren prs_own
/-! Policies -/
def ruleF (x : RuR) : Int := if selF x.sel = 0 then (if 1 ≤ x.act ∧ x.act ≤ 3 then (if (x.act = 3 ∧ ¬ (1 ≤ x.pr ∧ x.pr ≤ 9)) ∨ (¬ x.act = 3 ∧ ¬ x.pr = 0) then 1 else 0) else 3) else selF x.sel
def firstR : List RuR → Int
  | [] => 0
  | x :: r => if ruleF x = 0 then firstR r else ruleF x
theorem firstR_at {l : List RuR} {i : Nat} {x : RuR} (h : l[i]? = some x) : firstR (l.drop i) = if ruleF x = 0 then firstR (l.drop (i + 1)) else ruleF x := by
  have hlt := (List.getElem?_eq_some_iff.1 h).1
  rw [List.drop_eq_getElem_cons hlt, (List.getElem?_eq_some_iff.1 h).2, firstR]
def polF (l : List RuR) : Int := if l.length ≤ 20 then firstR l else 2
/-! Peers -/
def firstP : Option Int → List PrR → Int
  | _, [] => 0
  | p, x :: r => if (1 ≤ x.id ∧ x.id ≤ 9) ∧ (0 ≤ x.ad ∧ x.ad ≤ 4294967295) then (if badO p x.id then 1 else firstP (some x.id) r) else 3
def prevP (l : List PrR) (i : Nat) : Option Int := if i = 0 then none else (l[i - 1]?).map (·.id)
theorem prevP_succ {l : List PrR} {i : Nat} {x : PrR} (h : l[i]? = some x) : prevP l (i + 1) = some x.id := by simp [prevP, h]
theorem firstP_at {l : List PrR} {i : Nat} {x : PrR} {p : Option Int} (h : l[i]? = some x) : firstP p (l.drop i) = if (1 ≤ x.id ∧ x.id ≤ 9) ∧ (0 ≤ x.ad ∧ x.ad ≤ 4294967295) then (if badO p x.id then 1 else firstP (some x.id) (l.drop (i + 1))) else 3 := by
  have hlt := (List.getElem?_eq_some_iff.1 h).1
  rw [List.drop_eq_getElem_cons hlt, (List.getElem?_eq_some_iff.1 h).2, firstP]
def peeF (l : List PrR) : Int := if l.length ≤ 9 then firstP none l else 2
noncomputable def polF_S := specP (fun x : List RuR => [.s (rowsT ruT x)]) (fun x => x.length ≤ 140737488355328) (fun x => (.p (.int .i64 (polF x)), []))
theorem polF_at (l : List RuR) (h : l.length ≤ 140737488355328) : polF_S [.s (rowsT ruT l)] = some ((.p (.int .i64 (polF l)), [])) := specP_at (enc := fun x : List RuR => [.s (rowsT ruT x)]) (by rintro a0 b0 h; simp only [List.cons.injEq, and_true] at h; have h0 := h; obtain rfl := rus_inj h0; rfl) l h
-- spec.PolicyFault
def c157 : AF := ⟨48,
 (.seq (.reg [rO 2 (.mv (.v (.int .i64 0)))])
 (.seq (.seq (.reg [rO 6 (.mv (.t 0)),
 rO 7 (.len (.t 6)),
 rO 8 (.bin .gtr (.t 7) (.v (.int .i64 20)))])
 (.cond (.t 8) (.seq (.reg [rO 2 (.mv (.v (.int .i64 2)))])
 .ret)
 .skip))
 (.seq (.seq (.reg [rO 3 (.mv (.v (.int .i64 0)))])
 (.block 0 (.loop (.seq (.seq (.reg [rO 9 (.mv (.t 3)),
 rO 10 (.mv (.t 0)),
 rO 11 (.len (.t 10)),
 rO 12 (.bin .lss (.t 9) (.t 11))])
 (.cond (.t 12) .skip
 (.exit 0)))
 (.seq (.block 1 (.seq (.reg [rO 15 (.mv (.t 0)),
 rO 16 (.mv (.t 3)),
 rO 17 (.ia 11 (.t 15) (.t 16)),
 rO 18 (.ldn 11 (.t 17)),
 rO 4 (.alloc 105 [(.int .i64 0), (.int .i64 0), (.int .i64 0), (.int .i64 0), (.int .i64 0), (.int .i64 0), (.int .i64 0), (.int .i64 0), (.int .i64 0), (.int .i64 0), (.int .i64 0)]),
 ⟨none, none, .st 11 (.t 4) (.t 18)⟩])
 (.seq (.seq (.reg [rO 19 (.fa (.t 4) 0),
 rO 20 (.ldn 9 (.t 19)),
 rO 21 (.call 204 [(.t 20)]),
 rO 5 (.mv (.t 21))])
 (.seq (.reg [rO 22 (.mv (.t 5)),
 rO 23 (.bin .neq (.t 22) (.v (.int .i64 0)))])
 (.cond (.t 23) (.seq (.reg [rO 24 (.mv (.t 5)),
 rO 2 (.mv (.t 24))])
 .ret)
 .skip)))
 (.seq (.seq (.reg [rO 25 (.fa (.t 4) 9),
 rO 26 (.ld (.t 25)),
 rO 27 (.call 35 [(.t 26), (.v (.int .i64 1)), (.v (.int .i64 3))]),
 rO 28 (.un .not (.t 27))])
 (.cond (.t 28) (.seq (.reg [rO 2 (.mv (.v (.int .i64 3)))])
 .ret)
 .skip))
 (.seq (.reg [rO 29 (.fa (.t 4) 9),
 rO 30 (.ld (.t 29)),
 rO 31 (.bin .eql (.t 30) (.v (.int .i64 3))),
 rO 32 (.mv (.t 31)),
 ⟨(some 33), (some (32, true)), .fa (.t 4) 10⟩,
 ⟨(some 34), (some (32, true)), .ld (.t 33)⟩,
 ⟨(some 35), (some (32, true)), .call 35 [(.t 34), (.v (.int .i64 1)), (.v (.int .i64 9))]⟩,
 ⟨(some 36), (some (32, true)), .un .not (.t 35)⟩,
 rO 37 (.pick (.t 32) (.t 36) (.v (.bool false))),
 rO 38 (.mv (.t 37)),
 ⟨(some 39), (some (38, false)), .fa (.t 4) 9⟩,
 ⟨(some 40), (some (38, false)), .ld (.t 39)⟩,
 ⟨(some 41), (some (38, false)), .bin .neq (.t 40) (.v (.int .i64 3))⟩,
 ⟨(some 42), (some (38, false)), .mv (.t 41)⟩,
 ⟨(some 43), (some (42, true)), .fa (.t 4) 10⟩,
 ⟨(some 44), (some (42, true)), .ld (.t 43)⟩,
 ⟨(some 45), (some (42, true)), .bin .neq (.t 44) (.v (.int .i64 0))⟩,
 ⟨(some 46), (some (38, false)), .pick (.t 42) (.t 45) (.v (.bool false))⟩,
 rO 47 (.pick (.t 38) (.v (.bool true)) (.t 46))])
 (.cond (.t 47) (.seq (.reg [rO 2 (.mv (.v (.int .i64 1)))])
 .ret)
 .skip))))))
 (.reg [rO 13 (.mv (.t 3)),
 rO 14 (.bin .add (.t 13) (.v (.int .i64 1))),
 rO 3 (.mv (.t 14))]))))))
 (.seq (.reg [rO 2 (.mv (.v (.int .i64 0)))])
 .ret)))),
 [.t 2]⟩
theorem k157 : cFn Tryz.prog Tryz.f157 = some c157 := by kernel_rfl
theorem polS_ok : OkT Tryz.prog 157 (pureSp polF_S) := by
  refine okT_fn (OkΓT.cons selFS_ok (OkΓT.cons l1In_ok (OkΓT.nil _))) Tryz.func157 (by kernel_rfl) k157 (fun x _ => ⟨by first | rfl | simp only [go_sem], by first | rfl | simp only [go_sem]⟩) ?_
  rintro l hl
  try dsimp only at *
  by_cases hr : l.length ≤ 20
  case neg =>
    rw [show polF l = 2 by simp only [polF]; rw [if_neg hr]]
    (dsimp only [c157, rO]; simp (maxSteps := 8000000) -implicitDefEqProofs (disch := omega) only [↓reduceIte, go_sem])
    repeat' first
      | ((first | refine gdKT_deq (fun hg hG => ?_) (fun hg hG => ?_) | refine condKT_deq (fun hg hG => ?_) (fun hg hG => ?_)) <;> (try simp (maxSteps := 8000000) -implicitDefEqProofs (disch := omega) only [↓reduceIte, go_sem, hG]) <;> clear hG)
      | ((first | refine gdKT_split (fun hg => ?_) (fun hg => ?_) | refine condKT_split (fun hg => ?_) (fun hg => ?_)) <;> (try simp (maxSteps := 8000000) -implicitDefEqProofs (disch := omega) only [↓reduceIte, go_sem, hg]))
      | (refine endT_p (.inr rfl) (by simp (maxSteps := 8000000) -implicitDefEqProofs (disch := omega) only [↓reduceIte, go_sem]; rfl) ?_; (first | exact vb_true (by omega) | exact vb_false (by omega) | exact vb_dec (by omega) | exact vi_eq (by omega) | rfl | (refine vi_eq ?_; simp_all; first | done | (intros; omega))))
      | exact endT_v (.inr rfl) (by simp (maxSteps := 8000000) -implicitDefEqProofs (disch := omega) only [↓reduceIte, go_sem]; try rfl) (fun _ => rfl)
  rw [show polF l = firstR l by simp only [polF]; rw [if_pos hr]]
  (dsimp only [c157, rO]; simp (maxSteps := 8000000) -implicitDefEqProofs (disch := omega) only [↓reduceIte, go_sem])
  refine awpT_loop (α := Nat) (fun i => ⟨slots [(0, .s (rowsT ruT l)), (3, .p (.int .i64 i))], []⟩) (fun i => i ≤ l.length ∧ firstR (l.drop i) = firstR l) (fun i => l.length - i) 0 ⟨by omega, by simp⟩ (le_of [] (by simp (maxSteps := 8000000) -implicitDefEqProofs (disch := omega) only [↓reduceIte, go_sem]) (by simp (maxSteps := 8000000) -implicitDefEqProofs (disch := omega) only [↓reduceIte, go_sem]) (by decide) (by simp)) ?_
  intro i ⟨hi, hinv⟩
  simp (maxSteps := 8000000) -implicitDefEqProofs (disch := omega) only [↓reduceIte, go_sem]
  refine condKT_dec (fun hlt => ?_) (fun hge => ?_)
  · obtain ⟨x, hx⟩ := get_ex (l := l) (i := i) (by omega)
    rw [firstR_at hx] at hinv
    by_cases hz : selF x.sel = 0
    case neg =>
      have e : ruleF x = selF x.sel := by unfold ruleF; rw [if_neg hz]
      rw [e, if_neg hz] at hinv
      rw [← hinv]
      simp (maxSteps := 8000000) -implicitDefEqProofs (disch := omega) only [↓reduceIte, go_sem, eq_true hlt, hx, ruT, selF_atx, in_at, peer_at, eq_false hz]
      repeat' first
        | ((first | refine gdKT_deq (fun hg hG => ?_) (fun hg hG => ?_) | refine condKT_deq (fun hg hG => ?_) (fun hg hG => ?_)) <;> (try simp (maxSteps := 8000000) -implicitDefEqProofs (disch := omega) only [↓reduceIte, go_sem, hG, eq_true hlt, hx, ruT, selF_atx, in_at, peer_at, eq_false hz]) <;> clear hG)
        | ((first | refine gdKT_split (fun hg => ?_) (fun hg => ?_) | refine condKT_split (fun hg => ?_) (fun hg => ?_)) <;> (try simp (maxSteps := 8000000) -implicitDefEqProofs (disch := omega) only [↓reduceIte, go_sem, hg, eq_true hlt, hx, ruT, selF_atx, in_at, peer_at, eq_false hz]))
        | (refine endT_p (.inr rfl) (by simp (maxSteps := 8000000) -implicitDefEqProofs (disch := omega) only [↓reduceIte, go_sem, eq_true hlt, hx, ruT, selF_atx, in_at, peer_at, eq_false hz]; rfl) ?_; (first | exact vb_true (by omega) | exact vb_false (by omega) | exact vb_dec (by omega) | exact vi_eq (by omega) | rfl | (refine vi_eq ?_; simp_all; first | done | (intros; omega))))
        | exact endT_v (.inr rfl) (by simp (maxSteps := 8000000) -implicitDefEqProofs (disch := omega) only [↓reduceIte, go_sem, eq_true hlt, hx, ruT, selF_atx, in_at, peer_at, eq_false hz]; try rfl) (fun _ => rfl)
    by_cases ha : 1 ≤ x.act ∧ x.act ≤ 3
    case neg =>
      have e : ruleF x = 3 := by unfold ruleF; rw [if_pos hz, if_neg ha]
      rw [e, if_neg (by decide)] at hinv
      rw [← hinv]
      simp (maxSteps := 8000000) -implicitDefEqProofs (disch := omega) only [↓reduceIte, go_sem, eq_true hlt, hx, ruT, selF_atx, in_at, peer_at, hz, eq_false ha]
      repeat' first
        | ((first | refine gdKT_deq (fun hg hG => ?_) (fun hg hG => ?_) | refine condKT_deq (fun hg hG => ?_) (fun hg hG => ?_)) <;> (try simp (maxSteps := 8000000) -implicitDefEqProofs (disch := omega) only [↓reduceIte, go_sem, hG, eq_true hlt, hx, ruT, selF_atx, in_at, peer_at, hz, eq_false ha]) <;> clear hG)
        | ((first | refine gdKT_split (fun hg => ?_) (fun hg => ?_) | refine condKT_split (fun hg => ?_) (fun hg => ?_)) <;> (try simp (maxSteps := 8000000) -implicitDefEqProofs (disch := omega) only [↓reduceIte, go_sem, hg, eq_true hlt, hx, ruT, selF_atx, in_at, peer_at, hz, eq_false ha]))
        | (refine endT_p (.inr rfl) (by simp (maxSteps := 8000000) -implicitDefEqProofs (disch := omega) only [↓reduceIte, go_sem, eq_true hlt, hx, ruT, selF_atx, in_at, peer_at, hz, eq_false ha]; rfl) ?_; (first | exact vb_true (by omega) | exact vb_false (by omega) | exact vb_dec (by omega) | exact vi_eq (by omega) | rfl | (refine vi_eq ?_; simp_all; first | done | (intros; omega))))
        | exact endT_v (.inr rfl) (by simp (maxSteps := 8000000) -implicitDefEqProofs (disch := omega) only [↓reduceIte, go_sem, eq_true hlt, hx, ruT, selF_atx, in_at, peer_at, hz, eq_false ha]; try rfl) (fun _ => rfl)
    by_cases hb : x.act = 3
    · by_cases hp : 1 ≤ x.pr ∧ x.pr ≤ 9
      · have e : ruleF x = 0 := by unfold ruleF; rw [if_pos hz, if_pos ha, if_neg (by omega)]
        rw [if_pos e] at hinv
        simp (maxSteps := 8000000) -implicitDefEqProofs (disch := omega) only [↓reduceIte, go_sem, eq_true hlt, hx, ruT, selF_atx, in_at, peer_at, hz, eq_true ha, eq_true hb, eq_true hp]
        refine loopKT_next (i + 1) ⟨by omega, hinv⟩ (by omega) ?_
        exact (le_of [] (by simp (maxSteps := 8000000) -implicitDefEqProofs (disch := omega) only [↓reduceIte, go_sem]) (by simp (maxSteps := 8000000) -implicitDefEqProofs (disch := omega) only [↓reduceIte, go_sem]) (by decide) (by simp))
      · have e : ruleF x = 1 := by unfold ruleF; rw [if_pos hz, if_pos ha, if_pos (.inl ⟨hb, hp⟩)]
        rw [e, if_neg (by decide)] at hinv
        rw [← hinv]
        simp (maxSteps := 8000000) -implicitDefEqProofs (disch := omega) only [↓reduceIte, go_sem, eq_true hlt, hx, ruT, selF_atx, in_at, peer_at, hz, eq_true ha, eq_true hb, eq_false hp]
        repeat' first
          | ((first | refine gdKT_deq (fun hg hG => ?_) (fun hg hG => ?_) | refine condKT_deq (fun hg hG => ?_) (fun hg hG => ?_)) <;> (try simp (maxSteps := 8000000) -implicitDefEqProofs (disch := omega) only [↓reduceIte, go_sem, hG, eq_true hlt, hx, ruT, selF_atx, in_at, peer_at, hz, eq_true ha, eq_true hb, eq_false hp]) <;> clear hG)
          | ((first | refine gdKT_split (fun hg => ?_) (fun hg => ?_) | refine condKT_split (fun hg => ?_) (fun hg => ?_)) <;> (try simp (maxSteps := 8000000) -implicitDefEqProofs (disch := omega) only [↓reduceIte, go_sem, hg, eq_true hlt, hx, ruT, selF_atx, in_at, peer_at, hz, eq_true ha, eq_true hb, eq_false hp]))
          | (refine endT_p (.inr rfl) (by simp (maxSteps := 8000000) -implicitDefEqProofs (disch := omega) only [↓reduceIte, go_sem, eq_true hlt, hx, ruT, selF_atx, in_at, peer_at, hz, eq_true ha, eq_true hb, eq_false hp]; rfl) ?_; (first | exact vb_true (by omega) | exact vb_false (by omega) | exact vb_dec (by omega) | exact vi_eq (by omega) | rfl | (refine vi_eq ?_; simp_all; first | done | (intros; omega))))
          | exact endT_v (.inr rfl) (by simp (maxSteps := 8000000) -implicitDefEqProofs (disch := omega) only [↓reduceIte, go_sem, eq_true hlt, hx, ruT, selF_atx, in_at, peer_at, hz, eq_true ha, eq_true hb, eq_false hp]; try rfl) (fun _ => rfl)
    · by_cases hp : x.pr = 0
      · have e : ruleF x = 0 := by unfold ruleF; rw [if_pos hz, if_pos ha, if_neg (by omega)]
        rw [if_pos e] at hinv
        simp (maxSteps := 8000000) -implicitDefEqProofs (disch := omega) only [↓reduceIte, go_sem, eq_true hlt, hx, ruT, selF_atx, in_at, peer_at, hz, eq_true ha, eq_false hb, eq_true hp]
        refine loopKT_next (i + 1) ⟨by omega, hinv⟩ (by omega) ?_
        exact (le_of [] (by simp (maxSteps := 8000000) -implicitDefEqProofs (disch := omega) only [↓reduceIte, go_sem]) (by simp (maxSteps := 8000000) -implicitDefEqProofs (disch := omega) only [↓reduceIte, go_sem]) (by decide) (by simp))
      · have e : ruleF x = 1 := by unfold ruleF; rw [if_pos hz, if_pos ha, if_pos (.inr ⟨hb, hp⟩)]
        rw [e, if_neg (by decide)] at hinv
        rw [← hinv]
        simp (maxSteps := 8000000) -implicitDefEqProofs (disch := omega) only [↓reduceIte, go_sem, eq_true hlt, hx, ruT, selF_atx, in_at, peer_at, hz, eq_true ha, eq_false hb, eq_false hp]
        repeat' first
          | ((first | refine gdKT_deq (fun hg hG => ?_) (fun hg hG => ?_) | refine condKT_deq (fun hg hG => ?_) (fun hg hG => ?_)) <;> (try simp (maxSteps := 8000000) -implicitDefEqProofs (disch := omega) only [↓reduceIte, go_sem, hG, eq_true hlt, hx, ruT, selF_atx, in_at, peer_at, hz, eq_true ha, eq_false hb, eq_false hp]) <;> clear hG)
          | ((first | refine gdKT_split (fun hg => ?_) (fun hg => ?_) | refine condKT_split (fun hg => ?_) (fun hg => ?_)) <;> (try simp (maxSteps := 8000000) -implicitDefEqProofs (disch := omega) only [↓reduceIte, go_sem, hg, eq_true hlt, hx, ruT, selF_atx, in_at, peer_at, hz, eq_true ha, eq_false hb, eq_false hp]))
          | (refine endT_p (.inr rfl) (by simp (maxSteps := 8000000) -implicitDefEqProofs (disch := omega) only [↓reduceIte, go_sem, eq_true hlt, hx, ruT, selF_atx, in_at, peer_at, hz, eq_true ha, eq_false hb, eq_false hp]; rfl) ?_; (first | exact vb_true (by omega) | exact vb_false (by omega) | exact vb_dec (by omega) | exact vi_eq (by omega) | rfl | (refine vi_eq ?_; simp_all; first | done | (intros; omega))))
          | exact endT_v (.inr rfl) (by simp (maxSteps := 8000000) -implicitDefEqProofs (disch := omega) only [↓reduceIte, go_sem, eq_true hlt, hx, ruT, selF_atx, in_at, peer_at, hz, eq_true ha, eq_false hb, eq_false hp]; try rfl) (fun _ => rfl)
  · rw [show l.drop i = [] from List.drop_eq_nil_of_le (by omega), firstR] at hinv
    rw [← hinv]
    simp (maxSteps := 8000000) -implicitDefEqProofs (disch := omega) only [↓reduceIte, go_sem, eq_false hge]
    refine joinK_here ?_
    simp (maxSteps := 8000000) -implicitDefEqProofs (disch := omega) only [↓reduceIte, go_sem]
    repeat' first
      | ((first | refine gdKT_deq (fun hg hG => ?_) (fun hg hG => ?_) | refine condKT_deq (fun hg hG => ?_) (fun hg hG => ?_)) <;> (try simp (maxSteps := 8000000) -implicitDefEqProofs (disch := omega) only [↓reduceIte, go_sem, hG]) <;> clear hG)
      | ((first | refine gdKT_split (fun hg => ?_) (fun hg => ?_) | refine condKT_split (fun hg => ?_) (fun hg => ?_)) <;> (try simp (maxSteps := 8000000) -implicitDefEqProofs (disch := omega) only [↓reduceIte, go_sem, hg]))
      | (refine endT_p (.inr rfl) (by simp (maxSteps := 8000000) -implicitDefEqProofs (disch := omega) only [↓reduceIte, go_sem]; rfl) ?_; (first | exact vb_true (by omega) | exact vb_false (by omega) | exact vb_dec (by omega) | exact vi_eq (by omega) | rfl | (refine vi_eq ?_; simp_all; first | done | (intros; omega))))
      | exact endT_v (.inr rfl) (by simp (maxSteps := 8000000) -implicitDefEqProofs (disch := omega) only [↓reduceIte, go_sem]; try rfl) (fun _ => rfl)
-- impl.PolicyFault
def c93 : AF := ⟨47,
 (.seq (.reg [rO 2 (.mv (.v (.int .i64 0)))])
 (.seq (.seq (.reg [rO 6 (.mv (.t 0)),
 rO 7 (.len (.t 6)),
 rO 8 (.bin .gtr (.t 7) (.v (.int .i64 20)))])
 (.cond (.t 8) (.seq (.reg [rO 2 (.mv (.v (.int .i64 2)))])
 .ret)
 .skip))
 (.seq (.seq (.reg [rO 9 (.mv (.t 0)),
 rO 10 (.len (.t 9)),
 rO 11 (.mv (.v (.int .i64 0)))])
 (.block 0 (.loop (.seq (.reg [rO 12 (.bin .lss (.t 11) (.t 10))])
 (.seq (.cond (.t 12) .skip
 (.exit 0))
 (.seq (.block 1 (.seq (.reg [rO 13 (.ia 11 (.t 9) (.t 11)),
 rO 14 (.ldn 11 (.t 13)),
 rO 4 (.alloc 105 [(.int .i64 0), (.int .i64 0), (.int .i64 0), (.int .i64 0), (.int .i64 0), (.int .i64 0), (.int .i64 0), (.int .i64 0), (.int .i64 0), (.int .i64 0), (.int .i64 0)]),
 ⟨none, none, .st 11 (.t 4) (.t 14)⟩])
 (.seq (.seq (.reg [rO 15 (.fa (.t 4) 0),
 rO 16 (.ldn 9 (.t 15)),
 rO 17 (.call 159 [(.t 16)]),
 rO 5 (.mv (.t 17))])
 (.seq (.reg [rO 18 (.mv (.t 5)),
 rO 19 (.bin .neq (.t 18) (.v (.int .i64 0)))])
 (.cond (.t 19) (.seq (.reg [rO 20 (.mv (.t 5)),
 rO 2 (.mv (.t 20))])
 .ret)
 .skip)))
 (.block 2 (.seq (.reg [rO 22 (.fa (.t 4) 9),
 rO 23 (.ld (.t 22)),
 rO 24 (.call 43 [(.t 23), (.v (.int .i64 1)), (.v (.int .i64 3))]),
 rO 25 (.un .not (.t 24)),
 rO 21 (.mv (.t 25))])
 (.cond (.t 21) (.seq (.reg [rO 2 (.mv (.v (.int .i64 3)))])
 .ret)
 (.seq (.reg [rO 27 (.fa (.t 4) 9),
 rO 28 (.ld (.t 27)),
 rO 29 (.bin .eql (.t 28) (.v (.int .i64 3))),
 rO 30 (.mv (.t 29)),
 ⟨(some 31), (some (30, true)), .fa (.t 4) 10⟩,
 ⟨(some 32), (some (30, true)), .ld (.t 31)⟩,
 ⟨(some 33), (some (30, true)), .call 160 [(.t 32)]⟩,
 ⟨(some 34), (some (30, true)), .un .not (.t 33)⟩,
 rO 35 (.pick (.t 30) (.t 34) (.v (.bool false))),
 rO 36 (.mv (.t 35)),
 ⟨(some 37), (some (36, false)), .fa (.t 4) 9⟩,
 ⟨(some 38), (some (36, false)), .ld (.t 37)⟩,
 ⟨(some 39), (some (36, false)), .bin .neq (.t 38) (.v (.int .i64 3))⟩,
 ⟨(some 40), (some (36, false)), .mv (.t 39)⟩,
 ⟨(some 41), (some (40, true)), .fa (.t 4) 10⟩,
 ⟨(some 42), (some (40, true)), .ld (.t 41)⟩,
 ⟨(some 43), (some (40, true)), .bin .neq (.t 42) (.v (.int .i64 0))⟩,
 ⟨(some 44), (some (36, false)), .pick (.t 40) (.t 43) (.v (.bool false))⟩,
 rO 45 (.pick (.t 36) (.v (.bool true)) (.t 44)),
 rO 26 (.mv (.t 45))])
 (.cond (.t 26) (.seq (.reg [rO 2 (.mv (.v (.int .i64 1)))])
 .ret)
 .skip))))))))
 (.reg [rO 46 (.bin .add (.t 11) (.v (.int .i64 1))),
 rO 11 (.mv (.t 46))])))))))
 (.seq (.reg [rO 2 (.mv (.v (.int .i64 0)))])
 .ret)))),
 [.t 2]⟩
theorem k93 : cFn Tryz.prog Tryz.f93 = some c93 := by kernel_rfl
theorem polI_ok : OkT Tryz.prog 93 (pureSp polF_S) := by
  refine okT_fn (OkΓT.cons selFI_ok (OkΓT.cons in_ok (OkΓT.cons isPeer_ok (OkΓT.nil _)))) Tryz.func93 (by kernel_rfl) k93 (fun x _ => ⟨by first | rfl | simp only [go_sem], by first | rfl | simp only [go_sem]⟩) ?_
  rintro l hl
  try dsimp only at *
  by_cases hr : l.length ≤ 20
  case neg =>
    rw [show polF l = 2 by simp only [polF]; rw [if_neg hr]]
    (dsimp only [c93, rO]; simp (maxSteps := 8000000) -implicitDefEqProofs (disch := omega) only [↓reduceIte, go_sem])
    repeat' first
      | ((first | refine gdKT_deq (fun hg hG => ?_) (fun hg hG => ?_) | refine condKT_deq (fun hg hG => ?_) (fun hg hG => ?_)) <;> (try simp (maxSteps := 8000000) -implicitDefEqProofs (disch := omega) only [↓reduceIte, go_sem, hG]) <;> clear hG)
      | ((first | refine gdKT_split (fun hg => ?_) (fun hg => ?_) | refine condKT_split (fun hg => ?_) (fun hg => ?_)) <;> (try simp (maxSteps := 8000000) -implicitDefEqProofs (disch := omega) only [↓reduceIte, go_sem, hg]))
      | (refine endT_p (.inr rfl) (by simp (maxSteps := 8000000) -implicitDefEqProofs (disch := omega) only [↓reduceIte, go_sem]; rfl) ?_; (first | exact vb_true (by omega) | exact vb_false (by omega) | exact vb_dec (by omega) | exact vi_eq (by omega) | rfl | (refine vi_eq ?_; simp_all; first | done | (intros; omega))))
      | exact endT_v (.inr rfl) (by simp (maxSteps := 8000000) -implicitDefEqProofs (disch := omega) only [↓reduceIte, go_sem]; try rfl) (fun _ => rfl)
  rw [show polF l = firstR l by simp only [polF]; rw [if_pos hr]]
  (dsimp only [c93, rO]; simp (maxSteps := 8000000) -implicitDefEqProofs (disch := omega) only [↓reduceIte, go_sem])
  refine awpT_loop (α := Nat) (fun i => ⟨slots [(9, .s (rowsT ruT l)), (10, .p (.int .i64 l.length)), (11, .p (.int .i64 i))], []⟩) (fun i => i ≤ l.length ∧ firstR (l.drop i) = firstR l) (fun i => l.length - i) 0 ⟨by omega, by simp⟩ (le_of [] (by simp (maxSteps := 8000000) -implicitDefEqProofs (disch := omega) only [↓reduceIte, go_sem]) (by simp (maxSteps := 8000000) -implicitDefEqProofs (disch := omega) only [↓reduceIte, go_sem]) (by decide) (by simp)) ?_
  intro i ⟨hi, hinv⟩
  simp (maxSteps := 8000000) -implicitDefEqProofs (disch := omega) only [↓reduceIte, go_sem]
  refine condKT_dec (fun hlt => ?_) (fun hge => ?_)
  · obtain ⟨x, hx⟩ := get_ex (l := l) (i := i) (by omega)
    rw [firstR_at hx] at hinv
    by_cases hz : selF x.sel = 0
    case neg =>
      have e : ruleF x = selF x.sel := by unfold ruleF; rw [if_neg hz]
      rw [e, if_neg hz] at hinv
      rw [← hinv]
      simp (maxSteps := 8000000) -implicitDefEqProofs (disch := omega) only [↓reduceIte, go_sem, eq_true hlt, hx, ruT, selF_atx, in_at, peer_at, eq_false hz]
      repeat' first
        | ((first | refine gdKT_deq (fun hg hG => ?_) (fun hg hG => ?_) | refine condKT_deq (fun hg hG => ?_) (fun hg hG => ?_)) <;> (try simp (maxSteps := 8000000) -implicitDefEqProofs (disch := omega) only [↓reduceIte, go_sem, hG, eq_true hlt, hx, ruT, selF_atx, in_at, peer_at, eq_false hz]) <;> clear hG)
        | ((first | refine gdKT_split (fun hg => ?_) (fun hg => ?_) | refine condKT_split (fun hg => ?_) (fun hg => ?_)) <;> (try simp (maxSteps := 8000000) -implicitDefEqProofs (disch := omega) only [↓reduceIte, go_sem, hg, eq_true hlt, hx, ruT, selF_atx, in_at, peer_at, eq_false hz]))
        | (refine endT_p (.inr rfl) (by simp (maxSteps := 8000000) -implicitDefEqProofs (disch := omega) only [↓reduceIte, go_sem, eq_true hlt, hx, ruT, selF_atx, in_at, peer_at, eq_false hz]; rfl) ?_; (first | exact vb_true (by omega) | exact vb_false (by omega) | exact vb_dec (by omega) | exact vi_eq (by omega) | rfl | (refine vi_eq ?_; simp_all; first | done | (intros; omega))))
        | exact endT_v (.inr rfl) (by simp (maxSteps := 8000000) -implicitDefEqProofs (disch := omega) only [↓reduceIte, go_sem, eq_true hlt, hx, ruT, selF_atx, in_at, peer_at, eq_false hz]; try rfl) (fun _ => rfl)
    by_cases ha : 1 ≤ x.act ∧ x.act ≤ 3
    case neg =>
      have e : ruleF x = 3 := by unfold ruleF; rw [if_pos hz, if_neg ha]
      rw [e, if_neg (by decide)] at hinv
      rw [← hinv]
      simp (maxSteps := 8000000) -implicitDefEqProofs (disch := omega) only [↓reduceIte, go_sem, eq_true hlt, hx, ruT, selF_atx, in_at, peer_at, hz, eq_false ha]
      repeat' first
        | ((first | refine gdKT_deq (fun hg hG => ?_) (fun hg hG => ?_) | refine condKT_deq (fun hg hG => ?_) (fun hg hG => ?_)) <;> (try simp (maxSteps := 8000000) -implicitDefEqProofs (disch := omega) only [↓reduceIte, go_sem, hG, eq_true hlt, hx, ruT, selF_atx, in_at, peer_at, hz, eq_false ha]) <;> clear hG)
        | ((first | refine gdKT_split (fun hg => ?_) (fun hg => ?_) | refine condKT_split (fun hg => ?_) (fun hg => ?_)) <;> (try simp (maxSteps := 8000000) -implicitDefEqProofs (disch := omega) only [↓reduceIte, go_sem, hg, eq_true hlt, hx, ruT, selF_atx, in_at, peer_at, hz, eq_false ha]))
        | (refine endT_p (.inr rfl) (by simp (maxSteps := 8000000) -implicitDefEqProofs (disch := omega) only [↓reduceIte, go_sem, eq_true hlt, hx, ruT, selF_atx, in_at, peer_at, hz, eq_false ha]; rfl) ?_; (first | exact vb_true (by omega) | exact vb_false (by omega) | exact vb_dec (by omega) | exact vi_eq (by omega) | rfl | (refine vi_eq ?_; simp_all; first | done | (intros; omega))))
        | exact endT_v (.inr rfl) (by simp (maxSteps := 8000000) -implicitDefEqProofs (disch := omega) only [↓reduceIte, go_sem, eq_true hlt, hx, ruT, selF_atx, in_at, peer_at, hz, eq_false ha]; try rfl) (fun _ => rfl)
    by_cases hb : x.act = 3
    · by_cases hp : 1 ≤ x.pr ∧ x.pr ≤ 9
      · have e : ruleF x = 0 := by unfold ruleF; rw [if_pos hz, if_pos ha, if_neg (by omega)]
        rw [if_pos e] at hinv
        simp (maxSteps := 8000000) -implicitDefEqProofs (disch := omega) only [↓reduceIte, go_sem, eq_true hlt, hx, ruT, selF_atx, in_at, peer_at, hz, eq_true ha, eq_true hb, eq_true hp]
        refine loopKT_next (i + 1) ⟨by omega, hinv⟩ (by omega) ?_
        exact (le_of [] (by simp (maxSteps := 8000000) -implicitDefEqProofs (disch := omega) only [↓reduceIte, go_sem]) (by simp (maxSteps := 8000000) -implicitDefEqProofs (disch := omega) only [↓reduceIte, go_sem]) (by decide) (by simp))
      · have e : ruleF x = 1 := by unfold ruleF; rw [if_pos hz, if_pos ha, if_pos (.inl ⟨hb, hp⟩)]
        rw [e, if_neg (by decide)] at hinv
        rw [← hinv]
        simp (maxSteps := 8000000) -implicitDefEqProofs (disch := omega) only [↓reduceIte, go_sem, eq_true hlt, hx, ruT, selF_atx, in_at, peer_at, hz, eq_true ha, eq_true hb, eq_false hp]
        repeat' first
          | ((first | refine gdKT_deq (fun hg hG => ?_) (fun hg hG => ?_) | refine condKT_deq (fun hg hG => ?_) (fun hg hG => ?_)) <;> (try simp (maxSteps := 8000000) -implicitDefEqProofs (disch := omega) only [↓reduceIte, go_sem, hG, eq_true hlt, hx, ruT, selF_atx, in_at, peer_at, hz, eq_true ha, eq_true hb, eq_false hp]) <;> clear hG)
          | ((first | refine gdKT_split (fun hg => ?_) (fun hg => ?_) | refine condKT_split (fun hg => ?_) (fun hg => ?_)) <;> (try simp (maxSteps := 8000000) -implicitDefEqProofs (disch := omega) only [↓reduceIte, go_sem, hg, eq_true hlt, hx, ruT, selF_atx, in_at, peer_at, hz, eq_true ha, eq_true hb, eq_false hp]))
          | (refine endT_p (.inr rfl) (by simp (maxSteps := 8000000) -implicitDefEqProofs (disch := omega) only [↓reduceIte, go_sem, eq_true hlt, hx, ruT, selF_atx, in_at, peer_at, hz, eq_true ha, eq_true hb, eq_false hp]; rfl) ?_; (first | exact vb_true (by omega) | exact vb_false (by omega) | exact vb_dec (by omega) | exact vi_eq (by omega) | rfl | (refine vi_eq ?_; simp_all; first | done | (intros; omega))))
          | exact endT_v (.inr rfl) (by simp (maxSteps := 8000000) -implicitDefEqProofs (disch := omega) only [↓reduceIte, go_sem, eq_true hlt, hx, ruT, selF_atx, in_at, peer_at, hz, eq_true ha, eq_true hb, eq_false hp]; try rfl) (fun _ => rfl)
    · by_cases hp : x.pr = 0
      · have e : ruleF x = 0 := by unfold ruleF; rw [if_pos hz, if_pos ha, if_neg (by omega)]
        rw [if_pos e] at hinv
        simp (maxSteps := 8000000) -implicitDefEqProofs (disch := omega) only [↓reduceIte, go_sem, eq_true hlt, hx, ruT, selF_atx, in_at, peer_at, hz, eq_true ha, eq_false hb, eq_true hp]
        refine loopKT_next (i + 1) ⟨by omega, hinv⟩ (by omega) ?_
        exact (le_of [] (by simp (maxSteps := 8000000) -implicitDefEqProofs (disch := omega) only [↓reduceIte, go_sem]) (by simp (maxSteps := 8000000) -implicitDefEqProofs (disch := omega) only [↓reduceIte, go_sem]) (by decide) (by simp))
      · have e : ruleF x = 1 := by unfold ruleF; rw [if_pos hz, if_pos ha, if_pos (.inr ⟨hb, hp⟩)]
        rw [e, if_neg (by decide)] at hinv
        rw [← hinv]
        simp (maxSteps := 8000000) -implicitDefEqProofs (disch := omega) only [↓reduceIte, go_sem, eq_true hlt, hx, ruT, selF_atx, in_at, peer_at, hz, eq_true ha, eq_false hb, eq_false hp]
        repeat' first
          | ((first | refine gdKT_deq (fun hg hG => ?_) (fun hg hG => ?_) | refine condKT_deq (fun hg hG => ?_) (fun hg hG => ?_)) <;> (try simp (maxSteps := 8000000) -implicitDefEqProofs (disch := omega) only [↓reduceIte, go_sem, hG, eq_true hlt, hx, ruT, selF_atx, in_at, peer_at, hz, eq_true ha, eq_false hb, eq_false hp]) <;> clear hG)
          | ((first | refine gdKT_split (fun hg => ?_) (fun hg => ?_) | refine condKT_split (fun hg => ?_) (fun hg => ?_)) <;> (try simp (maxSteps := 8000000) -implicitDefEqProofs (disch := omega) only [↓reduceIte, go_sem, hg, eq_true hlt, hx, ruT, selF_atx, in_at, peer_at, hz, eq_true ha, eq_false hb, eq_false hp]))
          | (refine endT_p (.inr rfl) (by simp (maxSteps := 8000000) -implicitDefEqProofs (disch := omega) only [↓reduceIte, go_sem, eq_true hlt, hx, ruT, selF_atx, in_at, peer_at, hz, eq_true ha, eq_false hb, eq_false hp]; rfl) ?_; (first | exact vb_true (by omega) | exact vb_false (by omega) | exact vb_dec (by omega) | exact vi_eq (by omega) | rfl | (refine vi_eq ?_; simp_all; first | done | (intros; omega))))
          | exact endT_v (.inr rfl) (by simp (maxSteps := 8000000) -implicitDefEqProofs (disch := omega) only [↓reduceIte, go_sem, eq_true hlt, hx, ruT, selF_atx, in_at, peer_at, hz, eq_true ha, eq_false hb, eq_false hp]; try rfl) (fun _ => rfl)
  · rw [show l.drop i = [] from List.drop_eq_nil_of_le (by omega), firstR] at hinv
    rw [← hinv]
    simp (maxSteps := 8000000) -implicitDefEqProofs (disch := omega) only [↓reduceIte, go_sem, eq_false hge]
    refine joinK_here ?_
    simp (maxSteps := 8000000) -implicitDefEqProofs (disch := omega) only [↓reduceIte, go_sem]
    repeat' first
      | ((first | refine gdKT_deq (fun hg hG => ?_) (fun hg hG => ?_) | refine condKT_deq (fun hg hG => ?_) (fun hg hG => ?_)) <;> (try simp (maxSteps := 8000000) -implicitDefEqProofs (disch := omega) only [↓reduceIte, go_sem, hG]) <;> clear hG)
      | ((first | refine gdKT_split (fun hg => ?_) (fun hg => ?_) | refine condKT_split (fun hg => ?_) (fun hg => ?_)) <;> (try simp (maxSteps := 8000000) -implicitDefEqProofs (disch := omega) only [↓reduceIte, go_sem, hg]))
      | (refine endT_p (.inr rfl) (by simp (maxSteps := 8000000) -implicitDefEqProofs (disch := omega) only [↓reduceIte, go_sem]; rfl) ?_; (first | exact vb_true (by omega) | exact vb_false (by omega) | exact vb_dec (by omega) | exact vi_eq (by omega) | rfl | (refine vi_eq ?_; simp_all; first | done | (intros; omega))))
      | exact endT_v (.inr rfl) (by simp (maxSteps := 8000000) -implicitDefEqProofs (disch := omega) only [↓reduceIte, go_sem]; try rfl) (fun _ => rfl)
noncomputable def peeF_S := specP (fun x : List PrR => [.s (rowsT prT x)]) (fun x => x.length ≤ 140737488355328) (fun x => (.p (.int .i64 (peeF x)), []))
theorem peeF_at (l : List PrR) (h : l.length ≤ 140737488355328) : peeF_S [.s (rowsT prT l)] = some ((.p (.int .i64 (peeF l)), [])) := specP_at (enc := fun x : List PrR => [.s (rowsT prT x)]) (by rintro a0 b0 h; simp only [List.cons.injEq, and_true] at h; have h0 := h; obtain rfl := prs_inj h0; rfl) l h
-- spec.l17Peers
def c158 : AF := ⟨45,
 (.seq (.reg [rO 2 (.mv (.v (.int .i64 0)))])
 (.seq (.seq (.reg [rO 4 (.mv (.t 0)),
 rO 5 (.len (.t 4)),
 rO 6 (.bin .gtr (.t 5) (.v (.int .i64 9)))])
 (.cond (.t 6) (.seq (.reg [rO 2 (.mv (.v (.int .i64 2)))])
 .ret)
 .skip))
 (.seq (.seq (.reg [rO 3 (.mv (.v (.int .i64 0)))])
 (.block 0 (.loop (.seq (.seq (.reg [rO 7 (.mv (.t 3)),
 rO 8 (.mv (.t 0)),
 rO 9 (.len (.t 8)),
 rO 10 (.bin .lss (.t 7) (.t 9))])
 (.cond (.t 10) .skip
 (.exit 0)))
 (.seq (.block 1 (.seq (.seq (.reg [rO 13 (.mv (.t 0)),
 rO 14 (.mv (.t 3)),
 rO 15 (.ia 2 (.t 13) (.t 14)),
 rO 16 (.fa (.t 15) 0),
 rO 17 (.ld (.t 16)),
 rO 18 (.call 35 [(.t 17), (.v (.int .i64 1)), (.v (.int .i64 9))]),
 rO 19 (.un .not (.t 18)),
 rO 20 (.mv (.t 19)),
 ⟨(some 21), (some (20, false)), .mv (.t 0)⟩,
 ⟨(some 22), (some (20, false)), .mv (.t 3)⟩,
 ⟨(some 23), (some (20, false)), .ia 2 (.t 21) (.t 22)⟩,
 ⟨(some 24), (some (20, false)), .fa (.t 23) 1⟩,
 ⟨(some 25), (some (20, false)), .ld (.t 24)⟩,
 ⟨(some 26), (some (20, false)), .call 156 [(.t 25)]⟩,
 ⟨(some 27), (some (20, false)), .un .not (.t 26)⟩,
 rO 28 (.pick (.t 20) (.v (.bool true)) (.t 27))])
 (.cond (.t 28) (.seq (.reg [rO 2 (.mv (.v (.int .i64 3)))])
 .ret)
 .skip))
 (.seq (.drw [rO 29 (.mv (.t 3)),
 rO 30 (.bin .gtr (.t 29) (.v (.int .i64 0))),
 rO 31 (.mv (.t 30)),
 ⟨(some 32), (some (31, true)), .mv (.t 0)⟩,
 ⟨(some 33), (some (31, true)), .mv (.t 3)⟩,
 ⟨(some 34), (some (31, true)), .ia 2 (.t 32) (.t 33)⟩,
 ⟨(some 35), (some (31, true)), .fa (.t 34) 0⟩,
 ⟨(some 36), (some (31, true)), .ld (.t 35)⟩,
 ⟨(some 37), (some (31, true)), .mv (.t 0)⟩,
 ⟨(some 38), (some (31, true)), .mv (.t 3)⟩,
 ⟨(some 39), (some (31, true)), .bin .sub (.t 38) (.v (.int .i64 1))⟩,
 ⟨(some 40), (some (31, true)), .ia 2 (.t 37) (.t 39)⟩,
 ⟨(some 41), (some (31, true)), .fa (.t 40) 0⟩,
 ⟨(some 42), (some (31, true)), .ld (.t 41)⟩] [⟨(some 43), (some (31, true)), .bin .leq (.t 36) (.t 42)⟩,
 rO 44 (.pick (.t 31) (.t 43) (.v (.bool false)))])
 (.cond (.t 44) (.seq (.reg [rO 2 (.mv (.v (.int .i64 1)))])
 .ret)
 .skip))))
 (.reg [rO 11 (.mv (.t 3)),
 rO 12 (.bin .add (.t 11) (.v (.int .i64 1))),
 rO 3 (.mv (.t 12))]))))))
 (.seq (.reg [rO 2 (.mv (.v (.int .i64 0)))])
 .ret)))),
 [.t 2]⟩
theorem k158 : cFn Tryz.prog Tryz.f158 = some c158 := by kernel_rfl
theorem peeS_ok : OkT Tryz.prog 158 (pureSp peeF_S) := by
  refine okT_fn (OkΓT.cons l1In_ok (OkΓT.cons l2Address_ok (OkΓT.nil _))) Tryz.func158 (by kernel_rfl) k158 (fun x _ => ⟨by first | rfl | simp only [go_sem], by first | rfl | simp only [go_sem]⟩) ?_
  rintro l hl
  try dsimp only at *
  by_cases hr : l.length ≤ 9
  case neg =>
    rw [show peeF l = 2 by simp only [peeF]; rw [if_neg hr]]
    (dsimp only [c158, rO]; simp (maxSteps := 8000000) -implicitDefEqProofs (disch := omega) only [↓reduceIte, go_sem])
    repeat' first
      | ((first | refine gdKT_deq (fun hg hG => ?_) (fun hg hG => ?_) | refine condKT_deq (fun hg hG => ?_) (fun hg hG => ?_)) <;> (try simp (maxSteps := 8000000) -implicitDefEqProofs (disch := omega) only [↓reduceIte, go_sem, hG]) <;> clear hG)
      | ((first | refine gdKT_split (fun hg => ?_) (fun hg => ?_) | refine condKT_split (fun hg => ?_) (fun hg => ?_)) <;> (try simp (maxSteps := 8000000) -implicitDefEqProofs (disch := omega) only [↓reduceIte, go_sem, hg]))
      | (refine endT_p (.inr rfl) (by simp (maxSteps := 8000000) -implicitDefEqProofs (disch := omega) only [↓reduceIte, go_sem]; rfl) ?_; (first | exact vb_true (by omega) | exact vb_false (by omega) | exact vb_dec (by omega) | exact vi_eq (by omega) | rfl | (refine vi_eq ?_; simp_all; first | done | (intros; omega))))
      | exact endT_v (.inr rfl) (by simp (maxSteps := 8000000) -implicitDefEqProofs (disch := omega) only [↓reduceIte, go_sem]; try rfl) (fun _ => rfl)
  rw [show peeF l = firstP none l by simp only [peeF]; rw [if_pos hr]]
  (dsimp only [c158, rO]; simp (maxSteps := 8000000) -implicitDefEqProofs (disch := omega) only [↓reduceIte, go_sem])
  refine awpT_loop (α := Nat) (fun i => ⟨slots [(0, .s (rowsT prT l)), (3, .p (.int .i64 i))], []⟩) (fun i => i ≤ l.length ∧ firstP (prevP l i) (l.drop i) = firstP none l) (fun i => l.length - i) 0 ⟨by omega, by simp [prevP]⟩ (le_of [] (by simp (maxSteps := 8000000) -implicitDefEqProofs (disch := omega) only [↓reduceIte, go_sem]) (by simp (maxSteps := 8000000) -implicitDefEqProofs (disch := omega) only [↓reduceIte, go_sem]) (by decide) (by simp)) ?_
  intro i ⟨hi, hinv⟩
  simp (maxSteps := 8000000) -implicitDefEqProofs (disch := omega) only [↓reduceIte, go_sem]
  refine condKT_dec (fun hlt => ?_) (fun hge => ?_)
  · obtain ⟨x, hx⟩ := get_ex (l := l) (i := i) (by omega)
    rw [firstP_at hx, ← prevP_succ hx] at hinv
    by_cases hz : 1 ≤ x.id ∧ x.id ≤ 9
    case neg =>
      rw [if_neg (fun h => hz h.1)] at hinv
      rw [← hinv]
      simp (maxSteps := 8000000) -implicitDefEqProofs (disch := omega) only [↓reduceIte, go_sem, eq_true hlt, hx, prT, in_at, peer_at, adr_at, eq_false hz]
      repeat' first
        | ((first | refine gdKT_deq (fun hg hG => ?_) (fun hg hG => ?_) | refine condKT_deq (fun hg hG => ?_) (fun hg hG => ?_)) <;> (try simp (maxSteps := 8000000) -implicitDefEqProofs (disch := omega) only [↓reduceIte, go_sem, hG, eq_true hlt, hx, prT, in_at, peer_at, adr_at, eq_false hz]) <;> clear hG)
        | ((first | refine gdKT_split (fun hg => ?_) (fun hg => ?_) | refine condKT_split (fun hg => ?_) (fun hg => ?_)) <;> (try simp (maxSteps := 8000000) -implicitDefEqProofs (disch := omega) only [↓reduceIte, go_sem, hg, eq_true hlt, hx, prT, in_at, peer_at, adr_at, eq_false hz]))
        | (refine endT_p (.inr rfl) (by simp (maxSteps := 8000000) -implicitDefEqProofs (disch := omega) only [↓reduceIte, go_sem, eq_true hlt, hx, prT, in_at, peer_at, adr_at, eq_false hz]; rfl) ?_; (first | exact vb_true (by omega) | exact vb_false (by omega) | exact vb_dec (by omega) | exact vi_eq (by omega) | rfl | (refine vi_eq ?_; simp_all; first | done | (intros; omega))))
        | exact endT_v (.inr rfl) (by simp (maxSteps := 8000000) -implicitDefEqProofs (disch := omega) only [↓reduceIte, go_sem, eq_true hlt, hx, prT, in_at, peer_at, adr_at, eq_false hz]; try rfl) (fun _ => rfl)
    by_cases ha : 0 ≤ x.ad ∧ x.ad ≤ 4294967295
    case neg =>
      rw [if_neg (fun h => ha h.2)] at hinv
      rw [← hinv]
      simp (maxSteps := 8000000) -implicitDefEqProofs (disch := omega) only [↓reduceIte, go_sem, eq_true hlt, hx, prT, in_at, peer_at, adr_at, eq_true hz, eq_false ha]
      repeat' first
        | ((first | refine gdKT_deq (fun hg hG => ?_) (fun hg hG => ?_) | refine condKT_deq (fun hg hG => ?_) (fun hg hG => ?_)) <;> (try simp (maxSteps := 8000000) -implicitDefEqProofs (disch := omega) only [↓reduceIte, go_sem, hG, eq_true hlt, hx, prT, in_at, peer_at, adr_at, eq_true hz, eq_false ha]) <;> clear hG)
        | ((first | refine gdKT_split (fun hg => ?_) (fun hg => ?_) | refine condKT_split (fun hg => ?_) (fun hg => ?_)) <;> (try simp (maxSteps := 8000000) -implicitDefEqProofs (disch := omega) only [↓reduceIte, go_sem, hg, eq_true hlt, hx, prT, in_at, peer_at, adr_at, eq_true hz, eq_false ha]))
        | (refine endT_p (.inr rfl) (by simp (maxSteps := 8000000) -implicitDefEqProofs (disch := omega) only [↓reduceIte, go_sem, eq_true hlt, hx, prT, in_at, peer_at, adr_at, eq_true hz, eq_false ha]; rfl) ?_; (first | exact vb_true (by omega) | exact vb_false (by omega) | exact vb_dec (by omega) | exact vi_eq (by omega) | rfl | (refine vi_eq ?_; simp_all; first | done | (intros; omega))))
        | exact endT_v (.inr rfl) (by simp (maxSteps := 8000000) -implicitDefEqProofs (disch := omega) only [↓reduceIte, go_sem, eq_true hlt, hx, prT, in_at, peer_at, adr_at, eq_true hz, eq_false ha]; try rfl) (fun _ => rfl)
    rw [if_pos ⟨hz, ha⟩] at hinv
    by_cases h0 : i = 0
    · rw [show prevP l i = none by simp [prevP, h0], if_neg (by simp [badO])] at hinv
      simp (maxSteps := 8000000) -implicitDefEqProofs (disch := omega) only [↓reduceIte, go_sem, eq_true hlt, hx, prT, in_at, peer_at, adr_at, eq_true hz, eq_true ha]
      refine loopKT_next (i + 1) ⟨by omega, hinv⟩ (by omega) ?_
      exact (le_of [] (by simp (maxSteps := 8000000) -implicitDefEqProofs (disch := omega) only [↓reduceIte, go_sem]) (by simp (maxSteps := 8000000) -implicitDefEqProofs (disch := omega) only [↓reduceIte, go_sem]) (by decide) (by simp))
    · obtain ⟨y, hy⟩ := get_ex (l := l) (i := i - 1) (by omega)
      rw [show prevP l i = some y.id by simp [prevP, h0, hy]] at hinv
      have hpi : ((i : Int) - 1).toNat = i - 1 := by omega
      by_cases hb : x.id ≤ y.id
      · rw [if_pos (show badO (some y.id) x.id from hb)] at hinv
        rw [← hinv]
        simp (maxSteps := 8000000) -implicitDefEqProofs (disch := omega) only [↓reduceIte, go_sem, eq_true hlt, hx, prT, in_at, peer_at, adr_at, hy, hpi, eq_true hz, eq_true ha, eq_true hb, eq_true (show y.id ≥ x.id from hb)]
        repeat' first
          | ((first | refine gdKT_deq (fun hg hG => ?_) (fun hg hG => ?_) | refine condKT_deq (fun hg hG => ?_) (fun hg hG => ?_)) <;> (try simp (maxSteps := 8000000) -implicitDefEqProofs (disch := omega) only [↓reduceIte, go_sem, hG, eq_true hlt, hx, prT, in_at, peer_at, adr_at, hy, hpi, eq_true hz, eq_true ha, eq_true hb, eq_true (show y.id ≥ x.id from hb)]) <;> clear hG)
          | ((first | refine gdKT_split (fun hg => ?_) (fun hg => ?_) | refine condKT_split (fun hg => ?_) (fun hg => ?_)) <;> (try simp (maxSteps := 8000000) -implicitDefEqProofs (disch := omega) only [↓reduceIte, go_sem, hg, eq_true hlt, hx, prT, in_at, peer_at, adr_at, hy, hpi, eq_true hz, eq_true ha, eq_true hb, eq_true (show y.id ≥ x.id from hb)]))
          | (refine endT_p (.inr rfl) (by simp (maxSteps := 8000000) -implicitDefEqProofs (disch := omega) only [↓reduceIte, go_sem, eq_true hlt, hx, prT, in_at, peer_at, adr_at, hy, hpi, eq_true hz, eq_true ha, eq_true hb, eq_true (show y.id ≥ x.id from hb)]; rfl) ?_; (first | exact vb_true (by omega) | exact vb_false (by omega) | exact vb_dec (by omega) | exact vi_eq (by omega) | rfl | (refine vi_eq ?_; simp_all; first | done | (intros; omega))))
          | exact endT_v (.inr rfl) (by simp (maxSteps := 8000000) -implicitDefEqProofs (disch := omega) only [↓reduceIte, go_sem, eq_true hlt, hx, prT, in_at, peer_at, adr_at, hy, hpi, eq_true hz, eq_true ha, eq_true hb, eq_true (show y.id ≥ x.id from hb)]; try rfl) (fun _ => rfl)
      · rw [if_neg (show ¬ badO (some y.id) x.id from hb)] at hinv
        simp (maxSteps := 8000000) -implicitDefEqProofs (disch := omega) only [↓reduceIte, go_sem, eq_true hlt, hx, prT, in_at, peer_at, adr_at, hy, hpi, eq_true hz, eq_true ha, eq_false hb, eq_false (show ¬ y.id ≥ x.id from hb)]
        refine loopKT_next (i + 1) ⟨by omega, hinv⟩ (by omega) ?_
        exact (le_of [] (by simp (maxSteps := 8000000) -implicitDefEqProofs (disch := omega) only [↓reduceIte, go_sem]) (by simp (maxSteps := 8000000) -implicitDefEqProofs (disch := omega) only [↓reduceIte, go_sem]) (by decide) (by simp))
  · rw [show l.drop i = [] from List.drop_eq_nil_of_le (by omega), firstP] at hinv
    rw [← hinv]
    simp (maxSteps := 8000000) -implicitDefEqProofs (disch := omega) only [↓reduceIte, go_sem, eq_false hge]
    refine joinK_here ?_
    simp (maxSteps := 8000000) -implicitDefEqProofs (disch := omega) only [↓reduceIte, go_sem]
    repeat' first
      | ((first | refine gdKT_deq (fun hg hG => ?_) (fun hg hG => ?_) | refine condKT_deq (fun hg hG => ?_) (fun hg hG => ?_)) <;> (try simp (maxSteps := 8000000) -implicitDefEqProofs (disch := omega) only [↓reduceIte, go_sem, hG]) <;> clear hG)
      | ((first | refine gdKT_split (fun hg => ?_) (fun hg => ?_) | refine condKT_split (fun hg => ?_) (fun hg => ?_)) <;> (try simp (maxSteps := 8000000) -implicitDefEqProofs (disch := omega) only [↓reduceIte, go_sem, hg]))
      | (refine endT_p (.inr rfl) (by simp (maxSteps := 8000000) -implicitDefEqProofs (disch := omega) only [↓reduceIte, go_sem]; rfl) ?_; (first | exact vb_true (by omega) | exact vb_false (by omega) | exact vb_dec (by omega) | exact vi_eq (by omega) | rfl | (refine vi_eq ?_; simp_all; first | done | (intros; omega))))
      | exact endT_v (.inr rfl) (by simp (maxSteps := 8000000) -implicitDefEqProofs (disch := omega) only [↓reduceIte, go_sem]; try rfl) (fun _ => rfl)
-- impl.peersFault
def c94 : AF := ⟨41,
 (.seq (.reg [rO 2 (.mv (.v (.int .i64 0)))])
 (.seq (.seq (.reg [rO 5 (.mv (.t 0)),
 rO 6 (.len (.t 5)),
 rO 7 (.bin .gtr (.t 6) (.v (.int .i64 9)))])
 (.cond (.t 7) (.seq (.reg [rO 2 (.mv (.v (.int .i64 2)))])
 .ret)
 .skip))
 (.seq (.seq (.reg [rO 8 (.mv (.t 0)),
 rO 9 (.len (.t 8)),
 rO 10 (.mv (.v (.int .i64 0)))])
 (.block 0 (.loop (.seq (.reg [rO 11 (.bin .lss (.t 10) (.t 9))])
 (.seq (.cond (.t 11) .skip
 (.exit 0))
 (.seq (.block 1 (.seq (.reg [rO 12 (.mv (.t 10)),
 rO 13 (.ia 2 (.t 8) (.t 10)),
 rO 14 (.ldn 2 (.t 13)),
 rO 4 (.alloc 131 [(.int .i64 0), (.int .i64 0)]),
 rO 3 (.mv (.t 12)),
 ⟨none, none, .st 2 (.t 4) (.t 14)⟩])
 (.block 2 (.seq (.reg [rO 16 (.fa (.t 4) 0),
 rO 17 (.ld (.t 16)),
 rO 18 (.call 160 [(.t 17)]),
 rO 19 (.un .not (.t 18)),
 rO 20 (.mv (.t 19)),
 ⟨(some 21), (some (20, false)), .fa (.t 4) 1⟩,
 ⟨(some 22), (some (20, false)), .ld (.t 21)⟩,
 ⟨(some 23), (some (20, false)), .call 90 [(.t 22)]⟩,
 ⟨(some 24), (some (20, false)), .un .not (.t 23)⟩,
 rO 25 (.pick (.t 20) (.v (.bool true)) (.t 24)),
 rO 15 (.mv (.t 25))])
 (.cond (.t 15) (.seq (.reg [rO 2 (.mv (.v (.int .i64 3)))])
 .ret)
 (.seq (.drw [rO 27 (.mv (.t 3)),
 rO 28 (.bin .gtr (.t 27) (.v (.int .i64 0))),
 rO 29 (.mv (.t 28)),
 ⟨(some 30), (some (29, true)), .mv (.t 0)⟩,
 ⟨(some 31), (some (29, true)), .mv (.t 3)⟩,
 ⟨(some 32), (some (29, true)), .bin .sub (.t 31) (.v (.int .i64 1))⟩,
 ⟨(some 33), (some (29, true)), .ia 2 (.t 30) (.t 32)⟩,
 ⟨(some 34), (some (29, true)), .fa (.t 33) 0⟩,
 ⟨(some 35), (some (29, true)), .ld (.t 34)⟩,
 ⟨(some 36), (some (29, true)), .fa (.t 4) 0⟩,
 ⟨(some 37), (some (29, true)), .ld (.t 36)⟩] [⟨(some 38), (some (29, true)), .bin .geq (.t 35) (.t 37)⟩,
 rO 39 (.pick (.t 29) (.t 38) (.v (.bool false))),
 rO 26 (.mv (.t 39))])
 (.cond (.t 26) (.seq (.reg [rO 2 (.mv (.v (.int .i64 1)))])
 .ret)
 .skip)))))))
 (.reg [rO 40 (.bin .add (.t 10) (.v (.int .i64 1))),
 rO 10 (.mv (.t 40))])))))))
 (.seq (.reg [rO 2 (.mv (.v (.int .i64 0)))])
 .ret)))),
 [.t 2]⟩
theorem k94 : cFn Tryz.prog Tryz.f94 = some c94 := by kernel_rfl
theorem peeI_ok : OkT Tryz.prog 94 (pureSp peeF_S) := by
  refine okT_fn (OkΓT.cons isPeer_ok (OkΓT.cons isAddress_ok (OkΓT.nil _))) Tryz.func94 (by kernel_rfl) k94 (fun x _ => ⟨by first | rfl | simp only [go_sem], by first | rfl | simp only [go_sem]⟩) ?_
  rintro l hl
  try dsimp only at *
  by_cases hr : l.length ≤ 9
  case neg =>
    rw [show peeF l = 2 by simp only [peeF]; rw [if_neg hr]]
    (dsimp only [c94, rO]; simp (maxSteps := 8000000) -implicitDefEqProofs (disch := omega) only [↓reduceIte, go_sem])
    repeat' first
      | ((first | refine gdKT_deq (fun hg hG => ?_) (fun hg hG => ?_) | refine condKT_deq (fun hg hG => ?_) (fun hg hG => ?_)) <;> (try simp (maxSteps := 8000000) -implicitDefEqProofs (disch := omega) only [↓reduceIte, go_sem, hG]) <;> clear hG)
      | ((first | refine gdKT_split (fun hg => ?_) (fun hg => ?_) | refine condKT_split (fun hg => ?_) (fun hg => ?_)) <;> (try simp (maxSteps := 8000000) -implicitDefEqProofs (disch := omega) only [↓reduceIte, go_sem, hg]))
      | (refine endT_p (.inr rfl) (by simp (maxSteps := 8000000) -implicitDefEqProofs (disch := omega) only [↓reduceIte, go_sem]; rfl) ?_; (first | exact vb_true (by omega) | exact vb_false (by omega) | exact vb_dec (by omega) | exact vi_eq (by omega) | rfl | (refine vi_eq ?_; simp_all; first | done | (intros; omega))))
      | exact endT_v (.inr rfl) (by simp (maxSteps := 8000000) -implicitDefEqProofs (disch := omega) only [↓reduceIte, go_sem]; try rfl) (fun _ => rfl)
  rw [show peeF l = firstP none l by simp only [peeF]; rw [if_pos hr]]
  (dsimp only [c94, rO]; simp (maxSteps := 8000000) -implicitDefEqProofs (disch := omega) only [↓reduceIte, go_sem])
  refine awpT_loop (α := Nat) (fun i => ⟨slots [(0, .s (rowsT prT l)), (8, .s (rowsT prT l)), (9, .p (.int .i64 l.length)), (10, .p (.int .i64 i))], []⟩) (fun i => i ≤ l.length ∧ firstP (prevP l i) (l.drop i) = firstP none l) (fun i => l.length - i) 0 ⟨by omega, by simp [prevP]⟩ (le_of [] (by simp (maxSteps := 8000000) -implicitDefEqProofs (disch := omega) only [↓reduceIte, go_sem]) (by simp (maxSteps := 8000000) -implicitDefEqProofs (disch := omega) only [↓reduceIte, go_sem]) (by decide) (by simp)) ?_
  intro i ⟨hi, hinv⟩
  simp (maxSteps := 8000000) -implicitDefEqProofs (disch := omega) only [↓reduceIte, go_sem]
  refine condKT_dec (fun hlt => ?_) (fun hge => ?_)
  · obtain ⟨x, hx⟩ := get_ex (l := l) (i := i) (by omega)
    rw [firstP_at hx, ← prevP_succ hx] at hinv
    by_cases hz : 1 ≤ x.id ∧ x.id ≤ 9
    case neg =>
      rw [if_neg (fun h => hz h.1)] at hinv
      rw [← hinv]
      simp (maxSteps := 8000000) -implicitDefEqProofs (disch := omega) only [↓reduceIte, go_sem, eq_true hlt, hx, prT, in_at, peer_at, adr_at, eq_false hz]
      repeat' first
        | ((first | refine gdKT_deq (fun hg hG => ?_) (fun hg hG => ?_) | refine condKT_deq (fun hg hG => ?_) (fun hg hG => ?_)) <;> (try simp (maxSteps := 8000000) -implicitDefEqProofs (disch := omega) only [↓reduceIte, go_sem, hG, eq_true hlt, hx, prT, in_at, peer_at, adr_at, eq_false hz]) <;> clear hG)
        | ((first | refine gdKT_split (fun hg => ?_) (fun hg => ?_) | refine condKT_split (fun hg => ?_) (fun hg => ?_)) <;> (try simp (maxSteps := 8000000) -implicitDefEqProofs (disch := omega) only [↓reduceIte, go_sem, hg, eq_true hlt, hx, prT, in_at, peer_at, adr_at, eq_false hz]))
        | (refine endT_p (.inr rfl) (by simp (maxSteps := 8000000) -implicitDefEqProofs (disch := omega) only [↓reduceIte, go_sem, eq_true hlt, hx, prT, in_at, peer_at, adr_at, eq_false hz]; rfl) ?_; (first | exact vb_true (by omega) | exact vb_false (by omega) | exact vb_dec (by omega) | exact vi_eq (by omega) | rfl | (refine vi_eq ?_; simp_all; first | done | (intros; omega))))
        | exact endT_v (.inr rfl) (by simp (maxSteps := 8000000) -implicitDefEqProofs (disch := omega) only [↓reduceIte, go_sem, eq_true hlt, hx, prT, in_at, peer_at, adr_at, eq_false hz]; try rfl) (fun _ => rfl)
    by_cases ha : 0 ≤ x.ad ∧ x.ad ≤ 4294967295
    case neg =>
      rw [if_neg (fun h => ha h.2)] at hinv
      rw [← hinv]
      simp (maxSteps := 8000000) -implicitDefEqProofs (disch := omega) only [↓reduceIte, go_sem, eq_true hlt, hx, prT, in_at, peer_at, adr_at, eq_true hz, eq_false ha]
      repeat' first
        | ((first | refine gdKT_deq (fun hg hG => ?_) (fun hg hG => ?_) | refine condKT_deq (fun hg hG => ?_) (fun hg hG => ?_)) <;> (try simp (maxSteps := 8000000) -implicitDefEqProofs (disch := omega) only [↓reduceIte, go_sem, hG, eq_true hlt, hx, prT, in_at, peer_at, adr_at, eq_true hz, eq_false ha]) <;> clear hG)
        | ((first | refine gdKT_split (fun hg => ?_) (fun hg => ?_) | refine condKT_split (fun hg => ?_) (fun hg => ?_)) <;> (try simp (maxSteps := 8000000) -implicitDefEqProofs (disch := omega) only [↓reduceIte, go_sem, hg, eq_true hlt, hx, prT, in_at, peer_at, adr_at, eq_true hz, eq_false ha]))
        | (refine endT_p (.inr rfl) (by simp (maxSteps := 8000000) -implicitDefEqProofs (disch := omega) only [↓reduceIte, go_sem, eq_true hlt, hx, prT, in_at, peer_at, adr_at, eq_true hz, eq_false ha]; rfl) ?_; (first | exact vb_true (by omega) | exact vb_false (by omega) | exact vb_dec (by omega) | exact vi_eq (by omega) | rfl | (refine vi_eq ?_; simp_all; first | done | (intros; omega))))
        | exact endT_v (.inr rfl) (by simp (maxSteps := 8000000) -implicitDefEqProofs (disch := omega) only [↓reduceIte, go_sem, eq_true hlt, hx, prT, in_at, peer_at, adr_at, eq_true hz, eq_false ha]; try rfl) (fun _ => rfl)
    rw [if_pos ⟨hz, ha⟩] at hinv
    by_cases h0 : i = 0
    · rw [show prevP l i = none by simp [prevP, h0], if_neg (by simp [badO])] at hinv
      simp (maxSteps := 8000000) -implicitDefEqProofs (disch := omega) only [↓reduceIte, go_sem, eq_true hlt, hx, prT, in_at, peer_at, adr_at, eq_true hz, eq_true ha]
      refine loopKT_next (i + 1) ⟨by omega, hinv⟩ (by omega) ?_
      exact (le_of [] (by simp (maxSteps := 8000000) -implicitDefEqProofs (disch := omega) only [↓reduceIte, go_sem]) (by simp (maxSteps := 8000000) -implicitDefEqProofs (disch := omega) only [↓reduceIte, go_sem]) (by decide) (by simp))
    · obtain ⟨y, hy⟩ := get_ex (l := l) (i := i - 1) (by omega)
      rw [show prevP l i = some y.id by simp [prevP, h0, hy]] at hinv
      have hpi : ((i : Int) - 1).toNat = i - 1 := by omega
      by_cases hb : x.id ≤ y.id
      · rw [if_pos (show badO (some y.id) x.id from hb)] at hinv
        rw [← hinv]
        simp (maxSteps := 8000000) -implicitDefEqProofs (disch := omega) only [↓reduceIte, go_sem, eq_true hlt, hx, prT, in_at, peer_at, adr_at, hy, hpi, eq_true hz, eq_true ha, eq_true hb, eq_true (show y.id ≥ x.id from hb)]
        repeat' first
          | ((first | refine gdKT_deq (fun hg hG => ?_) (fun hg hG => ?_) | refine condKT_deq (fun hg hG => ?_) (fun hg hG => ?_)) <;> (try simp (maxSteps := 8000000) -implicitDefEqProofs (disch := omega) only [↓reduceIte, go_sem, hG, eq_true hlt, hx, prT, in_at, peer_at, adr_at, hy, hpi, eq_true hz, eq_true ha, eq_true hb, eq_true (show y.id ≥ x.id from hb)]) <;> clear hG)
          | ((first | refine gdKT_split (fun hg => ?_) (fun hg => ?_) | refine condKT_split (fun hg => ?_) (fun hg => ?_)) <;> (try simp (maxSteps := 8000000) -implicitDefEqProofs (disch := omega) only [↓reduceIte, go_sem, hg, eq_true hlt, hx, prT, in_at, peer_at, adr_at, hy, hpi, eq_true hz, eq_true ha, eq_true hb, eq_true (show y.id ≥ x.id from hb)]))
          | (refine endT_p (.inr rfl) (by simp (maxSteps := 8000000) -implicitDefEqProofs (disch := omega) only [↓reduceIte, go_sem, eq_true hlt, hx, prT, in_at, peer_at, adr_at, hy, hpi, eq_true hz, eq_true ha, eq_true hb, eq_true (show y.id ≥ x.id from hb)]; rfl) ?_; (first | exact vb_true (by omega) | exact vb_false (by omega) | exact vb_dec (by omega) | exact vi_eq (by omega) | rfl | (refine vi_eq ?_; simp_all; first | done | (intros; omega))))
          | exact endT_v (.inr rfl) (by simp (maxSteps := 8000000) -implicitDefEqProofs (disch := omega) only [↓reduceIte, go_sem, eq_true hlt, hx, prT, in_at, peer_at, adr_at, hy, hpi, eq_true hz, eq_true ha, eq_true hb, eq_true (show y.id ≥ x.id from hb)]; try rfl) (fun _ => rfl)
      · rw [if_neg (show ¬ badO (some y.id) x.id from hb)] at hinv
        simp (maxSteps := 8000000) -implicitDefEqProofs (disch := omega) only [↓reduceIte, go_sem, eq_true hlt, hx, prT, in_at, peer_at, adr_at, hy, hpi, eq_true hz, eq_true ha, eq_false hb, eq_false (show ¬ y.id ≥ x.id from hb)]
        refine loopKT_next (i + 1) ⟨by omega, hinv⟩ (by omega) ?_
        exact (le_of [] (by simp (maxSteps := 8000000) -implicitDefEqProofs (disch := omega) only [↓reduceIte, go_sem]) (by simp (maxSteps := 8000000) -implicitDefEqProofs (disch := omega) only [↓reduceIte, go_sem]) (by decide) (by simp))
  · rw [show l.drop i = [] from List.drop_eq_nil_of_le (by omega), firstP] at hinv
    rw [← hinv]
    simp (maxSteps := 8000000) -implicitDefEqProofs (disch := omega) only [↓reduceIte, go_sem, eq_false hge]
    refine joinK_here ?_
    simp (maxSteps := 8000000) -implicitDefEqProofs (disch := omega) only [↓reduceIte, go_sem]
    repeat' first
      | ((first | refine gdKT_deq (fun hg hG => ?_) (fun hg hG => ?_) | refine condKT_deq (fun hg hG => ?_) (fun hg hG => ?_)) <;> (try simp (maxSteps := 8000000) -implicitDefEqProofs (disch := omega) only [↓reduceIte, go_sem, hG]) <;> clear hG)
      | ((first | refine gdKT_split (fun hg => ?_) (fun hg => ?_) | refine condKT_split (fun hg => ?_) (fun hg => ?_)) <;> (try simp (maxSteps := 8000000) -implicitDefEqProofs (disch := omega) only [↓reduceIte, go_sem, hg]))
      | (refine endT_p (.inr rfl) (by simp (maxSteps := 8000000) -implicitDefEqProofs (disch := omega) only [↓reduceIte, go_sem]; rfl) ?_; (first | exact vb_true (by omega) | exact vb_false (by omega) | exact vb_dec (by omega) | exact vi_eq (by omega) | rfl | (refine vi_eq ?_; simp_all; first | done | (intros; omega))))
      | exact endT_v (.inr rfl) (by simp (maxSteps := 8000000) -implicitDefEqProofs (disch := omega) only [↓reduceIte, go_sem]; try rfl) (fun _ => rfl)

/-! The first fault of several -/
def ffz : List Int → Int
  | [] => 0
  | x :: r => if x = 0 then ffz r else x
theorem ffz_at' {l : List Int} {i : Nat} (h : i < l.length) : ffz (l.drop i) = if l.getD i 0 = 0 then ffz (l.drop (i + 1)) else l.getD i 0 := by
  rw [List.drop_eq_getElem_cons h, ffz]
  simp [h]
noncomputable def ffz_S := specP (fun x : List Int => [.s (isT x)]) (fun x => x.length ≤ 140737488355328) (fun x => (.p (.int .i64 (ffz x)), []))
theorem ffz_at (l : List Int) (h : l.length ≤ 140737488355328) : ffz_S [.s (isT l)] = some ((.p (.int .i64 (ffz l)), [])) := specP_at (enc := fun x : List Int => [.s (isT x)]) (by rintro a0 b0 h; simp only [List.cons.injEq, and_true] at h; have h0 := h; obtain rfl := sis_inj h0; rfl) l h
-- impl.faultOf
def c92 : AF := ⟨15,
 (.seq (.reg [rO 2 (.mv (.v (.int .i64 0)))])
 (.seq (.seq (.reg [rO 5 (.mv (.t 0)),
 rO 6 (.len (.t 5)),
 rO 7 (.mv (.v (.int .i64 0)))])
 (.block 0 (.loop (.seq (.reg [rO 8 (.bin .lss (.t 7) (.t 6))])
 (.seq (.cond (.t 8) .skip
 (.exit 0))
 (.seq (.block 1 (.seq (.reg [rO 9 (.ia 1 (.t 5) (.t 7)),
 rO 10 (.ld (.t 9)),
 rO 4 (.mv (.t 10))])
 (.seq (.reg [rO 11 (.mv (.t 4)),
 rO 12 (.bin .neq (.t 11) (.v (.int .i64 0)))])
 (.cond (.t 12) (.seq (.reg [rO 13 (.mv (.t 4)),
 rO 2 (.mv (.t 13))])
 .ret)
 .skip))))
 (.reg [rO 14 (.bin .add (.t 7) (.v (.int .i64 1))),
 rO 7 (.mv (.t 14))])))))))
 (.seq (.reg [rO 2 (.mv (.v (.int .i64 0)))])
 .ret))),
 [.t 2]⟩
theorem k92 : cFn Tryz.prog Tryz.f92 = some c92 := by kernel_rfl
theorem ffz_ok : OkT Tryz.prog 92 (pureSp ffz_S) := by
  refine okT_fn (OkΓT.nil _) Tryz.func92 (by kernel_rfl) k92 (fun x _ => ⟨by first | rfl | simp only [go_sem], by first | rfl | simp only [go_sem]⟩) ?_
  rintro l hl
  try dsimp only at *
  have hlen := is_len l
  (dsimp only [c92, rO]; simp (maxSteps := 8000000) -implicitDefEqProofs (disch := omega) only [↓reduceIte, go_sem, hlen])
  refine awpT_loop (α := Nat) (fun i => ⟨slots [(5, .s (isT l)), (6, .p (.int .i64 l.length)), (7, .p (.int .i64 i))], []⟩) (fun i => i ≤ l.length ∧ ffz (l.drop i) = ffz l) (fun i => l.length - i) 0 ⟨by omega, by simp⟩ (by simp only [nat0T]; exact (le_of [] (by simp (maxSteps := 8000000) -implicitDefEqProofs (disch := omega) only [↓reduceIte, go_sem]) (by simp (maxSteps := 8000000) -implicitDefEqProofs (disch := omega) only [↓reduceIte, go_sem]) (by decide) (by simp))) ?_
  intro i ⟨hi, hinv⟩
  simp (maxSteps := 8000000) -implicitDefEqProofs (disch := omega) only [↓reduceIte, go_sem]
  refine condKT_dec (fun hlt => ?_) (fun hge => ?_)
  · have g := is_get (l := l) (i := i) (by omega)
    rw [ffz_at' (by omega)] at hinv
    by_cases hz : l.getD i 0 = 0
    · rw [if_pos hz] at hinv
      simp (maxSteps := 8000000) -implicitDefEqProofs (disch := omega) only [↓reduceIte, go_sem, eq_true hlt, Int.toNat_natCast, g, eq_true hz]
      refine loopKT_next (i + 1) ⟨by omega, hinv⟩ (by omega) ?_
      exact (le_of [] (by simp (maxSteps := 8000000) -implicitDefEqProofs (disch := omega) only [↓reduceIte, go_sem]) (by simp (maxSteps := 8000000) -implicitDefEqProofs (disch := omega) only [↓reduceIte, go_sem]) (by decide) (by simp))
    · rw [if_neg hz] at hinv
      rw [← hinv]
      generalize l.getD i 0 = v at *
      simp (maxSteps := 8000000) -implicitDefEqProofs (disch := omega) only [↓reduceIte, go_sem, eq_true hlt, Int.toNat_natCast, g, eq_false hz]
      exact endT_v (.inr rfl) (by (simp (maxSteps := 8000000) -implicitDefEqProofs (disch := omega) only [↓reduceIte, go_sem]) <;> rfl) (fun _ => rfl)
  · rw [show l.drop i = [] from List.drop_eq_nil_of_le (by omega), ffz] at hinv
    rw [← hinv]
    simp (maxSteps := 8000000) -implicitDefEqProofs (disch := omega) only [↓reduceIte, go_sem, eq_false hge]
    refine joinK_here ?_
    simp (maxSteps := 8000000) -implicitDefEqProofs (disch := omega) only [↓reduceIte, go_sem]
    exact endT_v (.inr rfl) (by (simp (maxSteps := 8000000) -implicitDefEqProofs (disch := omega) only [↓reduceIte, go_sem]) <;> rfl) (fun _ => rfl)

/-! Ticks -/
def noTick (x : Int) : Bool := !decide (0 ≤ x ∧ x ≤ 1000000000)
def tickL (l : List Int) : Bool := (l.findIdx? noTick).isNone
theorem tickL_none {l : List Int} (h : ∀ j y, j < l.length → l[j]? = some y → noTick y = false) : tickL l = true := by unfold tickL; rw [find_none h]; rfl
theorem tickL_some {l : List Int} {i : Nat} {x : Int} (hx : l[i]? = some x) (hp : noTick x = true) (hn : ∀ j y, j < i → l[j]? = some y → noTick y = false) : tickL l = false := by unfold tickL; rw [find_some hx hp hn]; rfl
noncomputable def ixT_S := specP (fun x : List Int => [.s (isT x), .fn 97 []]) (fun x => x.length ≤ 140737488355328) (fun x => (.p (.int .i64 (idxV (x.findIdx? noTick))), []))
theorem ixT_at (l : List Int) (h : l.length ≤ 140737488355328) : ixT_S [.s (isT l), .fn 97 []] = some (.p (.int .i64 (idxV (l.findIdx? noTick))), []) := specP_at (enc := fun x : List Int => [.s (isT x), .fn 97 []]) (by intro x y h; simp only [List.cons.injEq, and_true] at h; exact sis_inj h) l h
noncomputable def ctT_S := specP (fun x : List Int => [.s (isT x), .fn 97 []]) (fun x => x.length ≤ 140737488355328) (fun x => (.p (.bool (!tickL x)), []))
theorem ctT_at (l : List Int) (h : l.length ≤ 140737488355328) : ctT_S [.s (isT l), .fn 97 []] = some (.p (.bool (!tickL l)), []) := specP_at (enc := fun x : List Int => [.s (isT x), .fn 97 []]) (by intro x y h; simp only [List.cons.injEq, and_true] at h; exact sis_inj h) l h
noncomputable def noTick_S := specP (fun x : Int => [.p (.int .i64 x)]) (fun x => True) (fun x => (.p (.bool (noTick x)), []))
theorem noTick_at (x : Int) : noTick_S [.p (.int .i64 x)] = some ((.p (.bool (noTick x)), [])) := specP_at (enc := fun x : Int => [.p (.int .i64 x)]) (by rintro a0 b0 h; simp only [List.cons.injEq, and_true] at h; have h0 := h; obtain rfl := p64_inj h0; rfl) x trivial
-- impl.BoxFault$1
def c97 : AF := ⟨6,
 (.seq (.reg [rO 2 (.mv (.v (.bool false)))])
 (.seq (.reg [rO 3 (.mv (.t 0)),
 rO 4 (.call 91 [(.t 3)]),
 rO 5 (.un .not (.t 4)),
 rO 2 (.mv (.t 5))])
 .ret)),
 [.t 2]⟩
theorem k97 : cFn Tryz.prog Tryz.f97 = some c97 := by kernel_rfl
theorem noTick_ok : OkT Tryz.prog 97 (pureSp noTick_S) := by
  refine okT_fn (OkΓT.cons isTick_ok (OkΓT.nil _)) Tryz.func97 (by kernel_rfl) k97 (fun x _ => ⟨by first | rfl | simp only [go_sem], by first | rfl | simp only [go_sem]⟩) ?_
  rintro x _
  try dsimp only at *
  unfold noTick
  (dsimp only [c97, rO]; simp (maxSteps := 8000000) -implicitDefEqProofs (disch := omega) only [↓reduceIte, go_sem, tick_at])
  exact endT_v (.inr rfl) (by (simp (maxSteps := 8000000) -implicitDefEqProofs (disch := omega) only [↓reduceIte, go_sem]) <;> rfl) (fun _ => rfl)

-- slices.IndexFunc[[]int64,int64]
def c161 : AF := ⟨19,
 (.seq (.reg [rO 4 (.mv (.v (.int .i64 0)))])
 (.seq (.seq (.reg [rO 6 (.mv (.t 0)),
 rO 7 (.len (.t 6)),
 rO 8 (.mv (.v (.int .i64 0)))])
 (.block 0 (.loop (.seq (.reg [rO 9 (.bin .lss (.t 8) (.t 7))])
 (.seq (.cond (.t 9) .skip
 (.exit 0))
 (.seq (.block 1 (.seq (.reg [rO 10 (.mv (.t 8)),
 rO 5 (.mv (.t 10))])
 (.seq (.reg [rO 11 (.mv (.t 1)),
 rO 12 (.mv (.t 0)),
 rO 13 (.mv (.t 5)),
 rO 14 (.ia 1 (.t 12) (.t 13)),
 rO 15 (.ld (.t 14)),
 rO 16 (.callv (.t 11) [(.t 15)])])
 (.cond (.t 16) (.seq (.reg [rO 17 (.mv (.t 5)),
 rO 4 (.mv (.t 17))])
 .ret)
 .skip))))
 (.reg [rO 18 (.bin .add (.t 8) (.v (.int .i64 1))),
 rO 8 (.mv (.t 18))])))))))
 (.seq (.reg [rO 4 (.mv (.v (.int .i64 (-1))))])
 .ret))),
 [.t 4]⟩
theorem k161 : cFn Tryz.prog Tryz.f161 = some c161 := by kernel_rfl
theorem ixT_ok : OkT Tryz.prog 161 (pureSp ixT_S) := by
  refine okT_fn (OkΓT.cons noTick_ok (OkΓT.nil _)) Tryz.func161 (by kernel_rfl) k161 (fun x _ => ⟨rfl, rfl⟩) ?_
  rintro l hl
  dsimp only at *
  have hlen := is_len l
  (dsimp only [c161, rO]; simp (maxSteps := 8000000) -implicitDefEqProofs (disch := omega) only [↓reduceIte, go_sem, hlen])
  refine awpT_loop (α := Nat) (fun i => ⟨slots [(0, .s (isT l)), (1, .fn 97 []), (7, .p (.int .i64 l.length)), (8, .p (.int .i64 i))], []⟩) (fun i => i ≤ l.length ∧ ∀ j y, j < i → l[j]? = some y → noTick y = false) (fun i => l.length - i) 0 ⟨by omega, fun j y hj => absurd hj (by omega)⟩ (by simp only [nat0T]; exact (le_of [] (by simp (maxSteps := 8000000) -implicitDefEqProofs (disch := omega) only [↓reduceIte, go_sem]) (by simp (maxSteps := 8000000) -implicitDefEqProofs (disch := omega) only [↓reduceIte, go_sem]) (by decide) (by simp))) ?_
  intro i ⟨hi, hn⟩
  simp (maxSteps := 8000000) -implicitDefEqProofs (disch := omega) only [↓reduceIte, go_sem]
  refine condKT_dec (fun hlt => ?_) (fun hge => ?_)
  · obtain ⟨x, hx⟩ := get_ex (l := l) (i := i) (by omega)
    have g := is_get (l := l) (i := i) (by omega)
    rw [show l.getD i 0 = x by simp [List.getD_eq_getElem?_getD, hx]] at g
    have q := noTick_at x
    by_cases hs : noTick x = true
    · rw [find_some hx hs hn]
      rw [hs] at q
      dsimp only [idxV]
      simp (maxSteps := 8000000) -implicitDefEqProofs (disch := omega) only [↓reduceIte, go_sem, eq_true hlt, Int.toNat_natCast, g, q]
      exact endT_v (.inr rfl) (by (simp (maxSteps := 8000000) -implicitDefEqProofs (disch := omega) only [↓reduceIte, go_sem]) <;> rfl) (fun _ => rfl)
    · have hs' : noTick x = false := by simpa using hs
      rw [hs'] at q
      simp (maxSteps := 8000000) -implicitDefEqProofs (disch := omega) only [↓reduceIte, go_sem, eq_true hlt, Int.toNat_natCast, g, q]
      refine loopKT_next (i + 1) ⟨by omega, none_snoc hx hs' hn⟩ (by omega) ?_
      exact (le_of [] (by simp (maxSteps := 8000000) -implicitDefEqProofs (disch := omega) only [↓reduceIte, go_sem]) (by simp (maxSteps := 8000000) -implicitDefEqProofs (disch := omega) only [↓reduceIte, go_sem]) (by decide) (by simp))
  · rw [find_none (fun j y hj => hn j y (by omega))]
    dsimp only [idxV]
    simp (maxSteps := 8000000) -implicitDefEqProofs (disch := omega) only [↓reduceIte, go_sem, eq_false hge]
    refine joinK_here ?_
    simp (maxSteps := 8000000) -implicitDefEqProofs (disch := omega) only [↓reduceIte, go_sem]
    exact endT_v (.inr rfl) (by (simp (maxSteps := 8000000) -implicitDefEqProofs (disch := omega) only [↓reduceIte, go_sem]) <;> rfl) (fun _ => rfl)
-- slices.ContainsFunc[[]int64,int64]
def c96 : AF := ⟨9,
 (.seq (.reg [rO 4 (.mv (.v (.bool false)))])
 (.seq (.reg [rO 5 (.mv (.t 0)),
 rO 6 (.mv (.t 1)),
 rO 7 (.call 161 [(.t 5), (.t 6)]),
 rO 8 (.bin .geq (.t 7) (.v (.int .i64 0))),
 rO 4 (.mv (.t 8))])
 .ret)),
 [.t 4]⟩
theorem k96 : cFn Tryz.prog Tryz.f96 = some c96 := by kernel_rfl
theorem ctT_ok : OkT Tryz.prog 96 (pureSp ctT_S) := by
  refine okT_fn (OkΓT.cons ixT_ok (OkΓT.nil _)) Tryz.func96 (by kernel_rfl) k96 (fun x _ => ⟨rfl, rfl⟩) ?_
  rintro l hl
  dsimp only at *
  have q := ixT_at l hl
  have e : (!tickL l) = decide (idxV (l.findIdx? noTick) ≥ 0) := by
    unfold tickL
    cases l.findIdx? noTick with
    | none => rfl
    | some i => simp [idxV]
  rw [e]
  generalize idxV (l.findIdx? noTick) = v at *
  (dsimp only [c96, rO]; simp (maxSteps := 8000000) -implicitDefEqProofs (disch := omega) only [↓reduceIte, go_sem, q])
  exact endT_v (.inr rfl) (by (simp (maxSteps := 8000000) -implicitDefEqProofs (disch := omega) only [↓reduceIte, go_sem]) <;> rfl) (fun _ => rfl)
end Go.Proofs.YtghpdclhhnbgjaaGreat
