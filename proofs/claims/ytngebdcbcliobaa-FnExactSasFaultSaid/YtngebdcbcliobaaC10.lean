import Derived.Test.YtngebdcbcliobaaC9
set_option linter.unusedSimpArgs false
set_option linter.unusedVariables false
set_option maxRecDepth 100000
set_option maxHeartbeats 4000000
namespace Go.Proofs.Ytngebdcbcliobaa
open Go Go.AH
attribute [local irreducible] awpT ropsT qopsT stepT condKT gdKT EndT joinK loopKT seqKT blkKT kont kontR
noncomputable def sasF_Sp : TSp := pureSp sasF_S
noncomputable def eqSaS_Sp : TSp := pureSp eqSaS_S
theorem sasF_fn (t : Nat) (A B : THeap) (l : List SaR) (hl : l.length ≤ 1048576 ∧ ∀ y ∈ l, y.sels.length ≤ 1048576) : sasF_Sp.fn t [.os A.length 0 l.length] (A ++ (packO A.length l ++ B)) = some (.p (.int .i64 (sasF l)), A ++ (packO A.length l ++ B)) := by
  have e : sasF_S [.s (rowsT saT l)] = some (.p (.int .i64 (sasF l)), []) := specP_at (enc := fun x : List SaR => [.s (rowsT saT x)]) (fun x y h => by simp at h; exact sas_inj h) l ⟨by omega, fun y hy => by have := hl.2 y hy; omega⟩
  have f := packO_at A B l 7
  simp only [sasF_Sp, pureSp, List.map_cons, List.map_nil, f, e, Option.map_some, renT, List.append_nil]
theorem eqSaS_fn (t : Nat) (H : THeap) (l : List SaR) (hl : l.length ≤ 1048576 ∧ ∀ y ∈ l, y.sels.length ≤ 1048576) {x y : TV} (hx : frzT H 9 x = .s (rowsT saT l)) (hy : frzT H 9 y = .s (rowsT saT l)) : eqSaS_Sp.fn t [x, y] H = some (.p (.bool true), H) := by
  have e : eqSaS_S [.s (rowsT saT l), .s (rowsT saT l)] = some (.p (.bool true), []) := specP_at (enc := fun x : List SaR => [.s (rowsT saT x), .s (rowsT saT x)]) (fun x y h => by simp at h; exact sas_inj h) l hl
  simp only [eqSaS_Sp, pureSp, List.map_cons, List.map_nil, hx, hy, e, Option.map_some, renT, List.append_nil]
theorem rows_exP {α : Type} {g : α → TV} {Q : α → Prop} : ∀ {es : List TV}, (∀ x ∈ es, ∃ y, x = g y ∧ Q y) → ∃ l, es = rowsT g l ∧ ∀ y ∈ l, Q y
  | [], _ => ⟨[], rfl, by simp⟩
  | e :: es, h => by
    obtain ⟨y, rfl, hy⟩ := h e (by simp)
    obtain ⟨l, rfl, hl⟩ := rows_exP (fun x hx => h x (by simp [hx]) : ∀ x ∈ es, ∃ y, x = g y ∧ Q y)
    refine ⟨y :: l, rfl, fun z hz => ?_⟩
    rcases List.mem_cons.1 hz with rfl | hz
    · exact hy
    · exact hl z hz
noncomputable def sasL_S := specP (fun x : List SaR => [.s (rowsT saT x)]) (fun x => x.length ≤ 140737488351232 ∧ ∀ y ∈ x, y.sels.length ≤ 140737488351232) (fun x => (.p (.bool true), []))
theorem sasL_at (l : List SaR) (h : l.length ≤ 140737488351232 ∧ ∀ y ∈ l, y.sels.length ≤ 140737488351232) : sasL_S [.s (rowsT saT l)] = some (.p (.bool true), []) :=
  specP_at (enc := fun x : List SaR => [.s (rowsT saT x)]) (fun x y h => by simp at h; exact sas_inj h) l h
-- laws.FnExactSasFault
def c4 : AF := ⟨27,
  (.seq (.reg [⟨(some 2), none, .mv (.v (.bool false))⟩])
  (.seq (.reg [⟨(some 3), none, .mv (.v (.int .i64 1048576))⟩])
  (.seq (.reg [⟨(some 7), none, .mv (.t 0)⟩,
   ⟨(some 8), none, .mv (.t 3)⟩,
   ⟨(some 9), none, .call 20 [(.t 7), (.t 8)]⟩,
   ⟨(some 3), none, .mv (.t 9)⟩])
  (.seq (.seq (.reg [⟨(some 10), none, .mv (.t 3)⟩,
   ⟨(some 11), none, .bin .lss (.t 10) (.v (.int .i64 0))⟩])
  (.cond (.t 11) (.seq (.reg [⟨(some 2), none, .mv (.v (.bool true))⟩])
  .ret)
  .skip))
  (.seq (.reg [⟨(some 12), none, .mv (.t 0)⟩,
   ⟨(some 13), none, .call 22 [(.t 12)]⟩,
   ⟨(some 14), none, .call 21 [(.t 13)]⟩,
   ⟨(some 4), none, .mv (.t 14)⟩])
  (.seq (.reg [⟨(some 15), none, .mv (.t 0)⟩,
   ⟨(some 16), none, .call 22 [(.t 15)]⟩,
   ⟨(some 5), none, .mv (.t 16)⟩])
  (.seq (.reg [⟨(some 17), none, .mv (.t 5)⟩,
   ⟨(some 18), none, .call 23 [(.t 17)]⟩,
   ⟨(some 6), none, .mv (.t 18)⟩])
  (.seq (.seq (.reg [⟨(some 19), none, .mv (.t 6)⟩,
   ⟨(some 20), none, .mv (.t 4)⟩,
   ⟨(some 21), none, .bin .neq (.t 19) (.t 20)⟩])
  (.cond (.t 21) (.seq (.reg [⟨(some 2), none, .mv (.v (.bool false))⟩])
  .ret)
  .skip))
  (.seq (.seq (.reg [⟨(some 22), none, .mv (.t 5)⟩,
   ⟨(some 23), none, .mv (.t 0)⟩,
   ⟨(some 24), none, .call 22 [(.t 23)]⟩,
   ⟨(some 25), none, .call 24 [(.t 22), (.t 24)]⟩,
   ⟨(some 26), none, .un .not (.t 25)⟩])
  (.cond (.t 26) (.seq (.reg [⟨(some 2), none, .mv (.v (.bool false))⟩])
  .ret)
  .skip))
  (.seq (.reg [⟨(some 2), none, .mv (.v (.bool true))⟩])
  .ret)))))))))),
  [.t 2]⟩
theorem k4 : cFn Try.prog Try.f4 = some c4 := by kernel_rfl
theorem sasL_ok : OkT Try.prog 4 (pureSp sasL_S) := by
  refine okT_fn (OkΓT.cons szSaS_ok (OkΓT.cons toSaS_ok (OkΓT.cons (tsp := sasF_Sp) sasFS_ok (OkΓT.cons (tsp := sasF_Sp) sasFI_ok (OkΓT.cons (tsp := eqSaS_Sp) eqSaS_ok (OkΓT.nil _)))))) Try.func4 (by kernel_rfl) k4 (fun x _ => ⟨rfl, rfl⟩) ?_
  rintro l ⟨hl, hs⟩
  dsimp only at *
  have hz := szSaS_at l 1048576 ⟨by omega, by omega, by omega, fun y hy => by have := hs y hy; omega⟩
  by_cases hn : ((l.length + totO l : Nat) : Int) ≤ 1048576
  · have hb : l.length ≤ 1048576 ∧ ∀ y ∈ l, y.sels.length ≤ 1048576 := ⟨by omega, fun y hy => by have := totO_mem hy; omega⟩
    rw [if_pos hn] at hz
    have h1 := fun t h => toSaS_fn t l h hb
    have e1 := fun t => sasF_fn t [] [] l hb
    have e2 := fun t => sasF_fn t (packO 0 l) [] l hb
    have e3 := fun t => eqSaS_fn t (packO 0 l ++ (packO (l.length + 1) l ++ packO (l.length + 1 + (l.length + 1)) l)) l hb (x := .os (l.length + 1) 0 l.length) (y := .os (l.length + 1 + (l.length + 1)) 0 l.length)
      (by have := packO_at (packO 0 l) (packO (l.length + 1 + (l.length + 1)) l) l 7; rw [packO_len] at this; exact this)
      (by have := packO_at (packO 0 l ++ packO (l.length + 1) l) [] l 7; rw [List.length_append, packO_len, packO_len, List.append_nil, List.append_assoc] at this; exact this)
    simp only [packO_len, List.length_nil, List.nil_append, List.append_nil] at e1 e2
    (dsimp only [c4]; simp (maxSteps := 1000000) (implicitDefEqProofs := false) (disch := omega) only [go_sem, if_pos, if_neg, tw64, twu8, ↓condKT_pos, ↓condKT_neg, ↓gdKT_pt, ↓gdKT_nt, ↓gdKT_pf, ↓gdKT_nf, hz, h1, e1, e2, e3, packO_len])
    repeat' first
      | (refine gdKT_dec (fun hg => ?_) (fun hg => ?_) <;> (try (first | simp (maxSteps := 1000000) (implicitDefEqProofs := false) (disch := omega) only [go_sem, if_pos, if_neg, tw64, twu8, ↓condKT_pos, ↓condKT_neg, ↓gdKT_pt, ↓gdKT_nt, ↓gdKT_pf, ↓gdKT_nf, eq_false hg, hz, h1, e1, e2, e3, packO_len] | simp (maxSteps := 1000000) (implicitDefEqProofs := false) (disch := omega) only [go_sem, if_pos, if_neg, tw64, twu8, ↓condKT_pos, ↓condKT_neg, ↓gdKT_pt, ↓gdKT_nt, ↓gdKT_pf, ↓gdKT_nf, eq_true hg, hz, h1, e1, e2, e3, packO_len])))
      | (refine condKT_dec (fun hg => ?_) (fun hg => ?_) <;> (try (first | simp (maxSteps := 1000000) (implicitDefEqProofs := false) (disch := omega) only [go_sem, if_pos, if_neg, tw64, twu8, ↓condKT_pos, ↓condKT_neg, ↓gdKT_pt, ↓gdKT_nt, ↓gdKT_pf, ↓gdKT_nf, eq_false hg, hz, h1, e1, e2, e3, packO_len] | simp (maxSteps := 1000000) (implicitDefEqProofs := false) (disch := omega) only [go_sem, if_pos, if_neg, tw64, twu8, ↓condKT_pos, ↓condKT_neg, ↓gdKT_pt, ↓gdKT_nt, ↓gdKT_pf, ↓gdKT_nf, eq_true hg, hz, h1, e1, e2, e3, packO_len])))
      | (refine gdKT_split (fun hg => ?_) (fun hg => ?_) <;> (try simp (maxSteps := 1000000) (implicitDefEqProofs := false) (disch := omega) only [go_sem, if_pos, if_neg, tw64, twu8, ↓condKT_pos, ↓condKT_neg, ↓gdKT_pt, ↓gdKT_nt, ↓gdKT_pf, ↓gdKT_nf, hg, hz, h1, e1, e2, e3, packO_len]))
      | (refine condKT_split (fun hg => ?_) (fun hg => ?_) <;> (try simp (maxSteps := 1000000) (implicitDefEqProofs := false) (disch := omega) only [go_sem, if_pos, if_neg, tw64, twu8, ↓condKT_pos, ↓condKT_neg, ↓gdKT_pt, ↓gdKT_nt, ↓gdKT_pf, ↓gdKT_nf, hg, hz, h1, e1, e2, e3, packO_len]))
      | (refine endT_p (.inr rfl) (by simp (maxSteps := 1000000) (implicitDefEqProofs := false) (disch := omega) only [go_sem, if_pos, if_neg, tw64, twu8, ↓condKT_pos, ↓condKT_neg, ↓gdKT_pt, ↓gdKT_nt, ↓gdKT_pf, ↓gdKT_nf, hz, h1, e1, e2, e3, packO_len]; rfl) ?_; (first | exact vb_true (by omega) | exact vb_false (by omega) | exact vb_dec (by omega) | exact vi_eq (by omega) | rfl | (refine vi_eq ?_; simp_all; done) | (refine vi_eq ?_; simp_all; omega) | (refine vi_eq ?_; simp_all; intros; omega)))
      | exact endT_v (.inr rfl) (by simp (maxSteps := 1000000) (implicitDefEqProofs := false) (disch := omega) only [go_sem, if_pos, if_neg, tw64, twu8, ↓condKT_pos, ↓condKT_neg, ↓gdKT_pt, ↓gdKT_nt, ↓gdKT_pf, ↓gdKT_nf, hz, h1, e1, e2, e3, packO_len]; try rfl) (fun _ => rfl)
  · rw [if_neg hn] at hz
    (dsimp only [c4]; simp (maxSteps := 1000000) (implicitDefEqProofs := false) (disch := omega) only [go_sem, if_pos, if_neg, tw64, twu8, ↓condKT_pos, ↓condKT_neg, ↓gdKT_pt, ↓gdKT_nt, ↓gdKT_pf, ↓gdKT_nf, hz])
    repeat' first
      | (refine gdKT_dec (fun hg => ?_) (fun hg => ?_) <;> (try (first | simp (maxSteps := 1000000) (implicitDefEqProofs := false) (disch := omega) only [go_sem, if_pos, if_neg, tw64, twu8, ↓condKT_pos, ↓condKT_neg, ↓gdKT_pt, ↓gdKT_nt, ↓gdKT_pf, ↓gdKT_nf, eq_false hg, hz] | simp (maxSteps := 1000000) (implicitDefEqProofs := false) (disch := omega) only [go_sem, if_pos, if_neg, tw64, twu8, ↓condKT_pos, ↓condKT_neg, ↓gdKT_pt, ↓gdKT_nt, ↓gdKT_pf, ↓gdKT_nf, eq_true hg, hz])))
      | (refine condKT_dec (fun hg => ?_) (fun hg => ?_) <;> (try (first | simp (maxSteps := 1000000) (implicitDefEqProofs := false) (disch := omega) only [go_sem, if_pos, if_neg, tw64, twu8, ↓condKT_pos, ↓condKT_neg, ↓gdKT_pt, ↓gdKT_nt, ↓gdKT_pf, ↓gdKT_nf, eq_false hg, hz] | simp (maxSteps := 1000000) (implicitDefEqProofs := false) (disch := omega) only [go_sem, if_pos, if_neg, tw64, twu8, ↓condKT_pos, ↓condKT_neg, ↓gdKT_pt, ↓gdKT_nt, ↓gdKT_pf, ↓gdKT_nf, eq_true hg, hz])))
      | (refine gdKT_split (fun hg => ?_) (fun hg => ?_) <;> (try simp (maxSteps := 1000000) (implicitDefEqProofs := false) (disch := omega) only [go_sem, if_pos, if_neg, tw64, twu8, ↓condKT_pos, ↓condKT_neg, ↓gdKT_pt, ↓gdKT_nt, ↓gdKT_pf, ↓gdKT_nf, hg, hz]))
      | (refine condKT_split (fun hg => ?_) (fun hg => ?_) <;> (try simp (maxSteps := 1000000) (implicitDefEqProofs := false) (disch := omega) only [go_sem, if_pos, if_neg, tw64, twu8, ↓condKT_pos, ↓condKT_neg, ↓gdKT_pt, ↓gdKT_nt, ↓gdKT_pf, ↓gdKT_nf, hg, hz]))
      | (refine endT_p (.inr rfl) (by simp (maxSteps := 1000000) (implicitDefEqProofs := false) (disch := omega) only [go_sem, if_pos, if_neg, tw64, twu8, ↓condKT_pos, ↓condKT_neg, ↓gdKT_pt, ↓gdKT_nt, ↓gdKT_pf, ↓gdKT_nf, hz]; rfl) ?_; (first | exact vb_true (by omega) | exact vb_false (by omega) | exact vb_dec (by omega) | exact vi_eq (by omega) | rfl | (refine vi_eq ?_; simp_all; done) | (refine vi_eq ?_; simp_all; omega) | (refine vi_eq ?_; simp_all; intros; omega)))
      | exact endT_v (.inr rfl) (by simp (maxSteps := 1000000) (implicitDefEqProofs := false) (disch := omega) only [go_sem, if_pos, if_neg, tw64, twu8, ↓condKT_pos, ↓condKT_neg, ↓gdKT_pt, ↓gdKT_nt, ↓gdKT_pf, ↓gdKT_nf, hz]; try rfl) (fun _ => rfl)
theorem fnExactSasFault_calls {W : World} {h : Heap} {ι : Inj} {avs cargs : List Value} {tvs : List TV} (hr : HR Try.prog ι h h.length W.heap.size W) (hv : VRs ι avs cargs) (hf : VFs (conts h) tvs avs)
    (sh : ShArgs Try.prog #[36].toList tvs) : Calls Try.prog 4 ⟨cargs⟩ W (fun e W' => e = .returned (.bool true) ∧ Go.RowKit.Below W.heap.size W W') := by
  obtain ⟨cs, _, rfl, hs, rfl⟩ := sh
  simp only [ShT, Try.underlying36] at hs
  obtain ⟨es, rfl, h1, _, h3⟩ := hs
  obtain ⟨l, rfl, hl⟩ := rows_exP (g := saT) (Q := fun x => x.sels.length ≤ 140737488351232) (fun x hx => by
    obtain ⟨cs, rfl, hs⟩ := h3 x hx
    obtain ⟨y, hy, hl⟩ := sa_shape (d := 3) hs
    exact ⟨y, hy, hl⟩)
  have hb : Try.prog.bytesOf 26 = 104 := by kernel_rfl
  rw [hb, rowsT_len] at h1
  have e : valT Try.prog 36 [.s (rowsT saT l)] = .s (rowsT saT l) := by simp [valT, aggT, Try.underlying36, el]
  rw [e] at hf
  exact law_T sasL_ok hr hv hf (by
    have : [TV.s (rowsT saT l)].map (frzT [] 9) = [.s (rowsT saT l)] := by simp only [List.map_cons, List.map_nil, frz_s]
    rw [this]; exact sasL_at l ⟨by omega, hl⟩)
end Go.Proofs.Ytngebdcbcliobaa
