import Derived.Test.YtngebdcbcliobaaC6b
set_option linter.unusedSimpArgs false
set_option linter.unusedVariables false
set_option maxRecDepth 100000
set_option maxHeartbeats 4000000
namespace Go.Proofs.Ytngebdcbcliobaa
open Go Go.AH
attribute [local irreducible] awpT ropsT qopsT stepT condKT gdKT EndT joinK loopKT seqKT blkKT kont kontR
/-! Shapes -/
theorem rows_ex {α : Type} {g : α → TV} : ∀ {es : List TV}, (∀ x ∈ es, ∃ y, x = g y) → ∃ l, es = rowsT g l
  | [], _ => ⟨[], rfl⟩
  | e :: es, h => by
    obtain ⟨y, rfl⟩ := h e (by simp)
    obtain ⟨l, rfl⟩ := rows_ex (fun x hx => h x (by simp [hx]) : ∀ x ∈ es, ∃ y, x = g y)
    exact ⟨y :: l, rfl⟩
theorem sel_shape {d : Nat} {cs : List TV} (h : ShT Try.prog (d + 3) 159 cs) : ∃ x : SlR, elOf Try.prog 159 cs = slT x := by
  simp only [ShT, ShF, Try.underlying159, Try.underlying157, Try.underlying2] at h
  obtain ⟨_, _, rfl, ⟨_, _, rfl, ⟨f1, rfl, _⟩, ⟨_, _, rfl, ⟨f2, rfl, _⟩, rfl⟩⟩, ⟨_, _, rfl, ⟨_, _, rfl, ⟨t1, rfl, _⟩, ⟨_, _, rfl, ⟨t2, rfl, _⟩, rfl⟩⟩, ⟨_, _, rfl, ⟨_, _, rfl, ⟨p1, rfl, _⟩, ⟨_, _, rfl, ⟨p2, rfl, _⟩, rfl⟩⟩, ⟨_, _, rfl, ⟨_, _, rfl, ⟨q1, rfl, _⟩, ⟨_, _, rfl, ⟨q2, rfl, _⟩, rfl⟩⟩, ⟨_, _, rfl, ⟨pr, rfl, _⟩, rfl⟩⟩⟩⟩⟩ := h
  refine ⟨⟨f1, f2, t1, t2, p1, p2, q1, q2, pr⟩, ?_⟩
  simp [elOf, aggT, Try.underlying159, Try.underlying157, Try.underlying2, slT]
theorem sa_shape {d : Nat} {cs : List TV} (h : ShT Try.prog (d + 5) 26 cs) : ∃ x : SaR, valT Try.prog 26 cs = saT x ∧ x.sels.length ≤ 140737488351232 := by
  simp only [ShT, ShF, Try.underlying26, Try.underlying2, Try.underlying4, Try.underlying23, Try.underlying24] at h
  obtain ⟨_, _, rfl, ⟨spi, rfl, _⟩, ⟨_, _, rfl, ⟨peer, rfl, _⟩, ⟨_, _, rfl, ⟨key, rfl, _⟩, ⟨_, _, rfl, ⟨inn, rfl⟩, ⟨_, _, rfl, ⟨sent, rfl, _⟩, ⟨_, _, rfl, ⟨_, _, rfl, ⟨top, rfl, _⟩, ⟨_, _, rfl, ⟨bits, rfl, _⟩, rfl⟩⟩, ⟨_, _, rfl, ⟨byt, rfl, _⟩, ⟨_, _, rfl, ⟨hard, rfl, _⟩, ⟨_, _, rfl, ⟨til, rfl, _⟩, ⟨_, _, rfl, ⟨es, rfl, es_1, es_2, es_3⟩, rfl⟩⟩⟩⟩⟩⟩⟩⟩⟩⟩ := h
  obtain ⟨l, rfl⟩ := rows_ex (g := slT) (fun x hx => by
    obtain ⟨cs, rfl, hs⟩ := es_3 x hx
    exact sel_shape hs)
  have hb : Try.prog.bytesOf 159 = 72 := by kernel_rfl
  rw [hb, rowsT_len] at es_1
  refine ⟨⟨spi, peer, key, inn, sent, top, bits, byt, hard, til, l⟩, ?_, by show l.length ≤ _; omega⟩
  simp [valT, aggT, Try.underlying26, Try.underlying2, Try.underlying4, Try.underlying23, Try.underlying24, saT]
noncomputable def saL_S := specP (fun x : SaR => [saT x]) (fun x => x.sels.length ≤ 140737488351232) (fun x => (.p (.bool true), []))
theorem saL_at (x : SaR) (h : x.sels.length ≤ 140737488351232) : saL_S [saT x] = some (.p (.bool true), []) :=
  specP_at (enc := fun x : SaR => [saT x]) (fun x y h => saT_inj x y (by simpa using h)) x h
-- laws.FnExactSaFault
def c3 : AF := ⟨27,
  (.seq (.reg [⟨(some 1), none, .box 26 (.t 0)⟩,
   ⟨(some 2), none, .mv (.v (.bool false))⟩])
  (.seq (.reg [⟨(some 3), none, .mv (.v (.int .i64 1048576))⟩])
  (.seq (.reg [⟨(some 7), none, .ldn 11 (.t 1)⟩,
   ⟨(some 8), none, .mv (.t 3)⟩,
   ⟨(some 9), none, .call 15 [(.t 7), (.t 8)]⟩,
   ⟨(some 3), none, .mv (.t 9)⟩])
  (.seq (.seq (.reg [⟨(some 10), none, .mv (.t 3)⟩,
   ⟨(some 11), none, .bin .lss (.t 10) (.v (.int .i64 0))⟩])
  (.cond (.t 11) (.seq (.reg [⟨(some 2), none, .mv (.v (.bool true))⟩])
  .ret)
  .skip))
  (.seq (.reg [⟨(some 12), none, .ldn 11 (.t 1)⟩,
   ⟨(some 13), none, .call 17 [(.t 12)]⟩,
   ⟨(some 14), none, .call 16 [(.t 13)]⟩,
   ⟨(some 4), none, .mv (.t 14)⟩])
  (.seq (.reg [⟨(some 15), none, .ldn 11 (.t 1)⟩,
   ⟨(some 16), none, .call 17 [(.t 15)]⟩,
   ⟨(some 5), none, .alloc 32 [(.int .i64 0), (.int .i64 0), (.int .i64 0), (.bool false), (.int .i64 0), (.int .i64 0), (.int .i64 0), (.int .i64 0), (.int .i64 0), (.int .i64 0), (.slice none 0 0)]⟩,
   ⟨none, none, .st 11 (.t 5) (.t 16)⟩])
  (.seq (.reg [⟨(some 17), none, .ldn 11 (.t 5)⟩,
   ⟨(some 18), none, .call 18 [(.t 17)]⟩,
   ⟨(some 6), none, .mv (.t 18)⟩])
  (.seq (.seq (.reg [⟨(some 19), none, .mv (.t 6)⟩,
   ⟨(some 20), none, .mv (.t 4)⟩,
   ⟨(some 21), none, .bin .neq (.t 19) (.t 20)⟩])
  (.cond (.t 21) (.seq (.reg [⟨(some 2), none, .mv (.v (.bool false))⟩])
  .ret)
  .skip))
  (.seq (.seq (.drw [⟨(some 22), none, .ldn 11 (.t 5)⟩,
   ⟨(some 23), none, .ldn 11 (.t 1)⟩,
   ⟨(some 24), none, .call 17 [(.t 23)]⟩,
   ⟨(some 25), none, .call 19 [(.t 22), (.t 24)]⟩,
   ⟨(some 26), none, .un .not (.t 25)⟩] [])
  (.cond (.t 26) (.seq (.reg [⟨(some 2), none, .mv (.v (.bool false))⟩])
  .ret)
  .skip))
  (.seq (.reg [⟨(some 2), none, .mv (.v (.bool true))⟩])
  .ret)))))))))),
  [.t 2]⟩
theorem k3 : cFn Try.prog Try.f3 = some c3 := by kernel_rfl
theorem saL_ok : OkT Try.prog 3 (pureSp saL_S) := by
  refine okT_fn (OkΓT.cons szSa_ok (OkΓT.cons toSa_ok (OkΓT.cons saFS_ok (OkΓT.cons saFI_ok (OkΓT.cons eqSa_ok (OkΓT.nil _)))))) Try.func3 (by kernel_rfl) k3 (fun x _ => ⟨rfl, rfl⟩) ?_
  rintro x hx
  dsimp only [saT] at *
  by_cases hl : x.sels.length ≤ 1048576
  · (dsimp only [c3]; simp (maxSteps := 1000000) (implicitDefEqProofs := false) (disch := omega) only [go_sem, if_pos, if_neg, tw64, twu8, ↓condKT_pos, ↓condKT_neg, ↓gdKT_pt, ↓gdKT_nt, ↓gdKT_pf, ↓gdKT_nf, szSa_at, toSa_at, saF_at, eqSa_at, List.take_length])
    repeat' first
      | (refine gdKT_dec (fun hg => ?_) (fun hg => ?_) <;> (try (first | simp (maxSteps := 1000000) (implicitDefEqProofs := false) (disch := omega) only [go_sem, if_pos, if_neg, tw64, twu8, ↓condKT_pos, ↓condKT_neg, ↓gdKT_pt, ↓gdKT_nt, ↓gdKT_pf, ↓gdKT_nf, eq_false hg, szSa_at, toSa_at, saF_at, eqSa_at, List.take_length] | simp (maxSteps := 1000000) (implicitDefEqProofs := false) (disch := omega) only [go_sem, if_pos, if_neg, tw64, twu8, ↓condKT_pos, ↓condKT_neg, ↓gdKT_pt, ↓gdKT_nt, ↓gdKT_pf, ↓gdKT_nf, eq_true hg, szSa_at, toSa_at, saF_at, eqSa_at, List.take_length])))
      | (refine condKT_dec (fun hg => ?_) (fun hg => ?_) <;> (try (first | simp (maxSteps := 1000000) (implicitDefEqProofs := false) (disch := omega) only [go_sem, if_pos, if_neg, tw64, twu8, ↓condKT_pos, ↓condKT_neg, ↓gdKT_pt, ↓gdKT_nt, ↓gdKT_pf, ↓gdKT_nf, eq_false hg, szSa_at, toSa_at, saF_at, eqSa_at, List.take_length] | simp (maxSteps := 1000000) (implicitDefEqProofs := false) (disch := omega) only [go_sem, if_pos, if_neg, tw64, twu8, ↓condKT_pos, ↓condKT_neg, ↓gdKT_pt, ↓gdKT_nt, ↓gdKT_pf, ↓gdKT_nf, eq_true hg, szSa_at, toSa_at, saF_at, eqSa_at, List.take_length])))
      | (refine gdKT_split (fun hg => ?_) (fun hg => ?_) <;> (try simp (maxSteps := 1000000) (implicitDefEqProofs := false) (disch := omega) only [go_sem, if_pos, if_neg, tw64, twu8, ↓condKT_pos, ↓condKT_neg, ↓gdKT_pt, ↓gdKT_nt, ↓gdKT_pf, ↓gdKT_nf, hg, szSa_at, toSa_at, saF_at, eqSa_at, List.take_length]))
      | (refine condKT_split (fun hg => ?_) (fun hg => ?_) <;> (try simp (maxSteps := 1000000) (implicitDefEqProofs := false) (disch := omega) only [go_sem, if_pos, if_neg, tw64, twu8, ↓condKT_pos, ↓condKT_neg, ↓gdKT_pt, ↓gdKT_nt, ↓gdKT_pf, ↓gdKT_nf, hg, szSa_at, toSa_at, saF_at, eqSa_at, List.take_length]))
      | (refine endT_p (.inr rfl) (by simp (maxSteps := 1000000) (implicitDefEqProofs := false) (disch := omega) only [go_sem, if_pos, if_neg, tw64, twu8, ↓condKT_pos, ↓condKT_neg, ↓gdKT_pt, ↓gdKT_nt, ↓gdKT_pf, ↓gdKT_nf, szSa_at, toSa_at, saF_at, eqSa_at, List.take_length]; rfl) ?_; (first | exact vb_true (by omega) | exact vb_false (by omega) | exact vb_dec (by omega) | exact vi_eq (by omega) | rfl | (refine vi_eq ?_; simp_all; done) | (refine vi_eq ?_; simp_all; omega) | (refine vi_eq ?_; simp_all; intros; omega)))
      | exact endT_v (.inr rfl) (by simp (maxSteps := 1000000) (implicitDefEqProofs := false) (disch := omega) only [go_sem, if_pos, if_neg, tw64, twu8, ↓condKT_pos, ↓condKT_neg, ↓gdKT_pt, ↓gdKT_nt, ↓gdKT_pf, ↓gdKT_nf, szSa_at, toSa_at, saF_at, eqSa_at, List.take_length]; try rfl) (fun _ => rfl)
  · (dsimp only [c3]; simp (maxSteps := 1000000) (implicitDefEqProofs := false) (disch := omega) only [go_sem, if_pos, if_neg, tw64, twu8, ↓condKT_pos, ↓condKT_neg, ↓gdKT_pt, ↓gdKT_nt, ↓gdKT_pf, ↓gdKT_nf, szSa_at])
    repeat' first
      | (refine gdKT_dec (fun hg => ?_) (fun hg => ?_) <;> (try (first | simp (maxSteps := 1000000) (implicitDefEqProofs := false) (disch := omega) only [go_sem, if_pos, if_neg, tw64, twu8, ↓condKT_pos, ↓condKT_neg, ↓gdKT_pt, ↓gdKT_nt, ↓gdKT_pf, ↓gdKT_nf, eq_false hg, szSa_at] | simp (maxSteps := 1000000) (implicitDefEqProofs := false) (disch := omega) only [go_sem, if_pos, if_neg, tw64, twu8, ↓condKT_pos, ↓condKT_neg, ↓gdKT_pt, ↓gdKT_nt, ↓gdKT_pf, ↓gdKT_nf, eq_true hg, szSa_at])))
      | (refine condKT_dec (fun hg => ?_) (fun hg => ?_) <;> (try (first | simp (maxSteps := 1000000) (implicitDefEqProofs := false) (disch := omega) only [go_sem, if_pos, if_neg, tw64, twu8, ↓condKT_pos, ↓condKT_neg, ↓gdKT_pt, ↓gdKT_nt, ↓gdKT_pf, ↓gdKT_nf, eq_false hg, szSa_at] | simp (maxSteps := 1000000) (implicitDefEqProofs := false) (disch := omega) only [go_sem, if_pos, if_neg, tw64, twu8, ↓condKT_pos, ↓condKT_neg, ↓gdKT_pt, ↓gdKT_nt, ↓gdKT_pf, ↓gdKT_nf, eq_true hg, szSa_at])))
      | (refine gdKT_split (fun hg => ?_) (fun hg => ?_) <;> (try simp (maxSteps := 1000000) (implicitDefEqProofs := false) (disch := omega) only [go_sem, if_pos, if_neg, tw64, twu8, ↓condKT_pos, ↓condKT_neg, ↓gdKT_pt, ↓gdKT_nt, ↓gdKT_pf, ↓gdKT_nf, hg, szSa_at]))
      | (refine condKT_split (fun hg => ?_) (fun hg => ?_) <;> (try simp (maxSteps := 1000000) (implicitDefEqProofs := false) (disch := omega) only [go_sem, if_pos, if_neg, tw64, twu8, ↓condKT_pos, ↓condKT_neg, ↓gdKT_pt, ↓gdKT_nt, ↓gdKT_pf, ↓gdKT_nf, hg, szSa_at]))
      | (refine endT_p (.inr rfl) (by simp (maxSteps := 1000000) (implicitDefEqProofs := false) (disch := omega) only [go_sem, if_pos, if_neg, tw64, twu8, ↓condKT_pos, ↓condKT_neg, ↓gdKT_pt, ↓gdKT_nt, ↓gdKT_pf, ↓gdKT_nf, szSa_at]; rfl) ?_; (first | exact vb_true (by omega) | exact vb_false (by omega) | exact vb_dec (by omega) | exact vi_eq (by omega) | rfl | (refine vi_eq ?_; simp_all; done) | (refine vi_eq ?_; simp_all; omega) | (refine vi_eq ?_; simp_all; intros; omega)))
      | exact endT_v (.inr rfl) (by simp (maxSteps := 1000000) (implicitDefEqProofs := false) (disch := omega) only [go_sem, if_pos, if_neg, tw64, twu8, ↓condKT_pos, ↓condKT_neg, ↓gdKT_pt, ↓gdKT_nt, ↓gdKT_pf, ↓gdKT_nf, szSa_at]; try rfl) (fun _ => rfl)
theorem fnExactSaFault_calls {W : World} {h : Heap} {ι : Inj} {avs cargs : List Value} {tvs : List TV} (hr : HR Try.prog ι h h.length W.heap.size W) (hv : VRs ι avs cargs) (hf : VFs (conts h) tvs avs)
    (sh : ShArgs Try.prog #[26].toList tvs) : Calls Try.prog 3 ⟨cargs⟩ W (fun e W' => e = .returned (.bool true) ∧ Go.RowKit.Below W.heap.size W W') := by
  obtain ⟨cs, _, rfl, hs, rfl⟩ := sh
  obtain ⟨x, hx, hl⟩ := sa_shape hs
  rw [hx] at hf
  exact law_T saL_ok hr hv hf (by
    have : [saT x].map (frzT [] 9) = [saT x] := by simp only [List.map_cons, List.map_nil, saT, frz_agg, frz_p, frz_s]
    rw [this]; exact saL_at x hl)
end Go.Proofs.Ytngebdcbcliobaa
