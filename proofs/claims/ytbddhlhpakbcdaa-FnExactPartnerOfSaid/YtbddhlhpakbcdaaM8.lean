import Derived.Test.YtbddhlhpakbcdaaM7
set_option linter.unusedSimpArgs false
set_option linter.unusedVariables false
set_option maxRecDepth 100000
set_option maxHeartbeats 4000000
namespace Go.Proofs.Ytbddhlhpakbcdaa
open Go Go.AH
attribute [local irreducible] awpT ropsT qopsT stepT condKT gdKT EndT joinK loopKT seqKT blkKT kont kontR ropsTF frKT
/-! The fault of a net -/

noncomputable def findG_S {β : Type} (f : Nat) (cap : β → List TV) (q : β → GvR → Prop) (p : β → GvR → Bool) := specP (fun x : List GvR × β => [.s (rowsT gvT x.1), .fn f (cap x.2)]) (fun x => x.1.length ≤ 1048576 ∧ ∀ v ∈ x.1, q x.2 v) (fun x => (.p (.int .i64 (nix (x.1.findIdx? (p x.2)))), []))
noncomputable def askG_S {β : Type} (cap : β → List TV) (q : β → GvR → Prop) (p : β → GvR → Bool) := specP (fun x : GvR × β => gvT x.1 :: cap x.2) (fun x => q x.2 x.1) (fun x => (.p (.bool (p x.2 x.1)), []))
theorem encG_inj {β : Type} {f : Nat} {cap : β → List TV} (hcap : ∀ x y, cap x = cap y → x = y) (x y : List GvR × β) (h : [TV.s (rowsT gvT x.1), .fn f (cap x.2)] = [.s (rowsT gvT y.1), .fn f (cap y.2)]) : x = y := by
  obtain ⟨a, b⟩ := x; obtain ⟨c, d⟩ := y; simp at h; simp [rowsT_inj gvT_inj h.1, hcap _ _ h.2]
theorem findG_at {β : Type} {f : Nat} {cap : β → List TV} {q : β → GvR → Prop} {p : β → GvR → Bool} (hcap : ∀ x y, cap x = cap y → x = y) (l : List GvR) (b : β) (h : l.length ≤ 1048576 ∧ ∀ v ∈ l, q b v) : findG_S f cap q p [.s (rowsT gvT l), .fn f (cap b)] = some (.p (.int .i64 (nix (l.findIdx? (p b)))), []) := specP_at (enc := (fun x : List GvR × β => [.s (rowsT gvT x.1), .fn f (cap x.2)])) (encG_inj hcap) (l, b) h
-- slices.IndexFunc[[]impl.Given,impl.Given]
def c159 : AF := ⟨19,
 (.seq (.reg [rO 4 (.mv (.v (.int .i64 0)))])
 (.seq (.seq (.reg [rO 6 (.mv (.t 0)),
 rO 7 (.len (.t 6)),
 rO 8 (.mv (.v (.int .i64 0)))])
 (.block 0 (.loop (.seq (.reg [rO 9 (.bin .lss (.t 8) (.t 7))])
 (.seq (.cond (.t 9) .skip
 (.exit 0))
 (.seq (.block 1 (.seq (.reg [rO 10 (.mv (.t 8)),
 rO 5 (.mv (.t 10))])
 (.seq (.reg [rO 11 (.mv (.t 1)),
 rO 12 (.mv (.t 0)),
 rO 13 (.mv (.t 5)),
 rO 14 (.ia 4 (.t 12) (.t 13)),
 rO 15 (.ldn 4 (.t 14)),
 rO 16 (.callv (.t 11) [(.t 15)])])
 (.cond (.t 16) (.seq (.reg [rO 17 (.mv (.t 5)),
 rO 4 (.mv (.t 17))])
 .ret)
 .skip))))
 (.reg [rO 18 (.bin .add (.t 8) (.v (.int .i64 1))),
 rO 8 (.mv (.t 18))])))))))
 (.seq (.reg [rO 4 (.mv (.v (.int .i64 (-1))))])
 .ret))),
 [.t 4]⟩
theorem k159 : cFn Try.prog Try.f159 = some c159 := by kernel_rfl
theorem findG_ok {β : Type} {f : Nat} {cap : β → List TV} {q : β → GvR → Prop} {p : β → GvR → Bool} (hcap : ∀ x y, cap x = cap y → x = y) (hfr : ∀ h n x, (cap x).map (frzT h n) = cap x) (ok : OkT Try.prog f (pureSp (askG_S cap q p))) : OkT Try.prog 159 (pureSp (findG_S f cap q p)) := by
  have hat : ∀ (x : GvR) (b : β), q b x → askG_S cap q p (gvT x :: cap b) = some (.p (.bool (p b x)), []) := fun x b hq =>
    specP_at (enc := fun x : GvR × β => gvT x.1 :: cap x.2) (by rintro ⟨a, b⟩ ⟨a', b'⟩ h; simp at h; simp [gvT_inj _ _ h.1, hcap _ _ h.2]) (x, b) hq
  refine okT_fn (cs ok n0) Try.func159 (by kernel_rfl) k159 (fun x _ => ⟨rfl, rfl⟩) ?_
  rintro ⟨l, b⟩ ⟨hl, hq⟩
  dsimp only [c159, rO] at *
  refine tS ?_
  refine awpT_loop (α := Nat) (fun i => ⟨slots [(0, .s (rowsT gvT l)), (1, .fn f (cap b)), (7, .p (.int .i64 l.length)), (8, .p (.int .i64 i))], []⟩) (fun i => i ≤ l.length ∧ ∀ j y, j < i → l[j]? = some y → p b y = false) (fun i => l.length - i) 0 ⟨by omega, fun j y hj => absurd hj (by omega)⟩ (le_keep (Nat.zero_le _) (by simp (maxSteps := 8000000) -implicitDefEqProofs (disch := omega) only [↓reduceIte, go_sem, slotsIn, *])) ?_
  intro i ⟨hi, hn⟩
  refine tS ?_
  refine cD (fun hlt => ?_) (fun hge => ?_)
  · obtain ⟨x, hx⟩ := get_ex (l := l) (i := i) (by omega)
    have hx2 := hat x b (hq x (List.mem_of_getElem? hx))
    simp only [gvT] at hx2
    cases hs : p b x
    · have e := nsn hx hs hn
      clear hn hq hat
      refine tS ?_
      refine lN (i + 1) ?_ ⟨by omega, e⟩
      exact le_keep (Nat.zero_le _) (by simp (maxSteps := 8000000) -implicitDefEqProofs (disch := omega) only [↓reduceIte, go_sem, slotsIn, *])
    · rw [nfs hx hs hn]
      clear hn hq hat
      dsimp only [nix]
      try refine tS ?_
      repeat' first | exact eV | exact eP | ((first | apply cD | apply cB | apply gD | apply gB) <;> intro _ <;> try refine tS ?_)
  · rw [nfn (fun j y hj => hn j y (by omega))]
    clear hn hq hat
    dsimp only [nix]
    refine tS ?_
    refine joinK_here ?_
    try refine tS ?_
    repeat' first | exact eV | exact eP | ((first | apply cD | apply cB | apply gD | apply gB) <;> intro _ <;> try refine tS ?_)

noncomputable def cfG_S {β : Type} (f : Nat) (cap : β → List TV) (q : β → GvR → Prop) (p : β → GvR → Bool) := specP (fun x : List GvR × β => [.s (rowsT gvT x.1), .fn f (cap x.2)]) (fun x => x.1.length ≤ 1048576 ∧ ∀ v ∈ x.1, q x.2 v) (fun x => (.p (.bool (x.1.any (p x.2))), []))
theorem cfG_at {β : Type} {f : Nat} {cap : β → List TV} {q : β → GvR → Prop} {p : β → GvR → Bool} (hcap : ∀ x y, cap x = cap y → x = y) (l : List GvR) (b : β) (h : l.length ≤ 1048576 ∧ ∀ v ∈ l, q b v) : cfG_S f cap q p [.s (rowsT gvT l), .fn f (cap b)] = some (.p (.bool (l.any (p b))), []) := specP_at (enc := (fun x : List GvR × β => [.s (rowsT gvT x.1), .fn f (cap x.2)])) (encG_inj hcap) (l, b) h
-- slices.ContainsFunc[[]impl.Given,impl.Given]
def c120 : AF := ⟨9,
 (.seq (.reg [rO 4 (.mv (.v (.bool false)))])
 (.seq (.reg [rO 5 (.mv (.t 0)),
 rO 6 (.mv (.t 1)),
 rO 7 (.call 159 [(.t 5), (.t 6)]),
 rO 8 (.bin .geq (.t 7) (.v (.int .i64 0))),
 rO 4 (.mv (.t 8))])
 .ret)),
 [.t 4]⟩
theorem k120 : cFn Try.prog Try.f120 = some c120 := by kernel_rfl
theorem cfG_ok {β : Type} {f : Nat} {cap : β → List TV} {q : β → GvR → Prop} {p : β → GvR → Bool} (hcap : ∀ x y, cap x = cap y → x = y) (hfr : ∀ h n x, (cap x).map (frzT h n) = cap x) (ok : OkT Try.prog f (pureSp (askG_S cap q p))) : OkT Try.prog 120 (pureSp (cfG_S f cap q p)) := by
  refine okT_fn (cs (findG_ok hcap hfr ok) n0) Try.func120 (by kernel_rfl) k120 (fun x _ => ⟨rfl, rfl⟩) ?_
  rintro ⟨l, b⟩ h
  dsimp only [c120, rO] at *
  have hx := findG_at (f := f) (p := p) hcap l b h
  rw [← nix_any]
  try refine tS ?_
  repeat' first | exact eV | exact eP | ((first | apply cD | apply cB | apply gD | apply gB) <;> intro _ <;> try refine tS ?_)

def badG (n : NtR) (x : GvR) : Bool := !((talkAt n x.gate x.talk).isSome && (decide (1 ≤ x.seq ∧ x.seq ≤ 9999) && plc n.table.length x.load))
def capN (n : NtR) : List TV := [.fe (ntT n) 0]
theorem capN_inj (x y : NtR) (h : capN x = capN y) : x = y := by simp only [capN, List.cons.injEq, TV.fe.injEq, and_true] at h; exact ntT_inj _ _ h
theorem capN_frz (h : THeap) (n : Nat) (x : NtR) : (capN x).map (frzT h n) = capN x := by simp only [capN, List.map_cons, List.map_nil, frz_fe]
def qN (n : NtR) (_ : GvR) : Prop := NtOk n
-- impl.NetFault$1
def c122 : AF := ⟨24,
 (.seq (.reg [rO 2 (.box 166 (.t 0)),
 rO 3 (.mv (.v (.bool false)))])
 (.seq (.reg [rO 4 (.fa (.t 2) 0),
 rO 5 (.ld (.t 4)),
 rO 6 (.fa (.t 2) 1),
 rO 7 (.ld (.t 6)),
 rO 8 (.call 123 [(.t 1), (.t 5), (.t 7)]),
 rO 9 (.eqP false (.t 8)),
 rO 10 (.mv (.t 9)),
 ⟨(some 11), (some (10, false)), .fa (.t 2) 2⟩,
 ⟨(some 12), (some (10, false)), .ld (.t 11)⟩,
 ⟨(some 13), (some (10, false)), .call 48 [(.t 12), (.v (.int .i64 1)), (.v (.int .i64 9999))]⟩,
 ⟨(some 14), (some (10, false)), .un .not (.t 13)⟩,
 rO 15 (.pick (.t 10) (.v (.bool true)) (.t 14)),
 rO 16 (.mv (.t 15)),
 ⟨(some 17), (some (16, false)), .fa (.t 1) 0⟩,
 ⟨(some 18), (some (16, false)), .ld (.t 17)⟩,
 ⟨(some 19), (some (16, false)), .fa (.t 2) 3⟩,
 ⟨(some 20), (some (16, false)), .ld (.t 19)⟩,
 ⟨(some 21), (some (16, false)), .call 49 [(.t 18), (.t 20)]⟩,
 ⟨(some 22), (some (16, false)), .un .not (.t 21)⟩,
 rO 23 (.pick (.t 16) (.v (.bool true)) (.t 22)),
 rO 3 (.mv (.t 23))])
 .ret)),
 [.t 3]⟩
theorem k122 : cFn Try.prog Try.f122 = some c122 := by kernel_rfl
theorem nf1_ok : OkT Try.prog 122 (pureSp (askG_S capN qN badG)) := by
  refine okT_fn (cs tlk_ok (cs in_ok (cs plcI_ok n0))) Try.func122 (by kernel_rfl) k122 (fun x _ => ⟨rfl, rfl⟩) ?_
  rintro ⟨x, n⟩ hk
  have ha := hk.a
  dsimp only [qN, capN, gvT, ntT, c122, rO] at *
  unfold badG
  cases ht : talkAt n x.gate x.talk with
  | none =>
    have h1 := talkP_none ht
    rw [Option.isSome_none, Bool.false_and, Bool.not_false]
    try refine tS ?_
    repeat' first | exact eV | exact eP | ((first | apply cD | apply cB | apply gD | apply gB) <;> intro _ <;> try refine tS ?_)
  | some t =>
    have h1 := talkP_some ht
    rw [Option.isSome_some, Bool.true_and]
    by_cases h2 : 1 ≤ x.seq ∧ x.seq ≤ 9999
    · rw [decide_eq_true h2, Bool.true_and]
      try refine tS ?_
      repeat' first | exact eV | exact eP | ((first | apply cD | apply cB | apply gD | apply gB) <;> intro _ <;> try refine tS ?_)
    · rw [decide_eq_false h2, Bool.false_and, Bool.not_false]
      try refine tS ?_
      repeat' first | exact eV | exact eP | ((first | apply cD | apply cB | apply gD | apply gB) <;> intro _ <;> try refine tS ?_)
theorem cfN_ok : OkT Try.prog 120 (pureSp (cfG_S 122 capN qN badG)) := cfG_ok capN_inj capN_frz nf1_ok
theorem cfN_at (l : List GvR) (n : NtR) (h : l.length ≤ 1048576) (hn : NtOk n) : cfG_S 122 capN qN badG [.s (rowsT gvT l), .fn 122 [.fe (ntT n) 0]] = some (.p (.bool (l.any (badG n))), []) := cfG_at capN_inj l n ⟨h, fun _ _ => hn⟩
noncomputable def giv_S := spE (α := FeN × List GvR) (fun x => (NtOk x.1.x) ∧ (x.2.length ≤ 1048576)) (fun x => (.p (.int .i64 (if x.2.any (badG x.1.x) = true then 3 else 0)), []))
theorem giv_at (n1 : List TmR) (n2 : List GaR) (n3 n4 : List Int) (n5 n6 : List GvR) (l : List GvR) (h0 : NtOk (⟨n1, n2, n3, n4, n5, n6⟩ : NtR)) (h1 : l.length ≤ 1048576) : giv_S [.fe (.agg [.s (rowsT tmT n1), .s (rowsT gaT n2), .s (isT n3), .s (isT n4), .s (rowsT gvT n5), .s (rowsT gvT n6)]) 0, .s (rowsT gvT l)] = some ((.p (.int .i64 (if l.any (badG (⟨n1, n2, n3, n4, n5, n6⟩ : NtR)) = true then 3 else 0)), [])) := spE_at (α := FeN × List GvR) (⟨(⟨n1, n2, n3, n4, n5, n6⟩ : NtR)⟩, l) ⟨h0, h1⟩
attribute [go_sem] giv_at

theorem any_at {α : Type} {l : List α} {p : α → Bool} {i : Nat} {x : α} (h : l[i]? = some x) : (l.drop i).any p = (p x || (l.drop (i + 1)).any p) := by
  obtain ⟨h1, h2⟩ := List.getElem?_eq_some_iff.1 h
  rw [List.drop_eq_getElem_cons h1, h2]; rfl
theorem any_end {α : Type} {l : List α} {p : α → Bool} {i : Nat} (h : l.length ≤ i) : (l.drop i).any p = false := by rw [List.drop_eq_nil_of_le h]; rfl
-- spec.l12Given
def c113 : AF := ⟨60,
 (.seq (.reg [rO 4 (.mv (.v (.int .i64 0)))])
 (.seq (.seq (.reg [rO 5 (.mv (.v (.int .i64 0)))])
 (.block 0 (.loop (.seq (.seq (.reg [rO 7 (.mv (.t 5)),
 rO 8 (.mv (.t 1)),
 rO 9 (.len (.t 8)),
 rO 10 (.bin .lss (.t 7) (.t 9))])
 (.cond (.t 10) .skip
 (.exit 0)))
 (.seq (.block 1 (.seq (.reg [rO 13 (.mv (.t 1)),
 rO 14 (.mv (.t 5)),
 rO 15 (.ia 4 (.t 13) (.t 14)),
 rO 16 (.ldn 4 (.t 15)),
 rO 6 (.alloc 166 [(.int .i64 0), (.int .i64 0), (.int .i64 0), (.int .i64 0)]),
 ⟨none, none, .st 4 (.t 6) (.t 16)⟩])
 (.seq (.drw [rO 17 (.fa (.t 6) 0),
 rO 18 (.ld (.t 17)),
 rO 19 (.mv (.t 0)),
 rO 20 (.nilc (.t 19)),
 rO 21 (.fa (.t 20) 1),
 rO 22 (.ld (.t 21)),
 rO 23 (.len (.t 22)),
 rO 24 (.call 54 [(.t 18), (.v (.int .i64 1)), (.t 23)]),
 rO 25 (.un .not (.t 24)),
 rO 26 (.mv (.t 25)),
 ⟨(some 27), (some (26, false)), .fa (.t 6) 1⟩,
 ⟨(some 28), (some (26, false)), .ld (.t 27)⟩,
 ⟨(some 29), (some (26, false)), .mv (.t 0)⟩,
 ⟨(some 30), (some (26, false)), .nilc (.t 29)⟩,
 ⟨(some 31), (some (26, false)), .fa (.t 30) 1⟩,
 ⟨(some 32), (some (26, false)), .ld (.t 31)⟩,
 ⟨(some 33), (some (26, false)), .fa (.t 6) 0⟩,
 ⟨(some 34), (some (26, false)), .ld (.t 33)⟩,
 ⟨(some 35), (some (26, false)), .bin .sub (.t 34) (.v (.int .i64 1))⟩,
 ⟨(some 36), (some (26, false)), .ia 3 (.t 32) (.t 35)⟩,
 ⟨(some 37), (some (26, false)), .fa (.t 36) 2⟩,
 ⟨(some 38), (some (26, false)), .ld (.t 37)⟩,
 ⟨(some 39), (some (26, false)), .len (.t 38)⟩,
 ⟨(some 40), (some (26, false)), .bin .sub (.t 39) (.v (.int .i64 1))⟩,
 ⟨(some 41), (some (26, false)), .call 54 [(.t 28), (.v (.int .i64 0)), (.t 40)]⟩,
 ⟨(some 42), (some (26, false)), .un .not (.t 41)⟩,
 rO 43 (.pick (.t 26) (.v (.bool true)) (.t 42)),
 rO 44 (.mv (.t 43)),
 ⟨(some 45), (some (44, false)), .fa (.t 6) 2⟩,
 ⟨(some 46), (some (44, false)), .ld (.t 45)⟩,
 ⟨(some 47), (some (44, false)), .call 54 [(.t 46), (.v (.int .i64 1)), (.v (.int .i64 9999))]⟩,
 ⟨(some 48), (some (44, false)), .un .not (.t 47)⟩,
 rO 49 (.pick (.t 44) (.v (.bool true)) (.t 48)),
 rO 50 (.mv (.t 49)),
 ⟨(some 51), (some (50, false)), .mv (.t 0)⟩,
 ⟨(some 52), (some (50, false)), .nilc (.t 51)⟩,
 ⟨(some 53), (some (50, false)), .fa (.t 52) 0⟩,
 ⟨(some 54), (some (50, false)), .ld (.t 53)⟩,
 ⟨(some 55), (some (50, false)), .fa (.t 6) 3⟩,
 ⟨(some 56), (some (50, false)), .ld (.t 55)⟩] [⟨(some 57), (some (50, false)), .call 55 [(.t 54), (.t 56)]⟩,
 ⟨(some 58), (some (50, false)), .un .not (.t 57)⟩,
 rO 59 (.pick (.t 50) (.v (.bool true)) (.t 58))])
 (.cond (.t 59) (.seq (.reg [rO 4 (.mv (.v (.int .i64 3)))])
 .ret)
 .skip))))
 (.reg [rO 11 (.mv (.t 5)),
 rO 12 (.bin .add (.t 11) (.v (.int .i64 1))),
 rO 5 (.mv (.t 12))]))))))
 (.seq (.reg [rO 4 (.mv (.v (.int .i64 0)))])
 .ret))),
 [.t 4]⟩
theorem k113 : cFn Try.prog Try.f113 = some c113 := by kernel_rfl
theorem giv_ok : OkT Try.prog 113 (pureSp giv_S) := by
  refine okT_fA (cs l1In_ok (cs plcS_ok n0)) Try.func113 k113 ?_
  rintro ⟨⟨n⟩, l⟩ ⟨hk, hl⟩
  dsimp only [EncL.e, Enc.e, ntT, c113, rO] at *
  have ha := hk.a
  have hb := hk.b
  refine tS ?_
  refine awpT_loop (α := Nat) (fun i => ⟨slots [(0, .fe (ntT n) 0), (1, .s (rowsT gvT l)), (5, .p (.int .i64 i))], []⟩) (fun i => i ≤ l.length ∧ l.any (badG n) = (l.drop i).any (badG n)) (fun i => l.length - i) 0 ⟨by omega, rfl⟩ (leA []) ?_
  intro i ⟨hi, hn⟩
  rw [hn]; clear hn
  refine tS ?_
  refine cD (fun hlt => ?_) (fun hge => ?_)
  · obtain ⟨x, hx⟩ := get_ex (l := l) (i := i) (by omega)
    rw [any_at hx]
    unfold badG
    cases ht : talkAt n x.gate x.talk with
    | none =>
      rw [Option.isSome_none, Bool.false_and, Bool.not_false, Bool.true_or, if_pos rfl]
      cases hg : gateAt n x.gate with
      | none =>
        have h1 : ¬ (1 ≤ x.gate ∧ x.gate ≤ (n.gates.length : Int)) := fun h => by obtain ⟨g, h⟩ := gateAt_lt.2 h; rw [h] at hg; cases hg
        try refine tS ?_
        repeat' first | exact eV | exact eP | ((first | apply cD | apply cB | apply gD | apply gB) <;> intro _ <;> try refine tS ?_)
      | some g =>
        have h1 := gateAt_lt.1 ⟨g, hg⟩
        have h2 := gateAt_get hg
        have h3 := hk.t g (gateAt_mem hg)
        have h4 : ¬ (0 ≤ x.talk ∧ x.talk ≤ (g.talks.length : Int) - 1) := fun h => by obtain ⟨x, h⟩ := talkAt_ex.2 ⟨g, hg, h⟩; rw [h] at ht; cases ht
        try refine tS ?_
        repeat' first | exact eV | exact eP | ((first | apply cD | apply cB | apply gD | apply gB) <;> intro _ <;> try refine tS ?_)
    | some t =>
      obtain ⟨g, hg, h4, h5⟩ := talkAt_get ht
      have h1 := gateAt_lt.1 ⟨g, hg⟩
      have h2 := gateAt_get hg
      have h3 := hk.t g (gateAt_mem hg)
      have h6 := (List.getElem?_eq_some_iff.1 h5).1
      have h7 : x.talk ≤ (g.talks.length : Int) - 1 := by omega
      clear h5
      rw [Option.isSome_some, Bool.true_and]
      by_cases hs : 1 ≤ x.seq ∧ x.seq ≤ 9999
      · rw [decide_eq_true hs, Bool.true_and]
        cases hp : plc n.table.length x.load
        · rw [Bool.not_false, Bool.true_or, if_pos rfl]
          try refine tS ?_
          repeat' first | exact eV | exact eP | ((first | apply cD | apply cB | apply gD | apply gB) <;> intro _ <;> try refine tS ?_)
        · rw [Bool.not_true, Bool.false_or]
          refine tS ?_
          exact lN (i + 1) (leA [])
      · rw [decide_eq_false hs, Bool.false_and, Bool.not_false, Bool.true_or, if_pos rfl]
        try refine tS ?_
        repeat' first | exact eV | exact eP | ((first | apply cD | apply cB | apply gD | apply gB) <;> intro _ <;> try refine tS ?_)
  · rw [any_end (by omega), if_neg (by decide)]
    refine tS ?_
    refine joinK_here ?_
    try refine tS ?_
    repeat' first | exact eV | exact eP | ((first | apply cD | apply cB | apply gD | apply gB) <;> intro _ <;> try refine tS ?_)
end Go.Proofs.Ytbddhlhpakbcdaa
