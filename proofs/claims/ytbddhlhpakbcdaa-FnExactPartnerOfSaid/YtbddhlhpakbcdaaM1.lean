import Derived.Test.YtbddhlhpakbcdaaM0
import Derived.Test.YtbddhlhpakbcdaaN2
set_option linter.unusedSimpArgs false
set_option linter.unusedVariables false
set_option maxRecDepth 100000
set_option maxHeartbeats 4000000
namespace Go.Proofs.Ytbddhlhpakbcdaa
open Go Go.AH
attribute [local irreducible] awpT ropsT qopsT stepT condKT gdKT EndT joinK loopKT seqKT blkKT kont kontR ropsTF frKT
/-! Right tables -/

theorem nix_ge {α : Type} (l : List α) (p : α → Bool) : (0 ≤ nix (l.findIdx? p)) = (l.any p = true) := by
  have := nix_any l p; rw [← this]; simp
theorem tm_eta (x : TmR) : (⟨x.o, x.a, x.b, x.n⟩ : TmR) = x := rfl
theorem termS_a (l : List TmR) (o a b n : Int) (h : l.length ≤ 1048576) : termS_S [.s (rowsT tmT l), .agg [.p (.int .i64 o), .p (.int .i64 a), .p (.int .i64 b), .p (.int .i64 n)]] = some ((.p (.int .i64 (termF l ⟨o, a, b, n⟩)), [])) := termS_at l ⟨o, a, b, n⟩ h
theorem termI_a (l : List TmR) (o a b n : Int) (h : l.length ≤ 1048576) : termI_S [.agg [.p (.int .i64 o), .p (.int .i64 a), .p (.int .i64 b), .p (.int .i64 n)], .s (rowsT tmT l)] = some ((.p (.int .i64 (termF l ⟨o, a, b, n⟩)), [])) := termI_at ⟨o, a, b, n⟩ l h
attribute [go_sem] tm_eta termS_a termI_a rowsT_getE Int.toNat_natCast tmT tm_eq tms_sized
noncomputable def fnd_S := spE (α := List TmR × TmR) (fun x => x.1.length ≤ 1048576) (fun x => (.p (.int .i64 (nix (x.1.findIdx? fun y => decide (y = x.2)))), []))
theorem fnd_at (l : List TmR) (x1 x2 x3 x4 : Int) (h : l.length ≤ 1048576) : fnd_S [.s (rowsT tmT l), .agg [.p (.int .i64 x1), .p (.int .i64 x2), .p (.int .i64 x3), .p (.int .i64 x4)]] = some ((.p (.int .i64 (nix (l.findIdx? fun y => decide (y = (⟨x1, x2, x3, x4⟩ : TmR))))), [])) := spE_at (α := List TmR × TmR) (l, (⟨x1, x2, x3, x4⟩ : TmR)) h
attribute [go_sem] fnd_at
-- spec.l5Find
def c148 : AF := ⟨19,
 (.seq (.reg [rO 3 (.box 94 (.t 1)),
 rO 4 (.mv (.v (.int .i64 0)))])
 (.seq (.seq (.reg [rO 5 (.mv (.v (.int .i64 0)))])
 (.block 0 (.loop (.seq (.seq (.reg [rO 6 (.mv (.t 5)),
 rO 7 (.mv (.t 0)),
 rO 8 (.len (.t 7)),
 rO 9 (.bin .lss (.t 6) (.t 8))])
 (.cond (.t 9) .skip
 (.exit 0)))
 (.seq (.block 1 (.seq (.drw [rO 12 (.mv (.t 0)),
 rO 13 (.mv (.t 5)),
 rO 14 (.ia 4 (.t 12) (.t 13)),
 rO 15 (.ldn 4 (.t 14)),
 rO 16 (.ldn 4 (.t 3))] [rO 17 (.eqS false [.i, .i, .i, .i] (.t 15) (.t 16))])
 (.cond (.t 17) (.seq (.reg [rO 18 (.mv (.t 5)),
 rO 4 (.mv (.t 18))])
 .ret)
 .skip)))
 (.reg [rO 10 (.mv (.t 5)),
 rO 11 (.bin .add (.t 10) (.v (.int .i64 1))),
 rO 5 (.mv (.t 11))]))))))
 (.seq (.reg [rO 4 (.mv (.v (.int .i64 (-1))))])
 .ret))),
 [.t 4]⟩
theorem k148 : cFn Try.prog Try.f148 = some c148 := by kernel_rfl
theorem fndS_ok : OkT Try.prog 148 (pureSp fnd_S) := by
  refine okT_fA n0 Try.func148 k148 ?_
  rintro ⟨l, x⟩ h
  dsimp only [EncL.e, Enc.e, c148, rO] at *
  refine tS ?_
  refine awpT_loop (α := Nat) (fun i => ⟨slots [(0, .s (rowsT tmT l)), (3, .op 0 0 0), (5, .p (.int .i64 i))], [.cells 94 4 [tmT x]]⟩) (fun i => i ≤ l.length ∧ ∀ j y, j < i → l[j]? = some y → decide (y = x) = false) (fun i => l.length - i) 0 ⟨by omega, fun j y hj => absurd hj (by omega)⟩ (leA [0]) ?_
  intro i ⟨hi, hn⟩
  refine tS ?_
  refine condKT_dec (fun hlt => ?_) (fun hge => ?_)
  · obtain ⟨y, hy⟩ := get_ex (l := l) (i := i) (by omega)
    by_cases hs : y = x
    · rw [nfs hy (decide_eq_true hs) hn]
      try refine tS ?_
      repeat' first | exact eV | exact eP | ((first | apply cD | apply cB | apply gD | apply gB) <;> intro _ <;> try refine tS ?_)
    · have e := nsn hy (decide_eq_false hs) hn
      clear hn
      refine tS ?_
      exact lN (i + 1) (leA [0]) ⟨by omega, e⟩
  · rw [nfn (fun j y hj => hn j y (by omega))]
    clear hn
    refine tS ?_
    refine joinK_here ?_
    try refine tS ?_
    repeat' first | exact eV | exact eP | ((first | apply cD | apply cB | apply gD | apply gB) <;> intro _ <;> try refine tS ?_)

def tab1 (l : List TmR) (i : Nat) (x : TmR) : Int := if termF (l.take i) x = 0 then (if (l.take i).any (fun y => decide (y = x)) = true then 7 else 0) else termF (l.take i) x
def tabF (l : List TmR) : Int := if l.length > 400 then 2 else fst0 (tab1 l) 0 l
def tmK (x : TmR) : List Int := [x.o, x.a, x.b, x.n]
theorem tmK_all (l : List TmR) : (l.map tmK).all (fun m => m.length == 4) = true := by simp [tmK]
theorem tmK_has (l : List TmR) (x : TmR) : (l.map tmK).contains [x.o, x.a, x.b, x.n] = l.any (fun y => decide (y = x)) := by
  rw [List.contains_eq_any_beq, List.any_map]
  congr 1; funext y
  cases x; cases y; simp only [tmK, Function.comp, List.cons_beq_cons, beq_self_eq_true, Bool.and_true]; rw [Bool.eq_iff_iff]; simp; constructor <;> (intro h; simp [h])
theorem tmK_snoc {l : List TmR} {i : Nat} {x : TmR} (h : l[i]? = some x) : (l.take i).map tmK ++ [[x.o, x.a, x.b, x.n]] = (l.take (i + 1)).map tmK := by
  obtain ⟨h1, h2⟩ := List.getElem?_eq_some_iff.1 h
  rw [List.take_succ_eq_append_getElem h1, h2, List.map_append]; rfl
attribute [go_sem] nix_ge tmK_all tmK_has List.length_take
noncomputable def tab_S := spE (α := List TmR) (fun x => x.length ≤ 1048576) (fun x => (.p (.int .i64 (tabF x)), []))
theorem tab_at (l : List TmR) (h : l.length ≤ 1048576) : tab_S [.s (rowsT tmT l)] = some ((.p (.int .i64 (tabF l)), [])) := spE_at (α := List TmR) l h
attribute [go_sem] tab_at
-- spec.TermsFault
def c101 : AF := ⟨34,
 (.seq (.reg [rO 2 (.mv (.v (.int .i64 0)))])
 (.seq (.seq (.reg [rO 5 (.mv (.t 0)),
 rO 6 (.len (.t 5)),
 rO 7 (.bin .gtr (.t 6) (.v (.int .i64 400)))])
 (.cond (.t 7) (.seq (.reg [rO 2 (.mv (.v (.int .i64 2)))])
 .ret)
 .skip))
 (.seq (.seq (.reg [rO 3 (.mv (.v (.int .i64 0)))])
 (.block 0 (.loop (.seq (.seq (.reg [rO 8 (.mv (.t 3)),
 rO 9 (.mv (.t 0)),
 rO 10 (.len (.t 9)),
 rO 11 (.bin .lss (.t 8) (.t 10))])
 (.cond (.t 11) .skip
 (.exit 0)))
 (.seq (.block 1 (.seq (.seq (.drw [rO 14 (.mv (.t 0)),
 rO 15 (.mv (.t 3)),
 rO 16 (.sl 4 (.t 14) none (some (.t 15))),
 rO 17 (.mv (.t 0)),
 rO 18 (.mv (.t 3)),
 rO 19 (.ia 4 (.t 17) (.t 18)),
 rO 20 (.ldn 4 (.t 19))] [rO 21 (.call 147 [(.t 16), (.t 20)]),
 rO 4 (.mv (.t 21))])
 (.seq (.reg [rO 22 (.mv (.t 4)),
 rO 23 (.bin .neq (.t 22) (.v (.int .i64 0)))])
 (.cond (.t 23) (.seq (.reg [rO 24 (.mv (.t 4)),
 rO 2 (.mv (.t 24))])
 .ret)
 .skip)))
 (.seq (.drw [rO 25 (.mv (.t 0)),
 rO 26 (.mv (.t 3)),
 rO 27 (.sl 4 (.t 25) none (some (.t 26))),
 rO 28 (.mv (.t 0)),
 rO 29 (.mv (.t 3)),
 rO 30 (.ia 4 (.t 28) (.t 29)),
 rO 31 (.ldn 4 (.t 30))] [rO 32 (.call 148 [(.t 27), (.t 31)]),
 rO 33 (.bin .geq (.t 32) (.v (.int .i64 0)))])
 (.cond (.t 33) (.seq (.reg [rO 2 (.mv (.v (.int .i64 7)))])
 .ret)
 .skip))))
 (.reg [rO 12 (.mv (.t 3)),
 rO 13 (.bin .add (.t 12) (.v (.int .i64 1))),
 rO 3 (.mv (.t 13))]))))))
 (.seq (.reg [rO 2 (.mv (.v (.int .i64 0)))])
 .ret)))),
 [.t 2]⟩
theorem k101 : cFn Try.prog Try.f101 = some c101 := by kernel_rfl
theorem tabS_ok : OkT Try.prog 101 (pureSp tab_S) := by
  refine okT_fA (cs termS_ok (cs fndS_ok n0)) Try.func101 k101 ?_
  rintro l h
  dsimp only [EncL.e, Enc.e, c101, rO] at *
  unfold tabF
  refine tS ?_
  refine condKT_dec (fun h4 => ?_) (fun h4 => ?_)
  · rw [if_pos (by omega)]
    try refine tS ?_
    repeat' first | exact eV | exact eP | ((first | apply cD | apply cB | apply gD | apply gB) <;> intro _ <;> try refine tS ?_)
  rw [if_neg (by omega)]
  refine tS ?_
  refine awpT_loop (α := Nat) (fun i => ⟨slots [(0, .s (rowsT tmT l)), (3, .p (.int .i64 i))], []⟩) (fun i => i ≤ l.length ∧ fst0 (tab1 l) 0 l = fst0 (tab1 l) i (l.drop i)) (fun i => l.length - i) 0 ⟨by omega, rfl⟩ (leA []) ?_
  intro i ⟨hi, hn⟩
  rw [hn]; clear hn
  refine tS ?_
  refine condKT_dec (fun hlt => ?_) (fun hge => ?_)
  · obtain ⟨x, hx⟩ := get_ex (l := l) (i := i) (by omega)
    rw [fst_at hx, tab1]
    have hk : (l.take i).length ≤ 1048576 := by rw [List.length_take]; omega
    by_cases h1 : termF (l.take i) x = 0
    case neg =>
      rw [if_neg h1, if_neg h1]
      try refine tS ?_
      repeat' first | exact eV | exact eP | ((first | apply cD | apply cB | apply gD | apply gB) <;> intro _ <;> try refine tS ?_)
    rw [if_pos h1]
    by_cases h2 : (l.take i).any (fun y => decide (y = x)) = true
    · rw [if_pos h2, if_neg (by decide)]
      try refine tS ?_
      repeat' first | exact eV | exact eP | ((first | apply cD | apply cB | apply gD | apply gB) <;> intro _ <;> try refine tS ?_)
    rw [if_neg h2, if_pos rfl]
    rw [Bool.not_eq_true] at h2
    refine tS ?_
    exact lN (i + 1) (leA [])
  · rw [fst_end (by omega)]
    refine tS ?_
    refine joinK_here ?_
    try refine tS ?_
    repeat' first | exact eV | exact eP | ((first | apply cD | apply cB | apply gD | apply gB) <;> intro _ <;> try refine tS ?_)
-- impl.TermsFault
def c78 : AF := ⟨32,
 (.seq (.reg [rO 2 (.mv (.v (.int .i64 0)))])
 (.seq (.seq (.reg [rO 7 (.mv (.t 0)),
 rO 8 (.len (.t 7)),
 rO 9 (.bin .gtr (.t 8) (.v (.int .i64 400)))])
 (.cond (.t 9) (.seq (.reg [rO 2 (.mv (.v (.int .i64 2)))])
 .ret)
 .skip))
 (.seq (.reg [rO 10 (.mkM),
 rO 3 (.mv (.t 10))])
 (.seq (.seq (.reg [rO 11 (.mv (.t 0)),
 rO 12 (.len (.t 11)),
 rO 13 (.mv (.v (.int .i64 0)))])
 (.block 0 (.loop (.seq (.reg [rO 14 (.bin .lss (.t 13) (.t 12))])
 (.seq (.cond (.t 14) .skip
 (.exit 0))
 (.seq (.block 1 (.seq (.reg [rO 15 (.mv (.t 13)),
 rO 16 (.ia 4 (.t 11) (.t 13)),
 rO 17 (.ldn 4 (.t 16)),
 rO 5 (.alloc 94 [(.int .i64 0), (.int .i64 0), (.int .i64 0), (.int .i64 0)]),
 rO 4 (.mv (.t 15)),
 ⟨none, none, .st 4 (.t 5) (.t 17)⟩])
 (.seq (.seq (.drw [rO 18 (.ldn 4 (.t 5)),
 rO 19 (.mv (.t 0)),
 rO 20 (.mv (.t 4)),
 rO 21 (.sl 4 (.t 19) none (some (.t 20)))] [rO 22 (.call 129 [(.t 18), (.t 21)]),
 rO 6 (.mv (.t 22))])
 (.seq (.reg [rO 23 (.mv (.t 6)),
 rO 24 (.bin .neq (.t 23) (.v (.int .i64 0)))])
 (.cond (.t 24) (.seq (.reg [rO 25 (.mv (.t 6)),
 rO 2 (.mv (.t 25))])
 .ret)
 .skip)))
 (.seq (.seq (.reg [rO 26 (.mv (.t 3)),
 rO 27 (.ldn 4 (.t 5)),
 rO 28 (.getM 4 (.t 26) (.t 27))])
 (.cond (.t 28) (.seq (.reg [rO 2 (.mv (.v (.int .i64 7)))])
 .ret)
 .skip))
 (.reg [rO 29 (.mv (.t 3)),
 rO 30 (.ldn 4 (.t 5)),
 ⟨none, none, .putM 4 (.t 29) (.t 30)⟩])))))
 (.reg [rO 31 (.bin .add (.t 13) (.v (.int .i64 1))),
 rO 13 (.mv (.t 31))])))))))
 (.seq (.reg [rO 2 (.mv (.v (.int .i64 0)))])
 .ret))))),
 [.t 2]⟩
theorem k78 : cFn Try.prog Try.f78 = some c78 := by kernel_rfl
theorem tabI_ok : OkT Try.prog 78 (pureSp tab_S) := by
  refine okT_fA (cs termI_ok n0) Try.func78 k78 ?_
  rintro l h
  dsimp only [EncL.e, Enc.e, c78, rO] at *
  unfold tabF
  refine tS ?_
  refine condKT_dec (fun h4 => ?_) (fun h4 => ?_)
  · rw [if_pos (by omega)]
    try refine tS ?_
    repeat' first | exact eV | exact eP | ((first | apply cD | apply cB | apply gD | apply gB) <;> intro _ <;> try refine tS ?_)
  rw [if_neg (by omega)]
  refine tS ?_
  refine awpT_loop (α := Nat) (fun i => ⟨slots [(0, .s (rowsT tmT l)), (3, .fn setF [.op 0 0 0]), (11, .s (rowsT tmT l)), (12, .p (.int .i64 l.length)), (13, .p (.int .i64 i))], [.cells (setT ((l.take i).map tmK)) 0 []]⟩) (fun i => i ≤ l.length ∧ fst0 (tab1 l) 0 l = fst0 (tab1 l) i (l.drop i)) (fun i => l.length - i) 0 ⟨by omega, rfl⟩ (by simp only [List.take_zero, List.map_nil]; exact leA [0]) ?_
  intro i ⟨hi, hn⟩
  rw [hn]; clear hn
  refine tS ?_
  refine condKT_dec (fun hlt => ?_) (fun hge => ?_)
  · obtain ⟨x, hx⟩ := get_ex (l := l) (i := i) (by omega)
    rw [fst_at hx, tab1]
    have hk : (l.take i).length ≤ 1048576 := by rw [List.length_take]; omega
    by_cases h1 : termF (l.take i) x = 0
    case neg =>
      rw [if_neg h1, if_neg h1]
      try refine tS ?_
      repeat' first | exact eV | exact eP | ((first | apply cD | apply cB | apply gD | apply gB) <;> intro _ <;> try refine tS ?_)
    rw [if_pos h1]
    by_cases h2 : (l.take i).any (fun y => decide (y = x)) = true
    · rw [if_pos h2, if_neg (by decide)]
      try refine tS ?_
      repeat' first | exact eV | exact eP | ((first | apply cD | apply cB | apply gD | apply gB) <;> intro _ <;> try refine tS ?_)
    rw [if_neg h2, if_pos rfl]
    rw [Bool.not_eq_true] at h2
    refine tS ?_
    refine lN (i + 1) ?_
    rw [tmK_snoc hx]
    exact leA [0]
  · rw [fst_end (by omega)]
    refine tS ?_
    refine joinK_here ?_
    try refine tS ?_
    repeat' first | exact eV | exact eP | ((first | apply cD | apply cB | apply gD | apply gB) <;> intro _ <;> try refine tS ?_)
end Go.Proofs.Ytbddhlhpakbcdaa
