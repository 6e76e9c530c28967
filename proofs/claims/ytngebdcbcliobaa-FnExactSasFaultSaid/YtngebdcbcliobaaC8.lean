import Derived.Test.YtngebdcbcliobaaC7
import Derived.Test.YtngebdcbcliobaaT15
set_option linter.unusedSimpArgs false
set_option linter.unusedVariables false
set_option maxRecDepth 100000
set_option maxHeartbeats 4000000
namespace Go.Proofs.Ytngebdcbcliobaa
open Go Go.AH
attribute [local irreducible] awpT ropsT qopsT stepT condKT gdKT EndT joinK loopKT seqKT blkKT kont kontR
/-! Rows of agreements -/
def saO (b : Nat) (x : SaR) : TV := .agg [.p (.int .i64 x.spi), .p (.int .i64 x.peer), .p (.int .i64 x.key), .p (.bool x.inn), .p (.int .i64 x.sent), .p (.int .i64 x.top), .p (.int .i64 x.bits), .p (.int .i64 x.byt), .p (.int .i64 x.hard), .p (.int .i64 x.til), .os b 0 x.sels.length]
def saZ : TV := .agg [.p (.int .i64 0), .p (.int .i64 0), .p (.int .i64 0), .p (.bool false), .p (.int .i64 0), .p (.int .i64 0), .p (.int .i64 0), .p (.int .i64 0), .p (.int .i64 0), .p (.int .i64 0), .nl]
theorem saZ_el : el [.p (.int .i64 0), .p (.int .i64 0), .p (.int .i64 0), .p (.bool false), .p (.int .i64 0), .p (.int .i64 0), .p (.int .i64 0), .p (.int .i64 0), .p (.int .i64 0), .p (.int .i64 0), .nl] = saZ := rfl
theorem saZ_cells : cellsT saZ = [.p (.int .i64 0), .p (.int .i64 0), .p (.int .i64 0), .p (.bool false), .p (.int .i64 0), .p (.int .i64 0), .p (.int .i64 0), .p (.int .i64 0), .p (.int .i64 0), .p (.int .i64 0), .nl] := rfl
def rowsO : Nat → List SaR → List TV
  | _, [] => []
  | b, x :: l => saO b x :: rowsO (b + 1) l
def blkO (x : SaR) : TB := .cells 155 9 (rowsT slT x.sels)
def packO (b : Nat) (l : List SaR) : THeap := .cells 32 11 (rowsO (b + 1) l) :: l.map blkO
theorem packO_len (b : Nat) (l : List SaR) : (packO b l).length = l.length + 1 := by simp [packO]
theorem rowsO_len : ∀ (b : Nat) (l : List SaR), (rowsO b l).length = l.length
  | _, [] => rfl
  | b, x :: l => by simp [rowsO, rowsO_len (b + 1) l]
theorem rowsO_snoc : ∀ (b : Nat) (l : List SaR) (x : SaR), rowsO b (l ++ [x]) = rowsO b l ++ [saO (b + l.length) x]
  | b, [], x => by simp [rowsO]
  | b, y :: l, x => by simp only [List.cons_append, rowsO, rowsO_snoc (b + 1) l x, List.length_cons]; rw [show b + 1 + l.length = b + (l.length + 1) by omega]
theorem rowsO_ren (k : Nat) : ∀ (b : Nat) (l : List SaR), renTs (fun c => c + k) (rowsO b l) = rowsO (b + k) l
  | _, [] => rfl
  | b, x :: l => by
    simp only [rowsO, renTs, rowsO_ren k (b + 1) l, saO, renT]
    rw [show b + 1 + k = b + k + 1 by omega]
theorem rowsO_own : ∀ (b : Nat) (l : List SaR), ownTs (rowsO b l) = true
  | _, [] => rfl
  | b, x :: l => by simp [rowsO, ownTs, ownT, saO, rowsO_own (b + 1) l]
theorem blkO_ren (ρ : Nat → Nat) (l : List SaR) : (l.map blkO).map (renB ρ) = l.map blkO := by
  rw [List.map_map]; congr 1; funext x; simp only [Function.comp, blkO, renB, sls_ren]
theorem packO_ren (k b : Nat) (l : List SaR) : (packO b l).map (renB fun c => c + k) = packO (b + k) l := by
  simp only [packO, List.map_cons, renB, rowsO_ren, blkO_ren]
  rw [show b + 1 + k = b + k + 1 by omega]
theorem rowsO_frz {h : THeap} {n : Nat} : ∀ (b : Nat) (l : List SaR), (∀ (j : Nat) (x : SaR), l[j]? = some x → h[b + j]? = some (blkO x)) → (rowsO b l).map (frzT h (n + 1)) = rowsT saT l
  | _, [], _ => rfl
  | b, x :: l, hh => by
    have h0 := hh 0 x rfl
    rw [Nat.add_zero] at h0
    simp only [rowsO, List.map_cons, rowsO_frz (b + 1) l (fun j y hj => by rw [show b + 1 + j = b + (j + 1) by omega]; exact hh (j + 1) y (by simpa using hj)), rowsT]
    congr 1
    have e : (rowsT slT x.sels).take x.sels.length = rowsT slT x.sels := List.take_of_length_le (by rw [rowsT_len]; omega)
    simp only [saO, saT, frz_agg, List.map_cons, List.map_nil, frz_p, frz_os, h0, blkO, rowsT_len, Nat.zero_add, List.drop_zero, e, sls_frz]
    simp
theorem packO_at (A B : THeap) (l : List SaR) (n : Nat) : frzT (A ++ (packO A.length l ++ B)) (n + 2) (.os A.length 0 l.length) = .s (rowsT saT l) := by
  have e0 : (A ++ (packO A.length l ++ B))[A.length]? = some (.cells 32 11 (rowsO (A.length + 1) l)) := by
    rw [List.getElem?_append_right (Nat.le_refl _), Nat.sub_self]; rfl
  have e : (rowsO (A.length + 1) l).take l.length = rowsO (A.length + 1) l := List.take_of_length_le (by rw [rowsO_len]; omega)
  have e2 := rowsO_frz (h := A ++ (packO A.length l ++ B)) (n := n) (A.length + 1) l (fun j x hj => by
    rw [List.getElem?_append_right (by omega), show A.length + 1 + j - A.length = j + 1 by omega]
    simp only [packO, List.cons_append, List.getElem?_cons_succ]
    rw [List.getElem?_append_left (by simpa using (List.getElem?_eq_some_iff.1 hj).1)]
    simp [hj])
  simp only [frz_os, e0, rowsO_len, Nat.zero_add, List.drop_zero, e, e2]
  simp
def mixO (l : List SaR) (i : Nat) : List TV := rowsO 1 (l.take i) ++ List.replicate (l.length - i) saZ
theorem mixO_zero (l : List SaR) : List.replicate l.length saZ = mixO l 0 := by simp [mixO, rowsO]
theorem mixO_full (l : List SaR) {i : Nat} (h : l.length ≤ i) : mixO l i = rowsO 1 l := by
  simp [mixO, List.take_of_length_le h, Nat.sub_eq_zero_of_le h]
theorem mixO_len (l : List SaR) (i : Nat) (h : i ≤ l.length) : (mixO l i).length = l.length := by simp [mixO, rowsO_len]; omega
theorem mixO_get {l : List SaR} {i : Nat} (h : i < l.length) : (mixO l i)[i]? = some saZ := by
  simp only [mixO]
  have e : (rowsO 1 (l.take i)).length = i := by rw [rowsO_len]; simp; omega
  rw [List.getElem?_append_right (by omega), e, Nat.sub_self, List.getElem?_replicate, if_pos (by omega)]
theorem mixO_set {l : List SaR} {i : Nat} {x : SaR} (h : l[i]? = some x) : (mixO l i).set i (.agg [.p (.int .i64 x.spi), .p (.int .i64 x.peer), .p (.int .i64 x.key), .p (.bool x.inn), .p (.int .i64 x.sent), .p (.int .i64 x.top), .p (.int .i64 x.bits), .p (.int .i64 x.byt), .p (.int .i64 x.hard), .p (.int .i64 x.til), .os (i + 1) 0 x.sels.length]) = mixO l (i + 1) := by
  have hlt := (List.getElem?_eq_some_iff.1 h).1
  have hx := (List.getElem?_eq_some_iff.1 h).2
  have e : (rowsO 1 (l.take i)).length = i := by rw [rowsO_len]; simp; omega
  simp only [mixO]
  rw [List.set_append_right _ _ (by omega), e, Nat.sub_self]
  rw [show l.length - i = (l.length - (i + 1)) + 1 by omega, List.replicate_succ, List.set_cons_zero]
  rw [List.take_succ_eq_append_getElem hlt, hx, rowsO_snoc]
  have e2 : (l.take i).length = i := by simp; omega
  rw [e2, Nat.add_comm 1 i, List.append_assoc]; rfl
def blksO (l : List SaR) (i : Nat) : THeap := (l.take i).map blkO
theorem blksO_len {l : List SaR} {i : Nat} (h : i ≤ l.length) : (blksO l i).length = i := by simp [blksO]; omega
theorem blksO_zero (l : List SaR) : blksO l 0 = [] := rfl
theorem blksO_full (l : List SaR) {i : Nat} (h : l.length ≤ i) : blksO l i = l.map blkO := by simp [blksO, List.take_of_length_le h]
theorem blksO_snoc {l : List SaR} {i : Nat} {x : SaR} (h : l[i]? = some x) : blksO l i ++ [.cells 155 9 (rowsT slT x.sels)] = blksO l (i + 1) := by
  have hlt := (List.getElem?_eq_some_iff.1 h).1
  have hx := (List.getElem?_eq_some_iff.1 h).2
  simp only [blksO]
  rw [List.take_succ_eq_append_getElem hlt, hx]; simp [blkO]
theorem sas_inj {l l' : List SaR} (h : rowsT saT l = rowsT saT l') : l = l' := rowsT_inj saT_inj h
noncomputable def toSaS_S := specP (fun x : List SaR => [.s (rowsT saT x)]) (fun x => x.length ≤ 1048576 ∧ ∀ y ∈ x, y.sels.length ≤ 1048576) (fun x => (.os 0 0 x.length, packO 0 x))
noncomputable def toSaS_Sp : TSp := pureSp toSaS_S
theorem sas_frz (h : THeap) (n : Nat) (l : List SaR) : frzT h n (.s (rowsT saT l)) = .s (rowsT saT l) := by simp only [frz_s]
theorem toSaS_fn (t : Nat) (l : List SaR) (h : THeap) (hl : l.length ≤ 1048576 ∧ ∀ y ∈ l, y.sels.length ≤ 1048576) : toSaS_Sp.fn t [.s (rowsT saT l)] h = some (.os h.length 0 l.length, h ++ packO h.length l) := by
  have e : toSaS_S [.s (rowsT saT l)] = some (.os 0 0 l.length, packO 0 l) := specP_at (enc := fun x : List SaR => [.s (rowsT saT x)]) (fun x y h => by simp at h; exact sas_inj h) l hl
  simp only [toSaS_Sp, pureSp, List.map_cons, List.map_nil, sas_frz, e, Option.map_some, renT, packO_ren, Nat.zero_add]
-- laws.toSaS
def c22 : AF := ⟨23,
  (.seq (.reg [⟨(some 2), none, .mv (.v (.slice none 0 0))⟩])
  (.seq (.reg [⟨(some 5), none, .mv (.t 0)⟩,
   ⟨(some 6), none, .len (.t 5)⟩,
   ⟨(some 7), none, .mkSl 32 11 104 [(.int .i64 0), (.int .i64 0), (.int .i64 0), (.bool false), (.int .i64 0), (.int .i64 0), (.int .i64 0), (.int .i64 0), (.int .i64 0), (.int .i64 0), (.slice none 0 0)] (.t 6) (.t 6)⟩,
   ⟨(some 3), none, .mv (.t 7)⟩])
  (.seq (.seq (.reg [⟨(some 4), none, .mv (.v (.int .i64 0))⟩])
  (.block 0 (.loop (.seq (.seq (.reg [⟨(some 8), none, .mv (.t 4)⟩,
   ⟨(some 9), none, .mv (.t 0)⟩,
   ⟨(some 10), none, .len (.t 9)⟩,
   ⟨(some 11), none, .bin .lss (.t 8) (.t 10)⟩])
  (.cond (.t 11) .skip
  (.exit 0)))
  (.seq (.block 1 (.reg [⟨(some 14), none, .mv (.t 3)⟩,
   ⟨(some 15), none, .mv (.t 4)⟩,
   ⟨(some 16), none, .mv (.t 0)⟩,
   ⟨(some 17), none, .mv (.t 4)⟩,
   ⟨(some 18), none, .ia 11 (.t 16) (.t 17)⟩,
   ⟨(some 19), none, .ldn 11 (.t 18)⟩,
   ⟨(some 20), none, .call 17 [(.t 19)]⟩,
   ⟨(some 21), none, .ia 11 (.t 14) (.t 15)⟩,
   ⟨none, none, .st 11 (.t 21) (.t 20)⟩]))
  (.reg [⟨(some 12), none, .mv (.t 4)⟩,
   ⟨(some 13), none, .bin .add (.t 12) (.v (.int .i64 1))⟩,
   ⟨(some 4), none, .mv (.t 13)⟩]))))))
  (.seq (.reg [⟨(some 22), none, .mv (.t 3)⟩,
   ⟨(some 2), none, .mv (.t 22)⟩])
  .ret)))),
  [.t 2]⟩
theorem k22 : cFn Try.prog Try.f22 = some c22 := by kernel_rfl
theorem toSaS_ok : OkT Try.prog 22 toSaS_Sp := by
  refine okT_fn (OkΓT.cons toSa_ok (OkΓT.nil _)) Try.func22 (by kernel_rfl) k22 (fun x _ => ⟨rfl, by simp only [packO, List.all_cons, ownB, rowsO_own, Bool.true_and, List.all_map]; simp [ownB, blkO, sls_own]⟩) ?_
  rintro l ⟨hl, hs⟩
  dsimp only at hl ⊢
  (dsimp only [c22]; simp (maxSteps := 1000000) (implicitDefEqProofs := false) (disch := omega) only [go_sem, if_pos, if_neg, tw64, twu8, ↓condKT_pos, ↓condKT_neg, ↓gdKT_pt, ↓gdKT_nt, ↓gdKT_pf, ↓gdKT_nf, saZ_el, mixO_zero])
  refine awpT_loop (α := Nat) (fun i => ⟨slots [(0, .s (rowsT saT l)), (3, .os 0 0 l.length), (4, .p (.int .i64 i))], .cells 32 11 (mixO l i) :: blksO l i⟩)
    (fun i => i ≤ l.length) (fun i => l.length - i) 0 (by omega) (by rw [blksO_zero]; exact le_keep (Nat.zero_le _) (by simp (maxSteps := 1000000) (implicitDefEqProofs := false) (disch := omega) only [go_sem, if_pos, if_neg, tw64, twu8, ↓condKT_pos, ↓condKT_neg, ↓gdKT_pt, ↓gdKT_nt, ↓gdKT_pf, ↓gdKT_nf, slotsIn])) ?_
  intro i hi
  simp (maxSteps := 1000000) (implicitDefEqProofs := false) (disch := omega) only [go_sem, if_pos, if_neg, tw64, twu8, ↓condKT_pos, ↓condKT_neg, ↓gdKT_pt, ↓gdKT_nt, ↓gdKT_pf, ↓gdKT_nf]
  refine condKT_dec (fun hlt => ?_) (fun hge => ?_)
  · obtain ⟨x, hx⟩ := get_ex (l := l) (i := i) (by omega)
    have hxs := hs x (List.mem_of_getElem? hx)
    simp (maxSteps := 1000000) (implicitDefEqProofs := false) (disch := omega) only [go_sem, if_pos, if_neg, tw64, twu8, ↓condKT_pos, ↓condKT_neg, ↓gdKT_pt, ↓gdKT_nt, ↓gdKT_pf, ↓gdKT_nf, hx, saT, saZ_cells, mixO_get, toSa_at, blksO_len hi, mixO_set hx, blksO_snoc hx]
    refine loopKT_next (i + 1) (by omega) (by omega) ?_
    exact le_keep (Nat.zero_le _) (by simp (maxSteps := 1000000) (implicitDefEqProofs := false) (disch := omega) only [go_sem, if_pos, if_neg, tw64, twu8, ↓condKT_pos, ↓condKT_neg, ↓gdKT_pt, ↓gdKT_nt, ↓gdKT_pf, ↓gdKT_nf, slotsIn])
  · simp (maxSteps := 1000000) (implicitDefEqProofs := false) (disch := omega) only [go_sem, if_pos, if_neg, tw64, twu8, ↓condKT_pos, ↓condKT_neg, ↓gdKT_pt, ↓gdKT_nt, ↓gdKT_pf, ↓gdKT_nf, mixO_full l (show l.length ≤ i by omega), blksO_full l (show l.length ≤ i by omega)]
    refine joinK_here ?_
    simp (maxSteps := 1000000) (implicitDefEqProofs := false) (disch := omega) only [go_sem, if_pos, if_neg, tw64, twu8, ↓condKT_pos, ↓condKT_neg, ↓gdKT_pt, ↓gdKT_nt, ↓gdKT_pf, ↓gdKT_nf]
    exact endT_same (.inr rfl) (by simp (maxSteps := 1000000) (implicitDefEqProofs := false) (disch := omega) only [go_sem, if_pos, if_neg, tw64, twu8, ↓condKT_pos, ↓condKT_neg, ↓gdKT_pt, ↓gdKT_nt, ↓gdKT_pf, ↓gdKT_nf]) rfl
end Go.Proofs.Ytngebdcbcliobaa
