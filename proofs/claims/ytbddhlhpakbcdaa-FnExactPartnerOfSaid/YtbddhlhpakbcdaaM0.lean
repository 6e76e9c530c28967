import Derived.Test.YtbddhlhpakbcdaaN1
set_option linter.unusedSimpArgs false
set_option linter.unusedVariables false
set_option maxRecDepth 100000
set_option maxHeartbeats 4000000
namespace Go.Proofs.Ytbddhlhpakbcdaa
open Go Go.AH
attribute [local irreducible] awpT ropsT qopsT stepT condKT gdKT EndT joinK loopKT seqKT blkKT kont kontR ropsTF frKT
/-! Encodings; the first fault of a list -/

class Enc (α : Type) where
  e : α → TV
  i : ∀ x y, e x = e y → x = y
class EncL (α : Type) where
  e : α → List TV
  i : ∀ x y, e x = e y → x = y
instance : Enc Int := ⟨fun n => .p (.int .i64 n), fun x y h => p64_inj h⟩
instance : Enc Bool := ⟨fun n => .p (.bool n), fun x y h => pb_inj h⟩
instance : Enc (List Int) := ⟨fun l => .s (isT l), fun x y h => sis_inj h⟩
instance : Enc TmR := ⟨tmT, tmT_inj⟩
instance : Enc (List TmR) := ⟨fun l => .s (rowsT tmT l), fun x y h => tms_inj h⟩
instance : Enc WnR := ⟨wnT, wnT_inj⟩
instance {α : Type} [Enc α] : EncL α := ⟨fun x => [Enc.e x], fun x y h => Enc.i x y (List.cons.inj h).1⟩
instance {α β : Type} [Enc α] [EncL β] : EncL (α × β) := ⟨fun x => Enc.e x.1 :: EncL.e x.2, fun x y h => Prod.ext (Enc.i _ _ (List.cons.inj h).1) (EncL.i _ _ (List.cons.inj h).2)⟩
noncomputable def spE {α : Type} [EncL α] (Pre : α → Prop) (R : α → TV × THeap) := specP (EncL.e (α := α)) Pre R
theorem spE_at {α : Type} [EncL α] {Pre : α → Prop} {R : α → TV × THeap} (x : α) (h : Pre x) : spE Pre R (EncL.e x) = some (R x) := specP_at EncL.i x h
theorem rowsT_getE {α : Type} (f : α → TV) (l : List α) (i : Nat) : (rowsT f l)[i]? = (l[i]?).map f := by simp [rowsT]
theorem isT_getE (l : List Int) (i : Nat) : (isT l)[i]? = (l[i]?).map iT := by simp [isT]
theorem getD_some {l : List Int} {i : Nat} {x : Int} (h : l[i]? = some x) : l.getD i 0 = x := by simp [List.getD_eq_getElem?_getD, h]
theorem okT_fA {P : Program} {ΓT : TCtx} {f : Nat} {fn : Func} {af : AF} {α : Type} [EncL α] {Pre : α → Prop} {R : α → TV × THeap} (hΓ : OkΓT P ΓT) (hf : P.funcs[f]? = some fn) (hc : cFn P fn = some af)
    (H : ∀ x, Pre x → awpT 0 ΓT af.code (EndT af.res (R x).1 (R x).2) ⟨argσT (EncL.e x), []⟩) (hcall : callable P f = true := by kernel_rfl) (hown : ∀ x, Pre x → ownT (R x).1 = true ∧ (R x).2.all ownB = true := by exact fun _ _ => ⟨rfl, rfl⟩) : OkT P f (pureSp (spE Pre R)) := okT_fn hΓ hf hcall hc hown H
theorem cs {P : Program} {ΓT : TCtx} {f : Nat} {tsp : TSp} (h : OkT P f tsp) (k : OkΓT P ΓT) : OkΓT P ((f, tsp) :: ΓT) := OkΓT.cons h k
theorem n0 {P : Program} : OkΓT P [] := OkΓT.nil P
section
variable {P : Program} {ΓT : TCtx} {f : Nat} {fn : Func} {af : AF} {α : Type} [EncL α] {Pre : α → Prop} {R : α → TV × THeap}
theorem okT_hE (hΓ : OkΓT P ΓT) (hf : P.funcs[f]? = some fn) (hc : cFn P fn = some af)
    (H : ∀ x, Pre x → awpT 0 ΓT af.code (EndT af.res (R x).1 (R x).2) ⟨argσT (EncL.e x), []⟩) (hcall : callable P f = true := by kernel_rfl) : OkT P f (shareSp (spE Pre R)) := okT_sh hΓ hf hcall hc H
end
/-- The first fault of a list. -/
def fst0 {α : Type} (f : Nat → α → Int) : Nat → List α → Int
  | _, [] => 0
  | i, x :: l => if f i x = 0 then fst0 f (i + 1) l else f i x
theorem fst_at {α : Type} {f : Nat → α → Int} {l : List α} {i : Nat} {x : α} (h : l[i]? = some x) : fst0 f i (l.drop i) = if f i x = 0 then fst0 f (i + 1) (l.drop (i + 1)) else f i x := by
  obtain ⟨h1, h2⟩ := List.getElem?_eq_some_iff.1 h
  rw [List.drop_eq_getElem_cons h1, h2]; rfl
theorem fst_end {α : Type} {f : Nat → α → Int} {l : List α} {i : Nat} (h : l.length ≤ i) : fst0 f i (l.drop i) = 0 := by rw [List.drop_eq_nil_of_le h]; rfl
instance : DecidableEq TmR := fun x y => decidable_of_iff (x.o = y.o ∧ x.a = y.a ∧ x.b = y.b ∧ x.n = y.n) (by cases x; cases y; simp)
theorem tm_eq (x y : TmR) : (x.o = y.o ∧ x.a = y.a ∧ x.b = y.b ∧ x.n = y.n) = (x = y) := by cases x; cases y; simp
end Go.Proofs.Ytbddhlhpakbcdaa
