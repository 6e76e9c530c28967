import Derived.Orders
import Derived.Below
import Derived.Laws.AppendOwn
import Derived.Laws.Sem
import Derived.Laws.World
import Derived.Laws.Cells
import Derived.KernelRfl
import Derived.Laws.IdiomCopy
import Derived.Laws.MakeOwn
import Derived.Laws.OwnMore
import Derived.Laws.Slices
import Derived.Laws.StructEq
import Derived.MapKept
import Derived.WideKeyRuns
import Derived.Carry
import Derived.Tactics
set_option linter.unusedVariables false
set_option linter.unusedSimpArgs false
namespace Go.AH
open Go.RowKit (Below)

inductive Blk where
  | cells (e : TypeId) (cs : List Value)
  | dead
abbrev Heap := List Blk

/-- Where an abstract block lies: the world's block, the first cell, how many cells that block has, how many cells an element has, and whether it is a map. -/
structure Img where
  c : Nat
  o : Nat
  n : Nat
  z : Nat
  m : Bool
abbrev Inj := Nat → Option Img

/-- The number of no function: a function value of it stands for a map. -/
def setF : Nat := 1000000000
def mapV0 (b : Nat) : Value := .func (.func setF) ⟨[]⟩ ⟨[.pointer (some ⟨b, 0, none⟩)]⟩

mutual
inductive VR (ι : Inj) : Value → Value → Prop
  | bool (b) : VR ι (.bool b) (.bool b)
  | int (k n) : VR ι (.int k n) (.int k n)
  | float (k n) : VR ι (.float k n) (.float k n)
  | string (s) : VR ι (.string s) (.string s)
  | nilp : VR ι (.pointer none) (.pointer none)
  | ptr {b off g} : ι b = some g → VR ι (.pointer (some ⟨b, off, none⟩)) (.pointer (some ⟨g.c, g.o + off, none⟩))
  | nils : VR ι (.slice none 0 0) (.slice none 0 0)
  | sl {b off g len cap cap'} : ι b = some g → len ≤ cap' → cap' ≤ maxLen → (g.o + off = 0 → cap' * g.z = g.n) →
      VR ι (.slice (some ⟨b, off, none⟩) len cap) (.slice (some ⟨g.c, g.o + off, none⟩) len cap')
  | sl0 {b off g cap} (x) : ι b = some g → VR ι (.slice (some ⟨b, off, none⟩) 0 cap) (.slice (some x) 0 0)
  | emp {b off s cap} (x) : VR ι (.slice (some ⟨b, off, some s⟩) 0 cap) (.slice (some x) 0 0)
  | func (fn) {as as' bs bs'} : (bs = [] ∨ fn ≠ .func setF) → VRs ι as as' → VRs ι bs bs' → VR ι (.func fn ⟨as⟩ ⟨bs⟩) (.func fn ⟨as'⟩ ⟨bs'⟩)
  | nilf : VR ι .nilFunc .nilFunc
  | iface (t) {v v'} : VR ι v v' → VR ι (.iface t v) (.iface t v')
  | nili : VR ι .nilIface .nilIface
  | agg {cs cs'} : VRs ι cs cs' → VR ι (.agg ⟨cs⟩) (.agg ⟨cs'⟩)
  | tuple {cs cs'} : VRs ι cs cs' → VR ι (.tuple ⟨cs⟩) (.tuple ⟨cs'⟩)
  | mp {b g} : ι b = some g → g.m = true → VR ι (.func (.func setF) ⟨[]⟩ ⟨[.pointer (some ⟨b, 0, none⟩)]⟩) (.map (some g.c))
inductive VRs (ι : Inj) : List Value → List Value → Prop
  | nil : VRs ι [] []
  | cons {v v' vs vs'} : VR ι v v' → VRs ι vs vs' → VRs ι (v :: vs) (v' :: vs')
end

theorem VR.undef {ι : Inj} : VR ι undef undef := .tuple .nil

def Ext (ι ι' : Inj) : Prop := ∀ b g, ι b = some g → ι' b = some g
theorem Ext.refl (ι : Inj) : Ext ι ι := fun _ _ h => h
/-- The same below n. -/
def Ag (n : Nat) (ι ι' : Inj) : Prop := ∀ b, b < n → ι' b = ι b
theorem Ag.refl (n : Nat) (ι : Inj) : Ag n ι ι := fun _ _ => rfl
theorem Ag.trans {n m : Nat} {a b c : Inj} (h : Ag n a b) (hm : n ≤ m) (k : Ag m b c) : Ag n a c := fun i hi => (k i (by omega)).trans (h i hi)
theorem Ext.trans {a b c : Inj} (h : Ext a b) (k : Ext b c) : Ext a c := fun _ _ e => k _ _ (h _ _ e)

mutual
theorem VR.mono {ι ι' : Inj} (h : Ext ι ι') {v v' : Value} (r : VR ι v v') : VR ι' v v' := by
  cases r with
  | bool b => exact .bool b
  | int k n => exact .int k n
  | float k n => exact .float k n
  | string s => exact .string s
  | nilp => exact .nilp
  | ptr e => exact .ptr (h _ _ e)
  | nils => exact .nils
  | sl e a b c => exact .sl (h _ _ e) a b c
  | sl0 x e => exact .sl0 x (h _ _ e)
  | emp x => exact .emp x
  | func fn k x y => exact .func fn k (VRs.mono h x) (VRs.mono h y)
  | nilf => exact .nilf
  | iface t x => exact .iface t (VR.mono h x)
  | nili => exact .nili
  | agg x => exact .agg (VRs.mono h x)
  | tuple x => exact .tuple (VRs.mono h x)
  | mp e k => exact .mp (h _ _ e) k
theorem VRs.mono {ι ι' : Inj} (h : Ext ι ι') {v v' : List Value} (r : VRs ι v v') : VRs ι' v v' := by
  cases r with
  | nil => exact .nil
  | cons a b => exact .cons (VR.mono h a) (VRs.mono h b)
end

theorem VRs.length {ι : Inj} {l l' : List Value} (h : VRs ι l l') : l.length = l'.length := by
  induction l generalizing l' with
  | nil => cases h; rfl
  | cons a l ih => cases h with | cons _ t => simp [ih t]

theorem VRs.get {ι : Inj} {l l' : List Value} (h : VRs ι l l') (i : Nat) (v : Value) (hv : l[i]? = some v) : ∃ v', l'[i]? = some v' ∧ VR ι v v' := by
  induction l generalizing l' i with
  | nil => simp at hv
  | cons a l ih =>
    cases h with
    | cons ha t =>
      cases i with
      | zero => simp at hv; subst hv; exact ⟨_, rfl, ha⟩
      | succ i => simp at hv; simpa using ih t i hv

theorem VRs.of_get {ι : Inj} {l l' : List Value} (hl : l.length = l'.length) (h : ∀ (i : Nat) (v v' : Value), l[i]? = some v → l'[i]? = some v' → VR ι v v') : VRs ι l l' := by
  induction l generalizing l' with
  | nil => cases l' with | nil => exact .nil | cons => simp at hl
  | cons a l ih =>
    cases l' with
    | nil => simp at hl
    | cons a' l' => exact .cons (h 0 _ _ rfl rfl) (ih (by simpa using hl) fun i v v' x y => h (i + 1) v v' (by simpa using x) (by simpa using y))

theorem VRs.append {ι : Inj} {a a' b b' : List Value} (h : VRs ι a a') (k : VRs ι b b') : VRs ι (a ++ b) (a' ++ b') := by
  induction a generalizing a' with
  | nil => cases h; exact k
  | cons x a ih => cases h with | cons p q => exact .cons p (ih q)

theorem VRs.drop {ι : Inj} {a a' : List Value} (h : VRs ι a a') (n : Nat) : VRs ι (a.drop n) (a'.drop n) := by
  induction n generalizing a a' with
  | zero => simpa
  | succ n ih => cases h with | nil => simpa using VRs.nil | cons p q => simpa using ih q

theorem VRs.take {ι : Inj} {a a' : List Value} (h : VRs ι a a') (n : Nat) : VRs ι (a.take n) (a'.take n) := by
  induction n generalizing a a' with
  | zero => simpa using VRs.nil
  | succ n ih => cases h with | nil => simpa using VRs.nil | cons p q => simpa using VRs.cons p (ih q)

theorem VRs.set {ι : Inj} {a a' : List Value} (h : VRs ι a a') (i : Nat) {v v' : Value} (hv : VR ι v v') : VRs ι (a.set i v) (a'.set i v') := by
  induction a generalizing a' i with
  | nil => cases h; simpa using VRs.nil
  | cons x a ih => cases h with | cons p q => cases i with | zero => exact .cons hv q | succ i => exact .cons p (ih q i)

theorem VRs.map {ι : Inj} {α : Type} (l : List α) (f f' : α → Value) (h : ∀ x ∈ l, VR ι (f x) (f' x)) : VRs ι (l.map f) (l.map f') := by
  induction l with
  | nil => exact .nil
  | cons a l ih => exact .cons (h _ (by simp)) (ih fun x hx => h x (by simp [hx]))

theorem VRs.replicate {ι : Inj} {v v' : Value} (h : VR ι v v') (n : Nat) : VRs ι (List.replicate n v) (List.replicate n v') := by
  induction n with
  | zero => exact .nil
  | succ n ih => exact .cons h ih

/-- Values without an address: the same in both. -/
def plainV : Value → Bool
  | .bool _ | .int _ _ | .float _ _ | .string _ | .pointer none | .slice none 0 0 | .nilFunc | .nilIface => true
  | .func _ ⟨[]⟩ ⟨[]⟩ => true
  | _ => false
def closedV : Value → Bool
  | .agg ⟨cs⟩ => cs.all plainV
  | .tuple ⟨[]⟩ => true
  | v => plainV v
theorem VR.plain {ι : Inj} {v : Value} (h : plainV v = true) : VR ι v v := by
  unfold plainV at h
  split at h <;> first | exact absurd h (by decide) | exact .func _ (.inl rfl) .nil .nil | constructor
theorem VRs.plain {ι : Inj} {l : List Value} (h : l.all plainV = true) : VRs ι l l := by
  induction l with
  | nil => exact .nil
  | cons a l ih => simp at h; exact .cons (VR.plain h.1) (ih (by simpa using h.2))
theorem VR.closed {ι : Inj} {v : Value} (h : closedV v = true) : VR ι v v := by
  unfold closedV at h
  split at h
  · exact .agg (VRs.plain h)
  · exact .tuple .nil
  · exact VR.plain h

def cellsL (v : Value) : List Value := v.cells.toList
theorem VR.cells {ι : Inj} {v v' : Value} (h : VR ι v v') : VRs ι (cellsL v) (cellsL v') := by
  cases h with
  | agg x => exact x
  | ptr e => exact .cons (.ptr e) .nil
  | sl e a b c => exact .cons (.sl e a b c) .nil
  | sl0 x e => exact .cons (.sl0 x e) .nil
  | emp x => exact .cons (.emp x) .nil
  | func fn k x y => exact .cons (.func fn k x y) .nil
  | iface t x => exact .cons (.iface t x) .nil
  | tuple x => exact .cons (.tuple x) .nil
  | bool => exact .cons (.bool _) .nil
  | int => exact .cons (.int _ _) .nil
  | float => exact .cons (.float _ _) .nil
  | string => exact .cons (.string _) .nil
  | nilp => exact .cons .nilp .nil
  | nils => exact .cons .nils .nil
  | nilf => exact .cons .nilf .nil
  | nili => exact .cons .nili .nil
  | mp e k => exact .cons (.mp e k) .nil

/-- A value that fits one cell. -/
def one (v : Value) : Bool := match v with | .agg _ | .tuple _ => false | _ => true
theorem VR.one {ι : Inj} {v v' : Value} (h : VR ι v v') : AH.one v = AH.one v' := by cases h <;> rfl
theorem one_eq (v : Value) : one v = v.oneCell' := by cases v <;> rfl

/-! ### Sets of keys as numbers of types: the block of a map to true has no cells, its type tells the keys -/
def tz : Nat → Nat → Nat × Nat
  | 0, n => (0, n / 2)
  | f + 1, n => if n % 2 = 1 then (0, n / 2) else ((tz f (n / 2)).1 + 1, (tz f (n / 2)).2)
theorem tz_pow (b : Nat) : ∀ (a f : Nat), a ≤ f → tz f (2 ^ a * (2 * b + 1)) = (a, b)
  | 0, 0, _ => by simp only [tz, Nat.pow_zero, Nat.one_mul]; rw [show (2 * b + 1) / 2 = b by omega]
  | 0, f + 1, _ => by
    simp only [tz, Nat.pow_zero, Nat.one_mul]; rw [if_pos (by omega), show (2 * b + 1) / 2 = b by omega]
  | a + 1, 0, h => by omega
  | a + 1, f + 1, h => by
    have e : 2 ^ (a + 1) * (2 * b + 1) = 2 * (2 ^ a * (2 * b + 1)) := by rw [Nat.pow_succ, Nat.mul_comm (2 ^ a) 2, Nat.mul_assoc]
    simp only [tz, e]
    rw [if_neg (by omega), Nat.mul_div_cancel_left _ (by omega), tz_pow b a f (by omega)]
def encL : List Nat → Nat
  | [] => 0
  | a :: l => 2 ^ a * (2 * encL l + 1)
def decL : Nat → Nat → List Nat
  | 0, _ => []
  | f + 1, n => if n = 0 then [] else (tz n n).1 :: decL f (tz n n).2
theorem encL_le : ∀ (l : List Nat), l.length ≤ encL l
  | [] => Nat.le_refl _
  | a :: l => by
    have h := encL_le l
    have h1 : 1 * (2 * encL l + 1) ≤ 2 ^ a * (2 * encL l + 1) := Nat.mul_le_mul_right _ (Nat.one_le_two_pow)
    simp only [List.length_cons, encL]; omega
theorem dec_enc : ∀ (l : List Nat) (f : Nat), l.length ≤ f → decL f (encL l) = l
  | [], f, _ => by cases f <;> simp [decL, encL]
  | a :: l, 0, h => by simp at h
  | a :: l, f + 1, h => by
    have h1 : 2 ^ a * 1 ≤ 2 ^ a * (2 * encL l + 1) := Nat.mul_le_mul_left _ (by omega)
    have h2 : a < 2 ^ a := Nat.lt_two_pow_self
    have h3 := tz_pow (encL l) a (2 ^ a * (2 * encL l + 1)) (by omega)
    have h0 : 2 ^ a * (2 * encL l + 1) ≠ 0 := by omega
    simp only [decL, encL, if_neg h0, h3]
    rw [dec_enc l f (by simpa using h)]
def encI : Int → Nat
  | .ofNat n => 2 * n
  | .negSucc n => 2 * n + 1
def decI (n : Nat) : Int := if n % 2 = 0 then .ofNat (n / 2) else .negSucc (n / 2)
theorem dec_encI (n : Int) : decI (encI n) = n := by
  cases n with
  | ofNat n =>
    have h1 : (2 * n) % 2 = 0 := by omega
    have h2 : 2 * n / 2 = n := by omega
    unfold encI decI; simp [h1, h2]
  | negSucc n =>
    have h1 : (2 * n + 1) % 2 = 1 := by omega
    have h2 : (2 * n + 1) / 2 = n := by omega
    unfold encI decI; simp [h1, h2]
@[irreducible] def setBase : Nat := 1000000000
/-- The type of the block of a map that holds these keys. -/
def setT (K : List (List Int)) : TypeId := (setBase + encL (K.map fun k => encL (k.map encI)) : Nat)
def decK (n : Nat) : List (List Int) := (decL n n).map fun m => (decL m m).map decI
def setK (e : TypeId) : Option (List (List Int)) := if setBase ≤ (e : Nat) then some (decK ((e : Nat) - setBase)) else none
theorem decK_enc (K : List (List Int)) : decK (encL (K.map fun k => encL (k.map encI))) = K := by
  unfold decK
  rw [dec_enc _ _ (encL_le _), List.map_map]
  refine Eq.trans (List.map_congr_left fun k _ => ?_) (List.map_id K)
  show (decL _ _).map decI = k
  rw [dec_enc _ _ (encL_le _), List.map_map]
  exact Eq.trans (List.map_congr_left fun n _ => dec_encI n) (List.map_id k)
theorem setT_ge (K : List (List Int)) : setBase ≤ setT K := Nat.le_add_right _ _
theorem setK_T (K : List (List Int)) : setK (setT K) = some K := by
  have e1 : (setT K : Nat) - setBase = encL (K.map fun k => encL (k.map encI)) := Nat.add_sub_cancel_left (n := setBase) (m := _)
  unfold setK
  rw [if_pos (setT_ge K), e1, decK_enc]
attribute [irreducible] setT setK
/-- A key as a value. -/
def keyV : List Int → Value
  | [n] => .int .i64 n
  | l => .agg ⟨l.map (.int .i64)⟩
def i64of : Value → Option Int
  | .int .i64 n => some n
  | _ => none
def keyI : Value → Option (List Int)
  | .int .i64 n => some [n]
  | .agg ⟨cs⟩ => if 2 ≤ cs.length then cs.mapM i64of else none
  | _ => none
/-- A map to true, with these keys. -/
def SetAt (w : World) (c : Nat) (K : List (List Int)) : Prop :=
  ∃ es clk, w.heap[c]? = some (.map es clk) ∧ (∀ x ∈ es.toList, x.val = .bool true ∧ ∃ k ∈ K, x.key = keyV k) ∧ ∀ k ∈ K, ∃ x ∈ es.toList, x.key = keyV k
theorem SetAt.same {w w' : World} {c : Nat} {K : List (List Int)} (h : SetAt w c K) (hc : w'.heap[c]? = w.heap[c]?) : SetAt w' c K := by
  obtain ⟨es, clk, h1, h2⟩ := h
  exact ⟨es, clk, hc.trans h1, h2⟩

/-- How an abstract heap stands to a world. Blocks from lo on are the run's own: each has a block of the world to itself, from B on. -/
structure HR (P : Program) (ι : Inj) (h : Heap) (lo B : Nat) (w : World) : Prop where
  dom : ∀ b g, ι b = some g → b < h.length ∧ g.c < w.heap.size
  cell : ∀ b e cs g, h[b]? = some (.cells e cs) → ι b = some g → (g.m = false → g.z = P.cellsOf e) ∧
    ∀ (i : Nat) (v : Value), cs[i]? = some v → one v = true ∧ ∃ v', w.cell? ⟨g.c, g.o + i, none⟩ = some v' ∧ VR ι v v'
  own : ∀ b e cs g, lo ≤ b → h[b]? = some (.cells e cs) → ι b = some g → B ≤ g.c ∧ g.o = 0 ∧ cs.length ≤ g.n ∧
    (g.m = false → ∃ cur, w.heap[g.c]? = some (.cells cur e (0, 0)) ∧ cur.size = g.n)
  apart : ∀ b b' e cs e' cs' g g', b ≠ b' → lo ≤ b → h[b]? = some (.cells e cs) → h[b']? = some (.cells e' cs') → ι b = some g → ι b' = some g' → g.c ≠ g'.c
  sets : ∀ b e cs g, h[b]? = some (.cells e cs) → ι b = some g → g.m = true → cs = [] ∧ ∃ K, e = setT K ∧ SetAt w g.c K

end Go.AH
namespace Go.AH
open Go.RowKit (Below)

def upd (ι : Inj) (b : Nat) (g : Img) : Inj := fun x => if x = b then some g else ι x

section
variable {P : Program} {ι : Inj} {h : Heap} {lo B : Nat} {w w' : World}

theorem HR.ext_upd (hr : HR P ι h lo B w) (g : Img) : Ext ι (upd ι h.length g) := fun b g' e => by
  have := (hr.dom b g' e).1
  simp only [upd]; rw [if_neg (by omega)]; exact e

theorem HR.ag_upd (ι : Inj) (h : Heap) (g : Img) : Ag h.length ι (upd ι h.length g) := fun b hb => by
  simp only [upd]; rw [if_neg (by omega)]
theorem HR.ext (hr : HR P ι h lo B w) {ι' : Inj} (ha : Ag h.length ι ι') : Ext ι ι' := fun b g e => (ha b (hr.dom b g e).1).trans e

theorem cell?_block {c off : Nat} {cur : Array Value} {e : TypeId} {fz : Nat × Nat} (hc : w.heap[c]? = some (.cells cur e fz)) : w.cell? ⟨c, off, none⟩ = cur[off]? := by
  simp [World.cell?, hc]

theorem cell?_same {a : Addr} (hc : w'.heap[a.block]? = w.heap[a.block]?) : w'.cell? a = w.cell? a := World.cell?_of_block (w := w) hc

/-- One block more; the block b0 of the heap is dead from now on, where told. -/
theorem HR.grow (hr : HR P ι h lo B w) (h1 : Heap) (c' n : Nat) (e : TypeId) (cs : List Value) (cur : Array Value)
    (hl : h1.length = h.length) (hlive : ∀ (b : Nat) (e : TypeId) (cs : List Value), h1[b]? = some (.cells e cs) → h[b]? = some (.cells e cs))
    (hsize : w.heap.size ≤ w'.heap.size)
    (hsame : ∀ (b : Nat) (e : TypeId) (cs : List Value) (g : Img), h1[b]? = some (.cells e cs) → ι b = some g → g.c ≠ c' ∧ w'.heap[g.c]? = w.heap[g.c]?)
    (hnew : w'.heap[c']? = some (.cells cur e (0, 0))) (hn : cur.size = n) (hB : B ≤ c')
    (hcs : ∀ (i : Nat) (v : Value), cs[i]? = some v → one v = true ∧ ∃ v', cur[i]? = some v' ∧ VR ι v v') (hle : cs.length ≤ n) :
    HR P (upd ι h.length ⟨c', 0, n, P.cellsOf e, false⟩) (h1 ++ [.cells e cs]) lo B w' := by
  have ext := hr.ext_upd ⟨c', 0, n, P.cellsOf e, false⟩
  have hc' : c' < w'.heap.size := by
    rcases Nat.lt_or_ge c' w'.heap.size with x | x
    · exact x
    · simp [Array.getElem?_eq_none x] at hnew
  have old : ∀ (b : Nat) (g : Img), (upd ι h.length ⟨c', 0, n, P.cellsOf e, false⟩) b = some g → b ≠ h.length → ι b = some g := by
    intro b g hb hne; simpa [upd, hne] using hb
  have lookOld : ∀ (b : Nat) (e' : TypeId) (cs' : List Value), (h1 ++ [.cells e cs])[b]? = some (.cells e' cs') → b ≠ h.length → h1[b]? = some (.cells e' cs') := by
    intro b e' cs' hb hne
    rcases Nat.lt_trichotomy b h1.length with x | x | x
    · rwa [List.getElem?_append_left x] at hb
    · omega
    · rw [List.getElem?_eq_none (by simp; omega)] at hb; exact absurd hb (by simp)
  have lookNew : ∀ (e' : TypeId) (cs' : List Value), (h1 ++ [.cells e cs])[h.length]? = some (.cells e' cs') → e' = e ∧ cs' = cs := by
    intro e' cs' hb
    rw [← hl, List.getElem?_append_right (Nat.le_refl _)] at hb
    simp at hb; exact ⟨hb.1.symm, hb.2.symm⟩
  refine ⟨?_, ?_, ?_, ?_, ?_⟩
  · intro b g hb
    by_cases hx : b = h.length
    · subst hx; simp [upd] at hb; subst hb; exact ⟨by simp [hl], hc'⟩
    · have := hr.dom b g (old b g hb hx); exact ⟨by simp [hl]; omega, by omega⟩
  · intro b e' cs' g hb hg
    by_cases hx : b = h.length
    · subst hx
      obtain ⟨rfl, rfl⟩ := lookNew e' cs' hb
      simp [upd] at hg; subst hg
      refine ⟨fun _ => rfl, fun i v hv => ?_⟩
      obtain ⟨h1', v', hv', r⟩ := hcs i v hv
      exact ⟨h1', v', by rw [cell?_block hnew]; simpa using hv', r.mono ext⟩
    · have hb' := lookOld b e' cs' hb hx
      have hg' := old b g hg hx
      obtain ⟨hz, hcell⟩ := hr.cell b e' cs' g (hlive _ _ _ hb') hg'
      refine ⟨hz, fun i v hv => ?_⟩
      obtain ⟨h1', v', hv', r⟩ := hcell i v hv
      refine ⟨h1', v', ?_, r.mono ext⟩
      rw [← hv']; exact cell?_same (hsame b e' cs' g hb' hg').2
  · intro b e' cs' g hlo hb hg
    by_cases hx : b = h.length
    · subst hx
      obtain ⟨rfl, rfl⟩ := lookNew e' cs' hb
      simp [upd] at hg; subst hg
      exact ⟨hB, rfl, hle, fun _ => ⟨cur, hnew, hn⟩⟩
    · have hb' := lookOld b e' cs' hb hx
      have hg' := old b g hg hx
      obtain ⟨a1, a2, a3, a6⟩ := hr.own b e' cs' g hlo (hlive _ _ _ hb') hg'
      refine ⟨a1, a2, a3, fun hm => ?_⟩
      obtain ⟨cur', a4, a5⟩ := a6 hm
      exact ⟨cur', by rw [(hsame b e' cs' g hb' hg').2]; exact a4, a5⟩
  · intro b b' e1 cs1 e2 cs2 g g' hne hlo hb hb' hg hg'
    by_cases hx : b = h.length
    · subst hx
      simp [upd] at hg; subst hg
      have hb2 := lookOld b' e2 cs2 hb' (fun x => hne x.symm)
      exact fun x => (hsame b' e2 cs2 g' hb2 (old b' g' hg' (fun x => hne x.symm))).1 x.symm
    · have hb1 := lookOld b e1 cs1 hb hx
      have hg1 := old b g hg hx
      by_cases hy : b' = h.length
      · subst hy
        simp [upd] at hg'; subst hg'
        exact (hsame b e1 cs1 g hb1 hg1).1
      · exact hr.apart b b' e1 cs1 e2 cs2 g g' hne hlo (hlive _ _ _ hb1) (hlive _ _ _ (lookOld b' e2 cs2 hb' hy)) hg1 (old b' g' hg' hy)
  · intro b e' cs' g hb hg hm
    by_cases hx : b = h.length
    · subst hx
      simp [upd] at hg; subst hg; cases hm
    · have hb' := lookOld b e' cs' hb hx
      have hg' := old b g hg hx
      obtain ⟨a1, K, a2, a3⟩ := hr.sets b e' cs' g (hlive _ _ _ hb') hg' hm
      exact ⟨a1, K, a2, a3.same (hsame b e' cs' g hb' hg').2⟩

/-- A new block beside all others. -/
theorem HR.alloc (hr : HR P ι h lo B w) (hB : B ≤ w.heap.size) (e : TypeId) (cs cs' : List Value) (h1 : ∀ v ∈ cs, one v = true) (hv : VRs ι cs cs') :
    HR P (upd ι h.length ⟨w.heap.size, 0, cs'.length, P.cellsOf e, false⟩) (h ++ [.cells e cs]) lo B (w.alloc (.cells ⟨cs'⟩ e)) := by
  refine hr.grow h w.heap.size cs'.length e cs ⟨cs'⟩ rfl (fun _ _ _ x => x) (by simp) ?_ ?_ rfl hB ?_ ?_
  · intro b e' cs1 g hb hg
    have := (hr.dom b g hg).2
    exact ⟨by omega, Below.heap_alloc w _ _ this⟩
  · exact heap_alloc_new w _
  · intro i v hx
    obtain ⟨v', hv', r⟩ := hv.get i v hx
    exact ⟨h1 v (List.mem_of_getElem? hx), v', by simpa using hv', r⟩
  · exact Nat.le_of_eq hv.length

/-- The cells of a part of a block, in the world. -/
theorem HR.cells (hr : HR P ι h lo B w) {b : Nat} {e : TypeId} {cs : List Value} {g : Img} (hb : h[b]? = some (.cells e cs)) (hg : ι b = some g) (off n : Nat) (hn : off + n ≤ cs.length) :
    ∃ cs', VRs ι ((cs.drop off).take n) cs' ∧ cs'.length = n ∧ (∀ (j : Nat) (v : Value), cs'[j]? = some v → w.cell? ⟨g.c, g.o + off + j, none⟩ = some v) := by
  induction n generalizing off with
  | zero => exact ⟨[], by simpa using VRs.nil, rfl, by simp⟩
  | succ n ih =>
    obtain ⟨cs', r, hl, hc⟩ := ih (off + 1) (by omega)
    have hlt : off < cs.length := by omega
    obtain ⟨_, v', hv', rv⟩ := (hr.cell b e cs g hb hg).2 off cs[off] (by simp [hlt])
    refine ⟨v' :: cs', ?_, by simp [hl], ?_⟩
    · rw [List.drop_eq_getElem_cons hlt, List.take_succ_cons]; exact .cons rv r
    · intro j v hj
      cases j with
      | zero => simp at hj; subst hj; simpa using hv'
      | succ j => have := hc j v (by simpa using hj); rw [← this]; congr 2; omega

theorem HR.ones (hr : HR P ι h lo B w) {b : Nat} {e : TypeId} {cs : List Value} {g : Img} (hb : h[b]? = some (.cells e cs)) (hg : ι b = some g) : ∀ v ∈ cs, one v = true := by
  intro v hv
  obtain ⟨i, hi⟩ := List.getElem?_of_mem hv
  exact ((hr.cell b e cs g hb hg).2 i v hi).1

/-- A store into one cell of the run's own. -/
theorem HR.store (hr : HR P ι h lo B w) {b off : Nat} {e : TypeId} {cs : List Value} {g : Img} (hlo : lo ≤ b) (hb : h[b]? = some (.cells e cs)) (hg : ι b = some g)
    (hoff : off < cs.length) {v v' : Value} (h1 : one v = true) (hv : VR ι v v') :
    HR P ι (h.set b (.cells e (cs.set off v))) lo B (w.setCell ⟨g.c, g.o + off, none⟩ v') := by
  have hm : g.m = false := by
    cases hgm : g.m with
    | false => rfl
    | true => rw [(hr.sets b e cs g hb hg hgm).1] at hoff; simp at hoff
  obtain ⟨oB, o0, oN, o1⟩ := hr.own b e cs g hlo hb hg
  obtain ⟨cur, ocur, osz⟩ := o1 hm
  have hcoff : g.o + off < cur.size := by rw [osz, o0]; omega
  have hblt : b < h.length := (hr.dom b g hg).1
  have heap_c : (w.setCell ⟨g.c, g.o + off, none⟩ v').heap[g.c]? = some (.cells (cur.setIfInBounds (g.o + off) v') e (0, 0)) := by
    have hlt : g.c < w.heap.size := (hr.dom b g hg).2
    simp [World.setCell, Array.getElem?_modify, ocur]
  have heap_o : ∀ k, k ≠ g.c → (w.setCell ⟨g.c, g.o + off, none⟩ v').heap[k]? = w.heap[k]? := fun k hk => Below.heap_setCell _ _ _ _ hk
  have lookO : ∀ (b' : Nat) (e' : TypeId) (cs' : List Value), (h.set b (.cells e (cs.set off v)))[b']? = some (.cells e' cs') → b' ≠ b → h[b']? = some (.cells e' cs') := by
    intro b' e' cs' hx hne; rwa [List.getElem?_set_ne (fun x => hne x.symm)] at hx
  have lookB : ∀ (e' : TypeId) (cs' : List Value), (h.set b (.cells e (cs.set off v)))[b]? = some (.cells e' cs') → e' = e ∧ cs' = cs.set off v := by
    intro e' cs' hx; rw [List.getElem?_set_self hblt] at hx; simp at hx; exact ⟨hx.1.symm, hx.2.symm⟩
  refine ⟨?_, ?_, ?_, ?_, ?_⟩
  · intro b' g' hb'; have := hr.dom b' g' hb'; simpa using this
  · intro b' e' cs' g' hb' hg'
    by_cases hx : b' = b
    · subst hx
      obtain ⟨rfl, rfl⟩ := lookB e' cs' hb'
      rw [hg] at hg'; cases hg'
      obtain ⟨hz, hcell⟩ := hr.cell b' e' cs g hb hg
      refine ⟨hz, fun i u hu => ?_⟩
      rw [cell?_block heap_c]
      by_cases hi : i = off
      · subst hi
        rw [List.getElem?_set_self hoff] at hu; cases hu
        exact ⟨h1, v', by simp [hcoff], hv⟩
      · rw [List.getElem?_set_ne (fun x => hi x.symm)] at hu
        obtain ⟨x1, u', hu', r⟩ := hcell i u hu
        rw [cell?_block ocur] at hu'
        exact ⟨x1, u', by rw [Array.getElem?_setIfInBounds_ne (by omega)]; exact hu', r⟩
    · have hb2 := lookO b' e' cs' hb' hx
      obtain ⟨hz, hcell⟩ := hr.cell b' e' cs' g' hb2 hg'
      have hne : g'.c ≠ g.c := fun x => (hr.apart b b' e cs e' cs' g g' (fun y => hx y.symm) hlo hb hb2 hg hg') x.symm
      refine ⟨hz, fun i u hu => ?_⟩
      obtain ⟨x1, u', hu', r⟩ := hcell i u hu
      exact ⟨x1, u', by rw [← hu']; exact cell?_same (heap_o _ hne), r⟩
  · intro b' e' cs' g' hlo' hb' hg'
    by_cases hx : b' = b
    · subst hx
      obtain ⟨rfl, rfl⟩ := lookB e' cs' hb'
      rw [hg] at hg'; cases hg'
      exact ⟨oB, o0, by simpa using oN, fun _ => ⟨_, heap_c, by simpa using osz⟩⟩
    · have hb2 := lookO b' e' cs' hb' hx
      have hne : g'.c ≠ g.c := fun x => (hr.apart b b' e cs e' cs' g g' (fun y => hx y.symm) hlo hb hb2 hg hg') x.symm
      obtain ⟨a1, a2, a3, a6⟩ := hr.own b' e' cs' g' hlo' hb2 hg'
      refine ⟨a1, a2, a3, fun hm' => ?_⟩
      obtain ⟨cur', a4, a5⟩ := a6 hm'
      exact ⟨cur', by rw [heap_o _ hne]; exact a4, a5⟩
  · intro b1 b2 e1 cs1 e2 cs2 g1 g2 hne hlo1 hb1 hb2 hg1 hg2
    have f : ∀ (b' : Nat) (e' : TypeId) (cs' : List Value), (h.set b (.cells e (cs.set off v)))[b']? = some (.cells e' cs') → ∃ e'' cs'', h[b']? = some (.cells e'' cs'') := by
      intro b' e' cs' hx
      by_cases hy : b' = b
      · subst hy; exact ⟨_, _, hb⟩
      · exact ⟨_, _, lookO _ _ _ hx hy⟩
    obtain ⟨_, _, x1⟩ := f _ _ _ hb1
    obtain ⟨_, _, x2⟩ := f _ _ _ hb2
    exact hr.apart b1 b2 _ _ _ _ g1 g2 hne hlo1 x1 x2 hg1 hg2
  · intro b' e' cs' g' hb' hg' hm'
    by_cases hx : b' = b
    · subst hx; rw [hg] at hg'; cases hg'; rw [hm] at hm'; cases hm'
    · obtain ⟨a1, K, a2, a3⟩ := hr.sets b' e' cs' g' (lookO b' e' cs' hb' hx) hg' hm'
      refine ⟨a1, K, a2, a3.same (heap_o _ fun x => ?_)⟩
      obtain ⟨es, clk, k1, _⟩ := a3
      rw [x, ocur] at k1; cases k1

end
end Go.AH
namespace Go.AH
open Go.RowKit (Below)

/-! ### Operands, operations, code -/
inductive Opd where
  | t (i : Nat)
  | v (x : Value)

inductive EK where
  | i
  | b
  | s
inductive AOp where
  | mv (x : Opd)
  | pick (c a b : Opd)
  | alloc (e : TypeId) (z : List Value)
  | box (e : TypeId) (x : Opd)
  | build (z : List Value) (ps : List (Nat × Nat × Opd))
  | mkS (e : TypeId) (len : Nat) (z : List Value) (ps : List (Nat × Nat × Opd))
  | mkE
  | ld (x : Opd)
  | ldn (n : Nat) (x : Opd)
  | st (n : Nat) (x v : Opd)
  | bin (op : BinOp) (x y : Opd)
  | un (op : UnOp) (x : Opd)
  | eqB (neg : Bool) (x y : Opd)
  | eqN (neg : Bool) (x : Opd)
  | cvI (k : IntKind) (x : Opd)
  | cvBS (x : Opd)
  | sl (z : Nat) (x : Opd) (lo hi : Option Opd)
  | slT (x : Opd) (lo hi : Option Opd)
  | fa (x : Opd) (off : Nat)
  | fld (x : Opd) (off : Nat)
  | fldn (n : Nat) (x : Opd) (off : Nat)
  | ia (z : Nat) (x i : Opd)
  | ix (x i : Opd)
  | fn (f : Nat) (cs : List Opd)
  | ext (x : Opd) (i : Nat)
  | nilc (x : Opd)
  | len (x : Opd)
  | lenT (x : Opd)
  | app (e : TypeId) (z b : Nat) (x y : Opd)
  | mkSl (e : TypeId) (z b : Nat) (zc : List Value) (l c : Opd)
  | apz (e : TypeId) (z b : Nat) (zc : List Value) (x n : Opd)
  | fail
  | eqS (neg : Bool) (ks : List EK) (x y : Opd)
  | capZ (x : Opd)
  | mm (mx : Bool) (x y : Opd)
  | cpy (z : Nat) (x y : Opd)
  | call (f : Nat) (as : List Opd)
  | callv (x : Opd) (as : List Opd)
  | mkM
  | getM (n : Nat) (x k : Opd)
  | putM (n : Nat) (x k : Opd)
  | eqP (neg : Bool) (x : Opd)
  | ixA (n : Nat) (x i : Opd)

structure AO where
  d : Option Nat
  g : Option (Nat × Bool)
  op : AOp

inductive AC where
  | skip
  | reg (ops : List AO)
  | drw (ops tail : List AO)
  | drf (fr ops tail : List AO)
  | seq (a b : AC)
  | cond (c : Opd) (a b : AC)
  | block (id : Nat) (a : AC)
  | loop (a : AC)
  | exit (id : Nat)
  | ret
  | bad

structure St where
  σ : Nat → Value
  h : Heap

def put (σ : Nat → Value) (d : Nat) (v : Value) : Nat → Value := fun i => if i = d then v else σ i
def ev (σ : Nat → Value) : Opd → Value
  | .t i => σ i
  | .v x => x

/-! ### What the operations do -/
abbrev Sp := Nat → List Value → Heap → Option (Value × Heap)
abbrev Ctx := List (Nat × Sp)
def Ctx.get : Ctx → Nat → Option Sp
  | [], _ => none
  | (g, s) :: r, f => if f = g then some s else Ctx.get r f

def getP : Value → Option (Nat × Nat)
  | .pointer (some ⟨b, o, none⟩) => some (b, o)
  | _ => none
def getI : Value → Option Int
  | .int _ n => some n
  | _ => none
def getB : Value → Option Bool
  | .bool b => some b
  | _ => none
/-- The cells of a slice of elements of z cells. -/
def rdS (h : Heap) (z : Nat) : Value → Option (List Value)
  | .slice none 0 0 => some []
  | .slice (some ⟨_, _, some _⟩) 0 _ => some []
  | .slice (some ⟨b, o, none⟩) n _ =>
    match h[b]? with
    | some (.cells _ cs) => if o + n * z ≤ cs.length then some ((cs.drop o).take (n * z)) else none
    | _ => none
  | _ => none
def intB (op : BinOp) (k : IntKind) (a b : Int) : Option Value :=
  match op with
  | .add => some (.int k (k.wrap (a + b)))
  | .sub => some (.int k (k.wrap (a - b)))
  | .mul => some (.int k (k.wrap (a * b)))
  | .quo => if b = 0 then none else some (.int k (k.wrap (a.tdiv b)))
  | .rem => if b = 0 then none else some (.int k (a.tmod b))
  | .and => some (.int k (k.wrap (BitVec.ofInt k.bits a &&& BitVec.ofInt k.bits b).toNat))
  | .or => some (.int k (k.wrap (BitVec.ofInt k.bits a ||| BitVec.ofInt k.bits b).toNat))
  | .xor => some (.int k (k.wrap (BitVec.ofInt k.bits a ^^^ BitVec.ofInt k.bits b).toNat))
  | .eql => some (.bool (a == b))
  | .neq => some (.bool (a != b))
  | .lss => some (.bool (a < b))
  | .leq => some (.bool (a ≤ b))
  | .gtr => some (.bool (a > b))
  | .geq => some (.bool (a ≥ b))
  | _ => none
def strB (op : BinOp) (x y : ByteArray) : Option Value :=
  match op with
  | .add => if ((x.size + y.size : Nat) : Int) > IntKind.i64.max then none else some (.string (x ++ y))
  | .eql => some (.bool (x.toList == y.toList))
  | .neq => some (.bool !(x.toList == y.toList))
  | _ => none
def abin (op : BinOp) : Value → Value → Option Value
  | .int k a, .int k' b =>
    match op with
    | .shl => if b < 0 then none else some (.int k (k.wrap (a * 2 ^ (min b.toNat k.bits))))
    | .shr => if b < 0 then none else some (.int k (a.fdiv (2 ^ (min b.toNat k.bits))))
    | op => if k = k' then intB op k a b else none
  | .string a, .string b => strB op a b
  | _, _ => none
def aun (op : UnOp) : Value → Option Value
  | .int k n => match op with
    | .neg => some (.int k (k.wrap (0 - n)))
    | _ => none
  | .bool b => match op with
    | .not => some (.bool !b)
    | _ => none
  | _ => none
def isNil : Value → Option Bool
  | .slice none _ _ => some true
  | .slice (some _) _ _ => some false
  | _ => none
/-- Values laid over the cells of a zero value. -/
def fillL (z : List Value) : List (Nat × Nat × Value) → Option (List Value)
  | [] => some z
  | (off, n, v) :: r => if (cellsL v).length = n ∧ off + n ≤ z.length then fillL (z.take off ++ cellsL v ++ z.drop (off + n)) r else none
def setAt (cs : List Value) (off : Nat) : List Value → List Value
  | [] => cs
  | v :: vs => setAt (cs.set off v) (off + 1) vs
def optI (ρ : Opd → Value) (dft : Int) : Option Opd → Option Int
  | none => some dft
  | some x => getI (ρ x)
def u8of : Value → Option UInt8
  | .int .u8 n => some (UInt8.ofNat n.toNat)
  | _ => none
def slc (b o n : Nat) : Value := .slice (some ⟨b, o, none⟩) n n
def ptr (b o : Nat) : Value := .pointer (some ⟨b, o, none⟩)

/-- An empty slice that is not nil and has no room. -/
def emptyV : Value := .slice (some ⟨0, 0, some 0⟩) 0 0

def slOut (z l n : Nat) : Option Addr → Option Value
  | none => some (.slice none 0 0)
  | some ⟨b, o, none⟩ => some (slc b (o + l * z) n)
  | some ⟨b, o, some s⟩ => if l = 0 ∧ n = 0 then some (.slice (some ⟨b, o, some s⟩) 0 0) else none

/-- Two plain values of one kind, held against each other. -/
def eqC : EK → Value → Value → Option Bool
  | .i, .int k a, .int k' b => if k = k' then some (a == b) else none
  | .b, .bool a, .bool b => some (a == b)
  | .s, .string a, .string b => some (a.toList == b.toList)
  | _, _, _ => none
def eqCs : List EK → List Value → List Value → Option Bool
  | [], [], [] => some true
  | k :: ks, x :: xs, y :: ys => (eqC k x y).bind fun b => (eqCs ks xs ys).map fun c => b && c
  | _, _, _ => none

/-- A slice that is empty and has no room. -/
def noRoom : Value → Bool
  | .slice none 0 0 => true
  | .slice (some ⟨_, _, some _⟩) 0 _ => true
  | _ => false

/-- The set that a map value stands for. -/
def getM : Value → Option Nat
  | .func (.func f) ⟨[]⟩ ⟨[.pointer (some ⟨b, 0, none⟩)]⟩ => if f = setF then some b else none
  | _ => none
/-- A pointer held against nil. -/
def isNilP : Value → Option Bool
  | .pointer none => some true
  | .pointer (some _) => some false
  | _ => none

def aop (Γ : Ctx) (lo : Nat) (ρ : Opd → Value) (h : Heap) : AOp → Option (Value × Heap)
  | .mv x => some (ρ x, h)
  | .pick c a b => (getB (ρ c)).map fun t => (if t then ρ a else ρ b, h)
  | .alloc e z => some (ptr h.length 0, h ++ [.cells e z])
  | .box e x => if (cellsL (ρ x)).all one then some (ptr h.length 0, h ++ [.cells e (cellsL (ρ x))]) else none
  | .build z ps => (fillL z (ps.map fun p => (p.1, p.2.1, ρ p.2.2))).map fun cs => (.agg ⟨cs⟩, h)
  | .mkS e n z ps => (fillL z (ps.map fun p => (p.1, p.2.1, ρ p.2.2))).bind fun cs => if cs.all one then some (slc h.length 0 n, h ++ [.cells e cs]) else none
  | .mkE => some (emptyV, h)
  | .ld x => match getP (ρ x) with
    | some (b, o) => match h[b]? with
      | some (.cells _ cs) => (cs[o]?).map fun v => (v, h)
      | _ => none
    | none => none
  | .ldn n x => match getP (ρ x) with
    | some (b, o) => match h[b]? with
      | some (.cells _ cs) => if o + n ≤ cs.length then some (.agg ⟨(cs.drop o).take n⟩, h) else none
      | _ => none
    | none => none
  | .st n x v => match getP (ρ x) with
    | some (b, o) => match h[b]? with
      | some (.cells e cs) => if lo ≤ b ∧ (cellsL (ρ v)).length = n ∧ o + n ≤ cs.length ∧ (cellsL (ρ v)).all one = true then some (undef, h.set b (.cells e (setAt cs o (cellsL (ρ v))))) else none
      | _ => none
    | none => none
  | .bin op x y => (abin op (ρ x) (ρ y)).map fun v => (v, h)
  | .un op x => (aun op (ρ x)).map fun v => (v, h)
  | .eqB neg x y => (getB (ρ x)).bind fun a => (getB (ρ y)).map fun b => (.bool (if neg then !(a == b) else a == b), h)
  | .eqN neg x => (isNil (ρ x)).map fun b => (.bool (if neg then !b else b), h)
  | .cvI k x => (getI (ρ x)).map fun n => (.int k (k.wrap n), h)
  | .cvBS x => (rdS h 1 (ρ x)).bind fun cs => (cs.mapM u8of).map fun bs => (.string ⟨⟨bs⟩⟩, h)
  | .sl z x lo hi => match ρ x with
    | .slice a n _ => match optI ρ 0 lo, optI ρ n hi with
      | some l, some r => if 0 ≤ l ∧ l ≤ r ∧ r ≤ n then (slOut z l.toNat (r - l).toNat a).map fun v => (v, h) else none
      | _, _ => none
    | _ => none
  | .slT x lo hi => match ρ x with
    | .string s => match optI ρ 0 lo, optI ρ s.size hi with
      | some l, some r => if 0 ≤ l ∧ l ≤ r ∧ r ≤ s.size then some (.string (s.extract l.toNat r.toNat), h) else none
      | _, _ => none
    | _ => none
  | .fa x off => (getP (ρ x)).map fun p => (ptr p.1 (p.2 + off), h)
  | .fld x off => match ρ x with
    | .agg cs => (cs.toList[off]?).map fun v => (v, h)
    | _ => none
  | .fldn n x off => match ρ x with
    | .agg cs => if off + n ≤ cs.toList.length then some (.agg ⟨(cs.toList.drop off).take n⟩, h) else none
    | _ => none
  | .ia z x i => match ρ x, getI (ρ i) with
    | .slice (some ⟨b, o, none⟩) n _, some i => if 0 ≤ i ∧ i < n then some (ptr b (o + i.toNat * z), h) else none
    | _, _ => none
  | .ix x i => match ρ x, getI (ρ i) with
    | .string s, some i => if 0 ≤ i then (s[i.toNat]?).map fun b => (.int .u8 b.toNat, h) else none
    | _, _ => none
  | .fn f cs => some (.func (.func f) ⟨[]⟩ ⟨cs.map ρ⟩, h)
  | .ext x i => match ρ x with
    | .tuple vs => (vs.toList[i]?).map fun v => (v, h)
    | _ => none
  | .nilc x => (getP (ρ x)).map fun p => (ptr p.1 p.2, h)
  | .len x => match ρ x with
    | .slice _ n _ => some (.int .i64 n, h)
    | _ => none
  | .lenT x => match ρ x with
    | .string s => some (.int .i64 s.size, h)
    | _ => none
  | .app e z bts x y => match ρ x, ρ y with
    | .slice a n _, .slice _ m _ => match rdS h z (ρ x), rdS h z (ρ y) with
      | some xs, some ys =>
        if (n + m) * bts ≤ 140737488355328 ∧ n + m ≤ maxLen then
          match a with
          | none => if m = 0 then some (.slice none 0 0, h) else some (slc h.length 0 (n + m), h ++ [.cells e (xs ++ ys)])
          | some ⟨_, _, some _⟩ => if m = 0 then some (ρ x, h) else some (slc h.length 0 (n + m), h ++ [.cells e (xs ++ ys)])
          | some ⟨b, 0, none⟩ => match h[b]? with
            | some (.cells e' _) => if lo ≤ b ∧ e' = e then some (slc h.length 0 (n + m), h.set b .dead ++ [.cells e (xs ++ ys)]) else none
            | _ => none
          | _ => none
        else none
      | _, _ => none
    | _, _ => none
  | .mkSl e _ bts zc l c => match getI (ρ l), getI (ρ c) with
    | some l, some c => if 0 ≤ l ∧ l ≤ c ∧ bts * c ≤ 281474976710656 ∧ c ≤ maxLen then
        some (slc h.length 0 l.toNat, h ++ [.cells e (List.replicate c.toNat zc).flatten]) else none
    | _, _ => none
  | .apz e _ bts zc x l => match getI (ρ l) with
    | some n => if noRoom (ρ x) = true ∧ 0 < n ∧ n * bts ≤ 140737488355328 ∧ n ≤ maxLen then some (slc h.length 0 n.toNat, h ++ [.cells e (List.replicate n.toNat zc).flatten]) else none
    | none => none
  | .fail => none
  | .eqS neg ks x y => match ρ x, ρ y with
    | .agg xs, .agg ys => (eqCs ks xs.toList ys.toList).map fun b => (.bool (if neg then !b else b), h)
    | _, _ => none
  | .capZ x => match ρ x with
    | .slice none 0 0 => some (.int .i64 0, h)
    | .slice (some ⟨_, _, some _⟩) 0 _ => some (.int .i64 0, h)
    | _ => none
  | .mm mx x y => match ρ x, ρ y with
    | .int k a, .int _ b => some (.int k (if mx then (if b > a then b else a) else (if b < a then b else a)), h)
    | _, _ => none
  | .cpy z x y => match ρ x, ρ y with
    | .slice (some ⟨b, o, none⟩) n _, .slice _ m _ => match rdS h z (ρ y), h[b]? with
      | some ys, some (.cells e cs) => if lo ≤ b ∧ o + n * z ≤ cs.length then some (.int .i64 (min m n : Nat), h.set b (.cells e (setAt cs o (ys.take (min m n * z))))) else none
      | _, _ => none
    | _, _ => none
  | .call f as => (Γ.get f).bind fun s => s lo (as.map ρ) h
  | .callv x as => match ρ x with
    | .func (.func f) ⟨[]⟩ ⟨cs⟩ => (Γ.get f).bind fun s => s lo (as.map ρ ++ cs) h
    | _ => none
  | .mkM => some (mapV0 h.length, h ++ [.cells (setT []) []])
  | .getM n x k => match getM (ρ x) with
    | some b => match h[b]? with
      | some (.cells e _) => match setK e, keyI (ρ k) with
        | some K, some l => if l.length = n ∧ K.all (fun m => m.length == n) = true then some (.bool (K.contains l), h) else none
        | _, _ => none
      | _ => none
    | none => none
  | .putM n x k => match getM (ρ x) with
    | some b => match h[b]? with
      | some (.cells e _) => match setK e, keyI (ρ k) with
        | some K, some l => if lo ≤ b ∧ l.length = n ∧ K.all (fun m => m.length == n) = true then some (undef, h.set b (.cells (setT (K ++ [l])) [])) else none
        | _, _ => none
      | _ => none
    | none => none
  | .eqP neg x => (isNilP (ρ x)).map fun b => (.bool (if neg then !b else b), h)
  | .ixA n x i => match ρ x, getI (ρ i) with
    | .agg ⟨cs⟩, some j => if 0 ≤ j ∧ j < n then (cs[j.toNat]?).map fun v => (v, h) else none
    | _, _ => none

/-! ### Code -/
def wants (σ : Nat → Value) : Option (Nat × Bool) → Bool
  | none => true
  | some (t, b) => match σ t with
    | .bool c => c == b
    | _ => false
def putO (σ : Nat → Value) (d : Option Nat) (v : Value) : Nat → Value :=
  match d with
  | some d => put σ d v
  | none => σ

def stepO (Γ : Ctx) (lo : Nat) (o : AO) (s : St) : Option St :=
  if wants s.σ o.g then (aop Γ lo (ev s.σ) s.h o.op).map fun r => ⟨putO s.σ o.d r.1, r.2⟩ else some ⟨putO s.σ o.d undef, s.h⟩
/-- Operation by operation. -/
def rops (Γ : Ctx) (lo : Nat) : List AO → (St → Prop) → St → Prop
  | [], K, s => K s
  | o :: r, K, s => match stepO Γ lo o s with
    | some s' => rops Γ lo r K s'
    | none => False
/-- The same, where what the operations fr read stays as it is. -/
def ropsF (Γ : Ctx) (lo : Nat) (fr : List AO) : List AO → (St → Prop) → St → Prop
  | [], K, s => K s
  | o :: r, K, s => match stepO Γ lo o s with
    | some s' => (∀ y ∈ fr, (aop Γ lo (ev s.σ) s'.h y.op).map (·.1) = (aop Γ lo (ev s.σ) s.h y.op).map (·.1)) ∧ ropsF Γ lo fr r K s'
    | none => False
theorem rops_F {Γ : Ctx} {lo : Nat} {K : St → Prop} : ∀ (l : List AO) (s : St), rops Γ lo l K s → ropsF Γ lo [] l K s
  | [], s, h => h
  | o :: r, s, h => by
    simp only [rops] at h
    simp only [ropsF]
    split at h
    · rename_i s' hs; exact ⟨fun y hy => (by cases hy), rops_F r s' h⟩
    · exact h.elim
/-- The same, where nothing that was there may be written: for a statement whose order is open. -/
def qops (Γ : Ctx) : List AO → (St → Prop) → St → Prop
  | [], K, s => K s
  | o :: r, K, s => match stepO Γ s.h.length o s with
    | some s' => qops Γ r K s'
    | none => False

/-- From what state on a code comes to an end, and to which. -/
def awp (Γ : Ctx) (lo : Nat) : AC → (Exit → St → Prop) → St → Prop
  | .skip, Q, s => Q .normal s
  | .reg ops, Q, s => rops Γ lo ops (Q .normal) s
  | .drw ops tail, Q, s => qops Γ ops (rops Γ lo tail (Q .normal)) s
  | .drf fr ops tail, Q, s => qops Γ ops (ropsF Γ lo fr tail (Q .normal)) s
  | .seq a b, Q, s => awp Γ lo a (fun e s' => match e with | .normal => awp Γ lo b Q s' | e => Q e s') s
  | .cond c a b, Q, s => match ev s.σ c with
    | .bool t => if t then awp Γ lo a Q s else awp Γ lo b Q s
    | _ => False
  | .block id a, Q, s => awp Γ lo a (fun e s' => match e with | .exit i => if i = id then Q .normal s' else Q (.exit i) s' | e => Q e s') s
  | .loop a, Q, s => ∃ R : Nat → St → Prop, (∃ n, R n s) ∧ ∀ n s', R n s' → awp Γ lo a (fun e s'' => match e with | .normal => ∃ m, m < n ∧ R m s'' | e => Q e s'') s'
  | .exit id, Q, s => Q (.exit id) s
  | .ret, Q, s => Q .ret s
  | .bad, _, _ => False

end Go.AH
namespace Go.AH
open Go.RowKit (Below)

/-! ### A statement whose order is open -/
/-- The slots that an operation looks at. -/
def opdT : Operand → List Tmp
  | .tmp t => [t]
  | _ => []
def looks (ops : Array Oper) (o : Oper) : List Tmp :=
  (o.op.operands.toList.flatMap opdT) ++ (match o.guard with | some (j, _) => (((ops[j]?).bind (·.dst)).toList) | none => [])
def edgesOf (o : Oper) : List Nat := (o.after.toList.filter fun e => Region.binds .any e).map (·.on)
/-- j waits for i, over so many edges. -/
def waits (ops : Array Oper) : Nat → Nat → Nat → Bool
  | 0, _, _ => false
  | n + 1, j, i => match ops[j]? with
    | some o => (edgesOf o).any fun k => k == i || waits ops n k i
    | none => false
def touch (ops : Array Oper) (x y : Oper) : Bool :=
  match x.dst with
  | some d => (looks ops y).contains d || y.dst == some d
  | none => false
def AOp.os : AOp → List Opd
  | .mv x | .box _ x | .ld x | .ldn _ x | .un _ x | .eqN _ x | .cvI _ x | .cvBS x | .fa x _ | .fld x _ | .fldn _ x _ | .ext x _ | .nilc x | .len x | .lenT x => [x]
  | .pick c a b => [c, a, b]
  | .alloc _ _ | .mkE | .fail | .mkM => []
  | .eqP _ x => [x]
  | .getM _ x k | .putM _ x k | .ixA _ x k => [x, k]
  | .capZ x => [x]
  | .eqS _ _ x v | .mm _ x v | .cpy _ x v => [x, v]
  | .build _ ps | .mkS _ _ _ ps => ps.map (·.2.2)
  | .st _ x v | .bin _ x v | .eqB _ x v | .ia _ x v | .ix x v | .app _ _ _ x v | .mkSl _ _ _ _ x v | .apz _ _ _ _ x v => [x, v]
  | .sl _ x lo hi | .slT x lo hi => [x] ++ lo.toList ++ hi.toList
  | .fn _ cs | .call _ cs => cs
  | .callv x cs => x :: cs

def opdA : Opd → List Nat
  | .t t => [t]
  | .v _ => []
/-- How many operations stand ahead of the last ones that wait for all. -/
def headLen (ops : Array Oper) : Nat := ops.size - ((List.range ops.size).reverse.takeWhile fun t => (List.range t).all fun i => waits ops ops.size t i).length

/-- Operations that neither read nor write the heap. -/
def pureOp : AOp → Bool
  | .mv _ | .fa _ _ | .bin _ _ _ | .cvI _ _ | .un _ _ | .len _ | .sl _ _ _ _ | .ext _ _ => true
  | _ => false
/-! Which operations are free, which form the chain at the end, and the new order -/
def freeAt (al : AOp → Bool) (ops : Array Oper) (os : List AO) : Nat → Nat → Bool
  | 0, _ => false
  | f + 1, k => match os[k]?, ops[k]? with
    | some x, some o => x.g.isNone && al x.op && x.d.isSome && (edgesOf o).all (freeAt al ops os f)
    | _, _ => false
def nonFree (al : AOp → Bool) (ops : Array Oper) (os : List AO) : List Nat := (List.range ops.size).filter fun k => !freeAt al ops os ops.size k
def chainOf (al : AOp → Bool) (ops : Array Oper) (os : List AO) : List Nat :=
  ((nonFree al ops os).reverse.takeWhile fun t => (nonFree al ops os).all fun i => !(decide (i < t)) || waits ops ops.size t i).reverse
def orderOf (al : AOp → Bool) (ops : Array Oper) (os : List AO) : List Nat := ((List.range ops.size).filter fun k => !(chainOf al ops os).contains k) ++ chainOf al ops os
def headOf (al : AOp → Bool) (ops : Array Oper) (os : List AO) : Nat := ops.size - (chainOf al ops os).length
/-- Operations that only read. -/
def readOp : AOp → Bool
  | .ld _ | .ldn _ _ => true
  | _ => false
def softOp (p : AOp) : Bool := pureOp p || readOp p
/-- The free ones of a head that read. -/
def readsOf (os : List AO) (n : Nat) (free : Nat → Bool) : List AO := (List.range n).filterMap fun k => if free k then (os[k]?).bind fun x => if readOp x.op then some x else none else none
def reOper (q : Nat → Nat) (o : Oper) : Oper :=
  { o with after := o.after.map (fun e => { e with on := q e.on }), guard := o.guard.map fun g => (q g.1, g.2) }
def reOps (ops : Array Oper) (ord : List Nat) : Array Oper := (ord.filterMap fun i => (ops[i]?).map (reOper fun j => ord.idxOf j)).toArray
/-- The check that gives `Renum`. -/
def renumOk (ops ops' : Array Oper) (ord : List Nat) : Bool :=
  ops'.size == ops.size && ord.length == ops.size &&
  ((List.range ops.size).all fun i => decide (ord.idxOf i < ops.size) && decide (ord.getD i 0 < ops.size) && ord.getD (ord.idxOf i) 0 == i && ord.idxOf (ord.getD i 0) == i) &&
  ((List.range ops.size).all fun i => match ops[i]? with
    | some o => (edgesOf o).all (fun k => decide (k < ops.size)) && (match o.guard with | some g => decide (g.1 < ops.size) | none => true)
    | none => true)
/-- The check that gives `FOK`, of the permuted operations. -/
def fokOk (al : AOp → Bool) (ops : Array Oper) (os : List AO) (n : Nat) (free : Nat → Bool) : Bool :=
  decide (n ≤ ops.size) &&
  ((List.range ops.size).all fun j => match ops[j]? with
    | some o => (edgesOf o).all fun k => decide (k < j)
    | none => true) &&
  ((List.range ops.size).all fun j => (List.range j).all fun i => match ops[i]?, ops[j]? with
    | some x, some y => if touch ops x y || touch ops y x then waits ops ops.size j i else true
    | _, _ => true) &&
  ((List.range ops.size).all fun t => decide (t < n) || (List.range t).all fun i => free i || waits ops ops.size t i) &&
  (ops.toList.zip os).all (fun p => (p.2.op.os.flatMap opdA).all fun t => (looks ops p.1).contains t) &&
  ((List.range ops.size).all fun k => !free k || match ops[k]?, os[k]? with
    | some o, some x => x.g.isNone && al x.op && (decide (k < n) || pureOp x.op) && (match o.dst with
        | some d => !(looks ops o).contains d && (List.range ops.size).all fun i => !(decide (i < n) || free i) || i == k || (match ops[i]? with | some y => !(y.dst == some d) | none => true)
        | none => false) &&
        (List.range ops.size).all fun i => decide (i ≤ k) || !free i || (match ops[i]? with | some y => (match y.dst with | some d => !(looks ops o).contains d | none => true) | none => true)
    | _, _ => true)
/-- The head that the plain way leaves holds a write. -/
def wantsChain (ops : Array Oper) (os : List AO) : Bool :=
  (os.take (headLen ops)).any fun x => match x.op with
    | .st .. | .cpy .. => true
    | .app _ _ _ (.t i) _ => !(os.any fun y => y.d == some i && (match y.op with | .mkE => true | _ => false))
    | _ => false

/-! ### From the model's code to the logic's -/
section
variable (P : Program) (N : Nat)

def cO : Operand → Option Opd
  | .tmp t => if t < N then some (.t t) else none
  | .const v => if closedV v then some (.v v) else none
  | .func f => some (.v (.func (.func f) ⟨[]⟩ ⟨[]⟩))
  | .global _ => none
def cOs : List Operand → Option (List Opd)
  | [] => some []
  | x :: r => (cO N x).bind fun y => (cOs r).map fun ys => y :: ys
def cOo : Option Operand → Option (Option Opd)
  | none => some none
  | some x => (cO N x).map some
def aggT (t : TypeId) : Bool := match P.underlying t with | some (.struct _) | some (.array _ _) => true | _ => false
def known (t : TypeId) : Bool := (P.info? t).isSome && (P.underlying t).isSome
def zeroT (t : TypeId) : Option (List Value) :=
  match P.info? t with
  | some i => match i.zero with
    | some z => if (cellsL z).all plainV && (cellsL z).all one && (cellsL z).length == i.size then some (cellsL z) else none
    | none => none
  | none => none
def cParts (place : Nat → Option (Nat × Nat)) : List (Nat × Operand) → Option (List (Nat × Nat × Opd))
  | [] => some []
  | (i, x) :: r => (place i).bind fun p => (cO N x).bind fun y => (cParts place r).map fun l => (p.1, p.2, y) :: l
def callable (f : FuncId) : Bool :=
  decide (f < setF) && match P.funcs[f]? with
  | some fn => fn.body.isSome && !(fn.name == "runtime.NumGoroutine")
  | none => false
def isNilConst : Operand → Bool
  | .const (.slice none 0 0) => true
  | _ => false
def rowsZ (len n : Nat) (z : List Value) : List Value := (List.range (len * n)).map fun i => z[i % z.length]!

def cCall (c : Call) : Option AOp :=
  match c.callee with
  | .value (.func f) => if callable P f then (cOs N c.args.toList).map (.call f) else none
  | .value (.tmp t) => (cO N (.tmp t)).bind fun x => (cOs N c.args.toList).map (.callv x)
  | .builtin .len => match c.argTypes.toList, c.args.toList with
    | [t], [x] => match P.underlying t with
      | some (.slice _) => (cO N x).map .len
      | some .string => (cO N x).map .lenT
      | _ => none
    | _, _ => none
  | .builtin .append => match c.argTypes.toList, c.args.toList with
    | [t, t'], [x, y] => if t = t' then match P.underlying t with
      | some (.slice e) => match P.info? e, zeroT P e with
        | some i, some _ => if 0 < i.size ∧ e < setBase then (cO N x).bind fun x => (cO N y).map fun y => .app e i.size i.bytes x y else none
        | _, _ => none
      | _ => none else none
    | _, _ => none
  | _ => none

def cOp0 (d : Bool) (o : Op) : Option AOp :=
  match o with
  | .move x | .assign x => (cO N x).map .mv
  | .pick c a b => (cO N c).bind fun c => (cO N a).bind fun a => (cO N b).map fun b => .pick c a b
  | .alloc e => (zeroT P e).map (.alloc e)
  | .box e x => (cO N x).map (.box e)
  | .build t parts => match P.underlying t with
    | some (.struct fs) => if fs.all (fun f => known P f.type) then
        (zeroT P t).bind fun z => (cParts N (fun i => (fs[i]?).map fun f => (f.offset, P.cellsOf f.type)) parts.toList).map (.build z) else none
    | _ => none
  | .buildSlice t len parts => match P.underlying t with
    | some (.slice e) => if d = true ∧ len = 0 ∧ parts = #[] then (if known P e ∧ 0 < P.cellsOf e then (zeroT P e).map fun _ => .mkE else none) else if known P e ∧ 0 < P.cellsOf e ∧ len * P.cellsOf e ≤ 2 ^ 24 then
        (zeroT P e).bind fun z => (cParts N (fun i => some (i * P.cellsOf e, P.cellsOf e)) parts.toList).map (.mkS e len (rowsZ len (P.cellsOf e) z)) else none
    | _ => none
  | .load t x => if known P t then (cO N x).map fun x => if aggT P t then .ldn (P.cellsOf t) x else .ld x else none
  | .store t x v => if known P t then (cO N x).bind fun x => (cO N v).map fun v => .st (P.cellsOf t) x v else none
  | .nilCheck x => (cO N x).map .nilc
  | .binOp op t x y _ =>
    match op, P.underlying t with
    | .eql, some .bool => (cO N x).bind fun x => (cO N y).map fun y => .eqB false x y
    | .neq, some .bool => (cO N x).bind fun x => (cO N y).map fun y => .eqB true x y
    | .eql, some (.slice _) => if isNilConst y then (cO N x).map (.eqN false) else none
    | .neq, some (.slice _) => if isNilConst y then (cO N x).map (.eqN true) else none
    | op, _ => (cO N x).bind fun x => (cO N y).map fun y => .bin op x y
  | .unOp op _ x => (cO N x).map (.un op)
  | .convert s d x => match P.underlying s, P.underlying d with
    | some (.int _), some (.int k) => (cO N x).map (.cvI k)
    | some (.slice e), some .string => match P.underlying e with
      | some (.int .u8) => (cO N x).map .cvBS
      | _ => none
    | _, _ => none
  | .slice t x lo hi none => match P.underlying t with
    | some (.slice e) => if known P e ∧ 0 < P.cellsOf e then (cO N x).bind fun x => (cOo N lo).bind fun lo => (cOo N hi).map fun hi => .sl (P.cellsOf e) x lo hi else none
    | some .string => (cO N x).bind fun x => (cOo N lo).bind fun lo => (cOo N hi).map fun hi => .slT x lo hi
    | _ => none
  | .fieldAddr s x f => match P.underlying s with
    | some (.struct fs) => match fs[f]? with
      | some fd => if known P fd.type ∧ P.cellsOf fd.type ≠ 0 then (cO N x).map fun x => .fa x fd.offset else none
      | none => none
    | _ => none
  | .field s x f => match P.underlying s with
    | some (.struct fs) => match fs[f]? with
      | some fd => if known P fd.type then (cO N x).map fun x => if aggT P fd.type then .fldn (P.cellsOf fd.type) x fd.offset else .fld x fd.offset else none
      | none => none
    | _ => none
  | .indexAddr t x i => match P.underlying t with
    | some (.slice e) => if known P e then (cO N x).bind fun x => (cO N i).map fun i => .ia (P.cellsOf e) x i else none
    | _ => none
  | .index t x i => match P.underlying t with
    | some .string => (cO N x).bind fun x => (cO N i).map fun i => .ix x i
    | _ => none
  | .makeFunc (.func f) first caps => if first.toList.isEmpty = true ∧ f < setF then (cOs N caps.toList).map (.fn f) else none
  | .extract x i => (cO N x).map fun x => .ext x i
  | .makeSlice t l c => match P.underlying t with
    | some (.slice e) => match P.info? e, zeroT P e with
      | some i, some z => if 0 < i.size then (cO N l).bind fun l => (cO N c).map fun c => .mkSl e i.size i.bytes z l c else none
      | _, _ => none
    | _ => none
  | .call c => cCall P N c
  | _ => none

/-- Types whose values are held against each other cell by cell. -/
def offsOk (n : Nat) : Nat → List Field → Bool
  | o, [] => o == n
  | o, f :: r => f.offset == o && offsOk n (o + P.cellsOf f.type) r
def eqShs (f : TypeId → Option (List EK)) : List Field → Option (List EK)
  | [] => some []
  | x :: r => (f x.type).bind fun a => (eqShs f r).map fun b => a ++ b
def eqSh : Nat → TypeId → Option (List EK)
  | 0, _ => none
  | d + 1, t => if known P t = true then match P.underlying t with
    | some (.int _) => if P.cellsOf t = 1 then some [.i] else none
    | some .bool => if P.cellsOf t = 1 then some [.b] else none
    | some .string => if P.cellsOf t = 1 then some [.s] else none
    | some (.struct fs) => if P.stoodInHeld t = false ∧ offsOk P (P.cellsOf t) 0 fs.toList = true ∧ fs.toList.all (fun f => f.name != "_") = true then eqShs (fun t => eqSh d t) fs.toList else none
    | _ => none else none
def cOpX (o : Op) : Option AOp :=
  match o with
  | .binOp .eql t x y _ => if aggT P t = true ∧ P.eqGuardType P.depth t = false then (eqSh P 6 t).bind fun ks => (cO N x).bind fun x => (cO N y).map fun y => .eqS false ks x y else none
  | .binOp .neq t x y _ => if aggT P t = true ∧ P.eqGuardType P.depth t = false then (eqSh P 6 t).bind fun ks => (cO N x).bind fun x => (cO N y).map fun y => .eqS true ks x y else none
  | .call c => match c.callee, c.argTypes.toList, c.args.toList with
    | .builtin .max, _, [x, y] => (cO N x).bind fun x => (cO N y).map fun y => .mm true x y
    | .builtin .min, _, [x, y] => (cO N x).bind fun x => (cO N y).map fun y => .mm false x y
    | .builtin .cap, [t], [x] => match P.underlying t with
      | some (.slice _) => (cO N x).map .capZ
      | _ => none
    | .builtin .copy, [t, _], [x, y] => match P.underlying t with
      | some (.slice e) => if known P e = true then (cO N x).bind fun x => (cO N y).map fun y => .cpy (P.cellsOf e) x y else none
      | _ => none
    | .builtin .append, [t, t'], [x, y] => match P.underlying t, P.underlying t' with
      | some (.slice e), some (.int _) => match P.info? e, zeroT P e with
        | some i, some z => if 0 < i.size then (cO N x).bind fun x => (cO N y).map fun y => .apz e i.size i.bytes z x y else none
        | _, _ => none
      | _, _ => none
    | _, _, _ => none
  | _ => none
/-- How many cells a key of a type has: whole numbers, and structs of such. -/
def keyN (t : TypeId) : Option Nat :=
  match P.underlying t with
  | some (.int .i64) => some 1
  | some (.struct _) => if aggT P t = true then (eqSh P 6 t).bind fun ks => if 2 ≤ ks.length ∧ ks.all (fun e => match e with | .i => true | _ => false) = true then some ks.length else none else none
  | _ => none
/-- A type whose zero is false. -/
def boolZ (e : TypeId) : Bool := match P.info? e with
  | some i => match i.zero with
    | some (.bool false) => true
    | _ => false
  | none => false
def cOpY (o : Op) : Option AOp :=
  match o with
  | .makeMap t none => match P.underlying t with
    | some (.map kt et) => if boolZ P et = true then (keyN P kt).map fun _ => .mkM else none
    | _ => none
  | .lookup t x k false => match P.underlying t with
    | some (.map kt et) => if boolZ P et = true then (keyN P kt).bind fun n => (cO N x).bind fun x => (cO N k).map fun k => .getM n x k else none
    | _ => none
  | .mapUpdate t x k (.const (.bool true)) => match P.underlying t with
    | some (.map kt et) => if boolZ P et = true then (keyN P kt).bind fun n => (cO N x).bind fun x => (cO N k).map fun k => .putM n x k else none
    | _ => none
  | .binOp .eql t x (.const (.pointer none)) _ => match P.underlying t with
    | some (.pointer _) => (cO N x).map (.eqP false)
    | _ => none
  | .binOp .neq t x (.const (.pointer none)) _ => match P.underlying t with
    | some (.pointer _) => (cO N x).map (.eqP true)
    | _ => none
  | .index t x i => match P.underlying t with
    | some (.array n e) => if known P e = true ∧ aggT P e = false ∧ P.cellsOf e = 1 then (cO N x).bind fun x => (cO N i).map fun i => .ixA n x i else none
    | _ => none
  | .build t parts => match P.underlying t with
    | some (.array _ e) => if known P e = true then (zeroT P t).bind fun z => (cParts N (fun i => some (i * P.cellsOf e, P.cellsOf e)) parts.toList).map (.build z) else none
    | _ => none
  | _ => none
def isSel : Op → Bool
  | .select .. => true
  | _ => false
def cOp (d : Bool) (o : Op) : Option AOp := match cOpX P N o with
  | some p => some p
  | none => match cOpY P N o with
  | some p => some p
  | none => if isSel o = true then none else some ((cOp0 P N d o).getD .fail)

def cGuard (ops : Array Oper) : Option (Nat × Bool) → Option (Option (Nat × Bool))
  | none => some none
  | some (j, b) => match ((ops[j]?).bind (·.dst) : Option Tmp) with
    | some d => if d < N then some (some (d, b)) else none
    | none => none
def cDst : Option Tmp → Bool
  | none => true
  | some d => d < N
def cOper (d : Bool) (ops : Array Oper) (o : Oper) : Option AO :=
  if cDst N o.dst then (cOp P N d o.op).bind fun p => (cGuard N ops o.guard).map fun g => ⟨o.dst, g, p⟩ else none
def cOpers (d : Bool) (ops : Array Oper) : List Oper → Option (List AO)
  | [] => some []
  | o :: r => (cOper P N d ops o).bind fun a => (cOpers d ops r).map fun l => a :: l
/-- A pure operation without a guard. -/
def softAt (os : List AO) (k : Nat) : Bool := match os[k]? with
  | some x => x.g.isNone && pureOp x.op && x.d.isSome
  | none => false
/-- From where on all but pure operations wait for all such ahead of them. -/
def lateOf (ops : Array Oper) (os : List AO) : Nat :=
  let hard := (List.range ops.size).filter fun k => !softAt os k
  ((hard.reverse.takeWhile fun t => hard.all fun i => !(decide (i < t)) || waits ops ops.size t i).reverse.head?).getD ops.size
def isExt : AOp → Bool
  | .ext _ _ => true
  | _ => false
/-- The head holds a call of a function that is handed a pointer. -/
def headWrites (os : List AO) (n : Nat) : Bool := (os.take n).any fun x => match x.op with
  | .call f _ => match P.funcs[f]? with
    | some fn => fn.params.any fun t => match P.underlying t with
      | some (.pointer _) => true
      | _ => false
    | none => false
  | _ => false
def reOk (al : AOp → Bool) (ops : Array Oper) (os : List AO) : Bool :=
  ((orderOf al ops os).all fun i => decide (i < ops.size)) && renumOk ops (reOps ops (orderOf al ops os)) (orderOf al ops os) &&
    match cOpers P N true (reOps ops (orderOf al ops os)) (reOps ops (orderOf al ops os)).toList with
    | some os' => fokOk al (reOps ops (orderOf al ops os)) os' (headOf al ops os) (fun k => freeAt al ops os ops.size ((orderOf al ops os).getD k 0))
    | none => false
def cCode : Code → Option AC
  | .skip => some .skip
  | .region _ ops false => (cOpers P N false ops ops.toList).map .reg
  | .region _ ops true => (cOpers P N true ops ops.toList).bind fun os =>
    if P.follows .mixedOrders = true ∧ wantsChain ops os = true ∧ reOk P N pureOp ops os = true then
      (cOpers P N true (reOps ops (orderOf pureOp ops os)) (reOps ops (orderOf pureOp ops os)).toList).map fun os' => .drw (os'.take (headOf pureOp ops os)) (os'.drop (headOf pureOp ops os))
    else if P.follows .mixedOrders = true ∧ headWrites P os (headLen ops) = true ∧ ((os.drop (lateOf ops os)).any fun x => isExt x.op) = true ∧ fokOk pureOp ops os (lateOf ops os) (softAt os) = true then
      some (.drw (os.take (lateOf ops os)) (os.drop (lateOf ops os)))
    else if P.follows .mixedOrders = true ∧ headWrites P os (headLen ops) = true ∧ reOk P N softOp ops os = true then
      (cOpers P N true (reOps ops (orderOf softOp ops os)) (reOps ops (orderOf softOp ops os)).toList).map fun os' => .drf (readsOf os' (headOf softOp ops os) (fun k => freeAt softOp ops os ops.size ((orderOf softOp ops os).getD k 0))) (os'.take (headOf softOp ops os)) (os'.drop (headOf softOp ops os))
    else if P.follows .mixedOrders = true ∧ fokOk pureOp ops os (headLen ops) (fun _ => false) = true then some (.drw (os.take (headLen ops)) (os.drop (headLen ops))) else some .bad
  | .seq a b => (cCode a).bind fun x => (cCode b).map fun y => .seq x y
  | .cond c a b => (cO N c).bind fun z => (cCode a).bind fun x => (cCode b).map fun y => .cond z x y
  | .block id a => (cCode a).map (.block id)
  | .loop a => (cCode a).map .loop
  | .exit id => some (.exit id)
  | .ret => some .ret
  | _ => some .bad

inductive AR where
  | t (i : Nat)
  | cell (a : Nat) (n : Option Nat)
def cRes : List ResultVar → Option (List AR)
  | [] => some []
  | .tmp t :: r => if t < N then (cRes r).map fun l => .t t :: l else none
  | .cell a t :: r => if a < N ∧ known P t then (cRes r).map fun l => .cell a (if aggT P t then some (P.cellsOf t) else none) :: l else none
end

structure AF where
  n : Nat
  code : AC
  res : List AR
def cFn (P : Program) (fn : Func) : Option AF :=
  match fn.body with
  | some c => (cCode P fn.ntmps c).bind fun x => (cRes P fn.ntmps fn.results.toList).map fun r => ⟨fn.ntmps, x, r⟩
  | none => none

def rres1 (s : St) : AR → Option Value
  | .t i => some (s.σ i)
  | .cell a n => match getP (s.σ a) with
    | some (b, o) => match s.h[b]? with
      | some (.cells _ cs) => match n with
        | none => cs[o]?
        | some n => if o + n ≤ cs.length then some (.agg ⟨(cs.drop o).take n⟩) else none
      | _ => none
    | none => none
def rresL (s : St) : List AR → Option (List Value)
  | [] => some []
  | a :: r => (rres1 s a).bind fun v => (rresL s r).map fun vs => v :: vs
def rres (s : St) (l : List AR) : Option Value :=
  (rresL s l).map fun
    | [v] => v
    | vs => .tuple ⟨vs⟩
def argσ (args : List Value) : Nat → Value := fun i => (args[i]?).getD undef
end Go.AH
namespace Go.AH
open Go.RowKit (Below)

/-- The slots of a frame. -/
def TR (N : Nat) (ι : Inj) (σ : Nat → Value) (tmps : Array Value) : Prop := N ≤ tmps.size ∧ ∀ i, i < N → VR ι (σ i) (tmps.getD i undef)

theorem TR.mono {N : Nat} {ι ι' : Inj} {σ : Nat → Value} {t : Array Value} (h : TR N ι σ t) (e : Ext ι ι') : TR N ι' σ t := ⟨h.1, fun i hi => (h.2 i hi).mono e⟩

theorem TR.put {N : Nat} {ι : Inj} {σ : Nat → Value} {a : Act} (h : TR N ι σ a.tmps) {d : Option Tmp} (hd : cDst N d = true) {v v' : Value} (hv : VR ι v v') :
    TR N ι (putO σ d v) (a.put d v').tmps := by
  cases d with
  | none => exact h
  | some d =>
    have hd' : d < N := by simpa [cDst] using hd
    refine ⟨by simpa [Act.put] using h.1, fun i hi => ?_⟩
    by_cases e : i = d
    · subst e
      have : i < a.tmps.size := Nat.lt_of_lt_of_le hi h.1
      simpa [putO, AH.put, Act.put, Array.getElem?_setIfInBounds, this] using hv
    · have := h.2 i hi
      have e' : d ≠ i := fun x => e x.symm
      simpa [putO, AH.put, Act.put, e, Array.getElem?_setIfInBounds, e'] using this

theorem cO_ev {N : Nat} {ι : Inj} {σ : Nat → Value} {a : Act} (h : TR N ι σ a.tmps) {x : Operand} {y : Opd} (hc : cO N x = some y) : VR ι (ev σ y) (a.eval x) := by
  cases x with
  | tmp t =>
    simp only [cO] at hc; split at hc
    · cases hc; exact h.2 t ‹_›
    · cases hc
  | const v =>
    simp only [cO] at hc; split at hc
    · cases hc; exact VR.closed ‹_›
    · cases hc
  | func f => simp only [cO] at hc; cases hc; exact .func _ (.inl rfl) .nil .nil
  | global g => cases hc

theorem cOs_ev {N : Nat} {ι : Inj} {σ : Nat → Value} {a : Act} (h : TR N ι σ a.tmps) : ∀ {xs : List Operand} {ys : List Opd}, cOs N xs = some ys → VRs ι (ys.map (ev σ)) (xs.map a.eval)
  | [], ys, hc => by cases hc; exact .nil
  | x :: r, ys, hc => by
    simp only [cOs] at hc
    obtain ⟨y, hy, hc⟩ := Option.bind_eq_some_iff.1 hc
    obtain ⟨zs, hz, rfl⟩ := Option.map_eq_some_iff.1 hc
    exact .cons (cO_ev h hy) (cOs_ev h hz)

/-- What an operation that calls nothing does in the world, told beside what it does in the abstract heap. -/
def Fine (P : Program) (ι : Inj) (h : Heap) (lo B : Nat) (w : World) (v : Value) (h' : Heap) (r : Result Next) : Prop :=
  ∃ v' w' ι', (r = .ok (.value v') w' ∨ (r = .ok .skip w' ∧ v = undef ∧ v' = undef)) ∧ Ag h.length ι ι' ∧ VR ι' v v' ∧ HR P ι' h' lo B w' ∧ Below B w w'

section
variable {P : Program} {N : Nat} {ι : Inj} {h h' : Heap} {lo B : Nat} {w : World} {σ : Nat → Value} {a : Act} {v : Value}

theorem Fine.pure (hr : HR P ι h lo B w) {v' : Value} (hv : VR ι v v') : Fine P ι h lo B w v h (.ok (.value v') w) :=
  ⟨v', w, ι, .inl rfl, Ag.refl _ _, hv, hr, Below.refl _ _⟩

theorem getP_some {v : Value} {b o : Nat} (h : getP v = some (b, o)) : v = .pointer (some ⟨b, o, none⟩) := by
  unfold getP at h; split at h <;> simp_all
theorem getB_some {v : Value} {b : Bool} (h : getB v = some b) : v = .bool b := by
  unfold getB at h; split at h <;> simp_all
theorem getI_some {v : Value} {n : Int} (h : getI v = some n) : ∃ k, v = .int k n := by
  unfold getI at h; split at h <;> simp_all

theorem VR.getP {x y : Value} (h : VR ι x y) {b o : Nat} (hp : AH.getP x = some (b, o)) : ∃ g, ι b = some g ∧ y = .pointer (some ⟨g.c, g.o + o, none⟩) := by
  have := getP_some hp; subst this
  cases h with | ptr e => exact ⟨_, e, rfl⟩
theorem VR.getB {x y : Value} (h : VR ι x y) {b : Bool} (hp : AH.getB x = some b) : y = .bool b := by
  have := getB_some hp; subst this
  cases h; rfl
theorem VR.getI {x y : Value} (h : VR ι x y) {n : Int} (hp : AH.getI x = some n) : ∃ k, y = .int k n := by
  obtain ⟨k, rfl⟩ := getI_some hp
  cases h; exact ⟨k, rfl⟩

theorem aggT_run {t : TypeId} (hk : known P t = true) (w : World) : (isAgg t).run P w = .ok (aggT P t) w := by
  simp only [known, Bool.and_eq_true, Option.isSome_iff_exists] at hk
  obtain ⟨_, d, hd⟩ := hk
  simp only [isAgg, Sem.run_bind, run_underlying hd, Result.andThen_ok, aggT, hd]
  cases d <;> rfl
theorem sizeOf_run {t : TypeId} (hk : (P.info? t).isSome = true) (w : World) : (sizeOf t).run P w = .ok (P.cellsOf t) w := by
  obtain ⟨i, hi⟩ := Option.isSome_iff_exists.1 hk
  simp [sizeOf, typeInfo, hi, Program.cellsOf]

theorem fine_mv (hr : HR P ι h lo B w) (ht : TR N ι σ a.tmps) {x : Operand} {y : Opd} (hy : cO N x = some y) : Fine P ι h lo B w (ev σ y) h (.ok (.value (a.eval x)) w) :=
  Fine.pure hr (cO_ev ht hy)

theorem plain_ones {z : List Value} (h : z.all one = true) : ∀ v ∈ z, one v = true := by simpa using h

/-- A new row in the world for a new block of the heap. -/
theorem fine_new (hr : HR P ι h lo B w) (hB : B ≤ w.heap.size) (e : TypeId) (cs cs' : List Value) (h1 : ∀ v ∈ cs, one v = true) (hv : VRs ι cs cs') :
    ∃ ι', Ag h.length ι ι' ∧ ι' h.length = some ⟨w.heap.size, 0, cs'.length, P.cellsOf e, false⟩ ∧ HR P ι' (h ++ [.cells e cs]) lo B (w.alloc (.cells ⟨cs'⟩ e)) ∧ Below B w (w.alloc (.cells ⟨cs'⟩ e)) :=
  ⟨_, HR.ag_upd _ _ _, by simp [upd], hr.alloc hB e cs cs' h1 hv, (Below.refl _ _).alloc hB _⟩

theorem zeroT_spec {e : TypeId} {z : List Value} (hz : zeroT P e = some z) : ∃ i v, P.info? e = some i ∧ i.zero = some v ∧ cellsL v = z ∧ z.all plainV = true ∧ z.all one = true ∧ z.length = i.size := by
  unfold zeroT at hz
  split at hz
  · rename_i i hi
    split at hz
    · rename_i v hv
      split at hz
      · rename_i hc
        cases hz
        simp only [Bool.and_eq_true, beq_iff_eq] at hc
        exact ⟨i, v, hi, hv, rfl, hc.1.1, hc.1.2, hc.2⟩
      · cases hz
    · cases hz
  · cases hz

theorem fine_alloc (hr : HR P ι h lo B w) (hB : B ≤ w.heap.size) {e : TypeId} {z : List Value} (hz : zeroT P e = some z) :
    Fine P ι h lo B w (ptr h.length 0) (h ++ [.cells e z]) ((do pure (.value (← Instr.alloc e true (.tuple #[]))) : Sem Next).run P w) := by
  obtain ⟨i, v, hi, hv, rfl, hp, h1, hl⟩ := zeroT_spec hz
  obtain ⟨ι', x1, x2, x3, x4⟩ := fine_new hr hB e (cellsL v) (cellsL v) (plain_ones h1) (VRs.plain hp)
  refine ⟨.pointer (some ⟨w.heap.size, 0, none⟩), _, ι', .inl ?_, x1, ?_, x3, x4⟩
  · simp [Instr.alloc, zeroValue, typeInfo, hi, hv, newVar, newRow, cellsL]
  · have := VR.ptr (off := 0) x2; simpa [ptr] using this

theorem fine_box (hr : HR P ι h lo B w) (hB : B ≤ w.heap.size) {e : TypeId} {x x' : Value} (hx : VR ι x x') (h1 : (cellsL x).all one = true) :
    Fine P ι h lo B w (ptr h.length 0) (h ++ [.cells e (cellsL x)]) ((do pure (.value (← Instr.box e x')) : Sem Next).run P w) := by
  obtain ⟨ι', x1, x2, x3, x4⟩ := fine_new hr hB e (cellsL x) (cellsL x') (plain_ones h1) hx.cells
  refine ⟨.pointer (some ⟨w.heap.size, 0, none⟩), _, ι', .inl ?_, x1, ?_, x3, x4⟩
  · simp [Instr.box, newVar, newRow, cellsL]
  · have := VR.ptr (off := 0) x2; simpa [ptr] using this

theorem fine_ld (hr : HR P ι h lo B w) {t : TypeId} (hk : known P t = true) (hagg : aggT P t = false) {x x' : Value} (hx : VR ι x x') {b o : Nat} (hp : getP x = some (b, o))
    {e : TypeId} {cs : List Value} (hb : h[b]? = some (.cells e cs)) (hv : cs[o]? = some v) :
    Fine P ι h lo B w v h ((do pure (.value (← Instr.loadAt t x')) : Sem Next).run P w) := by
  obtain ⟨g, hg, rfl⟩ := hx.getP hp
  obtain ⟨_, v', hv', rv⟩ := (hr.cell b e cs g hb hg).2 o v hv
  refine ⟨v', w, ι, .inl ?_, Ag.refl _ _, rv, hr, Below.refl _ _⟩
  simp [Instr.loadAt, Instr.sureAddr, loadVar, aggT_run hk, hagg, hv']

theorem fine_ldn (hr : HR P ι h lo B w) {t : TypeId} (hk : known P t = true) (hagg : aggT P t = true) {x x' : Value} (hx : VR ι x x') {b o : Nat} (hp : getP x = some (b, o))
    {e : TypeId} {cs : List Value} (hb : h[b]? = some (.cells e cs)) (hn : o + P.cellsOf t ≤ cs.length) :
    Fine P ι h lo B w (.agg ⟨(cs.drop o).take (P.cellsOf t)⟩) h ((do pure (.value (← Instr.loadAt t x')) : Sem Next).run P w) := by
  obtain ⟨g, hg, rfl⟩ := hx.getP hp
  obtain ⟨cs', r, hl, hc⟩ := hr.cells hb hg o (P.cellsOf t) hn
  have hki : (P.info? t).isSome = true := by simp only [known, Bool.and_eq_true] at hk; exact hk.1
  have hload := run_loadCells_list (P := P) w ⟨g.c, g.o + o, none⟩ cs' (fun j u hu => by rw [Addr.add_lit]; exact hc j u hu)
  rw [hl] at hload
  refine ⟨.agg ⟨cs'⟩, w, ι, .inl ?_, Ag.refl _ _, .agg r, hr, Below.refl _ _⟩
  simp [Instr.loadAt, Instr.sureAddr, loadVar, aggT_run hk, hagg, sizeOf_run hki, hload]

end
end Go.AH
namespace Go.AH
open Go.RowKit (Below)
section
variable {P : Program} {N : Nat} {ι : Inj} {h h' : Heap} {lo B : Nat} {w : World} {σ : Nat → Value} {a : Act} {v : Value}

/-- A run of stores into one block of the run's own. -/
theorem store_all {b : Nat} {e : TypeId} {g : Img} (hlo : lo ≤ b) (hg : ι b = some g) : ∀ (vs vs' : List Value) (cs : List Value) (o i : Nat) (h : Heap) (w : World), HR P ι h lo B w → h[b]? = some (.cells e cs) → o + i + vs.length ≤ cs.length →
    (∀ v ∈ vs, one v = true) → VRs ι vs vs' → ∃ w', (storeCells ⟨g.c, g.o + o, none⟩ vs' i).run P w = .ok () w' ∧ HR P ι (h.set b (.cells e (setAt cs (o + i) vs))) lo B w' ∧ Below B w w'
  | [], _, cs, o, i, h, w, hr, hb, _, _, hv => by
    cases hv
    refine ⟨w, rfl, ?_, Below.refl _ _⟩
    have : h.set b (.cells e cs) = h := by
      apply List.ext_getElem?
      intro j
      by_cases hj : j = b
      · subst hj; rw [List.getElem?_set_self (hr.dom j g hg).1, hb]
      · rw [List.getElem?_set_ne (fun x => hj x.symm)]
    simpa [setAt, this] using hr
  | v :: vs, _, cs, o, i, h, w, hr, hb, hl, h1, hv => by
    cases hv with
    | cons hv hvs =>
      rename_i v' vs'
      simp only [List.length_cons] at hl
      have hm : g.m = false := by
        cases hgm : g.m with
        | false => rfl
        | true => rw [(hr.sets b e cs g hb hg hgm).1] at hl; simp at hl
      obtain ⟨oB, o0, oN, o1⟩ := hr.own b e cs g hlo hb hg
      obtain ⟨cur, ocur, osz⟩ := o1 hm
      have hr1 := hr.store hlo hb hg (off := o + i) (by omega) (h1 v (by simp)) hv
      have hb1 : (h.set b (.cells e (cs.set (o + i) v)))[b]? = some (.cells e (cs.set (o + i) v)) := List.getElem?_set_self (hr.dom b g hg).1
      obtain ⟨w', hw', hr', hbel⟩ := store_all hlo hg vs vs' (cs.set (o + i) v) o (i + 1) _ _ hr1 hb1 (by simp; omega) (fun u hu => h1 u (by simp [hu])) hvs
      refine ⟨w', ?_, ?_, ?_⟩
      · simp only [storeCells, Sem.run_bind, Addr.add_lit]
        have hcell : ∃ u, w.cell? ⟨g.c, g.o + o + i, none⟩ = some u := by
          obtain ⟨_, u, hu, _⟩ := (hr.cell b e cs g hb hg).2 (o + i) cs[o + i] (by simp [show o + i < cs.length by omega])
          exact ⟨u, by rw [← hu]; congr 2; omega⟩
        obtain ⟨u, hu⟩ := hcell
        have hone : v'.oneCell' = true := by rw [← one_eq, ← hv.one]; exact h1 v (by simp)
        have hfz : w.frozen? ⟨g.c, g.o + o + i, none⟩ = false := by simp [World.frozen?, ocur]
        rw [run_store P w _ v' .plain hone]
        simp only [hu, hfz]
        rw [show g.o + o + i = g.o + (o + i) by omega]
        simpa using hw'
      · simpa [setAt, Nat.add_assoc] using hr'
      · exact Below.trans ((Below.refl _ _).setCell (p := ⟨g.c, g.o + (o + i), none⟩) oB v') hbel

theorem fine_st (hr : HR P ι h lo B w) {t : TypeId} (hk : known P t = true) {x x' u u' : Value} (hx : VR ι x x') (hu : VR ι u u') {b o : Nat} (hp : getP x = some (b, o))
    {e : TypeId} {cs : List Value} (hb : h[b]? = some (.cells e cs)) (hlo : lo ≤ b) (hn : (cellsL u).length = P.cellsOf t) (hle : o + P.cellsOf t ≤ cs.length) (h1 : (cellsL u).all one = true) :
    Fine P ι h lo B w undef (h.set b (.cells e (setAt cs o (cellsL u)))) ((do Instr.storeAt t x' u'; pure .skip : Sem Next).run P w) := by
  obtain ⟨g, hg, rfl⟩ := hx.getP hp
  have hki : (P.info? t).isSome = true := by simp only [known, Bool.and_eq_true] at hk; exact hk.1
  have hvs := hu.cells
  obtain ⟨w', hw', hr', hbel⟩ := store_all (P := P) hlo hg (cellsL u) (cellsL u') cs o 0 h w hr hb (by omega) (plain_ones h1) hvs
  refine ⟨undef, w', ι, .inr ⟨?_, rfl, rfl⟩, Ag.refl _ _, VR.undef, by simpa using hr', hbel⟩
  have hsz : u'.cells.size = P.cellsOf t := by rw [← hn, hvs.length]; rfl
  simp only [cellsL] at hw'
  simp [Instr.storeAt, Instr.sureAddr, storeVar, sizeOf_run hki, hsz, hw']

/-! ### Values built of parts -/
theorem fold_set (cs vs : List Value) : ∀ (off k : Nat) (cells : Array Value), off + k + vs.length ≤ cells.size →
    ((vs.zipIdx k).foldl (fun (cs : Array Value) (p : Value × Nat) => cs.setIfInBounds (off + p.2) p.1) cells).toList = cells.toList.take (off + k) ++ vs ++ cells.toList.drop (off + k + vs.length) := by
  clear cs
  induction vs with
  | nil => intro off k cells _; simp
  | cons v vs ih =>
    intro off k cells hl
    simp only [List.length_cons] at hl
    rw [List.zipIdx_cons, List.foldl_cons, ih off (k + 1) _ (by simp; omega)]
    have hlt : off + k < cells.toList.length := by simp; omega
    simp only [Array.toList_setIfInBounds, List.length_cons]
    rw [List.take_set, List.drop_set, if_pos (by omega)]
    rw [show off + (k + 1) = off + k + 1 by omega, List.take_succ_eq_append_getElem hlt, List.set_append_right _ _ (by simp; omega)]
    have e1 : min (off + k) cells.size = off + k := by simp at hlt; omega
    simp only [List.length_take, Array.length_toList, e1, Nat.sub_self, List.set_cons_zero, List.append_assoc, List.cons_append, List.nil_append]
    congr 2
    rw [show off + k + 1 + vs.length = off + k + (vs.length + 1) by omega]

theorem fill_run (place : Nat → Option (Nat × Nat)) : ∀ (ps : List (Nat × Operand)) (qs : List (Nat × Nat × Opd)) (z : List Value) (cells : Array Value) (cs : List Value),
    TR N ι σ a.tmps → cParts N place ps = some qs → VRs ι z cells.toList → fillL z (qs.map fun p => (p.1, p.2.1, ev σ p.2.2)) = some cs →
    ∃ cs', Instr.fill place cells (ps.map fun p => (p.1, a.eval p.2)) = some cs' ∧ VRs ι cs cs'.toList
  | [], qs, z, cells, cs, _, hq, hz, hf => by
    cases hq; simp [fillL] at hf; subst hf
    exact ⟨cells, rfl, hz⟩
  | (i, x) :: r, qs, z, cells, cs, ht, hq, hz, hf => by
    simp only [cParts] at hq
    obtain ⟨p, hp, hq⟩ := Option.bind_eq_some_iff.1 hq
    obtain ⟨y, hy, hq⟩ := Option.bind_eq_some_iff.1 hq
    obtain ⟨l, hl, rfl⟩ := Option.map_eq_some_iff.1 hq
    simp only [List.map_cons, fillL] at hf
    split at hf
    · rename_i hcond
      have hv := (cO_ev ht hy).cells
      have hlen : (a.eval x).cells.size = p.2 := by rw [← hcond.1, hv.length]; rfl
      have hsz : cells.size = z.length := by rw [hz.length]; rfl
      have hfs := fold_set [] (a.eval x).cells.toList p.1 0 cells (by simp; omega)
      obtain ⟨cs', h1, h2⟩ := fill_run place r l _ (((a.eval x).cells.toList.zipIdx 0).foldl (fun (cs : Array Value) (p' : Value × Nat) => cs.setIfInBounds (p.1 + p'.2) p'.1) cells) cs ht hl
        (by
          rw [hfs]
          simp only [Nat.add_zero]
          refine VRs.append (VRs.append (hz.take _) hv) ?_
          have : (a.eval x).cells.toList.length = p.2 := by simpa using hlen
          rw [this]; exact hz.drop _) hf
      refine ⟨cs', ?_, h2⟩
      simp only [List.map_cons, Instr.fill, hp]
      rw [if_neg (by simp [hlen]; omega)]
      rw [← h1]
      congr 1
      rw [← Array.foldl_toList, Array.toList_zipIdx]
    · cases hf

theorem mapM_pure_run {α β : Type} (P : Program) (f : α → Sem β) (g : α → β) : ∀ (l : List α) (w : World), (∀ x ∈ l, (f x).run P w = .ok (g x) w) → (l.mapM f).run P w = .ok (l.map g) w
  | [], w, _ => by simp
  | x :: r, w, h => by
    have ih := mapM_pure_run P f g r w (fun y hy => h y (by simp [hy]))
    simp [List.mapM_cons, h x (by simp), ih]

theorem fine_build (hr : HR P ι h lo B w) (ht : TR N ι σ a.tmps) {t : TypeId} {fs : Array Field} (hu : P.underlying t = some (.struct fs)) (hfs : fs.all (fun f => known P f.type) = true)
    {z : List Value} (hz : zeroT P t = some z) {ps : Array (Nat × Operand)} {qs : List (Nat × Nat × Opd)} (hq : cParts N (fun i => (fs[i]?).map fun f => (f.offset, P.cellsOf f.type)) ps.toList = some qs)
    {cs : List Value} (hf : fillL z (qs.map fun p => (p.1, p.2.1, ev σ p.2.2)) = some cs) :
    Fine P ι h lo B w (.agg ⟨cs⟩) h ((do pure (.value (← Instr.build t (ps.map fun (i, x) => (i, a.eval x)))) : Sem Next).run P w) := by
  obtain ⟨i, v, hi, hv, rfl, hp, h1, hl⟩ := zeroT_spec hz
  obtain ⟨cs', hfill, hcs⟩ := fill_run (place := fun i => (fs[i]?).map fun f => (f.offset, P.cellsOf f.type)) (a := a) ps.toList qs (cellsL v) v.cells cs ht hq (VRs.plain hp) hf
  have hplaces : (fs.toList.mapM fun f => (Prod.mk f.offset <$> sizeOf f.type : Sem (Nat × Nat))).run P w = .ok (fs.toList.map fun f => (f.offset, P.cellsOf f.type)) w := by
    refine mapM_pure_run P _ _ _ w fun f hf' => ?_
    have hk : known P f.type = true := Array.all_eq_true_iff_forall_mem.1 hfs f (Array.mem_toList_iff.1 hf')
    have hki : (P.info? f.type).isSome = true := by simp only [known, Bool.and_eq_true] at hk; exact hk.1
    simp [sizeOf_run hki]
  have hplaces' : (fs.mapM fun f => (Prod.mk f.offset <$> sizeOf f.type : Sem (Nat × Nat))).run P w = .ok (fs.map fun f => (f.offset, P.cellsOf f.type)) w := by
    rw [Array.mapM_eq_mapM_toList]
    simp only [Sem.run_map, hplaces, Result.andThen_ok]
    congr 1; simp [← Array.toList_map]
  refine ⟨.agg cs', w, ι, .inl ?_, Ag.refl _ _, ?_, hr, Below.refl _ _⟩
  · have hgoal : Instr.fill (fun x => (fs.map fun f => (f.offset, P.cellsOf f.type))[x]?) v.cells (ps.toList.map fun x => (x.1, a.eval x.2)) = some cs' := by
      rw [← hfill]; congr 1
      funext i; simp
    simp only [Array.getElem?_map] at hgoal
    simp [Instr.build, zeroValue, typeInfo, hi, hv, run_underlying hu, hplaces', hgoal]
  · obtain ⟨l⟩ := cs'; exact .agg hcs

theorem fine_mkS (hr : HR P ι h lo B w) (hB : B ≤ w.heap.size) (ht : TR N ι σ a.tmps) {t e : TypeId} (hu : P.underlying t = some (.slice e)) (hk : known P e = true) {len : Nat} (hlen : len * P.cellsOf e ≤ 2 ^ 24)
    {z : List Value} (hz : zeroT P e = some z) {ps : Array (Nat × Operand)} {qs : List (Nat × Nat × Opd)} (hq : cParts N (fun i => some (i * P.cellsOf e, P.cellsOf e)) ps.toList = some qs)
    {cs : List Value} (hf : fillL (rowsZ len (P.cellsOf e) z) (qs.map fun p => (p.1, p.2.1, ev σ p.2.2)) = some cs) (h1c : cs.all one = true) (hcl : cs.length = len * P.cellsOf e) (hm : len ≤ maxLen) :
    Fine P ι h lo B w (slc h.length 0 len) (h ++ [.cells e cs]) ((do pure (.value (← Instr.buildSlice t len (ps.map fun (i, x) => (i, a.eval x)))) : Sem Next).run P w) := by
  obtain ⟨i, v, hi, hv, rfl, hp, h1, hl⟩ := zeroT_spec hz
  have hki : (P.info? e).isSome = true := by simp [hi]
  have hzz : VRs ι (rowsZ len (P.cellsOf e) (cellsL v)) ((Array.range (len * P.cellsOf e)).map (fun x => v.cells[x % v.cells.size]!)).toList := by
    simp only [rowsZ, Array.toList_map, Array.toList_range]
    refine VRs.map _ _ _ fun (x : Nat) hx => ?_
    have e1 : (cellsL v)[x % (cellsL v).length]! = v.cells[x % v.cells.size]! := by simp [cellsL, getElem!_def]
    rw [e1]
    have hmem : v.cells[x % v.cells.size]! ∈ cellsL v ∨ v.cells[x % v.cells.size]! = default := by
      by_cases hlt : x % v.cells.size < v.cells.size
      · left; rw [getElem!_pos v.cells _ hlt]; simp [cellsL]
      · right; rw [getElem!_neg v.cells _ hlt]
    rcases hmem with hm | hm
    · exact VR.plain (by simpa using (List.all_eq_true.1 hp) _ hm)
    · rw [hm]; exact .bool _
  obtain ⟨cs', hfill, hcs⟩ := fill_run (place := fun i => some (i * P.cellsOf e, P.cellsOf e)) (a := a) ps.toList qs _ _ cs ht hq hzz hf
  obtain ⟨ι', x1, x2, x3, x4⟩ := fine_new hr hB e cs cs'.toList (plain_ones h1c) hcs
  refine ⟨.slice (some ⟨w.heap.size, 0, none⟩) len len, _, ι', .inl ?_, x1, ?_, x3, x4⟩
  · simp only [Instr.buildSlice, Sem.run_bind, run_underlying hu, Result.andThen_ok, sizeOf_run hki]
    rw [if_neg (by omega)]
    by_cases h0 : len * P.cellsOf e = 0
    · have r0 : Array.range 0 = (#[] : Array Nat) := rfl
      rw [h0, r0, Array.map_empty] at hfill
      simp [h0, r0, newRow, hfill]
    · simp [h0, zeroValue, typeInfo, hi, hv, hfill, newRow]
  · have := VR.sl (off := 0) (len := len) (cap := len) (cap' := len) x2 (Nat.le_refl _) hm (fun _ => by simp [← hcs.length, hcl])
    simpa [slc] using this

theorem fillL_length : ∀ (ps : List (Nat × Nat × Value)) (z cs : List Value), fillL z ps = some cs → cs.length = z.length
  | [], z, cs, h => by simp [fillL] at h; rw [h]
  | (o, n, v) :: r, z, cs, h => by
    simp only [fillL] at h
    split at h
    · rename_i hc
      rw [fillL_length r _ _ h]; simp; omega
    · cases h

end
end Go.AH
namespace Go.AH
open Go.RowKit (Below)
section
variable {P : Program} {N : Nat} {ι : Inj} {h h' : Heap} {lo B : Nat} {w : World} {σ : Nat → Value} {a : Act} {v : Value}

theorem intB_run {op : BinOp} {k : IntKind} {x y : Int} (h : intB op k x y = some v) (hs : op ≠ .shl ∧ op ≠ .shr) (t : TypeId) : (binOp op t (.int k x) (.int k y)).run P w = .ok v w ∧ plainV v = true := by
  cases op <;> simp only [intB] at h <;> (try split at h) <;>
    first
    | (cases h; done)
    | (cases h; simp_all [binOp, Op.intArith, Op.intDiv, Op.intBits, Op.intCmp, plainV]; done)
    | exact absurd rfl hs.1
    | exact absurd rfl hs.2

theorem abin_int {op : BinOp} {k k' : IntKind} {x y : Int} (h : abin op (.int k x) (.int k' y) = some v) (t : TypeId) : (binOp op t (.int k x) (.int k' y)).run P w = .ok v w ∧ plainV v = true := by
  by_cases h1 : op = .shl
  · subst h1
    simp only [abin] at h; split at h
    · cases h
    · cases h; simp [binOp, Op.shift, plainV]; omega
  by_cases h2 : op = .shr
  · subst h2
    simp only [abin] at h; split at h
    · cases h
    · cases h; simp [binOp, Op.shift, plainV]; omega
  by_cases hk : k = k'
  · subst hk
    refine intB_run ?_ ⟨h1, h2⟩ t
    cases op <;> simp_all [abin]
  · exact absurd h (by cases op <;> simp_all [abin])

theorem abin_str {op : BinOp} {x y : ByteArray} (h : abin op (.string x) (.string y) = some v) (t : TypeId) : (binOp op t (.string x) (.string y)).run P w = .ok v w ∧ plainV v = true := by
  cases op <;> simp only [abin, strB] at h <;> (try split at h) <;>
    first
    | (cases h; done)
    | (cases h; simp_all [binOp, Op.stringOp, plainV]; done)
    | (cases h; refine ⟨?_, rfl⟩; simp only [binOp, Op.stringOp]; rw [if_neg ‹_›]; rfl)

theorem guard_run {op : BinOp} {t : TypeId} {x y : Operand} {p q : Value} (h1 : ∀ c, p ≠ .agg c) (h2 : p ≠ .nilIface) : (eqGuard op t x y p q).run P w = .ok () w := by
  cases op <;> first | rfl | (cases p <;> first | exact absurd rfl h2 | exact absurd rfl (h1 _) | rfl)

theorem equal_bool {t : TypeId} (hu : P.underlying t = some .bool) (b c : Bool) : (Op.equal t (.bool b) (.bool c)).run P w = .ok (b == c) w := by
  have e : Op.maxDepth = 9999 + 1 := rfl
  rw [Op.equal, e, Op.equalIn]
  simp [run_underlying hu]
theorem equal_nils {t e : TypeId} (hu : P.underlying t = some (.slice e)) (a : Option Addr) (n c : Nat) : (Op.equal t (.slice a n c) (.slice none 0 0)).run P w = .ok a.isNone w := by
  have e : Op.maxDepth = 9999 + 1 := rfl
  rw [Op.equal, e, Op.equalIn]
  cases a <;> simp [run_underlying hu]

theorem abin_cases {op : BinOp} {p q : Value} (h : abin op p q = some v) : (∃ k x k' y, p = .int k x ∧ q = .int k' y) ∨ (∃ x y, p = .string x ∧ q = .string y) := by
  unfold abin at h
  split at h
  · exact .inl ⟨_, _, _, _, rfl, rfl⟩
  · exact .inr ⟨_, _, rfl, rfl⟩
  · cases h

theorem fine_bin (hr : HR P ι h lo B w) {op : BinOp} {t : TypeId} {x y : Operand} {p p' q q' : Value} (hp : VR ι p p') (hq : VR ι q q') (hv : abin op p q = some v) :
    Fine P ι h lo B w v h ((do pure (.value (← (do eqGuard op t x y p' q'; binOp op t p' q'))) : Sem Next).run P w) := by
  rcases abin_cases hv with ⟨k, a, k', b, rfl, rfl⟩ | ⟨a, b, rfl, rfl⟩
  · cases hp; cases hq
    obtain ⟨h1, h2⟩ := abin_int (P := P) (w := w) hv t
    refine ⟨v, w, ι, .inl ?_, Ag.refl _ _, VR.plain h2, hr, Below.refl _ _⟩
    simp [guard_run (P := P) (w := w) (p := .int k a) (by simp) (by simp), h1]
  · cases hp; cases hq
    obtain ⟨h1, h2⟩ := abin_str (P := P) (w := w) hv t
    refine ⟨v, w, ι, .inl ?_, Ag.refl _ _, VR.plain h2, hr, Below.refl _ _⟩
    simp [guard_run (P := P) (w := w) (p := .string a) (by simp) (by simp), h1]

theorem aun_cases {op : UnOp} {p : Value} (h : aun op p = some v) : (∃ k n, p = .int k n ∧ op = .neg ∧ v = .int k (k.wrap (0 - n))) ∨ (∃ b, p = .bool b ∧ op = .not ∧ v = .bool !b) := by
  unfold aun at h
  split at h
  · split at h
    · cases h; exact .inl ⟨_, _, rfl, rfl, rfl⟩
    · cases h
  · split at h
    · cases h; exact .inr ⟨_, rfl, rfl, rfl⟩
    · cases h
  · cases h

theorem fine_un (hr : HR P ι h lo B w) {op : UnOp} {p p' : Value} (hp : VR ι p p') (hv : aun op p = some v) :
    Fine P ι h lo B w v h ((do pure (.value (← Op.unary op p')) : Sem Next).run P w) := by
  rcases aun_cases hv with ⟨k, n, rfl, rfl, rfl⟩ | ⟨b, rfl, rfl, rfl⟩
  · cases hp; exact ⟨_, w, ι, .inl (by simp [Op.unary, Op.intArith]), Ag.refl _ _, .int _ _, hr, Below.refl _ _⟩
  · cases hp; exact ⟨_, w, ι, .inl (by simp [Op.unary]), Ag.refl _ _, .bool _, hr, Below.refl _ _⟩

theorem fine_eqB (hr : HR P ι h lo B w) {op : BinOp} {neg : Bool} (hop : op = if neg then .neq else .eql) {t : TypeId} (hu : P.underlying t = some .bool) {x y : Operand} {p p' q q' : Value} (hp : VR ι p p') (hq : VR ι q q')
    {b c : Bool} (hb : getB p = some b) (hc : getB q = some c) :
    Fine P ι h lo B w (.bool (if neg then !(b == c) else b == c)) h ((do pure (.value (← (do eqGuard op t x y p' q'; binOp op t p' q'))) : Sem Next).run P w) := by
  obtain rfl := hp.getB hb
  obtain rfl := hq.getB hc
  subst hop
  refine ⟨_, w, ι, .inl ?_, Ag.refl _ _, .bool _, hr, Below.refl _ _⟩
  have hg : ∀ op, (eqGuard op t x y (.bool b) (.bool c)).run P w = .ok () w := fun op => guard_run (by simp) (by simp)
  cases neg <;> simp [hg, binOp, equal_bool hu]

theorem fine_eqN (hr : HR P ι h lo B w) {op : BinOp} {neg : Bool} (hop : op = if neg then .neq else .eql) {t e : TypeId} (hu : P.underlying t = some (.slice e)) {x y : Operand} {p p' : Value} (hp : VR ι p p')
    {b : Bool} (hb : isNil p = some b) :
    Fine P ι h lo B w (.bool (if neg then !b else b)) h ((do pure (.value (← (do eqGuard op t x y p' (.slice none 0 0); binOp op t p' (.slice none 0 0)))) : Sem Next).run P w) := by
  obtain ⟨ad, n, c, rfl⟩ : ∃ a n c, p = .slice a n c := by
    unfold isNil at hb; split at hb <;> first | exact ⟨_, _, _, rfl⟩ | cases hb
  subst hop
  have hh : ∃ a' n' c', p' = .slice a' n' c' ∧ a'.isNone = b := by
    cases hp with
    | nils => simp [isNil] at hb; exact ⟨_, _, _, rfl, by simp [hb]⟩
    | sl => simp [isNil] at hb; exact ⟨_, _, _, rfl, by simp [hb]⟩
    | sl0 => simp [isNil] at hb; exact ⟨_, _, _, rfl, by simp [hb]⟩
    | emp => simp [isNil] at hb; exact ⟨_, _, _, rfl, by simp [hb]⟩
  obtain ⟨a', n', c', rfl, rfl⟩ := hh
  refine ⟨_, w, ι, .inl ?_, Ag.refl _ _, .bool _, hr, Below.refl _ _⟩
  have hg : ∀ op, (eqGuard op t x y (.slice a' n' c') (.slice none 0 0)).run P w = .ok () w := fun op => guard_run (by simp) (by simp)
  cases neg <;> simp [hg, binOp, equal_nils hu]

theorem fine_cvI (hr : HR P ι h lo B w) {s d : TypeId} {k0 k : IntKind} (hs : P.underlying s = some (.int k0)) (hd : P.underlying d = some (.int k)) {p p' : Value} (hp : VR ι p p') {n : Int} (hn : getI p = some n) :
    Fine P ι h lo B w (.int k (k.wrap n)) h ((do pure (.value (← convert s d p')) : Sem Next).run P w) := by
  obtain ⟨k', rfl⟩ := hp.getI hn
  refine ⟨_, w, ι, .inl ?_, Ag.refl _ _, .int _ _, hr, Below.refl _ _⟩
  simp [convert, run_underlying hs, run_underlying hd, Conv.intToInt]

/-- The cells of a slice, in the world. -/
theorem rdS_world (hr : HR P ι h lo B w) {z : Nat} {p p' : Value} (hp : VR ι p p') {cs : List Value} (hc : rdS h z p = some cs) :
    (p = .slice none 0 0 ∧ p' = .slice none 0 0 ∧ cs = []) ∨
    (∃ b o n c c' y g e bs, p = .slice (some ⟨b, o, none⟩) n c ∧ p' = .slice (some y) n c' ∧ ι b = some g ∧ h[b]? = some (.cells e bs) ∧ n ≤ c' ∧ c' ≤ maxLen ∧
      ((y = ⟨g.c, g.o + o, none⟩ ∧ (g.o + o = 0 → c' * g.z = g.n)) ∨ (n = 0 ∧ c' = 0)) ∧ cs.length = n * z ∧ o + n * z ≤ bs.length ∧ cs = (bs.drop o).take (n * z) ∧ (∀ v ∈ cs, one v = true) ∧
      ∃ cs', VRs ι cs cs' ∧ cs'.length = n * z ∧ ∀ (j : Nat) (u : Value), cs'[j]? = some u → w.cell? (y.add j) = some u) ∨
    ∃ b o s c x, p = .slice (some ⟨b, o, some s⟩) 0 c ∧ p' = .slice (some x) 0 0 ∧ cs = [] := by
  unfold rdS at hc
  split at hc
  · cases hc; cases hp; exact .inl ⟨rfl, rfl, rfl⟩
  · cases hc; cases hp with | emp x => exact .inr (.inr ⟨_, _, _, _, x, rfl, rfl, rfl⟩)
  · rename_i b o n c
    split at hc
    · rename_i e bs hb
      split at hc
      · rename_i hle
        cases hc
        cases hp with
        | sl hg h1 h2 h3 =>
          rename_i g c'
          refine .inr (.inl ⟨b, o, n, c, c', _, g, e, bs, rfl, rfl, hg, hb, h1, h2, .inl ⟨rfl, h3⟩, by simp; omega, hle, rfl, ?_, ?_⟩)
          · intro v hv
            exact hr.ones hb hg v (List.mem_of_mem_drop (List.mem_of_mem_take hv))
          · obtain ⟨cs', r, hl, hcell⟩ := hr.cells hb hg o (n * z) hle
            exact ⟨cs', r, hl, fun j u hj => by rw [Addr.add_lit]; exact hcell j u hj⟩
        | sl0 x hg =>
          rename_i g
          exact .inr (.inl ⟨b, o, 0, c, 0, x, g, e, bs, rfl, rfl, hg, hb, Nat.le_refl _, Nat.zero_le _, .inr ⟨rfl, rfl⟩, by simp, hle, rfl, by simp, [], by simpa using VRs.nil, by simp, by simp⟩)
      · cases hc
    · cases hc
  · cases hc

theorem u8of_some {v : Value} {b : UInt8} (h : u8of v = some b) : ∃ n, v = .int .u8 n ∧ b = UInt8.ofNat n.toNat := by
  unfold u8of at h; split at h <;> simp_all

theorem toStr_run (f : Value → ByteArray → Sem (ForInStep ByteArray)) (hf : ∀ n r, f (.int .u8 n) r = pure (.yield (r.push (UInt8.ofNat n.toNat)))) (l l' : List Value) (hv : VRs ι l l') (bs : List UInt8) (hb : l.mapM u8of = some bs) : ∀ (s : ByteArray),
    (forIn (m := Sem) l' s f).run P w = .ok ⟨s.data ++ ⟨bs⟩⟩ w := by
  induction l generalizing l' bs with
  | nil => intro s; cases hv; simp at hb; subst hb; simp
  | cons v l ih =>
    intro s
    cases hv with
    | cons hv hvs =>
      simp only [List.mapM_cons] at hb
      cases h1 : u8of v with
      | none => simp [h1] at hb
      | some b =>
        cases h2 : l.mapM u8of with
        | none => simp [h1, h2] at hb
        | some bs' =>
          simp [h1, h2] at hb; subst hb
          obtain ⟨n, rfl, rfl⟩ := u8of_some h1
          cases hv
          simp only [List.forIn_cons, hf, Sem.run_bind, Sem.run_pure, Result.andThen_ok]
          rw [ih _ hvs bs' h2]
          congr 1
          simp [ByteArray.push]

end
end Go.AH
namespace Go.AH
open Go.RowKit (Below)
section
variable {P : Program} {N : Nat} {ι : Inj} {h h' : Heap} {lo B : Nat} {w : World} {σ : Nat → Value} {a : Act} {v : Value}

theorem fine_cvBS (hr : HR P ι h lo B w) {s d e : TypeId} (hs : P.underlying s = some (.slice e)) (he : P.underlying e = some (.int .u8)) (hd : P.underlying d = some .string) {p p' : Value} (hp : VR ι p p')
    {cs : List Value} (hc : rdS h 1 p = some cs) {bs : List UInt8} (hb : cs.mapM u8of = some bs) :
    Fine P ι h lo B w (.string ⟨⟨bs⟩⟩) h ((do pure (.value (← convert s d p')) : Sem Next).run P w) := by
  refine ⟨.string ⟨⟨bs⟩⟩, w, ι, .inl ?_, Ag.refl _ _, .string _, hr, Below.refl _ _⟩
  rcases rdS_world hr hp hc with ⟨rfl, rfl, rfl⟩ | ⟨b, o, n, c, c', y, g, e', bs', rfl, rfl, hg, hb', h1, h2, h3, hl, hle, hcs, hone, cs', hv, hl', hcell⟩ | ⟨b, o, s', c, x, rfl, rfl, rfl⟩
  · simp at hb; subst hb
    simp [convert, run_underlying hs, run_underlying hd, run_underlying he, Conv.bytesToString]; rfl
  · have hload := run_loadCells_list (P := P) w y cs' hcell
    rw [hl', Nat.mul_one] at hload
    have hconv : (Conv.bytesToString (.slice (some y) n c')).run P w = .ok (.string ⟨⟨bs⟩⟩) w := by
      simp only [Conv.bytesToString, Sem.run_bind, hload, Result.andThen_ok]
      simp only [← Array.forIn_toList]
      rw [toStr_run (P := P) (w := w) _ (fun n r => rfl) cs cs' hv bs hb ByteArray.empty]
      have e0 : ByteArray.empty.data = (#[] : Array UInt8) := rfl
      simp [e0]
    simp [convert, run_underlying hs, run_underlying hd, run_underlying he, hconv]
  · simp at hb; subst hb
    simp [convert, run_underlying hs, run_underlying hd, run_underlying he, Conv.bytesToString, loadCells, loadCellsFrom]; rfl

theorem optI_eval {x : Option Operand} {y : Option Opd} (ht : TR N ι σ a.tmps) (hy : cOo N x = some y) {dft r : Int} (hr : optI (ev σ) dft y = some r) :
    (x = none ∧ r = dft) ∨ ∃ k, x.map a.eval = some (.int k r) := by
  cases x with
  | none => simp [cOo] at hy; subst hy; simp [optI] at hr; exact .inl ⟨rfl, hr.symm⟩
  | some x =>
    simp only [cOo] at hy
    obtain ⟨z, hz, rfl⟩ := Option.map_eq_some_iff.1 hy
    simp only [optI] at hr
    obtain ⟨k, hk⟩ := (cO_ev ht hz).getI hr
    exact .inr ⟨k, by simp [hk]⟩

theorem fine_sl (hr : HR P ι h lo B w) (ht : TR N ι σ a.tmps) {t e : TypeId} (hu : P.underlying t = some (.slice e)) (hk : known P e = true) (hz : 0 < P.cellsOf e)
    {p' : Value} {ad : Option Addr} {n c : Nat} (hp : VR ι (.slice ad n c) p') {lo' hi' : Option Operand} {lq hq : Option Opd} (hlo : cOo N lo' = some lq) (hhi : cOo N hi' = some hq)
    {l r : Int} (hl : optI (ev σ) 0 lq = some l) (hrr : optI (ev σ) n hq = some r) (h0 : 0 ≤ l) (h1 : l ≤ r) (h2 : r ≤ n) {v : Value}
    (hv : slOut (P.cellsOf e) l.toNat (r - l).toNat ad = some v) :
    Fine P ι h lo B w v h ((do pure (.value (← Instr.sliceAt t p' (lo'.map a.eval) (hi'.map a.eval) none)) : Sem Next).run P w) := by
  have hki : (P.info? e).isSome = true := by simp only [known, Bool.and_eq_true] at hk; exact hk.1
  -- what the world does, whatever the slice
  have run : ∀ (x : Option Addr) (cap : Nat), n ≤ cap → (Instr.sliceAt t (.slice x n cap) (lo'.map a.eval) (hi'.map a.eval) none).run P w =
      .ok (.slice (if cap = l.toNat then x else x.map (·.add (l.toNat * P.cellsOf e))) (r - l).toNat (cap - l.toNat)) w := by
    intro x cap hcap
    have hh : ((match hi'.map a.eval, (none : Option Value) with
        | some v, some _ => Instr.sliceBound v cap .slice3B
        | some v, none => Instr.sliceBound v cap .sliceAcap
        | none, none => pure n
        | none, some _ => stuck "Slice: max without high" : Sem Nat)).run P w = .ok r.toNat w := by
      rcases optI_eval (a := a) ht hhi hrr with ⟨rfl, rfl⟩ | ⟨k, hk'⟩
      · simp
      · rw [hk']; simp [run_sliceBound w k r cap .sliceAcap (by omega) (by omega)]
    have hl' : ((match lo'.map a.eval with
        | some v => Instr.sliceBound v r.toNat .sliceB
        | none => pure 0 : Sem Nat)).run P w = .ok l.toNat w := by
      rcases optI_eval (a := a) ht hlo hl with ⟨rfl, rfl⟩ | ⟨k, hk'⟩
      · simp
      · rw [hk']; simp [run_sliceBound w k l r.toNat .sliceB (by omega) (by omega)]
    have hb : (Instr.sliceBounds true n cap (lo'.map a.eval) (hi'.map a.eval) none).run P w = .ok (l.toNat, r.toNat, cap) w := by
      simp only [Instr.sliceBounds]
      rcases optI_eval (a := a) ht hhi hrr with ⟨rfl, rfl⟩ | ⟨k, hk'⟩ <;> rcases optI_eval (a := a) ht hlo hl with ⟨rfl, rfl⟩ | ⟨k2, hk2⟩
      · simp
      · simp [hk2, run_sliceBound w k2 l n .sliceB (by omega) (by omega)]
      · simp [hk', run_sliceBound w k r cap .sliceAcap (by omega) (by omega)]
      · simp [hk', hk2, run_sliceBound w k r cap .sliceAcap (by omega) (by omega), run_sliceBound w k2 l r.toNat .sliceB (by omega) (by omega)]
    simp only [Instr.sliceAt, Sem.run_bind, run_underlying hu, Result.andThen_ok, Instr.slice, hb, sizeOf_run hki]
    simp only [Sem.run_pure, Result.ok.injEq, Value.slice.injEq, and_true, true_and]
    omega
  cases hp with
  | nils =>
    simp [slOut] at hv; subst hv
    refine ⟨_, w, ι, .inl ?_, Ag.refl _ _, .nils, hr, Below.refl _ _⟩
    have := run none 0 (by omega)
    simp only [Sem.run_bind, this, Result.andThen_ok, Sem.run_pure]
    have e1 : l.toNat = 0 := by omega
    have e2 : (r - l).toNat = 0 := by omega
    simp [e1, e2]
  | sl hg hc hm hoff =>
    rename_i b off g cap'
    simp [slOut] at hv; subst hv
    have := run (some ⟨g.c, g.o + off, none⟩) cap' hc
    refine ⟨_, w, ι, .inl (by simp only [Sem.run_bind, this, Result.andThen_ok]; rfl), Ag.refl _ _, ?_, hr, Below.refl _ _⟩
    by_cases hcl : cap' = l.toNat
    · rw [if_pos hcl]
      have e2 : (r - l).toNat = 0 := by omega
      rw [e2, hcl, Nat.sub_self]
      exact .sl0 _ hg
    · rw [if_neg hcl]
      simp only [Option.map_some, Addr.add_lit]
      rw [show g.o + off + l.toNat * P.cellsOf e = g.o + (off + l.toNat * P.cellsOf e) by omega]
      refine .sl hg (by omega) (by omega) fun hz0 => ?_
      have hl0 : l.toNat = 0 := by
        rcases Nat.eq_zero_or_pos l.toNat with x | x
        · exact x
        · have := Nat.mul_pos x hz; omega
      rw [hl0]; simp only [Nat.sub_zero]; exact hoff (by omega)
  | emp x =>
    simp only [slOut] at hv
    split at hv
    · rename_i hz0
      cases hv
      have := run (some x) 0 (Nat.le_refl _)
      refine ⟨_, w, ι, .inl (by simp only [Sem.run_bind, this, Result.andThen_ok]; rfl), Ag.refl _ _, ?_, hr, Below.refl _ _⟩
      simp only [hz0.1, hz0.2, if_true, Nat.sub_self]
      exact .emp x
    · cases hv
  | sl0 x hg =>
    rename_i b off g
    simp [slOut] at hv; subst hv
    have := run (some x) 0 (Nat.le_refl _)
    refine ⟨_, w, ι, .inl (by simp only [Sem.run_bind, this, Result.andThen_ok]; rfl), Ag.refl _ _, ?_, hr, Below.refl _ _⟩
    have e1 : l.toNat = 0 := by omega
    have e2 : (r - l).toNat = 0 := by omega
    simp only [e1, e2, if_true, Nat.sub_self]
    exact .sl0 _ hg

theorem fine_slT (hr : HR P ι h lo B w) (ht : TR N ι σ a.tmps) {t : TypeId} (hu : P.underlying t = some .string) {s : ByteArray} {p' : Value} (hp : VR ι (.string s) p') {lo' hi' : Option Operand} {lq hq : Option Opd}
    (hlo : cOo N lo' = some lq) (hhi : cOo N hi' = some hq) {l r : Int} (hl : optI (ev σ) 0 lq = some l) (hrr : optI (ev σ) s.size hq = some r) (h0 : 0 ≤ l) (h1 : l ≤ r) (h2 : r ≤ s.size) :
    Fine P ι h lo B w (.string (s.extract l.toNat r.toNat)) h ((do pure (.value (← Instr.sliceAt t p' (lo'.map a.eval) (hi'.map a.eval) none)) : Sem Next).run P w) := by
  cases hp
  have hb : (Instr.sliceBounds false s.size s.size (lo'.map a.eval) (hi'.map a.eval) none).run P w = .ok (l.toNat, r.toNat, s.size) w := by
    simp only [Instr.sliceBounds]
    rcases optI_eval (a := a) ht hhi hrr with ⟨rfl, rfl⟩ | ⟨k, hk'⟩ <;> rcases optI_eval (a := a) ht hlo hl with ⟨rfl, rfl⟩ | ⟨k2, hk2⟩
    · simp
    · simp [hk2, run_sliceBound w k2 l s.size .sliceB (by omega) (by omega)]
    · simp [hk', run_sliceBound w k r s.size .sliceAlen (by omega) (by omega)]
    · simp [hk', hk2, run_sliceBound w k r s.size .sliceAlen (by omega) (by omega), run_sliceBound w k2 l r.toNat .sliceB (by omega) (by omega)]
  refine ⟨.string (s.extract l.toNat r.toNat), w, ι, .inl ?_, Ag.refl _ _, .string _, hr, Below.refl _ _⟩
  simp [Instr.sliceAt, run_underlying hu, Instr.slice, hb]

theorem fine_fa (hr : HR P ι h lo B w) {s : TypeId} {fs : Array Field} (hu : P.underlying s = some (.struct fs)) {f : Nat} {fd : Field} (hf : fs[f]? = some fd) (hk : known P fd.type = true) (hz : P.cellsOf fd.type ≠ 0)
    {p p' : Value} (hp : VR ι p p') {b o : Nat} (hpp : getP p = some (b, o)) :
    Fine P ι h lo B w (ptr b (o + fd.offset)) h ((do pure (.value (← Instr.fieldAt s p' f)) : Sem Next).run P w) := by
  obtain ⟨g, hg, rfl⟩ := hp.getP hpp
  have hki : (P.info? fd.type).isSome = true := by simp only [known, Bool.and_eq_true] at hk; exact hk.1
  refine ⟨.pointer (some ⟨g.c, g.o + (o + fd.offset), none⟩), w, ι, .inl ?_, Ag.refl _ _, .ptr hg, hr, Below.refl _ _⟩
  simp [Instr.fieldAt, run_underlying hu, hf, Instr.sureAddr, fieldPlace, sizeOf_run hki, hz, Addr.add_lit, Nat.add_assoc]

theorem fine_fld (hr : HR P ι h lo B w) {s : TypeId} {fs : Array Field} (hu : P.underlying s = some (.struct fs)) {f : Nat} {fd : Field} (hf : fs[f]? = some fd) (hk : known P fd.type = true) (hagg : aggT P fd.type = false)
    {cs : Array Value} {p' : Value} (hp : VR ι (.agg cs) p') (hv : cs.toList[fd.offset]? = some v) :
    Fine P ι h lo B w v h ((do pure (.value (← Instr.field s p' f)) : Sem Next).run P w) := by
  cases hp with
  | agg hc =>
    obtain ⟨v', hv', r⟩ := hc.get _ v hv
    refine ⟨v', w, ι, .inl ?_, Ag.refl _ _, r, hr, Below.refl _ _⟩
    simp [Instr.field, run_underlying hu, hf, asAgg, part, aggT_run hk, hagg, hv']

theorem fine_fldn (hr : HR P ι h lo B w) {s : TypeId} {fs : Array Field} (hu : P.underlying s = some (.struct fs)) {f : Nat} {fd : Field} (hf : fs[f]? = some fd) (hk : known P fd.type = true) (hagg : aggT P fd.type = true)
    {cs : Array Value} {p' : Value} (hp : VR ι (.agg cs) p') :
    Fine P ι h lo B w (.agg ⟨(cs.toList.drop fd.offset).take (P.cellsOf fd.type)⟩) h ((do pure (.value (← Instr.field s p' f)) : Sem Next).run P w) := by
  cases hp with
  | agg hc =>
    have hki : (P.info? fd.type).isSome = true := by simp only [known, Bool.and_eq_true] at hk; exact hk.1
    rename_i cs cs'
    refine ⟨.agg ⟨(cs'.drop fd.offset).take (P.cellsOf fd.type)⟩, w, ι, .inl ?_, Ag.refl _ _, .agg ((hc.drop _).take _), hr, Below.refl _ _⟩
    simp [Instr.field, run_underlying hu, hf, asAgg, part, aggT_run hk, hagg, sizeOf_run hki]

theorem fine_ia (hr : HR P ι h lo B w) {t e : TypeId} (hu : P.underlying t = some (.slice e)) (hk : known P e = true) {b o n c : Nat} {p' q q' : Value} (hp : VR ι (.slice (some ⟨b, o, none⟩) n c) p') (hq : VR ι q q') {i : Int}
    (hi : getI q = some i) (h0 : 0 ≤ i) (h1 : i < n) :
    Fine P ι h lo B w (ptr b (o + i.toNat * P.cellsOf e)) h ((do pure (.value (← Instr.indexAt t p' q')) : Sem Next).run P w) := by
  have hki : (P.info? e).isSome = true := by simp only [known, Bool.and_eq_true] at hk; exact hk.1
  obtain ⟨k, rfl⟩ := hq.getI hi
  cases hp with
  | sl hg hc hm hoff =>
    rename_i g cap'
    refine ⟨.pointer (some ⟨g.c, g.o + (o + i.toNat * P.cellsOf e), none⟩), w, ι, .inl ?_, Ag.refl _ _, .ptr hg, hr, Below.refl _ _⟩
    simp [Instr.indexAt, asIntOf, run_underlying hu, h0, h1, sizeOf_run hki, Addr.add_lit, Nat.add_assoc]
  | sl0 x hg => omega

theorem fine_ix (hr : HR P ι h lo B w) {t : TypeId} (hu : P.underlying t = some .string) {s : ByteArray} {p' q q' : Value} (hp : VR ι (.string s) p') (hq : VR ι q q') {i : Int} (hi : getI q = some i) (h0 : 0 ≤ i)
    {b : UInt8} (hb : s[i.toNat]? = some b) :
    Fine P ι h lo B w (.int .u8 b.toNat) h ((do pure (.value (← Instr.index t p' q')) : Sem Next).run P w) := by
  obtain ⟨k, rfl⟩ := hq.getI hi
  cases hp
  refine ⟨_, w, ι, .inl ?_, Ag.refl _ _, .int _ _, hr, Below.refl _ _⟩
  simp [Instr.index, asIntOf, run_underlying hu, h0, hb]

theorem fine_ext (hr : HR P ι h lo B w) {vs : Array Value} {p' : Value} (hp : VR ι (.tuple vs) p') {i : Nat} (hv : vs.toList[i]? = some v) :
    Fine P ι h lo B w v h ((do pure (.value (← Instr.extract p' i)) : Sem Next).run P w) := by
  cases hp with
  | tuple hc =>
    obtain ⟨v', hv', r⟩ := hc.get _ v hv
    refine ⟨v', w, ι, .inl ?_, Ag.refl _ _, r, hr, Below.refl _ _⟩
    simp [Instr.extract, hv']

end
end Go.AH
namespace Go.AH
open Go.RowKit (Below)
section
variable {P : Program} {N : Nat} {ι : Inj} {h h' : Heap} {lo B : Nat} {w : World} {σ : Nat → Value} {a : Act} {v : Value}

theorem flat_rep (zc : List Value) : ∀ (n i : Nat), i < n * zc.length → ((List.replicate n zc).flatten)[i]? = zc[i % zc.length]?
  | 0, i, h => by simp at h
  | n + 1, i, h => by
    rw [List.replicate_succ, List.flatten_cons]
    by_cases hi : i < zc.length
    · rw [List.getElem?_append_left hi, Nat.mod_eq_of_lt hi]
    · rw [List.getElem?_append_right (by omega), flat_rep zc n (i - zc.length) (by rw [Nat.succ_mul] at h; omega), ← Nat.mod_eq_sub_mod (by omega)]
theorem flat_len (zc : List Value) (n : Nat) : ((List.replicate n zc).flatten).length = n * zc.length := by
  induction n with
  | zero => simp
  | succ n ih => simp [List.replicate_succ, ih, Nat.succ_mul]; omega

theorem fine_mkSl (hr : HR P ι h lo B w) (hB : B ≤ w.heap.size) {t e : TypeId} (hu : P.underlying t = some (.slice e)) {i : TypeInfo} (hi : P.info? e = some i) {zc : List Value} (hz : zeroT P e = some zc) (hpos : 0 < i.size)
    {p p' q q' : Value} (hp : VR ι p p') (hq : VR ι q q') {l c : Int} (hl : getI p = some l) (hc : getI q = some c) (h0 : 0 ≤ l) (h1 : l ≤ c) (hb : i.bytes * c ≤ 281474976710656) (hm : c ≤ maxLen) :
    Fine P ι h lo B w (slc h.length 0 l.toNat) (h ++ [.cells e (List.replicate c.toNat zc).flatten]) ((do pure (.value (← Instr.makeSlice t p' q')) : Sem Next).run P w) := by
  obtain ⟨i', v, hi', hv, rfl, hpl, h1c, hlz⟩ := zeroT_spec hz
  rw [hi] at hi'; cases hi'
  obtain ⟨k, rfl⟩ := hp.getI hl
  obtain ⟨k', rfl⟩ := hq.getI hc
  have hrun := run_make (P := P) (w := w) t e i v hu hi hv k k' l c h0 h1 hb (by simp only [maxLen] at hm; omega)
  have hsz : v.cells.size = i.size := by rw [← hlz]; rfl
  have hrel : VRs ι (List.replicate c.toNat (cellsL v)).flatten (madeCells v.cells (c.toNat * i.size)).toList := by
    refine VRs.of_get ?_ ?_
    · rw [flat_len, hlz]; simp [size_madeCells]
    · intro j x x' hx hx'
      have hj : j < c.toNat * i.size := by
        have := (List.getElem?_eq_some_iff.1 hx).1; rw [flat_len, hlz] at this; exact this
      rw [flat_rep _ _ _ (by rw [hlz]; exact hj)] at hx
      have hx2 : x' = x := by
        simp [madeCells, hj] at hx'
        have hlt : j % v.cells.size < v.cells.size := Nat.mod_lt _ (by omega)
        rw [getElem!_pos v.cells _ hlt] at hx'
        have hx3 : v.cells[j % v.cells.size]? = some x := by
          rw [show (cellsL v).length = v.cells.size by simp [cellsL]] at hx
          simpa [cellsL] using hx
        rw [Array.getElem?_eq_getElem hlt] at hx3
        cases hx3; exact hx'.symm
      subst hx2
      exact VR.plain ((List.all_eq_true.1 hpl) _ (List.mem_of_getElem? hx))
  have hones : ∀ u ∈ (List.replicate c.toNat (cellsL v)).flatten, one u = true := by
    intro u hu
    simp only [List.mem_flatten, List.mem_replicate] at hu
    obtain ⟨x, ⟨_, rfl⟩, hx⟩ := hu
    exact plain_ones h1c u hx
  obtain ⟨ι', x1, x2, x3, x4⟩ := fine_new hr hB e _ _ hones hrel
  refine ⟨_, _, ι', .inl (by simp only [Sem.run_bind, hrun, Result.andThen_ok]; rfl), x1, ?_, x3, x4⟩
  have hn : ((madeCells v.cells (c.toNat * i.size)).toList).length = c.toNat * P.cellsOf e := by simp [size_madeCells, Program.cellsOf, hi]
  have := VR.sl (off := 0) (len := l.toNat) (cap := l.toNat) (cap' := c.toNat) x2 (by omega) (by omega) (fun _ => by simp only [hn])
  simpa [slc] using this

/-- An append whose row may lie where the block b did, or anew. -/
theorem fine_app_some (hr : HR P ι h lo B w) (hB : B ≤ w.heap.size) {t e : TypeId} (hu : P.underlying t = some (.slice e)) {i : TypeInfo} (hi : P.info? e = some i) {zc : List Value} (hz : zeroT P e = some zc) (hpos : 0 < i.size)
    {b n c : Nat} {p' q q' : Value} (hp : VR ι (.slice (some ⟨b, 0, none⟩) n c) p') (hq : VR ι q q') {xs ys : List Value} (hxs : rdS h i.size (.slice (some ⟨b, 0, none⟩) n c) = some xs) (hys : rdS h i.size q = some ys)
    {ad : Option Addr} {m cq : Nat} (hqs : q = .slice ad m cq) (hby : (n + m) * i.bytes ≤ 140737488355328) (hm : n + m ≤ maxLen)
    {bs : List Value} (hb : h[b]? = some (.cells e bs)) (hlo : lo ≤ b) (ty : TypeId) (he : e < setBase) :
    Fine P ι h lo B w (slc h.length 0 (n + m)) (h.set b .dead ++ [.cells e (xs ++ ys)]) ((do pure (.value (← Builtin.append_ #[t, t] ty #[p', q'])) : Sem Next).run P w) := by
  obtain ⟨i', zv, hi', hzv, rfl, hpl, h1c, hlz⟩ := zeroT_spec hz
  rw [hi] at hi'; cases hi'
  have hcz : P.cellsOf e = i.size := by simp [Program.cellsOf, hi]
  have hm63 : n + m ≤ 9223372036854775807 := by simp only [maxLen] at hm; omega
  rcases rdS_world hr hp hxs with ⟨hx, _⟩ | ⟨b1, o1, n1, c1, c', ya, g, e1, bs1, hx, rfl, hg, hb1, hnc, hcm, hoff, hxl, hxle, hxe, hxone, xs', hvx, hxl', hxcell⟩ | ⟨_, _, _, _, _, hx, _⟩
  · cases hx
  rotate_left
  · cases hx
  cases hx
  rw [hb] at hb1; cases hb1
  obtain ⟨oB, o0, oN, o1⟩ := hr.own b e bs g hlo hb hg
  have hgm : g.m = false := by
    cases hgm : g.m with
    | false => rfl
    | true =>
      obtain ⟨_, K, hK, _⟩ := hr.sets b e bs g hb hg hgm
      exact absurd (show setBase ≤ e from hK ▸ setT_ge K) (Nat.not_le.2 he)
  obtain ⟨cur, ocur, osz⟩ := o1 hgm
  have hgz := (hr.cell b e bs g hb hg).1 hgm
  -- the source's cells in the world
  obtain ⟨ys', hvy, hyl, hyone, hsrc⟩ : ∃ ys', VRs ι ys ys' ∧ ys.length = m * i.size ∧ (∀ v ∈ ys, one v = true) ∧
      ((q' = .slice none 0 0 ∧ m = 0) ∨ ∃ y c2, q' = .slice (some y) m c2 ∧ ∀ (j : Nat) (u : Value), ys'[j]? = some u → w.cell? (y.add j) = some u) := by
    rcases rdS_world hr hq hys with ⟨hx, rfl, rfl⟩ | ⟨b2, o2, n2, c2, c2', yb, g2, e2, bs2, hx, rfl, hg2, hb2, _, _, _, hyl, _, _, hyone, ys', hvy, hyl', hycell⟩ | ⟨_, _, _, _, xe, hx, rfl, rfl⟩
    · rw [hqs] at hx; cases hx; exact ⟨[], .nil, by simp, by simp, .inl ⟨rfl, rfl⟩⟩
    · rw [hqs] at hx; cases hx
      exact ⟨ys', hvy, by rw [hyl], hyone, .inr ⟨_, _, rfl, hycell⟩⟩
    · rw [hqs] at hx; cases hx
      exact ⟨[], .nil, by simp, by simp, .inr ⟨xe, 0, rfl, by simp⟩⟩
  have hxyone : ∀ v ∈ xs ++ ys, one v = true := by intro v hv; rcases List.mem_append.1 hv with x | x; exact hxone v x; exact hyone v x
  have hxy := hvx.append hvy
  have hxyl : (xs ++ ys).length = (n + m) * i.size := by rw [List.length_append, hxl, hyl, Nat.add_mul]
  have hxyl' : (xs' ++ ys').length = (n + m) * i.size := by rw [← hxy.length, hxyl]
  have hlive : ∀ (b' : Nat) (e : TypeId) (cs : List Value), (h.set b .dead)[b']? = some (.cells e cs) → h[b']? = some (.cells e cs) ∧ b' ≠ b := by
    intro b' e cs hx
    by_cases hbb : b' = b
    · subst hbb; rw [List.getElem?_set_self (hr.dom b' g hg).1] at hx; cases hx
    · rw [List.getElem?_set_ne (fun x => hbb x.symm)] at hx; exact ⟨hx, hbb⟩
  -- the new row in place of the old one
  have inPlace : ∀ (w' : World) (cur' : Array Value) (hoff0 : ya = ⟨g.c, 0, none⟩ ∧ c' * i.size = g.n), n + m ≤ c' → w'.heap[g.c]? = some (.cells cur' e (0, 0)) → cur'.size = g.n → cur'.toList.take ((n + m) * i.size) = xs' ++ ys' →
      (∀ k, k ≠ g.c → w'.heap[k]? = w.heap[k]?) → w'.heap.size = w.heap.size → w'.os = w.os → w'.tape = w.tape → w'.output = w.output →
      (Builtin.append_ #[t, t] ty #[.slice (some ya) n c', q']).run P w = .ok (.slice (some ⟨g.c, 0, none⟩) (n + m) c') w' →
      Fine P ι h lo B w (slc h.length 0 (n + m)) (h.set b .dead ++ [.cells e (xs ++ ys)]) ((do pure (.value (← Builtin.append_ #[t, t] ty #[.slice (some ya) n c', q'])) : Sem Next).run P w) := by
    intro w' cur' ⟨hoff0, hfull⟩ hroom hcur' hcsz htake hsame hsize hos htape hout hrun
    have hg' := hr.grow (w' := w') (h.set b .dead) g.c g.n e (xs ++ ys) cur' (by simp) (fun b' e cs hx => (hlive b' e cs hx).1) (by omega)
      (fun b' e' cs' g' hx hg' => ⟨fun x => (hr.apart b b' e bs e' cs' g g' (hlive _ _ _ hx).2.symm hlo hb (hlive _ _ _ hx).1 hg hg') x.symm,
        hsame _ (fun x => (hr.apart b b' e bs e' cs' g g' (hlive _ _ _ hx).2.symm hlo hb (hlive _ _ _ hx).1 hg hg') x.symm)⟩) hcur' hcsz oB
      (fun j v hv => by
        obtain ⟨v', hv', rv⟩ := hxy.get j v hv
        refine ⟨hxyone v (List.mem_of_getElem? hv), v', ?_, rv⟩
        have hj : j < (n + m) * i.size := by have := (List.getElem?_eq_some_iff.1 hv).1; rw [hxyl] at this; exact this
        rw [← htake, List.getElem?_take_of_lt hj] at hv'
        simpa using hv') (by rw [hxyl, ← hfull]; exact Nat.mul_le_mul_right _ hroom)
    refine ⟨_, w', _, .inl (by simp only [Sem.run_bind, hrun, Result.andThen_ok]; rfl), HR.ag_upd _ _ _, ?_, hg', ⟨hos, htape, hout, by omega, fun k hk => hsame k (by omega)⟩⟩
    have := VR.sl (ι := upd ι h.length ⟨g.c, 0, g.n, P.cellsOf e, false⟩) (b := h.length) (g := ⟨g.c, 0, g.n, P.cellsOf e, false⟩) (off := 0) (len := n + m) (cap := n + m) (cap' := c') (by simp [upd]) hroom hcm
      (fun _ => by simp only [hcz]; exact hfull)
    simpa [slc] using this
  -- a row anew
  have anew : ∀ (cur' : Array Value) (cap' : Nat), n + m ≤ cap' → cap' ≤ maxLen → cur'.size = cap' * i.size → cur'.toList.take ((n + m) * i.size) = xs' ++ ys' →
      (Builtin.append_ #[t, t] ty #[.slice (some ya) n c', q']).run P w = .ok (.slice (some ⟨w.heap.size, 0, none⟩) (n + m) cap') (w.drew.alloc (.cells cur' e)) →
      Fine P ι h lo B w (slc h.length 0 (n + m)) (h.set b .dead ++ [.cells e (xs ++ ys)]) ((do pure (.value (← Builtin.append_ #[t, t] ty #[.slice (some ya) n c', q'])) : Sem Next).run P w) := by
    intro cur' cap' hroom hcapm hcsz htake hrun
    have hg' := hr.grow (w' := w.drew.alloc (.cells cur' e)) (h.set b .dead) w.heap.size (cap' * i.size) e (xs ++ ys) cur' (by simp) (fun b' e cs hx => (hlive b' e cs hx).1) (by simp)
      (fun b' e' cs' g' hx hg' => by have := (hr.dom b' g' hg').2; exact ⟨by omega, Below.heap_alloc w.drew _ _ (by simpa using this)⟩) (heap_alloc_new w.drew _) hcsz hB
      (fun j v hv => by
        obtain ⟨v', hv', rv⟩ := hxy.get j v hv
        refine ⟨hxyone v (List.mem_of_getElem? hv), v', ?_, rv⟩
        have hj : j < (n + m) * i.size := by have := (List.getElem?_eq_some_iff.1 hv).1; rw [hxyl] at this; exact this
        rw [← htake, List.getElem?_take_of_lt hj] at hv'
        simpa using hv') (by rw [hxyl]; exact Nat.mul_le_mul_right _ hroom)
    refine ⟨_, _, _, .inl (by simp only [Sem.run_bind, hrun, Result.andThen_ok]; rfl), HR.ag_upd _ _ _, ?_, hg', (Below.refl B w).drew.alloc (by simpa using hB) _⟩
    have := VR.sl (ι := upd ι h.length ⟨w.heap.size, 0, cap' * i.size, P.cellsOf e, false⟩) (b := h.length) (g := ⟨w.heap.size, 0, cap' * i.size, P.cellsOf e, false⟩) (off := 0) (len := n + m) (cap := n + m) (cap' := cap') (by simp [upd]) hroom hcapm
      (fun _ => by simp only [hcz])
    simpa [slc] using this
  have holds : ∀ (j : Nat) (u : Value), xs'[j]? = some u → w.cell? (ya.add j) = some u := hxcell
  have hgrowcap := fun (hlt : c' < n + m) => And.intro (grownCap_ge w (n + m) c' e) (grownCap_le_maxLen w (n + m) c' e hm)
  have hys1 : ∀ u ∈ ys', u.oneCell' = true := by
    intro u hu
    obtain ⟨j, hj⟩ := List.getElem?_of_mem hu
    have hjl : j < ys.length := by rw [hvy.length]; exact (List.getElem?_eq_some_iff.1 hj).1
    obtain ⟨u', hu', r⟩ := hvy.get j ys[j] (by simp [hjl])
    rw [hj] at hu'; cases hu'
    rw [← one_eq, ← r.one]; exact hyone _ (by simp)
  have hyl' : ys'.length = m * i.size := by rw [← hvy.length, hyl]
  by_cases hroom : n + m ≤ c'
  · rcases hoff with ⟨hoffe, hfull⟩ | ⟨hn0, hc0⟩
    · -- in place: the row begins its block
      have hoff0 : ya = ⟨g.c, 0, none⟩ ∧ c' * i.size = g.n := by rw [o0] at hfull hoffe; exact ⟨by simpa using hoffe, by rw [← hcz, ← hgz]; exact hfull rfl⟩
      have hfit0 : (n + m) * i.size ≤ cur.size := by rw [osz, ← hoff0.2]; exact Nat.mul_le_mul_right _ hroom
      have hnfit : n * i.size ≤ (n + m) * i.size := Nat.mul_le_mul_right _ (Nat.le_add_right _ _)
      have hxtake : cur.toList.take (n * i.size) = xs' := by
        apply List.ext_getElem?
        intro j
        by_cases hj : j < n * i.size
        · obtain ⟨u, hu⟩ : ∃ u, xs'[j]? = some u := ⟨xs'[j]'(by rw [hxl']; exact hj), by simp [hxl', hj]⟩
          have h2 := hxcell j u hu
          rw [hoff0.1, Addr.add_lit, cell?_block ocur] at h2
          rw [List.getElem?_take_of_lt hj, hu]; simpa using h2
        · rw [List.getElem?_eq_none (by simp; omega), List.getElem?_eq_none (by omega)]
      rcases hsrc with ⟨rfl, hm0⟩ | ⟨y, c2, rfl, hycell⟩
      · have hy0 : ys' = [] := List.eq_nil_of_length_eq_zero (by rw [hyl', hm0]; simp)
        refine inPlace w cur hoff0 hroom ocur osz (by rw [hm0, hy0]; simpa using hxtake) (fun _ _ => rfl) rfl rfl rfl rfl ?_
        have hnc' : n ≤ c' := hnc
        simp [Builtin.append_, run_underlying hu, sizeOf, typeInfo, hi, Builtin.lenOf, Builtin.firstCells, hm0, hnc', storeCells, hoff0.1]
      · have hrun := run_append_room (P := P) w t ty e i hu hi g.c n c' cur ocur y m c2 ys' hyl' hycell hys1 hroom (by rw [hyl', ← Nat.add_mul]; exact hfit0)
        have hlt : g.c < w.heap.size := (hr.dom b g hg).2
        refine inPlace _ _ hoff0 hroom (setRow_heap w g.c cur _ e _ ocur) ?_ ?_ (fun k hk => setRow_other w g.c k _ hk) (by simp) rfl rfl rfl (by rw [hoff0.1]; exact hrun)
        · simp; rw [hyl']; rw [Nat.add_mul] at hfit0; omega
        · rw [hxtake, List.append_assoc]
          simp only []
          rw [← List.append_assoc, ← hxyl']
          exact List.take_left
    · -- a slice of no length and no room
      subst hn0; subst hc0
      have hm0 : m = 0 := by omega
      subst hm0
      have hx0 : xs = [] := List.eq_nil_of_length_eq_zero (by rw [hxl]; simp)
      have hy0 : ys = [] := List.eq_nil_of_length_eq_zero (by rw [hyl]; simp)
      subst hx0; subst hy0
      have hg' := hr.grow (w' := w) (h.set b .dead) g.c g.n e [] cur (by simp) (fun b' e cs hx => (hlive b' e cs hx).1) (by omega)
        (fun b' e' cs' g' hx hg' => ⟨fun x => (hr.apart b b' e bs e' cs' g g' (hlive _ _ _ hx).2.symm hlo hb (hlive _ _ _ hx).1 hg hg') x.symm, rfl⟩) ocur osz oB (by simp) (by simp)
      refine ⟨.slice (some ya) 0 0, w, _, .inl ?_, HR.ag_upd _ _ _, ?_, by simpa using hg', Below.refl _ _⟩
      · rcases hsrc with ⟨rfl, _⟩ | ⟨y, c2, rfl, _⟩
        · simp [Builtin.append_, run_underlying hu, sizeOf, typeInfo, hi, Builtin.lenOf, Builtin.firstCells, storeCells]
        · simp [Builtin.append_, run_underlying hu, sizeOf, typeInfo, hi, Builtin.lenOf, Builtin.firstCells, storeCells, loadCells, loadCellsFrom]
      · have := VR.sl0 (ι := upd ι h.length ⟨g.c, 0, g.n, P.cellsOf e, false⟩) (b := h.length) (g := ⟨g.c, 0, g.n, P.cellsOf e, false⟩) (off := 0) (cap := 0) ya (by simp [upd])
        simpa [slc] using this
  · have hlt : c' < n + m := by omega
    obtain ⟨hge, hle⟩ := hgrowcap hlt
    rcases hsrc with ⟨rfl, hm0⟩ | ⟨y, c2, rfl, hycell⟩
    · omega
    · have hrun := run_append_grow (P := P) w t ty e i zv hu hi hzv ya n c' xs' hxl' holds y m c2 ys' hyl' hycell hlt (by omega) (growslice_fits hlt hby)
      refine anew _ _ hge hle ?_ ?_ hrun
      · simp only [Array.size_append, List.size_toArray, size_zeroCells, hxl', hyl', ← Nat.add_mul]
        have : zv.cells.size = i.size := by rw [← hlz]; rfl
        rw [this, ← Nat.add_mul]; congr 1; omega
      · simp only [Array.toList_append, List.append_assoc]
        rw [← List.append_assoc, ← hxyl']
        exact List.take_left

theorem fine_app_nil (hr : HR P ι h lo B w) (hB : B ≤ w.heap.size) {t e : TypeId} (hu : P.underlying t = some (.slice e)) {i : TypeInfo} (hi : P.info? e = some i) {zc : List Value} (hz : zeroT P e = some zc)
    {p' q q' : Value} (hp : VR ι (.slice none 0 0) p') (hq : VR ι q q') {ys : List Value} (hys : rdS h i.size q = some ys)
    {ad : Option Addr} {m cq : Nat} (hqs : q = .slice ad m cq) (hby : m * i.bytes ≤ 140737488355328) (hm : m ≤ maxLen) (ty : TypeId) :
    Fine P ι h lo B w (if m = 0 then .slice none 0 0 else slc h.length 0 m) (if m = 0 then h else h ++ [.cells e ys]) ((do pure (.value (← Builtin.append_ #[t, t] ty #[p', q'])) : Sem Next).run P w) := by
  obtain ⟨i', zv, hi', hzv, rfl, hpl, h1c, hlz⟩ := zeroT_spec hz
  rw [hi] at hi'; cases hi'
  have hcz : P.cellsOf e = i.size := by simp [Program.cellsOf, hi]
  cases hp
  by_cases hm0 : m = 0
  · subst hm0
    simp only [if_true]
    refine ⟨.slice none 0 0, w, ι, .inl ?_, Ag.refl _ _, .nils, hr, Below.refl _ _⟩
    subst hqs
    cases hq <;> simp [Builtin.append_, run_underlying hu, sizeOf, typeInfo, hi, Builtin.lenOf, Builtin.firstCells, loadCells, loadCellsFrom]
  · simp only [hm0, if_false]
    rcases rdS_world hr hq hys with ⟨hx, rfl, rfl⟩ | ⟨b2, o2, n2, c2, c2', yb, g2, e2, bs2, hx, rfl, hg2, hb2, _, _, _, hyl, _, _, hyone, ys', hvy, hyl', hycell⟩ | ⟨_, _, _, _, xe, hx, rfl, rfl⟩
    · rw [hqs] at hx; cases hx; exact absurd rfl hm0
    rotate_left
    · rw [hqs] at hx; cases hx; exact absurd rfl hm0
    · rw [hqs] at hx; cases hx
      have hrun := run_append_nil (P := P) w t ty e i zv hu hi hzv yb m c2' ys' hyl' hycell (by omega) (by simp only [maxLen] at hm; omega) (by omega)
      have hge : m ≤ grownCap w m 0 e := grownCap_ge w m 0 e
      have hle := grownCap_le_maxLen w m 0 e hm
      have hzs : zv.cells.size = i.size := by rw [← hlz]; rfl
      have hcsz : (ys'.toArray ++ Builtin.zeroCells zv.cells (grownCap w m 0 e - m)).size = grownCap w m 0 e * i.size := by
        simp only [Array.size_append, List.size_toArray, size_zeroCells, hyl', hzs, ← Nat.add_mul]; congr 1; omega
      have hg' := hr.grow (w' := w.drew.alloc (.cells (ys'.toArray ++ Builtin.zeroCells zv.cells (grownCap w m 0 e - m)) e)) h w.heap.size _ e ys _ rfl (fun _ _ _ x => x) (by simp)
        (fun b' e' cs' g' hx hg' => by have := (hr.dom b' g' hg').2; exact ⟨by omega, Below.heap_alloc w.drew _ _ (by simpa using this)⟩) (heap_alloc_new w.drew _) hcsz hB
        (fun j v hv => by
          obtain ⟨v', hv', rv⟩ := hvy.get j v hv
          refine ⟨hyone v (List.mem_of_getElem? hv), v', ?_, rv⟩
          have hj : j < ys'.length := by rw [← hvy.length]; exact (List.getElem?_eq_some_iff.1 hv).1
          rw [Array.getElem?_append_left (by simpa using hj)]; simpa using hv') (by rw [hyl]; exact Nat.mul_le_mul_right _ hge)
      refine ⟨_, _, _, .inl (by simp only [Sem.run_bind, hrun, Result.andThen_ok]; rfl), HR.ag_upd _ _ _, ?_, hg', (Below.refl B w).drew.alloc (by simpa using hB) _⟩
      have := VR.sl (ι := upd ι h.length ⟨w.heap.size, 0, grownCap w m 0 e * i.size, P.cellsOf e, false⟩) (b := h.length) (g := ⟨w.heap.size, 0, grownCap w m 0 e * i.size, P.cellsOf e, false⟩) (off := 0) (len := m) (cap := m) (cap' := grownCap w m 0 e) 
        (by simp [upd]) hge hle (fun _ => by simp only [hcz])
      simpa [slc] using this

theorem run_apz (w : World) (t tn ty e : TypeId) (i : TypeInfo) (z : Value) (k kn : IntKind) (ht : P.underlying t = some (.slice e)) (htn : P.underlying tn = some (.int kn)) (hi : P.info? e = some i) (hz : i.zero = some z)
    (base : Option Addr) (n : Nat) (h0 : 0 < n) (hs : 0 < i.size) (h63 : (n : Int) ≤ 9223372036854775807) (h48 : n * i.bytes ≤ 281474976710656) :
    (Builtin.append_ #[t, tn] ty #[.slice base 0 0, .int k n]).run P w =
      .ok (.slice (some ⟨w.heap.size, 0, none⟩) n (grownCap w n 0 e)) (w.drew.alloc (.cells (Builtin.zeroCells z.cells n ++ Builtin.zeroCells z.cells (grownCap w n 0 e - n)) e)) := by
  have hn : n ≠ 0 := by omega
  have hw : IntKind.i64.wrap (n : Int) = n := by rw [IntKind.wrap_i64]; omega
  have h63' : ¬ (9223372036854775807 < (n : Int)) := by omega
  have h48' : ¬ (281474976710656 < Builtin.nextslicecap n 0 * i.bytes) := by rw [nextslicecap_zero h0]; omega
  have h48i : ¬ (281474976710656 < (n : Int) * (i.bytes : Int)) := by rw [← Int.natCast_mul]; omega
  have hneg : ¬ ((n : Int) < 0) := by omega
  have hns : ¬ (n * i.size = 0) := Nat.mul_ne_zero hn (by omega)
  cases base <;> simp [Builtin.append_, run_underlying ht, run_underlying htn, sizeOf, typeInfo, zeroValue, hi, hz, asInt, asIntOf, hw, hn, hneg, hns, h63', h48', h48i, Question.forced, run_firstCells_none, Builtin.firstCells, loadCells, loadCellsFrom, newRow, grownCap]

theorem fine_apz (hr : HR P ι h lo B w) (hB : B ≤ w.heap.size) {t tn e : TypeId} (hu : P.underlying t = some (.slice e)) {kn : IntKind} (hun : P.underlying tn = some (.int kn)) {i : TypeInfo} (hi : P.info? e = some i) {zc : List Value} (hz : zeroT P e = some zc) (hpos : 0 < i.size)
    {p p' q q' : Value} (hp : VR ι p p') (hq : VR ι q q') (hno : noRoom p = true) {n : Int} (hn : getI q = some n) (h0 : 0 < n) (hby : n * i.bytes ≤ 140737488355328) (hm : n ≤ maxLen) (ty : TypeId) :
    Fine P ι h lo B w (slc h.length 0 n.toNat) (h ++ [.cells e (List.replicate n.toNat zc).flatten]) ((do pure (.value (← Builtin.append_ #[t, tn] ty #[p', q'])) : Sem Next).run P w) := by
  obtain ⟨i', zv, hi', hzv, rfl, hpl, h1c, hlz⟩ := zeroT_spec hz
  rw [hi] at hi'; cases hi'
  obtain ⟨k, rfl⟩ := hq.getI hn
  obtain ⟨m, rfl⟩ := Int.eq_ofNat_of_zero_le (Int.le_of_lt h0)
  have hcz : P.cellsOf e = i.size := by simp [Program.cellsOf, hi]
  have hbase : ∃ base, p' = .slice base 0 0 := by
    unfold noRoom at hno
    split at hno
    · cases hp; exact ⟨_, rfl⟩
    · cases hp; exact ⟨_, rfl⟩
    · cases hno
  obtain ⟨base, rfl⟩ := hbase
  have hb2 : m * i.bytes ≤ 140737488355328 := by rw [← Int.natCast_mul] at hby; omega
  have hm2 : m ≤ maxLen := by omega
  have hrun := run_apz (P := P) w t tn ty e i zv k kn hu hun hi hzv base m (by omega) hpos (by simp only [maxLen] at hm; omega) (by omega)
  have hge : m ≤ grownCap w m 0 e := grownCap_ge w m 0 e
  have hle := grownCap_le_maxLen w m 0 e hm2
  have hzs : zv.cells.size = i.size := by rw [← hlz]; rfl
  rw [Int.toNat_natCast]
  have hrel : VRs ι (List.replicate m (cellsL zv)).flatten (Builtin.zeroCells zv.cells m).toList := by
    refine VRs.of_get ?_ ?_
    · rw [flat_len, hlz]; simp [size_zeroCells, hzs]
    · intro j x x' hx hx'
      have hj : j < m * i.size := by
        have := (List.getElem?_eq_some_iff.1 hx).1; rw [flat_len, hlz] at this; exact this
      rw [flat_rep _ _ _ (by rw [hlz]; exact hj)] at hx
      have hx2 : x' = x := by
        simp [Builtin.zeroCells, hzs, hj] at hx'
        have hlt : j % i.size < zv.cells.size := by rw [hzs]; exact Nat.mod_lt _ (by omega)
        rw [getElem!_pos zv.cells _ hlt] at hx'
        have hx3 : zv.cells[j % i.size]? = some x := by
          rw [show (cellsL zv).length = i.size by rw [hlz]] at hx
          simpa [cellsL] using hx
        rw [Array.getElem?_eq_getElem hlt] at hx3
        cases hx3; exact hx'.symm
      subst hx2
      exact VR.plain ((List.all_eq_true.1 hpl) _ (List.mem_of_getElem? hx))
  have hones : ∀ u ∈ (List.replicate m (cellsL zv)).flatten, one u = true := by
    intro u hu
    simp only [List.mem_flatten, List.mem_replicate] at hu
    obtain ⟨x, ⟨_, rfl⟩, hx⟩ := hu
    exact plain_ones h1c u hx
  have hcsz : (Builtin.zeroCells zv.cells m ++ Builtin.zeroCells zv.cells (grownCap w m 0 e - m)).size = grownCap w m 0 e * i.size := by
    simp only [Array.size_append, size_zeroCells, hzs, ← Nat.add_mul]; congr 1; omega
  have hg' := hr.grow (w' := w.drew.alloc (.cells (Builtin.zeroCells zv.cells m ++ Builtin.zeroCells zv.cells (grownCap w m 0 e - m)) e)) h w.heap.size _ e (List.replicate m (cellsL zv)).flatten _ rfl (fun _ _ _ x => x) (by simp)
    (fun b' e' cs' g' hx hg' => by have := (hr.dom b' g' hg').2; exact ⟨by omega, Below.heap_alloc w.drew _ _ (by simpa using this)⟩) (heap_alloc_new w.drew _) hcsz hB
    (fun j v hv => by
      obtain ⟨v', hv', rv⟩ := hrel.get j v hv
      refine ⟨hones v (List.mem_of_getElem? hv), v', ?_, rv⟩
      have hj : j < (Builtin.zeroCells zv.cells m).size := by
        have := (List.getElem?_eq_some_iff.1 hv').1; simpa using this
      rw [Array.getElem?_append_left hj]; simpa using hv') (by rw [flat_len, hlz]; exact Nat.mul_le_mul_right _ hge)
  refine ⟨_, _, _, .inl (by simp only [Sem.run_bind]; erw [hrun]; simp only [Result.andThen_ok]; rfl), HR.ag_upd _ _ _, ?_, hg', (Below.refl B w).drew.alloc (by simpa using hB) _⟩
  have := VR.sl (ι := upd ι h.length ⟨w.heap.size, 0, grownCap w m 0 e * i.size, P.cellsOf e, false⟩) (b := h.length) (g := ⟨w.heap.size, 0, grownCap w m 0 e * i.size, P.cellsOf e, false⟩) (off := 0) (len := m) (cap := m) (cap' := grownCap w m 0 e)
    (by simp [upd]) hge hle (fun _ => by simp only [hcz])
  simpa [slc] using this

theorem fine_app_emp (hr : HR P ι h lo B w) (hB : B ≤ w.heap.size) {t e : TypeId} (hu : P.underlying t = some (.slice e)) {i : TypeInfo} (hi : P.info? e = some i) {zc : List Value} (hz : zeroT P e = some zc)
    {b o s n c : Nat} {p' q q' : Value} (hp : VR ι (.slice (some ⟨b, o, some s⟩) n c) p') (hq : VR ι q q') {ys : List Value} (hys : rdS h i.size q = some ys)
    {ad : Option Addr} {m cq : Nat} (hqs : q = .slice ad m cq) (hby : m * i.bytes ≤ 140737488355328) (hm : m ≤ maxLen) (ty : TypeId) :
    Fine P ι h lo B w (if m = 0 then .slice (some ⟨b, o, some s⟩) n c else slc h.length 0 m) (if m = 0 then h else h ++ [.cells e ys]) ((do pure (.value (← Builtin.append_ #[t, t] ty #[p', q'])) : Sem Next).run P w) := by
  obtain ⟨i', zv, hi', hzv, rfl, hpl, h1c, hlz⟩ := zeroT_spec hz
  rw [hi] at hi'; cases hi'
  have hcz : P.cellsOf e = i.size := by simp [Program.cellsOf, hi]
  cases hp with | emp xx =>
  by_cases hm0 : m = 0
  · subst hm0
    simp only [if_true]
    refine ⟨.slice (some xx) 0 0, w, ι, .inl ?_, Ag.refl _ _, .emp xx, hr, Below.refl _ _⟩
    subst hqs
    cases hq <;> simp [Builtin.append_, run_underlying hu, sizeOf, typeInfo, hi, Builtin.lenOf, Builtin.firstCells, storeCells, loadCells, loadCellsFrom]
  · simp only [hm0, if_false]
    rcases rdS_world hr hq hys with ⟨hx, rfl, rfl⟩ | ⟨b2, o2, n2, c2, c2', yb, g2, e2, bs2, hx, rfl, hg2, hb2, _, _, _, hyl, _, _, hyone, ys', hvy, hyl', hycell⟩ | ⟨_, _, _, _, xe, hx, rfl, rfl⟩
    · rw [hqs] at hx; cases hx; exact absurd rfl hm0
    rotate_left
    · rw [hqs] at hx; cases hx; exact absurd rfl hm0
    · rw [hqs] at hx; cases hx
      have hrun := run_append_grow (P := P) w t ty e i zv hu hi hzv xx 0 0 [] (by simp) (fun j u hj => by simp at hj) yb m c2' ys' hyl' hycell (by omega) (by simp only [maxLen] at hm; omega) (growslice_fits (by omega) (by simpa using hby))
      rw [show ([] : List Value).toArray ++ ys'.toArray = ys'.toArray by simp] at hrun
      simp only [Nat.zero_add] at hrun
      have hge : m ≤ grownCap w m 0 e := grownCap_ge w m 0 e
      have hle := grownCap_le_maxLen w m 0 e hm
      have hzs : zv.cells.size = i.size := by rw [← hlz]; rfl
      have hcsz : (ys'.toArray ++ Builtin.zeroCells zv.cells (grownCap w m 0 e - m)).size = grownCap w m 0 e * i.size := by
        simp only [Array.size_append, List.size_toArray, size_zeroCells, hyl', hzs, ← Nat.add_mul]; congr 1; omega
      have hg' := hr.grow (w' := w.drew.alloc (.cells (ys'.toArray ++ Builtin.zeroCells zv.cells (grownCap w m 0 e - m)) e)) h w.heap.size _ e ys _ rfl (fun _ _ _ x => x) (by simp)
        (fun b' e' cs' g' hx hg' => by have := (hr.dom b' g' hg').2; exact ⟨by omega, Below.heap_alloc w.drew _ _ (by simpa using this)⟩) (heap_alloc_new w.drew _) hcsz hB
        (fun j v hv => by
          obtain ⟨v', hv', rv⟩ := hvy.get j v hv
          refine ⟨hyone v (List.mem_of_getElem? hv), v', ?_, rv⟩
          have hj : j < ys'.length := by rw [← hvy.length]; exact (List.getElem?_eq_some_iff.1 hv).1
          rw [Array.getElem?_append_left (by simpa using hj)]; simpa using hv') (by rw [hyl]; exact Nat.mul_le_mul_right _ hge)
      refine ⟨_, _, _, .inl (by simp only [Sem.run_bind, hrun, Result.andThen_ok]; rfl), HR.ag_upd _ _ _, ?_, hg', (Below.refl B w).drew.alloc (by simpa using hB) _⟩
      have := VR.sl (ι := upd ι h.length ⟨w.heap.size, 0, grownCap w m 0 e * i.size, P.cellsOf e, false⟩) (b := h.length) (g := ⟨w.heap.size, 0, grownCap w m 0 e * i.size, P.cellsOf e, false⟩) (off := 0) (len := m) (cap := m) (cap' := grownCap w m 0 e) 
        (by simp [upd]) hge hle (fun _ => by simp only [hcz])
      simpa [slc] using this

end
end Go.AH
namespace Go.AH
open Go.RowKit (Below)
section
variable {P : Program} {N : Nat} {ι : Inj} {h h' : Heap} {lo B : Nat} {w : World} {σ : Nat → Value} {a : Act} {v : Value}

theorem eqCs_len : ∀ {ks : List EK} {xs ys : List Value} {b : Bool}, eqCs ks xs ys = some b → xs.length = ks.length ∧ ys.length = ks.length
  | [], [], [], _, _ => ⟨rfl, rfl⟩
  | k :: ks, x :: xs, y :: ys, b, h => by
    simp only [eqCs] at h
    obtain ⟨_, _, h⟩ := Option.bind_eq_some_iff.1 h
    obtain ⟨_, h2, _⟩ := Option.map_eq_some_iff.1 h
    obtain ⟨h3, h4⟩ := eqCs_len h2
    simp [h3, h4]
  | [], [], _ :: _, _, h => by simp [eqCs] at h
  | [], _ :: _, _, _, h => by simp [eqCs] at h
  | _ :: _, [], _, _, h => by simp [eqCs] at h
  | _ :: _, _ :: _, [], _, h => by simp [eqCs] at h
theorem eqCs_append : ∀ {ks ls : List EK} {xs ys : List Value} {b : Bool}, eqCs (ks ++ ls) xs ys = some b → ∃ b1 b2, eqCs ks (xs.take ks.length) (ys.take ks.length) = some b1 ∧ eqCs ls (xs.drop ks.length) (ys.drop ks.length) = some b2 ∧ b = (b1 && b2)
  | [], ls, xs, ys, b, h => ⟨true, b, by simp [eqCs], by simpa using h, by simp⟩
  | k :: ks, ls, xs, ys, b, h => by
    cases xs with
    | nil => simp [eqCs] at h
    | cons x xs =>
      cases ys with
      | nil => simp [eqCs] at h
      | cons y ys =>
        simp only [List.cons_append, eqCs] at h
        obtain ⟨c, hc, h⟩ := Option.bind_eq_some_iff.1 h
        obtain ⟨d, hd, rfl⟩ := Option.map_eq_some_iff.1 h
        obtain ⟨b1, b2, h1, h2, rfl⟩ := eqCs_append hd
        exact ⟨c && b1, b2, by simp [eqCs, hc, h1], by simpa using h2, by rw [Bool.and_assoc]⟩
theorem eqC_i {x y : Value} {c : Bool} (h : eqC .i x y = some c) : ∃ k a b, x = .int k a ∧ y = .int k b ∧ c = (a == b) := by
  cases x <;> cases y <;> simp only [eqC] at h <;> first | (cases h; done) | skip
  split at h
  · rename_i hk; subst hk; cases h; exact ⟨_, _, _, rfl, rfl, rfl⟩
  · cases h
theorem eqC_b {x y : Value} {c : Bool} (h : eqC .b x y = some c) : ∃ a b, x = .bool a ∧ y = .bool b ∧ c = (a == b) := by
  cases x <;> cases y <;> simp only [eqC] at h <;> first | (cases h; done) | skip
  cases h; exact ⟨_, _, rfl, rfl, rfl⟩
theorem eqC_s {x y : Value} {c : Bool} (h : eqC .s x y = some c) : ∃ a b, x = .string a ∧ y = .string b ∧ c = (a.toList == b.toList) := by
  cases x <;> cases y <;> simp only [eqC] at h <;> first | (cases h; done) | skip
  cases h; exact ⟨_, _, rfl, rfl, rfl⟩
theorem eqC_plain {k : EK} {x y : Value} {b : Bool} (h : eqC k x y = some b) : plainV x = true ∧ plainV y = true := by
  unfold eqC at h; split at h <;> first | exact ⟨rfl, rfl⟩ | cases h
theorem eqCs_plain : ∀ {ks : List EK} {xs ys : List Value} {b : Bool}, eqCs ks xs ys = some b → xs.all plainV = true ∧ ys.all plainV = true
  | [], [], [], _, _ => ⟨rfl, rfl⟩
  | k :: ks, x :: xs, y :: ys, b, h => by
    simp only [eqCs] at h
    obtain ⟨_, h1, h⟩ := Option.bind_eq_some_iff.1 h
    obtain ⟨_, h2, _⟩ := Option.map_eq_some_iff.1 h
    obtain ⟨h3, h4⟩ := eqCs_plain h2
    obtain ⟨h5, h6⟩ := eqC_plain h1
    simp [h3, h4, h5, h6]
  | [], [], _ :: _, _, h => by simp [eqCs] at h
  | [], _ :: _, _, _, h => by simp [eqCs] at h
  | _ :: _, [], _, _, h => by simp [eqCs] at h
  | _ :: _, _ :: _, [], _, h => by simp [eqCs] at h
theorem same_plain {ι : Inj} : ∀ {l l' : List Value}, l.all plainV = true → VRs ι l l' → l' = l
  | [], _, _, h => by cases h; rfl
  | x :: l, _, k, h => by
    simp only [List.all_cons, Bool.and_eq_true] at k
    cases h with
    | cons a b =>
      rw [same_plain k.2 b]
      congr 1
      have := k.1
      cases a <;> first | rfl | (simp [plainV] at this; done) | skip
      rename_i p q
      rename_i fn as as' bs bs' _
      all_goals
        cases as <;> cases bs <;> first | (simp [plainV] at this; done) | skip
      cases p; cases q; rfl

def packV (P : Program) (t : TypeId) (cs : List Value) (x : Value) : Prop := if aggT P t = true then x = .agg ⟨cs⟩ else cs = [x]

theorem part_run {t : TypeId} (hk : known P t = true) {xs : List Value} {o : Nat} (hle : o + P.cellsOf t ≤ xs.length) (h1 : aggT P t = false → P.cellsOf t = 1) (w : World) :
    ∃ x, (part t ⟨xs⟩ o).run P w = .ok x w ∧ packV P t ((xs.drop o).take (P.cellsOf t)) x := by
  have hki : (P.info? t).isSome = true := by simp only [known, Bool.and_eq_true] at hk; exact hk.1
  by_cases hagg : aggT P t = true
  · exact ⟨.agg ⟨(xs.drop o).take (P.cellsOf t)⟩, by simp [part, aggT_run hk, hagg, sizeOf_run hki], by simp [packV, hagg]⟩
  · have hagg' : aggT P t = false := by simpa using hagg
    have hc := h1 hagg'
    have hlt : o < xs.length := by omega
    refine ⟨xs[o], by simp [part, aggT_run hk, hagg', hlt], ?_⟩
    simp only [packV, hagg', hc, Bool.false_eq_true, if_false]
    rw [List.drop_eq_getElem_cons hlt, List.take_succ_cons, List.take_zero]

theorem eqSh_base {d : Nat} {t : TypeId} {ks : List EK} (h : eqSh P (d + 1) t = some ks) : known P t = true ∧ (aggT P t = false → P.cellsOf t = 1) := by
  simp only [eqSh] at h
  split at h
  · rename_i hk
    refine ⟨hk, fun ha => ?_⟩
    split at h <;> (try split at h) <;> first | (cases h; done) | assumption | (simp_all [aggT]; done)
  · cases h
theorem eqSh_len : ∀ (d : Nat) (t : TypeId) (ks : List EK), eqSh P d t = some ks → ks.length = P.cellsOf t
  | 0, _, _, h => by cases h
  | d + 1, t, ks, h => by
    simp only [eqSh] at h
    split at h
    · split at h
      · split at h <;> cases h; simp_all
      · split at h <;> cases h; simp_all
      · split at h <;> cases h; simp_all
      · rename_i fs hu
        split at h
        · rename_i hc
          have key : ∀ (l : List Field) (o n : Nat) (ks : List EK), offsOk P n o l = true → eqShs (fun t => eqSh P d t) l = some ks → o + ks.length = n := by
            intro l
            induction l with
            | nil => intro o n ks h0 h1; simp only [eqShs] at h1; cases h1; simpa [offsOk] using h0
            | cons f l ih =>
              intro o n ks h0 h1
              simp only [offsOk, Bool.and_eq_true, beq_iff_eq] at h0
              simp only [eqShs] at h1
              obtain ⟨k1, e1, h1⟩ := Option.bind_eq_some_iff.1 h1
              obtain ⟨k2, e2, rfl⟩ := Option.map_eq_some_iff.1 h1
              have := ih _ _ _ h0.2 e2
              have := eqSh_len d f.type k1 e1
              simp; omega
          have := key fs.toList 0 _ ks hc.2.1 h
          omega
        · cases h
      · cases h
    · cases h
theorem equal_flat : ∀ (d D : Nat) (t : TypeId) (ks : List EK) (xs ys : List Value) (x y : Value) (b : Bool) (w : World), eqSh P d t = some ks → d ≤ D → packV P t xs x → packV P t ys y → xs.length = P.cellsOf t → eqCs ks xs ys = some b →
    (Op.equalIn D t x y).run P w = .ok b w
  | 0, _, _, _, _, _, _, _, _, _, h, _, _, _, _, _ => by cases h
  | d + 1, 0, _, _, _, _, _, _, _, _, _, h, _, _, _, _ => by omega
  | d + 1, D + 1, t, ks, xs, ys, x, y, b, w, hs, hD, hx, hy, hl, he => by
    simp only [eqSh] at hs
    split at hs
    · rename_i hk
      split at hs
      · rename_i k hu
        split at hs
        · cases hs
          have hagg : aggT P t = false := by simp [aggT, hu]
          simp only [packV, hagg] at hx hy
          simp at hx hy; subst hx; subst hy
          simp only [eqCs] at he
          obtain ⟨c, hc, he⟩ := Option.bind_eq_some_iff.1 he
          simp at he; subst he
          obtain ⟨k', a, a', rfl, rfl, rfl⟩ := eqC_i hc
          exact run_equalIn_int w D t _ _ _ _ hu
        · cases hs
      · rename_i hu
        split at hs
        · cases hs
          have hagg : aggT P t = false := by simp [aggT, hu]
          simp only [packV, hagg] at hx hy
          simp at hx hy; subst hx; subst hy
          simp only [eqCs] at he
          obtain ⟨c, hc, he⟩ := Option.bind_eq_some_iff.1 he
          simp at he; subst he
          obtain ⟨a, a', rfl, rfl, rfl⟩ := eqC_b hc
          exact run_equalIn_bool' w D t _ _ hu
        · cases hs
      · rename_i hu
        split at hs
        · cases hs
          have hagg : aggT P t = false := by simp [aggT, hu]
          simp only [packV, hagg] at hx hy
          simp at hx hy; subst hx; subst hy
          simp only [eqCs] at he
          obtain ⟨c, hc, he⟩ := Option.bind_eq_some_iff.1 he
          simp at he; subst he
          obtain ⟨a, a', rfl, rfl, rfl⟩ := eqC_s hc
          exact run_equalIn_string w D t _ _ hu
        · cases hs
      · rename_i fs hu
        split at hs
        · rename_i hcond
          obtain ⟨hst, hof, hnm⟩ := hcond
          have hagg : aggT P t = true := by simp [aggT, hu]
          simp only [packV, hagg, if_true] at hx hy
          subst hx; subst hy
          have hff : P.fieldsOf t = fs := by simp [Program.fieldsOf, hu]
          rw [run_equalIn_struct w D t ⟨xs⟩ ⟨ys⟩ (by rw [hff]; exact hu) hst, hff]
          have hlen := eqCs_len he
          have key : ∀ (l : List Field) (o : Nat) (ks : List EK) (b : Bool), offsOk P (P.cellsOf t) o l = true → l.all (fun f => f.name != "_") = true → eqShs (fun t => eqSh P d t) l = some ks → eqCs ks (xs.drop o) (ys.drop o) = some b → o + ks.length = xs.length →
              (Op.eqFields D ⟨xs⟩ ⟨ys⟩ l).run P w = .ok b w := by
            intro l
            induction l with
            | nil =>
              intro o ks b _ _ h1 h2 _
              simp only [eqShs] at h1; cases h1
              have := eqCs_len h2
              have e1 : xs.drop o = [] := List.eq_nil_of_length_eq_zero this.1
              have e2 : ys.drop o = [] := List.eq_nil_of_length_eq_zero this.2
              rw [e1, e2] at h2
              simp only [eqCs] at h2; cases h2
              simp [Op.eqFields]
            | cons f l ih =>
              intro o ks b h0 hn h1 h2 h3
              simp only [offsOk, Bool.and_eq_true, beq_iff_eq] at h0
              simp only [List.all_cons, Bool.and_eq_true] at hn
              simp only [eqShs] at h1
              obtain ⟨k1, e1, h1⟩ := Option.bind_eq_some_iff.1 h1
              obtain ⟨k2, e2, rfl⟩ := Option.map_eq_some_iff.1 h1
              obtain ⟨b1, b2, g1, g2, rfl⟩ := eqCs_append h2
              obtain ⟨hfo, h0⟩ := h0
              have hd : ∃ d', d = d' + 1 := by cases d with | zero => cases e1 | succ d' => exact ⟨d', rfl⟩
              obtain ⟨d', rfl⟩ := hd
              obtain ⟨hkf, hc1⟩ := eqSh_base e1
              -- as many cells as the shape tells
              have hkl : k1.length = P.cellsOf f.type := eqSh_len (d' + 1) f.type k1 e1
              have hle : o + P.cellsOf f.type ≤ xs.length := by simp only [List.length_append] at h3; omega
              have hle' : o + P.cellsOf f.type ≤ ys.length := by
                have := eqCs_len g1
                simp only [List.length_take, List.length_drop] at this; omega
              obtain ⟨px, rx, qx⟩ := part_run hkf hle hc1 w
              obtain ⟨py, ry, qy⟩ := part_run hkf hle' hc1 w
              rw [hkl] at g1
              have hrun := equal_flat (d' + 1) D f.type k1 _ _ px py b1 w e1 (by omega) qx qy (by simp; omega) g1
              have hne : f.name ≠ "_" := by simpa using hn.1
              simp only [Op.eqFields, if_pos hne, hfo, Sem.run_bind, rx, ry, Result.andThen_ok, hrun]
              cases b1 with
              | false => simp
              | true =>
                simp only [Bool.not_true, Bool.false_eq_true, if_false, Bool.true_and]
                refine ih (o + P.cellsOf f.type) k2 b2 h0 hn.2 e2 ?_ (by simp only [List.length_append] at h3; omega)
                rw [List.drop_drop, List.drop_drop, hkl] at g2
                exact g2
          refine key fs.toList 0 ks b hof hnm hs (by simpa using he) (by omega)
        · cases hs
      · cases hs
    · cases hs
theorem fine_eqS (hr : HR P ι h lo B w) {op : BinOp} {neg : Bool} (hop : op = if neg then .neq else .eql) {t : TypeId} (ha : aggT P t = true) (hg : P.eqGuardType P.depth t = false) {ks : List EK} (hs : eqSh P 6 t = some ks) {x y : Operand} {p p' q q' : Value} (hp : VR ι p p') (hq : VR ι q q')
    {xs ys : Array Value} (ex : p = .agg xs) (ey : q = .agg ys) {b : Bool} (hb : eqCs ks xs.toList ys.toList = some b) :
    Fine P ι h lo B w (.bool (if neg then !b else b)) h ((do pure (.value (← (do eqGuard op t x y p' q'; binOp op t p' q'))) : Sem Next).run P w) := by
  subst ex; subst ey
  obtain ⟨xs⟩ := xs
  obtain ⟨ys⟩ := ys
  obtain ⟨k1, k2⟩ := eqCs_plain hb
  cases hp with
  | agg hp =>
    cases hq with
    | agg hq =>
      rw [same_plain k1 hp, same_plain k2 hq]
      have hl := eqCs_len hb
      have hrun := equal_flat (P := P) 6 10000 t ks xs ys (.agg ⟨xs⟩) (.agg ⟨ys⟩) b w hs (by omega) (by simp [packV, ha]) (by simp [packV, ha]) (by rw [hl.1]; exact eqSh_len 6 t ks hs) hb
      subst hop
      refine ⟨_, w, ι, .inl ?_, Ag.refl _ _, .bool _, hr, Below.refl _ _⟩
      cases neg <;> simp [run_eqGuard_agg w _ t x y ⟨xs⟩ ⟨ys⟩ hg, run_eql_struct, run_neq_struct, hrun]
end
end Go.AH
namespace Go.AH
open Go.RowKit (Below)
section
variable {P : Program} {N : Nat} {ι : Inj} {h h' : Heap} {lo B : Nat} {w : World} {σ : Nat → Value} {a : Act} {v : Value}

theorem VRs.take_cells {l l' : List Value} (hv : VRs ι l l') {w : World} {y : Addr} (hc : ∀ (j : Nat) (u : Value), l'[j]? = some u → w.cell? (y.add j) = some u) (k : Nat) : ∀ (j : Nat) (u : Value), (l'.take k)[j]? = some u → w.cell? (y.add j) = some u := by
  intro j u hj
  refine hc j u ?_
  by_cases hlt : j < k
  · rwa [List.getElem?_take_of_lt hlt] at hj
  · rw [List.getElem?_take_eq_none (by omega)] at hj; cases hj

theorem fine_cpy (hr : HR P ι h lo B w) {t t' e : TypeId} (hu : P.underlying t = some (.slice e)) (hk : known P e = true) {b o n c : Nat} {p' q q' : Value} (hp : VR ι (.slice (some ⟨b, o, none⟩) n c) p') (hq : VR ι q q')
    {ad : Option Addr} {m cq : Nat} (hqs : q = .slice ad m cq) {ys : List Value} (hys : rdS h (P.cellsOf e) q = some ys) {e' : TypeId} {cs : List Value} (hb : h[b]? = some (.cells e' cs)) (hlo : lo ≤ b) (hle : o + n * P.cellsOf e ≤ cs.length) (ty : TypeId) :
    Fine P ι h lo B w (.int .i64 (min m n : Nat)) (h.set b (.cells e' (setAt cs o (ys.take (min m n * P.cellsOf e))))) ((do pure (.value (← Builtin.copy_ #[t, t'] ty #[p', q'])) : Sem Next).run P w) := by
  have hki : (P.info? e).isSome = true := by simp only [known, Bool.and_eq_true] at hk; exact hk.1
  obtain ⟨i, hi⟩ := Option.isSome_iff_exists.1 hki
  have hsz : (sizeOf e).run P w = .ok (P.cellsOf e) w := sizeOf_run hki w
  -- what stands in the source, in the world
  obtain ⟨ys', hvy, hyl, hyone, hsrc⟩ : ∃ ys', VRs ι ys ys' ∧ ys.length = m * P.cellsOf e ∧ (∀ v ∈ ys, one v = true) ∧
      ((q' = .slice none 0 0 ∧ m = 0) ∨ ∃ y c2, q' = .slice (some y) m c2 ∧ ∀ (j : Nat) (u : Value), ys'[j]? = some u → w.cell? (y.add j) = some u) := by
    rcases rdS_world hr hq hys with ⟨hx, rfl, rfl⟩ | ⟨b2, o2, n2, c2, c2', yb, g2, e2, bs2, hx, rfl, hg2, hb2, _, _, _, hyl, _, _, hyone, ys', hvy, hyl', hycell⟩ | ⟨_, _, _, _, xe, hx, rfl, rfl⟩
    · rw [hqs] at hx; cases hx; exact ⟨[], .nil, by simp, by simp, .inl ⟨rfl, rfl⟩⟩
    · rw [hqs] at hx; cases hx
      exact ⟨ys', hvy, by rw [hyl], hyone, .inr ⟨_, _, rfl, hycell⟩⟩
    · rw [hqs] at hx; cases hx
      exact ⟨[], .nil, by simp, by simp, .inr ⟨xe, 0, rfl, by simp⟩⟩
  have hkm : min m n * P.cellsOf e ≤ m * P.cellsOf e := Nat.mul_le_mul_right _ (Nat.min_le_left _ _)
  have hkn : min m n * P.cellsOf e ≤ n * P.cellsOf e := Nat.mul_le_mul_right _ (Nat.min_le_right _ _)
  have htl : (ys.take (min m n * P.cellsOf e)).length = min m n * P.cellsOf e := by rw [List.length_take]; omega
  have htl' : (ys'.take (min m n * P.cellsOf e)).length = min m n * P.cellsOf e := by rw [List.length_take, ← hvy.length]; omega
  have hvt := hvy.take (min m n * P.cellsOf e)
  have hread : (Builtin.firstCells (P.cellsOf e) (min m n) q').run P w = .ok ⟨ys'.take (min m n * P.cellsOf e)⟩ w := by
    rcases hsrc with ⟨rfl, rfl⟩ | ⟨y, c2, rfl, hc⟩
    · have : ys'.take (min 0 n * P.cellsOf e) = [] := by simp
      rw [this]; simp [Builtin.firstCells]
    · have hload := run_loadCells_list (P := P) w y (ys'.take (min m n * P.cellsOf e)) (VRs.take_cells hvy hc _)
      rw [htl'] at hload
      simp [Builtin.firstCells, hload]
  have hlen : (Builtin.lenOf q').run P w = .ok m w := by
    rcases hsrc with ⟨rfl, rfl⟩ | ⟨y, c2, rfl, hc⟩ <;> simp [Builtin.lenOf]
  have hg : ∃ g, ι b = some g := by cases hp with | sl hg => exact ⟨_, hg⟩ | sl0 x hg => exact ⟨_, hg⟩
  obtain ⟨g, hg⟩ := hg
  obtain ⟨w', hst, hr', hbel⟩ := store_all (P := P) hlo hg (ys.take (min m n * P.cellsOf e)) (ys'.take (min m n * P.cellsOf e)) cs o 0 h w hr hb (by omega) (fun v hv => hyone v (List.mem_of_mem_take hv)) hvt
  simp only [Nat.add_zero] at hr'
  have fin : ∀ (x : Addr) (c1 : Nat), p' = .slice (some x) n c1 → (storeCells x (ys'.take (min m n * P.cellsOf e))).run P w = .ok () w' →
      Fine P ι h lo B w (.int .i64 (min m n : Nat)) (h.set b (.cells e' (setAt cs o (ys.take (min m n * P.cellsOf e))))) ((do pure (.value (← Builtin.copy_ #[t, t'] ty #[p', q'])) : Sem Next).run P w) := by
    intro x c1 hx hs
    subst hx
    refine ⟨.int .i64 (min m n : Nat), w', ι, .inl ?_, Ag.refl _ _, .int _ _, hr', hbel⟩
    have hmin : Nat.min m n = min m n := rfl
    simp [Builtin.copy_, run_underlying hu, hlen, hsz, hmin, hread, hs, goInt]
  cases hp with
  | sl hg' h1 h2 h3 =>
    rw [hg] at hg'; cases hg'
    exact fin _ _ rfl hst
  | sl0 x hg' =>
    rw [hg] at hg'; cases hg'
    have h0 : ys'.take (min m 0 * P.cellsOf e) = [] := by simp
    rw [h0] at hst
    refine fin x 0 rfl ?_
    rw [h0]
    simp only [storeCells] at hst ⊢
    exact hst

theorem fine_mm (hr : HR P ι h lo B w) {mx : Bool} {ts : Array TypeId} {ty : TypeId} {p p' q q' : Value} (hp : VR ι p p') (hq : VR ι q q') {k k' : IntKind} {x y : Int} (ex : p = .int k x) (ey : q = .int k' y) :
    Fine P ι h lo B w (.int k (if mx then (if y > x then y else x) else (if y < x then y else x))) h ((do pure (.value (← (if mx then Builtin.max_ ts ty #[p', q'] else Builtin.min_ ts ty #[p', q']))) : Sem Next).run P w) := by
  subst ex; subst ey
  cases hp; cases hq
  refine ⟨_, w, ι, .inl ?_, Ag.refl _ _, .int _ _, hr, Below.refl _ _⟩
  cases mx <;> simp [Builtin.max_, Builtin.min_, Builtin.max2, Builtin.min2]
end
end Go.AH
namespace Go.AH
open Go.RowKit (Below)

/-! ### Maps to true -/
section
variable {P : Program} {N : Nat} {ι : Inj} {h h' : Heap} {lo B : Nat} {w : World} {σ : Nat → Value} {a : Act} {v : Value}

theorem mem_keyV {k l : List Int} (h : keyV k = keyV l) : k = l := by
  have key : ∀ (a b : List Int), a.map (Value.int .i64) = b.map (.int .i64) → a = b := by
    intro a
    induction a with
    | nil => intro b h; cases b with | nil => rfl | cons => cases h
    | cons x a ih => intro b h; cases b with | nil => cases h | cons y b => simp at h; rw [h.1, ih b (by simpa using h.2)]
  unfold keyV at h
  split at h <;> split at h
  · cases h; rfl
  · cases h
  · cases h
  · simp at h; exact key _ _ (by simpa using h)

theorem mapM_i64 : ∀ {cs : List Value} {l : List Int}, cs.mapM i64of = some l → cs = l.map (.int .i64)
  | [], l, h => by simp at h; subst h; rfl
  | c :: cs, l, h => by
    rw [List.mapM_cons] at h
    obtain ⟨n, h1, h⟩ := Option.bind_eq_some_iff.1 h
    obtain ⟨l', h2, h⟩ := Option.bind_eq_some_iff.1 h
    cases h
    have hc : c = .int .i64 n := by unfold i64of at h1; split at h1 <;> cases h1; rfl
    rw [hc, mapM_i64 h2]; rfl
theorem keyI_V {x : Value} {l : List Int} (h : keyI x = some l) : x = keyV l := by
  unfold keyI at h
  split at h
  · cases h; rfl
  · rename_i cs
    split at h
    · rename_i hl
      have := mapM_i64 h
      subst this
      have hl : 2 ≤ l.length := by simpa using hl
      unfold keyV
      split
      · simp at hl
      · rfl
    · cases h
  · cases h
theorem keyI_rel {x x' : Value} {l : List Int} (h : keyI x = some l) (hr : VR ι x x') : x' = keyV l := by
  have e := keyI_V h
  subst e
  unfold keyV at hr ⊢
  split at hr
  · cases hr; rfl
  · cases hr with
    | agg hr =>
      have : ∀ (l : List Int) (cs : List Value), VRs ι (l.map (.int .i64)) cs → cs = l.map (.int .i64) := by
        intro l
        induction l with
        | nil => intro cs h; cases h; rfl
        | cons n l ih => intro cs h; cases h with | cons a b => cases a; rw [ih _ b]; rfl
      rw [this _ _ hr]

theorem ints_eq : ∀ {ks : List EK} {k l : List Int}, ks.all (fun e => match e with | .i => true | _ => false) = true → k.length = ks.length → l.length = ks.length →
    eqCs ks (k.map (.int .i64)) (l.map (.int .i64)) = some (k == l)
  | [], [], [], _, _, _ => rfl
  | e :: ks, a :: k, b :: l, h, h1, h2 => by
    simp only [List.all_cons, Bool.and_eq_true] at h
    cases e with
    | i =>
      simp only [List.map_cons, eqCs, eqC, if_true, ints_eq (ks := ks) h.2 (by simpa using h1) (by simpa using h2)]
      rfl
    | b => simp at h
    | s => simp at h
  | [], _ :: _, _, _, h, _ => by simp at h
  | [], [], _ :: _, _, _, h => by simp at h
  | _ :: _, [], _, _, h, _ => by simp at h
  | _ :: _, _ :: _, [], _, _, h => by simp at h

theorem check_flat : ∀ (d m : Nat) (t : TypeId) (ks : List EK) (xs : List Value) (x : Value) (w : World) (em : Bool), eqSh P d t = some ks → d ≤ m → packV P t xs x → xs.length = P.cellsOf t →
    (Instr.checkKey em m t x).run P w = .ok () w
  | 0, _, _, _, _, _, _, _, h, _, _, _ => by cases h
  | d + 1, 0, _, _, _, _, _, _, _, h, _, _ => by omega
  | d + 1, m + 1, t, ks, xs, x, w, em, hs, hd, hx, hl => by
    simp only [eqSh] at hs
    split at hs
    · rename_i hk
      split at hs
      · rename_i k hu; simp [Instr.checkKey, run_underlying hu]
      · rename_i hu; simp [Instr.checkKey, run_underlying hu]
      · rename_i hu; simp [Instr.checkKey, run_underlying hu]
      · rename_i fs hu
        split at hs
        · rename_i hcond
          obtain ⟨hst, hof, hnm⟩ := hcond
          have hagg : aggT P t = true := by simp [aggT, hu]
          simp only [packV, hagg, if_true] at hx
          subst hx
          have key : ∀ (l : List Field) (o : Nat) (ks : List EK), offsOk P (P.cellsOf t) o l = true → eqShs (fun t => eqSh P d t) l = some ks → o + ks.length = xs.length →
              (forIn l PUnit.unit fun f (_ : PUnit) => if f.name ≠ "_" then do let p ← part f.type ⟨xs⟩ f.offset; Instr.checkKey em m f.type p; pure (ForInStep.yield PUnit.unit) else pure (ForInStep.yield PUnit.unit) : Sem PUnit).run P w = .ok () w := by
            intro l
            induction l with
            | nil => intro o ks _ _ _; simp
            | cons f l ih =>
              intro o ks h0 h1 h3
              simp only [offsOk, Bool.and_eq_true, beq_iff_eq] at h0
              simp only [eqShs] at h1
              obtain ⟨k1, e1, h1⟩ := Option.bind_eq_some_iff.1 h1
              obtain ⟨k2, e2, rfl⟩ := Option.map_eq_some_iff.1 h1
              obtain ⟨hfo, h0⟩ := h0
              have hd' : ∃ d', d = d' + 1 := by cases d with | zero => cases e1 | succ d' => exact ⟨d', rfl⟩
              obtain ⟨d', rfl⟩ := hd'
              obtain ⟨hkf, hc1⟩ := eqSh_base e1
              have hkl : k1.length = P.cellsOf f.type := eqSh_len (d' + 1) f.type k1 e1
              have hle : o + P.cellsOf f.type ≤ xs.length := by simp only [List.length_append] at h3; omega
              obtain ⟨px, rx, qx⟩ := part_run hkf hle hc1 w
              have hrun := check_flat (d' + 1) m f.type k1 _ px w em e1 (by omega) qx (by simp; omega)
              have hnext := ih (o + P.cellsOf f.type) k2 h0 e2 (by simp only [List.length_append] at h3; omega)
              rw [List.forIn_cons]
              by_cases hne : f.name ≠ "_"
              · simp only [if_pos hne, hfo, Sem.run_bind, rx, Result.andThen_ok, hrun, Sem.run_pure]
                exact hnext
              · simp only [if_neg hne, Sem.run_bind, Result.andThen_ok, Sem.run_pure]
                exact hnext
          have hks : ks.length = P.cellsOf t := by
            have := eqSh_len (P := P) (d + 1) t ks (by simp only [eqSh, hk, if_true, hu]; rw [if_pos ⟨hst, hof, hnm⟩]; exact hs)
            exact this
          have hrun := key fs.toList 0 ks hof hs (by omega)
          rw [Instr.checkKey]
          simp only [Sem.run_bind, run_underlying hu, Result.andThen_ok]
          rw [← Array.forIn_toList]
          rw [hrun]; simp
        · cases hs
      · cases hs
    · cases hs

theorem HR.newMap (hr : HR P ι h lo B w) (hB : B ≤ w.heap.size) : HR P (upd ι h.length ⟨w.heap.size, 0, 0, 0, true⟩) (h ++ [.cells (setT []) []]) lo B (w.alloc (.map #[] 0)) := by
  have ext := hr.ext_upd ⟨w.heap.size, 0, 0, 0, true⟩
  have hnew : (w.alloc (.map #[] 0)).heap[w.heap.size]? = some (.map #[] 0) := heap_alloc_new w _
  have old : ∀ (b : Nat) (g : Img), (upd ι h.length ⟨w.heap.size, 0, 0, 0, true⟩) b = some g → (b = h.length ∧ g = ⟨w.heap.size, 0, 0, 0, true⟩) ∨ (b < h.length ∧ ι b = some g ∧ g.c < w.heap.size) := by
    intro b g hb
    by_cases hx : b = h.length
    · subst hx; simp [upd] at hb; exact .inl ⟨rfl, hb.symm⟩
    · have hb' : ι b = some g := by simpa [upd, hx] using hb
      have := hr.dom b g hb'
      exact .inr ⟨this.1, hb', this.2⟩
  have look : ∀ (b : Nat) (x : Blk), b < h.length → (h ++ [.cells (setT []) []])[b]? = some x → h[b]? = some x := by
    intro b x hb hx; rwa [List.getElem?_append_left hb] at hx
  have lookN : ∀ (e : TypeId) (cs : List Value), (h ++ [.cells (setT []) []])[h.length]? = some (.cells e cs) → e = setT [] ∧ cs = [] := by
    intro e cs hx; rw [List.getElem?_append_right (Nat.le_refl _)] at hx; simp at hx; exact ⟨hx.1.symm, hx.2⟩
  refine ⟨?_, ?_, ?_, ?_, ?_⟩
  · intro b g hb
    rcases old b g hb with ⟨rfl, rfl⟩ | ⟨h1, h2, h3⟩
    · simp
    · simp; omega
  · intro b e cs g hb hg
    rcases old b g hg with ⟨rfl, rfl⟩ | ⟨h1, h2, h3⟩
    · obtain ⟨rfl, rfl⟩ := lookN e cs hb
      exact ⟨fun x => Bool.noConfusion (show true = false from x), fun i v hv => by simp at hv⟩
    · obtain ⟨hz, hc⟩ := hr.cell b e cs g (look b _ h1 hb) h2
      refine ⟨hz, fun i v hv => ?_⟩
      obtain ⟨k1, v', k2, k3⟩ := hc i v hv
      exact ⟨k1, v', by rw [← k2]; exact cell?_same (Below.heap_alloc w _ _ h3), k3.mono ext⟩
  · intro b e cs g hlb hb hg
    rcases old b g hg with ⟨rfl, rfl⟩ | ⟨h1, h2, h3⟩
    · obtain ⟨rfl, rfl⟩ := lookN e cs hb
      exact ⟨hB, rfl, by simp, fun x => Bool.noConfusion (show true = false from x)⟩
    · obtain ⟨a1, a2, a3, a4⟩ := hr.own b e cs g hlb (look b _ h1 hb) h2
      refine ⟨a1, a2, a3, fun hm => ?_⟩
      obtain ⟨cur, a5, a6⟩ := a4 hm
      exact ⟨cur, by rw [Below.heap_alloc w _ _ h3]; exact a5, a6⟩
  · intro b b' e cs e' cs' g g' hne hlb hb hb' hg hg'
    rcases old b g hg with ⟨rfl, rfl⟩ | ⟨h1, h2, h3⟩
    · rcases old b' g' hg' with ⟨rfl, rfl⟩ | ⟨h1', h2', h3'⟩
      · exact absurd rfl hne
      · simp only; omega
    · rcases old b' g' hg' with ⟨rfl, rfl⟩ | ⟨h1', h2', h3'⟩
      · simp only; omega
      · exact hr.apart b b' e cs e' cs' g g' hne hlb (look b _ h1 hb) (look b' _ h1' hb') h2 h2'
  · intro b e cs g hb hg hm
    rcases old b g hg with ⟨rfl, rfl⟩ | ⟨h1, h2, h3⟩
    · obtain ⟨rfl, rfl⟩ := lookN e cs hb
      exact ⟨rfl, [], rfl, #[], 0, hnew, by simp, by simp⟩
    · obtain ⟨a1, K, a2, a3⟩ := hr.sets b e cs g (look b _ h1 hb) h2 hm
      exact ⟨a1, K, a2, a3.same (Below.heap_alloc w _ _ h3)⟩

/-- The keys of a map become others. -/
theorem HR.putMap (hr : HR P ι h lo B w) {b : Nat} {e : TypeId} {cs : List Value} {g : Img} (hlo : lo ≤ b) (hb : h[b]? = some (.cells e cs)) (hg : ι b = some g) (hm : g.m = true)
    {w' : World} {K : List (List Int)} (hset : SetAt w' g.c K) (hsame : ∀ k, k ≠ g.c → w'.heap[k]? = w.heap[k]?) (hsize : w'.heap.size = w.heap.size) :
    HR P ι (h.set b (.cells (setT K) [])) lo B w' := by
  obtain ⟨_, K0, rfl, es, clk, hmap, _⟩ := hr.sets b e cs g hb hg hm
  have hblt : b < h.length := (hr.dom b g hg).1
  have lookO : ∀ (b' : Nat) (e' : TypeId) (cs' : List Value), (h.set b (.cells (setT K) []))[b']? = some (.cells e' cs') → b' ≠ b → h[b']? = some (.cells e' cs') := by
    intro b' e' cs' hx hne; rwa [List.getElem?_set_ne (fun x => hne x.symm)] at hx
  have lookB : ∀ (e' : TypeId) (cs' : List Value), (h.set b (.cells (setT K) []))[b]? = some (.cells e' cs') → e' = setT K ∧ cs' = [] := by
    intro e' cs' hx; rw [List.getElem?_set_self hblt] at hx; simp at hx; exact ⟨hx.1.symm, hx.2⟩
  have hne : ∀ (b' : Nat) (e' : TypeId) (cs' : List Value) (g' : Img), b' ≠ b → h[b']? = some (.cells e' cs') → ι b' = some g' → g'.c ≠ g.c :=
    fun b' e' cs' g' hx hb' hg' x => (hr.apart b b' _ _ _ _ g g' (fun y => hx y.symm) hlo hb hb' hg hg') x.symm
  refine ⟨?_, ?_, ?_, ?_, ?_⟩
  · intro b' g' hb'; have := hr.dom b' g' hb'; simpa [hsize] using this
  · intro b' e' cs' g' hb' hg'
    by_cases hx : b' = b
    · subst hx
      obtain ⟨rfl, rfl⟩ := lookB e' cs' hb'
      rw [hg] at hg'; cases hg'
      exact ⟨fun x => (by rw [hm] at x; cases x), fun i v hv => by simp at hv⟩
    · have hb2 := lookO b' e' cs' hb' hx
      obtain ⟨hz, hc⟩ := hr.cell b' e' cs' g' hb2 hg'
      refine ⟨hz, fun i v hv => ?_⟩
      obtain ⟨k1, v', k2, k3⟩ := hc i v hv
      exact ⟨k1, v', by rw [← k2]; exact cell?_same (hsame _ (hne b' e' cs' g' hx hb2 hg')), k3⟩
  · intro b' e' cs' g' hlb hb' hg'
    by_cases hx : b' = b
    · subst hx
      obtain ⟨rfl, rfl⟩ := lookB e' cs' hb'
      rw [hg] at hg'; cases hg'
      obtain ⟨a1, a2, _, _⟩ := hr.own b' _ cs g hlo hb hg
      exact ⟨a1, a2, by simp, fun x => (by rw [hm] at x; cases x)⟩
    · have hb2 := lookO b' e' cs' hb' hx
      obtain ⟨a1, a2, a3, a4⟩ := hr.own b' e' cs' g' hlb hb2 hg'
      refine ⟨a1, a2, a3, fun hm' => ?_⟩
      obtain ⟨cur, a5, a6⟩ := a4 hm'
      exact ⟨cur, by rw [hsame _ (hne b' e' cs' g' hx hb2 hg')]; exact a5, a6⟩
  · intro b1 b2 e1 cs1 e2 cs2 g1 g2 hn hlo1 hb1 hb2 hg1 hg2
    have f : ∀ (b' : Nat) (e' : TypeId) (cs' : List Value), (h.set b (.cells (setT K) []))[b']? = some (.cells e' cs') → ∃ e'' cs'', h[b']? = some (.cells e'' cs'') := by
      intro b' e' cs' hx
      by_cases hy : b' = b
      · subst hy; exact ⟨_, _, hb⟩
      · exact ⟨_, _, lookO _ _ _ hx hy⟩
    obtain ⟨_, _, x1⟩ := f _ _ _ hb1
    obtain ⟨_, _, x2⟩ := f _ _ _ hb2
    exact hr.apart b1 b2 _ _ _ _ g1 g2 hn hlo1 x1 x2 hg1 hg2
  · intro b' e' cs' g' hb' hg' hm'
    by_cases hx : b' = b
    · subst hx
      obtain ⟨rfl, rfl⟩ := lookB e' cs' hb'
      rw [hg] at hg'; cases hg'
      exact ⟨rfl, K, rfl, hset⟩
    · have hb2 := lookO b' e' cs' hb' hx
      obtain ⟨a1, K1, a2, a3⟩ := hr.sets b' e' cs' g' hb2 hg' hm'
      exact ⟨a1, K1, a2, a3.same (hsame _ (hne b' e' cs' g' hx hb2 hg'))⟩

theorem fine_mkM (hr : HR P ι h lo B w) (hB : B ≤ w.heap.size) (t : TypeId) :
    Fine P ι h lo B w (mapV0 h.length) (h ++ [.cells (setT []) []]) ((do pure (.value (← Instr.makeMap t none)) : Sem Next).run P w) := by
  refine ⟨.map (some w.heap.size), w.alloc (.map #[] 0), upd ι h.length ⟨w.heap.size, 0, 0, 0, true⟩, .inl ?_, HR.ag_upd _ _ _, ?_, hr.newMap hB, (Below.refl _ _).alloc hB _⟩
  · simp [Go.RowKit.run_makeMap]
  · exact VR.mp (g := ⟨w.heap.size, 0, 0, 0, true⟩) (by simp [upd]) rfl

/-- What the search for a key finds. -/
def Found (k : Value) (l : List MapEntry) (i : Nat) (r : Option (Nat × Value)) : Prop :=
  (r = none ∧ ∀ x ∈ l, x.key ≠ k) ∨ ∃ j e, r = some (i + j, e.val) ∧ l[j]? = some e ∧ e.key = k

theorem keyN_pos {t : TypeId} {n : Nat} (h : keyN P t = some n) : (P.underlying t = some (.int .i64) ∧ n = 1) ∨ ∃ fs ks, P.underlying t = some (.struct fs) ∧ aggT P t = true ∧ eqSh P 6 t = some ks ∧ 2 ≤ ks.length ∧ ks.all (fun e => match e with | .i => true | _ => false) = true ∧ n = ks.length := by
  unfold keyN at h
  split at h
  · rename_i hu; cases h; exact .inl ⟨hu, rfl⟩
  · rename_i fs hu
    split at h
    · rename_i ha
      obtain ⟨ks, hk, h⟩ := Option.bind_eq_some_iff.1 h
      split at h
      · rename_i hc; cases h; exact .inr ⟨fs, ks, hu, ha, hk, hc.1, hc.2, rfl⟩
      · cases h
    · cases h
  · cases h
theorem keyV_agg {k : List Int} (h : 2 ≤ k.length) : keyV k = .agg ⟨k.map (.int .i64)⟩ := by
  unfold keyV; split
  · simp at h
  · rfl
theorem keyV_one {k : List Int} (h : k.length = 1) : ∃ n, k = [n] := by
  match k, h with
  | [n], _ => exact ⟨n, rfl⟩

theorem equal_keys {t : TypeId} {ks : List EK} (ha : aggT P t = true) (hs : eqSh P 6 t = some ks) (h2 : 2 ≤ ks.length) (hi : ks.all (fun e => match e with | .i => true | _ => false) = true)
    {k l : List Int} (hk : k.length = ks.length) (hl : l.length = ks.length) (w : World) : (Op.equal t (keyV k) (keyV l)).run P w = .ok (k == l) w := by
  have hsz := eqSh_len 6 t ks hs
  rw [keyV_agg (by omega), keyV_agg (by omega)]
  exact equal_flat (P := P) 6 10000 t ks (k.map (.int .i64)) (l.map (.int .i64)) _ _ _ w hs (by omega) (by simp [packV, ha]) (by simp [packV, ha]) (by simp; omega) (ints_eq hi hk hl)

theorem find_key {t : TypeId} {n : Nat} (hn : keyN P t = some n) {k : List Int} (hk : k.length = n) {l : List MapEntry} (hl : ∀ x ∈ l, ∃ m : List Int, m.length = n ∧ x.key = keyV m) (w : World) :
    ∃ r, (Instr.findKey t (keyV k) l).run P w = .ok r w ∧ Found (keyV k) l 0 r := by
  rcases keyN_pos hn with ⟨hu, rfl⟩ | ⟨fs, ks, hu, ha, hs, h2, hi, rfl⟩
  · obtain ⟨m, rfl⟩ := keyV_one hk
    have hk1 : MapKept.IsKey (.int .i64) (keyV [m]) := rfl
    rcases MapKept.findNow_spec hk1 l 0 (fun x hx => by
      obtain ⟨m', h1, h2⟩ := hl x hx
      obtain ⟨m2, rfl⟩ := keyV_one h1
      rw [h2]; exact rfl) with ⟨h1, h2⟩ | ⟨j, e, h1, h2, h3⟩
    · exact ⟨none, MapKept.run_findKey hu h1, .inl ⟨rfl, h2⟩⟩
    · exact ⟨_, MapKept.run_findKey hu h1, .inr ⟨j, e, rfl, h2, h3⟩⟩
  · rw [run_findKey_eq w (by simp [hu])]
    have hks2 := h2
    have key : ∀ (l : List MapEntry) (i : Nat), (∀ x ∈ l, ∃ m : List Int, m.length = ks.length ∧ x.key = keyV m) → ∃ r, (Instr.findAsking t (keyV k) l i).run P w = .ok r w ∧ Found (keyV k) l i r := by
      intro l
      induction l with
      | nil => intro i _; exact ⟨none, by rw [Instr.findAsking]; rfl, .inl ⟨rfl, by simp⟩⟩
      | cons e l ih =>
        intro i hl
        obtain ⟨m, h1, h2⟩ := hl e (by simp)
        have hq := equal_keys (P := P) ha hs hks2 hi hk h1 w
        rw [Instr.findAsking]
        simp only [Sem.run_bind, h2, hq, Result.andThen_ok]
        by_cases hkm : k = m
        · subst hkm
          refine ⟨some (i, e.val), by simp, .inr ⟨0, e, rfl, rfl, h2⟩⟩
        · obtain ⟨r, hr, hf⟩ := ih (i + 1) (fun x hx => hl x (by simp [hx]))
          refine ⟨r, by simpa [hkm] using hr, ?_⟩
          rcases hf with ⟨rfl, hf⟩ | ⟨j, e', rfl, hf⟩
          · refine .inl ⟨rfl, fun x hx => ?_⟩
            rcases List.mem_cons.1 hx with rfl | hx
            · rw [h2]; exact fun y => hkm (mem_keyV y).symm
            · exact hf x hx
          · exact .inr ⟨j + 1, e', by congr 2; omega, hf⟩
    exact key l 0 hl

theorem check_key {t : TypeId} {n : Nat} (hn : keyN P t = some n) {k : List Int} (hk : k.length = n) (w : World) (em : Bool) : (Instr.checkKey em 10000 t (keyV k)).run P w = .ok () w := by
  rcases keyN_pos hn with ⟨hu, rfl⟩ | ⟨fs, ks, hu, ha, hs, h2, hi, rfl⟩
  · rw [show (10000 : Nat) = 9999 + 1 from rfl, Instr.checkKey]
    simp [run_underlying hu]
  · have hsz := eqSh_len 6 t ks hs
    rw [keyV_agg (by omega)]
    exact check_flat 6 10000 t ks (k.map (.int .i64)) _ w em hs (by omega) (by simp [packV, ha]) (by simp; omega)

theorem stays (k : List Int) (w : World) : (Instr.keyThatStays (keyV k) (keyV k)).run P w = .ok (keyV k) w := by
  have hs : Instr.sameBits 10000 (keyV k) (keyV k) = true := by
    unfold keyV
    split
    · simp [Instr.sameBits]
    · rw [show (10000 : Nat) = 9999 + 1 from rfl, Instr.sameBits]
      simp only [Bool.and_eq_true, beq_self_eq_true, true_and]
      have : ∀ l : List Int, (List.zip (l.map (Value.int .i64)) (l.map (.int .i64))).all (fun x => match x with | (x, y) => Instr.sameBits 9999 x y) = true := by
        intro l
        induction l with
        | nil => rfl
        | cons a l ih => simp only [List.map_cons, List.zip_cons_cons, List.all_cons, ih, Bool.and_true]; simp [Instr.sameBits]
      exact this _
  simp [Instr.keyThatStays, hs]

theorem getM_rel {x x' : Value} {b : Nat} (h : getM x = some b) (hr : VR ι x x') : ∃ g, ι b = some g ∧ g.m = true ∧ x' = .map (some g.c) := by
  unfold getM at h
  split at h
  · rename_i f b0
    split at h
    · rename_i hf; cases h; subst hf
      cases hr with
      | func _ k _ _ => rcases k with k | k <;> first | cases k | exact absurd rfl k
      | mp e k => exact ⟨_, e, k, rfl⟩
    · cases h
  · cases h

theorem boolZ_spec {e : TypeId} (h : boolZ P e = true) : ∃ i, P.info? e = some i ∧ i.zero = some (.bool false) := by
  unfold boolZ at h
  split at h
  · rename_i i hi
    split at h
    · rename_i hz; exact ⟨i, hi, hz⟩
    · cases h
  · cases h

theorem fine_getM (hr : HR P ι h lo B w) {t kt et : TypeId} (hu : P.underlying t = some (.map kt et)) {n : Nat} (hn : keyN P kt = some n) (hz : boolZ P et = true)
    {x x' y y' : Value} (hx : VR ι x x') (hy : VR ι y y') {b : Nat} (hb : getM x = some b) {e : TypeId} {cs : List Value} (hh : h[b]? = some (.cells e cs)) {K : List (List Int)} (hK : setK e = some K)
    {l : List Int} (hl : keyI y = some l) (hln : l.length = n) (hall : K.all (fun m => m.length == n) = true) :
    Fine P ι h lo B w (.bool (K.contains l)) h ((do pure (.value (← Instr.lookup t x' y' false)) : Sem Next).run P w) := by
  obtain ⟨g, hg, hm, rfl⟩ := getM_rel hb hx
  have := keyI_rel hl hy
  subst this
  obtain ⟨_, K', rfl, es, clk, hmap, hent, hkeys⟩ := hr.sets b e cs g hh hg hm
  rw [setK_T] at hK; cases hK
  have hall' : ∀ m ∈ K, m.length = n := by simpa using hall
  obtain ⟨r, hrun, hf⟩ := find_key (P := P) hn hln (l := es.toList) (fun x hx => by
    obtain ⟨_, m, h1, h2⟩ := hent x hx; exact ⟨m, hall' m h1, h2⟩) w
  obtain ⟨i, hi, hv⟩ := boolZ_spec hz
  refine ⟨.bool (K.contains l), w, ι, .inl ?_, Ag.refl _ _, .bool _, hr, Below.refl _ _⟩
  have hchk := check_key (P := P) hn hln w es.isEmpty
  simp only [Instr.lookup, Sem.run_bind, run_underlying hu, Result.andThen_ok, run_getObj_map w _ _ _ hmap, Sem.run_pure, hchk, hrun]
  rcases hf with ⟨rfl, hf⟩ | ⟨j, e', rfl, h1, h2⟩
  · have hno : K.contains l = false := by
      rw [List.contains_eq_mem]
      simp only [decide_eq_false_iff_not]
      intro hmem
      obtain ⟨x, hx1, hx2⟩ := hkeys l hmem
      exact hf x hx1 hx2
    rw [hno]; simp [zeroValue, typeInfo, hi, hv]
  · have hmem : e' ∈ es.toList := List.mem_of_getElem? h1
    obtain ⟨hval, m, hm1, hm2⟩ := hent e' hmem
    rw [h2] at hm2
    have := mem_keyV hm2
    subst this
    have hyes : K.contains l = true := by rw [List.contains_eq_mem]; simpa using hm1
    rw [hyes]; simp [hval]

theorem fine_putM (hr : HR P ι h lo B w) {t kt et : TypeId} (hu : P.underlying t = some (.map kt et)) {n : Nat} (hn : keyN P kt = some n)
    {x x' y y' : Value} (hx : VR ι x x') (hy : VR ι y y') {b : Nat} (hb : getM x = some b) {e : TypeId} {cs : List Value} (hh : h[b]? = some (.cells e cs)) (hlo : lo ≤ b) {K : List (List Int)} (hK : setK e = some K)
    {l : List Int} (hl : keyI y = some l) (hln : l.length = n) (hall : K.all (fun m => m.length == n) = true) :
    Fine P ι h lo B w undef (h.set b (.cells (setT (K ++ [l])) [])) ((do Instr.mapUpdate t x' y' (.bool true); pure .skip : Sem Next).run P w) := by
  obtain ⟨g, hg, hm, rfl⟩ := getM_rel hb hx
  have := keyI_rel hl hy
  subst this
  obtain ⟨oB, _, _, _⟩ := hr.own b e cs g hlo hh hg
  obtain ⟨_, K', rfl, es, clk, hmap, hent, hkeys⟩ := hr.sets b e cs g hh hg hm
  rw [setK_T] at hK; cases hK
  have hall' : ∀ m ∈ K, m.length = n := by simpa using hall
  obtain ⟨r, hrun, hf⟩ := find_key (P := P) hn hln (l := es.toList) (fun x hx => by
    obtain ⟨_, m, h1, h2⟩ := hent x hx; exact ⟨m, hall' m h1, h2⟩) w
  have hchk := check_key (P := P) hn hln w false
  have hcl : g.c < w.heap.size := (hr.dom b g hg).2
  have fin : ∀ (o : Obj) (es' : Array MapEntry) (clk' : Nat), o = .map es' clk' → (∀ x ∈ es'.toList, x.val = .bool true ∧ ∃ k ∈ K ++ [l], x.key = keyV k) → (∀ k ∈ K ++ [l], ∃ x ∈ es'.toList, x.key = keyV k) →
      (Instr.mapUpdate t (.map (some g.c)) (keyV l) (.bool true)).run P w = .ok () { heap := Array.setIfInBounds w.heap g.c o, tape := w.tape, drawn := w.drawn, os := w.os, output := w.output } →
      Fine P ι h lo B w undef (h.set b (.cells (setT (K ++ [l])) [])) ((do Instr.mapUpdate t (.map (some g.c)) (keyV l) (.bool true); pure .skip : Sem Next).run P w) := by
    intro o es' clk' ho h1 h2 h3
    subst ho
    refine ⟨undef, { heap := Array.setIfInBounds w.heap g.c (.map es' clk'), tape := w.tape, drawn := w.drawn, os := w.os, output := w.output }, ι, .inr ⟨by simp [h3], rfl, rfl⟩, Ag.refl _ _, VR.undef, ?_, ?_⟩
    · refine hr.putMap hlo hh hg hm ⟨es', clk', by simp [hcl], h1, h2⟩ (fun k hk => ?_) (by simp)
      simp only [Array.getElem?_setIfInBounds_ne (show g.c ≠ k from fun x => hk x.symm)]
    · refine ⟨rfl, rfl, rfl, by simp, fun k hk => ?_⟩
      simp only [Array.getElem?_setIfInBounds_ne (show g.c ≠ k by omega)]
  rcases hf with ⟨rfl, hf⟩ | ⟨j, e', rfl, h1, h2⟩
  · refine fin _ (es.push { key := keyV l, val := .bool true, born := clk }) (clk + 1) rfl ?_ ?_ ?_
    · intro x hx
      simp only [Array.toList_push, List.mem_append, List.mem_singleton] at hx
      rcases hx with hx | rfl
      · obtain ⟨k1, m, k2, k3⟩ := hent x hx; exact ⟨k1, m, by simp [k2], k3⟩
      · exact ⟨rfl, l, by simp, rfl⟩
    · intro k hk
      rcases List.mem_append.1 hk with hk | hk
      · obtain ⟨x, k1, k2⟩ := hkeys k hk; exact ⟨x, by simp [k1], k2⟩
      · simp at hk; subst hk; exact ⟨{ key := keyV k, val := .bool true, born := clk }, by simp, rfl⟩
    · simp only [Instr.mapUpdate, Sem.run_bind, run_underlying hu, Result.andThen_ok, run_getObj_map w _ _ _ hmap, hchk, hrun]
      exact MapKept.run_setObj_map _ hmap
  · have hj : j < es.toList.length := (List.getElem?_eq_some_iff.1 h1).1
    have hmem : e' ∈ es.toList := List.mem_of_getElem? h1
    obtain ⟨hval, m, hm1, hm2⟩ := hent e' hmem
    rw [h2] at hm2
    have := mem_keyV hm2
    subst this
    have hes : es[j]? = some e' := by simpa using h1
    refine fin _ (es.modify j fun e => { key := keyV l, val := .bool true, born := e.born }) clk rfl ?_ ?_ ?_
    · intro x hx
      obtain ⟨i, hi⟩ := List.getElem?_of_mem hx
      simp only [Array.getElem?_toList, Array.getElem?_modify] at hi
      split at hi
      · obtain ⟨y, hy1, rfl⟩ := Option.map_eq_some_iff.1 hi
        exact ⟨rfl, l, by simp, rfl⟩
      · obtain ⟨k1, m, k2, k3⟩ := hent x (by simpa using Array.mem_of_getElem? hi); exact ⟨k1, m, by simp [k2], k3⟩
    · intro k hk
      by_cases hkl : k = l
      · subst hkl
        refine ⟨{ key := keyV k, val := .bool true, born := e'.born }, List.mem_of_getElem? (i := j) ?_, rfl⟩
        simp [Array.getElem?_modify, hes]
      · rcases List.mem_append.1 hk with hk | hk
        · obtain ⟨x, k1, k2⟩ := hkeys k hk
          obtain ⟨i, hi⟩ := List.getElem?_of_mem k1
          have hij : j ≠ i := by
            rintro rfl
            rw [h1] at hi; cases hi
            rw [h2] at k2; exact hkl (mem_keyV k2).symm
          refine ⟨x, List.mem_of_getElem? (i := i) ?_, k2⟩
          simp [Array.getElem?_modify, hij]
          simpa using hi
        · simp at hk; exact absurd hk hkl
    · simp only [Instr.mapUpdate, Sem.run_bind, run_underlying hu, Result.andThen_ok, run_getObj_map w _ _ _ hmap, hchk, hrun]
      have e1 : (Option.map (fun x : MapEntry => x.key) es[0 + j]?).getD (keyV l) = keyV l := by simp [hes, h2]
      rw [e1]
      simp only [stays, Result.andThen_ok, Sem.run_bind, Nat.zero_add]
      exact MapKept.run_setObj_map _ hmap

theorem equal_nilp {t e : TypeId} (hu : P.underlying t = some (.pointer e)) (a : Option Addr) : (Op.equal t (.pointer a) (.pointer none)).run P w = .ok a.isNone w := by
  have e : Op.maxDepth = 9999 + 1 := rfl
  rw [Op.equal, e, Op.equalIn]
  cases a <;> simp [run_underlying hu]
theorem fine_eqP (hr : HR P ι h lo B w) {op : BinOp} {neg : Bool} (hop : op = if neg then .neq else .eql) {t e : TypeId} (hu : P.underlying t = some (.pointer e)) {x y : Operand} {p p' : Value} (hp : VR ι p p')
    {b : Bool} (hb : isNilP p = some b) :
    Fine P ι h lo B w (.bool (if neg then !b else b)) h ((do pure (.value (← (do eqGuard op t x y p' (.pointer none); binOp op t p' (.pointer none)))) : Sem Next).run P w) := by
  obtain ⟨ad, rfl⟩ : ∃ a, p = .pointer a := by
    unfold isNilP at hb; split at hb <;> first | exact ⟨_, rfl⟩ | cases hb
  subst hop
  have hh : ∃ a', p' = .pointer a' ∧ a'.isNone = b := by
    cases hp with
    | nilp => simp [isNilP] at hb; exact ⟨_, rfl, by simp [hb]⟩
    | ptr => simp [isNilP] at hb; exact ⟨_, rfl, by simp [hb]⟩
  obtain ⟨a', rfl, rfl⟩ := hh
  refine ⟨_, w, ι, .inl ?_, Ag.refl _ _, .bool _, hr, Below.refl _ _⟩
  have hg : ∀ op, (eqGuard op t x y (.pointer a') (.pointer none)).run P w = .ok () w := fun op => guard_run (by simp) (by simp)
  cases neg <;> simp [hg, binOp, equal_nilp hu]

theorem fine_buildA (hr : HR P ι h lo B w) (ht : TR N ι σ a.tmps) {t e : TypeId} {n : Nat} (hu : P.underlying t = some (.array n e)) (hk : known P e = true)
    {z : List Value} (hz : zeroT P t = some z) {ps : Array (Nat × Operand)} {qs : List (Nat × Nat × Opd)} (hq : cParts N (fun i => some (i * P.cellsOf e, P.cellsOf e)) ps.toList = some qs)
    {cs : List Value} (hf : fillL z (qs.map fun p => (p.1, p.2.1, ev σ p.2.2)) = some cs) :
    Fine P ι h lo B w (.agg ⟨cs⟩) h ((do pure (.value (← Instr.build t (ps.map fun (i, x) => (i, a.eval x)))) : Sem Next).run P w) := by
  obtain ⟨i, v, hi, hv, rfl, hp, h1, hl⟩ := zeroT_spec hz
  obtain ⟨cs', hfill, hcs⟩ := fill_run (place := fun i => some (i * P.cellsOf e, P.cellsOf e)) (a := a) ps.toList qs (cellsL v) v.cells cs ht hq (VRs.plain hp) hf
  have hki : (P.info? e).isSome = true := by simp only [known, Bool.and_eq_true] at hk; exact hk.1
  refine ⟨.agg cs', w, ι, .inl ?_, Ag.refl _ _, ?_, hr, Below.refl _ _⟩
  · have hgoal : Instr.fill (fun i => some (i * P.cellsOf e, P.cellsOf e)) v.cells (ps.toList.map fun x => (x.1, a.eval x.2)) = some cs' := by
      rw [← hfill]
    simp [Instr.build, zeroValue, typeInfo, hi, hv, run_underlying hu, sizeOf_run hki, hgoal]
  · obtain ⟨l⟩ := cs'; exact .agg hcs

theorem fine_ixA (hr : HR P ι h lo B w) {t e : TypeId} {n : Nat} (hu : P.underlying t = some (.array n e)) (hk : known P e = true) (hagg : aggT P e = false) {x x' y y' : Value} (hx : VR ι x x') (hy : VR ι y y')
    {cs : List Value} (hxe : x = .agg ⟨cs⟩) {j : Int} (hj : getI y = some j) (h0 : 0 ≤ j ∧ j < n) {u : Value} (hv : cs[j.toNat]? = some u) (hsz : P.cellsOf e = 1) :
    Fine P ι h lo B w u h ((do pure (.value (← Instr.index t x' y')) : Sem Next).run P w) := by
  subst hxe
  obtain ⟨k, rfl⟩ := hy.getI hj
  cases hx with
  | agg hc =>
    obtain ⟨u', hu', r⟩ := hc.get _ u hv
    have hki : (P.info? e).isSome = true := by simp only [known, Bool.and_eq_true] at hk; exact hk.1
    refine ⟨u', w, ι, .inl ?_, Ag.refl _ _, r, hr, Below.refl _ _⟩
    simp [Instr.index, asIntOf, run_underlying hu, h0, sizeOf_run hki, part, aggT_run hk, hagg, hsz, hu']
end
end Go.AH
namespace Go.AH
open Go.RowKit (Below)

def Fr (lo : Nat) (h h' : Heap) : Prop := h.length ≤ h'.length ∧ ∀ b, b < lo → h'[b]? = h[b]?
theorem Fr.refl (lo : Nat) (h : Heap) : Fr lo h h := ⟨Nat.le_refl _, fun _ _ => rfl⟩
theorem Fr.trans {lo : Nat} {a b c : Heap} (h : Fr lo a b) (k : Fr lo b c) : Fr lo a c := ⟨Nat.le_trans h.1 k.1, fun i hi => (k.2 i hi).trans (h.2 i hi)⟩
theorem Fr.push {lo : Nat} {h : Heap} (hl : lo ≤ h.length) (l : List Blk) : Fr lo h (h ++ l) := ⟨by simp, fun b hb => List.getElem?_append_left (by omega)⟩
theorem Fr.set {lo : Nat} {h : Heap} {b : Nat} (hb : lo ≤ b) (x : Blk) : Fr lo h (h.set b x) := ⟨by simp, fun i hi => List.getElem?_set_ne (by omega)⟩
theorem Fr.mono {lo lo' : Nat} {h h' : Heap} (k : Fr lo h h') (hl : lo' ≤ lo) : Fr lo' h h' := ⟨k.1, fun b hb => k.2 b (by omega)⟩

/-- What a call comes to. -/
def Ends (P : Program) (ι : Inj) (h : Heap) (lo B : Nat) (w : World) (r : Value) (h' : Heap) : Ending → World → Prop :=
  fun e w' => ∃ r' ι', e = .returned r' ∧ Ag h.length ι ι' ∧ VR ι' r r' ∧ HR P ι' h' lo B w' ∧ Below B w w'
structure Ok (P : Program) (f : Nat) (sp : Sp) : Prop where
  call : callable P f = true
  fr : ∀ lo args h r h', sp lo args h = some (r, h') → lo ≤ h.length → Fr lo h h'
  run : ∀ lo B args h r h' ι w cargs, sp lo args h = some (r, h') → lo ≤ h.length → HR P ι h lo B w → B ≤ w.heap.size → VRs ι args cargs → Calls P f ⟨cargs⟩ w (Ends P ι h lo B w r h')
def OkΓ (P : Program) (Γ : Ctx) : Prop := ∀ f sp, Γ.get f = some sp → Ok P f sp

theorem OkΓ.nil (P : Program) : OkΓ P [] := fun _ _ h => by cases h
theorem OkΓ.cons {P : Program} {Γ : Ctx} {f : Nat} {sp : Sp} (h : Ok P f sp) (k : OkΓ P Γ) : OkΓ P ((f, sp) :: Γ) := fun g s hg => by
  simp only [Ctx.get] at hg
  split at hg
  · cases hg; subst g; exact h
  · exact k g s hg

section
variable {P : Program} {N : Nat} {ι : Inj} {h h' : Heap} {lo B : Nat} {w : World} {σ : Nat → Value} {a : Act} {v : Value}

/-- What an operation comes to: done, or a call whose end is known. -/
def Good (P : Program) (ι : Inj) (h : Heap) (lo B : Nat) (w : World) (v : Value) (h' : Heap) (r : Result Next) : Prop :=
  Fine P ι h lo B w v h' r ∨ ∃ f cargs, r = .ok (.enter f cargs) w ∧ Calls P f cargs w (Ends P ι h lo B w v h')

theorem Good.upon {o : Oper} {a : Act} {next : Act → World → Prop} {Q : Exit → Act → World → Prop} {r : Result Next} (hf : Good P ι h lo B w v h' r)
    (hn : ∀ v' w' ι', Ag h.length ι ι' → VR ι' v v' → HR P ι' h' lo B w' → Below B w w' → next (a.put o.dst v') w') : o.upon P a next Q r := by
  rcases hf with ⟨v', w', ι', hr, h1, h2, h3, h4⟩ | ⟨f, cargs, rfl, hc⟩
  · rcases hr with rfl | ⟨rfl, rfl, rfl⟩
    · exact hn v' w' ι' h1 h2 h3 h4
    · exact hn undef w' ι' h1 h2 h3 h4
  · rw [Oper.upon_enter]
    refine hc.mono fun e w' ⟨r', ι', he, h1, h2, h3, h4⟩ => ?_
    subst he
    exact hn r' w' ι' h1 h2 h3 h4

theorem callFunc_run {f : FuncId} (hc : callable P f = true) (args : Array Value) (w : World) : (callFunc f args).run P w = .ok (.enter f args) w := by
  unfold callable at hc
  rw [Bool.and_eq_true] at hc
  obtain ⟨_, hc⟩ := hc
  split at hc
  · rename_i fn hf
    simp only [Bool.and_eq_true, Bool.not_eq_true', beq_eq_false_iff_ne] at hc
    obtain ⟨c, hb⟩ := Option.isSome_iff_exists.1 hc.1
    simp [callFunc, hf, hc.2, hb]
  · cases hc

/-- A call of a function whose answer is known. -/
theorem good_call {Γ : Ctx} (hΓ : OkΓ P Γ) (hr : HR P ι h lo B w) (hB : B ≤ w.heap.size) (hlo : lo ≤ h.length) {f : FuncId} {sp : Sp} (hs : Γ.get f = some sp) {args cargs : List Value} (hv : VRs ι args cargs)
    (hsp : sp lo args h = some (v, h')) : Fr lo h h' ∧ Good P ι h lo B w v h' (.ok (.enter f ⟨cargs⟩) w) := by
  have hk := hΓ f sp hs
  exact ⟨hk.fr _ _ _ _ _ hsp hlo, .inr ⟨f, ⟨cargs⟩, rfl, hk.run lo B args h v h' ι w cargs hsp hlo hr hB hv⟩⟩

theorem known_info {t : TypeId} (hk : known P t = true) : (P.info? t).isSome = true := by simp only [known, Bool.and_eq_true] at hk; exact hk.1

theorem isNilConst_spec {y : Operand} (h : isNilConst y = true) : y = .const (.slice none 0 0) := by
  unfold isNilConst at h
  split at h <;> first | rfl | cases h

/-- One operation: what it does in the heap tells what it does in the world. -/
theorem fine_mkE (hr : HR P ι h lo B w) (hB : B ≤ w.heap.size) {t e : TypeId} (hu : P.underlying t = some (.slice e)) (hk : known P e = true) :
    Fine P ι h lo B w emptyV h ((do pure (.value (← Instr.buildSlice t 0 ((#[] : Array (Nat × Operand)).map fun (i, x) => (i, a.eval x)))) : Sem Next).run P w) := by
  have hki : (P.info? e).isSome = true := by simp only [known, Bool.and_eq_true] at hk; exact hk.1
  have hcell : ∀ (x : Addr) (u : Value), w.cell? x = some u → (w.alloc (.cells #[] e)).cell? x = some u := by
    intro x u hx
    have hlt := World.block_lt_of_cell? w x hx
    unfold World.cell? at hx ⊢
    rw [Below.heap_alloc _ _ _ hlt]; exact hx
  refine ⟨.slice (some ⟨w.heap.size, 0, none⟩) 0 0, w.alloc (.cells #[] e), ι, .inl ?_, Ag.refl _ _, .emp _, ?_, (Below.refl _ _).alloc hB _⟩
  · have r0 : (Array.range 0 : Array Nat) = #[] := rfl
    simp [Instr.buildSlice, run_underlying hu, sizeOf_run hki, newRow, Instr.fill, r0]
  · refine ⟨fun b g hb => ⟨(hr.dom b g hb).1, by have := (hr.dom b g hb).2; simp; omega⟩, fun b e' cs g hb hg => ⟨(hr.cell b e' cs g hb hg).1, fun i v hv => ?_⟩, fun b e' cs g h1 hb hg => ?_, hr.apart, fun b e' cs g hb hg hm => ?_⟩
    · obtain ⟨k1, v', k2, k3⟩ := (hr.cell b e' cs g hb hg).2 i v hv
      exact ⟨k1, v', hcell _ _ k2, k3⟩
    · obtain ⟨k1, k2, k3, k6⟩ := hr.own b e' cs g h1 hb hg
      refine ⟨k1, k2, k3, fun hm => ?_⟩
      obtain ⟨cur, k4, k5⟩ := k6 hm
      exact ⟨cur, by rw [Below.heap_alloc _ _ _ (hr.dom b g hg).2]; exact k4, k5⟩
    · obtain ⟨k1, K, k2, k3⟩ := hr.sets b e' cs g hb hg hm
      exact ⟨k1, K, k2, k3.same (Below.heap_alloc _ _ _ (hr.dom b g hg).2)⟩
theorem op_good0 {Γ : Ctx} (hΓ : OkΓ P Γ) (hr : HR P ι h lo B w) (hB : B ≤ w.heap.size) (hlo : lo ≤ h.length) (ht : TR N ι σ a.tmps) {d : Bool} {o : Oper} {p : AOp} (hc : cOp0 P N d o.op = some p)
    (ha : aop Γ lo (ev σ) h p = some (v, h')) : Fr lo h h' ∧ Good P ι h lo B w v h' ((execOp a.eval o).run P w) := by
  obtain ⟨dst, op, type, pos, after, guard⟩ := o
  cases op with
  | move x =>
    simp only [cOp0] at hc
    obtain ⟨y, hy, rfl⟩ := Option.map_eq_some_iff.1 hc
    simp only [aop] at ha; cases ha
    exact ⟨Fr.refl _ _, Or.inl (fine_mv hr ht hy)⟩
  | assign x =>
    simp only [cOp0] at hc
    obtain ⟨y, hy, rfl⟩ := Option.map_eq_some_iff.1 hc
    simp only [aop] at ha; cases ha
    exact ⟨Fr.refl _ _, Or.inl (fine_mv hr ht hy)⟩
  | pick c x y =>
    simp only [cOp0] at hc
    obtain ⟨c', hc', hc⟩ := Option.bind_eq_some_iff.1 hc
    obtain ⟨x', hx', hc⟩ := Option.bind_eq_some_iff.1 hc
    obtain ⟨y', hy', rfl⟩ := Option.map_eq_some_iff.1 hc
    simp only [aop] at ha
    obtain ⟨t, ht', ha⟩ := Option.map_eq_some_iff.1 ha
    cases ha
    refine ⟨Fr.refl _ _, ?_⟩
    have e := (cO_ev ht hc').getB ht'
    have hrun : (execOp a.eval ⟨dst, .pick c x y, type, pos, after, guard⟩).run P w = .ok (.value (if t then a.eval x else a.eval y)) w := by
      simp [execOp, asBool, e]
    rw [hrun]
    refine Or.inl (Fine.pure hr ?_)
    cases t
    · exact cO_ev ht hy'
    · exact cO_ev ht hx'
  | alloc e =>
    simp only [cOp0] at hc
    obtain ⟨z, hz, rfl⟩ := Option.map_eq_some_iff.1 hc
    simp only [aop] at ha; cases ha
    exact ⟨Fr.push hlo _, Or.inl (fine_alloc hr hB hz)⟩
  | box e x =>
    simp only [cOp0] at hc
    obtain ⟨y, hy, rfl⟩ := Option.map_eq_some_iff.1 hc
    simp only [aop] at ha
    split at ha
    · rename_i h1; cases ha
      exact ⟨Fr.push hlo _, Or.inl (fine_box hr hB (cO_ev ht hy) h1)⟩
    · cases ha
  | build t parts =>
    simp only [cOp0] at hc
    split at hc
    · rename_i fs hu
      split at hc
      · rename_i hfs
        obtain ⟨z, hz, hc⟩ := Option.bind_eq_some_iff.1 hc
        obtain ⟨qs, hq, rfl⟩ := Option.map_eq_some_iff.1 hc
        simp only [aop] at ha
        obtain ⟨cs, hcs, ha⟩ := Option.map_eq_some_iff.1 ha
        cases ha
        exact ⟨Fr.refl _ _, Or.inl (fine_build hr ht hu hfs hz hq hcs)⟩
      · cases hc
    · cases hc
  | buildSlice t len parts =>
    simp only [cOp0] at hc
    split at hc
    · rename_i e hu
      split at hc
      · rename_i hd
        obtain ⟨_, rfl, rfl⟩ := hd
        split at hc
        · rename_i hk
          obtain ⟨z, hz, rfl⟩ := Option.map_eq_some_iff.1 hc
          simp only [aop] at ha
          cases ha
          exact ⟨Fr.refl _ _, Or.inl (fine_mkE hr hB hu hk.1)⟩
        · cases hc
      split at hc
      · rename_i hcond
        obtain ⟨z, hz, hc⟩ := Option.bind_eq_some_iff.1 hc
        obtain ⟨qs, hq, rfl⟩ := Option.map_eq_some_iff.1 hc
        simp only [aop] at ha
        obtain ⟨cs, hcs, ha⟩ := Option.bind_eq_some_iff.1 ha
        split at ha
        · rename_i h1
          cases ha
          have hl := fillL_length _ _ _ hcs
          have hm : len ≤ len * P.cellsOf e := Nat.le_mul_of_pos_right _ hcond.2.1
          refine ⟨Fr.push hlo _, Or.inl (fine_mkS hr hB ht hu hcond.1 hcond.2.2 hz hq hcs h1 (by rw [hl]; simp [rowsZ]) (by have := hcond.2.2; simp only [maxLen]; omega))⟩
        · cases ha
      · cases hc
    · cases hc
  | load t x =>
    simp only [cOp0] at hc
    split at hc
    · rename_i hk
      obtain ⟨y, hy, hc⟩ := Option.map_eq_some_iff.1 hc
      have hxy := cO_ev ht hy
      split at hc
      · rename_i hagg
        cases hc
        simp only [aop] at ha
        split at ha
        · rename_i b o hp
          split at ha
          · rename_i e cs hb
            split at ha
            · rename_i hle; cases ha
              exact ⟨Fr.refl _ _, Or.inl (fine_ldn hr hk hagg hxy hp hb hle)⟩
            · cases ha
          · cases ha
        · cases ha
      · rename_i hagg
        cases hc
        simp only [aop] at ha
        split at ha
        · rename_i b o hp
          split at ha
          · rename_i e cs hb
            obtain ⟨u, hu, ha⟩ := Option.map_eq_some_iff.1 ha
            cases ha
            exact ⟨Fr.refl _ _, Or.inl (fine_ld hr hk (by simpa using hagg) hxy hp hb hu)⟩
          · cases ha
        · cases ha
    · cases hc
  | store t x y =>
    simp only [cOp0] at hc
    split at hc
    · rename_i hk
      obtain ⟨x', hx', hc⟩ := Option.bind_eq_some_iff.1 hc
      obtain ⟨y', hy', rfl⟩ := Option.map_eq_some_iff.1 hc
      simp only [aop] at ha
      split at ha
      · rename_i b o hp
        split at ha
        · rename_i e cs hb
          split at ha
          · rename_i hcond; cases ha
            exact ⟨Fr.set hcond.1 _, Or.inl (fine_st hr hk (cO_ev ht hx') (cO_ev ht hy') hp hb hcond.1 hcond.2.1 hcond.2.2.1 hcond.2.2.2)⟩
          · cases ha
        · cases ha
      · cases ha
    · cases hc
  | nilCheck x =>
    simp only [cOp0] at hc
    obtain ⟨y, hy, rfl⟩ := Option.map_eq_some_iff.1 hc
    simp only [aop] at ha
    obtain ⟨⟨b, o⟩, hp, ha⟩ := Option.map_eq_some_iff.1 ha
    cases ha
    obtain ⟨g, hg, e⟩ := (cO_ev ht hy).getP hp
    refine ⟨Fr.refl _ _, ?_⟩
    have hrun : (execOp a.eval ⟨dst, .nilCheck x, type, pos, after, guard⟩).run P w = .ok (.value (.pointer (some ⟨g.c, g.o + o, none⟩))) w := by
      simp [execOp, e]
    rw [hrun]
    exact Or.inl (Fine.pure hr (.ptr hg))
  | binOp op t x y yt =>
    simp only [cOp0] at hc
    split at hc
    · rename_i hu
      obtain ⟨x', hx', hc⟩ := Option.bind_eq_some_iff.1 hc
      obtain ⟨y', hy', rfl⟩ := Option.map_eq_some_iff.1 hc
      simp only [aop] at ha
      obtain ⟨b, hb, ha⟩ := Option.bind_eq_some_iff.1 ha
      obtain ⟨c, hcc, ha⟩ := Option.map_eq_some_iff.1 ha
      cases ha
      exact ⟨Fr.refl _ _, Or.inl (fine_eqB (neg := false) hr rfl hu (cO_ev ht hx') (cO_ev ht hy') hb hcc)⟩
    · rename_i hu
      obtain ⟨x', hx', hc⟩ := Option.bind_eq_some_iff.1 hc
      obtain ⟨y', hy', rfl⟩ := Option.map_eq_some_iff.1 hc
      simp only [aop] at ha
      obtain ⟨b, hb, ha⟩ := Option.bind_eq_some_iff.1 ha
      obtain ⟨c, hcc, ha⟩ := Option.map_eq_some_iff.1 ha
      cases ha
      exact ⟨Fr.refl _ _, Or.inl (fine_eqB (neg := true) hr rfl hu (cO_ev ht hx') (cO_ev ht hy') hb hcc)⟩
    · rename_i e hu
      split at hc
      · rename_i hy
        obtain ⟨x', hx', rfl⟩ := Option.map_eq_some_iff.1 hc
        obtain rfl := isNilConst_spec hy
        simp only [aop] at ha
        obtain ⟨b, hb, ha⟩ := Option.map_eq_some_iff.1 ha
        cases ha
        exact ⟨Fr.refl _ _, Or.inl (fine_eqN (neg := false) hr rfl hu (cO_ev ht hx') hb)⟩
      · cases hc
    · rename_i e hu
      split at hc
      · rename_i hy
        obtain ⟨x', hx', rfl⟩ := Option.map_eq_some_iff.1 hc
        obtain rfl := isNilConst_spec hy
        simp only [aop] at ha
        obtain ⟨b, hb, ha⟩ := Option.map_eq_some_iff.1 ha
        cases ha
        exact ⟨Fr.refl _ _, Or.inl (fine_eqN (neg := true) hr rfl hu (cO_ev ht hx') hb)⟩
      · cases hc
    · obtain ⟨x', hx', hc⟩ := Option.bind_eq_some_iff.1 hc
      obtain ⟨y', hy', rfl⟩ := Option.map_eq_some_iff.1 hc
      simp only [aop] at ha
      obtain ⟨u, hu, ha⟩ := Option.map_eq_some_iff.1 ha
      cases ha
      exact ⟨Fr.refl _ _, Or.inl (fine_bin hr (cO_ev ht hx') (cO_ev ht hy') hu)⟩
  | unOp op t x =>
    simp only [cOp0] at hc
    obtain ⟨x', hx', rfl⟩ := Option.map_eq_some_iff.1 hc
    simp only [aop] at ha
    obtain ⟨u, hu, ha⟩ := Option.map_eq_some_iff.1 ha
    cases ha
    exact ⟨Fr.refl _ _, Or.inl (fine_un hr (cO_ev ht hx') hu)⟩
  | convert s d x =>
    simp only [cOp0] at hc
    split at hc
    · rename_i hs hd
      obtain ⟨x', hx', rfl⟩ := Option.map_eq_some_iff.1 hc
      simp only [aop] at ha
      obtain ⟨n, hn', ha⟩ := Option.map_eq_some_iff.1 ha
      cases ha
      exact ⟨Fr.refl _ _, Or.inl (fine_cvI hr hs hd (cO_ev ht hx') hn')⟩
    · rename_i e hs hd
      split at hc
      · rename_i he
        obtain ⟨x', hx', rfl⟩ := Option.map_eq_some_iff.1 hc
        simp only [aop] at ha
        obtain ⟨cs, hcs, ha⟩ := Option.bind_eq_some_iff.1 ha
        obtain ⟨bs, hbs, ha⟩ := Option.map_eq_some_iff.1 ha
        cases ha
        exact ⟨Fr.refl _ _, Or.inl (fine_cvBS hr hs he hd (cO_ev ht hx') hcs hbs)⟩
      · cases hc
    · cases hc
  | slice t x l r m =>
    cases m with
    | some m => simp [cOp0] at hc
    | none =>
      simp only [cOp0] at hc
      split at hc
      · rename_i e hu
        split at hc
        · rename_i hk
          obtain ⟨x', hx', hc⟩ := Option.bind_eq_some_iff.1 hc
          obtain ⟨l', hl', hc⟩ := Option.bind_eq_some_iff.1 hc
          obtain ⟨r', hr', rfl⟩ := Option.map_eq_some_iff.1 hc
          have hxx := cO_ev ht hx'
          simp only [aop] at ha
          split at ha
          · rename_i ad n c hxe
            rw [hxe] at hxx
            split at ha
            · rename_i li ri hli hri
              split at ha
              · rename_i hcond
                obtain ⟨u, hu', ha⟩ := Option.map_eq_some_iff.1 ha
                cases ha
                exact ⟨Fr.refl _ _, Or.inl (fine_sl hr ht hu hk.1 hk.2 hxx hl' hr' hli hri hcond.1 hcond.2.1 hcond.2.2 hu')⟩
              · cases ha
            · cases ha
          · cases ha
        · cases hc
      · rename_i hu
        obtain ⟨x', hx', hc⟩ := Option.bind_eq_some_iff.1 hc
        obtain ⟨l', hl', hc⟩ := Option.bind_eq_some_iff.1 hc
        obtain ⟨r', hr', rfl⟩ := Option.map_eq_some_iff.1 hc
        have hxx := cO_ev ht hx'
        simp only [aop] at ha
        split at ha
        · rename_i s hxe
          rw [hxe] at hxx
          split at ha
          · rename_i li ri hli hri
            split at ha
            · rename_i hcond
              cases ha
              exact ⟨Fr.refl _ _, Or.inl (fine_slT hr ht hu hxx hl' hr' hli hri hcond.1 hcond.2.1 hcond.2.2)⟩
            · cases ha
          · cases ha
        · cases ha
      · cases hc
  | fieldAddr s x f =>
    simp only [cOp0] at hc
    split at hc
    · rename_i fs hu
      split at hc
      · rename_i fd hf
        split at hc
        · rename_i hk
          obtain ⟨x', hx', rfl⟩ := Option.map_eq_some_iff.1 hc
          simp only [aop] at ha
          obtain ⟨⟨b, o⟩, hp, ha⟩ := Option.map_eq_some_iff.1 ha
          cases ha
          exact ⟨Fr.refl _ _, Or.inl (fine_fa hr hu hf hk.1 hk.2 (cO_ev ht hx') hp)⟩
        · cases hc
      · cases hc
    · cases hc
  | field s x f =>
    simp only [cOp0] at hc
    split at hc
    · rename_i fs hu
      split at hc
      · rename_i fd hf
        split at hc
        · rename_i hk
          obtain ⟨x', hx', hc⟩ := Option.map_eq_some_iff.1 hc
          have hxx := cO_ev ht hx'
          split at hc
          · rename_i hagg
            cases hc
            simp only [aop] at ha
            split at ha
            · rename_i cs hxe
              rw [hxe] at hxx
              split at ha
              · cases ha
                exact ⟨Fr.refl _ _, Or.inl (fine_fldn hr hu hf hk hagg hxx)⟩
              · cases ha
            · cases ha
          · rename_i hagg
            cases hc
            simp only [aop] at ha
            split at ha
            · rename_i cs hxe
              rw [hxe] at hxx
              obtain ⟨u, hu', ha⟩ := Option.map_eq_some_iff.1 ha
              cases ha
              exact ⟨Fr.refl _ _, Or.inl (fine_fld hr hu hf hk (by simpa using hagg) hxx hu')⟩
            · cases ha
        · cases hc
      · cases hc
    · cases hc
  | indexAddr t x i =>
    simp only [cOp0] at hc
    split at hc
    · rename_i e hu
      split at hc
      · rename_i hk
        obtain ⟨x', hx', hc⟩ := Option.bind_eq_some_iff.1 hc
        obtain ⟨i', hi', rfl⟩ := Option.map_eq_some_iff.1 hc
        have hxx := cO_ev ht hx'
        simp only [aop] at ha
        split at ha
        · rename_i b o n c j hxe hj
          rw [hxe] at hxx
          split at ha
          · rename_i hcond
            cases ha
            exact ⟨Fr.refl _ _, Or.inl (fine_ia hr hu hk hxx (cO_ev ht hi') hj hcond.1 hcond.2)⟩
          · cases ha
        · cases ha
      · cases hc
    · cases hc
  | index t x i =>
    simp only [cOp0] at hc
    split at hc
    · rename_i hu
      obtain ⟨x', hx', hc⟩ := Option.bind_eq_some_iff.1 hc
      obtain ⟨i', hi', rfl⟩ := Option.map_eq_some_iff.1 hc
      have hxx := cO_ev ht hx'
      simp only [aop] at ha
      split at ha
      · rename_i s j hxe hj
        rw [hxe] at hxx
        split at ha
        · rename_i hcond
          obtain ⟨u, hu', ha⟩ := Option.map_eq_some_iff.1 ha
          cases ha
          exact ⟨Fr.refl _ _, Or.inl (fine_ix hr hu hxx (cO_ev ht hi') hj hcond hu')⟩
        · cases ha
      · cases ha
    · cases hc
  | makeFunc fn first caps =>
    cases fn <;> simp only [cOp0] at hc <;> first | (cases hc; done) | skip
    rename_i f
    split at hc
    · rename_i hfirst
      obtain ⟨cs, hcs, rfl⟩ := Option.map_eq_some_iff.1 hc
      simp only [aop] at ha; cases ha
      have hf0 : first = #[] := by simpa using hfirst.1
      subst hf0
      refine ⟨Fr.refl _ _, ?_⟩
      have hrun : (execOp a.eval ⟨dst, .makeFunc (.func f) #[] caps, type, pos, after, guard⟩).run P w = .ok (.value (.func (.func f) ⟨[]⟩ ⟨caps.toList.map a.eval⟩)) w := by
        have e : caps.map a.eval = ⟨caps.toList.map a.eval⟩ := by apply Array.ext'; simp
        simp [execOp, Instr.makeFunc, e]
      rw [hrun]
      exact Or.inl (Fine.pure hr (.func _ (.inr fun x => by cases x; exact absurd hfirst.2 (Nat.lt_irrefl _)) .nil (cOs_ev ht hcs)))
    · cases hc
  | extract x i =>
    simp only [cOp0] at hc
    obtain ⟨x', hx', rfl⟩ := Option.map_eq_some_iff.1 hc
    have hxx := cO_ev ht hx'
    simp only [aop] at ha
    split at ha
    · rename_i vs hxe
      rw [hxe] at hxx
      obtain ⟨u, hu, ha⟩ := Option.map_eq_some_iff.1 ha
      cases ha
      exact ⟨Fr.refl _ _, Or.inl (fine_ext hr hxx hu)⟩
    · cases ha
  | makeSlice t l c =>
    simp only [cOp0] at hc
    split at hc
    · rename_i e hu
      split at hc
      · rename_i i z hi hz
        split at hc
        · rename_i hpos
          obtain ⟨l', hl', hc⟩ := Option.bind_eq_some_iff.1 hc
          obtain ⟨c', hc', rfl⟩ := Option.map_eq_some_iff.1 hc
          simp only [aop] at ha
          split at ha
          · rename_i li ci hli hci
            split at ha
            · rename_i hcond
              cases ha
              exact ⟨Fr.push hlo _, Or.inl (fine_mkSl hr hB hu hi hz hpos (cO_ev ht hl') (cO_ev ht hc') hli hci hcond.1 hcond.2.1 hcond.2.2.1 hcond.2.2.2)⟩
            · cases ha
          · cases ha
        · cases hc
      · cases hc
    · cases hc
  | call c =>
    obtain ⟨callee, args, argTypes⟩ := c
    simp only [cOp0, cCall] at hc
    have hmap : args.map a.eval = ⟨args.toList.map a.eval⟩ := by apply Array.ext'; simp
    split at hc
    · -- a function by its name
      rename_i f
      split at hc
      · rename_i hcall
        obtain ⟨as, has, rfl⟩ := Option.map_eq_some_iff.1 hc
        simp only [aop] at ha
        obtain ⟨sp, hs, ha⟩ := Option.bind_eq_some_iff.1 ha
        have hrun : (execOp a.eval ⟨dst, .call ⟨.value (.func f), args, argTypes⟩, type, pos, after, guard⟩).run P w = .ok (.enter f ⟨args.toList.map a.eval⟩) w := by
          simp [execOp, resolve, Act.eval, Deferred.ofValue, invoke, hmap, callFunc_run hcall]
        rw [hrun]
        exact good_call hΓ hr hB hlo hs (cOs_ev ht has) ha
      · cases hc
    · -- a function value
      rename_i t
      obtain ⟨x, hx, hc⟩ := Option.bind_eq_some_iff.1 hc
      obtain ⟨as, has, rfl⟩ := Option.map_eq_some_iff.1 hc
      have hxx := cO_ev ht hx
      simp only [aop] at ha
      split at ha
      · rename_i f cs hxe
        rw [hxe] at hxx
        obtain ⟨sp, hs, ha⟩ := Option.bind_eq_some_iff.1 ha
        have hcall := (hΓ f sp hs).1
        generalize hfv : a.eval (.tmp t) = fv at hxx
        cases hxx with
        | mp _ _ => simp [callable, setF] at hcall
        | func _ _ hfirst hcaps =>
          rename_i as' bs' _
          cases hfirst
          have hrun : (execOp a.eval ⟨dst, .call ⟨.value (.tmp t), args, argTypes⟩, type, pos, after, guard⟩).run P w = .ok (.enter f ⟨args.toList.map a.eval ++ bs'⟩) w := by
            simp [execOp, resolve, hfv, Deferred.ofValue, invoke, hmap, callFunc_run hcall]
          rw [hrun]
          exact good_call hΓ hr hB hlo hs ((cOs_ev ht has).append hcaps) ha
      · cases ha
    · -- len
      split at hc
      · rename_i t x hts has
        have e1 : argTypes = #[t] := by apply Array.ext'; simpa using hts
        have e2 : args = #[x] := by apply Array.ext'; simpa using has
        subst e1; subst e2
        split at hc
        · rename_i e hu
          obtain ⟨x', hx', rfl⟩ := Option.map_eq_some_iff.1 hc
          have hxx := cO_ev ht hx'
          simp only [aop] at ha
          generalize hfv : a.eval x = fv at hxx
          split at ha
          · rename_i ad n c hxe
            cases ha
            rw [hxe] at hxx
            have hfv2 : ∃ ad' c', fv = .slice ad' n c' := by cases hxx <;> exact ⟨_, _, rfl⟩
            obtain ⟨ad', c', rfl⟩ := hfv2
            refine ⟨Fr.refl _ _, ?_⟩
            have hrun : (execOp a.eval ⟨dst, .call ⟨.builtin .len, #[x], #[t]⟩, type, pos, after, guard⟩).run P w = .ok (.value (.int .i64 n)) w := by
              simp [execOp, resolve, invoke, builtin, Builtin.len_, run_underlying hu, hfv, goInt]
            rw [hrun]
            exact Or.inl (Fine.pure hr (.int _ _))
          · cases ha
        · rename_i hu
          obtain ⟨x', hx', rfl⟩ := Option.map_eq_some_iff.1 hc
          have hxx := cO_ev ht hx'
          simp only [aop] at ha
          generalize hfv : a.eval x = fv at hxx
          split at ha
          · rename_i s hxe
            cases ha
            rw [hxe] at hxx
            cases hxx
            refine ⟨Fr.refl _ _, ?_⟩
            have hrun : (execOp a.eval ⟨dst, .call ⟨.builtin .len, #[x], #[t]⟩, type, pos, after, guard⟩).run P w = .ok (.value (.int .i64 s.size)) w := by
              simp [execOp, resolve, invoke, builtin, Builtin.len_, run_underlying hu, hfv, goInt]
            rw [hrun]
            exact Or.inl (Fine.pure hr (.int _ _))
          · cases ha
        · cases hc
      · cases hc
    · -- append
      split at hc
      · rename_i t t' x y hts has
        split at hc
        · rename_i htt
          subst htt
          have e1 : argTypes = #[t, t] := by apply Array.ext'; simpa using hts
          have e2 : args = #[x, y] := by apply Array.ext'; simpa using has
          subst e1; subst e2
          split at hc
          · rename_i e hu
            split at hc
            · rename_i i z hi hz
              split at hc
              · rename_i hpos
                obtain ⟨hpos, hlt⟩ := hpos
                obtain ⟨x', hx', hc⟩ := Option.bind_eq_some_iff.1 hc
                obtain ⟨y', hy', rfl⟩ := Option.map_eq_some_iff.1 hc
                have hxx := cO_ev ht hx'
                have hyy := cO_ev ht hy'
                simp only [aop] at ha
                have hrun : (execOp a.eval ⟨dst, .call ⟨.builtin .append, #[x, y], #[t, t]⟩, type, pos, after, guard⟩) = (do pure (.value (← Builtin.append_ #[t, t] type #[a.eval x, a.eval y])) : Sem Next) := by
                  simp [execOp, resolve, invoke, builtin]
                rw [hrun]
                generalize a.eval x = fvx at hxx
                generalize a.eval y = fvy at hyy
                split at ha
                · rename_i ad n c ad2 m c2 hxe hye
                  split at ha
                  · rename_i xs ys hxs hys
                    split at ha
                    · rename_i hcond
                      rw [hxe] at hxx hxs
                      split at ha
                      · have hn0 : n = 0 ∧ c = 0 := by cases hxx; exact ⟨rfl, rfl⟩
                        obtain ⟨rfl, rfl⟩ := hn0
                        have hfine := fine_app_nil hr hB hu hi hz hxx hyy hys hye (by simpa using hcond.1) (by simpa using hcond.2) type
                        simp only [rdS] at hxs; cases hxs
                        by_cases hm0 : m = 0
                        · simp only [hm0, if_true] at ha hfine; cases ha
                          exact ⟨Fr.refl _ _, Or.inl hfine⟩
                        · simp only [hm0, if_false] at ha hfine; cases ha
                          simp only [Nat.zero_add, List.nil_append]
                          exact ⟨Fr.push hlo _, Or.inl hfine⟩
                      · rename_i bb oo ss
                        have hn0 : n = 0 := by cases hxx; rfl
                        subst hn0
                        have hfine := fine_app_emp hr hB hu hi hz hxx hyy hys hye (by simpa using hcond.1) (by simpa using hcond.2) type
                        simp only [rdS] at hxs; cases hxs
                        rw [hxe] at ha
                        by_cases hm0 : m = 0
                        · simp only [hm0, if_true] at ha hfine; cases ha
                          exact ⟨Fr.refl _ _, Or.inl hfine⟩
                        · simp only [hm0, if_false] at ha hfine; cases ha
                          simp only [Nat.zero_add, List.nil_append]
                          exact ⟨Fr.push hlo _, Or.inl hfine⟩
                      · rename_i b
                        split at ha
                        · rename_i e' bs hb
                          split at ha
                          · rename_i hcond2
                            obtain ⟨hlob, rfl⟩ := hcond2
                            cases ha
                            exact ⟨(Fr.set hlob _).trans (Fr.push (by simpa using hlo) _), Or.inl (fine_app_some hr hB hu hi hz hpos hxx hyy hxs hys hye hcond.1 hcond.2 hb hlob type hlt)⟩
                          · cases ha
                        · cases ha
                      · cases ha
                    · cases ha
                  · cases ha
                · cases ha
              · cases hc
            · cases hc
          · cases hc
        · cases hc
      · cases hc
    · cases hc
  | _ => exact absurd hc (by simp [cOp0])

theorem op_goodY {Γ : Ctx} (hr : HR P ι h lo B w) (hB : B ≤ w.heap.size) (hlo : lo ≤ h.length) (ht : TR N ι σ a.tmps) {o : Oper} {p : AOp} (hc : cOpY P N o.op = some p)
    (ha : aop Γ lo (ev σ) h p = some (v, h')) : Fr lo h h' ∧ Good P ι h lo B w v h' ((execOp a.eval o).run P w) := by
  obtain ⟨dst, op, type, pos, after, guard⟩ := o
  simp only at hc
  unfold cOpY at hc
  split at hc
  · -- a new map
    rename_i t
    split at hc
    · rename_i kt et hu
      split at hc
      · obtain ⟨n, hn, rfl⟩ := Option.map_eq_some_iff.1 hc
        simp only [aop] at ha; cases ha
        refine ⟨Fr.push hlo _, Or.inl ?_⟩
        have := fine_mkM hr hB t
        simpa [execOp] using this
      · cases hc
    · cases hc
  · rename_i t x k
    split at hc
    · rename_i kt et hu
      split at hc
      · rename_i hz
        obtain ⟨n, hn, hc⟩ := Option.bind_eq_some_iff.1 hc
        obtain ⟨x', hx', hc⟩ := Option.bind_eq_some_iff.1 hc
        obtain ⟨k', hk', rfl⟩ := Option.map_eq_some_iff.1 hc
        simp only [aop] at ha
        split at ha
        · rename_i b hb
          split at ha
          · rename_i e cs hh
            split at ha
            · rename_i K l hK hl
              split at ha
              · rename_i hcond
                cases ha
                refine ⟨Fr.refl _ _, Or.inl ?_⟩
                have := fine_getM hr hu hn hz (cO_ev ht hx') (cO_ev ht hk') hb hh hK hl hcond.1 hcond.2
                simpa [execOp] using this
              · cases ha
            · cases ha
          · cases ha
        · cases ha
      · cases hc
    · cases hc
  · rename_i t x k
    split at hc
    · rename_i kt et hu
      split at hc
      · rename_i hz
        obtain ⟨n, hn, hc⟩ := Option.bind_eq_some_iff.1 hc
        obtain ⟨x', hx', hc⟩ := Option.bind_eq_some_iff.1 hc
        obtain ⟨k', hk', rfl⟩ := Option.map_eq_some_iff.1 hc
        simp only [aop] at ha
        split at ha
        · rename_i b hb
          split at ha
          · rename_i e cs hh
            split at ha
            · rename_i K l hK hl
              split at ha
              · rename_i hcond
                cases ha
                refine ⟨Fr.set hcond.1 _, Or.inl ?_⟩
                have := fine_putM hr hu hn (cO_ev ht hx') (cO_ev ht hk') hb hh hcond.1 hK hl hcond.2.1 hcond.2.2
                simpa [execOp, Act.eval] using this
              · cases ha
            · cases ha
          · cases ha
        · cases ha
      · cases hc
    · cases hc
  · rename_i t x yt
    split at hc
    · rename_i e hu
      obtain ⟨x', hx', rfl⟩ := Option.map_eq_some_iff.1 hc
      simp only [aop] at ha
      obtain ⟨b, hb, ha⟩ := Option.map_eq_some_iff.1 ha
      cases ha
      refine ⟨Fr.refl _ _, Or.inl ?_⟩
      have := fine_eqP (neg := false) (x := x) (y := .const (.pointer none)) hr rfl hu (cO_ev ht hx') hb
      simpa [execOp, Act.eval] using this
    · cases hc
  · rename_i t x yt
    split at hc
    · rename_i e hu
      obtain ⟨x', hx', rfl⟩ := Option.map_eq_some_iff.1 hc
      simp only [aop] at ha
      obtain ⟨b, hb, ha⟩ := Option.map_eq_some_iff.1 ha
      cases ha
      refine ⟨Fr.refl _ _, Or.inl ?_⟩
      have := fine_eqP (neg := true) (x := x) (y := .const (.pointer none)) hr rfl hu (cO_ev ht hx') hb
      simpa [execOp, Act.eval] using this
    · cases hc
  · rename_i t x i
    split at hc
    · rename_i n e hu
      split at hc
      · rename_i hk
        obtain ⟨x', hx', hc⟩ := Option.bind_eq_some_iff.1 hc
        obtain ⟨i', hi', rfl⟩ := Option.map_eq_some_iff.1 hc
        simp only [aop] at ha
        split at ha
        · rename_i cs j hxe hj
          split at ha
          · rename_i hcond
            obtain ⟨u, hu', ha⟩ := Option.map_eq_some_iff.1 ha
            cases ha
            refine ⟨Fr.refl _ _, Or.inl ?_⟩
            have := fine_ixA hr hu hk.1 hk.2.1 (cO_ev ht hx') (cO_ev ht hi') hxe hj hcond hu' hk.2.2
            simpa [execOp] using this
          · cases ha
        · cases ha
      · cases hc
    · cases hc
  · rename_i t parts
    split at hc
    · rename_i n e hu
      split at hc
      · rename_i hk
        obtain ⟨z, hz, hc⟩ := Option.bind_eq_some_iff.1 hc
        obtain ⟨qs, hq, rfl⟩ := Option.map_eq_some_iff.1 hc
        simp only [aop] at ha
        obtain ⟨cs, hcs, ha⟩ := Option.map_eq_some_iff.1 ha
        cases ha
        exact ⟨Fr.refl _ _, Or.inl (fine_buildA hr ht hu hk hz hq hcs)⟩
      · cases hc
    · cases hc
  · cases hc

theorem op_good {Γ : Ctx} (hΓ : OkΓ P Γ) (hr : HR P ι h lo B w) (hB : B ≤ w.heap.size) (hlo : lo ≤ h.length) (ht : TR N ι σ a.tmps) {d : Bool} {o : Oper} {p : AOp} (hc : cOp P N d o.op = some p)
    (ha : aop Γ lo (ev σ) h p = some (v, h')) : Fr lo h h' ∧ Good P ι h lo B w v h' ((execOp a.eval o).run P w) := by
  unfold cOp at hc
  split at hc
  · rename_i p' hx
    cases hc
    obtain ⟨dst, op, type, pos, after, guard⟩ := o
    simp only at hx
    unfold cOpX at hx
    split at hx
    · rename_i t x y yt
      split at hx
      · rename_i hcond
        obtain ⟨ks, hks, hx⟩ := Option.bind_eq_some_iff.1 hx
        obtain ⟨x', hx', hx⟩ := Option.bind_eq_some_iff.1 hx
        obtain ⟨y', hy', rfl⟩ := Option.map_eq_some_iff.1 hx
        simp only [aop] at ha
        split at ha
        · rename_i xs ys ex ey
          obtain ⟨b, hb, ha⟩ := Option.map_eq_some_iff.1 ha
          cases ha
          exact ⟨Fr.refl _ _, Or.inl (fine_eqS (neg := false) hr rfl hcond.1 hcond.2 hks (cO_ev ht hx') (cO_ev ht hy') ex ey hb)⟩
        · cases ha
      · cases hx
    · rename_i t x y yt
      split at hx
      · rename_i hcond
        obtain ⟨ks, hks, hx⟩ := Option.bind_eq_some_iff.1 hx
        obtain ⟨x', hx', hx⟩ := Option.bind_eq_some_iff.1 hx
        obtain ⟨y', hy', rfl⟩ := Option.map_eq_some_iff.1 hx
        simp only [aop] at ha
        split at ha
        · rename_i xs ys ex ey
          obtain ⟨b, hb, ha⟩ := Option.map_eq_some_iff.1 ha
          cases ha
          exact ⟨Fr.refl _ _, Or.inl (fine_eqS (neg := true) hr rfl hcond.1 hcond.2 hks (cO_ev ht hx') (cO_ev ht hy') ex ey hb)⟩
        · cases ha
      · cases hx
    · rename_i c
      obtain ⟨callee, args, argTypes⟩ := c
      simp only at hx
      split at hx
      · rename_i x y has
        have e2 : args = #[x, y] := by apply Array.ext'; simpa using has
        subst e2
        obtain ⟨x', hx', hx⟩ := Option.bind_eq_some_iff.1 hx
        obtain ⟨y', hy', rfl⟩ := Option.map_eq_some_iff.1 hx
        simp only [aop] at ha
        split at ha
        · rename_i k a1 k' b1 ex ey
          cases ha
          refine ⟨Fr.refl _ _, Or.inl ?_⟩
          have := fine_mm (mx := true) (ts := argTypes) (ty := type) hr (cO_ev ht hx') (cO_ev ht hy') ex ey
          simpa [execOp, resolve, invoke, builtin] using this
        · cases ha
      · rename_i x y has
        have e2 : args = #[x, y] := by apply Array.ext'; simpa using has
        subst e2
        obtain ⟨x', hx', hx⟩ := Option.bind_eq_some_iff.1 hx
        obtain ⟨y', hy', rfl⟩ := Option.map_eq_some_iff.1 hx
        simp only [aop] at ha
        split at ha
        · rename_i k a1 k' b1 ex ey
          cases ha
          refine ⟨Fr.refl _ _, Or.inl ?_⟩
          have := fine_mm (mx := false) (ts := argTypes) (ty := type) hr (cO_ev ht hx') (cO_ev ht hy') ex ey
          simpa [execOp, resolve, invoke, builtin] using this
        · cases ha
      · rename_i t x hts has
        have e1 : argTypes = #[t] := by apply Array.ext'; simpa using hts
        have e2 : args = #[x] := by apply Array.ext'; simpa using has
        subst e1; subst e2
        split at hx
        · rename_i e hu
          obtain ⟨x', hx', rfl⟩ := Option.map_eq_some_iff.1 hx
          have hxx := cO_ev ht hx'
          have run : ∀ ad, a.eval x = .slice ad 0 0 → (execOp a.eval ⟨dst, .call ⟨.builtin .cap, #[x], #[t]⟩, type, pos, after, guard⟩).run P w = .ok (.value (.int .i64 0)) w := by
            intro ad hfv
            simp [execOp, resolve, invoke, builtin, Builtin.cap_, run_underlying hu, hfv, goInt]
          simp only [aop] at ha
          split at ha
          · rename_i hxe
            cases ha
            rw [hxe] at hxx
            refine ⟨Fr.refl _ _, ?_⟩
            generalize hfv : a.eval x = fv at hxx
            cases hxx
            rw [run _ hfv]
            exact Or.inl (Fine.pure hr (.int _ _))
          · rename_i hxe
            cases ha
            rw [hxe] at hxx
            refine ⟨Fr.refl _ _, ?_⟩
            generalize hfv : a.eval x = fv at hxx
            cases hxx
            rw [run _ hfv]
            exact Or.inl (Fine.pure hr (.int _ _))
          · cases ha
        · cases hx
      · rename_i t t' x y hts has
        have e1 : argTypes = #[t, t'] := by apply Array.ext'; simpa using hts
        have e2 : args = #[x, y] := by apply Array.ext'; simpa using has
        subst e1; subst e2
        split at hx
        · rename_i e hu
          split at hx
          · rename_i hk
            obtain ⟨x', hx', hx⟩ := Option.bind_eq_some_iff.1 hx
            obtain ⟨y', hy', rfl⟩ := Option.map_eq_some_iff.1 hx
            have hxx := cO_ev ht hx'
            have hyy := cO_ev ht hy'
            simp only [aop] at ha
            split at ha
            · rename_i b o n c ad m c2 hxe hye
              split at ha
              · rename_i ys e' cs hys hb
                split at ha
                · rename_i hcond
                  cases ha
                  rw [hxe] at hxx
                  refine ⟨Fr.set hcond.1 _, Or.inl ?_⟩
                  have := fine_cpy (t' := t') hr hu hk hxx hyy hye hys hb hcond.1 hcond.2 type
                  simpa [execOp, resolve, invoke, builtin] using this
                · cases ha
              · cases ha
            · cases ha
          · cases hx
        · cases hx
      · rename_i t t' x y hts has
        have e1 : argTypes = #[t, t'] := by apply Array.ext'; simpa using hts
        have e2 : args = #[x, y] := by apply Array.ext'; simpa using has
        subst e1; subst e2
        split at hx
        · rename_i e kn hu hun
          split at hx
          · rename_i i z hi hz
            split at hx
            · rename_i hpos
              obtain ⟨x', hx', hx⟩ := Option.bind_eq_some_iff.1 hx
              obtain ⟨y', hy', rfl⟩ := Option.map_eq_some_iff.1 hx
              simp only [aop] at ha
              split at ha
              · rename_i n hn
                split at ha
                · rename_i hcond
                  cases ha
                  refine ⟨Fr.push hlo _, Or.inl ?_⟩
                  have := fine_apz hr hB hu hun hi hz hpos (cO_ev ht hx') (cO_ev ht hy') hcond.1 hn hcond.2.1 hcond.2.2.1 hcond.2.2.2 type
                  simpa [execOp, resolve, invoke, builtin] using this
                · cases ha
              · cases ha
            · cases hx
          · cases hx
        · cases hx
      · cases hx
    · cases hx
  · split at hc
    · rename_i p' hy
      cases hc
      exact op_goodY hr hB hlo ht hy ha
    split at hc
    · cases hc
    cases hc
    cases h0 : cOp0 P N d o.op with
    | none => rw [h0] at ha; simp [aop] at ha
    | some p' => rw [h0] at ha; exact op_good0 hΓ hr hB hlo ht h0 ha
end
end Go.AH
namespace Go.AH
open Go.RowKit (Below)

structure SR (P : Program) (N : Nat) (ι : Inj) (lo B : Nat) (s : St) (a : Act) (w : World) : Prop where
  tmps : TR N ι s.σ a.tmps
  heap : HR P ι s.h lo B w
  base : B ≤ w.heap.size
  low : lo ≤ s.h.length
  defers : a.defers = []

section
variable {P : Program} {N : Nat} {Γ : Ctx} {lo B : Nat}

theorem SR.put {ι : Inj} {s : St} {a : Act} {w : World} (h : SR P N ι lo B s a w) {ι' : Inj} {d : Option Tmp} (hd : cDst N d = true) {v v' : Value} {h' : Heap} {w' : World} (he : Ext ι ι') (hv : VR ι' v v') (hh : HR P ι' h' lo B w') (hw : Below B w w')
    (hl : lo ≤ h'.length) : SR P N ι' lo B ⟨putO s.σ d v, h'⟩ (a.put d v') w' :=
  ⟨(h.tmps.mono he).put hd hv, hh, Nat.le_trans h.base hw.size, hl, by cases d <;> simpa [Act.put] using h.defers⟩

theorem wants_eq {ι : Inj} {σ : Nat → Value} {a : Act} (ht : TR N ι σ a.tmps) {ops : Array Oper} {o : Oper} {g : Option (Nat × Bool)} (hg : cGuard N ops o.guard = some g) :
    Region.wanted o (yielded ops a.tmps) = wants σ g := by
  unfold Region.wanted
  cases hgd : o.guard with
  | none => rw [hgd] at hg; simp only [cGuard] at hg; cases hg; rfl
  | some jb =>
    obtain ⟨j, b⟩ := jb
    rw [hgd] at hg
    simp only [cGuard] at hg
    split at hg
    · rename_i d hd
      split at hg
      · rename_i hlt
        cases hg
        have hr := ht.2 d hlt
        have hsz : d < a.tmps.size := Nat.lt_of_lt_of_le hlt ht.1
        simp only [wants, yielded, hd]
        have hgd2 : a.tmps.getD d undef = a.tmps[d] := by simp [hsz]
        rw [hgd2] at hr
        have hget : a.tmps[d]? = some a.tmps[d] := by simp [hsz]
        generalize a.tmps[d] = y at hr hget
        generalize σ d = x at hr
        cases hr <;> simp [hget]
      · cases hg
    · cases hg

theorem cOper_spec {d : Bool} {ops : Array Oper} {o : Oper} {x : AO} (h : cOper P N d ops o = some x) : cDst N o.dst = true ∧ x.d = o.dst ∧ cOp P N d o.op = some x.op ∧ cGuard N ops o.guard = some x.g := by
  unfold cOper at h
  split at h
  · rename_i hd
    obtain ⟨p, hp, h⟩ := Option.bind_eq_some_iff.1 h
    obtain ⟨g, hg, rfl⟩ := Option.map_eq_some_iff.1 h
    exact ⟨hd, rfl, hp, hg⟩
  · cases h

theorem rops_sound (hΓ : OkΓ P Γ) {d : Bool} {ops : Array Oper} {Q : Exit → Act → World → Prop} {K : St → Prop} : ∀ (l : List Oper) (os : List AO) (ι : Inj) (s : St) (a : Act) (w : World), cOpers P N d ops l = some os → SR P N ι lo B s a w → rops Γ lo os K s →
    (∀ s' a' w' ι', Ag s.h.length ι ι' → Fr lo s.h s'.h → SR P N ι' lo B s' a' w' → Below B w w' → K s' → Q .normal a' w') → wpList P ops Q l a w
  | [], os, ι, s, a, w, hc, hs, hr, hq => by
    cases hc
    exact hq s a w ι (Ag.refl _ _) (Fr.refl _ _) hs (Below.refl _ _) hr
  | o :: l, os, ι, s, a, w, hc, hs, hr, hq => by
    simp only [cOpers] at hc
    obtain ⟨x, hx, hc⟩ := Option.bind_eq_some_iff.1 hc
    obtain ⟨os', hos, rfl⟩ := Option.map_eq_some_iff.1 hc
    obtain ⟨hd, hxd, hop, hg⟩ := cOper_spec hx
    simp only [rops] at hr
    split at hr
    · rename_i s' hst
      unfold wpList
      rw [wants_eq hs.tmps hg]
      unfold stepO at hst
      by_cases hw : wants s.σ x.g = true
      · rw [if_pos hw] at hst
        rw [if_pos hw]
        obtain ⟨⟨v, h'⟩, ha, hst⟩ := Option.map_eq_some_iff.1 hst
        simp only [] at hst
        subst hst
        have hfr := op_good (a := a) hΓ hs.heap hs.base hs.low hs.tmps hop ha
        left
        refine hfr.2.upon ?_
        intro v' w' ι' h1 h2 h3 h4
        refine rops_sound hΓ l os' ι' _ _ _ hos (hs.put hd (hs.heap.ext h1) h2 h3 h4 (Nat.le_trans hs.low hfr.1.1)) (by rw [hxd] at hr; exact hr) ?_
        intro s' a' w'' ι'' k1 k0 k2 k3 k4
        exact hq s' a' w'' ι'' (h1.trans hfr.1.1 k1) (hfr.1.trans k0) k2 (h4.trans k3) k4
      · rw [if_neg hw] at hst
        rw [if_neg hw]
        cases hst
        refine rops_sound hΓ l os' ι _ _ _ hos (hs.put hd (Ext.refl _) VR.undef hs.heap (Below.refl _ _) hs.low) (by rw [hxd] at hr; exact hr) hq
    · exact hr.elim

/-- A loop, by a number that falls. -/
theorem wp_loop_nat {c : Code} {Q : Exit → Act → World → Prop} (R : Nat → Act → World → Prop) (n : Nat) {a : Act} {w : World} (h0 : R n a w)
    (round : ∀ n a w, R n a w → c.wp P (Exit.then (fun a' w' => ∃ m, m < n ∧ R m a' w') Q) a w) : (Code.loop c).wp P Q a w := by
  intro b k cs
  have key : ∀ n a w, R n a w → ∃ e a' w', Q e a' w' ∧ Arrives P (lone (b.at a (.code c :: .inLoop c :: k)) cs w) b k cs e a' w' := by
    intro n
    induction n using Nat.strongRecOn with
    | _ n ih =>
      intro a w hR
      obtain ⟨e, a1, w1, hq, harr⟩ := round n a w hR b (.inLoop c :: k) cs
      cases e with
      | normal =>
        obtain ⟨m, hm, hRm⟩ := hq
        obtain ⟨e2, a2, w2, hq2, harr2⟩ := ih m hm a1 w1 hRm
        exact ⟨e2, a2, w2, hq2, .of_steps (Steps.trans harr (.one step_inLoop)) harr2⟩
      | exit id => exact ⟨_, a1, w1, hq, .pass (x := .inLoop c) rfl (fun _ _ => .inl (by simp)) harr⟩
      | goto l => exact ⟨_, a1, w1, hq, .pass (x := .inLoop c) rfl (fun _ _ => .inl (by simp)) harr⟩
      | ret => exact ⟨_, a1, w1, hq, .pass (x := .inLoop c) rfl (fun _ _ => .inl (by simp)) harr⟩
      | panic ch => exact ⟨_, a1, w1, hq, .pass (x := .inLoop c) rfl (fun _ _ => .inl (by simp)) harr⟩
      | outgrown => exact ⟨_, a1, w1, hq, .pass (x := .inLoop c) rfl (fun _ _ => .inl (by simp)) harr⟩
  obtain ⟨e, a', w', hq, harr⟩ := key n a w h0
  exact ⟨e, a', w', hq, .of_steps (.one step_loop) harr⟩

end
end Go.AH
