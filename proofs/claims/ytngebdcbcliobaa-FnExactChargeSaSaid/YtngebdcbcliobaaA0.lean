/- A logic over abstract memory: values, heaps, and how they stand to the model's world. Own work; imports the kit's library alone. -/
import Derived.Orders
import Derived.Below
import Derived.Laws.AppendOwn
import Derived.Laws.Sem
import Derived.Laws.World
import Derived.Laws.Cells
import Derived.KernelRfl
namespace Go.AH
open Go.RowKit (Below)

inductive Blk where
  | cells (e : TypeId) (cs : List Value)
  | dead
abbrev Heap := List Blk

/-- Where an abstract block lies: the world's block, the first cell, how many cells that block has, and how many cells an element has. -/
structure Img where
  c : Nat
  o : Nat
  n : Nat
  z : Nat
abbrev Inj := Nat → Option Img

mutual
inductive VR (ι : Inj) : Value → Value → Prop
  | bool (b) : VR ι (.bool b) (.bool b)
  | int (k n) : VR ι (.int k n) (.int k n)
  | float (k n) : VR ι (.float k n) (.float k n)
  | string (s) : VR ι (.string s) (.string s)
  | nilp : VR ι (.pointer none) (.pointer none)
  | ptr {b off g} : ι b = some g → VR ι (.pointer (some ⟨b, off, none⟩)) (.pointer (some ⟨g.c, g.o + off, none⟩))
  | nils : VR ι (.slice none 0 0) (.slice none 0 0)
  | sl {b off g len cap cap'} : ι b = some g → len ≤ cap' → cap' ≤ maxLen → (g.o + off = 0 → cap' * g.z = g.n) →
      VR ι (.slice (some ⟨b, off, none⟩) len cap) (.slice (some ⟨g.c, g.o + off, none⟩) len cap')
  | sl0 {b off g cap} (x) : ι b = some g → VR ι (.slice (some ⟨b, off, none⟩) 0 cap) (.slice (some x) 0 0)
  | emp {b off s cap} (x) : VR ι (.slice (some ⟨b, off, some s⟩) 0 cap) (.slice (some x) 0 0)
  | func (fn) {as as' bs bs'} : VRs ι as as' → VRs ι bs bs' → VR ι (.func fn ⟨as⟩ ⟨bs⟩) (.func fn ⟨as'⟩ ⟨bs'⟩)
  | nilf : VR ι .nilFunc .nilFunc
  | iface (t) {v v'} : VR ι v v' → VR ι (.iface t v) (.iface t v')
  | nili : VR ι .nilIface .nilIface
  | agg {cs cs'} : VRs ι cs cs' → VR ι (.agg ⟨cs⟩) (.agg ⟨cs'⟩)
  | tuple {cs cs'} : VRs ι cs cs' → VR ι (.tuple ⟨cs⟩) (.tuple ⟨cs'⟩)
inductive VRs (ι : Inj) : List Value → List Value → Prop
  | nil : VRs ι [] []
  | cons {v v' vs vs'} : VR ι v v' → VRs ι vs vs' → VRs ι (v :: vs) (v' :: vs')
end

theorem VR.undef {ι : Inj} : VR ι undef undef := .tuple .nil

def Ext (ι ι' : Inj) : Prop := ∀ b g, ι b = some g → ι' b = some g
theorem Ext.refl (ι : Inj) : Ext ι ι := fun _ _ h => h
/-- The same below n. -/
def Ag (n : Nat) (ι ι' : Inj) : Prop := ∀ b, b < n → ι' b = ι b
theorem Ag.refl (n : Nat) (ι : Inj) : Ag n ι ι := fun _ _ => rfl
theorem Ag.trans {n m : Nat} {a b c : Inj} (h : Ag n a b) (hm : n ≤ m) (k : Ag m b c) : Ag n a c := fun i hi => (k i (by omega)).trans (h i hi)
theorem Ext.trans {a b c : Inj} (h : Ext a b) (k : Ext b c) : Ext a c := fun _ _ e => k _ _ (h _ _ e)

mutual
theorem VR.mono {ι ι' : Inj} (h : Ext ι ι') {v v' : Value} (r : VR ι v v') : VR ι' v v' := by
  cases r with
  | bool b => exact .bool b
  | int k n => exact .int k n
  | float k n => exact .float k n
  | string s => exact .string s
  | nilp => exact .nilp
  | ptr e => exact .ptr (h _ _ e)
  | nils => exact .nils
  | sl e a b c => exact .sl (h _ _ e) a b c
  | sl0 x e => exact .sl0 x (h _ _ e)
  | emp x => exact .emp x
  | func fn x y => exact .func fn (VRs.mono h x) (VRs.mono h y)
  | nilf => exact .nilf
  | iface t x => exact .iface t (VR.mono h x)
  | nili => exact .nili
  | agg x => exact .agg (VRs.mono h x)
  | tuple x => exact .tuple (VRs.mono h x)
theorem VRs.mono {ι ι' : Inj} (h : Ext ι ι') {v v' : List Value} (r : VRs ι v v') : VRs ι' v v' := by
  cases r with
  | nil => exact .nil
  | cons a b => exact .cons (VR.mono h a) (VRs.mono h b)
end

theorem VRs.length {ι : Inj} {l l' : List Value} (h : VRs ι l l') : l.length = l'.length := by
  induction l generalizing l' with
  | nil => cases h; rfl
  | cons a l ih => cases h with | cons _ t => simp [ih t]

theorem VRs.get {ι : Inj} {l l' : List Value} (h : VRs ι l l') (i : Nat) (v : Value) (hv : l[i]? = some v) : ∃ v', l'[i]? = some v' ∧ VR ι v v' := by
  induction l generalizing l' i with
  | nil => simp at hv
  | cons a l ih =>
    cases h with
    | cons ha t =>
      cases i with
      | zero => simp at hv; subst hv; exact ⟨_, rfl, ha⟩
      | succ i => simp at hv; simpa using ih t i hv

theorem VRs.of_get {ι : Inj} {l l' : List Value} (hl : l.length = l'.length) (h : ∀ (i : Nat) (v v' : Value), l[i]? = some v → l'[i]? = some v' → VR ι v v') : VRs ι l l' := by
  induction l generalizing l' with
  | nil => cases l' with | nil => exact .nil | cons => simp at hl
  | cons a l ih =>
    cases l' with
    | nil => simp at hl
    | cons a' l' => exact .cons (h 0 _ _ rfl rfl) (ih (by simpa using hl) fun i v v' x y => h (i + 1) v v' (by simpa using x) (by simpa using y))

theorem VRs.append {ι : Inj} {a a' b b' : List Value} (h : VRs ι a a') (k : VRs ι b b') : VRs ι (a ++ b) (a' ++ b') := by
  induction a generalizing a' with
  | nil => cases h; exact k
  | cons x a ih => cases h with | cons p q => exact .cons p (ih q)

theorem VRs.drop {ι : Inj} {a a' : List Value} (h : VRs ι a a') (n : Nat) : VRs ι (a.drop n) (a'.drop n) := by
  induction n generalizing a a' with
  | zero => simpa
  | succ n ih => cases h with | nil => simpa using VRs.nil | cons p q => simpa using ih q

theorem VRs.take {ι : Inj} {a a' : List Value} (h : VRs ι a a') (n : Nat) : VRs ι (a.take n) (a'.take n) := by
  induction n generalizing a a' with
  | zero => simpa using VRs.nil
  | succ n ih => cases h with | nil => simpa using VRs.nil | cons p q => simpa using VRs.cons p (ih q)

theorem VRs.set {ι : Inj} {a a' : List Value} (h : VRs ι a a') (i : Nat) {v v' : Value} (hv : VR ι v v') : VRs ι (a.set i v) (a'.set i v') := by
  induction a generalizing a' i with
  | nil => cases h; simpa using VRs.nil
  | cons x a ih => cases h with | cons p q => cases i with | zero => exact .cons hv q | succ i => exact .cons p (ih q i)

theorem VRs.map {ι : Inj} {α : Type} (l : List α) (f f' : α → Value) (h : ∀ x ∈ l, VR ι (f x) (f' x)) : VRs ι (l.map f) (l.map f') := by
  induction l with
  | nil => exact .nil
  | cons a l ih => exact .cons (h _ (by simp)) (ih fun x hx => h x (by simp [hx]))

theorem VRs.replicate {ι : Inj} {v v' : Value} (h : VR ι v v') (n : Nat) : VRs ι (List.replicate n v) (List.replicate n v') := by
  induction n with
  | zero => exact .nil
  | succ n ih => exact .cons h ih

/-- Values without an address: the same in both. -/
def plainV : Value → Bool
  | .bool _ | .int _ _ | .float _ _ | .string _ | .pointer none | .slice none 0 0 | .nilFunc | .nilIface => true
  | .func _ ⟨[]⟩ ⟨[]⟩ => true
  | _ => false
def closedV : Value → Bool
  | .agg ⟨cs⟩ => cs.all plainV
  | .tuple ⟨[]⟩ => true
  | v => plainV v
theorem VR.plain {ι : Inj} {v : Value} (h : plainV v = true) : VR ι v v := by
  unfold plainV at h
  split at h <;> first | exact absurd h (by decide) | (constructor <;> constructor) | constructor
theorem VRs.plain {ι : Inj} {l : List Value} (h : l.all plainV = true) : VRs ι l l := by
  induction l with
  | nil => exact .nil
  | cons a l ih => simp at h; exact .cons (VR.plain h.1) (ih (by simpa using h.2))
theorem VR.closed {ι : Inj} {v : Value} (h : closedV v = true) : VR ι v v := by
  unfold closedV at h
  split at h
  · exact .agg (VRs.plain h)
  · exact .tuple .nil
  · exact VR.plain h

def cellsL (v : Value) : List Value := v.cells.toList
theorem VR.cells {ι : Inj} {v v' : Value} (h : VR ι v v') : VRs ι (cellsL v) (cellsL v') := by
  cases h with
  | agg x => exact x
  | ptr e => exact .cons (.ptr e) .nil
  | sl e a b c => exact .cons (.sl e a b c) .nil
  | sl0 x e => exact .cons (.sl0 x e) .nil
  | emp x => exact .cons (.emp x) .nil
  | func fn x y => exact .cons (.func fn x y) .nil
  | iface t x => exact .cons (.iface t x) .nil
  | tuple x => exact .cons (.tuple x) .nil
  | bool => exact .cons (.bool _) .nil
  | int => exact .cons (.int _ _) .nil
  | float => exact .cons (.float _ _) .nil
  | string => exact .cons (.string _) .nil
  | nilp => exact .cons .nilp .nil
  | nils => exact .cons .nils .nil
  | nilf => exact .cons .nilf .nil
  | nili => exact .cons .nili .nil

/-- A value that fits one cell. -/
def one (v : Value) : Bool := match v with | .agg _ | .tuple _ => false | _ => true
theorem VR.one {ι : Inj} {v v' : Value} (h : VR ι v v') : AH.one v = AH.one v' := by cases h <;> rfl
theorem one_eq (v : Value) : one v = v.oneCell' := by cases v <;> rfl

/-- How an abstract heap stands to a world. Blocks from lo on are the run's own: each has a block of the world to itself, from B on. -/
structure HR (P : Program) (ι : Inj) (h : Heap) (lo B : Nat) (w : World) : Prop where
  dom : ∀ b g, ι b = some g → b < h.length ∧ g.c < w.heap.size
  cell : ∀ b e cs g, h[b]? = some (.cells e cs) → ι b = some g → g.z = P.cellsOf e ∧
    ∀ (i : Nat) (v : Value), cs[i]? = some v → one v = true ∧ ∃ v', w.cell? ⟨g.c, g.o + i, none⟩ = some v' ∧ VR ι v v'
  own : ∀ b e cs g, lo ≤ b → h[b]? = some (.cells e cs) → ι b = some g → B ≤ g.c ∧ g.o = 0 ∧ cs.length ≤ g.n ∧
    ∃ cur, w.heap[g.c]? = some (.cells cur e (0, 0)) ∧ cur.size = g.n
  apart : ∀ b b' e cs e' cs' g g', b ≠ b' → lo ≤ b → h[b]? = some (.cells e cs) → h[b']? = some (.cells e' cs') → ι b = some g → ι b' = some g' → g.c ≠ g'.c

end Go.AH
