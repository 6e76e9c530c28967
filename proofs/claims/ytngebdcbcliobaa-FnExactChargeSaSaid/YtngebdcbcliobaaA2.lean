import Derived.Test.YtngebdcbcliobaaA1
import Derived.Laws.IdiomCopy
import Derived.Laws.MakeOwn
import Derived.Laws.OwnMore
import Derived.Laws.Slices
namespace Go.AH
open Go.RowKit (Below)

/-! ### Operands, operations, code -/
inductive Opd where
  | t (i : Nat)
  | v (x : Value)

inductive EK where
  | i
  | b
  | s
inductive AOp where
  | mv (x : Opd)
  | pick (c a b : Opd)
  | alloc (e : TypeId) (z : List Value)
  | box (e : TypeId) (x : Opd)
  | build (z : List Value) (ps : List (Nat × Nat × Opd))
  | mkS (e : TypeId) (len : Nat) (z : List Value) (ps : List (Nat × Nat × Opd))
  | mkE
  | ld (x : Opd)
  | ldn (n : Nat) (x : Opd)
  | st (n : Nat) (x v : Opd)
  | bin (op : BinOp) (x y : Opd)
  | un (op : UnOp) (x : Opd)
  | eqB (neg : Bool) (x y : Opd)
  | eqN (neg : Bool) (x : Opd)
  | cvI (k : IntKind) (x : Opd)
  | cvBS (x : Opd)
  | sl (z : Nat) (x : Opd) (lo hi : Option Opd)
  | slT (x : Opd) (lo hi : Option Opd)
  | fa (x : Opd) (off : Nat)
  | fld (x : Opd) (off : Nat)
  | fldn (n : Nat) (x : Opd) (off : Nat)
  | ia (z : Nat) (x i : Opd)
  | ix (x i : Opd)
  | fn (f : Nat) (cs : List Opd)
  | ext (x : Opd) (i : Nat)
  | nilc (x : Opd)
  | len (x : Opd)
  | lenT (x : Opd)
  | app (e : TypeId) (z b : Nat) (x y : Opd)
  | mkSl (e : TypeId) (z b : Nat) (zc : List Value) (l c : Opd)
  | fail
  | eqS (neg : Bool) (ks : List EK) (x y : Opd)
  | capZ (x : Opd)
  | mm (mx : Bool) (x y : Opd)
  | cpy (z : Nat) (x y : Opd)
  | call (f : Nat) (as : List Opd)
  | callv (x : Opd) (as : List Opd)

structure AO where
  d : Option Nat
  g : Option (Nat × Bool)
  op : AOp

inductive AC where
  | skip
  | reg (ops : List AO)
  | drw (ops tail : List AO)
  | seq (a b : AC)
  | cond (c : Opd) (a b : AC)
  | block (id : Nat) (a : AC)
  | loop (a : AC)
  | exit (id : Nat)
  | ret
  | bad

structure St where
  σ : Nat → Value
  h : Heap

def put (σ : Nat → Value) (d : Nat) (v : Value) : Nat → Value := fun i => if i = d then v else σ i
def ev (σ : Nat → Value) : Opd → Value
  | .t i => σ i
  | .v x => x

/-! ### What the operations do -/
abbrev Sp := Nat → List Value → Heap → Option (Value × Heap)
abbrev Ctx := List (Nat × Sp)
def Ctx.get : Ctx → Nat → Option Sp
  | [], _ => none
  | (g, s) :: r, f => if f = g then some s else Ctx.get r f

def getP : Value → Option (Nat × Nat)
  | .pointer (some ⟨b, o, none⟩) => some (b, o)
  | _ => none
def getI : Value → Option Int
  | .int _ n => some n
  | _ => none
def getB : Value → Option Bool
  | .bool b => some b
  | _ => none
/-- The cells of a slice of elements of z cells. -/
def rdS (h : Heap) (z : Nat) : Value → Option (List Value)
  | .slice none 0 0 => some []
  | .slice (some ⟨_, _, some _⟩) 0 _ => some []
  | .slice (some ⟨b, o, none⟩) n _ =>
    match h[b]? with
    | some (.cells _ cs) => if o + n * z ≤ cs.length then some ((cs.drop o).take (n * z)) else none
    | _ => none
  | _ => none
def intB (op : BinOp) (k : IntKind) (a b : Int) : Option Value :=
  match op with
  | .add => some (.int k (k.wrap (a + b)))
  | .sub => some (.int k (k.wrap (a - b)))
  | .mul => some (.int k (k.wrap (a * b)))
  | .quo => if b = 0 then none else some (.int k (k.wrap (a.tdiv b)))
  | .rem => if b = 0 then none else some (.int k (a.tmod b))
  | .and => some (.int k (k.wrap (BitVec.ofInt k.bits a &&& BitVec.ofInt k.bits b).toNat))
  | .or => some (.int k (k.wrap (BitVec.ofInt k.bits a ||| BitVec.ofInt k.bits b).toNat))
  | .xor => some (.int k (k.wrap (BitVec.ofInt k.bits a ^^^ BitVec.ofInt k.bits b).toNat))
  | .eql => some (.bool (a == b))
  | .neq => some (.bool (a != b))
  | .lss => some (.bool (a < b))
  | .leq => some (.bool (a ≤ b))
  | .gtr => some (.bool (a > b))
  | .geq => some (.bool (a ≥ b))
  | _ => none
def strB (op : BinOp) (x y : ByteArray) : Option Value :=
  match op with
  | .add => if ((x.size + y.size : Nat) : Int) > IntKind.i64.max then none else some (.string (x ++ y))
  | .eql => some (.bool (x.toList == y.toList))
  | .neq => some (.bool !(x.toList == y.toList))
  | _ => none
def abin (op : BinOp) : Value → Value → Option Value
  | .int k a, .int k' b =>
    match op with
    | .shl => if b < 0 then none else some (.int k (k.wrap (a * 2 ^ (min b.toNat k.bits))))
    | .shr => if b < 0 then none else some (.int k (a.fdiv (2 ^ (min b.toNat k.bits))))
    | op => if k = k' then intB op k a b else none
  | .string a, .string b => strB op a b
  | _, _ => none
def aun (op : UnOp) : Value → Option Value
  | .int k n => match op with
    | .neg => some (.int k (k.wrap (0 - n)))
    | _ => none
  | .bool b => match op with
    | .not => some (.bool !b)
    | _ => none
  | _ => none
def isNil : Value → Option Bool
  | .slice none _ _ => some true
  | .slice (some _) _ _ => some false
  | _ => none
/-- Values laid over the cells of a zero value. -/
def fillL (z : List Value) : List (Nat × Nat × Value) → Option (List Value)
  | [] => some z
  | (off, n, v) :: r => if (cellsL v).length = n ∧ off + n ≤ z.length then fillL (z.take off ++ cellsL v ++ z.drop (off + n)) r else none
def setAt (cs : List Value) (off : Nat) : List Value → List Value
  | [] => cs
  | v :: vs => setAt (cs.set off v) (off + 1) vs
def optI (ρ : Opd → Value) (dft : Int) : Option Opd → Option Int
  | none => some dft
  | some x => getI (ρ x)
def u8of : Value → Option UInt8
  | .int .u8 n => some (UInt8.ofNat n.toNat)
  | _ => none
def slc (b o n : Nat) : Value := .slice (some ⟨b, o, none⟩) n n
def ptr (b o : Nat) : Value := .pointer (some ⟨b, o, none⟩)

/-- An empty slice that is not nil and has no room. -/
def emptyV : Value := .slice (some ⟨0, 0, some 0⟩) 0 0

def slOut (z l n : Nat) : Option Addr → Option Value
  | none => some (.slice none 0 0)
  | some ⟨b, o, none⟩ => some (slc b (o + l * z) n)
  | some ⟨b, o, some s⟩ => if l = 0 ∧ n = 0 then some (.slice (some ⟨b, o, some s⟩) 0 0) else none

/-- Two plain values of one kind, held against each other. -/
def eqC : EK → Value → Value → Option Bool
  | .i, .int k a, .int k' b => if k = k' then some (a == b) else none
  | .b, .bool a, .bool b => some (a == b)
  | .s, .string a, .string b => some (a.toList == b.toList)
  | _, _, _ => none
def eqCs : List EK → List Value → List Value → Option Bool
  | [], [], [] => some true
  | k :: ks, x :: xs, y :: ys => (eqC k x y).bind fun b => (eqCs ks xs ys).map fun c => b && c
  | _, _, _ => none

def aop (Γ : Ctx) (lo : Nat) (ρ : Opd → Value) (h : Heap) : AOp → Option (Value × Heap)
  | .mv x => some (ρ x, h)
  | .pick c a b => (getB (ρ c)).map fun t => (if t then ρ a else ρ b, h)
  | .alloc e z => some (ptr h.length 0, h ++ [.cells e z])
  | .box e x => if (cellsL (ρ x)).all one then some (ptr h.length 0, h ++ [.cells e (cellsL (ρ x))]) else none
  | .build z ps => (fillL z (ps.map fun p => (p.1, p.2.1, ρ p.2.2))).map fun cs => (.agg ⟨cs⟩, h)
  | .mkS e n z ps => (fillL z (ps.map fun p => (p.1, p.2.1, ρ p.2.2))).bind fun cs => if cs.all one then some (slc h.length 0 n, h ++ [.cells e cs]) else none
  | .mkE => some (emptyV, h)
  | .ld x => match getP (ρ x) with
    | some (b, o) => match h[b]? with
      | some (.cells _ cs) => (cs[o]?).map fun v => (v, h)
      | _ => none
    | none => none
  | .ldn n x => match getP (ρ x) with
    | some (b, o) => match h[b]? with
      | some (.cells _ cs) => if o + n ≤ cs.length then some (.agg ⟨(cs.drop o).take n⟩, h) else none
      | _ => none
    | none => none
  | .st n x v => match getP (ρ x) with
    | some (b, o) => match h[b]? with
      | some (.cells e cs) => if lo ≤ b ∧ (cellsL (ρ v)).length = n ∧ o + n ≤ cs.length ∧ (cellsL (ρ v)).all one = true then some (undef, h.set b (.cells e (setAt cs o (cellsL (ρ v))))) else none
      | _ => none
    | none => none
  | .bin op x y => (abin op (ρ x) (ρ y)).map fun v => (v, h)
  | .un op x => (aun op (ρ x)).map fun v => (v, h)
  | .eqB neg x y => (getB (ρ x)).bind fun a => (getB (ρ y)).map fun b => (.bool (if neg then !(a == b) else a == b), h)
  | .eqN neg x => (isNil (ρ x)).map fun b => (.bool (if neg then !b else b), h)
  | .cvI k x => (getI (ρ x)).map fun n => (.int k (k.wrap n), h)
  | .cvBS x => (rdS h 1 (ρ x)).bind fun cs => (cs.mapM u8of).map fun bs => (.string ⟨⟨bs⟩⟩, h)
  | .sl z x lo hi => match ρ x with
    | .slice a n _ => match optI ρ 0 lo, optI ρ n hi with
      | some l, some r => if 0 ≤ l ∧ l ≤ r ∧ r ≤ n then (slOut z l.toNat (r - l).toNat a).map fun v => (v, h) else none
      | _, _ => none
    | _ => none
  | .slT x lo hi => match ρ x with
    | .string s => match optI ρ 0 lo, optI ρ s.size hi with
      | some l, some r => if 0 ≤ l ∧ l ≤ r ∧ r ≤ s.size then some (.string (s.extract l.toNat r.toNat), h) else none
      | _, _ => none
    | _ => none
  | .fa x off => (getP (ρ x)).map fun p => (ptr p.1 (p.2 + off), h)
  | .fld x off => match ρ x with
    | .agg cs => (cs.toList[off]?).map fun v => (v, h)
    | _ => none
  | .fldn n x off => match ρ x with
    | .agg cs => if off + n ≤ cs.toList.length then some (.agg ⟨(cs.toList.drop off).take n⟩, h) else none
    | _ => none
  | .ia z x i => match ρ x, getI (ρ i) with
    | .slice (some ⟨b, o, none⟩) n _, some i => if 0 ≤ i ∧ i < n then some (ptr b (o + i.toNat * z), h) else none
    | _, _ => none
  | .ix x i => match ρ x, getI (ρ i) with
    | .string s, some i => if 0 ≤ i then (s[i.toNat]?).map fun b => (.int .u8 b.toNat, h) else none
    | _, _ => none
  | .fn f cs => some (.func (.func f) ⟨[]⟩ ⟨cs.map ρ⟩, h)
  | .ext x i => match ρ x with
    | .tuple vs => (vs.toList[i]?).map fun v => (v, h)
    | _ => none
  | .nilc x => (getP (ρ x)).map fun p => (ptr p.1 p.2, h)
  | .len x => match ρ x with
    | .slice _ n _ => some (.int .i64 n, h)
    | _ => none
  | .lenT x => match ρ x with
    | .string s => some (.int .i64 s.size, h)
    | _ => none
  | .app e z bts x y => match ρ x, ρ y with
    | .slice a n _, .slice _ m _ => match rdS h z (ρ x), rdS h z (ρ y) with
      | some xs, some ys =>
        if (n + m) * bts ≤ 140737488355328 ∧ n + m ≤ maxLen then
          match a with
          | none => if m = 0 then some (.slice none 0 0, h) else some (slc h.length 0 (n + m), h ++ [.cells e (xs ++ ys)])
          | some ⟨_, _, some _⟩ => if m = 0 then some (ρ x, h) else some (slc h.length 0 (n + m), h ++ [.cells e (xs ++ ys)])
          | some ⟨b, 0, none⟩ => match h[b]? with
            | some (.cells e' _) => if lo ≤ b ∧ e' = e then some (slc h.length 0 (n + m), h.set b .dead ++ [.cells e (xs ++ ys)]) else none
            | _ => none
          | _ => none
        else none
      | _, _ => none
    | _, _ => none
  | .mkSl e _ bts zc l c => match getI (ρ l), getI (ρ c) with
    | some l, some c => if 0 ≤ l ∧ l ≤ c ∧ bts * c ≤ 281474976710656 ∧ c ≤ maxLen then
        some (slc h.length 0 l.toNat, h ++ [.cells e (List.replicate c.toNat zc).flatten]) else none
    | _, _ => none
  | .fail => none
  | .eqS neg ks x y => match ρ x, ρ y with
    | .agg xs, .agg ys => (eqCs ks xs.toList ys.toList).map fun b => (.bool (if neg then !b else b), h)
    | _, _ => none
  | .capZ x => match ρ x with
    | .slice none 0 0 => some (.int .i64 0, h)
    | .slice (some ⟨_, _, some _⟩) 0 _ => some (.int .i64 0, h)
    | _ => none
  | .mm mx x y => match ρ x, ρ y with
    | .int k a, .int _ b => some (.int k (if mx then (if b > a then b else a) else (if b < a then b else a)), h)
    | _, _ => none
  | .cpy z x y => match ρ x, ρ y with
    | .slice (some ⟨b, o, none⟩) n _, .slice _ m _ => match rdS h z (ρ y), h[b]? with
      | some ys, some (.cells e cs) => if lo ≤ b ∧ o + n * z ≤ cs.length then some (.int .i64 (min m n : Nat), h.set b (.cells e (setAt cs o (ys.take (min m n * z))))) else none
      | _, _ => none
    | _, _ => none
  | .call f as => (Γ.get f).bind fun s => s lo (as.map ρ) h
  | .callv x as => match ρ x with
    | .func (.func f) ⟨[]⟩ ⟨cs⟩ => (Γ.get f).bind fun s => s lo (as.map ρ ++ cs) h
    | _ => none

/-! ### Code -/
def wants (σ : Nat → Value) : Option (Nat × Bool) → Bool
  | none => true
  | some (t, b) => match σ t with
    | .bool c => c == b
    | _ => false
def putO (σ : Nat → Value) (d : Option Nat) (v : Value) : Nat → Value :=
  match d with
  | some d => put σ d v
  | none => σ

def stepO (Γ : Ctx) (lo : Nat) (o : AO) (s : St) : Option St :=
  if wants s.σ o.g then (aop Γ lo (ev s.σ) s.h o.op).map fun r => ⟨putO s.σ o.d r.1, r.2⟩ else some ⟨putO s.σ o.d undef, s.h⟩
/-- Operation by operation. -/
def rops (Γ : Ctx) (lo : Nat) : List AO → (St → Prop) → St → Prop
  | [], K, s => K s
  | o :: r, K, s => match stepO Γ lo o s with
    | some s' => rops Γ lo r K s'
    | none => False
/-- The same, where nothing that was there may be written: for a statement whose order is open. -/
def qops (Γ : Ctx) : List AO → (St → Prop) → St → Prop
  | [], K, s => K s
  | o :: r, K, s => match stepO Γ s.h.length o s with
    | some s' => qops Γ r K s'
    | none => False

/-- From what state on a code comes to an end, and to which. -/
def awp (Γ : Ctx) (lo : Nat) : AC → (Exit → St → Prop) → St → Prop
  | .skip, Q, s => Q .normal s
  | .reg ops, Q, s => rops Γ lo ops (Q .normal) s
  | .drw ops tail, Q, s => qops Γ ops (rops Γ lo tail (Q .normal)) s
  | .seq a b, Q, s => awp Γ lo a (fun e s' => match e with | .normal => awp Γ lo b Q s' | e => Q e s') s
  | .cond c a b, Q, s => match ev s.σ c with
    | .bool t => if t then awp Γ lo a Q s else awp Γ lo b Q s
    | _ => False
  | .block id a, Q, s => awp Γ lo a (fun e s' => match e with | .exit i => if i = id then Q .normal s' else Q (.exit i) s' | e => Q e s') s
  | .loop a, Q, s => ∃ R : Nat → St → Prop, (∃ n, R n s) ∧ ∀ n s', R n s' → awp Γ lo a (fun e s'' => match e with | .normal => ∃ m, m < n ∧ R m s'' | e => Q e s'') s'
  | .exit id, Q, s => Q (.exit id) s
  | .ret, Q, s => Q .ret s
  | .bad, _, _ => False

end Go.AH
