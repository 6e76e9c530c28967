import Derived.Test.YtngebdcbcliobaaA2
namespace Go.AH
open Go.RowKit (Below)

/-! ### A statement whose order is open -/
/-- The slots that an operation looks at. -/
def opdT : Operand → List Tmp
  | .tmp t => [t]
  | _ => []
def looks (ops : Array Oper) (o : Oper) : List Tmp :=
  (o.op.operands.toList.flatMap opdT) ++ (match o.guard with | some (j, _) => (((ops[j]?).bind (·.dst)).toList) | none => [])
def edgesOf (o : Oper) : List Nat := (o.after.toList.filter fun e => Region.binds .any e).map (·.on)
/-- j waits for i, over so many edges. -/
def waits (ops : Array Oper) : Nat → Nat → Nat → Bool
  | 0, _, _ => false
  | n + 1, j, i => match ops[j]? with
    | some o => (edgesOf o).any fun k => k == i || waits ops n k i
    | none => false
def touch (ops : Array Oper) (x y : Oper) : Bool :=
  match x.dst with
  | some d => (looks ops y).contains d || y.dst == some d
  | none => false
def dOk (ops : Array Oper) (n : Nat) : Bool :=
  n ≤ ops.size &&
  ((List.range ops.size).all fun j => match ops[j]? with
    | some o => (edgesOf o).all fun k => k < j
    | none => true) &&
  ((List.range n).all fun j => (List.range j).all fun i => match ops[i]?, ops[j]? with
    | some x, some y => if touch ops x y || touch ops y x then waits ops ops.size j i else true
    | _, _ => true) &&
  ((List.range (ops.size - n)).all fun t => (List.range (n + t)).all fun i => waits ops ops.size (n + t) i) &&
  (ops.toList.all fun o => match o.op with | .select .. => false | _ => true)
def AOp.os : AOp → List Opd
  | .mv x | .box _ x | .ld x | .ldn _ x | .un _ x | .eqN _ x | .cvI _ x | .cvBS x | .fa x _ | .fld x _ | .fldn _ x _ | .ext x _ | .nilc x | .len x | .lenT x => [x]
  | .pick c a b => [c, a, b]
  | .alloc _ _ | .mkE | .fail => []
  | .capZ x => [x]
  | .eqS _ _ x v | .mm _ x v | .cpy _ x v => [x, v]
  | .build _ ps | .mkS _ _ _ ps => ps.map (·.2.2)
  | .st _ x v | .bin _ x v | .eqB _ x v | .ia _ x v | .ix x v | .app _ _ _ x v | .mkSl _ _ _ _ x v => [x, v]
  | .sl _ x lo hi | .slT x lo hi => [x] ++ lo.toList ++ hi.toList
  | .fn _ cs | .call _ cs => cs
  | .callv x cs => x :: cs

def opdA : Opd → List Nat
  | .t t => [t]
  | .v _ => []
/-- All that the draw of a region's order asks of its text. -/
def drawOk (ops : Array Oper) (os : List AO) (n : Nat) : Bool :=
  dOk ops n && (ops.toList.zip os).all fun p => (p.2.op.os.flatMap opdA).all fun t => (looks ops p.1).contains t

def isStore (o : Oper) : Bool := match o.op with | .store .. => true | _ => false
/-- How many operations stand ahead of the last stores. -/
def headLen (ops : Array Oper) : Nat := (ops.toList.reverse.dropWhile isStore).length

/-! ### From the model's code to the logic's -/
section
variable (P : Program) (N : Nat)

def cO : Operand → Option Opd
  | .tmp t => if t < N then some (.t t) else none
  | .const v => if closedV v then some (.v v) else none
  | .func f => some (.v (.func (.func f) ⟨[]⟩ ⟨[]⟩))
  | .global _ => none
def cOs : List Operand → Option (List Opd)
  | [] => some []
  | x :: r => (cO N x).bind fun y => (cOs r).map fun ys => y :: ys
def cOo : Option Operand → Option (Option Opd)
  | none => some none
  | some x => (cO N x).map some
def aggT (t : TypeId) : Bool := match P.underlying t with | some (.struct _) | some (.array _ _) => true | _ => false
def known (t : TypeId) : Bool := (P.info? t).isSome && (P.underlying t).isSome
def zeroT (t : TypeId) : Option (List Value) :=
  match P.info? t with
  | some i => match i.zero with
    | some z => if (cellsL z).all plainV && (cellsL z).all one && (cellsL z).length == i.size then some (cellsL z) else none
    | none => none
  | none => none
def cParts (place : Nat → Option (Nat × Nat)) : List (Nat × Operand) → Option (List (Nat × Nat × Opd))
  | [] => some []
  | (i, x) :: r => (place i).bind fun p => (cO N x).bind fun y => (cParts place r).map fun l => (p.1, p.2, y) :: l
def callable (f : FuncId) : Bool :=
  match P.funcs[f]? with
  | some fn => fn.body.isSome && !(fn.name == "runtime.NumGoroutine")
  | none => false
def isNilConst : Operand → Bool
  | .const (.slice none 0 0) => true
  | _ => false
def nilType (t : TypeId) : Bool := match P.underlying t with | some (.slice _) => true | _ => false
def rowsZ (len n : Nat) (z : List Value) : List Value := (List.range (len * n)).map fun i => z[i % z.length]!

def cCall (c : Call) : Option AOp :=
  match c.callee with
  | .value (.func f) => if callable P f then (cOs N c.args.toList).map (.call f) else none
  | .value (.tmp t) => (cO N (.tmp t)).bind fun x => (cOs N c.args.toList).map (.callv x)
  | .builtin .len => match c.argTypes.toList, c.args.toList with
    | [t], [x] => match P.underlying t with
      | some (.slice _) => (cO N x).map .len
      | some .string => (cO N x).map .lenT
      | _ => none
    | _, _ => none
  | .builtin .append => match c.argTypes.toList, c.args.toList with
    | [t, t'], [x, y] => if t = t' then match P.underlying t with
      | some (.slice e) => match P.info? e, zeroT P e with
        | some i, some _ => if 0 < i.size then (cO N x).bind fun x => (cO N y).map fun y => .app e i.size i.bytes x y else none
        | _, _ => none
      | _ => none else none
    | _, _ => none
  | _ => none

def cOp0 (d : Bool) (o : Op) : Option AOp :=
  match o with
  | .move x | .assign x => (cO N x).map .mv
  | .pick c a b => (cO N c).bind fun c => (cO N a).bind fun a => (cO N b).map fun b => .pick c a b
  | .alloc e => (zeroT P e).map (.alloc e)
  | .box e x => (cO N x).map (.box e)
  | .build t parts => match P.underlying t with
    | some (.struct fs) => if fs.all (fun f => known P f.type) then
        (zeroT P t).bind fun z => (cParts N (fun i => (fs[i]?).map fun f => (f.offset, P.cellsOf f.type)) parts.toList).map (.build z) else none
    | _ => none
  | .buildSlice t len parts => match P.underlying t with
    | some (.slice e) => if d = true ∧ len = 0 ∧ parts = #[] then (if known P e ∧ 0 < P.cellsOf e then (zeroT P e).map fun _ => .mkE else none) else if known P e ∧ 0 < P.cellsOf e ∧ len * P.cellsOf e ≤ 2 ^ 24 then
        (zeroT P e).bind fun z => (cParts N (fun i => some (i * P.cellsOf e, P.cellsOf e)) parts.toList).map (.mkS e len (rowsZ len (P.cellsOf e) z)) else none
    | _ => none
  | .load t x => if known P t then (cO N x).map fun x => if aggT P t then .ldn (P.cellsOf t) x else .ld x else none
  | .store t x v => if known P t then (cO N x).bind fun x => (cO N v).map fun v => .st (P.cellsOf t) x v else none
  | .nilCheck x => (cO N x).map .nilc
  | .binOp op t x y _ =>
    match op, P.underlying t with
    | .eql, some .bool => (cO N x).bind fun x => (cO N y).map fun y => .eqB false x y
    | .neq, some .bool => (cO N x).bind fun x => (cO N y).map fun y => .eqB true x y
    | .eql, some (.slice _) => if isNilConst y then (cO N x).map (.eqN false) else none
    | .neq, some (.slice _) => if isNilConst y then (cO N x).map (.eqN true) else none
    | op, _ => (cO N x).bind fun x => (cO N y).map fun y => .bin op x y
  | .unOp op _ x => (cO N x).map (.un op)
  | .convert s d x => match P.underlying s, P.underlying d with
    | some (.int _), some (.int k) => (cO N x).map (.cvI k)
    | some (.slice e), some .string => match P.underlying e with
      | some (.int .u8) => (cO N x).map .cvBS
      | _ => none
    | _, _ => none
  | .slice t x lo hi none => match P.underlying t with
    | some (.slice e) => if known P e ∧ 0 < P.cellsOf e then (cO N x).bind fun x => (cOo N lo).bind fun lo => (cOo N hi).map fun hi => .sl (P.cellsOf e) x lo hi else none
    | some .string => (cO N x).bind fun x => (cOo N lo).bind fun lo => (cOo N hi).map fun hi => .slT x lo hi
    | _ => none
  | .fieldAddr s x f => match P.underlying s with
    | some (.struct fs) => match fs[f]? with
      | some fd => if known P fd.type ∧ P.cellsOf fd.type ≠ 0 then (cO N x).map fun x => .fa x fd.offset else none
      | none => none
    | _ => none
  | .field s x f => match P.underlying s with
    | some (.struct fs) => match fs[f]? with
      | some fd => if known P fd.type then (cO N x).map fun x => if aggT P fd.type then .fldn (P.cellsOf fd.type) x fd.offset else .fld x fd.offset else none
      | none => none
    | _ => none
  | .indexAddr t x i => match P.underlying t with
    | some (.slice e) => if known P e then (cO N x).bind fun x => (cO N i).map fun i => .ia (P.cellsOf e) x i else none
    | _ => none
  | .index t x i => match P.underlying t with
    | some .string => (cO N x).bind fun x => (cO N i).map fun i => .ix x i
    | _ => none
  | .makeFunc (.func f) first caps => if first.toList.isEmpty then (cOs N caps.toList).map (.fn f) else none
  | .extract x i => (cO N x).map fun x => .ext x i
  | .makeSlice t l c => match P.underlying t with
    | some (.slice e) => match P.info? e, zeroT P e with
      | some i, some z => if 0 < i.size then (cO N l).bind fun l => (cO N c).map fun c => .mkSl e i.size i.bytes z l c else none
      | _, _ => none
    | _ => none
  | .call c => cCall P N c
  | _ => none

/-- Types whose values are held against each other cell by cell. -/
def offsOk (n : Nat) : Nat → List Field → Bool
  | o, [] => o == n
  | o, f :: r => f.offset == o && offsOk n (o + P.cellsOf f.type) r
def eqShs (f : TypeId → Option (List EK)) : List Field → Option (List EK)
  | [] => some []
  | x :: r => (f x.type).bind fun a => (eqShs f r).map fun b => a ++ b
def eqSh : Nat → TypeId → Option (List EK)
  | 0, _ => none
  | d + 1, t => if known P t = true then match P.underlying t with
    | some (.int _) => if P.cellsOf t = 1 then some [.i] else none
    | some .bool => if P.cellsOf t = 1 then some [.b] else none
    | some .string => if P.cellsOf t = 1 then some [.s] else none
    | some (.struct fs) => if P.stoodInHeld t = false ∧ offsOk P (P.cellsOf t) 0 fs.toList = true ∧ fs.toList.all (fun f => f.name != "_") = true then eqShs (fun t => eqSh d t) fs.toList else none
    | _ => none else none
def cOpX (o : Op) : Option AOp :=
  match o with
  | .binOp .eql t x y _ => if aggT P t = true ∧ P.eqGuardType P.depth t = false then (eqSh P 6 t).bind fun ks => (cO N x).bind fun x => (cO N y).map fun y => .eqS false ks x y else none
  | .binOp .neq t x y _ => if aggT P t = true ∧ P.eqGuardType P.depth t = false then (eqSh P 6 t).bind fun ks => (cO N x).bind fun x => (cO N y).map fun y => .eqS true ks x y else none
  | .call c => match c.callee, c.argTypes.toList, c.args.toList with
    | .builtin .max, _, [x, y] => (cO N x).bind fun x => (cO N y).map fun y => .mm true x y
    | .builtin .min, _, [x, y] => (cO N x).bind fun x => (cO N y).map fun y => .mm false x y
    | .builtin .cap, [t], [x] => match P.underlying t with
      | some (.slice _) => (cO N x).map .capZ
      | _ => none
    | .builtin .copy, [t, _], [x, y] => match P.underlying t with
      | some (.slice e) => if known P e = true then (cO N x).bind fun x => (cO N y).map fun y => .cpy (P.cellsOf e) x y else none
      | _ => none
    | _, _, _ => none
  | _ => none
def isSel : Op → Bool
  | .select .. => true
  | _ => false
def cOp (d : Bool) (o : Op) : Option AOp := match cOpX P N o with
  | some p => some p
  | none => if isSel o = true then none else some ((cOp0 P N d o).getD .fail)

def cGuard (ops : Array Oper) : Option (Nat × Bool) → Option (Option (Nat × Bool))
  | none => some none
  | some (j, b) => match ((ops[j]?).bind (·.dst) : Option Tmp) with
    | some d => if d < N then some (some (d, b)) else none
    | none => none
def cDst : Option Tmp → Bool
  | none => true
  | some d => d < N
def cOper (d : Bool) (ops : Array Oper) (o : Oper) : Option AO :=
  if cDst N o.dst then (cOp P N d o.op).bind fun p => (cGuard N ops o.guard).map fun g => ⟨o.dst, g, p⟩ else none
def cOpers (d : Bool) (ops : Array Oper) : List Oper → Option (List AO)
  | [] => some []
  | o :: r => (cOper P N d ops o).bind fun a => (cOpers d ops r).map fun l => a :: l
def cCode : Code → Option AC
  | .skip => some .skip
  | .region _ ops false => (cOpers P N false ops ops.toList).map .reg
  | .region _ ops true => (cOpers P N true ops ops.toList).bind fun os =>
    if P.follows .mixedOrders = true ∧ drawOk ops os (headLen ops) = true then some (.drw (os.take (headLen ops)) (os.drop (headLen ops))) else some .bad
  | .seq a b => (cCode a).bind fun x => (cCode b).map fun y => .seq x y
  | .cond c a b => (cO N c).bind fun z => (cCode a).bind fun x => (cCode b).map fun y => .cond z x y
  | .block id a => (cCode a).map (.block id)
  | .loop a => (cCode a).map .loop
  | .exit id => some (.exit id)
  | .ret => some .ret
  | _ => some .bad

inductive AR where
  | t (i : Nat)
  | cell (a : Nat) (n : Option Nat)
def cRes : List ResultVar → Option (List AR)
  | [] => some []
  | .tmp t :: r => if t < N then (cRes r).map fun l => .t t :: l else none
  | .cell a t :: r => if a < N ∧ known P t then (cRes r).map fun l => .cell a (if aggT P t then some (P.cellsOf t) else none) :: l else none
end

structure AF where
  n : Nat
  code : AC
  res : List AR
def cFn (P : Program) (fn : Func) : Option AF :=
  match fn.body with
  | some c => (cCode P fn.ntmps c).bind fun x => (cRes P fn.ntmps fn.results.toList).map fun r => ⟨fn.ntmps, x, r⟩
  | none => none

def rres1 (s : St) : AR → Option Value
  | .t i => some (s.σ i)
  | .cell a n => match getP (s.σ a) with
    | some (b, o) => match s.h[b]? with
      | some (.cells _ cs) => match n with
        | none => cs[o]?
        | some n => if o + n ≤ cs.length then some (.agg ⟨(cs.drop o).take n⟩) else none
      | _ => none
    | none => none
def rresL (s : St) : List AR → Option (List Value)
  | [] => some []
  | a :: r => (rres1 s a).bind fun v => (rresL s r).map fun vs => v :: vs
def rres (s : St) (l : List AR) : Option Value :=
  (rresL s l).map fun
    | [v] => v
    | vs => .tuple ⟨vs⟩
def argσ (args : List Value) : Nat → Value := fun i => (args[i]?).getD undef
end Go.AH
