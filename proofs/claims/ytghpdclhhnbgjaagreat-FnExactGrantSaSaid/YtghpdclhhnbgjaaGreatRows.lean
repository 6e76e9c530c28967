/-
  No cell of these rows narrows 'for every input' (looked for: loops, veiled, ifaces, maps, wideKeys, modest, calm, conditions, laid).
  DERIVED. THE GIVEN ROWS OF THIS SEAT. 4 by the template 'for every input the law returns true; each argument reads behind the call as it read before'; 0 by the template 'total and deterministic' (their statements: YtghpdclhhnbgjaaGreatTotals.lean).
  GIVEN WITH THE SEED: the statements are not yours to turn. If you find one false, say at which input.
  Laid BY PROGRAM, IN A SANDBOX (cutbox-rows.mjs): the forced cells as the released guide's own fill.sh prints them over the translation dc1217ae70b8f608… (all of the seat's roots in one cut). By AI agents, Wed Nov 11 2026. No macro, syntax, notation, axiom, sorry.
-/
import Derived.Test.YtghpdclhhnbgjaaGreatChecked
import GoSem.Claim
import GoSem.ClaimJoined
import GoSem.ClaimMapViews
import Derived.JoinedTies
import Derived.KernelRfl
namespace Go.Proofs.YtghpdclhhnbgjaaGreat
/- THE CELL 'sum', in the pinned program and in every row, IS THE sha256 OF THE DUMP (.gsa) THAT YtghpdclhhnbgjaaGreatProg.lean LOADS. Nothing in Lean hashes anything: it is a label: what it is worth is what the hold of that sum in a sandbox is worth. -/
noncomputable def Tryz.pinned : Pinned := { name := "ytghpdclhhnbgjaagreat", sum := "dc1217ae70b8f6085eb89976580be7efdff813d4c33dcdb13b16e503f0335b92", checked := Tryz.checked }
namespace Rows
def none {H : Type} : Left H := { results := [], args := [] }

/-- 'laws.FnExactTickBox': WHATEVER THE INPUT: true; the input reads as it did. -/
def fnExactTickBoxSpec : ChangeSpec := { name := "fnExactTickBox", fn := fun _ => fun
  | [d1, d2] => { results := [.lit (.bool true)], args := [d1, d2] }
  | _ => none }
def fnExactTickBoxRow : OpenClaim := { program := "ytghpdclhhnbgjaagreat", sum := "dc1217ae70b8f6085eb89976580be7efdff813d4c33dcdb13b16e503f0335b92", func := "loop.example/g00205/laws.FnExactTickBox", spec := "fnExactTickBox", unfollowed := true, recurses := true, apart := false }
def FnExactTickBoxSaid : Prop := fnExactTickBoxRow.holds Tryz.pinned (OpenSpec.ofChange fnExactTickBoxSpec)

/-- ITS FALSE NEIGHBOUR: 'it returns false'. Refute it at one input. -/
def fnExactTickBoxWrong : ChangeSpec := { name := "fnExactTickBox", fn := fun _ => fun
  | [d1, d2] => { results := [.lit (.bool false)], args := [d1, d2] }
  | _ => none }
def FnExactTickBoxWrongFalsely : Prop := fnExactTickBoxRow.holds Tryz.pinned (OpenSpec.ofChange fnExactTickBoxWrong)

/-- 'laws.FnExactGrantSa': WHATEVER THE INPUT: true; the input reads as it did. -/
def fnExactGrantSaSpec : ChangeSpec := { name := "fnExactGrantSa", fn := fun _ => fun
  | [d1, d2] => { results := [.lit (.bool true)], args := [d1, d2] }
  | _ => none }
def fnExactGrantSaRow : OpenClaim := { program := "ytghpdclhhnbgjaagreat", sum := "dc1217ae70b8f6085eb89976580be7efdff813d4c33dcdb13b16e503f0335b92", func := "loop.example/g00205/laws.FnExactGrantSa", spec := "fnExactGrantSa", unfollowed := true, recurses := true, apart := false }
def FnExactGrantSaSaid : Prop := fnExactGrantSaRow.holds Tryz.pinned (OpenSpec.ofChange fnExactGrantSaSpec)

/-- ITS FALSE NEIGHBOUR: 'it returns false'. Refute it at one input. -/
def fnExactGrantSaWrong : ChangeSpec := { name := "fnExactGrantSa", fn := fun _ => fun
  | [d1, d2] => { results := [.lit (.bool false)], args := [d1, d2] }
  | _ => none }
def FnExactGrantSaWrongFalsely : Prop := fnExactGrantSaRow.holds Tryz.pinned (OpenSpec.ofChange fnExactGrantSaWrong)

/-- 'laws.FnExactRedIn': WHATEVER THE INPUT: true; the input reads as it did. -/
def fnExactRedInSpec : ChangeSpec := { name := "fnExactRedIn", fn := fun _ => fun
  | [d1, d2] => { results := [.lit (.bool true)], args := [d1, d2] }
  | _ => none }
def fnExactRedInRow : OpenClaim := { program := "ytghpdclhhnbgjaagreat", sum := "dc1217ae70b8f6085eb89976580be7efdff813d4c33dcdb13b16e503f0335b92", func := "loop.example/g00205/laws.FnExactRedIn", spec := "fnExactRedIn", unfollowed := true, recurses := true, apart := false }
def FnExactRedInSaid : Prop := fnExactRedInRow.holds Tryz.pinned (OpenSpec.ofChange fnExactRedInSpec)

/-- ITS FALSE NEIGHBOUR: 'it returns false'. Refute it at one input. -/
def fnExactRedInWrong : ChangeSpec := { name := "fnExactRedIn", fn := fun _ => fun
  | [d1, d2] => { results := [.lit (.bool false)], args := [d1, d2] }
  | _ => none }
def FnExactRedInWrongFalsely : Prop := fnExactRedInRow.holds Tryz.pinned (OpenSpec.ofChange fnExactRedInWrong)

/-- 'laws.FnExactBlackIn': WHATEVER THE INPUT: true; the input reads as it did. -/
def fnExactBlackInSpec : ChangeSpec := { name := "fnExactBlackIn", fn := fun _ => fun
  | [d1, d2] => { results := [.lit (.bool true)], args := [d1, d2] }
  | _ => none }
def fnExactBlackInRow : OpenClaim := { program := "ytghpdclhhnbgjaagreat", sum := "dc1217ae70b8f6085eb89976580be7efdff813d4c33dcdb13b16e503f0335b92", func := "loop.example/g00205/laws.FnExactBlackIn", spec := "fnExactBlackIn", unfollowed := true, recurses := true, apart := false }
def FnExactBlackInSaid : Prop := fnExactBlackInRow.holds Tryz.pinned (OpenSpec.ofChange fnExactBlackInSpec)

/-- ITS FALSE NEIGHBOUR: 'it returns false'. Refute it at one input. -/
def fnExactBlackInWrong : ChangeSpec := { name := "fnExactBlackIn", fn := fun _ => fun
  | [d1, d2] => { results := [.lit (.bool false)], args := [d1, d2] }
  | _ => none }
def FnExactBlackInWrongFalsely : Prop := fnExactBlackInRow.holds Tryz.pinned (OpenSpec.ofChange fnExactBlackInWrong)

/- THE SECOND FORM. 'bulk': how many values and letters a reading holds, each counted each time it is reached (what is shared counts as often as it is met; a slice's spare places count too). A statement '..UptoSaid' is the law's where the arguments, and the package variables that the reading takes, are together of bulk at most 1048576: NARROWER than '..Said'. Prove '..Said' where nothing that the law and all that it calls make is longer than what came in: it says more and counts as full. Else prove '..UptoSaid'. A law counts once. -/
mutual
def uptoBulk {H : Type} : DataW H → Nat
  | .lit (.string bytes) => bytes.length + 1
  | .lit _ => 1
  | .nil => 1
  | .ptr d => uptoBulk d + 1
  | .slice elems spare => uptoBulkAll elems + uptoBulkAll spare + 1
  | .agg parts => uptoBulkAll parts + 1
  | .iface _ d => uptoBulk d + 1
  | .map entries => uptoBulkEntries entries + 1
  | .held _ => 1
def uptoBulkAll {H : Type} : List (DataW H) → Nat
  | [] => 0
  | d :: r => uptoBulk d + uptoBulkAll r
def uptoBulkEntries {H : Type} : List (Lit × DataW H) → Nat
  | [] => 0
  | x :: r => uptoBulkEntry x + uptoBulkEntries r
def uptoBulkEntry {H : Type} : Lit × DataW H → Nat
  | (.string bytes, d) => bytes.length + uptoBulk d + 1
  | (_, d) => uptoBulk d + 1
 end
def uptoSmall : (H : Type) → List (DataW H) → Bool := fun _ ds => decide (uptoBulkAll ds ≤ 1048576)
def OpenSpec.upto (s : _root_.Go.ChangeSpec) : _root_.Go.OpenSpec := { _root_.Go.OpenSpec.ofChange s with cond := some uptoSmall }

/-- 'laws.FnExactTickBox', WHERE WHAT IT READS IS OF BULK AT MOST 1048576: true; the input reads as it did. -/
def fnExactTickBoxUptoRow : OpenClaim := { program := "ytghpdclhhnbgjaagreat", sum := "dc1217ae70b8f6085eb89976580be7efdff813d4c33dcdb13b16e503f0335b92", func := "loop.example/g00205/laws.FnExactTickBox", spec := "fnExactTickBox", unfollowed := true, recurses := true, apart := false, narrowed := true }
def FnExactTickBoxUptoSaid : Prop := fnExactTickBoxUptoRow.holds Tryz.pinned (OpenSpec.upto fnExactTickBoxSpec)

/-- 'laws.FnExactGrantSa', WHERE WHAT IT READS IS OF BULK AT MOST 1048576: true; the input reads as it did. -/
def fnExactGrantSaUptoRow : OpenClaim := { program := "ytghpdclhhnbgjaagreat", sum := "dc1217ae70b8f6085eb89976580be7efdff813d4c33dcdb13b16e503f0335b92", func := "loop.example/g00205/laws.FnExactGrantSa", spec := "fnExactGrantSa", unfollowed := true, recurses := true, apart := false, narrowed := true }
def FnExactGrantSaUptoSaid : Prop := fnExactGrantSaUptoRow.holds Tryz.pinned (OpenSpec.upto fnExactGrantSaSpec)

/-- 'laws.FnExactRedIn', WHERE WHAT IT READS IS OF BULK AT MOST 1048576: true; the input reads as it did. -/
def fnExactRedInUptoRow : OpenClaim := { program := "ytghpdclhhnbgjaagreat", sum := "dc1217ae70b8f6085eb89976580be7efdff813d4c33dcdb13b16e503f0335b92", func := "loop.example/g00205/laws.FnExactRedIn", spec := "fnExactRedIn", unfollowed := true, recurses := true, apart := false, narrowed := true }
def FnExactRedInUptoSaid : Prop := fnExactRedInUptoRow.holds Tryz.pinned (OpenSpec.upto fnExactRedInSpec)

/-- 'laws.FnExactBlackIn', WHERE WHAT IT READS IS OF BULK AT MOST 1048576: true; the input reads as it did. -/
def fnExactBlackInUptoRow : OpenClaim := { program := "ytghpdclhhnbgjaagreat", sum := "dc1217ae70b8f6085eb89976580be7efdff813d4c33dcdb13b16e503f0335b92", func := "loop.example/g00205/laws.FnExactBlackIn", spec := "fnExactBlackIn", unfollowed := true, recurses := true, apart := false, narrowed := true }
def FnExactBlackInUptoSaid : Prop := fnExactBlackInUptoRow.holds Tryz.pinned (OpenSpec.upto fnExactBlackInSpec)

end Rows
end Go.Proofs.YtghpdclhhnbgjaaGreat
