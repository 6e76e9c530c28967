/-
  No cell of these rows narrows 'for every input' (looked for: loops, veiled, ifaces, maps, wideKeys, modest, calm, conditions, laid).
  DERIVED. THE GIVEN ROWS OF THIS SEAT. 3 by the template 'for every input the law returns true; each argument reads behind the call as it read before'; 0 by the template 'total and deterministic' (their statements: YtbddhlhpakbcdaaTotals.lean).
  GIVEN WITH THE SEED: the statements are not yours to turn. If you find one false, say at which input.
  Laid BY PROGRAM, IN A SANDBOX (cutbox-rows.mjs): the forced cells as the released guide's own fill.sh prints them over the translation 3e8b4c507b548419… (all of the seat's roots in one cut). By AI agents, Wed Nov 11 2026. No macro, syntax, notation, axiom, sorry.
-/
import Derived.Test.YtbddhlhpakbcdaaChecked
import GoSem.Claim
import GoSem.ClaimJoined
import GoSem.ClaimMapViews
import Derived.JoinedTies
import Derived.KernelRfl
namespace Go.Proofs.Ytbddhlhpakbcdaa
/- THE CELL 'sum', in the pinned program and in every row, IS THE sha256 OF THE DUMP (.gsa) THAT YtbddhlhpakbcdaaProg.lean LOADS. Nothing in Lean hashes anything: it is a label: what it is worth is what the hold of that sum in a sandbox is worth. -/
noncomputable def Try.pinned : Pinned := { name := "ytbddhlhpakbcdaa", sum := "3e8b4c507b5484194a7efd834099b58f4af0cef2dfdeb8fc892d739182c52b58", checked := Try.checked }
namespace Rows
def none {H : Type} : Left H := { results := [], args := [] }

/-- 'laws.FnHandshake': WHATEVER THE INPUT: true; the input reads as it did. -/
def fnHandshakeSpec : ChangeSpec := { name := "fnHandshake", fn := fun _ => fun
  | [d] => { results := [.lit (.bool true)], args := [d] }
  | _ => none }
def fnHandshakeRow : OpenClaim := { program := "ytbddhlhpakbcdaa", sum := "3e8b4c507b5484194a7efd834099b58f4af0cef2dfdeb8fc892d739182c52b58", func := "loop.example/g00205/laws.FnHandshake", spec := "fnHandshake", unfollowed := true, recurses := true, plainKeys := false, apart := false }
def FnHandshakeSaid : Prop := fnHandshakeRow.holds Try.pinned (OpenSpec.ofChange fnHandshakeSpec)

/-- ITS FALSE NEIGHBOUR: 'it returns false'. Refute it at one input. -/
def fnHandshakeWrong : ChangeSpec := { name := "fnHandshake", fn := fun _ => fun
  | [d] => { results := [.lit (.bool false)], args := [d] }
  | _ => none }
def FnHandshakeWrongFalsely : Prop := fnHandshakeRow.holds Try.pinned (OpenSpec.ofChange fnHandshakeWrong)

/-- 'laws.FnExactSendLoad': WHATEVER THE INPUT: true; the input reads as it did. -/
def fnExactSendLoadSpec : ChangeSpec := { name := "fnExactSendLoad", fn := fun _ => fun
  | [d1, d2, d3, d4] => { results := [.lit (.bool true)], args := [d1, d2, d3, d4] }
  | _ => none }
def fnExactSendLoadRow : OpenClaim := { program := "ytbddhlhpakbcdaa", sum := "3e8b4c507b5484194a7efd834099b58f4af0cef2dfdeb8fc892d739182c52b58", func := "loop.example/g00205/laws.FnExactSendLoad", spec := "fnExactSendLoad", unfollowed := true, recurses := true, plainKeys := false, apart := false }
def FnExactSendLoadSaid : Prop := fnExactSendLoadRow.holds Try.pinned (OpenSpec.ofChange fnExactSendLoadSpec)

/-- ITS FALSE NEIGHBOUR: 'it returns false'. Refute it at one input. -/
def fnExactSendLoadWrong : ChangeSpec := { name := "fnExactSendLoad", fn := fun _ => fun
  | [d1, d2, d3, d4] => { results := [.lit (.bool false)], args := [d1, d2, d3, d4] }
  | _ => none }
def FnExactSendLoadWrongFalsely : Prop := fnExactSendLoadRow.holds Try.pinned (OpenSpec.ofChange fnExactSendLoadWrong)

/-- 'laws.FnExactPartnerOf': WHATEVER THE INPUT: true; the input reads as it did. -/
def fnExactPartnerOfSpec : ChangeSpec := { name := "fnExactPartnerOf", fn := fun _ => fun
  | [d1, d2, d3] => { results := [.lit (.bool true)], args := [d1, d2, d3] }
  | _ => none }
def fnExactPartnerOfRow : OpenClaim := { program := "ytbddhlhpakbcdaa", sum := "3e8b4c507b5484194a7efd834099b58f4af0cef2dfdeb8fc892d739182c52b58", func := "loop.example/g00205/laws.FnExactPartnerOf", spec := "fnExactPartnerOf", unfollowed := true, recurses := true, plainKeys := false, apart := false }
def FnExactPartnerOfSaid : Prop := fnExactPartnerOfRow.holds Try.pinned (OpenSpec.ofChange fnExactPartnerOfSpec)

/-- ITS FALSE NEIGHBOUR: 'it returns false'. Refute it at one input. -/
def fnExactPartnerOfWrong : ChangeSpec := { name := "fnExactPartnerOf", fn := fun _ => fun
  | [d1, d2, d3] => { results := [.lit (.bool false)], args := [d1, d2, d3] }
  | _ => none }
def FnExactPartnerOfWrongFalsely : Prop := fnExactPartnerOfRow.holds Try.pinned (OpenSpec.ofChange fnExactPartnerOfWrong)

/- THE SECOND FORM. 'bulk': how many values and letters a reading holds, each counted each time it is reached (what is shared counts as often as it is met; a slice's spare places count too). A statement '..UptoSaid' is the law's where the arguments, and the package variables that the reading takes, are together of bulk at most 1048576: NARROWER than '..Said'. Prove '..Said' where nothing that the law and all that it calls make is longer than what came in: it says more and counts as full. Else prove '..UptoSaid'. A law counts once. -/
mutual
def uptoBulk {H : Type} : DataW H → Nat
  | .lit (.string bytes) => bytes.length + 1
  | .lit _ => 1
  | .nil => 1
  | .ptr d => uptoBulk d + 1
  | .slice elems spare => uptoBulkAll elems + uptoBulkAll spare + 1
  | .agg parts => uptoBulkAll parts + 1
  | .iface _ d => uptoBulk d + 1
  | .map entries => uptoBulkEntries entries + 1
  | .held _ => 1
def uptoBulkAll {H : Type} : List (DataW H) → Nat
  | [] => 0
  | d :: r => uptoBulk d + uptoBulkAll r
def uptoBulkEntries {H : Type} : List (Lit × DataW H) → Nat
  | [] => 0
  | x :: r => uptoBulkEntry x + uptoBulkEntries r
def uptoBulkEntry {H : Type} : Lit × DataW H → Nat
  | (.string bytes, d) => bytes.length + uptoBulk d + 1
  | (_, d) => uptoBulk d + 1
 end
def uptoSmall : (H : Type) → List (DataW H) → Bool := fun _ ds => decide (uptoBulkAll ds ≤ 1048576)
def OpenSpec.upto (s : _root_.Go.ChangeSpec) : _root_.Go.OpenSpec := { _root_.Go.OpenSpec.ofChange s with cond := some uptoSmall }

/-- 'laws.FnHandshake', WHERE WHAT IT READS IS OF BULK AT MOST 1048576: true; the input reads as it did. -/
def fnHandshakeUptoRow : OpenClaim := { program := "ytbddhlhpakbcdaa", sum := "3e8b4c507b5484194a7efd834099b58f4af0cef2dfdeb8fc892d739182c52b58", func := "loop.example/g00205/laws.FnHandshake", spec := "fnHandshake", unfollowed := true, recurses := true, plainKeys := false, apart := false, narrowed := true }
def FnHandshakeUptoSaid : Prop := fnHandshakeUptoRow.holds Try.pinned (OpenSpec.upto fnHandshakeSpec)

/-- 'laws.FnExactSendLoad', WHERE WHAT IT READS IS OF BULK AT MOST 1048576: true; the input reads as it did. -/
def fnExactSendLoadUptoRow : OpenClaim := { program := "ytbddhlhpakbcdaa", sum := "3e8b4c507b5484194a7efd834099b58f4af0cef2dfdeb8fc892d739182c52b58", func := "loop.example/g00205/laws.FnExactSendLoad", spec := "fnExactSendLoad", unfollowed := true, recurses := true, plainKeys := false, apart := false, narrowed := true }
def FnExactSendLoadUptoSaid : Prop := fnExactSendLoadUptoRow.holds Try.pinned (OpenSpec.upto fnExactSendLoadSpec)

/-- 'laws.FnExactPartnerOf', WHERE WHAT IT READS IS OF BULK AT MOST 1048576: true; the input reads as it did. -/
def fnExactPartnerOfUptoRow : OpenClaim := { program := "ytbddhlhpakbcdaa", sum := "3e8b4c507b5484194a7efd834099b58f4af0cef2dfdeb8fc892d739182c52b58", func := "loop.example/g00205/laws.FnExactPartnerOf", spec := "fnExactPartnerOf", unfollowed := true, recurses := true, plainKeys := false, apart := false, narrowed := true }
def FnExactPartnerOfUptoSaid : Prop := fnExactPartnerOfUptoRow.holds Try.pinned (OpenSpec.upto fnExactPartnerOfSpec)

end Rows
end Go.Proofs.Ytbddhlhpakbcdaa
