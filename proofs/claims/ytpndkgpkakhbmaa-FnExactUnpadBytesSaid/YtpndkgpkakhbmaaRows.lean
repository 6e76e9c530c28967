/-
  No cell of these rows narrows 'for every input' (looked for: loops, veiled, ifaces, maps, wideKeys, modest, calm, conditions, laid).
  DERIVED. THE GIVEN ROWS OF THIS SEAT. 12 by the template 'for every input the law returns true; each argument reads behind the call as it read before'; 0 by the template 'total and deterministic' (their statements: YtpndkgpkakhbmaaTotals.lean).
  GIVEN WITH THE SEED: the statements are not yours to turn. If you find one false, say at which input.
  Laid BY PROGRAM, IN A SANDBOX (cutbox-rows.mjs): the forced cells as the released guide's own fill.sh prints them over the translation b7d8f5794aa59a21… (all of the seat's roots in one cut). By AI agents, Wed Nov 11 2026. No macro, syntax, notation, axiom, sorry.
-/
import Derived.Test.YtpndkgpkakhbmaaChecked
import GoSem.Claim
import GoSem.ClaimJoined
import GoSem.ClaimMapViews
import Derived.JoinedTies
import Derived.KernelRfl
namespace Go.Proofs.Ytpndkgpkakhbmaa
/- THE CELL 'sum', in the pinned program and in every row, IS THE sha256 OF THE DUMP (.gsa) THAT YtpndkgpkakhbmaaProg.lean LOADS. Nothing in Lean hashes anything: it is a label: what it is worth is what the hold of that sum in a sandbox is worth. -/
noncomputable def Try.pinned : Pinned := { name := "ytpndkgpkakhbmaa", sum := "b7d8f5794aa59a21f7b2eb207921bf385976781ed3aa3de97f97a098e7bfb2c3", checked := Try.checked }
namespace Rows
def none {H : Type} : Left H := { results := [], args := [] }

/-- 'laws.FnExactPeekOuter': WHATEVER THE INPUT: true; the input reads as it did. -/
def fnExactPeekOuterSpec : ChangeSpec := { name := "fnExactPeekOuter", fn := fun _ => fun
  | [d] => { results := [.lit (.bool true)], args := [d] }
  | _ => none }
def fnExactPeekOuterRow : OpenClaim := { program := "ytpndkgpkakhbmaa", sum := "b7d8f5794aa59a21f7b2eb207921bf385976781ed3aa3de97f97a098e7bfb2c3", func := "loop.example/g00205/laws.FnExactPeekOuter", spec := "fnExactPeekOuter", apart := false }
def FnExactPeekOuterSaid : Prop := fnExactPeekOuterRow.holds Try.pinned (OpenSpec.ofChange fnExactPeekOuterSpec)

/-- ITS FALSE NEIGHBOUR: 'it returns false'. Refute it at one input. -/
def fnExactPeekOuterWrong : ChangeSpec := { name := "fnExactPeekOuter", fn := fun _ => fun
  | [d] => { results := [.lit (.bool false)], args := [d] }
  | _ => none }
def FnExactPeekOuterWrongFalsely : Prop := fnExactPeekOuterRow.holds Try.pinned (OpenSpec.ofChange fnExactPeekOuterWrong)

/-- 'laws.FnExactTagOf': WHATEVER THE INPUT: true; the input reads as it did. -/
def fnExactTagOfSpec : ChangeSpec := { name := "fnExactTagOf", fn := fun _ => fun
  | [d1, d2, d3] => { results := [.lit (.bool true)], args := [d1, d2, d3] }
  | _ => none }
def fnExactTagOfRow : OpenClaim := { program := "ytpndkgpkakhbmaa", sum := "b7d8f5794aa59a21f7b2eb207921bf385976781ed3aa3de97f97a098e7bfb2c3", func := "loop.example/g00205/laws.FnExactTagOf", spec := "fnExactTagOf", apart := false }
def FnExactTagOfSaid : Prop := fnExactTagOfRow.holds Try.pinned (OpenSpec.ofChange fnExactTagOfSpec)

/-- ITS FALSE NEIGHBOUR: 'it returns false'. Refute it at one input. -/
def fnExactTagOfWrong : ChangeSpec := { name := "fnExactTagOf", fn := fun _ => fun
  | [d1, d2, d3] => { results := [.lit (.bool false)], args := [d1, d2, d3] }
  | _ => none }
def FnExactTagOfWrongFalsely : Prop := fnExactTagOfRow.holds Try.pinned (OpenSpec.ofChange fnExactTagOfWrong)

/-- 'laws.FnExactStreamOf': WHATEVER THE INPUT: true; the input reads as it did. -/
def fnExactStreamOfSpec : ChangeSpec := { name := "fnExactStreamOf", fn := fun _ => fun
  | [d1, d2, d3] => { results := [.lit (.bool true)], args := [d1, d2, d3] }
  | _ => none }
def fnExactStreamOfRow : OpenClaim := { program := "ytpndkgpkakhbmaa", sum := "b7d8f5794aa59a21f7b2eb207921bf385976781ed3aa3de97f97a098e7bfb2c3", func := "loop.example/g00205/laws.FnExactStreamOf", spec := "fnExactStreamOf", apart := false }
def FnExactStreamOfSaid : Prop := fnExactStreamOfRow.holds Try.pinned (OpenSpec.ofChange fnExactStreamOfSpec)

/-- ITS FALSE NEIGHBOUR: 'it returns false'. Refute it at one input. -/
def fnExactStreamOfWrong : ChangeSpec := { name := "fnExactStreamOf", fn := fun _ => fun
  | [d1, d2, d3] => { results := [.lit (.bool false)], args := [d1, d2, d3] }
  | _ => none }
def FnExactStreamOfWrongFalsely : Prop := fnExactStreamOfRow.holds Try.pinned (OpenSpec.ofChange fnExactStreamOfWrong)

/-- 'laws.FnExactPadBytes': WHATEVER THE INPUT: true; the input reads as it did. -/
def fnExactPadBytesSpec : ChangeSpec := { name := "fnExactPadBytes", fn := fun _ => fun
  | [d1, d2, d3] => { results := [.lit (.bool true)], args := [d1, d2, d3] }
  | _ => none }
def fnExactPadBytesRow : OpenClaim := { program := "ytpndkgpkakhbmaa", sum := "b7d8f5794aa59a21f7b2eb207921bf385976781ed3aa3de97f97a098e7bfb2c3", func := "loop.example/g00205/laws.FnExactPadBytes", spec := "fnExactPadBytes", apart := false }
def FnExactPadBytesSaid : Prop := fnExactPadBytesRow.holds Try.pinned (OpenSpec.ofChange fnExactPadBytesSpec)

/-- ITS FALSE NEIGHBOUR: 'it returns false'. Refute it at one input. -/
def fnExactPadBytesWrong : ChangeSpec := { name := "fnExactPadBytes", fn := fun _ => fun
  | [d1, d2, d3] => { results := [.lit (.bool false)], args := [d1, d2, d3] }
  | _ => none }
def FnExactPadBytesWrongFalsely : Prop := fnExactPadBytesRow.holds Try.pinned (OpenSpec.ofChange fnExactPadBytesWrong)

/-- 'laws.FnPads': WHATEVER THE INPUT: true; the input reads as it did. -/
def fnPadsSpec : ChangeSpec := { name := "fnPads", fn := fun _ => fun
  | [d] => { results := [.lit (.bool true)], args := [d] }
  | _ => none }
def fnPadsRow : OpenClaim := { program := "ytpndkgpkakhbmaa", sum := "b7d8f5794aa59a21f7b2eb207921bf385976781ed3aa3de97f97a098e7bfb2c3", func := "loop.example/g00205/laws.FnPads", spec := "fnPads", apart := false }
def FnPadsSaid : Prop := fnPadsRow.holds Try.pinned (OpenSpec.ofChange fnPadsSpec)

/-- ITS FALSE NEIGHBOUR: 'it returns false'. Refute it at one input. -/
def fnPadsWrong : ChangeSpec := { name := "fnPads", fn := fun _ => fun
  | [d] => { results := [.lit (.bool false)], args := [d] }
  | _ => none }
def FnPadsWrongFalsely : Prop := fnPadsRow.holds Try.pinned (OpenSpec.ofChange fnPadsWrong)

/-- 'laws.FnExactWordsOf': WHATEVER THE INPUT: true; the input reads as it did. -/
def fnExactWordsOfSpec : ChangeSpec := { name := "fnExactWordsOf", fn := fun _ => fun
  | [d] => { results := [.lit (.bool true)], args := [d] }
  | _ => none }
def fnExactWordsOfRow : OpenClaim := { program := "ytpndkgpkakhbmaa", sum := "b7d8f5794aa59a21f7b2eb207921bf385976781ed3aa3de97f97a098e7bfb2c3", func := "loop.example/g00205/laws.FnExactWordsOf", spec := "fnExactWordsOf", unfollowed := true, recurses := true, apart := false }
def FnExactWordsOfSaid : Prop := fnExactWordsOfRow.holds Try.pinned (OpenSpec.ofChange fnExactWordsOfSpec)

/-- ITS FALSE NEIGHBOUR: 'it returns false'. Refute it at one input. -/
def fnExactWordsOfWrong : ChangeSpec := { name := "fnExactWordsOf", fn := fun _ => fun
  | [d] => { results := [.lit (.bool false)], args := [d] }
  | _ => none }
def FnExactWordsOfWrongFalsely : Prop := fnExactWordsOfRow.holds Try.pinned (OpenSpec.ofChange fnExactWordsOfWrong)

/-- 'laws.FnExactUnpadBytes': WHATEVER THE INPUT: true; the input reads as it did. -/
def fnExactUnpadBytesSpec : ChangeSpec := { name := "fnExactUnpadBytes", fn := fun _ => fun
  | [d] => { results := [.lit (.bool true)], args := [d] }
  | _ => none }
def fnExactUnpadBytesRow : OpenClaim := { program := "ytpndkgpkakhbmaa", sum := "b7d8f5794aa59a21f7b2eb207921bf385976781ed3aa3de97f97a098e7bfb2c3", func := "loop.example/g00205/laws.FnExactUnpadBytes", spec := "fnExactUnpadBytes", apart := false }
def FnExactUnpadBytesSaid : Prop := fnExactUnpadBytesRow.holds Try.pinned (OpenSpec.ofChange fnExactUnpadBytesSpec)

/-- ITS FALSE NEIGHBOUR: 'it returns false'. Refute it at one input. -/
def fnExactUnpadBytesWrong : ChangeSpec := { name := "fnExactUnpadBytes", fn := fun _ => fun
  | [d] => { results := [.lit (.bool false)], args := [d] }
  | _ => none }
def FnExactUnpadBytesWrongFalsely : Prop := fnExactUnpadBytesRow.holds Try.pinned (OpenSpec.ofChange fnExactUnpadBytesWrong)

/-- 'laws.FnExactSealBytes': WHATEVER THE INPUT: true; the input reads as it did. -/
def fnExactSealBytesSpec : ChangeSpec := { name := "fnExactSealBytes", fn := fun _ => fun
  | [d1, d2, d3] => { results := [.lit (.bool true)], args := [d1, d2, d3] }
  | _ => none }
def fnExactSealBytesRow : OpenClaim := { program := "ytpndkgpkakhbmaa", sum := "b7d8f5794aa59a21f7b2eb207921bf385976781ed3aa3de97f97a098e7bfb2c3", func := "loop.example/g00205/laws.FnExactSealBytes", spec := "fnExactSealBytes", apart := false }
def FnExactSealBytesSaid : Prop := fnExactSealBytesRow.holds Try.pinned (OpenSpec.ofChange fnExactSealBytesSpec)

/-- ITS FALSE NEIGHBOUR: 'it returns false'. Refute it at one input. -/
def fnExactSealBytesWrong : ChangeSpec := { name := "fnExactSealBytes", fn := fun _ => fun
  | [d1, d2, d3] => { results := [.lit (.bool false)], args := [d1, d2, d3] }
  | _ => none }
def FnExactSealBytesWrongFalsely : Prop := fnExactSealBytesRow.holds Try.pinned (OpenSpec.ofChange fnExactSealBytesWrong)

/-- 'laws.FnExactOpenBytes': WHATEVER THE INPUT: true; the input reads as it did. -/
def fnExactOpenBytesSpec : ChangeSpec := { name := "fnExactOpenBytes", fn := fun _ => fun
  | [d1, d2, d3] => { results := [.lit (.bool true)], args := [d1, d2, d3] }
  | _ => none }
def fnExactOpenBytesRow : OpenClaim := { program := "ytpndkgpkakhbmaa", sum := "b7d8f5794aa59a21f7b2eb207921bf385976781ed3aa3de97f97a098e7bfb2c3", func := "loop.example/g00205/laws.FnExactOpenBytes", spec := "fnExactOpenBytes", apart := false }
def FnExactOpenBytesSaid : Prop := fnExactOpenBytesRow.holds Try.pinned (OpenSpec.ofChange fnExactOpenBytesSpec)

/-- ITS FALSE NEIGHBOUR: 'it returns false'. Refute it at one input. -/
def fnExactOpenBytesWrong : ChangeSpec := { name := "fnExactOpenBytes", fn := fun _ => fun
  | [d1, d2, d3] => { results := [.lit (.bool false)], args := [d1, d2, d3] }
  | _ => none }
def FnExactOpenBytesWrongFalsely : Prop := fnExactOpenBytesRow.holds Try.pinned (OpenSpec.ofChange fnExactOpenBytesWrong)

/-- 'laws.FnSeals': WHATEVER THE INPUT: true; the input reads as it did. -/
def fnSealsSpec : ChangeSpec := { name := "fnSeals", fn := fun _ => fun
  | [d] => { results := [.lit (.bool true)], args := [d] }
  | _ => none }
def fnSealsRow : OpenClaim := { program := "ytpndkgpkakhbmaa", sum := "b7d8f5794aa59a21f7b2eb207921bf385976781ed3aa3de97f97a098e7bfb2c3", func := "loop.example/g00205/laws.FnSeals", spec := "fnSeals", apart := false }
def FnSealsSaid : Prop := fnSealsRow.holds Try.pinned (OpenSpec.ofChange fnSealsSpec)

/-- ITS FALSE NEIGHBOUR: 'it returns false'. Refute it at one input. -/
def fnSealsWrong : ChangeSpec := { name := "fnSeals", fn := fun _ => fun
  | [d] => { results := [.lit (.bool false)], args := [d] }
  | _ => none }
def FnSealsWrongFalsely : Prop := fnSealsRow.holds Try.pinned (OpenSpec.ofChange fnSealsWrong)

/-- 'laws.FnExactWrapInner': WHATEVER THE INPUT: true; the input reads as it did. -/
def fnExactWrapInnerSpec : ChangeSpec := { name := "fnExactWrapInner", fn := fun _ => fun
  | [d1, d2, d3, d4] => { results := [.lit (.bool true)], args := [d1, d2, d3, d4] }
  | _ => none }
def fnExactWrapInnerRow : OpenClaim := { program := "ytpndkgpkakhbmaa", sum := "b7d8f5794aa59a21f7b2eb207921bf385976781ed3aa3de97f97a098e7bfb2c3", func := "loop.example/g00205/laws.FnExactWrapInner", spec := "fnExactWrapInner", apart := false }
def FnExactWrapInnerSaid : Prop := fnExactWrapInnerRow.holds Try.pinned (OpenSpec.ofChange fnExactWrapInnerSpec)

/-- ITS FALSE NEIGHBOUR: 'it returns false'. Refute it at one input. -/
def fnExactWrapInnerWrong : ChangeSpec := { name := "fnExactWrapInner", fn := fun _ => fun
  | [d1, d2, d3, d4] => { results := [.lit (.bool false)], args := [d1, d2, d3, d4] }
  | _ => none }
def FnExactWrapInnerWrongFalsely : Prop := fnExactWrapInnerRow.holds Try.pinned (OpenSpec.ofChange fnExactWrapInnerWrong)

/-- 'laws.FnExactUnwrapOuter': WHATEVER THE INPUT: true; the input reads as it did. -/
def fnExactUnwrapOuterSpec : ChangeSpec := { name := "fnExactUnwrapOuter", fn := fun _ => fun
  | [d1, d2, d3] => { results := [.lit (.bool true)], args := [d1, d2, d3] }
  | _ => none }
def fnExactUnwrapOuterRow : OpenClaim := { program := "ytpndkgpkakhbmaa", sum := "b7d8f5794aa59a21f7b2eb207921bf385976781ed3aa3de97f97a098e7bfb2c3", func := "loop.example/g00205/laws.FnExactUnwrapOuter", spec := "fnExactUnwrapOuter", apart := false }
def FnExactUnwrapOuterSaid : Prop := fnExactUnwrapOuterRow.holds Try.pinned (OpenSpec.ofChange fnExactUnwrapOuterSpec)

/-- ITS FALSE NEIGHBOUR: 'it returns false'. Refute it at one input. -/
def fnExactUnwrapOuterWrong : ChangeSpec := { name := "fnExactUnwrapOuter", fn := fun _ => fun
  | [d1, d2, d3] => { results := [.lit (.bool false)], args := [d1, d2, d3] }
  | _ => none }
def FnExactUnwrapOuterWrongFalsely : Prop := fnExactUnwrapOuterRow.holds Try.pinned (OpenSpec.ofChange fnExactUnwrapOuterWrong)

/- THE SECOND FORM. 'bulk': how many values and letters a reading holds, each counted each time it is reached (what is shared counts as often as it is met; a slice's spare places count too). A statement '..UptoSaid' is the law's where the arguments, and the package variables that the reading takes, are together of bulk at most 1048576: NARROWER than '..Said'. Prove '..Said' where nothing that the law and all that it calls make is longer than what came in: it says more and counts as full. Else prove '..UptoSaid'. A law counts once. -/
mutual
def uptoBulk {H : Type} : DataW H → Nat
  | .lit (.string bytes) => bytes.length + 1
  | .lit _ => 1
  | .nil => 1
  | .ptr d => uptoBulk d + 1
  | .slice elems spare => uptoBulkAll elems + uptoBulkAll spare + 1
  | .agg parts => uptoBulkAll parts + 1
  | .iface _ d => uptoBulk d + 1
  | .map entries => uptoBulkEntries entries + 1
  | .held _ => 1
def uptoBulkAll {H : Type} : List (DataW H) → Nat
  | [] => 0
  | d :: r => uptoBulk d + uptoBulkAll r
def uptoBulkEntries {H : Type} : List (Lit × DataW H) → Nat
  | [] => 0
  | x :: r => uptoBulkEntry x + uptoBulkEntries r
def uptoBulkEntry {H : Type} : Lit × DataW H → Nat
  | (.string bytes, d) => bytes.length + uptoBulk d + 1
  | (_, d) => uptoBulk d + 1
 end
def uptoSmall : (H : Type) → List (DataW H) → Bool := fun _ ds => decide (uptoBulkAll ds ≤ 1048576)
def OpenSpec.upto (s : _root_.Go.ChangeSpec) : _root_.Go.OpenSpec := { _root_.Go.OpenSpec.ofChange s with cond := some uptoSmall }

/-- 'laws.FnExactPeekOuter', WHERE WHAT IT READS IS OF BULK AT MOST 1048576: true; the input reads as it did. -/
def fnExactPeekOuterUptoRow : OpenClaim := { program := "ytpndkgpkakhbmaa", sum := "b7d8f5794aa59a21f7b2eb207921bf385976781ed3aa3de97f97a098e7bfb2c3", func := "loop.example/g00205/laws.FnExactPeekOuter", spec := "fnExactPeekOuter", apart := false, narrowed := true }
def FnExactPeekOuterUptoSaid : Prop := fnExactPeekOuterUptoRow.holds Try.pinned (OpenSpec.upto fnExactPeekOuterSpec)

/-- 'laws.FnExactTagOf', WHERE WHAT IT READS IS OF BULK AT MOST 1048576: true; the input reads as it did. -/
def fnExactTagOfUptoRow : OpenClaim := { program := "ytpndkgpkakhbmaa", sum := "b7d8f5794aa59a21f7b2eb207921bf385976781ed3aa3de97f97a098e7bfb2c3", func := "loop.example/g00205/laws.FnExactTagOf", spec := "fnExactTagOf", apart := false, narrowed := true }
def FnExactTagOfUptoSaid : Prop := fnExactTagOfUptoRow.holds Try.pinned (OpenSpec.upto fnExactTagOfSpec)

/-- 'laws.FnExactStreamOf', WHERE WHAT IT READS IS OF BULK AT MOST 1048576: true; the input reads as it did. -/
def fnExactStreamOfUptoRow : OpenClaim := { program := "ytpndkgpkakhbmaa", sum := "b7d8f5794aa59a21f7b2eb207921bf385976781ed3aa3de97f97a098e7bfb2c3", func := "loop.example/g00205/laws.FnExactStreamOf", spec := "fnExactStreamOf", apart := false, narrowed := true }
def FnExactStreamOfUptoSaid : Prop := fnExactStreamOfUptoRow.holds Try.pinned (OpenSpec.upto fnExactStreamOfSpec)

/-- 'laws.FnExactPadBytes', WHERE WHAT IT READS IS OF BULK AT MOST 1048576: true; the input reads as it did. -/
def fnExactPadBytesUptoRow : OpenClaim := { program := "ytpndkgpkakhbmaa", sum := "b7d8f5794aa59a21f7b2eb207921bf385976781ed3aa3de97f97a098e7bfb2c3", func := "loop.example/g00205/laws.FnExactPadBytes", spec := "fnExactPadBytes", apart := false, narrowed := true }
def FnExactPadBytesUptoSaid : Prop := fnExactPadBytesUptoRow.holds Try.pinned (OpenSpec.upto fnExactPadBytesSpec)

/-- 'laws.FnPads', WHERE WHAT IT READS IS OF BULK AT MOST 1048576: true; the input reads as it did. -/
def fnPadsUptoRow : OpenClaim := { program := "ytpndkgpkakhbmaa", sum := "b7d8f5794aa59a21f7b2eb207921bf385976781ed3aa3de97f97a098e7bfb2c3", func := "loop.example/g00205/laws.FnPads", spec := "fnPads", apart := false, narrowed := true }
def FnPadsUptoSaid : Prop := fnPadsUptoRow.holds Try.pinned (OpenSpec.upto fnPadsSpec)

/-- 'laws.FnExactWordsOf', WHERE WHAT IT READS IS OF BULK AT MOST 1048576: true; the input reads as it did. -/
def fnExactWordsOfUptoRow : OpenClaim := { program := "ytpndkgpkakhbmaa", sum := "b7d8f5794aa59a21f7b2eb207921bf385976781ed3aa3de97f97a098e7bfb2c3", func := "loop.example/g00205/laws.FnExactWordsOf", spec := "fnExactWordsOf", unfollowed := true, recurses := true, apart := false, narrowed := true }
def FnExactWordsOfUptoSaid : Prop := fnExactWordsOfUptoRow.holds Try.pinned (OpenSpec.upto fnExactWordsOfSpec)

/-- 'laws.FnExactUnpadBytes', WHERE WHAT IT READS IS OF BULK AT MOST 1048576: true; the input reads as it did. -/
def fnExactUnpadBytesUptoRow : OpenClaim := { program := "ytpndkgpkakhbmaa", sum := "b7d8f5794aa59a21f7b2eb207921bf385976781ed3aa3de97f97a098e7bfb2c3", func := "loop.example/g00205/laws.FnExactUnpadBytes", spec := "fnExactUnpadBytes", apart := false, narrowed := true }
def FnExactUnpadBytesUptoSaid : Prop := fnExactUnpadBytesUptoRow.holds Try.pinned (OpenSpec.upto fnExactUnpadBytesSpec)

/-- 'laws.FnExactSealBytes', WHERE WHAT IT READS IS OF BULK AT MOST 1048576: true; the input reads as it did. -/
def fnExactSealBytesUptoRow : OpenClaim := { program := "ytpndkgpkakhbmaa", sum := "b7d8f5794aa59a21f7b2eb207921bf385976781ed3aa3de97f97a098e7bfb2c3", func := "loop.example/g00205/laws.FnExactSealBytes", spec := "fnExactSealBytes", apart := false, narrowed := true }
def FnExactSealBytesUptoSaid : Prop := fnExactSealBytesUptoRow.holds Try.pinned (OpenSpec.upto fnExactSealBytesSpec)

/-- 'laws.FnExactOpenBytes', WHERE WHAT IT READS IS OF BULK AT MOST 1048576: true; the input reads as it did. -/
def fnExactOpenBytesUptoRow : OpenClaim := { program := "ytpndkgpkakhbmaa", sum := "b7d8f5794aa59a21f7b2eb207921bf385976781ed3aa3de97f97a098e7bfb2c3", func := "loop.example/g00205/laws.FnExactOpenBytes", spec := "fnExactOpenBytes", apart := false, narrowed := true }
def FnExactOpenBytesUptoSaid : Prop := fnExactOpenBytesUptoRow.holds Try.pinned (OpenSpec.upto fnExactOpenBytesSpec)

/-- 'laws.FnSeals', WHERE WHAT IT READS IS OF BULK AT MOST 1048576: true; the input reads as it did. -/
def fnSealsUptoRow : OpenClaim := { program := "ytpndkgpkakhbmaa", sum := "b7d8f5794aa59a21f7b2eb207921bf385976781ed3aa3de97f97a098e7bfb2c3", func := "loop.example/g00205/laws.FnSeals", spec := "fnSeals", apart := false, narrowed := true }
def FnSealsUptoSaid : Prop := fnSealsUptoRow.holds Try.pinned (OpenSpec.upto fnSealsSpec)

/-- 'laws.FnExactWrapInner', WHERE WHAT IT READS IS OF BULK AT MOST 1048576: true; the input reads as it did. -/
def fnExactWrapInnerUptoRow : OpenClaim := { program := "ytpndkgpkakhbmaa", sum := "b7d8f5794aa59a21f7b2eb207921bf385976781ed3aa3de97f97a098e7bfb2c3", func := "loop.example/g00205/laws.FnExactWrapInner", spec := "fnExactWrapInner", apart := false, narrowed := true }
def FnExactWrapInnerUptoSaid : Prop := fnExactWrapInnerUptoRow.holds Try.pinned (OpenSpec.upto fnExactWrapInnerSpec)

/-- 'laws.FnExactUnwrapOuter', WHERE WHAT IT READS IS OF BULK AT MOST 1048576: true; the input reads as it did. -/
def fnExactUnwrapOuterUptoRow : OpenClaim := { program := "ytpndkgpkakhbmaa", sum := "b7d8f5794aa59a21f7b2eb207921bf385976781ed3aa3de97f97a098e7bfb2c3", func := "loop.example/g00205/laws.FnExactUnwrapOuter", spec := "fnExactUnwrapOuter", apart := false, narrowed := true }
def FnExactUnwrapOuterUptoSaid : Prop := fnExactUnwrapOuterUptoRow.holds Try.pinned (OpenSpec.upto fnExactUnwrapOuterSpec)

end Rows
end Go.Proofs.Ytpndkgpkakhbmaa
