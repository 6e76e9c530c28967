/-
  No cell of these rows narrows 'for every input' (looked for: loops, veiled, ifaces, maps, wideKeys, modest, calm, conditions, laid).
  DERIVED. THE GIVEN ROWS OF THIS SEAT. 5 by the template 'for every input the law returns true; each argument reads behind the call as it read before'; 0 by the template 'total and deterministic' (their statements: YtghpdclhhnbgjaaTotals.lean).
  GIVEN WITH THE SEED: the statements are not yours to turn. If you find one false, say at which input.
  Laid BY PROGRAM, IN A SANDBOX (cutbox-rows.mjs): the forced cells as the released guide's own fill.sh prints them over the translation e056f0ba177436cf… (all of the seat's roots in one cut). By AI agents, Wed Nov 11 2026. No macro, syntax, notation, axiom, sorry.
-/
import Derived.Test.YtghpdclhhnbgjaaChecked
import GoSem.Claim
import GoSem.ClaimJoined
import GoSem.ClaimMapViews
import Derived.JoinedTies
import Derived.KernelRfl
namespace Go.Proofs.Ytghpdclhhnbgjaa
/- THE CELL 'sum', in the pinned program and in every row, IS THE sha256 OF THE DUMP (.gsa) THAT YtghpdclhhnbgjaaProg.lean LOADS. Nothing in Lean hashes anything: it is a label: what it is worth is what the hold of that sum in a sandbox is worth. -/
noncomputable def Try.pinned : Pinned := { name := "ytghpdclhhnbgjaa", sum := "e056f0ba177436cf86b45f73a6b5a6f122cd2eeb1c334f7cddc23299ce9de24b", checked := Try.checked }
namespace Rows
def none {H : Type} : Left H := { results := [], args := [] }

/-- 'laws.FnExactWordsOf': WHATEVER THE INPUT: true; the input reads as it did. -/
def fnExactWordsOfSpec : ChangeSpec := { name := "fnExactWordsOf", fn := fun _ => fun
  | [d] => { results := [.lit (.bool true)], args := [d] }
  | _ => none }
def fnExactWordsOfRow : OpenClaim := { program := "ytghpdclhhnbgjaa", sum := "e056f0ba177436cf86b45f73a6b5a6f122cd2eeb1c334f7cddc23299ce9de24b", func := "loop.example/g00205/laws.FnExactWordsOf", spec := "fnExactWordsOf", unfollowed := true, recurses := true, apart := false }
def FnExactWordsOfSaid : Prop := fnExactWordsOfRow.holds Try.pinned (OpenSpec.ofChange fnExactWordsOfSpec)

/-- ITS FALSE NEIGHBOUR: 'it returns false'. Refute it at one input. -/
def fnExactWordsOfWrong : ChangeSpec := { name := "fnExactWordsOf", fn := fun _ => fun
  | [d] => { results := [.lit (.bool false)], args := [d] }
  | _ => none }
def FnExactWordsOfWrongFalsely : Prop := fnExactWordsOfRow.holds Try.pinned (OpenSpec.ofChange fnExactWordsOfWrong)

/-- 'laws.FnExpires': WHATEVER THE INPUT: true; the input reads as it did. -/
def fnExpiresSpec : ChangeSpec := { name := "fnExpires", fn := fun _ => fun
  | [d] => { results := [.lit (.bool true)], args := [d] }
  | _ => none }
def fnExpiresRow : OpenClaim := { program := "ytghpdclhhnbgjaa", sum := "e056f0ba177436cf86b45f73a6b5a6f122cd2eeb1c334f7cddc23299ce9de24b", func := "loop.example/g00205/laws.FnExpires", spec := "fnExpires", unfollowed := true, recurses := true, apart := false }
def FnExpiresSaid : Prop := fnExpiresRow.holds Try.pinned (OpenSpec.ofChange fnExpiresSpec)

/-- ITS FALSE NEIGHBOUR: 'it returns false'. Refute it at one input. -/
def fnExpiresWrong : ChangeSpec := { name := "fnExpires", fn := fun _ => fun
  | [d] => { results := [.lit (.bool false)], args := [d] }
  | _ => none }
def FnExpiresWrongFalsely : Prop := fnExpiresRow.holds Try.pinned (OpenSpec.ofChange fnExpiresWrong)

/-- 'laws.FnTunnels': WHATEVER THE INPUT: true; the input reads as it did. -/
def fnTunnelsSpec : ChangeSpec := { name := "fnTunnels", fn := fun _ => fun
  | [d] => { results := [.lit (.bool true)], args := [d] }
  | _ => none }
def fnTunnelsRow : OpenClaim := { program := "ytghpdclhhnbgjaa", sum := "e056f0ba177436cf86b45f73a6b5a6f122cd2eeb1c334f7cddc23299ce9de24b", func := "loop.example/g00205/laws.FnTunnels", spec := "fnTunnels", apart := false }
def FnTunnelsSaid : Prop := fnTunnelsRow.holds Try.pinned (OpenSpec.ofChange fnTunnelsSpec)

/-- ITS FALSE NEIGHBOUR: 'it returns false'. Refute it at one input. -/
def fnTunnelsWrong : ChangeSpec := { name := "fnTunnels", fn := fun _ => fun
  | [d] => { results := [.lit (.bool false)], args := [d] }
  | _ => none }
def FnTunnelsWrongFalsely : Prop := fnTunnelsRow.holds Try.pinned (OpenSpec.ofChange fnTunnelsWrong)

/-- 'laws.FnSas': WHATEVER THE INPUT: true; the input reads as it did. -/
def fnSasSpec : ChangeSpec := { name := "fnSas", fn := fun _ => fun
  | [d] => { results := [.lit (.bool true)], args := [d] }
  | _ => none }
def fnSasRow : OpenClaim := { program := "ytghpdclhhnbgjaa", sum := "e056f0ba177436cf86b45f73a6b5a6f122cd2eeb1c334f7cddc23299ce9de24b", func := "loop.example/g00205/laws.FnSas", spec := "fnSas", unfollowed := true, recurses := true, apart := false }
def FnSasSaid : Prop := fnSasRow.holds Try.pinned (OpenSpec.ofChange fnSasSpec)

/-- ITS FALSE NEIGHBOUR: 'it returns false'. Refute it at one input. -/
def fnSasWrong : ChangeSpec := { name := "fnSas", fn := fun _ => fun
  | [d] => { results := [.lit (.bool false)], args := [d] }
  | _ => none }
def FnSasWrongFalsely : Prop := fnSasRow.holds Try.pinned (OpenSpec.ofChange fnSasWrong)

/-- 'laws.FnExactAddSa': WHATEVER THE INPUT: true; the input reads as it did. -/
def fnExactAddSaSpec : ChangeSpec := { name := "fnExactAddSa", fn := fun _ => fun
  | [d1, d2] => { results := [.lit (.bool true)], args := [d1, d2] }
  | _ => none }
def fnExactAddSaRow : OpenClaim := { program := "ytghpdclhhnbgjaa", sum := "e056f0ba177436cf86b45f73a6b5a6f122cd2eeb1c334f7cddc23299ce9de24b", func := "loop.example/g00205/laws.FnExactAddSa", spec := "fnExactAddSa", unfollowed := true, recurses := true, apart := false }
def FnExactAddSaSaid : Prop := fnExactAddSaRow.holds Try.pinned (OpenSpec.ofChange fnExactAddSaSpec)

/-- ITS FALSE NEIGHBOUR: 'it returns false'. Refute it at one input. -/
def fnExactAddSaWrong : ChangeSpec := { name := "fnExactAddSa", fn := fun _ => fun
  | [d1, d2] => { results := [.lit (.bool false)], args := [d1, d2] }
  | _ => none }
def FnExactAddSaWrongFalsely : Prop := fnExactAddSaRow.holds Try.pinned (OpenSpec.ofChange fnExactAddSaWrong)

/- THE SECOND FORM. 'bulk': how many values and letters a reading holds, each counted each time it is reached (what is shared counts as often as it is met; a slice's spare places count too). A statement '..UptoSaid' is the law's where the arguments, and the package variables that the reading takes, are together of bulk at most 1048576: NARROWER than '..Said'. Prove '..Said' where nothing that the law and all that it calls make is longer than what came in: it says more and counts as full. Else prove '..UptoSaid'. A law counts once. -/
mutual
def uptoBulk {H : Type} : DataW H → Nat
  | .lit (.string bytes) => bytes.length + 1
  | .lit _ => 1
  | .nil => 1
  | .ptr d => uptoBulk d + 1
  | .slice elems spare => uptoBulkAll elems + uptoBulkAll spare + 1
  | .agg parts => uptoBulkAll parts + 1
  | .iface _ d => uptoBulk d + 1
  | .map entries => uptoBulkEntries entries + 1
  | .held _ => 1
def uptoBulkAll {H : Type} : List (DataW H) → Nat
  | [] => 0
  | d :: r => uptoBulk d + uptoBulkAll r
def uptoBulkEntries {H : Type} : List (Lit × DataW H) → Nat
  | [] => 0
  | x :: r => uptoBulkEntry x + uptoBulkEntries r
def uptoBulkEntry {H : Type} : Lit × DataW H → Nat
  | (.string bytes, d) => bytes.length + uptoBulk d + 1
  | (_, d) => uptoBulk d + 1
 end
def uptoSmall : (H : Type) → List (DataW H) → Bool := fun _ ds => decide (uptoBulkAll ds ≤ 1048576)
def OpenSpec.upto (s : _root_.Go.ChangeSpec) : _root_.Go.OpenSpec := { _root_.Go.OpenSpec.ofChange s with cond := some uptoSmall }

/-- 'laws.FnExactWordsOf', WHERE WHAT IT READS IS OF BULK AT MOST 1048576: true; the input reads as it did. -/
def fnExactWordsOfUptoRow : OpenClaim := { program := "ytghpdclhhnbgjaa", sum := "e056f0ba177436cf86b45f73a6b5a6f122cd2eeb1c334f7cddc23299ce9de24b", func := "loop.example/g00205/laws.FnExactWordsOf", spec := "fnExactWordsOf", unfollowed := true, recurses := true, apart := false, narrowed := true }
def FnExactWordsOfUptoSaid : Prop := fnExactWordsOfUptoRow.holds Try.pinned (OpenSpec.upto fnExactWordsOfSpec)

/-- 'laws.FnExpires', WHERE WHAT IT READS IS OF BULK AT MOST 1048576: true; the input reads as it did. -/
def fnExpiresUptoRow : OpenClaim := { program := "ytghpdclhhnbgjaa", sum := "e056f0ba177436cf86b45f73a6b5a6f122cd2eeb1c334f7cddc23299ce9de24b", func := "loop.example/g00205/laws.FnExpires", spec := "fnExpires", unfollowed := true, recurses := true, apart := false, narrowed := true }
def FnExpiresUptoSaid : Prop := fnExpiresUptoRow.holds Try.pinned (OpenSpec.upto fnExpiresSpec)

/-- 'laws.FnTunnels', WHERE WHAT IT READS IS OF BULK AT MOST 1048576: true; the input reads as it did. -/
def fnTunnelsUptoRow : OpenClaim := { program := "ytghpdclhhnbgjaa", sum := "e056f0ba177436cf86b45f73a6b5a6f122cd2eeb1c334f7cddc23299ce9de24b", func := "loop.example/g00205/laws.FnTunnels", spec := "fnTunnels", apart := false, narrowed := true }
def FnTunnelsUptoSaid : Prop := fnTunnelsUptoRow.holds Try.pinned (OpenSpec.upto fnTunnelsSpec)

/-- 'laws.FnSas', WHERE WHAT IT READS IS OF BULK AT MOST 1048576: true; the input reads as it did. -/
def fnSasUptoRow : OpenClaim := { program := "ytghpdclhhnbgjaa", sum := "e056f0ba177436cf86b45f73a6b5a6f122cd2eeb1c334f7cddc23299ce9de24b", func := "loop.example/g00205/laws.FnSas", spec := "fnSas", unfollowed := true, recurses := true, apart := false, narrowed := true }
def FnSasUptoSaid : Prop := fnSasUptoRow.holds Try.pinned (OpenSpec.upto fnSasSpec)

/-- 'laws.FnExactAddSa', WHERE WHAT IT READS IS OF BULK AT MOST 1048576: true; the input reads as it did. -/
def fnExactAddSaUptoRow : OpenClaim := { program := "ytghpdclhhnbgjaa", sum := "e056f0ba177436cf86b45f73a6b5a6f122cd2eeb1c334f7cddc23299ce9de24b", func := "loop.example/g00205/laws.FnExactAddSa", spec := "fnExactAddSa", unfollowed := true, recurses := true, apart := false, narrowed := true }
def FnExactAddSaUptoSaid : Prop := fnExactAddSaUptoRow.holds Try.pinned (OpenSpec.upto fnExactAddSaSpec)

end Rows
end Go.Proofs.Ytghpdclhhnbgjaa
