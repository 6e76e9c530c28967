/-
  No cell of these rows narrows 'for every input' (looked for: loops, veiled, ifaces, maps, wideKeys, modest, calm, conditions, laid).
  DERIVED. THE GIVEN ROWS OF THIS SEAT. 11 by the template 'for every input the law returns true; each argument reads behind the call as it read before'; 0 by the template 'total and deterministic' (their statements: YtkijbknnbmbnbaaTotals.lean).
  GIVEN WITH THE SEED: the statements are not yours to turn. If you find one false, say at which input.
  Laid BY PROGRAM, IN A SANDBOX (cutbox-rows.mjs): the forced cells as the released guide's own fill.sh prints them over the translation 6e314118ba852426… (all of the seat's roots in one cut). By AI agents, Wed Nov 11 2026. No macro, syntax, notation, axiom, sorry.
-/
import Derived.Test.YtkijbknnbmbnbaaChecked
import GoSem.Claim
import GoSem.ClaimJoined
import GoSem.ClaimMapViews
import Derived.JoinedTies
import Derived.KernelRfl
namespace Go.Proofs.Ytkijbknnbmbnbaa
/- THE CELL 'sum', in the pinned program and in every row, IS THE sha256 OF THE DUMP (.gsa) THAT YtkijbknnbmbnbaaProg.lean LOADS. Nothing in Lean hashes anything: it is a label: what it is worth is what the hold of that sum in a sandbox is worth. -/
noncomputable def Try.pinned : Pinned := { name := "ytkijbknnbmbnbaa", sum := "6e314118ba8524263af848f7a1ed1f5c17eb6615ecd283287a129a576bd63038", checked := Try.checked }
namespace Rows
def none {H : Type} : Left H := { results := [], args := [] }

/-- 'laws.FnPads': WHATEVER THE INPUT: true; the input reads as it did. -/
def fnPadsSpec : ChangeSpec := { name := "fnPads", fn := fun _ => fun
  | [d] => { results := [.lit (.bool true)], args := [d] }
  | _ => none }
def fnPadsRow : OpenClaim := { program := "ytkijbknnbmbnbaa", sum := "6e314118ba8524263af848f7a1ed1f5c17eb6615ecd283287a129a576bd63038", func := "loop.example/g00205/laws.FnPads", spec := "fnPads", apart := false }
def FnPadsSaid : Prop := fnPadsRow.holds Try.pinned (OpenSpec.ofChange fnPadsSpec)

/-- ITS FALSE NEIGHBOUR: 'it returns false'. Refute it at one input. -/
def fnPadsWrong : ChangeSpec := { name := "fnPads", fn := fun _ => fun
  | [d] => { results := [.lit (.bool false)], args := [d] }
  | _ => none }
def FnPadsWrongFalsely : Prop := fnPadsRow.holds Try.pinned (OpenSpec.ofChange fnPadsWrong)

/-- 'laws.FnSeals': WHATEVER THE INPUT: true; the input reads as it did. -/
def fnSealsSpec : ChangeSpec := { name := "fnSeals", fn := fun _ => fun
  | [d] => { results := [.lit (.bool true)], args := [d] }
  | _ => none }
def fnSealsRow : OpenClaim := { program := "ytkijbknnbmbnbaa", sum := "6e314118ba8524263af848f7a1ed1f5c17eb6615ecd283287a129a576bd63038", func := "loop.example/g00205/laws.FnSeals", spec := "fnSeals", apart := false }
def FnSealsSaid : Prop := fnSealsRow.holds Try.pinned (OpenSpec.ofChange fnSealsSpec)

/-- ITS FALSE NEIGHBOUR: 'it returns false'. Refute it at one input. -/
def fnSealsWrong : ChangeSpec := { name := "fnSeals", fn := fun _ => fun
  | [d] => { results := [.lit (.bool false)], args := [d] }
  | _ => none }
def FnSealsWrongFalsely : Prop := fnSealsRow.holds Try.pinned (OpenSpec.ofChange fnSealsWrong)

/-- 'laws.FnExactWrapInner': WHATEVER THE INPUT: true; the input reads as it did. -/
def fnExactWrapInnerSpec : ChangeSpec := { name := "fnExactWrapInner", fn := fun _ => fun
  | [d1, d2, d3, d4] => { results := [.lit (.bool true)], args := [d1, d2, d3, d4] }
  | _ => none }
def fnExactWrapInnerRow : OpenClaim := { program := "ytkijbknnbmbnbaa", sum := "6e314118ba8524263af848f7a1ed1f5c17eb6615ecd283287a129a576bd63038", func := "loop.example/g00205/laws.FnExactWrapInner", spec := "fnExactWrapInner", apart := false }
def FnExactWrapInnerSaid : Prop := fnExactWrapInnerRow.holds Try.pinned (OpenSpec.ofChange fnExactWrapInnerSpec)

/-- ITS FALSE NEIGHBOUR: 'it returns false'. Refute it at one input. -/
def fnExactWrapInnerWrong : ChangeSpec := { name := "fnExactWrapInner", fn := fun _ => fun
  | [d1, d2, d3, d4] => { results := [.lit (.bool false)], args := [d1, d2, d3, d4] }
  | _ => none }
def FnExactWrapInnerWrongFalsely : Prop := fnExactWrapInnerRow.holds Try.pinned (OpenSpec.ofChange fnExactWrapInnerWrong)

/-- 'laws.FnExactUnwrapOuter': WHATEVER THE INPUT: true; the input reads as it did. -/
def fnExactUnwrapOuterSpec : ChangeSpec := { name := "fnExactUnwrapOuter", fn := fun _ => fun
  | [d1, d2, d3] => { results := [.lit (.bool true)], args := [d1, d2, d3] }
  | _ => none }
def fnExactUnwrapOuterRow : OpenClaim := { program := "ytkijbknnbmbnbaa", sum := "6e314118ba8524263af848f7a1ed1f5c17eb6615ecd283287a129a576bd63038", func := "loop.example/g00205/laws.FnExactUnwrapOuter", spec := "fnExactUnwrapOuter", apart := false }
def FnExactUnwrapOuterSaid : Prop := fnExactUnwrapOuterRow.holds Try.pinned (OpenSpec.ofChange fnExactUnwrapOuterSpec)

/-- ITS FALSE NEIGHBOUR: 'it returns false'. Refute it at one input. -/
def fnExactUnwrapOuterWrong : ChangeSpec := { name := "fnExactUnwrapOuter", fn := fun _ => fun
  | [d1, d2, d3] => { results := [.lit (.bool false)], args := [d1, d2, d3] }
  | _ => none }
def FnExactUnwrapOuterWrongFalsely : Prop := fnExactUnwrapOuterRow.holds Try.pinned (OpenSpec.ofChange fnExactUnwrapOuterWrong)

/-- 'laws.FnExpires': WHATEVER THE INPUT: true; the input reads as it did. -/
def fnExpiresSpec : ChangeSpec := { name := "fnExpires", fn := fun _ => fun
  | [d] => { results := [.lit (.bool true)], args := [d] }
  | _ => none }
def fnExpiresRow : OpenClaim := { program := "ytkijbknnbmbnbaa", sum := "6e314118ba8524263af848f7a1ed1f5c17eb6615ecd283287a129a576bd63038", func := "loop.example/g00205/laws.FnExpires", spec := "fnExpires", unfollowed := true, recurses := true, apart := false }
def FnExpiresSaid : Prop := fnExpiresRow.holds Try.pinned (OpenSpec.ofChange fnExpiresSpec)

/-- ITS FALSE NEIGHBOUR: 'it returns false'. Refute it at one input. -/
def fnExpiresWrong : ChangeSpec := { name := "fnExpires", fn := fun _ => fun
  | [d] => { results := [.lit (.bool false)], args := [d] }
  | _ => none }
def FnExpiresWrongFalsely : Prop := fnExpiresRow.holds Try.pinned (OpenSpec.ofChange fnExpiresWrong)

/-- 'laws.FnTunnels': WHATEVER THE INPUT: true; the input reads as it did. -/
def fnTunnelsSpec : ChangeSpec := { name := "fnTunnels", fn := fun _ => fun
  | [d] => { results := [.lit (.bool true)], args := [d] }
  | _ => none }
def fnTunnelsRow : OpenClaim := { program := "ytkijbknnbmbnbaa", sum := "6e314118ba8524263af848f7a1ed1f5c17eb6615ecd283287a129a576bd63038", func := "loop.example/g00205/laws.FnTunnels", spec := "fnTunnels", apart := false }
def FnTunnelsSaid : Prop := fnTunnelsRow.holds Try.pinned (OpenSpec.ofChange fnTunnelsSpec)

/-- ITS FALSE NEIGHBOUR: 'it returns false'. Refute it at one input. -/
def fnTunnelsWrong : ChangeSpec := { name := "fnTunnels", fn := fun _ => fun
  | [d] => { results := [.lit (.bool false)], args := [d] }
  | _ => none }
def FnTunnelsWrongFalsely : Prop := fnTunnelsRow.holds Try.pinned (OpenSpec.ofChange fnTunnelsWrong)

/-- 'laws.FnExactBoxFault': WHATEVER THE INPUT: true; the input reads as it did. -/
def fnExactBoxFaultSpec : ChangeSpec := { name := "fnExactBoxFault", fn := fun _ => fun
  | [d] => { results := [.lit (.bool true)], args := [d] }
  | _ => none }
def fnExactBoxFaultRow : OpenClaim := { program := "ytkijbknnbmbnbaa", sum := "6e314118ba8524263af848f7a1ed1f5c17eb6615ecd283287a129a576bd63038", func := "loop.example/g00205/laws.FnExactBoxFault", spec := "fnExactBoxFault", unfollowed := true, recurses := true, apart := false }
def FnExactBoxFaultSaid : Prop := fnExactBoxFaultRow.holds Try.pinned (OpenSpec.ofChange fnExactBoxFaultSpec)

/-- ITS FALSE NEIGHBOUR: 'it returns false'. Refute it at one input. -/
def fnExactBoxFaultWrong : ChangeSpec := { name := "fnExactBoxFault", fn := fun _ => fun
  | [d] => { results := [.lit (.bool false)], args := [d] }
  | _ => none }
def FnExactBoxFaultWrongFalsely : Prop := fnExactBoxFaultRow.holds Try.pinned (OpenSpec.ofChange fnExactBoxFaultWrong)

/-- 'laws.FnExactPeerAddress': WHATEVER THE INPUT: true; the input reads as it did. -/
def fnExactPeerAddressSpec : ChangeSpec := { name := "fnExactPeerAddress", fn := fun _ => fun
  | [d1, d2] => { results := [.lit (.bool true)], args := [d1, d2] }
  | _ => none }
def fnExactPeerAddressRow : OpenClaim := { program := "ytkijbknnbmbnbaa", sum := "6e314118ba8524263af848f7a1ed1f5c17eb6615ecd283287a129a576bd63038", func := "loop.example/g00205/laws.FnExactPeerAddress", spec := "fnExactPeerAddress", unfollowed := true, recurses := true, apart := false }
def FnExactPeerAddressSaid : Prop := fnExactPeerAddressRow.holds Try.pinned (OpenSpec.ofChange fnExactPeerAddressSpec)

/-- ITS FALSE NEIGHBOUR: 'it returns false'. Refute it at one input. -/
def fnExactPeerAddressWrong : ChangeSpec := { name := "fnExactPeerAddress", fn := fun _ => fun
  | [d1, d2] => { results := [.lit (.bool false)], args := [d1, d2] }
  | _ => none }
def FnExactPeerAddressWrongFalsely : Prop := fnExactPeerAddressRow.holds Try.pinned (OpenSpec.ofChange fnExactPeerAddressWrong)

/-- 'laws.FnExactNewBox': WHATEVER THE INPUT: true; the input reads as it did. -/
def fnExactNewBoxSpec : ChangeSpec := { name := "fnExactNewBox", fn := fun _ => fun
  | [d1, d2, d3] => { results := [.lit (.bool true)], args := [d1, d2, d3] }
  | _ => none }
def fnExactNewBoxRow : OpenClaim := { program := "ytkijbknnbmbnbaa", sum := "6e314118ba8524263af848f7a1ed1f5c17eb6615ecd283287a129a576bd63038", func := "loop.example/g00205/laws.FnExactNewBox", spec := "fnExactNewBox", unfollowed := true, recurses := true, apart := false }
def FnExactNewBoxSaid : Prop := fnExactNewBoxRow.holds Try.pinned (OpenSpec.ofChange fnExactNewBoxSpec)

/-- ITS FALSE NEIGHBOUR: 'it returns false'. Refute it at one input. -/
def fnExactNewBoxWrong : ChangeSpec := { name := "fnExactNewBox", fn := fun _ => fun
  | [d1, d2, d3] => { results := [.lit (.bool false)], args := [d1, d2, d3] }
  | _ => none }
def FnExactNewBoxWrongFalsely : Prop := fnExactNewBoxRow.holds Try.pinned (OpenSpec.ofChange fnExactNewBoxWrong)

/-- 'laws.FnSas': WHATEVER THE INPUT: true; the input reads as it did. -/
def fnSasSpec : ChangeSpec := { name := "fnSas", fn := fun _ => fun
  | [d] => { results := [.lit (.bool true)], args := [d] }
  | _ => none }
def fnSasRow : OpenClaim := { program := "ytkijbknnbmbnbaa", sum := "6e314118ba8524263af848f7a1ed1f5c17eb6615ecd283287a129a576bd63038", func := "loop.example/g00205/laws.FnSas", spec := "fnSas", unfollowed := true, recurses := true, apart := false }
def FnSasSaid : Prop := fnSasRow.holds Try.pinned (OpenSpec.ofChange fnSasSpec)

/-- ITS FALSE NEIGHBOUR: 'it returns false'. Refute it at one input. -/
def fnSasWrong : ChangeSpec := { name := "fnSas", fn := fun _ => fun
  | [d] => { results := [.lit (.bool false)], args := [d] }
  | _ => none }
def FnSasWrongFalsely : Prop := fnSasRow.holds Try.pinned (OpenSpec.ofChange fnSasWrong)

/-- 'laws.FnExactAddSa': WHATEVER THE INPUT: true; the input reads as it did. -/
def fnExactAddSaSpec : ChangeSpec := { name := "fnExactAddSa", fn := fun _ => fun
  | [d1, d2] => { results := [.lit (.bool true)], args := [d1, d2] }
  | _ => none }
def fnExactAddSaRow : OpenClaim := { program := "ytkijbknnbmbnbaa", sum := "6e314118ba8524263af848f7a1ed1f5c17eb6615ecd283287a129a576bd63038", func := "loop.example/g00205/laws.FnExactAddSa", spec := "fnExactAddSa", unfollowed := true, recurses := true, apart := false }
def FnExactAddSaSaid : Prop := fnExactAddSaRow.holds Try.pinned (OpenSpec.ofChange fnExactAddSaSpec)

/-- ITS FALSE NEIGHBOUR: 'it returns false'. Refute it at one input. -/
def fnExactAddSaWrong : ChangeSpec := { name := "fnExactAddSa", fn := fun _ => fun
  | [d1, d2] => { results := [.lit (.bool false)], args := [d1, d2] }
  | _ => none }
def FnExactAddSaWrongFalsely : Prop := fnExactAddSaRow.holds Try.pinned (OpenSpec.ofChange fnExactAddSaWrong)

/- THE SECOND FORM. 'bulk': how many values and letters a reading holds, each counted each time it is reached (what is shared counts as often as it is met; a slice's spare places count too). A statement '..UptoSaid' is the law's where the arguments, and the package variables that the reading takes, are together of bulk at most 1048576: NARROWER than '..Said'. Prove '..Said' where nothing that the law and all that it calls make is longer than what came in: it says more and counts as full. Else prove '..UptoSaid'. A law counts once. -/
mutual
def uptoBulk {H : Type} : DataW H → Nat
  | .lit (.string bytes) => bytes.length + 1
  | .lit _ => 1
  | .nil => 1
  | .ptr d => uptoBulk d + 1
  | .slice elems spare => uptoBulkAll elems + uptoBulkAll spare + 1
  | .agg parts => uptoBulkAll parts + 1
  | .iface _ d => uptoBulk d + 1
  | .map entries => uptoBulkEntries entries + 1
  | .held _ => 1
def uptoBulkAll {H : Type} : List (DataW H) → Nat
  | [] => 0
  | d :: r => uptoBulk d + uptoBulkAll r
def uptoBulkEntries {H : Type} : List (Lit × DataW H) → Nat
  | [] => 0
  | x :: r => uptoBulkEntry x + uptoBulkEntries r
def uptoBulkEntry {H : Type} : Lit × DataW H → Nat
  | (.string bytes, d) => bytes.length + uptoBulk d + 1
  | (_, d) => uptoBulk d + 1
 end
def uptoSmall : (H : Type) → List (DataW H) → Bool := fun _ ds => decide (uptoBulkAll ds ≤ 1048576)
def OpenSpec.upto (s : _root_.Go.ChangeSpec) : _root_.Go.OpenSpec := { _root_.Go.OpenSpec.ofChange s with cond := some uptoSmall }

/-- 'laws.FnPads', WHERE WHAT IT READS IS OF BULK AT MOST 1048576: true; the input reads as it did. -/
def fnPadsUptoRow : OpenClaim := { program := "ytkijbknnbmbnbaa", sum := "6e314118ba8524263af848f7a1ed1f5c17eb6615ecd283287a129a576bd63038", func := "loop.example/g00205/laws.FnPads", spec := "fnPads", apart := false, narrowed := true }
def FnPadsUptoSaid : Prop := fnPadsUptoRow.holds Try.pinned (OpenSpec.upto fnPadsSpec)

/-- 'laws.FnSeals', WHERE WHAT IT READS IS OF BULK AT MOST 1048576: true; the input reads as it did. -/
def fnSealsUptoRow : OpenClaim := { program := "ytkijbknnbmbnbaa", sum := "6e314118ba8524263af848f7a1ed1f5c17eb6615ecd283287a129a576bd63038", func := "loop.example/g00205/laws.FnSeals", spec := "fnSeals", apart := false, narrowed := true }
def FnSealsUptoSaid : Prop := fnSealsUptoRow.holds Try.pinned (OpenSpec.upto fnSealsSpec)

/-- 'laws.FnExactWrapInner', WHERE WHAT IT READS IS OF BULK AT MOST 1048576: true; the input reads as it did. -/
def fnExactWrapInnerUptoRow : OpenClaim := { program := "ytkijbknnbmbnbaa", sum := "6e314118ba8524263af848f7a1ed1f5c17eb6615ecd283287a129a576bd63038", func := "loop.example/g00205/laws.FnExactWrapInner", spec := "fnExactWrapInner", apart := false, narrowed := true }
def FnExactWrapInnerUptoSaid : Prop := fnExactWrapInnerUptoRow.holds Try.pinned (OpenSpec.upto fnExactWrapInnerSpec)

/-- 'laws.FnExactUnwrapOuter', WHERE WHAT IT READS IS OF BULK AT MOST 1048576: true; the input reads as it did. -/
def fnExactUnwrapOuterUptoRow : OpenClaim := { program := "ytkijbknnbmbnbaa", sum := "6e314118ba8524263af848f7a1ed1f5c17eb6615ecd283287a129a576bd63038", func := "loop.example/g00205/laws.FnExactUnwrapOuter", spec := "fnExactUnwrapOuter", apart := false, narrowed := true }
def FnExactUnwrapOuterUptoSaid : Prop := fnExactUnwrapOuterUptoRow.holds Try.pinned (OpenSpec.upto fnExactUnwrapOuterSpec)

/-- 'laws.FnExpires', WHERE WHAT IT READS IS OF BULK AT MOST 1048576: true; the input reads as it did. -/
def fnExpiresUptoRow : OpenClaim := { program := "ytkijbknnbmbnbaa", sum := "6e314118ba8524263af848f7a1ed1f5c17eb6615ecd283287a129a576bd63038", func := "loop.example/g00205/laws.FnExpires", spec := "fnExpires", unfollowed := true, recurses := true, apart := false, narrowed := true }
def FnExpiresUptoSaid : Prop := fnExpiresUptoRow.holds Try.pinned (OpenSpec.upto fnExpiresSpec)

/-- 'laws.FnTunnels', WHERE WHAT IT READS IS OF BULK AT MOST 1048576: true; the input reads as it did. -/
def fnTunnelsUptoRow : OpenClaim := { program := "ytkijbknnbmbnbaa", sum := "6e314118ba8524263af848f7a1ed1f5c17eb6615ecd283287a129a576bd63038", func := "loop.example/g00205/laws.FnTunnels", spec := "fnTunnels", apart := false, narrowed := true }
def FnTunnelsUptoSaid : Prop := fnTunnelsUptoRow.holds Try.pinned (OpenSpec.upto fnTunnelsSpec)

/-- 'laws.FnExactBoxFault', WHERE WHAT IT READS IS OF BULK AT MOST 1048576: true; the input reads as it did. -/
def fnExactBoxFaultUptoRow : OpenClaim := { program := "ytkijbknnbmbnbaa", sum := "6e314118ba8524263af848f7a1ed1f5c17eb6615ecd283287a129a576bd63038", func := "loop.example/g00205/laws.FnExactBoxFault", spec := "fnExactBoxFault", unfollowed := true, recurses := true, apart := false, narrowed := true }
def FnExactBoxFaultUptoSaid : Prop := fnExactBoxFaultUptoRow.holds Try.pinned (OpenSpec.upto fnExactBoxFaultSpec)

/-- 'laws.FnExactPeerAddress', WHERE WHAT IT READS IS OF BULK AT MOST 1048576: true; the input reads as it did. -/
def fnExactPeerAddressUptoRow : OpenClaim := { program := "ytkijbknnbmbnbaa", sum := "6e314118ba8524263af848f7a1ed1f5c17eb6615ecd283287a129a576bd63038", func := "loop.example/g00205/laws.FnExactPeerAddress", spec := "fnExactPeerAddress", unfollowed := true, recurses := true, apart := false, narrowed := true }
def FnExactPeerAddressUptoSaid : Prop := fnExactPeerAddressUptoRow.holds Try.pinned (OpenSpec.upto fnExactPeerAddressSpec)

/-- 'laws.FnExactNewBox', WHERE WHAT IT READS IS OF BULK AT MOST 1048576: true; the input reads as it did. -/
def fnExactNewBoxUptoRow : OpenClaim := { program := "ytkijbknnbmbnbaa", sum := "6e314118ba8524263af848f7a1ed1f5c17eb6615ecd283287a129a576bd63038", func := "loop.example/g00205/laws.FnExactNewBox", spec := "fnExactNewBox", unfollowed := true, recurses := true, apart := false, narrowed := true }
def FnExactNewBoxUptoSaid : Prop := fnExactNewBoxUptoRow.holds Try.pinned (OpenSpec.upto fnExactNewBoxSpec)

/-- 'laws.FnSas', WHERE WHAT IT READS IS OF BULK AT MOST 1048576: true; the input reads as it did. -/
def fnSasUptoRow : OpenClaim := { program := "ytkijbknnbmbnbaa", sum := "6e314118ba8524263af848f7a1ed1f5c17eb6615ecd283287a129a576bd63038", func := "loop.example/g00205/laws.FnSas", spec := "fnSas", unfollowed := true, recurses := true, apart := false, narrowed := true }
def FnSasUptoSaid : Prop := fnSasUptoRow.holds Try.pinned (OpenSpec.upto fnSasSpec)

/-- 'laws.FnExactAddSa', WHERE WHAT IT READS IS OF BULK AT MOST 1048576: true; the input reads as it did. -/
def fnExactAddSaUptoRow : OpenClaim := { program := "ytkijbknnbmbnbaa", sum := "6e314118ba8524263af848f7a1ed1f5c17eb6615ecd283287a129a576bd63038", func := "loop.example/g00205/laws.FnExactAddSa", spec := "fnExactAddSa", unfollowed := true, recurses := true, apart := false, narrowed := true }
def FnExactAddSaUptoSaid : Prop := fnExactAddSaUptoRow.holds Try.pinned (OpenSpec.upto fnExactAddSaSpec)

end Rows
end Go.Proofs.Ytkijbknnbmbnbaa
