/-
  No cell of these rows narrows 'for every input' (looked for: loops, veiled, ifaces, maps, wideKeys, modest, calm, conditions, laid).
  DERIVED. THE GIVEN ROWS OF THIS SEAT. 12 by the template 'for every input the law returns true; each argument reads behind the call as it read before'; 0 by the template 'total and deterministic' (their statements: YtngebdcbcliobaaTotals.lean).
  GIVEN WITH THE SEED: the statements are not yours to turn. If you find one false, say at which input.
  Laid BY PROGRAM, IN A SANDBOX (cutbox-rows.mjs): the forced cells as the released guide's own fill.sh prints them over the translation 54e5afa8bb41cc23… (all of the seat's roots in one cut). By AI agents, Wed Nov 11 2026. No macro, syntax, notation, axiom, sorry.
-/
import Derived.Test.YtngebdcbcliobaaChecked
import GoSem.Claim
import GoSem.ClaimJoined
import GoSem.ClaimMapViews
import Derived.JoinedTies
import Derived.KernelRfl
namespace Go.Proofs.Ytngebdcbcliobaa
/- THE CELL 'sum', in the pinned program and in every row, IS THE sha256 OF THE DUMP (.gsa) THAT YtngebdcbcliobaaProg.lean LOADS. Nothing in Lean hashes anything: it is a label: what it is worth is what the hold of that sum in a sandbox is worth. -/
noncomputable def Try.pinned : Pinned := { name := "ytngebdcbcliobaa", sum := "54e5afa8bb41cc23ead42f68238c98d4e80737b7e3dd598ea934cf16c48a5c01", checked := Try.checked }
namespace Rows
def none {H : Type} : Left H := { results := [], args := [] }

/-- 'laws.FnExactSaFault': WHATEVER THE INPUT: true; the input reads as it did. -/
def fnExactSaFaultSpec : ChangeSpec := { name := "fnExactSaFault", fn := fun _ => fun
  | [d] => { results := [.lit (.bool true)], args := [d] }
  | _ => none }
def fnExactSaFaultRow : OpenClaim := { program := "ytngebdcbcliobaa", sum := "54e5afa8bb41cc23ead42f68238c98d4e80737b7e3dd598ea934cf16c48a5c01", func := "loop.example/g00205/laws.FnExactSaFault", spec := "fnExactSaFault", apart := false }
def FnExactSaFaultSaid : Prop := fnExactSaFaultRow.holds Try.pinned (OpenSpec.ofChange fnExactSaFaultSpec)

/-- ITS FALSE NEIGHBOUR: 'it returns false'. Refute it at one input. -/
def fnExactSaFaultWrong : ChangeSpec := { name := "fnExactSaFault", fn := fun _ => fun
  | [d] => { results := [.lit (.bool false)], args := [d] }
  | _ => none }
def FnExactSaFaultWrongFalsely : Prop := fnExactSaFaultRow.holds Try.pinned (OpenSpec.ofChange fnExactSaFaultWrong)

/-- 'laws.FnExactSasFault': WHATEVER THE INPUT: true; the input reads as it did. -/
def fnExactSasFaultSpec : ChangeSpec := { name := "fnExactSasFault", fn := fun _ => fun
  | [d] => { results := [.lit (.bool true)], args := [d] }
  | _ => none }
def fnExactSasFaultRow : OpenClaim := { program := "ytngebdcbcliobaa", sum := "54e5afa8bb41cc23ead42f68238c98d4e80737b7e3dd598ea934cf16c48a5c01", func := "loop.example/g00205/laws.FnExactSasFault", spec := "fnExactSasFault", apart := false }
def FnExactSasFaultSaid : Prop := fnExactSasFaultRow.holds Try.pinned (OpenSpec.ofChange fnExactSasFaultSpec)

/-- ITS FALSE NEIGHBOUR: 'it returns false'. Refute it at one input. -/
def fnExactSasFaultWrong : ChangeSpec := { name := "fnExactSasFault", fn := fun _ => fun
  | [d] => { results := [.lit (.bool false)], args := [d] }
  | _ => none }
def FnExactSasFaultWrongFalsely : Prop := fnExactSasFaultRow.holds Try.pinned (OpenSpec.ofChange fnExactSasFaultWrong)

/-- 'laws.FnExpires': WHATEVER THE INPUT: true; the input reads as it did. -/
def fnExpiresSpec : ChangeSpec := { name := "fnExpires", fn := fun _ => fun
  | [d] => { results := [.lit (.bool true)], args := [d] }
  | _ => none }
def fnExpiresRow : OpenClaim := { program := "ytngebdcbcliobaa", sum := "54e5afa8bb41cc23ead42f68238c98d4e80737b7e3dd598ea934cf16c48a5c01", func := "loop.example/g00205/laws.FnExpires", spec := "fnExpires", unfollowed := true, recurses := true, apart := false }
def FnExpiresSaid : Prop := fnExpiresRow.holds Try.pinned (OpenSpec.ofChange fnExpiresSpec)

/-- ITS FALSE NEIGHBOUR: 'it returns false'. Refute it at one input. -/
def fnExpiresWrong : ChangeSpec := { name := "fnExpires", fn := fun _ => fun
  | [d] => { results := [.lit (.bool false)], args := [d] }
  | _ => none }
def FnExpiresWrongFalsely : Prop := fnExpiresRow.holds Try.pinned (OpenSpec.ofChange fnExpiresWrong)

/-- 'laws.FnExactChargeSa': WHATEVER THE INPUT: true; the input reads as it did. -/
def fnExactChargeSaSpec : ChangeSpec := { name := "fnExactChargeSa", fn := fun _ => fun
  | [d1, d2] => { results := [.lit (.bool true)], args := [d1, d2] }
  | _ => none }
def fnExactChargeSaRow : OpenClaim := { program := "ytngebdcbcliobaa", sum := "54e5afa8bb41cc23ead42f68238c98d4e80737b7e3dd598ea934cf16c48a5c01", func := "loop.example/g00205/laws.FnExactChargeSa", spec := "fnExactChargeSa", apart := false }
def FnExactChargeSaSaid : Prop := fnExactChargeSaRow.holds Try.pinned (OpenSpec.ofChange fnExactChargeSaSpec)

/-- ITS FALSE NEIGHBOUR: 'it returns false'. Refute it at one input. -/
def fnExactChargeSaWrong : ChangeSpec := { name := "fnExactChargeSa", fn := fun _ => fun
  | [d1, d2] => { results := [.lit (.bool false)], args := [d1, d2] }
  | _ => none }
def FnExactChargeSaWrongFalsely : Prop := fnExactChargeSaRow.holds Try.pinned (OpenSpec.ofChange fnExactChargeSaWrong)

/-- 'laws.FnExactTunnelPacket': WHATEVER THE INPUT: true; the input reads as it did. -/
def fnExactTunnelPacketSpec : ChangeSpec := { name := "fnExactTunnelPacket", fn := fun _ => fun
  | [d1, d2, d3, d4, d5, d6] => { results := [.lit (.bool true)], args := [d1, d2, d3, d4, d5, d6] }
  | _ => none }
def fnExactTunnelPacketRow : OpenClaim := { program := "ytngebdcbcliobaa", sum := "54e5afa8bb41cc23ead42f68238c98d4e80737b7e3dd598ea934cf16c48a5c01", func := "loop.example/g00205/laws.FnExactTunnelPacket", spec := "fnExactTunnelPacket", apart := false }
def FnExactTunnelPacketSaid : Prop := fnExactTunnelPacketRow.holds Try.pinned (OpenSpec.ofChange fnExactTunnelPacketSpec)

/-- ITS FALSE NEIGHBOUR: 'it returns false'. Refute it at one input. -/
def fnExactTunnelPacketWrong : ChangeSpec := { name := "fnExactTunnelPacket", fn := fun _ => fun
  | [d1, d2, d3, d4, d5, d6] => { results := [.lit (.bool false)], args := [d1, d2, d3, d4, d5, d6] }
  | _ => none }
def FnExactTunnelPacketWrongFalsely : Prop := fnExactTunnelPacketRow.holds Try.pinned (OpenSpec.ofChange fnExactTunnelPacketWrong)

/-- 'laws.FnExactSoonOver': WHATEVER THE INPUT: true; the input reads as it did. -/
def fnExactSoonOverSpec : ChangeSpec := { name := "fnExactSoonOver", fn := fun _ => fun
  | [d1, d2, d3] => { results := [.lit (.bool true)], args := [d1, d2, d3] }
  | _ => none }
def fnExactSoonOverRow : OpenClaim := { program := "ytngebdcbcliobaa", sum := "54e5afa8bb41cc23ead42f68238c98d4e80737b7e3dd598ea934cf16c48a5c01", func := "loop.example/g00205/laws.FnExactSoonOver", spec := "fnExactSoonOver", apart := false }
def FnExactSoonOverSaid : Prop := fnExactSoonOverRow.holds Try.pinned (OpenSpec.ofChange fnExactSoonOverSpec)

/-- ITS FALSE NEIGHBOUR: 'it returns false'. Refute it at one input. -/
def fnExactSoonOverWrong : ChangeSpec := { name := "fnExactSoonOver", fn := fun _ => fun
  | [d1, d2, d3] => { results := [.lit (.bool false)], args := [d1, d2, d3] }
  | _ => none }
def FnExactSoonOverWrongFalsely : Prop := fnExactSoonOverRow.holds Try.pinned (OpenSpec.ofChange fnExactSoonOverWrong)

/-- 'laws.FnExactSaForSpi': WHATEVER THE INPUT: true; the input reads as it did. -/
def fnExactSaForSpiSpec : ChangeSpec := { name := "fnExactSaForSpi", fn := fun _ => fun
  | [d1, d2] => { results := [.lit (.bool true)], args := [d1, d2] }
  | _ => none }
def fnExactSaForSpiRow : OpenClaim := { program := "ytngebdcbcliobaa", sum := "54e5afa8bb41cc23ead42f68238c98d4e80737b7e3dd598ea934cf16c48a5c01", func := "loop.example/g00205/laws.FnExactSaForSpi", spec := "fnExactSaForSpi", unfollowed := true, recurses := true, apart := false }
def FnExactSaForSpiSaid : Prop := fnExactSaForSpiRow.holds Try.pinned (OpenSpec.ofChange fnExactSaForSpiSpec)

/-- ITS FALSE NEIGHBOUR: 'it returns false'. Refute it at one input. -/
def fnExactSaForSpiWrong : ChangeSpec := { name := "fnExactSaForSpi", fn := fun _ => fun
  | [d1, d2] => { results := [.lit (.bool false)], args := [d1, d2] }
  | _ => none }
def FnExactSaForSpiWrongFalsely : Prop := fnExactSaForSpiRow.holds Try.pinned (OpenSpec.ofChange fnExactSaForSpiWrong)

/-- 'laws.FnExactExpireSas': WHATEVER THE INPUT: true; the input reads as it did. -/
def fnExactExpireSasSpec : ChangeSpec := { name := "fnExactExpireSas", fn := fun _ => fun
  | [d1, d2] => { results := [.lit (.bool true)], args := [d1, d2] }
  | _ => none }
def fnExactExpireSasRow : OpenClaim := { program := "ytngebdcbcliobaa", sum := "54e5afa8bb41cc23ead42f68238c98d4e80737b7e3dd598ea934cf16c48a5c01", func := "loop.example/g00205/laws.FnExactExpireSas", spec := "fnExactExpireSas", unfollowed := true, recurses := true, apart := false }
def FnExactExpireSasSaid : Prop := fnExactExpireSasRow.holds Try.pinned (OpenSpec.ofChange fnExactExpireSasSpec)

/-- ITS FALSE NEIGHBOUR: 'it returns false'. Refute it at one input. -/
def fnExactExpireSasWrong : ChangeSpec := { name := "fnExactExpireSas", fn := fun _ => fun
  | [d1, d2] => { results := [.lit (.bool false)], args := [d1, d2] }
  | _ => none }
def FnExactExpireSasWrongFalsely : Prop := fnExactExpireSasRow.holds Try.pinned (OpenSpec.ofChange fnExactExpireSasWrong)

/-- 'laws.FnExactDropSa': WHATEVER THE INPUT: true; the input reads as it did. -/
def fnExactDropSaSpec : ChangeSpec := { name := "fnExactDropSa", fn := fun _ => fun
  | [d1, d2] => { results := [.lit (.bool true)], args := [d1, d2] }
  | _ => none }
def fnExactDropSaRow : OpenClaim := { program := "ytngebdcbcliobaa", sum := "54e5afa8bb41cc23ead42f68238c98d4e80737b7e3dd598ea934cf16c48a5c01", func := "loop.example/g00205/laws.FnExactDropSa", spec := "fnExactDropSa", unfollowed := true, recurses := true, apart := false }
def FnExactDropSaSaid : Prop := fnExactDropSaRow.holds Try.pinned (OpenSpec.ofChange fnExactDropSaSpec)

/-- ITS FALSE NEIGHBOUR: 'it returns false'. Refute it at one input. -/
def fnExactDropSaWrong : ChangeSpec := { name := "fnExactDropSa", fn := fun _ => fun
  | [d1, d2] => { results := [.lit (.bool false)], args := [d1, d2] }
  | _ => none }
def FnExactDropSaWrongFalsely : Prop := fnExactDropSaRow.holds Try.pinned (OpenSpec.ofChange fnExactDropSaWrong)

/-- 'laws.FnTunnels': WHATEVER THE INPUT: true; the input reads as it did. -/
def fnTunnelsSpec : ChangeSpec := { name := "fnTunnels", fn := fun _ => fun
  | [d] => { results := [.lit (.bool true)], args := [d] }
  | _ => none }
def fnTunnelsRow : OpenClaim := { program := "ytngebdcbcliobaa", sum := "54e5afa8bb41cc23ead42f68238c98d4e80737b7e3dd598ea934cf16c48a5c01", func := "loop.example/g00205/laws.FnTunnels", spec := "fnTunnels", apart := false }
def FnTunnelsSaid : Prop := fnTunnelsRow.holds Try.pinned (OpenSpec.ofChange fnTunnelsSpec)

/-- ITS FALSE NEIGHBOUR: 'it returns false'. Refute it at one input. -/
def fnTunnelsWrong : ChangeSpec := { name := "fnTunnels", fn := fun _ => fun
  | [d] => { results := [.lit (.bool false)], args := [d] }
  | _ => none }
def FnTunnelsWrongFalsely : Prop := fnTunnelsRow.holds Try.pinned (OpenSpec.ofChange fnTunnelsWrong)

/-- 'laws.FnExactUntunnelPacket': WHATEVER THE INPUT: true; the input reads as it did. -/
def fnExactUntunnelPacketSpec : ChangeSpec := { name := "fnExactUntunnelPacket", fn := fun _ => fun
  | [d1, d2, d3] => { results := [.lit (.bool true)], args := [d1, d2, d3] }
  | _ => none }
def fnExactUntunnelPacketRow : OpenClaim := { program := "ytngebdcbcliobaa", sum := "54e5afa8bb41cc23ead42f68238c98d4e80737b7e3dd598ea934cf16c48a5c01", func := "loop.example/g00205/laws.FnExactUntunnelPacket", spec := "fnExactUntunnelPacket", apart := false }
def FnExactUntunnelPacketSaid : Prop := fnExactUntunnelPacketRow.holds Try.pinned (OpenSpec.ofChange fnExactUntunnelPacketSpec)

/-- ITS FALSE NEIGHBOUR: 'it returns false'. Refute it at one input. -/
def fnExactUntunnelPacketWrong : ChangeSpec := { name := "fnExactUntunnelPacket", fn := fun _ => fun
  | [d1, d2, d3] => { results := [.lit (.bool false)], args := [d1, d2, d3] }
  | _ => none }
def FnExactUntunnelPacketWrongFalsely : Prop := fnExactUntunnelPacketRow.holds Try.pinned (OpenSpec.ofChange fnExactUntunnelPacketWrong)

/-- 'laws.FnExactSaForPacket': WHATEVER THE INPUT: true; the input reads as it did. -/
def fnExactSaForPacketSpec : ChangeSpec := { name := "fnExactSaForPacket", fn := fun _ => fun
  | [d1, d2, d3] => { results := [.lit (.bool true)], args := [d1, d2, d3] }
  | _ => none }
def fnExactSaForPacketRow : OpenClaim := { program := "ytngebdcbcliobaa", sum := "54e5afa8bb41cc23ead42f68238c98d4e80737b7e3dd598ea934cf16c48a5c01", func := "loop.example/g00205/laws.FnExactSaForPacket", spec := "fnExactSaForPacket", unfollowed := true, recurses := true, apart := false }
def FnExactSaForPacketSaid : Prop := fnExactSaForPacketRow.holds Try.pinned (OpenSpec.ofChange fnExactSaForPacketSpec)

/-- ITS FALSE NEIGHBOUR: 'it returns false'. Refute it at one input. -/
def fnExactSaForPacketWrong : ChangeSpec := { name := "fnExactSaForPacket", fn := fun _ => fun
  | [d1, d2, d3] => { results := [.lit (.bool false)], args := [d1, d2, d3] }
  | _ => none }
def FnExactSaForPacketWrongFalsely : Prop := fnExactSaForPacketRow.holds Try.pinned (OpenSpec.ofChange fnExactSaForPacketWrong)

/- THE SECOND FORM. 'bulk': how many values and letters a reading holds, each counted each time it is reached (what is shared counts as often as it is met; a slice's spare places count too). A statement '..UptoSaid' is the law's where the arguments, and the package variables that the reading takes, are together of bulk at most 1048576: NARROWER than '..Said'. Prove '..Said' where nothing that the law and all that it calls make is longer than what came in: it says more and counts as full. Else prove '..UptoSaid'. A law counts once. -/
mutual
def uptoBulk {H : Type} : DataW H → Nat
  | .lit (.string bytes) => bytes.length + 1
  | .lit _ => 1
  | .nil => 1
  | .ptr d => uptoBulk d + 1
  | .slice elems spare => uptoBulkAll elems + uptoBulkAll spare + 1
  | .agg parts => uptoBulkAll parts + 1
  | .iface _ d => uptoBulk d + 1
  | .map entries => uptoBulkEntries entries + 1
  | .held _ => 1
def uptoBulkAll {H : Type} : List (DataW H) → Nat
  | [] => 0
  | d :: r => uptoBulk d + uptoBulkAll r
def uptoBulkEntries {H : Type} : List (Lit × DataW H) → Nat
  | [] => 0
  | x :: r => uptoBulkEntry x + uptoBulkEntries r
def uptoBulkEntry {H : Type} : Lit × DataW H → Nat
  | (.string bytes, d) => bytes.length + uptoBulk d + 1
  | (_, d) => uptoBulk d + 1
 end
def uptoSmall : (H : Type) → List (DataW H) → Bool := fun _ ds => decide (uptoBulkAll ds ≤ 1048576)
def OpenSpec.upto (s : _root_.Go.ChangeSpec) : _root_.Go.OpenSpec := { _root_.Go.OpenSpec.ofChange s with cond := some uptoSmall }

/-- 'laws.FnExactSaFault', WHERE WHAT IT READS IS OF BULK AT MOST 1048576: true; the input reads as it did. -/
def fnExactSaFaultUptoRow : OpenClaim := { program := "ytngebdcbcliobaa", sum := "54e5afa8bb41cc23ead42f68238c98d4e80737b7e3dd598ea934cf16c48a5c01", func := "loop.example/g00205/laws.FnExactSaFault", spec := "fnExactSaFault", apart := false, narrowed := true }
def FnExactSaFaultUptoSaid : Prop := fnExactSaFaultUptoRow.holds Try.pinned (OpenSpec.upto fnExactSaFaultSpec)

/-- 'laws.FnExactSasFault', WHERE WHAT IT READS IS OF BULK AT MOST 1048576: true; the input reads as it did. -/
def fnExactSasFaultUptoRow : OpenClaim := { program := "ytngebdcbcliobaa", sum := "54e5afa8bb41cc23ead42f68238c98d4e80737b7e3dd598ea934cf16c48a5c01", func := "loop.example/g00205/laws.FnExactSasFault", spec := "fnExactSasFault", apart := false, narrowed := true }
def FnExactSasFaultUptoSaid : Prop := fnExactSasFaultUptoRow.holds Try.pinned (OpenSpec.upto fnExactSasFaultSpec)

/-- 'laws.FnExpires', WHERE WHAT IT READS IS OF BULK AT MOST 1048576: true; the input reads as it did. -/
def fnExpiresUptoRow : OpenClaim := { program := "ytngebdcbcliobaa", sum := "54e5afa8bb41cc23ead42f68238c98d4e80737b7e3dd598ea934cf16c48a5c01", func := "loop.example/g00205/laws.FnExpires", spec := "fnExpires", unfollowed := true, recurses := true, apart := false, narrowed := true }
def FnExpiresUptoSaid : Prop := fnExpiresUptoRow.holds Try.pinned (OpenSpec.upto fnExpiresSpec)

/-- 'laws.FnExactChargeSa', WHERE WHAT IT READS IS OF BULK AT MOST 1048576: true; the input reads as it did. -/
def fnExactChargeSaUptoRow : OpenClaim := { program := "ytngebdcbcliobaa", sum := "54e5afa8bb41cc23ead42f68238c98d4e80737b7e3dd598ea934cf16c48a5c01", func := "loop.example/g00205/laws.FnExactChargeSa", spec := "fnExactChargeSa", apart := false, narrowed := true }
def FnExactChargeSaUptoSaid : Prop := fnExactChargeSaUptoRow.holds Try.pinned (OpenSpec.upto fnExactChargeSaSpec)

/-- 'laws.FnExactTunnelPacket', WHERE WHAT IT READS IS OF BULK AT MOST 1048576: true; the input reads as it did. -/
def fnExactTunnelPacketUptoRow : OpenClaim := { program := "ytngebdcbcliobaa", sum := "54e5afa8bb41cc23ead42f68238c98d4e80737b7e3dd598ea934cf16c48a5c01", func := "loop.example/g00205/laws.FnExactTunnelPacket", spec := "fnExactTunnelPacket", apart := false, narrowed := true }
def FnExactTunnelPacketUptoSaid : Prop := fnExactTunnelPacketUptoRow.holds Try.pinned (OpenSpec.upto fnExactTunnelPacketSpec)

/-- 'laws.FnExactSoonOver', WHERE WHAT IT READS IS OF BULK AT MOST 1048576: true; the input reads as it did. -/
def fnExactSoonOverUptoRow : OpenClaim := { program := "ytngebdcbcliobaa", sum := "54e5afa8bb41cc23ead42f68238c98d4e80737b7e3dd598ea934cf16c48a5c01", func := "loop.example/g00205/laws.FnExactSoonOver", spec := "fnExactSoonOver", apart := false, narrowed := true }
def FnExactSoonOverUptoSaid : Prop := fnExactSoonOverUptoRow.holds Try.pinned (OpenSpec.upto fnExactSoonOverSpec)

/-- 'laws.FnExactSaForSpi', WHERE WHAT IT READS IS OF BULK AT MOST 1048576: true; the input reads as it did. -/
def fnExactSaForSpiUptoRow : OpenClaim := { program := "ytngebdcbcliobaa", sum := "54e5afa8bb41cc23ead42f68238c98d4e80737b7e3dd598ea934cf16c48a5c01", func := "loop.example/g00205/laws.FnExactSaForSpi", spec := "fnExactSaForSpi", unfollowed := true, recurses := true, apart := false, narrowed := true }
def FnExactSaForSpiUptoSaid : Prop := fnExactSaForSpiUptoRow.holds Try.pinned (OpenSpec.upto fnExactSaForSpiSpec)

/-- 'laws.FnExactExpireSas', WHERE WHAT IT READS IS OF BULK AT MOST 1048576: true; the input reads as it did. -/
def fnExactExpireSasUptoRow : OpenClaim := { program := "ytngebdcbcliobaa", sum := "54e5afa8bb41cc23ead42f68238c98d4e80737b7e3dd598ea934cf16c48a5c01", func := "loop.example/g00205/laws.FnExactExpireSas", spec := "fnExactExpireSas", unfollowed := true, recurses := true, apart := false, narrowed := true }
def FnExactExpireSasUptoSaid : Prop := fnExactExpireSasUptoRow.holds Try.pinned (OpenSpec.upto fnExactExpireSasSpec)

/-- 'laws.FnExactDropSa', WHERE WHAT IT READS IS OF BULK AT MOST 1048576: true; the input reads as it did. -/
def fnExactDropSaUptoRow : OpenClaim := { program := "ytngebdcbcliobaa", sum := "54e5afa8bb41cc23ead42f68238c98d4e80737b7e3dd598ea934cf16c48a5c01", func := "loop.example/g00205/laws.FnExactDropSa", spec := "fnExactDropSa", unfollowed := true, recurses := true, apart := false, narrowed := true }
def FnExactDropSaUptoSaid : Prop := fnExactDropSaUptoRow.holds Try.pinned (OpenSpec.upto fnExactDropSaSpec)

/-- 'laws.FnTunnels', WHERE WHAT IT READS IS OF BULK AT MOST 1048576: true; the input reads as it did. -/
def fnTunnelsUptoRow : OpenClaim := { program := "ytngebdcbcliobaa", sum := "54e5afa8bb41cc23ead42f68238c98d4e80737b7e3dd598ea934cf16c48a5c01", func := "loop.example/g00205/laws.FnTunnels", spec := "fnTunnels", apart := false, narrowed := true }
def FnTunnelsUptoSaid : Prop := fnTunnelsUptoRow.holds Try.pinned (OpenSpec.upto fnTunnelsSpec)

/-- 'laws.FnExactUntunnelPacket', WHERE WHAT IT READS IS OF BULK AT MOST 1048576: true; the input reads as it did. -/
def fnExactUntunnelPacketUptoRow : OpenClaim := { program := "ytngebdcbcliobaa", sum := "54e5afa8bb41cc23ead42f68238c98d4e80737b7e3dd598ea934cf16c48a5c01", func := "loop.example/g00205/laws.FnExactUntunnelPacket", spec := "fnExactUntunnelPacket", apart := false, narrowed := true }
def FnExactUntunnelPacketUptoSaid : Prop := fnExactUntunnelPacketUptoRow.holds Try.pinned (OpenSpec.upto fnExactUntunnelPacketSpec)

/-- 'laws.FnExactSaForPacket', WHERE WHAT IT READS IS OF BULK AT MOST 1048576: true; the input reads as it did. -/
def fnExactSaForPacketUptoRow : OpenClaim := { program := "ytngebdcbcliobaa", sum := "54e5afa8bb41cc23ead42f68238c98d4e80737b7e3dd598ea934cf16c48a5c01", func := "loop.example/g00205/laws.FnExactSaForPacket", spec := "fnExactSaForPacket", unfollowed := true, recurses := true, apart := false, narrowed := true }
def FnExactSaForPacketUptoSaid : Prop := fnExactSaForPacketUptoRow.holds Try.pinned (OpenSpec.upto fnExactSaForPacketSpec)

end Rows
end Go.Proofs.Ytngebdcbcliobaa
