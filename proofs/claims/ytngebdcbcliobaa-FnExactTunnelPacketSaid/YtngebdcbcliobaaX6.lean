import Derived.Test.YtngebdcbcliobaaY1
import Derived.Test.YtngebdcbcliobaaV5
set_option linter.unusedSimpArgs false
set_option linter.unusedVariables false
set_option maxRecDepth 100000
set_option maxHeartbeats 4000000
namespace Go.Proofs.Ytngebdcbcliobaa
open Go Go.AH
attribute [local irreducible] awpT ropsT qopsT stepT condKT gdKT EndT joinK loopKT seqKT blkKT kont kontR
theorem fnExactTunnelPacket_calls {W : World} {h : Heap} {ι : Inj} {avs cargs : List Value} {tvs : List TV} (hr : HR Try.prog ι h h.length W.heap.size W) (hv : VRs ι avs cargs) (hf : VFs (conts h) tvs avs)
    (sh : ShArgs Try.prog #[2, 2, 2, 2, 2, 63].toList tvs) : Calls Try.prog 7 ⟨cargs⟩ W (fun e W' => e = .returned (.bool true) ∧ Go.RowKit.Below W.heap.size W W') := by
  obtain ⟨cs0, _, rfl, hs0, cs1, _, rfl, hs1, cs2, _, rfl, hs2, cs3, _, rfl, hs3, cs4, _, rfl, hs4, cs5, _, rfl, hs5, rfl⟩ := sh
  obtain ⟨x0, e0⟩ := mat_int hs0 (by kernel_rfl) (by kernel_rfl)
  obtain ⟨x1, e1⟩ := mat_int hs1 (by kernel_rfl) (by kernel_rfl)
  obtain ⟨x2, e2⟩ := mat_int hs2 (by kernel_rfl) (by kernel_rfl)
  obtain ⟨x3, e3⟩ := mat_int hs3 (by kernel_rfl) (by kernel_rfl)
  obtain ⟨x4, e4⟩ := mat_int hs4 (by kernel_rfl) (by kernel_rfl)
  obtain ⟨x5, h5, e5, z5⟩ := mat_struct (s := sh_Packet) hs5 (by kernel_rfl) (by kernel_rfl)
  rw [e0, e1, e2, e3, e4, e5] at hf
  exact law_T (law_TunnelPacket tunS_ok tunI_ok tun_H) hr hv hf (by
    simp only [List.map_cons, List.map_nil, frz_p, frz_agg, frz_fzC, frz_fzCs]
    exact tvSp_at ⟨x0, x1, x2, x3, x4, x5, rfl, h5, z5⟩)
end Go.Proofs.Ytngebdcbcliobaa
