import Derived.Test.YtkijbknnbmbnbaaY8
import Derived.Test.YtkijbknnbmbnbaaQ5
set_option linter.unusedSimpArgs false
set_option linter.unusedVariables false
set_option maxRecDepth 100000
set_option maxHeartbeats 4000000
namespace Go.Proofs.Ytkijbknnbmbnbaa
open Go Go.AH
attribute [local irreducible] awpT ropsT qopsT stepT condKT gdKT EndT joinK loopKT seqKT blkKT kont kontR

theorem fnSeals_calls {W : World} {h : Heap} {ι : Inj} {avs cargs : List Value} {tvs : List TV} (hr : HR Try.prog ι h h.length W.heap.size W) (hv : VRs ι avs cargs) (hf : VFs (conts h) tvs avs)
    (sh : ShArgs Try.prog #[22].toList tvs) : Calls Try.prog 4 ⟨cargs⟩ W (fun e W' => e = .returned (.bool true) ∧ Go.RowKit.Below W.heap.size W W') := by
  obtain ⟨cs0, _, rfl, hs0, rfl⟩ := sh
  obtain ⟨x0, h0, e0, z0⟩ := mat_slice (s := sh_ByteS) hs0 (by kernel_rfl) (by kernel_rfl)
  rw [e0] at hf
  obtain ⟨l, rfl, hb⟩ := bysC_ex h0
  exact law_T law_Seals hr hv hf (by
    simp only [List.map_cons, List.map_nil, frz_p, frz_agg, frz_fzC, frz_fzCs, bysC_fz]
    exact seals_at l hb)
end Go.Proofs.Ytkijbknnbmbnbaa
