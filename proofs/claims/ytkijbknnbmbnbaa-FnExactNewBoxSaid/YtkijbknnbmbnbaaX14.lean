import Derived.Test.YtkijbknnbmbnbaaY10
import Derived.Test.YtkijbknnbmbnbaaV10
set_option linter.unusedSimpArgs false
set_option linter.unusedVariables false
set_option maxRecDepth 100000
set_option maxHeartbeats 4000000
namespace Go.Proofs.Ytkijbknnbmbnbaa
open Go Go.AH
attribute [local irreducible] awpT ropsT qopsT stepT condKT gdKT EndT joinK loopKT seqKT blkKT kont kontR
theorem fnExactNewBox_calls {W : World} {h : Heap} {ι : Inj} {avs cargs : List Value} {tvs : List TV} (hr : HR Try.prog ι h h.length W.heap.size W) (hv : VRs ι avs cargs) (hf : VFs (conts h) tvs avs)
    (sh : ShArgs Try.prog #[2, 81, 82].toList tvs) : Calls Try.prog 11 ⟨cargs⟩ W (fun e W' => e = .returned (.bool true) ∧ Go.RowKit.Below W.heap.size W W') := by
  obtain ⟨cs0, _, rfl, hs0, cs1, _, rfl, hs1, cs2, _, rfl, hs2, rfl⟩ := sh
  obtain ⟨x0, e0⟩ := mat_int hs0 (by kernel_rfl) (by kernel_rfl)
  obtain ⟨x1, h1, e1, z1⟩ := mat_slice (s := sh_RuleS) hs1 (by kernel_rfl) (by kernel_rfl)
  obtain ⟨x2, h2, e2, z2⟩ := mat_slice (s := sh_PeerS) hs2 (by kernel_rfl) (by kernel_rfl)
  rw [e0, e1, e2] at hf
  exact law_T (law_NewBox nbS_ok nbI_ok nb_H) hr hv hf (by
    simp only [List.map_cons, List.map_nil, frz_p, frz_agg, frz_fzC, frz_fzCs]
    exact tvSp_at ⟨x0, x1, x2, rfl, h1, h2, z1, z2⟩)
end Go.Proofs.Ytkijbknnbmbnbaa
