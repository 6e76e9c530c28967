import Derived.Test.YtghpdclhhnbgjaaY13
import Derived.Test.YtghpdclhhnbgjaaV13
set_option linter.unusedSimpArgs false
set_option linter.unusedVariables false
set_option maxRecDepth 100000
set_option maxHeartbeats 4000000
namespace Go.Proofs.Ytghpdclhhnbgjaa
open Go Go.AH
attribute [local irreducible] awpT ropsT qopsT stepT condKT gdKT EndT joinK loopKT seqKT blkKT kont kontR
theorem fnExactAddSa_calls {W : World} {h : Heap} {ι : Inj} {avs cargs : List Value} {tvs : List TV} (hr : HR Try.prog ι h h.length W.heap.size W) (hv : VRs ι avs cargs) (hf : VFs (conts h) tvs avs)
    (sh : ShArgs Try.prog #[75, 79].toList tvs) : Calls Try.prog 7 ⟨cargs⟩ W (fun e W' => e = .returned (.bool true) ∧ Go.RowKit.Below W.heap.size W W') := by
  obtain ⟨cs0, _, rfl, hs0, cs1, _, rfl, hs1, rfl⟩ := sh
  obtain ⟨x0, h0, e0, z0⟩ := mat_slice (s := sh_SaS) hs0 (by kernel_rfl) (by kernel_rfl)
  obtain ⟨x1, h1, e1, z1⟩ := mat_struct (s := sh_Sa) hs1 (by kernel_rfl) (by kernel_rfl)
  rw [e0, e1] at hf
  exact law_T (law_AddSa addS_ok addI_ok add_H) hr hv hf (by
    simp only [List.map_cons, List.map_nil, frz_p, frz_agg, frz_fzC, frz_fzCs]
    exact tvSp_at ⟨x0, x1, rfl, h0, h1, z0, z1⟩)
end Go.Proofs.Ytghpdclhhnbgjaa
