import Derived.Test.YtbddhlhpakbcdaaY20
import Derived.Test.YtbddhlhpakbcdaaV20
set_option linter.unusedSimpArgs false
set_option linter.unusedVariables false
set_option maxRecDepth 100000
set_option maxHeartbeats 4000000
namespace Go.Proofs.Ytbddhlhpakbcdaa
open Go Go.AH
attribute [local irreducible] awpT ropsT qopsT stepT condKT gdKT EndT joinK loopKT seqKT blkKT kont kontR ropsTF frKT
theorem fnExactPartnerOf_calls {W : World} {h : Heap} {ι : Inj} {avs cargs : List Value} {tvs : List TV} (hr : HR Try.prog ι h h.length W.heap.size W) (hv : VRs ι avs cargs) (hf : VFs (conts h) tvs avs)
    (sh : ShArgs Try.prog #[59, 2, 2].toList tvs) : Calls Try.prog 5 ⟨cargs⟩ W (fun e W' => e = .returned (.bool true) ∧ Go.RowKit.Below W.heap.size W W') := by
  obtain ⟨cs0, _, rfl, hs0, cs1, _, rfl, hs1, cs2, _, rfl, hs2, rfl⟩ := sh
  obtain ⟨x0, h0, e0, z0⟩ := mat_struct (s := sh_Net) hs0 (by kernel_rfl) (by kernel_rfl)
  obtain ⟨x1, e1⟩ := mat_int hs1 (by kernel_rfl) (by kernel_rfl)
  obtain ⟨x2, e2⟩ := mat_int hs2 (by kernel_rfl) (by kernel_rfl)
  rw [e0, e1, e2] at hf
  exact law_T (law_PartnerOf matS_ok matI_ok match_H) hr hv hf (by
    simp only [List.map_cons, List.map_nil, frz_p, frz_agg, frz_fzC, frz_fzCs]
    exact tvSp_at ⟨x0, x1, x2, rfl, h0, z0⟩)
end Go.Proofs.Ytbddhlhpakbcdaa
