import Derived.Test.YtngebdcbcliobaaA13
namespace Go.AH
/-! Congruence that looks at the head alone, and always -/
def tag {α : Type} (x : α) : α := x
theorem tag_eq {α : Type} (x : α) : tag x = x := by unfold tag; exact id rfl
theorem kont_cong {α : Type} {o : Option α} {o' : Unit → Option α} {f : α → Prop} (h : ∀ u, tag o = o' u) : kont o f = kont (o' ()) f := by rw [← h]; rfl
theorem condK_cong {v : Value} {v' : Unit → Value} {p q : Prop} (h : ∀ u, tag v = v' u) : condK v p q = condK (v' ()) p q := by rw [← h]; rfl
theorem gdK_cong {v : Value} {v' : Unit → Value} {b : Bool} {p q : Prop} (h : ∀ u, tag v = v' u) : gdK v b p q = gdK (v' ()) b p q := by rw [← h]; rfl
section
variable {Γ : Ctx} {lo : Nat} {K : St → Prop} {Q : Exit → St → Prop}
theorem awp_cong {c : AC} {s : St} {s' : Unit → St} (h : ∀ u, tag s = s' u) : awp Γ lo c Q s = awp Γ lo c Q (s' ()) := by rw [← h]; rfl
theorem rops_cong {ops : List AO} {s : St} {s' : Unit → St} (h : ∀ u, tag s = s' u) : rops Γ lo ops K s = rops Γ lo ops K (s' ()) := by rw [← h]; rfl
theorem qops_cong {ops : List AO} {s : St} {s' : Unit → St} (h : ∀ u, tag s = s' u) : qops Γ ops K s = qops Γ ops K (s' ()) := by rw [← h]; rfl
theorem put_eq (σ : Nat → Value) (d : Nat) (v : Value) : put σ d v d = v := by simp [put]
end
end Go.AH
