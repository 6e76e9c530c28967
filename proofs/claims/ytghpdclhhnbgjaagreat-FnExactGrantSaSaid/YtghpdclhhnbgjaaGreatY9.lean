import Derived.Test.YtghpdclhhnbgjaaGreatU8
import Derived.Test.YtghpdclhhnbgjaaGreatF2
set_option linter.unusedSimpArgs false
set_option linter.unusedVariables false
set_option maxRecDepth 100000
set_option maxHeartbeats 4000000
namespace Go.Proofs.YtghpdclhhnbgjaaGreat
open Go Go.AH
attribute [local irreducible] awpT ropsT qopsT stepT condKT gdKT EndT joinK loopKT seqKT blkKT kont kontR
/-! Boxes as cells -/
/-! Selectors and agreements as cells -/
def slC (x : SlR) : List Cell := [.v (.int .i64 x.f1), .v (.int .i64 x.f2), .v (.int .i64 x.t1), .v (.int .i64 x.t2), .v (.int .i64 x.p1), .v (.int .i64 x.p2), .v (.int .i64 x.q1), .v (.int .i64 x.q2), .v (.int .i64 x.pr)]
theorem slC_has (x : SlR) : HasR sh_Sel (slC x) := sh_Sel_mkHas _ _ _ _ _ _ _ _ _
theorem slC_ex (r : List Cell) (h : HasR sh_Sel r) : ∃ x, r = slC x := by
  obtain ⟨a0, a1, a2, a3, a4, a5, a6, a7, a8, rfl⟩ := sh_Sel_Has h
  exact ⟨⟨a0, a1, a2, a3, a4, a5, a6, a7, a8⟩, rfl⟩
theorem slC_rows (n : Nat) (l : List SlR) : tvRs n (l.map slC) = rowsT slT l ∧ bkRs n (l.map slC) = [] ∧ nbRs (l.map slC) = 0 := flatRs_map slC slT (fun _ => rfl) (fun _ _ => rfl) (fun _ _ => rfl) n l
theorem slC_fz (l : List SlR) : fzRs (l.map slC) = rowsT slT l := fzRs_map slC l
theorem slC_sz (l : List SlR) : szRs (l.map slC) = 0 := szRs_zero fun r hr => by obtain ⟨x, _, rfl⟩ := List.mem_map.1 hr; rfl
def slsC (l : List SlR) : Cell := .sl 103 9 (l.map slC)
theorem slsC_has (l : List SlR) : HasC sh_SelS (slsC l) := ⟨_, rfl, fun r hr => by obtain ⟨x, _, rfl⟩ := List.mem_map.1 hr; exact slC_has x⟩
theorem slsC_ex {c : Cell} (h : HasC sh_SelS c) : ∃ l, c = slsC l := by
  obtain ⟨rows, rfl, hr⟩ := h
  obtain ⟨l, rfl⟩ := rows_typed slC slC_ex hr
  exact ⟨l, rfl⟩
theorem slsC_szC (l : List SlR) : szC (slsC l) = l.length := by simp only [slsC, szC, slC_sz, List.length_map, Nat.add_zero]
theorem slsC_fzC (l : List SlR) : fzC (slsC l) = .s (rowsT slT l) := by simp only [slsC, fzC, slC_fz]
theorem slsC_tv (n : Nat) (l : List SlR) : tvC n (slsC l) = .os n 0 l.length := by simp only [slsC, tvC, List.length_map]
theorem slsC_bk (n : Nat) (l : List SlR) : bkC n (slsC l) = [selB l] := by simp only [slsC, bkC, slC_rows]
theorem slsC_nb (l : List SlR) : nbC (slsC l) = 1 := by simp only [slsC, nbC, (slC_rows 0 l).2.2]
def saC (x : SaR) : List Cell := [.v (.int .i64 x.spi), .v (.int .i64 x.peer), .v (.int .i64 x.key), .v (.bool x.inn), .v (.int .i64 x.sent), .v (.int .i64 x.top), .v (.int .i64 x.bits), .v (.int .i64 x.byt), .v (.int .i64 x.hard), .v (.int .i64 x.til), slsC x.sels]
theorem saC_el (x : SaR) : el (fzCs (saC x)) = saT x := by simp only [saC, fzCs, fzC, slsC_fzC, el_two]; rfl
theorem saC_has (x : SaR) : HasR sh_Sa (saC x) := sh_Sa_mkHas (slsC_has _) _ _ _ _ _ _ _ _ _ _
theorem saC_ex (r : List Cell) (h : HasR sh_Sa r) : ∃ x, r = saC x := by
  obtain ⟨a0, a1, a2, a3, a4, a5, a6, a7, a8, a9, c10, rfl, h'⟩ := sh_Sa_Has h
  obtain ⟨l, rfl⟩ := slsC_ex h'
  exact ⟨⟨a0, a1, a2, a3, a4, a5, a6, a7, a8, a9, l⟩, rfl⟩
theorem saC_fz (l : List SaR) : fzRs (l.map saC) = rowsT saT l := by rw [fzRs_map]; simp only [saC_el]; rfl
theorem saC_nb (x : SaR) : nbCs (saC x) = 1 := by simp only [saC, nbCs, nbC, slsC_nb, Nat.add_zero, Nat.zero_add]
theorem saC_nbs (l : List SaR) : nbRs (l.map saC) = l.length := by induction l with
  | nil => rfl
  | cons x l ih => simp only [List.map_cons, nbRs, saC_nb, ih, List.length_cons]; omega
theorem saC_szC (x : SaR) : szCs (saC x) = x.sels.length := by simp only [saC, szCs, szC, slsC_szC, Nat.add_zero, Nat.zero_add]
def sasC (l : List SaR) : Cell := .sl 54 11 (l.map saC)
theorem sasC_has (l : List SaR) : HasC sh_SaS (sasC l) := ⟨_, rfl, fun r hr => by obtain ⟨x, _, rfl⟩ := List.mem_map.1 hr; exact saC_has x⟩
theorem sasC_ex {c : Cell} (h : HasC sh_SaS c) : ∃ l, c = sasC l := by
  obtain ⟨rows, rfl, hr⟩ := h
  obtain ⟨l, rfl⟩ := rows_typed saC saC_ex hr
  exact ⟨l, rfl⟩
theorem sasC_fzC (l : List SaR) : fzC (sasC l) = .s (rowsT saT l) := by simp only [sasC, fzC, saC_fz]
theorem saC_szs : ∀ (l : List SaR), (∀ y ∈ l, y.sels.length ≤ szRs (l.map saC))
  | [], y, hy => by cases hy
  | x :: l, y, hy => by
    simp only [List.map_cons, szRs, saC_szC]
    rcases List.mem_cons.1 hy with rfl | hy
    · omega
    · have := saC_szs l y hy; omega
theorem sasC_szC (l : List SaR) : szC (sasC l) = l.length + szRs (l.map saC) := by simp only [sasC, szC, List.length_map]
theorem sasC_small {l : List SaR} (h : szC (sasC l) ≤ 1048576) : l.length ≤ 1048576 ∧ ∀ y ∈ l, y.sels.length ≤ 1048576 := by
  rw [sasC_szC] at h
  exact ⟨by omega, fun y hy => by have := saC_szs l y hy; omega⟩

def ruC (x : RuR) : List Cell := [.v (.int .i64 x.sel.f1), .v (.int .i64 x.sel.f2), .v (.int .i64 x.sel.t1), .v (.int .i64 x.sel.t2), .v (.int .i64 x.sel.p1), .v (.int .i64 x.sel.p2), .v (.int .i64 x.sel.q1), .v (.int .i64 x.sel.q2), .v (.int .i64 x.sel.pr), .v (.int .i64 x.act), .v (.int .i64 x.pr)]
theorem ruC_ex (r : List Cell) (h : HasR sh_Rule r) : ∃ x, r = ruC x := by
  obtain ⟨a0, a1, a2, a3, a4, a5, a6, a7, a8, a9, a10, rfl⟩ := sh_Rule_Has h
  exact ⟨⟨⟨a0, a1, a2, a3, a4, a5, a6, a7, a8⟩, a9, a10⟩, rfl⟩
theorem ruC_has (x : RuR) : HasR sh_Rule (ruC x) := sh_Rule_mkHas _ _ _ _ _ _ _ _ _ _ _
theorem ruC_rows (n : Nat) (l : List RuR) : tvRs n (l.map ruC) = rowsT ruT l ∧ bkRs n (l.map ruC) = [] ∧ nbRs (l.map ruC) = 0 := flatRs_map ruC ruT (fun _ => rfl) (fun _ _ => rfl) (fun _ _ => rfl) n l
theorem ruC_fz (l : List RuR) : fzRs (l.map ruC) = rowsT ruT l := fzRs_map ruC l
theorem ruC_szs (l : List RuR) : szRs (l.map ruC) = 0 := szRs_zero fun r hr => by obtain ⟨x, _, rfl⟩ := List.mem_map.1 hr; rfl
def rusC (l : List RuR) : Cell := .sl 105 11 (l.map ruC)
theorem rusC_ex {c : Cell} (h : HasC sh_RuleS c) : ∃ l, c = rusC l := by
  obtain ⟨rows, rfl, hr⟩ := h
  obtain ⟨l, rfl⟩ := rows_typed ruC ruC_ex hr
  exact ⟨l, rfl⟩
theorem rusC_fz (l : List RuR) : fzC (rusC l) = .s (rowsT ruT l) := by simp only [rusC, fzC, ruC_fz]
theorem rusC_sz (l : List RuR) : szC (rusC l) = l.length := by simp only [rusC, szC, ruC_szs, List.length_map, Nat.add_zero]
theorem rusC_tv (n : Nat) (l : List RuR) : tvC n (rusC l) = .os n 0 l.length := by simp only [rusC, tvC, List.length_map]
theorem rusC_bk (n : Nat) (l : List RuR) : bkC n (rusC l) = [.cells 105 11 (rowsT ruT l)] := by simp only [rusC, bkC, ruC_rows]

def prC (x : PrR) : List Cell := [.v (.int .i64 x.id), .v (.int .i64 x.ad)]
theorem prC_ex (r : List Cell) (h : HasR sh_Peer r) : ∃ x, r = prC x := by
  obtain ⟨a0, a1, rfl⟩ := sh_Peer_Has h
  exact ⟨⟨a0, a1⟩, rfl⟩
theorem prC_has (x : PrR) : HasR sh_Peer (prC x) := sh_Peer_mkHas _ _
theorem prC_rows (n : Nat) (l : List PrR) : tvRs n (l.map prC) = rowsT prT l ∧ bkRs n (l.map prC) = [] ∧ nbRs (l.map prC) = 0 := flatRs_map prC prT (fun _ => rfl) (fun _ _ => rfl) (fun _ _ => rfl) n l
theorem prC_fz (l : List PrR) : fzRs (l.map prC) = rowsT prT l := fzRs_map prC l
theorem prC_szs (l : List PrR) : szRs (l.map prC) = 0 := szRs_zero fun r hr => by obtain ⟨x, _, rfl⟩ := List.mem_map.1 hr; rfl
def prsC (l : List PrR) : Cell := .sl 131 2 (l.map prC)
theorem prsC_ex {c : Cell} (h : HasC sh_PeerS c) : ∃ l, c = prsC l := by
  obtain ⟨rows, rfl, hr⟩ := h
  obtain ⟨l, rfl⟩ := rows_typed prC prC_ex hr
  exact ⟨l, rfl⟩
theorem prsC_fz (l : List PrR) : fzC (prsC l) = .s (rowsT prT l) := by simp only [prsC, fzC, prC_fz]
theorem prsC_sz (l : List PrR) : szC (prsC l) = l.length := by simp only [prsC, szC, prC_szs, List.length_map, Nat.add_zero]
theorem prsC_tv (n : Nat) (l : List PrR) : tvC n (prsC l) = .os n 0 l.length := by simp only [prsC, tvC, List.length_map]
theorem prsC_bk (n : Nat) (l : List PrR) : bkC n (prsC l) = [.cells 131 2 (rowsT prT l)] := by simp only [prsC, bkC, prC_rows]

def icC (n : Int) : List Cell := [.v (.int .i64 n)]
theorem icC_rows (n : Nat) (l : List Int) : tvRs n (l.map icC) = isT l ∧ bkRs n (l.map icC) = [] ∧ nbRs (l.map icC) = 0 := flatRs_map icC iT (fun _ => rfl) (fun _ _ => rfl) (fun _ _ => rfl) n l
theorem icC_fz (l : List Int) : fzRs (l.map icC) = isT l := fzRs_map icC l
theorem icC_szs (l : List Int) : szRs (l.map icC) = 0 := szRs_zero fun r hr => by obtain ⟨x, _, rfl⟩ := List.mem_map.1 hr; rfl
theorem icC_has (n : Int) : HasR [.i .i64] (icC n) := ⟨_, _, rfl, ⟨_, rfl, fun h => by cases h⟩, rfl⟩
def icsC (l : List Int) : Cell := .sl 2 1 (l.map icC)
theorem icsC_ex {c : Cell} (h : HasC sh_Int64S c) : ∃ l, c = icsC l := by
  obtain ⟨rows, rfl, hr⟩ := h
  induction rows with
  | nil => exact ⟨[], rfl⟩
  | cons r rows ih =>
    obtain ⟨l, hl⟩ := ih fun x hx => hr x (List.mem_cons_of_mem _ hx)
    obtain ⟨_, _, rfl, ⟨a, rfl, _⟩, h2⟩ := hr r (by simp)
    simp only [HasR] at h2; subst h2
    simp only [icsC, Cell.sl.injEq] at hl
    exact ⟨a :: l, by simp only [icsC, List.map_cons, ← hl.2.2]; rfl⟩
theorem icsC_fz (l : List Int) : fzC (icsC l) = .s (isT l) := by simp only [icsC, fzC, icC_fz]
theorem icsC_sz (l : List Int) : szC (icsC l) = l.length := by simp only [icsC, szC, icC_szs, List.length_map, Nat.add_zero]
theorem icsC_tv (n : Nat) (l : List Int) : tvC n (icsC l) = .os n 0 l.length := by simp only [icsC, tvC, List.length_map]
theorem icsC_bk (n : Nat) (l : List Int) : bkC n (icsC l) = [.cells 2 1 (isT l)] := by simp only [icsC, bkC, icC_rows]
def bxC (x : BxR) : List Cell := [.v (.int .i64 x.ad), rusC x.rules, prsC x.peers, sasC x.sas, .v (.int .i64 x.now), icsC x.drops]
theorem bxC_ex {r : List Cell} (h : HasR sh_Box r) : ∃ x, r = bxC x := by
  obtain ⟨a0, a4, c1, c2, c3, c5, rfl, h1, h2, h3, h5⟩ := sh_Box_Has h
  obtain ⟨l1, rfl⟩ := rusC_ex h1
  obtain ⟨l2, rfl⟩ := prsC_ex h2
  obtain ⟨l3, rfl⟩ := sasC_ex h3
  obtain ⟨l5, rfl⟩ := icsC_ex h5
  exact ⟨⟨a0, l1, l2, l3, a4, l5⟩, rfl⟩
theorem bxC_fz (x : BxR) : TV.agg (fzCs (bxC x)) = bxT x := by simp only [bxC, bxT, fzCs, rusC_fz, prsC_fz, sasC_fzC, icsC_fz, fzC]
theorem bxC_small {x : BxR} (h : szCs (bxC x) ≤ 1048576) : smallB x := by
  simp only [bxC, szCs, szC, rusC_sz, prsC_sz, icsC_sz] at h
  exact ⟨by omega, by omega, sasC_small (by omega), by omega⟩
end Go.Proofs.YtghpdclhhnbgjaaGreat
