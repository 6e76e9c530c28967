import Derived.Test.YtbddhlhpakbcdaaU21
import Derived.Test.YtbddhlhpakbcdaaM12
set_option linter.unusedSimpArgs false
set_option linter.unusedVariables false
set_option maxRecDepth 100000
set_option maxHeartbeats 4000000
namespace Go.Proofs.Ytbddhlhpakbcdaa
open Go Go.AH
attribute [local irreducible] awpT ropsT qopsT stepT condKT gdKT EndT joinK loopKT seqKT blkKT kont kontR ropsTF frKT
/-! Nets as cells -/

def tmC (x : TmR) : List Cell := [.v (.int .i64 x.o), .v (.int .i64 x.a), .v (.int .i64 x.b), .v (.int .i64 x.n)]
theorem tmC_ex (r : List Cell) (h : HasR sh_Term r) : ∃ x, r = tmC x := by
  obtain ⟨a0, a1, a2, a3, rfl⟩ := sh_Term_Has h
  exact ⟨⟨a0, a1, a2, a3⟩, rfl⟩
theorem tmC_fz (l : List TmR) : fzRs (l.map tmC) = rowsT tmT l := fzRs_map tmC l
theorem tmC_szs (l : List TmR) : szRs (l.map tmC) = 0 := szRs_zero fun r hr => by obtain ⟨x, _, rfl⟩ := List.mem_map.1 hr; rfl
def tmsC (l : List TmR) : Cell := .sl 94 4 (l.map tmC)
theorem tmsC_ex {c : Cell} (h : HasC sh_TermS c) : ∃ l, c = tmsC l := by
  obtain ⟨rows, rfl, hr⟩ := h
  obtain ⟨l, rfl⟩ := rows_typed tmC tmC_ex hr
  exact ⟨l, rfl⟩
theorem tmsC_fz (l : List TmR) : fzC (tmsC l) = .s (rowsT tmT l) := by simp only [tmsC, fzC, tmC_fz]
theorem tmsC_sz (l : List TmR) : szC (tmsC l) = l.length := by simp only [tmsC, szC, tmC_szs, List.length_map, Nat.add_zero]
def tkC (x : TkR) : List Cell := [.v (.int .i64 x.peer), .v (.int .i64 x.role), .v (.int .i64 x.stage), .v (.int .i64 x.spiI), .v (.int .i64 x.spiR), .v (.int .i64 x.ni), .v (.int .i64 x.nr), .v (.int .i64 x.own), .v (.int .i64 x.half), .v (.int .i64 x.first), .v (.int .i64 x.second), .v (.int .i64 x.seed), .v (.int .i64 x.down), .v (.int .i64 x.ours), .v (.int .i64 x.back), .v (.int .i64 x.tin), .v (.int .i64 x.tout), .v (.int .i64 x.sent), .v (.int .i64 x.top), .v (.int .i64 x.bits)]
theorem tkC_ex (r : List Cell) (h : HasR sh_Talk r) : ∃ x, r = tkC x := by
  obtain ⟨a0, a1, a2, a3, a4, a5, a6, a7, a8, a9, a10, a11, a12, a13, a14, a15, a16, a17, a18, a19, rfl⟩ := sh_Talk_Has h
  exact ⟨⟨a0, a1, a2, a3, a4, a5, a6, a7, a8, a9, a10, a11, a12, a13, a14, a15, a16, a17, a18, a19⟩, rfl⟩
theorem tkC_fz (l : List TkR) : fzRs (l.map tkC) = rowsT tkT l := fzRs_map tkC l
theorem tkC_szs (l : List TkR) : szRs (l.map tkC) = 0 := szRs_zero fun r hr => by obtain ⟨x, _, rfl⟩ := List.mem_map.1 hr; rfl
def tksC (l : List TkR) : Cell := .sl 38 20 (l.map tkC)
theorem tksC_ex {c : Cell} (h : HasC sh_TalkS c) : ∃ l, c = tksC l := by
  obtain ⟨rows, rfl, hr⟩ := h
  obtain ⟨l, rfl⟩ := rows_typed tkC tkC_ex hr
  exact ⟨l, rfl⟩
theorem tksC_fz (l : List TkR) : fzC (tksC l) = .s (rowsT tkT l) := by simp only [tksC, fzC, tkC_fz]
theorem tksC_sz (l : List TkR) : szC (tksC l) = l.length := by simp only [tksC, szC, tkC_szs, List.length_map, Nat.add_zero]
def gaC (x : GaR) : List Cell := [.v (.int .i64 x.id), .v (.int .i64 x.count), tksC x.talks]
theorem gaC_ag (x : GaR) : TV.agg (fzCs (gaC x)) = gaT x := by simp only [gaC, fzCs, fzC, tksC_fz]; rfl
theorem gaC_el (x : GaR) : el (fzCs (gaC x)) = gaT x := gaC_ag x
theorem gaC_ex (r : List Cell) (h : HasR sh_Gate r) : ∃ x, r = gaC x := by
  obtain ⟨a0, a1, c2, rfl, h'⟩ := sh_Gate_Has h
  obtain ⟨l, rfl⟩ := tksC_ex h'
  exact ⟨⟨a0, a1, l⟩, rfl⟩
theorem gaC_sz (x : GaR) : szCs (gaC x) = x.talks.length := by simp only [gaC, szCs, szC, tksC_sz, Nat.add_zero, Nat.zero_add]

def gvC (x : GvR) : List Cell := [.v (.int .i64 x.gate), .v (.int .i64 x.talk), .v (.int .i64 x.seq), .v (.int .i64 x.load)]
theorem gvC_ex (r : List Cell) (h : HasR sh_Given r) : ∃ x, r = gvC x := by
  obtain ⟨a0, a1, a2, a3, rfl⟩ := sh_Given_Has h
  exact ⟨⟨a0, a1, a2, a3⟩, rfl⟩
theorem gvC_fz (l : List GvR) : fzRs (l.map gvC) = rowsT gvT l := fzRs_map gvC l
theorem gvC_szs (l : List GvR) : szRs (l.map gvC) = 0 := szRs_zero fun r hr => by obtain ⟨x, _, rfl⟩ := List.mem_map.1 hr; rfl
def gvsC (l : List GvR) : Cell := .sl 166 4 (l.map gvC)
theorem gvsC_ex {c : Cell} (h : HasC sh_GivenS c) : ∃ l, c = gvsC l := by
  obtain ⟨rows, rfl, hr⟩ := h
  obtain ⟨l, rfl⟩ := rows_typed gvC gvC_ex hr
  exact ⟨l, rfl⟩
theorem gvsC_fz (l : List GvR) : fzC (gvsC l) = .s (rowsT gvT l) := by simp only [gvsC, fzC, gvC_fz]
theorem gvsC_sz (l : List GvR) : szC (gvsC l) = l.length := by simp only [gvsC, szC, gvC_szs, List.length_map, Nat.add_zero]
theorem gaC_fz (l : List GaR) : fzRs (l.map gaC) = rowsT gaT l := by rw [fzRs_map]; simp only [gaC_el]; rfl
def gasC (l : List GaR) : Cell := .sl 26 3 (l.map gaC)
theorem gasC_ex {c : Cell} (h : HasC sh_GateS c) : ∃ l, c = gasC l := by
  obtain ⟨rows, rfl, hr⟩ := h
  obtain ⟨l, rfl⟩ := rows_typed gaC gaC_ex hr
  exact ⟨l, rfl⟩
theorem gasC_fz (l : List GaR) : fzC (gasC l) = .s (rowsT gaT l) := by simp only [gasC, fzC, gaC_fz]
theorem gasC_sz (l : List GaR) : szC (gasC l) = l.length + szRs (l.map gaC) := by simp only [gasC, szC, List.length_map]
theorem gaC_szs : ∀ (l : List GaR), (∀ y ∈ l, y.talks.length ≤ szRs (l.map gaC))
  | [], y, hy => by cases hy
  | x :: l, y, hy => by
    simp only [List.map_cons, szRs, gaC_sz]
    rcases List.mem_cons.1 hy with rfl | hy
    · omega
    · have := gaC_szs l y hy; omega
def icC (n : Int) : List Cell := [.v (.int .i64 n)]
theorem icC_fz (l : List Int) : fzRs (l.map icC) = isT l := fzRs_map icC l
theorem icC_szs (l : List Int) : szRs (l.map icC) = 0 := szRs_zero fun r hr => by obtain ⟨x, _, rfl⟩ := List.mem_map.1 hr; rfl
def icsC (l : List Int) : Cell := .sl 2 1 (l.map icC)
theorem icsC_ex {c : Cell} (h : HasC sh_Int64S c) : ∃ l, c = icsC l := by
  obtain ⟨rows, rfl, hr⟩ := h
  induction rows with
  | nil => exact ⟨[], rfl⟩
  | cons r rows ih =>
    obtain ⟨l, hl⟩ := ih fun x hx => hr x (List.mem_cons_of_mem _ hx)
    obtain ⟨_, _, rfl, ⟨a, rfl, _⟩, h2⟩ := hr r (by simp)
    simp only [HasR] at h2; subst h2
    simp only [icsC, Cell.sl.injEq] at hl
    exact ⟨a :: l, by simp only [icsC, List.map_cons, ← hl.2.2]; rfl⟩
theorem icsC_fz (l : List Int) : fzC (icsC l) = .s (isT l) := by simp only [icsC, fzC, icC_fz]
theorem icsC_sz (l : List Int) : szC (icsC l) = l.length := by simp only [icsC, szC, icC_szs, List.length_map, Nat.add_zero]
def ntC (x : NtR) : List Cell := [tmsC x.table, gasC x.gates, icsC x.broken, icsC x.heard, gvsC x.gave, gvsC x.got]
theorem ntC_ex {r : List Cell} (h : HasR sh_Net r) : ∃ x, r = ntC x := by
  obtain ⟨c0, c1, c2, c3, c4, c5, rfl, h0, h1, h2, h3, h4, h5⟩ := sh_Net_Has h
  obtain ⟨l0, rfl⟩ := tmsC_ex h0
  obtain ⟨l1, rfl⟩ := gasC_ex h1
  obtain ⟨l2, rfl⟩ := icsC_ex h2
  obtain ⟨l3, rfl⟩ := icsC_ex h3
  obtain ⟨l4, rfl⟩ := gvsC_ex h4
  obtain ⟨l5, rfl⟩ := gvsC_ex h5
  exact ⟨⟨l0, l1, l2, l3, l4, l5⟩, rfl⟩
theorem ntC_fz (x : NtR) : TV.agg (fzCs (ntC x)) = ntT x := by simp only [ntC, ntT, fzCs, tmsC_fz, gasC_fz, icsC_fz, gvsC_fz]
theorem ntC_ok {x : NtR} (h : szCs (ntC x) ≤ 1048576) : NtOk x := by
  simp only [ntC, szCs, tmsC_sz, gasC_sz, icsC_sz, gvsC_sz] at h
  exact ⟨by omega, by omega, fun g hg => by have := gaC_szs _ g hg; omega, by omega, by omega, by omega, by omega⟩

theorem match_H (x0 : List Cell) (x1 x2 : Int) (h0 : HasR sh_Net x0) (y0 : szCs x0 ≤ 1048576) : ∃ w w', mat_S [.agg (fzCs x0), .p (.int .i64 x1), .p (.int .i64 x2)] = some (.agg (tvCs 0 w), bkCs 0 w) ∧ mat_S [.agg (fzCs x0), .p (.int .i64 x1), .p (.int .i64 x2)] = some (.agg (tvCs 0 w'), bkCs 0 w') ∧ fzCs w = fzCs w' ∧ FitR sh_Match w ∧ FitR sh_Match w' ∧ szCs w ≤ 1073741824 ∧ szCs w' ≤ 1073741824 := by
  obtain ⟨x, rfl⟩ := ntC_ex h0
  have h := mat_at x.table x.gates x.broken x.heard x.gave x.got x1 x2
  rw [nt_eta] at h
  replace h := h (ntC_ok y0)
  obtain ⟨a, b, c, e⟩ := matchR_len x x1 x2
  rw [e] at h
  rw [ntC_fz]
  have hz : szCs [.v (.int .i64 a), .v (.int .i64 b), .v (.int .i64 c)] ≤ 1073741824 := by simp only [szCs, szC]; omega
  exact ⟨[.v (.int .i64 a), .v (.int .i64 b), .v (.int .i64 c)], [.v (.int .i64 a), .v (.int .i64 b), .v (.int .i64 c)], h, h, rfl, sh_Match_mkFit _ _ _, sh_Match_mkFit _ _ _, hz, hz⟩
end Go.Proofs.Ytbddhlhpakbcdaa
