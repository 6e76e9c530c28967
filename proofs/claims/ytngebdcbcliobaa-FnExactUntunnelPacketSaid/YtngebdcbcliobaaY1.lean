import Derived.Test.YtngebdcbcliobaaU5
import Derived.Test.YtngebdcbcliobaaE14
set_option linter.unusedSimpArgs false
set_option linter.unusedVariables false
set_option maxRecDepth 100000
set_option maxHeartbeats 4000000
namespace Go.Proofs.Ytngebdcbcliobaa
open Go Go.AH
attribute [local irreducible] awpT ropsT qopsT stepT condKT gdKT EndT joinK loopKT seqKT blkKT kont kontR
/-! Bytes and packets as cells -/

def byC (n : Int) : List Cell := [.v (.int .u8 n)]
theorem byC_rows (n : Nat) (l : List Int) : tvRs n (l.map byC) = bsT l ∧ bkRs n (l.map byC) = [] ∧ nbRs (l.map byC) = 0 := flatRs_map byC bT (fun _ => rfl) (fun _ _ => rfl) (fun _ _ => rfl) n l
theorem byC_fz (l : List Int) : fzRs (l.map byC) = bsT l := fzRs_map byC l
theorem byC_szs (l : List Int) : szRs (l.map byC) = 0 := szRs_zero fun r hr => by obtain ⟨x, _, rfl⟩ := List.mem_map.1 hr; rfl
theorem byC_has {n : Int} (h : 0 ≤ n ∧ n < 256) : HasR [.i .u8] (byC n) := ⟨_, _, rfl, ⟨_, rfl, fun _ => h⟩, rfl⟩
theorem byC_fit (n : Int) : FitR [.i .u8] (byC n) := ⟨_, _, rfl, ⟨_, rfl⟩, rfl⟩
def bysC (l : List Int) : Cell := .sl 5 1 (l.map byC)
theorem bysC_has {l : List Int} (h : isB l) : HasC sh_ByteS (bysC l) := ⟨_, rfl, fun r hr => by obtain ⟨x, hx, rfl⟩ := List.mem_map.1 hr; exact byC_has (h x hx)⟩
theorem bysC_ex {c : Cell} (h : HasC sh_ByteS c) : ∃ l, c = bysC l ∧ isB l := by
  obtain ⟨rows, rfl, hr⟩ := h
  induction rows with
  | nil => exact ⟨[], rfl, isB_nil⟩
  | cons r rows ih =>
    obtain ⟨l, hl, hb⟩ := ih fun x hx => hr x (List.mem_cons_of_mem _ hx)
    obtain ⟨_, _, rfl, ⟨a, rfl, ha⟩, h2⟩ := hr r (by simp)
    simp only [HasR] at h2; subst h2
    simp only [bysC, Cell.sl.injEq] at hl
    exact ⟨a :: l, by simp only [bysC, List.map_cons, ← hl.2.2]; rfl, isB_cons (ha rfl) hb⟩
theorem bysC_fz (l : List Int) : fzC (bysC l) = .s (bsT l) := by simp only [bysC, fzC, byC_fz]
theorem bysC_sz (l : List Int) : szC (bysC l) = l.length := by simp only [bysC, szC, byC_szs, List.length_map, Nat.add_zero]
def bysZ (l : List Int) : Cell := .sl 5 (zOf l.length 1) (l.map byC)
theorem bysZ_fit (l : List Int) : FitC sh_ByteS (bysZ l) := .inr ⟨_, _, rfl, by cases l with | nil => exact .inl rfl | cons a l => exact .inr (zOf_succ _ _), fun r hr => by obtain ⟨x, _, rfl⟩ := List.mem_map.1 hr; exact byC_fit x⟩
theorem bysZ_sz (l : List Int) : szC (bysZ l) = l.length := by simp only [bysZ, szC, byC_szs, List.length_map, Nat.add_zero]
theorem bysZ_fz (l : List Int) : fzC (bysZ l) = .s (bsT l) := by simp only [bysZ, fzC, byC_fz]
theorem bysZ_tv (n : Nat) (l : List Int) : tvC n (bysZ l) = .os n 0 l.length := by simp only [bysZ, tvC, List.length_map]
theorem bysZ_bk (n : Nat) (l : List Int) : bkC n (bysZ l) = [.cells 5 (zOf l.length 1) (bsT l)] := by simp only [bysZ, bkC, byC_rows]
def pkC (x : PkR) : List Cell := [.v (.int .i64 x.fr), .v (.int .i64 x.to_), .v (.int .i64 x.pr), .v (.int .i64 x.ttl), .v (.int .i64 x.fp), .v (.int .i64 x.tp), bysC x.load]
theorem pkC_ex {r : List Cell} (h : HasR sh_Packet r) : ∃ x, r = pkC x ∧ isB x.load := by
  obtain ⟨a0, a1, a2, a3, a4, a5, c6, rfl, h'⟩ := sh_Packet_Has h
  obtain ⟨l, rfl, hb⟩ := bysC_ex h'
  exact ⟨⟨a0, a1, a2, a3, a4, a5, l⟩, rfl, hb⟩
theorem pkC_fz (x : PkR) : TV.agg (fzCs (pkC x)) = pkT x := by simp only [pkC, fzCs, fzC, bysC_fz, pkT]
theorem pkC_sz (x : PkR) : szCs (pkC x) = x.load.length := by simp only [pkC, szCs, szC, bysC_sz, Nat.zero_add, Nat.add_zero]
def brC (c : Int) (l : List Int) : List Cell := if c = 0 then [.v (.int .i64 0), bysZ l] else [.v (.int .i64 c), .nl]
theorem brC_ans (c : Int) (l : List Int) : brV c l = (.agg (tvCs 0 (brC c l)), bkCs 0 (brC c l)) := by
  unfold brV brC
  split
  · simp only [tvCs, tvC_v, nbC, bysZ_tv, bkCs, bkC, bysZ_bk, Nat.add_zero, List.nil_append, List.append_nil]
  · rfl
theorem brC_fit (c : Int) (l : List Int) : FitR sh_BytesResult (brC c l) := by
  unfold brC; split
  · exact ⟨_, _, rfl, ⟨_, rfl⟩, _, _, rfl, bysZ_fit _, rfl⟩
  · exact ⟨_, _, rfl, ⟨_, rfl⟩, _, _, rfl, .inl rfl, rfl⟩
theorem brC_sz (c : Int) (l : List Int) : szCs (brC c l) ≤ l.length := by
  unfold brC; split
  · simp only [szCs, szC, bysZ_sz]; omega
  · simp only [szCs, szC]; omega
theorem tunL_len (f g a k s : Int) (p : PkR) (h : p.load.length ≤ 1048576) : (tunL f g a k s p).length ≤ 2097152 := by
  have h1 := pkL_len (tunP f g a k s p)
  have h2 := portsL_len (tunP f g a k s p)
  have h3 : (tunP f g a k s p).load = wrapL a k s (pkL p) := rfl
  have h4 := wrapL_len a k s (pkL p)
  have h5 := padL_len (pkL p) 4 4
  have h6 := padN_bd (n := (pkL p).length) (S := 4) (by omega)
  have h7 := pkL_len p
  have h8 := portsL_len p
  unfold tunL
  rw [h1, h3]; omega
theorem tun_H (x0 x1 x2 x3 x4 : Int) (x5 : List Cell) (h5 : HasR sh_Packet x5) (y5 : szCs x5 ≤ 1048576) : ∃ w w', tun_S [.p (.int .i64 x0), .p (.int .i64 x1), .p (.int .i64 x2), .p (.int .i64 x3), .p (.int .i64 x4), .agg (fzCs x5)] = some (.agg (tvCs 0 w), bkCs 0 w) ∧ tun_S [.p (.int .i64 x0), .p (.int .i64 x1), .p (.int .i64 x2), .p (.int .i64 x3), .p (.int .i64 x4), .agg (fzCs x5)] = some (.agg (tvCs 0 w'), bkCs 0 w') ∧ fzCs w = fzCs w' ∧ FitR sh_BytesResult w ∧ FitR sh_BytesResult w' ∧ szCs w ≤ 1073741824 ∧ szCs w' ≤ 1073741824 := by
  obtain ⟨p, rfl, hb⟩ := pkC_ex h5
  rw [pkC_sz] at y5
  have h := tun_at x0 x1 x2 x3 x4 p ⟨hb, y5⟩
  rw [brC_ans] at h
  have h1 := brC_sz (tunC x0 x1 x2 x3 x4 p) (tunL x0 x1 x2 x3 x4 p)
  have h2 := tunL_len x0 x1 x2 x3 x4 p y5
  rw [pkC_fz]
  exact ⟨_, _, h, h, rfl, brC_fit _ _, brC_fit _ _, by omega, by omega⟩
end Go.Proofs.Ytngebdcbcliobaa
