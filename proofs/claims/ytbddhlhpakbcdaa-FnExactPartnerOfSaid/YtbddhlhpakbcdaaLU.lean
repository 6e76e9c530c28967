import Derived.Test.YtbddhlhpakbcdaaLT
set_option linter.unusedVariables false
set_option linter.unusedSimpArgs false
namespace Go.AH
/-! Less said, the blocks left as they are -/
theorem ren_id : ∀ (t : TV), renT (fun b => b) t = t := by
  intro t
  induction t using TV.rec (motive_2 := fun ts => renTs (fun b => b) ts = ts) with
  | agg cs ih => simp only [renT, ih]
  | tup cs ih => simp only [renT, ih]
  | fn f cs ih => simp only [renT, ih]
  | nil => rfl
  | cons a b h1 h2 => simp only [renTs, h1, h2]
  | _ => rfl
theorem rens_id (ts : List TV) : renTs (fun b => b) ts = ts := by
  induction ts with
  | nil => rfl
  | cons a l ih => simp only [renTs, ren_id, ih]
mutual
/-- The blocks that a tree names lie below n. -/
def below (n : Nat) : TV → Bool
  | .os b _ _ => decide (b < n)
  | .op b _ _ => decide (b < n)
  | .agg cs => belows n cs
  | .tup cs => belows n cs
  | .fn _ cs => belows n cs
  | _ => true
def belows (n : Nat) : List TV → Bool
  | [] => true
  | t :: ts => below n t && belows n ts
end
def slotsIn (σ : Nat → TV) : List (Nat × TV) → Prop
  | [] => True
  | (d, v) :: l => σ d = v ∧ slotsIn σ l
theorem slotsIn_at {σ : Nat → TV} : ∀ {l : List (Nat × TV)}, slotsIn σ l → ∀ t, slots l t = .any ∨ σ t = slots l t
  | [], _, t => .inl rfl
  | (d, v) :: l, h, t => by
    simp only [slotsIn] at h
    simp only [slots, putT]
    by_cases e : t = d
    · subst e; rw [if_pos rfl]; exact .inr h.1
    · rw [if_neg e]; exact slotsIn_at h.2 t
theorem le_keep {k : Nat} {σ : Nat → TV} {h : THeap} {l : List (Nat × TV)} (hk : k ≤ h.length) (hs : slotsIn σ l) : Le k ⟨σ, h⟩ ⟨slots l, h⟩ :=
  ⟨fun b => b, fun _ _ => rfl, hk, fun _ _ _ _ h => h, fun b hb => hb, fun t => by rw [ren_id]; exact slotsIn_at hs t, fun b e z es h => by rw [rens_id]; exact h⟩
theorem endT_same {res : List AR} {r : TV} {hL : THeap} {e : Exit} {s : TSt} (he : e = .normal ∨ e = .ret) (hr : rresT s res = some r) (hh : s.h = hL) : EndT res r hL e s := by
  subst hh; exact ⟨he, .inl ⟨r, hr, le_same 0 _ (Nat.zero_le _)⟩⟩

/-! A callee that writes into blocks that are handed in: it is told by what it does over those blocks alone -/
section
variable {P : Program} {ΓT : TCtx} {f : Nat} {fn : Func} {af : AF}
end
end Go.AH
namespace Go.AH
section
variable {P : Program} {ΓT : TCtx} {f : Nat} {fn : Func} {af : AF}
end
end Go.AH
namespace Go.AH
/-! Values of all types as cells: what they hold, and how they lie in blocks of their own -/
inductive Cell where
  | v (x : Value)
  | nl
  | sl (e : TypeId) (z : Nat) (rows : List (List Cell))

mutual
/-- What is held, for one who reads. -/
def fzC : Cell → TV
  | .v x => .p x
  | .nl => .s []
  | .sl _ _ rows => .s (fzRs rows)
def fzCs : List Cell → List TV
  | [] => []
  | c :: cs => fzC c :: fzCs cs
def fzRs : List (List Cell) → List TV
  | [] => []
  | r :: rs => el (fzCs r) :: fzRs rs
end
mutual
/-- How many blocks it takes. -/
def nbC : Cell → Nat
  | .v _ => 0
  | .nl => 0
  | .sl _ _ rows => 1 + nbRs rows
def nbCs : List Cell → Nat
  | [] => 0
  | c :: cs => nbC c + nbCs cs
def nbRs : List (List Cell) → Nat
  | [] => 0
  | r :: rs => nbCs r + nbRs rs
end
/-- The tree of what lies in the blocks from n on. -/
def tvC (n : Nat) : Cell → TV
  | .v x => .p x
  | .nl => .nl
  | .sl _ _ rows => .os n 0 rows.length
def tvCs : Nat → List Cell → List TV
  | _, [] => []
  | n, c :: cs => tvC n c :: tvCs (n + nbC c) cs
def tvRs : Nat → List (List Cell) → List TV
  | _, [] => []
  | n, r :: rs => el (tvCs n r) :: tvRs (n + nbCs r) rs
mutual
/-- The blocks, from n on. -/
def bkC : Nat → Cell → List TB
  | _, .v _ => []
  | _, .nl => []
  | n, .sl e z rows => .cells e z (tvRs (n + 1) rows) :: bkRs (n + 1) rows
def bkCs : Nat → List Cell → List TB
  | _, [] => []
  | n, c :: cs => bkC n c ++ bkCs (n + nbC c) cs
def bkRs : Nat → List (List Cell) → List TB
  | _, [] => []
  | n, r :: rs => bkCs n r ++ bkRs (n + nbCs r) rs
end
mutual
/-- How deep slices stand in slices. -/
def dpC : Cell → Nat
  | .v _ => 0
  | .nl => 0
  | .sl _ _ rows => dpRs rows + 1
def dpCs : List Cell → Nat
  | [] => 0
  | c :: cs => max (dpC c) (dpCs cs)
def dpRs : List (List Cell) → Nat
  | [] => 0
  | r :: rs => max (dpCs r) (dpRs rs)
end
mutual
/-- How many elements its slices have, in all. -/
def szC : Cell → Nat
  | .v _ => 0
  | .nl => 0
  | .sl _ _ rows => rows.length + szRs rows
def szCs : List Cell → Nat
  | [] => 0
  | c :: cs => szC c + szCs cs
def szRs : List (List Cell) → Nat
  | [] => 0
  | r :: rs => szCs r + szRs rs
end

/-! Lists -/
theorem fzCs_len : ∀ cs, (fzCs cs).length = cs.length
  | [] => rfl
  | _ :: cs => by simp [fzCs, fzCs_len cs]
theorem fzRs_len : ∀ rs, (fzRs rs).length = rs.length
  | [] => rfl
  | _ :: rs => by simp [fzRs, fzRs_len rs]
theorem tvCs_len : ∀ n cs, (tvCs n cs).length = cs.length
  | _, [] => rfl
  | _, _ :: cs => by simp [tvCs, tvCs_len _ cs]
theorem tvRs_len : ∀ n rs, (tvRs n rs).length = rs.length
  | _, [] => rfl
  | _, _ :: rs => by simp [tvRs, tvRs_len _ rs]
theorem fzCs_app : ∀ a b, fzCs (a ++ b) = fzCs a ++ fzCs b
  | [], _ => rfl
  | c :: a, b => by simp [fzCs, fzCs_app a b]
theorem szRs_app : ∀ a b, szRs (a ++ b) = szRs a + szRs b
  | [], _ => by simp [szRs]
  | c :: a, b => by simp [szRs, szRs_app a b]; omega
theorem tvRs_app : ∀ n a b, tvRs n (a ++ b) = tvRs n a ++ tvRs (n + nbRs a) b
  | _, [], _ => by simp [tvRs, nbRs]
  | n, c :: a, b => by simp [tvRs, nbRs, tvRs_app _ a b, Nat.add_assoc]
theorem bkRs_app : ∀ n a b, bkRs n (a ++ b) = bkRs n a ++ bkRs (n + nbRs a) b
  | _, [], _ => by simp [bkRs, nbRs]
  | n, c :: a, b => by simp [bkRs, nbRs, bkRs_app _ a b, Nat.add_assoc]
mutual
theorem bkC_len : ∀ n c, (bkC n c).length = nbC c
  | _, .v _ => rfl
  | _, .nl => rfl
  | n, .sl e z rows => by simp only [bkC, nbC, List.length_cons, bkRs_len (n + 1) rows]; omega
theorem bkCs_len : ∀ n cs, (bkCs n cs).length = nbCs cs
  | _, [] => rfl
  | n, c :: cs => by simp only [bkCs, nbCs, List.length_append, bkC_len n c, bkCs_len (n + nbC c) cs]
theorem bkRs_len : ∀ n rs, (bkRs n rs).length = nbRs rs
  | _, [] => rfl
  | n, r :: rs => by simp only [bkRs, nbRs, List.length_append, bkCs_len n r, bkRs_len (n + nbCs r) rs]
end

/-! Other numbers of blocks -/
theorem ren_el (ρ : Nat → Nat) : ∀ ts, renT ρ (el ts) = el (renTs ρ ts)
  | [] => rfl
  | [_] => rfl
  | _ :: _ :: _ => rfl
theorem ren_tvC {ρ : Nat → Nat} : ∀ (c : Cell) (n m : Nat), (∀ i, i < nbC c → ρ (n + i) = m + i) → renT ρ (tvC n c) = tvC m c
  | .v _, _, _, _ => rfl
  | .nl, _, _, _ => rfl
  | .sl e z rows, n, m, h => by
    have := h 0 (by simp only [nbC]; omega)
    simp only [Nat.add_zero] at this
    simp only [tvC, renT, this]
theorem ren_tvCs {ρ : Nat → Nat} : ∀ (cs : List Cell) (n m : Nat), (∀ i, i < nbCs cs → ρ (n + i) = m + i) → renTs ρ (tvCs n cs) = tvCs m cs
  | [], _, _, _ => rfl
  | c :: cs, n, m, h => by
    simp only [nbCs] at h
    simp only [tvCs, renTs, ren_tvC c n m (fun i hi => h i (by omega)), ren_tvCs cs (n + nbC c) (m + nbC c) (fun i hi => by have := h (nbC c + i) (by omega); rw [← Nat.add_assoc, ← Nat.add_assoc] at this; exact this)]
theorem ren_tvRs {ρ : Nat → Nat} : ∀ (cs : List (List Cell)) (n m : Nat), (∀ i, i < nbRs cs → ρ (n + i) = m + i) → renTs ρ (tvRs n cs) = tvRs m cs
  | [], _, _, _ => rfl
  | c :: cs, n, m, h => by
    simp only [nbRs] at h
    simp only [tvRs, renTs, ren_el, ren_tvCs c n m (fun i hi => h i (by omega)), ren_tvRs cs (n + nbCs c) (m + nbCs c) (fun i hi => by have := h (nbCs c + i) (by omega); rw [← Nat.add_assoc, ← Nat.add_assoc] at this; exact this)]
mutual
theorem ren_bkC {ρ : Nat → Nat} : ∀ (c : Cell) (n m : Nat), (∀ i, i < nbC c → ρ (n + i) = m + i) → (bkC n c).map (renB ρ) = bkC m c
  | .v _, _, _, _ => rfl
  | .nl, _, _, _ => rfl
  | .sl e z rows, n, m, h => by
    simp only [nbC] at h
    have h' : ∀ i, i < nbRs rows → ρ (n + 1 + i) = m + 1 + i := fun i hi => by have := h (1 + i) (by omega); rw [← Nat.add_assoc, ← Nat.add_assoc] at this; exact this
    simp only [bkC, List.map_cons, renB, ren_tvRs rows (n + 1) (m + 1) h', ren_bkRs rows (n + 1) (m + 1) h']
theorem ren_bkCs {ρ : Nat → Nat} : ∀ (cs : List Cell) (n m : Nat), (∀ i, i < nbCs cs → ρ (n + i) = m + i) → (bkCs n cs).map (renB ρ) = bkCs m cs
  | [], _, _, _ => rfl
  | c :: cs, n, m, h => by
    simp only [nbCs] at h
    simp only [bkCs, List.map_append, ren_bkC c n m (fun i hi => h i (by omega)), ren_bkCs cs (n + nbC c) (m + nbC c) (fun i hi => by have := h (nbC c + i) (by omega); rw [← Nat.add_assoc, ← Nat.add_assoc] at this; exact this)]
theorem ren_bkRs {ρ : Nat → Nat} : ∀ (cs : List (List Cell)) (n m : Nat), (∀ i, i < nbRs cs → ρ (n + i) = m + i) → (bkRs n cs).map (renB ρ) = bkRs m cs
  | [], _, _, _ => rfl
  | c :: cs, n, m, h => by
    simp only [nbRs] at h
    simp only [bkRs, List.map_append, ren_bkCs c n m (fun i hi => h i (by omega)), ren_bkRs cs (n + nbCs c) (m + nbCs c) (fun i hi => by have := h (nbCs c + i) (by omega); rw [← Nat.add_assoc, ← Nat.add_assoc] at this; exact this)]
end

/-! What one reads -/
def InH (h : THeap) (n : Nat) (bs : List TB) : Prop := ∀ i b, bs[i]? = some b → h[n + i]? = some b
theorem InH.left {h : THeap} {n : Nat} {a b : List TB} (H : InH h n (a ++ b)) : InH h n a := fun i x hx => H i x (by rw [List.getElem?_append_left (List.getElem?_eq_some_iff.1 hx).1]; exact hx)
theorem InH.right {h : THeap} {n k : Nat} {a b : List TB} (H : InH h n (a ++ b)) (hk : a.length = k) : InH h (n + k) b := fun i x hx => by
  have := H (k + i) x (by rw [List.getElem?_append_right (by omega), hk, Nat.add_sub_cancel_left]; exact hx)
  rw [Nat.add_assoc]; exact this
theorem InH.mid (a b c : List TB) (n : Nat) (hn : a.length = n) : InH (a ++ (b ++ c)) n b := fun i x hx => by
  rw [List.getElem?_append_right (by omega), hn, Nat.add_sub_cancel_left, List.getElem?_append_left (List.getElem?_eq_some_iff.1 hx).1]; exact hx
theorem frz_el (h : THeap) (n : Nat) : ∀ ts, frzT h n (el ts) = el (ts.map (frzT h n))
  | [] => by simp only [el, frz_agg, List.map_nil]
  | [_] => rfl
  | _ :: _ :: _ => by simp only [el, frz_agg, List.map_cons]
mutual
theorem frz_tvC {h : THeap} : ∀ (c : Cell) (n d : Nat), InH h n (bkC n c) → dpC c ≤ d → frzT h d (tvC n c) = fzC c
  | .v _, _, _, _, _ => frz_p _ _ _
  | .nl, _, _, _, _ => frz_nl _ _
  | .sl e z rows, n, 0, _, hd => by simp [dpC] at hd
  | .sl e z rows, n, d + 1, H, hd => by
    simp only [dpC] at hd
    have h0 := H 0 (.cells e z (tvRs (n + 1) rows)) rfl
    have H' : InH h (n + 1) (bkRs (n + 1) rows) := InH.right (a := [.cells e z (tvRs (n + 1) rows)]) H rfl
    simp only [Nat.add_zero] at h0
    simp only [tvC, frz_os, h0, fzC, List.drop_zero, Nat.zero_add, tvRs_len, Nat.le_refl, if_true]
    rw [List.take_of_length_le (by rw [tvRs_len]; omega), frz_tvRs rows (n + 1) d H' (by omega)]
theorem frz_tvCs {h : THeap} : ∀ (cs : List Cell) (n d : Nat), InH h n (bkCs n cs) → dpCs cs ≤ d → (tvCs n cs).map (frzT h d) = fzCs cs
  | [], _, _, _, _ => rfl
  | c :: cs, n, d, H, hd => by
    simp only [dpCs] at hd
    simp only [bkCs] at H
    simp only [tvCs, fzCs, List.map_cons, frz_tvC c n d H.left (by omega), frz_tvCs cs (n + nbC c) d (H.right (bkC_len n c)) (by omega)]
theorem frz_tvRs {h : THeap} : ∀ (cs : List (List Cell)) (n d : Nat), InH h n (bkRs n cs) → dpRs cs ≤ d → (tvRs n cs).map (frzT h d) = fzRs cs
  | [], _, _, _, _ => rfl
  | c :: cs, n, d, H, hd => by
    simp only [dpRs] at hd
    simp only [bkRs] at H
    simp only [tvRs, fzRs, List.map_cons, frz_el, frz_tvCs c n d H.left (by omega), frz_tvRs cs (n + nbCs c) d (H.right (bkCs_len n c)) (by omega)]
end

/-! Sizes of elements -/
theorem tvC_one (n : Nat) (c : Cell) : oneT (tvC n c) = true := by cases c <;> rfl
theorem fzC_one (c : Cell) : oneT (fzC c) = true := by cases c <;> rfl
theorem tvCs_one : ∀ n cs, (tvCs n cs).all oneT = true
  | _, [] => rfl
  | n, c :: cs => by simp only [tvCs, List.all_cons, tvC_one, tvCs_one _ cs, Bool.and_self]
theorem fzCs_one : ∀ cs, (fzCs cs).all oneT = true
  | [] => rfl
  | c :: cs => by simp only [fzCs, List.all_cons, fzC_one, fzCs_one cs, Bool.and_self]
theorem fzCs_cells (r : List Cell) : cellsT (el (fzCs r)) = fzCs r := el_cells (fzCs_one r)
theorem fzRs_get : ∀ {rs : List (List Cell)} {i : Nat} {r : List Cell}, rs[i]? = some r → (fzRs rs)[i]? = some (el (fzCs r))
  | [], _, _, h => by simp at h
  | r :: rs, 0, x, h => by simp at h; subst h; rfl
  | r :: rs, i + 1, x, h => by simp only [fzRs, List.getElem?_cons_succ]; exact fzRs_get (by simpa using h)

/-! What is one's own -/
theorem own_el : ∀ {ts : List TV}, ownTs ts = true → ownT (el ts) = true
  | [], _ => rfl
  | [t], h => by simp only [ownTs, Bool.and_true] at h; exact h
  | a :: b :: l, h => h
theorem tvC_own (n : Nat) (c : Cell) : ownT (tvC n c) = true := by cases c <;> rfl
theorem tvCs_own : ∀ n cs, ownTs (tvCs n cs) = true
  | _, [] => rfl
  | n, c :: cs => by simp only [tvCs, ownTs, tvC_own, tvCs_own _ cs, Bool.and_self]
theorem tvRs_own : ∀ n rs, ownTs (tvRs n rs) = true
  | _, [] => rfl
  | n, c :: cs => by simp only [tvRs, ownTs, own_el (tvCs_own n c), tvRs_own _ cs, Bool.and_self]
mutual
theorem bkC_own : ∀ n c, (bkC n c).all ownB = true
  | _, .v _ => rfl
  | _, .nl => rfl
  | n, .sl e z rows => by simp only [bkC, List.all_cons, ownB, tvRs_own, bkRs_own (n + 1) rows, Bool.and_self]
theorem bkCs_own : ∀ n cs, (bkCs n cs).all ownB = true
  | _, [] => rfl
  | n, c :: cs => by simp only [bkCs, List.all_append, bkC_own n c, bkCs_own (n + nbC c) cs, Bool.and_self]
theorem bkRs_own : ∀ n rs, (bkRs n rs).all ownB = true
  | _, [] => rfl
  | n, r :: rs => by simp only [bkRs, List.all_append, bkCs_own n r, bkRs_own (n + nbCs r) rs, Bool.and_self]
end
end Go.AH
namespace Go.AH
/-! Shapes of cells -/
inductive Shp where
  | i (k : IntKind)
  | b
  | str
  | sl (e : TypeId) (row : List Shp)
mutual
/-- A cell as an argument has it: no slice is nil. -/
def HasC : Shp → Cell → Prop
  | .i k, c => ∃ n, c = .v (.int k n) ∧ (k = .u8 → 0 ≤ n ∧ n < 256)
  | .b, c => ∃ x, c = .v (.bool x)
  | .str, c => ∃ x, c = .v (.string x)
  | .sl e row, c => ∃ rows, c = .sl e row.length rows ∧ ∀ r ∈ rows, HasR row r
def HasR : List Shp → List Cell → Prop
  | [], cs => cs = []
  | s :: ss, cs => ∃ c r, cs = c :: r ∧ HasC s c ∧ HasR ss r
end
mutual
/-- A cell of an answer: a slice may be nil. -/
def FitC : Shp → Cell → Prop
  | .i k, c => ∃ n, c = .v (.int k n)
  | .b, c => ∃ x, c = .v (.bool x)
  | .str, c => ∃ x, c = .v (.string x)
  | .sl e row, c => c = .nl ∨ ∃ z rows, c = .sl e z rows ∧ (rows = [] ∨ z = row.length) ∧ ∀ r ∈ rows, FitR row r
def FitR : List Shp → List Cell → Prop
  | [], cs => cs = []
  | s :: ss, cs => ∃ c r, cs = c :: r ∧ FitC s c ∧ FitR ss r
end
mutual
theorem HasC.fit : ∀ (s : Shp) (c : Cell), HasC s c → FitC s c
  | .i k, c, h => by simp only [HasC] at h; simp only [FitC]; obtain ⟨n, h, _⟩ := h; exact ⟨n, h⟩
  | .b, c, h => by simp only [HasC] at h; simp only [FitC]; exact h
  | .str, c, h => by simp only [HasC] at h; simp only [FitC]; exact h
  | .sl e row, c, h => by
    simp only [HasC] at h; simp only [FitC]
    obtain ⟨rows, hc, hr⟩ := h
    exact .inr ⟨_, rows, hc, .inr rfl, fun r hx => HasR.fit row r (hr r hx)⟩
theorem HasR.fit : ∀ (s : List Shp) (c : List Cell), HasR s c → FitR s c
  | [], c, h => by simp only [HasR] at h; simp only [FitR]; exact h
  | s :: ss, c, h => by
    simp only [HasR] at h; simp only [FitR]
    obtain ⟨a, r, hc, h1, h2⟩ := h
    exact ⟨a, r, hc, HasC.fit s a h1, HasR.fit ss r h2⟩
end
theorem HasR.len : ∀ {s : List Shp} {c : List Cell}, HasR s c → c.length = s.length
  | [], c, h => by simp only [HasR] at h; subst h; rfl
  | s :: ss, c, h => by simp only [HasR] at h; obtain ⟨a, r, rfl, _, h2⟩ := h; simp [HasR.len h2]
theorem FitR.len : ∀ {s : List Shp} {c : List Cell}, FitR s c → c.length = s.length
  | [], c, h => by simp only [FitR] at h; subst h; rfl
  | s :: ss, c, h => by simp only [FitR] at h; obtain ⟨a, r, rfl, _, h2⟩ := h; simp [FitR.len h2]
mutual
/-- The cell of a tree, by its shape. -/
def unC : Shp → TV → Cell
  | .sl e row, t => match t with
    | .s es => .sl e row.length (es.map fun x => unR row (cellsT x))
    | _ => .nl
  | .i _, t => match t with
    | .p v => .v v
    | _ => .nl
  | .b, t => match t with
    | .p v => .v v
    | _ => .nl
  | .str, t => match t with
    | .p v => .v v
    | _ => .nl
def unR : List Shp → List TV → List Cell
  | [], _ => []
  | s :: ss, ts => match ts with
    | t :: ts => unC s t :: unR ss ts
    | [] => []
end
mutual
theorem un_fzC : ∀ (s : Shp) (c : Cell), HasC s c → unC s (fzC c) = c
  | .i k, c, h => by simp only [HasC] at h; obtain ⟨n, rfl, _⟩ := h; rfl
  | .b, c, h => by simp only [HasC] at h; obtain ⟨n, rfl⟩ := h; rfl
  | .str, c, h => by simp only [HasC] at h; obtain ⟨n, rfl⟩ := h; rfl
  | .sl e row, c, h => by
    simp only [HasC] at h
    obtain ⟨rows, rfl, hr⟩ := h
    simp only [fzC, unC]
    congr 1
    have key : ∀ rs : List (List Cell), (∀ r ∈ rs, HasR row r) → (fzRs rs).map (fun x => unR row (cellsT x)) = rs := by
      intro rs
      induction rs with
      | nil => intro _; rfl
      | cons r rs ih => intro h; simp only [fzRs, List.map_cons, fzCs_cells, un_fzR row r (h r (by simp)), ih fun x hx => h x (by simp [hx])]
    exact key rows hr
theorem un_fzR : ∀ (s : List Shp) (c : List Cell), HasR s c → unR s (fzCs c) = c
  | [], c, h => by simp only [HasR] at h; subst h; rfl
  | s :: ss, c, h => by
    simp only [HasR] at h
    obtain ⟨a, r, rfl, h1, h2⟩ := h
    simp only [fzCs, unR, un_fzC s a h1, un_fzR ss r h2]
end

mutual
/-- No slice is too long. -/
def lnC : Cell → Bool
  | .v _ => true
  | .nl => true
  | .sl _ _ rows => decide (rows.length ≤ 140737488355328) && lnRs rows
def lnCs : List Cell → Bool
  | [] => true
  | c :: cs => lnC c && lnCs cs
def lnRs : List (List Cell) → Bool
  | [] => true
  | r :: rs => lnCs r && lnRs rs
end
theorem lnRs_mem : ∀ {rows : List (List Cell)} {i : Nat} {r : List Cell}, lnRs rows = true → rows[i]? = some r → lnCs r = true
  | [], _, _, _, h => by simp at h
  | r :: rs, 0, x, hl, h => by simp at h; subst h; simp only [lnRs, Bool.and_eq_true] at hl; exact hl.1
  | r :: rs, i + 1, x, hl, h => by simp only [lnRs, Bool.and_eq_true] at hl; exact lnRs_mem hl.2 (by simpa using h)
/-! Marks -/
def isT3 (k : Int) : Bool := decide (k.tmod 3 = 0)
def mkV : Value → Int → Value
  | .int .i64 _, k => .int .i64 k
  | .int .u8 _, k => .int .u8 (IntKind.u8.wrap k)
  | .bool _, k => .bool (isT3 k)
  | v, _ => v
mutual
def wtI : Cell → Nat
  | .v _ => 1
  | .nl => 0
  | .sl _ _ rows => wtRs rows
def wtIs : List Cell → Nat
  | [] => 0
  | c :: cs => wtI c + wtIs cs
def wtRs : List (List Cell) → Nat
  | [] => 0
  | r :: rs => wtIs r + wtRs rs
end
mutual
def mkI : Cell → Int → Cell
  | .v x, k => .v (mkV x k)
  | .nl, _ => .nl
  | .sl e z rows, k => .sl e z (mkRs rows k)
def mkIs : List Cell → Int → List Cell
  | [], _ => []
  | c :: cs, k => mkI c k :: mkIs cs (k + wtI c)
def mkRs : List (List Cell) → Int → List (List Cell)
  | [], _ => []
  | r :: rs, k => mkIs r k :: mkRs rs (k + wtIs r)
end
/-- The marks of a value: what stands in its slices is marked. -/
def wtC : Cell → Nat
  | .sl _ _ rows => wtRs rows
  | _ => 0
def mkC : Cell → Int → Cell
  | .sl e z rows, k => .sl e z (mkRs rows k)
  | c, _ => c
def wtCs : List Cell → Nat
  | [] => 0
  | c :: cs => wtC c + wtCs cs
def mkCs : List Cell → Int → List Cell
  | [], _ => []
  | c :: cs, k => mkC c k :: mkCs cs (k + wtC c)
mutual
theorem mkI_nb : ∀ (c : Cell) (k : Int), nbC (mkI c k) = nbC c
  | .v _, _ => rfl
  | .nl, _ => rfl
  | .sl e z rows, k => by simp only [mkI, nbC, mkRs_nb rows k]
theorem mkIs_nb : ∀ (c : List Cell) (k : Int), nbCs (mkIs c k) = nbCs c
  | [], _ => rfl
  | c :: cs, k => by simp only [mkIs, nbCs, mkI_nb c k, mkIs_nb cs _]
theorem mkRs_nb : ∀ (c : List (List Cell)) (k : Int), nbRs (mkRs c k) = nbRs c
  | [], _ => rfl
  | c :: cs, k => by simp only [mkRs, nbRs, mkIs_nb c k, mkRs_nb cs _]
end
theorem mkC_nb (c : Cell) (k : Int) : nbC (mkC c k) = nbC c := by cases c <;> first | rfl | simp only [mkC, nbC, mkRs_nb]
theorem mkCs_nb : ∀ (c : List Cell) (k : Int), nbCs (mkCs c k) = nbCs c
  | [], _ => rfl
  | c :: cs, k => by simp only [mkCs, nbCs, mkC_nb, mkCs_nb cs _]
theorem mkRs_len : ∀ (c : List (List Cell)) (k : Int), (mkRs c k).length = c.length
  | [], _ => rfl
  | c :: cs, k => by simp only [mkRs, List.length_cons, mkRs_len cs _]
theorem mkC_tv (n : Nat) (c : Cell) (k : Int) : tvC n (mkC c k) = tvC n c := by cases c <;> first | rfl | simp only [mkC, tvC, mkRs_len]
theorem mkCs_tv : ∀ (n : Nat) (c : List Cell) (k : Int), tvCs n (mkCs c k) = tvCs n c
  | _, [], _ => rfl
  | n, c :: cs, k => by simp only [mkCs, tvCs, mkC_tv, mkC_nb, mkCs_tv _ cs _]
mutual
theorem mkI_dp : ∀ (c : Cell) (k : Int), dpC (mkI c k) = dpC c
  | .v _, _ => rfl
  | .nl, _ => rfl
  | .sl e z rows, k => by simp only [mkI, dpC, mkRs_dp rows k]
theorem mkIs_dp : ∀ (c : List Cell) (k : Int), dpCs (mkIs c k) = dpCs c
  | [], _ => rfl
  | c :: cs, k => by simp only [mkIs, dpCs, mkI_dp c k, mkIs_dp cs _]
theorem mkRs_dp : ∀ (c : List (List Cell)) (k : Int), dpRs (mkRs c k) = dpRs c
  | [], _ => rfl
  | c :: cs, k => by simp only [mkRs, dpRs, mkIs_dp c k, mkRs_dp cs _]
end
theorem mkC_dp (c : Cell) (k : Int) : dpC (mkC c k) = dpC c := by cases c <;> first | rfl | simp only [mkC, dpC, mkRs_dp]
theorem mkCs_dp : ∀ (c : List Cell) (k : Int), dpCs (mkCs c k) = dpCs c
  | [], _ => rfl
  | c :: cs, k => by simp only [mkCs, dpCs, mkC_dp, mkCs_dp cs _]
mutual
def szT : TV → Nat
  | .s es => es.length + szTs es
  | .agg cs => szTs cs
  | _ => 0
def szTs : List TV → Nat
  | [] => 0
  | t :: ts => szT t + szTs ts
end
theorem szT_el (ts : List TV) : szT (el ts) = szTs ts := by
  match ts with
  | [] => rfl
  | [t] => simp [el, szTs]
  | _ :: _ :: _ => simp [el, szT]
mutual
theorem szC_fz : ∀ c : Cell, szT (fzC c) = szC c
  | .v _ => by simp [fzC, szT, szC]
  | .nl => by simp [fzC, szT, szTs, szC]
  | .sl _ _ rows => by simp only [fzC, szT, szC, szRs_fz rows, fzRs_len]
theorem szCs_fz : ∀ c : List Cell, szTs (fzCs c) = szCs c
  | [] => by simp [fzCs, szTs, szCs]
  | c :: cs => by simp only [fzCs, szTs, szCs, szC_fz c, szCs_fz cs]
theorem szRs_fz : ∀ c : List (List Cell), szTs (fzRs c) = szRs c
  | [] => by simp [fzRs, szTs, szRs]
  | c :: cs => by simp only [fzRs, szTs, szRs, szT_el, szCs_fz c, szRs_fz cs]
end
end Go.AH
namespace Go.AH
/-! A callee that writes, told by a relation over the blocks that are handed in -/
section
variable {P : Program} {ΓT : TCtx} {f : Nat} {fn : Func} {af : AF}
end
/-! The functions of laws, for all shapes -/
open Classical in
/-- A spec whose arguments tell themselves. -/
noncomputable def tvSp (Pre : List TV → Prop) (R : List TV → TV × THeap) (args : List TV) : Option (TV × THeap) := if Pre args then some (R args) else none
theorem tvSp_at {Pre : List TV → Prop} {R : List TV → TV × THeap} {args : List TV} (h : Pre args) : tvSp Pre R args = some (R args) := by unfold tvSp; rw [if_pos h]
theorem okT_tv {P : Program} {ΓT : TCtx} {f : Nat} {fn : Func} {af : AF} {Pre : List TV → Prop} {R : List TV → TV × THeap} (hΓ : OkΓT P ΓT) (hf : P.funcs[f]? = some fn) (hcall : callable P f = true) (hc : cFn P fn = some af)
    (hown : ∀ x, Pre x → ownT (R x).1 = true ∧ (R x).2.all ownB = true)
    (H : ∀ x, Pre x → awpT 0 ΓT af.code (EndT af.res (R x).1 (R x).2) ⟨argσT x, []⟩) : OkT P f (pureSp (tvSp Pre R)) :=
  okT_pure hΓ hf hcall hc (fun args r hL h => by
      unfold tvSp at h
      split at h
      · rename_i hp; have := hown args hp; rw [Option.some.inj h] at this; exact this
      · cases h)
    (fun args r hL h => by
      unfold tvSp at h
      split at h
      · rename_i hp; have := H args hp; rw [Option.some.inj h] at this; exact this
      · cases h)

/-- Sizes. -/
noncomputable def szC_S (s : Shp) := tvSp (fun a => ∃ c k, a = [fzC c, .p (.int .i64 k)] ∧ HasC s c ∧ 0 ≤ k ∧ k ≤ 1048576 ∧ lnC c = true) (fun a => (match a with | [t, .p (.int _ k)] => .p (.int .i64 (if (szT t : Int) ≤ k then k - szT t else -1)) | _ => .any, []))
noncomputable def szR_S (s : List Shp) := tvSp (fun a => ∃ c k, a = [.agg (fzCs c), .p (.int .i64 k)] ∧ HasR s c ∧ 0 ≤ k ∧ k ≤ 1048576 ∧ lnCs c = true) (fun a => (match a with | [t, .p (.int _ k)] => .p (.int .i64 (if (szT t : Int) ≤ k then k - szT t else -1)) | _ => .any, []))
theorem szC_at {s : Shp} {c : Cell} {k : Int} (h : HasC s c) (hk : 0 ≤ k ∧ k ≤ 1048576) (hz : lnC c = true) : szC_S s [fzC c, .p (.int .i64 k)] = some (.p (.int .i64 (if (szC c : Int) ≤ k then k - szC c else -1)), []) := by
  rw [szC_S, tvSp_at ⟨c, k, rfl, h, hk.1, hk.2, hz⟩]; simp only [szC_fz]
theorem szR_at {s : List Shp} {c : List Cell} {k : Int} (h : HasR s c) (hk : 0 ≤ k ∧ k ≤ 1048576) (hz : lnCs c = true) : szR_S s [.agg (fzCs c), .p (.int .i64 k)] = some (.p (.int .i64 (if (szCs c : Int) ≤ k then k - szCs c else -1)), []) := by
  rw [szR_S, tvSp_at ⟨c, k, rfl, h, hk.1, hk.2, hz⟩]; simp only [szT, szCs_fz]
/-- Copies. -/
noncomputable def toC_S (s : Shp) := tvSp (fun a => ∃ c, a = [fzC c] ∧ HasC s c ∧ szC c ≤ 1048576) (fun a => match a with | [t] => (tvC 0 (unC s t), bkC 0 (unC s t)) | _ => (.any, []))
noncomputable def toR_S (s : List Shp) := tvSp (fun a => ∃ c, a = [.agg (fzCs c)] ∧ HasR s c ∧ szCs c ≤ 1048576) (fun a => match a with | [.agg ts] => (.agg (tvCs 0 (unR s ts)), bkCs 0 (unR s ts)) | _ => (.any, []))
theorem toC_at {s : Shp} {c : Cell} (h : HasC s c) (hz : szC c ≤ 1048576) : toC_S s [fzC c] = some (tvC 0 c, bkC 0 c) := by
  rw [toC_S, tvSp_at ⟨c, rfl, h, hz⟩]; simp only [un_fzC s c h]
theorem toR_at {s : List Shp} {c : List Cell} (h : HasR s c) (hz : szCs c ≤ 1048576) : toR_S s [.agg (fzCs c)] = some (.agg (tvCs 0 c), bkCs 0 c) := by
  rw [toR_S, tvSp_at ⟨c, rfl, h, hz⟩]; simp only [un_fzR s c h]
/-- What is equal to itself. -/
noncomputable def eqC_S (s : Shp) := tvSp (fun a => ∃ c, a = [fzC c, fzC c] ∧ FitC s c ∧ szC c ≤ 1099511627776) (fun _ => (.p (.bool true), []))
noncomputable def eqR_S (s : List Shp) := tvSp (fun a => ∃ c, a = [.agg (fzCs c), .agg (fzCs c)] ∧ FitR s c ∧ szCs c ≤ 1099511627776) (fun _ => (.p (.bool true), []))
theorem eqC_at {s : Shp} {c : Cell} (h : FitC s c) (hz : szC c ≤ 1099511627776) : eqC_S s [fzC c, fzC c] = some (.p (.bool true), []) := by rw [eqC_S, tvSp_at ⟨c, rfl, h, hz⟩]
theorem eqR_at {s : List Shp} {c : List Cell} (h : FitR s c) (hz : szCs c ≤ 1099511627776) : eqR_S s [.agg (fzCs c), .agg (fzCs c)] = some (.p (.bool true), []) := by rw [eqR_S, tvSp_at ⟨c, rfl, h, hz⟩]
end Go.AH
namespace Go.AH
section
variable {P : Program} {ΓT : TCtx} {f : Nat} {fn : Func} {af : AF}
theorem okT_toC {s : Shp} (hΓ : OkΓT P ΓT) (hf : P.funcs[f]? = some fn) (hcall : callable P f = true) (hc : cFn P fn = some af)
    (H : ∀ c, HasC s c → szC c ≤ 1048576 → awpT 0 ΓT af.code (EndT af.res (tvC 0 c) (bkC 0 c)) ⟨argσT [fzC c], []⟩) : OkT P f (pureSp (toC_S s)) :=
  okT_tv hΓ hf hcall hc (fun x hx => by obtain ⟨c, rfl, h, _⟩ := hx; exact ⟨tvC_own _ _, bkC_own _ _⟩)
    (fun x hx => by obtain ⟨c, rfl, h, hz⟩ := hx; have := H c h hz; simp only [un_fzC s c h]; exact this)
theorem okT_toR {s : List Shp} (hΓ : OkΓT P ΓT) (hf : P.funcs[f]? = some fn) (hcall : callable P f = true) (hc : cFn P fn = some af)
    (H : ∀ c, HasR s c → szCs c ≤ 1048576 → awpT 0 ΓT af.code (EndT af.res (.agg (tvCs 0 c)) (bkCs 0 c)) ⟨argσT [.agg (fzCs c)], []⟩) : OkT P f (pureSp (toR_S s)) :=
  okT_tv hΓ hf hcall hc (fun x hx => by obtain ⟨c, rfl, h, _⟩ := hx; exact ⟨tvCs_own _ _, bkCs_own _ _⟩)
    (fun x hx => by obtain ⟨c, rfl, h, hz⟩ := hx; have := H c h hz; simp only [un_fzR s c h]; exact this)
theorem okT_eqC {s : Shp} (hΓ : OkΓT P ΓT) (hf : P.funcs[f]? = some fn) (hcall : callable P f = true) (hc : cFn P fn = some af)
    (H : ∀ c, FitC s c → szC c ≤ 1099511627776 → awpT 0 ΓT af.code (EndT af.res (.p (.bool true)) []) ⟨argσT [fzC c, fzC c], []⟩) : OkT P f (pureSp (eqC_S s)) :=
  okT_tv hΓ hf hcall hc (fun x hx => ⟨rfl, rfl⟩) (fun x hx => by obtain ⟨c, rfl, h, hz⟩ := hx; exact H c h hz)
theorem okT_eqR {s : List Shp} (hΓ : OkΓT P ΓT) (hf : P.funcs[f]? = some fn) (hcall : callable P f = true) (hc : cFn P fn = some af)
    (H : ∀ c, FitR s c → szCs c ≤ 1099511627776 → awpT 0 ΓT af.code (EndT af.res (.p (.bool true)) []) ⟨argσT [.agg (fzCs c), .agg (fzCs c)], []⟩) : OkT P f (pureSp (eqR_S s)) :=
  okT_tv hΓ hf hcall hc (fun x hx => ⟨rfl, rfl⟩) (fun x hx => by obtain ⟨c, rfl, h, hz⟩ := hx; exact H c h hz)
theorem okT_szC {s : Shp} (hΓ : OkΓT P ΓT) (hf : P.funcs[f]? = some fn) (hcall : callable P f = true) (hc : cFn P fn = some af)
    (H : ∀ (c : Cell) (k : Int), HasC s c → 0 ≤ k → k ≤ 1048576 → lnC c = true → awpT 0 ΓT af.code (EndT af.res (.p (.int .i64 (if (szC c : Int) ≤ k then k - szC c else -1))) []) ⟨argσT [fzC c, .p (.int .i64 k)], []⟩) : OkT P f (pureSp (szC_S s)) :=
  okT_tv hΓ hf hcall hc (fun x hx => by obtain ⟨c, k, rfl, h⟩ := hx; exact ⟨rfl, rfl⟩) (fun x hx => by obtain ⟨c, k, rfl, h, h1, h2, h3⟩ := hx; have := H c k h h1 h2 h3; simp only [szC_fz]; exact this)
theorem okT_szR {s : List Shp} (hΓ : OkΓT P ΓT) (hf : P.funcs[f]? = some fn) (hcall : callable P f = true) (hc : cFn P fn = some af)
    (H : ∀ (c : List Cell) (k : Int), HasR s c → 0 ≤ k → k ≤ 1048576 → lnCs c = true → awpT 0 ΓT af.code (EndT af.res (.p (.int .i64 (if (szCs c : Int) ≤ k then k - szCs c else -1))) []) ⟨argσT [.agg (fzCs c), .p (.int .i64 k)], []⟩) : OkT P f (pureSp (szR_S s)) :=
  okT_tv hΓ hf hcall hc (fun x hx => by obtain ⟨c, k, rfl, h⟩ := hx; exact ⟨rfl, rfl⟩) (fun x hx => by obtain ⟨c, k, rfl, h, h1, h2, h3⟩ := hx; have := H c k h h1 h2 h3; simp only [szT, szCs_fz]; exact this)
end

/-! Rows, one by one -/
theorem take_snoc {α : Type} {l : List α} {i : Nat} {x : α} (h : l[i]? = some x) : l.take (i + 1) = l.take i ++ [x] := by
  have hlt := (List.getElem?_eq_some_iff.1 h).1
  rw [List.take_succ_eq_append_getElem hlt, (List.getElem?_eq_some_iff.1 h).2]
def mixR (n : Nat) (rows : List (List Cell)) (z : TV) (i : Nat) : List TV := tvRs n (rows.take i) ++ List.replicate (rows.length - i) z
theorem mixR_zero (n : Nat) (rows : List (List Cell)) (z : TV) : List.replicate rows.length z = mixR n rows z 0 := by simp [mixR, tvRs]
theorem mixR_full (n : Nat) {rows : List (List Cell)} (z : TV) {i : Nat} (h : rows.length ≤ i) : mixR n rows z i = tvRs n rows := by
  rw [mixR, List.take_of_length_le h, show rows.length - i = 0 by omega]; simp
theorem mixR_len (n : Nat) (rows : List (List Cell)) (z : TV) {i : Nat} (h : i ≤ rows.length) : (mixR n rows z i).length = rows.length := by
  simp [mixR, tvRs_len]; omega
theorem mixR_get (n : Nat) {rows : List (List Cell)} (z : TV) {i : Nat} (h : i < rows.length) : (mixR n rows z i)[i]? = some z := by
  rw [mixR, List.getElem?_append_right (by rw [tvRs_len, List.length_take]; omega), tvRs_len, List.length_take, show i - min i rows.length = 0 by omega]
  rw [List.getElem?_replicate, if_pos (by omega)]
theorem mixR_set (n : Nat) {rows : List (List Cell)} (z : TV) {i : Nat} {r : List Cell} (h : rows[i]? = some r) : (mixR n rows z i).set i (el (tvCs (n + nbRs (rows.take i)) r)) = mixR n rows z (i + 1) := by
  have hlt := (List.getElem?_eq_some_iff.1 h).1
  rw [mixR, mixR, take_snoc h, tvRs_app, List.append_assoc, List.set_append_right _ _ (by rw [tvRs_len, List.length_take]; omega), tvRs_len, List.length_take, show i - min i rows.length = 0 by omega, show rows.length - i = (rows.length - (i + 1)) + 1 by omega, List.replicate_succ, List.set_cons_zero]
  rfl
theorem bkRs_snoc (n : Nat) {rows : List (List Cell)} {i : Nat} {r : List Cell} (h : rows[i]? = some r) : bkRs n (rows.take (i + 1)) = bkRs n (rows.take i) ++ bkCs (n + nbRs (rows.take i)) r := by
  rw [take_snoc h, bkRs_app]; simp only [bkRs, List.append_nil]
theorem szRs_snoc {rows : List (List Cell)} {i : Nat} {r : List Cell} (h : rows[i]? = some r) : szRs (rows.take (i + 1)) = szRs (rows.take i) + szCs r := by
  rw [take_snoc h, szRs_app]; simp only [szRs, Nat.add_zero]
theorem szRs_le (rows : List (List Cell)) (i : Nat) : szRs (rows.take i) ≤ szRs rows := by
  conv => rhs; rw [← List.take_append_drop i rows, szRs_app]
  omega
theorem szRs_mem {rows : List (List Cell)} {i : Nat} {r : List Cell} (h : rows[i]? = some r) : szRs (rows.take i) + szCs r ≤ szRs rows := by
  have := szRs_le rows (i + 1); rw [szRs_snoc h] at this; exact this
end Go.AH
namespace Go.AH
theorem ren0_tvC (n : Nat) (c : Cell) : renT (fun b => b + n) (tvC 0 c) = tvC n c := ren_tvC c 0 n fun i _ => by omega
theorem ren0_tvCs (n : Nat) (c : List Cell) : renTs (fun b => b + n) (tvCs 0 c) = tvCs n c := ren_tvCs c 0 n fun i _ => by omega
theorem ren0_bkC (n : Nat) (c : Cell) : (bkC 0 c).map (renB fun b => b + n) = bkC n c := ren_bkC c 0 n fun i _ => by omega
theorem ren0_bkCs (n : Nat) (c : List Cell) : (bkCs 0 c).map (renB fun b => b + n) = bkCs n c := ren_bkCs c 0 n fun i _ => by omega
theorem map_appB (f : TB → TB) (a b : List TB) : (a ++ b).map f = a.map f ++ b.map f := List.map_append
theorem frz_fzC (h : THeap) (n : Nat) : ∀ c : Cell, frzT h n (fzC c) = fzC c
  | .v _ => frz_p _ _ _
  | .nl => frz_s _ _ _
  | .sl _ _ _ => frz_s _ _ _
theorem frz_fzCs (h : THeap) (n : Nat) : ∀ c : List Cell, (fzCs c).map (frzT h n) = fzCs c
  | [] => rfl
  | c :: cs => by simp only [fzCs, List.map_cons, frz_fzC, frz_fzCs h n cs]
theorem cells_fzC (c : Cell) : cellsT (fzC c) = [fzC c] := by cases c <;> rfl
theorem cells_tvC (n : Nat) (c : Cell) : cellsT (tvC n c) = [tvC n c] := by cases c <;> rfl
/-- The end: the answer's blocks stand behind others. -/
theorem endT_cells {res : List AR} {e : Exit} {s : TSt} {D : List TB} {m : Nat} {cs : List Cell} (he : e = .normal ∨ e = .ret) (hr : rresT s res = some (.agg (tvCs m cs))) (hh : s.h = D ++ bkCs m cs) (hD : D.length = m) : EndT res (.agg (tvCs 0 cs)) (bkCs 0 cs) e s := by
  refine ⟨he, .inl ⟨_, hr, fun b => b + m, fun i hi => absurd hi (by omega), Nat.zero_le _, fun b b' _ _ h => by have : b + m = b' + m := h; omega, fun b hb => ?_, fun _ => .inr ?_, fun b e z es hb => ?_⟩⟩
  · have : nbCs cs ≤ b := by have : (bkCs 0 cs).length ≤ b := hb; rwa [bkCs_len] at this
    show s.h.length ≤ b + m
    rw [hh, List.length_append, bkCs_len]; omega
  · show TV.agg (tvCs m cs) = renT (fun b => b + m) (.agg (tvCs 0 cs))
    rw [renT, ren0_tvCs]
  · have h1 : (bkCs m cs)[b]? = some (.cells e z (renTs (fun b => b + m) es)) := by rw [← ren0_bkCs, List.getElem?_map, hb]; rfl
    show s.h[b + m]? = _
    rw [hh, List.getElem?_append_right (by omega), hD, Nat.add_sub_cancel]; exact h1
theorem endT_cells' (m : Nat) {res : List AR} {e : Exit} {s : TSt} {cs : List Cell} (he : e = .normal ∨ e = .ret) (hr : rresT s res = some (.agg (tvCs m cs))) (hh : s.h.drop m = bkCs m cs) (hm : m ≤ s.h.length) : EndT res (.agg (tvCs 0 cs)) (bkCs 0 cs) e s :=
  endT_cells he hr (D := s.h.take m) (by rw [← hh, List.take_append_drop]) (by rw [List.length_take]; omega)
attribute [go_sem] ren0_tvC ren0_bkC ren0_tvCs ren0_bkCs frz_fzC frz_fzCs cells_fzC cells_tvC fzC_one tvC_one fzRs_len tvRs_len mkRs_len map_appB
end Go.AH
namespace Go.AH
theorem FitC.rows {e : TypeId} {row : List Shp} {c : Cell} (h : FitC (.sl e row) c) : ∃ rows, fzC c = .s (fzRs rows) ∧ (∀ r ∈ rows, FitR row r) ∧ szC c = rows.length + szRs rows ∧ wtC c = wtRs rows ∧ ∀ k, fzC (mkC c k) = .s (fzRs (mkRs rows k)) := by
  simp only [FitC] at h
  rcases h with rfl | ⟨z, rows, rfl, _, hr⟩
  · exact ⟨[], rfl, by simp, rfl, rfl, fun _ => rfl⟩
  · exact ⟨rows, rfl, hr, rfl, rfl, fun _ => rfl⟩
theorem FitC.mk {e : TypeId} {row : List Shp} {c : Cell} (h : FitC (.sl e row) c) : wtI c = wtC c ∧ ∀ k, mkI c k = mkC c k := by
  simp only [FitC] at h
  rcases h with rfl | ⟨z, rows, rfl, _, hr⟩ <;> exact ⟨rfl, fun _ => rfl⟩
theorem szRs_zero : ∀ {rows : List (List Cell)}, (∀ r ∈ rows, szCs r = 0) → szRs rows = 0
  | [], _ => rfl
  | r :: rs, h => by
    have h1 := h r (by simp)
    have h2 := szRs_zero (rows := rs) fun x hx => h x (List.mem_cons_of_mem _ hx)
    simp only [szRs, h1, h2]
theorem tvC_v (n : Nat) (x : Value) : tvC n (.v x) = .p x := rfl
theorem tvC_nl (n : Nat) : tvC n .nl = .nl := rfl
theorem tvC_sl (n : Nat) (e : TypeId) (z : Nat) (rows : List (List Cell)) : tvC n (.sl e z rows) = .os n 0 rows.length := rfl
end Go.AH
namespace Go.AH
/-! Laws: what stands in the heap is a list of cells -/
def ansSp (S : List TV → Option (TV × THeap)) : TSp := pureSp S
theorem frz_in {A B : List TB} {w : List Cell} {n : Nat} (hn : A.length = n) (hd : dpCs w ≤ 9) : frzT (A ++ (bkCs n w ++ B)) 9 (.agg (tvCs n w)) = .agg (fzCs w) := by
  rw [frz_agg, frz_tvCs w n 9 (InH.mid _ _ _ n hn) hd]
section
variable {S : List TV → Option (TV × THeap)} {t : Nat → Bool} {args fargs : List TV} {G : List TB} {w : List Cell} {c : Cell} {n : Nat}
theorem call_new (ha : args.map (frzT G 9) = fargs) (hS : S fargs = some (.agg (tvCs 0 w), bkCs 0 w)) (hn : G.length = n) : (ansSp S).fn t args G = some (.agg (tvCs n w), G ++ bkCs n w) := by
  simp only [ansSp, pureSp, ha, hS, Option.map_some, hn, renT, ren0_tvCs, ren0_bkCs]
theorem call_val {v : Value} (ha : args.map (frzT G 9) = fargs) (hS : S fargs = some (.p v, [])) : (ansSp S).fn t args G = some (.p v, G) := by
  simp only [ansSp, pureSp, ha, hS, Option.map_some, renT, List.map_nil, List.append_nil]
end
/-- A length, not for arithmetic to see. -/
structure IsLen (n : Nat) (h : List TB) : Prop where
  eq : h.length = n
theorem isLen_ex (h : List TB) : ∃ n, IsLen n h := ⟨_, ⟨rfl⟩⟩
theorem hold_get {A R : List TB} {n : Nat} (h : A.length = n) (x : TB) : (A ++ (x :: R))[n]? = some x := by subst h; simp
theorem hold_set {A R : List TB} {n : Nat} (h : A.length = n) (x y : TB) : (A ++ (x :: R)).set n y = A ++ (y :: R) := by subst h; simp
/-! Depth and weights, by shapes -/
mutual
def dpS : Shp → Nat
  | .sl _ row => dpSs row + 1
  | _ => 0
def dpSs : List Shp → Nat
  | [] => 0
  | s :: ss => max (dpS s) (dpSs ss)
end
mutual
def mxS : Shp → Nat
  | .sl _ row => max row.length (mxSs row)
  | _ => 0
def mxSs : List Shp → Nat
  | [] => 0
  | s :: ss => max (mxS s) (mxSs ss)
end
mutual
theorem FitC.dp : ∀ (s : Shp) (c : Cell), FitC s c → dpC c ≤ dpS s
  | .i k, c, h => by simp only [FitC] at h; obtain ⟨n, rfl⟩ := h; simp [dpC]
  | .b, c, h => by simp only [FitC] at h; obtain ⟨n, rfl⟩ := h; simp [dpC]
  | .str, c, h => by simp only [FitC] at h; obtain ⟨n, rfl⟩ := h; simp [dpC]
  | .sl e row, c, h => by
    simp only [FitC] at h
    rcases h with rfl | ⟨z, rows, rfl, _, hr⟩
    · simp [dpC]
    · simp only [dpC, dpS]
      have key : ∀ rs : List (List Cell), (∀ r ∈ rs, FitR row r) → dpRs rs ≤ dpSs row := by
        intro rs
        induction rs with
        | nil => intro _; simp [dpRs]
        | cons r rs ih =>
          intro h
          have h1 := FitR.dp row r (h r (by simp))
          have h2 := ih fun x hx => h x (List.mem_cons_of_mem _ hx)
          simp only [dpRs]; omega
      have := key rows hr; omega
theorem FitR.dp : ∀ (s : List Shp) (c : List Cell), FitR s c → dpCs c ≤ dpSs s
  | [], c, h => by simp only [FitR] at h; subst h; simp [dpCs]
  | s :: ss, c, h => by
    simp only [FitR] at h
    obtain ⟨a, r, rfl, h1, h2⟩ := h
    have := FitC.dp s a h1; have := FitR.dp ss r h2
    simp only [dpCs, dpSs]; omega
end
mutual
theorem FitC.mx : ∀ (s : Shp) (c : Cell), FitC s c → wtI c ≤ 1 + mxS s * szC c
  | .i k, c, h => by simp only [FitC] at h; obtain ⟨n, rfl⟩ := h; simp [wtI]
  | .b, c, h => by simp only [FitC] at h; obtain ⟨n, rfl⟩ := h; simp [wtI]
  | .str, c, h => by simp only [FitC] at h; obtain ⟨n, rfl⟩ := h; simp [wtI]
  | .sl e row, c, h => by
    have := FitC.wt e row c h
    rw [(FitC.mk h).1]; omega
theorem FitC.wt : ∀ (e : TypeId) (row : List Shp) (c : Cell), FitC (.sl e row) c → wtC c ≤ mxS (.sl e row) * szC c
  | e, row, c, h => by
    simp only [FitC] at h
    rcases h with rfl | ⟨z, rows, rfl, _, hr⟩
    · simp [wtC]
    · simp only [wtC, szC, mxS]
      have key : ∀ rs : List (List Cell), (∀ r ∈ rs, FitR row r) → wtRs rs ≤ max row.length (mxSs row) * (rs.length + szRs rs) := by
        intro rs
        induction rs with
        | nil => intro _; simp [wtRs]
        | cons r rs ih =>
          intro h
          have h1 := FitR.wtI row r (h r (by simp))
          have h2 := ih fun x hx => h x (List.mem_cons_of_mem _ hx)
          have h3 : mxSs row * szCs r ≤ max row.length (mxSs row) * szCs r := Nat.mul_le_mul_right _ (Nat.le_max_right _ _)
          have h4 : row.length ≤ max row.length (mxSs row) := Nat.le_max_left _ _
          simp only [wtRs, szRs, List.length_cons]
          have e1 : max row.length (mxSs row) * (rs.length + 1 + (szCs r + szRs rs)) = max row.length (mxSs row) * (rs.length + szRs rs) + max row.length (mxSs row) + max row.length (mxSs row) * szCs r := by
            rw [show rs.length + 1 + (szCs r + szRs rs) = (rs.length + szRs rs) + 1 + szCs r by omega, Nat.mul_add, Nat.mul_add, Nat.mul_one]
          omega
      exact key rows hr
theorem FitR.wtI : ∀ (s : List Shp) (c : List Cell), FitR s c → wtIs c ≤ s.length + mxSs s * szCs c
  | [], c, h => by simp only [FitR] at h; subst h; simp [wtIs]
  | s :: ss, c, h => by
    simp only [FitR] at h
    obtain ⟨a, r, rfl, h1, h2⟩ := h
    have q1 := FitC.mx s a h1; have q2 := FitR.wtI ss r h2
    have q3 : mxS s * szC a ≤ mxSs (s :: ss) * szC a := Nat.mul_le_mul_right _ (by simp only [mxSs]; exact Nat.le_max_left _ _)
    have q4 : mxSs ss * szCs r ≤ mxSs (s :: ss) * szCs r := Nat.mul_le_mul_right _ (by simp only [mxSs]; exact Nat.le_max_right _ _)
    simp only [wtIs, szCs, List.length_cons, Nat.mul_add]; omega
end
theorem FitC.w {s : Shp} {c : Cell} (h : FitC s c) {m N : Nat} (hm : mxS s ≤ m) (hz : szC c ≤ N) : wtC c ≤ m * N := by
  cases s with
  | sl e row => exact Nat.le_trans (FitC.wt e row c h) (Nat.mul_le_mul hm hz)
  | _ => simp only [FitC] at h; obtain ⟨_, rfl⟩ := h; simp [wtC]
theorem FitR.w : ∀ {s : List Shp} {c : List Cell}, FitR s c → ∀ {m N : Nat}, mxSs s ≤ m → szCs c ≤ N → wtCs c ≤ m * N
  | [], c, h, m, N, hm, hz => by simp only [FitR] at h; subst h; simp [wtCs]
  | s :: ss, c, h, m, N, hm, hz => by
    simp only [FitR] at h
    obtain ⟨a, r, rfl, h1, h2⟩ := h
    simp only [mxSs] at hm; simp only [szCs] at hz
    have q1 := h1.w (m := m) (N := szC a) (by omega) (Nat.le_refl _)
    have q2 := FitR.w h2 (m := m) (N := szCs r) (by omega) (Nat.le_refl _)
    have q3 : m * (szC a + szCs r) ≤ m * N := Nat.mul_le_mul_left _ hz
    rw [Nat.mul_add] at q3
    simp only [wtCs]; omega
end Go.AH
namespace Go.AH
/-! From what a row is handed to cells -/
def matF (P : Program) (f : TypeId → List Shp → Bool) : List Field → List Shp → Bool
  | [], ss => ss.isEmpty
  | x :: r, ss => decide (P.cellsOf x.type ≤ ss.length) && f x.type (ss.take (P.cellsOf x.type)) && matF P f r (ss.drop (P.cellsOf x.type))
/-- A type has a shape. -/
def matT (P : Program) : Nat → TypeId → List Shp → Bool
  | 0, _, _ => false
  | d + 1, t, ss => match P.underlying t with
    | some .bool => match ss with
      | [.b] => true
      | _ => false
    | some (.int k) => match ss with
      | [.i k'] => decide (k = k')
      | _ => false
    | some .string => match ss with
      | [.str] => true
      | _ => false
    | some (.slice e) => match ss with
      | [.sl _ row] => decide (1 ≤ P.bytesOf e) && (!aggT P e || decide (row.length ≠ 1)) && matT P d e row
      | _ => false
    | some (.struct fs) => matF P (matT P d) fs.toList ss
    | _ => false
theorem hasR_append : ∀ {a b : List Shp} {x y : List Cell}, HasR a x → HasR b y → HasR (a ++ b) (x ++ y)
  | [], b, x, y, h, k => by simp only [HasR] at h; subst h; exact k
  | s :: a, b, x, y, h, k => by
    simp only [HasR] at h
    obtain ⟨c, r, rfl, h1, h2⟩ := h
    exact ⟨c, r ++ y, rfl, h1, hasR_append h2 k⟩
theorem lnCs_append : ∀ (x y : List Cell), lnCs (x ++ y) = (lnCs x && lnCs y)
  | [], y => by simp [lnCs]
  | c :: x, y => by simp only [List.cons_append, lnCs, lnCs_append x y, Bool.and_assoc]
theorem mat_ok (P : Program) : ∀ (d : Nat) (t : TypeId) (ts : List TV) (ss : List Shp), ShT P d t ts → matT P d t ss = true → ∃ cs, HasR ss cs ∧ ts = fzCs cs ∧ lnCs cs = true
  | 0, _, _, _, h, _ => by cases h
  | d + 1, t, ts, ss, h, m => by
    simp only [ShT] at h
    simp only [matT] at m
    split at h
    · rename_i hu; simp only [hu] at m
      split at m <;> first | (cases m; done) | skip
      obtain ⟨b, rfl⟩ := h
      exact ⟨[.v (.bool b)], ⟨_, _, rfl, ⟨b, rfl⟩, rfl⟩, rfl, rfl⟩
    · rename_i k hu; simp only [hu] at m
      split at m <;> first | (cases m; done) | skip
      obtain ⟨n, rfl, hwf⟩ := h
      simp only [decide_eq_true_eq] at m; subst m
      exact ⟨[.v (.int _ n)], ⟨_, _, rfl, ⟨n, rfl, fun hk => by subst hk; simp only [Lit.wf, Bool.and_eq_true, decide_eq_true_eq] at hwf; have e1 : IntKind.u8.min = 0 := rfl; have e2 : IntKind.u8.max = 255 := rfl; omega⟩, rfl⟩, rfl, rfl⟩
    · rename_i hu; simp only [hu] at m
      split at m <;> first | (cases m; done) | skip
      obtain ⟨s, rfl, _⟩ := h
      exact ⟨[.v (.string s)], ⟨_, _, rfl, ⟨s, rfl⟩, rfl⟩, rfl, rfl⟩
    · rename_i e he; simp only [he] at m
      split at m <;> first | (cases m; done) | skip
      rename_i e' row
      obtain ⟨es, rfl, h1, h2, h3⟩ := h
      simp only [Bool.and_eq_true, decide_eq_true_eq, Bool.or_eq_true, Bool.not_eq_true'] at m
      obtain ⟨⟨m1, m2⟩, m3⟩ := m
      have key : ∀ (l : List TV), (∀ x ∈ l, ∃ cs, x = elOf P e cs ∧ ShT P d e cs) → ∃ rows, (∀ r ∈ rows, HasR row r) ∧ l = fzRs rows ∧ lnRs rows = true := by
        intro l
        induction l with
        | nil => intro _; exact ⟨[], by simp, rfl, rfl⟩
        | cons x l ih =>
          intro hl
          obtain ⟨cs, rfl, hc⟩ := hl x (by simp)
          obtain ⟨rows, q1, q2, q3⟩ := ih fun y hy => hl y (List.mem_cons_of_mem _ hy)
          obtain ⟨r, p1, rfl, p3⟩ := mat_ok P d e cs row hc m3
          refine ⟨r :: rows, ?_, ?_, ?_⟩
          · intro y hy
            rcases List.mem_cons.1 hy with rfl | hy
            · exact p1
            · exact q1 y hy
          · rw [q2, fzRs]
            congr 1
            unfold elOf
            split
            · rename_i ha
              have hlen : row.length ≠ 1 := by rcases m2 with m2 | m2; (rw [ha] at m2; cases m2); exact m2
              have hl2 : (fzCs r).length = row.length := by rw [fzCs_len, p1.len]
              match h : fzCs r with
              | [] => rfl
              | [a] => rw [h] at hl2; exact absurd hl2.symm hlen
              | a :: b :: l => rfl
            · rfl
          · simp only [lnRs, p3, q3, Bool.and_self]
      obtain ⟨rows, q1, q2, q3⟩ := key es h3
      refine ⟨[.sl e' row.length rows], ⟨_, _, rfl, ⟨rows, rfl, q1⟩, rfl⟩, by rw [q2]; rfl, ?_⟩
      simp only [lnCs, lnC, Bool.and_true, Bool.and_eq_true, decide_eq_true_eq]
      refine ⟨?_, q3⟩
      have : es.length = rows.length := by rw [q2, fzRs_len]
      rw [← this]
      have : es.length * 1 ≤ es.length * P.bytesOf e := Nat.mul_le_mul_left _ m1
      omega
    · rename_i fs hu; simp only [hu] at m
      have key : ∀ (fl : List Field) (ts : List TV) (ss : List Shp), ShF (ShT P d) fl ts → matF P (matT P d) fl ss = true → ∃ cs, HasR ss cs ∧ ts = fzCs cs ∧ lnCs cs = true := by
        intro fl
        induction fl with
        | nil =>
          intro ts ss h m
          simp only [ShF] at h
          simp only [matF, List.isEmpty_iff] at m
          subst h; subst m
          exact ⟨[], rfl, rfl, rfl⟩
        | cons f fl ih =>
          intro ts ss h m
          simp only [ShF] at h
          simp only [matF, Bool.and_eq_true, decide_eq_true_eq] at m
          obtain ⟨a, b, rfl, h1, h2⟩ := h
          obtain ⟨⟨m1, m2⟩, m3⟩ := m
          obtain ⟨c1, p1, rfl, p3⟩ := mat_ok P d f.type a _ h1 m2
          obtain ⟨c2, q1, rfl, q3⟩ := ih b _ h2 m3
          refine ⟨c1 ++ c2, ?_, (fzCs_app c1 c2).symm, by rw [lnCs_append, p3, q3]; rfl⟩
          have := hasR_append p1 q1
          rwa [List.take_append_drop] at this
      exact key fs.toList ts ss h m
    · cases h
theorem mat_slice {P : Program} {t : TypeId} {ts : List TV} {s : Shp} (h : ShT P 9 t ts) (m : matT P 9 t [s] = true) (ha : aggT P t = false) : ∃ c, HasC s c ∧ valT P t ts = fzC c ∧ lnC c = true := by
  obtain ⟨cs, h1, rfl, h3⟩ := mat_ok P 9 t ts [s] h m
  obtain ⟨c, r, rfl, h4, h5⟩ := h1
  simp only [HasR] at h5; subst h5
  refine ⟨c, h4, ?_, by simpa [lnCs] using h3⟩
  unfold valT
  rw [if_neg (by rw [ha]; decide)]
  rfl
theorem mat_struct {P : Program} {t : TypeId} {ts : List TV} {s : List Shp} (h : ShT P 9 t ts) (m : matT P 9 t s = true) (ha : aggT P t = true) : ∃ c, HasR s c ∧ valT P t ts = .agg (fzCs c) ∧ lnCs c = true := by
  obtain ⟨cs, h1, rfl, h3⟩ := mat_ok P 9 t ts s h m
  refine ⟨cs, h1, ?_, h3⟩
  unfold valT
  rw [if_pos ha]
theorem mat_int {P : Program} {t : TypeId} {ts : List TV} (h : ShT P 9 t ts) (m : matT P 9 t [.i .i64] = true) (ha : aggT P t = false) : ∃ n, valT P t ts = .p (.int .i64 n) := by
  obtain ⟨c, h1, h2, _⟩ := mat_slice h m ha
  simp only [HasC] at h1
  obtain ⟨n, rfl, _⟩ := h1
  exact ⟨n, h2⟩
/-- Flat rows, of a type of one's own. -/
theorem rows_typed {α : Type} {S : List Shp} (g : α → List Cell) (h : ∀ r, HasR S r → ∃ x, r = g x) : ∀ {rows : List (List Cell)}, (∀ r ∈ rows, HasR S r) → ∃ l : List α, rows = l.map g
  | [], _ => ⟨[], rfl⟩
  | r :: rows, hr => by
    obtain ⟨x, rfl⟩ := h r (hr r (by simp))
    obtain ⟨l, rfl⟩ := rows_typed g h (rows := rows) fun y hy => hr y (List.mem_cons_of_mem _ hy)
    exact ⟨x :: l, rfl⟩
theorem fzRs_map {α : Type} (g : α → List Cell) : ∀ l : List α, fzRs (l.map g) = l.map fun x => el (fzCs (g x))
  | [] => rfl
  | x :: l => by simp only [List.map_cons, fzRs, fzRs_map g l]
end Go.AH
namespace Go.AH
/-! A row more behind rows, in a new block; what lies between is let go -/
/-! Two lists of rows, put together in a new block -/
attribute [go_sem] tw64 twu8
attribute [go_sem ↓] condKT_pos condKT_neg gdKT_pt gdKT_nt gdKT_pf gdKT_nf
end Go.AH
namespace Go.AH
open Go.RowKit (Below)
/-! A callee whose arguments stay as they are: nothing of the caller's own may be handed in -/
section
variable {Φ : Frz} {φ : Own}
mutual
theorem fz_noOwn : ∀ (t : TV) {v : Value}, VT φ Φ t v → noOwn t = true → VF Φ t v
  | .p x, v, h, _ => by cases h with | fz h => exact h
  | .nl, v, h, _ => by cases h with | fz h => exact h
  | .s es, v, h, _ => by cases h with | fz h => exact h
  | .fe e o, v, h, _ => by cases h with | fz h => exact h
  | .any, v, h, _ => .any _
  | .ub, v, h, _ => by cases h with | fz h => exact h
  | .agg cs, v, h, k => by
    simp only [noOwn] at k
    cases h with
    | fz h => exact h
    | agg h => exact .agg (fz_noOwns cs h k)
  | .tup cs, v, h, k => by
    simp only [noOwn] at k
    cases h with
    | fz h => exact h
    | tup h => exact .tup (fz_noOwns cs h k)
  | .fn f cs, v, h, k => by
    simp only [noOwn] at k
    cases h with
    | fz h => exact h
    | fn h => exact .fn (fz_noOwns cs h k)
  | .os b o m, v, h, k => by simp [noOwn] at k
  | .op b i o, v, h, k => by simp [noOwn] at k
theorem fz_noOwns : ∀ (ts : List TV) {vs : List Value}, VTs φ Φ ts vs → noOwns ts = true → VFs Φ ts vs
  | [], _, h, _ => by cases h; exact .nil
  | t :: ts, _, h, k => by
    simp only [noOwns, Bool.and_eq_true] at k
    cases h with | cons a b => exact .cons (fz_noOwn t a k.1) (fz_noOwns ts b k.2)
end
end
def keepSp (F : List TV → Option (TV × THeap)) : TSp := ⟨fun _ args h => if noOwns args = true then (F args).map fun r => (renT (fun b => b + h.length) r.1, h ++ r.2.map (renB fun b => b + h.length)) else none, fun _ _ _ _ => False, fun _ _ _ => False⟩
theorem okT_keep {P : Program} {ΓT : TCtx} {f : Nat} {fn : Func} {af : AF} (hΓ : OkΓT P ΓT) (hf : P.funcs[f]? = some fn) (hcall : callable P f = true) (hc : cFn P fn = some af) {F : List TV → Option (TV × THeap)}
    (H : ∀ args r hL, F args = some (r, hL) → awpT 0 ΓT af.code (EndT af.res r hL) ⟨argσT args, []⟩) : OkT P f (keepSp F) := by
  obtain ⟨spA, ok, run⟩ := pure_run hΓ hf hcall hc H
  refine ⟨spA, ok, ?_, fun _ _ _ _ _ _ _ _ _ _ _ _ _ h => h.elim, fun _ _ _ _ _ _ _ _ _ _ _ _ h => h.elim⟩
  intro φ Φ hT hA lo tlo targs args tv hT' HH hlow hlo hv hs
  simp only [keepSp] at hs
  split at hs
  · rename_i hno
    obtain ⟨⟨r, hL⟩, hF, hs⟩ := Option.map_eq_some_iff.1 hs
    cases hs
    obtain ⟨v, hA', φL, h1, h2, h3, h4, h5, h6⟩ := run Φ hA lo _ args r hL HH.frz hlo (fz_noOwns _ hv hno) hF
    rw [h1]
    exact join_ok HH h3 h2 h4 h5 h6
  · cases hs
theorem okT_kp {P : Program} {ΓT : TCtx} {f : Nat} {fn : Func} {af : AF} (hΓ : OkΓT P ΓT) (hf : P.funcs[f]? = some fn) (hcall : callable P f = true) (hc : cFn P fn = some af) {α : Type} {enc : α → List TV} {Pre : α → Prop} {R : α → TV × THeap}
    (H : ∀ x, Pre x → awpT 0 ΓT af.code (EndT af.res (R x).1 (R x).2) ⟨argσT (enc x), []⟩) : OkT P f (keepSp (specP enc Pre R)) := by
  refine okT_keep hΓ hf hcall hc fun args r hL h => ?_
  unfold specP at h
  split at h
  · rename_i hx
    have hs := Classical.choose_spec hx
    have hh := H _ hs.2
    rw [← hs.1] at hh
    have h := Option.some.inj h
    rw [h] at hh
    exact hh
  · cases h
attribute [go_sem] keepSp
end Go.AH
namespace Go.AH
/-! Shorter words for runs -/
theorem condKT_deq {c : Prop} [Decidable c] {p q : Prop} (hp : c → c = True → p) (hq : ¬ c → c = False → q) : condKT (.p (.bool (decide c))) p q := condKT_dec (fun h => hp h (eq_true h)) (fun h => hq h (eq_false h))
theorem gdKT_deq {c : Prop} [Decidable c] {b : Bool} {p q : Prop} (hp : c → c = True → gdKT (.p (.bool true)) b p q) (hq : ¬ c → c = False → gdKT (.p (.bool false)) b p q) : gdKT (.p (.bool (decide c))) b p q := gdKT_dec (fun h => hp h (eq_true h)) (fun h => hq h (eq_false h))
/-! Statements of open order with reads that calls beside them leave alone -/
def frKT (b : Bool) (p : Prop) : Prop := b = true ∧ p
theorem frKT_true (p : Prop) : frKT true p = p := by simp [frKT]
theorem frKT_cong {b : Bool} {b' : Unit → Bool} {p : Prop} (h : ∀ u, tag b = b' u) : frKT b p = frKT (b' ()) p := by rw [← h]; rfl
section
variable {k : Nat} {Γ : TCtx} {σ : Nat → TV} {h : THeap} {K : TSt → Prop} {Q : Exit → TSt → Prop} {r fr : List AO}
theorem awpT_drf (fr ops tail : List AO) : awpT k Γ (.drf fr ops tail) Q ⟨σ, h⟩ = qopsT Γ ops (ropsTF Γ fr tail (Q .normal)) ⟨σ, h⟩ := rfl
theorem seqKT_drf (f l m : List AO) (b : AC) : seqKT k Γ (isBlk (.drf f l m)) b Q .normal ⟨σ, h⟩ = awpT k Γ b Q ⟨σ, h⟩ := by simp [seqKT, isBlk]
theorem seqKT_b7 (id : Nat) (f l m : List AO) (b : AC) : seqKT k Γ (isBlk (.block id (.drf f l m))) b Q .normal ⟨σ, h⟩ = awpT k Γ b Q ⟨σ, h⟩ := by simp [seqKT, isBlk]
theorem ropsTF_nil : ropsTF Γ fr [] K ⟨σ, h⟩ = K ⟨σ, h⟩ := rfl
theorem ropsTF_op (d : Nat) (p : AOp) : ropsTF Γ fr (⟨some d, none, p⟩ :: r) K ⟨σ, h⟩ = frKT (frOk σ fr) (kont (top Γ (prot fr σ) (evT σ) h p) (fun x => ropsTF Γ fr r K ⟨putT σ d x.1, x.2⟩)) := by
  simp only [ropsTF, stepT, putTO, frKT]; cases top Γ (prot fr σ) (evT σ) h p <;> rfl
theorem ropsTF_op0 (p : AOp) : ropsTF Γ fr (⟨none, none, p⟩ :: r) K ⟨σ, h⟩ = frKT (frOk σ fr) (kont (top Γ (prot fr σ) (evT σ) h p) (fun x => ropsTF Γ fr r K ⟨σ, x.2⟩)) := by
  simp only [ropsTF, stepT, putTO, frKT]; cases top Γ (prot fr σ) (evT σ) h p <;> rfl
theorem ropsTF_cong {ops : List AO} {s : TSt} {s' : Unit → TSt} (h : ∀ u, tag s = s' u) : ropsTF Γ fr ops K s = ropsTF Γ fr ops K (s' ()) := by rw [← h]; rfl
end
attribute [go_sem] frKT_true awpT_drf seqKT_drf seqKT_b7 ropsTF_nil ropsTF_op ropsTF_op0 frOk frB rdX prot
attribute [congr] frKT_cong ropsTF_cong
def rO (d : Nat) (o : AOp) : AO := ⟨some d, none, o⟩
attribute [go_sem] if_pos if_neg
/-! Answers whose parts lie apart -/
end Go.AH
namespace Go.AH
/-! Maps to true: words for going through -/
theorem getMT_fn (b : Nat) : getMT (.fn setF [.op b 0 0]) = some b := by simp [getMT]
def keysB : Option TB → Option (List (List Int))
  | some (.cells e 0 []) => setK e
  | _ => none
theorem keysT_at (h : THeap) (b : Nat) : keysT h b = keysB (h[b]?) := by
  unfold keysT
  cases h[b]? with
  | none => rfl
  | some x =>
    cases x with
    | dead => rfl
    | cells e z es => cases z <;> cases es <;> rfl
theorem keysB_set (K : List (List Int)) : keysB (some (.cells (setT K) 0 [])) = some K := by simp only [keysB, setK_T]
theorem m64_nil : ([] : List TV).mapM i64T = some [] := rfl
theorem m64_cons (n : Int) (ts : List TV) : (TV.p (.int .i64 n) :: ts).mapM i64T = (ts.mapM i64T).map (fun l => n :: l) := by
  rw [List.mapM_cons]; simp only [i64T]; cases ts.mapM i64T <;> rfl
theorem keyT_int (n : Int) : keyT (.p (.int .i64 n)) = some [n] := rfl
theorem keyT_agg (cs : List TV) : keyT (.agg cs) = if 2 ≤ cs.length then cs.mapM i64T else none := rfl
attribute [go_sem] getMT_fn keysT_at keysB_set m64_nil m64_cons keyT_int keyT_agg
/-! A callee told by what it has at its end, whatever its blocks are -/
/-! Steps whose rewriting is found by itself: the facts stand in the context -/
theorem tS {p q : Prop} (hq : q) (h : p = q := by conv => lhs; simp (maxSteps := 8000000) -implicitDefEqProofs (disch := omega) only [↓reduceIte, go_sem, *]) : p := h.mpr hq
theorem leA {s : TSt} {l : List (Nat × TV)} {h0 : THeap} (ks : List Nat) (hs : slotsOk s.σ (rho ks s.h.length) l := by simp (maxSteps := 8000000) -implicitDefEqProofs (disch := omega) only [↓reduceIte, go_sem, *]) (hb : blksOk s.h (rho ks s.h.length) ks h0 := by simp (maxSteps := 8000000) -implicitDefEqProofs (disch := omega) only [↓reduceIte, go_sem, *]) (hnd : ks.Nodup := by decide) (hlt : ∀ x ∈ ks, x < s.h.length := by simp) : Le 0 s ⟨slots l, h0⟩ := le_of ks hs hb hnd hlt
theorem eV {res : List AR} {r : TV} {e : Exit} {s : TSt} (he : e = .normal ∨ e = .ret := by first | exact .inr rfl | exact .inl rfl) (hr : rresT s res = some r := by (simp (maxSteps := 8000000) -implicitDefEqProofs (disch := omega) only [↓reduceIte, go_sem, *]) <;> rfl) (hv : ∀ ρ, renT ρ r = r := by exact fun _ => rfl) : EndT res r [] e s := endT_v he hr hv
theorem eP {res : List AR} {v w : Value} {e : Exit} {s : TSt} (he : e = .normal ∨ e = .ret := by first | exact .inr rfl | exact .inl rfl) (hr : rresT s res = some (.p v) := by simp (maxSteps := 8000000) -implicitDefEqProofs (disch := omega) only [↓reduceIte, go_sem, *]; rfl) (hv : v = w := by first | exact vb_true (by omega) | exact vb_false (by omega) | exact vb_dec (by omega) | exact vi_eq (by omega) | rfl) : EndT res (.p w) [] e s := endT_p he hr hv
theorem eO {res : List AR} {r tv : TV} {hL : THeap} {e : Exit} {s : TSt} (ks : List Nat) (he : e = .normal ∨ e = .ret := by first | exact .inr rfl | exact .inl rfl) (hr : rresT s res = some tv := by simp (maxSteps := 8000000) -implicitDefEqProofs (disch := omega) only [↓reduceIte, go_sem, *]; rfl) (hv : tv = renT (rho ks s.h.length) r := by simp (maxSteps := 8000000) -implicitDefEqProofs (disch := omega) only [↓reduceIte, go_sem, *]) (hb : blksOk s.h (rho ks s.h.length) ks hL := by simp (maxSteps := 8000000) -implicitDefEqProofs (disch := omega) only [↓reduceIte, go_sem, *]) (hnd : ks.Nodup := by decide) (hlt : ∀ x ∈ ks, x < s.h.length := by simp) : EndT res r hL e s := endT_of ks he hr hv hb hnd hlt
theorem lN {α : Type} {k : Nat} {Q : Exit → TSt → Prop} {s : TSt} {I : α → TSt} {P : α → Prop} {m : α → Nat} {n : Nat} (y : α) (hl : Le k s (I y)) (hp : P y := by first | omega | exact ⟨by omega, rfl⟩) (hm : m y < n := by omega) : loopKT k (roundR I P m) n Q .normal s := loopKT_next y hp hm hl
theorem cD {c : Prop} [Decidable c] {p q : Prop} (hp : c → p) (hq : ¬ c → q) : condKT (.p (.bool (decide c))) p q := condKT_dec hp hq
theorem gD {c : Prop} [Decidable c] {b : Bool} {p q : Prop} (hp : c → gdKT (.p (.bool true)) b p q) (hq : ¬ c → gdKT (.p (.bool false)) b p q) : gdKT (.p (.bool (decide c))) b p q := gdKT_dec hp hq
theorem cB {b : Bool} {p q : Prop} (hp : b = true → p) (hq : b = false → q) : condKT (.p (.bool b)) p q := condKT_split hp hq
theorem gB {c b : Bool} {p q : Prop} (hp : c = true → gdKT (.p (.bool true)) b p q) (hq : c = false → gdKT (.p (.bool false)) b p q) : gdKT (.p (.bool c)) b p q := gdKT_split hp hq
theorem eN {res : List AR} {r tv : TV} {hL : THeap} {e : Exit} {s : TSt} (E : THeap) (ks : List Nat) (hn : NlTo tv (renT (rho ks (s.h ++ E).length) r)) (hr : rresT s res = some tv := by simp (maxSteps := 8000000) -implicitDefEqProofs (disch := omega) only [↓reduceIte, go_sem, *]; rfl) (he : e = .normal ∨ e = .ret := by first | exact .inr rfl | exact .inl rfl) (hE : ∀ x ∈ E, ∃ ty z, x = TB.cells ty z [] := by simp) (hb : blksOk (s.h ++ E) (rho ks (s.h ++ E).length) ks hL := by simp (maxSteps := 8000000) -implicitDefEqProofs (disch := omega) only [↓reduceIte, go_sem, *]) (hnd : ks.Nodup := by decide) (hlt : ∀ x ∈ ks, x < (s.h ++ E).length := by simp) : EndT res r hL e s := endT_nls E ks he hr rfl hn hE hb hnd hlt
end Go.AH
