import Derived.Test.YtngebdcbcliobaaT7
set_option linter.unusedVariables false
namespace Go.AH

def rres1T (s : TSt) : AR → Option TV
  | .t i => some (s.σ i)
  | .cell a n => (elT s.h (s.σ a)).bind fun p => match n with
    | none => (cellsT p.1)[p.2]?
    | some n => elAt p.1 p.2 n
def rresLT (s : TSt) : List AR → Option (List TV)
  | [] => some []
  | a :: r => (rres1T s a).bind fun v => (rresLT s r).map fun vs => v :: vs
def rresT (s : TSt) (l : List AR) : Option TV :=
  (rresLT s l).map fun
    | [v] => v
    | vs => .tup vs

mutual
def frzW (hop : TV → TV) : TV → TV
  | .agg cs => .agg (frzWs hop cs)
  | .tup cs => .tup (frzWs hop cs)
  | .fn f cs => .fn f (frzWs hop cs)
  | .os b o m => hop (.os b o m)
  | .op b i o => hop (.op b i o)
  | .nl => .s []
  | .p v => .p v
  | .s es => .s es
  | .fe e o => .fe e o
  | .any => .any
  | .ub => .ub
def frzWs (hop : TV → TV) : List TV → List TV
  | [] => []
  | t :: ts => frzW hop t :: frzWs hop ts
end
def hopT (h : THeap) (f : TV → TV) : TV → TV
  | .os b o m => match h[b]? with
    | some (.cells _ _ es) => if o + m ≤ es.length then .s (((es.drop o).take m).map f) else .any
    | _ => .any
  | .op b i o => match h[b]? with
    | some (.cells _ _ es) => match es[i]? with
      | some e => .fe (f e) o
      | none => .any
    | _ => .any
  | _ => .any
/-- A value as what it holds, for a callee that only reads. -/
def frzT (h : THeap) : Nat → TV → TV
  | 0 => frzW fun _ => .any
  | n + 1 => frzW (hopT h (frzT h n))
mutual
/-- Without a part that is another's. -/
def ownT : TV → Bool
  | .agg cs => ownTs cs
  | .tup cs => ownTs cs
  | .fn _ cs => ownTs cs
  | .s _ => false
  | .fe _ _ => false
  | _ => true
def ownTs : List TV → Bool
  | [] => true
  | t :: ts => ownT t && ownTs ts
end
mutual
/-- Without a part in a block of the run's own. -/
def noOwn : TV → Bool
  | .agg cs => noOwns cs
  | .tup cs => noOwns cs
  | .fn _ cs => noOwns cs
  | .os _ _ _ => false
  | .op _ _ _ => false
  | _ => true
def noOwns : List TV → Bool
  | [] => true
  | t :: ts => noOwn t && noOwns ts
end
def ownB : TB → Bool
  | .cells _ _ es => ownTs es
  | .dead => true
def renB (ρ : Nat → Nat) : TB → TB
  | .cells e z es => .cells e z (renTs ρ es)
  | .dead => .dead
def shift (n : Nat) (r : TV × THeap) : TV × List TB := (renT (fun b => b + n) r.1, r.2.map (renB fun b => b + n))

section
variable {Φ Φ' : Frz} {φ φ' φL : Own} {hT hL : THeap} {hA hA' : Heap} {k lo tlo : Nat} {φe : Own} {hA0 : Heap}

theorem rres1T_ok {s : TSt} {sA : St} (R : RelT Φ k φe hA0 lo s sA φ) {a : AR} {t : TV} (h : rres1T s a = some t) : ∃ v, rres1 sA a = some v ∧ VT φ Φ t v := by
  cases a with
  | t i => simp only [rres1T] at h; cases h; exact ⟨_, rfl, R.slots i⟩
  | cell a n =>
    simp only [rres1T] at h
    obtain ⟨⟨e, o⟩, h1, h⟩ := Option.bind_eq_some_iff.1 h
    obtain ⟨b, base, ty, cs, k1, k2, k3, k4⟩ := elT_ok R.heap (R.slots a) h1
    cases n with
    | none =>
      dsimp only at h
      obtain ⟨v, hv, r⟩ := k4.get o _ h
      have ho := (List.getElem?_eq_some_iff.1 h).1
      rw [List.getElem?_take_of_lt ho, List.getElem?_drop] at hv
      exact ⟨v, by simp only [rres1, k1, k2, hv], r⟩
    | some n =>
      dsimp only at h
      obtain ⟨h3, h4⟩ := elAt_ok k4 h
      have e1 : (((cs.drop base).take (cellsT e).length).drop o).take n = (cs.drop (base + o)).take n := by
        rw [List.drop_take, List.drop_drop, List.take_take]; congr 1; omega
      rw [e1] at h3
      exact ⟨_, by simp only [rres1, k1, k2]; rw [if_pos (by omega)], h3⟩
theorem rresLT_ok {s : TSt} {sA : St} (R : RelT Φ k φe hA0 lo s sA φ) : ∀ {l : List AR} {ts : List TV}, rresLT s l = some ts → ∃ vs, rresL sA l = some vs ∧ VTs φ Φ ts vs
  | [], ts, h => by cases h; exact ⟨[], rfl, .nil⟩
  | a :: l, ts, h => by
    simp only [rresLT] at h
    obtain ⟨t, h1, h⟩ := Option.bind_eq_some_iff.1 h
    obtain ⟨ts', h2, rfl⟩ := Option.map_eq_some_iff.1 h
    obtain ⟨v, k1, k2⟩ := rres1T_ok R h1
    obtain ⟨vs, k3, k4⟩ := rresLT_ok R h2
    exact ⟨v :: vs, by simp only [rresL, k1, k3, Option.bind_some, Option.map_some], .cons k2 k4⟩
theorem rresT_ok {s : TSt} {sA : St} (R : RelT Φ k φe hA0 lo s sA φ) {l : List AR} {t : TV} (h : rresT s l = some t) : ∃ v, rres sA l = some v ∧ VT φ Φ t v := by
  unfold rresT at h
  obtain ⟨ts, h1, h2⟩ := Option.map_eq_some_iff.1 h
  obtain ⟨vs, k1, k2⟩ := rresLT_ok R h1
  simp only [rres, k1, Option.map_some]
  subst h2
  cases k2 with
  | nil => exact ⟨_, rfl, .tup .nil⟩
  | cons a b =>
    cases b with
    | nil => exact ⟨_, rfl, a⟩
    | cons c d => exact ⟨_, rfl, .tup (.cons a (.cons c d))⟩

theorem VFs.map' {α : Type} (l : List α) (f : α → TV) (g : α → Value) (h : ∀ x ∈ l, VF Φ (f x) (g x)) : VFs Φ (l.map f) (l.map g) := by
  induction l with
  | nil => exact .nil
  | cons a l ih => exact .cons (h _ (by simp)) (ih fun x hx => h x (by simp [hx]))
theorem frz_list (f : TV → TV) (h : ∀ t v, VT φ Φ t v → VF Φ' (f t) v) : ∀ {ts : List TV} {vs : List Value}, VTs φ Φ ts vs → VFs Φ' (ts.map f) vs
  | [], _, k => by cases k; exact .nil
  | _ :: _, _, k => by cases k with | cons a b => exact .cons (h _ _ a) (frz_list f h b)
theorem frzWs_map (hop : TV → TV) (l : List TV) : frzWs hop l = l.map (frzW hop) := by
  induction l with
  | nil => rfl
  | cons x l ih => simp [frzWs, ih]
theorem hop_one (h : THeap) (f : TV → TV) (t : TV) : cellsT (hopT h f t) = [hopT h f t] := by
  unfold hopT
  split
  · split
    · split <;> rfl
    · rfl
  · split
    · split <;> rfl
    · rfl
  · rfl
theorem frzW_cells {hop : TV → TV} (hh : ∀ t, cellsT (hop t) = [hop t]) (e : TV) : cellsT (frzW hop e) = (cellsT e).map (frzW hop) := by
  cases e with
  | agg cs => simp only [frzW, cellsT, frzWs_map]
  | os b o m => simp only [frzW, hh]; rfl
  | op b i o => simp only [frzW, hh]; rfl
  | _ => rfl
theorem frzT_eq (h : THeap) (n : Nat) : ∃ hop, frzT h n = frzW hop ∧ ∀ t, cellsT (hop t) = [hop t] := by
  cases n with
  | zero => exact ⟨_, rfl, fun _ => rfl⟩
  | succ n => exact ⟨_, rfl, hop_one h _⟩
theorem frz_cells (h : THeap) (n : Nat) (e : TV) : cellsT (frzT h n e) = (cellsT e).map (frzT h n) := by
  obtain ⟨hop, h1, h2⟩ := frzT_eq h n
  rw [h1]; exact frzW_cells h2 e
theorem frz_flat (h : THeap) (n : Nat) (es : List TV) : flatT (es.map (frzT h n)) = (flatT es).map (frzT h n) := by
  induction es with
  | nil => rfl
  | cons e es ih => simp only [List.map_cons, flat_cons, ih, frz_cells, List.map_append]
theorem frz_sized (h : THeap) (n z : Nat) (es : List TV) : sizedT z (es.map (frzT h n)) = sizedT z es := by
  simp only [sizedT, List.all_map]
  congr 1; funext e
  simp only [Function.comp, frz_cells, List.length_map]
mutual
theorem frzW_ok (mono : ∀ c cs, Φ c = some cs → Φ' c = some cs) (hop : TV → TV) (hh : ∀ t v, VT φ Φ t v → VF Φ' (hop t) v) : ∀ (t : TV) {v : Value}, VT φ Φ t v → VF Φ' (frzW hop t) v
  | .nl, v, h => by simp only [frzW]; cases h with | fz h => cases h with | nl0 => exact .s0 | nl1 => exact .s1 _ _ _ _
  | .p x, v, h => by simp only [frzW]; cases h with | fz h => exact h.mono mono
  | .s es, v, h => by simp only [frzW]; cases h with | fz h => exact h.mono mono
  | .fe e o, v, h => by simp only [frzW]; cases h with | fz h => exact h.mono mono
  | .any, v, h => by simp only [frzW]; exact .any _
  | .ub, v, h => by simp only [frzW]; cases h with | fz h => exact h.mono mono
  | .agg cs, v, h => by
    simp only [frzW]
    cases h with
    | fz h => cases h with | agg h => exact .agg (frzWs_ok mono hop hh cs (VTs.fz h))
    | agg h => exact .agg (frzWs_ok mono hop hh cs h)
  | .tup cs, v, h => by
    simp only [frzW]
    cases h with
    | fz h => cases h with | tup h => exact .tup (frzWs_ok mono hop hh cs (VTs.fz h))
    | tup h => exact .tup (frzWs_ok mono hop hh cs h)
  | .fn f cs, v, h => by
    simp only [frzW]
    cases h with
    | fz h => cases h with | fn h => exact .fn (frzWs_ok mono hop hh cs (VTs.fz h))
    | fn h => exact .fn (frzWs_ok mono hop hh cs h)
  | .os b o m, v, h => by simp only [frzW]; exact hh _ _ h
  | .op b i o, v, h => by simp only [frzW]; exact hh _ _ h
theorem frzWs_ok (mono : ∀ c cs, Φ c = some cs → Φ' c = some cs) (hop : TV → TV) (hh : ∀ t v, VT φ Φ t v → VF Φ' (hop t) v) : ∀ (ts : List TV) {vs : List Value}, VTs φ Φ ts vs → VFs Φ' (frzWs hop ts) vs
  | [], _, h => by cases h; exact .nil
  | t :: ts, _, h => by cases h with | cons a b => exact .cons (frzW_ok mono hop hh t a) (frzWs_ok mono hop hh ts b)
end
theorem frz_ok (H : HT φ Φ hT hA) (hΦ : ∀ c e cs, hA[c]? = some (.cells e cs) → Φ' c = some cs) : ∀ (n : Nat) (t : TV) (v : Value), VT φ Φ t v → VF Φ' (frzT hT n t) v
  | 0, t, v, h => frzW_ok (fun c cs h => by obtain ⟨e, he⟩ := H.frz c cs h; exact hΦ c e cs he) _ (fun _ _ _ => .any _) t h
  | n + 1, t, v, h => by
    refine frzW_ok (fun c cs h => by obtain ⟨e, he⟩ := H.frz c cs h; exact hΦ c e cs he) _ ?_ t h
    intro t v h
    have ih := frz_ok H hΦ n
    unfold hopT
    split
    · rename_i b o m
      split
      · rename_i e z es hb
        split
        · rename_i hle
          cases h with
          | fz h => cases h
          | on0 => simpa using VF.s0
          | on1 b o x y s c => simpa using VF.s1 x y s c
          | os h1 =>
            rename_i c z1 cap
            rcases H.live b _ _ es hb with ⟨k1, _⟩ | ⟨c', cs, k1, k2, k3, k4⟩
            · rw [h1] at k1; cases k1
            · rw [h1] at k1; cases k1
              have hl := k4.length
              rw [flatT_len k3] at hl
              have hlen : (((es.drop o).take m).map (frzT hT n)).length = m := by simp; omega
              have hoz : o * z + m * z ≤ es.length * z := by rw [← Nat.add_mul]; exact Nat.mul_le_mul_right _ hle
              have hv : VTs φ Φ (flatT ((es.drop o).take m)) ((cs.drop (o * z)).take (m * z)) := by
                rw [flat_take (sized_drop k3 o), flat_drop k3 o]; exact (k4.drop _).take _
              have := VF.s (Φ := Φ') (es := ((es.drop o).take m).map (frzT hT n)) (off := o * z) (cap := cap) (z := z) (hΦ _ _ _ k2) (by rw [hlen]; omega)
                (by rw [frz_sized]; exact sized_take (sized_drop k3 _) _) (by rw [hlen, frz_flat]; exact frz_list _ ih hv)
              rw [hlen] at this; exact this
        · exact .any _
      · exact .any _
    · rename_i b i o
      split
      · rename_i ty z es hb
        split
        · rename_i e he
          cases h with
          | fz h => cases h
          | op h1 =>
            rename_i c z1
            rcases H.live b _ _ es hb with ⟨k1, _⟩ | ⟨c', cs, k1, k2, k3, k4⟩
            · rw [h1] at k1; cases k1
            · rw [h1] at k1; cases k1
              have hl := k4.length
              rw [flatT_len k3] at hl
              have hcl : (cellsT e).length = z := sized_iff.1 k3 e (List.mem_of_getElem? he)
              have hlt := (List.getElem?_eq_some_iff.1 he).1
              have hiz : i * z + z ≤ es.length * z := by have := Nat.mul_le_mul_right z (show i + 1 ≤ es.length by omega); rw [Nat.add_mul] at this; omega
              have hcut : VTs φ Φ (cellsT e) ((cs.drop (i * z)).take z) := by rw [← flat_cut k3 he]; exact (k4.drop _).take _
              exact VF.fe (e := frzT hT n e) (o := o) (off := i * z) (hΦ _ _ _ k2) (by rw [frz_cells, List.length_map]; omega)
                (by rw [frz_cells, List.length_map, hcl]; exact frz_list _ ih hcut)
        · exact .any _
      · exact .any _
    · exact .any _
end
end Go.AH
