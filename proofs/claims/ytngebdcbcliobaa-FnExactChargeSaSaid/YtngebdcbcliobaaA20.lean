import Derived.Test.YtngebdcbcliobaaA8
import Derived.Laws.StructEq
namespace Go.AH
open Go.RowKit (Below)
section
variable {P : Program} {N : Nat} {ι : Inj} {h h' : Heap} {lo B : Nat} {w : World} {σ : Nat → Value} {a : Act} {v : Value}

theorem eqCs_len : ∀ {ks : List EK} {xs ys : List Value} {b : Bool}, eqCs ks xs ys = some b → xs.length = ks.length ∧ ys.length = ks.length
  | [], [], [], _, _ => ⟨rfl, rfl⟩
  | k :: ks, x :: xs, y :: ys, b, h => by
    simp only [eqCs] at h
    obtain ⟨_, _, h⟩ := Option.bind_eq_some_iff.1 h
    obtain ⟨_, h2, _⟩ := Option.map_eq_some_iff.1 h
    obtain ⟨h3, h4⟩ := eqCs_len h2
    simp [h3, h4]
  | [], [], _ :: _, _, h => by simp [eqCs] at h
  | [], _ :: _, _, _, h => by simp [eqCs] at h
  | _ :: _, [], _, _, h => by simp [eqCs] at h
  | _ :: _, _ :: _, [], _, h => by simp [eqCs] at h
theorem eqCs_append : ∀ {ks ls : List EK} {xs ys : List Value} {b : Bool}, eqCs (ks ++ ls) xs ys = some b → ∃ b1 b2, eqCs ks (xs.take ks.length) (ys.take ks.length) = some b1 ∧ eqCs ls (xs.drop ks.length) (ys.drop ks.length) = some b2 ∧ b = (b1 && b2)
  | [], ls, xs, ys, b, h => ⟨true, b, by simp [eqCs], by simpa using h, by simp⟩
  | k :: ks, ls, xs, ys, b, h => by
    cases xs with
    | nil => simp [eqCs] at h
    | cons x xs =>
      cases ys with
      | nil => simp [eqCs] at h
      | cons y ys =>
        simp only [List.cons_append, eqCs] at h
        obtain ⟨c, hc, h⟩ := Option.bind_eq_some_iff.1 h
        obtain ⟨d, hd, rfl⟩ := Option.map_eq_some_iff.1 h
        obtain ⟨b1, b2, h1, h2, rfl⟩ := eqCs_append hd
        exact ⟨c && b1, b2, by simp [eqCs, hc, h1], by simpa using h2, by rw [Bool.and_assoc]⟩
theorem eqC_i {x y : Value} {c : Bool} (h : eqC .i x y = some c) : ∃ k a b, x = .int k a ∧ y = .int k b ∧ c = (a == b) := by
  cases x <;> cases y <;> simp only [eqC] at h <;> first | (cases h; done) | skip
  split at h
  · rename_i hk; subst hk; cases h; exact ⟨_, _, _, rfl, rfl, rfl⟩
  · cases h
theorem eqC_b {x y : Value} {c : Bool} (h : eqC .b x y = some c) : ∃ a b, x = .bool a ∧ y = .bool b ∧ c = (a == b) := by
  cases x <;> cases y <;> simp only [eqC] at h <;> first | (cases h; done) | skip
  cases h; exact ⟨_, _, rfl, rfl, rfl⟩
theorem eqC_s {x y : Value} {c : Bool} (h : eqC .s x y = some c) : ∃ a b, x = .string a ∧ y = .string b ∧ c = (a.toList == b.toList) := by
  cases x <;> cases y <;> simp only [eqC] at h <;> first | (cases h; done) | skip
  cases h; exact ⟨_, _, rfl, rfl, rfl⟩
theorem eqC_plain {k : EK} {x y : Value} {b : Bool} (h : eqC k x y = some b) : plainV x = true ∧ plainV y = true := by
  unfold eqC at h; split at h <;> first | exact ⟨rfl, rfl⟩ | cases h
theorem eqCs_plain : ∀ {ks : List EK} {xs ys : List Value} {b : Bool}, eqCs ks xs ys = some b → xs.all plainV = true ∧ ys.all plainV = true
  | [], [], [], _, _ => ⟨rfl, rfl⟩
  | k :: ks, x :: xs, y :: ys, b, h => by
    simp only [eqCs] at h
    obtain ⟨_, h1, h⟩ := Option.bind_eq_some_iff.1 h
    obtain ⟨_, h2, _⟩ := Option.map_eq_some_iff.1 h
    obtain ⟨h3, h4⟩ := eqCs_plain h2
    obtain ⟨h5, h6⟩ := eqC_plain h1
    simp [h3, h4, h5, h6]
  | [], [], _ :: _, _, h => by simp [eqCs] at h
  | [], _ :: _, _, _, h => by simp [eqCs] at h
  | _ :: _, [], _, _, h => by simp [eqCs] at h
  | _ :: _, _ :: _, [], _, h => by simp [eqCs] at h
theorem same_plain {ι : Inj} : ∀ {l l' : List Value}, l.all plainV = true → VRs ι l l' → l' = l
  | [], _, _, h => by cases h; rfl
  | x :: l, _, k, h => by
    simp only [List.all_cons, Bool.and_eq_true] at k
    cases h with
    | cons a b =>
      rw [same_plain k.2 b]
      congr 1
      have := k.1
      cases a <;> first | rfl | (simp [plainV] at this; done) | skip
      rename_i p q
      rename_i fn as as' bs bs'
      all_goals
        cases as <;> cases bs <;> first | (simp [plainV] at this; done) | skip
      cases p; cases q; rfl

def packV (P : Program) (t : TypeId) (cs : List Value) (x : Value) : Prop := if aggT P t = true then x = .agg ⟨cs⟩ else cs = [x]

theorem part_run {t : TypeId} (hk : known P t = true) {xs : List Value} {o : Nat} (hle : o + P.cellsOf t ≤ xs.length) (h1 : aggT P t = false → P.cellsOf t = 1) (w : World) :
    ∃ x, (part t ⟨xs⟩ o).run P w = .ok x w ∧ packV P t ((xs.drop o).take (P.cellsOf t)) x := by
  have hki : (P.info? t).isSome = true := by simp only [known, Bool.and_eq_true] at hk; exact hk.1
  by_cases hagg : aggT P t = true
  · exact ⟨.agg ⟨(xs.drop o).take (P.cellsOf t)⟩, by simp [part, aggT_run hk, hagg, sizeOf_run hki], by simp [packV, hagg]⟩
  · have hagg' : aggT P t = false := by simpa using hagg
    have hc := h1 hagg'
    have hlt : o < xs.length := by omega
    refine ⟨xs[o], by simp [part, aggT_run hk, hagg', hlt], ?_⟩
    simp only [packV, hagg', hc, Bool.false_eq_true, if_false]
    rw [List.drop_eq_getElem_cons hlt, List.take_succ_cons, List.take_zero]

theorem eqSh_base {d : Nat} {t : TypeId} {ks : List EK} (h : eqSh P (d + 1) t = some ks) : known P t = true ∧ (aggT P t = false → P.cellsOf t = 1) := by
  simp only [eqSh] at h
  split at h
  · rename_i hk
    refine ⟨hk, fun ha => ?_⟩
    split at h <;> (try split at h) <;> first | (cases h; done) | assumption | (simp_all [aggT]; done)
  · cases h
theorem eqSh_len : ∀ (d : Nat) (t : TypeId) (ks : List EK), eqSh P d t = some ks → ks.length = P.cellsOf t
  | 0, _, _, h => by cases h
  | d + 1, t, ks, h => by
    simp only [eqSh] at h
    split at h
    · split at h
      · split at h <;> cases h; simp_all
      · split at h <;> cases h; simp_all
      · split at h <;> cases h; simp_all
      · rename_i fs hu
        split at h
        · rename_i hc
          have key : ∀ (l : List Field) (o n : Nat) (ks : List EK), offsOk P n o l = true → eqShs (fun t => eqSh P d t) l = some ks → o + ks.length = n := by
            intro l
            induction l with
            | nil => intro o n ks h0 h1; simp only [eqShs] at h1; cases h1; simpa [offsOk] using h0
            | cons f l ih =>
              intro o n ks h0 h1
              simp only [offsOk, Bool.and_eq_true, beq_iff_eq] at h0
              simp only [eqShs] at h1
              obtain ⟨k1, e1, h1⟩ := Option.bind_eq_some_iff.1 h1
              obtain ⟨k2, e2, rfl⟩ := Option.map_eq_some_iff.1 h1
              have := ih _ _ _ h0.2 e2
              have := eqSh_len d f.type k1 e1
              simp; omega
          have := key fs.toList 0 _ ks hc.2.1 h
          omega
        · cases h
      · cases h
    · cases h
theorem equal_flat : ∀ (d D : Nat) (t : TypeId) (ks : List EK) (xs ys : List Value) (x y : Value) (b : Bool) (w : World), eqSh P d t = some ks → d ≤ D → packV P t xs x → packV P t ys y → xs.length = P.cellsOf t → eqCs ks xs ys = some b →
    (Op.equalIn D t x y).run P w = .ok b w
  | 0, _, _, _, _, _, _, _, _, _, h, _, _, _, _, _ => by cases h
  | d + 1, 0, _, _, _, _, _, _, _, _, _, h, _, _, _, _ => by omega
  | d + 1, D + 1, t, ks, xs, ys, x, y, b, w, hs, hD, hx, hy, hl, he => by
    simp only [eqSh] at hs
    split at hs
    · rename_i hk
      split at hs
      · rename_i k hu
        split at hs
        · cases hs
          have hagg : aggT P t = false := by simp [aggT, hu]
          simp only [packV, hagg] at hx hy
          simp at hx hy; subst hx; subst hy
          simp only [eqCs] at he
          obtain ⟨c, hc, he⟩ := Option.bind_eq_some_iff.1 he
          simp at he; subst he
          obtain ⟨k', a, a', rfl, rfl, rfl⟩ := eqC_i hc
          exact run_equalIn_int w D t _ _ _ _ hu
        · cases hs
      · rename_i hu
        split at hs
        · cases hs
          have hagg : aggT P t = false := by simp [aggT, hu]
          simp only [packV, hagg] at hx hy
          simp at hx hy; subst hx; subst hy
          simp only [eqCs] at he
          obtain ⟨c, hc, he⟩ := Option.bind_eq_some_iff.1 he
          simp at he; subst he
          obtain ⟨a, a', rfl, rfl, rfl⟩ := eqC_b hc
          exact run_equalIn_bool' w D t _ _ hu
        · cases hs
      · rename_i hu
        split at hs
        · cases hs
          have hagg : aggT P t = false := by simp [aggT, hu]
          simp only [packV, hagg] at hx hy
          simp at hx hy; subst hx; subst hy
          simp only [eqCs] at he
          obtain ⟨c, hc, he⟩ := Option.bind_eq_some_iff.1 he
          simp at he; subst he
          obtain ⟨a, a', rfl, rfl, rfl⟩ := eqC_s hc
          exact run_equalIn_string w D t _ _ hu
        · cases hs
      · rename_i fs hu
        split at hs
        · rename_i hcond
          obtain ⟨hst, hof, hnm⟩ := hcond
          have hagg : aggT P t = true := by simp [aggT, hu]
          simp only [packV, hagg, if_true] at hx hy
          subst hx; subst hy
          have hff : P.fieldsOf t = fs := by simp [Program.fieldsOf, hu]
          rw [run_equalIn_struct w D t ⟨xs⟩ ⟨ys⟩ (by rw [hff]; exact hu) hst, hff]
          have hlen := eqCs_len he
          have key : ∀ (l : List Field) (o : Nat) (ks : List EK) (b : Bool), offsOk P (P.cellsOf t) o l = true → l.all (fun f => f.name != "_") = true → eqShs (fun t => eqSh P d t) l = some ks → eqCs ks (xs.drop o) (ys.drop o) = some b → o + ks.length = xs.length →
              (Op.eqFields D ⟨xs⟩ ⟨ys⟩ l).run P w = .ok b w := by
            intro l
            induction l with
            | nil =>
              intro o ks b _ _ h1 h2 _
              simp only [eqShs] at h1; cases h1
              have := eqCs_len h2
              have e1 : xs.drop o = [] := List.eq_nil_of_length_eq_zero this.1
              have e2 : ys.drop o = [] := List.eq_nil_of_length_eq_zero this.2
              rw [e1, e2] at h2
              simp only [eqCs] at h2; cases h2
              simp [Op.eqFields]
            | cons f l ih =>
              intro o ks b h0 hn h1 h2 h3
              simp only [offsOk, Bool.and_eq_true, beq_iff_eq] at h0
              simp only [List.all_cons, Bool.and_eq_true] at hn
              simp only [eqShs] at h1
              obtain ⟨k1, e1, h1⟩ := Option.bind_eq_some_iff.1 h1
              obtain ⟨k2, e2, rfl⟩ := Option.map_eq_some_iff.1 h1
              obtain ⟨b1, b2, g1, g2, rfl⟩ := eqCs_append h2
              obtain ⟨hfo, h0⟩ := h0
              have hd : ∃ d', d = d' + 1 := by cases d with | zero => cases e1 | succ d' => exact ⟨d', rfl⟩
              obtain ⟨d', rfl⟩ := hd
              obtain ⟨hkf, hc1⟩ := eqSh_base e1
              -- as many cells as the shape tells
              have hkl : k1.length = P.cellsOf f.type := eqSh_len (d' + 1) f.type k1 e1
              have hle : o + P.cellsOf f.type ≤ xs.length := by simp only [List.length_append] at h3; omega
              have hle' : o + P.cellsOf f.type ≤ ys.length := by
                have := eqCs_len g1
                simp only [List.length_take, List.length_drop] at this; omega
              obtain ⟨px, rx, qx⟩ := part_run hkf hle hc1 w
              obtain ⟨py, ry, qy⟩ := part_run hkf hle' hc1 w
              rw [hkl] at g1
              have hrun := equal_flat (d' + 1) D f.type k1 _ _ px py b1 w e1 (by omega) qx qy (by simp; omega) g1
              have hne : f.name ≠ "_" := by simpa using hn.1
              simp only [Op.eqFields, if_pos hne, hfo, Sem.run_bind, rx, ry, Result.andThen_ok, hrun]
              cases b1 with
              | false => simp
              | true =>
                simp only [Bool.not_true, Bool.false_eq_true, if_false, Bool.true_and]
                refine ih (o + P.cellsOf f.type) k2 b2 h0 hn.2 e2 ?_ (by simp only [List.length_append] at h3; omega)
                rw [List.drop_drop, List.drop_drop, hkl] at g2
                exact g2
          refine key fs.toList 0 ks b hof hnm hs (by simpa using he) (by omega)
        · cases hs
      · cases hs
    · cases hs
theorem fine_eqS (hr : HR P ι h lo B w) {op : BinOp} {neg : Bool} (hop : op = if neg then .neq else .eql) {t : TypeId} (ha : aggT P t = true) (hg : P.eqGuardType P.depth t = false) {ks : List EK} (hs : eqSh P 6 t = some ks) {x y : Operand} {p p' q q' : Value} (hp : VR ι p p') (hq : VR ι q q')
    {xs ys : Array Value} (ex : p = .agg xs) (ey : q = .agg ys) {b : Bool} (hb : eqCs ks xs.toList ys.toList = some b) :
    Fine P ι h lo B w (.bool (if neg then !b else b)) h ((do pure (.value (← (do eqGuard op t x y p' q'; binOp op t p' q'))) : Sem Next).run P w) := by
  subst ex; subst ey
  obtain ⟨xs⟩ := xs
  obtain ⟨ys⟩ := ys
  obtain ⟨k1, k2⟩ := eqCs_plain hb
  cases hp with
  | agg hp =>
    cases hq with
    | agg hq =>
      rw [same_plain k1 hp, same_plain k2 hq]
      have hl := eqCs_len hb
      have hrun := equal_flat (P := P) 6 10000 t ks xs ys (.agg ⟨xs⟩) (.agg ⟨ys⟩) b w hs (by omega) (by simp [packV, ha]) (by simp [packV, ha]) (by rw [hl.1]; exact eqSh_len 6 t ks hs) hb
      subst hop
      refine ⟨_, w, ι, .inl ?_, Ag.refl _ _, .bool _, hr, Below.refl _ _⟩
      cases neg <;> simp [run_eqGuard_agg w _ t x y ⟨xs⟩ ⟨ys⟩ hg, run_eql_struct, run_neq_struct, hrun]
end
end Go.AH
