import Derived.Test.YtngebdcbcliobaaT10
set_option linter.unusedVariables false
namespace Go.AH

/-! ### Words for going through -/
theorem condKT_pos {c : Prop} [Decidable c] {p q : Prop} (h : c) : condKT (.p (.bool (decide c))) p q = p := by simp [condKT, h]
theorem condKT_neg {c : Prop} [Decidable c] {p q : Prop} (h : ¬ c) : condKT (.p (.bool (decide c))) p q = q := by simp [condKT, h]
theorem gdKT_pt {c : Prop} [Decidable c] {p q : Prop} (h : c) : gdKT (.p (.bool (decide c))) true p q = p := by simp [gdKT, h]
theorem gdKT_nt {c : Prop} [Decidable c] {p q : Prop} (h : ¬ c) : gdKT (.p (.bool (decide c))) true p q = q := by simp [gdKT, h]
theorem gdKT_pf {c : Prop} [Decidable c] {p q : Prop} (h : c) : gdKT (.p (.bool (decide c))) false p q = q := by simp [gdKT, h]
theorem gdKT_nf {c : Prop} [Decidable c] {p q : Prop} (h : ¬ c) : gdKT (.p (.bool (decide c))) false p q = p := by simp [gdKT, h]
theorem tw64 {n : Int} (h : -9223372036854775808 ≤ n ∧ n ≤ 9223372036854775807) : IntKind.i64.wrap n = n := by rw [IntKind.wrap_i64]; omega
theorem twu8 {n : Int} (h : 0 ≤ n ∧ n < 256) : IntKind.u8.wrap n = n := by
  simp [IntKind.wrap, IntKind.min, IntKind.max, IntKind.bits, IntKind.signed]; omega
theorem twu8m (n : Int) : IntKind.u8.wrap n = n % 256 := by
  simp [IntKind.wrap, IntKind.min, IntKind.max, IntKind.bits, IntKind.signed]
theorem int_beq (a b : Int) : (a == b) = decide (a = b) := by by_cases h : a = b <;> simp [h]
theorem int_bne (a b : Int) : (a != b) = decide (¬ a = b) := by by_cases h : a = b <;> simp [h]
theorem not_dec (c : Prop) [Decidable c] : (!decide c) = decide (¬ c) := by by_cases h : c <;> simp [h]
theorem dec_and (c d : Prop) [Decidable c] [Decidable d] : (decide c && decide d) = decide (c ∧ d) := by by_cases h : c <;> by_cases k : d <;> simp [h, k]
theorem dec_or (c d : Prop) [Decidable c] [Decidable d] : (decide c || decide d) = decide (c ∨ d) := by by_cases h : c <;> by_cases k : d <;> simp [h, k]
theorem nat0T : ((0 : Nat) : Int) = 0 := rfl
theorem map_someT {α β : Type} (f : α → β) (a : α) : Option.map f (some a) = some (f a) := rfl

/-! aop over trees, one by one -/
section
variable (Γ : TCtx) (tlo : Nat) (ρ : Opd → TV) (h : THeap)
theorem t_alloc (e : TypeId) (z : List Value) (h1 : z.all plainV = true) (h2 : z.all one = true) : top Γ tlo ρ h (.alloc e z) = some (.op h.length 0 0, h ++ [.cells e z.length [el (z.map ofV1)]]) := by
  simp only [top, h1, h2, and_self, if_true]
theorem t_call (f : Nat) (as : List Opd) : top Γ tlo ρ h (.call f as) = (Γ.get f).bind fun s => s.fn tlo (as.map ρ) h := rfl
end
theorem mkEls_one (ρ : Opd → TV) (z : List Value) (k : Nat) (x : Opd) : mkEls ρ 1 z [(0, k, x)] = if k = z.length ∧ (cellsT (ρ x)).length = k ∧ (cellsT (ρ x)).all oneT = true then some [ρ x] else none := rfl
theorem mkEls_zero (ρ : Opd → TV) (z : List Value) (ps : List (Nat × Nat × Opd)) : mkEls ρ 0 z ps = (fillT (z.map ofV1) (ps.map fun p => (p.1, p.2.1, ρ p.2.2))).bind fun cs => if z.all plainV = true ∧ cs.all oneT = true ∧ cs.length = 0 * (z.length / 0) then some (chunksT (z.length / 0) 0 cs) else none := by
  unfold mkEls; rfl
theorem mkEls_two (ρ : Opd → TV) (n : Nat) (z : List Value) (ps : List (Nat × Nat × Opd)) : mkEls ρ (n + 2) z ps = (fillT (z.map ofV1) (ps.map fun p => (p.1, p.2.1, ρ p.2.2))).bind fun cs => if z.all plainV = true ∧ cs.all oneT = true ∧ cs.length = (n + 2) * (z.length / (n + 2)) then some (chunksT (z.length / (n + 2)) (n + 2) cs) else none := by
  unfold mkEls; rfl
theorem mkEls_1b (ρ : Opd → TV) (z : List Value) (a b : Nat × Nat × Opd) (r : List (Nat × Nat × Opd)) : mkEls ρ 1 z (a :: b :: r) = (fillT (z.map ofV1) ((a :: b :: r).map fun p => (p.1, p.2.1, ρ p.2.2))).bind fun cs => if z.all plainV = true ∧ cs.all oneT = true ∧ cs.length = 1 * (z.length / 1) then some (chunksT (z.length / 1) 1 cs) else none := by
  obtain ⟨o, k, x⟩ := a
  cases o <;> rfl
theorem mkEls_1n (ρ : Opd → TV) (z : List Value) : mkEls ρ 1 z [] = (fillT (z.map ofV1) []).bind fun cs => if z.all plainV = true ∧ cs.all oneT = true ∧ cs.length = 1 * (z.length / 1) then some (chunksT (z.length / 1) 1 cs) else none := by
  unfold mkEls; rfl

/-! Values handed to a callee -/
section
variable (h : THeap) (n : Nat)
theorem frz_p (v : Value) : frzT h n (.p v) = .p v := by cases n <;> rfl
theorem frz_nl : frzT h n .nl = .s [] := by cases n <;> rfl
theorem frz_s (es : List TV) : frzT h n (.s es) = .s es := by cases n <;> rfl
theorem frz_fe (e : TV) (o : Nat) : frzT h n (.fe e o) = .fe e o := by cases n <;> rfl
theorem frz_any : frzT h n .any = .any := by cases n <;> rfl
theorem frz_ub : frzT h n .ub = .ub := by cases n <;> rfl
theorem frz_agg (cs : List TV) : frzT h n (.agg cs) = .agg (cs.map (frzT h n)) := by cases n <;> simp only [frzT, frzW, frzWs_map]
theorem frz_tup (cs : List TV) : frzT h n (.tup cs) = .tup (cs.map (frzT h n)) := by cases n <;> simp only [frzT, frzW, frzWs_map]
theorem frz_fn (f : Nat) (cs : List TV) : frzT h n (.fn f cs) = .fn f (cs.map (frzT h n)) := by cases n <;> simp only [frzT, frzW, frzWs_map]
theorem frz_os (b o m : Nat) : frzT h (n + 1) (.os b o m) = match h[b]? with
    | some (.cells _ _ es) => if o + m ≤ es.length then .s (((es.drop o).take m).map (frzT h n)) else .any
    | _ => .any := rfl
theorem frz_op (b i o : Nat) : frzT h (n + 1) (.op b i o) = match h[b]? with
    | some (.cells _ _ es) => match es[i]? with
      | some e => .fe (frzT h n e) o
      | none => .any
    | _ => .any := rfl
end
theorem ren_p (ρ : Nat → Nat) (v : Value) : renT ρ (.p v) = .p v := rfl
theorem ren_nl (ρ : Nat → Nat) : renT ρ .nl = .nl := rfl
theorem ren_s (ρ : Nat → Nat) (es : List TV) : renT ρ (.s es) = .s es := rfl
theorem ren_fe (ρ : Nat → Nat) (e : TV) (o : Nat) : renT ρ (.fe e o) = .fe e o := rfl
theorem ren_any (ρ : Nat → Nat) : renT ρ .any = .any := rfl
theorem ren_os (ρ : Nat → Nat) (b o n : Nat) : renT ρ (.os b o n) = .os (ρ b) o n := rfl
theorem ren_op (ρ : Nat → Nat) (b o n : Nat) : renT ρ (.op b o n) = .op (ρ b) o n := rfl
theorem ren_agg (ρ : Nat → Nat) (cs : List TV) : renT ρ (.agg cs) = .agg (renTs ρ cs) := rfl
theorem ren_tup (ρ : Nat → Nat) (cs : List TV) : renT ρ (.tup cs) = .tup (renTs ρ cs) := rfl
theorem ren_fn (ρ : Nat → Nat) (f : Nat) (cs : List TV) : renT ρ (.fn f cs) = .fn f (renTs ρ cs) := rfl
theorem rens_nil (ρ : Nat → Nat) : renTs ρ [] = [] := rfl
theorem rens_cons (ρ : Nat → Nat) (t : TV) (ts : List TV) : renTs ρ (t :: ts) = renT ρ t :: renTs ρ ts := rfl
theorem renB_cells (ρ : Nat → Nat) (e : TypeId) (z : Nat) (es : List TV) : renB ρ (.cells e z es) = .cells e z (renTs ρ es) := rfl
theorem rho_zero (k m : Nat) (ks : List Nat) : rho (k :: ks) m 0 = k := rfl
theorem rho_one (k k' m : Nat) (ks : List Nat) : rho (k :: k' :: ks) m 1 = k' := rfl
theorem rho_two (k k' k'' m : Nat) (ks : List Nat) : rho (k :: k' :: k'' :: ks) m 2 = k'' := rfl

/-! Rows of plain values -/
/-- A row told by a list: f tells an element's tree. -/
structure Flat {α : Type} (f : α → TV) (z : Nat) : Prop where
  len : ∀ x, (cellsT (f x)).length = z
  frz : ∀ h n x, frzT h n (f x) = f x
  ren : ∀ ρ x, renT ρ (f x) = f x
section
variable {α : Type} {f : α → TV} {z : Nat}
theorem rows_sized (hf : Flat f z) (l : List α) : sizedT z (l.map f) = true := by simp [sizedT]; intro x _; exact hf.len x
theorem rows_frz (hf : Flat f z) (h : THeap) (n : Nat) (l : List α) : (l.map f).map (frzT h n) = l.map f := by
  rw [List.map_map]; congr 1; funext x; exact hf.frz h n x
theorem rows_ren (hf : Flat f z) (ρ : Nat → Nat) (l : List α) : renTs ρ (l.map f) = l.map f := by
  rw [renTs_map, List.map_map]; congr 1; funext x; exact hf.ren ρ x
theorem rows_own (ho : ∀ x, ownT (f x) = true) : ∀ l : List α, ownTs (l.map f) = true
  | [] => rfl
  | a :: l => by simp [ownTs, ho a, rows_own ho l]
theorem rows_inj (hi : ∀ x y, f x = f y → x = y) : ∀ (l l' : List α), l.map f = l'.map f → l = l'
  | [], [], _ => rfl
  | [], _ :: _, h => by simp at h
  | _ :: _, [], h => by simp at h
  | a :: l, b :: l', h => by simp at h; rw [hi _ _ h.1, rows_inj hi l l' h.2]
end
def bT (n : Int) : TV := .p (.int .u8 n)
def iT (n : Int) : TV := .p (.int .i64 n)
def bsT (l : List Int) : List TV := l.map bT
def isT (l : List Int) : List TV := l.map iT
def isB (l : List Int) : Prop := ∀ x ∈ l, 0 ≤ x ∧ x < 256
theorem bT_flat : Flat bT 1 := ⟨fun _ => rfl, fun h n _ => frz_p h n _, fun _ _ => rfl⟩
theorem iT_flat : Flat iT 1 := ⟨fun _ => rfl, fun h n _ => frz_p h n _, fun _ _ => rfl⟩
theorem bs_sized (l : List Int) : sizedT 1 (bsT l) = true := rows_sized bT_flat l
theorem is_sized (l : List Int) : sizedT 1 (isT l) = true := rows_sized iT_flat l
theorem bs_frz (h : THeap) (n : Nat) (l : List Int) : (bsT l).map (frzT h n) = bsT l := rows_frz bT_flat h n l
theorem is_frz (h : THeap) (n : Nat) (l : List Int) : (isT l).map (frzT h n) = isT l := rows_frz iT_flat h n l
theorem bs_ren (ρ : Nat → Nat) (l : List Int) : renTs ρ (bsT l) = bsT l := rows_ren bT_flat ρ l
theorem is_ren (ρ : Nat → Nat) (l : List Int) : renTs ρ (isT l) = isT l := rows_ren iT_flat ρ l
theorem bs_own (l : List Int) : ownTs (bsT l) = true := rows_own (fun _ => rfl) l
theorem is_own (l : List Int) : ownTs (isT l) = true := rows_own (fun _ => rfl) l
theorem bT_inj (x y : Int) (h : bT x = bT y) : x = y := by simpa [bT] using h
theorem iT_inj (x y : Int) (h : iT x = iT y) : x = y := by simpa [iT] using h
theorem bs_inj {l l' : List Int} (h : bsT l = bsT l') : l = l' := rows_inj bT_inj l l' h
theorem is_inj {l l' : List Int} (h : isT l = isT l') : l = l' := rows_inj iT_inj l l' h
theorem bs_len (l : List Int) : (bsT l).length = l.length := by simp [bsT]
theorem is_len (l : List Int) : (isT l).length = l.length := by simp [isT]
theorem bs_get {l : List Int} {i : Nat} (h : i < l.length) : (bsT l)[i]? = some (.p (.int .u8 (l.getD i 0))) := by simp [bsT, bT, h]
theorem is_get {l : List Int} {i : Nat} (h : i < l.length) : (isT l)[i]? = some (.p (.int .i64 (l.getD i 0))) := by simp [isT, iT, h]
theorem bs_take (l : List Int) (n : Nat) : (bsT l).take n = bsT (l.take n) := by simp [bsT]
theorem bs_drop (l : List Int) (n : Nat) : (bsT l).drop n = bsT (l.drop n) := by simp [bsT]
theorem is_take (l : List Int) (n : Nat) : (isT l).take n = isT (l.take n) := by simp [isT]
theorem is_drop (l : List Int) (n : Nat) : (isT l).drop n = isT (l.drop n) := by simp [isT]
theorem bs_append (l l' : List Int) : bsT l ++ bsT l' = bsT (l ++ l') := by simp [bsT]
theorem is_append (l l' : List Int) : isT l ++ isT l' = isT (l ++ l') := by simp [isT]
theorem bs_snoc (l : List Int) (x : Int) : bsT l ++ [.p (.int .u8 x)] = bsT (l ++ [x]) := by simp [bsT, bT]
theorem is_snoc (l : List Int) (x : Int) : isT l ++ [.p (.int .i64 x)] = isT (l ++ [x]) := by simp [isT, iT]
theorem bs_nil : bsT [] = [] := rfl
theorem is_nil : isT [] = [] := rfl
theorem bs_set (l : List Int) (i : Nat) (x : Int) : (bsT l).set i (.p (.int .u8 x)) = bsT (l.set i x) := by simp [bsT, bT, List.map_set]
theorem is_set (l : List Int) (i : Nat) (x : Int) : (isT l).set i (.p (.int .i64 x)) = isT (l.set i x) := by simp [isT, iT, List.map_set]
theorem isB_get {l : List Int} (h : isB l) (i : Nat) : 0 ≤ l.getD i 0 ∧ l.getD i 0 < 256 := by
  by_cases hi : i < l.length
  · have := h l[i] (by simp); simpa [hi] using this
  · simp [List.getElem?_eq_none (Nat.le_of_not_lt hi)]
theorem isB_take {l : List Int} (h : isB l) (n : Nat) : isB (l.take n) := fun x hx => h x (List.mem_of_mem_take hx)
theorem isB_drop {l : List Int} (h : isB l) (n : Nat) : isB (l.drop n) := fun x hx => h x (List.mem_of_mem_drop hx)
theorem isB_append {l l' : List Int} (h : isB l) (k : isB l') : isB (l ++ l') := fun x hx => by
  rcases List.mem_append.1 hx with hx | hx
  · exact h x hx
  · exact k x hx
theorem isB_nil : isB [] := fun x hx => by cases hx

theorem endT_p {res : List AR} {v w : Value} {e : Exit} {s : TSt} (he : e = .normal ∨ e = .ret) (hr : rresT s res = some (.p v)) (hv : v = w) : EndT res (.p w) [] e s := by
  subst hv; exact endT_v he hr (fun _ => rfl)
theorem tone_int (k : IntKind) (n : Int) : one (.int k n) = true := rfl
theorem tone_bool (b : Bool) : one (.bool b) = true := rfl
theorem tone_str (b : ByteArray) : one (.string b) = true := rfl
theorem tone_sl (a : Option Addr) (n c : Nat) : one (.slice a n c) = true := rfl
theorem tone_ptr (a : Option Addr) : one (.pointer a) = true := rfl
theorem tone_nili : one .nilIface = true := rfl
theorem vb_true {c : Prop} [Decidable c] (h : c) : Value.bool true = Value.bool (decide c) := by simp [h]
theorem vb_false {c : Prop} [Decidable c] (h : ¬ c) : Value.bool false = Value.bool (decide c) := by simp [h]
theorem vb_dec {c d : Prop} [Decidable c] [Decidable d] (h : c ↔ d) : Value.bool (decide c) = Value.bool (decide d) := by simp [h]
theorem vi_eq {k : IntKind} {a b : Int} (h : a = b) : Value.int k a = Value.int k b := by rw [h]
end Go.AH
