import Derived.Test.YtngebdcbcliobaaA12
namespace Go.AH

/-! ### Going through code by rewriting -/
def kont {α : Type} (o : Option α) (f : α → Prop) : Prop := match o with | some a => f a | none => False
theorem kont_some {α : Type} (a : α) (f : α → Prop) : kont (some a) f = f a := rfl
theorem kont_congr {α : Type} {o o' : Option α} {f : α → Prop} (h : o = o') : kont o f = kont o' f := by rw [h]
theorem kont_of {α : Type} {o : Option α} {f : α → Prop} {a : α} (h : o = some a) (hf : f a) : kont o f := by rw [h]; exact hf
def condK (v : Value) (p q : Prop) : Prop := match v with | .bool t => if t then p else q | _ => False
theorem condK_true (p q : Prop) : condK (.bool true) p q = p := rfl
theorem condK_false (p q : Prop) : condK (.bool false) p q = q := rfl
theorem condK_congr {v v' : Value} {p q : Prop} (h : v = v') : condK v p q = condK v' p q := by rw [h]
theorem condK_split {b : Bool} {p q : Prop} (hp : b = true → p) (hq : b = false → q) : condK (.bool b) p q := by cases b; exact hq rfl; exact hp rfl
theorem condK_dec {c : Prop} [Decidable c] {p q : Prop} (hp : c → p) (hq : ¬ c → q) : condK (.bool (decide c)) p q := by
  by_cases h : c
  · simp only [h, decide_true]; exact hp h
  · simp only [h, decide_false]; exact hq h
theorem condK_ite {c : Prop} [Decidable c] {a b : Bool} {p q : Prop} (hp : c → condK (.bool a) p q) (hq : ¬ c → condK (.bool b) p q) : condK (.bool (if c then a else b)) p q := by
  by_cases h : c
  · rw [if_pos h]; exact hp h
  · rw [if_neg h]; exact hq h
def seqK (Γ : Ctx) (lo : Nat) (b : AC) (Q : Exit → St → Prop) (e : Exit) (s : St) : Prop := match e with | .normal => awp Γ lo b Q s | e => Q e s
def blkK (id : Nat) (Q : Exit → St → Prop) (e : Exit) (s : St) : Prop := match e with | .exit i => if i = id then Q .normal s else Q (.exit i) s | e => Q e s
def loopK (R : Nat → St → Prop) (n : Nat) (Q : Exit → St → Prop) (e : Exit) (s : St) : Prop := match e with | .normal => ∃ m, m < n ∧ R m s | e => Q e s
/-- A guard: its test first. -/
def gdK (v : Value) (b : Bool) (p q : Prop) : Prop := if (match v with | .bool c => c == b | _ => false) then p else q
section
variable {Γ : Ctx} {lo : Nat} {σ : Nat → Value} {h : Heap} {K : St → Prop} {Q : Exit → St → Prop} {r : List AO}

theorem put_at (σ : Nat → Value) (d : Nat) (v : Value) (i : Nat) : put σ d v i = if i = d then v else σ i := rfl
theorem argσ_nil (i : Nat) : argσ [] i = undef := by simp [argσ]
theorem argσ_cons (v : Value) (l : List Value) (i : Nat) : argσ (v :: l) i = if i = 0 then v else argσ l (i - 1) := by
  cases i <;> simp [argσ]
theorem ev_t (σ : Nat → Value) (i : Nat) : ev σ (.t i) = σ i := rfl
theorem ev_v (σ : Nat → Value) (x : Value) : ev σ (.v x) = x := rfl

theorem awp_congr {c : AC} {s s' : St} (e : s = s') : awp Γ lo c Q s = awp Γ lo c Q s' := by rw [e]
theorem rops_congr {ops : List AO} {s s' : St} (e : s = s') : rops Γ lo ops K s = rops Γ lo ops K s' := by rw [e]
theorem qops_congr {ops : List AO} {s s' : St} (e : s = s') : qops Γ ops K s = qops Γ ops K s' := by rw [e]
theorem seqK_congr {b : AC} {e e' : Exit} {s s' : St} (h1 : e = e') (h2 : s = s') : seqK Γ lo b Q e s = seqK Γ lo b Q e' s' := by rw [h1, h2]
theorem blkK_congr {id : Nat} {e e' : Exit} {s s' : St} (h1 : e = e') (h2 : s = s') : blkK id Q e s = blkK id Q e' s' := by rw [h1, h2]
theorem loopK_congr {R : Nat → St → Prop} {n : Nat} {e e' : Exit} {s s' : St} (h1 : e = e') (h2 : s = s') : loopK R n Q e s = loopK R n Q e' s' := by rw [h1, h2]

theorem awp_skip : awp Γ lo .skip Q ⟨σ, h⟩ = Q .normal ⟨σ, h⟩ := rfl
theorem awp_ret : awp Γ lo .ret Q ⟨σ, h⟩ = Q .ret ⟨σ, h⟩ := rfl
theorem awp_exit (id : Nat) : awp Γ lo (.exit id) Q ⟨σ, h⟩ = Q (.exit id) ⟨σ, h⟩ := rfl
theorem awp_seq (a b : AC) : awp Γ lo (.seq a b) Q ⟨σ, h⟩ = awp Γ lo a (seqK Γ lo b Q) ⟨σ, h⟩ := rfl
theorem awp_reg (ops : List AO) : awp Γ lo (.reg ops) Q ⟨σ, h⟩ = rops Γ lo ops (Q .normal) ⟨σ, h⟩ := rfl
theorem awp_drw (ops tail : List AO) : awp Γ lo (.drw ops tail) Q ⟨σ, h⟩ = qops Γ ops (rops Γ lo tail (Q .normal)) ⟨σ, h⟩ := rfl
theorem awp_cond (c : Opd) (a b : AC) : awp Γ lo (.cond c a b) Q ⟨σ, h⟩ = condK (ev σ c) (awp Γ lo a Q ⟨σ, h⟩) (awp Γ lo b Q ⟨σ, h⟩) := rfl
theorem awp_block (id : Nat) (a : AC) : awp Γ lo (.block id a) Q ⟨σ, h⟩ = awp Γ lo a (blkK id Q) ⟨σ, h⟩ := rfl
theorem awp_loop {a : AC} {s : St} (R : Nat → St → Prop) (n : Nat) (h0 : R n s) (round : ∀ n s', R n s' → awp Γ lo a (loopK R n Q) s') : awp Γ lo (.loop a) Q s := ⟨R, ⟨n, h0⟩, round⟩

theorem seqK_normal (b : AC) : seqK Γ lo b Q .normal ⟨σ, h⟩ = awp Γ lo b Q ⟨σ, h⟩ := rfl
theorem seqK_ret (b : AC) : seqK Γ lo b Q .ret ⟨σ, h⟩ = Q .ret ⟨σ, h⟩ := rfl
theorem seqK_exit (b : AC) (i : Nat) : seqK Γ lo b Q (.exit i) ⟨σ, h⟩ = Q (.exit i) ⟨σ, h⟩ := rfl
theorem blkK_normal (id : Nat) : blkK id Q .normal ⟨σ, h⟩ = Q .normal ⟨σ, h⟩ := rfl
theorem blkK_ret (id : Nat) : blkK id Q .ret ⟨σ, h⟩ = Q .ret ⟨σ, h⟩ := rfl
theorem blkK_exit (id i : Nat) : blkK id Q (.exit i) ⟨σ, h⟩ = if i = id then Q .normal ⟨σ, h⟩ else Q (.exit i) ⟨σ, h⟩ := rfl
theorem loopK_normal (R : Nat → St → Prop) (n : Nat) : loopK R n Q .normal ⟨σ, h⟩ = ∃ m, m < n ∧ R m ⟨σ, h⟩ := rfl
theorem loopK_ret (R : Nat → St → Prop) (n : Nat) : loopK R n Q .ret ⟨σ, h⟩ = Q .ret ⟨σ, h⟩ := rfl
theorem loopK_exit (R : Nat → St → Prop) (n i : Nat) : loopK R n Q (.exit i) ⟨σ, h⟩ = Q (.exit i) ⟨σ, h⟩ := rfl

theorem rops_nil : rops Γ lo [] K ⟨σ, h⟩ = K ⟨σ, h⟩ := rfl
theorem qops_nil : qops Γ [] K ⟨σ, h⟩ = K ⟨σ, h⟩ := rfl
theorem rops_op (d : Nat) (p : AOp) : rops Γ lo (⟨some d, none, p⟩ :: r) K ⟨σ, h⟩ = kont (aop Γ lo (ev σ) h p) (fun x => rops Γ lo r K ⟨put σ d x.1, x.2⟩) := by
  simp only [rops, stepO, wants, if_true, putO]; cases aop Γ lo (ev σ) h p <;> rfl
theorem rops_op0 (p : AOp) : rops Γ lo (⟨none, none, p⟩ :: r) K ⟨σ, h⟩ = kont (aop Γ lo (ev σ) h p) (fun x => rops Γ lo r K ⟨σ, x.2⟩) := by
  simp only [rops, stepO, wants, if_true, putO]; cases aop Γ lo (ev σ) h p <;> rfl
theorem rops_opg (d t : Nat) (b : Bool) (p : AOp) : rops Γ lo (⟨some d, some (t, b), p⟩ :: r) K ⟨σ, h⟩ =
    gdK (σ t) b (kont (aop Γ lo (ev σ) h p) (fun x => rops Γ lo r K ⟨put σ d x.1, x.2⟩)) (rops Γ lo r K ⟨put σ d undef, h⟩) := by
  have e : gdK (σ t) b (kont (aop Γ lo (ev σ) h p) (fun x => rops Γ lo r K ⟨put σ d x.1, x.2⟩)) (rops Γ lo r K ⟨put σ d undef, h⟩) = if wants σ (some (t, b)) then kont (aop Γ lo (ev σ) h p) (fun x => rops Γ lo r K ⟨put σ d x.1, x.2⟩) else rops Γ lo r K ⟨put σ d undef, h⟩ := rfl
  rw [e]
  by_cases hw : wants σ (some (t, b)) = true
  · simp only [rops, stepO, hw, if_true, putO]; cases aop Γ lo (ev σ) h p <;> rfl
  · simp only [rops, stepO, hw, putO]; rfl
theorem qops_op (d : Nat) (p : AOp) : qops Γ (⟨some d, none, p⟩ :: r) K ⟨σ, h⟩ = kont (aop Γ h.length (ev σ) h p) (fun x => qops Γ r K ⟨put σ d x.1, x.2⟩) := by
  simp only [qops, stepO, wants, if_true, putO]; cases aop Γ h.length (ev σ) h p <;> rfl
theorem qops_op0 (p : AOp) : qops Γ (⟨none, none, p⟩ :: r) K ⟨σ, h⟩ = kont (aop Γ h.length (ev σ) h p) (fun x => qops Γ r K ⟨σ, x.2⟩) := by
  simp only [qops, stepO, wants, if_true, putO]; cases aop Γ h.length (ev σ) h p <;> rfl
theorem qops_opg (d t : Nat) (b : Bool) (p : AOp) : qops Γ (⟨some d, some (t, b), p⟩ :: r) K ⟨σ, h⟩ =
    gdK (σ t) b (kont (aop Γ h.length (ev σ) h p) (fun x => qops Γ r K ⟨put σ d x.1, x.2⟩)) (qops Γ r K ⟨put σ d undef, h⟩) := by
  have e : gdK (σ t) b (kont (aop Γ h.length (ev σ) h p) (fun x => qops Γ r K ⟨put σ d x.1, x.2⟩)) (qops Γ r K ⟨put σ d undef, h⟩) = if wants σ (some (t, b)) then kont (aop Γ h.length (ev σ) h p) (fun x => qops Γ r K ⟨put σ d x.1, x.2⟩) else qops Γ r K ⟨put σ d undef, h⟩ := rfl
  rw [e]
  by_cases hw : wants σ (some (t, b)) = true
  · simp only [qops, stepO, hw, if_true, putO]; cases aop Γ h.length (ev σ) h p <;> rfl
  · simp only [qops, stepO, hw, putO]; rfl
theorem gdK_congr {v v' : Value} {b : Bool} {p q : Prop} (h : v = v') : gdK v b p q = gdK v' b p q := by rw [h]
theorem gdK_tt (p q : Prop) : gdK (.bool true) true p q = p := rfl
theorem gdK_ff (p q : Prop) : gdK (.bool false) false p q = p := rfl
theorem gdK_tf (p q : Prop) : gdK (.bool true) false p q = q := rfl
theorem gdK_ft (p q : Prop) : gdK (.bool false) true p q = q := rfl
theorem gdK_split {c b : Bool} {p q : Prop} (hp : c = b → p) (hq : c = !b → q) : gdK (.bool c) b p q := by cases c <;> cases b <;> simp_all [gdK]

end

/-! The operations one by one. -/
section
variable (Γ : Ctx) (lo : Nat) (ρ : Opd → Value) (h : Heap)
theorem aop_mv (x : Opd) : aop Γ lo ρ h (.mv x) = some (ρ x, h) := rfl
theorem aop_pick (c a b : Opd) : aop Γ lo ρ h (.pick c a b) = (getB (ρ c)).map fun t => (if t then ρ a else ρ b, h) := rfl
theorem aop_alloc (e : TypeId) (z : List Value) : aop Γ lo ρ h (.alloc e z) = some (ptr h.length 0, h ++ [.cells e z]) := rfl
theorem aop_bin (op : BinOp) (x y : Opd) : aop Γ lo ρ h (.bin op x y) = (abin op (ρ x) (ρ y)).map fun v => (v, h) := rfl
theorem aop_un (op : UnOp) (x : Opd) : aop Γ lo ρ h (.un op x) = (aun op (ρ x)).map fun v => (v, h) := rfl
theorem aop_cvI (k : IntKind) (x : Opd) : aop Γ lo ρ h (.cvI k x) = (getI (ρ x)).map fun n => (.int k (k.wrap n), h) := rfl
theorem aop_call (f : Nat) (as : List Opd) : aop Γ lo ρ h (.call f as) = (Γ.get f).bind fun s => s lo (as.map ρ) h := rfl
theorem aop_eqB (neg : Bool) (x y : Opd) : aop Γ lo ρ h (.eqB neg x y) = (getB (ρ x)).bind fun a => (getB (ρ y)).map fun b => (.bool (if neg then !(a == b) else a == b), h) := rfl
theorem aop_eqN (neg : Bool) (x : Opd) : aop Γ lo ρ h (.eqN neg x) = (isNil (ρ x)).map fun b => (.bool (if neg then !b else b), h) := rfl
end
theorem ctx_get (g : Nat) (s : Sp) (r : Ctx) (f : Nat) : Ctx.get ((g, s) :: r) f = if f = g then some s else Ctx.get r f := rfl
theorem getB_bool (b : Bool) : getB (.bool b) = some b := rfl
theorem getI_int (k : IntKind) (n : Int) : getI (.int k n) = some n := rfl
theorem getP_ptr (b o : Nat) : getP (ptr b o) = some (b, o) := rfl


theorem done_scalar {h : Heap} {res : List AR} {r : Value} {s : St} (hr : rres s res = some r) (hm : r = mapV (unN h.length s.h.length []) r) (hf : ∀ b, b < h.length → s.h[b]? = h[b]?) : Done h res r h s :=
  .inr ⟨r, [], hr, by simp, by simp, by simp, hm, by simp, fun b hb => .inl ⟨rfl, hf b hb⟩⟩
theorem done_as {h h' : Heap} {res : List AR} {r : Value} {s : St} (hr : rres s res = some r) (hh : s.h = h') : Done h res r h' s := .inl ⟨hr, hh⟩
/-- One new block is kept: the k-th. -/
theorem done_one {h : Heap} {res : List AR} {r0 r : Value} {s : St} (k : Nat) (x : Blk) (hr : rres s res = some r0) (hk : h.length ≤ k) (hm : r0 = mapV (unN h.length s.h.length [k]) r)
    (hx : s.h[k]? = some (mapB (unN h.length s.h.length [k]) x)) (hf : ∀ b, b < h.length → s.h[b]? = h[b]?) : Done h res r (h ++ [x]) s := by
  refine .inr ⟨r0, [k], hr, by simpa using hk, by simp, by simp, hm, ?_, fun b hb => .inl ⟨List.getElem?_append_left hb, hf b hb⟩⟩
  intro i k' hi
  cases i with
  | zero => simp at hi; subst hi; exact ⟨x, by simp, hx⟩
  | succ i => simp at hi
theorem un_kept (n m k : Nat) : unN n m [k] n = k := by simp [unN]
theorem mapV_slc (u : Nat → Nat) (b o n : Nat) : mapV u (slc b o n) = slc (u b) o n := rfl
theorem mapVs_ints (u : Nat → Nat) (k : IntKind) (l : List Int) : mapVs u (l.map (.int k)) = l.map (.int k) := by
  rw [mapVs_eq, List.map_map]; congr 1
end Go.AH
