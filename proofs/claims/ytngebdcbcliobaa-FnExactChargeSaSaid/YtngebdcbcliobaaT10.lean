import Derived.Test.YtngebdcbcliobaaT9
set_option linter.unusedVariables false
namespace Go.AH

/-! ### Going through code over trees, by rewriting -/
def condKT (v : TV) (p q : Prop) : Prop := match v with | .p (.bool t) => if t then p else q | .ub => p ∧ q | _ => False
def gdKT (v : TV) (b : Bool) (p q : Prop) : Prop := match v with | .p (.bool c) => if c == b then p else q | .tup [] => q | _ => False
def seqKT (k : Nat) (Γ : TCtx) (j : Bool) (b : AC) (Q : Exit → TSt → Prop) (e : Exit) (s : TSt) : Prop := match e with
  | .normal => if j = true then ∃ s0, Le k s s0 ∧ awpT k Γ b Q s0 else awpT k Γ b Q s
  | e => Q e s
def kontR {α : Type} (o : Option α) (f : α → Prop) (q : Prop) : Prop := match o with | some a => f a | none => q
/-- What follows a block: one may go on from a state that says less. -/
def joinK (k : Nat) (Γ : TCtx) (b : AC) (Q : Exit → TSt → Prop) (s : TSt) : Prop := ∃ s0, Le k s s0 ∧ awpT k Γ b Q s0
def blkKT (id : Nat) (Q : Exit → TSt → Prop) (e : Exit) (s : TSt) : Prop := match e with | .exit i => if i = id then Q .normal s else Q (.exit i) s | e => Q e s
def loopKT (k : Nat) (R : Nat → TSt → Prop) (n : Nat) (Q : Exit → TSt → Prop) (e : Exit) (s : TSt) : Prop := match e with | .normal => ∃ m s0, m < n ∧ Le k s s0 ∧ R m s0 | e => Q e s
section
variable {k : Nat} {Γ : TCtx} {σ : Nat → TV} {h : THeap} {K : TSt → Prop} {Q : Exit → TSt → Prop} {r : List AO}
theorem putT_at (σ : Nat → TV) (d : Nat) (v : TV) (i : Nat) : putT σ d v i = if i = d then v else σ i := rfl
theorem argσT_nil (i : Nat) : argσT [] i = .any := by simp [argσT]
theorem argσT_cons (v : TV) (l : List TV) (i : Nat) : argσT (v :: l) i = if i = 0 then v else argσT l (i - 1) := by cases i <;> simp [argσT]
theorem evT_t (σ : Nat → TV) (i : Nat) : evT σ (.t i) = σ i := rfl
theorem evT_int (σ : Nat → TV) (kd : IntKind) (n : Int) : evT σ (.v (.int kd n)) = .p (.int kd n) := rfl
theorem evT_bool (σ : Nat → TV) (b : Bool) : evT σ (.v (.bool b)) = .p (.bool b) := rfl
theorem evT_str (σ : Nat → TV) (b : ByteArray) : evT σ (.v (.string b)) = .p (.string b) := rfl
theorem evT_nil (σ : Nat → TV) : evT σ (.v (.slice none 0 0)) = .nl := rfl
theorem evT_undef (σ : Nat → TV) : evT σ (.v (.tuple ⟨[]⟩)) = .tup [] := rfl
theorem evT_nilp (σ : Nat → TV) : evT σ (.v (.pointer none)) = .p (.pointer none) := rfl
theorem evT_fn (σ : Nat → TV) (f : Nat) : evT σ (.v (.func (.func f) ⟨[]⟩ ⟨[]⟩)) = .fn f [] := rfl
theorem evT_agg (σ : Nat → TV) (cs : List Value) (h : cs.all plainV = true) : evT σ (.v (.agg ⟨cs⟩)) = .agg (cs.map ofV1) := by simp only [evT, closedV, h, if_true]; rfl
theorem ofV1_int (kd : IntKind) (n : Int) : ofV1 (.int kd n) = .p (.int kd n) := rfl
theorem ofV1_bool (b : Bool) : ofV1 (.bool b) = .p (.bool b) := rfl
theorem ofV1_str (b : ByteArray) : ofV1 (.string b) = .p (.string b) := rfl
theorem ofV1_nil : ofV1 (.slice none 0 0) = .nl := rfl
theorem ofV1_nilp : ofV1 (.pointer none) = .p (.pointer none) := rfl
theorem ofV1_nili : ofV1 .nilIface = .p .nilIface := rfl
theorem plainV_int (kd : IntKind) (n : Int) : plainV (.int kd n) = true := rfl
theorem plainV_bool (b : Bool) : plainV (.bool b) = true := rfl
theorem plainV_str (b : ByteArray) : plainV (.string b) = true := rfl
theorem plainV_nil : plainV (.slice none 0 0) = true := rfl
theorem plainV_nilp : plainV (.pointer none) = true := rfl
theorem plainV_nili : plainV .nilIface = true := rfl
theorem oneT_p (v : Value) : oneT (.p v) = true := rfl
theorem oneT_nl : oneT .nl = true := rfl
theorem oneT_s (es : List TV) : oneT (.s es) = true := rfl
theorem oneT_fe (e : TV) (o : Nat) : oneT (.fe e o) = true := rfl
theorem oneT_os (b o n : Nat) : oneT (.os b o n) = true := rfl
theorem oneT_op (b o n : Nat) : oneT (.op b o n) = true := rfl
theorem oneT_fn (f : Nat) (cs : List TV) : oneT (.fn f cs) = true := rfl
theorem cells_agg (cs : List TV) : cellsT (.agg cs) = cs := rfl
theorem cells_p (v : Value) : cellsT (.p v) = [.p v] := rfl
theorem cells_nl : cellsT .nl = [.nl] := rfl
theorem cells_s (es : List TV) : cellsT (.s es) = [.s es] := rfl
theorem cells_fe (e : TV) (o : Nat) : cellsT (.fe e o) = [.fe e o] := rfl
theorem cells_os (b o n : Nat) : cellsT (.os b o n) = [.os b o n] := rfl
theorem cells_op (b o n : Nat) : cellsT (.op b o n) = [.op b o n] := rfl
theorem cells_fn (f : Nat) (cs : List TV) : cellsT (.fn f cs) = [.fn f cs] := rfl
theorem aggE_agg (cs : List TV) : aggE (.agg cs) = .agg cs := rfl
theorem el_one (c : TV) : el [c] = c := rfl
theorem el_two (a b : TV) (l : List TV) : el (a :: b :: l) = .agg (a :: b :: l) := rfl
theorem getIT_int (kd : IntKind) (n : Int) : getIT (.p (.int kd n)) = some n := rfl
theorem getBT_bool (b : Bool) : getBT (.p (.bool b)) = some b := rfl
theorem pB_p (op : BinOp) (a b : Value) : pB op (.p a) (.p b) = abin op a b := rfl
theorem pU_p (op : UnOp) (a : Value) : pU op (.p a) = aun op a := rfl
theorem tctx_get (g : Nat) (s : TSp) (r : TCtx) (f : Nat) : TCtx.get ((g, s) :: r) f = if f = g then some s else TCtx.get r f := rfl

theorem awpT_skip : awpT k Γ .skip Q ⟨σ, h⟩ = Q .normal ⟨σ, h⟩ := rfl
theorem awpT_ret : awpT k Γ .ret Q ⟨σ, h⟩ = Q .ret ⟨σ, h⟩ := rfl
theorem awpT_exit (id : Nat) : awpT k Γ (.exit id) Q ⟨σ, h⟩ = Q (.exit id) ⟨σ, h⟩ := rfl
theorem awpT_seq (a b : AC) : awpT k Γ (.seq a b) Q ⟨σ, h⟩ = awpT k Γ a (seqKT k Γ (isBlk a) b Q) ⟨σ, h⟩ := rfl
theorem awpT_reg (ops : List AO) : awpT k Γ (.reg ops) Q ⟨σ, h⟩ = ropsT Γ ops (Q .normal) ⟨σ, h⟩ := rfl
theorem awpT_drw (ops tail : List AO) : awpT k Γ (.drw ops tail) Q ⟨σ, h⟩ = qopsT Γ ops (ropsT Γ tail (Q .normal)) ⟨σ, h⟩ := rfl
theorem awpT_cond (c : Opd) (a b : AC) : awpT k Γ (.cond c a b) Q ⟨σ, h⟩ = condKT (evT σ c) (awpT k Γ a Q ⟨σ, h⟩) (awpT k Γ b Q ⟨σ, h⟩) := rfl
theorem awpT_block (id : Nat) (a : AC) : awpT k Γ (.block id a) Q ⟨σ, h⟩ = awpT k Γ a (blkKT id Q) ⟨σ, h⟩ := rfl
theorem seqKT_normal (a b : AC) (hb : isBlk a = false) : seqKT k Γ (isBlk a) b Q .normal ⟨σ, h⟩ = awpT k Γ b Q ⟨σ, h⟩ := by simp [seqKT, hb]
theorem seqKT_join (id : Nat) (a b : AC) : seqKT k Γ (isBlk (.block id (.loop a))) b Q .normal ⟨σ, h⟩ = joinK k Γ b Q ⟨σ, h⟩ := by simp [seqKT, isBlk, joinK]
theorem seqKT_b1 (id : Nat) (l : List AO) (b : AC) : seqKT k Γ (isBlk (.block id (.reg l))) b Q .normal ⟨σ, h⟩ = awpT k Γ b Q ⟨σ, h⟩ := by simp [seqKT, isBlk]
theorem seqKT_b2 (id : Nat) (c d b : AC) : seqKT k Γ (isBlk (.block id (.seq c d))) b Q .normal ⟨σ, h⟩ = awpT k Γ b Q ⟨σ, h⟩ := by simp [seqKT, isBlk]
theorem seqKT_b3 (id : Nat) (x : Opd) (c d b : AC) : seqKT k Γ (isBlk (.block id (.cond x c d))) b Q .normal ⟨σ, h⟩ = awpT k Γ b Q ⟨σ, h⟩ := by simp [seqKT, isBlk]
theorem seqKT_b4 (id id' : Nat) (c b : AC) : seqKT k Γ (isBlk (.block id (.block id' c))) b Q .normal ⟨σ, h⟩ = awpT k Γ b Q ⟨σ, h⟩ := by simp [seqKT, isBlk]
theorem seqKT_b5 (id : Nat) (l m : List AO) (b : AC) : seqKT k Γ (isBlk (.block id (.drw l m))) b Q .normal ⟨σ, h⟩ = awpT k Γ b Q ⟨σ, h⟩ := by simp [seqKT, isBlk]
theorem seqKT_b6 (id : Nat) (b : AC) : seqKT k Γ (isBlk (.block id .skip)) b Q .normal ⟨σ, h⟩ = awpT k Γ b Q ⟨σ, h⟩ := by simp [seqKT, isBlk]
theorem seqKT_reg (l : List AO) (b : AC) : seqKT k Γ (isBlk (.reg l)) b Q .normal ⟨σ, h⟩ = awpT k Γ b Q ⟨σ, h⟩ := by simp [seqKT, isBlk]
theorem seqKT_drw (l m : List AO) (b : AC) : seqKT k Γ (isBlk (.drw l m)) b Q .normal ⟨σ, h⟩ = awpT k Γ b Q ⟨σ, h⟩ := by simp [seqKT, isBlk]
theorem seqKT_seq (l m b : AC) (e : Exit) (s : TSt) : seqKT k Γ (isBlk (.seq l m)) b Q e s = seqKT k Γ (isBlk m) b Q e s := rfl
theorem seqKT_cond (c : Opd) (l m b : AC) : seqKT k Γ (isBlk (.cond c l m)) b Q .normal ⟨σ, h⟩ = awpT k Γ b Q ⟨σ, h⟩ := by simp [seqKT, isBlk]
theorem seqKT_skip (b : AC) : seqKT k Γ (isBlk .skip) b Q .normal ⟨σ, h⟩ = awpT k Γ b Q ⟨σ, h⟩ := by simp [seqKT, isBlk]
theorem seqKT_ret (j : Bool) (b : AC) : seqKT k Γ j b Q .ret ⟨σ, h⟩ = Q .ret ⟨σ, h⟩ := rfl
theorem seqKT_exit (j : Bool) (b : AC) (i : Nat) : seqKT k Γ j b Q (.exit i) ⟨σ, h⟩ = Q (.exit i) ⟨σ, h⟩ := rfl
theorem blkKT_normal (id : Nat) : blkKT id Q .normal ⟨σ, h⟩ = Q .normal ⟨σ, h⟩ := rfl
theorem blkKT_ret (id : Nat) : blkKT id Q .ret ⟨σ, h⟩ = Q .ret ⟨σ, h⟩ := rfl
theorem blkKT_exit (id i : Nat) : blkKT id Q (.exit i) ⟨σ, h⟩ = if i = id then Q .normal ⟨σ, h⟩ else Q (.exit i) ⟨σ, h⟩ := rfl
theorem loopKT_ret (R : Nat → TSt → Prop) (n : Nat) : loopKT k R n Q .ret ⟨σ, h⟩ = Q .ret ⟨σ, h⟩ := rfl
theorem loopKT_exit (R : Nat → TSt → Prop) (n i : Nat) : loopKT k R n Q (.exit i) ⟨σ, h⟩ = Q (.exit i) ⟨σ, h⟩ := rfl
theorem kontR_some {α : Type} (a : α) (f : α → Prop) (q : Prop) : kontR (some a) f q = f a := rfl
theorem ropsT_nil : ropsT Γ [] K ⟨σ, h⟩ = K ⟨σ, h⟩ := rfl
theorem qopsT_nil : qopsT Γ [] K ⟨σ, h⟩ = K ⟨σ, h⟩ := rfl
theorem ropsT_op (d : Nat) (p : AOp) : ropsT Γ (⟨some d, none, p⟩ :: r) K ⟨σ, h⟩ = kontR (top Γ 0 (evT σ) h p) (fun x => ropsT Γ r K ⟨putT σ d x.1, x.2⟩) (∃ s', stepR Γ ⟨some d, none, p⟩ ⟨σ, h⟩ s' ∧ ropsT Γ r K s') := by
  simp only [ropsT, stepT, putTO]; cases top Γ 0 (evT σ) h p <;> rfl
theorem ropsT_op0 (p : AOp) : ropsT Γ (⟨none, none, p⟩ :: r) K ⟨σ, h⟩ = kontR (top Γ 0 (evT σ) h p) (fun x => ropsT Γ r K ⟨σ, x.2⟩) (∃ s', stepR Γ ⟨none, none, p⟩ ⟨σ, h⟩ s' ∧ ropsT Γ r K s') := by
  simp only [ropsT, stepT, putTO]; cases top Γ 0 (evT σ) h p <;> rfl
theorem ropsT_mv (d : Nat) (x : Opd) : ropsT Γ (⟨some d, none, .mv x⟩ :: r) K ⟨σ, h⟩ = ropsT Γ r K ⟨putT σ d (evT σ x), h⟩ := rfl
theorem gdKT_un (b : Bool) (p q : Prop) : gdKT (.tup []) b p q = q := rfl
theorem gd_none {v : TV} {b : Bool} {p q : Prop} (h : ¬ ∃ c, v = .p (.bool c)) (h' : v ≠ .tup []) : gdKT v b p q = False := by
  unfold gdKT; split
  · exact absurd ⟨_, rfl⟩ h
  · exact absurd rfl h'
  · rfl
theorem ropsT_opg (d t : Nat) (b : Bool) (p : AOp) : ropsT Γ (⟨some d, some (t, b), p⟩ :: r) K ⟨σ, h⟩ =
    gdKT (σ t) b (kont (top Γ 0 (evT σ) h p) (fun x => ropsT Γ r K ⟨putT σ d x.1, x.2⟩)) (ropsT Γ r K ⟨putT σ d (.tup []), h⟩) := by
  by_cases hc : ∃ c, σ t = .p (.bool c)
  · obtain ⟨c, hc⟩ := hc
    simp only [ropsT, stepT, putTO, gdKT, hc]
    cases hcb : c == b
    · rfl
    · cases top Γ 0 (evT σ) h p
      · simp [kont, stepR]
      · rfl
  · by_cases hu : σ t = .tup []
    · simp only [ropsT, stepT, putTO, hu, gdKT_un]
    rw [gd_none hc hu]
    simp only [ropsT, stepT, putTO]
    split
    · rename_i s' hs
      split at hs
      · exact absurd ⟨_, by assumption⟩ hc
      · exact absurd (by assumption) hu
      · cases hs
    · simp [stepR]
theorem ropsT_opg0 (t : Nat) (b : Bool) (p : AOp) : ropsT Γ (⟨none, some (t, b), p⟩ :: r) K ⟨σ, h⟩ =
    gdKT (σ t) b (kont (top Γ 0 (evT σ) h p) (fun x => ropsT Γ r K ⟨σ, x.2⟩)) (ropsT Γ r K ⟨σ, h⟩) := by
  by_cases hc : ∃ c, σ t = .p (.bool c)
  · obtain ⟨c, hc⟩ := hc
    simp only [ropsT, stepT, putTO, gdKT, hc]
    cases hcb : c == b
    · rfl
    · cases top Γ 0 (evT σ) h p
      · simp [kont, stepR]
      · rfl
  · by_cases hu : σ t = .tup []
    · simp only [ropsT, stepT, putTO, hu, gdKT_un]
    rw [gd_none hc hu]
    simp only [ropsT, stepT, putTO]
    split
    · rename_i s' hs
      split at hs
      · exact absurd ⟨_, by assumption⟩ hc
      · exact absurd (by assumption) hu
      · cases hs
    · simp [stepR]
theorem qopsT_op (d : Nat) (p : AOp) : qopsT Γ (⟨some d, none, p⟩ :: r) K ⟨σ, h⟩ = kont (top Γ h.length (evT σ) h p) (fun x => qopsT Γ r K ⟨putT σ d x.1, x.2⟩) := by
  simp only [qopsT, stepT, putTO]; cases top Γ h.length (evT σ) h p <;> rfl
theorem qopsT_op0 (p : AOp) : qopsT Γ (⟨none, none, p⟩ :: r) K ⟨σ, h⟩ = kont (top Γ h.length (evT σ) h p) (fun x => qopsT Γ r K ⟨σ, x.2⟩) := by
  simp only [qopsT, stepT, putTO]; cases top Γ h.length (evT σ) h p <;> rfl
theorem qopsT_mv (d : Nat) (x : Opd) : qopsT Γ (⟨some d, none, .mv x⟩ :: r) K ⟨σ, h⟩ = qopsT Γ r K ⟨putT σ d (evT σ x), h⟩ := rfl
theorem qopsT_opg (d t : Nat) (b : Bool) (p : AOp) : qopsT Γ (⟨some d, some (t, b), p⟩ :: r) K ⟨σ, h⟩ =
    gdKT (σ t) b (kont (top Γ h.length (evT σ) h p) (fun x => qopsT Γ r K ⟨putT σ d x.1, x.2⟩)) (qopsT Γ r K ⟨putT σ d (.tup []), h⟩) := by
  by_cases hc : ∃ c, σ t = .p (.bool c)
  · obtain ⟨c, hc⟩ := hc
    simp only [qopsT, stepT, putTO, gdKT, hc]
    cases hcb : c == b
    · rfl
    · cases top Γ h.length (evT σ) h p <;> rfl
  · by_cases hu : σ t = .tup []
    · simp only [qopsT, stepT, putTO, hu, gdKT_un]
    rw [gd_none hc hu]
    simp only [qopsT, stepT, putTO]
    split
    · rename_i s' hs
      split at hs
      · exact absurd ⟨_, by assumption⟩ hc
      · exact absurd (by assumption) hu
      · cases hs
    · rfl
theorem condKT_ub (p q : Prop) : condKT .ub p q = (p ∧ q) := rfl
theorem condKT_true (p q : Prop) : condKT (.p (.bool true)) p q = p := rfl
theorem condKT_false (p q : Prop) : condKT (.p (.bool false)) p q = q := rfl
theorem gdKT_tt (p q : Prop) : gdKT (.p (.bool true)) true p q = p := rfl
theorem gdKT_ff (p q : Prop) : gdKT (.p (.bool false)) false p q = p := rfl
theorem gdKT_tf (p q : Prop) : gdKT (.p (.bool true)) false p q = q := rfl
theorem gdKT_ft (p q : Prop) : gdKT (.p (.bool false)) true p q = q := rfl
theorem condKT_split {b : Bool} {p q : Prop} (hp : b = true → p) (hq : b = false → q) : condKT (.p (.bool b)) p q := by cases b; exact hq rfl; exact hp rfl
theorem condKT_dec {c : Prop} [Decidable c] {p q : Prop} (hp : c → p) (hq : ¬ c → q) : condKT (.p (.bool (decide c))) p q := by
  by_cases h : c
  · simp only [h, decide_true]; exact hp h
  · simp only [h, decide_false]; exact hq h
theorem gdKT_dec {c : Prop} [Decidable c] {b : Bool} {p q : Prop} (hp : c → gdKT (.p (.bool true)) b p q) (hq : ¬ c → gdKT (.p (.bool false)) b p q) : gdKT (.p (.bool (decide c))) b p q := by
  by_cases h : c
  · simp only [h, decide_true]; exact hp h
  · simp only [h, decide_false]; exact hq h
theorem gdKT_split {c b : Bool} {p q : Prop} (hp : c = true → gdKT (.p (.bool true)) b p q) (hq : c = false → gdKT (.p (.bool false)) b p q) : gdKT (.p (.bool c)) b p q := by cases c; exact hq rfl; exact hp rfl
theorem kontR_cong {α : Type} {o : Option α} {o' : Unit → Option α} {f : α → Prop} {q : Prop} (h : ∀ u, tag o = o' u) : kontR o f q = kontR (o' ()) f q := by rw [← h]; rfl
/-- A call whose end is told by a relation. -/
theorem rel_call {R : List TV → THeap → TV → THeap → Prop} {f d : Nat} {as : List Opd} {a : List TV} {hh : THeap} {t : Nat} {F : TV × THeap → Prop} (tv : TV) (h' : THeap) (hg : Γ.get f = some (relSp R)) (hR : R (as.map (evT σ)) h tv h') (hk : ropsT Γ r K ⟨putT σ d tv, h'⟩) :
    kontR ((relSp R).fn t a hh) F (∃ s', stepR Γ ⟨some d, none, .call f as⟩ ⟨σ, h⟩ s' ∧ ropsT Γ r K s') :=
  ⟨_, ⟨rfl, f, as, _, tv, h', rfl, hg, hR, rfl⟩, hk⟩
theorem condKT_cong {v : TV} {v' : Unit → TV} {p q : Prop} (h : ∀ u, tag v = v' u) : condKT v p q = condKT (v' ()) p q := by rw [← h]; rfl
theorem gdKT_cong {v : TV} {v' : Unit → TV} {b : Bool} {p q : Prop} (h : ∀ u, tag v = v' u) : gdKT v b p q = gdKT (v' ()) b p q := by rw [← h]; rfl
theorem awpT_cong {c : AC} {s : TSt} {s' : Unit → TSt} (h : ∀ u, tag s = s' u) : awpT k Γ c Q s = awpT k Γ c Q (s' ()) := by rw [← h]; rfl
theorem ropsT_cong {ops : List AO} {s : TSt} {s' : Unit → TSt} (h : ∀ u, tag s = s' u) : ropsT Γ ops K s = ropsT Γ ops K (s' ()) := by rw [← h]; rfl
theorem qopsT_cong {ops : List AO} {s : TSt} {s' : Unit → TSt} (h : ∀ u, tag s = s' u) : qopsT Γ ops K s = qopsT Γ ops K (s' ()) := by rw [← h]; rfl
theorem joinK_cong {b : AC} {s : TSt} {s' : Unit → TSt} (h : ∀ u, tag s = s' u) : joinK k Γ b Q s = joinK k Γ b Q (s' ()) := by rw [← h]; rfl
theorem loopKT_cong {R : Nat → TSt → Prop} {n : Nat} {e : Exit} {s : TSt} {s' : Unit → TSt} (h : ∀ u, tag s = s' u) : loopKT k R n Q e s = loopKT k R n Q e (s' ()) := by rw [← h]; rfl
theorem EndT_cong {res : List AR} {t : TV} {hL : THeap} {e : Exit} {s : TSt} {s' : Unit → TSt} (h : ∀ u, tag s = s' u) : EndT res t hL e s = EndT res t hL e (s' ()) := by rw [← h]; rfl
end

/-! ### States that say less -/
def slots : List (Nat × TV) → Nat → TV
  | [] => fun _ => .any
  | (d, v) :: l => putT (slots l) d v
def rho (ks : List Nat) (m : Nat) (b : Nat) : Nat := match ks[b]? with
  | some x => x
  | none => m + b
def slotsOk (σ : Nat → TV) (ρ : Nat → Nat) : List (Nat × TV) → Prop
  | [] => True
  | (d, v) :: l => σ d = renT ρ v ∧ slotsOk σ ρ l
def blksOk (h : THeap) (ρ : Nat → Nat) : List Nat → THeap → Prop
  | k :: ks, .cells e z es :: h0 => h[k]? = some (.cells e z (renTs ρ es)) ∧ blksOk h ρ ks h0
  | _ :: ks, .dead :: h0 => blksOk h ρ ks h0
  | [], [] => True
  | _, _ => False
theorem blksOk_len {h : THeap} {ρ : Nat → Nat} : ∀ {ks : List Nat} {h0 : THeap}, blksOk h ρ ks h0 → ks.length = h0.length
  | k :: ks, .cells e z es :: h0, hh => by simp only [blksOk] at hh; simp [blksOk_len hh.2]
  | k :: ks, .dead :: h0, hh => by simp only [blksOk] at hh; simp [blksOk_len hh]
  | [], [], _ => rfl
  | [], _ :: _, hh => by simp [blksOk] at hh
  | _ :: _, [], hh => by simp [blksOk] at hh
theorem blksOk_get {h : THeap} {ρ : Nat → Nat} : ∀ {ks : List Nat} {h0 : THeap}, blksOk h ρ ks h0 → ∀ (b : Nat) (e : TypeId) (z : Nat) (es : List TV), h0[b]? = some (.cells e z es) → ∃ k, ks[b]? = some k ∧ h[k]? = some (.cells e z (renTs ρ es))
  | k :: ks, .cells e z es :: h0, hh, b, e', z', es', hb => by
    simp only [blksOk] at hh
    cases b with
    | zero => simp at hb; obtain ⟨rfl, rfl, rfl⟩ := hb; exact ⟨k, rfl, hh.1⟩
    | succ b => simpa using blksOk_get hh.2 b e' z' es' (by simpa using hb)
  | k :: ks, .dead :: h0, hh, b, e', z', es', hb => by
    simp only [blksOk] at hh
    cases b with
    | zero => simp at hb
    | succ b => simpa using blksOk_get hh b e' z' es' (by simpa using hb)
  | [], [], _, b, e', z', es', hb => by simp at hb
  | [], _ :: _, hh, _, _, _, _, _ => by simp [blksOk] at hh
  | _ :: _, [], hh, _, _, _, _, _ => by simp [blksOk] at hh
theorem slotsOk_at {σ : Nat → TV} {ρ : Nat → Nat} : ∀ {l : List (Nat × TV)}, slotsOk σ ρ l → ∀ t, slots l t = .any ∨ σ t = renT ρ (slots l t)
  | [], _, t => .inl rfl
  | (d, v) :: l, h, t => by
    simp only [slotsOk] at h
    simp only [slots, putT]
    by_cases e : t = d
    · subst e; rw [if_pos rfl]; exact .inr h.1
    · rw [if_neg e]; exact slotsOk_at h.2 t
theorem rho_ok {ks : List Nat} {m k : Nat} {s : TSt} {h0 : THeap} (hnd : ks.Nodup) (hlt : ∀ x ∈ ks, x < m) (hl : ks.length = h0.length) : (∀ b b', b < h0.length → b' < h0.length → rho ks m b = rho ks m b' → b = b') ∧ (∀ b, h0.length ≤ b → m ≤ rho ks m b) := by
  constructor
  · intro b b' hb hb' h
    have e1 : ks[b]? = some ks[b] := by simp [hl, hb]
    have e2 : ks[b']? = some ks[b'] := by simp [hl, hb']
    simp only [rho, e1, e2] at h
    exact (List.getElem_inj hnd).1 h
  · intro b hb
    have : ks[b]? = none := List.getElem?_eq_none (by omega)
    simp only [rho, this]; omega
/-- Less is said: the slots of the list, and the blocks ks. -/
theorem le_of {s : TSt} {l : List (Nat × TV)} {h0 : THeap} (ks : List Nat) (hs : slotsOk s.σ (rho ks s.h.length) l) (hb : blksOk s.h (rho ks s.h.length) ks h0) (hnd : ks.Nodup) (hlt : ∀ x ∈ ks, x < s.h.length) : Le 0 s ⟨slots l, h0⟩ := by
  obtain ⟨h1, h2⟩ := rho_ok (k := 0) (s := s) hnd hlt (blksOk_len hb)
  refine ⟨rho ks s.h.length, fun i hi => absurd hi (by omega), Nat.zero_le _, h1, h2, slotsOk_at hs, fun b e z es h => ?_⟩
  obtain ⟨x, hx, hx2⟩ := blksOk_get hb b e z es h
  simp only [rho, hx]; exact hx2
theorem le_same (k : Nat) (s : TSt) (hk : k ≤ s.h.length) : Le k s s := by
  have id1 : ∀ (t : TV), renT (fun b => b) t = t := by
    have : (∀ t : TV, renT (fun b => b) t = t) ∧ ∀ ts : List TV, renTs (fun b => b) ts = ts := by
      constructor
      · intro t
        induction t using TV.rec (motive_2 := fun ts => renTs (fun b => b) ts = ts) with
        | agg cs ih => simp only [renT, ih]
        | tup cs ih => simp only [renT, ih]
        | fn f cs ih => simp only [renT, ih]
        | nil => rfl
        | cons a b h1 h2 => simp only [renTs, h1, h2]
        | _ => rfl
      · intro ts
        induction ts using TV.rec_1 (motive_1 := fun t => renT (fun b => b) t = t) with
        | agg cs ih => simp only [renT, ih]
        | tup cs ih => simp only [renT, ih]
        | fn f cs ih => simp only [renT, ih]
        | nil => rfl
        | cons a b h1 h2 => simp only [renTs, h1, h2]
        | _ => rfl
    exact this.1
  have id2 : ∀ (ts : List TV), renTs (fun b => b) ts = ts := fun ts => by
    induction ts with
    | nil => rfl
    | cons a l ih => simp only [renTs, id1, ih]
  exact ⟨fun b => b, fun _ _ => rfl, hk, fun _ _ _ _ h => h, fun b hb => hb, fun t => .inr (id1 _).symm, fun b e z es h => by rw [id2]; exact h⟩
theorem joinK_here {Γ : TCtx} {b : AC} {Q : Exit → TSt → Prop} {s : TSt} (h : awpT 0 Γ b Q s) : joinK 0 Γ b Q s := ⟨s, le_same 0 s (Nat.zero_le _), h⟩
theorem joinK_at {k : Nat} {Γ : TCtx} {b : AC} {Q : Exit → TSt → Prop} {s : TSt} (s0 : TSt) (hl : Le k s s0) (h : awpT k Γ b Q s0) : joinK k Γ b Q s := ⟨s0, hl, h⟩
/-- The states that come round. -/
def roundR {α : Type} (I : α → TSt) (P : α → Prop) (m : α → Nat) (n : Nat) (s : TSt) : Prop := ∃ y, P y ∧ m y = n ∧ s = I y
/-- A loop: the states that come round, told by x. -/
theorem awpT_loop {α : Type} {k : Nat} {Γ : TCtx} {a : AC} {Q : Exit → TSt → Prop} {s : TSt} (I : α → TSt) (P : α → Prop) (m : α → Nat) (x0 : α) (hp : P x0) (h0 : Le k s (I x0))
    (round : ∀ x, P x → awpT k Γ a (loopKT k (roundR I P m) (m x) Q) (I x)) : awpT k Γ (.loop a) Q s := by
  refine ⟨roundR I P m, ⟨_, _, h0, x0, hp, rfl, rfl⟩, fun n s' ⟨y, hy, hn, hs⟩ => ?_⟩
  subst hn; subst hs
  exact round y hy
theorem loopKT_next {α : Type} {k : Nat} {Q : Exit → TSt → Prop} {s : TSt} {I : α → TSt} {P : α → Prop} {m : α → Nat} {n : Nat} (y : α) (hp : P y) (hm : m y < n) (hl : Le k s (I y)) :
    loopKT k (roundR I P m) n Q .normal s := ⟨m y, I y, hm, hl, y, hp, rfl, rfl⟩
/-- The end of a body. -/
theorem endT_of {res : List AR} {r tv : TV} {hL : THeap} {e : Exit} {s : TSt} (ks : List Nat) (he : e = .normal ∨ e = .ret) (hr : rresT s res = some tv) (hv : tv = renT (rho ks s.h.length) r) (hb : blksOk s.h (rho ks s.h.length) ks hL) (hnd : ks.Nodup) (hlt : ∀ x ∈ ks, x < s.h.length) :
    EndT res r hL e s := by
  refine ⟨he, tv, hr, ?_⟩
  obtain ⟨h1, h2⟩ := rho_ok (k := 0) (s := s) hnd hlt (blksOk_len hb)
  refine ⟨rho ks s.h.length, fun i hi => absurd hi (by omega), Nat.zero_le _, h1, h2, fun _ => .inr hv, fun b e z es h => ?_⟩
  obtain ⟨x, hx, hx2⟩ := blksOk_get hb b e z es h
  simp only [rho, hx]; exact hx2
theorem endT_v {res : List AR} {r : TV} {e : Exit} {s : TSt} (he : e = .normal ∨ e = .ret) (hr : rresT s res = some r) (hv : ∀ ρ, renT ρ r = r) : EndT res r [] e s :=
  endT_of [] he hr (hv _).symm trivial List.nodup_nil (fun _ h => by cases h)

/-! ### What a function answers -/
open Classical in
noncomputable def specP {α : Type} (enc : α → List TV) (Pre : α → Prop) (R : α → TV × THeap) (args : List TV) : Option (TV × THeap) :=
  if h : ∃ x, args = enc x ∧ Pre x then some (R (Classical.choose h)) else none
theorem specP_at {α : Type} {enc : α → List TV} {Pre : α → Prop} {R : α → TV × THeap} (inj : ∀ x y, enc x = enc y → x = y) (x : α) (hx : Pre x) : specP enc Pre R (enc x) = some (R x) := by
  have h : ∃ y, enc x = enc y ∧ Pre y := ⟨x, rfl, hx⟩
  unfold specP
  rw [dif_pos h]
  rw [← inj _ _ (Classical.choose_spec h).1]
theorem specP_some {α : Type} {enc : α → List TV} {Pre : α → Prop} {R : α → TV × THeap} {args : List TV} {r : TV × THeap} (h : specP enc Pre R args = some r) : ∃ x, args = enc x ∧ Pre x ∧ r = R x := by
  unfold specP at h
  split at h
  · rename_i hx; cases h; exact ⟨_, (Classical.choose_spec hx).1, (Classical.choose_spec hx).2, rfl⟩
  · cases h
section
variable {P : Program} {ΓT : TCtx} {f : Nat} {fn : Func} {af : AF} {α : Type} {enc : α → List TV} {Pre : α → Prop} {R : α → TV × THeap}
theorem okT_fn (hΓ : OkΓT P ΓT) (hf : P.funcs[f]? = some fn) (hcall : callable P f = true) (hc : cFn P fn = some af)
    (hown : ∀ x, Pre x → ownT (R x).1 = true ∧ (R x).2.all ownB = true)
    (H : ∀ x, Pre x → awpT 0 ΓT af.code (EndT af.res (R x).1 (R x).2) ⟨argσT (enc x), []⟩) : OkT P f (pureSp (specP enc Pre R)) :=
  okT_pure hΓ hf hcall hc (fun args r hL h => by obtain ⟨x, _, hp, hr⟩ := specP_some h; have := hown x hp; rw [← hr] at this; exact this)
    (fun args r hL h => by obtain ⟨x, rfl, hp, hr⟩ := specP_some h; have := H x hp; rw [← hr] at this; exact this)
theorem okT_sh (hΓ : OkΓT P ΓT) (hf : P.funcs[f]? = some fn) (hcall : callable P f = true) (hc : cFn P fn = some af)
    (H : ∀ x, Pre x → awpT 0 ΓT af.code (EndT af.res (R x).1 (R x).2) ⟨argσT (enc x), []⟩) : OkT P f (shareSp (specP enc Pre R)) :=
  okT_share hΓ hf hcall hc (fun args r hL h => by obtain ⟨x, rfl, hp, hr⟩ := specP_some h; have := H x hp; rw [← hr] at this; exact this)
end
end Go.AH
