import Derived.Test.YtngebdcbcliobaaT1
namespace Go.AH

/-- What a callee answers: as a function, where it writes nothing of its caller's; told by a relation otherwise. -/
structure TSp where
  fn : Nat → List TV → THeap → Option (TV × THeap)
  rel : List TV → THeap → TV → THeap → Prop
abbrev TCtx := List (Nat × TSp)
def TCtx.get : TCtx → Nat → Option TSp
  | [], _ => none
  | (g, s) :: r, f => if f = g then some s else TCtx.get r f
def evT (σ : Nat → TV) : Opd → TV
  | .t i => σ i
  | .v x => if closedV x = true then ofV x else .any
def getIT : TV → Option Int
  | .p (.int _ n) => some n
  | _ => none
def getBT : TV → Option Bool
  | .p (.bool b) => some b
  | _ => none
def rdT (h : THeap) : TV → Option (List TV)
  | .nl => some []
  | .s es => some es
  | .os b o n => match h[b]? with
    | some (.cells _ _ es) => if o + n ≤ es.length then some ((es.drop o).take n) else none
    | _ => none
  | _ => none
/-- The element at which a pointer points, and the cell in it. -/
def elT (h : THeap) : TV → Option (TV × Nat)
  | .op b i o => match h[b]? with
    | some (.cells _ _ es) => (es[i]?).map fun e => (e, o)
    | _ => none
  | .fe e o => some (e, o)
  | _ => none
def aggE : TV → TV
  | .agg cs => .agg cs
  | v => .agg [v]
def elAt (e : TV) (o n : Nat) : Option TV :=
  if o = 0 ∧ (cellsT e).length = n then some (aggE e) else if o + n ≤ (cellsT e).length then some (.agg (((cellsT e).drop o).take n)) else none
def fillT (z : List TV) : List (Nat × Nat × TV) → Option (List TV)
  | [] => some z
  | (off, n, v) :: r => if (cellsT v).length = n ∧ off + n ≤ z.length ∧ (cellsT v).all oneT = true then fillT (z.take off ++ cellsT v ++ z.drop (off + n)) r else none
def chunksT (k : Nat) : Nat → List TV → List TV
  | 0, _ => []
  | n + 1, cs => el (cs.take k) :: chunksT k n (cs.drop k)
def mkEls (ρ : Opd → TV) (n : Nat) (z : List Value) (ps : List (Nat × Nat × Opd)) : Option (List TV) :=
  match n, ps with
  | 1, [(0, k, x)] => if k = z.length ∧ (cellsT (ρ x)).length = k ∧ (cellsT (ρ x)).all oneT = true then some [ρ x] else none
  | n, ps => (fillT (z.map ofV1) (ps.map fun p => (p.1, p.2.1, ρ p.2.2))).bind fun cs => if z.all plainV = true ∧ cs.all oneT = true ∧ cs.length = n * (z.length / n) then some (chunksT (z.length / n) n cs) else none
def optIT (ρ : Opd → TV) (dft : Int) : Option Opd → Option Int
  | none => some dft
  | some x => getIT (ρ x)
def zAt (h : THeap) (b z : Nat) : Bool := match h[b]? with
  | some (.cells _ z' _) => z' == z
  | _ => false
def u8T : TV → Option UInt8
  | .p v => u8of v
  | _ => none
def pB (op : BinOp) : TV → TV → Option Value
  | .p a, .p b => abin op a b
  | _, _ => none
def pU (op : UnOp) : TV → Option Value
  | .p a => aun op a
  | _ => none
def pI (x i : TV) : Option Value := match x, getIT i with
  | .p (.string s), some i => if 0 ≤ i then (s[i.toNat]?).map fun b => .int .u8 b.toNat else none
  | _, _ => none

def eqTs : List EK → List TV → List TV → Option Bool
  | [], [], [] => some true
  | k :: ks, .p x :: xs, .p y :: ys => (eqC k x y).bind fun b => (eqTs ks xs ys).map fun c => b && c
  | _, _, _ => none
def mmT (mx : Bool) : TV → TV → Option Value
  | .p (.int k a), .p (.int _ b) => some (.int k (if mx then (if b > a then b else a) else (if b < a then b else a)))
  | _, _ => none
def top (Γ : TCtx) (tlo : Nat) (ρ : Opd → TV) (h : THeap) : AOp → Option (TV × THeap)
  | .mv x => some (ρ x, h)
  | .pick c a b => (getBT (ρ c)).map fun t => (if t then ρ a else ρ b, h)
  | .alloc e z => if z.all plainV = true ∧ z.all one = true then some (.op h.length 0 0, h ++ [.cells e z.length [el (z.map ofV1)]]) else none
  | .box e x => if (cellsT (ρ x)).all oneT = true then some (.op h.length 0 0, h ++ [.cells e (cellsT (ρ x)).length [ρ x]]) else none
  | .build z ps => if z.all plainV = true then (fillT (z.map ofV1) (ps.map fun p => (p.1, p.2.1, ρ p.2.2))).map fun cs => (.agg cs, h) else none
  | .mkS e n z ps => (mkEls ρ n z ps).map fun es => (.os h.length 0 n, h ++ [.cells e (z.length / n) es])
  | .mkE => some (.nl, h)
  | .ld x => (elT h (ρ x)).bind fun p => ((cellsT p.1)[p.2]?).map fun v => (v, h)
  | .ldn n x => (elT h (ρ x)).bind fun p => (elAt p.1 p.2 n).map fun v => (v, h)
  | .st n x v => match ρ x with
    | .op b i o => match h[b]? with
      | some (.cells e z es) => (es[i]?).bind fun e0 => if tlo ≤ b ∧ (cellsT (ρ v)).length = n ∧ o + n ≤ (cellsT e0).length ∧ (cellsT (ρ v)).all oneT = true ∧ (cellsT e0).all oneT = true
          then some (.tup [], h.set b (.cells e z (es.set i (setE e0 o (ρ v))))) else none
      | _ => none
    | _ => none
  | .bin op x y => (pB op (ρ x) (ρ y)).map fun v => (.p v, h)
  | .un op x => (pU op (ρ x)).map fun v => (.p v, h)
  | .eqB neg x y => (getBT (ρ x)).bind fun a => (getBT (ρ y)).map fun b => (.p (.bool (if neg then !(a == b) else a == b)), h)
  | .eqN neg x => match ρ x with
    | .s es => if 0 < es.length then some (.p (.bool neg), h) else some (.ub, h)
    | .os _ _ n => if 0 < n then some (.p (.bool neg), h) else some (.ub, h)
    | .nl => some (.ub, h)
    | _ => none
  | .cvI k x => (getIT (ρ x)).map fun n => (.p (.int k (k.wrap n)), h)
  | .cvBS x => (rdT h (ρ x)).bind fun es => (es.mapM u8T).map fun bs => (.p (.string ⟨⟨bs⟩⟩), h)
  | .sl z x lo hi => match ρ x with
    | .s es => (optIT ρ 0 lo).bind fun l => (optIT ρ es.length hi).bind fun r => if 0 ≤ l ∧ l ≤ r ∧ r ≤ es.length ∧ sizedT z es = true then some (.s ((es.drop l.toNat).take (r - l).toNat), h) else none
    | .os b o n => (optIT ρ 0 lo).bind fun l => (optIT ρ n hi).bind fun r => if 0 ≤ l ∧ l ≤ r ∧ r ≤ n ∧ (l = 0 ∨ zAt h b z = true) then some (.os b (o + l.toNat) (r - l).toNat, h) else none
    | .nl => (optIT ρ 0 lo).bind fun l => (optIT ρ 0 hi).bind fun r => if l = 0 ∧ r = 0 then some (.nl, h) else none
    | _ => none
  | .slT x lo hi => match ρ x with
    | .p (.string s) => (optIT ρ 0 lo).bind fun l => (optIT ρ s.size hi).bind fun r => if 0 ≤ l ∧ l ≤ r ∧ r ≤ s.size then some (.p (.string (s.extract l.toNat r.toNat)), h) else none
    | _ => none
  | .fa x off => match ρ x with
    | .op b i o => some (.op b i (o + off), h)
    | .fe e o => some (.fe e (o + off), h)
    | _ => none
  | .fld x off => match ρ x with
    | .agg cs => (cs[off]?).map fun v => (v, h)
    | _ => none
  | .fldn n x off => match ρ x with
    | .agg cs => if off + n ≤ cs.length then some (.agg ((cs.drop off).take n), h) else none
    | _ => none
  | .ia z x i => (getIT (ρ i)).bind fun i => match ρ x with
    | .s es => if 0 ≤ i then (es[i.toNat]?).bind fun e => if (cellsT e).length = z then some (.fe e 0, h) else none else none
    | .os b o n => if 0 ≤ i ∧ i < n ∧ zAt h b z = true then some (.op b (o + i.toNat) 0, h) else none
    | _ => none
  | .ix x i => (pI (ρ x) (ρ i)).map fun v => (.p v, h)
  | .fn f cs => some (.fn f (cs.map ρ), h)
  | .ext x i => match ρ x with
    | .tup vs => (vs[i]?).map fun v => (v, h)
    | _ => none
  | .nilc x => match ρ x with
    | .op b i o => some (.op b i o, h)
    | .fe e o => some (.fe e o, h)
    | _ => none
  | .len x => match ρ x with
    | .s es => some (.p (.int .i64 es.length), h)
    | .os _ _ n => some (.p (.int .i64 n), h)
    | .nl => some (.p (.int .i64 0), h)
    | _ => none
  | .lenT x => match ρ x with
    | .p (.string s) => some (.p (.int .i64 s.size), h)
    | _ => none
  | .app e z bts x y => (rdT h (ρ y)).bind fun ys => match ρ x with
    | .nl => if sizedT z ys = true ∧ ys.length * bts ≤ 140737488355328 ∧ ys.length ≤ maxLen then some (.os h.length 0 ys.length, h ++ [.cells e z ys]) else none
    | .os b o n => match h[b]? with
      | some (.cells e' z' es) => if o = 0 ∧ n ≤ es.length ∧ tlo ≤ b ∧ e' = e ∧ (z' = z ∨ n = 0) ∧ sizedT z ys = true ∧ (n + ys.length) * bts ≤ 140737488355328 ∧ n + ys.length ≤ maxLen
          then some (.os h.length 0 (n + ys.length), h.set b .dead ++ [.cells e z (es.take n ++ ys)]) else none
      | _ => none
    | _ => none
  | .mkSl e z bts zc l c => (getIT (ρ l)).bind fun l => (getIT (ρ c)).bind fun c => if 0 ≤ l ∧ l ≤ c ∧ bts * c ≤ 281474976710656 ∧ c ≤ maxLen ∧ zc.all plainV = true ∧ zc.all one = true then
      some (.os h.length 0 l.toNat, h ++ [.cells e zc.length (List.replicate c.toNat (el (zc.map ofV1)))]) else none
  | .fail => none
  | .eqS neg ks x y => match ρ x, ρ y with
    | .agg xs, .agg ys => (eqTs ks xs ys).map fun b => (.p (.bool (if neg then !b else b)), h)
    | _, _ => none
  | .capZ x => match ρ x with
    | .nl => some (.p (.int .i64 0), h)
    | _ => none
  | .mm mx x y => (mmT mx (ρ x) (ρ y)).map fun v => (.p v, h)
  | .cpy z x y => (rdT h (ρ y)).bind fun ys => match ρ x with
    | .os b o n => match h[b]? with
      | some (.cells e z' es) => if tlo ≤ b ∧ z' = z ∧ sizedT z ys = true ∧ n ≠ 0 ∧ o + n ≤ es.length then
          some (.p (.int .i64 (min ys.length n : Nat)), h.set b (.cells e z' (es.take o ++ (ys.take (min ys.length n) ++ es.drop (o + min ys.length n))))) else none
      | _ => none
    | _ => none
  | .call f as => (Γ.get f).bind fun s => s.fn tlo (as.map ρ) h
  | .callv x as => match ρ x with
    | .fn f cs => (Γ.get f).bind fun s => s.fn tlo (as.map ρ ++ cs) h
    | _ => none

/-! ### How a heap of trees stands to a heap -/
structure HT (φ : Own) (Φ : Frz) (hT : THeap) (hA : Heap) : Prop where
  dom : ∀ b c z, φ b = some (c, z) → b < hT.length ∧ c < hA.length
  inj : ∀ b b' c z z', φ b = some (c, z) → φ b' = some (c, z') → b = b'
  live : ∀ b e z es, hT[b]? = some (.cells e z es) → (φ b = none ∧ es = []) ∨ ∃ c cs, φ b = some (c, z) ∧ hA[c]? = some (.cells e cs) ∧ sizedT z es = true ∧ VTs φ Φ (flatT es) cs
  frz : ∀ c cs, Φ c = some cs → ∃ e, hA[c]? = some (.cells e cs)
  disj : ∀ b c z cs, φ b = some (c, z) → Φ c = some cs → False
structure Adv (tlo : Nat) (φ φ' : Own) (hT hT' : THeap) (hA hA' : Heap) : Prop where
  tlen : hT.length ≤ hT'.length
  old : ∀ b, b < hT.length → φ' b = φ b
  new : ∀ b c z, hT.length ≤ b → φ' b = some (c, z) → hA.length ≤ c
  alen : hA.length ≤ hA'.length
  fr : ∀ c, c < hA.length → (∀ b z, tlo ≤ b → φ b ≠ some (c, z)) → hA'[c]? = hA[c]?
def Snd (Φ : Frz) (φ : Own) (tlo : Nat) (hT hT' : THeap) (hA : Heap) (tv : TV) (r : Option (Value × Heap)) : Prop :=
  ∃ v hA' φ', r = some (v, hA') ∧ VT φ' Φ tv v ∧ HT φ' Φ hT' hA' ∧ Adv tlo φ φ' hT hT' hA hA'

section
variable {φ φ' : Own} {Φ : Frz} {hT hT' : THeap} {hA hA' : Heap} {tlo : Nat}

theorem HT.fresh (H : HT φ Φ hT hA) (b : Nat) (hb : hT.length ≤ b) : φ b = none := by
  cases h : φ b with
  | none => rfl
  | some x => have := (H.dom b x.1 x.2 h).1; omega
theorem Adv.refl (H : HT φ Φ hT hA) : Adv tlo φ φ hT hT hA hA := ⟨Nat.le_refl _, fun _ _ => rfl, fun b c z hb h => (by rw [H.fresh b hb] at h; cases h), Nat.le_refl _, fun _ _ _ => rfl⟩
theorem Adv.ext (A : Adv tlo φ φ' hT hT' hA hA') (H : HT φ Φ hT hA) : ∀ b x, φ b = some x → φ' b = some x := fun b x h => by
  rw [A.old b (H.dom b x.1 x.2 h).1]; exact h
theorem Adv.trans {φ'' : Own} {hT'' : THeap} {hA'' : Heap} (H : HT φ Φ hT hA) (A : Adv tlo φ φ' hT hT' hA hA') (A' : Adv tlo φ' φ'' hT' hT'' hA' hA'') : Adv tlo φ φ'' hT hT'' hA hA'' := by
  refine ⟨Nat.le_trans A.tlen A'.tlen, fun b hb => (A'.old b (by have := A.tlen; omega)).trans (A.old b hb), ?_, Nat.le_trans A.alen A'.alen, ?_⟩
  · intro b c z hb h
    by_cases hlt : b < hT'.length
    · rw [A'.old b hlt] at h; exact A.new b c z hb h
    · exact Nat.le_trans A.alen (A'.new b c z (by omega) h)
  · intro c hc hn
    rw [← A.fr c hc hn]
    refine A'.fr c (by have := A.alen; omega) fun b z hb h => ?_
    by_cases hlt : b < hT.length
    · rw [A.old b hlt] at h; exact hn b z hb h
    · have := A.new b c z (by omega) h; omega
theorem Snd.same {tv : TV} {v : Value} (H : HT φ Φ hT hA) (hv : VT φ Φ tv v) : Snd Φ φ tlo hT hT hA tv (some (v, hA)) := ⟨v, hA, φ, rfl, hv, H, Adv.refl H⟩

/-- One block more; the block b may die. -/
theorem grow (H : HT φ Φ hT hA) (hT1 : THeap) (hA1 : Heap) (hl : hT1.length = hT.length) (hla : hA1.length = hA.length)
    (hliveT : ∀ b e z es, hT1[b]? = some (.cells e z es) → hT[b]? = some (.cells e z es) ∧ ∀ c z, φ b = some (c, z) → hA1[c]? = hA[c]?)
    (hfz : ∀ c cs, Φ c = some cs → hA1[c]? = hA[c]?)
    (hfr : ∀ c, (∀ b z, tlo ≤ b → φ b ≠ some (c, z)) → hA1[c]? = hA[c]?)
    {e : TypeId} {z : Nat} {es : List TV} {cs : List Value} (hs : sizedT z es = true) (hv : VTs φ Φ (flatT es) cs) :
    ∃ φ', HT φ' Φ (hT1 ++ [.cells e z es]) (hA1 ++ [.cells e cs]) ∧ Adv tlo φ φ' hT (hT1 ++ [.cells e z es]) hA (hA1 ++ [.cells e cs]) ∧ φ' hT.length = some (hA.length, z) := by
  let φ' : Own := fun b => if b = hT.length then some (hA.length, z) else φ b
  have ext : ∀ b x, φ b = some x → φ' b = some x := fun b x h => by
    have := (H.dom b x.1 x.2 h).1
    simp only [φ']; rw [if_neg (by omega)]; exact h
  have inv : ∀ b x, φ' b = some x → (b = hT.length ∧ x = (hA.length, z)) ∨ (b < hT.length ∧ φ b = some x) := fun b x h => by
    simp only [φ'] at h
    split at h
    · cases h; exact .inl ⟨‹_›, rfl⟩
    · exact .inr ⟨(H.dom b x.1 x.2 h).1, h⟩
  refine ⟨φ', ⟨?_, ?_, ?_, ?_, ?_⟩, ⟨by simp; omega, ?_, ?_, by simp; omega, ?_⟩, by simp [φ']⟩
  · intro b c z' h
    rcases inv b _ h with ⟨rfl, hx⟩ | ⟨h1, h2⟩
    · cases hx; simp; omega
    · have := H.dom b c z' h2; simp; omega
  · intro b b' c z1 z2 h h'
    rcases inv b _ h with ⟨rfl, hx⟩ | ⟨h1, h2⟩
    · cases hx
      rcases inv b' _ h' with ⟨rfl, hx'⟩ | ⟨h1', h2'⟩
      · rfl
      · have := (H.dom _ _ _ h2').2; omega
    · rcases inv b' _ h' with ⟨rfl, hx'⟩ | ⟨h1', h2'⟩
      · cases hx'; have := (H.dom _ _ _ h2).2; omega
      · exact H.inj b b' c z1 z2 h2 h2'
  · intro b e1 z1 es1 h
    by_cases hlt : b < hT1.length
    · rw [List.getElem?_append_left hlt] at h
      obtain ⟨h1, h2⟩ := hliveT b e1 z1 es1 h
      rcases H.live b e1 z1 es1 h1 with ⟨k1, k2⟩ | ⟨c, cs1, k1, k2, k3, k4⟩
      · left; refine ⟨?_, k2⟩; simp only [φ']; rw [if_neg (by omega)]; exact k1
      · right
        have := (H.dom _ _ _ k1).2
        exact ⟨c, cs1, ext _ _ k1, by rw [List.getElem?_append_left (by omega), h2 c z1 k1]; exact k2, k3, k4.mono ext⟩
    · by_cases hb : b = hT1.length
      · subst hb
        rw [List.getElem?_append_right (Nat.le_refl _)] at h
        simp at h
        obtain ⟨rfl, rfl, rfl⟩ := h
        right
        refine ⟨hA.length, cs, by simp [φ', hl], ?_, hs, hv.mono ext⟩
        rw [← hla, List.getElem?_append_right (Nat.le_refl _)]; simp
      · rw [List.getElem?_eq_none (by simp; omega)] at h; cases h
  · intro c cs1 h
    obtain ⟨e1, h1⟩ := H.frz c cs1 h
    have hlt := (List.getElem?_eq_some_iff.1 h1).1
    exact ⟨e1, by rw [List.getElem?_append_left (by omega), hfz c cs1 h]; exact h1⟩
  · intro b c z1 cs1 h h'
    rcases inv b _ h with ⟨rfl, hx⟩ | ⟨h1, h2⟩
    · cases hx
      obtain ⟨e1, k1⟩ := H.frz _ cs1 h'
      have := (List.getElem?_eq_some_iff.1 k1).1; omega
    · exact H.disj b c z1 cs1 h2 h'
  · intro b hb; simp only [φ']; rw [if_neg (by omega)]
  · intro b c z1 hb h
    rcases inv b _ h with ⟨rfl, hx⟩ | ⟨h1, h2⟩
    · cases hx; exact Nat.le_refl _
    · omega
  · intro c hc hn
    rw [List.getElem?_append_left (by omega)]; exact hfr c hn
theorem grow0 (H : HT φ Φ hT hA) {e : TypeId} {z : Nat} {es : List TV} {cs : List Value} (hs : sizedT z es = true) (hv : VTs φ Φ (flatT es) cs) :
    ∃ φ', HT φ' Φ (hT ++ [.cells e z es]) (hA ++ [.cells e cs]) ∧ Adv tlo φ φ' hT (hT ++ [.cells e z es]) hA (hA ++ [.cells e cs]) ∧ φ' hT.length = some (hA.length, z) :=
  grow H hT hA rfl rfl (fun _ _ _ _ h => ⟨h, fun _ _ _ => rfl⟩) (fun _ _ _ => rfl) (fun _ _ => rfl) hs hv
/-- A block of no cells that stands for no block. -/
theorem growN (H : HT φ Φ hT hA) (hT1 : THeap) (hl : hT1.length = hT.length) (hliveT : ∀ (b : Nat) (e : TypeId) (z : Nat) (es : List TV), hT1[b]? = some (TB.cells e z es) → hT[b]? = some (TB.cells e z es)) (e : TypeId) (z : Nat) :
    HT φ Φ (hT1 ++ [.cells e z []]) hA ∧ Adv tlo φ φ hT (hT1 ++ [.cells e z []]) hA hA := by
  refine ⟨⟨?_, H.inj, ?_, H.frz, H.disj⟩, ⟨(by simp; omega), fun _ _ => rfl, fun b c z hb h => (by rw [H.fresh b hb] at h; cases h), Nat.le_refl _, fun _ _ _ => rfl⟩⟩
  · intro b c z h; have := H.dom b c z h; simp; omega
  · intro b e1 z1 es1 h
    by_cases hlt : b < hT1.length
    · rw [List.getElem?_append_left hlt] at h
      exact H.live b e1 z1 es1 (hliveT b e1 z1 es1 h)
    · by_cases hb : b = hT1.length
      · subst hb
        rw [List.getElem?_append_right (Nat.le_refl _)] at h
        simp at h
        exact .inl ⟨H.fresh _ (by omega), h.2.2⟩
      · rw [List.getElem?_eq_none (by simp; omega)] at h; cases h
end
end Go.AH
