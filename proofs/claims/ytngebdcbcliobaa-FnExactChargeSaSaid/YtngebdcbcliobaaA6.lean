import Derived.Test.YtngebdcbcliobaaA5
namespace Go.AH
open Go.RowKit (Below)
section
variable {P : Program} {N : Nat} {ι : Inj} {h h' : Heap} {lo B : Nat} {w : World} {σ : Nat → Value} {a : Act} {v : Value}

theorem intB_run {op : BinOp} {k : IntKind} {x y : Int} (h : intB op k x y = some v) (hs : op ≠ .shl ∧ op ≠ .shr) (t : TypeId) : (binOp op t (.int k x) (.int k y)).run P w = .ok v w ∧ plainV v = true := by
  cases op <;> simp only [intB] at h <;> (try split at h) <;>
    first
    | (cases h; done)
    | (cases h; simp_all [binOp, Op.intArith, Op.intDiv, Op.intBits, Op.intCmp, plainV]; done)
    | exact absurd rfl hs.1
    | exact absurd rfl hs.2

theorem abin_int {op : BinOp} {k k' : IntKind} {x y : Int} (h : abin op (.int k x) (.int k' y) = some v) (t : TypeId) : (binOp op t (.int k x) (.int k' y)).run P w = .ok v w ∧ plainV v = true := by
  by_cases h1 : op = .shl
  · subst h1
    simp only [abin] at h; split at h
    · cases h
    · cases h; simp [binOp, Op.shift, plainV]; omega
  by_cases h2 : op = .shr
  · subst h2
    simp only [abin] at h; split at h
    · cases h
    · cases h; simp [binOp, Op.shift, plainV]; omega
  by_cases hk : k = k'
  · subst hk
    refine intB_run ?_ ⟨h1, h2⟩ t
    cases op <;> simp_all [abin]
  · exact absurd h (by cases op <;> simp_all [abin])

theorem abin_str {op : BinOp} {x y : ByteArray} (h : abin op (.string x) (.string y) = some v) (t : TypeId) : (binOp op t (.string x) (.string y)).run P w = .ok v w ∧ plainV v = true := by
  cases op <;> simp only [abin, strB] at h <;> (try split at h) <;>
    first
    | (cases h; done)
    | (cases h; simp_all [binOp, Op.stringOp, plainV]; done)
    | (cases h; refine ⟨?_, rfl⟩; simp only [binOp, Op.stringOp]; rw [if_neg ‹_›]; rfl)

theorem guard_run {op : BinOp} {t : TypeId} {x y : Operand} {p q : Value} (h1 : ∀ c, p ≠ .agg c) (h2 : p ≠ .nilIface) : (eqGuard op t x y p q).run P w = .ok () w := by
  cases op <;> first | rfl | (cases p <;> first | exact absurd rfl h2 | exact absurd rfl (h1 _) | rfl)

theorem equal_bool {t : TypeId} (hu : P.underlying t = some .bool) (b c : Bool) : (Op.equal t (.bool b) (.bool c)).run P w = .ok (b == c) w := by
  have e : Op.maxDepth = 9999 + 1 := rfl
  rw [Op.equal, e, Op.equalIn]
  simp [run_underlying hu]
theorem equal_nils {t e : TypeId} (hu : P.underlying t = some (.slice e)) (a : Option Addr) (n c : Nat) : (Op.equal t (.slice a n c) (.slice none 0 0)).run P w = .ok a.isNone w := by
  have e : Op.maxDepth = 9999 + 1 := rfl
  rw [Op.equal, e, Op.equalIn]
  cases a <;> simp [run_underlying hu]

theorem abin_cases {op : BinOp} {p q : Value} (h : abin op p q = some v) : (∃ k x k' y, p = .int k x ∧ q = .int k' y) ∨ (∃ x y, p = .string x ∧ q = .string y) := by
  unfold abin at h
  split at h
  · exact .inl ⟨_, _, _, _, rfl, rfl⟩
  · exact .inr ⟨_, _, rfl, rfl⟩
  · cases h

theorem fine_bin (hr : HR P ι h lo B w) {op : BinOp} {t : TypeId} {x y : Operand} {p p' q q' : Value} (hp : VR ι p p') (hq : VR ι q q') (hv : abin op p q = some v) :
    Fine P ι h lo B w v h ((do pure (.value (← (do eqGuard op t x y p' q'; binOp op t p' q'))) : Sem Next).run P w) := by
  rcases abin_cases hv with ⟨k, a, k', b, rfl, rfl⟩ | ⟨a, b, rfl, rfl⟩
  · cases hp; cases hq
    obtain ⟨h1, h2⟩ := abin_int (P := P) (w := w) hv t
    refine ⟨v, w, ι, .inl ?_, Ag.refl _ _, VR.plain h2, hr, Below.refl _ _⟩
    simp [guard_run (P := P) (w := w) (p := .int k a) (by simp) (by simp), h1]
  · cases hp; cases hq
    obtain ⟨h1, h2⟩ := abin_str (P := P) (w := w) hv t
    refine ⟨v, w, ι, .inl ?_, Ag.refl _ _, VR.plain h2, hr, Below.refl _ _⟩
    simp [guard_run (P := P) (w := w) (p := .string a) (by simp) (by simp), h1]

theorem aun_cases {op : UnOp} {p : Value} (h : aun op p = some v) : (∃ k n, p = .int k n ∧ op = .neg ∧ v = .int k (k.wrap (0 - n))) ∨ (∃ b, p = .bool b ∧ op = .not ∧ v = .bool !b) := by
  unfold aun at h
  split at h
  · split at h
    · cases h; exact .inl ⟨_, _, rfl, rfl, rfl⟩
    · cases h
  · split at h
    · cases h; exact .inr ⟨_, rfl, rfl, rfl⟩
    · cases h
  · cases h

theorem fine_un (hr : HR P ι h lo B w) {op : UnOp} {p p' : Value} (hp : VR ι p p') (hv : aun op p = some v) :
    Fine P ι h lo B w v h ((do pure (.value (← Op.unary op p')) : Sem Next).run P w) := by
  rcases aun_cases hv with ⟨k, n, rfl, rfl, rfl⟩ | ⟨b, rfl, rfl, rfl⟩
  · cases hp; exact ⟨_, w, ι, .inl (by simp [Op.unary, Op.intArith]), Ag.refl _ _, .int _ _, hr, Below.refl _ _⟩
  · cases hp; exact ⟨_, w, ι, .inl (by simp [Op.unary]), Ag.refl _ _, .bool _, hr, Below.refl _ _⟩

theorem fine_eqB (hr : HR P ι h lo B w) {op : BinOp} {neg : Bool} (hop : op = if neg then .neq else .eql) {t : TypeId} (hu : P.underlying t = some .bool) {x y : Operand} {p p' q q' : Value} (hp : VR ι p p') (hq : VR ι q q')
    {b c : Bool} (hb : getB p = some b) (hc : getB q = some c) :
    Fine P ι h lo B w (.bool (if neg then !(b == c) else b == c)) h ((do pure (.value (← (do eqGuard op t x y p' q'; binOp op t p' q'))) : Sem Next).run P w) := by
  obtain rfl := hp.getB hb
  obtain rfl := hq.getB hc
  subst hop
  refine ⟨_, w, ι, .inl ?_, Ag.refl _ _, .bool _, hr, Below.refl _ _⟩
  have hg : ∀ op, (eqGuard op t x y (.bool b) (.bool c)).run P w = .ok () w := fun op => guard_run (by simp) (by simp)
  cases neg <;> simp [hg, binOp, equal_bool hu]

theorem fine_eqN (hr : HR P ι h lo B w) {op : BinOp} {neg : Bool} (hop : op = if neg then .neq else .eql) {t e : TypeId} (hu : P.underlying t = some (.slice e)) {x y : Operand} {p p' : Value} (hp : VR ι p p')
    {b : Bool} (hb : isNil p = some b) :
    Fine P ι h lo B w (.bool (if neg then !b else b)) h ((do pure (.value (← (do eqGuard op t x y p' (.slice none 0 0); binOp op t p' (.slice none 0 0)))) : Sem Next).run P w) := by
  obtain ⟨ad, n, c, rfl⟩ : ∃ a n c, p = .slice a n c := by
    unfold isNil at hb; split at hb <;> first | exact ⟨_, _, _, rfl⟩ | cases hb
  subst hop
  have hh : ∃ a' n' c', p' = .slice a' n' c' ∧ a'.isNone = b := by
    cases hp with
    | nils => simp [isNil] at hb; exact ⟨_, _, _, rfl, by simp [hb]⟩
    | sl => simp [isNil] at hb; exact ⟨_, _, _, rfl, by simp [hb]⟩
    | sl0 => simp [isNil] at hb; exact ⟨_, _, _, rfl, by simp [hb]⟩
    | emp => simp [isNil] at hb; exact ⟨_, _, _, rfl, by simp [hb]⟩
  obtain ⟨a', n', c', rfl, rfl⟩ := hh
  refine ⟨_, w, ι, .inl ?_, Ag.refl _ _, .bool _, hr, Below.refl _ _⟩
  have hg : ∀ op, (eqGuard op t x y (.slice a' n' c') (.slice none 0 0)).run P w = .ok () w := fun op => guard_run (by simp) (by simp)
  cases neg <;> simp [hg, binOp, equal_nils hu]

theorem fine_cvI (hr : HR P ι h lo B w) {s d : TypeId} {k0 k : IntKind} (hs : P.underlying s = some (.int k0)) (hd : P.underlying d = some (.int k)) {p p' : Value} (hp : VR ι p p') {n : Int} (hn : getI p = some n) :
    Fine P ι h lo B w (.int k (k.wrap n)) h ((do pure (.value (← convert s d p')) : Sem Next).run P w) := by
  obtain ⟨k', rfl⟩ := hp.getI hn
  refine ⟨_, w, ι, .inl ?_, Ag.refl _ _, .int _ _, hr, Below.refl _ _⟩
  simp [convert, run_underlying hs, run_underlying hd, Conv.intToInt]

/-- The cells of a slice, in the world. -/
theorem rdS_world (hr : HR P ι h lo B w) {z : Nat} {p p' : Value} (hp : VR ι p p') {cs : List Value} (hc : rdS h z p = some cs) :
    (p = .slice none 0 0 ∧ p' = .slice none 0 0 ∧ cs = []) ∨
    (∃ b o n c c' y g e bs, p = .slice (some ⟨b, o, none⟩) n c ∧ p' = .slice (some y) n c' ∧ ι b = some g ∧ h[b]? = some (.cells e bs) ∧ n ≤ c' ∧ c' ≤ maxLen ∧
      ((y = ⟨g.c, g.o + o, none⟩ ∧ (g.o + o = 0 → c' * g.z = g.n)) ∨ (n = 0 ∧ c' = 0)) ∧ cs.length = n * z ∧ o + n * z ≤ bs.length ∧ cs = (bs.drop o).take (n * z) ∧ (∀ v ∈ cs, one v = true) ∧
      ∃ cs', VRs ι cs cs' ∧ cs'.length = n * z ∧ ∀ (j : Nat) (u : Value), cs'[j]? = some u → w.cell? (y.add j) = some u) ∨
    ∃ b o s c x, p = .slice (some ⟨b, o, some s⟩) 0 c ∧ p' = .slice (some x) 0 0 ∧ cs = [] := by
  unfold rdS at hc
  split at hc
  · cases hc; cases hp; exact .inl ⟨rfl, rfl, rfl⟩
  · cases hc; cases hp with | emp x => exact .inr (.inr ⟨_, _, _, _, x, rfl, rfl, rfl⟩)
  · rename_i b o n c
    split at hc
    · rename_i e bs hb
      split at hc
      · rename_i hle
        cases hc
        cases hp with
        | sl hg h1 h2 h3 =>
          rename_i g c'
          refine .inr (.inl ⟨b, o, n, c, c', _, g, e, bs, rfl, rfl, hg, hb, h1, h2, .inl ⟨rfl, h3⟩, by simp; omega, hle, rfl, ?_, ?_⟩)
          · intro v hv
            exact hr.ones hb hg v (List.mem_of_mem_drop (List.mem_of_mem_take hv))
          · obtain ⟨cs', r, hl, hcell⟩ := hr.cells hb hg o (n * z) hle
            exact ⟨cs', r, hl, fun j u hj => by rw [Addr.add_lit]; exact hcell j u hj⟩
        | sl0 x hg =>
          rename_i g
          exact .inr (.inl ⟨b, o, 0, c, 0, x, g, e, bs, rfl, rfl, hg, hb, Nat.le_refl _, Nat.zero_le _, .inr ⟨rfl, rfl⟩, by simp, hle, rfl, by simp, [], by simpa using VRs.nil, by simp, by simp⟩)
      · cases hc
    · cases hc
  · cases hc

theorem u8of_some {v : Value} {b : UInt8} (h : u8of v = some b) : ∃ n, v = .int .u8 n ∧ b = UInt8.ofNat n.toNat := by
  unfold u8of at h; split at h <;> simp_all

theorem toStr_run (f : Value → ByteArray → Sem (ForInStep ByteArray)) (hf : ∀ n r, f (.int .u8 n) r = pure (.yield (r.push (UInt8.ofNat n.toNat)))) (l l' : List Value) (hv : VRs ι l l') (bs : List UInt8) (hb : l.mapM u8of = some bs) : ∀ (s : ByteArray),
    (forIn (m := Sem) l' s f).run P w = .ok ⟨s.data ++ ⟨bs⟩⟩ w := by
  induction l generalizing l' bs with
  | nil => intro s; cases hv; simp at hb; subst hb; simp
  | cons v l ih =>
    intro s
    cases hv with
    | cons hv hvs =>
      simp only [List.mapM_cons] at hb
      cases h1 : u8of v with
      | none => simp [h1] at hb
      | some b =>
        cases h2 : l.mapM u8of with
        | none => simp [h1, h2] at hb
        | some bs' =>
          simp [h1, h2] at hb; subst hb
          obtain ⟨n, rfl, rfl⟩ := u8of_some h1
          cases hv
          simp only [List.forIn_cons, hf, Sem.run_bind, Sem.run_pure, Result.andThen_ok]
          rw [ih _ hvs bs' h2]
          congr 1
          simp [ByteArray.push]

end
end Go.AH
