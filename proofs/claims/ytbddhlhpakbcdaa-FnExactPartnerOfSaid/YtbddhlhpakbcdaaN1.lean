import Derived.Test.YtbddhlhpakbcdaaN0
set_option linter.unusedSimpArgs false
set_option linter.unusedVariables false
set_option maxRecDepth 100000
set_option maxHeartbeats 4000000
namespace Go.Proofs.Ytbddhlhpakbcdaa
open Go Go.AH
attribute [local irreducible] awpT ropsT qopsT stepT condKT gdKT EndT joinK loopKT seqKT blkKT kont kontR ropsTF frKT
/-! Tables of terms -/

def nix : Option Nat → Int
  | some i => i
  | none => -1
theorem nfs {α : Type} {l : List α} {p : α → Bool} {i : Nat} {x : α} (hx : l[i]? = some x) (hp : p x = true) (hn : ∀ j y, j < i → l[j]? = some y → p y = false) : l.findIdx? p = some i := by
  have hlt := (List.getElem?_eq_some_iff.1 hx).1
  rw [List.findIdx?_eq_some_iff_getElem]
  refine ⟨hlt, by rw [(List.getElem?_eq_some_iff.1 hx).2]; exact hp, fun j hj => ?_⟩
  rw [hn j (l[j]'(by omega)) hj (by simp)]; simp
theorem nfn {α : Type} {l : List α} {p : α → Bool} (hn : ∀ j y, j < l.length → l[j]? = some y → p y = false) : l.findIdx? p = none := by
  rw [List.findIdx?_eq_none_iff]
  intro x hx
  obtain ⟨j, hj⟩ := List.getElem?_of_mem hx
  exact hn j x (List.getElem?_eq_some_iff.1 hj).1 hj
theorem nsn {α : Type} {l : List α} {p : α → Bool} {i : Nat} {x : α} (hx : l[i]? = some x) (hp : p x = false) (hn : ∀ j y, j < i → l[j]? = some y → p y = false) : ∀ j y, j < i + 1 → l[j]? = some y → p y = false := by
  intro j y hj hy
  by_cases e : j = i
  · subst e; rw [hx] at hy; cases hy; exact hp
  · exact hn j y (by omega) hy
theorem nix_any {α : Type} (l : List α) (p : α → Bool) : decide (nix (l.findIdx? p) ≥ 0) = l.any p := by
  cases h : l.findIdx? p with
  | none =>
    rw [List.findIdx?_eq_none_iff] at h
    have : l.any p = false := by rw [List.any_eq_false]; intro x hx; rw [h x hx]; simp
    rw [this]; rfl
  | some i =>
    obtain ⟨hlt, h1, _⟩ := List.findIdx?_eq_some_iff_getElem.1 h
    have : l.any p = true := by rw [List.any_eq_true]; exact ⟨l[i], List.getElem_mem hlt, h1⟩
    rw [this]; simp [nix]
/-- The library's search over numbers, whatever function is handed to it. -/
noncomputable def findI_S {β : Type} (f : Nat) (cap : β → List TV) (q : β → Int → Prop) (p : β → Int → Bool) := specP (fun x : List Int × β => [.s (isT x.1), .fn f (cap x.2)]) (fun x => x.1.length ≤ 1048576 ∧ ∀ v ∈ x.1, q x.2 v) (fun x => (.p (.int .i64 (nix (x.1.findIdx? (p x.2)))), []))
noncomputable def cfI_S {β : Type} (f : Nat) (cap : β → List TV) (q : β → Int → Prop) (p : β → Int → Bool) := specP (fun x : List Int × β => [.s (isT x.1), .fn f (cap x.2)]) (fun x => x.1.length ≤ 1048576 ∧ ∀ v ∈ x.1, q x.2 v) (fun x => (.p (.bool (x.1.any (p x.2))), []))
noncomputable def askI_S {β : Type} (cap : β → List TV) (q : β → Int → Prop) (p : β → Int → Bool) := specP (fun x : Int × β => .p (.int .i64 x.1) :: cap x.2) (fun x => q x.2 x.1) (fun x => (.p (.bool (p x.2 x.1)), []))
theorem findI_at {β : Type} {f : Nat} {cap : β → List TV} {q : β → Int → Prop} {p : β → Int → Bool} (hcap : ∀ x y, cap x = cap y → x = y) (l : List Int) (b : β) (h : l.length ≤ 1048576 ∧ ∀ v ∈ l, q b v) :
    findI_S f cap q p [.s (isT l), .fn f (cap b)] = some (.p (.int .i64 (nix (l.findIdx? (p b)))), []) :=
  specP_at (enc := fun x : List Int × β => [.s (isT x.1), .fn f (cap x.2)]) (by rintro ⟨a, b⟩ ⟨a', b'⟩ h; simp at h; simp [is_inj h.1, hcap _ _ h.2]) (l, b) h
theorem cfI_at {β : Type} {f : Nat} {cap : β → List TV} {q : β → Int → Prop} {p : β → Int → Bool} (hcap : ∀ x y, cap x = cap y → x = y) (l : List Int) (b : β) (h : l.length ≤ 1048576 ∧ ∀ v ∈ l, q b v) :
    cfI_S f cap q p [.s (isT l), .fn f (cap b)] = some (.p (.bool (l.any (p b))), []) :=
  specP_at (enc := fun x : List Int × β => [.s (isT x.1), .fn f (cap x.2)]) (by rintro ⟨a, b⟩ ⟨a', b'⟩ h; simp at h; simp [is_inj h.1, hcap _ _ h.2]) (l, b) h
-- slices.IndexFunc[[]int64,int64]
def c166 : AF := ⟨19,
 (.seq (.reg [rO 4 (.mv (.v (.int .i64 0)))])
 (.seq (.seq (.reg [rO 6 (.mv (.t 0)),
 rO 7 (.len (.t 6)),
 rO 8 (.mv (.v (.int .i64 0)))])
 (.block 0 (.loop (.seq (.reg [rO 9 (.bin .lss (.t 8) (.t 7))])
 (.seq (.cond (.t 9) .skip
 (.exit 0))
 (.seq (.block 1 (.seq (.reg [rO 10 (.mv (.t 8)),
 rO 5 (.mv (.t 10))])
 (.seq (.reg [rO 11 (.mv (.t 1)),
 rO 12 (.mv (.t 0)),
 rO 13 (.mv (.t 5)),
 rO 14 (.ia 1 (.t 12) (.t 13)),
 rO 15 (.ld (.t 14)),
 rO 16 (.callv (.t 11) [(.t 15)])])
 (.cond (.t 16) (.seq (.reg [rO 17 (.mv (.t 5)),
 rO 4 (.mv (.t 17))])
 .ret)
 .skip))))
 (.reg [rO 18 (.bin .add (.t 8) (.v (.int .i64 1))),
 rO 8 (.mv (.t 18))])))))))
 (.seq (.reg [rO 4 (.mv (.v (.int .i64 (-1))))])
 .ret))),
 [.t 4]⟩
theorem k166 : cFn Try.prog Try.f166 = some c166 := by kernel_rfl
theorem findI_ok {β : Type} {f : Nat} {cap : β → List TV} {q : β → Int → Prop} {p : β → Int → Bool} (hcap : ∀ x y, cap x = cap y → x = y) (hfr : ∀ h n x, (cap x).map (frzT h n) = cap x) (ok : OkT Try.prog f (pureSp (askI_S cap q p))) : OkT Try.prog 166 (pureSp (findI_S f cap q p)) := by
  have hat : ∀ (x : Int) (b : β), q b x → askI_S cap q p (.p (.int .i64 x) :: cap b) = some (.p (.bool (p b x)), []) := fun x b hq =>
    specP_at (enc := fun x : Int × β => .p (.int .i64 x.1) :: cap x.2) (by rintro ⟨a, b⟩ ⟨a', b'⟩ h; simp at h; simp [h.1, hcap _ _ h.2]) (x, b) hq
  refine okT_fn (OkΓT.cons ok (OkΓT.nil _)) Try.func166 (by kernel_rfl) k166 (fun x _ => ⟨rfl, rfl⟩) ?_
  rintro ⟨l, b⟩ ⟨hl, hq⟩
  dsimp only at *
  have hlen := is_len l
  (dsimp only [c166, rO]; simp (maxSteps := 8000000) -implicitDefEqProofs (disch := omega) only [↓reduceIte, go_sem, hlen])
  refine awpT_loop (α := Nat) (fun i => ⟨slots [(0, .s (isT l)), (1, .fn f (cap b)), (7, .p (.int .i64 l.length)), (8, .p (.int .i64 i))], []⟩) (fun i => i ≤ l.length ∧ ∀ j y, j < i → l[j]? = some y → p b y = false) (fun i => l.length - i) 0 ⟨by omega, fun j y hj => absurd hj (by omega)⟩ (le_keep (Nat.zero_le _) (by simp (maxSteps := 8000000) -implicitDefEqProofs (disch := omega) only [↓reduceIte, go_sem, slotsIn, hlen])) ?_
  intro i ⟨hi, hn⟩
  simp (maxSteps := 8000000) -implicitDefEqProofs (disch := omega) only [↓reduceIte, go_sem]
  refine condKT_dec (fun hlt => ?_) (fun hge => ?_)
  · obtain ⟨x, hx⟩ := get_ex (l := l) (i := i) (by omega)
    have g := is_get (l := l) (i := i) (by omega)
    rw [show l.getD i 0 = x by simp [List.getD_eq_getElem?_getD, hx]] at g
    have hx2 := hat x b (hq x (List.mem_of_getElem? hx))
    by_cases hs : p b x = true
    · rw [nfs hx hs hn]
      dsimp only [nix]
      simp (maxSteps := 8000000) -implicitDefEqProofs (disch := omega) only [↓reduceIte, go_sem, g, Int.toNat_natCast, eq_true hlt, hfr, hx2, hs]
      repeat' first
        | ((first | refine gdKT_deq (fun hg hG => ?_) (fun hg hG => ?_) | refine condKT_deq (fun hg hG => ?_) (fun hg hG => ?_)) <;> (try simp (maxSteps := 8000000) -implicitDefEqProofs (disch := omega) only [↓reduceIte, go_sem, hG, g, Int.toNat_natCast, eq_true hlt, hfr, hx2, hs]) <;> clear hG)
        | ((first | refine gdKT_split (fun hg => ?_) (fun hg => ?_) | refine condKT_split (fun hg => ?_) (fun hg => ?_)) <;> (try simp (maxSteps := 8000000) -implicitDefEqProofs (disch := omega) only [↓reduceIte, go_sem, hg, g, Int.toNat_natCast, eq_true hlt, hfr, hx2, hs]))
        | (refine endT_p (.inr rfl) (by simp (maxSteps := 8000000) -implicitDefEqProofs (disch := omega) only [↓reduceIte, go_sem, g, Int.toNat_natCast, eq_true hlt, hfr, hx2, hs]; rfl) ?_; (first | exact vb_true (by omega) | exact vb_false (by omega) | exact vb_dec (by omega) | exact vi_eq (by omega) | rfl | (refine vi_eq ?_; simp_all; first | done | (intros; omega))))
        | exact endT_v (.inr rfl) (by simp (maxSteps := 8000000) -implicitDefEqProofs (disch := omega) only [↓reduceIte, go_sem, g, Int.toNat_natCast, eq_true hlt, hfr, hx2, hs]; try rfl) (fun _ => rfl)
    · have hs' : p b x = false := by simpa using hs
      simp (maxSteps := 8000000) -implicitDefEqProofs (disch := omega) only [↓reduceIte, go_sem, g, Int.toNat_natCast, eq_true hlt, hfr, hx2, hs']
      refine loopKT_next (i + 1) ⟨by omega, nsn hx hs' hn⟩ (by omega) ?_
      exact le_keep (Nat.zero_le _) (by simp (maxSteps := 8000000) -implicitDefEqProofs (disch := omega) only [↓reduceIte, go_sem, slotsIn])
  · rw [nfn (fun j y hj => hn j y (by omega))]
    dsimp only [nix]
    simp (maxSteps := 8000000) -implicitDefEqProofs (disch := omega) only [↓reduceIte, go_sem, eq_false hge]
    refine joinK_here ?_
    simp (maxSteps := 8000000) -implicitDefEqProofs (disch := omega) only [↓reduceIte, go_sem]
    repeat' first
      | ((first | refine gdKT_deq (fun hg hG => ?_) (fun hg hG => ?_) | refine condKT_deq (fun hg hG => ?_) (fun hg hG => ?_)) <;> (try simp (maxSteps := 8000000) -implicitDefEqProofs (disch := omega) only [↓reduceIte, go_sem, hG]) <;> clear hG)
      | ((first | refine gdKT_split (fun hg => ?_) (fun hg => ?_) | refine condKT_split (fun hg => ?_) (fun hg => ?_)) <;> (try simp (maxSteps := 8000000) -implicitDefEqProofs (disch := omega) only [↓reduceIte, go_sem, hg]))
      | (refine endT_p (.inr rfl) (by simp (maxSteps := 8000000) -implicitDefEqProofs (disch := omega) only [↓reduceIte, go_sem]; rfl) ?_; (first | exact vb_true (by omega) | exact vb_false (by omega) | exact vb_dec (by omega) | exact vi_eq (by omega) | rfl | (refine vi_eq ?_; simp_all; first | done | (intros; omega))))
      | exact endT_v (.inr rfl) (by simp (maxSteps := 8000000) -implicitDefEqProofs (disch := omega) only [↓reduceIte, go_sem]; try rfl) (fun _ => rfl)
-- slices.ContainsFunc[[]int64,int64]
def c134 : AF := ⟨9,
 (.seq (.reg [rO 4 (.mv (.v (.bool false)))])
 (.seq (.reg [rO 5 (.mv (.t 0)),
 rO 6 (.mv (.t 1)),
 rO 7 (.call 166 [(.t 5), (.t 6)]),
 rO 8 (.bin .geq (.t 7) (.v (.int .i64 0))),
 rO 4 (.mv (.t 8))])
 .ret)),
 [.t 4]⟩
theorem k134 : cFn Try.prog Try.f134 = some c134 := by kernel_rfl
theorem cfI_ok {β : Type} {f : Nat} {cap : β → List TV} {q : β → Int → Prop} {p : β → Int → Bool} (hcap : ∀ x y, cap x = cap y → x = y) (hfr : ∀ h n x, (cap x).map (frzT h n) = cap x) (ok : OkT Try.prog 166 (pureSp (findI_S f cap q p))) : OkT Try.prog 134 (pureSp (cfI_S f cap q p)) := by
  refine okT_fn (OkΓT.cons ok (OkΓT.nil _)) Try.func134 (by kernel_rfl) k134 (fun x _ => ⟨rfl, rfl⟩) ?_
  rintro ⟨l, b⟩ h
  dsimp only at *
  have hx := findI_at (f := f) (p := p) hcap l b h
  rw [← nix_any]
  (dsimp only [c134, rO]; simp (maxSteps := 8000000) -implicitDefEqProofs (disch := omega) only [↓reduceIte, go_sem, hfr, hx])
  exact endT_v (.inr rfl) (by (simp (maxSteps := 8000000) -implicitDefEqProofs (disch := omega) only [↓reduceIte, go_sem]) <;> rfl) (fun _ => rfl)

/-! What a term names -/
def opAt (l : List TmR) (a : Int) : Int := match l[a.toNat]? with
  | some x => x.o
  | none => 0
theorem opAt_some {l : List TmR} {a : Int} {x : TmR} (h : l[a.toNat]? = some x) : opAt l a = x.o := by simp [opAt, h]
theorem plc_get {l : List TmR} {a : Int} (h : 0 ≤ a ∧ a ≤ (l.length : Int) - 1) : ∃ x, l[a.toNat]? = some x := get_ex (by omega)
def capT (l : List TmR) : List TV := [.fe (.s (rowsT tmT l)) 0]
theorem capT_inj (x y : List TmR) (h : capT x = capT y) : x = y := by simp [capT] at h; exact tms_inj1 h
theorem capT_frz (h : THeap) (n : Nat) (x : List TmR) : (capT x).map (frzT h n) = capT x := by simp only [capT, List.map_cons, List.map_nil, frz_fe]
def q1 (l : List TmR) (_ : Int) : Prop := l.length ≤ 1048576
def p1 (l : List TmR) (v : Int) : Bool := !plc l.length v
def q2 (l : List TmR) (v : Int) : Prop := 0 ≤ v ∧ v ≤ (l.length : Int) - 1
def p2 (l : List TmR) (v : Int) : Bool := !decide (opAt l v = 2)
-- (impl.Term).fault$1
def c163 : AF := ⟨8,
 (.seq (.reg [rO 3 (.mv (.v (.bool false)))])
 (.seq (.reg [rO 4 (.ld (.t 1)),
 rO 5 (.mv (.t 0)),
 rO 6 (.call 49 [(.t 4), (.t 5)]),
 rO 7 (.un .not (.t 6)),
 rO 3 (.mv (.t 7))])
 .ret)),
 [.t 3]⟩
theorem k163 : cFn Try.prog Try.f163 = some c163 := by kernel_rfl
theorem f1_ok : OkT Try.prog 163 (pureSp (askI_S capT q1 p1)) := by
  refine okT_fn (OkΓT.cons plcI_ok (OkΓT.nil _)) Try.func163 (by kernel_rfl) k163 (fun x _ => ⟨rfl, rfl⟩) ?_
  rintro ⟨a, l⟩ h
  dsimp only [q1, p1, capT] at *
  (dsimp only [c163, rO]; simp (maxSteps := 8000000) -implicitDefEqProofs (disch := omega) only [↓reduceIte, go_sem, plc_at])
  exact endT_v (.inr rfl) (by (simp (maxSteps := 8000000) -implicitDefEqProofs (disch := omega) only [↓reduceIte, go_sem]) <;> rfl) (fun _ => rfl)

-- (impl.Term).fault$2
def c164 : AF := ⟨10,
 (.seq (.reg [rO 3 (.mv (.v (.bool false)))])
 (.seq (.reg [rO 4 (.ld (.t 1)),
 rO 5 (.mv (.t 0)),
 rO 6 (.ia 4 (.t 4) (.t 5)),
 rO 7 (.fa (.t 6) 0),
 rO 8 (.ld (.t 7)),
 rO 9 (.bin .neq (.t 8) (.v (.int .i64 2))),
 rO 3 (.mv (.t 9))])
 .ret)),
 [.t 3]⟩
theorem k164 : cFn Try.prog Try.f164 = some c164 := by kernel_rfl
theorem f2_ok : OkT Try.prog 164 (pureSp (askI_S capT q2 p2)) := by
  refine okT_fn (OkΓT.nil _) Try.func164 (by kernel_rfl) k164 (fun x _ => ⟨rfl, rfl⟩) ?_
  rintro ⟨a, l⟩ h
  dsimp only [q2, p2, capT] at *
  obtain ⟨x, hx⟩ := plc_get h
  rw [opAt_some hx]
  (dsimp only [c164, rO]; simp (maxSteps := 8000000) -implicitDefEqProofs (disch := omega) only [↓reduceIte, go_sem, eq_true h.1, rowsT_get hx, tmT])
  exact endT_v (.inr rfl) (by (simp (maxSteps := 8000000) -implicitDefEqProofs (disch := omega) only [↓reduceIte, go_sem]) <;> rfl) (fun _ => rfl)

theorem cf1_ok : OkT Try.prog 134 (pureSp (cfI_S 163 capT q1 p1)) := cfI_ok capT_inj capT_frz (findI_ok capT_inj capT_frz f1_ok)
theorem cf2_ok : OkT Try.prog 134 (pureSp (cfI_S 164 capT q2 p2)) := cfI_ok capT_inj capT_frz (findI_ok capT_inj capT_frz f2_ok)
end Go.Proofs.Ytbddhlhpakbcdaa
