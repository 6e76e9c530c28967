import Derived.Test.YtkijbknnbmbnbaaE6
set_option linter.unusedSimpArgs false
set_option linter.unusedVariables false
set_option maxRecDepth 100000
set_option maxHeartbeats 4000000
namespace Go.Proofs.Ytkijbknnbmbnbaa
open Go Go.AH
attribute [local irreducible] awpT ropsT qopsT stepT condKT gdKT EndT joinK loopKT seqKT blkKT kont kontR
/-! Packets out of bytes -/

def u8n (n : Int) : UInt8 := UInt8.ofNat n.toNat
theorem bs_u8 (l : List Int) : (bsT l).mapM u8T = some (l.map u8n) := by
  induction l with
  | nil => rfl
  | cons a l ih =>
    show (bT a :: bsT l).mapM u8T = _
    rw [List.mapM_cons, ih]; rfl
theorem u8n_inj {a b : Int} (ha : 0 ≤ a ∧ a < 256) (hb : 0 ≤ b ∧ b < 256) (h : u8n a = u8n b) : a = b := by
  have := congrArg UInt8.toNat h
  simp only [u8n, UInt8.toNat_ofNat'] at this
  omega
theorem u8s_inj {a b : List Int} (ha : isB a) (hb : isB b) (h : a.map u8n = b.map u8n) : a = b := by
  induction a generalizing b with
  | nil => cases b with | nil => rfl | cons y b => simp at h
  | cons x a ih =>
    cases b with
    | nil => simp at h
    | cons y b =>
      simp only [List.map_cons, List.cons.injEq] at h
      rw [u8n_inj (ha x (by simp)) (hb y (by simp)) h.1, ih (fun z hz => ha z (List.mem_cons_of_mem _ hz)) (fun z hz => hb z (List.mem_cons_of_mem _ hz)) h.2]
def strOf (l : List Int) : ByteArray := ⟨⟨l.map u8n⟩⟩
theorem str_list (l : List Int) : (strOf l).toList = l.map u8n := by rw [ByteArray.toList_eq]; rfl
theorem str_eq {a b : List Int} (ha : isB a) (hb : isB b) : ((strOf a).toList == (strOf b).toList) = decide (a = b) := by
  rw [str_list, str_list]
  by_cases h : a = b
  · subst h; simp
  · have : ¬ a.map u8n = b.map u8n := fun e => h (u8s_inj ha hb e)
    simp [h, this]
theorem abin_str_eq {a b : List Int} (ha : isB a) (hb : isB b) : abin .eql (.string (strOf a)) (.string (strOf b)) = some (.bool (decide (a = b))) := by
  show some (Value.bool _) = _
  rw [str_eq ha hb]
noncomputable def eqB_S := specP (fun x : List Int × List Int => [.s (bsT x.1), .s (bsT x.2)]) (fun x => (isB x.1) ∧ (isB x.2)) (fun x => (.p (.bool (decide (x.1 = x.2))), []))
theorem eqB_at (a : List Int) (b : List Int) (h : (isB a) ∧ (isB b)) : eqB_S [.s (bsT a), .s (bsT b)] = some ((.p (.bool (decide (a = b))), [])) := specP_at (enc := fun x : List Int × List Int => [.s (bsT x.1), .s (bsT x.2)]) (by rintro ⟨a0, a1⟩ ⟨b0, b1⟩ h; simp only [List.cons.injEq, and_true] at h; obtain ⟨h0, h1⟩ := h; obtain rfl := sby_inj h0; obtain rfl := sby_inj h1; rfl) (a, b) h
-- bytes.Equal
def c141 : AF := ⟨10,
  (.seq (.reg [⟨(some 4), none, .mv (.v (.bool false))⟩])
  (.seq (.reg [⟨(some 5), none, .mv (.t 0)⟩,
   ⟨(some 6), none, .cvBS (.t 5)⟩,
   ⟨(some 7), none, .mv (.t 1)⟩,
   ⟨(some 8), none, .cvBS (.t 7)⟩,
   ⟨(some 9), none, .bin .eql (.t 6) (.t 8)⟩,
   ⟨(some 4), none, .mv (.t 9)⟩])
  .ret)),
  [.t 4]⟩
theorem k141 : cFn Try.prog Try.f141 = some c141 := by kernel_rfl
theorem eqB_ok : OkT Try.prog 141 (pureSp eqB_S) := by
  refine okT_fn (OkΓT.nil _) Try.func141 (by kernel_rfl) k141 (fun x _ => ⟨by first | rfl | simp only [go_sem], by first | rfl | simp only [go_sem]⟩) ?_
  rintro ⟨a, b⟩ ⟨h1, h2⟩
  dsimp only at *
  have q1 : (bsT a).mapM u8T = some (a.map u8n) := bs_u8 a
  have q2 : (bsT b).mapM u8T = some (b.map u8n) := bs_u8 b
  have q3 := abin_str_eq h1 h2
  simp only [strOf] at q3
  (dsimp only [c141]; simp (maxSteps := 8000000) (implicitDefEqProofs := false) (disch := omega) only [↓reduceIte, go_sem, if_pos, if_neg, q1, q2, ↓q3])
  exact endT_v (.inr rfl) (by (simp (maxSteps := 8000000) (implicitDefEqProofs := false) (disch := omega) only [↓reduceIte, go_sem, if_pos, if_neg]) <;> rfl) (fun _ => rfl)
noncomputable def cloneB_S := specP (fun x : List Int => [.s (bsT x)]) (fun x => x.length ≤ 1073741824) (fun x => (.os 0 0 x.length, [.cells 5 1 (bsT x)]))
theorem cloneB_at (l : List Int) (h : l.length ≤ 1073741824) : cloneB_S [.s (bsT l)] = some ((.os 0 0 l.length, [.cells 5 1 (bsT l)])) := specP_at (enc := fun x : List Int => [.s (bsT x)]) (by rintro a0 b0 h; simp only [List.cons.injEq, and_true] at h; have h0 := h; obtain rfl := sby_inj h0; rfl) l h
-- slices.Clone[[]byte,byte]
def c99 : AF := ⟨8,
  (.seq (.reg [⟨(some 2), none, .mv (.v (.slice none 0 0))⟩])
  (.seq (.seq (.reg [⟨(some 3), none, .mv (.t 0)⟩,
   ⟨(some 4), none, .eqN false (.t 3)⟩])
  (.cond (.t 4) (.seq (.reg [⟨(some 2), none, .mv (.v (.slice none 0 0))⟩])
  .ret)
  .skip))
  (.seq (.reg [⟨(some 5), none, .mkS 5 0 [] []⟩,
   ⟨(some 6), none, .mv (.t 0)⟩,
   ⟨(some 7), none, .app 5 1 1 (.t 5) (.t 6)⟩,
   ⟨(some 2), none, .mv (.t 7)⟩])
  .ret))),
  [.t 2]⟩
theorem k99 : cFn Try.prog Try.f99 = some c99 := by kernel_rfl
theorem cloneB_ok : OkT Try.prog 99 (pureSp cloneB_S) := by
  refine okT_fn (OkΓT.nil _) Try.func99 (by kernel_rfl) k99 (fun x _ => ⟨by first | rfl | simp only [go_sem], by first | rfl | simp only [go_sem]⟩) ?_
  rintro l hl
  dsimp only at *
  have hlen := bs_len l
  by_cases h0 : l = []
  · subst h0
    simp only [bs_nil, List.length_nil]
    (dsimp only [c99]; simp (maxSteps := 8000000) (implicitDefEqProofs := false) (disch := omega) only [↓reduceIte, go_sem, if_pos, if_neg, sized1_nil])
    refine ⟨endT_nl (.inr rfl) (by (simp (maxSteps := 8000000) (implicitDefEqProofs := false) (disch := omega) only [↓reduceIte, go_sem, if_pos, if_neg]) <;> rfl), ?_⟩
    exact endT_of [1] (.inr rfl) (by simp (maxSteps := 8000000) (implicitDefEqProofs := false) (disch := omega) only [↓reduceIte, go_sem, if_pos, if_neg]; rfl) (by simp (maxSteps := 8000000) (implicitDefEqProofs := false) (disch := omega) only [↓reduceIte, go_sem, if_pos, if_neg]) (by simp (maxSteps := 8000000) (implicitDefEqProofs := false) (disch := omega) only [↓reduceIte, go_sem, if_pos, if_neg]) (by decide) (by simp)
  · have hp : 0 < l.length := Nat.pos_of_ne_zero fun e => h0 (List.eq_nil_of_length_eq_zero e)
    (dsimp only [c99]; simp (maxSteps := 8000000) (implicitDefEqProofs := false) (disch := omega) only [↓reduceIte, go_sem, if_pos, if_neg, hlen])
    exact endT_of [1] (.inr rfl) (by simp (maxSteps := 8000000) (implicitDefEqProofs := false) (disch := omega) only [↓reduceIte, go_sem, if_pos, if_neg]; rfl) (by simp (maxSteps := 8000000) (implicitDefEqProofs := false) (disch := omega) only [↓reduceIte, go_sem, if_pos, if_neg]) (by simp (maxSteps := 8000000) (implicitDefEqProofs := false) (disch := omega) only [↓reduceIte, go_sem, if_pos, if_neg]) (by decide) (by simp)

/-! Bytes of a packet, parsed -/
abbrev headP (l : List Int) : Prop := (20 ≤ (l.length : Int) ∧ (l.length : Int) ≤ 224) ∧ l.getD 0 0 = 69 ∧ l.getD 1 0 = 0 ∧ (l.drop 4).take 4 = [0, 0, 64, 0] ∧ takeN ((l.drop 2).take 2) = l.length
def restL (l : List Int) : List Int := if l.getD 9 0 = 6 ∨ l.getD 9 0 = 17 then l.drop 24 else l.drop 20
def parseP (l : List Int) : PkR := ⟨takeN ((l.drop 12).take 4), takeN ((l.drop 16).take 4), l.getD 9 0, l.getD 8 0, if l.getD 9 0 = 6 ∨ l.getD 9 0 = 17 then takeN ((l.drop 20).take 2) else 0, if l.getD 9 0 = 6 ∨ l.getD 9 0 = 17 then takeN ((l.drop 22).take 2) else 0, restL l⟩
def parseC (l : List Int) : Int := if headP l then (if sumN (l.take 20) = 0 then (if l.getD 8 0 = 0 ∨ l.getD 9 0 = 0 then 3 else if (l.getD 9 0 = 6 ∨ l.getD 9 0 = 17) ∧ (l.length : Int) < 24 then 5 else if ((restL l).length : Int) > 200 then 2 else 0) else 6) else 5
def pkA (p : PkR) (c : TV) : List TV := [.p (.int .i64 p.fr), .p (.int .i64 p.to_), .p (.int .i64 p.pr), .p (.int .i64 p.ttl), .p (.int .i64 p.fp), .p (.int .i64 p.tp), c]
def pkZ : PkR := ⟨0, 0, 0, 0, 0, 0, []⟩
def parseV (l : List Int) : TV × THeap := if parseC l = 0 then (.agg (.p (.int .i64 0) :: pkA (parseP l) (.os 0 0 (restL l).length)), [.cells 5 1 (bsT (restL l))]) else (.agg (.p (.int .i64 (parseC l)) :: pkA pkZ .nl), [])
theorem parseV_bad {l : List Int} {c : Int} (h : parseC l = c) (hc : c ≠ 0) : parseV l = (.agg (.p (.int .i64 c) :: pkA pkZ .nl), []) := by
  unfold parseV; rw [h, if_neg hc]
theorem parseV_ok {l : List Int} (h : parseC l = 0) : parseV l = (.agg (.p (.int .i64 0) :: pkA (parseP l) (.os 0 0 (restL l).length)), [.cells 5 1 (bsT (restL l))]) := by
  unfold parseV; rw [if_pos h]
theorem parseV_own (l : List Int) : ownT (parseV l).1 = true ∧ (parseV l).2.all ownB = true := by
  unfold parseV; split
  · exact ⟨rfl, by simp only [go_sem, List.all_cons, List.all_nil]⟩
  · exact ⟨rfl, rfl⟩
theorem take4_eq {l : List Int} (hb : isB l) (h : l.length = 4) : takeN l = 16384 ↔ l = [0, 0, 64, 0] := by
  match l, h with
  | [a, b, c, d], _ =>
    have h1 := hb a (by simp); have h2 := hb b (by simp); have h3 := hb c (by simp); have h4 := hb d (by simp)
    simp only [takeN, List.foldl_cons, List.foldl_nil, List.cons.injEq, and_true]
    omega
noncomputable def head_S := specP (fun x : List Int => [.s (bsT x)]) (fun x => (isB x) ∧ (x.length ≤ 1048576)) (fun x => (.p (.bool (decide (headP x))), []))
theorem head_at (l : List Int) (h : (isB l) ∧ (l.length ≤ 1048576)) : head_S [.s (bsT l)] = some ((.p (.bool (decide (headP l))), [])) := specP_at (enc := fun x : List Int => [.s (bsT x)]) (by rintro a0 b0 h; simp only [List.cons.injEq, and_true] at h; have h0 := h; obtain rfl := sby_inj h0; rfl) l h
-- impl.headOk
def c138 : AF := ⟨31,
  (.seq (.reg [⟨(some 2), none, .mv (.v (.bool false))⟩])
  (.seq (.seq (.reg [⟨(some 3), none, .mv (.t 0)⟩,
   ⟨(some 4), none, .len (.t 3)⟩,
   ⟨(some 5), none, .call 95 [(.t 4), (.v (.int .i64 20)), (.v (.int .i64 224))]⟩,
   ⟨(some 6), none, .un .not (.t 5)⟩])
  (.cond (.t 6) (.seq (.reg [⟨(some 2), none, .mv (.v (.bool false))⟩])
  .ret)
  .skip))
  (.seq (.reg [⟨(some 7), none, .mv (.t 0)⟩,
   ⟨(some 8), none, .ia 1 (.t 7) (.v (.int .i64 0))⟩,
   ⟨(some 9), none, .ld (.t 8)⟩,
   ⟨(some 10), none, .bin .eql (.t 9) (.v (.int .u8 69))⟩,
   ⟨(some 11), none, .mv (.t 10)⟩,
   ⟨(some 12), (some (11, true)), .mv (.t 0)⟩,
   ⟨(some 13), (some (11, true)), .ia 1 (.t 12) (.v (.int .i64 1))⟩,
   ⟨(some 14), (some (11, true)), .ld (.t 13)⟩,
   ⟨(some 15), (some (11, true)), .bin .eql (.t 14) (.v (.int .u8 0))⟩,
   ⟨(some 16), none, .pick (.t 11) (.t 15) (.v (.bool false))⟩,
   ⟨(some 17), none, .mv (.t 16)⟩,
   ⟨(some 18), (some (17, true)), .mv (.t 0)⟩,
   ⟨(some 19), (some (17, true)), .sl 1 (.t 18) (some (.v (.int .i64 4))) (some (.v (.int .i64 8)))⟩,
   ⟨(some 20), (some (17, true)), .mkS 5 4 [(.int .u8 0), (.int .u8 0), (.int .u8 0), (.int .u8 0)] [(0, 1, (.v (.int .u8 0))), (1, 1, (.v (.int .u8 0))), (2, 1, (.v (.int .u8 64))), (3, 1, (.v (.int .u8 0)))]⟩,
   ⟨(some 21), (some (17, true)), .call 141 [(.t 19), (.t 20)]⟩,
   ⟨(some 22), none, .pick (.t 17) (.t 21) (.v (.bool false))⟩,
   ⟨(some 23), none, .mv (.t 22)⟩,
   ⟨(some 24), (some (23, true)), .mv (.t 0)⟩,
   ⟨(some 25), (some (23, true)), .sl 1 (.t 24) (some (.v (.int .i64 2))) (some (.v (.int .i64 4)))⟩,
   ⟨(some 26), (some (23, true)), .call 111 [(.t 25)]⟩,
   ⟨(some 27), (some (23, true)), .mv (.t 0)⟩,
   ⟨(some 28), (some (23, true)), .len (.t 27)⟩,
   ⟨(some 29), (some (23, true)), .bin .eql (.t 26) (.t 28)⟩,
   ⟨(some 30), none, .pick (.t 23) (.t 29) (.v (.bool false))⟩,
   ⟨(some 2), none, .mv (.t 30)⟩])
  .ret))),
  [.t 2]⟩
theorem k138 : cFn Try.prog Try.f138 = some c138 := by kernel_rfl
theorem headOk_ok : OkT Try.prog 138 (pureSp head_S) := by
  refine okT_fn (OkΓT.cons in_ok (OkΓT.cons eqB_ok (OkΓT.cons take_ok (OkΓT.nil _)))) Try.func138 (by kernel_rfl) k138 (fun x _ => ⟨by first | rfl | simp only [go_sem], by first | rfl | simp only [go_sem]⟩) ?_
  rintro l ⟨h1, h2⟩
  dsimp only at *
  have hlen := bs_len l
  by_cases c0 : 20 ≤ (l.length : Int) ∧ (l.length : Int) ≤ 224
  case neg =>
    (dsimp only [c138]; simp (maxSteps := 8000000) (implicitDefEqProofs := false) (disch := omega) only [↓reduceIte, go_sem, if_pos, if_neg, hlen, in_at, eq_false c0])
    exact endT_p (.inr rfl) (by simp (maxSteps := 8000000) (implicitDefEqProofs := false) (disch := omega) only [↓reduceIte, go_sem, if_pos, if_neg]; rfl) (by rw [decide_eq_false fun h => c0 h.1])
  have g0 := bs_get (l := l) (i := 0) (by omega)
  have g1 := bs_get (l := l) (i := 1) (by omega)
  have q2 := take_at ((l.drop 2).take 2) (isB_take (isB_drop h1 _) _) (by simp; omega)
  have q3 := eqB_at ((l.drop 4).take 4) [0, 0, 64, 0] ⟨isB_take (isB_drop h1 _) _, isB_nums rfl⟩
  have q3' : eqB_S [.s (bsT ((l.drop 4).take 4)), .s [.p (.int .u8 0), .p (.int .u8 0), .p (.int .u8 64), .p (.int .u8 0)]] = _ := q3
  by_cases c1 : l.getD 0 0 = 69
  case neg =>
    (dsimp only [c138]; simp (maxSteps := 8000000) (implicitDefEqProofs := false) (disch := omega) only [↓reduceIte, go_sem, if_pos, if_neg, hlen, in_at, g0, g1, q2, q3', eq_true c0, eq_false c1])
    exact endT_p (.inr rfl) (by simp (maxSteps := 8000000) (implicitDefEqProofs := false) (disch := omega) only [↓reduceIte, go_sem, if_pos, if_neg]; rfl) (by rw [decide_eq_false fun h => c1 h.2.1])
  by_cases c2 : l.getD 1 0 = 0
  case neg =>
    (dsimp only [c138]; simp (maxSteps := 8000000) (implicitDefEqProofs := false) (disch := omega) only [↓reduceIte, go_sem, if_pos, if_neg, hlen, in_at, g0, g1, q2, q3', eq_true c0, eq_true c1, eq_false c2])
    exact endT_p (.inr rfl) (by simp (maxSteps := 8000000) (implicitDefEqProofs := false) (disch := omega) only [↓reduceIte, go_sem, if_pos, if_neg]; rfl) (by rw [decide_eq_false fun h => c2 h.2.2.1])
  by_cases c3 : (l.drop 4).take 4 = [0, 0, 64, 0]
  case neg =>
    (dsimp only [c138]; simp (maxSteps := 8000000) (implicitDefEqProofs := false) (disch := omega) only [↓reduceIte, go_sem, if_pos, if_neg, hlen, in_at, g0, g1, q2, q3', eq_true c0, eq_true c1, eq_true c2, eq_false c3])
    exact endT_p (.inr rfl) (by simp (maxSteps := 8000000) (implicitDefEqProofs := false) (disch := omega) only [↓reduceIte, go_sem, if_pos, if_neg]; rfl) (by rw [decide_eq_false fun h => c3 h.2.2.2.1])
  by_cases c4 : takeN ((l.drop 2).take 2) = (l.length : Int)
  case neg =>
    (dsimp only [c138]; simp (maxSteps := 8000000) (implicitDefEqProofs := false) (disch := omega) only [↓reduceIte, go_sem, if_pos, if_neg, hlen, in_at, g0, g1, q2, q3', eq_true c0, eq_true c1, eq_true c2, eq_true c3, eq_false c4])
    exact endT_p (.inr rfl) (by simp (maxSteps := 8000000) (implicitDefEqProofs := false) (disch := omega) only [↓reduceIte, go_sem, if_pos, if_neg]; rfl) (by rw [decide_eq_false fun h => c4 h.2.2.2.2])
  (dsimp only [c138]; simp (maxSteps := 8000000) (implicitDefEqProofs := false) (disch := omega) only [↓reduceIte, go_sem, if_pos, if_neg, hlen, in_at, g0, g1, q2, q3', eq_true c0, eq_true c1, eq_true c2, eq_true c3, eq_true c4])
  exact endT_p (.inr rfl) (by simp (maxSteps := 8000000) (implicitDefEqProofs := false) (disch := omega) only [↓reduceIte, go_sem, if_pos, if_neg]; rfl) (by rw [decide_eq_true ⟨c0, c1, c2, c3, c4⟩])
end Go.Proofs.Ytkijbknnbmbnbaa
