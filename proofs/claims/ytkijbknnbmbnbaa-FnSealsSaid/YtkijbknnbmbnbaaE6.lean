import Derived.Test.YtkijbknnbmbnbaaE5
import Derived.Test.YtkijbknnbmbnbaaD8
set_option linter.unusedSimpArgs false
set_option linter.unusedVariables false
set_option maxRecDepth 100000
set_option maxHeartbeats 4000000
namespace Go.Proofs.Ytkijbknnbmbnbaa
open Go Go.AH
attribute [local irreducible] awpT ropsT qopsT stepT condKT gdKT EndT joinK loopKT seqKT blkKT kont kontR
/-! The bytes of a packet -/

theorem bs_cons (a : Int) (l : List Int) : TV.p (.int .u8 a) :: bsT l = bsT (a :: l) := rfl
theorem sized1_p (v : Value) (l : List TV) : sizedT 1 (TV.p v :: l) = sizedT 1 l := by simp [sizedT, cellsT]
theorem sized1_nil : sizedT 1 [] = true := rfl
theorem bs_lit (l : List Int) (a : Int) (r : List TV) : bsT l ++ TV.p (.int .u8 a) :: r = bsT (l ++ [a]) ++ r := by simp [bsT, bT]
def portsL (p : PkR) : List Int := if p.pr = 6 ∨ p.pr = 17 then putL p.fp 2 ++ putL p.tp 2 else []
def headL (p : PkR) : List Int := [69, 0] ++ (putL (20 + (portsL p).length + p.load.length) 2 ++ [0, 0, 64, 0, p.ttl, p.pr])
def endsL (p : PkR) : List Int := putL p.fr 4 ++ putL p.to_ 4
def bareL (p : PkR) : List Int := headL p ++ ([0, 0] ++ endsL p)
def pkL (p : PkR) : List Int := headL p ++ (putL (sumN (bareL p)) 2 ++ (endsL p ++ (portsL p ++ p.load)))
theorem portsL_len (p : PkR) : (portsL p).length ≤ 4 := by unfold portsL; split <;> simp [putL_len]
theorem headL_len (p : PkR) : (headL p).length = 10 := by simp [headL, putL_len]
theorem endsL_len (p : PkR) : (endsL p).length = 8 := by simp [endsL, putL_len]
theorem bareL_len (p : PkR) : (bareL p).length = 20 := by simp [bareL, headL_len, endsL_len]
theorem pkL_len (p : PkR) : (pkL p).length = 20 + (portsL p).length + p.load.length := by simp [pkL, headL_len, endsL_len, putL_len]; omega
structure PkOk (p : PkR) : Prop where
  fr : 0 ≤ p.fr ∧ p.fr ≤ 4294967295
  to_ : 0 ≤ p.to_ ∧ p.to_ ≤ 4294967295
  pr : 1 ≤ p.pr ∧ p.pr ≤ 255
  ttl : 1 ≤ p.ttl ∧ p.ttl ≤ 255
  fp : 0 ≤ p.fp ∧ p.fp ≤ 65535
  tp : 0 ≤ p.tp ∧ p.tp ≤ 65535
  np : ¬ (p.pr = 6 ∨ p.pr = 17) → p.fp = 0 ∧ p.tp = 0
  load : p.load.length ≤ 200
theorem pkOk_of {p : PkR} (h : pkF p = 0) : PkOk p := by
  unfold pkF at h
  split at h
  · rename_i h1
    split at h
    · cases h
    · rename_i h2
      split at h
      · cases h
      · obtain ⟨a, b, c, d, e, f⟩ := h1
        exact ⟨a, b, c, d, e, f, fun hn => by simp only [hn, not_false_eq_true, true_and, not_or, ne_eq, Decidable.not_not] at h2; exact h2, by omega⟩
  · cases h
theorem isB_nums {l : List Int} (h : l.all (fun x => decide (0 ≤ x) && decide (x < 256)) = true) : isB l := fun x hx => by
  have := List.all_eq_true.1 h x hx; simpa using this
theorem isB_cons {a : Int} {l : List Int} (h : 0 ≤ a ∧ a < 256) (k : isB l) : isB (a :: l) := fun x hx => by
  rcases List.mem_cons.1 hx with rfl | hx
  · exact h
  · exact k x hx
theorem portsL_bd (p : PkR) : isB (portsL p) := by unfold portsL; split; exact isB_append (putL_bd _ _) (putL_bd _ _); exact isB_nil
theorem headL_bd {p : PkR} (h : PkOk p) : isB (headL p) := by
  have := h.ttl; have := h.pr
  exact isB_append (isB_nums rfl) (isB_append (putL_bd _ _) (isB_cons (by omega) (isB_cons (by omega) (isB_cons (by omega) (isB_cons (by omega) (isB_cons (by omega) (isB_cons (by omega) isB_nil)))))))
theorem endsL_bd (p : PkR) : isB (endsL p) := isB_append (putL_bd _ _) (putL_bd _ _)
theorem bareL_bd {p : PkR} (h : PkOk p) : isB (bareL p) := isB_append (headL_bd h) (isB_append (isB_nums rfl) (endsL_bd p))
theorem pkL_bd {p : PkR} (h : PkOk p) (hb : isB p.load) : isB (pkL p) := isB_append (headL_bd h) (isB_append (putL_bd _ _) (isB_append (endsL_bd p) (isB_append (portsL_bd p) hb)))
theorem tu8 {n : Int} (h : 0 ≤ n ∧ n ≤ 255) : IntKind.u8.wrap n = n := by
  have : IntKind.u8.wrap n = n % 256 := by rfl
  rw [this]; omega
noncomputable def build_S := specP (fun x : PkR => [pkT x]) (fun x => (pkF x = 0) ∧ (isB x.load)) (fun x => (.os 0 0 (pkL x).length, [.cells 5 1 (bsT (pkL x))]))
theorem build_at (p : PkR) (h : (pkF p = 0) ∧ (isB p.load)) : build_S [pkT p] = some ((.os 0 0 (pkL p).length, [.cells 5 1 (bsT (pkL p))])) := specP_at (enc := fun x : PkR => [pkT x]) (by rintro a0 b0 h; simp only [List.cons.injEq, and_true] at h; have h0 := h; obtain rfl := pkT_inj _ _ h0; rfl) p h
-- spec.l2Build
def c199 : AF := ⟨65,
  (.seq (.reg [⟨(some 1), none, .box 67 (.t 0)⟩,
   ⟨(some 2), none, .mv (.v (.slice none 0 0))⟩])
  (.seq (.reg [⟨(some 8), none, .mkS 5 0 [] []⟩,
   ⟨(some 9), none, .fa (.t 1) 6⟩,
   ⟨(some 10), none, .ld (.t 9)⟩,
   ⟨(some 11), none, .app 5 1 1 (.t 8) (.t 10)⟩,
   ⟨(some 3), none, .mv (.t 11)⟩])
  (.seq (.seq (.reg [⟨(some 12), none, .fa (.t 1) 2⟩,
   ⟨(some 13), none, .ld (.t 12)⟩,
   ⟨(some 14), none, .call 224 [(.t 13)]⟩])
  (.cond (.t 14) (.drw [⟨(some 15), none, .fa (.t 1) 4⟩,
   ⟨(some 16), none, .ld (.t 15)⟩,
   ⟨(some 17), none, .call 109 [(.t 16), (.v (.int .i64 2))]⟩,
   ⟨(some 18), none, .fa (.t 1) 5⟩,
   ⟨(some 19), none, .ld (.t 18)⟩,
   ⟨(some 22), none, .mv (.t 3)⟩] [⟨(some 20), none, .call 109 [(.t 19), (.v (.int .i64 2))]⟩,
   ⟨(some 21), none, .app 5 1 1 (.t 17) (.t 20)⟩,
   ⟨(some 23), none, .app 5 1 1 (.t 21) (.t 22)⟩,
   ⟨(some 3), none, .mv (.t 23)⟩])
  .skip))
  (.seq (.reg [⟨(some 24), none, .mkS 5 2 [(.int .u8 0), (.int .u8 0)] [(0, 1, (.v (.int .u8 69))), (1, 1, (.v (.int .u8 0)))]⟩,
   ⟨(some 25), none, .mv (.t 3)⟩,
   ⟨(some 26), none, .len (.t 25)⟩,
   ⟨(some 27), none, .bin .add (.v (.int .i64 20)) (.t 26)⟩,
   ⟨(some 28), none, .call 109 [(.t 27), (.v (.int .i64 2))]⟩,
   ⟨(some 29), none, .app 5 1 1 (.t 24) (.t 28)⟩,
   ⟨(some 4), none, .mv (.t 29)⟩])
  (.seq (.reg [⟨(some 30), none, .mv (.t 4)⟩,
   ⟨(some 31), none, .fa (.t 1) 3⟩,
   ⟨(some 32), none, .ld (.t 31)⟩,
   ⟨(some 33), none, .cvI .u8 (.t 32)⟩,
   ⟨(some 34), none, .fa (.t 1) 2⟩,
   ⟨(some 35), none, .ld (.t 34)⟩,
   ⟨(some 36), none, .cvI .u8 (.t 35)⟩,
   ⟨(some 37), none, .mkS 5 6 [(.int .u8 0), (.int .u8 0), (.int .u8 0), (.int .u8 0), (.int .u8 0), (.int .u8 0)] [(0, 1, (.v (.int .u8 0))), (1, 1, (.v (.int .u8 0))), (2, 1, (.v (.int .u8 64))), (3, 1, (.v (.int .u8 0))), (4, 1, (.t 33)), (5, 1, (.t 36))]⟩,
   ⟨(some 38), none, .app 5 1 1 (.t 30) (.t 37)⟩,
   ⟨(some 4), none, .mv (.t 38)⟩])
  (.seq (.drw [⟨(some 39), none, .fa (.t 1) 0⟩,
   ⟨(some 40), none, .ld (.t 39)⟩,
   ⟨(some 41), none, .call 109 [(.t 40), (.v (.int .i64 4))]⟩,
   ⟨(some 42), none, .fa (.t 1) 1⟩,
   ⟨(some 43), none, .ld (.t 42)⟩] [⟨(some 44), none, .call 109 [(.t 43), (.v (.int .i64 4))]⟩,
   ⟨(some 45), none, .app 5 1 1 (.t 41) (.t 44)⟩,
   ⟨(some 5), none, .mv (.t 45)⟩])
  (.seq (.reg [⟨(some 46), none, .mkS 5 0 [] []⟩,
   ⟨(some 47), none, .mv (.t 4)⟩,
   ⟨(some 48), none, .app 5 1 1 (.t 46) (.t 47)⟩,
   ⟨(some 49), none, .mkS 5 2 [(.int .u8 0), (.int .u8 0)] [(0, 1, (.v (.int .u8 0))), (1, 1, (.v (.int .u8 0)))]⟩,
   ⟨(some 50), none, .app 5 1 1 (.t 48) (.t 49)⟩,
   ⟨(some 51), none, .mv (.t 5)⟩,
   ⟨(some 52), none, .app 5 1 1 (.t 50) (.t 51)⟩,
   ⟨(some 6), none, .mv (.t 52)⟩])
  (.seq (.reg [⟨(some 53), none, .mkS 5 0 [] []⟩,
   ⟨(some 54), none, .mv (.t 4)⟩,
   ⟨(some 55), none, .app 5 1 1 (.t 53) (.t 54)⟩,
   ⟨(some 56), none, .mv (.t 6)⟩,
   ⟨(some 57), none, .call 227 [(.t 56)]⟩,
   ⟨(some 58), none, .call 109 [(.t 57), (.v (.int .i64 2))]⟩,
   ⟨(some 59), none, .app 5 1 1 (.t 55) (.t 58)⟩,
   ⟨(some 60), none, .mv (.t 5)⟩,
   ⟨(some 61), none, .app 5 1 1 (.t 59) (.t 60)⟩,
   ⟨(some 7), none, .mv (.t 61)⟩])
  (.seq (.reg [⟨(some 62), none, .mv (.t 7)⟩,
   ⟨(some 63), none, .mv (.t 3)⟩,
   ⟨(some 64), none, .app 5 1 1 (.t 62) (.t 63)⟩,
   ⟨(some 2), none, .mv (.t 64)⟩])
  .ret))))))))),
  [.t 2]⟩
theorem k199 : cFn Try.prog Try.f199 = some c199 := by kernel_rfl
theorem buildS_ok : OkT Try.prog 199 (pureSp build_S) := by
  refine okT_fn (OkΓT.cons specHasP_ok (OkΓT.cons l1Bytes_ok (OkΓT.cons sumS_ok (OkΓT.nil _)))) Try.func199 (by kernel_rfl) k199 (fun x _ => ⟨by first | rfl | simp only [go_sem], by first | rfl | simp only [go_sem]⟩) ?_
  rintro p ⟨h1, h2⟩
  dsimp only at *
  have hk := pkOk_of h1
  obtain ⟨a1, a2, a3, a4, a5, a6, a7, a8⟩ := hk
  have hl := portsL_len p
  have q2 := put_at p.fr 4 (by omega) (by omega)
  have q3 := put_at p.to_ 4 (by omega) (by omega)
  have hbd := bareL_bd (pkOk_of h1)
  have hbl := bareL_len p
  have q4 := sum_at (bareL p) hbd (by omega)
  have q4b := sumN_bd hbd
  have w1 := tu8 (n := p.ttl) (by omega)
  have w2 := tu8 (n := p.pr) (by omega)
  have n4 : ((4 : Nat) : Int) = 4 := rfl
  have n2 : ((2 : Nat) : Int) = 2 := rfl
  rw [n4] at q2 q3
  dsimp only [pkT]
  by_cases hp : p.pr = 6 ∨ p.pr = 17
  · skip

    have hpl : portsL p = putL p.fp 2 ++ putL p.tp 2 := by unfold portsL; rw [if_pos hp]
    have q1 := put_at (20 + (4 + (p.load.length : Int))) 2 (by omega) (by omega)
    have hsl : sumN (bareL p) = sumN (bareL p) := rfl
    generalize hsm : sumN (bareL p) = sm at *
    have q5 := put_at sm 2 (by omega) (by omega)
    have hres : pkL p = headL p ++ (putL sm 2 ++ (endsL p ++ (portsL p ++ p.load))) := by rw [pkL, hsm]
    have hrl : (pkL p).length = 24 + p.load.length := by rw [pkL_len, hpl]; simp [putL_len]
    rw [n2] at q1 q5

    have q6 := put_at p.fp 2 (by omega) (by omega)
    have q7 := put_at p.tp 2 (by omega) (by omega)
    rw [n2] at q6 q7

    have hh : (20 : Int) + ((putL p.fp 2 ++ putL p.tp 2 : List Int).length : Int) + (p.load.length : Int) = 20 + (4 + (p.load.length : Int)) := by simp [putL_len]; omega
    simp only [bareL, headL, hh, endsL, hpl, List.cons_append, List.nil_append, List.append_nil, List.append_assoc] at q4 hres
    rw [hrl, hres]
    (dsimp only [c199]; simp (maxSteps := 8000000) (implicitDefEqProofs := false) (disch := first | omega | (simp only [List.length_append, List.length_cons, List.length_nil, Nat.reduceAdd, putL_len]; omega)) only [↓reduceIte, go_sem, if_pos, if_neg, hasP_at, eq_true hp, q1, q2, q3, q4, q5, q6, q7, w1, w2, bs_len, putL_len, bs_append, bs_cons, bs_lit, sized1_p, sized1_nil, List.cons_append, List.nil_append, List.append_nil, List.append_assoc, List.take_of_length_le])
    exact endT_of [25] (.inr rfl) (by simp (maxSteps := 8000000) (implicitDefEqProofs := false) (disch := omega) only [↓reduceIte, go_sem, if_pos, if_neg, show 20 + (2 + (2 + p.load.length)) = 24 + p.load.length by omega]; rfl) (by simp (maxSteps := 8000000) (implicitDefEqProofs := false) (disch := omega) only [↓reduceIte, go_sem, if_pos, if_neg, show 20 + (2 + (2 + p.load.length)) = 24 + p.load.length by omega]) (by simp (maxSteps := 8000000) (implicitDefEqProofs := false) (disch := omega) only [↓reduceIte, go_sem, if_pos, if_neg, show 20 + (2 + (2 + p.load.length)) = 24 + p.load.length by omega]) (by decide) (by simp)

  · skip

    have hpl : portsL p = [] := by unfold portsL; rw [if_neg hp]
    have q1 := put_at (20 + ((p.load.length : Int))) 2 (by omega) (by omega)
    have hsl : sumN (bareL p) = sumN (bareL p) := rfl
    generalize hsm : sumN (bareL p) = sm at *
    have q5 := put_at sm 2 (by omega) (by omega)
    have hres : pkL p = headL p ++ (putL sm 2 ++ (endsL p ++ (portsL p ++ p.load))) := by rw [pkL, hsm]
    have hrl : (pkL p).length = 20 + p.load.length := by rw [pkL_len, hpl]; simp [putL_len]
    rw [n2] at q1 q5

    have hh : (20 : Int) + (([] : List Int).length : Int) + (p.load.length : Int) = 20 + ((p.load.length : Int)) := by simp [putL_len]
    simp only [bareL, headL, hh, endsL, hpl, List.cons_append, List.nil_append, List.append_nil, List.append_assoc] at q4 hres
    rw [hrl, hres]
    (dsimp only [c199]; simp (maxSteps := 8000000) (implicitDefEqProofs := false) (disch := first | omega | (simp only [List.length_append, List.length_cons, List.length_nil, Nat.reduceAdd, putL_len]; omega)) only [↓reduceIte, go_sem, if_pos, if_neg, hasP_at, eq_false hp, q1, q2, q3, q4, q5, w1, w2, bs_len, putL_len, bs_append, bs_cons, bs_lit, sized1_p, sized1_nil, List.cons_append, List.nil_append, List.append_nil, List.append_assoc, List.take_of_length_le])
    exact endT_of [21] (.inr rfl) (by simp (maxSteps := 8000000) (implicitDefEqProofs := false) (disch := omega) only [↓reduceIte, go_sem, if_pos, if_neg]; rfl) (by simp (maxSteps := 8000000) (implicitDefEqProofs := false) (disch := omega) only [↓reduceIte, go_sem, if_pos, if_neg]) (by simp (maxSteps := 8000000) (implicitDefEqProofs := false) (disch := omega) only [↓reduceIte, go_sem, if_pos, if_neg]) (by decide) (by simp)
-- impl.build
def c131 : AF := ⟨55,
  (.seq (.reg [⟨(some 1), none, .box 67 (.t 0)⟩,
   ⟨(some 2), none, .mv (.v (.slice none 0 0))⟩])
  (.seq (.reg [⟨(some 6), none, .mkS 5 0 [] []⟩,
   ⟨(some 3), none, .mv (.t 6)⟩])
  (.seq (.seq (.reg [⟨(some 7), none, .fa (.t 1) 2⟩,
   ⟨(some 8), none, .ld (.t 7)⟩,
   ⟨(some 9), none, .call 140 [(.t 8)]⟩])
  (.cond (.t 9) (.drw [⟨(some 10), none, .fa (.t 1) 4⟩,
   ⟨(some 11), none, .ld (.t 10)⟩,
   ⟨(some 12), none, .call 105 [(.t 11), (.v (.int .i64 2))]⟩,
   ⟨(some 13), none, .fa (.t 1) 5⟩,
   ⟨(some 14), none, .ld (.t 13)⟩] [⟨(some 15), none, .call 105 [(.t 14), (.v (.int .i64 2))]⟩,
   ⟨(some 16), none, .mkS 22 2 [(.slice none 0 0), (.slice none 0 0)] [(0, 1, (.t 12)), (1, 1, (.t 15))]⟩,
   ⟨(some 17), none, .call 116 [(.t 16)]⟩,
   ⟨(some 3), none, .mv (.t 17)⟩])
  .skip))
  (.seq (.reg [⟨(some 18), none, .mv (.t 3)⟩,
   ⟨(some 19), none, .len (.t 18)⟩,
   ⟨(some 20), none, .bin .add (.v (.int .i64 20)) (.t 19)⟩,
   ⟨(some 21), none, .fa (.t 1) 6⟩,
   ⟨(some 22), none, .ld (.t 21)⟩,
   ⟨(some 23), none, .len (.t 22)⟩,
   ⟨(some 24), none, .bin .add (.t 20) (.t 23)⟩,
   ⟨(some 25), none, .call 105 [(.t 24), (.v (.int .i64 2))]⟩,
   ⟨(some 4), none, .mv (.t 25)⟩])
  (.seq (.drw [⟨(some 26), none, .mkS 5 2 [(.int .u8 0), (.int .u8 0)] [(0, 1, (.v (.int .u8 69))), (1, 1, (.v (.int .u8 0)))]⟩,
   ⟨(some 27), none, .mv (.t 4)⟩,
   ⟨(some 28), none, .fa (.t 1) 3⟩,
   ⟨(some 29), none, .ld (.t 28)⟩,
   ⟨(some 30), none, .cvI .u8 (.t 29)⟩,
   ⟨(some 31), none, .fa (.t 1) 2⟩,
   ⟨(some 32), none, .ld (.t 31)⟩,
   ⟨(some 33), none, .cvI .u8 (.t 32)⟩,
   ⟨(some 34), none, .mkS 5 8 [(.int .u8 0), (.int .u8 0), (.int .u8 0), (.int .u8 0), (.int .u8 0), (.int .u8 0), (.int .u8 0), (.int .u8 0)] [(0, 1, (.v (.int .u8 0))), (1, 1, (.v (.int .u8 0))), (2, 1, (.v (.int .u8 64))), (3, 1, (.v (.int .u8 0))), (4, 1, (.t 30)), (5, 1, (.t 33)), (6, 1, (.v (.int .u8 0))), (7, 1, (.v (.int .u8 0)))]⟩,
   ⟨(some 35), none, .fa (.t 1) 0⟩,
   ⟨(some 36), none, .ld (.t 35)⟩,
   ⟨(some 37), none, .call 105 [(.t 36), (.v (.int .i64 4))]⟩,
   ⟨(some 38), none, .fa (.t 1) 1⟩,
   ⟨(some 39), none, .ld (.t 38)⟩,
   ⟨(some 40), none, .call 105 [(.t 39), (.v (.int .i64 4))]⟩] [⟨(some 41), none, .mkS 22 5 [(.slice none 0 0), (.slice none 0 0), (.slice none 0 0), (.slice none 0 0), (.slice none 0 0)] [(0, 1, (.t 26)), (1, 1, (.t 27)), (2, 1, (.t 34)), (3, 1, (.t 37)), (4, 1, (.t 40))]⟩,
   ⟨(some 42), none, .call 116 [(.t 41)]⟩,
   ⟨(some 5), none, .mv (.t 42)⟩])
  (.seq (.drw [⟨(some 43), none, .mv (.t 5)⟩,
   ⟨(some 44), none, .sl 1 (.t 43) (some (.v (.int .i64 10))) none⟩,
   ⟨(some 45), none, .mv (.t 5)⟩,
   ⟨(some 46), none, .call 197 [(.t 45)]⟩,
   ⟨(some 47), none, .call 105 [(.t 46), (.v (.int .i64 2))]⟩] [⟨(some 48), none, .cpy 1 (.t 44) (.t 47)⟩])
  (.seq (.reg [⟨(some 49), none, .mv (.t 5)⟩,
   ⟨(some 50), none, .mv (.t 3)⟩,
   ⟨(some 51), none, .fa (.t 1) 6⟩,
   ⟨(some 52), none, .ld (.t 51)⟩,
   ⟨(some 53), none, .mkS 22 3 [(.slice none 0 0), (.slice none 0 0), (.slice none 0 0)] [(0, 1, (.t 49)), (1, 1, (.t 50)), (2, 1, (.t 52))]⟩,
   ⟨(some 54), none, .call 116 [(.t 53)]⟩,
   ⟨(some 2), none, .mv (.t 54)⟩])
  .ret))))))),
  [.t 2]⟩
theorem k131 : cFn Try.prog Try.f131 = some c131 := by kernel_rfl
theorem buildI_ok : OkT Try.prog 131 (pureSp build_S) := by
  refine okT_fn (OkΓT.cons implHasP_ok (OkΓT.cons put_ok (OkΓT.cons concat_ok (OkΓT.cons sumI_ok (OkΓT.nil _))))) Try.func131 (by kernel_rfl) k131 (fun x _ => ⟨by first | rfl | simp only [go_sem], by first | rfl | simp only [go_sem]⟩) ?_
  rintro p ⟨h1, h2⟩
  dsimp only at *
  have hk := pkOk_of h1
  obtain ⟨a1, a2, a3, a4, a5, a6, a7, a8⟩ := hk
  have hl := portsL_len p
  have q2 := put_at p.fr 4 (by omega) (by omega)
  have q3 := put_at p.to_ 4 (by omega) (by omega)
  have hbd := bareL_bd (pkOk_of h1)
  have hbl := bareL_len p
  have q4 := sum_at (bareL p) hbd (by omega)
  have q4b := sumN_bd hbd
  have w1 := tu8 (n := p.ttl) (by omega)
  have w2 := tu8 (n := p.pr) (by omega)
  have n4 : ((4 : Nat) : Int) = 4 := rfl
  have n2 : ((2 : Nat) : Int) = 2 := rfl
  rw [n4] at q2 q3
  dsimp only [pkT]
  by_cases hp : p.pr = 6 ∨ p.pr = 17
  · skip

    have hpl : portsL p = putL p.fp 2 ++ putL p.tp 2 := by unfold portsL; rw [if_pos hp]
    have q1 := put_at (20 + (4 + (p.load.length : Int))) 2 (by omega) (by omega)
    have hsl : sumN (bareL p) = sumN (bareL p) := rfl
    generalize hsm : sumN (bareL p) = sm at *
    have q5 := put_at sm 2 (by omega) (by omega)
    have hres : pkL p = headL p ++ (putL sm 2 ++ (endsL p ++ (portsL p ++ p.load))) := by rw [pkL, hsm]
    have hrl : (pkL p).length = 24 + p.load.length := by rw [pkL_len, hpl]; simp [putL_len]
    rw [n2] at q1 q5

    have q6 := put_at p.fp 2 (by omega) (by omega)
    have q7 := put_at p.tp 2 (by omega) (by omega)
    rw [n2] at q6 q7

    have hh : (20 : Int) + ((putL p.fp 2 ++ putL p.tp 2 : List Int).length : Int) + (p.load.length : Int) = 20 + (4 + (p.load.length : Int)) := by simp [putL_len]; omega
    have hrl0 : (24 : Int) + (p.load.length : Int) = 20 + (4 + (p.load.length : Int)) := by omega
    have c1 : concat_S [.s [.s (bsT (putL p.fp 2)), .s (bsT (putL p.tp 2))]] = _ := concat_at [putL p.fp 2, putL p.tp 2] (by simp [putL_len])
    have e1 : [putL p.fp 2, putL p.tp 2].flatten = putL p.fp 2 ++ putL p.tp 2 := by simp
    have e1l : (putL p.fp 2 ++ putL p.tp 2).length = 4 := by simp [putL_len]
    rw [e1, e1l] at c1
    have c2 : concat_S [.s [.s [.p (.int .u8 69), .p (.int .u8 0)], .s (bsT (putL (20 + (4 + (p.load.length : Int))) 2)), .s [.p (.int .u8 0), .p (.int .u8 0), .p (.int .u8 64), .p (.int .u8 0), .p (.int .u8 p.ttl), .p (.int .u8 p.pr), .p (.int .u8 0), .p (.int .u8 0)], .s (bsT (putL p.fr 4)), .s (bsT (putL p.to_ 4))]] = _ := concat_at [[69, 0], putL (20 + (4 + (p.load.length : Int))) 2, [0, 0, 64, 0, p.ttl, p.pr, 0, 0], putL p.fr 4, putL p.to_ 4] (by simp [putL_len])
    have e2 : [[69, 0], putL (20 + (4 + (p.load.length : Int))) 2, [0, 0, 64, 0, p.ttl, p.pr, 0, 0], putL p.fr 4, putL p.to_ 4].flatten = bareL p := by
      simp only [bareL, headL, endsL, hpl, hh, List.flatten_cons, List.flatten_nil, List.cons_append, List.nil_append, List.append_nil, List.append_assoc]
    rw [e2, hbl] at c2
    have e3 : (bareL p).take 10 ++ (putL sm 2 ++ (bareL p).drop (10 + min 2 (((20 : Nat) : Int) - 10).toNat)) = headL p ++ (putL sm 2 ++ endsL p) := by
      have h1 := headL_len p
      rw [show 10 + min 2 (((20 : Nat) : Int) - 10).toNat = 12 from rfl, bareL, List.take_append_of_le_length (by omega), List.take_of_length_le (by omega), List.drop_append, List.drop_eq_nil_of_le (by omega), h1, List.nil_append]
      rfl
    have c3 : concat_S [.s [.s (bsT (headL p ++ (putL sm 2 ++ endsL p))), .s (bsT (putL p.fp 2 ++ putL p.tp 2)), .s (bsT p.load)]] = _ := concat_at [headL p ++ (putL sm 2 ++ endsL p), putL p.fp 2 ++ putL p.tp 2, p.load] (by simp [putL_len, headL_len, endsL_len]; omega)
    have e4 : [headL p ++ (putL sm 2 ++ endsL p), putL p.fp 2 ++ putL p.tp 2, p.load].flatten = pkL p := by
      simp only [hres, hpl, List.flatten_cons, List.flatten_nil, List.cons_append, List.nil_append, List.append_nil, List.append_assoc]
    rw [e4] at c3
    have hb2 := bs_len (bareL p)
    (dsimp only [c131]; simp (maxSteps := 8000000) (implicitDefEqProofs := false) (disch := first | omega | (simp only [List.length_append, List.length_cons, List.length_nil, Nat.reduceAdd, putL_len, headL_len, endsL_len, bareL_len]; omega)) only [↓reduceIte, go_sem, if_pos, if_neg, hasP_at, eq_true hp, q1, q2, q3, q4, q5, q6, q7, c1, w1, w2, bs_len, putL_len, hrl0, c2, hb2, hbl, sized1_p, sized1_nil, List.take_of_length_le, e3, c3, headL_len, endsL_len, hrl])
    rw [hrl]
    exact endT_of [15] (.inr rfl) (by simp (maxSteps := 8000000) (implicitDefEqProofs := false) (disch := omega) only [↓reduceIte, go_sem, if_pos, if_neg]; rfl) (by simp (maxSteps := 8000000) (implicitDefEqProofs := false) (disch := omega) only [↓reduceIte, go_sem, if_pos, if_neg]) (by simp (maxSteps := 8000000) (implicitDefEqProofs := false) (disch := omega) only [↓reduceIte, go_sem, if_pos, if_neg]) (by decide) (by simp)

  · skip

    have hpl : portsL p = [] := by unfold portsL; rw [if_neg hp]
    have q1 := put_at (20 + ((p.load.length : Int))) 2 (by omega) (by omega)
    have hsl : sumN (bareL p) = sumN (bareL p) := rfl
    generalize hsm : sumN (bareL p) = sm at *
    have q5 := put_at sm 2 (by omega) (by omega)
    have hres : pkL p = headL p ++ (putL sm 2 ++ (endsL p ++ (portsL p ++ p.load))) := by rw [pkL, hsm]
    have hrl : (pkL p).length = 20 + p.load.length := by rw [pkL_len, hpl]; simp [putL_len]
    rw [n2] at q1 q5

    have hh : (20 : Int) + (([] : List Int).length : Int) + (p.load.length : Int) = 20 + ((p.load.length : Int)) := by simp [putL_len]
    have hrl0 : (20 : Int) + (p.load.length : Int) = 20 + ((p.load.length : Int)) := by omega

    have c2 : concat_S [.s [.s [.p (.int .u8 69), .p (.int .u8 0)], .s (bsT (putL (20 + ((p.load.length : Int))) 2)), .s [.p (.int .u8 0), .p (.int .u8 0), .p (.int .u8 64), .p (.int .u8 0), .p (.int .u8 p.ttl), .p (.int .u8 p.pr), .p (.int .u8 0), .p (.int .u8 0)], .s (bsT (putL p.fr 4)), .s (bsT (putL p.to_ 4))]] = _ := concat_at [[69, 0], putL (20 + ((p.load.length : Int))) 2, [0, 0, 64, 0, p.ttl, p.pr, 0, 0], putL p.fr 4, putL p.to_ 4] (by simp [putL_len])
    have e2 : [[69, 0], putL (20 + ((p.load.length : Int))) 2, [0, 0, 64, 0, p.ttl, p.pr, 0, 0], putL p.fr 4, putL p.to_ 4].flatten = bareL p := by
      simp only [bareL, headL, endsL, hpl, hh, List.flatten_cons, List.flatten_nil, List.cons_append, List.nil_append, List.append_nil, List.append_assoc]
    rw [e2, hbl] at c2
    have e3 : (bareL p).take 10 ++ (putL sm 2 ++ (bareL p).drop (10 + min 2 (((20 : Nat) : Int) - 10).toNat)) = headL p ++ (putL sm 2 ++ endsL p) := by
      have h1 := headL_len p
      rw [show 10 + min 2 (((20 : Nat) : Int) - 10).toNat = 12 from rfl, bareL, List.take_append_of_le_length (by omega), List.take_of_length_le (by omega), List.drop_append, List.drop_eq_nil_of_le (by omega), h1, List.nil_append]
      rfl
    have c3 : concat_S [.s [.s (bsT (headL p ++ (putL sm 2 ++ endsL p))), .s [], .s (bsT p.load)]] = _ := concat_at [headL p ++ (putL sm 2 ++ endsL p), [], p.load] (by simp [putL_len, headL_len, endsL_len]; omega)
    have e4 : [headL p ++ (putL sm 2 ++ endsL p), [], p.load].flatten = pkL p := by
      simp only [hres, hpl, List.flatten_cons, List.flatten_nil, List.cons_append, List.nil_append, List.append_nil, List.append_assoc]
    rw [e4] at c3
    have hb2 := bs_len (bareL p)
    (dsimp only [c131]; simp (maxSteps := 8000000) (implicitDefEqProofs := false) (disch := first | omega | (simp only [List.length_append, List.length_cons, List.length_nil, Nat.reduceAdd, putL_len, headL_len, endsL_len, bareL_len]; omega)) only [↓reduceIte, go_sem, if_pos, if_neg, hasP_at, eq_false hp, q1, q2, q3, q4, q5, w1, w2, bs_len, putL_len, c2, hb2, hbl, sized1_p, sized1_nil, List.take_of_length_le, e3, c3, headL_len, endsL_len, hrl])
    rw [hrl]
    exact endT_of [11] (.inr rfl) (by simp (maxSteps := 8000000) (implicitDefEqProofs := false) (disch := omega) only [↓reduceIte, go_sem, if_pos, if_neg]; rfl) (by simp (maxSteps := 8000000) (implicitDefEqProofs := false) (disch := omega) only [↓reduceIte, go_sem, if_pos, if_neg]) (by simp (maxSteps := 8000000) (implicitDefEqProofs := false) (disch := omega) only [↓reduceIte, go_sem, if_pos, if_neg]) (by decide) (by simp)
end Go.Proofs.Ytkijbknnbmbnbaa
