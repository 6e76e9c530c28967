import Derived.Test.YtngebdcbcliobaaE13
set_option linter.unusedSimpArgs false
set_option linter.unusedVariables false
set_option maxRecDepth 100000
set_option maxHeartbeats 4000000
namespace Go.Proofs.Ytngebdcbcliobaa
open Go Go.AH
attribute [local irreducible] awpT ropsT qopsT stepT condKT gdKT EndT joinK loopKT seqKT blkKT kont kontR
/-! A packet in a packet -/
noncomputable def buildP_S := specP (fun x : PkR => [pkT x]) (fun x => (isB x.load) ∧ (x.load.length ≤ 1048576)) (fun x => brV (pkF x) (pkL x))
theorem buildP_at (p : PkR) (h : (isB p.load) ∧ (p.load.length ≤ 1048576)) : buildP_S [pkT p] = some (brV (pkF p) (pkL p)) := specP_at (enc := fun x : PkR => [pkT x]) (by rintro a0 b0 h; simp only [List.cons.injEq, and_true] at h; have h0 := h; obtain rfl := pkT_inj _ _ h0; rfl) p h
-- impl.BuildPacket
def c105 : AF := ⟨13,
  (.seq (.reg [⟨(some 1), none, .box 68 (.t 0)⟩,
   ⟨(some 2), none, .alloc 66 [(.int .i64 0), (.slice none 0 0)]⟩])
  (.seq (.seq (.reg [⟨(some 4), none, .ldn 7 (.t 1)⟩,
   ⟨(some 5), none, .call 102 [(.t 4)]⟩,
   ⟨(some 3), none, .mv (.t 5)⟩])
  (.seq (.reg [⟨(some 6), none, .mv (.t 3)⟩,
   ⟨(some 7), none, .bin .neq (.t 6) (.v (.int .i64 0))⟩])
  (.cond (.t 7) (.seq (.reg [⟨(some 8), none, .mv (.t 3)⟩,
   ⟨(some 9), none, .build [(.int .i64 0), (.slice none 0 0)] [(0, 1, (.t 8))]⟩,
   ⟨none, none, .st 2 (.t 2) (.t 9)⟩])
  .ret)
  .skip)))
  (.seq (.reg [⟨(some 10), none, .ldn 7 (.t 1)⟩,
   ⟨(some 11), none, .call 103 [(.t 10)]⟩,
   ⟨(some 12), none, .build [(.int .i64 0), (.slice none 0 0)] [(0, 1, (.v (.int .i64 0))), (1, 1, (.t 11))]⟩,
   ⟨none, none, .st 2 (.t 2) (.t 12)⟩])
  .ret))),
  [.cell 2 (some 2)]⟩
theorem k105 : cFn Try.prog Try.f105 = some c105 := by kernel_rfl
theorem buildPI_ok : OkT Try.prog 105 (pureSp buildP_S) := by
  refine okT_fn (OkΓT.cons pkFI_ok (OkΓT.cons buildI_ok (OkΓT.nil _))) Try.func105 (by kernel_rfl) k105 (fun x _ => brV_own _ _) ?_
  rintro p ⟨h1, h2⟩
  try dsimp only at *
  have hf := pkF_at p
  by_cases c0 : pkF p = 0
  · have hb := build_at p ⟨c0, h1⟩
    have hl := pkL_len p
    rw [brV_ok c0, zOf_pos (by omega)]
    rw [c0] at hf
    generalize pkL p = L at *
    dsimp only [pkT] at *
    (dsimp only [c105]; simp (maxSteps := 8000000) (implicitDefEqProofs := false) (disch := omega) only [↓reduceIte, go_sem, if_pos, if_neg, hf, hb])
    exact endT_of [2] (.inr rfl) (by simp (maxSteps := 8000000) (implicitDefEqProofs := false) (disch := omega) only [↓reduceIte, go_sem, if_pos, if_neg]; rfl) (by simp (maxSteps := 8000000) (implicitDefEqProofs := false) (disch := omega) only [↓reduceIte, go_sem, if_pos, if_neg]) (by simp (maxSteps := 8000000) (implicitDefEqProofs := false) (disch := omega) only [↓reduceIte, go_sem, if_pos, if_neg]) (by decide) (by simp)
  · rw [brV_bad rfl c0]
    generalize pkF p = c at *
    dsimp only [pkT] at *
    (dsimp only [c105]; simp (maxSteps := 8000000) (implicitDefEqProofs := false) (disch := omega) only [↓reduceIte, go_sem, if_pos, if_neg, hf, eq_false c0])
    exact endT_v (.inr rfl) (by (simp (maxSteps := 8000000) (implicitDefEqProofs := false) (disch := omega) only [↓reduceIte, go_sem, if_pos, if_neg]) <;> rfl) (fun _ => rfl)
-- spec.BuildPacket
def c100 : AF := ⟨13,
  (.seq (.reg [⟨(some 1), none, .box 68 (.t 0)⟩,
   ⟨(some 2), none, .alloc 66 [(.int .i64 0), (.slice none 0 0)]⟩])
  (.seq (.seq (.reg [⟨(some 4), none, .ldn 7 (.t 1)⟩,
   ⟨(some 5), none, .call 138 [(.t 4)]⟩,
   ⟨(some 3), none, .mv (.t 5)⟩])
  (.seq (.reg [⟨(some 6), none, .mv (.t 3)⟩,
   ⟨(some 7), none, .bin .neq (.t 6) (.v (.int .i64 0))⟩])
  (.cond (.t 7) (.seq (.reg [⟨(some 8), none, .mv (.t 3)⟩,
   ⟨(some 9), none, .build [(.int .i64 0), (.slice none 0 0)] [(0, 1, (.t 8))]⟩,
   ⟨none, none, .st 2 (.t 2) (.t 9)⟩])
  .ret)
  .skip)))
  (.seq (.reg [⟨(some 10), none, .ldn 7 (.t 1)⟩,
   ⟨(some 11), none, .call 153 [(.t 10)]⟩,
   ⟨(some 12), none, .build [(.int .i64 0), (.slice none 0 0)] [(1, 1, (.t 11))]⟩,
   ⟨none, none, .st 2 (.t 2) (.t 12)⟩])
  .ret))),
  [.cell 2 (some 2)]⟩
theorem k100 : cFn Try.prog Try.f100 = some c100 := by kernel_rfl
theorem buildPS_ok : OkT Try.prog 100 (pureSp buildP_S) := by
  refine okT_fn (OkΓT.cons pkFS_ok (OkΓT.cons buildS_ok (OkΓT.nil _))) Try.func100 (by kernel_rfl) k100 (fun x _ => brV_own _ _) ?_
  rintro p ⟨h1, h2⟩
  try dsimp only at *
  have hf := pkF_at p
  by_cases c0 : pkF p = 0
  · have hb := build_at p ⟨c0, h1⟩
    have hl := pkL_len p
    rw [brV_ok c0, zOf_pos (by omega)]
    rw [c0] at hf
    generalize pkL p = L at *
    dsimp only [pkT] at *
    (dsimp only [c100]; simp (maxSteps := 8000000) (implicitDefEqProofs := false) (disch := omega) only [↓reduceIte, go_sem, if_pos, if_neg, hf, hb])
    exact endT_of [2] (.inr rfl) (by simp (maxSteps := 8000000) (implicitDefEqProofs := false) (disch := omega) only [↓reduceIte, go_sem, if_pos, if_neg]; rfl) (by simp (maxSteps := 8000000) (implicitDefEqProofs := false) (disch := omega) only [↓reduceIte, go_sem, if_pos, if_neg]) (by simp (maxSteps := 8000000) (implicitDefEqProofs := false) (disch := omega) only [↓reduceIte, go_sem, if_pos, if_neg]) (by decide) (by simp)
  · rw [brV_bad rfl c0]
    generalize pkF p = c at *
    dsimp only [pkT] at *
    (dsimp only [c100]; simp (maxSteps := 8000000) (implicitDefEqProofs := false) (disch := omega) only [↓reduceIte, go_sem, if_pos, if_neg, hf, eq_false c0])
    exact endT_v (.inr rfl) (by (simp (maxSteps := 8000000) (implicitDefEqProofs := false) (disch := omega) only [↓reduceIte, go_sem, if_pos, if_neg]) <;> rfl) (fun _ => rfl)

def tunP (f g a k s : Int) (p : PkR) : PkR := ⟨f, g, 50, 64, 0, 0, wrapL a k s (pkL p)⟩
def tunC (f g a k s : Int) (p : PkR) : Int := if pkF p = 0 then (if ((pkL p).length : Int) > 170 then 2 else if wrapC a k s (pkL p) = 0 then pkF (tunP f g a k s p) else wrapC a k s (pkL p)) else pkF p
def tunL (f g a k s : Int) (p : PkR) : List Int := pkL (tunP f g a k s p)
noncomputable def tun_S := specP (fun x : Int × Int × Int × Int × Int × PkR => [.p (.int .i64 x.1), .p (.int .i64 x.2.1), .p (.int .i64 x.2.2.1), .p (.int .i64 x.2.2.2.1), .p (.int .i64 x.2.2.2.2.1), pkT x.2.2.2.2.2]) (fun x => (isB x.2.2.2.2.2.load) ∧ (x.2.2.2.2.2.load.length ≤ 1048576)) (fun x => brV (tunC x.1 x.2.1 x.2.2.1 x.2.2.2.1 x.2.2.2.2.1 x.2.2.2.2.2) (tunL x.1 x.2.1 x.2.2.1 x.2.2.2.1 x.2.2.2.2.1 x.2.2.2.2.2))
theorem tun_at (f : Int) (g : Int) (a : Int) (k : Int) (s : Int) (p : PkR) (h : (isB p.load) ∧ (p.load.length ≤ 1048576)) : tun_S [.p (.int .i64 f), .p (.int .i64 g), .p (.int .i64 a), .p (.int .i64 k), .p (.int .i64 s), pkT p] = some (brV (tunC f g a k s p) (tunL f g a k s p)) := specP_at (enc := fun x : Int × Int × Int × Int × Int × PkR => [.p (.int .i64 x.1), .p (.int .i64 x.2.1), .p (.int .i64 x.2.2.1), .p (.int .i64 x.2.2.2.1), .p (.int .i64 x.2.2.2.2.1), pkT x.2.2.2.2.2]) (by rintro ⟨a0, a1, a2, a3, a4, a5⟩ ⟨b0, b1, b2, b3, b4, b5⟩ h; simp only [List.cons.injEq, and_true] at h; obtain ⟨h0, h1, h2, h3, h4, h5⟩ := h; obtain rfl := p64_inj h0; obtain rfl := p64_inj h1; obtain rfl := p64_inj h2; obtain rfl := p64_inj h3; obtain rfl := p64_inj h4; obtain rfl := pkT_inj _ _ h5; rfl) (f, g, a, k, s, p) h
-- impl.TunnelPacket
def c41 : AF := ⟨43,
  (.seq (.reg [⟨(some 11), none, .box 68 (.t 5)⟩,
   ⟨(some 12), none, .alloc 66 [(.int .i64 0), (.slice none 0 0)]⟩])
  (.seq (.seq (.reg [⟨(some 16), none, .ldn 7 (.t 11)⟩,
   ⟨(some 17), none, .call 102 [(.t 16)]⟩,
   ⟨(some 13), none, .mv (.t 17)⟩])
  (.seq (.reg [⟨(some 18), none, .mv (.t 13)⟩,
   ⟨(some 19), none, .bin .neq (.t 18) (.v (.int .i64 0))⟩])
  (.cond (.t 19) (.seq (.reg [⟨(some 20), none, .mv (.t 13)⟩,
   ⟨(some 21), none, .build [(.int .i64 0), (.slice none 0 0)] [(0, 1, (.t 20))]⟩,
   ⟨none, none, .st 2 (.t 12) (.t 21)⟩])
  .ret)
  .skip)))
  (.seq (.reg [⟨(some 22), none, .ldn 7 (.t 11)⟩,
   ⟨(some 23), none, .call 103 [(.t 22)]⟩,
   ⟨(some 14), none, .mv (.t 23)⟩])
  (.seq (.seq (.reg [⟨(some 24), none, .mv (.t 14)⟩,
   ⟨(some 25), none, .len (.t 24)⟩,
   ⟨(some 26), none, .bin .gtr (.t 25) (.v (.int .i64 170))⟩])
  (.cond (.t 26) (.seq (.reg [⟨(some 27), none, .build [(.int .i64 0), (.slice none 0 0)] [(0, 1, (.v (.int .i64 2)))]⟩,
   ⟨none, none, .st 2 (.t 12) (.t 27)⟩])
  .ret)
  .skip))
  (.seq (.reg [⟨(some 28), none, .mv (.t 2)⟩,
   ⟨(some 29), none, .mv (.t 3)⟩,
   ⟨(some 30), none, .mv (.t 4)⟩,
   ⟨(some 31), none, .mv (.t 14)⟩,
   ⟨(some 32), none, .call 104 [(.t 28), (.t 29), (.t 30), (.t 31)]⟩,
   ⟨(some 15), none, .alloc 66 [(.int .i64 0), (.slice none 0 0)]⟩,
   ⟨none, none, .st 2 (.t 15) (.t 32)⟩])
  (.seq (.seq (.reg [⟨(some 33), none, .fa (.t 15) 0⟩,
   ⟨(some 34), none, .ld (.t 33)⟩,
   ⟨(some 35), none, .bin .neq (.t 34) (.v (.int .i64 0))⟩])
  (.cond (.t 35) (.seq (.reg [⟨(some 36), none, .ldn 2 (.t 15)⟩,
   ⟨none, none, .st 2 (.t 12) (.t 36)⟩])
  .ret)
  .skip))
  (.seq (.reg [⟨(some 37), none, .mv (.t 0)⟩,
   ⟨(some 38), none, .mv (.t 1)⟩,
   ⟨(some 39), none, .fa (.t 15) 1⟩,
   ⟨(some 40), none, .ld (.t 39)⟩,
   ⟨(some 41), none, .build [(.int .i64 0), (.int .i64 0), (.int .i64 0), (.int .i64 0), (.int .i64 0), (.int .i64 0), (.slice none 0 0)] [(0, 1, (.t 37)), (1, 1, (.t 38)), (2, 1, (.v (.int .i64 50))), (3, 1, (.v (.int .i64 64))), (6, 1, (.t 40))]⟩,
   ⟨(some 42), none, .call 105 [(.t 41)]⟩,
   ⟨none, none, .st 2 (.t 12) (.t 42)⟩])
  .ret))))))),
  [.cell 12 (some 2)]⟩
theorem k41 : cFn Try.prog Try.f41 = some c41 := by kernel_rfl
theorem tunI_ok : OkT Try.prog 41 (pureSp tun_S) := by
  refine okT_fn (OkΓT.cons pkFI_ok (OkΓT.cons buildI_ok (OkΓT.cons wrapI_ok (OkΓT.cons buildPI_ok (OkΓT.nil _))))) Try.func41 (by kernel_rfl) k41 (fun x _ => brV_own _ _) ?_
  rintro ⟨f, g, a, k, s, p⟩ ⟨h1, h2⟩
  try dsimp only at *
  have hf := pkF_at p
  by_cases c0 : pkF p = 0
  case neg =>
    rw [brV_bad (c' := pkF p) (by unfold tunC; rw [if_neg c0]) c0]
    generalize pkF p = c at *
    dsimp only [pkT] at *
    (dsimp only [c41]; simp (maxSteps := 8000000) (implicitDefEqProofs := false) (disch := omega) only [↓reduceIte, go_sem, if_pos, if_neg, hf, eq_false c0])
    exact endT_v (.inr rfl) (by (simp (maxSteps := 8000000) (implicitDefEqProofs := false) (disch := omega) only [↓reduceIte, go_sem, if_pos, if_neg]) <;> rfl) (fun _ => rfl)
  have hpo := pkOk_of c0
  have hld := hpo.load
  have hlb := pkL_bd hpo h1
  have hll := pkL_len p
  have hpl := portsL_len p
  have hlen := bs_len (pkL p)
  have htk : (pkL p).take (pkL p).length = pkL p := List.take_length
  have hcc : tunC f g a k s p = (if ((pkL p).length : Int) > 170 then 2 else if wrapC a k s (pkL p) = 0 then pkF (tunP f g a k s p) else wrapC a k s (pkL p)) := by unfold tunC; rw [if_pos c0]
  have hww := wrapL_len a k s (pkL p)
  have hwb := wrapL_bd a k s (pkL p)
  have hpl4 := padL_len (pkL p) 4 4
  have hpn := padN_bd (n := (pkL p).length) (S := 4) (by omega)
  have hq := buildP_at (tunP f g a k s p) ⟨hwb, by show (wrapL a k s (pkL p)).length ≤ 1048576; omega⟩
  have hpt : pkT (tunP f g a k s p) = .agg [.p (.int .i64 f), .p (.int .i64 g), .p (.int .i64 50), .p (.int .i64 64), .p (.int .i64 0), .p (.int .i64 0), .s (bsT (wrapL a k s (pkL p)))] := rfl
  have hpk := pkL_len (tunP f g a k s p)
  rw [hpt] at hq
  have htl : tunL f g a k s p = pkL (tunP f g a k s p) := rfl
  have hb := build_at p ⟨c0, h1⟩
  rw [c0] at hf
  have hw := wrap_at a k s (pkL p) ⟨hlb, by omega⟩
  by_cases c1 : ((pkL p).length : Int) > 170
  case pos =>
    rw [brV_bad (c' := 2) (by rw [hcc, if_pos c1]) (by decide)]
    generalize pkL p = L at *
    dsimp only [pkT] at *
    (dsimp only [c41]; simp (maxSteps := 8000000) (implicitDefEqProofs := false) (disch := omega) only [↓reduceIte, go_sem, if_pos, if_neg, hf, hb, hlen, eq_true c1])
    exact endT_v (.inr rfl) (by (simp (maxSteps := 8000000) (implicitDefEqProofs := false) (disch := omega) only [↓reduceIte, go_sem, if_pos, if_neg]) <;> rfl) (fun _ => rfl)
  rw [if_neg c1] at hcc
  by_cases c2 : wrapC a k s (pkL p) = 0
  case neg =>
    rw [brV_bad rfl c2] at hw
    rw [brV_bad (c' := wrapC a k s (pkL p)) (by rw [hcc, if_neg c2]) c2]
    generalize wrapC a k s (pkL p) = wc at *
    generalize pkL p = L at *
    dsimp only [pkT] at *
    (dsimp only [c41]; simp (maxSteps := 8000000) (implicitDefEqProofs := false) (disch := omega) only [↓reduceIte, go_sem, if_pos, if_neg, hf, hb, hlen, htk, eq_false c1, hw, eq_false c2])
    exact endT_v (.inr rfl) (by (simp (maxSteps := 8000000) (implicitDefEqProofs := false) (disch := omega) only [↓reduceIte, go_sem, if_pos, if_neg]) <;> rfl) (fun _ => rfl)
  rw [brV_ok c2, zOf_pos (by omega)] at hw
  rw [if_pos c2] at hcc
  have hwt : (wrapL a k s (pkL p)).take (wrapL a k s (pkL p)).length = wrapL a k s (pkL p) := List.take_length
  rw [hcc, htl]
  generalize pkF (tunP f g a k s p) = c3 at *
  generalize pkL (tunP f g a k s p) = M at *
  generalize wrapL a k s (pkL p) = WL at *
  generalize pkL p = L at *
  dsimp only [pkT] at *
  by_cases h3 : c3 = 0
  · rw [brV_ok h3, zOf_pos (by omega)] at hq ⊢
    (dsimp only [c41]; simp (maxSteps := 8000000) (implicitDefEqProofs := false) (disch := omega) only [↓reduceIte, go_sem, if_pos, if_neg, hf, hb, hlen, htk, eq_false c1, hw, hwt, hq])
    exact endT_of [5] (.inr rfl) (by simp (maxSteps := 8000000) (implicitDefEqProofs := false) (disch := omega) only [↓reduceIte, go_sem, if_pos, if_neg]; rfl) (by simp (maxSteps := 8000000) (implicitDefEqProofs := false) (disch := omega) only [↓reduceIte, go_sem, if_pos, if_neg]) (by simp (maxSteps := 8000000) (implicitDefEqProofs := false) (disch := omega) only [↓reduceIte, go_sem, if_pos, if_neg]) (by decide) (by simp)
  · rw [brV_bad rfl h3] at hq ⊢
    (dsimp only [c41]; simp (maxSteps := 8000000) (implicitDefEqProofs := false) (disch := omega) only [↓reduceIte, go_sem, if_pos, if_neg, hf, hb, hlen, htk, eq_false c1, hw, hwt, hq])
    exact endT_v (.inr rfl) (by (simp (maxSteps := 8000000) (implicitDefEqProofs := false) (disch := omega) only [↓reduceIte, go_sem, if_pos, if_neg]) <;> rfl) (fun _ => rfl)
-- spec.TunnelPacket
def c39 : AF := ⟨42,
  (.seq (.reg [⟨(some 11), none, .box 68 (.t 5)⟩,
   ⟨(some 12), none, .alloc 66 [(.int .i64 0), (.slice none 0 0)]⟩])
  (.seq (.reg [⟨(some 15), none, .ldn 7 (.t 11)⟩,
   ⟨(some 16), none, .call 100 [(.t 15)]⟩,
   ⟨(some 13), none, .alloc 66 [(.int .i64 0), (.slice none 0 0)]⟩,
   ⟨none, none, .st 2 (.t 13) (.t 16)⟩])
  (.seq (.seq (.reg [⟨(some 17), none, .fa (.t 13) 0⟩,
   ⟨(some 18), none, .ld (.t 17)⟩,
   ⟨(some 19), none, .bin .neq (.t 18) (.v (.int .i64 0))⟩])
  (.cond (.t 19) (.seq (.reg [⟨(some 20), none, .ldn 2 (.t 13)⟩,
   ⟨none, none, .st 2 (.t 12) (.t 20)⟩])
  .ret)
  .skip))
  (.seq (.seq (.reg [⟨(some 21), none, .fa (.t 13) 1⟩,
   ⟨(some 22), none, .ld (.t 21)⟩,
   ⟨(some 23), none, .len (.t 22)⟩,
   ⟨(some 24), none, .bin .gtr (.t 23) (.v (.int .i64 170))⟩])
  (.cond (.t 24) (.seq (.reg [⟨(some 25), none, .build [(.int .i64 0), (.slice none 0 0)] [(0, 1, (.v (.int .i64 2)))]⟩,
   ⟨none, none, .st 2 (.t 12) (.t 25)⟩])
  .ret)
  .skip))
  (.seq (.reg [⟨(some 26), none, .mv (.t 2)⟩,
   ⟨(some 27), none, .mv (.t 3)⟩,
   ⟨(some 28), none, .mv (.t 4)⟩,
   ⟨(some 29), none, .fa (.t 13) 1⟩,
   ⟨(some 30), none, .ld (.t 29)⟩,
   ⟨(some 31), none, .call 101 [(.t 26), (.t 27), (.t 28), (.t 30)]⟩,
   ⟨(some 14), none, .alloc 66 [(.int .i64 0), (.slice none 0 0)]⟩,
   ⟨none, none, .st 2 (.t 14) (.t 31)⟩])
  (.seq (.seq (.reg [⟨(some 32), none, .fa (.t 14) 0⟩,
   ⟨(some 33), none, .ld (.t 32)⟩,
   ⟨(some 34), none, .bin .neq (.t 33) (.v (.int .i64 0))⟩])
  (.cond (.t 34) (.seq (.reg [⟨(some 35), none, .ldn 2 (.t 14)⟩,
   ⟨none, none, .st 2 (.t 12) (.t 35)⟩])
  .ret)
  .skip))
  (.seq (.reg [⟨(some 36), none, .mv (.t 0)⟩,
   ⟨(some 37), none, .mv (.t 1)⟩,
   ⟨(some 38), none, .fa (.t 14) 1⟩,
   ⟨(some 39), none, .ld (.t 38)⟩,
   ⟨(some 40), none, .build [(.int .i64 0), (.int .i64 0), (.int .i64 0), (.int .i64 0), (.int .i64 0), (.int .i64 0), (.slice none 0 0)] [(0, 1, (.t 36)), (1, 1, (.t 37)), (2, 1, (.v (.int .i64 50))), (3, 1, (.v (.int .i64 64))), (6, 1, (.t 39))]⟩,
   ⟨(some 41), none, .call 100 [(.t 40)]⟩,
   ⟨none, none, .st 2 (.t 12) (.t 41)⟩])
  .ret))))))),
  [.cell 12 (some 2)]⟩
theorem k39 : cFn Try.prog Try.f39 = some c39 := by kernel_rfl
theorem tunS_ok : OkT Try.prog 39 (pureSp tun_S) := by
  refine okT_fn (OkΓT.cons buildPS_ok (OkΓT.cons wrapS_ok (OkΓT.nil _))) Try.func39 (by kernel_rfl) k39 (fun x _ => brV_own _ _) ?_
  rintro ⟨f, g, a, k, s, p⟩ ⟨h1, h2⟩
  try dsimp only at *
  have hf := pkF_at p
  by_cases c0 : pkF p = 0
  case neg =>
    rw [brV_bad (c' := pkF p) (by unfold tunC; rw [if_neg c0]) c0]
    have hb := buildP_at p ⟨h1, h2⟩
    rw [brV_bad rfl c0] at hb
    generalize pkF p = c at *
    dsimp only [pkT] at *
    (dsimp only [c39]; simp (maxSteps := 8000000) (implicitDefEqProofs := false) (disch := omega) only [↓reduceIte, go_sem, if_pos, if_neg, hb, eq_false c0])
    exact endT_v (.inr rfl) (by (simp (maxSteps := 8000000) (implicitDefEqProofs := false) (disch := omega) only [↓reduceIte, go_sem, if_pos, if_neg]) <;> rfl) (fun _ => rfl)
  have hpo := pkOk_of c0
  have hld := hpo.load
  have hlb := pkL_bd hpo h1
  have hll := pkL_len p
  have hpl := portsL_len p
  have hlen := bs_len (pkL p)
  have htk : (pkL p).take (pkL p).length = pkL p := List.take_length
  have hcc : tunC f g a k s p = (if ((pkL p).length : Int) > 170 then 2 else if wrapC a k s (pkL p) = 0 then pkF (tunP f g a k s p) else wrapC a k s (pkL p)) := by unfold tunC; rw [if_pos c0]
  have hww := wrapL_len a k s (pkL p)
  have hwb := wrapL_bd a k s (pkL p)
  have hpl4 := padL_len (pkL p) 4 4
  have hpn := padN_bd (n := (pkL p).length) (S := 4) (by omega)
  have hq := buildP_at (tunP f g a k s p) ⟨hwb, by show (wrapL a k s (pkL p)).length ≤ 1048576; omega⟩
  have hpt : pkT (tunP f g a k s p) = .agg [.p (.int .i64 f), .p (.int .i64 g), .p (.int .i64 50), .p (.int .i64 64), .p (.int .i64 0), .p (.int .i64 0), .s (bsT (wrapL a k s (pkL p)))] := rfl
  have hpk := pkL_len (tunP f g a k s p)
  rw [hpt] at hq
  have htl : tunL f g a k s p = pkL (tunP f g a k s p) := rfl
  have hb := buildP_at p ⟨h1, h2⟩
  rw [brV_ok c0, zOf_pos (by omega)] at hb
  have hw := wrap_at a k s (pkL p) ⟨hlb, by omega⟩
  by_cases c1 : ((pkL p).length : Int) > 170
  case pos =>
    rw [brV_bad (c' := 2) (by rw [hcc, if_pos c1]) (by decide)]
    generalize pkL p = L at *
    dsimp only [pkT] at *
    (dsimp only [c39]; simp (maxSteps := 8000000) (implicitDefEqProofs := false) (disch := omega) only [↓reduceIte, go_sem, if_pos, if_neg, hb, hlen, eq_true c1])
    exact endT_v (.inr rfl) (by (simp (maxSteps := 8000000) (implicitDefEqProofs := false) (disch := omega) only [↓reduceIte, go_sem, if_pos, if_neg]) <;> rfl) (fun _ => rfl)
  rw [if_neg c1] at hcc
  by_cases c2 : wrapC a k s (pkL p) = 0
  case neg =>
    rw [brV_bad rfl c2] at hw
    rw [brV_bad (c' := wrapC a k s (pkL p)) (by rw [hcc, if_neg c2]) c2]
    generalize wrapC a k s (pkL p) = wc at *
    generalize pkL p = L at *
    dsimp only [pkT] at *
    (dsimp only [c39]; simp (maxSteps := 8000000) (implicitDefEqProofs := false) (disch := omega) only [↓reduceIte, go_sem, if_pos, if_neg, hb, hlen, htk, eq_false c1, hw, eq_false c2])
    exact endT_v (.inr rfl) (by (simp (maxSteps := 8000000) (implicitDefEqProofs := false) (disch := omega) only [↓reduceIte, go_sem, if_pos, if_neg]) <;> rfl) (fun _ => rfl)
  rw [brV_ok c2, zOf_pos (by omega)] at hw
  rw [if_pos c2] at hcc
  have hwt : (wrapL a k s (pkL p)).take (wrapL a k s (pkL p)).length = wrapL a k s (pkL p) := List.take_length
  rw [hcc, htl]
  generalize pkF (tunP f g a k s p) = c3 at *
  generalize pkL (tunP f g a k s p) = M at *
  generalize wrapL a k s (pkL p) = WL at *
  generalize pkL p = L at *
  dsimp only [pkT] at *
  by_cases h3 : c3 = 0
  · rw [brV_ok h3, zOf_pos (by omega)] at hq ⊢
    (dsimp only [c39]; simp (maxSteps := 8000000) (implicitDefEqProofs := false) (disch := omega) only [↓reduceIte, go_sem, if_pos, if_neg, hb, hlen, htk, eq_false c1, hw, hwt, hq])
    exact endT_of [6] (.inr rfl) (by simp (maxSteps := 8000000) (implicitDefEqProofs := false) (disch := omega) only [↓reduceIte, go_sem, if_pos, if_neg]; rfl) (by simp (maxSteps := 8000000) (implicitDefEqProofs := false) (disch := omega) only [↓reduceIte, go_sem, if_pos, if_neg]) (by simp (maxSteps := 8000000) (implicitDefEqProofs := false) (disch := omega) only [↓reduceIte, go_sem, if_pos, if_neg]) (by decide) (by simp)
  · rw [brV_bad rfl h3] at hq ⊢
    (dsimp only [c39]; simp (maxSteps := 8000000) (implicitDefEqProofs := false) (disch := omega) only [↓reduceIte, go_sem, if_pos, if_neg, hb, hlen, htk, eq_false c1, hw, hwt, hq])
    exact endT_v (.inr rfl) (by (simp (maxSteps := 8000000) (implicitDefEqProofs := false) (disch := omega) only [↓reduceIte, go_sem, if_pos, if_neg]) <;> rfl) (fun _ => rfl)
end Go.Proofs.Ytngebdcbcliobaa
