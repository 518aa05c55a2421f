/- What functions of the given program come to, by the abstract machine: one text of a proof. -/
import Derived.Test.YtkbfjfookfmobaaDoorDA3
set_option linter.unusedVariables false
set_option linter.unusedSimpArgs false
set_option maxRecDepth 8000
namespace Go.Abs
open Go.Proofs Go.Proofs.Tryd
def BsLaw (zs : List Int) : Prop := ∀ i, 0 ≤ zs.getD i 0 ∧ zs.getD i 0 < 256
def WdsLaw (W : Nat) (l : List Int) : Prop := Wds W l
def wsLaw (W : Nat) (m : Int) (l0 l1 : List Int) (R : Nat) (ws : List Int) : List Int := schLaw W m l0 l1 (ws.take 16) (R - 16) ++ List.replicate (80 - R) 0
def tailLaw (ws : List Int) : Prop := ws.length = 80 ∧ ws.drop 16 = List.replicate 64 0
def rndAtLaw (W : Nat) (m : Int) (u0 u1 ws x : List Int) (R j : Nat) : Int := (rndsLaw W m u0 u1 ws x R).getD j 0
theorem c32 (t : Nat) : cubesLaw.getD t 0 / 4294967296 % 4294967296 = cLaw 32 t := by
  have h := cubes_rng t
  unfold cLaw
  rw [show (2 : Int) ^ (64 - 32) = 4294967296 by decide]
  omega
theorem c64 (t : Nat) : cubesLaw.getD t 0 / 1 = cLaw 64 t := by
  unfold cLaw
  rw [show (2 : Int) ^ (64 - 64) = 1 by decide]
theorem cLaw_rng (W t : Nat) : 0 ≤ cLaw W t ∧ cLaw W t < 18446744073709551616 := by
  have h := cubes_rng t
  have hp : (0 : Int) < 2 ^ (64 - W) := by rw [pow_nat]; exact_mod_cast Nat.two_pow_pos _
  exact ⟨Int.ediv_nonneg h.1 (by omega), Int.lt_of_le_of_lt (Int.ediv_le_self _ h.1) h.2⟩
def gA45 : List AVal → Tab → Out := fun vs T => match vs, T with
  | [.var 0 g', .slice 1 1 g1' off 64 none, .var 2 0, .int .i64 c, .int .i64 i, .int .i64 j, .slice 1 1 g2' a mm none, .int .i64 m, .int .i64 k], [some ⟨.agg [.int .i64 32, .int .i64 64, .int .i64 7, .int .i64 18, .int .i64 3, .int .i64 17, .int .i64 19, .int .i64 10, .int .i64 2, .int .i64 13, .int .i64 22, .int .i64 6, .int .i64 11, .int .i64 25, .int .u32 x0, .int .u32 x1, .int .u32 x2, .int .u32 x3, .int .u32 x4, .int .u32 x5, .int .u32 x6, .int .u32 x7], g, ow, 64⟩, some ⟨.ints .u8 zs, g1, ow1, e1⟩, some ⟨.ints .u32 ws, 0, true, 77⟩] =>
    ⟨[.eqN g' g, .eqN g1' g1, .eqN g2' g1, .rng 4 c 4, .rng 0 i 15, .rng i j i, .p (a = off + 4 * i.toNat), .eqN mm 4, .rng 4 m 4, .rng 0 k 0, .leN (off + 64) zs.length, .p (BsLaw zs), .p (ws = arrLaw 4 zs off i.toNat 0)], .normal,
      [(0, .var 0 g), (1, .slice 1 1 g1 off 64 none), (4, .var 2 0), (5, .int .i64 4), (23, .int .i64 i)], [some ⟨.agg [.int .i64 32, .int .i64 64, .int .i64 7, .int .i64 18, .int .i64 3, .int .i64 17, .int .i64 19, .int .i64 10, .int .i64 2, .int .i64 13, .int .i64 22, .int .i64 6, .int .i64 11, .int .i64 25, .int .u32 x0, .int .u32 x1, .int .u32 x2, .int .u32 x3, .int .u32 x4, .int .u32 x5, .int .u32 x6, .int .u32 x7], g, ow, 64⟩, some ⟨.ints .u8 zs, g1, ow1, e1⟩, some ⟨.ints .u32 (arrLaw 4 zs off i.toNat 4), 0, true, 77⟩], []⟩
  | _, _ => failO
theorem gA45_ok : BlkOk eV32 f45 2 (.loop (roundOf 2 f45)) (blkS 3 [0,1,4,5,6,23,35,36,37] gA45) := by
  refine blkS_ok fun vs T h => ?_
  unfold gA45 at h ⊢
  split at h
  · rename_i g' g1' off c i j g2' a mm m k x0 x1 x2 x3 x4 x5 x6 x7 g ow zs g1 ow1 e1 ws
    obtain ⟨h1, h2, h3, h4, h5, h6, h7, h8, h9, h10, h11, h12, h13, _⟩ := h.h
    simp only [Con.h] at h1 h2 h3 h4 h5 h6 h7 h8 h9 h10 h11 h12 h13
    obtain rfl : c = 4 := by omega
    obtain rfl : m = 4 := by omega
    obtain rfl : k = 0 := by omega
    obtain ⟨q, rfl⟩ : ∃ q : Nat, i = q := ⟨i.toNat, by omega⟩
    obtain rfl : j = (q : Int) := by omega
    rw [Int.toNat_natCast] at h7 h13
    subst h1 h2 h3 h7 h8 h13
    exact loopA45 (by omega) h11 h12
  · exact absurd h nofailO
def FB45 (g : Nat) (t : Int) : Fm := [(0, .var 0 g), (4, .var 2 0), (9, .int .i64 t)]
theorem loopB45 {x0 x1 x2 x3 x4 x5 x6 x7 : Int} {zs : List Int} {g g1 e1 : Nat} {ow ow1 : Bool} {ws : List Int} (hl : ws.length = 16) (hw : Wds 32 ws) :
    To eV32 204 3 (.block 4 (.loop (roundOf 4 f45))) (FB45 g 16) (TA45 x0 x1 x2 x3 x4 x5 x6 x7 zs g g1 e1 ow ow1 (ws ++ List.replicate 64 0)) .normal [(0, .var 0 g), (4, .var 2 0)] (TA45 x0 x1 x2 x3 x4 x5 x6 x7 zs g g1 e1 ow ow1 (schLaw 32 4294967296 [7, 18, 3] [17, 19, 10] ws 48 ++ List.replicate 16 0)) := by
  refine To.rounds (fun i : Nat => FB45 g (16 + i : Nat)) (fun i => TA45 x0 x1 x2 x3 x4 x5 x6 x7 zs g g1 e1 ow ow1 (schLaw 32 4294967296 [7, 18, 3] [17, 19, 10] ws i ++ List.replicate (64 - i) 0)) 48 (fun i hi => ?_)
    (To.of (o := F45 (64 : Nat) x0 x1 x2 x3 x4 x5 x6 x7 zs (schLaw 32 4294967296 [7, 18, 3] [17, 19, 10] ws 48 ++ List.replicate 16 0) g g1 e1 ow ow1) eV32_ok hmS (Nat.le_refl 3) OrcOk.nil rfl (F45_ok (by simp [allP, Con.h])) F45_ex F45_fm F45_tab)
  have hsl := schLaw_len (W := 32) (m := 4294967296) (l0 := [7, 18, 3]) (l1 := [17, 19, 10]) hl i
  have hsw := schLaw_wds (W := 32) (m := 4294967296) (by decide) (l0 := [7, 18, 3]) (l1 := [17, 19, 10]) hw i
  have hall : (schLaw 32 4294967296 [7, 18, 3] [17, 19, 10] ws i ++ List.replicate (64 - i) 0).length = 80 := by rw [List.length_append, hsl, List.length_replicate]; omega
  have e2 : (((16 + i : Nat) : Int) - 2).toNat = 16 + i - 2 := by omega
  have e7 : (((16 + i : Nat) : Int) - 7).toNat = 16 + i - 7 := by omega
  have e15 : (((16 + i : Nat) : Int) - 15).toNat = 16 + i - 15 := by omega
  have e16 : (((16 + i : Nat) : Int) - 16).toNat = 16 + i - 16 := by omega
  refine To.of (o := E45 (16 + i : Nat) x0 x1 x2 x3 x4 x5 x6 x7 zs (schLaw 32 4294967296 [7, 18, 3] [17, 19, 10] ws i ++ List.replicate (64 - i) 0) g g1 e1 ow ow1) eV32_ok hmS (Nat.le_refl 3) OrcOk.nil rfl (E45_ok ?_) E45_ex (by rw [E45_fm]; rfl) ?_
  · rw [e2, e7, e15, e16]
    have q2 := hsw (16 + i - 2)
    have q15 := hsw (16 + i - 15)
    simp only [allP, Con.h, getD_left (b := List.replicate (64 - i) 0) (show 16 + i - 2 < _ by rw [hsl]; omega), getD_left (b := List.replicate (64 - i) 0) (show 16 + i - 15 < _ by rw [hsl]; omega), hall, low32_a, low32_b, decide_eq_true_eq, eq_self, true_and, and_true, Int.toNat_natCast]
    repeat' with_reducible apply And.intro
    all_goals first | omega | exact q2 | exact q15 | exact q2.1 | exact q2.2 | exact q15.1 | exact q15.2
  · rw [E45_tab, e2, e7, e15, e16, Int.toNat_natCast, getD_left (b := List.replicate (64 - i) 0) (show 16 + i - 2 < _ by rw [hsl]; omega), getD_left (b := List.replicate (64 - i) 0) (show 16 + i - 7 < _ by rw [hsl]; omega), getD_left (b := List.replicate (64 - i) 0) (show 16 + i - 15 < _ by rw [hsl]; omega), getD_left (b := List.replicate (64 - i) 0) (show 16 + i - 16 < _ by rw [hsl]; omega)]
    have hs := set_zeros (l := schLaw 32 4294967296 [7, 18, 3] [17, 19, 10] ws i) (v := nextLaw 32 4294967296 [7, 18, 3] [17, 19, 10] (schLaw 32 4294967296 [7, 18, 3] [17, 19, 10] ws i) (16 + i)) (m := 64 - (i + 1))
    rw [hsl, show 64 - (i + 1) + 1 = 64 - i by omega] at hs
    show _ = TA45 x0 x1 x2 x3 x4 x5 x6 x7 zs g g1 e1 ow ow1 (schLaw 32 4294967296 [7, 18, 3] [17, 19, 10] ws i ++ [nextLaw 32 4294967296 [7, 18, 3] [17, 19, 10] (schLaw 32 4294967296 [7, 18, 3] [17, 19, 10] ws i) (16 + i)] ++ List.replicate (64 - (i + 1)) 0)
    rw [← hs]
    rfl
def gB45 : List AVal → Tab → Out := fun vs T => match vs, T with
  | [.var 0 g', .var 2 0, .int .i64 t], [some ⟨.agg [.int .i64 32, .int .i64 64, .int .i64 7, .int .i64 18, .int .i64 3, .int .i64 17, .int .i64 19, .int .i64 10, .int .i64 2, .int .i64 13, .int .i64 22, .int .i64 6, .int .i64 11, .int .i64 25, .int .u32 x0, .int .u32 x1, .int .u32 x2, .int .u32 x3, .int .u32 x4, .int .u32 x5, .int .u32 x6, .int .u32 x7], g, ow, 64⟩, some ⟨.ints .u8 zs, g1, ow1, e1⟩, some ⟨.ints .u32 ws, 0, true, 77⟩] =>
    ⟨[.eqN g' g, .rng 16 t 16, .p (tailLaw ws), .p (WdsLaw 32 ws)], .normal,
      [(0, .var 0 g), (4, .var 2 0)], [some ⟨.agg [.int .i64 32, .int .i64 64, .int .i64 7, .int .i64 18, .int .i64 3, .int .i64 17, .int .i64 19, .int .i64 10, .int .i64 2, .int .i64 13, .int .i64 22, .int .i64 6, .int .i64 11, .int .i64 25, .int .u32 x0, .int .u32 x1, .int .u32 x2, .int .u32 x3, .int .u32 x4, .int .u32 x5, .int .u32 x6, .int .u32 x7], g, ow, 64⟩, some ⟨.ints .u8 zs, g1, ow1, e1⟩, some ⟨.ints .u32 (wsLaw 32 4294967296 [7, 18, 3] [17, 19, 10] 64 ws), 0, true, 77⟩], []⟩
  | _, _ => failO
theorem gB45_ok : BlkOk eV32 f45 4 (.loop (roundOf 4 f45)) (blkS 3 [0,4,9] gB45) := by
  refine blkS_ok fun vs T h => ?_
  unfold gB45 at h ⊢
  split at h
  · rename_i g' t x0 x1 x2 x3 x4 x5 x6 x7 g ow zs g1 ow1 e1 ws
    obtain ⟨h1, h2, h3, h4, _⟩ := h.h
    simp only [Con.h] at h1 h2 h3 h4
    obtain rfl : t = 16 := by omega
    subst h1
    have hl : (ws.take 16).length = 16 := by rw [List.length_take, h3.1]; rfl
    have hw : Wds 32 (ws.take 16) := fun i => by
      rcases Nat.lt_or_ge i 16 with hi | hi
      · have := h4 i
        rwa [List.getD_eq_getElem?_getD, List.getElem?_take, if_pos hi, ← List.getD_eq_getElem?_getD]
      · rw [List.getD_eq_getElem?_getD, List.getElem?_take, if_neg (by omega)]; exact Wd.zero 32
    have := loopB45 (zs := zs) (g := g') (g1 := g1) (e1 := e1) (ow := ow) (ow1 := ow1) (x0 := x0) (x1 := x1) (x2 := x2) (x3 := x3) (x4 := x4) (x5 := x5) (x6 := x6) (x7 := x7) hl hw
    rw [← h3.2, List.take_append_drop] at this
    exact this
  · exact absurd h nofailO
def FC45 (g : Nat) (t : Int) : Fm := [(0, .var 0 g), (4, .var 2 0), (10, .var 3 0), (104, .int .i64 64), (105, .int .i64 t)]
def TC45 (x0 x1 x2 x3 x4 x5 x6 x7 : Int) (zs : List Int) (g g1 e1 : Nat) (ow ow1 : Bool) (ws ys : List Int) : Tab := TA45 x0 x1 x2 x3 x4 x5 x6 x7 zs g g1 e1 ow ow1 ws ++ [some ⟨.agg [.int .u32 (ys.getD 0 0), .int .u32 (ys.getD 1 0), .int .u32 (ys.getD 2 0), .int .u32 (ys.getD 3 0), .int .u32 (ys.getD 4 0), .int .u32 (ys.getD 5 0), .int .u32 (ys.getD 6 0), .int .u32 (ys.getD 7 0)], 0, true, 62⟩]
theorem loopC45 {x0 x1 x2 x3 x4 x5 x6 x7 : Int} {zs : List Int} {g g1 e1 : Nat} {ow ow1 : Bool} {ws ys : List Int} (hl : ws.length = 80) (hw : Wds 32 ws) (hyl : ys.length = 8) (hy : Wds 32 ys) :
    To eV32 204 4 (.block 6 (.loop (roundOf 6 f45))) (FC45 g 0) (TC45 x0 x1 x2 x3 x4 x5 x6 x7 zs g g1 e1 ow ow1 ws ys) .normal [(0, .var 0 g), (10, .var 3 0)] (TC45 x0 x1 x2 x3 x4 x5 x6 x7 zs g g1 e1 ow ow1 ws (rndsLaw 32 4294967296 [2, 13, 22] [6, 11, 25] ws ys 64)) := by
  refine To.rounds (fun i : Nat => FC45 g i) (fun i => TC45 x0 x1 x2 x3 x4 x5 x6 x7 zs g g1 e1 ow ow1 ws (rndsLaw 32 4294967296 [2, 13, 22] [6, 11, 25] ws ys i)) 64 (fun i hi => ?_) ?_
  · have hrl := rnds_len (W := 32) (m := 4294967296) (u0 := [2, 13, 22]) (u1 := [6, 11, 25]) (ws := ws) hyl i
    have hrw := rnds_wds (W := 32) (m := 4294967296) (by decide) (u0 := [2, 13, 22]) (u1 := [6, 11, 25]) (ws := ws) hy i
    show To _ _ _ _ _ (TC45 x0 x1 x2 x3 x4 x5 x6 x7 zs g g1 e1 ow ow1 ws (rndsLaw 32 4294967296 [2, 13, 22] [6, 11, 25] ws ys i)) _ _ (TC45 x0 x1 x2 x3 x4 x5 x6 x7 zs g g1 e1 ow ow1 ws (rndLaw 32 4294967296 [2, 13, 22] [6, 11, 25] (cLaw 32 i) (ws.getD i 0) (rndsLaw 32 4294967296 [2, 13, 22] [6, 11, 25] ws ys i)))
    generalize rndsLaw 32 4294967296 [2, 13, 22] [6, 11, 25] ws ys i = r at hrl hrw ⊢
    obtain ⟨y0, y1, y2, y3, y4, y5, y6, y7, rfl⟩ := list8 hrl
    have b0 : Wd 32 y0 := hrw 0
    have b1 : Wd 32 y1 := hrw 1
    have b2 : Wd 32 y2 := hrw 2
    have b3 : Wd 32 y3 := hrw 3
    have b4 : Wd 32 y4 := hrw 4
    have b5 : Wd 32 y5 := hrw 5
    have b6 : Wd 32 y6 := hrw 6
    have b7 : Wd 32 y7 := hrw 7
    have hc : Wd 32 (4294967295 - y4) := ⟨by have := b4.2; rw [show (2 : Int) ^ 32 = 4294967296 by decide] at this; omega, by have := b4.1; show _ < (4294967296 : Int); omega⟩
    refine To.of (o := G45 i y0 y1 y2 y3 y4 y5 y6 y7 x0 x1 x2 x3 x4 x5 x6 x7 zs ws g g1 e1 ow ow1) eV32_ok hmS (Nat.le_refl 4) OrcOk.nil rfl (G45_ok ?_) G45_ex (by rw [G45_fm]; rfl) ?_
    · simp only [allP, Con.h, hl, nn_32, high32_a, high32_b, decide_eq_true_eq, eq_self, true_and, and_true, Int.toNat_natCast]
      repeat' with_reducible apply And.intro
      all_goals first | omega | exact b0 | exact b1 | exact b2 | exact b3 | exact b4 | exact b5 | exact b6 | exact b7 | exact hc | skip
      all_goals repeat' (first | exact b0 | exact b1 | exact b2 | exact b4 | exact b5 | exact b6 | exact hc | exact b0.1 | exact b0.2 | exact b4.1 | exact b4.2 | apply Wd.ixor | apply Wd.iand)
    · rw [G45_tab, Int.toNat_natCast, c32]
      rfl
  · have hrl := rnds_len (W := 32) (m := 4294967296) (u0 := [2, 13, 22]) (u1 := [6, 11, 25]) (ws := ws) hyl 64
    show To _ _ _ _ _ (TC45 x0 x1 x2 x3 x4 x5 x6 x7 zs g g1 e1 ow ow1 ws (rndsLaw 32 4294967296 [2, 13, 22] [6, 11, 25] ws ys 64)) _ _ _
    generalize rndsLaw 32 4294967296 [2, 13, 22] [6, 11, 25] ws ys 64 = r at hrl ⊢
    obtain ⟨y0, y1, y2, y3, y4, y5, y6, y7, rfl⟩ := list8 hrl
    exact To.of (o := H45 (64 : Nat) y0 y1 y2 y3 y4 y5 y6 y7 x0 x1 x2 x3 x4 x5 x6 x7 zs ws g g1 e1 ow ow1) eV32_ok hmS (Nat.le_refl 4) OrcOk.nil rfl (H45_ok (by simp [allP, Con.h])) H45_ex H45_fm H45_tab
def gC45 : List AVal → Tab → Out := fun vs T => match vs, T with
  | [.var 0 g', .var 2 0, .var 3 0, .int .i64 r, .int .i64 t], [some ⟨.agg [.int .i64 32, .int .i64 64, .int .i64 7, .int .i64 18, .int .i64 3, .int .i64 17, .int .i64 19, .int .i64 10, .int .i64 2, .int .i64 13, .int .i64 22, .int .i64 6, .int .i64 11, .int .i64 25, .int .u32 x0, .int .u32 x1, .int .u32 x2, .int .u32 x3, .int .u32 x4, .int .u32 x5, .int .u32 x6, .int .u32 x7], g, ow, 64⟩, some ⟨.ints .u8 zs, g1, ow1, e1⟩, some ⟨.ints .u32 ws, 0, true, 77⟩, some ⟨.agg [.int .u32 y0, .int .u32 y1, .int .u32 y2, .int .u32 y3, .int .u32 y4, .int .u32 y5, .int .u32 y6, .int .u32 y7], 0, true, 62⟩] =>
    ⟨[.eqN g' g, .rng 64 r 64, .rng 0 t 0, .eqN ws.length 80, .p (WdsLaw 32 ws), .p (WdsLaw 32 [y0, y1, y2, y3, y4, y5, y6, y7])], .normal,
      [(0, .var 0 g), (10, .var 3 0)], [some ⟨.agg [.int .i64 32, .int .i64 64, .int .i64 7, .int .i64 18, .int .i64 3, .int .i64 17, .int .i64 19, .int .i64 10, .int .i64 2, .int .i64 13, .int .i64 22, .int .i64 6, .int .i64 11, .int .i64 25, .int .u32 x0, .int .u32 x1, .int .u32 x2, .int .u32 x3, .int .u32 x4, .int .u32 x5, .int .u32 x6, .int .u32 x7], g, ow, 64⟩, some ⟨.ints .u8 zs, g1, ow1, e1⟩, some ⟨.ints .u32 ws, 0, true, 77⟩, some ⟨.agg [.int .u32 (rndAtLaw 32 4294967296 [2, 13, 22] [6, 11, 25] ws [y0, y1, y2, y3, y4, y5, y6, y7] 64 0), .int .u32 (rndAtLaw 32 4294967296 [2, 13, 22] [6, 11, 25] ws [y0, y1, y2, y3, y4, y5, y6, y7] 64 1), .int .u32 (rndAtLaw 32 4294967296 [2, 13, 22] [6, 11, 25] ws [y0, y1, y2, y3, y4, y5, y6, y7] 64 2), .int .u32 (rndAtLaw 32 4294967296 [2, 13, 22] [6, 11, 25] ws [y0, y1, y2, y3, y4, y5, y6, y7] 64 3), .int .u32 (rndAtLaw 32 4294967296 [2, 13, 22] [6, 11, 25] ws [y0, y1, y2, y3, y4, y5, y6, y7] 64 4), .int .u32 (rndAtLaw 32 4294967296 [2, 13, 22] [6, 11, 25] ws [y0, y1, y2, y3, y4, y5, y6, y7] 64 5), .int .u32 (rndAtLaw 32 4294967296 [2, 13, 22] [6, 11, 25] ws [y0, y1, y2, y3, y4, y5, y6, y7] 64 6), .int .u32 (rndAtLaw 32 4294967296 [2, 13, 22] [6, 11, 25] ws [y0, y1, y2, y3, y4, y5, y6, y7] 64 7)], 0, true, 62⟩], []⟩
  | _, _ => failO
theorem gC45_ok : BlkOk eV32 f45 6 (.loop (roundOf 6 f45)) (blkS 4 [0,4,10,104,105] gC45) := by
  refine blkS_ok fun vs T h => ?_
  unfold gC45 at h ⊢
  split at h
  · rename_i g' r t x0 x1 x2 x3 x4 x5 x6 x7 g ow zs g1 ow1 e1 ws y0 y1 y2 y3 y4 y5 y6 y7
    obtain ⟨h1, h2, h3, h4, h5, h7, _⟩ := h.h
    simp only [Con.h] at h1 h2 h3 h4 h5 h7
    obtain rfl : t = 0 := by omega
    obtain rfl : r = 64 := by omega
    subst h1
    exact loopC45 h4 h5 rfl h7
  · exact absurd h nofailO
def gA51 : List AVal → Tab → Out := fun vs T => match vs, T with
  | [.var 0 g', .slice 1 1 g1' off 128 none, .var 2 0, .int .i64 c, .int .i64 i, .int .i64 j, .slice 1 1 g2' a mm none, .int .i64 m, .int .i64 k], [some ⟨.agg [.int .i64 64, .int .i64 80, .int .i64 1, .int .i64 8, .int .i64 7, .int .i64 19, .int .i64 61, .int .i64 6, .int .i64 28, .int .i64 34, .int .i64 39, .int .i64 14, .int .i64 18, .int .i64 41, .int .u64 x0, .int .u64 x1, .int .u64 x2, .int .u64 x3, .int .u64 x4, .int .u64 x5, .int .u64 x6, .int .u64 x7], g, ow, 73⟩, some ⟨.ints .u8 zs, g1, ow1, e1⟩, some ⟨.ints .u64 ws, 0, true, 79⟩] =>
    ⟨[.eqN g' g, .eqN g1' g1, .eqN g2' g1, .rng 8 c 8, .rng 0 i 15, .rng i j i, .p (a = off + 8 * i.toNat), .eqN mm 8, .rng 8 m 8, .rng 0 k 0, .leN (off + 128) zs.length, .p (BsLaw zs), .p (ws = arrLaw 8 zs off i.toNat 0)], .normal,
      [(0, .var 0 g), (1, .slice 1 1 g1 off 128 none), (4, .var 2 0), (5, .int .i64 8), (23, .int .i64 i)], [some ⟨.agg [.int .i64 64, .int .i64 80, .int .i64 1, .int .i64 8, .int .i64 7, .int .i64 19, .int .i64 61, .int .i64 6, .int .i64 28, .int .i64 34, .int .i64 39, .int .i64 14, .int .i64 18, .int .i64 41, .int .u64 x0, .int .u64 x1, .int .u64 x2, .int .u64 x3, .int .u64 x4, .int .u64 x5, .int .u64 x6, .int .u64 x7], g, ow, 73⟩, some ⟨.ints .u8 zs, g1, ow1, e1⟩, some ⟨.ints .u64 (arrLaw 8 zs off i.toNat 8), 0, true, 79⟩], []⟩
  | _, _ => failO
theorem gA51_ok : BlkOk eV64 f51 2 (.loop (roundOf 2 f51)) (blkS 3 [0,1,4,5,6,23,35,36,37] gA51) := by
  refine blkS_ok fun vs T h => ?_
  unfold gA51 at h ⊢
  split at h
  · rename_i g' g1' off c i j g2' a mm m k x0 x1 x2 x3 x4 x5 x6 x7 g ow zs g1 ow1 e1 ws
    obtain ⟨h1, h2, h3, h4, h5, h6, h7, h8, h9, h10, h11, h12, h13, _⟩ := h.h
    simp only [Con.h] at h1 h2 h3 h4 h5 h6 h7 h8 h9 h10 h11 h12 h13
    obtain rfl : c = 8 := by omega
    obtain rfl : m = 8 := by omega
    obtain rfl : k = 0 := by omega
    obtain ⟨q, rfl⟩ : ∃ q : Nat, i = q := ⟨i.toNat, by omega⟩
    obtain rfl : j = (q : Int) := by omega
    rw [Int.toNat_natCast] at h7 h13
    subst h1 h2 h3 h7 h8 h13
    exact loopA51 (by omega) h11 h12
  · exact absurd h nofailO
def FB51 (g : Nat) (t : Int) : Fm := [(0, .var 0 g), (4, .var 2 0), (9, .int .i64 t)]
theorem loopB51 {x0 x1 x2 x3 x4 x5 x6 x7 : Int} {zs : List Int} {g g1 e1 : Nat} {ow ow1 : Bool} {ws : List Int} (hl : ws.length = 16) (hw : Wds 64 ws) :
    To eV64 203 3 (.block 4 (.loop (roundOf 4 f51))) (FB51 g 16) (TA51 x0 x1 x2 x3 x4 x5 x6 x7 zs g g1 e1 ow ow1 (ws ++ List.replicate 64 0)) .normal [(0, .var 0 g), (4, .var 2 0)] (TA51 x0 x1 x2 x3 x4 x5 x6 x7 zs g g1 e1 ow ow1 (schLaw 64 18446744073709551616 [1, 8, 7] [19, 61, 6] ws 64 ++ List.replicate 0 0)) := by
  refine To.rounds (fun i : Nat => FB51 g (16 + i : Nat)) (fun i => TA51 x0 x1 x2 x3 x4 x5 x6 x7 zs g g1 e1 ow ow1 (schLaw 64 18446744073709551616 [1, 8, 7] [19, 61, 6] ws i ++ List.replicate (64 - i) 0)) 64 (fun i hi => ?_)
    (To.of (o := F51 (80 : Nat) x0 x1 x2 x3 x4 x5 x6 x7 zs (schLaw 64 18446744073709551616 [1, 8, 7] [19, 61, 6] ws 64 ++ List.replicate 0 0) g g1 e1 ow ow1) eV64_ok hmS (Nat.le_refl 3) OrcOk.nil rfl (F51_ok (by simp [allP, Con.h])) F51_ex F51_fm F51_tab)
  have hsl := schLaw_len (W := 64) (m := 18446744073709551616) (l0 := [1, 8, 7]) (l1 := [19, 61, 6]) hl i
  have hsw := schLaw_wds (W := 64) (m := 18446744073709551616) (by decide) (l0 := [1, 8, 7]) (l1 := [19, 61, 6]) hw i
  have hall : (schLaw 64 18446744073709551616 [1, 8, 7] [19, 61, 6] ws i ++ List.replicate (64 - i) 0).length = 80 := by rw [List.length_append, hsl, List.length_replicate]; omega
  have e2 : (((16 + i : Nat) : Int) - 2).toNat = 16 + i - 2 := by omega
  have e7 : (((16 + i : Nat) : Int) - 7).toNat = 16 + i - 7 := by omega
  have e15 : (((16 + i : Nat) : Int) - 15).toNat = 16 + i - 15 := by omega
  have e16 : (((16 + i : Nat) : Int) - 16).toNat = 16 + i - 16 := by omega
  refine To.of (o := E51 (16 + i : Nat) x0 x1 x2 x3 x4 x5 x6 x7 zs (schLaw 64 18446744073709551616 [1, 8, 7] [19, 61, 6] ws i ++ List.replicate (64 - i) 0) g g1 e1 ow ow1) eV64_ok hmS (Nat.le_refl 3) OrcOk.nil rfl (E51_ok ?_) E51_ex (by rw [E51_fm]; rfl) ?_
  · rw [e2, e7, e15, e16]
    have q2 := hsw (16 + i - 2)
    have q15 := hsw (16 + i - 15)
    simp only [allP, Con.h, getD_left (b := List.replicate (64 - i) 0) (show 16 + i - 2 < _ by rw [hsl]; omega), getD_left (b := List.replicate (64 - i) 0) (show 16 + i - 15 < _ by rw [hsl]; omega), hall, low64_a, low64_b, decide_eq_true_eq, eq_self, true_and, and_true, Int.toNat_natCast]
    repeat' with_reducible apply And.intro
    all_goals first | omega | exact q2 | exact q15 | exact q2.1 | exact q2.2 | exact q15.1 | exact q15.2
  · rw [E51_tab, e2, e7, e15, e16, Int.toNat_natCast, getD_left (b := List.replicate (64 - i) 0) (show 16 + i - 2 < _ by rw [hsl]; omega), getD_left (b := List.replicate (64 - i) 0) (show 16 + i - 7 < _ by rw [hsl]; omega), getD_left (b := List.replicate (64 - i) 0) (show 16 + i - 15 < _ by rw [hsl]; omega), getD_left (b := List.replicate (64 - i) 0) (show 16 + i - 16 < _ by rw [hsl]; omega)]
    have hs := set_zeros (l := schLaw 64 18446744073709551616 [1, 8, 7] [19, 61, 6] ws i) (v := nextLaw 64 18446744073709551616 [1, 8, 7] [19, 61, 6] (schLaw 64 18446744073709551616 [1, 8, 7] [19, 61, 6] ws i) (16 + i)) (m := 64 - (i + 1))
    rw [hsl, show 64 - (i + 1) + 1 = 64 - i by omega] at hs
    show _ = TA51 x0 x1 x2 x3 x4 x5 x6 x7 zs g g1 e1 ow ow1 (schLaw 64 18446744073709551616 [1, 8, 7] [19, 61, 6] ws i ++ [nextLaw 64 18446744073709551616 [1, 8, 7] [19, 61, 6] (schLaw 64 18446744073709551616 [1, 8, 7] [19, 61, 6] ws i) (16 + i)] ++ List.replicate (64 - (i + 1)) 0)
    rw [← hs]
    rfl
def gB51 : List AVal → Tab → Out := fun vs T => match vs, T with
  | [.var 0 g', .var 2 0, .int .i64 t], [some ⟨.agg [.int .i64 64, .int .i64 80, .int .i64 1, .int .i64 8, .int .i64 7, .int .i64 19, .int .i64 61, .int .i64 6, .int .i64 28, .int .i64 34, .int .i64 39, .int .i64 14, .int .i64 18, .int .i64 41, .int .u64 x0, .int .u64 x1, .int .u64 x2, .int .u64 x3, .int .u64 x4, .int .u64 x5, .int .u64 x6, .int .u64 x7], g, ow, 73⟩, some ⟨.ints .u8 zs, g1, ow1, e1⟩, some ⟨.ints .u64 ws, 0, true, 79⟩] =>
    ⟨[.eqN g' g, .rng 16 t 16, .p (tailLaw ws), .p (WdsLaw 64 ws)], .normal,
      [(0, .var 0 g), (4, .var 2 0)], [some ⟨.agg [.int .i64 64, .int .i64 80, .int .i64 1, .int .i64 8, .int .i64 7, .int .i64 19, .int .i64 61, .int .i64 6, .int .i64 28, .int .i64 34, .int .i64 39, .int .i64 14, .int .i64 18, .int .i64 41, .int .u64 x0, .int .u64 x1, .int .u64 x2, .int .u64 x3, .int .u64 x4, .int .u64 x5, .int .u64 x6, .int .u64 x7], g, ow, 73⟩, some ⟨.ints .u8 zs, g1, ow1, e1⟩, some ⟨.ints .u64 (wsLaw 64 18446744073709551616 [1, 8, 7] [19, 61, 6] 80 ws), 0, true, 79⟩], []⟩
  | _, _ => failO
theorem gB51_ok : BlkOk eV64 f51 4 (.loop (roundOf 4 f51)) (blkS 3 [0,4,9] gB51) := by
  refine blkS_ok fun vs T h => ?_
  unfold gB51 at h ⊢
  split at h
  · rename_i g' t x0 x1 x2 x3 x4 x5 x6 x7 g ow zs g1 ow1 e1 ws
    obtain ⟨h1, h2, h3, h4, _⟩ := h.h
    simp only [Con.h] at h1 h2 h3 h4
    obtain rfl : t = 16 := by omega
    subst h1
    have hl : (ws.take 16).length = 16 := by rw [List.length_take, h3.1]; rfl
    have hw : Wds 64 (ws.take 16) := fun i => by
      rcases Nat.lt_or_ge i 16 with hi | hi
      · have := h4 i
        rwa [List.getD_eq_getElem?_getD, List.getElem?_take, if_pos hi, ← List.getD_eq_getElem?_getD]
      · rw [List.getD_eq_getElem?_getD, List.getElem?_take, if_neg (by omega)]; exact Wd.zero 64
    have := loopB51 (zs := zs) (g := g') (g1 := g1) (e1 := e1) (ow := ow) (ow1 := ow1) (x0 := x0) (x1 := x1) (x2 := x2) (x3 := x3) (x4 := x4) (x5 := x5) (x6 := x6) (x7 := x7) hl hw
    rw [← h3.2, List.take_append_drop] at this
    exact this
  · exact absurd h nofailO
def FC51 (g : Nat) (t : Int) : Fm := [(0, .var 0 g), (4, .var 2 0), (10, .var 3 0), (104, .int .i64 80), (105, .int .i64 t)]
def TC51 (x0 x1 x2 x3 x4 x5 x6 x7 : Int) (zs : List Int) (g g1 e1 : Nat) (ow ow1 : Bool) (ws ys : List Int) : Tab := TA51 x0 x1 x2 x3 x4 x5 x6 x7 zs g g1 e1 ow ow1 ws ++ [some ⟨.agg [.int .u64 (ys.getD 0 0), .int .u64 (ys.getD 1 0), .int .u64 (ys.getD 2 0), .int .u64 (ys.getD 3 0), .int .u64 (ys.getD 4 0), .int .u64 (ys.getD 5 0), .int .u64 (ys.getD 6 0), .int .u64 (ys.getD 7 0)], 0, true, 71⟩]
theorem loopC51 {x0 x1 x2 x3 x4 x5 x6 x7 : Int} {zs : List Int} {g g1 e1 : Nat} {ow ow1 : Bool} {ws ys : List Int} (hl : ws.length = 80) (hw : Wds 64 ws) (hyl : ys.length = 8) (hy : Wds 64 ys) :
    To eV64 203 4 (.block 6 (.loop (roundOf 6 f51))) (FC51 g 0) (TC51 x0 x1 x2 x3 x4 x5 x6 x7 zs g g1 e1 ow ow1 ws ys) .normal [(0, .var 0 g), (10, .var 3 0)] (TC51 x0 x1 x2 x3 x4 x5 x6 x7 zs g g1 e1 ow ow1 ws (rndsLaw 64 18446744073709551616 [28, 34, 39] [14, 18, 41] ws ys 80)) := by
  refine To.rounds (fun i : Nat => FC51 g i) (fun i => TC51 x0 x1 x2 x3 x4 x5 x6 x7 zs g g1 e1 ow ow1 ws (rndsLaw 64 18446744073709551616 [28, 34, 39] [14, 18, 41] ws ys i)) 80 (fun i hi => ?_) ?_
  · have hrl := rnds_len (W := 64) (m := 18446744073709551616) (u0 := [28, 34, 39]) (u1 := [14, 18, 41]) (ws := ws) hyl i
    have hrw := rnds_wds (W := 64) (m := 18446744073709551616) (by decide) (u0 := [28, 34, 39]) (u1 := [14, 18, 41]) (ws := ws) hy i
    show To _ _ _ _ _ (TC51 x0 x1 x2 x3 x4 x5 x6 x7 zs g g1 e1 ow ow1 ws (rndsLaw 64 18446744073709551616 [28, 34, 39] [14, 18, 41] ws ys i)) _ _ (TC51 x0 x1 x2 x3 x4 x5 x6 x7 zs g g1 e1 ow ow1 ws (rndLaw 64 18446744073709551616 [28, 34, 39] [14, 18, 41] (cLaw 64 i) (ws.getD i 0) (rndsLaw 64 18446744073709551616 [28, 34, 39] [14, 18, 41] ws ys i)))
    generalize rndsLaw 64 18446744073709551616 [28, 34, 39] [14, 18, 41] ws ys i = r at hrl hrw ⊢
    obtain ⟨y0, y1, y2, y3, y4, y5, y6, y7, rfl⟩ := list8 hrl
    have b0 : Wd 64 y0 := hrw 0
    have b1 : Wd 64 y1 := hrw 1
    have b2 : Wd 64 y2 := hrw 2
    have b3 : Wd 64 y3 := hrw 3
    have b4 : Wd 64 y4 := hrw 4
    have b5 : Wd 64 y5 := hrw 5
    have b6 : Wd 64 y6 := hrw 6
    have b7 : Wd 64 y7 := hrw 7
    have hc : Wd 64 (18446744073709551615 - y4) := ⟨by have := b4.2; rw [show (2 : Int) ^ 64 = 18446744073709551616 by decide] at this; omega, by have := b4.1; show _ < (18446744073709551616 : Int); omega⟩
    refine To.of (o := G51 i y0 y1 y2 y3 y4 y5 y6 y7 x0 x1 x2 x3 x4 x5 x6 x7 zs ws g g1 e1 ow ow1) eV64_ok hmS (Nat.le_refl 4) OrcOk.nil rfl (G51_ok ?_) G51_ex (by rw [G51_fm]; rfl) ?_
    · simp only [allP, Con.h, hl, nn_64, high64_a, high64_b, decide_eq_true_eq, eq_self, true_and, and_true, Int.toNat_natCast]
      repeat' with_reducible apply And.intro
      all_goals first | omega | exact b0 | exact b1 | exact b2 | exact b3 | exact b4 | exact b5 | exact b6 | exact b7 | exact hc | skip
      all_goals repeat' (first | exact b0 | exact b1 | exact b2 | exact b4 | exact b5 | exact b6 | exact hc | exact b0.1 | exact b0.2 | exact b4.1 | exact b4.2 | apply Wd.ixor | apply Wd.iand)
    · rw [G51_tab, Int.toNat_natCast, c64]
      rfl
  · have hrl := rnds_len (W := 64) (m := 18446744073709551616) (u0 := [28, 34, 39]) (u1 := [14, 18, 41]) (ws := ws) hyl 80
    show To _ _ _ _ _ (TC51 x0 x1 x2 x3 x4 x5 x6 x7 zs g g1 e1 ow ow1 ws (rndsLaw 64 18446744073709551616 [28, 34, 39] [14, 18, 41] ws ys 80)) _ _ _
    generalize rndsLaw 64 18446744073709551616 [28, 34, 39] [14, 18, 41] ws ys 80 = r at hrl ⊢
    obtain ⟨y0, y1, y2, y3, y4, y5, y6, y7, rfl⟩ := list8 hrl
    exact To.of (o := H51 (80 : Nat) y0 y1 y2 y3 y4 y5 y6 y7 x0 x1 x2 x3 x4 x5 x6 x7 zs ws g g1 e1 ow ow1) eV64_ok hmS (Nat.le_refl 4) OrcOk.nil rfl (H51_ok (by simp [allP, Con.h])) H51_ex H51_fm H51_tab
def gC51 : List AVal → Tab → Out := fun vs T => match vs, T with
  | [.var 0 g', .var 2 0, .var 3 0, .int .i64 r, .int .i64 t], [some ⟨.agg [.int .i64 64, .int .i64 80, .int .i64 1, .int .i64 8, .int .i64 7, .int .i64 19, .int .i64 61, .int .i64 6, .int .i64 28, .int .i64 34, .int .i64 39, .int .i64 14, .int .i64 18, .int .i64 41, .int .u64 x0, .int .u64 x1, .int .u64 x2, .int .u64 x3, .int .u64 x4, .int .u64 x5, .int .u64 x6, .int .u64 x7], g, ow, 73⟩, some ⟨.ints .u8 zs, g1, ow1, e1⟩, some ⟨.ints .u64 ws, 0, true, 79⟩, some ⟨.agg [.int .u64 y0, .int .u64 y1, .int .u64 y2, .int .u64 y3, .int .u64 y4, .int .u64 y5, .int .u64 y6, .int .u64 y7], 0, true, 71⟩] =>
    ⟨[.eqN g' g, .rng 80 r 80, .rng 0 t 0, .eqN ws.length 80, .p (WdsLaw 64 ws), .p (WdsLaw 64 [y0, y1, y2, y3, y4, y5, y6, y7])], .normal,
      [(0, .var 0 g), (10, .var 3 0)], [some ⟨.agg [.int .i64 64, .int .i64 80, .int .i64 1, .int .i64 8, .int .i64 7, .int .i64 19, .int .i64 61, .int .i64 6, .int .i64 28, .int .i64 34, .int .i64 39, .int .i64 14, .int .i64 18, .int .i64 41, .int .u64 x0, .int .u64 x1, .int .u64 x2, .int .u64 x3, .int .u64 x4, .int .u64 x5, .int .u64 x6, .int .u64 x7], g, ow, 73⟩, some ⟨.ints .u8 zs, g1, ow1, e1⟩, some ⟨.ints .u64 ws, 0, true, 79⟩, some ⟨.agg [.int .u64 (rndAtLaw 64 18446744073709551616 [28, 34, 39] [14, 18, 41] ws [y0, y1, y2, y3, y4, y5, y6, y7] 80 0), .int .u64 (rndAtLaw 64 18446744073709551616 [28, 34, 39] [14, 18, 41] ws [y0, y1, y2, y3, y4, y5, y6, y7] 80 1), .int .u64 (rndAtLaw 64 18446744073709551616 [28, 34, 39] [14, 18, 41] ws [y0, y1, y2, y3, y4, y5, y6, y7] 80 2), .int .u64 (rndAtLaw 64 18446744073709551616 [28, 34, 39] [14, 18, 41] ws [y0, y1, y2, y3, y4, y5, y6, y7] 80 3), .int .u64 (rndAtLaw 64 18446744073709551616 [28, 34, 39] [14, 18, 41] ws [y0, y1, y2, y3, y4, y5, y6, y7] 80 4), .int .u64 (rndAtLaw 64 18446744073709551616 [28, 34, 39] [14, 18, 41] ws [y0, y1, y2, y3, y4, y5, y6, y7] 80 5), .int .u64 (rndAtLaw 64 18446744073709551616 [28, 34, 39] [14, 18, 41] ws [y0, y1, y2, y3, y4, y5, y6, y7] 80 6), .int .u64 (rndAtLaw 64 18446744073709551616 [28, 34, 39] [14, 18, 41] ws [y0, y1, y2, y3, y4, y5, y6, y7] 80 7)], 0, true, 71⟩], []⟩
  | _, _ => failO
theorem gC51_ok : BlkOk eV64 f51 6 (.loop (roundOf 6 f51)) (blkS 4 [0,4,10,104,105] gC51) := by
  refine blkS_ok fun vs T h => ?_
  unfold gC51 at h ⊢
  split at h
  · rename_i g' r t x0 x1 x2 x3 x4 x5 x6 x7 g ow zs g1 ow1 e1 ws y0 y1 y2 y3 y4 y5 y6 y7
    obtain ⟨h1, h2, h3, h4, h5, h7, _⟩ := h.h
    simp only [Con.h] at h1 h2 h3 h4 h5 h7
    obtain rfl : t = 0 := by omega
    obtain rfl : r = 80 := by omega
    subst h1
    exact loopC51 h4 h5 rfl h7
  · exact absurd h nofailO
end Go.Abs
